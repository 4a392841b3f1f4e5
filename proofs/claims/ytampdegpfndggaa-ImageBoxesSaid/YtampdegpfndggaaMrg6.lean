/-
  Merged: XCoord, XAffine.
-/
import Derived.WalkKit
import Derived.WalkLawsBesides
import Derived.Handy
import Derived.Test.YtampdegpfndggaaProg
import Derived.Test.YtampdegpfndggaaMrg3
import Derived.Test.YtampdegpfndggaaMrg4
import Derived.Test.YtampdegpfndggaaMrg5
namespace Go.Proofs.Ytampdegpfndggaa
open Go.RowKit

/-- A permitted point. -/
def ptB (x y : Int) : Bool := inB x (-32767) 32767 && inB y (-32767) 32767
set_option maxHeartbeats 1000000 in
theorem Coord_any (x y : Int) (w : World) :
    Calls Try.prog 49 #[.agg #[.int .i64 x, .int .i64 y]] w fun e w' => e = .returned (.bool (ptB x y)) ∧ (w.alloc (.cells #[.int .i64 x, .int .i64 y] 48)) = w' := by
  go_enter Try.func49, Try.ntmps49
  go_wp2_with (first | (go_at_call 16; refine (In_any _ _ _ _).mono ?_; rintro e w' ⟨rfl, rfl⟩))
  all_goals go_ret
  all_goals refine ⟨ret_bool ?_, rfl⟩
  all_goals (go_tidy; unfold ptB; simp [*])
end Go.Proofs.Ytampdegpfndggaa

namespace Go.Proofs.Ytampdegpfndggaa
open Go.RowKit

theorem within_any (x m : Int) (w : World) (hm : 0 ≤ m ∧ m ≤ 4611686018427387904) :
    Calls Try.prog 152 #[.int .i64 x, .int .i64 m] w fun e w' => e = .returned (.bool (inB x (-m) m)) ∧ w = w' := by
  by_cases h1 : -m ≤ x <;> by_cases h2 : x ≤ m
  all_goals
    go_enter Try.func152, Try.ntmps152
    go_wp2
    go_ret
    exact ⟨ret_bool (by simp [inB, h1, h2]), rfl⟩

/-- Whether a map's entries are within the bounds. -/
def matB (a b c d e f : Int) : Bool := inB a (-1048576) 1048576 && (inB b (-1048576) 1048576 && (inB c (-1048576) 1048576 && (inB d (-1048576) 1048576 && (inB e (-268435456) 268435456 && inB f (-268435456) 268435456))))
def matE (a b c d e f : Int) : Int := if matB a b c d e f then 0 else 3
abbrev matV (a b c d e f : Int) : Value := .agg #[.int .i64 a, .int .i64 b, .int .i64 c, .int .i64 d, .int .i64 e, .int .i64 f]

set_option maxHeartbeats 1000000 in
theorem Check_any (a b c d e f : Int) (w : World) :
    Calls Try.prog 131 #[.agg #[.int .i64 a, .int .i64 b, .int .i64 c, .int .i64 d, .int .i64 e, .int .i64 f]] w fun x w' => x = .returned (.int .i64 (matE a b c d e f)) ∧ (w.alloc (.cells #[.int .i64 a, .int .i64 b, .int .i64 c, .int .i64 d, .int .i64 e, .int .i64 f] 52)) = w' := by
  have i0 : ∀ w, (Instr.index 168 (.agg #[.int .i64 a, .int .i64 b, .int .i64 c, .int .i64 d]) (.int .i64 0)).run Try.prog w = .ok (.int .i64 a) w := fun _ => by kernel_rfl
  have i1 : ∀ w, (Instr.index 168 (.agg #[.int .i64 a, .int .i64 b, .int .i64 c, .int .i64 d]) (.int .i64 1)).run Try.prog w = .ok (.int .i64 b) w := fun _ => by kernel_rfl
  have i2 : ∀ w, (Instr.index 168 (.agg #[.int .i64 a, .int .i64 b, .int .i64 c, .int .i64 d]) (.int .i64 2)).run Try.prog w = .ok (.int .i64 c) w := fun _ => by kernel_rfl
  have i3 : ∀ w, (Instr.index 168 (.agg #[.int .i64 a, .int .i64 b, .int .i64 c, .int .i64 d]) (.int .i64 3)).run Try.prog w = .ok (.int .i64 d) w := fun _ => by kernel_rfl
  go_enter Try.func131, Try.ntmps131
  go_wp2_with fail
  refine wp_loop_rounds 5 ?_
  repeat any_goals (rw [rounds_succ]; go_wp2_with (first | (go_at_call 152; refine (within_any _ _ _ ?_).mono ?_; omega; rintro e w' ⟨rfl, rfl⟩)))
  all_goals go_ret
  all_goals refine ⟨ret_int ?_, rfl⟩
  all_goals (clear i0 i1 i2 i3; go_tidy; simp only [Bool.not_eq_true', Bool.not_eq_false', Bool.not_eq_true] at *)
  all_goals (unfold matE matB; simp [*])
set_option maxHeartbeats 1000000 in
theorem MapCheck_any (a b c d e f : Int) (w : World) :
    Calls Try.prog 106 #[.agg #[.int .i64 a, .int .i64 b, .int .i64 c, .int .i64 d, .int .i64 e, .int .i64 f]] w fun x w' => x = .returned (.int .i64 (matE a b c d e f)) ∧ (w.alloc (.cells #[.int .i64 a, .int .i64 b, .int .i64 c, .int .i64 d, .int .i64 e, .int .i64 f] 52)) = w' := by
  go_enter Try.func106, Try.ntmps106
  go_wp2_with (first | (go_at_call 16; refine (In_any _ _ _ _).mono ?_; rintro e w' ⟨rfl, rfl⟩))
  all_goals go_ret
  all_goals refine ⟨ret_int ?_, rfl⟩
  all_goals (go_tidy; try simp only [Bool.not_eq_true] at *)
  all_goals (unfold matE matB; simp [*])
theorem matE_bd {a b c d e f : Int} (h : matE a b c d e f = 0) : (-1048576 ≤ a ∧ a ≤ 1048576) ∧ (-1048576 ≤ b ∧ b ≤ 1048576) ∧ (-1048576 ≤ c ∧ c ≤ 1048576) ∧ (-1048576 ≤ d ∧ d ≤ 1048576) ∧ (-268435456 ≤ e ∧ e ≤ 268435456) ∧ (-268435456 ≤ f ∧ f ≤ 268435456) := by
  unfold matE at h
  split at h
  · rename_i h'
    unfold matB at h'
    simp only [Bool.and_eq_true] at h'
    obtain ⟨h1, h2, h3, h4, h5, h6⟩ := h'
    exact ⟨inB_iff.1 h1, inB_iff.1 h2, inB_iff.1 h3, inB_iff.1 h4, inB_iff.1 h5, inB_iff.1 h6⟩
  · simp at h
theorem matE_or (a b c d e f : Int) : matE a b c d e f = 0 ∨ matE a b c d e f = 3 := by unfold matE; split <;> simp
theorem mul_bd20 {a x : Int} (ha : -1048576 ≤ a ∧ a ≤ 1048576) (hx : -1048576 ≤ x ∧ x ≤ 1048576) : -1099511627776 ≤ a * x ∧ a * x ≤ 1099511627776 := by
  have h1 : a.natAbs * x.natAbs ≤ 1048576 * 1048576 := Nat.mul_le_mul (by omega) (by omega)
  have h2 : (a * x).natAbs ≤ 1099511627776 := by rw [Int.natAbs_mul]; omega
  omega
theorem mul_bd28 {a x : Int} (ha : -1048576 ≤ a ∧ a ≤ 1048576) (hx : -268435456 ≤ x ∧ x ≤ 268435456) : -281474976710656 ≤ a * x ∧ a * x ≤ 281474976710656 := by
  have h1 : a.natAbs * x.natAbs ≤ 1048576 * 268435456 := Nat.mul_le_mul (by omega) (by omega)
  have h2 : (a * x).natAbs ≤ 281474976710656 := by rw [Int.natAbs_mul]; omega
  omega
theorem near_bd2 (a : Int) (h : -4611686018427387904 ≤ a ∧ a ≤ 4611686018427387903) : -4611686018427387904 ≤ near a 4096 ∧ near a 4096 ≤ 4611686018427387904 := by
  have := near_abs a 4096 (by omega)
  rcases Int.le_total 0 a with h0 | h0
  · have := this.1 h0; omega
  · have := this.2 h0; omega
end Go.Proofs.Ytampdegpfndggaa
