/-
  Contracts of package affine and of its reference.
-/
import Derived.Test.YtadgoodfhlmlmaaAmounts
import Derived.Test.YtadgoodfhlmlmaaPast
import Derived.Test.YtadgoodfhlmlmaaCoord
namespace Go.Proofs.Ytadgoodfhlmlmaa
open Go.RowKit

theorem within_any (x m : Int) (w : World) (hm : 0 ≤ m ∧ m ≤ 4611686018427387904) :
    Calls Try.prog 59 #[.int .i64 x, .int .i64 m] w fun e w' => e = .returned (.bool (inB x (-m) m)) ∧ w = w' := by
  by_cases h1 : -m ≤ x <;> by_cases h2 : x ≤ m
  all_goals
    go_enter Try.func59, Try.ntmps59
    go_wp2
    go_ret
    exact ⟨ret_bool (by simp [inB, h1, h2]), rfl⟩

/-- Whether a map's entries are within the bounds. -/
def matB (a b c d e f : Int) : Bool := inB a (-1048576) 1048576 && (inB b (-1048576) 1048576 && (inB c (-1048576) 1048576 && (inB d (-1048576) 1048576 && (inB e (-268435456) 268435456 && inB f (-268435456) 268435456))))
def matE (a b c d e f : Int) : Int := if matB a b c d e f then 0 else 3
abbrev matV (a b c d e f : Int) : Value := .agg #[.int .i64 a, .int .i64 b, .int .i64 c, .int .i64 d, .int .i64 e, .int .i64 f]

set_option maxHeartbeats 1000000 in
theorem Check_any (a b c d e f : Int) (w : World) :
    Calls Try.prog 36 #[.agg #[.int .i64 a, .int .i64 b, .int .i64 c, .int .i64 d, .int .i64 e, .int .i64 f]] w fun x w' => x = .returned (.int .i64 (matE a b c d e f)) ∧ (w.alloc (.cells #[.int .i64 a, .int .i64 b, .int .i64 c, .int .i64 d, .int .i64 e, .int .i64 f] 48)) = w' := by
  have i0 : ∀ w, (Instr.index 74 (.agg #[.int .i64 a, .int .i64 b, .int .i64 c, .int .i64 d]) (.int .i64 0)).run Try.prog w = .ok (.int .i64 a) w := fun _ => by kernel_rfl
  have i1 : ∀ w, (Instr.index 74 (.agg #[.int .i64 a, .int .i64 b, .int .i64 c, .int .i64 d]) (.int .i64 1)).run Try.prog w = .ok (.int .i64 b) w := fun _ => by kernel_rfl
  have i2 : ∀ w, (Instr.index 74 (.agg #[.int .i64 a, .int .i64 b, .int .i64 c, .int .i64 d]) (.int .i64 2)).run Try.prog w = .ok (.int .i64 c) w := fun _ => by kernel_rfl
  have i3 : ∀ w, (Instr.index 74 (.agg #[.int .i64 a, .int .i64 b, .int .i64 c, .int .i64 d]) (.int .i64 3)).run Try.prog w = .ok (.int .i64 d) w := fun _ => by kernel_rfl
  go_enter Try.func36, Try.ntmps36
  go_wp2_with fail
  refine wp_loop_rounds 5 ?_
  repeat any_goals (rw [rounds_succ]; go_wp2_with (first | (go_at_call 59; refine (within_any _ _ _ ?_).mono ?_; omega; rintro e w' ⟨rfl, rfl⟩)))
  all_goals go_ret
  all_goals refine ⟨ret_int ?_, rfl⟩
  all_goals (clear i0 i1 i2 i3; go_tidy; simp only [Bool.not_eq_true', Bool.not_eq_false', Bool.not_eq_true] at *)
  all_goals (unfold matE matB; simp [*])
set_option maxHeartbeats 1000000 in
theorem MapCheck_any (a b c d e f : Int) (w : World) :
    Calls Try.prog 35 #[.agg #[.int .i64 a, .int .i64 b, .int .i64 c, .int .i64 d, .int .i64 e, .int .i64 f]] w fun x w' => x = .returned (.int .i64 (matE a b c d e f)) ∧ (w.alloc (.cells #[.int .i64 a, .int .i64 b, .int .i64 c, .int .i64 d, .int .i64 e, .int .i64 f] 48)) = w' := by
  go_enter Try.func35, Try.ntmps35
  go_wp2_with (first | (go_at_call 21; refine (In_any _ _ _ _).mono ?_; rintro e w' ⟨rfl, rfl⟩))
  all_goals go_ret
  all_goals refine ⟨ret_int ?_, rfl⟩
  all_goals (go_tidy; try simp only [Bool.not_eq_true] at *)
  all_goals (unfold matE matB; simp [*])
theorem Identity_any (w : World) :
    Calls Try.prog 31 #[] w fun x w' => x = .returned (.agg #[.int .i64 4096, .int .i64 0, .int .i64 0, .int .i64 4096, .int .i64 0, .int .i64 0]) ∧ (w.alloc (.cells #[.int .i64 4096, .int .i64 0, .int .i64 0, .int .i64 4096, .int .i64 0, .int .i64 0] 48)) = w' := by
  go_enter Try.func31, Try.ntmps31
  go_wp2_with fail
  go_returns
  exact ⟨rfl, rfl⟩
end Go.Proofs.Ytadgoodfhlmlmaa
