/-
  Merged: XImage, XBoxInv.
-/
import Derived.Test.YtampdegpfndggaaMrg4
import Derived.Test.YtampdegpfndggaaMrg9
namespace Go.Proofs.Ytampdegpfndggaa
open Go.RowKit

/-- The error of an image: its size, the lengths of its lists, the error of its placing. -/
def imgE (W H : Int) (n m : Nat) (e : Int) : Int :=
  if W < 1 ∨ 256 < W ∨ H < 1 ∨ 256 < H then 3 else if (n : Int) ≠ W * H ∨ (m ≠ 0 ∧ (m : Int) ≠ W * H) then 4 else e
theorem mul_256 {W H : Int} (hW : 1 ≤ W ∧ W ≤ 256) (hH : 1 ≤ H ∧ H ≤ 256) : 1 ≤ W * H ∧ W * H ≤ 65536 := by
  have h1 := Int.mul_le_mul hW.1 hH.1 (by omega) (by omega)
  have h2 := Int.mul_le_mul hW.2 hH.2 (by omega) (by omega)
  omega
set_option maxRecDepth 20000 in
set_option maxHeartbeats 4000000 in
theorem ImgCheck_any (W H : Int) (A B : Option Addr) (n p m q : Nat) (a b c d e f : Int) (s r : Bool) (w : World) :
    Calls Try.prog 70 #[.agg #[.int .i64 W, .int .i64 H, .slice A n p, .slice B m q, .int .i64 a, .int .i64 b, .int .i64 c, .int .i64 d, .int .i64 e, .int .i64 f, .bool s, .bool r]] w fun e' w' => e' = .returned (.int .i64 (imgE W H n m (invL a b c d e f 6))) ∧ Below w.heap.size w w' := by
  by_cases hs : W < 1 ∨ 256 < W ∨ H < 1 ∨ 256 < H
  · go_enter Try.func70, Try.ntmps70
    go_wp2_with (first | (go_at_call 105; refine (Invert_any _ _ _ _ _ _ _).mono ?_; rintro e' w' ⟨rfl, hb⟩; obtain ⟨hc9, hf9, hz9⟩ := bcell hb; try simp only [World.size_alloc] at hz9 hc9 hf9; try unfold sevenI))
    all_goals go_ret
    all_goals exact ⟨ret_int (by rw [imgE, if_pos hs]), by (repeat' (with_reducible first | exact Below.refl _ _ | refine past_le ?_ ?_ _ | refine Below.alloc ?_ ?_ _ | refine Below.drew ?_ | refine drewN_le ?_ _ | refine Below.setCell ?_ ?_ _ | refine step_le (by assumption) ?_ ?_ | omega | (simp only []; omega) | (simp only [World.size_alloc]; omega) | (simp only [World.size_setCell]; omega) | (simp only [World.size_drew]; omega) | (simp only [World.size_alloc, World.size_setCell]; omega) | (simp only [World.size_alloc, World.size_drew]; omega) | (simp only [World.size_setCell, World.size_drew]; omega) | (simp only [World.size_alloc, World.size_setCell, World.size_drew]; omega) | (simp only [World.size_alloc, World.size_setCell, World.size_drew, size_drewN]; omega)))⟩
  · have hWH := mul_256 (W := W) (H := H) (by omega) (by omega)
    go_enter Try.func70, Try.ntmps70
    go_wp2_with (first | (go_at_call 105; refine (Invert_any _ _ _ _ _ _ _).mono ?_; rintro e' w' ⟨rfl, hb⟩; obtain ⟨hc9, hf9, hz9⟩ := bcell hb; try simp only [World.size_alloc] at hz9 hc9 hf9; try unfold sevenI))
    all_goals go_ret
    all_goals refine ⟨ret_int ?_, by (repeat' (with_reducible first | exact Below.refl _ _ | refine past_le ?_ ?_ _ | refine Below.alloc ?_ ?_ _ | refine Below.drew ?_ | refine drewN_le ?_ _ | refine Below.setCell ?_ ?_ _ | refine step_le (by assumption) ?_ ?_ | omega | (simp only []; omega) | (simp only [World.size_alloc]; omega) | (simp only [World.size_setCell]; omega) | (simp only [World.size_drew]; omega) | (simp only [World.size_alloc, World.size_setCell]; omega) | (simp only [World.size_alloc, World.size_drew]; omega) | (simp only [World.size_setCell, World.size_drew]; omega) | (simp only [World.size_alloc, World.size_setCell, World.size_drew]; omega) | (simp only [World.size_alloc, World.size_setCell, World.size_drew, size_drewN]; omega)))⟩
    all_goals rw [imgE, if_neg hs]
    all_goals split
    all_goals first
      | rfl
      | (exfalso; simp_all; done)
      | (exfalso; simp_all; omega)
set_option maxRecDepth 20000 in
set_option maxHeartbeats 4000000 in
theorem RImgCheck_any (W H : Int) (A B : Option Addr) (n p m q : Nat) (a b c d e f : Int) (s r : Bool) (w : World) :
    Calls Try.prog 36 #[.agg #[.int .i64 W, .int .i64 H, .slice A n p, .slice B m q, .int .i64 a, .int .i64 b, .int .i64 c, .int .i64 d, .int .i64 e, .int .i64 f, .bool s, .bool r]] w fun e' w' => e' = .returned (.int .i64 (imgE W H n m (invL a b c d e f 6))) ∧ Below w.heap.size w w' := by
  by_cases hi : inB W 1 256 = false ∨ inB H 1 256 = false
  · have hs : Hid (W < 1 ∨ 256 < W ∨ H < 1 ∨ 256 < H) := by
      show W < 1 ∨ 256 < W ∨ H < 1 ∨ 256 < H
      rcases hi with hi | hi
      · have : ¬(1 ≤ W ∧ W ≤ 256) := fun hh => by rw [inB_yes hh] at hi; cases hi
        omega
      · have : ¬(1 ≤ H ∧ H ≤ 256) := fun hh => by rw [inB_yes hh] at hi; cases hi
        omega
    by_cases hW : inB W 1 256 = true
    · have hH : inB H 1 256 = false := by simpa [hW] using hi
      clear hi
      go_enter Try.func36, Try.ntmps36
      go_wp2_with (first | (go_at_call 16; refine (In_any _ _ _ _).mono ?_; rintro e w' ⟨rfl, rfl⟩))
      go_ret
      exact ⟨ret_int (by rw [imgE, if_pos hs.out]), by (repeat' (with_reducible first | exact Below.refl _ _ | refine past_le ?_ ?_ _ | refine Below.alloc ?_ ?_ _ | refine Below.drew ?_ | refine drewN_le ?_ _ | refine Below.setCell ?_ ?_ _ | refine step_le (by assumption) ?_ ?_ | omega | (simp only []; omega) | (simp only [World.size_alloc]; omega) | (simp only [World.size_setCell]; omega) | (simp only [World.size_drew]; omega) | (simp only [World.size_alloc, World.size_setCell]; omega) | (simp only [World.size_alloc, World.size_drew]; omega) | (simp only [World.size_setCell, World.size_drew]; omega) | (simp only [World.size_alloc, World.size_setCell, World.size_drew]; omega) | (simp only [World.size_alloc, World.size_setCell, World.size_drew, size_drewN]; omega)))⟩
    have hW : inB W 1 256 = false := by simpa using hW
    clear hi
    go_enter Try.func36, Try.ntmps36
    go_wp2_with (first | (go_at_call 16; refine (In_any _ _ _ _).mono ?_; rintro e w' ⟨rfl, rfl⟩) | (go_at_call 72; refine (RInvert_any _ _ _ _ _ _ _).mono ?_; rintro e' w' ⟨rfl, hb⟩; obtain ⟨hc9, hf9, hz9⟩ := bcell hb; try simp only [World.size_alloc] at hz9 hc9 hf9; try unfold sevenI))
    all_goals go_ret
    all_goals exact ⟨ret_int (by rw [imgE, if_pos hs.out]), by (repeat' (with_reducible first | exact Below.refl _ _ | refine past_le ?_ ?_ _ | refine Below.alloc ?_ ?_ _ | refine Below.drew ?_ | refine drewN_le ?_ _ | refine Below.setCell ?_ ?_ _ | refine step_le (by assumption) ?_ ?_ | omega | (simp only []; omega) | (simp only [World.size_alloc]; omega) | (simp only [World.size_setCell]; omega) | (simp only [World.size_drew]; omega) | (simp only [World.size_alloc, World.size_setCell]; omega) | (simp only [World.size_alloc, World.size_drew]; omega) | (simp only [World.size_setCell, World.size_drew]; omega) | (simp only [World.size_alloc, World.size_setCell, World.size_drew]; omega) | (simp only [World.size_alloc, World.size_setCell, World.size_drew, size_drewN]; omega)))⟩
  · have hW : inB W 1 256 = true := by cases h : inB W 1 256 <;> simp_all
    have hH : inB H 1 256 = true := by cases h : inB H 1 256 <;> simp_all
    have hW' := inB_iff.1 hW
    have hH' := inB_iff.1 hH
    have hs : ¬(W < 1 ∨ 256 < W ∨ H < 1 ∨ 256 < H) := by omega
    clear hi
    have hWH := mul_256 (W := W) (H := H) (by omega) (by omega)
    go_enter Try.func36, Try.ntmps36
    go_wp2_with (first | (go_at_call 16; refine (In_any _ _ _ _).mono ?_; rintro e w' ⟨rfl, rfl⟩) | (go_at_call 72; refine (RInvert_any _ _ _ _ _ _ _).mono ?_; rintro e' w' ⟨rfl, hb⟩; obtain ⟨hc9, hf9, hz9⟩ := bcell hb; try simp only [World.size_alloc] at hz9 hc9 hf9; try unfold sevenI))
    all_goals go_ret
    all_goals refine ⟨ret_int ?_, by (repeat' (with_reducible first | exact Below.refl _ _ | refine past_le ?_ ?_ _ | refine Below.alloc ?_ ?_ _ | refine Below.drew ?_ | refine drewN_le ?_ _ | refine Below.setCell ?_ ?_ _ | refine step_le (by assumption) ?_ ?_ | omega | (simp only []; omega) | (simp only [World.size_alloc]; omega) | (simp only [World.size_setCell]; omega) | (simp only [World.size_drew]; omega) | (simp only [World.size_alloc, World.size_setCell]; omega) | (simp only [World.size_alloc, World.size_drew]; omega) | (simp only [World.size_setCell, World.size_drew]; omega) | (simp only [World.size_alloc, World.size_setCell, World.size_drew]; omega) | (simp only [World.size_alloc, World.size_setCell, World.size_drew, size_drewN]; omega)))⟩
    all_goals rw [imgE, if_neg hs]
    all_goals split
    all_goals first
      | rfl
      | (exfalso; simp_all; done)
      | (exfalso; simp_all; omega)
end Go.Proofs.Ytampdegpfndggaa

namespace Go.Proofs.Ytampdegpfndggaa
set_option linter.unusedVariables false
def isPow (k : Int) : Prop := k = 1 ∨ k = 2 ∨ k = 4 ∨ k = 8 ∨ k = 16 ∨ k = 32 ∨ k = 64 ∨ k = 128 ∨ k = 256
theorem near_lin (a b : Int) (hb : 1 ≤ b) (lo hi : Int) (h1 : lo * b ≤ a) (h2 : a ≤ hi * b) : lo ≤ near a b ∧ near a b ≤ hi := by
  unfold near
  have e1 := Int.mul_ediv_add_emod a b
  have e2 := Int.emod_nonneg a (show b ≠ 0 by omega)
  have e3 := Int.emod_lt_of_pos a (show 0 < b by omega)
  have l1 : lo ≤ a / b := Int.le_ediv_of_mul_le (by omega) h1
  have l2 : a / b ≤ hi := by
    have := Int.ediv_le_ediv (show 0 < b by omega) h2
    rwa [Int.mul_ediv_cancel _ (by omega)] at this
  split
  · rename_i h
    refine ⟨by omega, ?_⟩
    by_cases h3 : a / b = hi
    · rw [h3, Int.mul_comm] at e1
      omega
    · omega
  · exact ⟨l1, l2⟩
theorem box_inv {k x y : Int} (hk : isPow k) (hx : -8192 ≤ x ∧ x ≤ 8192) (hy : -8192 ≤ y ∧ y ≤ 8192) : invL (4096 * k) 0 0 (4096 * k) (4096 * x) (4096 * y) 6 = 0 := by
  have hkb : 1 ≤ k ∧ k ≤ 256 := by unfold isPow at hk; omega
  have hm : matE (4096 * k) 0 0 (4096 * k) (4096 * x) (4096 * y) = 0 := by
    unfold matE
    rw [if_pos]
    simp only [matB, Bool.and_eq_true, inB_iff]
    omega
  have hD : (4096 * k) * (4096 * k) - 0 * 0 = 16777216 * (k * k) := by
    rw [show (4096 * k) * (4096 * k) = 16777216 * (k * k) by rw [Int.mul_assoc, Int.mul_left_comm k 4096 k, ← Int.mul_assoc]; rfl]; omega
  rcases hk with rfl | rfl | rfl | rfl | rfl | rfl | rfl | rfl | rfl
  all_goals
    unfold invL
    rw [if_pos hm, if_neg (by omega), if_pos (by omega)]
    unfold six
    rw [if_pos (by
      unfold matE
      rw [if_pos]
      simp only [matB, Bool.and_eq_true, inB_iff]
      exact ⟨near_lin _ _ (by omega) (-1048576) 1048576 (by unfold sg; omega) (by unfold sg; omega), near_lin _ _ (by omega) (-1048576) 1048576 (by unfold sg; omega) (by unfold sg; omega), near_lin _ _ (by omega) (-1048576) 1048576 (by unfold sg; omega) (by unfold sg; omega), near_lin _ _ (by omega) (-1048576) 1048576 (by unfold sg; omega) (by unfold sg; omega), near_lin _ _ (by omega) (-268435456) 268435456 (by unfold sg; omega) (by unfold sg; omega), near_lin _ _ (by omega) (-268435456) 268435456 (by unfold sg; omega) (by unfold sg; omega)⟩)]
    rfl
end Go.Proofs.Ytampdegpfndggaa
