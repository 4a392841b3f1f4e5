/-
  Contracts of the functions of the blend modes, of Mode and of the reference's Blend.
-/
import Derived.Test.YtampdegpfndggaaBlend
import Derived.Test.YtampdegpfndggaaIn
namespace Go.Proofs.Ytampdegpfndggaa
open Go.RowKit

theorem mul_abs (A B : Int) {x y : Int} (hx : -A ≤ x ∧ x ≤ A) (hy : -B ≤ y ∧ y ≤ B) : -(A * B) ≤ x * y ∧ x * y ≤ A * B := by
  have h1 : x.natAbs * y.natAbs ≤ A.natAbs * B.natAbs := Nat.mul_le_mul (by omega) (by omega)
  have h2 : (x * y).natAbs ≤ (A * B).natAbs := by rw [Int.natAbs_mul, Int.natAbs_mul]; exact h1
  have h3 : 0 ≤ A * B := Int.mul_nonneg (by omega) (by omega)
  omega
set_option linter.unusedVariables false
set_option maxHeartbeats 1000000 in
theorem mode0_any (b s : Int) (w : World) (hb : 0 ≤ b ∧ b ≤ 255) (hs : 0 ≤ s ∧ s ≤ 255) :
    Calls Try.prog 138 #[.int .i64 b, .int .i64 s] w fun e w' => e = .returned (.int .i64 (blV 0 b s)) ∧ w = w' := by
  go_enter Try.func138, Try.ntmps138
  go_wp2_with (first | fail)
  go_ret
  exact ⟨ret_int (by simp [blV]; try omega), rfl⟩
set_option maxHeartbeats 1000000 in
theorem mode2_any (b s : Int) (w : World) (hb : 0 ≤ b ∧ b ≤ 255) (hs : 0 ≤ s ∧ s ≤ 255) :
    Calls Try.prog 140 #[.int .i64 b, .int .i64 s] w fun e w' => e = .returned (.int .i64 (blV 2 b s)) ∧ w = w' := by
  have h1 := mulV_bd (b := 255 - b) (s := 255 - s) (by omega) (by omega)
  go_enter Try.func140, Try.ntmps140
  go_wp2_with (first | (go_at_call 139; refine (bmul_any _ _ _ (by omega) (by omega)).mono ?_; rintro e w' ⟨rfl, rfl⟩))
  go_ret
  exact ⟨ret_int (by simp [blV]; try omega), rfl⟩
set_option maxHeartbeats 1000000 in
theorem mode3_any (b s : Int) (w : World) (hb : 0 ≤ b ∧ b ≤ 255) (hs : 0 ≤ s ∧ s ≤ 255) :
    Calls Try.prog 141 #[.int .i64 b, .int .i64 s] w fun e w' => e = .returned (.int .i64 (blV 3 b s)) ∧ w = w' := by
  go_enter Try.func141, Try.ntmps141
  go_wp2_with (first | (go_at_call 142; refine (bhard_any _ _ _ (by omega) (by omega)).mono ?_; rintro e w' ⟨rfl, rfl⟩))
  go_ret
  exact ⟨ret_int (by simp [blV]; try omega), rfl⟩
set_option maxHeartbeats 1000000 in
theorem mode4_any (b s : Int) (w : World) (hb : 0 ≤ b ∧ b ≤ 255) (hs : 0 ≤ s ∧ s ≤ 255) :
    Calls Try.prog 143 #[.int .i64 b, .int .i64 s] w fun e w' => e = .returned (.int .i64 (blV 4 b s)) ∧ w = w' := by
  by_cases h : s < b
  · skip
    go_enter Try.func143, Try.ntmps143
    go_wp2_with (first | fail)
    go_ret
    exact ⟨ret_int (by simp [blV]; try omega), rfl⟩
  go_enter Try.func143, Try.ntmps143
  go_wp2_with (first | fail)
  go_ret
  exact ⟨ret_int (by simp [blV]; try omega), rfl⟩
set_option maxHeartbeats 1000000 in
theorem mode5_any (b s : Int) (w : World) (hb : 0 ≤ b ∧ b ≤ 255) (hs : 0 ≤ s ∧ s ≤ 255) :
    Calls Try.prog 144 #[.int .i64 b, .int .i64 s] w fun e w' => e = .returned (.int .i64 (blV 5 b s)) ∧ w = w' := by
  by_cases h : b < s
  · skip
    go_enter Try.func144, Try.ntmps144
    go_wp2_with (first | fail)
    go_ret
    exact ⟨ret_int (by simp [blV]; try omega), rfl⟩
  go_enter Try.func144, Try.ntmps144
  go_wp2_with (first | fail)
  go_ret
  exact ⟨ret_int (by simp [blV]; try omega), rfl⟩
set_option maxHeartbeats 1000000 in
theorem mode9_any (b s : Int) (w : World) (hb : 0 ≤ b ∧ b ≤ 255) (hs : 0 ≤ s ∧ s ≤ 255) :
    Calls Try.prog 147 #[.int .i64 b, .int .i64 s] w fun e w' => e = .returned (.int .i64 (blV 9 b s)) ∧ w = w' := by
  have h1 := soft_in hb hs
  have g2 := mul_abs 255 255 (x := 255 - 2 * s) (y := b) (by omega) (by omega)
  have g3 := mul_abs 65025 255 (x := (255 - 2 * s) * b) (y := b) (by omega) (by omega)
  have g5 := mul_abs 130050 255 (x := 510 * s) (y := b) (by omega) (by omega)
  go_enter Try.func147, Try.ntmps147
  go_wp2_with (first | (go_at_call 100; refine (Near_any _ _ _ (by omega) (by omega)).mono ?_; rintro e w' ⟨rfl, rfl⟩))
  go_ret
  exact ⟨ret_int (by simp [blV, softV]), rfl⟩
set_option maxHeartbeats 1000000 in
theorem mode10_any (b s : Int) (w : World) (hb : 0 ≤ b ∧ b ≤ 255) (hs : 0 ≤ s ∧ s ≤ 255) :
    Calls Try.prog 148 #[.int .i64 b, .int .i64 s] w fun e w' => e = .returned (.int .i64 (blV 10 b s)) ∧ w = w' := by
  by_cases h : b < s
  · skip
    go_enter Try.func148, Try.ntmps148
    go_wp2_with (first | fail)
    go_ret
    exact ⟨ret_int (by simp [blV]; try omega), rfl⟩
  go_enter Try.func148, Try.ntmps148
  go_wp2_with (first | fail)
  go_ret
  exact ⟨ret_int (by simp [blV]; try omega), rfl⟩
set_option maxHeartbeats 1000000 in
theorem mode11_any (b s : Int) (w : World) (hb : 0 ≤ b ∧ b ≤ 255) (hs : 0 ≤ s ∧ s ≤ 255) :
    Calls Try.prog 149 #[.int .i64 b, .int .i64 s] w fun e w' => e = .returned (.int .i64 (blV 11 b s)) ∧ w = w' := by
  have h1 := mul_abs 510 255 (x := 2 * b) (y := s) (by omega) (by omega)
  have h2 := exclV_bd hb hs
  unfold exclV at h2
  go_enter Try.func149, Try.ntmps149
  go_wp2_with (first | (go_at_call 100; refine (Near_any _ _ _ (by omega) (by omega)).mono ?_; rintro e w' ⟨rfl, rfl⟩))
  go_ret
  exact ⟨ret_int (by simp [blV, exclV]), rfl⟩
end Go.Proofs.Ytampdegpfndggaa
