/-
  Contracts of Mul255 and Mix255, and of the reference's Mul and Half.
-/
import Derived.Test.YtadgoodfhlmlmaaNum
namespace Go.Proofs.Ytadgoodfhlmlmaa
open Go.RowKit

theorem near_bd (a b m : Int) (hb : 1 ≤ b) (h0 : 0 ≤ a) (h1 : a ≤ m * b) : 0 ≤ near a b ∧ near a b ≤ m := by
  have he := Int.mul_ediv_add_emod a b
  have hm := emod_bd a b hb
  have hd := ediv_abs a b hb
  have hq : a / b ≤ m := Int.ediv_le_of_le_mul (by omega) (by omega)
  have hq0 := (hd.1 h0).1
  unfold near
  split
  · have : a / b ≠ m := by
      intro e; rw [e] at he
      have : b * m = m * b := Int.mul_comm _ _
      omega
    omega
  · omega
theorem mul_bd {a b A B : Int} (ha : 0 ≤ a ∧ a ≤ A) (hb : 0 ≤ b ∧ b ≤ B) : 0 ≤ a * b ∧ a * b ≤ A * B :=
  ⟨Int.mul_nonneg ha.1 hb.1, Int.mul_le_mul ha.2 hb.2 hb.1 (by omega)⟩

set_option maxHeartbeats 400000 in
theorem Mul255_any (a b : Int) (w : World) (ha : 0 ≤ a ∧ a ≤ 255) (hb : 0 ≤ b ∧ b ≤ 255) :
    Calls Try.prog 23 #[.int .u8 a, .int .u8 b] w fun e w' => e = .returned (.int .u8 (near (a * b) 255)) ∧ w = w' := by
  have hab := mul_bd ha hb
  have hn := near_bd (a * b) 255 255 (by omega) (by omega) (by omega)
  go_enter Try.func23, Try.ntmps23
  go_wp2_with (go_at_call 53; refine (Near_any _ _ _ ?_ ?_).mono ?_; omega; omega; rintro e w' ⟨rfl, rfl⟩)
  go_ret
  exact ⟨rfl, rfl⟩
set_option maxHeartbeats 400000 in
theorem Mix255_any (a b t : Int) (w : World) (ha : 0 ≤ a ∧ a ≤ 255) (hb : 0 ≤ b ∧ b ≤ 255) (ht : 0 ≤ t ∧ t ≤ 255) :
    Calls Try.prog 24 #[.int .u8 a, .int .u8 b, .int .u8 t] w fun e w' => e = .returned (.int .u8 (near ((255 - t) * a + t * b) 255)) ∧ w = w' := by
  have h1 := mul_bd (a := 255 - t) (b := a) (A := 255 - t) (B := 255) ⟨by omega, by omega⟩ ha
  have h2 := mul_bd (a := t) (b := b) (A := t) (B := 255) ⟨by omega, by omega⟩ hb
  have hn := near_bd ((255 - t) * a + t * b) 255 255 (by omega) (by omega) (by omega)
  go_enter Try.func24, Try.ntmps24
  go_wp2_with (go_at_call 53; refine (Near_any _ _ _ ?_ ?_).mono ?_; omega; omega; rintro e w' ⟨rfl, rfl⟩)
  go_ret
  exact ⟨rfl, rfl⟩
set_option maxHeartbeats 400000 in
theorem RMul_any (a b : Int) (w : World) (ha : 0 ≤ a ∧ a ≤ 255) (hb : 0 ≤ b ∧ b ≤ 255) :
    Calls Try.prog 25 #[.int .i64 a, .int .i64 b] w fun e w' => e = .returned (.int .i64 (near (a * b) 255)) ∧ w = w' := by
  have hab := mul_bd ha hb
  have h2 : 2 * a * b = 2 * (a * b) := Int.mul_assoc _ _ _
  have hn : Hid _ := near_eq (a * b) 255 (by omega)
  go_enter Try.func25, Try.ntmps25
  go_wp2_with (go_at_call 54; refine (Down_any _ _ _ ?_ ?_).mono ?_; omega; omega; rintro e w' ⟨rfl, rfl⟩)
  go_ret
  exact ⟨ret_int hn.out, rfl⟩
set_option maxHeartbeats 400000 in
theorem Half_any (a b : Int) (w : World) (ha : -4611686018427387904 ≤ a ∧ a ≤ 4611686018427387904) (hb : 1 ≤ b ∧ b ≤ 4611686018427387904) :
    Calls Try.prog 26 #[.int .i64 a, .int .i64 b] w fun e w' => e = .returned (.int .i64 (near a b)) ∧ w = w' := by
  have hm : Hid _ := emod_eq a b
  have hb' := emod_bd a b hb.1
  have hd := ediv_abs a b hb.1
  have he := Int.mul_ediv_add_emod a b
  rw [Int.mul_comm] at he
  go_enter Try.func26, Try.ntmps26
  go_wp2_with (go_at_call 54; refine (Down_any _ _ _ ha hb).mono ?_; rintro e w' ⟨rfl, rfl⟩)
  all_goals go_ret
  all_goals refine ⟨ret_int ?_, rfl⟩
  · unfold near; rw [← hm.out, if_pos (by omega)]
  · unfold near; rw [← hm.out, if_neg (by omega)]
end Go.Proofs.Ytadgoodfhlmlmaa
