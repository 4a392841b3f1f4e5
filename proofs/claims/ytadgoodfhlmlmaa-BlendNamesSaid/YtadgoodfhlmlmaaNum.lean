/-
  Contracts of package num and of the reference's arithmetic, one theorem a function.
-/
import Derived.Test.YtadgoodfhlmlmaaProg
import Derived.Test.YtadgoodfhlmlmaaMath
import Derived.WalkKit
import Derived.WalkLawsBesides
import Derived.Handy
namespace Go.Proofs.Ytadgoodfhlmlmaa
open Go.RowKit

set_option maxHeartbeats 400000 in
theorem Quo_any (a b : Int) (w : World) (ha : -4611686018427387904 ≤ a ∧ a ≤ 4611686018427387904) (hb : 1 ≤ b ∧ b ≤ 4611686018427387904) :
    Calls Try.prog 57 #[.int .i64 a, .int .i64 b] w fun e w' => e = .returned (.int .i64 (a / b)) ∧ w = w' := by
  have hf : Hid _ := tdiv_floor a b hb.1
  have ht := tdiv_abs a b hb.1
  go_enter Try.func57, Try.ntmps57
  go_wp2
  all_goals go_ret
  · exact ⟨ret_int (by rw [hf.out, if_pos (by assumption)]), rfl⟩
  · exact ⟨ret_int (by rw [hf.out, if_neg (by omega)]), rfl⟩

set_option maxHeartbeats 400000 in
theorem Down_any (a b : Int) (w : World) (ha : -4611686018427387904 ≤ a ∧ a ≤ 4611686018427387904) (hb : 1 ≤ b ∧ b ≤ 4611686018427387904) :
    Calls Try.prog 54 #[.int .i64 a, .int .i64 b] w fun e w' => e = .returned (.int .i64 (a / b)) ∧ w = w' := by
  have hm : Hid _ := tmod_floor a b hb.1
  have hs : Hid _ := sub_emod_tdiv a b hb.1
  have hb' := tmod_bd a b hb.1
  go_enter Try.func54, Try.ntmps54
  go_wp2
  all_goals go_ret
  · exact ⟨ret_int (by rw [← hs.out, hm.out, if_pos (by assumption)]), rfl⟩
  · exact ⟨ret_int (by rw [← hs.out, hm.out, if_neg (by omega)]), rfl⟩

set_option maxHeartbeats 400000 in
theorem Near_any (a b : Int) (w : World) (ha : -4611686018427387904 ≤ a ∧ a ≤ 4611686018427387904) (hb : 1 ≤ b ∧ b ≤ 4611686018427387904) :
    Calls Try.prog 53 #[.int .i64 a, .int .i64 b] w fun e w' => e = .returned (.int .i64 (near a b)) ∧ w = w' := by
  have hm : Hid _ := emod_eq a b
  have hb' := emod_bd a b hb.1
  have hd := ediv_abs a b hb.1
  have he := Int.mul_ediv_add_emod a b
  rw [Int.mul_comm] at he
  go_enter Try.func53, Try.ntmps53
  go_wp2_with (go_at_call 57; refine (Quo_any _ _ _ ha hb).mono ?_; rintro e w' ⟨rfl, rfl⟩)
  all_goals go_ret
  all_goals refine ⟨ret_int ?_, rfl⟩
  · unfold near; rw [← hm.out, if_pos (by omega)]
  · unfold near; rw [← hm.out, if_neg (by omega)]

theorem In_any (x l h : Int) (w : World) :
    Calls Try.prog 21 #[.int .i64 x, .int .i64 l, .int .i64 h] w fun e w' => e = .returned (.bool (inB x l h)) ∧ w = w' := by
  by_cases h1 : l ≤ x <;> by_cases h2 : x ≤ h
  all_goals
    go_enter Try.func21, Try.ntmps21
    go_wp2
    go_ret
    exact ⟨ret_bool (by simp [inB, h1, h2]), rfl⟩

theorem number_any (x : Int) (w : World) :
    Calls Try.prog 58 #[.int .i64 x] w fun e w' => e = .returned (.bool (fit x)) ∧ w = w' := by
  go_enter Try.func58, Try.ntmps58
  go_wp2_with (go_at_call 21; refine (In_any _ _ _ _).mono ?_; rintro e w' ⟨rfl, rfl⟩)
  go_ret
  exact ⟨rfl, rfl⟩

set_option maxHeartbeats 400000 in
theorem fits_any (b n : Nat) (zs : List Int) (w : World) (hn : zs.length = n) (hl : n ≤ 1000) (hc : ∀ j, (h : j < n) → w.cell? ⟨b, j, none⟩ = some (.int .i64 (zs[j]))) :
    Calls Try.prog 55 #[.slice (some ⟨b, 0, none⟩) n n] w fun e w' => e = .returned (.bool (zs.all fit)) ∧ w = w' := by
  go_enter Try.func55, Try.ntmps55
  go_wp2
  go_loop [7] (fun i => ∃ k : Nat, k ≤ n ∧ i = .int .i64 k ∧ (zs.take k).all fit = true) (fun i => n - (intOf i).toNat)
  case atStart => exact ⟨0, Nat.zero_le _, rfl, rfl⟩
  case round =>
    obtain ⟨k, hk, rfl, hall⟩ := hrel
    by_cases hlt : k < n
    · have hck := hc k hlt
      have hlt' : k < zs.length := by omega
      have HS : Hid _ := all_take_succ fit zs k hlt'
      have hA : Hid _ := hall
      clear hall
      by_cases hx : -1099511627776 ≤ zs[k] ∧ zs[k] ≤ 1099511627776
      · go_wp2
        go_round
        case rel => exact ⟨k + 1, by omega, by go_num, by rw [HS.out, hA.out, fit_yes hx]; rfl⟩
        case measure => simp [intOf]; omega
      · by_cases h1 : zs[k] < -1099511627776
        all_goals
          go_wp2
          go_ret
          refine ⟨ret_bool ?_, rfl⟩
          symm
          rw [List.all_eq_false]
          exact ⟨zs[k], List.getElem_mem _, by rw [fit_no hx]; simp⟩
    · go_wp2
      go_ret
      rw [List.take_of_length_le (by omega)] at hall
      exact ⟨by rw [hall]; rfl, rfl⟩

/-- 'fits' of a new row of two numbers. -/
theorem fits2_any (a b : Int) (w : World) (B : Nat) (h0 : w.cell? ⟨B, 0, none⟩ = some (.int .i64 a)) (h1 : w.cell? ⟨B, 1, none⟩ = some (.int .i64 b)) :
    Calls Try.prog 55 #[.slice (some ⟨B, 0, none⟩) 2 2] w fun e w' => e = .returned (.bool (fit a && fit b)) ∧ w = w' :=
  (fits_any B 2 [a, b] w rfl (by omega) (fun j h => match j, h with | 0, _ => h0 | 1, _ => h1)).mono fun e w' ⟨h, hw⟩ => ⟨by rw [h]; simp, hw⟩
theorem fits3_any (a b c : Int) (w : World) (B : Nat) (h0 : w.cell? ⟨B, 0, none⟩ = some (.int .i64 a)) (h1 : w.cell? ⟨B, 1, none⟩ = some (.int .i64 b)) (h2 : w.cell? ⟨B, 2, none⟩ = some (.int .i64 c)) :
    Calls Try.prog 55 #[.slice (some ⟨B, 0, none⟩) 3 3] w fun e w' => e = .returned (.bool (fit a && (fit b && fit c))) ∧ w = w' :=
  (fits_any B 3 [a, b, c] w rfl (by omega) (fun j h => match j, h with | 0, _ => h0 | 1, _ => h1 | 2, _ => h2)).mono fun e w' ⟨h, hw⟩ => ⟨by rw [h]; simp, hw⟩

end Go.Proofs.Ytadgoodfhlmlmaa
