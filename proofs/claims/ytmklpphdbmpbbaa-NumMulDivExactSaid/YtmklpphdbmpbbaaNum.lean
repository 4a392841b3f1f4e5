/-
  Contracts of package num and of the reference's arithmetic, one theorem a function.
-/
import Derived.Test.YtmklpphdbmpbbaaProg
import Derived.Test.YtmklpphdbmpbbaaMath
import Derived.Test.YtmklpphdbmpbbaaQuo
import Derived.Test.YtmklpphdbmpbbaaDown
import Derived.Test.YtmklpphdbmpbbaaIn
import Derived.WalkKit
import Derived.WalkLawsBesides
import Derived.Handy
namespace Go.Proofs.Ytmklpphdbmpbbaa
open Go.RowKit

theorem number_any (x : Int) (w : World) :
    Calls Try.prog 38 #[.int .i64 x] w fun e w' => e = .returned (.bool (fit x)) ∧ w = w' := by
  go_enter Try.func38, Try.ntmps38
  go_wp2_with (go_at_call 20; refine (In_any _ _ _ _).mono ?_; rintro e w' ⟨rfl, rfl⟩)
  go_ret
  exact ⟨rfl, rfl⟩

set_option maxHeartbeats 400000 in
theorem fits_any (b n : Nat) (zs : List Int) (w : World) (hn : zs.length = n) (hl : n ≤ 1000) (hc : ∀ j, (h : j < n) → w.cell? ⟨b, j, none⟩ = some (.int .i64 (zs[j]))) :
    Calls Try.prog 34 #[.slice (some ⟨b, 0, none⟩) n n] w fun e w' => e = .returned (.bool (zs.all fit)) ∧ w = w' := by
  go_enter Try.func34, Try.ntmps34
  go_wp2
  go_loop [7] (fun i => ∃ k : Nat, k ≤ n ∧ i = .int .i64 k ∧ (zs.take k).all fit = true) (fun i => n - (intOf i).toNat)
  case atStart => exact ⟨0, Nat.zero_le _, rfl, rfl⟩
  case round =>
    obtain ⟨k, hk, rfl, hall⟩ := hrel
    by_cases hlt : k < n
    · have hck := hc k hlt
      have hlt' : k < zs.length := by omega
      have HS : Hid _ := all_take_succ fit zs k hlt'
      have hA : Hid _ := hall
      clear hall
      by_cases hx : -1099511627776 ≤ zs[k] ∧ zs[k] ≤ 1099511627776
      · go_wp2
        go_round
        case rel => exact ⟨k + 1, by omega, by go_num, by rw [HS.out, hA.out, fit_yes hx]; rfl⟩
        case measure => simp [intOf]; omega
      · by_cases h1 : zs[k] < -1099511627776
        all_goals
          go_wp2
          go_ret
          refine ⟨ret_bool ?_, rfl⟩
          symm
          rw [List.all_eq_false]
          exact ⟨zs[k], List.getElem_mem _, by rw [fit_no hx]; simp⟩
    · go_wp2
      go_ret
      rw [List.take_of_length_le (by omega)] at hall
      exact ⟨by rw [hall]; rfl, rfl⟩

/-- 'fits' of a new row of two numbers. -/
theorem fits2_any (a b : Int) (w : World) (B : Nat) (h0 : w.cell? ⟨B, 0, none⟩ = some (.int .i64 a)) (h1 : w.cell? ⟨B, 1, none⟩ = some (.int .i64 b)) :
    Calls Try.prog 34 #[.slice (some ⟨B, 0, none⟩) 2 2] w fun e w' => e = .returned (.bool (fit a && fit b)) ∧ w = w' :=
  (fits_any B 2 [a, b] w rfl (by omega) (fun j h => match j, h with | 0, _ => h0 | 1, _ => h1)).mono fun e w' ⟨h, hw⟩ => ⟨by rw [h]; simp, hw⟩
theorem fits3_any (a b c : Int) (w : World) (B : Nat) (h0 : w.cell? ⟨B, 0, none⟩ = some (.int .i64 a)) (h1 : w.cell? ⟨B, 1, none⟩ = some (.int .i64 b)) (h2 : w.cell? ⟨B, 2, none⟩ = some (.int .i64 c)) :
    Calls Try.prog 34 #[.slice (some ⟨B, 0, none⟩) 3 3] w fun e w' => e = .returned (.bool (fit a && (fit b && fit c))) ∧ w = w' :=
  (fits_any B 3 [a, b, c] w rfl (by omega) (fun j h => match j, h with | 0, _ => h0 | 1, _ => h1 | 2, _ => h2)).mono fun e w' ⟨h, hw⟩ => ⟨by rw [h]; simp, hw⟩

end Go.Proofs.Ytmklpphdbmpbbaa
