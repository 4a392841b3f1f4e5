/-
  morph.Dilate, Erode, Open, Close, Edge.
-/
import Derived.Test.YtiakdbcikmkomaaDilate1
import Derived.Test.YtiakdbcikmkomaaErode1
import Derived.Test.YtiakdbcikmkomaaErodeR
import Derived.Test.YtiakdbcikmkomaaBothU
import Derived.Test.YtiakdbcikmkomaaRegChk
namespace Go.Proofs.Ytiakdbcikmkomaa
open Go.RowKit
set_option linter.unusedVariables false
set_option maxRecDepth 20000
theorem regV_none {rs : Nat → Run} {n : Nat} (v : Valid rs n) : ∀ k, k ≤ n → regV rs k = 0
  | 0, _ => rfl
  | k + 1, hk => by
    have h := regV_none v k (by omega)
    have hb := v.bd k (by omega)
    have hr : runErr rs k = 0 := by
      unfold runErr
      rw [if_neg (by omega), if_neg (by omega), if_neg]
      rintro ⟨h1, h2, h3⟩
      have := v.lt (k - 1) k (by omega) (by omega)
      omega
    unfold regV
    rw [if_neg (by omega)]
    exact hr
theorem errL_none {L : List Run} (v : ValidL L) : errL L = 0 := regV_none v L.length (Nat.le_refl _)
open Classical in
theorem joinL_len (L : List Run) : (joinL L).length ≤ L.length := by
  have hp : (L.mergeSort (fun r s => decide (leR r s))).Perm L := List.mergeSort_perm _ _
  have hs : (L.mergeSort (fun r s => decide (leR r s))).Pairwise leR := by
    have := List.pairwise_mergeSort (le := fun r s => decide (leR r s)) (fun a b c h1 h2 => by
      simp only [decide_eq_true_eq] at *; unfold leR at *; omega) (fun a b => by
      simp only [Bool.or_eq_true, decide_eq_true_eq]; unfold leR; omega) L
    exact this.imp fun h => by simpa using h
  rw [← jn_join hp hs, ← hp.length_eq]
  have := jn_len (L.mergeSort (fun r s => decide (leR r s))) []
  simpa using this
theorem dilD_len {w : Int} (hw : 0 ≤ w ∧ w ≤ 64) (L : List Run) : (dilD w L).length ≤ L.length * 129 := by
  have h1 := allC_len hw (wideL w L) (wideL w L).length
  have h2 := wideO_len w L L.length
  rw [wideO_all] at h2
  show (allC w (wideL w L) (wideL w L).length).length ≤ _
  omega
/-- The dilated and the eroded region. -/
noncomputable abbrev DL (w : Int) (L : List Run) : List Run := joinL (dilD w L)
abbrev EL (w : Int) (L : List Run) : List Run := outE w L L.length
theorem DL_len {w : Int} (hw : 0 ≤ w ∧ w ≤ 64) (L : List Run) : (DL w L).length ≤ L.length * 129 := Nat.le_trans (joinL_len _) (dilD_len hw L)
theorem DL_valid {w : Int} {L : List Run} (v : ValidL L) : ValidL (DL w L) := by
  obtain ⟨h1, h2⟩ := dilate_ok (w := w) v
  refine ValidL.mk h1 fun s hs => ?_
  obtain ⟨g1, g2⟩ := okR_in h1 hs
  rw [h2] at g1 g2
  obtain ⟨hy, r, hr, r1, r2, r3⟩ := g1
  obtain ⟨_, q, hq, q1, q2, q3⟩ := g2
  omega
theorem EL_valid {w : Int} (hw : 0 ≤ w) {L : List Run} (v : ValidL L) : ValidL (EL w L) := by
  obtain ⟨h1, h2⟩ := erode_ok hw v
  exact erode_valid hw v h1 h2
theorem EL_len {w : Int} (hw : 0 ≤ w ∧ w ≤ 64) (L : List Run) : (EL w L).length ≤ L.length * (129 * L.length) := by
  have h := outE_len w L L.length
  refine Nat.le_trans h (Nat.mul_le_mul_left _ (Nat.mul_le_mul_right _ (by omega)))
/-- The error of a region and a radius. -/
def spE (L : List Run) (w : Int) : Int := if errL L ≠ 0 then errL L else if 0 ≤ w ∧ w ≤ 64 then 0 else 3
theorem spE_ok {L : List Run} {w : Int} (h : spE L w = 0) : errL L = 0 ∧ 0 ≤ w ∧ w ≤ 64 := by
  unfold spE at h
  by_cases h1 : errL L = 0
  · rw [if_neg (by omega)] at h
    by_cases h2 : 0 ≤ w ∧ w ≤ 64
    · exact ⟨h1, h2⟩
    · rw [if_neg h2] at h; omega
  · rw [if_pos h1] at h; omega
section
variable {A : Option Addr} {L : List Run} {c : Nat} {w : Int} {G : Mem}
theorem check_gives (hA : RunsM G A L) (hc : L.length ≤ c) (hm : c ≤ maxLen) : Gives Try.prog 29 [.val (.slice A L.length c), .val (.int .i64 w)] G (.val (.int .i64 (spE L w))) := by
  have g1 := Check_gives hA hc hm
  refine Gives_of tab_ok Try.func29 ?_
  unfold spE
  generalize errL L = e1 at *
  by_cases h : e1 = 0
  · rw [if_neg (by omega)]
    by_cases h1 : 0 ≤ w
    · by_cases h2 : w ≤ 64
      · rw [if_pos ⟨h1, h2⟩]
        (repeat ((try (conv => whnf)); (first | (with_reducible first | refine condP_true ?_ | refine condP_false ?_ | refine condP_not ?_ | refine condP_and ?_) | ((with_reducible refine condP_dt ?_ ?_); (· omega)) | ((with_reducible refine condP_df ?_ ?_); (· omega)) | ((with_reducible refine condP_yes ?_ ?_); (· assumption)) | ((with_reducible refine condP_no ?_ ?_); (· assumption)) | ((with_reducible refine ArP_i64 ?_ ?_); (· omega)) | ((with_reducible refine mustP.mk ?_ ?_); (· first | omega | rfl | (dsimp only; omega))) | (with_reducible first | refine EqP_nil tab_ok ?_ | refine EqP_sli tab_ok ?_ | refine DrawP_auto tab_ok (by kernel_rfl) (by decide +kernel) ?_ | refine DrawP_auto2 tab_ok (by kernel_rfl) (by decide +kernel) ?_ | refine eq34 ?_ | refine eq68 ?_ | refine CallP_gives (fun vs w => by kernel_rfl) (by kernel_rfl) (g1) ?_ | refine RCallP_gives (fun vs w => by kernel_rfl) (by kernel_rfl) (g1) ?_))))
        exact ⟨rfl, rfl⟩
      · rw [if_neg (fun h => h2 h.2)]
        (repeat ((try (conv => whnf)); (first | (with_reducible first | refine condP_true ?_ | refine condP_false ?_ | refine condP_not ?_ | refine condP_and ?_) | ((with_reducible refine condP_dt ?_ ?_); (· omega)) | ((with_reducible refine condP_df ?_ ?_); (· omega)) | ((with_reducible refine condP_yes ?_ ?_); (· assumption)) | ((with_reducible refine condP_no ?_ ?_); (· assumption)) | ((with_reducible refine ArP_i64 ?_ ?_); (· omega)) | ((with_reducible refine mustP.mk ?_ ?_); (· first | omega | rfl | (dsimp only; omega))) | (with_reducible first | refine EqP_nil tab_ok ?_ | refine EqP_sli tab_ok ?_ | refine DrawP_auto tab_ok (by kernel_rfl) (by decide +kernel) ?_ | refine DrawP_auto2 tab_ok (by kernel_rfl) (by decide +kernel) ?_ | refine eq34 ?_ | refine eq68 ?_ | refine CallP_gives (fun vs w => by kernel_rfl) (by kernel_rfl) (g1) ?_ | refine RCallP_gives (fun vs w => by kernel_rfl) (by kernel_rfl) (g1) ?_))))
        exact ⟨rfl, rfl⟩
    · rw [if_neg (fun h => h1 h.1)]
      (repeat ((try (conv => whnf)); (first | (with_reducible first | refine condP_true ?_ | refine condP_false ?_ | refine condP_not ?_ | refine condP_and ?_) | ((with_reducible refine condP_dt ?_ ?_); (· omega)) | ((with_reducible refine condP_df ?_ ?_); (· omega)) | ((with_reducible refine condP_yes ?_ ?_); (· assumption)) | ((with_reducible refine condP_no ?_ ?_); (· assumption)) | ((with_reducible refine ArP_i64 ?_ ?_); (· omega)) | ((with_reducible refine mustP.mk ?_ ?_); (· first | omega | rfl | (dsimp only; omega))) | (with_reducible first | refine EqP_nil tab_ok ?_ | refine EqP_sli tab_ok ?_ | refine DrawP_auto tab_ok (by kernel_rfl) (by decide +kernel) ?_ | refine DrawP_auto2 tab_ok (by kernel_rfl) (by decide +kernel) ?_ | refine eq34 ?_ | refine eq68 ?_ | refine CallP_gives (fun vs w => by kernel_rfl) (by kernel_rfl) (g1) ?_ | refine RCallP_gives (fun vs w => by kernel_rfl) (by kernel_rfl) (g1) ?_))))
      exact ⟨rfl, rfl⟩
  · rw [if_pos h]
    (repeat ((try (conv => whnf)); (first | (with_reducible first | refine condP_true ?_ | refine condP_false ?_ | refine condP_not ?_ | refine condP_and ?_) | ((with_reducible refine condP_dt ?_ ?_); (· omega)) | ((with_reducible refine condP_df ?_ ?_); (· omega)) | ((with_reducible refine condP_yes ?_ ?_); (· assumption)) | ((with_reducible refine condP_no ?_ ?_); (· assumption)) | ((with_reducible refine ArP_i64 ?_ ?_); (· omega)) | ((with_reducible refine mustP.mk ?_ ?_); (· first | omega | rfl | (dsimp only; omega))) | (with_reducible first | refine EqP_nil tab_ok ?_ | refine EqP_sli tab_ok ?_ | refine DrawP_auto tab_ok (by kernel_rfl) (by decide +kernel) ?_ | refine DrawP_auto2 tab_ok (by kernel_rfl) (by decide +kernel) ?_ | refine eq34 ?_ | refine eq68 ?_ | refine CallP_gives (fun vs w => by kernel_rfl) (by kernel_rfl) (g1) ?_ | refine RCallP_gives (fun vs w => by kernel_rfl) (by kernel_rfl) (g1) ?_))))
    exact ⟨rfl, rfl⟩
end
end Go.Proofs.Ytiakdbcikmkomaa
