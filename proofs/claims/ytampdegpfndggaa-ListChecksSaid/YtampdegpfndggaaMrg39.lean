/-
  Merged: XRegChk, XListM.
-/
import Derived.Test.YtampdegpfndggaaEng2
import Derived.Test.YtampdegpfndggaaMrg38
import Derived.Test.YtampdegpfndggaaMrg35
namespace Go.Proofs.Ytampdegpfndggaa
open Go.RowKit
set_option linter.unusedVariables false
set_option maxRecDepth 20000
set_option maxHeartbeats 2000000 in
theorem Check_gives {A : Option Addr} {L : List Run} {c : Nat} {G : Mem} (hR : RunsM G A L) (hc : L.length ≤ c) (hm : c ≤ maxLen) : Gives Try.prog 110 [.val (.slice A L.length c)] G (.val (.int .i64 (errL L))) := by
  unfold maxLen at hm
  refine Gives_of tab_ok Try.func110 ?_
  (repeat ((try (conv => whnf)); (first | (with_reducible refine condP_true ?_) | (with_reducible refine condP_false ?_) | (with_reducible refine condP_not ?_) | (with_reducible refine condP_and ?_) | ((with_reducible refine condP_dt ?_ ?_); (· omega)) | ((with_reducible refine condP_df ?_ ?_); (· omega)) | ((with_reducible refine condP_yes ?_ ?_); (· assumption)) | ((with_reducible refine condP_no ?_ ?_); (· assumption)) | ((with_reducible refine ArP_i64 ?_ ?_); (· omega)) | ((with_reducible refine mustP.mk ?_ ?_); (· first | omega | rfl | (dsimp only; omega))) | (with_reducible refine EqP_nil tab_ok ?_) | (with_reducible refine EqP_sli tab_ok ?_) | (with_reducible refine DrawP_auto tab_ok (by kernel_rfl) (by decide +kernel) ?_) | (with_reducible refine DrawP_auto2 tab_ok (by kernel_rfl) (by decide +kernel) ?_) | (with_reducible refine eq29 ?_) | (with_reducible refine eq31 ?_) | (with_reducible refine eq48 ?_) | (with_reducible refine eq52 ?_) | (with_reducible refine eq83 ?_) | (with_reducible refine eq110 ?_) | (with_reducible refine eq136 ?_) | (with_reducible refine eq155 ?_) | (with_reducible refine eq163 ?_) | (with_reducible refine eq170 ?_))))
  conv => whnf
  refine LoopP_at tab_ok (fun i => i ≤ L.length ∧ regV (nthR L) i = 0) (fun (i : Nat) => [(7, .val (.int .i64 i))]) (fun i => []) (fun i => L.length - i) 0 ⟨Nat.zero_le _, rfl⟩ ?_ ?_
  · ((refine Le_head ?_); (conv => whnf); (refine Le_mk (by rfl) (by rfl) ?_ ?_); (· (repeat (first | (with_reducible exact frLe_nil) | (with_reducible refine frLe_any ?_) | (with_reducible refine frLe_val ?_) | ((with_reducible refine frLe_eq rfl ?_ ?_); (· rfl)) | ((with_reducible refine frLe_val' (int_eq ?_) ?_ ?_); (· omega); (· rfl)) | ((with_reducible refine frLe_val' (int_eq ?_) ?_ ?_); (· simp only [Int.natCast_add, Int.natCast_one, Int.natCast_ofNat] <;> omega); (· rfl)) | ((with_reducible refine frLe_val' (bool_eq ?_) ?_ ?_); (· first | assumption | (symm; assumption)); (· rfl))))))
    exact hpLe_nil
  · rintro i ⟨hi, h0⟩
    rcases Nat.lt_or_ge i L.length with h1 | h1
    · obtain ⟨r, hr⟩ : ∃ r, L[i]? = some r := ⟨L[i], List.getElem?_eq_getElem h1⟩
      obtain ⟨p, rfl, ca⟩ := hR.cells hr
      have hn := nthR_get hr
      have first := fun h => errL_first h0 h1 h
      have next := fun h => regV_next (rs := nthR L) (k := i) h0 h
      have herr : runErr (nthR L) i = if r.y < -8192 ∨ 8191 < r.y ∨ r.x0 < -8192 ∨ 8192 < r.x0 ∨ r.x1 < -8192 ∨ 8192 < r.x1 then 3 else if r.x1 ≤ r.x0 then 4 else if 0 < i ∧ r.y ≤ (nthR L (i - 1)).y ∧ (r.y < (nthR L (i - 1)).y ∨ r.x0 ≤ (nthR L (i - 1)).x1) then 18 else 0 := by unfold runErr; rw [hn]
      rw [herr] at first next
      clear herr
      by_cases c0 : r.y < -8192
      · rw [if_pos (by omega)] at first
        rw [first (by omega)]
        (repeat ((try (conv => whnf)); (first | (refine ca _ ?_) | (with_reducible refine condP_true ?_) | (with_reducible refine condP_false ?_) | (with_reducible refine condP_not ?_) | (with_reducible refine condP_and ?_) | ((with_reducible refine condP_dt ?_ ?_); (· omega)) | ((with_reducible refine condP_df ?_ ?_); (· omega)) | ((with_reducible refine condP_yes ?_ ?_); (· assumption)) | ((with_reducible refine condP_no ?_ ?_); (· assumption)) | ((with_reducible refine ArP_i64 ?_ ?_); (· omega)) | ((with_reducible refine mustP.mk ?_ ?_); (· first | omega | rfl | (dsimp only; omega))) | (with_reducible refine EqP_nil tab_ok ?_) | (with_reducible refine EqP_sli tab_ok ?_) | (with_reducible refine DrawP_auto tab_ok (by kernel_rfl) (by decide +kernel) ?_) | (with_reducible refine DrawP_auto2 tab_ok (by kernel_rfl) (by decide +kernel) ?_) | (with_reducible refine eq29 ?_) | (with_reducible refine eq31 ?_) | (with_reducible refine eq48 ?_) | (with_reducible refine eq52 ?_) | (with_reducible refine eq83 ?_) | (with_reducible refine eq110 ?_) | (with_reducible refine eq136 ?_) | (with_reducible refine eq155 ?_) | (with_reducible refine eq163 ?_) | (with_reducible refine eq170 ?_) | (with_reducible refine CallP_enter tab_ok Try.func133 (fun vs w => by kernel_rfl) (by rfl) ?_) | (with_reducible refine CallP_enter tab_ok Try.func134 (fun vs w => by kernel_rfl) (by rfl) ?_))))
        exact ⟨rfl, rfl⟩
      by_cases c1 : 8191 < r.y
      · rw [if_pos (by omega)] at first
        rw [first (by omega)]
        (repeat ((try (conv => whnf)); (first | (refine ca _ ?_) | (with_reducible refine condP_true ?_) | (with_reducible refine condP_false ?_) | (with_reducible refine condP_not ?_) | (with_reducible refine condP_and ?_) | ((with_reducible refine condP_dt ?_ ?_); (· omega)) | ((with_reducible refine condP_df ?_ ?_); (· omega)) | ((with_reducible refine condP_yes ?_ ?_); (· assumption)) | ((with_reducible refine condP_no ?_ ?_); (· assumption)) | ((with_reducible refine ArP_i64 ?_ ?_); (· omega)) | ((with_reducible refine mustP.mk ?_ ?_); (· first | omega | rfl | (dsimp only; omega))) | (with_reducible refine EqP_nil tab_ok ?_) | (with_reducible refine EqP_sli tab_ok ?_) | (with_reducible refine DrawP_auto tab_ok (by kernel_rfl) (by decide +kernel) ?_) | (with_reducible refine DrawP_auto2 tab_ok (by kernel_rfl) (by decide +kernel) ?_) | (with_reducible refine eq29 ?_) | (with_reducible refine eq31 ?_) | (with_reducible refine eq48 ?_) | (with_reducible refine eq52 ?_) | (with_reducible refine eq83 ?_) | (with_reducible refine eq110 ?_) | (with_reducible refine eq136 ?_) | (with_reducible refine eq155 ?_) | (with_reducible refine eq163 ?_) | (with_reducible refine eq170 ?_) | (with_reducible refine CallP_enter tab_ok Try.func133 (fun vs w => by kernel_rfl) (by rfl) ?_) | (with_reducible refine CallP_enter tab_ok Try.func134 (fun vs w => by kernel_rfl) (by rfl) ?_))))
        exact ⟨rfl, rfl⟩
      by_cases c2 : r.x0 < -8192
      · rw [if_pos (by omega)] at first
        rw [first (by omega)]
        (repeat ((try (conv => whnf)); (first | (refine ca _ ?_) | (with_reducible refine condP_true ?_) | (with_reducible refine condP_false ?_) | (with_reducible refine condP_not ?_) | (with_reducible refine condP_and ?_) | ((with_reducible refine condP_dt ?_ ?_); (· omega)) | ((with_reducible refine condP_df ?_ ?_); (· omega)) | ((with_reducible refine condP_yes ?_ ?_); (· assumption)) | ((with_reducible refine condP_no ?_ ?_); (· assumption)) | ((with_reducible refine ArP_i64 ?_ ?_); (· omega)) | ((with_reducible refine mustP.mk ?_ ?_); (· first | omega | rfl | (dsimp only; omega))) | (with_reducible refine EqP_nil tab_ok ?_) | (with_reducible refine EqP_sli tab_ok ?_) | (with_reducible refine DrawP_auto tab_ok (by kernel_rfl) (by decide +kernel) ?_) | (with_reducible refine DrawP_auto2 tab_ok (by kernel_rfl) (by decide +kernel) ?_) | (with_reducible refine eq29 ?_) | (with_reducible refine eq31 ?_) | (with_reducible refine eq48 ?_) | (with_reducible refine eq52 ?_) | (with_reducible refine eq83 ?_) | (with_reducible refine eq110 ?_) | (with_reducible refine eq136 ?_) | (with_reducible refine eq155 ?_) | (with_reducible refine eq163 ?_) | (with_reducible refine eq170 ?_) | (with_reducible refine CallP_enter tab_ok Try.func133 (fun vs w => by kernel_rfl) (by rfl) ?_) | (with_reducible refine CallP_enter tab_ok Try.func134 (fun vs w => by kernel_rfl) (by rfl) ?_))))
        exact ⟨rfl, rfl⟩
      by_cases c3 : 8192 < r.x0
      · rw [if_pos (by omega)] at first
        rw [first (by omega)]
        (repeat ((try (conv => whnf)); (first | (refine ca _ ?_) | (with_reducible refine condP_true ?_) | (with_reducible refine condP_false ?_) | (with_reducible refine condP_not ?_) | (with_reducible refine condP_and ?_) | ((with_reducible refine condP_dt ?_ ?_); (· omega)) | ((with_reducible refine condP_df ?_ ?_); (· omega)) | ((with_reducible refine condP_yes ?_ ?_); (· assumption)) | ((with_reducible refine condP_no ?_ ?_); (· assumption)) | ((with_reducible refine ArP_i64 ?_ ?_); (· omega)) | ((with_reducible refine mustP.mk ?_ ?_); (· first | omega | rfl | (dsimp only; omega))) | (with_reducible refine EqP_nil tab_ok ?_) | (with_reducible refine EqP_sli tab_ok ?_) | (with_reducible refine DrawP_auto tab_ok (by kernel_rfl) (by decide +kernel) ?_) | (with_reducible refine DrawP_auto2 tab_ok (by kernel_rfl) (by decide +kernel) ?_) | (with_reducible refine eq29 ?_) | (with_reducible refine eq31 ?_) | (with_reducible refine eq48 ?_) | (with_reducible refine eq52 ?_) | (with_reducible refine eq83 ?_) | (with_reducible refine eq110 ?_) | (with_reducible refine eq136 ?_) | (with_reducible refine eq155 ?_) | (with_reducible refine eq163 ?_) | (with_reducible refine eq170 ?_) | (with_reducible refine CallP_enter tab_ok Try.func133 (fun vs w => by kernel_rfl) (by rfl) ?_) | (with_reducible refine CallP_enter tab_ok Try.func134 (fun vs w => by kernel_rfl) (by rfl) ?_))))
        exact ⟨rfl, rfl⟩
      by_cases c4 : r.x1 < -8192
      · rw [if_pos (by omega)] at first
        rw [first (by omega)]
        (repeat ((try (conv => whnf)); (first | (refine ca _ ?_) | (with_reducible refine condP_true ?_) | (with_reducible refine condP_false ?_) | (with_reducible refine condP_not ?_) | (with_reducible refine condP_and ?_) | ((with_reducible refine condP_dt ?_ ?_); (· omega)) | ((with_reducible refine condP_df ?_ ?_); (· omega)) | ((with_reducible refine condP_yes ?_ ?_); (· assumption)) | ((with_reducible refine condP_no ?_ ?_); (· assumption)) | ((with_reducible refine ArP_i64 ?_ ?_); (· omega)) | ((with_reducible refine mustP.mk ?_ ?_); (· first | omega | rfl | (dsimp only; omega))) | (with_reducible refine EqP_nil tab_ok ?_) | (with_reducible refine EqP_sli tab_ok ?_) | (with_reducible refine DrawP_auto tab_ok (by kernel_rfl) (by decide +kernel) ?_) | (with_reducible refine DrawP_auto2 tab_ok (by kernel_rfl) (by decide +kernel) ?_) | (with_reducible refine eq29 ?_) | (with_reducible refine eq31 ?_) | (with_reducible refine eq48 ?_) | (with_reducible refine eq52 ?_) | (with_reducible refine eq83 ?_) | (with_reducible refine eq110 ?_) | (with_reducible refine eq136 ?_) | (with_reducible refine eq155 ?_) | (with_reducible refine eq163 ?_) | (with_reducible refine eq170 ?_) | (with_reducible refine CallP_enter tab_ok Try.func133 (fun vs w => by kernel_rfl) (by rfl) ?_) | (with_reducible refine CallP_enter tab_ok Try.func134 (fun vs w => by kernel_rfl) (by rfl) ?_))))
        exact ⟨rfl, rfl⟩
      by_cases c5 : 8192 < r.x1
      · rw [if_pos (by omega)] at first
        rw [first (by omega)]
        (repeat ((try (conv => whnf)); (first | (refine ca _ ?_) | (with_reducible refine condP_true ?_) | (with_reducible refine condP_false ?_) | (with_reducible refine condP_not ?_) | (with_reducible refine condP_and ?_) | ((with_reducible refine condP_dt ?_ ?_); (· omega)) | ((with_reducible refine condP_df ?_ ?_); (· omega)) | ((with_reducible refine condP_yes ?_ ?_); (· assumption)) | ((with_reducible refine condP_no ?_ ?_); (· assumption)) | ((with_reducible refine ArP_i64 ?_ ?_); (· omega)) | ((with_reducible refine mustP.mk ?_ ?_); (· first | omega | rfl | (dsimp only; omega))) | (with_reducible refine EqP_nil tab_ok ?_) | (with_reducible refine EqP_sli tab_ok ?_) | (with_reducible refine DrawP_auto tab_ok (by kernel_rfl) (by decide +kernel) ?_) | (with_reducible refine DrawP_auto2 tab_ok (by kernel_rfl) (by decide +kernel) ?_) | (with_reducible refine eq29 ?_) | (with_reducible refine eq31 ?_) | (with_reducible refine eq48 ?_) | (with_reducible refine eq52 ?_) | (with_reducible refine eq83 ?_) | (with_reducible refine eq110 ?_) | (with_reducible refine eq136 ?_) | (with_reducible refine eq155 ?_) | (with_reducible refine eq163 ?_) | (with_reducible refine eq170 ?_) | (with_reducible refine CallP_enter tab_ok Try.func133 (fun vs w => by kernel_rfl) (by rfl) ?_) | (with_reducible refine CallP_enter tab_ok Try.func134 (fun vs w => by kernel_rfl) (by rfl) ?_))))
        exact ⟨rfl, rfl⟩
      rw [if_neg (by omega)] at first next
      by_cases c6 : r.x1 ≤ r.x0
      · rw [if_pos c6] at first
        rw [first (by omega)]
        (repeat ((try (conv => whnf)); (first | (refine ca _ ?_) | (with_reducible refine condP_true ?_) | (with_reducible refine condP_false ?_) | (with_reducible refine condP_not ?_) | (with_reducible refine condP_and ?_) | ((with_reducible refine condP_dt ?_ ?_); (· omega)) | ((with_reducible refine condP_df ?_ ?_); (· omega)) | ((with_reducible refine condP_yes ?_ ?_); (· assumption)) | ((with_reducible refine condP_no ?_ ?_); (· assumption)) | ((with_reducible refine ArP_i64 ?_ ?_); (· omega)) | ((with_reducible refine mustP.mk ?_ ?_); (· first | omega | rfl | (dsimp only; omega))) | (with_reducible refine EqP_nil tab_ok ?_) | (with_reducible refine EqP_sli tab_ok ?_) | (with_reducible refine DrawP_auto tab_ok (by kernel_rfl) (by decide +kernel) ?_) | (with_reducible refine DrawP_auto2 tab_ok (by kernel_rfl) (by decide +kernel) ?_) | (with_reducible refine eq29 ?_) | (with_reducible refine eq31 ?_) | (with_reducible refine eq48 ?_) | (with_reducible refine eq52 ?_) | (with_reducible refine eq83 ?_) | (with_reducible refine eq110 ?_) | (with_reducible refine eq136 ?_) | (with_reducible refine eq155 ?_) | (with_reducible refine eq163 ?_) | (with_reducible refine eq170 ?_) | (with_reducible refine CallP_enter tab_ok Try.func133 (fun vs w => by kernel_rfl) (by rfl) ?_) | (with_reducible refine CallP_enter tab_ok Try.func134 (fun vs w => by kernel_rfl) (by rfl) ?_))))
        exact ⟨rfl, rfl⟩
      rw [if_neg c6] at first next
      rcases i with _ | m
      · rw [if_neg (by omega)] at next
        (repeat ((try (conv => whnf)); (first | (refine ca _ ?_) | (with_reducible refine condP_true ?_) | (with_reducible refine condP_false ?_) | (with_reducible refine condP_not ?_) | (with_reducible refine condP_and ?_) | ((with_reducible refine condP_dt ?_ ?_); (· omega)) | ((with_reducible refine condP_df ?_ ?_); (· omega)) | ((with_reducible refine condP_yes ?_ ?_); (· assumption)) | ((with_reducible refine condP_no ?_ ?_); (· assumption)) | ((with_reducible refine ArP_i64 ?_ ?_); (· omega)) | ((with_reducible refine mustP.mk ?_ ?_); (· first | omega | rfl | (dsimp only; omega))) | (with_reducible refine EqP_nil tab_ok ?_) | (with_reducible refine EqP_sli tab_ok ?_) | (with_reducible refine DrawP_auto tab_ok (by kernel_rfl) (by decide +kernel) ?_) | (with_reducible refine DrawP_auto2 tab_ok (by kernel_rfl) (by decide +kernel) ?_) | (with_reducible refine eq29 ?_) | (with_reducible refine eq31 ?_) | (with_reducible refine eq48 ?_) | (with_reducible refine eq52 ?_) | (with_reducible refine eq83 ?_) | (with_reducible refine eq110 ?_) | (with_reducible refine eq136 ?_) | (with_reducible refine eq155 ?_) | (with_reducible refine eq163 ?_) | (with_reducible refine eq170 ?_) | (with_reducible refine CallP_enter tab_ok Try.func133 (fun vs w => by kernel_rfl) (by rfl) ?_) | (with_reducible refine CallP_enter tab_ok Try.func134 (fun vs w => by kernel_rfl) (by rfl) ?_))))
        refine ⟨1, ⟨by omega, next rfl⟩, by omega, ?_⟩
        ((refine Le_head ?_); (conv => whnf); (refine Le_mk (by rfl) (by rfl) ?_ ?_); (· (repeat (first | (with_reducible exact frLe_nil) | (with_reducible refine frLe_any ?_) | (with_reducible refine frLe_val ?_) | ((with_reducible refine frLe_eq rfl ?_ ?_); (· rfl)) | ((with_reducible refine frLe_val' (int_eq ?_) ?_ ?_); (· omega); (· rfl)) | ((with_reducible refine frLe_val' (int_eq ?_) ?_ ?_); (· simp only [Int.natCast_add, Int.natCast_one, Int.natCast_ofNat] <;> omega); (· rfl)) | ((with_reducible refine frLe_val' (bool_eq ?_) ?_ ?_); (· first | assumption | (symm; assumption)); (· rfl))))))
        exact hpLe_nil
      · obtain ⟨q, hq⟩ : ∃ q, L[m]? = some q := ⟨L[m], List.getElem?_eq_getElem (by omega)⟩
        obtain ⟨p', he, q0, q1, q2⟩ := hR.at_ hq
        cases he
        have hix : (((m + 1 : Nat) : Int) - 1).toNat = m := by omega
        rw [← hix] at q0 q1 q2
        rw [Nat.add_sub_cancel, nthR_get hq] at first next
        by_cases d0 : r.y < q.y
        · rw [if_pos (by omega)] at first
          rw [first (by omega)]
          (repeat ((try (conv => whnf)); (first | (refine ca _ ?_) | (refine OldCells_one _ q0 ?_) | (refine OldCells_one _ q2 ?_) | (with_reducible refine condP_true ?_) | (with_reducible refine condP_false ?_) | (with_reducible refine condP_not ?_) | (with_reducible refine condP_and ?_) | ((with_reducible refine condP_dt ?_ ?_); (· omega)) | ((with_reducible refine condP_df ?_ ?_); (· omega)) | ((with_reducible refine condP_yes ?_ ?_); (· assumption)) | ((with_reducible refine condP_no ?_ ?_); (· assumption)) | ((with_reducible refine ArP_i64 ?_ ?_); (· omega)) | ((with_reducible refine mustP.mk ?_ ?_); (· first | omega | rfl | (dsimp only; omega))) | (with_reducible refine EqP_nil tab_ok ?_) | (with_reducible refine EqP_sli tab_ok ?_) | (with_reducible refine DrawP_auto tab_ok (by kernel_rfl) (by decide +kernel) ?_) | (with_reducible refine DrawP_auto2 tab_ok (by kernel_rfl) (by decide +kernel) ?_) | (with_reducible refine eq29 ?_) | (with_reducible refine eq31 ?_) | (with_reducible refine eq48 ?_) | (with_reducible refine eq52 ?_) | (with_reducible refine eq83 ?_) | (with_reducible refine eq110 ?_) | (with_reducible refine eq136 ?_) | (with_reducible refine eq155 ?_) | (with_reducible refine eq163 ?_) | (with_reducible refine eq170 ?_) | (with_reducible refine CallP_enter tab_ok Try.func133 (fun vs w => by kernel_rfl) (by rfl) ?_) | (with_reducible refine CallP_enter tab_ok Try.func134 (fun vs w => by kernel_rfl) (by rfl) ?_))))
          exact ⟨rfl, rfl⟩
        by_cases d1 : r.y = q.y ∧ r.x0 ≤ q.x1
        · obtain ⟨d1, d2⟩ := d1
          rw [if_pos (by omega)] at first
          rw [first (by omega)]
          (repeat ((try (conv => whnf)); (first | (refine ca _ ?_) | (refine OldCells_one _ q0 ?_) | (refine OldCells_one _ q2 ?_) | (with_reducible refine condP_true ?_) | (with_reducible refine condP_false ?_) | (with_reducible refine condP_not ?_) | (with_reducible refine condP_and ?_) | ((with_reducible refine condP_dt ?_ ?_); (· omega)) | ((with_reducible refine condP_df ?_ ?_); (· omega)) | ((with_reducible refine condP_yes ?_ ?_); (· assumption)) | ((with_reducible refine condP_no ?_ ?_); (· assumption)) | ((with_reducible refine ArP_i64 ?_ ?_); (· omega)) | ((with_reducible refine mustP.mk ?_ ?_); (· first | omega | rfl | (dsimp only; omega))) | (with_reducible refine EqP_nil tab_ok ?_) | (with_reducible refine EqP_sli tab_ok ?_) | (with_reducible refine DrawP_auto tab_ok (by kernel_rfl) (by decide +kernel) ?_) | (with_reducible refine DrawP_auto2 tab_ok (by kernel_rfl) (by decide +kernel) ?_) | (with_reducible refine eq29 ?_) | (with_reducible refine eq31 ?_) | (with_reducible refine eq48 ?_) | (with_reducible refine eq52 ?_) | (with_reducible refine eq83 ?_) | (with_reducible refine eq110 ?_) | (with_reducible refine eq136 ?_) | (with_reducible refine eq155 ?_) | (with_reducible refine eq163 ?_) | (with_reducible refine eq170 ?_) | (with_reducible refine CallP_enter tab_ok Try.func133 (fun vs w => by kernel_rfl) (by rfl) ?_) | (with_reducible refine CallP_enter tab_ok Try.func134 (fun vs w => by kernel_rfl) (by rfl) ?_))))
          exact ⟨rfl, rfl⟩
        rw [if_neg (by omega)] at next
        by_cases d2 : r.y = q.y
        · (repeat ((try (conv => whnf)); (first | (refine ca _ ?_) | (refine OldCells_one _ q0 ?_) | (refine OldCells_one _ q2 ?_) | (with_reducible refine condP_true ?_) | (with_reducible refine condP_false ?_) | (with_reducible refine condP_not ?_) | (with_reducible refine condP_and ?_) | ((with_reducible refine condP_dt ?_ ?_); (· omega)) | ((with_reducible refine condP_df ?_ ?_); (· omega)) | ((with_reducible refine condP_yes ?_ ?_); (· assumption)) | ((with_reducible refine condP_no ?_ ?_); (· assumption)) | ((with_reducible refine ArP_i64 ?_ ?_); (· omega)) | ((with_reducible refine mustP.mk ?_ ?_); (· first | omega | rfl | (dsimp only; omega))) | (with_reducible refine EqP_nil tab_ok ?_) | (with_reducible refine EqP_sli tab_ok ?_) | (with_reducible refine DrawP_auto tab_ok (by kernel_rfl) (by decide +kernel) ?_) | (with_reducible refine DrawP_auto2 tab_ok (by kernel_rfl) (by decide +kernel) ?_) | (with_reducible refine eq29 ?_) | (with_reducible refine eq31 ?_) | (with_reducible refine eq48 ?_) | (with_reducible refine eq52 ?_) | (with_reducible refine eq83 ?_) | (with_reducible refine eq110 ?_) | (with_reducible refine eq136 ?_) | (with_reducible refine eq155 ?_) | (with_reducible refine eq163 ?_) | (with_reducible refine eq170 ?_) | (with_reducible refine CallP_enter tab_ok Try.func133 (fun vs w => by kernel_rfl) (by rfl) ?_) | (with_reducible refine CallP_enter tab_ok Try.func134 (fun vs w => by kernel_rfl) (by rfl) ?_))))
          refine ⟨m + 1 + 1, ⟨by omega, next rfl⟩, by omega, ?_⟩
          ((refine Le_head ?_); (conv => whnf); (refine Le_mk (by rfl) (by rfl) ?_ ?_); (· (repeat (first | (with_reducible exact frLe_nil) | (with_reducible refine frLe_any ?_) | (with_reducible refine frLe_val ?_) | ((with_reducible refine frLe_eq rfl ?_ ?_); (· rfl)) | ((with_reducible refine frLe_val' (int_eq ?_) ?_ ?_); (· omega); (· rfl)) | ((with_reducible refine frLe_val' (int_eq ?_) ?_ ?_); (· simp only [Int.natCast_add, Int.natCast_one, Int.natCast_ofNat] <;> omega); (· rfl)) | ((with_reducible refine frLe_val' (bool_eq ?_) ?_ ?_); (· first | assumption | (symm; assumption)); (· rfl))))))
          exact hpLe_nil
        · (repeat ((try (conv => whnf)); (first | (refine ca _ ?_) | (refine OldCells_one _ q0 ?_) | (refine OldCells_one _ q2 ?_) | (with_reducible refine condP_true ?_) | (with_reducible refine condP_false ?_) | (with_reducible refine condP_not ?_) | (with_reducible refine condP_and ?_) | ((with_reducible refine condP_dt ?_ ?_); (· omega)) | ((with_reducible refine condP_df ?_ ?_); (· omega)) | ((with_reducible refine condP_yes ?_ ?_); (· assumption)) | ((with_reducible refine condP_no ?_ ?_); (· assumption)) | ((with_reducible refine ArP_i64 ?_ ?_); (· omega)) | ((with_reducible refine mustP.mk ?_ ?_); (· first | omega | rfl | (dsimp only; omega))) | (with_reducible refine EqP_nil tab_ok ?_) | (with_reducible refine EqP_sli tab_ok ?_) | (with_reducible refine DrawP_auto tab_ok (by kernel_rfl) (by decide +kernel) ?_) | (with_reducible refine DrawP_auto2 tab_ok (by kernel_rfl) (by decide +kernel) ?_) | (with_reducible refine eq29 ?_) | (with_reducible refine eq31 ?_) | (with_reducible refine eq48 ?_) | (with_reducible refine eq52 ?_) | (with_reducible refine eq83 ?_) | (with_reducible refine eq110 ?_) | (with_reducible refine eq136 ?_) | (with_reducible refine eq155 ?_) | (with_reducible refine eq163 ?_) | (with_reducible refine eq170 ?_) | (with_reducible refine CallP_enter tab_ok Try.func133 (fun vs w => by kernel_rfl) (by rfl) ?_) | (with_reducible refine CallP_enter tab_ok Try.func134 (fun vs w => by kernel_rfl) (by rfl) ?_))))
          refine ⟨m + 1 + 1, ⟨by omega, next rfl⟩, by omega, ?_⟩
          ((refine Le_head ?_); (conv => whnf); (refine Le_mk (by rfl) (by rfl) ?_ ?_); (· (repeat (first | (with_reducible exact frLe_nil) | (with_reducible refine frLe_any ?_) | (with_reducible refine frLe_val ?_) | ((with_reducible refine frLe_eq rfl ?_ ?_); (· rfl)) | ((with_reducible refine frLe_val' (int_eq ?_) ?_ ?_); (· omega); (· rfl)) | ((with_reducible refine frLe_val' (int_eq ?_) ?_ ?_); (· simp only [Int.natCast_add, Int.natCast_one, Int.natCast_ofNat] <;> omega); (· rfl)) | ((with_reducible refine frLe_val' (bool_eq ?_) ?_ ?_); (· first | assumption | (symm; assumption)); (· rfl))))))
          exact hpLe_nil
    · obtain rfl : i = L.length := by omega
      (repeat ((try (conv => whnf)); (first | (with_reducible refine condP_true ?_) | (with_reducible refine condP_false ?_) | (with_reducible refine condP_not ?_) | (with_reducible refine condP_and ?_) | ((with_reducible refine condP_dt ?_ ?_); (· omega)) | ((with_reducible refine condP_df ?_ ?_); (· omega)) | ((with_reducible refine condP_yes ?_ ?_); (· assumption)) | ((with_reducible refine condP_no ?_ ?_); (· assumption)) | ((with_reducible refine ArP_i64 ?_ ?_); (· omega)) | ((with_reducible refine mustP.mk ?_ ?_); (· first | omega | rfl | (dsimp only; omega))) | (with_reducible refine EqP_nil tab_ok ?_) | (with_reducible refine EqP_sli tab_ok ?_) | (with_reducible refine DrawP_auto tab_ok (by kernel_rfl) (by decide +kernel) ?_) | (with_reducible refine DrawP_auto2 tab_ok (by kernel_rfl) (by decide +kernel) ?_) | (with_reducible refine eq29 ?_) | (with_reducible refine eq31 ?_) | (with_reducible refine eq48 ?_) | (with_reducible refine eq52 ?_) | (with_reducible refine eq83 ?_) | (with_reducible refine eq110 ?_) | (with_reducible refine eq136 ?_) | (with_reducible refine eq155 ?_) | (with_reducible refine eq163 ?_) | (with_reducible refine eq170 ?_))))
      exact ⟨by rw [show errL L = 0 from h0], rfl⟩
set_option maxHeartbeats 2000000 in
theorem RCheck_gives {A : Option Addr} {L : List Run} {c : Nat} {G : Mem} (hR : RunsM G A L) (hc : L.length ≤ c) (hm : c ≤ maxLen) : Gives Try.prog 112 [.val (.slice A L.length c)] G (.val (.int .i64 (errL L))) := by
  unfold maxLen at hm
  refine Gives_of tab_ok Try.func112 ?_
  (repeat ((try (conv => whnf)); (first | (with_reducible refine condP_true ?_) | (with_reducible refine condP_false ?_) | (with_reducible refine condP_not ?_) | (with_reducible refine condP_and ?_) | ((with_reducible refine condP_dt ?_ ?_); (· omega)) | ((with_reducible refine condP_df ?_ ?_); (· omega)) | ((with_reducible refine condP_yes ?_ ?_); (· assumption)) | ((with_reducible refine condP_no ?_ ?_); (· assumption)) | ((with_reducible refine ArP_i64 ?_ ?_); (· omega)) | ((with_reducible refine mustP.mk ?_ ?_); (· first | omega | rfl | (dsimp only; omega))) | (with_reducible refine EqP_nil tab_ok ?_) | (with_reducible refine EqP_sli tab_ok ?_) | (with_reducible refine DrawP_auto tab_ok (by kernel_rfl) (by decide +kernel) ?_) | (with_reducible refine DrawP_auto2 tab_ok (by kernel_rfl) (by decide +kernel) ?_) | (with_reducible refine eq29 ?_) | (with_reducible refine eq31 ?_) | (with_reducible refine eq48 ?_) | (with_reducible refine eq52 ?_) | (with_reducible refine eq83 ?_) | (with_reducible refine eq110 ?_) | (with_reducible refine eq136 ?_) | (with_reducible refine eq155 ?_) | (with_reducible refine eq163 ?_) | (with_reducible refine eq170 ?_))))
  conv => whnf
  refine LoopP_at tab_ok (fun i => i ≤ L.length ∧ regV (nthR L) i = 0) (fun (i : Nat) => [(7, .val (.int .i64 i))]) (fun i => []) (fun i => L.length - i) 0 ⟨Nat.zero_le _, rfl⟩ ?_ ?_
  · ((refine Le_head ?_); (conv => whnf); (refine Le_mk (by rfl) (by rfl) ?_ ?_); (· (repeat (first | (with_reducible exact frLe_nil) | (with_reducible refine frLe_any ?_) | (with_reducible refine frLe_val ?_) | ((with_reducible refine frLe_eq rfl ?_ ?_); (· rfl)) | ((with_reducible refine frLe_val' (int_eq ?_) ?_ ?_); (· omega); (· rfl)) | ((with_reducible refine frLe_val' (int_eq ?_) ?_ ?_); (· simp only [Int.natCast_add, Int.natCast_one, Int.natCast_ofNat] <;> omega); (· rfl)) | ((with_reducible refine frLe_val' (bool_eq ?_) ?_ ?_); (· first | assumption | (symm; assumption)); (· rfl))))))
    exact hpLe_nil
  · rintro i ⟨hi, h0⟩
    rcases Nat.lt_or_ge i L.length with h1 | h1
    · obtain ⟨r, hr⟩ : ∃ r, L[i]? = some r := ⟨L[i], List.getElem?_eq_getElem h1⟩
      obtain ⟨p, rfl, ca⟩ := hR.cells hr
      have hn := nthR_get hr
      have first := fun h => errL_first h0 h1 h
      have next := fun h => regV_next (rs := nthR L) (k := i) h0 h
      have herr : runErr (nthR L) i = if r.y < -8192 ∨ 8191 < r.y ∨ r.x0 < -8192 ∨ 8192 < r.x0 ∨ r.x1 < -8192 ∨ 8192 < r.x1 then 3 else if r.x1 ≤ r.x0 then 4 else if 0 < i ∧ r.y ≤ (nthR L (i - 1)).y ∧ (r.y < (nthR L (i - 1)).y ∨ r.x0 ≤ (nthR L (i - 1)).x1) then 18 else 0 := by unfold runErr; rw [hn]
      rw [herr] at first next
      clear herr
      by_cases c0 : r.y < -8192
      · rw [if_pos (by omega)] at first
        rw [first (by omega)]
        (repeat ((try (conv => whnf)); (first | (refine ca _ ?_) | (with_reducible refine condP_true ?_) | (with_reducible refine condP_false ?_) | (with_reducible refine condP_not ?_) | (with_reducible refine condP_and ?_) | ((with_reducible refine condP_dt ?_ ?_); (· omega)) | ((with_reducible refine condP_df ?_ ?_); (· omega)) | ((with_reducible refine condP_yes ?_ ?_); (· assumption)) | ((with_reducible refine condP_no ?_ ?_); (· assumption)) | ((with_reducible refine ArP_i64 ?_ ?_); (· omega)) | ((with_reducible refine mustP.mk ?_ ?_); (· first | omega | rfl | (dsimp only; omega))) | (with_reducible refine EqP_nil tab_ok ?_) | (with_reducible refine EqP_sli tab_ok ?_) | (with_reducible refine DrawP_auto tab_ok (by kernel_rfl) (by decide +kernel) ?_) | (with_reducible refine DrawP_auto2 tab_ok (by kernel_rfl) (by decide +kernel) ?_) | (with_reducible refine eq29 ?_) | (with_reducible refine eq31 ?_) | (with_reducible refine eq48 ?_) | (with_reducible refine eq52 ?_) | (with_reducible refine eq83 ?_) | (with_reducible refine eq110 ?_) | (with_reducible refine eq136 ?_) | (with_reducible refine eq155 ?_) | (with_reducible refine eq163 ?_) | (with_reducible refine eq170 ?_) | (with_reducible refine CallP_enter tab_ok Try.func16 (fun vs w => by kernel_rfl) (by rfl) ?_))))
        exact ⟨rfl, rfl⟩
      by_cases c1 : 8191 < r.y
      · rw [if_pos (by omega)] at first
        rw [first (by omega)]
        (repeat ((try (conv => whnf)); (first | (refine ca _ ?_) | (with_reducible refine condP_true ?_) | (with_reducible refine condP_false ?_) | (with_reducible refine condP_not ?_) | (with_reducible refine condP_and ?_) | ((with_reducible refine condP_dt ?_ ?_); (· omega)) | ((with_reducible refine condP_df ?_ ?_); (· omega)) | ((with_reducible refine condP_yes ?_ ?_); (· assumption)) | ((with_reducible refine condP_no ?_ ?_); (· assumption)) | ((with_reducible refine ArP_i64 ?_ ?_); (· omega)) | ((with_reducible refine mustP.mk ?_ ?_); (· first | omega | rfl | (dsimp only; omega))) | (with_reducible refine EqP_nil tab_ok ?_) | (with_reducible refine EqP_sli tab_ok ?_) | (with_reducible refine DrawP_auto tab_ok (by kernel_rfl) (by decide +kernel) ?_) | (with_reducible refine DrawP_auto2 tab_ok (by kernel_rfl) (by decide +kernel) ?_) | (with_reducible refine eq29 ?_) | (with_reducible refine eq31 ?_) | (with_reducible refine eq48 ?_) | (with_reducible refine eq52 ?_) | (with_reducible refine eq83 ?_) | (with_reducible refine eq110 ?_) | (with_reducible refine eq136 ?_) | (with_reducible refine eq155 ?_) | (with_reducible refine eq163 ?_) | (with_reducible refine eq170 ?_) | (with_reducible refine CallP_enter tab_ok Try.func16 (fun vs w => by kernel_rfl) (by rfl) ?_))))
        exact ⟨rfl, rfl⟩
      by_cases c2 : r.x0 < -8192
      · rw [if_pos (by omega)] at first
        rw [first (by omega)]
        (repeat ((try (conv => whnf)); (first | (refine ca _ ?_) | (with_reducible refine condP_true ?_) | (with_reducible refine condP_false ?_) | (with_reducible refine condP_not ?_) | (with_reducible refine condP_and ?_) | ((with_reducible refine condP_dt ?_ ?_); (· omega)) | ((with_reducible refine condP_df ?_ ?_); (· omega)) | ((with_reducible refine condP_yes ?_ ?_); (· assumption)) | ((with_reducible refine condP_no ?_ ?_); (· assumption)) | ((with_reducible refine ArP_i64 ?_ ?_); (· omega)) | ((with_reducible refine mustP.mk ?_ ?_); (· first | omega | rfl | (dsimp only; omega))) | (with_reducible refine EqP_nil tab_ok ?_) | (with_reducible refine EqP_sli tab_ok ?_) | (with_reducible refine DrawP_auto tab_ok (by kernel_rfl) (by decide +kernel) ?_) | (with_reducible refine DrawP_auto2 tab_ok (by kernel_rfl) (by decide +kernel) ?_) | (with_reducible refine eq29 ?_) | (with_reducible refine eq31 ?_) | (with_reducible refine eq48 ?_) | (with_reducible refine eq52 ?_) | (with_reducible refine eq83 ?_) | (with_reducible refine eq110 ?_) | (with_reducible refine eq136 ?_) | (with_reducible refine eq155 ?_) | (with_reducible refine eq163 ?_) | (with_reducible refine eq170 ?_) | (with_reducible refine CallP_enter tab_ok Try.func16 (fun vs w => by kernel_rfl) (by rfl) ?_))))
        exact ⟨rfl, rfl⟩
      by_cases c3 : 8192 < r.x0
      · rw [if_pos (by omega)] at first
        rw [first (by omega)]
        (repeat ((try (conv => whnf)); (first | (refine ca _ ?_) | (with_reducible refine condP_true ?_) | (with_reducible refine condP_false ?_) | (with_reducible refine condP_not ?_) | (with_reducible refine condP_and ?_) | ((with_reducible refine condP_dt ?_ ?_); (· omega)) | ((with_reducible refine condP_df ?_ ?_); (· omega)) | ((with_reducible refine condP_yes ?_ ?_); (· assumption)) | ((with_reducible refine condP_no ?_ ?_); (· assumption)) | ((with_reducible refine ArP_i64 ?_ ?_); (· omega)) | ((with_reducible refine mustP.mk ?_ ?_); (· first | omega | rfl | (dsimp only; omega))) | (with_reducible refine EqP_nil tab_ok ?_) | (with_reducible refine EqP_sli tab_ok ?_) | (with_reducible refine DrawP_auto tab_ok (by kernel_rfl) (by decide +kernel) ?_) | (with_reducible refine DrawP_auto2 tab_ok (by kernel_rfl) (by decide +kernel) ?_) | (with_reducible refine eq29 ?_) | (with_reducible refine eq31 ?_) | (with_reducible refine eq48 ?_) | (with_reducible refine eq52 ?_) | (with_reducible refine eq83 ?_) | (with_reducible refine eq110 ?_) | (with_reducible refine eq136 ?_) | (with_reducible refine eq155 ?_) | (with_reducible refine eq163 ?_) | (with_reducible refine eq170 ?_) | (with_reducible refine CallP_enter tab_ok Try.func16 (fun vs w => by kernel_rfl) (by rfl) ?_))))
        exact ⟨rfl, rfl⟩
      by_cases c4 : r.x1 < -8192
      · rw [if_pos (by omega)] at first
        rw [first (by omega)]
        (repeat ((try (conv => whnf)); (first | (refine ca _ ?_) | (with_reducible refine condP_true ?_) | (with_reducible refine condP_false ?_) | (with_reducible refine condP_not ?_) | (with_reducible refine condP_and ?_) | ((with_reducible refine condP_dt ?_ ?_); (· omega)) | ((with_reducible refine condP_df ?_ ?_); (· omega)) | ((with_reducible refine condP_yes ?_ ?_); (· assumption)) | ((with_reducible refine condP_no ?_ ?_); (· assumption)) | ((with_reducible refine ArP_i64 ?_ ?_); (· omega)) | ((with_reducible refine mustP.mk ?_ ?_); (· first | omega | rfl | (dsimp only; omega))) | (with_reducible refine EqP_nil tab_ok ?_) | (with_reducible refine EqP_sli tab_ok ?_) | (with_reducible refine DrawP_auto tab_ok (by kernel_rfl) (by decide +kernel) ?_) | (with_reducible refine DrawP_auto2 tab_ok (by kernel_rfl) (by decide +kernel) ?_) | (with_reducible refine eq29 ?_) | (with_reducible refine eq31 ?_) | (with_reducible refine eq48 ?_) | (with_reducible refine eq52 ?_) | (with_reducible refine eq83 ?_) | (with_reducible refine eq110 ?_) | (with_reducible refine eq136 ?_) | (with_reducible refine eq155 ?_) | (with_reducible refine eq163 ?_) | (with_reducible refine eq170 ?_) | (with_reducible refine CallP_enter tab_ok Try.func16 (fun vs w => by kernel_rfl) (by rfl) ?_))))
        exact ⟨rfl, rfl⟩
      by_cases c5 : 8192 < r.x1
      · rw [if_pos (by omega)] at first
        rw [first (by omega)]
        (repeat ((try (conv => whnf)); (first | (refine ca _ ?_) | (with_reducible refine condP_true ?_) | (with_reducible refine condP_false ?_) | (with_reducible refine condP_not ?_) | (with_reducible refine condP_and ?_) | ((with_reducible refine condP_dt ?_ ?_); (· omega)) | ((with_reducible refine condP_df ?_ ?_); (· omega)) | ((with_reducible refine condP_yes ?_ ?_); (· assumption)) | ((with_reducible refine condP_no ?_ ?_); (· assumption)) | ((with_reducible refine ArP_i64 ?_ ?_); (· omega)) | ((with_reducible refine mustP.mk ?_ ?_); (· first | omega | rfl | (dsimp only; omega))) | (with_reducible refine EqP_nil tab_ok ?_) | (with_reducible refine EqP_sli tab_ok ?_) | (with_reducible refine DrawP_auto tab_ok (by kernel_rfl) (by decide +kernel) ?_) | (with_reducible refine DrawP_auto2 tab_ok (by kernel_rfl) (by decide +kernel) ?_) | (with_reducible refine eq29 ?_) | (with_reducible refine eq31 ?_) | (with_reducible refine eq48 ?_) | (with_reducible refine eq52 ?_) | (with_reducible refine eq83 ?_) | (with_reducible refine eq110 ?_) | (with_reducible refine eq136 ?_) | (with_reducible refine eq155 ?_) | (with_reducible refine eq163 ?_) | (with_reducible refine eq170 ?_) | (with_reducible refine CallP_enter tab_ok Try.func16 (fun vs w => by kernel_rfl) (by rfl) ?_))))
        exact ⟨rfl, rfl⟩
      rw [if_neg (by omega)] at first next
      by_cases c6 : r.x1 ≤ r.x0
      · rw [if_pos c6] at first
        rw [first (by omega)]
        (repeat ((try (conv => whnf)); (first | (refine ca _ ?_) | (with_reducible refine condP_true ?_) | (with_reducible refine condP_false ?_) | (with_reducible refine condP_not ?_) | (with_reducible refine condP_and ?_) | ((with_reducible refine condP_dt ?_ ?_); (· omega)) | ((with_reducible refine condP_df ?_ ?_); (· omega)) | ((with_reducible refine condP_yes ?_ ?_); (· assumption)) | ((with_reducible refine condP_no ?_ ?_); (· assumption)) | ((with_reducible refine ArP_i64 ?_ ?_); (· omega)) | ((with_reducible refine mustP.mk ?_ ?_); (· first | omega | rfl | (dsimp only; omega))) | (with_reducible refine EqP_nil tab_ok ?_) | (with_reducible refine EqP_sli tab_ok ?_) | (with_reducible refine DrawP_auto tab_ok (by kernel_rfl) (by decide +kernel) ?_) | (with_reducible refine DrawP_auto2 tab_ok (by kernel_rfl) (by decide +kernel) ?_) | (with_reducible refine eq29 ?_) | (with_reducible refine eq31 ?_) | (with_reducible refine eq48 ?_) | (with_reducible refine eq52 ?_) | (with_reducible refine eq83 ?_) | (with_reducible refine eq110 ?_) | (with_reducible refine eq136 ?_) | (with_reducible refine eq155 ?_) | (with_reducible refine eq163 ?_) | (with_reducible refine eq170 ?_) | (with_reducible refine CallP_enter tab_ok Try.func16 (fun vs w => by kernel_rfl) (by rfl) ?_))))
        exact ⟨rfl, rfl⟩
      rw [if_neg c6] at first next
      rcases i with _ | m
      · rw [if_neg (by omega)] at next
        (repeat ((try (conv => whnf)); (first | (refine ca _ ?_) | (with_reducible refine condP_true ?_) | (with_reducible refine condP_false ?_) | (with_reducible refine condP_not ?_) | (with_reducible refine condP_and ?_) | ((with_reducible refine condP_dt ?_ ?_); (· omega)) | ((with_reducible refine condP_df ?_ ?_); (· omega)) | ((with_reducible refine condP_yes ?_ ?_); (· assumption)) | ((with_reducible refine condP_no ?_ ?_); (· assumption)) | ((with_reducible refine ArP_i64 ?_ ?_); (· omega)) | ((with_reducible refine mustP.mk ?_ ?_); (· first | omega | rfl | (dsimp only; omega))) | (with_reducible refine EqP_nil tab_ok ?_) | (with_reducible refine EqP_sli tab_ok ?_) | (with_reducible refine DrawP_auto tab_ok (by kernel_rfl) (by decide +kernel) ?_) | (with_reducible refine DrawP_auto2 tab_ok (by kernel_rfl) (by decide +kernel) ?_) | (with_reducible refine eq29 ?_) | (with_reducible refine eq31 ?_) | (with_reducible refine eq48 ?_) | (with_reducible refine eq52 ?_) | (with_reducible refine eq83 ?_) | (with_reducible refine eq110 ?_) | (with_reducible refine eq136 ?_) | (with_reducible refine eq155 ?_) | (with_reducible refine eq163 ?_) | (with_reducible refine eq170 ?_) | (with_reducible refine CallP_enter tab_ok Try.func16 (fun vs w => by kernel_rfl) (by rfl) ?_))))
        refine ⟨1, ⟨by omega, next rfl⟩, by omega, ?_⟩
        ((refine Le_head ?_); (conv => whnf); (refine Le_mk (by rfl) (by rfl) ?_ ?_); (· (repeat (first | (with_reducible exact frLe_nil) | (with_reducible refine frLe_any ?_) | (with_reducible refine frLe_val ?_) | ((with_reducible refine frLe_eq rfl ?_ ?_); (· rfl)) | ((with_reducible refine frLe_val' (int_eq ?_) ?_ ?_); (· omega); (· rfl)) | ((with_reducible refine frLe_val' (int_eq ?_) ?_ ?_); (· simp only [Int.natCast_add, Int.natCast_one, Int.natCast_ofNat] <;> omega); (· rfl)) | ((with_reducible refine frLe_val' (bool_eq ?_) ?_ ?_); (· first | assumption | (symm; assumption)); (· rfl))))))
        exact hpLe_nil
      · obtain ⟨q, hq⟩ : ∃ q, L[m]? = some q := ⟨L[m], List.getElem?_eq_getElem (by omega)⟩
        obtain ⟨p', he, q0, q1, q2⟩ := hR.at_ hq
        cases he
        have hix : (((m + 1 : Nat) : Int) - 1).toNat = m := by omega
        rw [← hix] at q0 q1 q2
        rw [Nat.add_sub_cancel, nthR_get hq] at first next
        by_cases d0 : r.y < q.y
        · rw [if_pos (by omega)] at first
          rw [first (by omega)]
          (repeat ((try (conv => whnf)); (first | (refine ca _ ?_) | (refine OldCells_one _ q0 ?_) | (refine OldCells_one _ q2 ?_) | (with_reducible refine condP_true ?_) | (with_reducible refine condP_false ?_) | (with_reducible refine condP_not ?_) | (with_reducible refine condP_and ?_) | ((with_reducible refine condP_dt ?_ ?_); (· omega)) | ((with_reducible refine condP_df ?_ ?_); (· omega)) | ((with_reducible refine condP_yes ?_ ?_); (· assumption)) | ((with_reducible refine condP_no ?_ ?_); (· assumption)) | ((with_reducible refine ArP_i64 ?_ ?_); (· omega)) | ((with_reducible refine mustP.mk ?_ ?_); (· first | omega | rfl | (dsimp only; omega))) | (with_reducible refine EqP_nil tab_ok ?_) | (with_reducible refine EqP_sli tab_ok ?_) | (with_reducible refine DrawP_auto tab_ok (by kernel_rfl) (by decide +kernel) ?_) | (with_reducible refine DrawP_auto2 tab_ok (by kernel_rfl) (by decide +kernel) ?_) | (with_reducible refine eq29 ?_) | (with_reducible refine eq31 ?_) | (with_reducible refine eq48 ?_) | (with_reducible refine eq52 ?_) | (with_reducible refine eq83 ?_) | (with_reducible refine eq110 ?_) | (with_reducible refine eq136 ?_) | (with_reducible refine eq155 ?_) | (with_reducible refine eq163 ?_) | (with_reducible refine eq170 ?_) | (with_reducible refine CallP_enter tab_ok Try.func16 (fun vs w => by kernel_rfl) (by rfl) ?_))))
          exact ⟨rfl, rfl⟩
        by_cases d1 : r.y = q.y ∧ r.x0 ≤ q.x1
        · obtain ⟨d1, d2⟩ := d1
          rw [if_pos (by omega)] at first
          rw [first (by omega)]
          (repeat ((try (conv => whnf)); (first | (refine ca _ ?_) | (refine OldCells_one _ q0 ?_) | (refine OldCells_one _ q2 ?_) | (with_reducible refine condP_true ?_) | (with_reducible refine condP_false ?_) | (with_reducible refine condP_not ?_) | (with_reducible refine condP_and ?_) | ((with_reducible refine condP_dt ?_ ?_); (· omega)) | ((with_reducible refine condP_df ?_ ?_); (· omega)) | ((with_reducible refine condP_yes ?_ ?_); (· assumption)) | ((with_reducible refine condP_no ?_ ?_); (· assumption)) | ((with_reducible refine ArP_i64 ?_ ?_); (· omega)) | ((with_reducible refine mustP.mk ?_ ?_); (· first | omega | rfl | (dsimp only; omega))) | (with_reducible refine EqP_nil tab_ok ?_) | (with_reducible refine EqP_sli tab_ok ?_) | (with_reducible refine DrawP_auto tab_ok (by kernel_rfl) (by decide +kernel) ?_) | (with_reducible refine DrawP_auto2 tab_ok (by kernel_rfl) (by decide +kernel) ?_) | (with_reducible refine eq29 ?_) | (with_reducible refine eq31 ?_) | (with_reducible refine eq48 ?_) | (with_reducible refine eq52 ?_) | (with_reducible refine eq83 ?_) | (with_reducible refine eq110 ?_) | (with_reducible refine eq136 ?_) | (with_reducible refine eq155 ?_) | (with_reducible refine eq163 ?_) | (with_reducible refine eq170 ?_) | (with_reducible refine CallP_enter tab_ok Try.func16 (fun vs w => by kernel_rfl) (by rfl) ?_))))
          exact ⟨rfl, rfl⟩
        rw [if_neg (by omega)] at next
        by_cases d2 : r.y = q.y
        · (repeat ((try (conv => whnf)); (first | (refine ca _ ?_) | (refine OldCells_one _ q0 ?_) | (refine OldCells_one _ q2 ?_) | (with_reducible refine condP_true ?_) | (with_reducible refine condP_false ?_) | (with_reducible refine condP_not ?_) | (with_reducible refine condP_and ?_) | ((with_reducible refine condP_dt ?_ ?_); (· omega)) | ((with_reducible refine condP_df ?_ ?_); (· omega)) | ((with_reducible refine condP_yes ?_ ?_); (· assumption)) | ((with_reducible refine condP_no ?_ ?_); (· assumption)) | ((with_reducible refine ArP_i64 ?_ ?_); (· omega)) | ((with_reducible refine mustP.mk ?_ ?_); (· first | omega | rfl | (dsimp only; omega))) | (with_reducible refine EqP_nil tab_ok ?_) | (with_reducible refine EqP_sli tab_ok ?_) | (with_reducible refine DrawP_auto tab_ok (by kernel_rfl) (by decide +kernel) ?_) | (with_reducible refine DrawP_auto2 tab_ok (by kernel_rfl) (by decide +kernel) ?_) | (with_reducible refine eq29 ?_) | (with_reducible refine eq31 ?_) | (with_reducible refine eq48 ?_) | (with_reducible refine eq52 ?_) | (with_reducible refine eq83 ?_) | (with_reducible refine eq110 ?_) | (with_reducible refine eq136 ?_) | (with_reducible refine eq155 ?_) | (with_reducible refine eq163 ?_) | (with_reducible refine eq170 ?_) | (with_reducible refine CallP_enter tab_ok Try.func16 (fun vs w => by kernel_rfl) (by rfl) ?_))))
          refine ⟨m + 1 + 1, ⟨by omega, next rfl⟩, by omega, ?_⟩
          ((refine Le_head ?_); (conv => whnf); (refine Le_mk (by rfl) (by rfl) ?_ ?_); (· (repeat (first | (with_reducible exact frLe_nil) | (with_reducible refine frLe_any ?_) | (with_reducible refine frLe_val ?_) | ((with_reducible refine frLe_eq rfl ?_ ?_); (· rfl)) | ((with_reducible refine frLe_val' (int_eq ?_) ?_ ?_); (· omega); (· rfl)) | ((with_reducible refine frLe_val' (int_eq ?_) ?_ ?_); (· simp only [Int.natCast_add, Int.natCast_one, Int.natCast_ofNat] <;> omega); (· rfl)) | ((with_reducible refine frLe_val' (bool_eq ?_) ?_ ?_); (· first | assumption | (symm; assumption)); (· rfl))))))
          exact hpLe_nil
        · (repeat ((try (conv => whnf)); (first | (refine ca _ ?_) | (refine OldCells_one _ q0 ?_) | (refine OldCells_one _ q2 ?_) | (with_reducible refine condP_true ?_) | (with_reducible refine condP_false ?_) | (with_reducible refine condP_not ?_) | (with_reducible refine condP_and ?_) | ((with_reducible refine condP_dt ?_ ?_); (· omega)) | ((with_reducible refine condP_df ?_ ?_); (· omega)) | ((with_reducible refine condP_yes ?_ ?_); (· assumption)) | ((with_reducible refine condP_no ?_ ?_); (· assumption)) | ((with_reducible refine ArP_i64 ?_ ?_); (· omega)) | ((with_reducible refine mustP.mk ?_ ?_); (· first | omega | rfl | (dsimp only; omega))) | (with_reducible refine EqP_nil tab_ok ?_) | (with_reducible refine EqP_sli tab_ok ?_) | (with_reducible refine DrawP_auto tab_ok (by kernel_rfl) (by decide +kernel) ?_) | (with_reducible refine DrawP_auto2 tab_ok (by kernel_rfl) (by decide +kernel) ?_) | (with_reducible refine eq29 ?_) | (with_reducible refine eq31 ?_) | (with_reducible refine eq48 ?_) | (with_reducible refine eq52 ?_) | (with_reducible refine eq83 ?_) | (with_reducible refine eq110 ?_) | (with_reducible refine eq136 ?_) | (with_reducible refine eq155 ?_) | (with_reducible refine eq163 ?_) | (with_reducible refine eq170 ?_) | (with_reducible refine CallP_enter tab_ok Try.func16 (fun vs w => by kernel_rfl) (by rfl) ?_))))
          refine ⟨m + 1 + 1, ⟨by omega, next rfl⟩, by omega, ?_⟩
          ((refine Le_head ?_); (conv => whnf); (refine Le_mk (by rfl) (by rfl) ?_ ?_); (· (repeat (first | (with_reducible exact frLe_nil) | (with_reducible refine frLe_any ?_) | (with_reducible refine frLe_val ?_) | ((with_reducible refine frLe_eq rfl ?_ ?_); (· rfl)) | ((with_reducible refine frLe_val' (int_eq ?_) ?_ ?_); (· omega); (· rfl)) | ((with_reducible refine frLe_val' (int_eq ?_) ?_ ?_); (· simp only [Int.natCast_add, Int.natCast_one, Int.natCast_ofNat] <;> omega); (· rfl)) | ((with_reducible refine frLe_val' (bool_eq ?_) ?_ ?_); (· first | assumption | (symm; assumption)); (· rfl))))))
          exact hpLe_nil
    · obtain rfl : i = L.length := by omega
      (repeat ((try (conv => whnf)); (first | (with_reducible refine condP_true ?_) | (with_reducible refine condP_false ?_) | (with_reducible refine condP_not ?_) | (with_reducible refine condP_and ?_) | ((with_reducible refine condP_dt ?_ ?_); (· omega)) | ((with_reducible refine condP_df ?_ ?_); (· omega)) | ((with_reducible refine condP_yes ?_ ?_); (· assumption)) | ((with_reducible refine condP_no ?_ ?_); (· assumption)) | ((with_reducible refine ArP_i64 ?_ ?_); (· omega)) | ((with_reducible refine mustP.mk ?_ ?_); (· first | omega | rfl | (dsimp only; omega))) | (with_reducible refine EqP_nil tab_ok ?_) | (with_reducible refine EqP_sli tab_ok ?_) | (with_reducible refine DrawP_auto tab_ok (by kernel_rfl) (by decide +kernel) ?_) | (with_reducible refine DrawP_auto2 tab_ok (by kernel_rfl) (by decide +kernel) ?_) | (with_reducible refine eq29 ?_) | (with_reducible refine eq31 ?_) | (with_reducible refine eq48 ?_) | (with_reducible refine eq52 ?_) | (with_reducible refine eq83 ?_) | (with_reducible refine eq110 ?_) | (with_reducible refine eq136 ?_) | (with_reducible refine eq155 ?_) | (with_reducible refine eq163 ?_) | (with_reducible refine eq170 ?_))))
      exact ⟨by rw [show errL L = 0 from h0], rfl⟩
end Go.Proofs.Ytampdegpfndggaa

namespace Go.Proofs.Ytampdegpfndggaa
open Go.RowKit Go.Proofs.Ytampdegpfndggaa.gradientRamps Go.Proofs.Ytampdegpfndggaa.gradientPlaces Go.Proofs.Ytampdegpfndggaa.imageCells
set_option linter.unusedVariables false
set_option maxRecDepth 20000
def valA : Value → Option Addr
  | .slice A _ _ => A
  | _ => none
def valN : Value → Nat
  | .slice _ n _ => n
  | _ => 0
def valC : Value → Nat
  | .slice _ _ c => c
  | _ => 0
def valS : Value → ByteArray
  | .string s => s
  | _ => ByteArray.empty
def itemOf (c : Nat → Value) : ItemD where
  K := valI (c 0)
  RA := valA (c 1)
  rn := valN (c 1)
  rq := valC (c 1)
  k := valI (c 2)
  I := fun o => valI (c (o + 3))
  fx := valI (c 11)
  fy := valI (c 12)
  tx := valI (c 13)
  ty := valI (c 14)
  r := valI (c 15)
  A := valA (c 16)
  n := valN (c 16)
  q := valC (c 16)
  W := valI (c 17)
  H := valI (c 18)
  B := valA (c 19)
  pn := valN (c 19)
  pq := valC (c 19)
  C := valA (c 20)
  sn := valN (c 20)
  sq := valC (c 20)
  a := valI (c 21)
  b := valI (c 22)
  c := valI (c 23)
  d := valI (c 24)
  e := valI (c 25)
  f := valI (c 26)
  s := valB (c 27)
  t := valB (c 28)
  al := valI (c 29)
  bl := valI (c 30)
  ov := valB (c 31)
  iso := valB (c 32)
  kn := valB (c 33)
theorem item_flat : flat Try.prog 20 127 = [.int .i64, .slice 125, .int .i64, .int .u8, .int .u8, .int .u8, .int .u8, .int .u8, .int .u8, .int .u8, .int .u8, .int .i64, .int .i64, .int .i64, .int .i64, .int .i64, .slice 41, .int .i64, .int .i64, .slice 49, .slice 50, .int .i64, .int .i64, .int .i64, .int .i64, .int .i64, .int .i64, .bool, .bool, .int .u8, .int .i64, .bool, .bool, .bool] := by kernel_rfl
theorem cons_eq {α : Type} {a b : α} {l m : List α} (h : a = b) (h2 : l = m) : a :: l = b :: m := by rw [h, h2]
/-- What is known of the slices and bytes of an item. -/
structure ItemOk (w : World) (i : ItemD) : Prop where
  run : i.rn ≤ i.rq ∧ i.rq ≤ maxLen ∧ ∃ g, SliceG Try.prog w 170 i.RA i.rn g
  stop : i.n ≤ i.q ∧ i.q ≤ maxLen ∧ ∃ g, SliceG Try.prog w 110 i.A i.n g
  pix : i.pn ≤ i.pq ∧ i.pq ≤ maxLen ∧ ∃ g, SliceG Try.prog w 29 i.B i.pn g
  ink : ∀ j, j < 8 → 0 ≤ i.I j
  al : 0 ≤ i.al
section
variable {w : World} {A : Option Addr} {n : Nat} {g : Nat → Nat → Value}
theorem slice_val {m : Nat} {t e : TypeId} {c : Value} (ht : Try.prog.underlying t = some (.slice e)) (h0 : 0 < Try.prog.cellsOf e) (h : Sees Try.prog w m t [c]) :
    c = .slice (valA c) (valN c) (valC c) ∧ valN c ≤ valC c ∧ valC c ≤ maxLen ∧ ∃ g, SliceG Try.prog w e (valA c) (valN c) g := by
  obtain ⟨A, n, cap, g, rfl, h1, h2, h3⟩ := slice_cell ht h0 h
  exact ⟨rfl, h1, h2, g, h3⟩
theorem uRun : Try.prog.underlying 125 = some (.slice 170) := Try.underlying125
theorem cRun : 0 < Try.prog.cellsOf 170 := of_decide_eq_true (by kernel_rfl)
theorem uStop : Try.prog.underlying 41 = some (.slice 110) := Try.underlying41
theorem cStop : 0 < Try.prog.cellsOf 110 := of_decide_eq_true (by kernel_rfl)
theorem uInks : Try.prog.underlying 49 = some (.slice 29) := Try.underlying49
theorem cInks : 0 < Try.prog.cellsOf 29 := of_decide_eq_true (by kernel_rfl)
theorem uuint8 : Try.prog.underlying 50 = some (.slice 5) := Try.underlying50
theorem cuint8 : 0 < Try.prog.cellsOf 5 := of_decide_eq_true (by kernel_rfl)
theorem item_ok : flatOk Try.prog 20 127 = true := by kernel_rfl
theorem items_cells (h : SliceG Try.prog w 127 A n g) {x : Nat} (hx : x < n) : (itemOf (g x)).cells = (List.range 34).map (g x) := by
  have e0 := (h.int (j := 0) (k := .i64) item_ok hx (by rw [item_flat]; rfl)).1
  obtain ⟨m1, h1⟩ := h.seen (j := 1) item_ok hx (by rw [item_flat]; rfl)
  have e1 := (slice_val uRun cRun h1).1
  have e2 := (h.int (j := 2) (k := .i64) item_ok hx (by rw [item_flat]; rfl)).1
  have e3 := (h.int (j := 3) (k := .u8) item_ok hx (by rw [item_flat]; rfl)).1
  have e4 := (h.int (j := 4) (k := .u8) item_ok hx (by rw [item_flat]; rfl)).1
  have e5 := (h.int (j := 5) (k := .u8) item_ok hx (by rw [item_flat]; rfl)).1
  have e6 := (h.int (j := 6) (k := .u8) item_ok hx (by rw [item_flat]; rfl)).1
  have e7 := (h.int (j := 7) (k := .u8) item_ok hx (by rw [item_flat]; rfl)).1
  have e8 := (h.int (j := 8) (k := .u8) item_ok hx (by rw [item_flat]; rfl)).1
  have e9 := (h.int (j := 9) (k := .u8) item_ok hx (by rw [item_flat]; rfl)).1
  have e10 := (h.int (j := 10) (k := .u8) item_ok hx (by rw [item_flat]; rfl)).1
  have e11 := (h.int (j := 11) (k := .i64) item_ok hx (by rw [item_flat]; rfl)).1
  have e12 := (h.int (j := 12) (k := .i64) item_ok hx (by rw [item_flat]; rfl)).1
  have e13 := (h.int (j := 13) (k := .i64) item_ok hx (by rw [item_flat]; rfl)).1
  have e14 := (h.int (j := 14) (k := .i64) item_ok hx (by rw [item_flat]; rfl)).1
  have e15 := (h.int (j := 15) (k := .i64) item_ok hx (by rw [item_flat]; rfl)).1
  obtain ⟨m16, h16⟩ := h.seen (j := 16) item_ok hx (by rw [item_flat]; rfl)
  have e16 := (slice_val uStop cStop h16).1
  have e17 := (h.int (j := 17) (k := .i64) item_ok hx (by rw [item_flat]; rfl)).1
  have e18 := (h.int (j := 18) (k := .i64) item_ok hx (by rw [item_flat]; rfl)).1
  obtain ⟨m19, h19⟩ := h.seen (j := 19) item_ok hx (by rw [item_flat]; rfl)
  have e19 := (slice_val uInks cInks h19).1
  obtain ⟨m20, h20⟩ := h.seen (j := 20) item_ok hx (by rw [item_flat]; rfl)
  have e20 := (slice_val uuint8 cuint8 h20).1
  have e21 := (h.int (j := 21) (k := .i64) item_ok hx (by rw [item_flat]; rfl)).1
  have e22 := (h.int (j := 22) (k := .i64) item_ok hx (by rw [item_flat]; rfl)).1
  have e23 := (h.int (j := 23) (k := .i64) item_ok hx (by rw [item_flat]; rfl)).1
  have e24 := (h.int (j := 24) (k := .i64) item_ok hx (by rw [item_flat]; rfl)).1
  have e25 := (h.int (j := 25) (k := .i64) item_ok hx (by rw [item_flat]; rfl)).1
  have e26 := (h.int (j := 26) (k := .i64) item_ok hx (by rw [item_flat]; rfl)).1
  have e27 := h.bool (j := 27) item_ok hx (by rw [item_flat]; rfl)
  have e28 := h.bool (j := 28) item_ok hx (by rw [item_flat]; rfl)
  have e29 := (h.int (j := 29) (k := .u8) item_ok hx (by rw [item_flat]; rfl)).1
  have e30 := (h.int (j := 30) (k := .i64) item_ok hx (by rw [item_flat]; rfl)).1
  have e31 := h.bool (j := 31) item_ok hx (by rw [item_flat]; rfl)
  have e32 := h.bool (j := 32) item_ok hx (by rw [item_flat]; rfl)
  have e33 := h.bool (j := 33) item_ok hx (by rw [item_flat]; rfl)
  exact cons_eq e0.symm (cons_eq e1.symm (cons_eq e2.symm (cons_eq e3.symm (cons_eq e4.symm (cons_eq e5.symm (cons_eq e6.symm (cons_eq e7.symm (cons_eq e8.symm (cons_eq e9.symm (cons_eq e10.symm (cons_eq e11.symm (cons_eq e12.symm (cons_eq e13.symm (cons_eq e14.symm (cons_eq e15.symm (cons_eq e16.symm (cons_eq e17.symm (cons_eq e18.symm (cons_eq e19.symm (cons_eq e20.symm (cons_eq e21.symm (cons_eq e22.symm (cons_eq e23.symm (cons_eq e24.symm (cons_eq e25.symm (cons_eq e26.symm (cons_eq e27.symm (cons_eq e28.symm (cons_eq e29.symm (cons_eq e30.symm (cons_eq e31.symm (cons_eq e32.symm (cons_eq e33.symm (rfl))))))))))))))))))))))))))))))))))
theorem items_m (h : SliceG Try.prog w 127 A n g) : ItemsM (memOf w) A n (fun x => itemOf (g x)) := by
  have e34 : Try.prog.cellsOf 127 = 34 := by kernel_rfl
  intro x hx
  have hce := items_cells h hx
  obtain ⟨b, off, rfl, _, hc⟩ := h (by omega)
  rw [e34] at hc
  refine ⟨⟨b, off, none⟩, rfl, fun K k => ?_⟩
  dsimp only at k
  rw [hce] at k
  refine OldCells_list _ (by simp) (fun j u hj => ?_) k
  rw [addr_add, addr_add]
  rw [List.getElem?_map] at hj
  rcases Nat.lt_or_ge j 34 with h1 | h1
  · rw [List.getElem?_range h1] at hj
    simp at hj; subst hj
    exact (hc x hx).1 j h1
  · rw [List.getElem?_eq_none (by simpa using h1)] at hj
    simp at hj
theorem items_ok (h : SliceG Try.prog w 127 A n g) {x : Nat} (hx : x < n) : ItemOk w (itemOf (g x)) := by
  obtain ⟨m1, h1⟩ := h.seen (j := 1) item_ok hx (by rw [item_flat]; rfl)
  obtain ⟨m16, h16⟩ := h.seen (j := 16) item_ok hx (by rw [item_flat]; rfl)
  obtain ⟨m19, h19⟩ := h.seen (j := 19) item_ok hx (by rw [item_flat]; rfl)
  refine ⟨(slice_val uRun cRun h1).2, (slice_val uStop cStop h16).2, (slice_val uInks cInks h19).2, fun j hj => ?_, ?_⟩
  · refine (byte_bd (h.int (j := j + 3) (k := .u8) item_ok hx ?_).2).1
    rw [item_flat]
    match j, hj with
    | 0, _ => rfl
    | 1, _ => rfl
    | 2, _ => rfl
    | 3, _ => rfl
    | 4, _ => rfl
    | 5, _ => rfl
    | 6, _ => rfl
    | 7, _ => rfl
  · exact (byte_bd (h.int (j := 29) (k := .u8) item_ok hx (by rw [item_flat]; rfl)).2).1
theorem strs_m (h : SliceG Try.prog w 9 A n g) : StrM (memOf w) A n (fun x => valS (g x 0)) := by
  have e1 : Try.prog.cellsOf 9 = 1 := by kernel_rfl
  have ef : flat Try.prog 20 9 = [.string] := by kernel_rfl
  intro x hx
  obtain ⟨s, hs, _⟩ := h.seen (j := 0) (by kernel_rfl) hx (by rw [ef]; rfl)
  obtain ⟨b, off, rfl, _, hc⟩ := h (by omega)
  rw [e1] at hc
  refine ⟨⟨b, off, none⟩, rfl, fun K k => ?_⟩
  refine OldCells_list _ rfl (fun j u hj => ?_) k
  rw [addr_add, addr_add]
  match j, hj with
  | 0, hj =>
    simp at hj; subst hj
    have := (hc x hx).1 0 (by omega)
    rw [hs] at this ⊢
    exact this
theorem runs_m {g : Nat → Nat → Value} (h : SliceG Try.prog w 170 A n g) : RunsM (memOf w) A (runsL (fun x => ⟨valI (g x 0), valI (g x 1), valI (g x 2)⟩) n) := by
  have e3 : Try.prog.cellsOf 170 = 3 := by kernel_rfl
  have ef : flat Try.prog 20 170 = [.int .i64, .int .i64, .int .i64] := by kernel_rfl
  intro i r hr
  have hi : i < n := by have := (List.getElem?_eq_some_iff.1 hr).1; simpa [runsL] using this
  have e : (⟨valI (g i 0), valI (g i 1), valI (g i 2)⟩ : Run) = r := by simpa [runsL, List.getElem?_range hi] using hr
  subst e
  have h0 := (h.int (j := 0) (k := .i64) (by kernel_rfl) hi (by rw [ef]; rfl)).1
  have h1 := (h.int (j := 1) (k := .i64) (by kernel_rfl) hi (by rw [ef]; rfl)).1
  have h2 := (h.int (j := 2) (k := .i64) (by kernel_rfl) hi (by rw [ef]; rfl)).1
  obtain ⟨b, off, hA, _, hc⟩ := h (by omega)
  rw [e3] at hc
  dsimp only
  rw [← h0, ← h1, ← h2]
  exact ⟨b, off, hA, (hc i hi).1 0 (by omega), (hc i hi).1 1 (by omega), (hc i hi).1 2 (by omega)⟩
/-- The errors of an item: the same of the program and of the document. -/
theorem item_both {i : ItemD} {m : Nat} (hm : 1 ≤ m ∧ m ≤ 8) (h : ItemOk w i) : ∃ rE sE : Int, ∀ o : Int, 0 ≤ o ∧ o ≤ 16 →
    Gives Try.prog 78 [itemA i, .val (.int .i64 m), .val (.int .i64 o)] (memOf w) (.val (.int .i64 (itemE i.K i.rn i.nos i.al i.bl i.ov i.iso i.kn o rE sE))) ∧
    Gives Try.prog 80 [itemA i, .val (.int .i64 m), .val (.int .i64 o)] (memOf w) (.val (.int .i64 (itemE i.K i.rn i.nos i.al i.bl i.ov i.iso i.kn o rE sE))) := by
  obtain ⟨⟨r1, r2, gr, hr⟩, ⟨s1, s2, gs, hs⟩, ⟨p1, p2, gp, hp⟩, hi, hal⟩ := h
  have hR := runs_m hr
  have cr := _root_.Go.Proofs.Ytampdegpfndggaa.Check_gives hR (by rw [runsL_length]; exact r1) r2
  have rr := _root_.Go.Proofs.Ytampdegpfndggaa.RCheck_gives hR (by rw [runsL_length]; exact r1) r2
  rw [runsL_length] at cr rr
  have m1 : ∀ z, z ≤ maxLen → z ≤ 9223372036854775807 := fun z hz => hz
  have cs := CheckSourceM_gives (k := i.k) (I := i.I) (fx := i.fx) (fy := i.fy) (tx := i.tx) (ty := i.ty) (r := i.r) (A := i.A) (n := i.n) (q := i.q) (W := i.W) (H := i.H) (B := i.B) (pn := i.pn) (pq := i.pq) (C := i.C) (sn := i.sn) (sq := i.sq) (a := i.a) (b := i.b) (c := i.c) (d := i.d) (e := i.e) (f := i.f) (s := i.s) (t := i.t) (m := m) hm (gradientPlaces.Check_gives ⟨s1, s2⟩ hs) ICheck_gives (stop_m hs) (pix_m hp) (m1 _ (Nat.le_trans s1 s2)) (m1 _ (Nat.le_trans p1 p2))
  exact ⟨_, _, fun o ho => ⟨checkItem_gives cr cs, itemCheck_gives hal ho rr (SourceCheckM_gives (k := i.k) (I := i.I) (fx := i.fx) (fy := i.fy) (tx := i.tx) (ty := i.ty) (r := i.r) (A := i.A) (n := i.n) (q := i.q) (W := i.W) (H := i.H) (B := i.B) (pn := i.pn) (pq := i.pq) (C := i.C) (sn := i.sn) (sq := i.sq) (a := i.a) (b := i.b) (c := i.c) (d := i.d) (e := i.e) (f := i.f) (s := i.s) (t := i.t) (m := m) hm hi (fun x hx j hj => (byte_bd (hs.int (j := j + 1) (by kernel_rfl) hx (stop_u8 hj)).2).1) (fun x hx j hj => (byte_bd (hp.int (j := j) (by kernel_rfl) hx (inks_u8 hj)).2).1) (gradientPlaces.RCheck_gives ⟨s1, s2⟩ hs) RICheck_gives PlainK_gives (stop_i hs) (pix_m hp) (m1 _ (Nat.le_trans s1 s2)) (m1 _ (Nat.le_trans p1 p2)))⟩⟩
end
end Go.Proofs.Ytampdegpfndggaa
