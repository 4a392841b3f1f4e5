/-
  region.Check and the reference's RegionCheck, by the engine.
-/
import Derived.Test.YtbkhpddodmbdoaaEng2
import Derived.Test.YtbkhpddodmbdoaaMrg10
namespace Go.Proofs.Ytbkhpddodmbdoaa
open Go.RowKit
set_option linter.unusedVariables false
set_option maxRecDepth 20000
set_option maxHeartbeats 2000000 in
theorem Check_gives {A : Option Addr} {L : List Run} {c : Nat} {G : Mem} (hR : RunsM G A L) (hc : L.length ≤ c) (hm : c ≤ maxLen) : Gives Try.prog 22 [.val (.slice A L.length c)] G (.val (.int .i64 (errL L))) := by
  unfold maxLen at hm
  refine Gives_of tab_ok Try.func22 ?_
  (repeat ((try (conv => whnf)); (first | (with_reducible first | refine condP_true ?_ | refine condP_false ?_ | refine condP_not ?_ | refine condP_and ?_) | ((with_reducible refine condP_dt ?_ ?_); (· omega)) | ((with_reducible refine condP_df ?_ ?_); (· omega)) | ((with_reducible refine condP_yes ?_ ?_); (· assumption)) | ((with_reducible refine condP_no ?_ ?_); (· assumption)) | ((with_reducible refine ArP_i64 ?_ ?_); (· omega)) | ((with_reducible refine mustP.mk ?_ ?_); (· first | omega | rfl | (dsimp only; omega))) | (with_reducible first | refine EqP_nil tab_ok ?_ | refine EqP_sli tab_ok ?_ | refine DrawP_auto tab_ok (by kernel_rfl) (by decide +kernel) ?_ | refine DrawP_auto2 tab_ok (by kernel_rfl) (by decide +kernel) ?_ | refine eq27 ?_ | refine eq44 ?_ | refine eq54 ?_ | refine eq76 ?_ | refine eq134 ?_))))
  conv => whnf
  refine LoopP_at tab_ok (fun i => i ≤ L.length ∧ regV (nthR L) i = 0) (fun (i : Nat) => [(7, .val (.int .i64 i))]) (fun i => []) (fun i => L.length - i) 0 ⟨Nat.zero_le _, rfl⟩ ?_ ?_
  · ((refine Le_head ?_); (conv => whnf); (refine Le_mk (by rfl) (by rfl) ?_ ?_); (· (repeat (first | (with_reducible exact frLe_nil) | (with_reducible first | refine frLe_any ?_ | refine frLe_val ?_) | ((with_reducible refine frLe_eq rfl ?_ ?_); (· rfl)) | ((with_reducible refine frLe_val' (int_eq ?_) ?_ ?_); (· omega); (· rfl)) | ((with_reducible refine frLe_val' (int_eq ?_) ?_ ?_); (· simp only [Int.natCast_add, Int.natCast_one, Int.natCast_ofNat] <;> omega); (· rfl)) | ((with_reducible refine frLe_val' (bool_eq ?_) ?_ ?_); (· first | assumption | (symm; assumption)); (· rfl))))))
    exact hpLe_nil
  · rintro i ⟨hi, h0⟩
    rcases Nat.lt_or_ge i L.length with h1 | h1
    · obtain ⟨r, hr⟩ : ∃ r, L[i]? = some r := ⟨L[i], List.getElem?_eq_getElem h1⟩
      obtain ⟨p, rfl, ca⟩ := hR.cells hr
      have hn := nthR_get hr
      have first := fun h => errL_first h0 h1 h
      have next := fun h => regV_next (rs := nthR L) (k := i) h0 h
      have herr : runErr (nthR L) i = if r.y < -8192 ∨ 8191 < r.y ∨ r.x0 < -8192 ∨ 8192 < r.x0 ∨ r.x1 < -8192 ∨ 8192 < r.x1 then 3 else if r.x1 ≤ r.x0 then 4 else if 0 < i ∧ r.y ≤ (nthR L (i - 1)).y ∧ (r.y < (nthR L (i - 1)).y ∨ r.x0 ≤ (nthR L (i - 1)).x1) then 18 else 0 := by unfold runErr; rw [hn]
      rw [herr] at first next
      clear herr
      by_cases c0 : r.y < -8192
      · rw [if_pos (by omega)] at first
        rw [first (by omega)]
        (repeat ((try (conv => whnf)); (first | (refine ca _ ?_) | (with_reducible first | refine condP_true ?_ | refine condP_false ?_ | refine condP_not ?_ | refine condP_and ?_) | ((with_reducible refine condP_dt ?_ ?_); (· omega)) | ((with_reducible refine condP_df ?_ ?_); (· omega)) | ((with_reducible refine condP_yes ?_ ?_); (· assumption)) | ((with_reducible refine condP_no ?_ ?_); (· assumption)) | ((with_reducible refine ArP_i64 ?_ ?_); (· omega)) | ((with_reducible refine mustP.mk ?_ ?_); (· first | omega | rfl | (dsimp only; omega))) | (with_reducible first | refine EqP_nil tab_ok ?_ | refine EqP_sli tab_ok ?_ | refine DrawP_auto tab_ok (by kernel_rfl) (by decide +kernel) ?_ | refine DrawP_auto2 tab_ok (by kernel_rfl) (by decide +kernel) ?_ | refine eq27 ?_ | refine eq44 ?_ | refine eq54 ?_ | refine eq76 ?_ | refine eq134 ?_ | refine CallP_enter tab_ok Try.func38 (fun vs w => by kernel_rfl) (by rfl) ?_ | refine CallP_enter tab_ok Try.func39 (fun vs w => by kernel_rfl) (by rfl) ?_))))
        exact ⟨rfl, rfl⟩
      by_cases c1 : 8191 < r.y
      · rw [if_pos (by omega)] at first
        rw [first (by omega)]
        (repeat ((try (conv => whnf)); (first | (refine ca _ ?_) | (with_reducible first | refine condP_true ?_ | refine condP_false ?_ | refine condP_not ?_ | refine condP_and ?_) | ((with_reducible refine condP_dt ?_ ?_); (· omega)) | ((with_reducible refine condP_df ?_ ?_); (· omega)) | ((with_reducible refine condP_yes ?_ ?_); (· assumption)) | ((with_reducible refine condP_no ?_ ?_); (· assumption)) | ((with_reducible refine ArP_i64 ?_ ?_); (· omega)) | ((with_reducible refine mustP.mk ?_ ?_); (· first | omega | rfl | (dsimp only; omega))) | (with_reducible first | refine EqP_nil tab_ok ?_ | refine EqP_sli tab_ok ?_ | refine DrawP_auto tab_ok (by kernel_rfl) (by decide +kernel) ?_ | refine DrawP_auto2 tab_ok (by kernel_rfl) (by decide +kernel) ?_ | refine eq27 ?_ | refine eq44 ?_ | refine eq54 ?_ | refine eq76 ?_ | refine eq134 ?_ | refine CallP_enter tab_ok Try.func38 (fun vs w => by kernel_rfl) (by rfl) ?_ | refine CallP_enter tab_ok Try.func39 (fun vs w => by kernel_rfl) (by rfl) ?_))))
        exact ⟨rfl, rfl⟩
      by_cases c2 : r.x0 < -8192
      · rw [if_pos (by omega)] at first
        rw [first (by omega)]
        (repeat ((try (conv => whnf)); (first | (refine ca _ ?_) | (with_reducible first | refine condP_true ?_ | refine condP_false ?_ | refine condP_not ?_ | refine condP_and ?_) | ((with_reducible refine condP_dt ?_ ?_); (· omega)) | ((with_reducible refine condP_df ?_ ?_); (· omega)) | ((with_reducible refine condP_yes ?_ ?_); (· assumption)) | ((with_reducible refine condP_no ?_ ?_); (· assumption)) | ((with_reducible refine ArP_i64 ?_ ?_); (· omega)) | ((with_reducible refine mustP.mk ?_ ?_); (· first | omega | rfl | (dsimp only; omega))) | (with_reducible first | refine EqP_nil tab_ok ?_ | refine EqP_sli tab_ok ?_ | refine DrawP_auto tab_ok (by kernel_rfl) (by decide +kernel) ?_ | refine DrawP_auto2 tab_ok (by kernel_rfl) (by decide +kernel) ?_ | refine eq27 ?_ | refine eq44 ?_ | refine eq54 ?_ | refine eq76 ?_ | refine eq134 ?_ | refine CallP_enter tab_ok Try.func38 (fun vs w => by kernel_rfl) (by rfl) ?_ | refine CallP_enter tab_ok Try.func39 (fun vs w => by kernel_rfl) (by rfl) ?_))))
        exact ⟨rfl, rfl⟩
      by_cases c3 : 8192 < r.x0
      · rw [if_pos (by omega)] at first
        rw [first (by omega)]
        (repeat ((try (conv => whnf)); (first | (refine ca _ ?_) | (with_reducible first | refine condP_true ?_ | refine condP_false ?_ | refine condP_not ?_ | refine condP_and ?_) | ((with_reducible refine condP_dt ?_ ?_); (· omega)) | ((with_reducible refine condP_df ?_ ?_); (· omega)) | ((with_reducible refine condP_yes ?_ ?_); (· assumption)) | ((with_reducible refine condP_no ?_ ?_); (· assumption)) | ((with_reducible refine ArP_i64 ?_ ?_); (· omega)) | ((with_reducible refine mustP.mk ?_ ?_); (· first | omega | rfl | (dsimp only; omega))) | (with_reducible first | refine EqP_nil tab_ok ?_ | refine EqP_sli tab_ok ?_ | refine DrawP_auto tab_ok (by kernel_rfl) (by decide +kernel) ?_ | refine DrawP_auto2 tab_ok (by kernel_rfl) (by decide +kernel) ?_ | refine eq27 ?_ | refine eq44 ?_ | refine eq54 ?_ | refine eq76 ?_ | refine eq134 ?_ | refine CallP_enter tab_ok Try.func38 (fun vs w => by kernel_rfl) (by rfl) ?_ | refine CallP_enter tab_ok Try.func39 (fun vs w => by kernel_rfl) (by rfl) ?_))))
        exact ⟨rfl, rfl⟩
      by_cases c4 : r.x1 < -8192
      · rw [if_pos (by omega)] at first
        rw [first (by omega)]
        (repeat ((try (conv => whnf)); (first | (refine ca _ ?_) | (with_reducible first | refine condP_true ?_ | refine condP_false ?_ | refine condP_not ?_ | refine condP_and ?_) | ((with_reducible refine condP_dt ?_ ?_); (· omega)) | ((with_reducible refine condP_df ?_ ?_); (· omega)) | ((with_reducible refine condP_yes ?_ ?_); (· assumption)) | ((with_reducible refine condP_no ?_ ?_); (· assumption)) | ((with_reducible refine ArP_i64 ?_ ?_); (· omega)) | ((with_reducible refine mustP.mk ?_ ?_); (· first | omega | rfl | (dsimp only; omega))) | (with_reducible first | refine EqP_nil tab_ok ?_ | refine EqP_sli tab_ok ?_ | refine DrawP_auto tab_ok (by kernel_rfl) (by decide +kernel) ?_ | refine DrawP_auto2 tab_ok (by kernel_rfl) (by decide +kernel) ?_ | refine eq27 ?_ | refine eq44 ?_ | refine eq54 ?_ | refine eq76 ?_ | refine eq134 ?_ | refine CallP_enter tab_ok Try.func38 (fun vs w => by kernel_rfl) (by rfl) ?_ | refine CallP_enter tab_ok Try.func39 (fun vs w => by kernel_rfl) (by rfl) ?_))))
        exact ⟨rfl, rfl⟩
      by_cases c5 : 8192 < r.x1
      · rw [if_pos (by omega)] at first
        rw [first (by omega)]
        (repeat ((try (conv => whnf)); (first | (refine ca _ ?_) | (with_reducible first | refine condP_true ?_ | refine condP_false ?_ | refine condP_not ?_ | refine condP_and ?_) | ((with_reducible refine condP_dt ?_ ?_); (· omega)) | ((with_reducible refine condP_df ?_ ?_); (· omega)) | ((with_reducible refine condP_yes ?_ ?_); (· assumption)) | ((with_reducible refine condP_no ?_ ?_); (· assumption)) | ((with_reducible refine ArP_i64 ?_ ?_); (· omega)) | ((with_reducible refine mustP.mk ?_ ?_); (· first | omega | rfl | (dsimp only; omega))) | (with_reducible first | refine EqP_nil tab_ok ?_ | refine EqP_sli tab_ok ?_ | refine DrawP_auto tab_ok (by kernel_rfl) (by decide +kernel) ?_ | refine DrawP_auto2 tab_ok (by kernel_rfl) (by decide +kernel) ?_ | refine eq27 ?_ | refine eq44 ?_ | refine eq54 ?_ | refine eq76 ?_ | refine eq134 ?_ | refine CallP_enter tab_ok Try.func38 (fun vs w => by kernel_rfl) (by rfl) ?_ | refine CallP_enter tab_ok Try.func39 (fun vs w => by kernel_rfl) (by rfl) ?_))))
        exact ⟨rfl, rfl⟩
      rw [if_neg (by omega)] at first next
      by_cases c6 : r.x1 ≤ r.x0
      · rw [if_pos c6] at first
        rw [first (by omega)]
        (repeat ((try (conv => whnf)); (first | (refine ca _ ?_) | (with_reducible first | refine condP_true ?_ | refine condP_false ?_ | refine condP_not ?_ | refine condP_and ?_) | ((with_reducible refine condP_dt ?_ ?_); (· omega)) | ((with_reducible refine condP_df ?_ ?_); (· omega)) | ((with_reducible refine condP_yes ?_ ?_); (· assumption)) | ((with_reducible refine condP_no ?_ ?_); (· assumption)) | ((with_reducible refine ArP_i64 ?_ ?_); (· omega)) | ((with_reducible refine mustP.mk ?_ ?_); (· first | omega | rfl | (dsimp only; omega))) | (with_reducible first | refine EqP_nil tab_ok ?_ | refine EqP_sli tab_ok ?_ | refine DrawP_auto tab_ok (by kernel_rfl) (by decide +kernel) ?_ | refine DrawP_auto2 tab_ok (by kernel_rfl) (by decide +kernel) ?_ | refine eq27 ?_ | refine eq44 ?_ | refine eq54 ?_ | refine eq76 ?_ | refine eq134 ?_ | refine CallP_enter tab_ok Try.func38 (fun vs w => by kernel_rfl) (by rfl) ?_ | refine CallP_enter tab_ok Try.func39 (fun vs w => by kernel_rfl) (by rfl) ?_))))
        exact ⟨rfl, rfl⟩
      rw [if_neg c6] at first next
      rcases i with _ | m
      · rw [if_neg (by omega)] at next
        (repeat ((try (conv => whnf)); (first | (refine ca _ ?_) | (with_reducible first | refine condP_true ?_ | refine condP_false ?_ | refine condP_not ?_ | refine condP_and ?_) | ((with_reducible refine condP_dt ?_ ?_); (· omega)) | ((with_reducible refine condP_df ?_ ?_); (· omega)) | ((with_reducible refine condP_yes ?_ ?_); (· assumption)) | ((with_reducible refine condP_no ?_ ?_); (· assumption)) | ((with_reducible refine ArP_i64 ?_ ?_); (· omega)) | ((with_reducible refine mustP.mk ?_ ?_); (· first | omega | rfl | (dsimp only; omega))) | (with_reducible first | refine EqP_nil tab_ok ?_ | refine EqP_sli tab_ok ?_ | refine DrawP_auto tab_ok (by kernel_rfl) (by decide +kernel) ?_ | refine DrawP_auto2 tab_ok (by kernel_rfl) (by decide +kernel) ?_ | refine eq27 ?_ | refine eq44 ?_ | refine eq54 ?_ | refine eq76 ?_ | refine eq134 ?_ | refine CallP_enter tab_ok Try.func38 (fun vs w => by kernel_rfl) (by rfl) ?_ | refine CallP_enter tab_ok Try.func39 (fun vs w => by kernel_rfl) (by rfl) ?_))))
        refine ⟨1, ⟨by omega, next rfl⟩, by omega, ?_⟩
        ((refine Le_head ?_); (conv => whnf); (refine Le_mk (by rfl) (by rfl) ?_ ?_); (· (repeat (first | (with_reducible exact frLe_nil) | (with_reducible first | refine frLe_any ?_ | refine frLe_val ?_) | ((with_reducible refine frLe_eq rfl ?_ ?_); (· rfl)) | ((with_reducible refine frLe_val' (int_eq ?_) ?_ ?_); (· omega); (· rfl)) | ((with_reducible refine frLe_val' (int_eq ?_) ?_ ?_); (· simp only [Int.natCast_add, Int.natCast_one, Int.natCast_ofNat] <;> omega); (· rfl)) | ((with_reducible refine frLe_val' (bool_eq ?_) ?_ ?_); (· first | assumption | (symm; assumption)); (· rfl))))))
        exact hpLe_nil
      · obtain ⟨q, hq⟩ : ∃ q, L[m]? = some q := ⟨L[m], List.getElem?_eq_getElem (by omega)⟩
        obtain ⟨p', he, q0, q1, q2⟩ := hR.at_ hq
        cases he
        have hix : (((m + 1 : Nat) : Int) - 1).toNat = m := by omega
        rw [← hix] at q0 q1 q2
        rw [Nat.add_sub_cancel, nthR_get hq] at first next
        by_cases d0 : r.y < q.y
        · rw [if_pos (by omega)] at first
          rw [first (by omega)]
          (repeat ((try (conv => whnf)); (first | (refine ca _ ?_) | (refine OldCells_one _ q0 ?_) | (refine OldCells_one _ q2 ?_) | (with_reducible first | refine condP_true ?_ | refine condP_false ?_ | refine condP_not ?_ | refine condP_and ?_) | ((with_reducible refine condP_dt ?_ ?_); (· omega)) | ((with_reducible refine condP_df ?_ ?_); (· omega)) | ((with_reducible refine condP_yes ?_ ?_); (· assumption)) | ((with_reducible refine condP_no ?_ ?_); (· assumption)) | ((with_reducible refine ArP_i64 ?_ ?_); (· omega)) | ((with_reducible refine mustP.mk ?_ ?_); (· first | omega | rfl | (dsimp only; omega))) | (with_reducible first | refine EqP_nil tab_ok ?_ | refine EqP_sli tab_ok ?_ | refine DrawP_auto tab_ok (by kernel_rfl) (by decide +kernel) ?_ | refine DrawP_auto2 tab_ok (by kernel_rfl) (by decide +kernel) ?_ | refine eq27 ?_ | refine eq44 ?_ | refine eq54 ?_ | refine eq76 ?_ | refine eq134 ?_ | refine CallP_enter tab_ok Try.func38 (fun vs w => by kernel_rfl) (by rfl) ?_ | refine CallP_enter tab_ok Try.func39 (fun vs w => by kernel_rfl) (by rfl) ?_))))
          exact ⟨rfl, rfl⟩
        by_cases d1 : r.y = q.y ∧ r.x0 ≤ q.x1
        · obtain ⟨d1, d2⟩ := d1
          rw [if_pos (by omega)] at first
          rw [first (by omega)]
          (repeat ((try (conv => whnf)); (first | (refine ca _ ?_) | (refine OldCells_one _ q0 ?_) | (refine OldCells_one _ q2 ?_) | (with_reducible first | refine condP_true ?_ | refine condP_false ?_ | refine condP_not ?_ | refine condP_and ?_) | ((with_reducible refine condP_dt ?_ ?_); (· omega)) | ((with_reducible refine condP_df ?_ ?_); (· omega)) | ((with_reducible refine condP_yes ?_ ?_); (· assumption)) | ((with_reducible refine condP_no ?_ ?_); (· assumption)) | ((with_reducible refine ArP_i64 ?_ ?_); (· omega)) | ((with_reducible refine mustP.mk ?_ ?_); (· first | omega | rfl | (dsimp only; omega))) | (with_reducible first | refine EqP_nil tab_ok ?_ | refine EqP_sli tab_ok ?_ | refine DrawP_auto tab_ok (by kernel_rfl) (by decide +kernel) ?_ | refine DrawP_auto2 tab_ok (by kernel_rfl) (by decide +kernel) ?_ | refine eq27 ?_ | refine eq44 ?_ | refine eq54 ?_ | refine eq76 ?_ | refine eq134 ?_ | refine CallP_enter tab_ok Try.func38 (fun vs w => by kernel_rfl) (by rfl) ?_ | refine CallP_enter tab_ok Try.func39 (fun vs w => by kernel_rfl) (by rfl) ?_))))
          exact ⟨rfl, rfl⟩
        rw [if_neg (by omega)] at next
        by_cases d2 : r.y = q.y
        · (repeat ((try (conv => whnf)); (first | (refine ca _ ?_) | (refine OldCells_one _ q0 ?_) | (refine OldCells_one _ q2 ?_) | (with_reducible first | refine condP_true ?_ | refine condP_false ?_ | refine condP_not ?_ | refine condP_and ?_) | ((with_reducible refine condP_dt ?_ ?_); (· omega)) | ((with_reducible refine condP_df ?_ ?_); (· omega)) | ((with_reducible refine condP_yes ?_ ?_); (· assumption)) | ((with_reducible refine condP_no ?_ ?_); (· assumption)) | ((with_reducible refine ArP_i64 ?_ ?_); (· omega)) | ((with_reducible refine mustP.mk ?_ ?_); (· first | omega | rfl | (dsimp only; omega))) | (with_reducible first | refine EqP_nil tab_ok ?_ | refine EqP_sli tab_ok ?_ | refine DrawP_auto tab_ok (by kernel_rfl) (by decide +kernel) ?_ | refine DrawP_auto2 tab_ok (by kernel_rfl) (by decide +kernel) ?_ | refine eq27 ?_ | refine eq44 ?_ | refine eq54 ?_ | refine eq76 ?_ | refine eq134 ?_ | refine CallP_enter tab_ok Try.func38 (fun vs w => by kernel_rfl) (by rfl) ?_ | refine CallP_enter tab_ok Try.func39 (fun vs w => by kernel_rfl) (by rfl) ?_))))
          refine ⟨m + 1 + 1, ⟨by omega, next rfl⟩, by omega, ?_⟩
          ((refine Le_head ?_); (conv => whnf); (refine Le_mk (by rfl) (by rfl) ?_ ?_); (· (repeat (first | (with_reducible exact frLe_nil) | (with_reducible first | refine frLe_any ?_ | refine frLe_val ?_) | ((with_reducible refine frLe_eq rfl ?_ ?_); (· rfl)) | ((with_reducible refine frLe_val' (int_eq ?_) ?_ ?_); (· omega); (· rfl)) | ((with_reducible refine frLe_val' (int_eq ?_) ?_ ?_); (· simp only [Int.natCast_add, Int.natCast_one, Int.natCast_ofNat] <;> omega); (· rfl)) | ((with_reducible refine frLe_val' (bool_eq ?_) ?_ ?_); (· first | assumption | (symm; assumption)); (· rfl))))))
          exact hpLe_nil
        · (repeat ((try (conv => whnf)); (first | (refine ca _ ?_) | (refine OldCells_one _ q0 ?_) | (refine OldCells_one _ q2 ?_) | (with_reducible first | refine condP_true ?_ | refine condP_false ?_ | refine condP_not ?_ | refine condP_and ?_) | ((with_reducible refine condP_dt ?_ ?_); (· omega)) | ((with_reducible refine condP_df ?_ ?_); (· omega)) | ((with_reducible refine condP_yes ?_ ?_); (· assumption)) | ((with_reducible refine condP_no ?_ ?_); (· assumption)) | ((with_reducible refine ArP_i64 ?_ ?_); (· omega)) | ((with_reducible refine mustP.mk ?_ ?_); (· first | omega | rfl | (dsimp only; omega))) | (with_reducible first | refine EqP_nil tab_ok ?_ | refine EqP_sli tab_ok ?_ | refine DrawP_auto tab_ok (by kernel_rfl) (by decide +kernel) ?_ | refine DrawP_auto2 tab_ok (by kernel_rfl) (by decide +kernel) ?_ | refine eq27 ?_ | refine eq44 ?_ | refine eq54 ?_ | refine eq76 ?_ | refine eq134 ?_ | refine CallP_enter tab_ok Try.func38 (fun vs w => by kernel_rfl) (by rfl) ?_ | refine CallP_enter tab_ok Try.func39 (fun vs w => by kernel_rfl) (by rfl) ?_))))
          refine ⟨m + 1 + 1, ⟨by omega, next rfl⟩, by omega, ?_⟩
          ((refine Le_head ?_); (conv => whnf); (refine Le_mk (by rfl) (by rfl) ?_ ?_); (· (repeat (first | (with_reducible exact frLe_nil) | (with_reducible first | refine frLe_any ?_ | refine frLe_val ?_) | ((with_reducible refine frLe_eq rfl ?_ ?_); (· rfl)) | ((with_reducible refine frLe_val' (int_eq ?_) ?_ ?_); (· omega); (· rfl)) | ((with_reducible refine frLe_val' (int_eq ?_) ?_ ?_); (· simp only [Int.natCast_add, Int.natCast_one, Int.natCast_ofNat] <;> omega); (· rfl)) | ((with_reducible refine frLe_val' (bool_eq ?_) ?_ ?_); (· first | assumption | (symm; assumption)); (· rfl))))))
          exact hpLe_nil
    · obtain rfl : i = L.length := by omega
      (repeat ((try (conv => whnf)); (first | (with_reducible first | refine condP_true ?_ | refine condP_false ?_ | refine condP_not ?_ | refine condP_and ?_) | ((with_reducible refine condP_dt ?_ ?_); (· omega)) | ((with_reducible refine condP_df ?_ ?_); (· omega)) | ((with_reducible refine condP_yes ?_ ?_); (· assumption)) | ((with_reducible refine condP_no ?_ ?_); (· assumption)) | ((with_reducible refine ArP_i64 ?_ ?_); (· omega)) | ((with_reducible refine mustP.mk ?_ ?_); (· first | omega | rfl | (dsimp only; omega))) | (with_reducible first | refine EqP_nil tab_ok ?_ | refine EqP_sli tab_ok ?_ | refine DrawP_auto tab_ok (by kernel_rfl) (by decide +kernel) ?_ | refine DrawP_auto2 tab_ok (by kernel_rfl) (by decide +kernel) ?_ | refine eq27 ?_ | refine eq44 ?_ | refine eq54 ?_ | refine eq76 ?_ | refine eq134 ?_))))
      exact ⟨by rw [show errL L = 0 from h0], rfl⟩
set_option maxHeartbeats 2000000 in
theorem RCheck_gives {A : Option Addr} {L : List Run} {c : Nat} {G : Mem} (hR : RunsM G A L) (hc : L.length ≤ c) (hm : c ≤ maxLen) : Gives Try.prog 18 [.val (.slice A L.length c)] G (.val (.int .i64 (errL L))) := by
  unfold maxLen at hm
  refine Gives_of tab_ok Try.func18 ?_
  (repeat ((try (conv => whnf)); (first | (with_reducible first | refine condP_true ?_ | refine condP_false ?_ | refine condP_not ?_ | refine condP_and ?_) | ((with_reducible refine condP_dt ?_ ?_); (· omega)) | ((with_reducible refine condP_df ?_ ?_); (· omega)) | ((with_reducible refine condP_yes ?_ ?_); (· assumption)) | ((with_reducible refine condP_no ?_ ?_); (· assumption)) | ((with_reducible refine ArP_i64 ?_ ?_); (· omega)) | ((with_reducible refine mustP.mk ?_ ?_); (· first | omega | rfl | (dsimp only; omega))) | (with_reducible first | refine EqP_nil tab_ok ?_ | refine EqP_sli tab_ok ?_ | refine DrawP_auto tab_ok (by kernel_rfl) (by decide +kernel) ?_ | refine DrawP_auto2 tab_ok (by kernel_rfl) (by decide +kernel) ?_ | refine eq27 ?_ | refine eq44 ?_ | refine eq54 ?_ | refine eq76 ?_ | refine eq134 ?_))))
  conv => whnf
  refine LoopP_at tab_ok (fun i => i ≤ L.length ∧ regV (nthR L) i = 0) (fun (i : Nat) => [(7, .val (.int .i64 i))]) (fun i => []) (fun i => L.length - i) 0 ⟨Nat.zero_le _, rfl⟩ ?_ ?_
  · ((refine Le_head ?_); (conv => whnf); (refine Le_mk (by rfl) (by rfl) ?_ ?_); (· (repeat (first | (with_reducible exact frLe_nil) | (with_reducible first | refine frLe_any ?_ | refine frLe_val ?_) | ((with_reducible refine frLe_eq rfl ?_ ?_); (· rfl)) | ((with_reducible refine frLe_val' (int_eq ?_) ?_ ?_); (· omega); (· rfl)) | ((with_reducible refine frLe_val' (int_eq ?_) ?_ ?_); (· simp only [Int.natCast_add, Int.natCast_one, Int.natCast_ofNat] <;> omega); (· rfl)) | ((with_reducible refine frLe_val' (bool_eq ?_) ?_ ?_); (· first | assumption | (symm; assumption)); (· rfl))))))
    exact hpLe_nil
  · rintro i ⟨hi, h0⟩
    rcases Nat.lt_or_ge i L.length with h1 | h1
    · obtain ⟨r, hr⟩ : ∃ r, L[i]? = some r := ⟨L[i], List.getElem?_eq_getElem h1⟩
      obtain ⟨p, rfl, ca⟩ := hR.cells hr
      have hn := nthR_get hr
      have first := fun h => errL_first h0 h1 h
      have next := fun h => regV_next (rs := nthR L) (k := i) h0 h
      have herr : runErr (nthR L) i = if r.y < -8192 ∨ 8191 < r.y ∨ r.x0 < -8192 ∨ 8192 < r.x0 ∨ r.x1 < -8192 ∨ 8192 < r.x1 then 3 else if r.x1 ≤ r.x0 then 4 else if 0 < i ∧ r.y ≤ (nthR L (i - 1)).y ∧ (r.y < (nthR L (i - 1)).y ∨ r.x0 ≤ (nthR L (i - 1)).x1) then 18 else 0 := by unfold runErr; rw [hn]
      rw [herr] at first next
      clear herr
      by_cases c0 : r.y < -8192
      · rw [if_pos (by omega)] at first
        rw [first (by omega)]
        (repeat ((try (conv => whnf)); (first | (refine ca _ ?_) | (with_reducible first | refine condP_true ?_ | refine condP_false ?_ | refine condP_not ?_ | refine condP_and ?_) | ((with_reducible refine condP_dt ?_ ?_); (· omega)) | ((with_reducible refine condP_df ?_ ?_); (· omega)) | ((with_reducible refine condP_yes ?_ ?_); (· assumption)) | ((with_reducible refine condP_no ?_ ?_); (· assumption)) | ((with_reducible refine ArP_i64 ?_ ?_); (· omega)) | ((with_reducible refine mustP.mk ?_ ?_); (· first | omega | rfl | (dsimp only; omega))) | (with_reducible first | refine EqP_nil tab_ok ?_ | refine EqP_sli tab_ok ?_ | refine DrawP_auto tab_ok (by kernel_rfl) (by decide +kernel) ?_ | refine DrawP_auto2 tab_ok (by kernel_rfl) (by decide +kernel) ?_ | refine eq27 ?_ | refine eq44 ?_ | refine eq54 ?_ | refine eq76 ?_ | refine eq134 ?_ | refine CallP_enter tab_ok Try.func9 (fun vs w => by kernel_rfl) (by rfl) ?_))))
        exact ⟨rfl, rfl⟩
      by_cases c1 : 8191 < r.y
      · rw [if_pos (by omega)] at first
        rw [first (by omega)]
        (repeat ((try (conv => whnf)); (first | (refine ca _ ?_) | (with_reducible first | refine condP_true ?_ | refine condP_false ?_ | refine condP_not ?_ | refine condP_and ?_) | ((with_reducible refine condP_dt ?_ ?_); (· omega)) | ((with_reducible refine condP_df ?_ ?_); (· omega)) | ((with_reducible refine condP_yes ?_ ?_); (· assumption)) | ((with_reducible refine condP_no ?_ ?_); (· assumption)) | ((with_reducible refine ArP_i64 ?_ ?_); (· omega)) | ((with_reducible refine mustP.mk ?_ ?_); (· first | omega | rfl | (dsimp only; omega))) | (with_reducible first | refine EqP_nil tab_ok ?_ | refine EqP_sli tab_ok ?_ | refine DrawP_auto tab_ok (by kernel_rfl) (by decide +kernel) ?_ | refine DrawP_auto2 tab_ok (by kernel_rfl) (by decide +kernel) ?_ | refine eq27 ?_ | refine eq44 ?_ | refine eq54 ?_ | refine eq76 ?_ | refine eq134 ?_ | refine CallP_enter tab_ok Try.func9 (fun vs w => by kernel_rfl) (by rfl) ?_))))
        exact ⟨rfl, rfl⟩
      by_cases c2 : r.x0 < -8192
      · rw [if_pos (by omega)] at first
        rw [first (by omega)]
        (repeat ((try (conv => whnf)); (first | (refine ca _ ?_) | (with_reducible first | refine condP_true ?_ | refine condP_false ?_ | refine condP_not ?_ | refine condP_and ?_) | ((with_reducible refine condP_dt ?_ ?_); (· omega)) | ((with_reducible refine condP_df ?_ ?_); (· omega)) | ((with_reducible refine condP_yes ?_ ?_); (· assumption)) | ((with_reducible refine condP_no ?_ ?_); (· assumption)) | ((with_reducible refine ArP_i64 ?_ ?_); (· omega)) | ((with_reducible refine mustP.mk ?_ ?_); (· first | omega | rfl | (dsimp only; omega))) | (with_reducible first | refine EqP_nil tab_ok ?_ | refine EqP_sli tab_ok ?_ | refine DrawP_auto tab_ok (by kernel_rfl) (by decide +kernel) ?_ | refine DrawP_auto2 tab_ok (by kernel_rfl) (by decide +kernel) ?_ | refine eq27 ?_ | refine eq44 ?_ | refine eq54 ?_ | refine eq76 ?_ | refine eq134 ?_ | refine CallP_enter tab_ok Try.func9 (fun vs w => by kernel_rfl) (by rfl) ?_))))
        exact ⟨rfl, rfl⟩
      by_cases c3 : 8192 < r.x0
      · rw [if_pos (by omega)] at first
        rw [first (by omega)]
        (repeat ((try (conv => whnf)); (first | (refine ca _ ?_) | (with_reducible first | refine condP_true ?_ | refine condP_false ?_ | refine condP_not ?_ | refine condP_and ?_) | ((with_reducible refine condP_dt ?_ ?_); (· omega)) | ((with_reducible refine condP_df ?_ ?_); (· omega)) | ((with_reducible refine condP_yes ?_ ?_); (· assumption)) | ((with_reducible refine condP_no ?_ ?_); (· assumption)) | ((with_reducible refine ArP_i64 ?_ ?_); (· omega)) | ((with_reducible refine mustP.mk ?_ ?_); (· first | omega | rfl | (dsimp only; omega))) | (with_reducible first | refine EqP_nil tab_ok ?_ | refine EqP_sli tab_ok ?_ | refine DrawP_auto tab_ok (by kernel_rfl) (by decide +kernel) ?_ | refine DrawP_auto2 tab_ok (by kernel_rfl) (by decide +kernel) ?_ | refine eq27 ?_ | refine eq44 ?_ | refine eq54 ?_ | refine eq76 ?_ | refine eq134 ?_ | refine CallP_enter tab_ok Try.func9 (fun vs w => by kernel_rfl) (by rfl) ?_))))
        exact ⟨rfl, rfl⟩
      by_cases c4 : r.x1 < -8192
      · rw [if_pos (by omega)] at first
        rw [first (by omega)]
        (repeat ((try (conv => whnf)); (first | (refine ca _ ?_) | (with_reducible first | refine condP_true ?_ | refine condP_false ?_ | refine condP_not ?_ | refine condP_and ?_) | ((with_reducible refine condP_dt ?_ ?_); (· omega)) | ((with_reducible refine condP_df ?_ ?_); (· omega)) | ((with_reducible refine condP_yes ?_ ?_); (· assumption)) | ((with_reducible refine condP_no ?_ ?_); (· assumption)) | ((with_reducible refine ArP_i64 ?_ ?_); (· omega)) | ((with_reducible refine mustP.mk ?_ ?_); (· first | omega | rfl | (dsimp only; omega))) | (with_reducible first | refine EqP_nil tab_ok ?_ | refine EqP_sli tab_ok ?_ | refine DrawP_auto tab_ok (by kernel_rfl) (by decide +kernel) ?_ | refine DrawP_auto2 tab_ok (by kernel_rfl) (by decide +kernel) ?_ | refine eq27 ?_ | refine eq44 ?_ | refine eq54 ?_ | refine eq76 ?_ | refine eq134 ?_ | refine CallP_enter tab_ok Try.func9 (fun vs w => by kernel_rfl) (by rfl) ?_))))
        exact ⟨rfl, rfl⟩
      by_cases c5 : 8192 < r.x1
      · rw [if_pos (by omega)] at first
        rw [first (by omega)]
        (repeat ((try (conv => whnf)); (first | (refine ca _ ?_) | (with_reducible first | refine condP_true ?_ | refine condP_false ?_ | refine condP_not ?_ | refine condP_and ?_) | ((with_reducible refine condP_dt ?_ ?_); (· omega)) | ((with_reducible refine condP_df ?_ ?_); (· omega)) | ((with_reducible refine condP_yes ?_ ?_); (· assumption)) | ((with_reducible refine condP_no ?_ ?_); (· assumption)) | ((with_reducible refine ArP_i64 ?_ ?_); (· omega)) | ((with_reducible refine mustP.mk ?_ ?_); (· first | omega | rfl | (dsimp only; omega))) | (with_reducible first | refine EqP_nil tab_ok ?_ | refine EqP_sli tab_ok ?_ | refine DrawP_auto tab_ok (by kernel_rfl) (by decide +kernel) ?_ | refine DrawP_auto2 tab_ok (by kernel_rfl) (by decide +kernel) ?_ | refine eq27 ?_ | refine eq44 ?_ | refine eq54 ?_ | refine eq76 ?_ | refine eq134 ?_ | refine CallP_enter tab_ok Try.func9 (fun vs w => by kernel_rfl) (by rfl) ?_))))
        exact ⟨rfl, rfl⟩
      rw [if_neg (by omega)] at first next
      by_cases c6 : r.x1 ≤ r.x0
      · rw [if_pos c6] at first
        rw [first (by omega)]
        (repeat ((try (conv => whnf)); (first | (refine ca _ ?_) | (with_reducible first | refine condP_true ?_ | refine condP_false ?_ | refine condP_not ?_ | refine condP_and ?_) | ((with_reducible refine condP_dt ?_ ?_); (· omega)) | ((with_reducible refine condP_df ?_ ?_); (· omega)) | ((with_reducible refine condP_yes ?_ ?_); (· assumption)) | ((with_reducible refine condP_no ?_ ?_); (· assumption)) | ((with_reducible refine ArP_i64 ?_ ?_); (· omega)) | ((with_reducible refine mustP.mk ?_ ?_); (· first | omega | rfl | (dsimp only; omega))) | (with_reducible first | refine EqP_nil tab_ok ?_ | refine EqP_sli tab_ok ?_ | refine DrawP_auto tab_ok (by kernel_rfl) (by decide +kernel) ?_ | refine DrawP_auto2 tab_ok (by kernel_rfl) (by decide +kernel) ?_ | refine eq27 ?_ | refine eq44 ?_ | refine eq54 ?_ | refine eq76 ?_ | refine eq134 ?_ | refine CallP_enter tab_ok Try.func9 (fun vs w => by kernel_rfl) (by rfl) ?_))))
        exact ⟨rfl, rfl⟩
      rw [if_neg c6] at first next
      rcases i with _ | m
      · rw [if_neg (by omega)] at next
        (repeat ((try (conv => whnf)); (first | (refine ca _ ?_) | (with_reducible first | refine condP_true ?_ | refine condP_false ?_ | refine condP_not ?_ | refine condP_and ?_) | ((with_reducible refine condP_dt ?_ ?_); (· omega)) | ((with_reducible refine condP_df ?_ ?_); (· omega)) | ((with_reducible refine condP_yes ?_ ?_); (· assumption)) | ((with_reducible refine condP_no ?_ ?_); (· assumption)) | ((with_reducible refine ArP_i64 ?_ ?_); (· omega)) | ((with_reducible refine mustP.mk ?_ ?_); (· first | omega | rfl | (dsimp only; omega))) | (with_reducible first | refine EqP_nil tab_ok ?_ | refine EqP_sli tab_ok ?_ | refine DrawP_auto tab_ok (by kernel_rfl) (by decide +kernel) ?_ | refine DrawP_auto2 tab_ok (by kernel_rfl) (by decide +kernel) ?_ | refine eq27 ?_ | refine eq44 ?_ | refine eq54 ?_ | refine eq76 ?_ | refine eq134 ?_ | refine CallP_enter tab_ok Try.func9 (fun vs w => by kernel_rfl) (by rfl) ?_))))
        refine ⟨1, ⟨by omega, next rfl⟩, by omega, ?_⟩
        ((refine Le_head ?_); (conv => whnf); (refine Le_mk (by rfl) (by rfl) ?_ ?_); (· (repeat (first | (with_reducible exact frLe_nil) | (with_reducible first | refine frLe_any ?_ | refine frLe_val ?_) | ((with_reducible refine frLe_eq rfl ?_ ?_); (· rfl)) | ((with_reducible refine frLe_val' (int_eq ?_) ?_ ?_); (· omega); (· rfl)) | ((with_reducible refine frLe_val' (int_eq ?_) ?_ ?_); (· simp only [Int.natCast_add, Int.natCast_one, Int.natCast_ofNat] <;> omega); (· rfl)) | ((with_reducible refine frLe_val' (bool_eq ?_) ?_ ?_); (· first | assumption | (symm; assumption)); (· rfl))))))
        exact hpLe_nil
      · obtain ⟨q, hq⟩ : ∃ q, L[m]? = some q := ⟨L[m], List.getElem?_eq_getElem (by omega)⟩
        obtain ⟨p', he, q0, q1, q2⟩ := hR.at_ hq
        cases he
        have hix : (((m + 1 : Nat) : Int) - 1).toNat = m := by omega
        rw [← hix] at q0 q1 q2
        rw [Nat.add_sub_cancel, nthR_get hq] at first next
        by_cases d0 : r.y < q.y
        · rw [if_pos (by omega)] at first
          rw [first (by omega)]
          (repeat ((try (conv => whnf)); (first | (refine ca _ ?_) | (refine OldCells_one _ q0 ?_) | (refine OldCells_one _ q2 ?_) | (with_reducible first | refine condP_true ?_ | refine condP_false ?_ | refine condP_not ?_ | refine condP_and ?_) | ((with_reducible refine condP_dt ?_ ?_); (· omega)) | ((with_reducible refine condP_df ?_ ?_); (· omega)) | ((with_reducible refine condP_yes ?_ ?_); (· assumption)) | ((with_reducible refine condP_no ?_ ?_); (· assumption)) | ((with_reducible refine ArP_i64 ?_ ?_); (· omega)) | ((with_reducible refine mustP.mk ?_ ?_); (· first | omega | rfl | (dsimp only; omega))) | (with_reducible first | refine EqP_nil tab_ok ?_ | refine EqP_sli tab_ok ?_ | refine DrawP_auto tab_ok (by kernel_rfl) (by decide +kernel) ?_ | refine DrawP_auto2 tab_ok (by kernel_rfl) (by decide +kernel) ?_ | refine eq27 ?_ | refine eq44 ?_ | refine eq54 ?_ | refine eq76 ?_ | refine eq134 ?_ | refine CallP_enter tab_ok Try.func9 (fun vs w => by kernel_rfl) (by rfl) ?_))))
          exact ⟨rfl, rfl⟩
        by_cases d1 : r.y = q.y ∧ r.x0 ≤ q.x1
        · obtain ⟨d1, d2⟩ := d1
          rw [if_pos (by omega)] at first
          rw [first (by omega)]
          (repeat ((try (conv => whnf)); (first | (refine ca _ ?_) | (refine OldCells_one _ q0 ?_) | (refine OldCells_one _ q2 ?_) | (with_reducible first | refine condP_true ?_ | refine condP_false ?_ | refine condP_not ?_ | refine condP_and ?_) | ((with_reducible refine condP_dt ?_ ?_); (· omega)) | ((with_reducible refine condP_df ?_ ?_); (· omega)) | ((with_reducible refine condP_yes ?_ ?_); (· assumption)) | ((with_reducible refine condP_no ?_ ?_); (· assumption)) | ((with_reducible refine ArP_i64 ?_ ?_); (· omega)) | ((with_reducible refine mustP.mk ?_ ?_); (· first | omega | rfl | (dsimp only; omega))) | (with_reducible first | refine EqP_nil tab_ok ?_ | refine EqP_sli tab_ok ?_ | refine DrawP_auto tab_ok (by kernel_rfl) (by decide +kernel) ?_ | refine DrawP_auto2 tab_ok (by kernel_rfl) (by decide +kernel) ?_ | refine eq27 ?_ | refine eq44 ?_ | refine eq54 ?_ | refine eq76 ?_ | refine eq134 ?_ | refine CallP_enter tab_ok Try.func9 (fun vs w => by kernel_rfl) (by rfl) ?_))))
          exact ⟨rfl, rfl⟩
        rw [if_neg (by omega)] at next
        by_cases d2 : r.y = q.y
        · (repeat ((try (conv => whnf)); (first | (refine ca _ ?_) | (refine OldCells_one _ q0 ?_) | (refine OldCells_one _ q2 ?_) | (with_reducible first | refine condP_true ?_ | refine condP_false ?_ | refine condP_not ?_ | refine condP_and ?_) | ((with_reducible refine condP_dt ?_ ?_); (· omega)) | ((with_reducible refine condP_df ?_ ?_); (· omega)) | ((with_reducible refine condP_yes ?_ ?_); (· assumption)) | ((with_reducible refine condP_no ?_ ?_); (· assumption)) | ((with_reducible refine ArP_i64 ?_ ?_); (· omega)) | ((with_reducible refine mustP.mk ?_ ?_); (· first | omega | rfl | (dsimp only; omega))) | (with_reducible first | refine EqP_nil tab_ok ?_ | refine EqP_sli tab_ok ?_ | refine DrawP_auto tab_ok (by kernel_rfl) (by decide +kernel) ?_ | refine DrawP_auto2 tab_ok (by kernel_rfl) (by decide +kernel) ?_ | refine eq27 ?_ | refine eq44 ?_ | refine eq54 ?_ | refine eq76 ?_ | refine eq134 ?_ | refine CallP_enter tab_ok Try.func9 (fun vs w => by kernel_rfl) (by rfl) ?_))))
          refine ⟨m + 1 + 1, ⟨by omega, next rfl⟩, by omega, ?_⟩
          ((refine Le_head ?_); (conv => whnf); (refine Le_mk (by rfl) (by rfl) ?_ ?_); (· (repeat (first | (with_reducible exact frLe_nil) | (with_reducible first | refine frLe_any ?_ | refine frLe_val ?_) | ((with_reducible refine frLe_eq rfl ?_ ?_); (· rfl)) | ((with_reducible refine frLe_val' (int_eq ?_) ?_ ?_); (· omega); (· rfl)) | ((with_reducible refine frLe_val' (int_eq ?_) ?_ ?_); (· simp only [Int.natCast_add, Int.natCast_one, Int.natCast_ofNat] <;> omega); (· rfl)) | ((with_reducible refine frLe_val' (bool_eq ?_) ?_ ?_); (· first | assumption | (symm; assumption)); (· rfl))))))
          exact hpLe_nil
        · (repeat ((try (conv => whnf)); (first | (refine ca _ ?_) | (refine OldCells_one _ q0 ?_) | (refine OldCells_one _ q2 ?_) | (with_reducible first | refine condP_true ?_ | refine condP_false ?_ | refine condP_not ?_ | refine condP_and ?_) | ((with_reducible refine condP_dt ?_ ?_); (· omega)) | ((with_reducible refine condP_df ?_ ?_); (· omega)) | ((with_reducible refine condP_yes ?_ ?_); (· assumption)) | ((with_reducible refine condP_no ?_ ?_); (· assumption)) | ((with_reducible refine ArP_i64 ?_ ?_); (· omega)) | ((with_reducible refine mustP.mk ?_ ?_); (· first | omega | rfl | (dsimp only; omega))) | (with_reducible first | refine EqP_nil tab_ok ?_ | refine EqP_sli tab_ok ?_ | refine DrawP_auto tab_ok (by kernel_rfl) (by decide +kernel) ?_ | refine DrawP_auto2 tab_ok (by kernel_rfl) (by decide +kernel) ?_ | refine eq27 ?_ | refine eq44 ?_ | refine eq54 ?_ | refine eq76 ?_ | refine eq134 ?_ | refine CallP_enter tab_ok Try.func9 (fun vs w => by kernel_rfl) (by rfl) ?_))))
          refine ⟨m + 1 + 1, ⟨by omega, next rfl⟩, by omega, ?_⟩
          ((refine Le_head ?_); (conv => whnf); (refine Le_mk (by rfl) (by rfl) ?_ ?_); (· (repeat (first | (with_reducible exact frLe_nil) | (with_reducible first | refine frLe_any ?_ | refine frLe_val ?_) | ((with_reducible refine frLe_eq rfl ?_ ?_); (· rfl)) | ((with_reducible refine frLe_val' (int_eq ?_) ?_ ?_); (· omega); (· rfl)) | ((with_reducible refine frLe_val' (int_eq ?_) ?_ ?_); (· simp only [Int.natCast_add, Int.natCast_one, Int.natCast_ofNat] <;> omega); (· rfl)) | ((with_reducible refine frLe_val' (bool_eq ?_) ?_ ?_); (· first | assumption | (symm; assumption)); (· rfl))))))
          exact hpLe_nil
    · obtain rfl : i = L.length := by omega
      (repeat ((try (conv => whnf)); (first | (with_reducible first | refine condP_true ?_ | refine condP_false ?_ | refine condP_not ?_ | refine condP_and ?_) | ((with_reducible refine condP_dt ?_ ?_); (· omega)) | ((with_reducible refine condP_df ?_ ?_); (· omega)) | ((with_reducible refine condP_yes ?_ ?_); (· assumption)) | ((with_reducible refine condP_no ?_ ?_); (· assumption)) | ((with_reducible refine ArP_i64 ?_ ?_); (· omega)) | ((with_reducible refine mustP.mk ?_ ?_); (· first | omega | rfl | (dsimp only; omega))) | (with_reducible first | refine EqP_nil tab_ok ?_ | refine EqP_sli tab_ok ?_ | refine DrawP_auto tab_ok (by kernel_rfl) (by decide +kernel) ?_ | refine DrawP_auto2 tab_ok (by kernel_rfl) (by decide +kernel) ?_ | refine eq27 ?_ | refine eq44 ?_ | refine eq54 ?_ | refine eq76 ?_ | refine eq134 ?_))))
      exact ⟨by rw [show errL L = 0 from h0], rfl⟩
end Go.Proofs.Ytbkhpddodmbdoaa
