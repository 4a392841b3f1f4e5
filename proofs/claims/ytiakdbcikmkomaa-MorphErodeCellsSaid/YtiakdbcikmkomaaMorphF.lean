/-
  morph.Dilate, Erode, Open, Close, Edge: contracts.
-/
import Derived.Test.YtiakdbcikmkomaaMorph
namespace Go.Proofs.Ytiakdbcikmkomaa
open Go.RowKit
set_option linter.unusedVariables false
set_option maxRecDepth 20000
section
variable {A : Option Addr} {L : List Run} {c : Nat} {w : Int} {G : Mem}
theorem Dilate_makes (hA : RunsM G A L) (hc : L.length ≤ c) (hm : c ≤ maxLen) (he : spE L w = 0) (hl : L.length ≤ 1000000) : Makes Try.prog 9 [.val (.slice A L.length c), .val (.int .i64 w)] G (pairE 0) 34 3 (DL w L).length (flatR (DL w L)) := by
  obtain ⟨e1, hw⟩ := spE_ok he
  have ck := check_gives (w := w) hA hc hm
  rw [he] at ck
  have mk := dilate_makes (c := c) hA (errL_ok e1) hw hl
  refine Makes_of tab_ok Try.func9 (pairE_wraps 0) ?_
  (repeat ((try (conv => whnf)); (first | (with_reducible first | refine condP_true ?_ | refine condP_false ?_ | refine condP_not ?_ | refine condP_and ?_) | ((with_reducible refine condP_dt ?_ ?_); (· omega)) | ((with_reducible refine condP_df ?_ ?_); (· omega)) | ((with_reducible refine condP_yes ?_ ?_); (· assumption)) | ((with_reducible refine condP_no ?_ ?_); (· assumption)) | ((with_reducible refine ArP_i64 ?_ ?_); (· omega)) | ((with_reducible refine mustP.mk ?_ ?_); (· first | omega | rfl | (dsimp only; omega))) | (with_reducible first | refine EqP_nil tab_ok ?_ | refine EqP_sli tab_ok ?_ | refine DrawP_auto tab_ok (by kernel_rfl) (by decide +kernel) ?_ | refine DrawP_auto2 tab_ok (by kernel_rfl) (by decide +kernel) ?_ | refine eq34 ?_ | refine eq68 ?_ | refine CallP_enter tab_ok Try.func19 (fun vs w => by kernel_rfl) (by rfl) ?_ | refine CallP_gives (fun vs w => by kernel_rfl) (by kernel_rfl) (ck) ?_ | refine RCallP_gives (fun vs w => by kernel_rfl) (by kernel_rfl) (ck) ?_))))
  conv => whnf
  refine CallP_makes (fun vs w => by kernel_rfl) (.alone fun _ => rfl) (by kernel_rfl) mk ?_
  (repeat ((try (conv => whnf)); (first | (with_reducible first | refine condP_true ?_ | refine condP_false ?_ | refine condP_not ?_ | refine condP_and ?_) | ((with_reducible refine condP_dt ?_ ?_); (· omega)) | ((with_reducible refine condP_df ?_ ?_); (· omega)) | ((with_reducible refine condP_yes ?_ ?_); (· assumption)) | ((with_reducible refine condP_no ?_ ?_); (· assumption)) | ((with_reducible refine ArP_i64 ?_ ?_); (· omega)) | ((with_reducible refine mustP.mk ?_ ?_); (· first | omega | rfl | (dsimp only; omega))) | (with_reducible first | refine EqP_nil tab_ok ?_ | refine EqP_sli tab_ok ?_ | refine DrawP_auto tab_ok (by kernel_rfl) (by decide +kernel) ?_ | refine DrawP_auto2 tab_ok (by kernel_rfl) (by decide +kernel) ?_ | refine eq34 ?_ | refine eq68 ?_))))
  conv => whnf
  exact .inl ⟨0, rfl, rfl⟩
theorem Erode_makes (hA : RunsM G A L) (hc : L.length ≤ c) (hm : c ≤ maxLen) (he : spE L w = 0) (hl : L.length ≤ 10000) : Makes Try.prog 13 [.val (.slice A L.length c), .val (.int .i64 w)] G (pairE 0) 34 3 (EL w L).length (flatR (EL w L)) := by
  obtain ⟨e1, hw⟩ := spE_ok he
  have ck := check_gives (w := w) hA hc hm
  rw [he] at ck
  have mk := erode_makes (c := c) hA hc hm (errL_ok e1) e1 hw hl
  refine Makes_of tab_ok Try.func13 (pairE_wraps 0) ?_
  (repeat ((try (conv => whnf)); (first | (with_reducible first | refine condP_true ?_ | refine condP_false ?_ | refine condP_not ?_ | refine condP_and ?_) | ((with_reducible refine condP_dt ?_ ?_); (· omega)) | ((with_reducible refine condP_df ?_ ?_); (· omega)) | ((with_reducible refine condP_yes ?_ ?_); (· assumption)) | ((with_reducible refine condP_no ?_ ?_); (· assumption)) | ((with_reducible refine ArP_i64 ?_ ?_); (· omega)) | ((with_reducible refine mustP.mk ?_ ?_); (· first | omega | rfl | (dsimp only; omega))) | (with_reducible first | refine EqP_nil tab_ok ?_ | refine EqP_sli tab_ok ?_ | refine DrawP_auto tab_ok (by kernel_rfl) (by decide +kernel) ?_ | refine DrawP_auto2 tab_ok (by kernel_rfl) (by decide +kernel) ?_ | refine eq34 ?_ | refine eq68 ?_ | refine CallP_enter tab_ok Try.func19 (fun vs w => by kernel_rfl) (by rfl) ?_ | refine CallP_gives (fun vs w => by kernel_rfl) (by kernel_rfl) (ck) ?_ | refine RCallP_gives (fun vs w => by kernel_rfl) (by kernel_rfl) (ck) ?_))))
  conv => whnf
  refine CallP_makes (fun vs w => by kernel_rfl) (.alone fun _ => rfl) (by kernel_rfl) mk ?_
  (repeat ((try (conv => whnf)); (first | (with_reducible first | refine condP_true ?_ | refine condP_false ?_ | refine condP_not ?_ | refine condP_and ?_) | ((with_reducible refine condP_dt ?_ ?_); (· omega)) | ((with_reducible refine condP_df ?_ ?_); (· omega)) | ((with_reducible refine condP_yes ?_ ?_); (· assumption)) | ((with_reducible refine condP_no ?_ ?_); (· assumption)) | ((with_reducible refine ArP_i64 ?_ ?_); (· omega)) | ((with_reducible refine mustP.mk ?_ ?_); (· first | omega | rfl | (dsimp only; omega))) | (with_reducible first | refine EqP_nil tab_ok ?_ | refine EqP_sli tab_ok ?_ | refine DrawP_auto tab_ok (by kernel_rfl) (by decide +kernel) ?_ | refine DrawP_auto2 tab_ok (by kernel_rfl) (by decide +kernel) ?_ | refine eq34 ?_ | refine eq68 ?_))))
  conv => whnf
  exact .inl ⟨0, rfl, rfl⟩
theorem open1_makes (hA : RunsM G A L) (hc : L.length ≤ c) (hm : c ≤ maxLen) (e1 : errL L = 0) (hw : 0 ≤ w ∧ w ≤ 64) (hl : L.length ≤ 70) : Makes Try.prog 27 [.val (.slice A L.length c), .val (.int .i64 w)] G id 34 3 (DL w (EL w L)).length (flatR (DL w (EL w L))) := by
  have mk := erode_makes (c := c) hA hc hm (errL_ok e1) e1 hw (by omega)
  have hv := EL_valid hw.1 (errL_ok e1)
  have hel : (EL w L).length ≤ 1000000 := by
    refine Nat.le_trans (EL_len hw L) (Nat.le_trans (Nat.mul_le_mul hl (Nat.mul_le_mul_left 129 hl)) (by omega))
  refine Makes_of tab_ok Try.func27 (.alone fun _ => rfl) ?_
  (repeat ((try (conv => whnf)); (first | (with_reducible first | refine condP_true ?_ | refine condP_false ?_ | refine condP_not ?_ | refine condP_and ?_) | ((with_reducible refine condP_dt ?_ ?_); (· omega)) | ((with_reducible refine condP_df ?_ ?_); (· omega)) | ((with_reducible refine condP_yes ?_ ?_); (· assumption)) | ((with_reducible refine condP_no ?_ ?_); (· assumption)) | ((with_reducible refine ArP_i64 ?_ ?_); (· omega)) | ((with_reducible refine mustP.mk ?_ ?_); (· first | omega | rfl | (dsimp only; omega))) | (with_reducible first | refine EqP_nil tab_ok ?_ | refine EqP_sli tab_ok ?_ | refine DrawP_auto tab_ok (by kernel_rfl) (by decide +kernel) ?_ | refine DrawP_auto2 tab_ok (by kernel_rfl) (by decide +kernel) ?_ | refine eq34 ?_ | refine eq68 ?_))))
  conv => whnf
  refine CallP_freeze (fun vs w => by kernel_rfl) (.alone fun _ => rfl) (by kernel_rfl) mk fun A2 c2 G2 hG2 hc2 hm2 hx2 => ?_
  have hC := RunsM.frozen hx2
  have mk2 := dilate_makes (c := c2) hC hv hw hel
  (repeat ((try (conv => whnf)); (first | (with_reducible first | refine condP_true ?_ | refine condP_false ?_ | refine condP_not ?_ | refine condP_and ?_) | ((with_reducible refine condP_dt ?_ ?_); (· omega)) | ((with_reducible refine condP_df ?_ ?_); (· omega)) | ((with_reducible refine condP_yes ?_ ?_); (· assumption)) | ((with_reducible refine condP_no ?_ ?_); (· assumption)) | ((with_reducible refine ArP_i64 ?_ ?_); (· omega)) | ((with_reducible refine mustP.mk ?_ ?_); (· first | omega | rfl | (dsimp only; omega))) | (with_reducible first | refine EqP_nil tab_ok ?_ | refine EqP_sli tab_ok ?_ | refine DrawP_auto tab_ok (by kernel_rfl) (by decide +kernel) ?_ | refine DrawP_auto2 tab_ok (by kernel_rfl) (by decide +kernel) ?_ | refine eq34 ?_ | refine eq68 ?_))))
  conv => whnf
  refine CallP_makes (fun vs w => by kernel_rfl) (.alone fun _ => rfl) (by kernel_rfl) mk2 ?_
  (repeat ((try (conv => whnf)); (first | (with_reducible first | refine condP_true ?_ | refine condP_false ?_ | refine condP_not ?_ | refine condP_and ?_) | ((with_reducible refine condP_dt ?_ ?_); (· omega)) | ((with_reducible refine condP_df ?_ ?_); (· omega)) | ((with_reducible refine condP_yes ?_ ?_); (· assumption)) | ((with_reducible refine condP_no ?_ ?_); (· assumption)) | ((with_reducible refine ArP_i64 ?_ ?_); (· omega)) | ((with_reducible refine mustP.mk ?_ ?_); (· first | omega | rfl | (dsimp only; omega))) | (with_reducible first | refine EqP_nil tab_ok ?_ | refine EqP_sli tab_ok ?_ | refine DrawP_auto tab_ok (by kernel_rfl) (by decide +kernel) ?_ | refine DrawP_auto2 tab_ok (by kernel_rfl) (by decide +kernel) ?_ | refine eq34 ?_ | refine eq68 ?_))))
  exact .inl ⟨0, rfl, rfl⟩
theorem close1_makes (hA : RunsM G A L) (e1 : errL L = 0) (hw : 0 ≤ w ∧ w ≤ 64) (hl : L.length ≤ 70) : Makes Try.prog 28 [.val (.slice A L.length c), .val (.int .i64 w)] G id 34 3 (EL w (DL w L)).length (flatR (EL w (DL w L))) := by
  have mk := dilate_makes (c := c) hA (errL_ok e1) hw (by omega)
  have hv : ValidL (DL w L) := DL_valid (errL_ok e1)
  have hdl := DL_len hw L
  refine Makes_of tab_ok Try.func28 (.alone fun _ => rfl) ?_
  (repeat ((try (conv => whnf)); (first | (with_reducible first | refine condP_true ?_ | refine condP_false ?_ | refine condP_not ?_ | refine condP_and ?_) | ((with_reducible refine condP_dt ?_ ?_); (· omega)) | ((with_reducible refine condP_df ?_ ?_); (· omega)) | ((with_reducible refine condP_yes ?_ ?_); (· assumption)) | ((with_reducible refine condP_no ?_ ?_); (· assumption)) | ((with_reducible refine ArP_i64 ?_ ?_); (· omega)) | ((with_reducible refine mustP.mk ?_ ?_); (· first | omega | rfl | (dsimp only; omega))) | (with_reducible first | refine EqP_nil tab_ok ?_ | refine EqP_sli tab_ok ?_ | refine DrawP_auto tab_ok (by kernel_rfl) (by decide +kernel) ?_ | refine DrawP_auto2 tab_ok (by kernel_rfl) (by decide +kernel) ?_ | refine eq34 ?_ | refine eq68 ?_))))
  conv => whnf
  refine CallP_freeze (fun vs w => by kernel_rfl) (.alone fun _ => rfl) (by kernel_rfl) mk fun A2 c2 G2 hG2 hc2 hm2 hx2 => ?_
  have hC := RunsM.frozen hx2
  have mk2 := erode_makes (c := c2) hC hc2 hm2 hv (errL_none hv) hw (show (DL w L).length ≤ 10000 by omega)
  (repeat ((try (conv => whnf)); (first | (with_reducible first | refine condP_true ?_ | refine condP_false ?_ | refine condP_not ?_ | refine condP_and ?_) | ((with_reducible refine condP_dt ?_ ?_); (· omega)) | ((with_reducible refine condP_df ?_ ?_); (· omega)) | ((with_reducible refine condP_yes ?_ ?_); (· assumption)) | ((with_reducible refine condP_no ?_ ?_); (· assumption)) | ((with_reducible refine ArP_i64 ?_ ?_); (· omega)) | ((with_reducible refine mustP.mk ?_ ?_); (· first | omega | rfl | (dsimp only; omega))) | (with_reducible first | refine EqP_nil tab_ok ?_ | refine EqP_sli tab_ok ?_ | refine DrawP_auto tab_ok (by kernel_rfl) (by decide +kernel) ?_ | refine DrawP_auto2 tab_ok (by kernel_rfl) (by decide +kernel) ?_ | refine eq34 ?_ | refine eq68 ?_))))
  conv => whnf
  refine CallP_makes (fun vs w => by kernel_rfl) (.alone fun _ => rfl) (by kernel_rfl) mk2 ?_
  (repeat ((try (conv => whnf)); (first | (with_reducible first | refine condP_true ?_ | refine condP_false ?_ | refine condP_not ?_ | refine condP_and ?_) | ((with_reducible refine condP_dt ?_ ?_); (· omega)) | ((with_reducible refine condP_df ?_ ?_); (· omega)) | ((with_reducible refine condP_yes ?_ ?_); (· assumption)) | ((with_reducible refine condP_no ?_ ?_); (· assumption)) | ((with_reducible refine ArP_i64 ?_ ?_); (· omega)) | ((with_reducible refine mustP.mk ?_ ?_); (· first | omega | rfl | (dsimp only; omega))) | (with_reducible first | refine EqP_nil tab_ok ?_ | refine EqP_sli tab_ok ?_ | refine DrawP_auto tab_ok (by kernel_rfl) (by decide +kernel) ?_ | refine DrawP_auto2 tab_ok (by kernel_rfl) (by decide +kernel) ?_ | refine eq34 ?_ | refine eq68 ?_))))
  exact .inl ⟨0, rfl, rfl⟩
theorem Open_makes (hA : RunsM G A L) (hc : L.length ≤ c) (hm : c ≤ maxLen) (he : spE L w = 0) (hl : L.length ≤ 70) : Makes Try.prog 15 [.val (.slice A L.length c), .val (.int .i64 w)] G (pairE 0) 34 3 (DL w (EL w L)).length (flatR (DL w (EL w L))) := by
  obtain ⟨e1, hw⟩ := spE_ok he
  have ck := check_gives (w := w) hA hc hm
  rw [he] at ck
  have mk := open1_makes (c := c) hA hc hm e1 hw hl
  refine Makes_of tab_ok Try.func15 (pairE_wraps 0) ?_
  (repeat ((try (conv => whnf)); (first | (with_reducible first | refine condP_true ?_ | refine condP_false ?_ | refine condP_not ?_ | refine condP_and ?_) | ((with_reducible refine condP_dt ?_ ?_); (· omega)) | ((with_reducible refine condP_df ?_ ?_); (· omega)) | ((with_reducible refine condP_yes ?_ ?_); (· assumption)) | ((with_reducible refine condP_no ?_ ?_); (· assumption)) | ((with_reducible refine ArP_i64 ?_ ?_); (· omega)) | ((with_reducible refine mustP.mk ?_ ?_); (· first | omega | rfl | (dsimp only; omega))) | (with_reducible first | refine EqP_nil tab_ok ?_ | refine EqP_sli tab_ok ?_ | refine DrawP_auto tab_ok (by kernel_rfl) (by decide +kernel) ?_ | refine DrawP_auto2 tab_ok (by kernel_rfl) (by decide +kernel) ?_ | refine eq34 ?_ | refine eq68 ?_ | refine CallP_enter tab_ok Try.func19 (fun vs w => by kernel_rfl) (by rfl) ?_ | refine CallP_gives (fun vs w => by kernel_rfl) (by kernel_rfl) (ck) ?_ | refine RCallP_gives (fun vs w => by kernel_rfl) (by kernel_rfl) (ck) ?_))))
  conv => whnf
  refine CallP_makes (fun vs w => by kernel_rfl) (.alone fun _ => rfl) (by kernel_rfl) mk ?_
  (repeat ((try (conv => whnf)); (first | (with_reducible first | refine condP_true ?_ | refine condP_false ?_ | refine condP_not ?_ | refine condP_and ?_) | ((with_reducible refine condP_dt ?_ ?_); (· omega)) | ((with_reducible refine condP_df ?_ ?_); (· omega)) | ((with_reducible refine condP_yes ?_ ?_); (· assumption)) | ((with_reducible refine condP_no ?_ ?_); (· assumption)) | ((with_reducible refine ArP_i64 ?_ ?_); (· omega)) | ((with_reducible refine mustP.mk ?_ ?_); (· first | omega | rfl | (dsimp only; omega))) | (with_reducible first | refine EqP_nil tab_ok ?_ | refine EqP_sli tab_ok ?_ | refine DrawP_auto tab_ok (by kernel_rfl) (by decide +kernel) ?_ | refine DrawP_auto2 tab_ok (by kernel_rfl) (by decide +kernel) ?_ | refine eq34 ?_ | refine eq68 ?_))))
  conv => whnf
  exact .inl ⟨0, rfl, rfl⟩
theorem Close_makes (hA : RunsM G A L) (hc : L.length ≤ c) (hm : c ≤ maxLen) (he : spE L w = 0) (hl : L.length ≤ 70) : Makes Try.prog 16 [.val (.slice A L.length c), .val (.int .i64 w)] G (pairE 0) 34 3 (EL w (DL w L)).length (flatR (EL w (DL w L))) := by
  obtain ⟨e1, hw⟩ := spE_ok he
  have ck := check_gives (w := w) hA hc hm
  rw [he] at ck
  have mk := close1_makes (c := c) hA e1 hw hl
  refine Makes_of tab_ok Try.func16 (pairE_wraps 0) ?_
  (repeat ((try (conv => whnf)); (first | (with_reducible first | refine condP_true ?_ | refine condP_false ?_ | refine condP_not ?_ | refine condP_and ?_) | ((with_reducible refine condP_dt ?_ ?_); (· omega)) | ((with_reducible refine condP_df ?_ ?_); (· omega)) | ((with_reducible refine condP_yes ?_ ?_); (· assumption)) | ((with_reducible refine condP_no ?_ ?_); (· assumption)) | ((with_reducible refine ArP_i64 ?_ ?_); (· omega)) | ((with_reducible refine mustP.mk ?_ ?_); (· first | omega | rfl | (dsimp only; omega))) | (with_reducible first | refine EqP_nil tab_ok ?_ | refine EqP_sli tab_ok ?_ | refine DrawP_auto tab_ok (by kernel_rfl) (by decide +kernel) ?_ | refine DrawP_auto2 tab_ok (by kernel_rfl) (by decide +kernel) ?_ | refine eq34 ?_ | refine eq68 ?_ | refine CallP_enter tab_ok Try.func19 (fun vs w => by kernel_rfl) (by rfl) ?_ | refine CallP_gives (fun vs w => by kernel_rfl) (by kernel_rfl) (ck) ?_ | refine RCallP_gives (fun vs w => by kernel_rfl) (by kernel_rfl) (ck) ?_))))
  conv => whnf
  refine CallP_makes (fun vs w => by kernel_rfl) (.alone fun _ => rfl) (by kernel_rfl) mk ?_
  (repeat ((try (conv => whnf)); (first | (with_reducible first | refine condP_true ?_ | refine condP_false ?_ | refine condP_not ?_ | refine condP_and ?_) | ((with_reducible refine condP_dt ?_ ?_); (· omega)) | ((with_reducible refine condP_df ?_ ?_); (· omega)) | ((with_reducible refine condP_yes ?_ ?_); (· assumption)) | ((with_reducible refine condP_no ?_ ?_); (· assumption)) | ((with_reducible refine ArP_i64 ?_ ?_); (· omega)) | ((with_reducible refine mustP.mk ?_ ?_); (· first | omega | rfl | (dsimp only; omega))) | (with_reducible first | refine EqP_nil tab_ok ?_ | refine EqP_sli tab_ok ?_ | refine DrawP_auto tab_ok (by kernel_rfl) (by decide +kernel) ?_ | refine DrawP_auto2 tab_ok (by kernel_rfl) (by decide +kernel) ?_ | refine eq34 ?_ | refine eq68 ?_))))
  conv => whnf
  exact .inl ⟨0, rfl, rfl⟩
/-- The cells of the edge. -/
noncomputable abbrev GL (w : Int) (L : List Run) : List Run := mixR 2 (DL w L) (EL w L)
theorem Edge_makes (hA : RunsM G A L) (hc : L.length ≤ c) (hm : c ≤ maxLen) (he : spE L w = 0) (hl : L.length ≤ 70) : Makes Try.prog 17 [.val (.slice A L.length c), .val (.int .i64 w)] G (pairE 0) 34 3 (GL w L).length (flatR (GL w L)) := by
  obtain ⟨e1, hw⟩ := spE_ok he
  have ck := check_gives (w := w) hA hc hm
  rw [he] at ck
  have mk := dilate_makes (c := c) hA (errL_ok e1) hw (by omega)
  have hv : ValidL (DL w L) := DL_valid (errL_ok e1)
  have hu := EL_valid hw.1 (errL_ok e1)
  refine Makes_of tab_ok Try.func17 (pairE_wraps 0) ?_
  (repeat ((try (conv => whnf)); (first | (with_reducible first | refine condP_true ?_ | refine condP_false ?_ | refine condP_not ?_ | refine condP_and ?_) | ((with_reducible refine condP_dt ?_ ?_); (· omega)) | ((with_reducible refine condP_df ?_ ?_); (· omega)) | ((with_reducible refine condP_yes ?_ ?_); (· assumption)) | ((with_reducible refine condP_no ?_ ?_); (· assumption)) | ((with_reducible refine ArP_i64 ?_ ?_); (· omega)) | ((with_reducible refine mustP.mk ?_ ?_); (· first | omega | rfl | (dsimp only; omega))) | (with_reducible first | refine EqP_nil tab_ok ?_ | refine EqP_sli tab_ok ?_ | refine DrawP_auto tab_ok (by kernel_rfl) (by decide +kernel) ?_ | refine DrawP_auto2 tab_ok (by kernel_rfl) (by decide +kernel) ?_ | refine eq34 ?_ | refine eq68 ?_ | refine CallP_gives (fun vs w => by kernel_rfl) (by kernel_rfl) (ck) ?_ | refine RCallP_gives (fun vs w => by kernel_rfl) (by kernel_rfl) (ck) ?_))))
  conv => whnf
  refine CallP_freeze (fun vs w => by kernel_rfl) (.alone fun _ => rfl) (by kernel_rfl) mk fun A2 c2 G2 hG2 hc2 hm2 hx2 => ?_
  have hC := RunsM.frozen hx2
  have mk2 := erode_makes (c := c) (hA.mono hG2) hc hm (errL_ok e1) e1 hw (by omega)
  (repeat ((try (conv => whnf)); (first | (with_reducible first | refine condP_true ?_ | refine condP_false ?_ | refine condP_not ?_ | refine condP_and ?_) | ((with_reducible refine condP_dt ?_ ?_); (· omega)) | ((with_reducible refine condP_df ?_ ?_); (· omega)) | ((with_reducible refine condP_yes ?_ ?_); (· assumption)) | ((with_reducible refine condP_no ?_ ?_); (· assumption)) | ((with_reducible refine ArP_i64 ?_ ?_); (· omega)) | ((with_reducible refine mustP.mk ?_ ?_); (· first | omega | rfl | (dsimp only; omega))) | (with_reducible first | refine EqP_nil tab_ok ?_ | refine EqP_sli tab_ok ?_ | refine DrawP_auto tab_ok (by kernel_rfl) (by decide +kernel) ?_ | refine DrawP_auto2 tab_ok (by kernel_rfl) (by decide +kernel) ?_ | refine eq34 ?_ | refine eq68 ?_))))
  conv => whnf
  refine CallP_freeze (fun vs w => by kernel_rfl) (.alone fun _ => rfl) (by kernel_rfl) mk2 fun A3 c3 G3 hG3 hc3 hm3 hx3 => ?_
  have hD := RunsM.frozen hx3
  have mk3 := Minus_makes (hC.mono hG3) hD hc2 hm2 hc3 hm3 (show err2 (DL w L) (EL w L) = 0 by unfold err2; rw [errL_none hv, if_neg (by omega)]; exact errL_none hu)
  (repeat ((try (conv => whnf)); (first | (with_reducible first | refine condP_true ?_ | refine condP_false ?_ | refine condP_not ?_ | refine condP_and ?_) | ((with_reducible refine condP_dt ?_ ?_); (· omega)) | ((with_reducible refine condP_df ?_ ?_); (· omega)) | ((with_reducible refine condP_yes ?_ ?_); (· assumption)) | ((with_reducible refine condP_no ?_ ?_); (· assumption)) | ((with_reducible refine ArP_i64 ?_ ?_); (· omega)) | ((with_reducible refine mustP.mk ?_ ?_); (· first | omega | rfl | (dsimp only; omega))) | (with_reducible first | refine EqP_nil tab_ok ?_ | refine EqP_sli tab_ok ?_ | refine DrawP_auto tab_ok (by kernel_rfl) (by decide +kernel) ?_ | refine DrawP_auto2 tab_ok (by kernel_rfl) (by decide +kernel) ?_ | refine eq34 ?_ | refine eq68 ?_))))
  conv => whnf
  refine CallP_makes (fun vs w => by kernel_rfl) (pairE_wraps 0) (by kernel_rfl) mk3 ?_
  (repeat ((try (conv => whnf)); (first | (with_reducible first | refine condP_true ?_ | refine condP_false ?_ | refine condP_not ?_ | refine condP_and ?_) | ((with_reducible refine condP_dt ?_ ?_); (· omega)) | ((with_reducible refine condP_df ?_ ?_); (· omega)) | ((with_reducible refine condP_yes ?_ ?_); (· assumption)) | ((with_reducible refine condP_no ?_ ?_); (· assumption)) | ((with_reducible refine ArP_i64 ?_ ?_); (· omega)) | ((with_reducible refine mustP.mk ?_ ?_); (· first | omega | rfl | (dsimp only; omega))) | (with_reducible first | refine EqP_nil tab_ok ?_ | refine EqP_sli tab_ok ?_ | refine DrawP_auto tab_ok (by kernel_rfl) (by decide +kernel) ?_ | refine DrawP_auto2 tab_ok (by kernel_rfl) (by decide +kernel) ?_ | refine eq34 ?_ | refine eq68 ?_))))
  conv => whnf
  exact .inl ⟨0, rfl, rfl⟩
theorem Dilate_err (hA : RunsM G A L) (hc : L.length ≤ c) (hm : c ≤ maxLen) (he : spE L w ≠ 0) : Gives Try.prog 9 [.val (.slice A L.length c), .val (.int .i64 w)] G (.tup [.val (.slice none 0 0), .val (.int .i64 (spE L w))]) := by
  have ck := check_gives (w := w) hA hc hm
  refine Gives_of tab_ok Try.func9 ?_
  generalize spE L w = er at *
  (repeat ((try (conv => whnf)); (first | (with_reducible first | refine condP_true ?_ | refine condP_false ?_ | refine condP_not ?_ | refine condP_and ?_) | ((with_reducible refine condP_dt ?_ ?_); (· omega)) | ((with_reducible refine condP_df ?_ ?_); (· omega)) | ((with_reducible refine condP_yes ?_ ?_); (· assumption)) | ((with_reducible refine condP_no ?_ ?_); (· assumption)) | ((with_reducible refine ArP_i64 ?_ ?_); (· omega)) | ((with_reducible refine mustP.mk ?_ ?_); (· first | omega | rfl | (dsimp only; omega))) | (with_reducible first | refine EqP_nil tab_ok ?_ | refine EqP_sli tab_ok ?_ | refine DrawP_auto tab_ok (by kernel_rfl) (by decide +kernel) ?_ | refine DrawP_auto2 tab_ok (by kernel_rfl) (by decide +kernel) ?_ | refine eq34 ?_ | refine eq68 ?_ | refine CallP_enter tab_ok Try.func19 (fun vs w => by kernel_rfl) (by rfl) ?_ | refine CallP_gives (fun vs w => by kernel_rfl) (by kernel_rfl) (ck) ?_ | refine RCallP_gives (fun vs w => by kernel_rfl) (by kernel_rfl) (ck) ?_))))
  exact ⟨rfl, rfl⟩
theorem Erode_err (hA : RunsM G A L) (hc : L.length ≤ c) (hm : c ≤ maxLen) (he : spE L w ≠ 0) : Gives Try.prog 13 [.val (.slice A L.length c), .val (.int .i64 w)] G (.tup [.val (.slice none 0 0), .val (.int .i64 (spE L w))]) := by
  have ck := check_gives (w := w) hA hc hm
  refine Gives_of tab_ok Try.func13 ?_
  generalize spE L w = er at *
  (repeat ((try (conv => whnf)); (first | (with_reducible first | refine condP_true ?_ | refine condP_false ?_ | refine condP_not ?_ | refine condP_and ?_) | ((with_reducible refine condP_dt ?_ ?_); (· omega)) | ((with_reducible refine condP_df ?_ ?_); (· omega)) | ((with_reducible refine condP_yes ?_ ?_); (· assumption)) | ((with_reducible refine condP_no ?_ ?_); (· assumption)) | ((with_reducible refine ArP_i64 ?_ ?_); (· omega)) | ((with_reducible refine mustP.mk ?_ ?_); (· first | omega | rfl | (dsimp only; omega))) | (with_reducible first | refine EqP_nil tab_ok ?_ | refine EqP_sli tab_ok ?_ | refine DrawP_auto tab_ok (by kernel_rfl) (by decide +kernel) ?_ | refine DrawP_auto2 tab_ok (by kernel_rfl) (by decide +kernel) ?_ | refine eq34 ?_ | refine eq68 ?_ | refine CallP_enter tab_ok Try.func19 (fun vs w => by kernel_rfl) (by rfl) ?_ | refine CallP_gives (fun vs w => by kernel_rfl) (by kernel_rfl) (ck) ?_ | refine RCallP_gives (fun vs w => by kernel_rfl) (by kernel_rfl) (ck) ?_))))
  exact ⟨rfl, rfl⟩
theorem Open_err (hA : RunsM G A L) (hc : L.length ≤ c) (hm : c ≤ maxLen) (he : spE L w ≠ 0) : Gives Try.prog 15 [.val (.slice A L.length c), .val (.int .i64 w)] G (.tup [.val (.slice none 0 0), .val (.int .i64 (spE L w))]) := by
  have ck := check_gives (w := w) hA hc hm
  refine Gives_of tab_ok Try.func15 ?_
  generalize spE L w = er at *
  (repeat ((try (conv => whnf)); (first | (with_reducible first | refine condP_true ?_ | refine condP_false ?_ | refine condP_not ?_ | refine condP_and ?_) | ((with_reducible refine condP_dt ?_ ?_); (· omega)) | ((with_reducible refine condP_df ?_ ?_); (· omega)) | ((with_reducible refine condP_yes ?_ ?_); (· assumption)) | ((with_reducible refine condP_no ?_ ?_); (· assumption)) | ((with_reducible refine ArP_i64 ?_ ?_); (· omega)) | ((with_reducible refine mustP.mk ?_ ?_); (· first | omega | rfl | (dsimp only; omega))) | (with_reducible first | refine EqP_nil tab_ok ?_ | refine EqP_sli tab_ok ?_ | refine DrawP_auto tab_ok (by kernel_rfl) (by decide +kernel) ?_ | refine DrawP_auto2 tab_ok (by kernel_rfl) (by decide +kernel) ?_ | refine eq34 ?_ | refine eq68 ?_ | refine CallP_enter tab_ok Try.func19 (fun vs w => by kernel_rfl) (by rfl) ?_ | refine CallP_gives (fun vs w => by kernel_rfl) (by kernel_rfl) (ck) ?_ | refine RCallP_gives (fun vs w => by kernel_rfl) (by kernel_rfl) (ck) ?_))))
  exact ⟨rfl, rfl⟩
theorem Close_err (hA : RunsM G A L) (hc : L.length ≤ c) (hm : c ≤ maxLen) (he : spE L w ≠ 0) : Gives Try.prog 16 [.val (.slice A L.length c), .val (.int .i64 w)] G (.tup [.val (.slice none 0 0), .val (.int .i64 (spE L w))]) := by
  have ck := check_gives (w := w) hA hc hm
  refine Gives_of tab_ok Try.func16 ?_
  generalize spE L w = er at *
  (repeat ((try (conv => whnf)); (first | (with_reducible first | refine condP_true ?_ | refine condP_false ?_ | refine condP_not ?_ | refine condP_and ?_) | ((with_reducible refine condP_dt ?_ ?_); (· omega)) | ((with_reducible refine condP_df ?_ ?_); (· omega)) | ((with_reducible refine condP_yes ?_ ?_); (· assumption)) | ((with_reducible refine condP_no ?_ ?_); (· assumption)) | ((with_reducible refine ArP_i64 ?_ ?_); (· omega)) | ((with_reducible refine mustP.mk ?_ ?_); (· first | omega | rfl | (dsimp only; omega))) | (with_reducible first | refine EqP_nil tab_ok ?_ | refine EqP_sli tab_ok ?_ | refine DrawP_auto tab_ok (by kernel_rfl) (by decide +kernel) ?_ | refine DrawP_auto2 tab_ok (by kernel_rfl) (by decide +kernel) ?_ | refine eq34 ?_ | refine eq68 ?_ | refine CallP_enter tab_ok Try.func19 (fun vs w => by kernel_rfl) (by rfl) ?_ | refine CallP_gives (fun vs w => by kernel_rfl) (by kernel_rfl) (ck) ?_ | refine RCallP_gives (fun vs w => by kernel_rfl) (by kernel_rfl) (ck) ?_))))
  exact ⟨rfl, rfl⟩
theorem Edge_err (hA : RunsM G A L) (hc : L.length ≤ c) (hm : c ≤ maxLen) (he : spE L w ≠ 0) : Gives Try.prog 17 [.val (.slice A L.length c), .val (.int .i64 w)] G (.tup [.val (.slice none 0 0), .val (.int .i64 (spE L w))]) := by
  have ck := check_gives (w := w) hA hc hm
  refine Gives_of tab_ok Try.func17 ?_
  generalize spE L w = er at *
  (repeat ((try (conv => whnf)); (first | (with_reducible first | refine condP_true ?_ | refine condP_false ?_ | refine condP_not ?_ | refine condP_and ?_) | ((with_reducible refine condP_dt ?_ ?_); (· omega)) | ((with_reducible refine condP_df ?_ ?_); (· omega)) | ((with_reducible refine condP_yes ?_ ?_); (· assumption)) | ((with_reducible refine condP_no ?_ ?_); (· assumption)) | ((with_reducible refine ArP_i64 ?_ ?_); (· omega)) | ((with_reducible refine mustP.mk ?_ ?_); (· first | omega | rfl | (dsimp only; omega))) | (with_reducible first | refine EqP_nil tab_ok ?_ | refine EqP_sli tab_ok ?_ | refine DrawP_auto tab_ok (by kernel_rfl) (by decide +kernel) ?_ | refine DrawP_auto2 tab_ok (by kernel_rfl) (by decide +kernel) ?_ | refine eq34 ?_ | refine eq68 ?_ | refine CallP_enter tab_ok Try.func19 (fun vs w => by kernel_rfl) (by rfl) ?_ | refine CallP_gives (fun vs w => by kernel_rfl) (by kernel_rfl) (ck) ?_ | refine RCallP_gives (fun vs w => by kernel_rfl) (by kernel_rfl) (ck) ?_))))
  exact ⟨rfl, rfl⟩
end
end Go.Proofs.Ytiakdbcikmkomaa
