/-
  What the laws of regions have in common: the helpers regions and short.
-/
import Derived.Test.YtmklpphdbmpbbaaBothU
namespace Go.Proofs.Ytmklpphdbmpbbaa
open Go.RowKit
set_option linter.unusedVariables false
set_option maxRecDepth 20000
def rectL (x0 x1 y : Int) (n : Nat) : List Run := (List.range n).map fun (i : Nat) => ⟨y + i, x0, x1⟩
theorem flat_rect (x0 x1 y : Int) (n : Nat) : flatR (rectL x0 x1 y n) = rowsOf x0 x1 y n := by
  unfold rowsOf rectL flatR; rw [List.flatMap_map]
theorem rectL_length (x0 x1 y : Int) (n : Nat) : (rectL x0 x1 y n).length = n := by simp [rectL]
/-- The three rows of the helper. -/
def trio : List Run := [⟨0, 0, 2⟩, ⟨1, 0, 4⟩, ⟨2, 2, 4⟩]
theorem trio_is : mixR 0 (rectL 0 2 0 2) (rectL 2 4 1 2) = trio := by
  refine (mixR_is (c := 0) (errL_ok (by decide)) (errL_ok (by decide)) (by simp [okR, trio]) fun x y => ?_).symm
  have e1 : rectL 0 2 0 2 = [⟨0, 0, 2⟩, ⟨1, 0, 2⟩] := by simp [rectL, List.range_succ]
  have e2 : rectL 2 4 1 2 = [⟨1, 2, 4⟩, ⟨2, 2, 4⟩] := by simp [rectL, List.range_succ]
  rw [e1, e2]
  simp only [hasR, hasL, inR, opB, trio, List.any_cons, List.any_nil, Bool.or_false, Bool.or_eq_true, decide_eq_true_eq, List.mem_cons, List.not_mem_nil, or_false, exists_eq_or_imp, exists_eq_left]
  simp only [show ¬ ((0 : Int) = 1) by decide, show ¬ ((0 : Int) = 2) by decide, show ¬ ((0 : Int) = 3) by decide, if_false, Bool.or_eq_true, decide_eq_true_eq]
  omega
theorem errL_rect1 : err2 (rectL 0 2 0 2) (rectL 2 4 1 2) = 0 := by decide
set_option maxHeartbeats 2000000 in
theorem regions_gives (G : Mem) : Gives Try.prog 8 [] G (.val (.bool true)) := by
  refine Gives_of tab_ok Try.func8 ?_
  have r1 := rect_ok 0 0 2 2 G (by omega) (by omega) (by omega) (by omega) (by omega) (by omega)
  rw [show ((2 : Int) - 0).toNat = 2 by decide, ← flat_rect] at r1
  (repeat ((try (conv => whnf)); (first | (with_reducible refine condP_true ?_) | (with_reducible refine condP_false ?_) | (with_reducible refine condP_not ?_) | (with_reducible refine condP_and ?_) | ((with_reducible refine condP_dt ?_ ?_); (· omega)) | ((with_reducible refine condP_df ?_ ?_); (· omega)) | ((with_reducible refine condP_yes ?_ ?_); (· assumption)) | ((with_reducible refine condP_no ?_ ?_); (· assumption)) | ((with_reducible refine ArP_i64 ?_ ?_); (· omega)) | ((with_reducible refine mustP.mk ?_ ?_); (· first | omega | rfl | (dsimp only; omega))) | (with_reducible refine EqP_nil tab_ok ?_) | (with_reducible refine EqP_sli tab_ok ?_) | (with_reducible refine DrawP_auto tab_ok (by kernel_rfl) (by decide +kernel) ?_) | (with_reducible refine DrawP_auto2 tab_ok (by kernel_rfl) (by decide +kernel) ?_) | (with_reducible refine eq28 ?_) | (with_reducible refine eq33 ?_) | (with_reducible refine eq95 ?_) | (with_reducible refine eq115 ?_))))
  conv => whnf
  refine CallP_freeze (fun vs w => by kernel_rfl) (pairE_wraps 0) (by kernel_rfl) r1 fun A1 c1 G1 hG1 hc1 hm1 hx1 => ?_
  have hA := RunsM.frozen hx1
  have r2 := rect_ok 2 1 4 3 G1 (by omega) (by omega) (by omega) (by omega) (by omega) (by omega)
  rw [show ((3 : Int) - 1).toNat = 2 by decide, ← flat_rect] at r2
  (repeat ((try (conv => whnf)); (first | (with_reducible refine condP_true ?_) | (with_reducible refine condP_false ?_) | (with_reducible refine condP_not ?_) | (with_reducible refine condP_and ?_) | ((with_reducible refine condP_dt ?_ ?_); (· omega)) | ((with_reducible refine condP_df ?_ ?_); (· omega)) | ((with_reducible refine condP_yes ?_ ?_); (· assumption)) | ((with_reducible refine condP_no ?_ ?_); (· assumption)) | ((with_reducible refine ArP_i64 ?_ ?_); (· omega)) | ((with_reducible refine mustP.mk ?_ ?_); (· first | omega | rfl | (dsimp only; omega))) | (with_reducible refine EqP_nil tab_ok ?_) | (with_reducible refine EqP_sli tab_ok ?_) | (with_reducible refine DrawP_auto tab_ok (by kernel_rfl) (by decide +kernel) ?_) | (with_reducible refine DrawP_auto2 tab_ok (by kernel_rfl) (by decide +kernel) ?_) | (with_reducible refine eq28 ?_) | (with_reducible refine eq33 ?_) | (with_reducible refine eq95 ?_) | (with_reducible refine eq115 ?_))))
  conv => whnf
  refine CallP_freeze (fun vs w => by kernel_rfl) (pairE_wraps 0) (by kernel_rfl) r2 fun A2 c2 G2 hG2 hc2 hm2 hx2 => ?_
  have hB := RunsM.frozen hx2
  have r3 := Union_makes (hA.mono hG2) hB (c := c1) (d := c2) (by rw [rectL_length]; exact hc1) hm1 (by rw [rectL_length]; exact hc2) hm2 errL_rect1
  rw [rectL_length, rectL_length, trio_is] at r3
  (repeat ((try (conv => whnf)); (first | (with_reducible refine condP_true ?_) | (with_reducible refine condP_false ?_) | (with_reducible refine condP_not ?_) | (with_reducible refine condP_and ?_) | ((with_reducible refine condP_dt ?_ ?_); (· omega)) | ((with_reducible refine condP_df ?_ ?_); (· omega)) | ((with_reducible refine condP_yes ?_ ?_); (· assumption)) | ((with_reducible refine condP_no ?_ ?_); (· assumption)) | ((with_reducible refine ArP_i64 ?_ ?_); (· omega)) | ((with_reducible refine mustP.mk ?_ ?_); (· first | omega | rfl | (dsimp only; omega))) | (with_reducible refine EqP_nil tab_ok ?_) | (with_reducible refine EqP_sli tab_ok ?_) | (with_reducible refine DrawP_auto tab_ok (by kernel_rfl) (by decide +kernel) ?_) | (with_reducible refine DrawP_auto2 tab_ok (by kernel_rfl) (by decide +kernel) ?_) | (with_reducible refine eq28 ?_) | (with_reducible refine eq33 ?_) | (with_reducible refine eq95 ?_) | (with_reducible refine eq115 ?_))))
  conv => whnf
  refine CallP_freeze (fun vs w => by kernel_rfl) (pairE_wraps 0) (by kernel_rfl) r3 fun A3 c3 G3 hG3 hc3 hm3 hx3 => ?_
  have hC := RunsM.frozen hx3
  obtain ⟨p, rfl, k0⟩ := hC.cells (i := 0) rfl
  obtain ⟨p', e', k1⟩ := hC.cells (i := 1) rfl
  cases e'
  obtain ⟨p', e', k2⟩ := hC.cells (i := 2) rfl
  cases e'
  clear hx1 hx2 hx3
  (repeat ((try (conv => whnf)); (first | (refine k0 _ ?_) | (refine k1 _ ?_) | (refine k2 _ ?_) | (with_reducible refine condP_true ?_) | (with_reducible refine condP_false ?_) | (with_reducible refine condP_not ?_) | (with_reducible refine condP_and ?_) | ((with_reducible refine condP_dt ?_ ?_); (· omega)) | ((with_reducible refine condP_df ?_ ?_); (· omega)) | ((with_reducible refine condP_yes ?_ ?_); (· assumption)) | ((with_reducible refine condP_no ?_ ?_); (· assumption)) | ((with_reducible refine ArP_i64 ?_ ?_); (· omega)) | ((with_reducible refine mustP.mk ?_ ?_); (· first | omega | rfl | (dsimp only; omega))) | (with_reducible refine EqP_nil tab_ok ?_) | (with_reducible refine EqP_sli tab_ok ?_) | (with_reducible refine DrawP_auto tab_ok (by kernel_rfl) (by decide +kernel) ?_) | (with_reducible refine DrawP_auto2 tab_ok (by kernel_rfl) (by decide +kernel) ?_) | (with_reducible refine eq28 ?_) | (with_reducible refine eq33 ?_) | (with_reducible refine eq95 ?_) | (with_reducible refine eq115 ?_) | (with_reducible refine CallP_enter tab_ok Try.func14 (fun vs w => by kernel_rfl) (by rfl) ?_) | (with_reducible refine OwnCells_run ?_) | (with_reducible refine LoopP_step tab_ok ?_) | ((with_reducible refine condP_dt ?_ ?_); (· decide)) | ((with_reducible refine condP_df ?_ ?_); (· decide)) | ((with_reducible refine ArP_id ?_ ?_); (· decide)) | ((with_reducible refine mustP.mk ?_ ?_); (· decide)) | ((with_reducible refine isP.mk 0 ?_ ?_); (· decide +kernel)) | ((with_reducible refine isP.mk 1 ?_ ?_); (· decide +kernel)) | (with_reducible refine isP.mk _ (by exact rfl) ?_) | (with_reducible refine EqP_boolF (by kernel_rfl) ?_))))
  conv => whnf
  exact ⟨rfl, rfl⟩
/-- The first 60 runs. -/
theorem RunsM.take {G : Mem} {A : Option Addr} {L : List Run} (h : RunsM G A L) (n : Nat) : RunsM G A (L.take n) := fun i r hr => by
  rw [List.getElem?_take] at hr
  split at hr
  · exact h i r hr
  · cases hr
end Go.Proofs.Ytmklpphdbmpbbaa
