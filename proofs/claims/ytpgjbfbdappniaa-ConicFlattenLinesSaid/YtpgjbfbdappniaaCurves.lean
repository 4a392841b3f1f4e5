/-
  The law's helper curves().
-/
import Derived.Test.YtpgjbfbdappniaaConicLaw
namespace Go.Proofs.Ytpgjbfbdappniaa
open Go.RowKit
set_option linter.unusedVariables false
set_option maxRecDepth 20000
section
variable {kd x y u v s px py : Int} {G : Mem}
set_option maxHeartbeats 2000000 in
theorem Points_curve (hx : -9223372036854775808 ≤ px ∧ px ≤ 9223372036854775807) (hy : -9223372036854775808 ≤ py ∧ py ≤ 9223372036854775807) (he : segE 3 x y u v s = 0) (hp : ptB px py = true) (hc : CvOk ⟨px, py, u, v, x, y, s⟩) : Makes Try.prog 22 [ptA px py, sgA 3 x y u v s] G (pairP 0) 55 2 (divN ⟨px, py, u, v, x, y, s⟩) (flatP (ptsL ⟨px, py, u, v, x, y, s⟩ (divN ⟨px, py, u, v, x, y, s⟩))) := by
  have g1 := CheckSeg_gives (kd := 3) (x := x) (y := y) (u := u) (v := v) (s := s) (G := G)
  have g2 := within_gives (px := px) (py := py) (G := G) hx hy
  rw [he] at g1; rw [hp] at g2
  have g3 := points_makes (G := G) hc
  refine Makes_of tab_ok Try.func22 (pairP_wraps 0) ?_
  generalize divN ⟨px, py, u, v, x, y, s⟩ = n at *
  (repeat ((try (conv => whnf)); (first | (with_reducible refine condP_true ?_) | (with_reducible refine condP_false ?_) | (with_reducible refine condP_not ?_) | (with_reducible refine condP_and ?_) | ((with_reducible refine condP_dt ?_ ?_); (· omega)) | ((with_reducible refine condP_df ?_ ?_); (· omega)) | ((with_reducible refine condP_yes ?_ ?_); (· assumption)) | ((with_reducible refine condP_no ?_ ?_); (· assumption)) | ((with_reducible refine ArP_i64 ?_ ?_); (· omega)) | ((with_reducible refine mustP.mk ?_ ?_); (· first | omega | rfl | (dsimp only; omega))) | (with_reducible refine EqP_nil tab_ok ?_) | (with_reducible refine EqP_sli tab_ok ?_) | (with_reducible refine DrawP_auto tab_ok (by kernel_rfl) (by decide +kernel) ?_) | (with_reducible refine DrawP_auto2 tab_ok (by kernel_rfl) (by decide +kernel) ?_) | (with_reducible refine eq43 ?_) | (with_reducible refine eq55 ?_) | (with_reducible refine eq57 ?_) | (with_reducible refine eq93 ?_) | (with_reducible refine eq101 ?_) | (with_reducible refine eq116 ?_) | (with_reducible refine eq119 ?_) | (with_reducible refine CallP_gives (fun vs w => by kernel_rfl) (by kernel_rfl) (g1) ?_) | (with_reducible refine RCallP_gives (fun vs w => by kernel_rfl) (by kernel_rfl) (g1) ?_) | (with_reducible refine CallP_gives (fun vs w => by kernel_rfl) (by kernel_rfl) (g2) ?_) | (with_reducible refine RCallP_gives (fun vs w => by kernel_rfl) (by kernel_rfl) (g2) ?_))))
  conv => whnf
  refine CallP_makes (fun vs w => by kernel_rfl) (.alone fun _ => rfl) (by kernel_rfl) g3 ?_
  (repeat ((try (conv => whnf)); (first | (with_reducible refine condP_true ?_) | (with_reducible refine condP_false ?_) | (with_reducible refine condP_not ?_) | (with_reducible refine condP_and ?_) | ((with_reducible refine condP_dt ?_ ?_); (· omega)) | ((with_reducible refine condP_df ?_ ?_); (· omega)) | ((with_reducible refine condP_yes ?_ ?_); (· assumption)) | ((with_reducible refine condP_no ?_ ?_); (· assumption)) | ((with_reducible refine ArP_i64 ?_ ?_); (· omega)) | ((with_reducible refine mustP.mk ?_ ?_); (· first | omega | rfl | (dsimp only; omega))) | (with_reducible refine EqP_nil tab_ok ?_) | (with_reducible refine EqP_sli tab_ok ?_) | (with_reducible refine DrawP_auto tab_ok (by kernel_rfl) (by decide +kernel) ?_) | (with_reducible refine DrawP_auto2 tab_ok (by kernel_rfl) (by decide +kernel) ?_) | (with_reducible refine eq43 ?_) | (with_reducible refine eq55 ?_) | (with_reducible refine eq57 ?_) | (with_reducible refine eq93 ?_) | (with_reducible refine eq101 ?_) | (with_reducible refine eq116 ?_) | (with_reducible refine eq119 ?_))))
  exact .inl ⟨2, rfl, rfl⟩
theorem quarter_ok : CvOk ⟨100, 0, 100, 100, 0, 100, 181⟩ := by constructor <;> simp
theorem quarter_n : divN ⟨100, 0, 100, 100, 0, 100, 181⟩ = 8 := by decide +kernel
theorem quarter_at : (ptsL ⟨100, 0, 100, 100, 0, 100, 181⟩ 8)[3]? = some (71, 71) := by decide +kernel
set_option maxHeartbeats 2000000 in
theorem curves_gives : Gives Try.prog 6 [] G (.val (.bool true)) := by
  have mk := Points_curve (px := 100) (py := 0) (x := 0) (y := 100) (u := 100) (v := 100) (s := 181) (G := G) (by omega) (by omega) (by decide) (by decide) quarter_ok
  rw [quarter_n] at mk
  refine Gives_of tab_ok Try.func6 ?_
  (repeat ((try (conv => whnf)); (first | (with_reducible refine condP_true ?_) | (with_reducible refine condP_false ?_) | (with_reducible refine condP_not ?_) | (with_reducible refine condP_and ?_) | ((with_reducible refine condP_dt ?_ ?_); (· omega)) | ((with_reducible refine condP_df ?_ ?_); (· omega)) | ((with_reducible refine condP_yes ?_ ?_); (· assumption)) | ((with_reducible refine condP_no ?_ ?_); (· assumption)) | ((with_reducible refine ArP_i64 ?_ ?_); (· omega)) | ((with_reducible refine mustP.mk ?_ ?_); (· first | omega | rfl | (dsimp only; omega))) | (with_reducible refine EqP_nil tab_ok ?_) | (with_reducible refine EqP_sli tab_ok ?_) | (with_reducible refine DrawP_auto tab_ok (by kernel_rfl) (by decide +kernel) ?_) | (with_reducible refine DrawP_auto2 tab_ok (by kernel_rfl) (by decide +kernel) ?_) | (with_reducible refine eq43 ?_) | (with_reducible refine eq55 ?_) | (with_reducible refine eq57 ?_) | (with_reducible refine eq93 ?_) | (with_reducible refine eq101 ?_) | (with_reducible refine eq116 ?_) | (with_reducible refine eq119 ?_) | (with_reducible refine CallP_enter tab_ok Try.func23 (fun vs w => by kernel_rfl) (by rfl) ?_))))
  conv => whnf
  refine CallP_freeze (fun vs w => by kernel_rfl) (pairP_wraps 0) (by kernel_rfl) mk fun A1 c1 G1 hG1 hc1 hm1 hx1 => ?_
  have hA := PtsM.frozen hx1
  obtain ⟨p, rfl, k3⟩ := hA.cells quarter_at
  clear hx1
  (repeat ((try (conv => whnf)); (first | (refine k3 _ ?_) | (with_reducible refine condP_true ?_) | (with_reducible refine condP_false ?_) | (with_reducible refine condP_not ?_) | (with_reducible refine condP_and ?_) | ((with_reducible refine condP_dt ?_ ?_); (· omega)) | ((with_reducible refine condP_df ?_ ?_); (· omega)) | ((with_reducible refine condP_yes ?_ ?_); (· assumption)) | ((with_reducible refine condP_no ?_ ?_); (· assumption)) | ((with_reducible refine ArP_i64 ?_ ?_); (· omega)) | ((with_reducible refine mustP.mk ?_ ?_); (· first | omega | rfl | (dsimp only; omega))) | (with_reducible refine EqP_nil tab_ok ?_) | (with_reducible refine EqP_sli tab_ok ?_) | (with_reducible refine DrawP_auto tab_ok (by kernel_rfl) (by decide +kernel) ?_) | (with_reducible refine DrawP_auto2 tab_ok (by kernel_rfl) (by decide +kernel) ?_) | (with_reducible refine eq43 ?_) | (with_reducible refine eq55 ?_) | (with_reducible refine eq57 ?_) | (with_reducible refine eq93 ?_) | (with_reducible refine eq101 ?_) | (with_reducible refine eq116 ?_) | (with_reducible refine eq119 ?_) | (with_reducible refine OwnCells_run ?_) | (with_reducible refine LoopP_step tab_ok ?_) | ((with_reducible refine condP_dt ?_ ?_); (· decide)) | ((with_reducible refine condP_df ?_ ?_); (· decide)) | ((with_reducible refine ArP_id ?_ ?_); (· decide)) | ((with_reducible refine mustP.mk ?_ ?_); (· decide)) | ((with_reducible refine isP.mk 0 ?_ ?_); (· decide +kernel)) | ((with_reducible refine isP.mk 1 ?_ ?_); (· decide +kernel)) | (with_reducible refine isP.mk _ (by exact rfl) ?_) | (with_reducible refine EqP_boolF (by kernel_rfl) ?_))))
  conv => whnf
  exact ⟨rfl, rfl⟩
end
end Go.Proofs.Ytpgjbfbdappniaa
