/-
  The laws' helpers: spread and morphs.
-/
import Derived.Test.YtiakdbcikmkomaaMorphF
import Derived.Test.YtiakdbcikmkomaaRegions
import Derived.Test.YtiakdbcikmkomaaErodeA
import Derived.Test.YtiakdbcikmkomaaMrg11
import Derived.Test.YtiakdbcikmkomaaArg
namespace Go.Proofs.Ytiakdbcikmkomaa
open Go.RowKit
set_option linter.unusedVariables false
set_option maxRecDepth 20000
theorem spread_gives {A : Option Addr} {L : List Run} {c : Nat} {w : Int} {G : Mem} (hA : RunsM G A L) (hc : L.length ≤ c) (hm : c ≤ maxLen) : Gives Try.prog 10 [.val (.slice A L.length c), .val (.int .i64 w)] G (.val (.int .i64 (spE L w))) := by
  have g1 := RCheck_gives hA hc hm
  refine Gives_of tab_ok Try.func10 ?_
  unfold spE
  generalize errL L = e1 at *
  by_cases h : e1 = 0
  · rw [if_neg (by omega)]
    by_cases h1 : 0 ≤ w ∧ w ≤ 64
    · have g2 := In_gives w 0 64 G true ⟨fun _ => h1, fun _ => rfl⟩
      rw [if_pos h1]
      (repeat ((try (conv => whnf)); (first | (with_reducible first | refine condP_true ?_ | refine condP_false ?_ | refine condP_not ?_ | refine condP_and ?_) | ((with_reducible refine condP_dt ?_ ?_); (· omega)) | ((with_reducible refine condP_df ?_ ?_); (· omega)) | ((with_reducible refine condP_yes ?_ ?_); (· assumption)) | ((with_reducible refine condP_no ?_ ?_); (· assumption)) | ((with_reducible refine ArP_i64 ?_ ?_); (· omega)) | ((with_reducible refine mustP.mk ?_ ?_); (· first | omega | rfl | (dsimp only; omega))) | (with_reducible first | refine EqP_nil tab_ok ?_ | refine EqP_sli tab_ok ?_ | refine DrawP_auto tab_ok (by kernel_rfl) (by decide +kernel) ?_ | refine DrawP_auto2 tab_ok (by kernel_rfl) (by decide +kernel) ?_ | refine eq34 ?_ | refine eq68 ?_ | refine CallP_gives (fun vs w => by kernel_rfl) (by kernel_rfl) (g1) ?_ | refine RCallP_gives (fun vs w => by kernel_rfl) (by kernel_rfl) (g1) ?_ | refine CallP_gives (fun vs w => by kernel_rfl) (by kernel_rfl) (g2) ?_ | refine RCallP_gives (fun vs w => by kernel_rfl) (by kernel_rfl) (g2) ?_))))
      exact ⟨rfl, rfl⟩
    · have g2 := In_gives w 0 64 G false ⟨(fun h => by cases h), fun h => absurd h h1⟩
      rw [if_neg h1]
      (repeat ((try (conv => whnf)); (first | (with_reducible first | refine condP_true ?_ | refine condP_false ?_ | refine condP_not ?_ | refine condP_and ?_) | ((with_reducible refine condP_dt ?_ ?_); (· omega)) | ((with_reducible refine condP_df ?_ ?_); (· omega)) | ((with_reducible refine condP_yes ?_ ?_); (· assumption)) | ((with_reducible refine condP_no ?_ ?_); (· assumption)) | ((with_reducible refine ArP_i64 ?_ ?_); (· omega)) | ((with_reducible refine mustP.mk ?_ ?_); (· first | omega | rfl | (dsimp only; omega))) | (with_reducible first | refine EqP_nil tab_ok ?_ | refine EqP_sli tab_ok ?_ | refine DrawP_auto tab_ok (by kernel_rfl) (by decide +kernel) ?_ | refine DrawP_auto2 tab_ok (by kernel_rfl) (by decide +kernel) ?_ | refine eq34 ?_ | refine eq68 ?_ | refine CallP_gives (fun vs w => by kernel_rfl) (by kernel_rfl) (g1) ?_ | refine RCallP_gives (fun vs w => by kernel_rfl) (by kernel_rfl) (g1) ?_ | refine CallP_gives (fun vs w => by kernel_rfl) (by kernel_rfl) (g2) ?_ | refine RCallP_gives (fun vs w => by kernel_rfl) (by kernel_rfl) (g2) ?_))))
      exact ⟨rfl, rfl⟩
  · rw [if_pos h]
    (repeat ((try (conv => whnf)); (first | (with_reducible first | refine condP_true ?_ | refine condP_false ?_ | refine condP_not ?_ | refine condP_and ?_) | ((with_reducible refine condP_dt ?_ ?_); (· omega)) | ((with_reducible refine condP_df ?_ ?_); (· omega)) | ((with_reducible refine condP_yes ?_ ?_); (· assumption)) | ((with_reducible refine condP_no ?_ ?_); (· assumption)) | ((with_reducible refine ArP_i64 ?_ ?_); (· omega)) | ((with_reducible refine mustP.mk ?_ ?_); (· first | omega | rfl | (dsimp only; omega))) | (with_reducible first | refine EqP_nil tab_ok ?_ | refine EqP_sli tab_ok ?_ | refine DrawP_auto tab_ok (by kernel_rfl) (by decide +kernel) ?_ | refine DrawP_auto2 tab_ok (by kernel_rfl) (by decide +kernel) ?_ | refine eq34 ?_ | refine eq68 ?_ | refine CallP_gives (fun vs w => by kernel_rfl) (by kernel_rfl) (g1) ?_ | refine RCallP_gives (fun vs w => by kernel_rfl) (by kernel_rfl) (g1) ?_))))
    exact ⟨rfl, rfl⟩
abbrev oneC : List Run := [⟨5, 5, 6⟩]
abbrev nineC : List Run := [⟨4, 4, 7⟩, ⟨5, 4, 7⟩, ⟨6, 4, 7⟩]
theorem one_err : spE oneC 1 = 0 := by decide
theorem nine_err : spE nineC 1 = 0 := by decide
theorem one_dil : DL 1 oneC = nineC := by
  obtain ⟨h1, h2⟩ := dilate_ok (w := 1) (errL_ok (spE_ok one_err).1)
  refine okR_ext h1 (by simp [okR]) fun x y => ?_
  rw [h2]
  simp only [cellD, hasR, List.mem_cons, List.not_mem_nil, or_false, exists_eq_or_imp, exists_eq_left]
  omega
theorem nine_ero : EL 1 nineC = oneC := by
  obtain ⟨h1, h2⟩ := erode_ok (w := 1) (by omega) (errL_ok (spE_ok nine_err).1)
  refine okR_ext h1 (by simp [okR]) fun x y => ?_
  rw [h2]
  simp only [cellE, hasR, List.mem_cons, List.not_mem_nil, or_false, exists_eq_or_imp, exists_eq_left]
  constructor
  · intro h
    have a := h (-1) (by omega) (by omega)
    have b := h 0 (by omega) (by omega)
    have d := h 1 (by omega) (by omega)
    omega
  · intro h e h3 h4
    omega
theorem lit1_runs {G : Mem} {b : Nat} {r : Run} (h : ∀ (j : Nat) u, ([.int .i64 r.y, .int .i64 r.x0, .int .i64 r.x1] : List Value)[j]? = some u → G.cell? ⟨b, j, none⟩ = some u) : RunsM G (some ⟨b, 0, none⟩) [r] := by
  intro i q hq
  cases i with
  | zero =>
    simp at hq; subst hq
    exact ⟨b, 0, rfl, h 0 _ rfl, h 1 _ rfl, h 2 _ rfl⟩
  | succ i => simp at hq
set_option maxHeartbeats 2000000 in
theorem morphs_gives (G : Mem) : Gives Try.prog 7 [] G (.val (.bool true)) := by
  refine Gives_of tab_ok Try.func7 ?_
  (repeat ((try (conv => whnf)); (first | (with_reducible first | refine condP_true ?_ | refine condP_false ?_ | refine condP_not ?_ | refine condP_and ?_) | ((with_reducible refine condP_dt ?_ ?_); (· omega)) | ((with_reducible refine condP_df ?_ ?_); (· omega)) | ((with_reducible refine condP_yes ?_ ?_); (· assumption)) | ((with_reducible refine condP_no ?_ ?_); (· assumption)) | ((with_reducible refine ArP_i64 ?_ ?_); (· omega)) | ((with_reducible refine mustP.mk ?_ ?_); (· first | omega | rfl | (dsimp only; omega))) | (with_reducible first | refine EqP_nil tab_ok ?_ | refine EqP_sli tab_ok ?_ | refine DrawP_auto tab_ok (by kernel_rfl) (by decide +kernel) ?_ | refine DrawP_auto2 tab_ok (by kernel_rfl) (by decide +kernel) ?_ | refine eq34 ?_ | refine eq68 ?_))))
  conv => whnf
  refine CallP_stand 0 (xs := [.int .i64 5, .int .i64 5, .int .i64 6]) (fun vs w => by kernel_rfl) rfl rfl rfl fun b1 G1 hG1 hc1 => ?_
  conv => whnf
  have hA : RunsM G1 (some ⟨b1, 0, none⟩) oneC := lit1_runs hc1
  have m1 := Dilate_makes (c := 1) hA (by decide) (by unfold maxLen; omega) one_err (by decide)
  rw [one_dil] at m1
  refine CallP_freeze (fun vs w => by kernel_rfl) (pairE_wraps 0) (by kernel_rfl) m1 fun A2 c2 G2 hG2 hc2 hm2 hx2 => ?_
  have hB := RunsM.frozen hx2
  have m2 := Erode_makes (c := c2) hB hc2 hm2 nine_err (by decide)
  rw [nine_ero] at m2
  (repeat ((try (conv => whnf)); (first | (with_reducible first | refine condP_true ?_ | refine condP_false ?_ | refine condP_not ?_ | refine condP_and ?_) | ((with_reducible refine condP_dt ?_ ?_); (· omega)) | ((with_reducible refine condP_df ?_ ?_); (· omega)) | ((with_reducible refine condP_yes ?_ ?_); (· assumption)) | ((with_reducible refine condP_no ?_ ?_); (· assumption)) | ((with_reducible refine ArP_i64 ?_ ?_); (· omega)) | ((with_reducible refine mustP.mk ?_ ?_); (· first | omega | rfl | (dsimp only; omega))) | (with_reducible first | refine EqP_nil tab_ok ?_ | refine EqP_sli tab_ok ?_ | refine DrawP_auto tab_ok (by kernel_rfl) (by decide +kernel) ?_ | refine DrawP_auto2 tab_ok (by kernel_rfl) (by decide +kernel) ?_ | refine eq34 ?_ | refine eq68 ?_))))
  conv => whnf
  refine CallP_freeze (fun vs w => by kernel_rfl) (pairE_wraps 0) (by kernel_rfl) m2 fun A3 c3 G3 hG3 hc3 hm3 hx3 => ?_
  have hC := RunsM.frozen hx3
  have l9 : nineC.length = 3 := rfl
  have l1 : oneC.length = 1 := rfl
  (repeat ((try (conv => whnf)); (first | (with_reducible first | refine condP_true ?_ | refine condP_false ?_ | refine condP_not ?_ | refine condP_and ?_) | ((with_reducible refine condP_dt ?_ ?_); (· omega)) | ((with_reducible refine condP_df ?_ ?_); (· omega)) | ((with_reducible refine condP_yes ?_ ?_); (· assumption)) | ((with_reducible refine condP_no ?_ ?_); (· assumption)) | ((with_reducible refine ArP_i64 ?_ ?_); (· omega)) | ((with_reducible refine mustP.mk ?_ ?_); (· first | omega | rfl | (dsimp only; omega))) | (with_reducible first | refine EqP_nil tab_ok ?_ | refine EqP_sli tab_ok ?_ | refine DrawP_auto tab_ok (by kernel_rfl) (by decide +kernel) ?_ | refine DrawP_auto2 tab_ok (by kernel_rfl) (by decide +kernel) ?_ | refine eq34 ?_ | refine eq68 ?_))))
  conv => whnf
  refine CallP_stand 1 (xs := [.int .i64 5, .int .i64 5, .int .i64 6]) (fun vs w => by kernel_rfl) rfl rfl rfl fun b4 G4 hG4 hc4 => ?_
  conv => whnf
  have hD : RunsM G4 (some ⟨b4, 0, none⟩) oneC := lit1_runs hc4
  have sr := SameRuns_gives A3 (some ⟨b4, 0, none⟩) oneC c3 1 G4 (hC.mono hG4) hD (by decide)
  refine CallP_gives (fun vs w => by kernel_rfl) (by kernel_rfl) sr ?_
  (repeat ((try (conv => whnf)); (first | (with_reducible first | refine condP_true ?_ | refine condP_false ?_ | refine condP_not ?_ | refine condP_and ?_) | ((with_reducible refine condP_dt ?_ ?_); (· omega)) | ((with_reducible refine condP_df ?_ ?_); (· omega)) | ((with_reducible refine condP_yes ?_ ?_); (· assumption)) | ((with_reducible refine condP_no ?_ ?_); (· assumption)) | ((with_reducible refine ArP_i64 ?_ ?_); (· omega)) | ((with_reducible refine mustP.mk ?_ ?_); (· first | omega | rfl | (dsimp only; omega))) | (with_reducible first | refine EqP_nil tab_ok ?_ | refine EqP_sli tab_ok ?_ | refine DrawP_auto tab_ok (by kernel_rfl) (by decide +kernel) ?_ | refine DrawP_auto2 tab_ok (by kernel_rfl) (by decide +kernel) ?_ | refine eq34 ?_ | refine eq68 ?_))))
  conv => whnf
  exact ⟨rfl, rfl⟩
end Go.Proofs.Ytiakdbcikmkomaa
