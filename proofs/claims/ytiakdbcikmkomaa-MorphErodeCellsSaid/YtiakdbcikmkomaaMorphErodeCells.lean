/-
  MorphErodeCells: the law's walk.
-/
import Derived.Test.YtiakdbcikmkomaaMorphs
import Derived.Test.YtiakdbcikmkomaaEroded
import Derived.Test.YtiakdbcikmkomaaMrg6
namespace Go.Proofs.Ytiakdbcikmkomaa.morphErodeCells
open Go.RowKit
set_option linter.unusedVariables false
set_option maxRecDepth 20000
set_option maxHeartbeats 4000000 in
theorem body {A : Option Addr} {L : List Run} {c : Nat} {w : Int} {G : Mem} (hA : RunsM G A L) (hc : L.length ≤ c) (hc' : c ≤ maxLen) :
    bodyV Try.prog tab 0 Try.f4 [.val (.slice A L.length c), .val (.int .i64 w)] [] G fun v _ _ => v = .val (.bool true) := by
  obtain ⟨A1, c1, hA1, hc1, hm1, s1⟩ := short_gives hA hc hc'
  have hl : (L.take 60).length ≤ 60 := by rw [List.length_take]; omega
  have gp := fun {G' : Mem} (hle : G.le G') => spread_gives (w := w) (hA1.mono hle) hc1 hm1
  generalize L.take 60 = M at *
  by_cases he : spE M w = 0
  · have mk := Erode_makes (w := w) hA1 hc1 hm1 he (by omega)
    obtain ⟨e1, hw⟩ := spE_ok he
    have hv := errL_ok e1
    rw [he] at gp
    (repeat ((try (conv => whnf)); (first | (with_reducible first | refine condP_true ?_ | refine condP_false ?_ | refine condP_not ?_ | refine condP_and ?_) | ((with_reducible refine condP_dt ?_ ?_); (· omega)) | ((with_reducible refine condP_df ?_ ?_); (· omega)) | ((with_reducible refine condP_yes ?_ ?_); (· assumption)) | ((with_reducible refine condP_no ?_ ?_); (· assumption)) | ((with_reducible refine ArP_i64 ?_ ?_); (· omega)) | ((with_reducible refine mustP.mk ?_ ?_); (· first | omega | rfl | (dsimp only; omega))) | (with_reducible first | refine EqP_nil tab_ok ?_ | refine EqP_sli tab_ok ?_ | refine DrawP_auto tab_ok (by kernel_rfl) (by decide +kernel) ?_ | refine DrawP_auto2 tab_ok (by kernel_rfl) (by decide +kernel) ?_ | refine eq34 ?_ | refine eq68 ?_ | refine CallP_gives (fun vs w => by kernel_rfl) (by kernel_rfl) (morphs_gives _) ?_ | refine RCallP_gives (fun vs w => by kernel_rfl) (by kernel_rfl) (morphs_gives _) ?_ | refine CallP_gives (fun vs w => by kernel_rfl) (by kernel_rfl) (s1) ?_ | refine RCallP_gives (fun vs w => by kernel_rfl) (by kernel_rfl) (s1) ?_))))
    conv => whnf
    refine CallP_freeze (fun vs w => by kernel_rfl) (pairE_wraps 0) (by kernel_rfl) mk fun A2 c2 G2 hG2 hc2 hm2 hx2 => ?_
    have hC := RunsM.frozen hx2
    (repeat ((try (conv => whnf)); (first | (with_reducible first | refine condP_true ?_ | refine condP_false ?_ | refine condP_not ?_ | refine condP_and ?_) | ((with_reducible refine condP_dt ?_ ?_); (· omega)) | ((with_reducible refine condP_df ?_ ?_); (· omega)) | ((with_reducible refine condP_yes ?_ ?_); (· assumption)) | ((with_reducible refine condP_no ?_ ?_); (· assumption)) | ((with_reducible refine ArP_i64 ?_ ?_); (· omega)) | ((with_reducible refine mustP.mk ?_ ?_); (· first | omega | rfl | (dsimp only; omega))) | (with_reducible first | refine EqP_nil tab_ok ?_ | refine EqP_sli tab_ok ?_ | refine DrawP_auto tab_ok (by kernel_rfl) (by decide +kernel) ?_ | refine DrawP_auto2 tab_ok (by kernel_rfl) (by decide +kernel) ?_ | refine eq34 ?_ | refine eq68 ?_ | refine CallP_gives (fun vs w => by kernel_rfl) (by kernel_rfl) (gp hG2) ?_ | refine RCallP_gives (fun vs w => by kernel_rfl) (by kernel_rfl) (gp hG2) ?_))))
    conv => whnf
    refine CallP_freeze (fun vs w => by kernel_rfl) (.alone fun _ => rfl) (by kernel_rfl) (Eroded_makes A1 M c1 w G2 (hA1.mono hG2) hv hw (erode_ok hw.1 hv).1 (erode_ok hw.1 hv).2) fun A3 c3 G3 hG3 hc3 hm3 hx3 => ?_
    have hD := RunsM.frozen hx3
    (repeat ((try (conv => whnf)); (first | (with_reducible first | refine condP_true ?_ | refine condP_false ?_ | refine condP_not ?_ | refine condP_and ?_) | ((with_reducible refine condP_dt ?_ ?_); (· omega)) | ((with_reducible refine condP_df ?_ ?_); (· omega)) | ((with_reducible refine condP_yes ?_ ?_); (· assumption)) | ((with_reducible refine condP_no ?_ ?_); (· assumption)) | ((with_reducible refine ArP_i64 ?_ ?_); (· omega)) | ((with_reducible refine mustP.mk ?_ ?_); (· first | omega | rfl | (dsimp only; omega))) | (with_reducible first | refine EqP_nil tab_ok ?_ | refine EqP_sli tab_ok ?_ | refine DrawP_auto tab_ok (by kernel_rfl) (by decide +kernel) ?_ | refine DrawP_auto2 tab_ok (by kernel_rfl) (by decide +kernel) ?_ | refine eq34 ?_ | refine eq68 ?_ | refine CallP_gives (fun vs w => by kernel_rfl) (by kernel_rfl) (SameRuns_gives A2 A3 _ c2 c3 G3 (hC.mono hG3) hD (show (EL w M).length ≤ 1000000000000 from Nat.le_trans (EL_valid hw.1 hv).length (by omega))) ?_ | refine RCallP_gives (fun vs w => by kernel_rfl) (by kernel_rfl) (SameRuns_gives A2 A3 _ c2 c3 G3 (hC.mono hG3) hD (show (EL w M).length ≤ 1000000000000 from Nat.le_trans (EL_valid hw.1 hv).length (by omega))) ?_))))
    conv => whnf
    try simp
  · have mk := Erode_err (w := w) hA1 hc1 hm1 he
    have g := gp (Mem.le_refl _)
    generalize spE M w = er at *
    (repeat ((try (conv => whnf)); (first | (with_reducible first | refine condP_true ?_ | refine condP_false ?_ | refine condP_not ?_ | refine condP_and ?_) | ((with_reducible refine condP_dt ?_ ?_); (· omega)) | ((with_reducible refine condP_df ?_ ?_); (· omega)) | ((with_reducible refine condP_yes ?_ ?_); (· assumption)) | ((with_reducible refine condP_no ?_ ?_); (· assumption)) | ((with_reducible refine ArP_i64 ?_ ?_); (· omega)) | ((with_reducible refine mustP.mk ?_ ?_); (· first | omega | rfl | (dsimp only; omega))) | (with_reducible first | refine EqP_nil tab_ok ?_ | refine EqP_sli tab_ok ?_ | refine DrawP_auto tab_ok (by kernel_rfl) (by decide +kernel) ?_ | refine DrawP_auto2 tab_ok (by kernel_rfl) (by decide +kernel) ?_ | refine eq34 ?_ | refine eq68 ?_ | refine CallP_gives (fun vs w => by kernel_rfl) (by kernel_rfl) (morphs_gives _) ?_ | refine RCallP_gives (fun vs w => by kernel_rfl) (by kernel_rfl) (morphs_gives _) ?_ | refine CallP_gives (fun vs w => by kernel_rfl) (by kernel_rfl) (s1) ?_ | refine RCallP_gives (fun vs w => by kernel_rfl) (by kernel_rfl) (s1) ?_ | refine CallP_gives (fun vs w => by kernel_rfl) (by kernel_rfl) (mk) ?_ | refine RCallP_gives (fun vs w => by kernel_rfl) (by kernel_rfl) (mk) ?_ | refine CallP_gives (fun vs w => by kernel_rfl) (by kernel_rfl) (g) ?_ | refine RCallP_gives (fun vs w => by kernel_rfl) (by kernel_rfl) (g) ?_))))
    conv => whnf
    try simp
theorem walk (A0 : Option Addr) (n0 : Nat) (cap0 : Nat) (rs0 : Nat → Run) (a1 : Int) (w : World) (c0 : n0 ≤ cap0) (m0 : cap0 ≤ maxLen) (w0 : RunsAt w A0 n0 rs0) (w1 : (Lit.int .i64 a1).wf = true) :
    Calls Try.prog 4 #[.slice A0 n0 cap0, .int .i64 a1] w fun e w' => e = .returned (.bool true) ∧ Below w.heap.size w w' := by
  have h := body w0.m (c := cap0) (w := a1) (by rw [runsL_length]; exact c0) m0
  rw [runsL_length] at h
  exact walk_of tab_ok Try.func4 (rels_map_val [.slice A0 n0 cap0, .int .i64 a1]) h
end Go.Proofs.Ytiakdbcikmkomaa.morphErodeCells
