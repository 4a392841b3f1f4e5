/-
  MorphOpenCloseCells: the law's walk (printed by mkmorph.py).
-/
import Derived.Test.YtiakdbcikmkomaaMorphs
import Derived.Test.YtiakdbcikmkomaaDilated
import Derived.Test.YtiakdbcikmkomaaEroded
import Derived.Test.YtiakdbcikmkomaaMrg6
namespace Go.Proofs.Ytiakdbcikmkomaa.morphOpenCloseCells
open Go.RowKit
set_option linter.unusedVariables false
set_option maxRecDepth 20000
theorem addr_zero (a : Addr) : a.add 0 = a := by cases a; rename_i b o p; cases p <;> rfl
set_option maxHeartbeats 8000000 in
theorem body {A : Option Addr} {L : List Run} {c : Nat} {w : Int} {G : Mem} (hA : RunsM G A L) (hc : L.length ≤ c) (hc' : c ≤ maxLen) :
    bodyV Try.prog tab 0 Try.f5 [.val (.slice A L.length c), .val (.int .i64 w)] [] G fun v _ _ => v = .val (.bool true) := by
  by_cases h12 : L.length ≤ 12
  · obtain ⟨M, hA1, hn⟩ : ∃ M : List Run, RunsM G A M ∧ M.length = L.length := ⟨L, hA, rfl⟩
    generalize L.length = n at *
    have hcM : M.length ≤ c := by omega
    have gp := fun {G1 : Mem} (hle : G.le G1) => spread_gives (w := w) (c := c) (hA1.mono hle) hcM hc'
    rw [hn] at gp
    by_cases he : spE M w = 0
    · obtain ⟨e1, hw⟩ := spE_ok he
      have hv := errL_ok e1
      have hdv : ValidL (DL w M) := DL_valid hv
      have hev : ValidL (EL w M) := EL_valid hw.1 hv
      have hdl := DL_len hw M
      have hel := EL_len hw M
      rw [hn] at hel
      have hel2 : (EL w M).length ≤ 20000 := Nat.le_trans hel (Nat.le_trans (Nat.mul_le_mul (show _ ≤ 12 by omega) (Nat.mul_le_mul_left 129 (show _ ≤ 12 by omega))) (by omega))
      rw [he] at gp
      have mk := Open_makes (w := w) (c := c) hA1 hcM hc' he (by omega)
      rw [hn] at mk
      (repeat ((try (conv => whnf)); (first | (with_reducible first | refine condP_true ?_ | refine condP_false ?_ | refine condP_not ?_ | refine condP_and ?_) | ((with_reducible refine condP_dt ?_ ?_); (· omega)) | ((with_reducible refine condP_df ?_ ?_); (· omega)) | ((with_reducible refine condP_yes ?_ ?_); (· assumption)) | ((with_reducible refine condP_no ?_ ?_); (· assumption)) | ((with_reducible refine ArP_i64 ?_ ?_); (· omega)) | ((with_reducible refine mustP.mk ?_ ?_); (· first | omega | rfl | (dsimp only; omega))) | (with_reducible first | refine EqP_nil tab_ok ?_ | refine EqP_sli tab_ok ?_ | refine DrawP_auto tab_ok (by kernel_rfl) (by decide +kernel) ?_ | refine DrawP_auto2 tab_ok (by kernel_rfl) (by decide +kernel) ?_ | refine eq34 ?_ | refine eq68 ?_ | refine CallP_gives (fun vs w => by kernel_rfl) (by kernel_rfl) (morphs_gives _) ?_ | refine RCallP_gives (fun vs w => by kernel_rfl) (by kernel_rfl) (morphs_gives _) ?_))))
      skip
      conv => whnf
      refine CallP_freeze (fun vs w => by kernel_rfl) (pairE_wraps 0) (by kernel_rfl) mk fun A2 c2 G2 hG2 hc2 hm2 hx2 => ?_
      have h2 := RunsM.frozen hx2
      have mk3 := Close_makes (w := w) (c := c) (hA1.mono hG2) hcM hc' he (by omega)
      rw [hn] at mk3
      (repeat ((try (conv => whnf)); (first | (with_reducible first | refine condP_true ?_ | refine condP_false ?_ | refine condP_not ?_ | refine condP_and ?_) | ((with_reducible refine condP_dt ?_ ?_); (· omega)) | ((with_reducible refine condP_df ?_ ?_); (· omega)) | ((with_reducible refine condP_yes ?_ ?_); (· assumption)) | ((with_reducible refine condP_no ?_ ?_); (· assumption)) | ((with_reducible refine ArP_i64 ?_ ?_); (· omega)) | ((with_reducible refine mustP.mk ?_ ?_); (· first | omega | rfl | (dsimp only; omega))) | (with_reducible first | refine EqP_nil tab_ok ?_ | refine EqP_sli tab_ok ?_ | refine DrawP_auto tab_ok (by kernel_rfl) (by decide +kernel) ?_ | refine DrawP_auto2 tab_ok (by kernel_rfl) (by decide +kernel) ?_ | refine eq34 ?_ | refine eq68 ?_))))
      conv => whnf
      refine CallP_freeze (fun vs w => by kernel_rfl) (pairE_wraps 0) (by kernel_rfl) mk3 fun A3 c3 G3 hG3 hc3 hm3 hx3 => ?_
      have h3 := RunsM.frozen hx3
      have L3 := Mem.le_trans hG2 hG3
      have mk4 := Eroded_makes A M c w G3 (hA1.mono L3) hv hw (E := EL w M) (erode_ok hw.1 hv).1 (erode_ok hw.1 hv).2
      rw [hn] at mk4
      (repeat ((try (conv => whnf)); (first | (with_reducible first | refine condP_true ?_ | refine condP_false ?_ | refine condP_not ?_ | refine condP_and ?_) | ((with_reducible refine condP_dt ?_ ?_); (· omega)) | ((with_reducible refine condP_df ?_ ?_); (· omega)) | ((with_reducible refine condP_yes ?_ ?_); (· assumption)) | ((with_reducible refine condP_no ?_ ?_); (· assumption)) | ((with_reducible refine ArP_i64 ?_ ?_); (· omega)) | ((with_reducible refine mustP.mk ?_ ?_); (· first | omega | rfl | (dsimp only; omega))) | (with_reducible first | refine EqP_nil tab_ok ?_ | refine EqP_sli tab_ok ?_ | refine DrawP_auto tab_ok (by kernel_rfl) (by decide +kernel) ?_ | refine DrawP_auto2 tab_ok (by kernel_rfl) (by decide +kernel) ?_ | refine eq34 ?_ | refine eq68 ?_ | refine CallP_gives (fun vs w => by kernel_rfl) (by kernel_rfl) (gp L3) ?_ | refine RCallP_gives (fun vs w => by kernel_rfl) (by kernel_rfl) (gp L3) ?_))))
      conv => whnf
      refine CallP_freeze (fun vs w => by kernel_rfl) (.alone fun _ => rfl) (by kernel_rfl) mk4 fun A4 c4 G4 hG4 hc4 hm4 hx4 => ?_
      have h4 := RunsM.frozen hx4
      have mk5 := Dilated_makes A4 (EL w M) c4 w G4 h4 hev hw (by omega) (dilate_ok (w := w) hev).1 (dilate_ok (w := w) hev).2
      (repeat ((try (conv => whnf)); (first | (with_reducible first | refine condP_true ?_ | refine condP_false ?_ | refine condP_not ?_ | refine condP_and ?_) | ((with_reducible refine condP_dt ?_ ?_); (· omega)) | ((with_reducible refine condP_df ?_ ?_); (· omega)) | ((with_reducible refine condP_yes ?_ ?_); (· assumption)) | ((with_reducible refine condP_no ?_ ?_); (· assumption)) | ((with_reducible refine ArP_i64 ?_ ?_); (· omega)) | ((with_reducible refine mustP.mk ?_ ?_); (· first | omega | rfl | (dsimp only; omega))) | (with_reducible first | refine EqP_nil tab_ok ?_ | refine EqP_sli tab_ok ?_ | refine DrawP_auto tab_ok (by kernel_rfl) (by decide +kernel) ?_ | refine DrawP_auto2 tab_ok (by kernel_rfl) (by decide +kernel) ?_ | refine eq34 ?_ | refine eq68 ?_))))
      conv => whnf
      refine CallP_freeze (fun vs w => by kernel_rfl) (.alone fun _ => rfl) (by kernel_rfl) mk5 fun A5 c5 G5 hG5 hc5 hm5 hx5 => ?_
      have h5 := RunsM.frozen hx5
      have L5 := Mem.le_trans hG3 (Mem.le_trans hG4 hG5)
      have sr := SameRuns_gives A2 A5 _ c2 c5 G5 (h2.mono L5) h5 (show (DL w (EL w M)).length ≤ 1000000000000 by have := DL_len hw (EL w M); omega)
      have mk6 := Dilated_makes A M c w G5 (hA1.mono (Mem.le_trans hG2 L5)) hv hw (by omega) (dilate_ok (w := w) hv).1 (dilate_ok (w := w) hv).2
      rw [hn] at mk6
      (repeat ((try (conv => whnf)); (first | (with_reducible first | refine condP_true ?_ | refine condP_false ?_ | refine condP_not ?_ | refine condP_and ?_) | ((with_reducible refine condP_dt ?_ ?_); (· omega)) | ((with_reducible refine condP_df ?_ ?_); (· omega)) | ((with_reducible refine condP_yes ?_ ?_); (· assumption)) | ((with_reducible refine condP_no ?_ ?_); (· assumption)) | ((with_reducible refine ArP_i64 ?_ ?_); (· omega)) | ((with_reducible refine mustP.mk ?_ ?_); (· first | omega | rfl | (dsimp only; omega))) | (with_reducible first | refine EqP_nil tab_ok ?_ | refine EqP_sli tab_ok ?_ | refine DrawP_auto tab_ok (by kernel_rfl) (by decide +kernel) ?_ | refine DrawP_auto2 tab_ok (by kernel_rfl) (by decide +kernel) ?_ | refine eq34 ?_ | refine eq68 ?_ | refine CallP_gives (fun vs w => by kernel_rfl) (by kernel_rfl) (sr) ?_ | refine RCallP_gives (fun vs w => by kernel_rfl) (by kernel_rfl) (sr) ?_))))
      conv => whnf
      refine CallP_freeze (fun vs w => by kernel_rfl) (.alone fun _ => rfl) (by kernel_rfl) mk6 fun A6 c6 G6 hG6 hc6 hm6 hx6 => ?_
      have h6 := RunsM.frozen hx6
      have mk7 := Eroded_makes A6 (DL w M) c6 w G6 h6 hdv hw (erode_ok hw.1 hdv).1 (erode_ok hw.1 hdv).2
      (repeat ((try (conv => whnf)); (first | (with_reducible first | refine condP_true ?_ | refine condP_false ?_ | refine condP_not ?_ | refine condP_and ?_) | ((with_reducible refine condP_dt ?_ ?_); (· omega)) | ((with_reducible refine condP_df ?_ ?_); (· omega)) | ((with_reducible refine condP_yes ?_ ?_); (· assumption)) | ((with_reducible refine condP_no ?_ ?_); (· assumption)) | ((with_reducible refine ArP_i64 ?_ ?_); (· omega)) | ((with_reducible refine mustP.mk ?_ ?_); (· first | omega | rfl | (dsimp only; omega))) | (with_reducible first | refine EqP_nil tab_ok ?_ | refine EqP_sli tab_ok ?_ | refine DrawP_auto tab_ok (by kernel_rfl) (by decide +kernel) ?_ | refine DrawP_auto2 tab_ok (by kernel_rfl) (by decide +kernel) ?_ | refine eq34 ?_ | refine eq68 ?_))))
      conv => whnf
      refine CallP_freeze (fun vs w => by kernel_rfl) (.alone fun _ => rfl) (by kernel_rfl) mk7 fun A7 c7 G7 hG7 hc7 hm7 hx7 => ?_
      have h7 := RunsM.frozen hx7
      have L7 := Mem.le_trans hG4 (Mem.le_trans hG5 (Mem.le_trans hG6 hG7))
      have sr7 := SameRuns_gives A3 A7 _ c3 c7 G7 (h3.mono L7) h7 (show (EL w (DL w M)).length ≤ 1000000000000 from Nat.le_trans (EL_valid hw.1 hdv).length (by omega))
      (repeat ((try (conv => whnf)); (first | (with_reducible first | refine condP_true ?_ | refine condP_false ?_ | refine condP_not ?_ | refine condP_and ?_) | ((with_reducible refine condP_dt ?_ ?_); (· omega)) | ((with_reducible refine condP_df ?_ ?_); (· omega)) | ((with_reducible refine condP_yes ?_ ?_); (· assumption)) | ((with_reducible refine condP_no ?_ ?_); (· assumption)) | ((with_reducible refine ArP_i64 ?_ ?_); (· omega)) | ((with_reducible refine mustP.mk ?_ ?_); (· first | omega | rfl | (dsimp only; omega))) | (with_reducible first | refine EqP_nil tab_ok ?_ | refine EqP_sli tab_ok ?_ | refine DrawP_auto tab_ok (by kernel_rfl) (by decide +kernel) ?_ | refine DrawP_auto2 tab_ok (by kernel_rfl) (by decide +kernel) ?_ | refine eq34 ?_ | refine eq68 ?_ | refine CallP_gives (fun vs w => by kernel_rfl) (by kernel_rfl) (sr7) ?_ | refine RCallP_gives (fun vs w => by kernel_rfl) (by kernel_rfl) (sr7) ?_))))
      conv => whnf
      try simp
    · have mk := Open_err (w := w) (c := c) hA1 hcM hc' he
      have mk2 := Close_err (w := w) (c := c) hA1 hcM hc' he
      have g := gp (Mem.le_refl _)
      rw [hn] at mk mk2
      generalize spE M w = er at *
      (repeat ((try (conv => whnf)); (first | (with_reducible first | refine condP_true ?_ | refine condP_false ?_ | refine condP_not ?_ | refine condP_and ?_) | ((with_reducible refine condP_dt ?_ ?_); (· omega)) | ((with_reducible refine condP_df ?_ ?_); (· omega)) | ((with_reducible refine condP_yes ?_ ?_); (· assumption)) | ((with_reducible refine condP_no ?_ ?_); (· assumption)) | ((with_reducible refine ArP_i64 ?_ ?_); (· omega)) | ((with_reducible refine mustP.mk ?_ ?_); (· first | omega | rfl | (dsimp only; omega))) | (with_reducible first | refine EqP_nil tab_ok ?_ | refine EqP_sli tab_ok ?_ | refine DrawP_auto tab_ok (by kernel_rfl) (by decide +kernel) ?_ | refine DrawP_auto2 tab_ok (by kernel_rfl) (by decide +kernel) ?_ | refine eq34 ?_ | refine eq68 ?_ | refine CallP_gives (fun vs w => by kernel_rfl) (by kernel_rfl) (morphs_gives _) ?_ | refine RCallP_gives (fun vs w => by kernel_rfl) (by kernel_rfl) (morphs_gives _) ?_))))
      skip
      (repeat ((try (conv => whnf)); (first | (with_reducible first | refine condP_true ?_ | refine condP_false ?_ | refine condP_not ?_ | refine condP_and ?_) | ((with_reducible refine condP_dt ?_ ?_); (· omega)) | ((with_reducible refine condP_df ?_ ?_); (· omega)) | ((with_reducible refine condP_yes ?_ ?_); (· assumption)) | ((with_reducible refine condP_no ?_ ?_); (· assumption)) | ((with_reducible refine ArP_i64 ?_ ?_); (· omega)) | ((with_reducible refine mustP.mk ?_ ?_); (· first | omega | rfl | (dsimp only; omega))) | (with_reducible first | refine EqP_nil tab_ok ?_ | refine EqP_sli tab_ok ?_ | refine DrawP_auto tab_ok (by kernel_rfl) (by decide +kernel) ?_ | refine DrawP_auto2 tab_ok (by kernel_rfl) (by decide +kernel) ?_ | refine eq34 ?_ | refine eq68 ?_ | refine CallP_gives (fun vs w => by kernel_rfl) (by kernel_rfl) (mk) ?_ | refine RCallP_gives (fun vs w => by kernel_rfl) (by kernel_rfl) (mk) ?_ | refine CallP_gives (fun vs w => by kernel_rfl) (by kernel_rfl) (mk2) ?_ | refine RCallP_gives (fun vs w => by kernel_rfl) (by kernel_rfl) (mk2) ?_ | refine CallP_gives (fun vs w => by kernel_rfl) (by kernel_rfl) (g) ?_ | refine RCallP_gives (fun vs w => by kernel_rfl) (by kernel_rfl) (g) ?_))))
      conv => whnf
      try simp
  · obtain ⟨M, hA1, hn⟩ : ∃ M : List Run, RunsM G A M ∧ M.length = 12 := ⟨L.take 12, hA.take 12, by rw [List.length_take]; omega⟩
    have hc0 : ¬ c = 0 := by omega
    have hcM : M.length ≤ c := by omega
    have gp := fun {G1 : Mem} (hle : G.le G1) => spread_gives (w := w) (c := c) (hA1.mono hle) hcM hc'
    rw [hn] at gp
    by_cases he : spE M w = 0
    · obtain ⟨e1, hw⟩ := spE_ok he
      have hv := errL_ok e1
      have hdv : ValidL (DL w M) := DL_valid hv
      have hev : ValidL (EL w M) := EL_valid hw.1 hv
      have hdl := DL_len hw M
      have hel := EL_len hw M
      rw [hn] at hel
      have hel2 : (EL w M).length ≤ 20000 := Nat.le_trans hel (Nat.le_trans (Nat.mul_le_mul (show _ ≤ 12 by omega) (Nat.mul_le_mul_left 129 (show _ ≤ 12 by omega))) (by omega))
      rw [he] at gp
      have mk := Open_makes (w := w) (c := c) hA1 hcM hc' he (by omega)
      rw [hn] at mk
      (repeat ((try (conv => whnf)); (first | (with_reducible first | refine condP_true ?_ | refine condP_false ?_ | refine condP_not ?_ | refine condP_and ?_) | ((with_reducible refine condP_dt ?_ ?_); (· omega)) | ((with_reducible refine condP_df ?_ ?_); (· omega)) | ((with_reducible refine condP_yes ?_ ?_); (· assumption)) | ((with_reducible refine condP_no ?_ ?_); (· assumption)) | ((with_reducible refine ArP_i64 ?_ ?_); (· omega)) | ((with_reducible refine mustP.mk ?_ ?_); (· first | omega | rfl | (dsimp only; omega))) | (with_reducible first | refine EqP_nil tab_ok ?_ | refine EqP_sli tab_ok ?_ | refine DrawP_auto tab_ok (by kernel_rfl) (by decide +kernel) ?_ | refine DrawP_auto2 tab_ok (by kernel_rfl) (by decide +kernel) ?_ | refine eq34 ?_ | refine eq68 ?_ | refine CallP_gives (fun vs w => by kernel_rfl) (by kernel_rfl) (morphs_gives _) ?_ | refine RCallP_gives (fun vs w => by kernel_rfl) (by kernel_rfl) (morphs_gives _) ?_))))
      simp only [Int.toNat_natCast, show Int.toNat 12 = 12 from rfl, if_neg hc0, Nat.zero_mul, Nat.sub_zero, addr_zero, Option.map_id_fun', id]
      conv => whnf
      refine CallP_freeze (fun vs w => by kernel_rfl) (pairE_wraps 0) (by kernel_rfl) mk fun A2 c2 G2 hG2 hc2 hm2 hx2 => ?_
      have h2 := RunsM.frozen hx2
      have mk3 := Close_makes (w := w) (c := c) (hA1.mono hG2) hcM hc' he (by omega)
      rw [hn] at mk3
      (repeat ((try (conv => whnf)); (first | (with_reducible first | refine condP_true ?_ | refine condP_false ?_ | refine condP_not ?_ | refine condP_and ?_) | ((with_reducible refine condP_dt ?_ ?_); (· omega)) | ((with_reducible refine condP_df ?_ ?_); (· omega)) | ((with_reducible refine condP_yes ?_ ?_); (· assumption)) | ((with_reducible refine condP_no ?_ ?_); (· assumption)) | ((with_reducible refine ArP_i64 ?_ ?_); (· omega)) | ((with_reducible refine mustP.mk ?_ ?_); (· first | omega | rfl | (dsimp only; omega))) | (with_reducible first | refine EqP_nil tab_ok ?_ | refine EqP_sli tab_ok ?_ | refine DrawP_auto tab_ok (by kernel_rfl) (by decide +kernel) ?_ | refine DrawP_auto2 tab_ok (by kernel_rfl) (by decide +kernel) ?_ | refine eq34 ?_ | refine eq68 ?_))))
      conv => whnf
      refine CallP_freeze (fun vs w => by kernel_rfl) (pairE_wraps 0) (by kernel_rfl) mk3 fun A3 c3 G3 hG3 hc3 hm3 hx3 => ?_
      have h3 := RunsM.frozen hx3
      have L3 := Mem.le_trans hG2 hG3
      have mk4 := Eroded_makes A M c w G3 (hA1.mono L3) hv hw (E := EL w M) (erode_ok hw.1 hv).1 (erode_ok hw.1 hv).2
      rw [hn] at mk4
      (repeat ((try (conv => whnf)); (first | (with_reducible first | refine condP_true ?_ | refine condP_false ?_ | refine condP_not ?_ | refine condP_and ?_) | ((with_reducible refine condP_dt ?_ ?_); (· omega)) | ((with_reducible refine condP_df ?_ ?_); (· omega)) | ((with_reducible refine condP_yes ?_ ?_); (· assumption)) | ((with_reducible refine condP_no ?_ ?_); (· assumption)) | ((with_reducible refine ArP_i64 ?_ ?_); (· omega)) | ((with_reducible refine mustP.mk ?_ ?_); (· first | omega | rfl | (dsimp only; omega))) | (with_reducible first | refine EqP_nil tab_ok ?_ | refine EqP_sli tab_ok ?_ | refine DrawP_auto tab_ok (by kernel_rfl) (by decide +kernel) ?_ | refine DrawP_auto2 tab_ok (by kernel_rfl) (by decide +kernel) ?_ | refine eq34 ?_ | refine eq68 ?_ | refine CallP_gives (fun vs w => by kernel_rfl) (by kernel_rfl) (gp L3) ?_ | refine RCallP_gives (fun vs w => by kernel_rfl) (by kernel_rfl) (gp L3) ?_))))
      conv => whnf
      refine CallP_freeze (fun vs w => by kernel_rfl) (.alone fun _ => rfl) (by kernel_rfl) mk4 fun A4 c4 G4 hG4 hc4 hm4 hx4 => ?_
      have h4 := RunsM.frozen hx4
      have mk5 := Dilated_makes A4 (EL w M) c4 w G4 h4 hev hw (by omega) (dilate_ok (w := w) hev).1 (dilate_ok (w := w) hev).2
      (repeat ((try (conv => whnf)); (first | (with_reducible first | refine condP_true ?_ | refine condP_false ?_ | refine condP_not ?_ | refine condP_and ?_) | ((with_reducible refine condP_dt ?_ ?_); (· omega)) | ((with_reducible refine condP_df ?_ ?_); (· omega)) | ((with_reducible refine condP_yes ?_ ?_); (· assumption)) | ((with_reducible refine condP_no ?_ ?_); (· assumption)) | ((with_reducible refine ArP_i64 ?_ ?_); (· omega)) | ((with_reducible refine mustP.mk ?_ ?_); (· first | omega | rfl | (dsimp only; omega))) | (with_reducible first | refine EqP_nil tab_ok ?_ | refine EqP_sli tab_ok ?_ | refine DrawP_auto tab_ok (by kernel_rfl) (by decide +kernel) ?_ | refine DrawP_auto2 tab_ok (by kernel_rfl) (by decide +kernel) ?_ | refine eq34 ?_ | refine eq68 ?_))))
      conv => whnf
      refine CallP_freeze (fun vs w => by kernel_rfl) (.alone fun _ => rfl) (by kernel_rfl) mk5 fun A5 c5 G5 hG5 hc5 hm5 hx5 => ?_
      have h5 := RunsM.frozen hx5
      have L5 := Mem.le_trans hG3 (Mem.le_trans hG4 hG5)
      have sr := SameRuns_gives A2 A5 _ c2 c5 G5 (h2.mono L5) h5 (show (DL w (EL w M)).length ≤ 1000000000000 by have := DL_len hw (EL w M); omega)
      have mk6 := Dilated_makes A M c w G5 (hA1.mono (Mem.le_trans hG2 L5)) hv hw (by omega) (dilate_ok (w := w) hv).1 (dilate_ok (w := w) hv).2
      rw [hn] at mk6
      (repeat ((try (conv => whnf)); (first | (with_reducible first | refine condP_true ?_ | refine condP_false ?_ | refine condP_not ?_ | refine condP_and ?_) | ((with_reducible refine condP_dt ?_ ?_); (· omega)) | ((with_reducible refine condP_df ?_ ?_); (· omega)) | ((with_reducible refine condP_yes ?_ ?_); (· assumption)) | ((with_reducible refine condP_no ?_ ?_); (· assumption)) | ((with_reducible refine ArP_i64 ?_ ?_); (· omega)) | ((with_reducible refine mustP.mk ?_ ?_); (· first | omega | rfl | (dsimp only; omega))) | (with_reducible first | refine EqP_nil tab_ok ?_ | refine EqP_sli tab_ok ?_ | refine DrawP_auto tab_ok (by kernel_rfl) (by decide +kernel) ?_ | refine DrawP_auto2 tab_ok (by kernel_rfl) (by decide +kernel) ?_ | refine eq34 ?_ | refine eq68 ?_ | refine CallP_gives (fun vs w => by kernel_rfl) (by kernel_rfl) (sr) ?_ | refine RCallP_gives (fun vs w => by kernel_rfl) (by kernel_rfl) (sr) ?_))))
      conv => whnf
      refine CallP_freeze (fun vs w => by kernel_rfl) (.alone fun _ => rfl) (by kernel_rfl) mk6 fun A6 c6 G6 hG6 hc6 hm6 hx6 => ?_
      have h6 := RunsM.frozen hx6
      have mk7 := Eroded_makes A6 (DL w M) c6 w G6 h6 hdv hw (erode_ok hw.1 hdv).1 (erode_ok hw.1 hdv).2
      (repeat ((try (conv => whnf)); (first | (with_reducible first | refine condP_true ?_ | refine condP_false ?_ | refine condP_not ?_ | refine condP_and ?_) | ((with_reducible refine condP_dt ?_ ?_); (· omega)) | ((with_reducible refine condP_df ?_ ?_); (· omega)) | ((with_reducible refine condP_yes ?_ ?_); (· assumption)) | ((with_reducible refine condP_no ?_ ?_); (· assumption)) | ((with_reducible refine ArP_i64 ?_ ?_); (· omega)) | ((with_reducible refine mustP.mk ?_ ?_); (· first | omega | rfl | (dsimp only; omega))) | (with_reducible first | refine EqP_nil tab_ok ?_ | refine EqP_sli tab_ok ?_ | refine DrawP_auto tab_ok (by kernel_rfl) (by decide +kernel) ?_ | refine DrawP_auto2 tab_ok (by kernel_rfl) (by decide +kernel) ?_ | refine eq34 ?_ | refine eq68 ?_))))
      conv => whnf
      refine CallP_freeze (fun vs w => by kernel_rfl) (.alone fun _ => rfl) (by kernel_rfl) mk7 fun A7 c7 G7 hG7 hc7 hm7 hx7 => ?_
      have h7 := RunsM.frozen hx7
      have L7 := Mem.le_trans hG4 (Mem.le_trans hG5 (Mem.le_trans hG6 hG7))
      have sr7 := SameRuns_gives A3 A7 _ c3 c7 G7 (h3.mono L7) h7 (show (EL w (DL w M)).length ≤ 1000000000000 from Nat.le_trans (EL_valid hw.1 hdv).length (by omega))
      (repeat ((try (conv => whnf)); (first | (with_reducible first | refine condP_true ?_ | refine condP_false ?_ | refine condP_not ?_ | refine condP_and ?_) | ((with_reducible refine condP_dt ?_ ?_); (· omega)) | ((with_reducible refine condP_df ?_ ?_); (· omega)) | ((with_reducible refine condP_yes ?_ ?_); (· assumption)) | ((with_reducible refine condP_no ?_ ?_); (· assumption)) | ((with_reducible refine ArP_i64 ?_ ?_); (· omega)) | ((with_reducible refine mustP.mk ?_ ?_); (· first | omega | rfl | (dsimp only; omega))) | (with_reducible first | refine EqP_nil tab_ok ?_ | refine EqP_sli tab_ok ?_ | refine DrawP_auto tab_ok (by kernel_rfl) (by decide +kernel) ?_ | refine DrawP_auto2 tab_ok (by kernel_rfl) (by decide +kernel) ?_ | refine eq34 ?_ | refine eq68 ?_ | refine CallP_gives (fun vs w => by kernel_rfl) (by kernel_rfl) (sr7) ?_ | refine RCallP_gives (fun vs w => by kernel_rfl) (by kernel_rfl) (sr7) ?_))))
      conv => whnf
      try simp
    · have mk := Open_err (w := w) (c := c) hA1 hcM hc' he
      have mk2 := Close_err (w := w) (c := c) hA1 hcM hc' he
      have g := gp (Mem.le_refl _)
      rw [hn] at mk mk2
      generalize spE M w = er at *
      (repeat ((try (conv => whnf)); (first | (with_reducible first | refine condP_true ?_ | refine condP_false ?_ | refine condP_not ?_ | refine condP_and ?_) | ((with_reducible refine condP_dt ?_ ?_); (· omega)) | ((with_reducible refine condP_df ?_ ?_); (· omega)) | ((with_reducible refine condP_yes ?_ ?_); (· assumption)) | ((with_reducible refine condP_no ?_ ?_); (· assumption)) | ((with_reducible refine ArP_i64 ?_ ?_); (· omega)) | ((with_reducible refine mustP.mk ?_ ?_); (· first | omega | rfl | (dsimp only; omega))) | (with_reducible first | refine EqP_nil tab_ok ?_ | refine EqP_sli tab_ok ?_ | refine DrawP_auto tab_ok (by kernel_rfl) (by decide +kernel) ?_ | refine DrawP_auto2 tab_ok (by kernel_rfl) (by decide +kernel) ?_ | refine eq34 ?_ | refine eq68 ?_ | refine CallP_gives (fun vs w => by kernel_rfl) (by kernel_rfl) (morphs_gives _) ?_ | refine RCallP_gives (fun vs w => by kernel_rfl) (by kernel_rfl) (morphs_gives _) ?_))))
      simp only [Int.toNat_natCast, show Int.toNat 12 = 12 from rfl, if_neg hc0, Nat.zero_mul, Nat.sub_zero, addr_zero, Option.map_id_fun', id]
      (repeat ((try (conv => whnf)); (first | (with_reducible first | refine condP_true ?_ | refine condP_false ?_ | refine condP_not ?_ | refine condP_and ?_) | ((with_reducible refine condP_dt ?_ ?_); (· omega)) | ((with_reducible refine condP_df ?_ ?_); (· omega)) | ((with_reducible refine condP_yes ?_ ?_); (· assumption)) | ((with_reducible refine condP_no ?_ ?_); (· assumption)) | ((with_reducible refine ArP_i64 ?_ ?_); (· omega)) | ((with_reducible refine mustP.mk ?_ ?_); (· first | omega | rfl | (dsimp only; omega))) | (with_reducible first | refine EqP_nil tab_ok ?_ | refine EqP_sli tab_ok ?_ | refine DrawP_auto tab_ok (by kernel_rfl) (by decide +kernel) ?_ | refine DrawP_auto2 tab_ok (by kernel_rfl) (by decide +kernel) ?_ | refine eq34 ?_ | refine eq68 ?_ | refine CallP_gives (fun vs w => by kernel_rfl) (by kernel_rfl) (mk) ?_ | refine RCallP_gives (fun vs w => by kernel_rfl) (by kernel_rfl) (mk) ?_ | refine CallP_gives (fun vs w => by kernel_rfl) (by kernel_rfl) (mk2) ?_ | refine RCallP_gives (fun vs w => by kernel_rfl) (by kernel_rfl) (mk2) ?_ | refine CallP_gives (fun vs w => by kernel_rfl) (by kernel_rfl) (g) ?_ | refine RCallP_gives (fun vs w => by kernel_rfl) (by kernel_rfl) (g) ?_))))
      conv => whnf
      try simp
theorem walk (A0 : Option Addr) (n0 : Nat) (cap0 : Nat) (rs0 : Nat → Run) (a1 : Int) (w : World) (c0 : n0 ≤ cap0) (m0 : cap0 ≤ maxLen) (w0 : RunsAt w A0 n0 rs0) (w1 : (Lit.int .i64 a1).wf = true) :
    Calls Try.prog 5 #[.slice A0 n0 cap0, .int .i64 a1] w fun e w' => e = .returned (.bool true) ∧ Below w.heap.size w w' := by
  have h := body w0.m (c := cap0) (w := a1) (by rw [runsL_length]; exact c0) m0
  rw [runsL_length] at h
  exact walk_of tab_ok Try.func5 (rels_map_val [.slice A0 n0 cap0, .int .i64 a1]) h
end Go.Proofs.Ytiakdbcikmkomaa.morphOpenCloseCells
