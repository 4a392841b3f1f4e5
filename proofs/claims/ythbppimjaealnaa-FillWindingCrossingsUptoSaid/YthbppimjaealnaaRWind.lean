/-
  The reference's winding number.
-/
import Derived.Test.YthbppimjaealnaaWindLaw
import Derived.Test.YthbppimjaealnaaEw
namespace Go.Proofs.Ythbppimjaealnaa
open Go.RowKit
set_option linter.unusedVariables false
set_option linter.unusedSimpArgs false
set_option maxRecDepth 20000
def crW (ax ay bx by_ y : Int) : Int := if by_ < ay then (if by_ ≤ y ∧ y < ay then -1 else 0) else (if ay ≤ y ∧ y < by_ then 1 else 0)
def crN (ax ay bx by_ y : Int) : Int := if by_ < ay then (if by_ ≤ y ∧ y < ay then 2 * bx * (ay - by_) + (ax - bx) * (2 * y + 1 - 2 * by_) else 0) else (if ay ≤ y ∧ y < by_ then 2 * ax * (by_ - ay) + (bx - ax) * (2 * y + 1 - 2 * ay) else 0)
def crD (ax ay bx by_ y : Int) : Int := if by_ < ay then (if by_ ≤ y ∧ y < ay then ay - by_ else 1) else (if ay ≤ y ∧ y < by_ then by_ - ay else 1)
section
variable {ax ay bx by_ x y : Int}
theorem term_cr (ha : okXY ax ay = true) (hb : okXY bx by_ = true) : termW ax ay bx by_ x y = if ¬ crW ax ay bx by_ y = 0 ∧ crN ax ay bx by_ y ≤ (2 * x + 1) * crD ax ay bx by_ y then crW ax ay bx by_ y else 0 := by
  have hok := edgeOf_ok ha hb
  unfold termW crW crN crD
  unfold edgeOf at hok ⊢
  by_cases h : by_ < ay
  · simp only [if_pos h] at hok ⊢
    have hf := first_le (x := x) (y := y) (hok _ (List.mem_singleton.2 rfl))
    simp only [crossL, meetsB, List.append_nil, decide_eq_true_eq]
    by_cases hm : by_ ≤ y ∧ y < ay
    · simp only [if_pos hm]
      simp only [sumC, Int.add_zero]
      by_cases hle : firstE ⟨bx, by_, ay, ax - bx, ay - by_, -1⟩ y ≤ x
      · rw [if_pos hle, if_pos ⟨by omega, hf.1 hle⟩]
      · rw [if_neg hle, if_neg (fun hh => hle (hf.2 hh.2))]
    · simp only [if_neg hm]
      simp [sumC]
  · simp only [if_neg h] at hok ⊢
    by_cases h2 : ay < by_
    · simp only [if_pos h2] at hok ⊢
      have hf := first_le (x := x) (y := y) (hok _ (List.mem_singleton.2 rfl))
      simp only [crossL, meetsB, List.append_nil, decide_eq_true_eq]
      by_cases hm : ay ≤ y ∧ y < by_
      · simp only [if_pos hm]
        simp only [sumC, Int.add_zero]
        by_cases hle : firstE ⟨ax, ay, by_, bx - ax, by_ - ay, 1⟩ y ≤ x
        · rw [if_pos hle, if_pos ⟨by omega, hf.1 hle⟩]
        · rw [if_neg hle, if_neg (fun hh => hle (hf.2 hh.2))]
      · simp only [if_neg hm]
        simp [sumC]
    · have hm : ¬ (ay ≤ y ∧ y < by_) := by omega
      simp only [if_neg h2, if_neg hm]
      simp [crossL, sumC]
theorem cr_bd (ha : okXY ax ay = true) (hb : okXY bx by_ = true) (hy : -8192 ≤ y ∧ y ≤ 8191) : (-1 ≤ crW ax ay bx by_ y ∧ crW ax ay bx by_ y ≤ 1) ∧ (1 ≤ crD ax ay bx by_ y ∧ crD ax ay bx by_ y ≤ 65534) := by
  obtain ⟨a1, a2⟩ := okXY_of ha
  obtain ⟨b1, b2⟩ := okXY_of hb
  unfold crW crD
  split
  · split <;> omega
  · split <;> omega
set_option maxHeartbeats 4000000 in
theorem crossed_gives {G : Mem} (ha : okXY ax ay = true) (hb : okXY bx by_ = true) (hy : -8192 ≤ y ∧ y ≤ 8191) : Gives Try.prog 38 [.agg [.val (.int .i64 ax), .val (.int .i64 ay)], .agg [.val (.int .i64 bx), .val (.int .i64 by_)], .val (.int .i64 y)] G
    (.tup [.val (.int .i64 (crW ax ay bx by_ y)), .val (.int .i64 (crN ax ay bx by_ y)), .val (.int .i64 (crD ax ay bx by_ y))]) := by
  obtain ⟨a1, a2⟩ := okXY_of ha
  obtain ⟨b1, b2⟩ := okXY_of hb
  unfold crW crN crD
  refine Gives_of tab_ok Try.func38 ?_
  by_cases h : by_ < ay
  · rw [if_pos h, if_pos h, if_pos h]
    have e1 := absMulL (a := 2 * bx) (b := ay - by_) (A := 65534) (B := 65534) (by omega) (by omega)
    have e2 := absMulL (a := ax - bx) (b := 2 * y + 1 - 2 * by_) (A := 65534) (B := 131072) (by omega) (by omega)
    by_cases hm : by_ ≤ y ∧ y < ay
    · rw [if_pos hm, if_pos hm, if_pos hm]
      (repeat ((try (conv => whnf)); (first | (with_reducible refine condP_true ?_) | (with_reducible refine condP_false ?_) | (with_reducible refine condP_not ?_) | (with_reducible refine condP_and ?_) | ((with_reducible refine condP_dt ?_ ?_); (· omega)) | ((with_reducible refine condP_df ?_ ?_); (· omega)) | ((with_reducible refine condP_yes ?_ ?_); (· assumption)) | ((with_reducible refine condP_no ?_ ?_); (· assumption)) | ((with_reducible refine ArP_i64 ?_ ?_); (· omega)) | ((with_reducible refine mustP.mk ?_ ?_); (· first | omega | rfl | (dsimp only; omega))) | (with_reducible refine EqP_nil tab_ok ?_) | (with_reducible refine EqP_sli tab_ok ?_) | (with_reducible refine DrawP_auto tab_ok (by kernel_rfl) (by decide +kernel) ?_) | (with_reducible refine DrawP_auto2 tab_ok (by kernel_rfl) (by decide +kernel) ?_) | (with_reducible refine eq55 ?_) | (with_reducible refine eq70 ?_) | (with_reducible refine eq73 ?_) | (with_reducible refine eq79 ?_) | (with_reducible refine eq112 ?_) | (with_reducible refine eq118 ?_) | (with_reducible refine eq124 ?_) | (with_reducible refine eq139 ?_) | (with_reducible refine eq142 ?_))))
      exact ⟨rfl, rfl⟩
    · rw [if_neg hm, if_neg hm, if_neg hm]
      (repeat' ((try (conv => whnf)); (first | (with_reducible refine condP_true ?_) | (with_reducible refine condP_false ?_) | (with_reducible refine condP_not ?_) | (with_reducible refine condP_and ?_) | ((with_reducible refine condP_dt ?_ ?_); (· omega)) | ((with_reducible refine condP_df ?_ ?_); (· omega)) | ((with_reducible refine condP_yes ?_ ?_); (· assumption)) | ((with_reducible refine condP_no ?_ ?_); (· assumption)) | ((with_reducible refine ArP_i64 ?_ ?_); (· omega)) | ((with_reducible refine mustP.mk ?_ ?_); (· first | omega | rfl | (dsimp only; omega))) | (with_reducible refine EqP_nil tab_ok ?_) | (with_reducible refine EqP_sli tab_ok ?_) | (with_reducible refine DrawP_auto tab_ok (by kernel_rfl) (by decide +kernel) ?_) | (with_reducible refine DrawP_auto2 tab_ok (by kernel_rfl) (by decide +kernel) ?_) | (with_reducible refine eq55 ?_) | (with_reducible refine eq70 ?_) | (with_reducible refine eq73 ?_) | (with_reducible refine eq79 ?_) | (with_reducible refine eq112 ?_) | (with_reducible refine eq118 ?_) | (with_reducible refine eq124 ?_) | (with_reducible refine eq139 ?_) | (with_reducible refine eq142 ?_) | (with_reducible refine condP_dec (fun h0 => ?_) (fun h0 => ?_)))))
      all_goals first | exact ⟨rfl, rfl⟩ | (exfalso; omega)
  · rw [if_neg h, if_neg h, if_neg h]
    have e1 := absMulL (a := 2 * ax) (b := by_ - ay) (A := 65534) (B := 65534) (by omega) (by omega)
    have e2 := absMulL (a := bx - ax) (b := 2 * y + 1 - 2 * ay) (A := 65534) (B := 131072) (by omega) (by omega)
    by_cases hm : ay ≤ y ∧ y < by_
    · rw [if_pos hm, if_pos hm, if_pos hm]
      (repeat ((try (conv => whnf)); (first | (with_reducible refine condP_true ?_) | (with_reducible refine condP_false ?_) | (with_reducible refine condP_not ?_) | (with_reducible refine condP_and ?_) | ((with_reducible refine condP_dt ?_ ?_); (· omega)) | ((with_reducible refine condP_df ?_ ?_); (· omega)) | ((with_reducible refine condP_yes ?_ ?_); (· assumption)) | ((with_reducible refine condP_no ?_ ?_); (· assumption)) | ((with_reducible refine ArP_i64 ?_ ?_); (· omega)) | ((with_reducible refine mustP.mk ?_ ?_); (· first | omega | rfl | (dsimp only; omega))) | (with_reducible refine EqP_nil tab_ok ?_) | (with_reducible refine EqP_sli tab_ok ?_) | (with_reducible refine DrawP_auto tab_ok (by kernel_rfl) (by decide +kernel) ?_) | (with_reducible refine DrawP_auto2 tab_ok (by kernel_rfl) (by decide +kernel) ?_) | (with_reducible refine eq55 ?_) | (with_reducible refine eq70 ?_) | (with_reducible refine eq73 ?_) | (with_reducible refine eq79 ?_) | (with_reducible refine eq112 ?_) | (with_reducible refine eq118 ?_) | (with_reducible refine eq124 ?_) | (with_reducible refine eq139 ?_) | (with_reducible refine eq142 ?_))))
      exact ⟨rfl, rfl⟩
    · rw [if_neg hm, if_neg hm, if_neg hm]
      (repeat' ((try (conv => whnf)); (first | (with_reducible refine condP_true ?_) | (with_reducible refine condP_false ?_) | (with_reducible refine condP_not ?_) | (with_reducible refine condP_and ?_) | ((with_reducible refine condP_dt ?_ ?_); (· omega)) | ((with_reducible refine condP_df ?_ ?_); (· omega)) | ((with_reducible refine condP_yes ?_ ?_); (· assumption)) | ((with_reducible refine condP_no ?_ ?_); (· assumption)) | ((with_reducible refine ArP_i64 ?_ ?_); (· omega)) | ((with_reducible refine mustP.mk ?_ ?_); (· first | omega | rfl | (dsimp only; omega))) | (with_reducible refine EqP_nil tab_ok ?_) | (with_reducible refine EqP_sli tab_ok ?_) | (with_reducible refine DrawP_auto tab_ok (by kernel_rfl) (by decide +kernel) ?_) | (with_reducible refine DrawP_auto2 tab_ok (by kernel_rfl) (by decide +kernel) ?_) | (with_reducible refine eq55 ?_) | (with_reducible refine eq70 ?_) | (with_reducible refine eq73 ?_) | (with_reducible refine eq79 ?_) | (with_reducible refine eq112 ?_) | (with_reducible refine eq118 ?_) | (with_reducible refine eq124 ?_) | (with_reducible refine eq139 ?_) | (with_reducible refine eq142 ?_) | (with_reducible refine condP_dec (fun h0 => ?_) (fun h0 => ?_)))))
      all_goals first | exact ⟨rfl, rfl⟩ | (exfalso; omega)
end
section
variable {G : Mem} {A : Option Addr} {n c : Nat} {L : Nat → LineD} {x y : Int}
set_option maxHeartbeats 8000000 in
theorem RWinding_gives (h : LinesM G A n L) (hn : n ≤ maxLen) (hb : linesB L n = true) (hcnt : cntN L n ≤ 1048576) (hx : -8192 ≤ x ∧ x ≤ 8191) (hy : -8192 ≤ y ∧ y ≤ 8191) : Gives Try.prog 13 [.val (.slice A n c), .val (.int .i64 x), .val (.int .i64 y)] G (.val (.int .i64 (windN L x y n))) := by
  have hok := linesB_of hb
  have hn' : n ≤ 9223372036854775807 := by unfold maxLen at hn; omega
  refine Gives_of tab_ok Try.func13 ?_
  (repeat ((try (conv => whnf)); (first | (with_reducible refine condP_true ?_) | (with_reducible refine condP_false ?_) | (with_reducible refine condP_not ?_) | (with_reducible refine condP_and ?_) | ((with_reducible refine condP_dt ?_ ?_); (· omega)) | ((with_reducible refine condP_df ?_ ?_); (· omega)) | ((with_reducible refine condP_yes ?_ ?_); (· assumption)) | ((with_reducible refine condP_no ?_ ?_); (· assumption)) | ((with_reducible refine ArP_i64 ?_ ?_); (· omega)) | ((with_reducible refine mustP.mk ?_ ?_); (· first | omega | rfl | (dsimp only; omega))) | (with_reducible refine EqP_nil tab_ok ?_) | (with_reducible refine EqP_sli tab_ok ?_) | (with_reducible refine DrawP_auto tab_ok (by kernel_rfl) (by decide +kernel) ?_) | (with_reducible refine DrawP_auto2 tab_ok (by kernel_rfl) (by decide +kernel) ?_) | (with_reducible refine eq55 ?_) | (with_reducible refine eq70 ?_) | (with_reducible refine eq73 ?_) | (with_reducible refine eq79 ?_) | (with_reducible refine eq112 ?_) | (with_reducible refine eq118 ?_) | (with_reducible refine eq124 ?_) | (with_reducible refine eq139 ?_) | (with_reducible refine eq142 ?_))))
  conv => whnf
  refine LoopP_at tab_ok (fun k => k ≤ n) (fun (k : Nat) => [(16, .val (.int .i64 k)), (7, .val (.int .i64 (windN L x y k)))]) (fun k => []) (fun k => n - k) 0 (Nat.zero_le _) ?_ ?_
  · ((refine Le_head ?_); (conv => whnf); (refine Le_mk (by rfl) (by rfl) ?_ ?_); (· (repeat (first | (with_reducible exact frLe_nil) | (with_reducible refine frLe_any ?_) | (with_reducible refine frLe_val ?_) | ((with_reducible refine frLe_eq rfl ?_ ?_); (· rfl)) | ((with_reducible refine frLe_val' (int_eq ?_) ?_ ?_); (· omega); (· rfl)) | ((with_reducible refine frLe_val' (int_eq ?_) ?_ ?_); (· simp only [Int.natCast_add, Int.natCast_one, Int.natCast_ofNat] <;> omega); (· rfl)) | ((with_reducible refine frLe_val' (bool_eq ?_) ?_ ?_); (· first | assumption | (symm; assumption)); (· rfl))))))
    exact hpLe_nil
  · rintro k hk
    rcases Nat.lt_or_ge k n with h1 | h1
    · obtain ⟨p, rfl, c0⟩ := h.rows.cell (x := k) (j := 0) h1 rfl
      have hp := h.pts k h1
      have hcap := h.cap k h1
      unfold maxLen at hcap
      (repeat ((try (conv => whnf)); (first | (refine OldCells_one _ c0 ?_) | (with_reducible refine condP_true ?_) | (with_reducible refine condP_false ?_) | (with_reducible refine condP_not ?_) | (with_reducible refine condP_and ?_) | ((with_reducible refine condP_dt ?_ ?_); (· omega)) | ((with_reducible refine condP_df ?_ ?_); (· omega)) | ((with_reducible refine condP_yes ?_ ?_); (· assumption)) | ((with_reducible refine condP_no ?_ ?_); (· assumption)) | ((with_reducible refine ArP_i64 ?_ ?_); (· omega)) | ((with_reducible refine mustP.mk ?_ ?_); (· first | omega | rfl | (dsimp only; omega))) | (with_reducible refine EqP_nil tab_ok ?_) | (with_reducible refine EqP_sli tab_ok ?_) | (with_reducible refine DrawP_auto tab_ok (by kernel_rfl) (by decide +kernel) ?_) | (with_reducible refine DrawP_auto2 tab_ok (by kernel_rfl) (by decide +kernel) ?_) | (with_reducible refine eq55 ?_) | (with_reducible refine eq70 ?_) | (with_reducible refine eq73 ?_) | (with_reducible refine eq79 ?_) | (with_reducible refine eq112 ?_) | (with_reducible refine eq118 ?_) | (with_reducible refine eq124 ?_) | (with_reducible refine eq139 ?_) | (with_reducible refine eq142 ?_))))
      conv => whnf
      refine LoopP_at tab_ok (fun i => i ≤ (L k).n) (fun (i : Nat) => [(26, .val (.int .i64 i)), (7, .val (.int .i64 (windL (L k).X (L k).Y (L k).n x y (windN L x y k) i)))]) (fun i => []) (fun i => (L k).n - i) 0 (Nat.zero_le _) ?_ ?_
      · ((refine Le_head ?_); (conv => whnf); (refine Le_mk (by rfl) (by rfl) ?_ ?_); (· (repeat (first | (with_reducible exact frLe_nil) | (with_reducible refine frLe_any ?_) | (with_reducible refine frLe_val ?_) | ((with_reducible refine frLe_eq rfl ?_ ?_); (· rfl)) | ((with_reducible refine frLe_val' (int_eq ?_) ?_ ?_); (· omega); (· rfl)) | ((with_reducible refine frLe_val' (int_eq ?_) ?_ ?_); (· simp only [Int.natCast_add, Int.natCast_one, Int.natCast_ofNat] <;> omega); (· rfl)) | ((with_reducible refine frLe_val' (bool_eq ?_) ?_ ?_); (· first | assumption | (symm; assumption)); (· rfl))))))
        exact hpLe_nil
      · rintro i hi
        rcases Nat.lt_or_ge i (L k).n with h2 | h2
        · obtain ⟨p2, hp2, cb⟩ := hp.cells h2
          obtain ⟨p3, hp3, cc⟩ := hp.cells (nx_lt h2)
          rw [hp2] at hp3; cases hp3
          have hm := nx_mod h2
          have hm' : (Int.tmod ((i : Int) + 1) ((L k).n : Int)).toNat = nx (L k).n i := by rw [hm]; omega
          have hlt := nx_lt h2
          have k1 := hok k h1 i h2
          have k2 := hok k h1 _ hlt
          have hstep : windL (L k).X (L k).Y (L k).n x y (windN L x y k) (i + 1) = windL (L k).X (L k).Y (L k).n x y (windN L x y k) i + termW ((L k).X i) ((L k).Y i) ((L k).X (nx (L k).n i)) ((L k).Y (nx (L k).n i)) x y := rfl
          have hbd := windL_bd (x := x) (y := y) hok h1 hi
          rw [term_cr k1 k2] at hstep
          have hcb := cr_bd (y := y) k1 k2 hy
          have hcg := crossed_gives (G := G) (y := y) k1 k2 hy
          rw [← hm'] at cc hstep hcb hcg
          rw [hp2]
          generalize hs' : windL (L k).X (L k).Y (L k).n x y (windN L x y k) (i + 1) = s' at *
          generalize windL (L k).X (L k).Y (L k).n x y (windN L x y k) i = s at *
          generalize crW _ _ _ _ y = wy at *
          generalize crN _ _ _ _ y = nu at *
          generalize crD _ _ _ _ y = de at *
          obtain ⟨c1, c2⟩ := hcb
          have hpr := absMulL (a := 2 * x + 1) (b := de) (A := 16385) (B := 65534) (by omega) (by omega)
          clear hok hp h k1 k2
          by_cases hw : wy = 0
          · rw [if_neg (fun hh => hh.1 hw), Int.add_zero] at hstep
            (repeat ((try (conv => whnf)); (first | (refine cb _ ?_) | (refine cc _ ?_) | ((with_reducible refine mustP.mk ?_ ?_); (· rw [hm]; omega)) | (with_reducible refine condP_true ?_) | (with_reducible refine condP_false ?_) | (with_reducible refine condP_not ?_) | (with_reducible refine condP_and ?_) | ((with_reducible refine condP_dt ?_ ?_); (· omega)) | ((with_reducible refine condP_df ?_ ?_); (· omega)) | ((with_reducible refine condP_yes ?_ ?_); (· assumption)) | ((with_reducible refine condP_no ?_ ?_); (· assumption)) | ((with_reducible refine ArP_i64 ?_ ?_); (· omega)) | ((with_reducible refine mustP.mk ?_ ?_); (· first | omega | rfl | (dsimp only; omega))) | (with_reducible refine EqP_nil tab_ok ?_) | (with_reducible refine EqP_sli tab_ok ?_) | (with_reducible refine DrawP_auto tab_ok (by kernel_rfl) (by decide +kernel) ?_) | (with_reducible refine DrawP_auto2 tab_ok (by kernel_rfl) (by decide +kernel) ?_) | (with_reducible refine eq55 ?_) | (with_reducible refine eq70 ?_) | (with_reducible refine eq73 ?_) | (with_reducible refine eq79 ?_) | (with_reducible refine eq112 ?_) | (with_reducible refine eq118 ?_) | (with_reducible refine eq124 ?_) | (with_reducible refine eq139 ?_) | (with_reducible refine eq142 ?_) | (with_reducible refine CallP_gives (fun vs w => by kernel_rfl) (by kernel_rfl) (hcg) ?_) | (with_reducible refine RCallP_gives (fun vs w => by kernel_rfl) (by kernel_rfl) (hcg) ?_))))
            refine ⟨i + 1, by omega, by omega, ?_⟩
            rw [hs', hstep]
            ((refine Le_head ?_); (conv => whnf); (refine Le_mk (by rfl) (by rfl) ?_ ?_); (· (repeat (first | (with_reducible exact frLe_nil) | (with_reducible refine frLe_any ?_) | (with_reducible refine frLe_val ?_) | ((with_reducible refine frLe_eq rfl ?_ ?_); (· rfl)) | ((with_reducible refine frLe_val' (int_eq ?_) ?_ ?_); (· omega); (· rfl)) | ((with_reducible refine frLe_val' (int_eq ?_) ?_ ?_); (· simp only [Int.natCast_add, Int.natCast_one, Int.natCast_ofNat] <;> omega); (· rfl)) | ((with_reducible refine frLe_val' (bool_eq ?_) ?_ ?_); (· first | assumption | (symm; assumption)); (· rfl))))))
            exact hpLe_nil
          · by_cases hle : nu ≤ (2 * x + 1) * de
            · rw [if_pos ⟨hw, hle⟩] at hstep
              (repeat ((try (conv => whnf)); (first | (refine cb _ ?_) | (refine cc _ ?_) | ((with_reducible refine mustP.mk ?_ ?_); (· rw [hm]; omega)) | (with_reducible refine condP_true ?_) | (with_reducible refine condP_false ?_) | (with_reducible refine condP_not ?_) | (with_reducible refine condP_and ?_) | ((with_reducible refine condP_dt ?_ ?_); (· omega)) | ((with_reducible refine condP_df ?_ ?_); (· omega)) | ((with_reducible refine condP_yes ?_ ?_); (· assumption)) | ((with_reducible refine condP_no ?_ ?_); (· assumption)) | ((with_reducible refine ArP_i64 ?_ ?_); (· omega)) | ((with_reducible refine mustP.mk ?_ ?_); (· first | omega | rfl | (dsimp only; omega))) | (with_reducible refine EqP_nil tab_ok ?_) | (with_reducible refine EqP_sli tab_ok ?_) | (with_reducible refine DrawP_auto tab_ok (by kernel_rfl) (by decide +kernel) ?_) | (with_reducible refine DrawP_auto2 tab_ok (by kernel_rfl) (by decide +kernel) ?_) | (with_reducible refine eq55 ?_) | (with_reducible refine eq70 ?_) | (with_reducible refine eq73 ?_) | (with_reducible refine eq79 ?_) | (with_reducible refine eq112 ?_) | (with_reducible refine eq118 ?_) | (with_reducible refine eq124 ?_) | (with_reducible refine eq139 ?_) | (with_reducible refine eq142 ?_) | (with_reducible refine CallP_gives (fun vs w => by kernel_rfl) (by kernel_rfl) (hcg) ?_) | (with_reducible refine RCallP_gives (fun vs w => by kernel_rfl) (by kernel_rfl) (hcg) ?_))))
              refine ⟨i + 1, by omega, by omega, ?_⟩
              rw [hs', hstep]
              ((refine Le_head ?_); (conv => whnf); (refine Le_mk (by rfl) (by rfl) ?_ ?_); (· (repeat (first | (with_reducible exact frLe_nil) | (with_reducible refine frLe_any ?_) | (with_reducible refine frLe_val ?_) | ((with_reducible refine frLe_eq rfl ?_ ?_); (· rfl)) | ((with_reducible refine frLe_val' (int_eq ?_) ?_ ?_); (· omega); (· rfl)) | ((with_reducible refine frLe_val' (int_eq ?_) ?_ ?_); (· simp only [Int.natCast_add, Int.natCast_one, Int.natCast_ofNat] <;> omega); (· rfl)) | ((with_reducible refine frLe_val' (bool_eq ?_) ?_ ?_); (· first | assumption | (symm; assumption)); (· rfl))))))
              exact hpLe_nil
            · rw [if_neg (fun hh => hle hh.2), Int.add_zero] at hstep
              (repeat ((try (conv => whnf)); (first | (refine cb _ ?_) | (refine cc _ ?_) | ((with_reducible refine mustP.mk ?_ ?_); (· rw [hm]; omega)) | (with_reducible refine condP_true ?_) | (with_reducible refine condP_false ?_) | (with_reducible refine condP_not ?_) | (with_reducible refine condP_and ?_) | ((with_reducible refine condP_dt ?_ ?_); (· omega)) | ((with_reducible refine condP_df ?_ ?_); (· omega)) | ((with_reducible refine condP_yes ?_ ?_); (· assumption)) | ((with_reducible refine condP_no ?_ ?_); (· assumption)) | ((with_reducible refine ArP_i64 ?_ ?_); (· omega)) | ((with_reducible refine mustP.mk ?_ ?_); (· first | omega | rfl | (dsimp only; omega))) | (with_reducible refine EqP_nil tab_ok ?_) | (with_reducible refine EqP_sli tab_ok ?_) | (with_reducible refine DrawP_auto tab_ok (by kernel_rfl) (by decide +kernel) ?_) | (with_reducible refine DrawP_auto2 tab_ok (by kernel_rfl) (by decide +kernel) ?_) | (with_reducible refine eq55 ?_) | (with_reducible refine eq70 ?_) | (with_reducible refine eq73 ?_) | (with_reducible refine eq79 ?_) | (with_reducible refine eq112 ?_) | (with_reducible refine eq118 ?_) | (with_reducible refine eq124 ?_) | (with_reducible refine eq139 ?_) | (with_reducible refine eq142 ?_) | (with_reducible refine CallP_gives (fun vs w => by kernel_rfl) (by kernel_rfl) (hcg) ?_) | (with_reducible refine RCallP_gives (fun vs w => by kernel_rfl) (by kernel_rfl) (hcg) ?_))))
              refine ⟨i + 1, by omega, by omega, ?_⟩
              rw [hs', hstep]
              ((refine Le_head ?_); (conv => whnf); (refine Le_mk (by rfl) (by rfl) ?_ ?_); (· (repeat (first | (with_reducible exact frLe_nil) | (with_reducible refine frLe_any ?_) | (with_reducible refine frLe_val ?_) | ((with_reducible refine frLe_eq rfl ?_ ?_); (· rfl)) | ((with_reducible refine frLe_val' (int_eq ?_) ?_ ?_); (· omega); (· rfl)) | ((with_reducible refine frLe_val' (int_eq ?_) ?_ ?_); (· simp only [Int.natCast_add, Int.natCast_one, Int.natCast_ofNat] <;> omega); (· rfl)) | ((with_reducible refine frLe_val' (bool_eq ?_) ?_ ?_); (· first | assumption | (symm; assumption)); (· rfl))))))
              exact hpLe_nil
        · obtain rfl : i = (L k).n := by omega
          (repeat ((try (conv => whnf)); (first | (with_reducible refine condP_true ?_) | (with_reducible refine condP_false ?_) | (with_reducible refine condP_not ?_) | (with_reducible refine condP_and ?_) | ((with_reducible refine condP_dt ?_ ?_); (· omega)) | ((with_reducible refine condP_df ?_ ?_); (· omega)) | ((with_reducible refine condP_yes ?_ ?_); (· assumption)) | ((with_reducible refine condP_no ?_ ?_); (· assumption)) | ((with_reducible refine ArP_i64 ?_ ?_); (· omega)) | ((with_reducible refine mustP.mk ?_ ?_); (· first | omega | rfl | (dsimp only; omega))) | (with_reducible refine EqP_nil tab_ok ?_) | (with_reducible refine EqP_sli tab_ok ?_) | (with_reducible refine DrawP_auto tab_ok (by kernel_rfl) (by decide +kernel) ?_) | (with_reducible refine DrawP_auto2 tab_ok (by kernel_rfl) (by decide +kernel) ?_) | (with_reducible refine eq55 ?_) | (with_reducible refine eq70 ?_) | (with_reducible refine eq73 ?_) | (with_reducible refine eq79 ?_) | (with_reducible refine eq112 ?_) | (with_reducible refine eq118 ?_) | (with_reducible refine eq124 ?_) | (with_reducible refine eq139 ?_) | (with_reducible refine eq142 ?_))))
          refine ⟨k + 1, by omega, by omega, ?_⟩
          ((refine Le_head ?_); (conv => whnf); (refine Le_mk (by rfl) (by rfl) ?_ ?_); (· (repeat (first | (with_reducible exact frLe_nil) | (with_reducible refine frLe_any ?_) | (with_reducible refine frLe_val ?_) | ((with_reducible refine frLe_eq rfl ?_ ?_); (· rfl)) | ((with_reducible refine frLe_val' (int_eq ?_) ?_ ?_); (· omega); (· rfl)) | ((with_reducible refine frLe_val' (int_eq ?_) ?_ ?_); (· simp only [Int.natCast_add, Int.natCast_one, Int.natCast_ofNat] <;> omega); (· rfl)) | ((with_reducible refine frLe_val' (bool_eq ?_) ?_ ?_); (· first | assumption | (symm; assumption)); (· rfl))))))
          exact hpLe_nil
    · obtain rfl : k = n := by omega
      (repeat ((try (conv => whnf)); (first | (with_reducible refine condP_true ?_) | (with_reducible refine condP_false ?_) | (with_reducible refine condP_not ?_) | (with_reducible refine condP_and ?_) | ((with_reducible refine condP_dt ?_ ?_); (· omega)) | ((with_reducible refine condP_df ?_ ?_); (· omega)) | ((with_reducible refine condP_yes ?_ ?_); (· assumption)) | ((with_reducible refine condP_no ?_ ?_); (· assumption)) | ((with_reducible refine ArP_i64 ?_ ?_); (· omega)) | ((with_reducible refine mustP.mk ?_ ?_); (· first | omega | rfl | (dsimp only; omega))) | (with_reducible refine EqP_nil tab_ok ?_) | (with_reducible refine EqP_sli tab_ok ?_) | (with_reducible refine DrawP_auto tab_ok (by kernel_rfl) (by decide +kernel) ?_) | (with_reducible refine DrawP_auto2 tab_ok (by kernel_rfl) (by decide +kernel) ?_) | (with_reducible refine eq55 ?_) | (with_reducible refine eq70 ?_) | (with_reducible refine eq73 ?_) | (with_reducible refine eq79 ?_) | (with_reducible refine eq112 ?_) | (with_reducible refine eq118 ?_) | (with_reducible refine eq124 ?_) | (with_reducible refine eq139 ?_) | (with_reducible refine eq142 ?_))))
      exact ⟨rfl, rfl⟩
end
end Go.Proofs.Ythbppimjaealnaa
