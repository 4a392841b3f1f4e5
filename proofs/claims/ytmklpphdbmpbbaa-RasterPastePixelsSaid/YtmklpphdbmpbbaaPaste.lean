/-
  Grid.Paste, by reckoning.
-/
import Derived.Test.YtmklpphdbmpbbaaGridE
import Derived.Test.YtmklpphdbmpbbaaMath
namespace Go.Proofs.Ytmklpphdbmpbbaa
open Go.RowKit
set_option linter.unusedVariables false
set_option maxRecDepth 20000
theorem In_gives (x l h : Int) (G : Mem) : Gives Try.prog 20 [.val (.int .i64 x), .val (.int .i64 l), .val (.int .i64 h)] G (.val (.bool (inB x l h))) :=
  Gives_of tab_ok Try.func20 (by
    by_cases h1 : l ≤ x
    · by_cases h2 : x ≤ h
      · rw [inB_yes ⟨h1, h2⟩]
        (repeat ((try (conv => whnf)); (first | (with_reducible refine condP_true ?_) | (with_reducible refine condP_false ?_) | (with_reducible refine condP_not ?_) | (with_reducible refine condP_and ?_) | ((with_reducible refine condP_dt ?_ ?_); (· omega)) | ((with_reducible refine condP_df ?_ ?_); (· omega)) | ((with_reducible refine condP_yes ?_ ?_); (· assumption)) | ((with_reducible refine condP_no ?_ ?_); (· assumption)) | ((with_reducible refine ArP_i64 ?_ ?_); (· omega)) | ((with_reducible refine mustP.mk ?_ ?_); (· first | omega | rfl | (dsimp only; omega))) | (with_reducible refine EqP_nil tab_ok ?_) | (with_reducible refine EqP_sli tab_ok ?_) | (with_reducible refine DrawP_auto tab_ok (by kernel_rfl) (by decide +kernel) ?_) | (with_reducible refine DrawP_auto2 tab_ok (by kernel_rfl) (by decide +kernel) ?_) | (with_reducible refine eq28 ?_) | (with_reducible refine eq33 ?_) | (with_reducible refine eq95 ?_) | (with_reducible refine eq115 ?_))))
        exact ⟨by simp [h2], rfl⟩
      · rw [inB_no (by omega)]
        (repeat ((try (conv => whnf)); (first | (with_reducible refine condP_true ?_) | (with_reducible refine condP_false ?_) | (with_reducible refine condP_not ?_) | (with_reducible refine condP_and ?_) | ((with_reducible refine condP_dt ?_ ?_); (· omega)) | ((with_reducible refine condP_df ?_ ?_); (· omega)) | ((with_reducible refine condP_yes ?_ ?_); (· assumption)) | ((with_reducible refine condP_no ?_ ?_); (· assumption)) | ((with_reducible refine ArP_i64 ?_ ?_); (· omega)) | ((with_reducible refine mustP.mk ?_ ?_); (· first | omega | rfl | (dsimp only; omega))) | (with_reducible refine EqP_nil tab_ok ?_) | (with_reducible refine EqP_sli tab_ok ?_) | (with_reducible refine DrawP_auto tab_ok (by kernel_rfl) (by decide +kernel) ?_) | (with_reducible refine DrawP_auto2 tab_ok (by kernel_rfl) (by decide +kernel) ?_) | (with_reducible refine eq28 ?_) | (with_reducible refine eq33 ?_) | (with_reducible refine eq95 ?_) | (with_reducible refine eq115 ?_))))
        exact ⟨by simp [h2], rfl⟩
    · rw [inB_no (by omega)]
      (repeat ((try (conv => whnf)); (first | (with_reducible refine condP_true ?_) | (with_reducible refine condP_false ?_) | (with_reducible refine condP_not ?_) | (with_reducible refine condP_and ?_) | ((with_reducible refine condP_dt ?_ ?_); (· omega)) | ((with_reducible refine condP_df ?_ ?_); (· omega)) | ((with_reducible refine condP_yes ?_ ?_); (· assumption)) | ((with_reducible refine condP_no ?_ ?_); (· assumption)) | ((with_reducible refine ArP_i64 ?_ ?_); (· omega)) | ((with_reducible refine mustP.mk ?_ ?_); (· first | omega | rfl | (dsimp only; omega))) | (with_reducible refine EqP_nil tab_ok ?_) | (with_reducible refine EqP_sli tab_ok ?_) | (with_reducible refine DrawP_auto tab_ok (by kernel_rfl) (by decide +kernel) ?_) | (with_reducible refine DrawP_auto2 tab_ok (by kernel_rfl) (by decide +kernel) ?_) | (with_reducible refine eq28 ?_) | (with_reducible refine eq33 ?_) | (with_reducible refine eq95 ?_) | (with_reducible refine eq115 ?_))))
      exact ⟨rfl, rfl⟩)
abbrev gridA (W H : Nat) (A : Option Addr) (N c : Nat) : AV := .agg [.val (.int .i64 W), .val (.int .i64 H), .val (.slice A N c)]
theorem GCheck_gives {W H c : Nat} {A : Option Addr} {G : Mem} (hW : 1 ≤ W ∧ W ≤ 8) (hH : 1 ≤ H ∧ H ≤ 8) {N : Nat} (hN : W * H = N) : Gives Try.prog 31 [gridA W H A N c] G (.val (.int .i64 0)) := by
  have hp : ((W : Int) * (H : Int)) = (N : Int) := by rw [← hN]; push_cast; rfl
  have hb : W * H ≤ 64 := Nat.le_trans (Nat.mul_le_mul hW.2 hH.2) (by decide)
  refine Gives_of tab_ok Try.func31 ?_
  (repeat ((try (conv => whnf)); (first | (with_reducible refine condP_true ?_) | (with_reducible refine condP_false ?_) | (with_reducible refine condP_not ?_) | (with_reducible refine condP_and ?_) | ((with_reducible refine condP_dt ?_ ?_); (· omega)) | ((with_reducible refine condP_df ?_ ?_); (· omega)) | ((with_reducible refine condP_yes ?_ ?_); (· assumption)) | ((with_reducible refine condP_no ?_ ?_); (· assumption)) | ((with_reducible refine ArP_i64 ?_ ?_); (· omega)) | ((with_reducible refine mustP.mk ?_ ?_); (· first | omega | rfl | (dsimp only; omega))) | (with_reducible refine EqP_nil tab_ok ?_) | (with_reducible refine EqP_sli tab_ok ?_) | (with_reducible refine DrawP_auto tab_ok (by kernel_rfl) (by decide +kernel) ?_) | (with_reducible refine DrawP_auto2 tab_ok (by kernel_rfl) (by decide +kernel) ?_) | (with_reducible refine eq28 ?_) | (with_reducible refine eq33 ?_) | (with_reducible refine eq95 ?_) | (with_reducible refine eq115 ?_) | (with_reducible refine CallP_enter tab_ok Try.func49 (fun vs w => by kernel_rfl) (by rfl) ?_))))
  exact ⟨rfl, rfl⟩
theorem Paste_out {W H V U N M c d : Nat} {A B : Option Addr} {G : Mem} {x y : Int} (hW : 1 ≤ W ∧ W ≤ 8) (hH : 1 ≤ H ∧ H ≤ 8) (hN : W * H = N) (hV : 1 ≤ V ∧ V ≤ 8) (hU : 1 ≤ U ∧ U ≤ 8) (hM : V * U = M) (h : x < -1024 ∨ 1024 < x ∨ y < -1024 ∨ 1024 < y) :
    Gives Try.prog 19 [gridA W H A N c, .val (.int .i64 x), .val (.int .i64 y), gridA V U B M d] G (.tup [.agg [.val (.int .i64 0), .val (.int .i64 0), .val (.slice none 0 0)], .val (.int .i64 3)]) := by
  have h1 := GCheck_gives (A := A) (c := c) (G := G) hW hH hN
  have h2 := GCheck_gives (A := B) (c := d) (G := G) hV hU hM
  refine Gives_of tab_ok Try.func19 ?_
  rcases (show x < -1024 ∨ -1024 ≤ x by omega) with k1 | k1
  · (repeat ((try (conv => whnf)); (first | (with_reducible refine condP_true ?_) | (with_reducible refine condP_false ?_) | (with_reducible refine condP_not ?_) | (with_reducible refine condP_and ?_) | ((with_reducible refine condP_dt ?_ ?_); (· omega)) | ((with_reducible refine condP_df ?_ ?_); (· omega)) | ((with_reducible refine condP_yes ?_ ?_); (· assumption)) | ((with_reducible refine condP_no ?_ ?_); (· assumption)) | ((with_reducible refine ArP_i64 ?_ ?_); (· omega)) | ((with_reducible refine mustP.mk ?_ ?_); (· first | omega | rfl | (dsimp only; omega))) | (with_reducible refine EqP_nil tab_ok ?_) | (with_reducible refine EqP_sli tab_ok ?_) | (with_reducible refine DrawP_auto tab_ok (by kernel_rfl) (by decide +kernel) ?_) | (with_reducible refine DrawP_auto2 tab_ok (by kernel_rfl) (by decide +kernel) ?_) | (with_reducible refine eq28 ?_) | (with_reducible refine eq33 ?_) | (with_reducible refine eq95 ?_) | (with_reducible refine eq115 ?_) | (with_reducible refine CallP_gives (fun vs w => by kernel_rfl) (by kernel_rfl) (h1) ?_) | (with_reducible refine RCallP_gives (fun vs w => by kernel_rfl) (by kernel_rfl) (h1) ?_) | (with_reducible refine CallP_gives (fun vs w => by kernel_rfl) (by kernel_rfl) (h2) ?_) | (with_reducible refine RCallP_gives (fun vs w => by kernel_rfl) (by kernel_rfl) (h2) ?_))))
    exact ⟨rfl, rfl⟩
  rcases (show 1024 < x ∨ x ≤ 1024 by omega) with k2 | k2
  · (repeat ((try (conv => whnf)); (first | (with_reducible refine condP_true ?_) | (with_reducible refine condP_false ?_) | (with_reducible refine condP_not ?_) | (with_reducible refine condP_and ?_) | ((with_reducible refine condP_dt ?_ ?_); (· omega)) | ((with_reducible refine condP_df ?_ ?_); (· omega)) | ((with_reducible refine condP_yes ?_ ?_); (· assumption)) | ((with_reducible refine condP_no ?_ ?_); (· assumption)) | ((with_reducible refine ArP_i64 ?_ ?_); (· omega)) | ((with_reducible refine mustP.mk ?_ ?_); (· first | omega | rfl | (dsimp only; omega))) | (with_reducible refine EqP_nil tab_ok ?_) | (with_reducible refine EqP_sli tab_ok ?_) | (with_reducible refine DrawP_auto tab_ok (by kernel_rfl) (by decide +kernel) ?_) | (with_reducible refine DrawP_auto2 tab_ok (by kernel_rfl) (by decide +kernel) ?_) | (with_reducible refine eq28 ?_) | (with_reducible refine eq33 ?_) | (with_reducible refine eq95 ?_) | (with_reducible refine eq115 ?_) | (with_reducible refine CallP_gives (fun vs w => by kernel_rfl) (by kernel_rfl) (h1) ?_) | (with_reducible refine RCallP_gives (fun vs w => by kernel_rfl) (by kernel_rfl) (h1) ?_) | (with_reducible refine CallP_gives (fun vs w => by kernel_rfl) (by kernel_rfl) (h2) ?_) | (with_reducible refine RCallP_gives (fun vs w => by kernel_rfl) (by kernel_rfl) (h2) ?_))))
    exact ⟨rfl, rfl⟩
  rcases (show y < -1024 ∨ -1024 ≤ y by omega) with k3 | k3
  · (repeat ((try (conv => whnf)); (first | (with_reducible refine condP_true ?_) | (with_reducible refine condP_false ?_) | (with_reducible refine condP_not ?_) | (with_reducible refine condP_and ?_) | ((with_reducible refine condP_dt ?_ ?_); (· omega)) | ((with_reducible refine condP_df ?_ ?_); (· omega)) | ((with_reducible refine condP_yes ?_ ?_); (· assumption)) | ((with_reducible refine condP_no ?_ ?_); (· assumption)) | ((with_reducible refine ArP_i64 ?_ ?_); (· omega)) | ((with_reducible refine mustP.mk ?_ ?_); (· first | omega | rfl | (dsimp only; omega))) | (with_reducible refine EqP_nil tab_ok ?_) | (with_reducible refine EqP_sli tab_ok ?_) | (with_reducible refine DrawP_auto tab_ok (by kernel_rfl) (by decide +kernel) ?_) | (with_reducible refine DrawP_auto2 tab_ok (by kernel_rfl) (by decide +kernel) ?_) | (with_reducible refine eq28 ?_) | (with_reducible refine eq33 ?_) | (with_reducible refine eq95 ?_) | (with_reducible refine eq115 ?_) | (with_reducible refine CallP_gives (fun vs w => by kernel_rfl) (by kernel_rfl) (h1) ?_) | (with_reducible refine RCallP_gives (fun vs w => by kernel_rfl) (by kernel_rfl) (h1) ?_) | (with_reducible refine CallP_gives (fun vs w => by kernel_rfl) (by kernel_rfl) (h2) ?_) | (with_reducible refine RCallP_gives (fun vs w => by kernel_rfl) (by kernel_rfl) (h2) ?_))))
    exact ⟨rfl, rfl⟩
  · have k4 : 1024 < y := by omega
    (repeat ((try (conv => whnf)); (first | (with_reducible refine condP_true ?_) | (with_reducible refine condP_false ?_) | (with_reducible refine condP_not ?_) | (with_reducible refine condP_and ?_) | ((with_reducible refine condP_dt ?_ ?_); (· omega)) | ((with_reducible refine condP_df ?_ ?_); (· omega)) | ((with_reducible refine condP_yes ?_ ?_); (· assumption)) | ((with_reducible refine condP_no ?_ ?_); (· assumption)) | ((with_reducible refine ArP_i64 ?_ ?_); (· omega)) | ((with_reducible refine mustP.mk ?_ ?_); (· first | omega | rfl | (dsimp only; omega))) | (with_reducible refine EqP_nil tab_ok ?_) | (with_reducible refine EqP_sli tab_ok ?_) | (with_reducible refine DrawP_auto tab_ok (by kernel_rfl) (by decide +kernel) ?_) | (with_reducible refine DrawP_auto2 tab_ok (by kernel_rfl) (by decide +kernel) ?_) | (with_reducible refine eq28 ?_) | (with_reducible refine eq33 ?_) | (with_reducible refine eq95 ?_) | (with_reducible refine eq115 ?_) | (with_reducible refine CallP_gives (fun vs w => by kernel_rfl) (by kernel_rfl) (h1) ?_) | (with_reducible refine RCallP_gives (fun vs w => by kernel_rfl) (by kernel_rfl) (h1) ?_) | (with_reducible refine CallP_gives (fun vs w => by kernel_rfl) (by kernel_rfl) (h2) ?_) | (with_reducible refine RCallP_gives (fun vs w => by kernel_rfl) (by kernel_rfl) (h2) ?_))))
    exact ⟨rfl, rfl⟩
/-- A pixel behind the paste, of which the rows less than j are done. -/
def pasteJ (f q : Nat → Int) (W V : Nat) (x y : Int) (j : Nat) (i : Nat) : Int :=
  if 0 ≤ ((i % W : Nat) : Int) - x ∧ ((i % W : Nat) : Int) - x ≤ (V : Int) - 1 ∧ 0 ≤ ((i / W : Nat) : Int) - y ∧ ((i / W : Nat) : Int) - y < j then q ((((i / W : Nat) : Int) - y).toNat * V + (((i % W : Nat) : Int) - x).toNat) else f i
theorem pix_ext {f g : Nat → Int} {n : Nat} (h : ∀ i, i < n → f i = g i) : pixL f n = pixL g n := by
  unfold pixL
  exact List.map_congr_left fun i hi => by rw [h i (List.mem_range.1 hi)]
theorem paste_0 {f q : Nat → Int} {W V N j0 : Nat} {x y : Int} (h : (j0 : Int) = max 0 (0 - y)) : pixL f N = pixL (pasteJ f q W V x y j0) N := by
  refine pix_ext fun i hi => ?_
  unfold pasteJ
  have := Int.natCast_nonneg (i / W)
  rw [if_neg (by omega)]
theorem paste_none {f q : Nat → Int} {W V N j : Nat} {x y : Int} (hV : 0 ≤ (V : Int)) (hW : 1 ≤ W) (h : ¬ max 0 (0 - x) < min (V : Int) (W - x)) : pixL (pasteJ f q W V x y j) N = pixL (pasteJ f q W V x y (j + 1)) N := by
  refine pix_ext fun i hi => ?_
  have := Nat.mod_lt i (show 0 < W by omega)
  unfold pasteJ
  rw [if_neg (by omega), if_neg (by omega)]
theorem paste_end {f q : Nat → Int} {W H V U N j j0 : Nat} {x y : Int} (hW : 1 ≤ W) (hN : W * H = N) (hj0 : (j0 : Int) = max 0 (0 - y)) (h : j = U ∨ (U ≤ j ∧ j = j0) ∨ (H : Int) ≤ y + j ∧ j ≤ U) : pixL (pasteJ f q W V x y j) N = pixL (pasteJ f q W V x y U) N := by
  refine pix_ext fun i hi => ?_
  have hrow : i / W < H := Nat.div_lt_of_lt_mul (by omega)
  unfold pasteJ
  generalize i / W = row at *
  generalize i % W = col at *
  rcases h with rfl | ⟨h1, rfl⟩ | ⟨h1, h2⟩
  · rfl
  · rw [if_neg (by omega), if_neg (by omega)]
  · by_cases hc : 0 ≤ (col : Int) - x ∧ (col : Int) - x ≤ (V : Int) - 1 ∧ 0 ≤ (row : Int) - y ∧ (row : Int) - y < j
    · rw [if_pos hc, if_pos (by omega)]
    · rw [if_neg hc, if_neg (by omega)]
theorem splice_pix (f g : Nat → Int) {N a n : Nat} (h : a + n ≤ N) : (pixL f N).take a ++ pixL g n ++ (pixL f N).drop (a + n) = pixL (fun i => if a ≤ i ∧ i < a + n then g (i - a) else f i) N := by
  apply List.ext_getElem?
  intro i
  by_cases h1 : i < N
  · rw [pixL_get h1]
    by_cases h2 : i < a
    · rw [if_neg (by omega), List.append_assoc, List.getElem?_append_left (by simp [pixL_length]; omega), List.getElem?_take, if_pos h2, pixL_get h1]
    · by_cases h3 : i < a + n
      · rw [if_pos (by omega), List.getElem?_append_left (by simp [pixL_length]; omega), List.getElem?_append_right (by simp [pixL_length]; omega)]
        rw [show i - (List.take a (pixL f N)).length = i - a by simp [pixL_length]; omega, pixL_get (by omega)]
      · rw [if_neg (by omega), List.getElem?_append_right (by simp [pixL_length]; omega), List.getElem?_drop]
        rw [show a + n + (i - (List.take a (pixL f N) ++ pixL g n).length) = i by simp [pixL_length]; omega, pixL_get h1]
  · rw [List.getElem?_eq_none (by simp [pixL_length]; omega), List.getElem?_eq_none (by simp [pixL_length]; omega)]
theorem paste_step {f q : Nat → Int} {W V N j r o s fr tt a n : Nat} {x y : Int} (hW : 1 ≤ W) (hr : (r : Int) = y + j) (ho : r * W = o) (hs : j * V = s) (hfr : max 0 (0 - x) = (fr : Int)) (htt : min (V : Int) (W - x) = (tt : Int)) (hft : fr < tt) (ha : (a : Int) = o + (x + fr)) (hn : n = tt - fr) (hN : a + n ≤ N) :
    (pixL (pasteJ f q W V x y j) N).take a ++ pixL (fun i => q (s + fr + i)) n ++ (pixL (pasteJ f q W V x y j) N).drop (a + n) = pixL (pasteJ f q W V x y (j + 1)) N := by
  rw [splice_pix _ _ hN]
  refine pix_ext fun i hi => ?_
  have hcol := Nat.mod_lt i (show 0 < W by omega)
  have hdm : (i / W) * W + i % W = i := by rw [Nat.mul_comm]; exact Nat.div_add_mod i W
  unfold pasteJ
  generalize hrw : i / W = row at *
  generalize i % W = col at *
  by_cases h1 : row = r
  · subst h1
    rw [ho] at hdm
    by_cases h2 : a ≤ i ∧ i < a + n
    · rw [if_pos h2, if_pos (by omega)]
      rw [show ((row : Int) - y).toNat = j by omega, hs]
      congr 1
      omega
    · rw [if_neg h2, if_neg (by omega), if_neg (by omega)]
  · have h3 : ¬ (a ≤ i ∧ i < a + n) := by
      rintro ⟨h4, h5⟩
      rcases Nat.lt_or_ge row r with h6 | h6
      · have := Nat.mul_le_mul_right W (show row + 1 ≤ r by omega)
        rw [Nat.succ_mul] at this
        omega
      · have := Nat.mul_le_mul_right W (show r + 1 ≤ row by omega)
        rw [Nat.succ_mul] at this
        omega
    rw [if_neg h3]
    by_cases hc : 0 ≤ (col : Int) - x ∧ (col : Int) - x ≤ (V : Int) - 1 ∧ 0 ≤ (row : Int) - y ∧ (row : Int) - y < j
    · rw [if_pos hc, if_pos (by omega)]
    · rw [if_neg hc, if_neg (by omega)]
abbrev pasteW (W H : Nat) (a : AV) : AV := .tup [.agg [.val (.int .i64 W), .val (.int .i64 H), a], .val (.int .i64 0)]
theorem pasteW_wraps (W H : Nat) : Wraps (pasteW W H) := .lastPair [.val (.int .i64 W), .val (.int .i64 H)] (.val (.int .i64 0)) (fun _ => rfl) rfl rfl
set_option maxHeartbeats 4000000 in
theorem Paste_makes {W H V U N M c d : Nat} {A B : Option Addr} {G : Mem} {x y : Int} {f q : Nat → Int} (hA : PixM G A N f) (hB : PixM G B M q) (hc : N ≤ c) (hd : M ≤ d) (hW : 1 ≤ W ∧ W ≤ 8) (hH : 1 ≤ H ∧ H ≤ 8) (hN : W * H = N) (hV : 1 ≤ V ∧ V ≤ 8) (hU : 1 ≤ U ∧ U ≤ 8) (hM : V * U = M) (h : -1024 ≤ x ∧ x ≤ 1024 ∧ -1024 ≤ y ∧ y ≤ 1024) :
    Makes Try.prog 19 [gridA W H A N c, .val (.int .i64 x), .val (.int .i64 y), gridA V U B M d] G (pasteW W H) 5 1 N (pixL (pasteJ f q W V x y U) N) := by
  have h1 := GCheck_gives (A := A) (c := c) (G := G) hW hH hN
  have h2 := GCheck_gives (A := B) (c := d) (G := G) hV hU hM
  have hN64 : N ≤ 64 := by rw [← hN]; exact Nat.le_trans (Nat.mul_le_mul hW.2 hH.2) (by decide)
  have hM64 : M ≤ 64 := by rw [← hM]; exact Nat.le_trans (Nat.mul_le_mul hV.2 hU.2) (by decide)
  have mk := CloneB_makes (c := c) hA (by omega)
  refine Makes_of tab_ok Try.func19 (pasteW_wraps W H) ?_
  (repeat ((try (conv => whnf)); (first | (refine RCallP_makes (fun vs w => by kernel_rfl) (.alone fun _ => rfl) (by kernel_rfl) mk ?_) | (with_reducible refine condP_true ?_) | (with_reducible refine condP_false ?_) | (with_reducible refine condP_not ?_) | (with_reducible refine condP_and ?_) | ((with_reducible refine condP_dt ?_ ?_); (· omega)) | ((with_reducible refine condP_df ?_ ?_); (· omega)) | ((with_reducible refine condP_yes ?_ ?_); (· assumption)) | ((with_reducible refine condP_no ?_ ?_); (· assumption)) | ((with_reducible refine ArP_i64 ?_ ?_); (· omega)) | ((with_reducible refine mustP.mk ?_ ?_); (· first | omega | rfl | (dsimp only; omega))) | (with_reducible refine EqP_nil tab_ok ?_) | (with_reducible refine EqP_sli tab_ok ?_) | (with_reducible refine DrawP_auto tab_ok (by kernel_rfl) (by decide +kernel) ?_) | (with_reducible refine DrawP_auto2 tab_ok (by kernel_rfl) (by decide +kernel) ?_) | (with_reducible refine eq28 ?_) | (with_reducible refine eq33 ?_) | (with_reducible refine eq95 ?_) | (with_reducible refine eq115 ?_) | (with_reducible refine CallP_gives (fun vs w => by kernel_rfl) (by kernel_rfl) (h1) ?_) | (with_reducible refine RCallP_gives (fun vs w => by kernel_rfl) (by kernel_rfl) (h1) ?_) | (with_reducible refine CallP_gives (fun vs w => by kernel_rfl) (by kernel_rfl) (h2) ?_) | (with_reducible refine RCallP_gives (fun vs w => by kernel_rfl) (by kernel_rfl) (h2) ?_))))
  conv => whnf
  obtain ⟨j0, hj0⟩ : ∃ j0 : Nat, (j0 : Int) = max 0 (0 - y) := ⟨(max 0 (0 - y)).toNat, by omega⟩
  rw [← hj0]
  refine LoopP_at tab_ok (fun j => j0 ≤ j ∧ (j ≤ U ∨ j = j0)) (fun (j : Nat) => [(13, .val (.int .i64 j))]) (fun j => [.cells 43 [.val (.int .i64 W), .val (.int .i64 H), .val (.slice A N c)], .cells 43 [.val (.int .i64 V), .val (.int .i64 U), .val (.slice B M d)], .cells 43 [.val (.int .i64 0), .val (.int .i64 0), .val (.slice none 0 0)], .own 5 1 N (pixL (pasteJ f q W V x y j) N), .cells 43 [.val (.int .i64 W), .val (.int .i64 H), .own 3]]) (fun j => U - j) j0 ⟨Nat.le_refl _, .inr rfl⟩ ?_ ?_
  · ((refine Le_head ?_); (conv => whnf); (refine Le_mk (by rfl) (by rfl) ?_ ?_); (· (repeat (first | (with_reducible exact frLe_nil) | (with_reducible refine frLe_any ?_) | (with_reducible refine frLe_val ?_) | ((with_reducible refine frLe_eq rfl ?_ ?_); (· rfl)) | ((with_reducible refine frLe_val' (int_eq ?_) ?_ ?_); (· omega); (· rfl)) | ((with_reducible refine frLe_val' (int_eq ?_) ?_ ?_); (· simp only [Int.natCast_add, Int.natCast_one, Int.natCast_ofNat] <;> omega); (· rfl)) | ((with_reducible refine frLe_val' (bool_eq ?_) ?_ ?_); (· first | assumption | (symm; assumption)); (· rfl))))))
    exact hpLe_cells (by (repeat (first | (with_reducible exact frLe_nil) | (with_reducible refine frLe_any ?_) | (with_reducible refine frLe_val ?_) | ((with_reducible refine frLe_eq rfl ?_ ?_); (· rfl)) | ((with_reducible refine frLe_val' (int_eq ?_) ?_ ?_); (· omega); (· rfl)) | ((with_reducible refine frLe_val' (int_eq ?_) ?_ ?_); (· simp only [Int.natCast_add, Int.natCast_one, Int.natCast_ofNat] <;> omega); (· rfl)) | ((with_reducible refine frLe_val' (bool_eq ?_) ?_ ?_); (· first | assumption | (symm; assumption)); (· rfl))))) (hpLe_cells (by (repeat (first | (with_reducible exact frLe_nil) | (with_reducible refine frLe_any ?_) | (with_reducible refine frLe_val ?_) | ((with_reducible refine frLe_eq rfl ?_ ?_); (· rfl)) | ((with_reducible refine frLe_val' (int_eq ?_) ?_ ?_); (· omega); (· rfl)) | ((with_reducible refine frLe_val' (int_eq ?_) ?_ ?_); (· simp only [Int.natCast_add, Int.natCast_one, Int.natCast_ofNat] <;> omega); (· rfl)) | ((with_reducible refine frLe_val' (bool_eq ?_) ?_ ?_); (· first | assumption | (symm; assumption)); (· rfl))))) (hpLe_cells (by (repeat (first | (with_reducible exact frLe_nil) | (with_reducible refine frLe_any ?_) | (with_reducible refine frLe_val ?_) | ((with_reducible refine frLe_eq rfl ?_ ?_); (· rfl)) | ((with_reducible refine frLe_val' (int_eq ?_) ?_ ?_); (· omega); (· rfl)) | ((with_reducible refine frLe_val' (int_eq ?_) ?_ ?_); (· simp only [Int.natCast_add, Int.natCast_one, Int.natCast_ofNat] <;> omega); (· rfl)) | ((with_reducible refine frLe_val' (bool_eq ?_) ?_ ?_); (· first | assumption | (symm; assumption)); (· rfl))))) (hpLe_own rfl (paste_0 (by omega)) (hpLe_cells (by (repeat (first | (with_reducible exact frLe_nil) | (with_reducible refine frLe_any ?_) | (with_reducible refine frLe_val ?_) | ((with_reducible refine frLe_eq rfl ?_ ?_); (· rfl)) | ((with_reducible refine frLe_val' (int_eq ?_) ?_ ?_); (· omega); (· rfl)) | ((with_reducible refine frLe_val' (int_eq ?_) ?_ ?_); (· simp only [Int.natCast_add, Int.natCast_one, Int.natCast_ofNat] <;> omega); (· rfl)) | ((with_reducible refine frLe_val' (bool_eq ?_) ?_ ?_); (· first | assumption | (symm; assumption)); (· rfl))))) hpLe_nil))))
  · rintro j ⟨hj, hjU⟩
    by_cases h3 : j < U
    · by_cases h4 : y + j < H
      · by_cases h5 : max 0 (0 - x) < min (V : Int) (W - x)
        · obtain ⟨r, hr⟩ : ∃ r : Nat, (r : Int) = y + j := ⟨(y + j).toNat, by omega⟩
          have r2 : r * W + W ≤ N := by rw [← hN, ← Nat.succ_mul, Nat.mul_comm W H]; exact Nat.mul_le_mul_right _ (by omega)
          have e1 : (y + (j : Int)) * (W : Int) = ((r * W : Nat) : Int) := by rw [← hr]; push_cast; rfl
          have e2 : (y + (j : Int) + 1) * (W : Int) = ((r * W : Nat) : Int) + W := by rw [Int.add_mul, e1, Int.one_mul]
          have r3 : j * V + V ≤ M := by rw [← hM, ← Nat.succ_mul, Nat.mul_comm V U]; exact Nat.mul_le_mul_right _ (by omega)
          have e3 : (j : Int) * (V : Int) = ((j * V : Nat) : Int) := by push_cast; rfl
          generalize hrW : r * W = o at *
          generalize hjV : j * V = s at *
          obtain ⟨b, off, rfl, _⟩ := hB 0 (by omega)
          obtain ⟨fr, hfr⟩ : ∃ fr : Nat, max 0 (0 - x) = (fr : Int) := ⟨(max 0 (0 - x)).toNat, by omega⟩
          obtain ⟨tt, htt⟩ : ∃ tt : Nat, min (V : Int) ((W : Int) - x) = (tt : Int) := ⟨(min (V : Int) ((W : Int) - x)).toNat, by omega⟩
          obtain ⟨a, ha⟩ : ∃ a : Nat, (a : Int) = x + fr := ⟨(x + fr).toNat, by omega⟩
          (repeat ((try (conv => whnf)); (first | (with_reducible refine condP_true ?_) | (with_reducible refine condP_false ?_) | (with_reducible refine condP_not ?_) | (with_reducible refine condP_and ?_) | ((with_reducible refine condP_dt ?_ ?_); (· omega)) | ((with_reducible refine condP_df ?_ ?_); (· omega)) | ((with_reducible refine condP_yes ?_ ?_); (· assumption)) | ((with_reducible refine condP_no ?_ ?_); (· assumption)) | ((with_reducible refine ArP_i64 ?_ ?_); (· omega)) | ((with_reducible refine mustP.mk ?_ ?_); (· first | omega | rfl | (dsimp only; omega))) | (with_reducible refine EqP_nil tab_ok ?_) | (with_reducible refine EqP_sli tab_ok ?_) | (with_reducible refine DrawP_auto tab_ok (by kernel_rfl) (by decide +kernel) ?_) | (with_reducible refine DrawP_auto2 tab_ok (by kernel_rfl) (by decide +kernel) ?_) | (with_reducible refine eq28 ?_) | (with_reducible refine eq33 ?_) | (with_reducible refine eq95 ?_) | (with_reducible refine eq115 ?_))))
          simp only [e1, e2, e3, hfr, htt, show (((s : Nat) : Int) + (fr : Int)).toNat = s + fr by omega, show (((s : Nat) : Int) + (tt : Int)).toNat = s + tt by omega, show (x + (fr : Int)).toNat = a by omega, show (x + (tt : Int)).toNat = a + (tt - fr) by omega, if_neg (show ¬ d = s + fr by omega), Option.map_some, Int.toNat_natCast]
          have hsrc : ∀ (m : Nat) (K : List Value → Prop), m = tt - fr → K (pixL (fun i => q (s + fr + i)) (tt - fr)) → OldCells G (Addr.add ⟨b, off, none⟩ ((s + fr) * 1)) m K := fun m K hm k => by
            subst hm
            refine OldCells_list _ (pixL_length _ _) (fun i u hi => ?_) k
            have hil := (List.getElem?_eq_some_iff.1 hi).1
            rw [pixL_length] at hil
            rw [pixL_get hil] at hi; cases hi
            obtain ⟨b', off', hbb, h9⟩ := hB (s + fr + i) (by omega)
            cases hbb
            rw [addr_add, addr_add, Nat.mul_one, Nat.add_assoc]; exact h9
          conv => whnf
          refine hsrc _ _ (by omega) ?_
          conv => whnf
          refine mustP.mk ⟨by simp only [pixL_length]; omega, pixL_cell⟩ ?_
          (repeat ((try (conv => whnf)); (first | (with_reducible refine condP_true ?_) | (with_reducible refine condP_false ?_) | (with_reducible refine condP_not ?_) | (with_reducible refine condP_and ?_) | ((with_reducible refine condP_dt ?_ ?_); (· omega)) | ((with_reducible refine condP_df ?_ ?_); (· omega)) | ((with_reducible refine condP_yes ?_ ?_); (· assumption)) | ((with_reducible refine condP_no ?_ ?_); (· assumption)) | ((with_reducible refine ArP_i64 ?_ ?_); (· omega)) | ((with_reducible refine mustP.mk ?_ ?_); (· first | omega | rfl | (dsimp only; omega))) | (with_reducible refine EqP_nil tab_ok ?_) | (with_reducible refine EqP_sli tab_ok ?_) | (with_reducible refine DrawP_auto tab_ok (by kernel_rfl) (by decide +kernel) ?_) | (with_reducible refine DrawP_auto2 tab_ok (by kernel_rfl) (by decide +kernel) ?_) | (with_reducible refine eq28 ?_) | (with_reducible refine eq33 ?_) | (with_reducible refine eq95 ?_) | (with_reducible refine eq115 ?_))))
          refine ⟨j + 1, ⟨by omega, by omega⟩, by omega, ?_⟩
          ((refine Le_head ?_); (conv => whnf); (refine Le_mk (by rfl) (by rfl) ?_ ?_); (· (repeat (first | (with_reducible exact frLe_nil) | (with_reducible refine frLe_any ?_) | (with_reducible refine frLe_val ?_) | ((with_reducible refine frLe_eq rfl ?_ ?_); (· rfl)) | ((with_reducible refine frLe_val' (int_eq ?_) ?_ ?_); (· omega); (· rfl)) | ((with_reducible refine frLe_val' (int_eq ?_) ?_ ?_); (· simp only [Int.natCast_add, Int.natCast_one, Int.natCast_ofNat] <;> omega); (· rfl)) | ((with_reducible refine frLe_val' (bool_eq ?_) ?_ ?_); (· first | assumption | (symm; assumption)); (· rfl))))))
          exact hpLe_cells (by (repeat (first | (with_reducible exact frLe_nil) | (with_reducible refine frLe_any ?_) | (with_reducible refine frLe_val ?_) | ((with_reducible refine frLe_eq rfl ?_ ?_); (· rfl)) | ((with_reducible refine frLe_val' (int_eq ?_) ?_ ?_); (· omega); (· rfl)) | ((with_reducible refine frLe_val' (int_eq ?_) ?_ ?_); (· simp only [Int.natCast_add, Int.natCast_one, Int.natCast_ofNat] <;> omega); (· rfl)) | ((with_reducible refine frLe_val' (bool_eq ?_) ?_ ?_); (· first | assumption | (symm; assumption)); (· rfl))))) (hpLe_cells (by (repeat (first | (with_reducible exact frLe_nil) | (with_reducible refine frLe_any ?_) | (with_reducible refine frLe_val ?_) | ((with_reducible refine frLe_eq rfl ?_ ?_); (· rfl)) | ((with_reducible refine frLe_val' (int_eq ?_) ?_ ?_); (· omega); (· rfl)) | ((with_reducible refine frLe_val' (int_eq ?_) ?_ ?_); (· simp only [Int.natCast_add, Int.natCast_one, Int.natCast_ofNat] <;> omega); (· rfl)) | ((with_reducible refine frLe_val' (bool_eq ?_) ?_ ?_); (· first | assumption | (symm; assumption)); (· rfl))))) (hpLe_cells (by (repeat (first | (with_reducible exact frLe_nil) | (with_reducible refine frLe_any ?_) | (with_reducible refine frLe_val ?_) | ((with_reducible refine frLe_eq rfl ?_ ?_); (· rfl)) | ((with_reducible refine frLe_val' (int_eq ?_) ?_ ?_); (· omega); (· rfl)) | ((with_reducible refine frLe_val' (int_eq ?_) ?_ ?_); (· simp only [Int.natCast_add, Int.natCast_one, Int.natCast_ofNat] <;> omega); (· rfl)) | ((with_reducible refine frLe_val' (bool_eq ?_) ?_ ?_); (· first | assumption | (symm; assumption)); (· rfl))))) (hpLe_own rfl (by
            rw [pixL_length]
            exact paste_step hW.1 hr hrW hjV hfr htt (by omega) (by omega) rfl (by omega)) (hpLe_cells (by (repeat (first | (with_reducible exact frLe_nil) | (with_reducible refine frLe_any ?_) | (with_reducible refine frLe_val ?_) | ((with_reducible refine frLe_eq rfl ?_ ?_); (· rfl)) | ((with_reducible refine frLe_val' (int_eq ?_) ?_ ?_); (· omega); (· rfl)) | ((with_reducible refine frLe_val' (int_eq ?_) ?_ ?_); (· simp only [Int.natCast_add, Int.natCast_one, Int.natCast_ofNat] <;> omega); (· rfl)) | ((with_reducible refine frLe_val' (bool_eq ?_) ?_ ?_); (· first | assumption | (symm; assumption)); (· rfl))))) hpLe_nil))))
        · (repeat ((try (conv => whnf)); (first | (with_reducible refine condP_true ?_) | (with_reducible refine condP_false ?_) | (with_reducible refine condP_not ?_) | (with_reducible refine condP_and ?_) | ((with_reducible refine condP_dt ?_ ?_); (· omega)) | ((with_reducible refine condP_df ?_ ?_); (· omega)) | ((with_reducible refine condP_yes ?_ ?_); (· assumption)) | ((with_reducible refine condP_no ?_ ?_); (· assumption)) | ((with_reducible refine ArP_i64 ?_ ?_); (· omega)) | ((with_reducible refine mustP.mk ?_ ?_); (· first | omega | rfl | (dsimp only; omega))) | (with_reducible refine EqP_nil tab_ok ?_) | (with_reducible refine EqP_sli tab_ok ?_) | (with_reducible refine DrawP_auto tab_ok (by kernel_rfl) (by decide +kernel) ?_) | (with_reducible refine DrawP_auto2 tab_ok (by kernel_rfl) (by decide +kernel) ?_) | (with_reducible refine eq28 ?_) | (with_reducible refine eq33 ?_) | (with_reducible refine eq95 ?_) | (with_reducible refine eq115 ?_))))
          refine ⟨j + 1, ⟨by omega, by omega⟩, by omega, ?_⟩
          ((refine Le_head ?_); (conv => whnf); (refine Le_mk (by rfl) (by rfl) ?_ ?_); (· (repeat (first | (with_reducible exact frLe_nil) | (with_reducible refine frLe_any ?_) | (with_reducible refine frLe_val ?_) | ((with_reducible refine frLe_eq rfl ?_ ?_); (· rfl)) | ((with_reducible refine frLe_val' (int_eq ?_) ?_ ?_); (· omega); (· rfl)) | ((with_reducible refine frLe_val' (int_eq ?_) ?_ ?_); (· simp only [Int.natCast_add, Int.natCast_one, Int.natCast_ofNat] <;> omega); (· rfl)) | ((with_reducible refine frLe_val' (bool_eq ?_) ?_ ?_); (· first | assumption | (symm; assumption)); (· rfl))))))
          exact hpLe_cells (by (repeat (first | (with_reducible exact frLe_nil) | (with_reducible refine frLe_any ?_) | (with_reducible refine frLe_val ?_) | ((with_reducible refine frLe_eq rfl ?_ ?_); (· rfl)) | ((with_reducible refine frLe_val' (int_eq ?_) ?_ ?_); (· omega); (· rfl)) | ((with_reducible refine frLe_val' (int_eq ?_) ?_ ?_); (· simp only [Int.natCast_add, Int.natCast_one, Int.natCast_ofNat] <;> omega); (· rfl)) | ((with_reducible refine frLe_val' (bool_eq ?_) ?_ ?_); (· first | assumption | (symm; assumption)); (· rfl))))) (hpLe_cells (by (repeat (first | (with_reducible exact frLe_nil) | (with_reducible refine frLe_any ?_) | (with_reducible refine frLe_val ?_) | ((with_reducible refine frLe_eq rfl ?_ ?_); (· rfl)) | ((with_reducible refine frLe_val' (int_eq ?_) ?_ ?_); (· omega); (· rfl)) | ((with_reducible refine frLe_val' (int_eq ?_) ?_ ?_); (· simp only [Int.natCast_add, Int.natCast_one, Int.natCast_ofNat] <;> omega); (· rfl)) | ((with_reducible refine frLe_val' (bool_eq ?_) ?_ ?_); (· first | assumption | (symm; assumption)); (· rfl))))) (hpLe_cells (by (repeat (first | (with_reducible exact frLe_nil) | (with_reducible refine frLe_any ?_) | (with_reducible refine frLe_val ?_) | ((with_reducible refine frLe_eq rfl ?_ ?_); (· rfl)) | ((with_reducible refine frLe_val' (int_eq ?_) ?_ ?_); (· omega); (· rfl)) | ((with_reducible refine frLe_val' (int_eq ?_) ?_ ?_); (· simp only [Int.natCast_add, Int.natCast_one, Int.natCast_ofNat] <;> omega); (· rfl)) | ((with_reducible refine frLe_val' (bool_eq ?_) ?_ ?_); (· first | assumption | (symm; assumption)); (· rfl))))) (hpLe_own rfl (paste_none (by omega) hW.1 h5) (hpLe_cells (by (repeat (first | (with_reducible exact frLe_nil) | (with_reducible refine frLe_any ?_) | (with_reducible refine frLe_val ?_) | ((with_reducible refine frLe_eq rfl ?_ ?_); (· rfl)) | ((with_reducible refine frLe_val' (int_eq ?_) ?_ ?_); (· omega); (· rfl)) | ((with_reducible refine frLe_val' (int_eq ?_) ?_ ?_); (· simp only [Int.natCast_add, Int.natCast_one, Int.natCast_ofNat] <;> omega); (· rfl)) | ((with_reducible refine frLe_val' (bool_eq ?_) ?_ ?_); (· first | assumption | (symm; assumption)); (· rfl))))) hpLe_nil))))
      · rw [paste_end (U := U) hW.1 hN hj0 (.inr (.inr ⟨by omega, by omega⟩))]
        (repeat ((try (conv => whnf)); (first | (with_reducible refine condP_true ?_) | (with_reducible refine condP_false ?_) | (with_reducible refine condP_not ?_) | (with_reducible refine condP_and ?_) | ((with_reducible refine condP_dt ?_ ?_); (· omega)) | ((with_reducible refine condP_df ?_ ?_); (· omega)) | ((with_reducible refine condP_yes ?_ ?_); (· assumption)) | ((with_reducible refine condP_no ?_ ?_); (· assumption)) | ((with_reducible refine ArP_i64 ?_ ?_); (· omega)) | ((with_reducible refine mustP.mk ?_ ?_); (· first | omega | rfl | (dsimp only; omega))) | (with_reducible refine EqP_nil tab_ok ?_) | (with_reducible refine EqP_sli tab_ok ?_) | (with_reducible refine DrawP_auto tab_ok (by kernel_rfl) (by decide +kernel) ?_) | (with_reducible refine DrawP_auto2 tab_ok (by kernel_rfl) (by decide +kernel) ?_) | (with_reducible refine eq28 ?_) | (with_reducible refine eq33 ?_) | (with_reducible refine eq95 ?_) | (with_reducible refine eq115 ?_))))
        exact .inl ⟨3, rfl, rfl⟩
    · rw [paste_end (U := U) hW.1 hN hj0 (by omega)]
      (repeat ((try (conv => whnf)); (first | (with_reducible refine condP_true ?_) | (with_reducible refine condP_false ?_) | (with_reducible refine condP_not ?_) | (with_reducible refine condP_and ?_) | ((with_reducible refine condP_dt ?_ ?_); (· omega)) | ((with_reducible refine condP_df ?_ ?_); (· omega)) | ((with_reducible refine condP_yes ?_ ?_); (· assumption)) | ((with_reducible refine condP_no ?_ ?_); (· assumption)) | ((with_reducible refine ArP_i64 ?_ ?_); (· omega)) | ((with_reducible refine mustP.mk ?_ ?_); (· first | omega | rfl | (dsimp only; omega))) | (with_reducible refine EqP_nil tab_ok ?_) | (with_reducible refine EqP_sli tab_ok ?_) | (with_reducible refine DrawP_auto tab_ok (by kernel_rfl) (by decide +kernel) ?_) | (with_reducible refine DrawP_auto2 tab_ok (by kernel_rfl) (by decide +kernel) ?_) | (with_reducible refine eq28 ?_) | (with_reducible refine eq33 ?_) | (with_reducible refine eq95 ?_) | (with_reducible refine eq115 ?_))))
      exact .inl ⟨3, rfl, rfl⟩
end Go.Proofs.Ytmklpphdbmpbbaa
