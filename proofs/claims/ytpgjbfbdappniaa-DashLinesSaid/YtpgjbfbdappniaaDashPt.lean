/-
  The point at a position of a line, by package dash and by the reference.
-/
import Derived.Test.YtpgjbfbdappniaaConic
import Derived.Test.YtpgjbfbdappniaaDashLaw
namespace Go.Proofs.Ytpgjbfbdappniaa
open Go.RowKit
set_option linter.unusedVariables false
set_option linter.unusedSimpArgs false
set_option maxRecDepth 20000
theorem near_crude {a b M : Int} (ha : -M ≤ a ∧ a ≤ M) (hb : 1 ≤ b) : -M - 1 ≤ near a b ∧ near a b ≤ M + 1 := by
  have h := near_abs a b hb
  rcases Int.le_total 0 a with h0 | h0
  · have := h.1 h0; omega
  · have := h.2 h0; omega
abbrev sdA (fx fy tx ty a z : Int) : AV := .agg [.val (.int .i64 fx), .val (.int .i64 fy), .val (.int .i64 tx), .val (.int .i64 ty), .val (.int .i64 a), .val (.int .i64 z)]
def onI (f t d z : Int) : Int := f + near ((t - f) * d) z
section
variable {G : Mem}
structure Co (x : Int) : Prop where
  lo : -32767 ≤ x
  hi : x ≤ 32767
theorem on_bd {f t d z : Int} (hf : Co f) (ht : Co t) (hd : 0 ≤ d ∧ d ≤ 1000000) (hz : 1 ≤ z) : (-65534000000 ≤ (t - f) * d ∧ (t - f) * d ≤ 65534000000) ∧ (-65534000001 ≤ near ((t - f) * d) z ∧ near ((t - f) * d) z ≤ 65534000001) := by
  have h1 := hf.lo; have h2 := hf.hi; have h3 := ht.lo; have h4 := ht.hi
  have := absMulC (a := t - f) (b := d) (A := 65534) (B := 1000000) (by omega) (by omega)
  have h5 : -65534000000 ≤ (t - f) * d ∧ (t - f) * d ≤ 65534000000 := by omega
  have := near_crude (M := 65534000000) h5 hz
  omega
set_option maxHeartbeats 4000000 in
theorem point_gives {fx fy tx ty a z s : Int} (h1 : Co fx) (h2 : Co fy) (h3 : Co tx) (h4 : Co ty) (ha : 0 ≤ a) (hs : a ≤ s ∧ s ≤ 1000000) (hz : 1 ≤ z ∧ z ≤ 1000000) :
    Gives Try.prog 56 [sdA fx fy tx ty a z, .val (.int .i64 s)] G (ptA (onI fx tx (s - a) z) (onI fy ty (s - a) z)) := by
  obtain ⟨b1, b2⟩ := on_bd (f := fx) (t := tx) (d := s - a) (z := z) h1 h3 (by omega) hz.1
  obtain ⟨b3, b4⟩ := on_bd (f := fy) (t := ty) (d := s - a) (z := z) h2 h4 (by omega) hz.1
  have n1 := Near_gives (a := (tx - fx) * (s - a)) (b := z) (G := G) (by omega) (by omega)
  have n2 := Near_gives (a := (ty - fy) * (s - a)) (b := z) (G := G) (by omega) (by omega)
  have c1 := h1.lo; have c2 := h1.hi; have c3 := h2.lo; have c4 := h2.hi; have c5 := h3.lo; have c6 := h3.hi; have c7 := h4.lo; have c8 := h4.hi
  refine Gives_of tab_ok Try.func56 ?_
  unfold onI
  generalize hn1 : near ((tx - fx) * (s - a)) z = r1 at *
  generalize hn2 : near ((ty - fy) * (s - a)) z = r2 at *
  clear h1 h2 h3 h4 hn1 hn2
  (repeat ((try (conv => whnf)); (first | (with_reducible refine condP_true ?_) | (with_reducible refine condP_false ?_) | (with_reducible refine condP_not ?_) | (with_reducible refine condP_and ?_) | ((with_reducible refine condP_dt ?_ ?_); (· omega)) | ((with_reducible refine condP_df ?_ ?_); (· omega)) | ((with_reducible refine condP_yes ?_ ?_); (· assumption)) | ((with_reducible refine condP_no ?_ ?_); (· assumption)) | ((with_reducible refine ArP_i64 ?_ ?_); (· omega)) | ((with_reducible refine mustP.mk ?_ ?_); (· first | omega | rfl | (dsimp only; omega))) | (with_reducible refine EqP_nil tab_ok ?_) | (with_reducible refine EqP_sli tab_ok ?_) | (with_reducible refine DrawP_auto tab_ok (by kernel_rfl) (by decide +kernel) ?_) | (with_reducible refine DrawP_auto2 tab_ok (by kernel_rfl) (by decide +kernel) ?_) | (with_reducible refine eq43 ?_) | (with_reducible refine eq55 ?_) | (with_reducible refine eq57 ?_) | (with_reducible refine eq93 ?_) | (with_reducible refine eq101 ?_) | (with_reducible refine eq116 ?_) | (with_reducible refine eq119 ?_) | (with_reducible refine CallP_gives (fun vs w => by kernel_rfl) (by kernel_rfl) (n1) ?_) | (with_reducible refine RCallP_gives (fun vs w => by kernel_rfl) (by kernel_rfl) (n1) ?_) | (with_reducible refine CallP_gives (fun vs w => by kernel_rfl) (by kernel_rfl) (n2) ?_) | (with_reducible refine RCallP_gives (fun vs w => by kernel_rfl) (by kernel_rfl) (n2) ?_))))
  conv => whnf
  exact ⟨rfl, rfl⟩
/-- The points of a line with its closing one, and their positions, in memory. -/
structure WalkM (G : Mem) (B : Option Addr) (D : Option Addr) (T : Nat) (X Y t : Nat → Int) : Prop where
  pts : ElsM G B 2 (T + 1) fun i => [.int .i64 (X i), .int .i64 (Y i)]
  ats : ElsM G D 1 (T + 1) fun i => [.int .i64 (t i)]
set_option maxHeartbeats 8000000 in
theorem Position_gives {B D : Option Addr} {T qb qd f : Nat} {X Y t z : Nat → Int} {s : Int} (h : WalkM G B D T X Y t) (hT : T ≤ 1000) (hs : Sides z t T) (hf : IsFi z t T s f) (h0 : 0 ≤ s) (hend : t T ≤ 1000000) (hX : ∀ i, i ≤ T → Co (X i)) (hY : ∀ i, i ≤ T → Co (Y i)) :
    Gives Try.prog 36 [.val (.slice B (T + 1) qb), .val (.slice D (T + 1) qd), .val (.int .i64 s)] G (ptA (onI (X f) (X (f + 1)) (s - t f) (z f)) (onI (Y f) (Y (f + 1)) (s - t f) (z f))) := by
  have hfT := hf.lt
  refine Gives_of tab_ok Try.func36 ?_
  (repeat ((try (conv => whnf)); (first | (with_reducible refine condP_true ?_) | (with_reducible refine condP_false ?_) | (with_reducible refine condP_not ?_) | (with_reducible refine condP_and ?_) | ((with_reducible refine condP_dt ?_ ?_); (· omega)) | ((with_reducible refine condP_df ?_ ?_); (· omega)) | ((with_reducible refine condP_yes ?_ ?_); (· assumption)) | ((with_reducible refine condP_no ?_ ?_); (· assumption)) | ((with_reducible refine ArP_i64 ?_ ?_); (· omega)) | ((with_reducible refine mustP.mk ?_ ?_); (· first | omega | rfl | (dsimp only; omega))) | (with_reducible refine EqP_nil tab_ok ?_) | (with_reducible refine EqP_sli tab_ok ?_) | (with_reducible refine DrawP_auto tab_ok (by kernel_rfl) (by decide +kernel) ?_) | (with_reducible refine DrawP_auto2 tab_ok (by kernel_rfl) (by decide +kernel) ?_) | (with_reducible refine eq43 ?_) | (with_reducible refine eq55 ?_) | (with_reducible refine eq57 ?_) | (with_reducible refine eq93 ?_) | (with_reducible refine eq101 ?_) | (with_reducible refine eq116 ?_) | (with_reducible refine eq119 ?_))))
  conv => whnf
  refine LoopP_at tab_ok (fun i => i ≤ f) (fun (i : Nat) => [(7, .val (.int .i64 i))]) (fun i => [.cells 55 [.val (.int .i64 0), .val (.int .i64 0)]]) (fun i => f - i) 0 (Nat.zero_le _) ?_ ?_
  · ((refine Le_head ?_); (conv => whnf); (refine Le_mk (by rfl) (by rfl) ?_ ?_); (· (repeat (first | (with_reducible exact frLe_nil) | (with_reducible refine frLe_any ?_) | (with_reducible refine frLe_val ?_) | ((with_reducible refine frLe_eq rfl ?_ ?_); (· rfl)) | ((with_reducible refine frLe_val' (int_eq ?_) ?_ ?_); (· omega); (· rfl)) | ((with_reducible refine frLe_val' (int_eq ?_) ?_ ?_); (· simp only [Int.natCast_add, Int.natCast_one, Int.natCast_ofNat] <;> omega); (· rfl)) | ((with_reducible refine frLe_val' (bool_eq ?_) ?_ ?_); (· first | assumption | (symm; assumption)); (· rfl))))))
    exact hpLe_cells (by (repeat (first | (with_reducible exact frLe_nil) | (with_reducible refine frLe_any ?_) | (with_reducible refine frLe_val ?_) | ((with_reducible refine frLe_eq rfl ?_ ?_); (· rfl)) | ((with_reducible refine frLe_val' (int_eq ?_) ?_ ?_); (· omega); (· rfl)) | ((with_reducible refine frLe_val' (int_eq ?_) ?_ ?_); (· simp only [Int.natCast_add, Int.natCast_one, Int.natCast_ofNat] <;> omega); (· rfl)) | ((with_reducible refine frLe_val' (bool_eq ?_) ?_ ?_); (· first | assumption | (symm; assumption)); (· rfl))))) hpLe_nil
  · rintro i hi
    have hl := IsFi.low hs hf h0 i hi
    have e1 := hs.next i (by omega)
    have e2 := hs.pos i (by omega)
    have e3 := hs.nonneg (show i ≤ T by omega)
    have e4 := hs.le (show i + 1 ≤ T by omega) (Nat.le_refl _)
    obtain ⟨p, rfl, a0⟩ := h.ats.cell (x := i) (j := 0) (by omega) rfl
    obtain ⟨p', hp, a1⟩ := h.ats.cell (x := i + 1) (j := 0) (by omega) rfl
    cases hp
    rcases Nat.lt_or_ge i f with h1 | h1
    · have hno := hf.no i h1
      generalize t (i + 1) = u1 at *
      generalize t i = u at *
      generalize z i = zi at *
      clear h hs hX hY hf
      by_cases hz : 0 < zi
      · have hz2 : u1 < s := by
          rcases Int.lt_or_le u1 s with h5 | h5
          · exact h5
          · exact absurd ⟨hz, h5⟩ hno
        (repeat ((try (conv => whnf)); (first | (refine OldCells_one _ a0 ?_) | (refine OldCells_one _ a1 ?_) | (with_reducible refine condP_true ?_) | (with_reducible refine condP_false ?_) | (with_reducible refine condP_not ?_) | (with_reducible refine condP_and ?_) | ((with_reducible refine condP_dt ?_ ?_); (· omega)) | ((with_reducible refine condP_df ?_ ?_); (· omega)) | ((with_reducible refine condP_yes ?_ ?_); (· assumption)) | ((with_reducible refine condP_no ?_ ?_); (· assumption)) | ((with_reducible refine ArP_i64 ?_ ?_); (· omega)) | ((with_reducible refine mustP.mk ?_ ?_); (· first | omega | rfl | (dsimp only; omega))) | (with_reducible refine EqP_nil tab_ok ?_) | (with_reducible refine EqP_sli tab_ok ?_) | (with_reducible refine DrawP_auto tab_ok (by kernel_rfl) (by decide +kernel) ?_) | (with_reducible refine DrawP_auto2 tab_ok (by kernel_rfl) (by decide +kernel) ?_) | (with_reducible refine eq43 ?_) | (with_reducible refine eq55 ?_) | (with_reducible refine eq57 ?_) | (with_reducible refine eq93 ?_) | (with_reducible refine eq101 ?_) | (with_reducible refine eq116 ?_) | (with_reducible refine eq119 ?_))))
        conv => whnf
        refine ⟨i + 1, by omega, by omega, ?_⟩
        ((refine Le_head ?_); (conv => whnf); (refine Le_mk (by rfl) (by rfl) ?_ ?_); (· (repeat (first | (with_reducible exact frLe_nil) | (with_reducible refine frLe_any ?_) | (with_reducible refine frLe_val ?_) | ((with_reducible refine frLe_eq rfl ?_ ?_); (· rfl)) | ((with_reducible refine frLe_val' (int_eq ?_) ?_ ?_); (· omega); (· rfl)) | ((with_reducible refine frLe_val' (int_eq ?_) ?_ ?_); (· simp only [Int.natCast_add, Int.natCast_one, Int.natCast_ofNat] <;> omega); (· rfl)) | ((with_reducible refine frLe_val' (bool_eq ?_) ?_ ?_); (· first | assumption | (symm; assumption)); (· rfl))))))
        exact hpLe_cells (by (repeat (first | (with_reducible exact frLe_nil) | (with_reducible refine frLe_any ?_) | (with_reducible refine frLe_val ?_) | ((with_reducible refine frLe_eq rfl ?_ ?_); (· rfl)) | ((with_reducible refine frLe_val' (int_eq ?_) ?_ ?_); (· omega); (· rfl)) | ((with_reducible refine frLe_val' (int_eq ?_) ?_ ?_); (· simp only [Int.natCast_add, Int.natCast_one, Int.natCast_ofNat] <;> omega); (· rfl)) | ((with_reducible refine frLe_val' (bool_eq ?_) ?_ ?_); (· first | assumption | (symm; assumption)); (· rfl))))) hpLe_nil
      · by_cases h5 : s ≤ u1
        · (repeat ((try (conv => whnf)); (first | (refine OldCells_one _ a0 ?_) | (refine OldCells_one _ a1 ?_) | (with_reducible refine condP_true ?_) | (with_reducible refine condP_false ?_) | (with_reducible refine condP_not ?_) | (with_reducible refine condP_and ?_) | ((with_reducible refine condP_dt ?_ ?_); (· omega)) | ((with_reducible refine condP_df ?_ ?_); (· omega)) | ((with_reducible refine condP_yes ?_ ?_); (· assumption)) | ((with_reducible refine condP_no ?_ ?_); (· assumption)) | ((with_reducible refine ArP_i64 ?_ ?_); (· omega)) | ((with_reducible refine mustP.mk ?_ ?_); (· first | omega | rfl | (dsimp only; omega))) | (with_reducible refine EqP_nil tab_ok ?_) | (with_reducible refine EqP_sli tab_ok ?_) | (with_reducible refine DrawP_auto tab_ok (by kernel_rfl) (by decide +kernel) ?_) | (with_reducible refine DrawP_auto2 tab_ok (by kernel_rfl) (by decide +kernel) ?_) | (with_reducible refine eq43 ?_) | (with_reducible refine eq55 ?_) | (with_reducible refine eq57 ?_) | (with_reducible refine eq93 ?_) | (with_reducible refine eq101 ?_) | (with_reducible refine eq116 ?_) | (with_reducible refine eq119 ?_))))
          conv => whnf
          refine ⟨i + 1, by omega, by omega, ?_⟩
          ((refine Le_head ?_); (conv => whnf); (refine Le_mk (by rfl) (by rfl) ?_ ?_); (· (repeat (first | (with_reducible exact frLe_nil) | (with_reducible refine frLe_any ?_) | (with_reducible refine frLe_val ?_) | ((with_reducible refine frLe_eq rfl ?_ ?_); (· rfl)) | ((with_reducible refine frLe_val' (int_eq ?_) ?_ ?_); (· omega); (· rfl)) | ((with_reducible refine frLe_val' (int_eq ?_) ?_ ?_); (· simp only [Int.natCast_add, Int.natCast_one, Int.natCast_ofNat] <;> omega); (· rfl)) | ((with_reducible refine frLe_val' (bool_eq ?_) ?_ ?_); (· first | assumption | (symm; assumption)); (· rfl))))))
          exact hpLe_cells (by (repeat (first | (with_reducible exact frLe_nil) | (with_reducible refine frLe_any ?_) | (with_reducible refine frLe_val ?_) | ((with_reducible refine frLe_eq rfl ?_ ?_); (· rfl)) | ((with_reducible refine frLe_val' (int_eq ?_) ?_ ?_); (· omega); (· rfl)) | ((with_reducible refine frLe_val' (int_eq ?_) ?_ ?_); (· simp only [Int.natCast_add, Int.natCast_one, Int.natCast_ofNat] <;> omega); (· rfl)) | ((with_reducible refine frLe_val' (bool_eq ?_) ?_ ?_); (· first | assumption | (symm; assumption)); (· rfl))))) hpLe_nil
        · (repeat ((try (conv => whnf)); (first | (refine OldCells_one _ a0 ?_) | (refine OldCells_one _ a1 ?_) | (with_reducible refine condP_true ?_) | (with_reducible refine condP_false ?_) | (with_reducible refine condP_not ?_) | (with_reducible refine condP_and ?_) | ((with_reducible refine condP_dt ?_ ?_); (· omega)) | ((with_reducible refine condP_df ?_ ?_); (· omega)) | ((with_reducible refine condP_yes ?_ ?_); (· assumption)) | ((with_reducible refine condP_no ?_ ?_); (· assumption)) | ((with_reducible refine ArP_i64 ?_ ?_); (· omega)) | ((with_reducible refine mustP.mk ?_ ?_); (· first | omega | rfl | (dsimp only; omega))) | (with_reducible refine EqP_nil tab_ok ?_) | (with_reducible refine EqP_sli tab_ok ?_) | (with_reducible refine DrawP_auto tab_ok (by kernel_rfl) (by decide +kernel) ?_) | (with_reducible refine DrawP_auto2 tab_ok (by kernel_rfl) (by decide +kernel) ?_) | (with_reducible refine eq43 ?_) | (with_reducible refine eq55 ?_) | (with_reducible refine eq57 ?_) | (with_reducible refine eq93 ?_) | (with_reducible refine eq101 ?_) | (with_reducible refine eq116 ?_) | (with_reducible refine eq119 ?_))))
          conv => whnf
          refine ⟨i + 1, by omega, by omega, ?_⟩
          ((refine Le_head ?_); (conv => whnf); (refine Le_mk (by rfl) (by rfl) ?_ ?_); (· (repeat (first | (with_reducible exact frLe_nil) | (with_reducible refine frLe_any ?_) | (with_reducible refine frLe_val ?_) | ((with_reducible refine frLe_eq rfl ?_ ?_); (· rfl)) | ((with_reducible refine frLe_val' (int_eq ?_) ?_ ?_); (· omega); (· rfl)) | ((with_reducible refine frLe_val' (int_eq ?_) ?_ ?_); (· simp only [Int.natCast_add, Int.natCast_one, Int.natCast_ofNat] <;> omega); (· rfl)) | ((with_reducible refine frLe_val' (bool_eq ?_) ?_ ?_); (· first | assumption | (symm; assumption)); (· rfl))))))
          exact hpLe_cells (by (repeat (first | (with_reducible exact frLe_nil) | (with_reducible refine frLe_any ?_) | (with_reducible refine frLe_val ?_) | ((with_reducible refine frLe_eq rfl ?_ ?_); (· rfl)) | ((with_reducible refine frLe_val' (int_eq ?_) ?_ ?_); (· omega); (· rfl)) | ((with_reducible refine frLe_val' (int_eq ?_) ?_ ?_); (· simp only [Int.natCast_add, Int.natCast_one, Int.natCast_ofNat] <;> omega); (· rfl)) | ((with_reducible refine frLe_val' (bool_eq ?_) ?_ ?_); (· first | assumption | (symm; assumption)); (· rfl))))) hpLe_nil
    · obtain rfl : i = f := by omega
      have f1 := hf.sz
      have f2 := hf.up
      have X1 := hX i (by omega)
      have X2 := hX (i + 1) (by omega)
      have Y1 := hY i (by omega)
      have Y2 := hY (i + 1) (by omega)
      obtain ⟨q, rfl, x0⟩ := h.pts.cell (x := i) (j := 0) (by omega) rfl
      obtain ⟨q', hq, y0⟩ := h.pts.cell (x := i) (j := 1) (by omega) rfl
      cases hq
      obtain ⟨q', hq, x1⟩ := h.pts.cell (x := i + 1) (j := 0) (by omega) rfl
      cases hq
      obtain ⟨q', hq, y1⟩ := h.pts.cell (x := i + 1) (j := 1) (by omega) rfl
      cases hq
      obtain ⟨b1, b2⟩ := on_bd (f := X i) (t := X (i + 1)) (d := s - t i) (z := z i) X1 X2 (by omega) (by omega)
      obtain ⟨b3, b4⟩ := on_bd (f := Y i) (t := Y (i + 1)) (d := s - t i) (z := z i) Y1 Y2 (by omega) (by omega)
      have n1 := HalfC_gives (a := (X (i + 1) - X i) * (s - t i)) (b := t (i + 1) - t i) (G := G) (by omega) (by omega)
      have n2 := HalfC_gives (a := (Y (i + 1) - Y i) * (s - t i)) (b := t (i + 1) - t i) (G := G) (by omega) (by omega)
      have ez : t (i + 1) - t i = z i := by omega
      have c1 := X1.lo; have c2 := X1.hi; have c3 := X2.lo; have c4 := X2.hi; have c5 := Y1.lo; have c6 := Y1.hi; have c7 := Y2.lo; have c8 := Y2.hi
      unfold onI
      rw [← ez] at b2 b4 ⊢
      generalize near ((X (i + 1) - X i) * (s - t i)) (t (i + 1) - t i) = r1 at *
      generalize near ((Y (i + 1) - Y i) * (s - t i)) (t (i + 1) - t i) = r2 at *
      generalize t (i + 1) = u1 at *
      generalize t i = u at *
      generalize z i = zi at *
      generalize X (i + 1) = xx1 at *
      generalize X i = xx at *
      generalize Y (i + 1) = yy1 at *
      generalize Y i = yy at *
      clear h hs hX hY hf X1 X2 Y1 Y2
      (repeat ((try (conv => whnf)); (first | (refine OldCells_one _ a0 ?_) | (refine OldCells_one _ a1 ?_) | (refine OldCells_one _ x0 ?_) | (refine OldCells_one _ x1 ?_) | (refine OldCells_one _ y0 ?_) | (refine OldCells_one _ y1 ?_) | (with_reducible refine condP_true ?_) | (with_reducible refine condP_false ?_) | (with_reducible refine condP_not ?_) | (with_reducible refine condP_and ?_) | ((with_reducible refine condP_dt ?_ ?_); (· omega)) | ((with_reducible refine condP_df ?_ ?_); (· omega)) | ((with_reducible refine condP_yes ?_ ?_); (· assumption)) | ((with_reducible refine condP_no ?_ ?_); (· assumption)) | ((with_reducible refine ArP_i64 ?_ ?_); (· omega)) | ((with_reducible refine mustP.mk ?_ ?_); (· first | omega | rfl | (dsimp only; omega))) | (with_reducible refine EqP_nil tab_ok ?_) | (with_reducible refine EqP_sli tab_ok ?_) | (with_reducible refine DrawP_auto tab_ok (by kernel_rfl) (by decide +kernel) ?_) | (with_reducible refine DrawP_auto2 tab_ok (by kernel_rfl) (by decide +kernel) ?_) | (with_reducible refine eq43 ?_) | (with_reducible refine eq55 ?_) | (with_reducible refine eq57 ?_) | (with_reducible refine eq93 ?_) | (with_reducible refine eq101 ?_) | (with_reducible refine eq116 ?_) | (with_reducible refine eq119 ?_) | (with_reducible refine CallP_gives (fun vs w => by kernel_rfl) (by kernel_rfl) (n1) ?_) | (with_reducible refine RCallP_gives (fun vs w => by kernel_rfl) (by kernel_rfl) (n1) ?_) | (with_reducible refine CallP_gives (fun vs w => by kernel_rfl) (by kernel_rfl) (n2) ?_) | (with_reducible refine RCallP_gives (fun vs w => by kernel_rfl) (by kernel_rfl) (n2) ?_))))
      conv => whnf
      exact ⟨rfl, rfl⟩
end
end Go.Proofs.Ytpgjbfbdappniaa
