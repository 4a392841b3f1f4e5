/-
  image.At and the reference's ImageAt: both ways of painting give the same.
-/
import Derived.Test.YtampdegpfndggaaSmoothBoth
namespace Go.Proofs.Ytampdegpfndggaa.imageCells
open Go.RowKit
set_option linter.unusedVariables false
set_option maxRecDepth 20000
section
variable {W H : Int} {A B : Option Addr} {n p m q : Nat} {a b c d e f : Int} {s r : Bool} {x y : Int} {w : World} {g h : Nat → Nat → Value}
set_option maxHeartbeats 2000000 in
theorem PAt_smooth {G : Mem} {V : Nat → Int} {I : Nat → Int} {al : Int} (h4 : ∀ i, i < 4 → -1048576 ≤ V i ∧ V i ≤ 1048576) (h6 : ∀ i, i < 6 → -268435456 ≤ V i ∧ V i ≤ 268435456) (hx : -8192 ≤ x ∧ x < 8192) (hy : -8192 ≤ y ∧ y < 8192)
    (hs : Gives Try.prog 107 [pntA W H (.slice A n p) (.slice B m q) a b c d e f true r V, .val (.int .i64 (atS V x y)), .val (.int .i64 (atT V x y))] G (.tup [inksA I, .val (.int .u8 al)])) :
    Gives Try.prog 74 [pntA W H (.slice A n p) (.slice B m q) a b c d e f true r V, .val (.int .i64 x), .val (.int .i64 y)] G (.tup [inksA I, .val (.int .u8 al)]) := by
  obtain ⟨⟨b1, b2⟩, b3, b4⟩ := atS_bd h4 h6 hx hy
  have b5 := h6 4 (by omega)
  have b6 := h6 5 (by omega)
  unfold atS atT at hs
  refine Gives_of tab_ok Try.func74 ?_
  (repeat (first | (with_reducible refine condP_true ?_) | (with_reducible refine condP_false ?_) | (with_reducible refine condP_not ?_) | (with_reducible refine condP_and ?_) | ((with_reducible refine condP_dt ?_ ?_); (· omega)) | ((with_reducible refine condP_df ?_ ?_); (· omega)) | ((with_reducible refine condP_yes ?_ ?_); (· assumption)) | ((with_reducible refine condP_no ?_ ?_); (· assumption)) | ((with_reducible refine ArP_i64 ?_ ?_); (· omega)) | ((with_reducible refine mustP.mk ?_ ?_); (· first | omega | (dsimp only; omega))) | (with_reducible refine EqP_nil tab_ok ?_) | (with_reducible refine EqP_sli tab_ok ?_) | (with_reducible refine DrawP_auto tab_ok (by kernel_rfl) (by decide +kernel) ?_) | (with_reducible refine DrawP_auto2 tab_ok (by kernel_rfl) (by decide +kernel) ?_) | (with_reducible refine eq29 ?_) | (with_reducible refine eq31 ?_) | (with_reducible refine eq48 ?_) | (with_reducible refine eq52 ?_) | (with_reducible refine eq83 ?_) | (with_reducible refine eq110 ?_) | (with_reducible refine eq136 ?_) | (with_reducible refine eq155 ?_) | (with_reducible refine eq163 ?_) | (with_reducible refine eq170 ?_) | (with_reducible refine CallP_gives (fun vs w => by kernel_rfl) (by kernel_rfl) (hs) ?_) | (with_reducible refine RCallP_gives (fun vs w => by kernel_rfl) (by kernel_rfl) (hs) ?_) | ((conv => whnf); (first | (with_reducible refine condP_true ?_) | (with_reducible refine condP_false ?_) | (with_reducible refine condP_not ?_) | (with_reducible refine condP_and ?_) | ((with_reducible refine condP_dt ?_ ?_); (· omega)) | ((with_reducible refine condP_df ?_ ?_); (· omega)) | ((with_reducible refine condP_yes ?_ ?_); (· assumption)) | ((with_reducible refine condP_no ?_ ?_); (· assumption)) | ((with_reducible refine ArP_i64 ?_ ?_); (· omega)) | ((with_reducible refine mustP.mk ?_ ?_); (· first | omega | (dsimp only; omega))) | (with_reducible refine EqP_nil tab_ok ?_) | (with_reducible refine EqP_sli tab_ok ?_) | (with_reducible refine DrawP_auto tab_ok (by kernel_rfl) (by decide +kernel) ?_) | (with_reducible refine DrawP_auto2 tab_ok (by kernel_rfl) (by decide +kernel) ?_) | (with_reducible refine eq29 ?_) | (with_reducible refine eq31 ?_) | (with_reducible refine eq48 ?_) | (with_reducible refine eq52 ?_) | (with_reducible refine eq83 ?_) | (with_reducible refine eq110 ?_) | (with_reducible refine eq136 ?_) | (with_reducible refine eq155 ?_) | (with_reducible refine eq163 ?_) | (with_reducible refine eq170 ?_) | (with_reducible refine CallP_gives (fun vs w => by kernel_rfl) (by kernel_rfl) (hs) ?_) | (with_reducible refine RCallP_gives (fun vs w => by kernel_rfl) (by kernel_rfl) (hs) ?_)))))
  exact ⟨rfl, rfl⟩
set_option maxHeartbeats 2000000 in
theorem RAt_near {G : Mem} {I : Nat → Int} {al : Int} (hx : -8192 ≤ x ∧ x < 8192) (hy : -8192 ≤ y ∧ y < 8192)
    (hs : Gives Try.prog 37 [imgA W H (.slice A n p) (.slice B m q) a b c d e f false r, .val (.int .i64 (atS (invL a b c d e f) x y / 8192)), .val (.int .i64 (atT (invL a b c d e f) x y / 8192))] G (.tup [inksA I, .val (.int .i64 al)])) :
    Gives Try.prog 39 [imgA W H (.slice A n p) (.slice B m q) a b c d e f false r, .val (.int .i64 x), .val (.int .i64 y)] G (.tup [inksA I, .val (.int .i64 al)]) := by
  obtain ⟨h4, h6⟩ := invL_bd (a := a) (b := b) (c := c) (d := d) (e := e) (f := f)
  obtain ⟨⟨b1, b2⟩, b3, b4⟩ := atS_bd h4 h6 hx hy
  have b5 := h6 4 (by omega)
  have b6 := h6 5 (by omega)
  clear h4 h6
  have hi := RInvert_gives (a := a) (b := b) (c := c) (d := d) (e := e) (f := f) (G := G)
  generalize invL a b c d e f = V at *
  unfold atS atT at hs
  have hd1 := Down_gives (a := V 0 * (2 * x + 1) + V 2 * (2 * y + 1) + 2 * V 4) (b := 8192) (G := G) (by omega) (by omega)
  have hd2 := Down_gives (a := V 1 * (2 * x + 1) + V 3 * (2 * y + 1) + 2 * V 5) (b := 8192) (G := G) (by omega) (by omega)
  refine Gives_of tab_ok Try.func39 ?_
  (repeat (first | (with_reducible refine condP_true ?_) | (with_reducible refine condP_false ?_) | (with_reducible refine condP_not ?_) | (with_reducible refine condP_and ?_) | ((with_reducible refine condP_dt ?_ ?_); (· omega)) | ((with_reducible refine condP_df ?_ ?_); (· omega)) | ((with_reducible refine condP_yes ?_ ?_); (· assumption)) | ((with_reducible refine condP_no ?_ ?_); (· assumption)) | ((with_reducible refine ArP_i64 ?_ ?_); (· omega)) | ((with_reducible refine mustP.mk ?_ ?_); (· first | omega | (dsimp only; omega))) | (with_reducible refine EqP_nil tab_ok ?_) | (with_reducible refine EqP_sli tab_ok ?_) | (with_reducible refine DrawP_auto tab_ok (by kernel_rfl) (by decide +kernel) ?_) | (with_reducible refine DrawP_auto2 tab_ok (by kernel_rfl) (by decide +kernel) ?_) | (with_reducible refine eq29 ?_) | (with_reducible refine eq31 ?_) | (with_reducible refine eq48 ?_) | (with_reducible refine eq52 ?_) | (with_reducible refine eq83 ?_) | (with_reducible refine eq110 ?_) | (with_reducible refine eq136 ?_) | (with_reducible refine eq155 ?_) | (with_reducible refine eq163 ?_) | (with_reducible refine eq170 ?_) | (with_reducible refine CallP_gives (fun vs w => by kernel_rfl) (by kernel_rfl) (hi) ?_) | (with_reducible refine RCallP_gives (fun vs w => by kernel_rfl) (by kernel_rfl) (hi) ?_) | (with_reducible refine CallP_gives (fun vs w => by kernel_rfl) (by kernel_rfl) (hd1) ?_) | (with_reducible refine RCallP_gives (fun vs w => by kernel_rfl) (by kernel_rfl) (hd1) ?_) | (with_reducible refine CallP_gives (fun vs w => by kernel_rfl) (by kernel_rfl) (hd2) ?_) | (with_reducible refine RCallP_gives (fun vs w => by kernel_rfl) (by kernel_rfl) (hd2) ?_) | (with_reducible refine CallP_gives (fun vs w => by kernel_rfl) (by kernel_rfl) (hs) ?_) | (with_reducible refine RCallP_gives (fun vs w => by kernel_rfl) (by kernel_rfl) (hs) ?_) | ((conv => whnf); (first | (with_reducible refine condP_true ?_) | (with_reducible refine condP_false ?_) | (with_reducible refine condP_not ?_) | (with_reducible refine condP_and ?_) | ((with_reducible refine condP_dt ?_ ?_); (· omega)) | ((with_reducible refine condP_df ?_ ?_); (· omega)) | ((with_reducible refine condP_yes ?_ ?_); (· assumption)) | ((with_reducible refine condP_no ?_ ?_); (· assumption)) | ((with_reducible refine ArP_i64 ?_ ?_); (· omega)) | ((with_reducible refine mustP.mk ?_ ?_); (· first | omega | (dsimp only; omega))) | (with_reducible refine EqP_nil tab_ok ?_) | (with_reducible refine EqP_sli tab_ok ?_) | (with_reducible refine DrawP_auto tab_ok (by kernel_rfl) (by decide +kernel) ?_) | (with_reducible refine DrawP_auto2 tab_ok (by kernel_rfl) (by decide +kernel) ?_) | (with_reducible refine eq29 ?_) | (with_reducible refine eq31 ?_) | (with_reducible refine eq48 ?_) | (with_reducible refine eq52 ?_) | (with_reducible refine eq83 ?_) | (with_reducible refine eq110 ?_) | (with_reducible refine eq136 ?_) | (with_reducible refine eq155 ?_) | (with_reducible refine eq163 ?_) | (with_reducible refine eq170 ?_) | (with_reducible refine CallP_gives (fun vs w => by kernel_rfl) (by kernel_rfl) (hi) ?_) | (with_reducible refine RCallP_gives (fun vs w => by kernel_rfl) (by kernel_rfl) (hi) ?_) | (with_reducible refine CallP_gives (fun vs w => by kernel_rfl) (by kernel_rfl) (hd1) ?_) | (with_reducible refine RCallP_gives (fun vs w => by kernel_rfl) (by kernel_rfl) (hd1) ?_) | (with_reducible refine CallP_gives (fun vs w => by kernel_rfl) (by kernel_rfl) (hd2) ?_) | (with_reducible refine RCallP_gives (fun vs w => by kernel_rfl) (by kernel_rfl) (hd2) ?_) | (with_reducible refine CallP_gives (fun vs w => by kernel_rfl) (by kernel_rfl) (hs) ?_) | (with_reducible refine RCallP_gives (fun vs w => by kernel_rfl) (by kernel_rfl) (hs) ?_)))))
  exact ⟨rfl, rfl⟩
/-- Both ways of painting give the same. -/
theorem both {G : Mem} {P : Nat → Nat → Int} {S : Nat → Int} (ho : ImgOk W H n m) (hp : Pics G A n P B m S) (hpx : ∀ x j, x < n → j < 8 → 0 ≤ P x j ∧ P x j ≤ 255) (hs : ∀ x, x < m → 0 ≤ S x ∧ S x ≤ 255) (hX : -8192 ≤ x ∧ x < 8192) (hY : -8192 ≤ y ∧ y < 8192) :
    ∃ R so, Gives Try.prog 74 [pntA W H (.slice A n p) (.slice B m q) a b c d e f s r (invL a b c d e f), .val (.int .i64 x), .val (.int .i64 y)] G (.tup [inksA R, .val (.int .u8 so)]) ∧
      Gives Try.prog 39 [imgA W H (.slice A n p) (.slice B m q) a b c d e f s r, .val (.int .i64 x), .val (.int .i64 y)] G (.tup [inksA R, .val (.int .i64 so)]) ∧ (0 ≤ so ∧ so ≤ 255) := by
  obtain ⟨h4, h6⟩ := invL_bd (a := a) (b := b) (c := c) (d := d) (e := e) (f := f)
  obtain ⟨⟨b1, b2⟩, b3, b4⟩ := atS_bd h4 h6 hX hY
  have b5 := h6 4 (by omega)
  have b6 := h6 5 (by omega)
  cases s
  · have bS : -34896609280 ≤ atS (invL a b c d e f) x y ∧ atS (invL a b c d e f) x y ≤ 34896609280 := by unfold atS; omega
    have bT : -34896609280 ≤ atT (invL a b c d e f) x y ∧ atT (invL a b c d e f) x y ≤ 34896609280 := by unfold atT; omega
    have h1 := sample_gives (a := a) (b := b) (c := c) (d := d) (e := e) (f := f) (s := false) (r := r) (p := p) (q := q) ho hp (u := atS (invL a b c d e f) x y / 8192) (v := atT (invL a b c d e f) x y / 8192) (by omega) (by omega)
    have h2 := RSample_gives (a := a) (b := b) (c := c) (d := d) (e := e) (f := f) (s := false) (r := r) (p := p) (q := q) ho hp (u := atS (invL a b c d e f) x y / 8192) (v := atT (invL a b c d e f) x y / 8192) (by omega) (by omega) hs
    exact ⟨_, _, PAt_near h4 h6 hX hY h1, RAt_near hX hY h2, sampS_bd ho hs⟩
  · obtain ⟨R, so, h1, h2, h3⟩ := smooth_both (a := a) (b := b) (c := c) (d := d) (e := e) (f := f) (r := r) (p := p) (q := q) ho hp hpx hs hX hY
    exact ⟨R, so, PAt_smooth h4 h6 hX hY h1, h2, h3⟩
end
end Go.Proofs.Ytampdegpfndggaa.imageCells
