/-
  ImageCells: the painter, and the nearest sample.
-/
import Derived.Test.YtampdegpfndggaaImageE
namespace Go.Proofs.Ytampdegpfndggaa
open Go.RowKit
set_option linter.unusedVariables false
set_option maxRecDepth 20000
theorem six_bd {a b c d e f : Int} : (∀ i, i < 4 → -1048576 ≤ six a b c d e f i ∧ six a b c d e f i ≤ 1048576) ∧ (∀ i, i < 6 → -268435456 ≤ six a b c d e f i ∧ six a b c d e f i ≤ 268435456) := by
  unfold six
  split
  · rename_i h
    obtain ⟨h1, h2, h3, h4, h5, h6⟩ := matE_bd h
    refine ⟨fun i hi => ?_, fun i hi => ?_⟩
    · match i, hi with
      | 0, _ => exact h1
      | 1, _ => exact h2
      | 2, _ => exact h3
      | 3, _ => exact h4
    · match i, hi with
      | 0, _ => simp only; omega
      | 1, _ => simp only; omega
      | 2, _ => simp only; omega
      | 3, _ => simp only; omega
      | 4, _ => exact h5
      | 5, _ => exact h6
  · refine ⟨fun i hi => ?_, fun i hi => ?_⟩
    · have : i ≠ 6 := by omega
      simp [this]
    · have : i ≠ 6 := by omega
      simp [this]
theorem invL_bd {a b c d e f : Int} : (∀ i, i < 4 → -1048576 ≤ invL a b c d e f i ∧ invL a b c d e f i ≤ 1048576) ∧ (∀ i, i < 6 → -268435456 ≤ invL a b c d e f i ∧ invL a b c d e f i ≤ 268435456) := by
  unfold invL
  split
  · split
    · refine ⟨fun i hi => ?_, fun i hi => ?_⟩
      · have : i ≠ 6 := by omega
        simp [this]
      · have : i ≠ 6 := by omega
        simp [this]
    · split
      · exact six_bd
      · exact six_bd
  · refine ⟨fun i hi => ?_, fun i hi => ?_⟩
    · have : i ≠ 6 := by omega
      simp [this]
    · have : i ≠ 6 := by omega
      simp [this]
/-- A Painter, cell by cell. -/
abbrev pntA (W H : Int) (px sf : Value) (a b c d e f : Int) (s r : Bool) (V : Nat → Int) : AV :=
  .agg [.val (.int .i64 W), .val (.int .i64 H), .val px, .val sf, .val (.int .i64 a), .val (.int .i64 b), .val (.int .i64 c), .val (.int .i64 d), .val (.int .i64 e), .val (.int .i64 f), .val (.bool s), .val (.bool r), .val (.int .i64 (V 0)), .val (.int .i64 (V 1)), .val (.int .i64 (V 2)), .val (.int .i64 (V 3)), .val (.int .i64 (V 4)), .val (.int .i64 (V 5))]
section
variable {W H : Int} {A B : Option Addr} {n p m q : Nat} {a b c d e f : Int} {s r : Bool} {u v : Int} {G : Mem}
set_option maxHeartbeats 2000000 in
theorem Of_gives : Gives Try.prog 73 [imgA W H (.slice A n p) (.slice B m q) a b c d e f s r] G (pntA W H (.slice A n p) (.slice B m q) a b c d e f s r (invL a b c d e f)) := by
  have hi := Invert_gives (a := a) (b := b) (c := c) (d := d) (e := e) (f := f) (G := G)
  refine Gives_of tab_ok Try.func73 ?_
  (repeat (first | (with_reducible refine condP_true ?_) | (with_reducible refine condP_false ?_) | (with_reducible refine condP_not ?_) | (with_reducible refine condP_and ?_) | ((with_reducible refine condP_dt ?_ ?_); (· omega)) | ((with_reducible refine condP_df ?_ ?_); (· omega)) | ((with_reducible refine condP_yes ?_ ?_); (· assumption)) | ((with_reducible refine condP_no ?_ ?_); (· assumption)) | ((with_reducible refine ArP_i64 ?_ ?_); (· omega)) | ((with_reducible refine mustP.mk ?_ ?_); (· first | omega | (dsimp only; omega))) | (with_reducible refine EqP_nil tab_ok ?_) | (with_reducible refine EqP_sli tab_ok ?_) | (with_reducible refine DrawP_auto tab_ok (by kernel_rfl) (by decide +kernel) ?_) | (with_reducible refine DrawP_auto2 tab_ok (by kernel_rfl) (by decide +kernel) ?_) | (with_reducible refine eq29 ?_) | (with_reducible refine eq31 ?_) | (with_reducible refine eq48 ?_) | (with_reducible refine eq52 ?_) | (with_reducible refine eq83 ?_) | (with_reducible refine eq110 ?_) | (with_reducible refine eq136 ?_) | (with_reducible refine eq155 ?_) | (with_reducible refine eq163 ?_) | (with_reducible refine eq170 ?_) | (with_reducible refine CallP_gives (fun vs w => by kernel_rfl) (by kernel_rfl) (hi) ?_) | (with_reducible refine RCallP_gives (fun vs w => by kernel_rfl) (by kernel_rfl) (hi) ?_) | ((conv => whnf); (first | (with_reducible refine condP_true ?_) | (with_reducible refine condP_false ?_) | (with_reducible refine condP_not ?_) | (with_reducible refine condP_and ?_) | ((with_reducible refine condP_dt ?_ ?_); (· omega)) | ((with_reducible refine condP_df ?_ ?_); (· omega)) | ((with_reducible refine condP_yes ?_ ?_); (· assumption)) | ((with_reducible refine condP_no ?_ ?_); (· assumption)) | ((with_reducible refine ArP_i64 ?_ ?_); (· omega)) | ((with_reducible refine mustP.mk ?_ ?_); (· first | omega | (dsimp only; omega))) | (with_reducible refine EqP_nil tab_ok ?_) | (with_reducible refine EqP_sli tab_ok ?_) | (with_reducible refine DrawP_auto tab_ok (by kernel_rfl) (by decide +kernel) ?_) | (with_reducible refine DrawP_auto2 tab_ok (by kernel_rfl) (by decide +kernel) ?_) | (with_reducible refine eq29 ?_) | (with_reducible refine eq31 ?_) | (with_reducible refine eq48 ?_) | (with_reducible refine eq52 ?_) | (with_reducible refine eq83 ?_) | (with_reducible refine eq110 ?_) | (with_reducible refine eq136 ?_) | (with_reducible refine eq155 ?_) | (with_reducible refine eq163 ?_) | (with_reducible refine eq170 ?_) | (with_reducible refine CallP_gives (fun vs w => by kernel_rfl) (by kernel_rfl) (hi) ?_) | (with_reducible refine RCallP_gives (fun vs w => by kernel_rfl) (by kernel_rfl) (hi) ?_)))))
  exact ⟨rfl, rfl⟩
/-- The place of a cell among the samples, in parts of 8192. -/
def atS (V : Nat → Int) (x y : Int) : Int := V 0 * (2 * x + 1) + V 2 * (2 * y + 1) + 2 * V 4
def atT (V : Nat → Int) (x y : Int) : Int := V 1 * (2 * x + 1) + V 3 * (2 * y + 1) + 2 * V 5
theorem fdiv13 (z : Int) : z.fdiv (2 ^ min (Int.toNat 13) IntKind.i64.bits) = z / 8192 := by
  rw [show ((2 : Int) ^ min (Int.toNat 13) IntKind.i64.bits) = 8192 by decide]
  rw [Int.fdiv_eq_ediv_of_nonneg _ (by omega)]
theorem atS_bd {V : Nat → Int} {x y : Int} (h4 : ∀ i, i < 4 → -1048576 ≤ V i ∧ V i ≤ 1048576) (h6 : ∀ i, i < 6 → -268435456 ≤ V i ∧ V i ≤ 268435456) (hx : -8192 ≤ x ∧ x < 8192) (hy : -8192 ≤ y ∧ y < 8192) :
    ((-17179869184 ≤ V 0 * (2 * x + 1) ∧ V 0 * (2 * x + 1) ≤ 17179869184) ∧ (-17179869184 ≤ V 2 * (2 * y + 1) ∧ V 2 * (2 * y + 1) ≤ 17179869184)) ∧
    ((-17179869184 ≤ V 1 * (2 * x + 1) ∧ V 1 * (2 * x + 1) ≤ 17179869184) ∧ (-17179869184 ≤ V 3 * (2 * y + 1) ∧ V 3 * (2 * y + 1) ≤ 17179869184)) := by
  have p1 := absMul (a := V 0) (b := 2 * x + 1) (A := 1048576) (B := 16384) (h4 0 (by omega)) (by omega)
  have p2 := absMul (a := V 2) (b := 2 * y + 1) (A := 1048576) (B := 16384) (h4 2 (by omega)) (by omega)
  have p3 := absMul (a := V 1) (b := 2 * x + 1) (A := 1048576) (B := 16384) (h4 1 (by omega)) (by omega)
  have p4 := absMul (a := V 3) (b := 2 * y + 1) (A := 1048576) (B := 16384) (h4 3 (by omega)) (by omega)
  omega
set_option maxHeartbeats 2000000 in
theorem PAt_near {V : Nat → Int} {x y : Int} {I : Nat → Int} {al : Int} (h4 : ∀ i, i < 4 → -1048576 ≤ V i ∧ V i ≤ 1048576) (h6 : ∀ i, i < 6 → -268435456 ≤ V i ∧ V i ≤ 268435456) (hx : -8192 ≤ x ∧ x < 8192) (hy : -8192 ≤ y ∧ y < 8192)
    (hs : Gives Try.prog 71 [imgA W H (.slice A n p) (.slice B m q) a b c d e f false r, .val (.int .i64 (atS V x y / 8192)), .val (.int .i64 (atT V x y / 8192))] G (.tup [inksA I, .val (.int .u8 al)])) :
    Gives Try.prog 74 [pntA W H (.slice A n p) (.slice B m q) a b c d e f false r V, .val (.int .i64 x), .val (.int .i64 y)] G (.tup [inksA I, .val (.int .u8 al)]) := by
  obtain ⟨⟨b1, b2⟩, b3, b4⟩ := atS_bd h4 h6 hx hy
  have b5 := h6 4 (by omega)
  have b6 := h6 5 (by omega)
  unfold atS atT at hs
  refine Gives_of tab_ok Try.func74 ?_
  (repeat (first | (with_reducible refine condP_true ?_) | (with_reducible refine condP_false ?_) | (with_reducible refine condP_not ?_) | (with_reducible refine condP_and ?_) | ((with_reducible refine condP_dt ?_ ?_); (· omega)) | ((with_reducible refine condP_df ?_ ?_); (· omega)) | ((with_reducible refine condP_yes ?_ ?_); (· assumption)) | ((with_reducible refine condP_no ?_ ?_); (· assumption)) | ((with_reducible refine ArP_i64 ?_ ?_); (· omega)) | ((with_reducible refine mustP.mk ?_ ?_); (· first | omega | (dsimp only; omega))) | (with_reducible refine EqP_nil tab_ok ?_) | (with_reducible refine EqP_sli tab_ok ?_) | (with_reducible refine DrawP_auto tab_ok (by kernel_rfl) (by decide +kernel) ?_) | (with_reducible refine DrawP_auto2 tab_ok (by kernel_rfl) (by decide +kernel) ?_) | (with_reducible refine eq29 ?_) | (with_reducible refine eq31 ?_) | (with_reducible refine eq48 ?_) | (with_reducible refine eq52 ?_) | (with_reducible refine eq83 ?_) | (with_reducible refine eq110 ?_) | (with_reducible refine eq136 ?_) | (with_reducible refine eq155 ?_) | (with_reducible refine eq163 ?_) | (with_reducible refine eq170 ?_) | ((conv => whnf); (first | (with_reducible refine condP_true ?_) | (with_reducible refine condP_false ?_) | (with_reducible refine condP_not ?_) | (with_reducible refine condP_and ?_) | ((with_reducible refine condP_dt ?_ ?_); (· omega)) | ((with_reducible refine condP_df ?_ ?_); (· omega)) | ((with_reducible refine condP_yes ?_ ?_); (· assumption)) | ((with_reducible refine condP_no ?_ ?_); (· assumption)) | ((with_reducible refine ArP_i64 ?_ ?_); (· omega)) | ((with_reducible refine mustP.mk ?_ ?_); (· first | omega | (dsimp only; omega))) | (with_reducible refine EqP_nil tab_ok ?_) | (with_reducible refine EqP_sli tab_ok ?_) | (with_reducible refine DrawP_auto tab_ok (by kernel_rfl) (by decide +kernel) ?_) | (with_reducible refine DrawP_auto2 tab_ok (by kernel_rfl) (by decide +kernel) ?_) | (with_reducible refine eq29 ?_) | (with_reducible refine eq31 ?_) | (with_reducible refine eq48 ?_) | (with_reducible refine eq52 ?_) | (with_reducible refine eq83 ?_) | (with_reducible refine eq110 ?_) | (with_reducible refine eq136 ?_) | (with_reducible refine eq155 ?_) | (with_reducible refine eq163 ?_) | (with_reducible refine eq170 ?_)))))
  conv => whnf
  refine isP.mk _ (fdiv13 _) ?_
  (repeat (first | (with_reducible refine condP_true ?_) | (with_reducible refine condP_false ?_) | (with_reducible refine condP_not ?_) | (with_reducible refine condP_and ?_) | ((with_reducible refine condP_dt ?_ ?_); (· omega)) | ((with_reducible refine condP_df ?_ ?_); (· omega)) | ((with_reducible refine condP_yes ?_ ?_); (· assumption)) | ((with_reducible refine condP_no ?_ ?_); (· assumption)) | ((with_reducible refine ArP_i64 ?_ ?_); (· omega)) | ((with_reducible refine mustP.mk ?_ ?_); (· first | omega | (dsimp only; omega))) | (with_reducible refine EqP_nil tab_ok ?_) | (with_reducible refine EqP_sli tab_ok ?_) | (with_reducible refine DrawP_auto tab_ok (by kernel_rfl) (by decide +kernel) ?_) | (with_reducible refine DrawP_auto2 tab_ok (by kernel_rfl) (by decide +kernel) ?_) | (with_reducible refine eq29 ?_) | (with_reducible refine eq31 ?_) | (with_reducible refine eq48 ?_) | (with_reducible refine eq52 ?_) | (with_reducible refine eq83 ?_) | (with_reducible refine eq110 ?_) | (with_reducible refine eq136 ?_) | (with_reducible refine eq155 ?_) | (with_reducible refine eq163 ?_) | (with_reducible refine eq170 ?_) | ((conv => whnf); (first | (with_reducible refine condP_true ?_) | (with_reducible refine condP_false ?_) | (with_reducible refine condP_not ?_) | (with_reducible refine condP_and ?_) | ((with_reducible refine condP_dt ?_ ?_); (· omega)) | ((with_reducible refine condP_df ?_ ?_); (· omega)) | ((with_reducible refine condP_yes ?_ ?_); (· assumption)) | ((with_reducible refine condP_no ?_ ?_); (· assumption)) | ((with_reducible refine ArP_i64 ?_ ?_); (· omega)) | ((with_reducible refine mustP.mk ?_ ?_); (· first | omega | (dsimp only; omega))) | (with_reducible refine EqP_nil tab_ok ?_) | (with_reducible refine EqP_sli tab_ok ?_) | (with_reducible refine DrawP_auto tab_ok (by kernel_rfl) (by decide +kernel) ?_) | (with_reducible refine DrawP_auto2 tab_ok (by kernel_rfl) (by decide +kernel) ?_) | (with_reducible refine eq29 ?_) | (with_reducible refine eq31 ?_) | (with_reducible refine eq48 ?_) | (with_reducible refine eq52 ?_) | (with_reducible refine eq83 ?_) | (with_reducible refine eq110 ?_) | (with_reducible refine eq136 ?_) | (with_reducible refine eq155 ?_) | (with_reducible refine eq163 ?_) | (with_reducible refine eq170 ?_)))))
  conv => whnf
  refine isP.mk _ (fdiv13 _) ?_
  (repeat (first | (with_reducible refine condP_true ?_) | (with_reducible refine condP_false ?_) | (with_reducible refine condP_not ?_) | (with_reducible refine condP_and ?_) | ((with_reducible refine condP_dt ?_ ?_); (· omega)) | ((with_reducible refine condP_df ?_ ?_); (· omega)) | ((with_reducible refine condP_yes ?_ ?_); (· assumption)) | ((with_reducible refine condP_no ?_ ?_); (· assumption)) | ((with_reducible refine ArP_i64 ?_ ?_); (· omega)) | ((with_reducible refine mustP.mk ?_ ?_); (· first | omega | (dsimp only; omega))) | (with_reducible refine EqP_nil tab_ok ?_) | (with_reducible refine EqP_sli tab_ok ?_) | (with_reducible refine DrawP_auto tab_ok (by kernel_rfl) (by decide +kernel) ?_) | (with_reducible refine DrawP_auto2 tab_ok (by kernel_rfl) (by decide +kernel) ?_) | (with_reducible refine eq29 ?_) | (with_reducible refine eq31 ?_) | (with_reducible refine eq48 ?_) | (with_reducible refine eq52 ?_) | (with_reducible refine eq83 ?_) | (with_reducible refine eq110 ?_) | (with_reducible refine eq136 ?_) | (with_reducible refine eq155 ?_) | (with_reducible refine eq163 ?_) | (with_reducible refine eq170 ?_) | (with_reducible refine CallP_gives (fun vs w => by kernel_rfl) (by kernel_rfl) (hs) ?_) | (with_reducible refine RCallP_gives (fun vs w => by kernel_rfl) (by kernel_rfl) (hs) ?_) | ((conv => whnf); (first | (with_reducible refine condP_true ?_) | (with_reducible refine condP_false ?_) | (with_reducible refine condP_not ?_) | (with_reducible refine condP_and ?_) | ((with_reducible refine condP_dt ?_ ?_); (· omega)) | ((with_reducible refine condP_df ?_ ?_); (· omega)) | ((with_reducible refine condP_yes ?_ ?_); (· assumption)) | ((with_reducible refine condP_no ?_ ?_); (· assumption)) | ((with_reducible refine ArP_i64 ?_ ?_); (· omega)) | ((with_reducible refine mustP.mk ?_ ?_); (· first | omega | (dsimp only; omega))) | (with_reducible refine EqP_nil tab_ok ?_) | (with_reducible refine EqP_sli tab_ok ?_) | (with_reducible refine DrawP_auto tab_ok (by kernel_rfl) (by decide +kernel) ?_) | (with_reducible refine DrawP_auto2 tab_ok (by kernel_rfl) (by decide +kernel) ?_) | (with_reducible refine eq29 ?_) | (with_reducible refine eq31 ?_) | (with_reducible refine eq48 ?_) | (with_reducible refine eq52 ?_) | (with_reducible refine eq83 ?_) | (with_reducible refine eq110 ?_) | (with_reducible refine eq136 ?_) | (with_reducible refine eq155 ?_) | (with_reducible refine eq163 ?_) | (with_reducible refine eq170 ?_) | (with_reducible refine CallP_gives (fun vs w => by kernel_rfl) (by kernel_rfl) (hs) ?_) | (with_reducible refine RCallP_gives (fun vs w => by kernel_rfl) (by kernel_rfl) (hs) ?_)))))
  exact ⟨rfl, rfl⟩
end
end Go.Proofs.Ytampdegpfndggaa
