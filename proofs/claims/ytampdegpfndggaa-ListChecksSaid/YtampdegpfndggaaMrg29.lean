/-
  Merged: XPlaces, XInvE.
-/
import Derived.Test.YtampdegpfndggaaMrg28
import Derived.Test.YtampdegpfndggaaMrg22
import Derived.Test.YtampdegpfndggaaMrg26
import Derived.Test.YtampdegpfndggaaMrg25
import Derived.Test.YtampdegpfndggaaMrg27
namespace Go.Proofs.Ytampdegpfndggaa.gradientPlaces
open Go.RowKit Go.Proofs.Ytampdegpfndggaa.gradientRamps
set_option linter.unusedVariables false
set_option maxRecDepth 20000

theorem src_rel {k : Int} {I : Nat → Int} {fx fy tx ty r : Int} {st : Value} {W H : Int} {px sf : Value} {a b c d e f : Int} {s t : Bool} {β : Nm} :
    AV.rels β [srcA k I fx fy tx ty r st W H px sf a b c d e f s t] [.agg #[.int .i64 k, .int .u8 (I 0), .int .u8 (I 1), .int .u8 (I 2), .int .u8 (I 3), .int .u8 (I 4), .int .u8 (I 5), .int .u8 (I 6), .int .u8 (I 7), .int .i64 fx, .int .i64 fy, .int .i64 tx, .int .i64 ty, .int .i64 r, st, .int .i64 W, .int .i64 H, px, sf, .int .i64 a, .int .i64 b, .int .i64 c, .int .i64 d, .int .i64 e, .int .i64 f, .bool s, .bool t]] := by
  rw [AV.rels]
  refine ⟨_, [], rfl, ?_, by rw [AV.rels]⟩
  unfold srcA
  rw [AV.rel]
  exact ⟨_, rfl, rels_map_val (β := β) [.int .i64 k, .int .u8 (I 0), .int .u8 (I 1), .int .u8 (I 2), .int .u8 (I 3), .int .u8 (I 4), .int .u8 (I 5), .int .u8 (I 6), .int .u8 (I 7), .int .i64 fx, .int .i64 fy, .int .i64 tx, .int .i64 ty, .int .i64 r, st, .int .i64 W, .int .i64 H, px, sf, .int .i64 a, .int .i64 b, .int .i64 c, .int .i64 d, .int .i64 e, .int .i64 f, .bool s, .bool t]⟩
theorem src_is {k : Int} {I : Nat → Int} {fx fy tx ty r : Int} {st : Value} {W H : Int} {px sf : Value} {a b c d e f : Int} {s t : Bool} {β : Nm} (vs : List Value)
    (h : AV.rels β [srcA k I fx fy tx ty r st W H px sf a b c d e f s t] vs) : vs = [.agg #[.int .i64 k, .int .u8 (I 0), .int .u8 (I 1), .int .u8 (I 2), .int .u8 (I 3), .int .u8 (I 4), .int .u8 (I 5), .int .u8 (I 6), .int .u8 (I 7), .int .i64 fx, .int .i64 fy, .int .i64 tx, .int .i64 ty, .int .i64 r, st, .int .i64 W, .int .i64 H, px, sf, .int .i64 a, .int .i64 b, .int .i64 c, .int .i64 d, .int .i64 e, .int .i64 f, .bool s, .bool t]] := by
  unfold srcA at h
  simp only [AV.rels] at h
  obtain ⟨y, zs, rfl, h2, rfl⟩ := h
  rw [AV.rel] at h2
  obtain ⟨cs, rfl, h3⟩ := h2
  have := rels_plain (m := [.int .i64 k, .int .u8 (I 0), .int .u8 (I 1), .int .u8 (I 2), .int .u8 (I 3), .int .u8 (I 4), .int .u8 (I 5), .int .u8 (I 6), .int .u8 (I 7), .int .i64 fx, .int .i64 fy, .int .i64 tx, .int .i64 ty, .int .i64 r, st, .int .i64 W, .int .i64 H, px, sf, .int .i64 a, .int .i64 b, .int .i64 c, .int .i64 d, .int .i64 e, .int .i64 f, .bool s, .bool t]) h3
  rw [show cs = ([.int .i64 k, .int .u8 (I 0), .int .u8 (I 1), .int .u8 (I 2), .int .u8 (I 3), .int .u8 (I 4), .int .u8 (I 5), .int .u8 (I 6), .int .u8 (I 7), .int .i64 fx, .int .i64 fy, .int .i64 tx, .int .i64 ty, .int .i64 r, st, .int .i64 W, .int .i64 H, px, sf, .int .i64 a, .int .i64 b, .int .i64 c, .int .i64 d, .int .i64 e, .int .i64 f, .bool s, .bool t]).toArray by rw [← this]]

theorem Check_gives {k : Int} {I : Nat → Int} {fx fy tx ty r : Int} {A : Option Addr} {n q : Nat} {g : Nat → Nat → Value} {W H : Int} {B : Option Addr} {pn pq : Nat} {C : Option Addr} {sn sq : Nat} {a b c d e f : Int} {s t : Bool} {w : World} (hn : n ≤ q ∧ q ≤ 9223372036854775807) (h : SliceG Try.prog w 110 A n g) :
    Gives Try.prog 65 [srcA k I fx fy tx ty r (.slice A n q) W H (.slice B pn pq) (.slice C sn sq) a b c d e f s t] (memOf w) (.val (.int .i64 (gradE k (inkZ (I 0) (I 1) (I 2) (I 3) (I 4) (I 5) (I 6) (I 7) && plainB W H pn sn a b c d e f s t) fx fy tx ty r (stopsE (fun x => valI (g x 0)) n)))) :=
  Gives.of_callsA (fun vs h => src_is vs h) (by rw [AV.rel]) fun w' hw => GCheck_any k (I 0) (I 1) (I 2) (I 3) (I 4) (I 5) (I 6) (I 7) fx fy tx ty r A n q g W H B C pn pq sn sq a b c d e f s t w' hn (h.holds hw)
theorem RCheck_gives {k : Int} {I : Nat → Int} {fx fy tx ty r : Int} {A : Option Addr} {n q : Nat} {g : Nat → Nat → Value} {W H : Int} {B : Option Addr} {pn pq : Nat} {C : Option Addr} {sn sq : Nat} {a b c d e f : Int} {s t : Bool} {w : World} (hn : n ≤ q ∧ q ≤ 9223372036854775807) (h : SliceG Try.prog w 110 A n g) :
    Gives Try.prog 31 [srcA k I fx fy tx ty r (.slice A n q) W H (.slice B pn pq) (.slice C sn sq) a b c d e f s t] (memOf w) (.val (.int .i64 (gradE k (inkZ (I 0) (I 1) (I 2) (I 3) (I 4) (I 5) (I 6) (I 7) && plainB W H pn sn a b c d e f s t) fx fy tx ty r (stopsE (fun x => valI (g x 0)) n)))) :=
  Gives.of_callsA (fun vs h => src_is vs h) (by rw [AV.rel]) fun w' hw => RGCheck_any k (I 0) (I 1) (I 2) (I 3) (I 4) (I 5) (I 6) (I 7) fx fy tx ty r A n q g W H B C pn pq sn sq a b c d e f s t w' hn (h.holds hw)
theorem gradE_ok {k : Int} {z : Bool} {fx fy tx ty r st x y : Int} (h : gradE k z fx fy tx ty r st = 0) (hx : -8192 ≤ x ∧ x < 8192) (hy : -8192 ≤ y ∧ y < 8192) : InPlace k fx fy tx ty r x y ∧ st = 0 := by
  unfold gradE at h
  split at h
  · rename_i h1
    split at h
    · omega
    · split at h
      · omega
      · split at h
        · omega
        · split at h
          · omega
          · rename_i h2 h3
            simp only [not_or, Bool.not_eq_false] at h2
            obtain ⟨a1, a2⟩ := h2
            simp only [ptB, Bool.and_eq_true] at a1 a2
            exact ⟨⟨.inl h1, inB_iff.1 a1.1, inB_iff.1 a1.2, fun _ => inB_iff.1 a2.1, fun _ => inB_iff.1 a2.2, fun _ => by omega, fun e => by omega, hx, hy⟩, h⟩
  · split at h
    · rename_i h1
      split at h
      · omega
      · split at h
        · omega
        · split at h
          · omega
          · rename_i h2
            simp only [not_or, Bool.not_eq_false] at h2
            obtain ⟨a1, a2, a3⟩ := h2
            simp only [ptB, Bool.and_eq_true] at a1
            exact ⟨⟨.inr h1, inB_iff.1 a1.1, inB_iff.1 a1.2, fun e => by omega, fun e => by omega, fun e => by omega, fun _ => by omega, hx, hy⟩, h⟩
    · omega

section
variable {k : Int} {I : Nat → Int} {fx fy tx ty r : Int} {A : Option Addr} {n q : Nat} {g : Nat → Nat → Value} {W H : Int} {B : Option Addr} {pn pq : Nat} {C : Option Addr} {sn sq : Nat} {a b c d e f : Int} {s t : Bool} {w : World} {e0 : Int} {x y : Int}
set_option maxHeartbeats 2000000 in
theorem Place_err (hc : Gives Try.prog 65 [srcA k I fx fy tx ty r (.slice A n q) W H (.slice B pn pq) (.slice C sn sq) a b c d e f s t] (memOf w) (.val (.int .i64 e0))) (he : e0 ≠ 0) :
    Gives Try.prog 29 [srcA k I fx fy tx ty r (.slice A n q) W H (.slice B pn pq) (.slice C sn sq) a b c d e f s t, .val (.int .i64 x), .val (.int .i64 y)] (memOf w) (.tup [.val (.int .i64 0), .val (.int .i64 e0)]) := by
  refine Gives_of tab_ok Try.func29 ?_
  (repeat ((try (conv => whnf)); (first | (with_reducible refine condP_true ?_) | (with_reducible refine condP_false ?_) | (with_reducible refine condP_not ?_) | (with_reducible refine condP_and ?_) | ((with_reducible refine condP_dt ?_ ?_); (· omega)) | ((with_reducible refine condP_df ?_ ?_); (· omega)) | ((with_reducible refine condP_yes ?_ ?_); (· assumption)) | ((with_reducible refine condP_no ?_ ?_); (· assumption)) | ((with_reducible refine ArP_i64 ?_ ?_); (· omega)) | ((with_reducible refine mustP.mk ?_ ?_); (· first | omega | rfl | (dsimp only; omega))) | (with_reducible refine EqP_nil tab_ok ?_) | (with_reducible refine EqP_sli tab_ok ?_) | (with_reducible refine DrawP_auto tab_ok (by kernel_rfl) (by decide +kernel) ?_) | (with_reducible refine DrawP_auto2 tab_ok (by kernel_rfl) (by decide +kernel) ?_) | (with_reducible refine eq29 ?_) | (with_reducible refine eq31 ?_) | (with_reducible refine eq48 ?_) | (with_reducible refine eq52 ?_) | (with_reducible refine eq83 ?_) | (with_reducible refine eq110 ?_) | (with_reducible refine eq136 ?_) | (with_reducible refine eq155 ?_) | (with_reducible refine eq163 ?_) | (with_reducible refine eq170 ?_) | (with_reducible refine CallP_gives (fun vs w => by kernel_rfl) (by kernel_rfl) (hc) ?_) | (with_reducible refine RCallP_gives (fun vs w => by kernel_rfl) (by kernel_rfl) (hc) ?_))))
  exact ⟨rfl, rfl⟩
set_option maxHeartbeats 2000000 in
theorem Place_out (hc : Gives Try.prog 65 [srcA k I fx fy tx ty r (.slice A n q) W H (.slice B pn pq) (.slice C sn sq) a b c d e f s t] (memOf w) (.val (.int .i64 0))) (h : x < -8192 ∨ 8192 ≤ x ∨ y < -8192 ∨ 8192 ≤ y) :
    Gives Try.prog 29 [srcA k I fx fy tx ty r (.slice A n q) W H (.slice B pn pq) (.slice C sn sq) a b c d e f s t, .val (.int .i64 x), .val (.int .i64 y)] (memOf w) (.tup [.val (.int .i64 0), .val (.int .i64 3)]) := by
  refine Gives_of tab_ok Try.func29 ?_
  by_cases h1 : x < -8192
  · (repeat ((try (conv => whnf)); (first | (with_reducible refine condP_true ?_) | (with_reducible refine condP_false ?_) | (with_reducible refine condP_not ?_) | (with_reducible refine condP_and ?_) | ((with_reducible refine condP_dt ?_ ?_); (· omega)) | ((with_reducible refine condP_df ?_ ?_); (· omega)) | ((with_reducible refine condP_yes ?_ ?_); (· assumption)) | ((with_reducible refine condP_no ?_ ?_); (· assumption)) | ((with_reducible refine ArP_i64 ?_ ?_); (· omega)) | ((with_reducible refine mustP.mk ?_ ?_); (· first | omega | rfl | (dsimp only; omega))) | (with_reducible refine EqP_nil tab_ok ?_) | (with_reducible refine EqP_sli tab_ok ?_) | (with_reducible refine DrawP_auto tab_ok (by kernel_rfl) (by decide +kernel) ?_) | (with_reducible refine DrawP_auto2 tab_ok (by kernel_rfl) (by decide +kernel) ?_) | (with_reducible refine eq29 ?_) | (with_reducible refine eq31 ?_) | (with_reducible refine eq48 ?_) | (with_reducible refine eq52 ?_) | (with_reducible refine eq83 ?_) | (with_reducible refine eq110 ?_) | (with_reducible refine eq136 ?_) | (with_reducible refine eq155 ?_) | (with_reducible refine eq163 ?_) | (with_reducible refine eq170 ?_) | (with_reducible refine CallP_gives (fun vs w => by kernel_rfl) (by kernel_rfl) (hc) ?_) | (with_reducible refine RCallP_gives (fun vs w => by kernel_rfl) (by kernel_rfl) (hc) ?_))))
    exact ⟨rfl, rfl⟩
  by_cases h2 : 8192 ≤ x
  · (repeat ((try (conv => whnf)); (first | (with_reducible refine condP_true ?_) | (with_reducible refine condP_false ?_) | (with_reducible refine condP_not ?_) | (with_reducible refine condP_and ?_) | ((with_reducible refine condP_dt ?_ ?_); (· omega)) | ((with_reducible refine condP_df ?_ ?_); (· omega)) | ((with_reducible refine condP_yes ?_ ?_); (· assumption)) | ((with_reducible refine condP_no ?_ ?_); (· assumption)) | ((with_reducible refine ArP_i64 ?_ ?_); (· omega)) | ((with_reducible refine mustP.mk ?_ ?_); (· first | omega | rfl | (dsimp only; omega))) | (with_reducible refine EqP_nil tab_ok ?_) | (with_reducible refine EqP_sli tab_ok ?_) | (with_reducible refine DrawP_auto tab_ok (by kernel_rfl) (by decide +kernel) ?_) | (with_reducible refine DrawP_auto2 tab_ok (by kernel_rfl) (by decide +kernel) ?_) | (with_reducible refine eq29 ?_) | (with_reducible refine eq31 ?_) | (with_reducible refine eq48 ?_) | (with_reducible refine eq52 ?_) | (with_reducible refine eq83 ?_) | (with_reducible refine eq110 ?_) | (with_reducible refine eq136 ?_) | (with_reducible refine eq155 ?_) | (with_reducible refine eq163 ?_) | (with_reducible refine eq170 ?_) | (with_reducible refine CallP_gives (fun vs w => by kernel_rfl) (by kernel_rfl) (hc) ?_) | (with_reducible refine RCallP_gives (fun vs w => by kernel_rfl) (by kernel_rfl) (hc) ?_))))
    exact ⟨rfl, rfl⟩
  by_cases h3 : y < -8192
  · (repeat ((try (conv => whnf)); (first | (with_reducible refine condP_true ?_) | (with_reducible refine condP_false ?_) | (with_reducible refine condP_not ?_) | (with_reducible refine condP_and ?_) | ((with_reducible refine condP_dt ?_ ?_); (· omega)) | ((with_reducible refine condP_df ?_ ?_); (· omega)) | ((with_reducible refine condP_yes ?_ ?_); (· assumption)) | ((with_reducible refine condP_no ?_ ?_); (· assumption)) | ((with_reducible refine ArP_i64 ?_ ?_); (· omega)) | ((with_reducible refine mustP.mk ?_ ?_); (· first | omega | rfl | (dsimp only; omega))) | (with_reducible refine EqP_nil tab_ok ?_) | (with_reducible refine EqP_sli tab_ok ?_) | (with_reducible refine DrawP_auto tab_ok (by kernel_rfl) (by decide +kernel) ?_) | (with_reducible refine DrawP_auto2 tab_ok (by kernel_rfl) (by decide +kernel) ?_) | (with_reducible refine eq29 ?_) | (with_reducible refine eq31 ?_) | (with_reducible refine eq48 ?_) | (with_reducible refine eq52 ?_) | (with_reducible refine eq83 ?_) | (with_reducible refine eq110 ?_) | (with_reducible refine eq136 ?_) | (with_reducible refine eq155 ?_) | (with_reducible refine eq163 ?_) | (with_reducible refine eq170 ?_) | (with_reducible refine CallP_gives (fun vs w => by kernel_rfl) (by kernel_rfl) (hc) ?_) | (with_reducible refine RCallP_gives (fun vs w => by kernel_rfl) (by kernel_rfl) (hc) ?_))))
    exact ⟨rfl, rfl⟩
  · (repeat ((try (conv => whnf)); (first | (with_reducible refine condP_true ?_) | (with_reducible refine condP_false ?_) | (with_reducible refine condP_not ?_) | (with_reducible refine condP_and ?_) | ((with_reducible refine condP_dt ?_ ?_); (· omega)) | ((with_reducible refine condP_df ?_ ?_); (· omega)) | ((with_reducible refine condP_yes ?_ ?_); (· assumption)) | ((with_reducible refine condP_no ?_ ?_); (· assumption)) | ((with_reducible refine ArP_i64 ?_ ?_); (· omega)) | ((with_reducible refine mustP.mk ?_ ?_); (· first | omega | rfl | (dsimp only; omega))) | (with_reducible refine EqP_nil tab_ok ?_) | (with_reducible refine EqP_sli tab_ok ?_) | (with_reducible refine DrawP_auto tab_ok (by kernel_rfl) (by decide +kernel) ?_) | (with_reducible refine DrawP_auto2 tab_ok (by kernel_rfl) (by decide +kernel) ?_) | (with_reducible refine eq29 ?_) | (with_reducible refine eq31 ?_) | (with_reducible refine eq48 ?_) | (with_reducible refine eq52 ?_) | (with_reducible refine eq83 ?_) | (with_reducible refine eq110 ?_) | (with_reducible refine eq136 ?_) | (with_reducible refine eq155 ?_) | (with_reducible refine eq163 ?_) | (with_reducible refine eq170 ?_) | (with_reducible refine CallP_gives (fun vs w => by kernel_rfl) (by kernel_rfl) (hc) ?_) | (with_reducible refine RCallP_gives (fun vs w => by kernel_rfl) (by kernel_rfl) (hc) ?_))))
    exact ⟨rfl, rfl⟩
set_option maxHeartbeats 2000000 in
theorem Place_ok (hc : Gives Try.prog 65 [srcA k I fx fy tx ty r (.slice A n q) W H (.slice B pn pq) (.slice C sn sq) a b c d e f s t] (memOf w) (.val (.int .i64 0))) (h : InPlace k fx fy tx ty r x y) :
    Gives Try.prog 29 [srcA k I fx fy tx ty r (.slice A n q) W H (.slice B pn pq) (.slice C sn sq) a b c d e f s t, .val (.int .i64 x), .val (.int .i64 y)] (memOf w) (.tup [.val (.int .i64 (placeV k fx fy tx ty r x y)), .val (.int .i64 0)]) := by
  have hp := place_gives (I := I) (st := .slice A n q) (W := W) (H := H) (px := .slice B pn pq) (sf := .slice C sn sq) (a := a) (b := b) (c := c) (d := d) (e := e) (f := f) (s := s) (t := t) (G := memOf w) h
  have hx := h.hx
  have hy := h.hy
  refine Gives_of tab_ok Try.func29 ?_
  (repeat ((try (conv => whnf)); (first | (with_reducible refine condP_true ?_) | (with_reducible refine condP_false ?_) | (with_reducible refine condP_not ?_) | (with_reducible refine condP_and ?_) | ((with_reducible refine condP_dt ?_ ?_); (· omega)) | ((with_reducible refine condP_df ?_ ?_); (· omega)) | ((with_reducible refine condP_yes ?_ ?_); (· assumption)) | ((with_reducible refine condP_no ?_ ?_); (· assumption)) | ((with_reducible refine ArP_i64 ?_ ?_); (· omega)) | ((with_reducible refine mustP.mk ?_ ?_); (· first | omega | rfl | (dsimp only; omega))) | (with_reducible refine EqP_nil tab_ok ?_) | (with_reducible refine EqP_sli tab_ok ?_) | (with_reducible refine DrawP_auto tab_ok (by kernel_rfl) (by decide +kernel) ?_) | (with_reducible refine DrawP_auto2 tab_ok (by kernel_rfl) (by decide +kernel) ?_) | (with_reducible refine eq29 ?_) | (with_reducible refine eq31 ?_) | (with_reducible refine eq48 ?_) | (with_reducible refine eq52 ?_) | (with_reducible refine eq83 ?_) | (with_reducible refine eq110 ?_) | (with_reducible refine eq136 ?_) | (with_reducible refine eq155 ?_) | (with_reducible refine eq163 ?_) | (with_reducible refine eq170 ?_) | (with_reducible refine CallP_gives (fun vs w => by kernel_rfl) (by kernel_rfl) (hc) ?_) | (with_reducible refine RCallP_gives (fun vs w => by kernel_rfl) (by kernel_rfl) (hc) ?_) | (with_reducible refine CallP_gives (fun vs w => by kernel_rfl) (by kernel_rfl) (hp) ?_) | (with_reducible refine RCallP_gives (fun vs w => by kernel_rfl) (by kernel_rfl) (hp) ?_))))
  exact ⟨rfl, rfl⟩
set_option maxHeartbeats 2000000 in
theorem At_err (hc : Gives Try.prog 29 [srcA k I fx fy tx ty r (.slice A n q) W H (.slice B pn pq) (.slice C sn sq) a b c d e f s t, .val (.int .i64 x), .val (.int .i64 y)] (memOf w) (.tup [.val (.int .i64 0), .val (.int .i64 e0)])) (he : e0 ≠ 0) :
    Gives Try.prog 30 [srcA k I fx fy tx ty r (.slice A n q) W H (.slice B pn pq) (.slice C sn sq) a b c d e f s t, .val (.int .i64 x), .val (.int .i64 y)] (memOf w) (.tup [inks fun _ => 0, .val (.int .i64 e0)]) := by
  refine Gives_of tab_ok Try.func30 ?_
  (repeat ((try (conv => whnf)); (first | (with_reducible refine condP_true ?_) | (with_reducible refine condP_false ?_) | (with_reducible refine condP_not ?_) | (with_reducible refine condP_and ?_) | ((with_reducible refine condP_dt ?_ ?_); (· omega)) | ((with_reducible refine condP_df ?_ ?_); (· omega)) | ((with_reducible refine condP_yes ?_ ?_); (· assumption)) | ((with_reducible refine condP_no ?_ ?_); (· assumption)) | ((with_reducible refine ArP_i64 ?_ ?_); (· omega)) | ((with_reducible refine mustP.mk ?_ ?_); (· first | omega | rfl | (dsimp only; omega))) | (with_reducible refine EqP_nil tab_ok ?_) | (with_reducible refine EqP_sli tab_ok ?_) | (with_reducible refine DrawP_auto tab_ok (by kernel_rfl) (by decide +kernel) ?_) | (with_reducible refine DrawP_auto2 tab_ok (by kernel_rfl) (by decide +kernel) ?_) | (with_reducible refine eq29 ?_) | (with_reducible refine eq31 ?_) | (with_reducible refine eq48 ?_) | (with_reducible refine eq52 ?_) | (with_reducible refine eq83 ?_) | (with_reducible refine eq110 ?_) | (with_reducible refine eq136 ?_) | (with_reducible refine eq155 ?_) | (with_reducible refine eq163 ?_) | (with_reducible refine eq170 ?_) | (with_reducible refine CallP_gives (fun vs w => by kernel_rfl) (by kernel_rfl) (hc) ?_) | (with_reducible refine RCallP_gives (fun vs w => by kernel_rfl) (by kernel_rfl) (hc) ?_))))
  exact ⟨rfl, rfl⟩
set_option maxHeartbeats 2000000 in
theorem At_ok {p : Int} {V : Nat → Int} (hc : Gives Try.prog 29 [srcA k I fx fy tx ty r (.slice A n q) W H (.slice B pn pq) (.slice C sn sq) a b c d e f s t, .val (.int .i64 x), .val (.int .i64 y)] (memOf w) (.tup [.val (.int .i64 p), .val (.int .i64 0)]))
    (hr : Gives Try.prog 64 [.val (.slice A n q), .val (.int .i64 p)] (memOf w) (inks V)) :
    Gives Try.prog 30 [srcA k I fx fy tx ty r (.slice A n q) W H (.slice B pn pq) (.slice C sn sq) a b c d e f s t, .val (.int .i64 x), .val (.int .i64 y)] (memOf w) (.tup [inks V, .val (.int .i64 0)]) := by
  refine Gives_of tab_ok Try.func30 ?_
  (repeat ((try (conv => whnf)); (first | (with_reducible refine condP_true ?_) | (with_reducible refine condP_false ?_) | (with_reducible refine condP_not ?_) | (with_reducible refine condP_and ?_) | ((with_reducible refine condP_dt ?_ ?_); (· omega)) | ((with_reducible refine condP_df ?_ ?_); (· omega)) | ((with_reducible refine condP_yes ?_ ?_); (· assumption)) | ((with_reducible refine condP_no ?_ ?_); (· assumption)) | ((with_reducible refine ArP_i64 ?_ ?_); (· omega)) | ((with_reducible refine mustP.mk ?_ ?_); (· first | omega | rfl | (dsimp only; omega))) | (with_reducible refine EqP_nil tab_ok ?_) | (with_reducible refine EqP_sli tab_ok ?_) | (with_reducible refine DrawP_auto tab_ok (by kernel_rfl) (by decide +kernel) ?_) | (with_reducible refine DrawP_auto2 tab_ok (by kernel_rfl) (by decide +kernel) ?_) | (with_reducible refine eq29 ?_) | (with_reducible refine eq31 ?_) | (with_reducible refine eq48 ?_) | (with_reducible refine eq52 ?_) | (with_reducible refine eq83 ?_) | (with_reducible refine eq110 ?_) | (with_reducible refine eq136 ?_) | (with_reducible refine eq155 ?_) | (with_reducible refine eq163 ?_) | (with_reducible refine eq170 ?_) | (with_reducible refine CallP_gives (fun vs w => by kernel_rfl) (by kernel_rfl) (hc) ?_) | (with_reducible refine RCallP_gives (fun vs w => by kernel_rfl) (by kernel_rfl) (hc) ?_) | (with_reducible refine CallP_gives (fun vs w => by kernel_rfl) (by kernel_rfl) (hr) ?_) | (with_reducible refine RCallP_gives (fun vs w => by kernel_rfl) (by kernel_rfl) (hr) ?_))))
  exact ⟨rfl, rfl⟩
theorem ramp_gives {t' : Int} (h : SliceG Try.prog w 110 A n g) (he : stopsE (fun x => valI (g x 0)) n = 0) (ht : 0 ≤ t' ∧ t' ≤ 65536) :
    Gives Try.prog 64 [.val (.slice A n q), .val (.int .i64 t')] (memOf w) (inks (rampV n (fun x => valI (g x 0)) (fun x j => valI (g x (j + 1))) t')) := by
  refine Gives.of_callsA args2 (agg_inks _) fun w' hw => ?_
  obtain ⟨b, off, rfl, h1, h2⟩ := stop_info (h.holds hw) (by have := (stops_ok he).1; omega)
  exact (ramp_any b off n q _ _ _ t' w' (stops_ok he).1 ht (stops_ok he).2 h2 h1 fun j hj => rfl).1
theorem placeV_in : 0 ≤ placeV k fx fy tx ty r x y ∧ placeV k fx fy tx ty r x y ≤ 65536 := by
  unfold placeV; generalize (if k = 1 then _ else _ : Int) = z; omega
end
end Go.Proofs.Ytampdegpfndggaa.gradientPlaces

namespace Go.Proofs.Ytampdegpfndggaa
open Go.RowKit
set_option linter.unusedVariables false
set_option maxRecDepth 20000
def matA (V : Nat → Int) : AV := .agg [.val (.int .i64 (V 0)), .val (.int .i64 (V 1)), .val (.int .i64 (V 2)), .val (.int .i64 (V 3)), .val (.int .i64 (V 4)), .val (.int .i64 (V 5))]
theorem mat_is {a b c d e f : Int} {β : Nm} (vs : List Value) (h : AV.rels β [.agg [.val (.int .i64 a), .val (.int .i64 b), .val (.int .i64 c), .val (.int .i64 d), .val (.int .i64 e), .val (.int .i64 f)]] vs) :
    vs = [.agg #[.int .i64 a, .int .i64 b, .int .i64 c, .int .i64 d, .int .i64 e, .int .i64 f]] := by
  simp only [AV.rels] at h
  obtain ⟨y, zs, rfl, h2, rfl⟩ := h
  rw [AV.rel] at h2
  obtain ⟨cs, rfl, h3⟩ := h2
  have := rels_plain (m := [.int .i64 a, .int .i64 b, .int .i64 c, .int .i64 d, .int .i64 e, .int .i64 f]) h3
  rw [show cs = ([.int .i64 a, .int .i64 b, .int .i64 c, .int .i64 d, .int .i64 e, .int .i64 f] : List Value).toArray by rw [← this]]
theorem seven_rel {β : Nm} (V : Nat → Int) : (AV.tup [matA V, .val (.int .i64 (V 6))]).rel β (sevenI V) := by
  have h : (matA V).rel β (.agg #[.int .i64 (V 0), .int .i64 (V 1), .int .i64 (V 2), .int .i64 (V 3), .int .i64 (V 4), .int .i64 (V 5)]) := by
    unfold matA; rw [AV.rel]
    exact ⟨_, rfl, rels_map_val (β := β) [.int .i64 (V 0), .int .i64 (V 1), .int .i64 (V 2), .int .i64 (V 3), .int .i64 (V 4), .int .i64 (V 5)]⟩
  unfold sevenI
  simp only [AV.rel, AV.rels]
  exact ⟨_, rfl, _, _, rfl, h, _, [], rfl, rfl, rfl⟩
theorem Invert_gives {a b c d e f : Int} {G : Mem} : Gives Try.prog 105 [.agg [.val (.int .i64 a), .val (.int .i64 b), .val (.int .i64 c), .val (.int .i64 d), .val (.int .i64 e), .val (.int .i64 f)]] G (.tup [matA (invL a b c d e f), .val (.int .i64 (invL a b c d e f 6))]) :=
  Gives.of_callsA (fun vs h => mat_is vs h) (seven_rel _) fun w' _ => Invert_any a b c d e f w'
theorem RInvert_gives {a b c d e f : Int} {G : Mem} : Gives Try.prog 72 [.agg [.val (.int .i64 a), .val (.int .i64 b), .val (.int .i64 c), .val (.int .i64 d), .val (.int .i64 e), .val (.int .i64 f)]] G (.tup [matA (invL a b c d e f), .val (.int .i64 (invL a b c d e f 6))]) :=
  Gives.of_callsA (fun vs h => mat_is vs h) (seven_rel _) fun w' _ => RInvert_any a b c d e f w'
theorem Inv16 {G : Mem} : Gives Try.prog 105 [.agg [.val (.int .i64 (4096 * 16)), .val (.int .i64 0), .val (.int .i64 0), .val (.int .i64 (4096 * 16)), .val (.int .i64 (4096 * 0)), .val (.int .i64 (4096 * 0))]] G (.tup [.agg [.val (.int .i64 256), .val (.int .i64 0), .val (.int .i64 0), .val (.int .i64 256), .val (.int .i64 0), .val (.int .i64 0)], .val (.int .i64 0)]) := by
  have h := Invert_gives (a := 4096 * 16) (b := 0) (c := 0) (d := 4096 * 16) (e := 4096 * 0) (f := 4096 * 0) (G := G)
  have e : ∀ i, i < 7 → invL (4096 * 16) 0 0 (4096 * 16) (4096 * 0) (4096 * 0) i = [256, 0, 0, 256, 0, 0, 0].getD i 0 := by decide +kernel
  unfold matA at h
  rw [e 0 (by omega), e 1 (by omega), e 2 (by omega), e 3 (by omega), e 4 (by omega), e 5 (by omega), e 6 (by omega)] at h
  exact h
end Go.Proofs.Ytampdegpfndggaa
