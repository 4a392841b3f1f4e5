/-
  Merged: XImageE, XListS.
-/
import Derived.Test.YtampdegpfndggaaMrg30
import Derived.Test.YtampdegpfndggaaMrg29
namespace Go.Proofs.Ytampdegpfndggaa
open Go.RowKit
set_option linter.unusedVariables false
set_option maxRecDepth 20000
/-- No ink. -/
abbrev ink0 : AV := .agg [.val (.int .u8 0), .val (.int .u8 0), .val (.int .u8 0), .val (.int .u8 0), .val (.int .u8 0), .val (.int .u8 0), .val (.int .u8 0), .val (.int .u8 0)]
section
variable {W H : Int} {A B : Option Addr} {n p m q : Nat} {a b c d e f : Int} {s r : Bool} {u v : Int} {w : World} {g h : Nat → Nat → Value}
theorem img_is {β : Nm} (vs : List Value) (h : AV.rels β [imgA W H (.slice A n p) (.slice B m q) a b c d e f s r] vs) : vs = [.agg #[.int .i64 W, .int .i64 H, .slice A n p, .slice B m q, .int .i64 a, .int .i64 b, .int .i64 c, .int .i64 d, .int .i64 e, .int .i64 f, .bool s, .bool r]] := by
  simp only [AV.rels] at h
  obtain ⟨y, zs, rfl, h2, rfl⟩ := h
  rw [AV.rel] at h2
  obtain ⟨cs, rfl, h3⟩ := h2
  have := rels_plain (m := [.int .i64 W, .int .i64 H, .slice A n p, .slice B m q, .int .i64 a, .int .i64 b, .int .i64 c, .int .i64 d, .int .i64 e, .int .i64 f, .bool s, .bool r]) h3
  rw [show cs = ([.int .i64 W, .int .i64 H, .slice A n p, .slice B m q, .int .i64 a, .int .i64 b, .int .i64 c, .int .i64 d, .int .i64 e, .int .i64 f, .bool s, .bool r] : List Value).toArray by rw [← this]]
theorem img_rel {β : Nm} : (imgA W H (.slice A n p) (.slice B m q) a b c d e f s r).rel β (.agg #[.int .i64 W, .int .i64 H, .slice A n p, .slice B m q, .int .i64 a, .int .i64 b, .int .i64 c, .int .i64 d, .int .i64 e, .int .i64 f, .bool s, .bool r]) := by
  rw [AV.rel]; exact ⟨_, rfl, rels_map_val (β := β) [.int .i64 W, .int .i64 H, .slice A n p, .slice B m q, .int .i64 a, .int .i64 b, .int .i64 c, .int .i64 d, .int .i64 e, .int .i64 f, .bool s, .bool r]⟩
theorem ICheck_gives {G : Mem} : Gives Try.prog 70 [imgA W H (.slice A n p) (.slice B m q) a b c d e f s r] G (.val (.int .i64 (imgE W H n m (invL a b c d e f 6)))) :=
  Gives.of_callsA (fun vs h => img_is vs h) (by rw [AV.rel]) fun w' _ => ImgCheck_any W H A B n p m q a b c d e f s r w'
theorem RICheck_gives {G : Mem} : Gives Try.prog 36 [imgA W H (.slice A n p) (.slice B m q) a b c d e f s r] G (.val (.int .i64 (imgE W H n m (invL a b c d e f 6)))) :=
  Gives.of_callsA (fun vs h => img_is vs h) (by rw [AV.rel]) fun w' _ => RImgCheck_any W H A B n p m q a b c d e f s r w'
theorem imgE_ok {l : Int} (h : imgE W H n m l = 0) : ImgOk W H n m ∧ l = 0 := by
  unfold imgE at h
  split at h
  · omega
  · rename_i h1
    split at h
    · omega
    · rename_i h2
      refine ⟨⟨by omega, by omega, ?_, ?_⟩, h⟩
      · simp_all
      · by_cases hm : m = 0
        · exact .inl hm
        · right; simp_all
theorem inks_flat : flat Try.prog 20 29 = [.int .u8, .int .u8, .int .u8, .int .u8, .int .u8, .int .u8, .int .u8, .int .u8] := by kernel_rfl
theorem inks_u8 {j : Nat} (hj : j < 8) : (flat Try.prog 20 29)[j]? = some (.int .u8) := by
  rw [inks_flat]
  match j, hj with
  | 0, _ => rfl
  | 1, _ => rfl
  | 2, _ => rfl
  | 3, _ => rfl
  | 4, _ => rfl
  | 5, _ => rfl
  | 6, _ => rfl
  | 7, _ => rfl
theorem byte_bd {z : Int} (h : (Lit.int .u8 z).wf = true) : 0 ≤ z ∧ z ≤ 255 := by
  simp [Lit.wf, IntKind.min, IntKind.max, IntKind.signed, IntKind.bits] at h
  omega
theorem pics_of (h1 : SliceG Try.prog w 29 A n g) (h2 : SliceG Try.prog w 5 B m h) : Pics (memOf w) A n (fun x j => valI (g x j)) B m (fun x => valI (h x 0)) := by
  have e8 : Try.prog.cellsOf 29 = 8 := by kernel_rfl
  have e1 : Try.prog.cellsOf 5 = 1 := by kernel_rfl
  refine ⟨fun x hx => ?_, fun x hx => ?_⟩
  · obtain ⟨b, off, hA, hb, hc⟩ := h1 (by omega)
    rw [e8] at hc
    refine ⟨b, off, hA, fun j hj => ?_⟩
    rw [← (h1.int (by kernel_rfl) hx (inks_u8 hj)).1]
    exact (hc x hx).1 j hj
  · obtain ⟨b, off, hA, hb, hc⟩ := h2 (by omega)
    rw [e1] at hc
    refine ⟨b, off, hA, ?_⟩
    rw [← (h2.int (j := 0) (by kernel_rfl) hx (by kernel_rfl)).1]
    have := (hc x hx).1 0 (by omega)
    rw [Nat.mul_one, Nat.add_zero] at this
    exact this
theorem soft_bd (h2 : SliceG Try.prog w 5 B m h) : ∀ x, x < m → 0 ≤ valI (h x 0) ∧ valI (h x 0) ≤ 255 := fun x hx => byte_bd (h2.int (j := 0) (by kernel_rfl) hx (by kernel_rfl)).2
theorem sampS_bd {S : Nat → Int} (ho : ImgOk W H n m) (hs : ∀ x, x < m → 0 ≤ S x ∧ S x ≤ 255) : 0 ≤ sampS r W H u v m S ∧ sampS r W H u v m S ≤ 255 := by
  obtain ⟨hw, hh, hn, hm⟩ := ho
  unfold sampS
  split
  · rename_i hi
    have := at_in hi
    split
    · omega
    · refine hs _ ?_
      unfold atI; omega
  · omega
end
end Go.Proofs.Ytampdegpfndggaa

namespace Go.Proofs.Ytampdegpfndggaa
open Go.RowKit
set_option linter.unusedVariables false
set_option maxRecDepth 20000
def zeroB (fx fy tx ty r : Int) (n : Nat) : Bool := (fx == 0 && fy == 0) && (tx == 0 && ty == 0) && r == 0 && n == 0
section
variable {k : Int} {I : Nat → Int} {fx fy tx ty r : Int} {A : Option Addr} {n q : Nat} {W H : Int} {B : Option Addr} {pn pq : Nat} {C : Option Addr} {sn sq : Nat} {a b c d e f : Int} {s t : Bool} {G : Mem}
set_option maxHeartbeats 2000000 in
theorem isZero_gives : Gives Try.prog 113 [srcA k I fx fy tx ty r (.slice A n q) W H (.slice B pn pq) (.slice C sn sq) a b c d e f s t] G (.val (.bool (zeroB fx fy tx ty r n))) := by
  refine Gives_of tab_ok Try.func113 ?_
  (repeat' ((try (conv => whnf)); (first | (with_reducible refine condP_true ?_) | (with_reducible refine condP_false ?_) | (with_reducible refine condP_not ?_) | (with_reducible refine condP_and ?_) | ((with_reducible refine condP_dt ?_ ?_); (· omega)) | ((with_reducible refine condP_df ?_ ?_); (· omega)) | ((with_reducible refine condP_yes ?_ ?_); (· assumption)) | ((with_reducible refine condP_no ?_ ?_); (· assumption)) | ((with_reducible refine ArP_i64 ?_ ?_); (· omega)) | ((with_reducible refine mustP.mk ?_ ?_); (· first | omega | rfl | (dsimp only; omega))) | (with_reducible refine EqP_nil tab_ok ?_) | (with_reducible refine EqP_sli tab_ok ?_) | (with_reducible refine DrawP_auto tab_ok (by kernel_rfl) (by decide +kernel) ?_) | (with_reducible refine DrawP_auto2 tab_ok (by kernel_rfl) (by decide +kernel) ?_) | (with_reducible refine eq29 ?_) | (with_reducible refine eq31 ?_) | (with_reducible refine eq48 ?_) | (with_reducible refine eq52 ?_) | (with_reducible refine eq83 ?_) | (with_reducible refine eq110 ?_) | (with_reducible refine eq136 ?_) | (with_reducible refine eq155 ?_) | (with_reducible refine eq163 ?_) | (with_reducible refine eq170 ?_) | (with_reducible refine condP_dec (fun h0 => ?_) (fun h0 => ?_)))))
  all_goals ((conv => whnf); exact ⟨by first | (simp_all [zeroB]; done) | (rw [AV.val.injEq, Value.bool.injEq, Bool.eq_iff_iff]; simp_all [zeroB]), rfl⟩)
set_option maxHeartbeats 2000000 in
theorem noImage_gives : Gives Try.prog 114 [imgA W H (.slice B pn pq) (.slice C sn sq) a b c d e f s t] G (.val (.bool (plainB W H pn sn a b c d e f s t))) := by
  refine Gives_of tab_ok Try.func114 ?_
  cases s <;> cases t
  all_goals ((repeat' ((try (conv => whnf)); (first | (with_reducible refine condP_true ?_) | (with_reducible refine condP_false ?_) | (with_reducible refine condP_not ?_) | (with_reducible refine condP_and ?_) | ((with_reducible refine condP_dt ?_ ?_); (· omega)) | ((with_reducible refine condP_df ?_ ?_); (· omega)) | ((with_reducible refine condP_yes ?_ ?_); (· assumption)) | ((with_reducible refine condP_no ?_ ?_); (· assumption)) | ((with_reducible refine ArP_i64 ?_ ?_); (· omega)) | ((with_reducible refine mustP.mk ?_ ?_); (· first | omega | rfl | (dsimp only; omega))) | (with_reducible refine EqP_nil tab_ok ?_) | (with_reducible refine EqP_sli tab_ok ?_) | (with_reducible refine DrawP_auto tab_ok (by kernel_rfl) (by decide +kernel) ?_) | (with_reducible refine DrawP_auto2 tab_ok (by kernel_rfl) (by decide +kernel) ?_) | (with_reducible refine eq29 ?_) | (with_reducible refine eq31 ?_) | (with_reducible refine eq48 ?_) | (with_reducible refine eq52 ?_) | (with_reducible refine eq83 ?_) | (with_reducible refine eq110 ?_) | (with_reducible refine eq136 ?_) | (with_reducible refine eq155 ?_) | (with_reducible refine eq163 ?_) | (with_reducible refine eq170 ?_) | (with_reducible refine condP_dec (fun h0 => ?_) (fun h0 => ?_))))))
  all_goals ((conv => whnf); exact ⟨by first | (simp_all [plainB]; done) | (rw [AV.val.injEq, Value.bool.injEq, Bool.eq_iff_iff]; simp_all [plainB]), rfl⟩)
theorem few_any (i0 i1 i2 i3 i4 i5 i6 i7 : Int) (w : World) : Calls Try.prog 115 #[.agg #[.int .u8 i0, .int .u8 i1, .int .u8 i2, .int .u8 i3, .int .u8 i4, .int .u8 i5, .int .u8 i6, .int .u8 i7], .int .i64 8] w fun e w' => e = .returned (.bool true) ∧ Below w.heap.size w w' := by
  go_enter Try.func115, Try.ntmps115
  go_wp2
  refine wp_loop_rounds 1 ?_
  rw [rounds_succ]
  go_wp2
  go_ret
  exact ⟨rfl, by (repeat' (with_reducible first | exact Below.refl _ _ | refine past_le ?_ ?_ _ | refine Below.alloc ?_ ?_ _ | refine Below.drew ?_ | refine drewN_le ?_ _ | refine Below.setCell ?_ ?_ _ | refine step_le (by assumption) ?_ ?_ | omega | (simp only []; omega) | (simp only [World.size_alloc]; omega) | (simp only [World.size_setCell]; omega) | (simp only [World.size_drew]; omega) | (simp only [World.size_alloc, World.size_setCell]; omega) | (simp only [World.size_alloc, World.size_drew]; omega) | (simp only [World.size_setCell, World.size_drew]; omega) | (simp only [World.size_alloc, World.size_setCell, World.size_drew]; omega) | (simp only [World.size_alloc, World.size_setCell, World.size_drew, size_drewN]; omega)))⟩
theorem few_gives {i0 i1 i2 i3 i4 i5 i6 i7 : Int} : Gives Try.prog 115 [.agg [.val (.int .u8 i0), .val (.int .u8 i1), .val (.int .u8 i2), .val (.int .u8 i3), .val (.int .u8 i4), .val (.int .u8 i5), .val (.int .u8 i6), .val (.int .u8 i7)], .val (.int .i64 8)] G (.val (.bool true)) := by
  refine Gives.of_callsA (fun vs h => ?_) (by rw [AV.rel]) fun w' _ => few_any i0 i1 i2 i3 i4 i5 i6 i7 w'
  simp only [AV.rels] at h
  obtain ⟨y, zs, rfl, h2, y2, zs2, rfl, h3, rfl⟩ := h
  rw [AV.rel] at h2
  simp only [AV.rel] at h3
  obtain ⟨cs, rfl, h4⟩ := h2
  subst h3
  have := rels_plain (m := [.int .u8 i0, .int .u8 i1, .int .u8 i2, .int .u8 i3, .int .u8 i4, .int .u8 i5, .int .u8 i6, .int .u8 i7]) h4
  rw [show cs = ([.int .u8 i0, .int .u8 i1, .int .u8 i2, .int .u8 i3, .int .u8 i4, .int .u8 i5, .int .u8 i6, .int .u8 i7] : List Value).toArray by rw [← this]]
theorem more_gives {v0 v1 v2 v3 v4 v5 v6 v7 : Value} : Gives Try.prog 84 [.agg [.val v0, .val v1, .val v2, .val v3, .val v4, .val v5, .val v6, .val v7], .val (.int .i64 8)] G (.val (.bool false)) := by
  refine Gives_of tab_ok Try.func84 ?_
  (repeat ((try (conv => whnf)); (first | (with_reducible refine condP_true ?_) | (with_reducible refine condP_false ?_) | (with_reducible refine condP_not ?_) | (with_reducible refine condP_and ?_) | ((with_reducible refine condP_dt ?_ ?_); (· omega)) | ((with_reducible refine condP_df ?_ ?_); (· omega)) | ((with_reducible refine condP_yes ?_ ?_); (· assumption)) | ((with_reducible refine condP_no ?_ ?_); (· assumption)) | ((with_reducible refine ArP_i64 ?_ ?_); (· omega)) | ((with_reducible refine mustP.mk ?_ ?_); (· first | omega | rfl | (dsimp only; omega))) | (with_reducible refine EqP_nil tab_ok ?_) | (with_reducible refine EqP_sli tab_ok ?_) | (with_reducible refine DrawP_auto tab_ok (by kernel_rfl) (by decide +kernel) ?_) | (with_reducible refine DrawP_auto2 tab_ok (by kernel_rfl) (by decide +kernel) ?_) | (with_reducible refine eq29 ?_) | (with_reducible refine eq31 ?_) | (with_reducible refine eq48 ?_) | (with_reducible refine eq52 ?_) | (with_reducible refine eq83 ?_) | (with_reducible refine eq110 ?_) | (with_reducible refine eq136 ?_) | (with_reducible refine eq155 ?_) | (with_reducible refine eq163 ?_) | (with_reducible refine eq170 ?_) | (with_reducible refine OwnCells_run ?_) | (with_reducible refine LoopP_step tab_ok ?_) | ((with_reducible refine condP_dt ?_ ?_); (· decide)) | ((with_reducible refine condP_df ?_ ?_); (· decide)) | ((with_reducible refine ArP_id ?_ ?_); (· decide)) | ((with_reducible refine mustP.mk ?_ ?_); (· decide)) | ((with_reducible refine isP.mk 0 ?_ ?_); (· decide +kernel)) | ((with_reducible refine isP.mk 1 ?_ ?_); (· decide +kernel)) | (with_reducible refine isP.mk _ (by exact rfl) ?_) | (with_reducible refine EqP_boolF (by kernel_rfl) ?_))))
  exact ⟨rfl, rfl⟩
end
end Go.Proofs.Ytampdegpfndggaa
