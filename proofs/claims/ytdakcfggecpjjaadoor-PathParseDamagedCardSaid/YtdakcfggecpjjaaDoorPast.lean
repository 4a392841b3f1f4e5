/-
  A region that draws its order, whose operations read old memory, and whose callees may make new memory: one walk of the lexical order serves every order. The class of worlds: those that are past w (below w's size nothing has turned).
-/
import Derived.WalkKit
import Derived.WalkLawsBesides
import Derived.Handy
import Derived.BigQuiet
import Derived.Deep.QuietTactic
namespace Go.Proofs.YtdakcfggecpjjaaDoor
open Go.RowKit

/-- What may have become of a world below whose size nothing has turned. -/
structure Later (w : World) where
  to : World
  below : Below w.heap.size w to
def past (w : World) (x : Later w) : World := x.to
instance instLater (w : World) : Nonempty (Later w) := ⟨⟨w, Below.refl _ _⟩⟩
instance instLaterI (w : World) : Inhabited (Later w) := ⟨⟨w, Below.refl _ _⟩⟩

theorem past_below (w : World) (x : Later w) : Below w.heap.size w (past w x) := x.below
theorem past_size (w : World) (x : Later w) : w.heap.size ≤ (past w x).heap.size := x.below.size
/-- A cell of which nothing is known. -/
def farCell (w : World) (b o : Nat) : Option Value := w.cell? ⟨b, o, none⟩
def farFrozen (w : World) (b o : Nat) : Bool := w.frozen? ⟨b, o, none⟩
theorem past_cell (w : World) (x : Later w) (b o : Nat) : (past w x).cell? ⟨b, o, none⟩ = if b < w.heap.size then w.cell? ⟨b, o, none⟩ else farCell (past w x) b o := by
  split
  · exact x.below.cell (p := ⟨b, o, none⟩) (by assumption)
  · rfl
theorem past_frozen (w : World) (x : Later w) (b o : Nat) : (past w x).frozen? ⟨b, o, none⟩ = if b < w.heap.size then w.frozen? ⟨b, o, none⟩ else farFrozen (past w x) b o := by
  split
  · exact x.below.frozen (p := ⟨b, o, none⟩) (by assumption)
  · rfl
theorem cell_alloc_if (w : World) (c : Array Value) (t : TypeId) (n i : Nat) : (w.alloc (.cells c t)).cell? ⟨n, i, none⟩ = if n = w.heap.size then c[i]? else w.cell? ⟨n, i, none⟩ := by
  split
  · rename_i h; exact World.cell?_alloc_at c t n i h
  · rename_i h; exact World.cell?_alloc_old (a := ⟨n, i, none⟩) _ _ h
attribute [go_sem] past_cell past_frozen cell_alloc_if
/-- The cells of a world that came out of a call: below the size that the heap had, as they were. -/
theorem bcell {W w1 : World} (hb : Below W.heap.size W w1) : (∀ b o, w1.cell? ⟨b, o, none⟩ = if b < W.heap.size then W.cell? ⟨b, o, none⟩ else farCell w1 b o) ∧ (∀ b o, w1.frozen? ⟨b, o, none⟩ = if b < W.heap.size then W.frozen? ⟨b, o, none⟩ else farFrozen w1 b o) ∧ W.heap.size ≤ w1.heap.size := by
  refine ⟨fun b o => ?_, fun b o => ?_, hb.size⟩
  · split
    · exact hb.cell (p := ⟨b, o, none⟩) (by assumption)
    · rfl
  · split
    · exact hb.frozen (p := ⟨b, o, none⟩) (by assumption)
    · rfl

theorem past_le {B : Nat} {w W : World} (h : Below B w W) (hB : B ≤ W.heap.size) (x : Later W) : Below B w (past W x) := h.trans ((past_below W x).mono hB)
theorem drewN_le {B : Nat} {w W : World} (h : Below B w W) (n : Nat) : Below B w (W.drewN n) := ⟨h.os, h.tape, h.output, h.size, h.block⟩
theorem step_le {B : Nat} {w W w1 : World} (hb : Below W.heap.size W w1) (h : Below B w W) (hB : B ≤ W.heap.size) : Below B w w1 := h.trans (hb.mono hB)
theorem wp_region_past {P : Program} {id : Nat} {Q : Exit → Act → World → Prop} {a : Act} {w : World} {l : List Oper} (hm : P.follows .mixedOrders = true) (hB : Region.lexB .any l.toArray = true)
    (h : wpQuiet P l.toArray (fun w' => ∃ x, w' = past w x) (fun a' => ∀ w', (∃ x, w' = past w x) → Q .normal a' w') l a) : (Code.region id l.toArray true).wp P Q a w :=
  wp_region_quiet (C := fun w' => ∃ x, w' = past w x) hm hB ⟨⟨w.drew, (Below.refl _ _).drew⟩, rfl⟩ (by simpa using h)

/-- A variable that was there, loaded whole in a later world. -/
theorem load_past {P : Program} {w : World} {x : Later w} {g : Nat} {t : TypeId} {cs : Array Value} {d : TypeDesc} (hg : g < w.heap.size) (hc : ∀ j, w.cell? ⟨g, j, none⟩ = cs[j]?)
    (hu : P.underlying t = some d) (hd : (match d with | .struct _ | .array _ _ => true | _ => false) = true) (hi : (P.info? t).map (·.size) = some cs.size) :
    (loadVar t ⟨g, 0, none⟩).run P (past w x) = .ok (.agg cs) (past w x) := by
  have hl : (loadCells ⟨g, 0, none⟩ cs.toList.length).run P (past w x) = .ok cs.toList.toArray (past w x) :=
    run_loadCells_list (P := P) (past w x) ⟨g, 0, none⟩ cs.toList (fun j v hv => by
      have hadd : (⟨g, 0, none⟩ : Addr).add j = ⟨g, j, none⟩ := by unfold Addr.add; split <;> simp_all
      rw [hadd, past_cell, if_pos hg, hc]
      simpa using hv)
  cases hq : P.info? t with
  | none => simp [hq] at hi
  | some i =>
    have hs : i.size = cs.size := by simpa [hq] using hi
    have hagg : (isAgg t).run P (past w x) = .ok true (past w x) := by
      unfold isAgg
      rw [Sem.run_bind, run_underlying hu (past w x)]
      cases d <;> simp_all
    simp only [Array.length_toList, Array.toArray_toList] at hl
    simp [loadVar, Sem.run_bind, hagg, sizeOf, typeInfo, hq, hs, hl]

/-- A load in a region that draws its order, its value known ahead. -/
theorem quiet_load {P : Program} {C : World → Prop} {a : Act} {o : Oper} {K : Act → Prop} (ty : TypeId) (x : Operand) (p : Addr) (v : Value) (ho : o.op = .load ty x) (hx : a.eval x = .pointer (some p))
    (hl : ∀ w, C w → (loadVar ty p).run P w = .ok v w) (hk : K (a.put o.dst v)) : o.quiet P a C K :=
  ⟨v, fun w hw => by
    unfold Oper.quietAt execOp
    simp only [ho, hx, Instr.loadAt, Instr.sureAddr, Sem.run_bind, Sem.run_pure, Result.andThen_ok, hl w hw]
    exact ⟨rfl, rfl⟩, hk⟩

/-- A callee's contract, met in a world past w. -/
theorem past_call {P : Program} {f : FuncId} {args : Array Value} {w : World} {x : Later w} {v : Value}
    (h : Calls P f args (past w x) fun e w' => e = .returned v ∧ Below (past w x).heap.size (past w x) w') : Calls P f args (past w x) fun e w'' => e = .returned v ∧ ∃ y, w'' = past w y :=
  h.mono fun _ w' ⟨he, hb⟩ => ⟨he, ⟨w', (past_below w x).trans (hb.mono (past_size w x))⟩, rfl⟩
theorem past_same {P : Program} {f : FuncId} {args : Array Value} {w : World} {x : Later w} {v : Value}
    (h : Calls P f args (past w x) fun e w' => e = .returned v ∧ past w x = w') : Calls P f args (past w x) fun e w'' => e = .returned v ∧ ∃ y, w'' = past w y :=
  h.mono fun _ _ ⟨he, hb⟩ => ⟨he, x, hb.symm⟩
theorem past_alloc {P : Program} {f : FuncId} {args : Array Value} {w : World} {x : Later w} {v : Value} {o : Obj}
    (h : Calls P f args (past w x) fun e w' => e = .returned v ∧ (past w x).alloc o = w') : Calls P f args (past w x) fun e w'' => e = .returned v ∧ ∃ y, w'' = past w y :=
  past_call (h.mono fun _ _ ⟨he, hb⟩ => ⟨he, hb ▸ (Below.refl _ _).alloc (Nat.le_refl _) _⟩)
end Go.Proofs.YtdakcfggecpjjaaDoor
