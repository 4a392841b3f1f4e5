/-
  A literal that is named in another literal's cells stands from now on. No program in sight.
-/
import Derived.Test.YtbkhpddodmbdoaaFreeze
import Derived.Test.YtbkhpddodmbdoaaMrg11
namespace Go.Proofs.Ytbkhpddodmbdoaa
open Go.RowKit
set_option linter.unusedVariables false
set_option linter.unusedSimpArgs false
def Blk.plugB (k b : Nat) : Blk → Blk
  | .cells t l => .cells t (plugsB k b l)
  | .lp i l st p => .lp i (plugsB k b l) st p
  | .mp f ks l => .mp f ks (plugsB k b l)
  | x => x
def plugBBF (k b : Nat) (l : List Blk) : (List Blk → Prop) → Prop :=
  List.rec (motive := fun _ => (List Blk → Prop) → Prop) (fun K => K []) (fun x _ ih K => ih fun m => match x with
    | .cells t cs => plugsBF k b cs fun cs' => K (.cells t cs' :: m)
    | .own e sz n xs => K (.own e sz n xs :: m)
    | .gone => K (.gone :: m)
    | .muts S => K (.muts S :: m)
    | .lp i fr st p => plugsBF k b fr fun fr' => K (.lp i fr' st p :: m)
    | .mp f ks vs => plugsBF k b vs fun vs' => K (.mp f ks vs' :: m)) l
theorem plugBBF_eq (k b : Nat) : ∀ (l : List Blk) (K : List Blk → Prop), plugBBF k b l K = K (l.map (Blk.plugB k b))
  | [], _ => rfl
  | x :: l, K => by
    show plugBBF k b l (fun m => match x with
      | .cells t cs => plugsBF k b cs fun cs' => K (.cells t cs' :: m)
      | .own e sz n xs => K (.own e sz n xs :: m)
      | .gone => K (.gone :: m)
      | .muts S => K (.muts S :: m)
      | .lp i fr st p => plugsBF k b fr fun fr' => K (.lp i fr' st p :: m)
      | .mp f ks vs => plugsBF k b vs fun vs' => K (.mp f ks vs' :: m)) = _
    rw [plugBBF_eq k b l]
    cases x with
    | cells t cs => simp only [plugsBF_eq]; rfl
    | own e sz n xs => rfl
    | gone => rfl
    | muts S => rfl
    | lp i fr st p => simp only [plugsBF_eq]; rfl
    | mp f ks vs => simp only [plugsBF_eq]; rfl
theorem HR.plugB {w0 : World} {G0 : Mem} {β : Nm} {hp : List Blk} {G : Mem} {w : World} (hr : HR w0 G0 β hp G w) {k b : Nat} {v : Value} (hv : β k = some v) (hb : blkOf v = some b) : HR w0 G0 β (hp.map (Blk.plugB k b)) G w := by
  have live : ∀ x : Blk, (x.plugB k b).live = x.live := fun x => by cases x <;> rfl
  refine ⟨hr.below, hr.hold, hr.sub, hr.grow, fun j y hj => ?_, fun i j y y' x x' c hne hi hj hx hx' hl hl' hy => ?_, wrt_map hr.wrt (fun x S e => by cases x <;> first | exact e | cases e)⟩
  · obtain ⟨x, h1, h2⟩ := hr.blk j y hj
    refine ⟨x.plugB k b, by rw [List.getElem?_map, h1]; rfl, ?_⟩
    cases x with
    | gone => trivial
    | muts S => exact h2.elim
    | cells t l =>
      obtain ⟨b', c, q1, q2, q3, q4, q5⟩ := h2
      exact ⟨b', c, q1, q2, q3, q4, plugsB_rel hv hb q5⟩
    | own e sz n xs => exact h2
    | lp i fr st p =>
      obtain ⟨q1, q2, q3, tm, q4, q5⟩ := h2
      exact ⟨q1, q2, q3, tm, q4, plugsB_rel hv hb q5⟩
    | mp f ks vs =>
      obtain ⟨b', ys, q1, q2, q3, q4, q5, q6⟩ := h2
      exact ⟨b', ys, q1, q2, q3, q4, q5, plugsB_rel hv hb q6⟩
  · rw [List.getElem?_map] at hx hx'
    cases h1 : hp[i]? with
    | none => rw [h1] at hx; cases hx
    | some z =>
      cases h2 : hp[j]? with
      | none => rw [h2] at hx'; cases hx'
      | some z' =>
        rw [h1] at hx; rw [h2] at hx'
        simp only [Option.map_some, Option.some.injEq] at hx hx'
        subst hx; subst hx'
        rw [live] at hl hl'
        exact hr.inj i j y y' z z' c hne hi hj h1 h2 hl hl' hy
/-- The block k, named in the cells of the block q that is among the arguments, stands from now on. -/
theorem CallP_standIn {P : Program} {f : FuncId} (k q : Nat) (hen : ∀ vs w, (callFunc f vs).run P w = .ok (.enter f vs) w) {args : List AV} {hp : List Blk} {G : Mem} {K : AV → List Blk → Mem → Prop} {t tq : TypeId} {l lq : List AV} {xs : List Value}
    (hin : slisIn q args = true) (hq : nthB hp q = .cells tq lq) (hkq : slisIn k lq = true) (hk : nthB hp k = .cells t l) (hl : l = xs.map .val)
    (h : ∀ b G', G.le G' → (∀ (j : Nat) u, xs[j]? = some u → G'.cell? ⟨b, j, none⟩ = some u) → plugBBF k b hp fun hp1 => setF hp1 k .gone fun hp2 => CallP P f args hp2 G' K) : CallP P f args hp G K := by
  refine ⟨hen, fun w0 G0 β w vs hr ha => ?_⟩
  obtain ⟨vq, hvq⟩ := sli_named ha hin
  obtain ⟨x, h1, h2⟩ := hr.blk q vq hvq
  rw [nthB_live hq rfl] at h1; cases h1
  obtain ⟨_, cs, _, _, _, _, q5⟩ := h2
  obtain ⟨v, hv⟩ := sli_named q5 hkq
  obtain ⟨b, G', hb, hle, hc, hr'⟩ := hr.stand hv hk hl
  have h0 := h b G' hle hc
  rw [plugBBF_eq, setF_eq] at h0
  have hr2 := hr'.plugB hv hb
  have e : (hp.set k .gone).map (Blk.plugB k b) = (hp.map (Blk.plugB k b)).set k .gone := by
    rw [List.map_set]; rfl
  rw [e] at hr2
  exact h0.calls w0 G0 β w vs hr2 ha
section
variable {α : Type} {enc : α → List Value} {k : Nat}
/-- Elements of a row that stands. -/
theorem fm_cells (hk : ∀ x, (enc x).length = k) (h0 : 0 < k) {l : List α} {A : Option Addr} {G : Mem} (h : l.flatMap enc = [] ∨ ∃ b, A = some ⟨b, 0, none⟩ ∧ ∀ (j : Nat) u, (l.flatMap enc)[j]? = some u → G.cell? ⟨b, j, none⟩ = some u) {i : Nat} {x : α} (hi : l[i]? = some x) :
    ∃ p : Addr, A = some p ∧ ∀ K : List Value → Prop, K (enc x) → OldCells G (p.add (i * k)) k K := by
  have hx : ∀ j, j < k → (l.flatMap enc)[i * k + j]? = (enc x)[j]? := fun j hj => fm_get hk l i j x hi hj
  rcases h with h | ⟨b, rfl, h⟩
  · have := hx 0 h0
    rw [h] at this
    have h2 : (enc x)[0]? = some ((enc x)[0]'(by rw [hk]; exact h0)) := List.getElem?_eq_getElem _
    rw [h2] at this; simp at this
  · refine ⟨_, rfl, fun K hK => OldCells_list _ (hk x) (fun j u hj => ?_) hK⟩
    have hjk : j < k := by have := (List.getElem?_eq_some_iff.1 hj).1; rw [hk] at this; exact this
    rw [addr_add, addr_add, Nat.zero_add]
    exact h _ _ (by rw [hx j hjk]; exact hj)
/-- Elements of a row of the call's own. -/
theorem fm_own (hk : ∀ x, (enc x).length = k) {l : List α} {i : Nat} {x : α} (hi : l[i]? = some x) (K : List Value → Prop) (h : K (enc x)) : OwnCells (l.flatMap enc) (i * k) k K :=
  OwnCells_list _ (hk x) (fun j v hj => by
    have hjk : j < k := by have := (List.getElem?_eq_some_iff.1 hj).1; rw [hk] at this; exact this
    rw [fm_get hk l i j x hi hjk]; exact hj) h
end
end Go.Proofs.Ytbkhpddodmbdoaa
