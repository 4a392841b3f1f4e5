/-
  The engine: a maker of a row of rows; what it hands back stands from then on. No program in sight.
-/
import Derived.Test.YtdakcfggecpjjaaDoorFreeze
namespace Go.Proofs.YtdakcfggecpjjaaDoor
open Go.RowKit
set_option linter.unusedVariables false
set_option linter.unusedSimpArgs false
set_option linter.unnecessarySimpa false
/-- A slice comes back, in memory of which R holds. -/
def MakesF (P : Program) (f : FuncId) (args : List AV) (G : Mem) (wrap : AV → AV) (R : Mem → Option Addr → Nat → Prop) : Prop :=
  ∀ (w : World) (vs : Array Value), G.holds w → AV.rels noName args vs.toList → Calls P f vs w fun e w' => ∃ y A n cap G', e = .returned y ∧ (wrap (.val (.slice A n cap))).rel noName y ∧ Below w.heap.size w w' ∧
    G.le G' ∧ G'.holds w' ∧ (∀ b o, G' b = some o → G b = some o ∨ w.heap.size ≤ b) ∧ n ≤ cap ∧ cap ≤ maxLen ∧ R G' A n
theorem MakesF_of {P : Program} {T : Tab} (hT : TOk P T) {f : FuncId} {fn : Func} (hfn : P.funcs[f]? = some fn) {args : List AV} {G : Mem} {wrap : AV → AV} (hwr : Wraps wrap) {R : Mem → Option Addr → Nat → Prop} (hn : noRngF fn = true)
    (h : bodyV P T 0 fn args [] G fun v hp' G1 => (∃ k E sz n xs, v = wrap (.own k) ∧ nthB hp' k = .own E sz n xs ∧ ∀ G2 A, G1.le G2 → FlatM G2 A xs → R G2 A n) ∨ (v = wrap (.val (.slice none 0 0)) ∧ R G1 none 0)) : MakesF P f args G wrap R := by
  intro w vs hG ha
  refine (bodyV_ok hT hfn (hp := []) h (.inl hn) w G _ w vs (HR.init hG) ha).mono ?_
  rintro e w' ⟨y, β', v', hp', G', h1, _, h2, h3, h4⟩
  rcases h4 with ⟨k, E, sz, n, xs, rfl, hk, hR⟩ | ⟨rfl, hR⟩
  · obtain ⟨s, h5, h6⟩ := hwr.back h3
    simp only [AV.rel] at h5
    obtain ⟨A, cap, G2, rfl, hle, hnc, hcm, hF, hr2⟩ := h2.freeze h5.1 hk
    exact ⟨y, A, n, cap, G2, h1, h6, h2.below, Mem.le_trans h2.sub hle, hr2.hold, hr2.grow, hnc, hcm, hR G2 A hle hF⟩
  · obtain ⟨s, h5, h6⟩ := hwr.back h3
    simp only [AV.rel] at h5
    subst h5
    exact ⟨y, none, 0, 0, G', h1, h6, h2.below, h2.sub, h2.hold, h2.grow, Nat.le_refl _, Nat.zero_le _, hR⟩
/-- The same from a walk that ends in another form. -/
theorem MakesF_ofK {P : Program} {T : Tab} (hT : TOk P T) {f : FuncId} {fn : Func} (hfn : P.funcs[f]? = some fn) {args : List AV} {G : Mem} {wrap : AV → AV} (hwr : Wraps wrap) {R : Mem → Option Addr → Nat → Prop} (hn : noRngF fn = true) {K : AV → List Blk → Mem → Prop}
    (h : bodyV P T 0 fn args [] G K) (hK : ∀ v hp' G1, K v hp' G1 → ∃ k E sz n xs, v = wrap (.own k) ∧ nthB hp' k = .own E sz n xs ∧ ∀ G2 A, G1.le G2 → FlatM G2 A xs → R G2 A n) : MakesF P f args G wrap R := by
  intro w vs hG ha
  refine (bodyV_ok hT hfn (hp := []) h (.inl hn) w G _ w vs (HR.init hG) ha).mono ?_
  rintro e w' ⟨y, β', v', hp', G', h1, _, h2, h3, h4⟩
  obtain ⟨k, E, sz, n, xs, rfl, hk, hR⟩ := hK _ _ _ h4
  obtain ⟨s, h5, h6⟩ := hwr.back h3
  simp only [AV.rel] at h5
  obtain ⟨A, cap, G2, rfl, hle, hnc, hcm, hF, hr2⟩ := h2.freeze h5.1 hk
  exact ⟨y, A, n, cap, G2, h1, h6, h2.below, Mem.le_trans h2.sub hle, hr2.hold, hr2.grow, hnc, hcm, hR G2 A hle hF⟩
theorem Gives_ofK {P : Program} {T : Tab} (hT : TOk P T) {f : FuncId} {fn : Func} (hfn : P.funcs[f]? = some fn) {args : List AV} {G : Mem} {v : AV} (hb : v.under 0 = true) (hn : noRngF fn = true) {K : AV → List Blk → Mem → Prop}
    (h : bodyV P T 0 fn args [] G K) (hK : ∀ v' hp' G1, K v' hp' G1 → v' = v) : Gives P f args G v := by
  intro w vs hG ha
  refine (bodyV_ok hT hfn (hp := []) h (.inl hn) w G _ w vs (HR.init hG) ha).mono ?_
  rintro e w' ⟨y, β', v', hp', G', h1, _, h2, h3, h4⟩
  have := hK _ _ _ h4
  subst this
  exact ⟨y, h1, bare_rel hb h3, h2.below⟩
theorem CallP_makesF {P : Program} {f : FuncId} (hen : ∀ vs w, (callFunc f vs).run P w = .ok (.enter f vs) w) {args : List AV} {hp : List Blk} {G : Mem} {K : AV → List Blk → Mem → Prop} {wrap : AV → AV} (hwr : Wraps wrap) {R : Mem → Option Addr → Nat → Prop} (hu : AV.unders 0 args = true)
    (hc : MakesF P f args G wrap R) (h : ∀ A n cap G', G.le G' → n ≤ cap → cap ≤ maxLen → R G' A n → K (wrap (.val (.slice A n cap))) hp G') : CallP P f args hp G K := by
  refine ⟨hen, fun w0 G0 β w vs hr ha => (hc w vs hr.hold (bare_rels hu ha)).mono ?_⟩
  rintro e w' ⟨y, A, n, cap, G', rfl, h2, h3, hle, hh, hg, hnc, hcm, hR⟩
  have hr' := hr.step h3
  have hv : ∀ s' : Value, (AV.val s').rel β s' := fun s' => by simp only [AV.rel]
  have hno : ∀ b, G b = none → b < w.heap.size → G' b = none := fun b hb hl => by
    cases e : G' b with
    | none => rfl
    | some o =>
      rcases hg b o e with h6 | h6
      · rw [hb] at h6; cases h6
      · omega
  refine ⟨y, β, _, hp, G', rfl, Nm.le_refl _, ⟨hr'.below, hh, Mem.le_trans hr.sub hle, fun b o hb => ?_, fun k z hk => ?_, hr'.inj⟩, hwr.rel (hv _) h2, h A n cap G' hle hnc hcm hR⟩
  · rcases hg b o hb with h6 | h6
    · exact hr.grow b o h6
    · exact .inr (Nat.le_trans hr.below.size h6)
  · obtain ⟨x, hx1, hx2⟩ := hr.blk k z hk
    obtain ⟨x', hx1', hx2'⟩ := hr'.blk k z hk
    rw [hx1] at hx1'; cases hx1'
    refine ⟨x, hx1, ?_⟩
    have hlt : ∀ b, x.live = true → blkOf z = some b → b < w.heap.size := fun b hl hb => (hr.lt hk hx1 hl hb).2.1
    cases x with
    | gone => trivial
    | cells t l =>
      obtain ⟨b, c, q1, q2, q3, q4, q5⟩ := hx2'
      exact ⟨b, c, q1, q2, hno b q3 (hlt b rfl (by rw [q1]; rfl)), q4, q5⟩
    | own e' sz' n' xs' =>
      exact ⟨hx2'.1, fun b hb => hno b (hx2'.2 b hb) (hlt b rfl hb)⟩
    | lp i fr st p =>
      obtain ⟨q1, q2, q3, q4⟩ := hx2'
      exact ⟨q1, q2, hno i.l q3 (hlt i.l rfl (by rw [q1]; rfl)), q4⟩
    | mp f ks vs =>
      obtain ⟨b, ys, q1, q2, q3, q4⟩ := hx2'
      exact ⟨b, ys, q1, q2, hno b q3 (hlt b rfl (by rw [q1]; rfl)), q4⟩
end Go.Proofs.YtdakcfggecpjjaaDoor
