/-
  A literal that is named in another literal's cells stands from now on. No program in sight.
-/
import Derived.Test.YtpdneadfllcpfaaGreatDoorFreeze
import Derived.Test.YtpdneadfllcpfaaGreatDoorFm
set_option linter.unusedVariables false
set_option linter.unusedSimpArgs false
set_option linter.unnecessarySimpa false
namespace Go.Proofs.YtpdneadfllcpfaaGreatDoor
open Go.RowKit
def Blk.plugB (k b:Nat):Blk→Blk
  | .cells t l=>.cells t (q4n k b l)
  | .lp i l st p=>.lp i (q4n k b l) st p
  | .mp f ks l=>.mp f ks (q4n k b l)
  | x=>x
def q77 (k b:Nat) (l:List Blk):(List Blk→Prop)→Prop :=
  List.rec (motive:=fun _=>(List Blk→Prop)→Prop) (fun K=>K []) (fun x _ ih K=>ih fun m=>match x with
    | .cells t cs=>q2a k b cs fun cs'=>K (.cells t cs'::m)
    | .own e sz n xs=>K (.own e sz n xs::m)
    | .gone=>K (.gone::m)
    | .muts S=>K (.muts S::m)
    | .lp i fr st p=>q2a k b fr fun fr'=>K (.lp i fr' st p::m)
    | .mp f ks vs=>q2a k b vs fun vs'=>K (.mp f ks vs'::m)) l
theorem q7s (k b:Nat):∀ (l:List Blk) (K:List Blk→Prop),q77 k b l K=K (l.map (Blk.plugB k b))
  | [],_=>rfl
  | x::l,K=>by
    show q77 k b l (fun m=>match x with
      | .cells t cs=>q2a k b cs fun cs'=>K (.cells t cs'::m)
      | .own e sz n xs=>K (.own e sz n xs::m)
      | .gone=>K (.gone::m)
      | .muts S=>K (.muts S::m)
      | .lp i fr st p=>q2a k b fr fun fr'=>K (.lp i fr' st p::m)
      | .mp f ks vs=>q2a k b vs fun vs'=>K (.mp f ks vs'::m))=_
    rw [q7s k b l]
    cases x with
    | cells t cs=>simp only [q2s];rfl
    | own e sz n xs=>rfl
    | gone=>rfl
    | muts S=>rfl
    | lp i fr st p=>simp only [q2s];rfl
    | mp f ks vs=>simp only [q2s];rfl
theorem HR.plugB {w0:World} {G0:Mem} {β:Nm} {hp:List Blk} {G:Mem} {w:World} (hr:HR w0 G0 β hp G w) {k b:Nat} {v:Value} (hv:β k=some v) (hb:q0a v=some b):HR w0 G0 β (hp.map (Blk.plugB k b)) G w:=by
  have live:∀ x:Blk,(x.plugB k b).live=x.live:=fun x=>by cases x <;> rfl
  refine ⟨hr.below,hr.hold,hr.sub,hr.grow,fun j y hj=>?_,fun i j y y' x x' c hne hi hj hx hx' hl hl' hy=>?_,z0a hr.wrt (fun x S e=>by cases x <;> first |exact e |cases e)⟩
  · obtain ⟨x,h1,h2⟩:=hr.blk j y hj
    refine ⟨x.plugB k b,by rw [List.getElem?_map,h1];rfl,?_⟩
    cases x with
    | gone=>trivial
    | muts S=>exact h2.elim
    | cells t l =>
      obtain ⟨b',c,q1,q2,q3,q4,q5⟩:=h2
      exact ⟨b',c,q1,q2,q3,q4,q2r hv hb q5⟩
    | own e sz n xs=>exact h2
    | lp i fr st p =>
      obtain ⟨q1,q2,q3,tm,q4,q5⟩:=h2
      exact ⟨q1,q2,q3,tm,q4,q2r hv hb q5⟩
    | mp f ks vs =>
      obtain ⟨b',ys,q1,q2,q3,q4,q5,q6⟩:=h2
      exact ⟨b',ys,q1,q2,q3,q4,q5,q2r hv hb q6⟩
  · rw [List.getElem?_map] at hx hx'
    cases h1:hp[i]? with
    | none=>rw [h1] at hx;cases hx
    | some z =>
      cases h2:hp[j]? with
      | none=>rw [h2] at hx';cases hx'
      | some z' =>
        rw [h1] at hx;rw [h2] at hx'
        simp only [Option.map_some,Option.some.injEq] at hx hx'
        subst hx;subst hx'
        rw [live] at hl hl'
        exact hr.inj i j y y' z z' c hne hi hj h1 h2 hl hl' hy
theorem q8x {P:Program} {f:FuncId} (k q:Nat) (hen:∀ vs w,(callFunc f vs).run P w=.ok (.enter f vs) w) {args:List AV} {hp:List Blk} {G:Mem} {K:AV→List Blk→Mem→Prop} {t tq:TypeId} {l lq:List AV} {xs:List Value}
    (hin:q3a q args=true) (hq:nthB hp q=.cells tq lq) (hkq:q3a k lq=true) (hk:nthB hp k=.cells t l) (hl:l=xs.map .val)
    (h:∀ b G',G.le G'→(∀ (j:Nat) u,xs[j]? = some u→G'.cell? ⟨b,j,none⟩=some u)→q77 k b hp fun hp1=>setF hp1 k .gone fun hp2=>CallP P f args hp2 G' K):CallP P f args hp G K:=by
  refine ⟨hen,fun w0 G0 β w vs hr ha=>?_⟩
  obtain ⟨vq,hvq⟩:=q3b ha hin
  obtain ⟨x,h1,h2⟩:=hr.blk q vq hvq
  rw [q0g hq rfl] at h1;cases h1
  obtain ⟨_,cs,_,_,_,_,q5⟩:=h2
  obtain ⟨v,hv⟩:=q3b q5 hkq
  obtain ⟨b,G',hb,hle,hc,hr'⟩:=hr.stand hv hk hl
  have h0:=h b G' hle hc
  rw [q7s,q0z] at h0
  have hr2:=hr'.plugB hv hb
  have e:(hp.set k .gone).map (Blk.plugB k b)=(hp.map (Blk.plugB k b)).set k .gone:=by
    rw [List.map_set];rfl
  rw [e] at hr2
  exact h0.calls w0 G0 β w vs hr2 ha
section
variable {α:Type} {enc:α→List Value} {k:Nat}
end
end Go.Proofs.YtpdneadfllcpfaaGreatDoor
