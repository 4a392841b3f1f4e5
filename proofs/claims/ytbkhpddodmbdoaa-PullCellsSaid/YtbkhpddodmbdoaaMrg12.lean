/-
  Merged: XMakesF, XMakesX.
-/
import Derived.Test.YtbkhpddodmbdoaaFreeze
set_option linter.unusedVariables false
set_option linter.unusedSimpArgs false
set_option linter.unnecessarySimpa false
namespace Go.Proofs.Ytbkhpddodmbdoaa
open Go.RowKit
end Go.Proofs.Ytbkhpddodmbdoaa
namespace Go.Proofs.Ytbkhpddodmbdoaa
open Go.RowKit
theorem HR.more {w0:World} {G0:Mem} {β:Nm} {hp:List Blk} {G G':Mem} {w:World} (hr:HR w0 G0 β hp G w) (hle:G.le G') (hh:G'.holds w) (hg:∀ b o,G' b=some o→G b=some o∨w0.heap.size≤b)
    (hd:∀ k z x b,β k=some z→hp[k]? = some x→x.live=true→q0j z=some b→G' b=none):HR w0 G0 β hp G' w:=by
  refine ⟨hr.below,hh,Mem.le_trans hr.sub hle,fun b o hb=>?_,fun k z hk=>?_,hr.inj,hr.wrt⟩
  · rcases hg b o hb with h6 |h6
    · exact hr.grow b o h6
    · exact .inr h6
  · obtain ⟨x,hx1,hx2⟩:=hr.blk k z hk
    refine ⟨x,hx1,?_⟩
    have hno:∀ b,x.live=true→q0j z=some b→G' b=none:=fun b hl hb=>hd k z x b hk hx1 hl hb
    cases x with
    | gone=>trivial
    | muts S=>exact hx2.elim
    | cells t l =>
      obtain ⟨b,c,q1,q2,q3,q4,q5⟩:=hx2
      exact ⟨b,c,q1,q2,hno b rfl (by rw [q1];rfl),q4,q5⟩
    | own e' sz' n' xs' =>
      exact ⟨hx2.1,fun b hb=>hno b rfl hb⟩
    | lp i fr st p =>
      obtain ⟨q1,q2,q3,q4⟩:=hx2
      exact ⟨q1,q2,hno i.l rfl (by rw [q1];rfl),q4⟩
    | mp f ks vs =>
      obtain ⟨b,ys,q1,q2,q3,q4⟩:=hx2
      exact ⟨b,ys,q1,q2,hno b rfl (by rw [q1];rfl),q4⟩
def MakesX (P:Program) (f:FuncId) (args:List AV) (G:Mem) (E:TypeId) (sz:Nat) (R:(AV→AV)→Nat→List Value→Mem→Prop):Prop :=
  ∀ (w:World) (vs:Array Value),G.holds w→AV.rels noName args vs.toList→Calls P f vs w fun e w'=>∃ y s wrap n xs G',e=.returned y∧Wraps wrap∧(wrap (.val s)).rel noName y∧w'.ownsRow w.heap.size E sz s n xs∧Below w.heap.size w w' ∧
    G.le G'∧G'.holds w'∧(∀ b o,G' b=some o→G b=some o∨w.heap.size≤b)∧(∀ b,q0j s=some b→G' b=none)∧R wrap n xs G'
theorem MakesX.call {P:Program} {f:FuncId} {args:List AV} {hp:List Blk} {G:Mem} {E:TypeId} {sz:Nat} {R:(AV→AV)→Nat→List Value→Mem→Prop} (hu:AV.unders 0 args=true) (hc:MakesX P f args G E sz R)
    {w0:World} {G0:Mem} {β:Nm} {w:World} {vs:Array Value} (hr:HR w0 G0 β hp G w) (ha:AV.rels β args vs.toList) :
    Calls P f vs w fun e w'=>∃ y s wrap n xs G',e=.returned y∧Wraps wrap∧(wrap (.val s)).rel noName y∧HR w0 G0 (β.put hp.length s) (hp++[.own E sz n xs]) G' w'∧Nm.le β (β.put hp.length s)∧isSl s=true∧G.le G'∧R wrap n xs G':=by
  refine (hc w vs hr.hold (q32 hu ha)).mono ?_
  rintro e w' ⟨y,s,wrap,n,xs,G',rfl,hwr,h2,h3,h4,hle,hh,hg,hsn,hR⟩
  have hfresh:∀ b,q0j s=some b→w.heap.size≤b:=fun b hb=>by
    rcases h3.2 with ⟨rfl,_⟩ |⟨g,cap,cur,rfl,h5,_⟩
    · simp [q0j] at hb
    · simp [q0j] at hb;omega
  have hrn:HR w0 G0 (β.put hp.length s) (hp++[.own E sz n xs]) G w':=by
    refine hr.name h4 (x:=.own E sz n xs) ⟨?_,fun g hg=>q3r hr.hold (hfresh g hg)⟩ rfl hfresh
    obtain ⟨q1,q2⟩:=h3
    refine ⟨q1,?_⟩
    rcases q2 with q2 |⟨g,cap,cur,q3,q4,q5⟩
    · exact .inl q2
    · exact .inr ⟨g,cap,cur,q3,Nat.le_trans hr.below.size q4,q5⟩
  refine ⟨y,s,wrap,n,xs,G',rfl,hwr,h2,hrn.more hle hh (fun b o hb=>?_) (fun k z x b hk hx hl hb=>?_),Nm.le_put s (hr.fresh (Nat.le_refl _)),?_,hle,hR⟩
  · rcases hg b o hb with h6 |h6
    · exact .inl h6
    · exact .inr (Nat.le_trans hr.below.size h6)
  · by_cases hkn:k=hp.length
    · rw [hkn,Nm.put_same] at hk
      cases hk
      exact hsn b hb
    · rw [Nm.put_ne β s hkn] at hk
      obtain ⟨x',h1,_⟩:=hr.blk k z hk
      have hx':x=x':=by
        rw [List.getElem?_append_left (List.getElem?_eq_some_iff.1 h1).1,h1] at hx
        exact (Option.some.inj hx).symm
      subst hx'
      have hlt:=(hr.lt hk h1 hl hb).2
      have hGn:=hlt
      cases e:G' b with
      | none=>rfl
      | some o =>
        rcases hg b o e with h6 |h6
        · obtain ⟨x',hq1,hq2⟩:=hr.blk k z hk
          rw [h1] at hq1;cases hq1
          have hcon:G b=none:=by
            cases x with
            | gone=>simp [Blk.live] at hl
            | muts S=>exact hq2.elim
            | cells t l=>obtain ⟨b',c,q1,q2,q3,q4,q5⟩:=hq2;subst q1;simp [q0j] at hb;subst hb;exact q3
            | own e' sz' n' xs'=>exact hq2.2 b hb
            | lp i fr st p=>obtain ⟨q1,q2,q3,q4⟩:=hq2;subst q1;simp [q0j] at hb;subst hb;exact q3
            | mp f ks vs=>obtain ⟨b',ys,q1,q2,q3,q4⟩:=hq2;subst q1;simp [q0j] at hb;subst hb;exact q3
          rw [hcon] at h6;cases h6
        · have:=hlt.1;omega
  · exact q2d h3
theorem z76 {P:Program} {f:FuncId} (hen:∀ vs w,(callFunc f vs).run P w=.ok (.enter f vs) w) {args:List AV} {hp:List Blk} {G:Mem} {K:AV→List Blk→Mem→Prop} {E:TypeId} {sz:Nat} {R:(AV→AV)→Nat→List Value→Mem→Prop} (hu:AV.unders 0 args=true)
    (hc:MakesX P f args G E sz R) (h:∀ wrap n xs G',G.le G'→R wrap n xs G'→lenF hp fun m=>catF hp [.own E sz n xs] fun hp'=>K (wrap (.own m)) hp' G'):CallP P f args hp G K:=by
  refine ⟨hen,fun w0 G0 β w vs hr ha=>(hc.call hu hr ha).mono ?_⟩
  rintro e w' ⟨y,s,wrap,n,xs,G',rfl,hwr,h2,h3,h4,hsl,hle,hR⟩
  have h0:=q1h (h wrap n xs G' hle hR)
  rw [q01] at h0
  exact ⟨y,_,wrap (.own hp.length),_,G',rfl,h4,h3,hwr.rel (by simp only [AV.rel];exact ⟨Nm.put_same _ _ _,hsl⟩) h2,h0⟩
theorem q7j {P:Program} {f:FuncId} (hen:∀ vs w,(callFunc f vs).run P w=.ok (.enter f vs) w) {args:List AV} {hp:List Blk} {G:Mem} {K:AV→List Blk→Mem→Prop} {E:TypeId} {sz:Nat} {R:(AV→AV)→Nat→List Value→Mem→Prop} (hu:AV.unders 0 args=true)
    (hc:MakesX P f args G E sz R) (h:∀ wrap n xs G' A cap G'',G.le G'→R wrap n xs G'→G'.le G''→n≤cap→cap≤maxLen→FlatM G'' A xs→catF hp [.gone] fun hp'=>K (wrap (.val (.slice A n cap))) hp' G''):CallP P f args hp G K:=by
  refine ⟨hen,fun w0 G0 β w vs hr ha=>(hc.call hu hr ha).mono ?_⟩
  rintro e w' ⟨y,s,wrap,n,xs,G',rfl,hwr,h2,h3,h4,hsl,hle,hR⟩
  obtain ⟨A,cap,G'',rfl,hle2,hnc,hcm,hF,hr2⟩:=h3.freeze (Nm.put_same _ _ _) (E:=E) (sz:=sz) (n:=n) (xs:=xs) (by rw [q25];simp)
  have h0:=h wrap n xs G' A cap G'' hle hR hle2 hnc hcm hF
  rw [q01] at h0
  have hset:(hp++[Blk.own E sz n xs]).set hp.length .gone=hp++[.gone]:=by simp
  rw [hset] at hr2
  exact ⟨y,_,wrap (.val (.slice A n cap)),_,G'',rfl,h4,hr2,hwr.rel (by simp only [AV.rel]) h2,h0⟩
end Go.Proofs.Ytbkhpddodmbdoaa
