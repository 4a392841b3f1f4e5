/-
  The engine: new blocks that lie in memory at known places; calls that hand back a plain value and memory that stands from then on. No program in sight.
-/
import Derived.Test.YtegpkpilfgohhaaGreatMrg11
set_option linter.unusedVariables false
set_option linter.unusedSimpArgs false
set_option linter.unnecessarySimpa false
namespace Go.Proofs.YtegpkpilfgohhaaGreat
open Go.RowKit
section
variable {P:Program} {T:Tab}
def moreS (mu:Bool) (S:Nat→Prop) (b:Nat):Nat→Prop:=match mu with
  | true=>fun c=>S c∨c=b
  | false=>S
theorem x7f {hp:List Blk} {m:Nat} {x:Blk} (h:hp[m]? = some x):hp.set m x=hp:=by
  apply List.ext_getElem?
  intro i
  by_cases hi:m=i
  · subst hi;rw [List.getElem?_set_self (List.getElem?_eq_some_iff.1 h).1,h]
  · rw [List.getElem?_set_ne hi]
def x8i (m:Nat) (mu:Bool) (v:AV) (hp hp':List Blk) (G:Mem) (K:AV→List Blk→Mem→Prop):Prop :=
  match v with
  | .sli k 0 n c=>q0w (Nat.beq k hp.length) (match nthB hp' k with
    | .cells e l=>q14 l fun vs=>match nthB hp m with
      | .muts S=>∀ b G',G b=none→¬ S b→G'=G.put b (.cells vs.toArray e (0,0))→setF hp m (.muts (moreS mu S b)) fun hp1=>K (.val (.slice (some ⟨b,0,none⟩) n c)) hp1 G'
      | _=>False
    | _=>False)
  | _=>False
theorem q1l (hT:TOk P T) (m:Nat) (mu:Bool) {t:TypeId} {n:Nat} {ps:Array (Nat × Operand)} {fr:List AV} {hp:List Blk} {G:Mem} {K:AV→List Blk→Mem→Prop}
    (h:q51 T t n ps fr hp G fun v hp' _=>x8i m mu v hp hp' G K):OpP P (.buildSlice t n ps) fr hp G K:=by
  refine ⟨fun o ho=>OpS.of_run fun w0 G0 β a w hr hf=>?_⟩
  obtain ⟨v,x,hK,hrun⟩:=q5v hT ho h
  unfold x8i at hK
  split at hK
  · rename_i k n' c
    obtain ⟨hk0,h1⟩:=q0t hK
    obtain rfl:=Nat.eq_of_beq_eq_true hk0
    split at h1
    · rename_i e l hx
      obtain ⟨vs,rfl,h2⟩:=q3f _ _ h1
      have hxe:x=.cells e (vs.map .val):=by
        rw [q3j,List.getElem?_append_right (Nat.le_refl _)] at hx
        simpa using hx
      split at h2
      · rename_i S hS
        have hmS:=q9z hS
        have hn:=hr.fresh (Nat.le_refl hp.length)
        obtain ⟨y,z,w',g1,g2,g3,g4,g5⟩:=hrun _ β a.eval w hr.br hr.below.size hn (q85 hf)
        subst hxe
        obtain ⟨b,cs,rfl,q1,q2,q3,q4⟩:=g3
        have hbs:w.heap.size≤b:=g4 b rfl
        simp only [AV.rel] at g5
        obtain ⟨u,b',hu,hb',rfl⟩:=g5
        rw [Nm.put_same] at hu
        cases hu
        simp [q0i] at hb'
        subst hb'
        have ec:cs=vs.toArray:=by rw [← q2a q4]
        subst ec
        have hGn:G b=none:=q5t hr.hold hbs
        have hSn:¬ S b:=fun hs=>by
          have:=(hr.wrt m S hmS _ hs).2.1;omega
        have h0:=h2 b _ hGn hSn rfl
        rw [q1c] at h0
        have hr1:=hr.newG hbs g2 q3
        refine ⟨_,_,w',β,_,_,_,g1,.inl rfl,Nm.le_refl _,?_,by simp only [AV.rel],h0⟩
        cases mu with
        | true=>exact hr1.moreS hmS (Nat.le_trans hr.below.size hbs) (Array.getElem?_eq_some_iff.1 q3).1 (Mem.le.none hr.sub hGn)
        | false =>
          show HR w0 G0 β (hp.set m (.muts S)) _ _
          rw [x7f hmS];exact hr1
      · exact h2.elim
    · exact h1.elim
  · exact hK.elim
def Mem.over (G F:Mem):Mem:=fun b=>match G b with
  | some o=>some o
  | none=>F b
theorem Mem.le_over (G F:Mem):G.le (G.over F):=fun b o hb=>by unfold Mem.over;rw [hb]
theorem HR.over {w0:World} {G0:Mem} {β:Nm} {hp:List Blk} {G F F':Mem} {w w':World} (hr:HR w0 G0 β hp G w) (h3:Below w.heap.size w w') (hF:F.le G) (hh:F'.holds w') (hg:∀ b o,F' b=some o→F b=some o∨w.heap.size≤b):HR w0 G0 β hp (G.over F') w'∧F'.le (G.over F'):=by
  have hr':=hr.step h3
  have hov:∀ b o,G.over F' b=some o→G b=some o∨(G b=none∧F' b=some o):=fun b o hb=>by
    unfold Mem.over at hb
    cases hG:G b with
    | none=>rw [hG] at hb;exact .inr ⟨rfl,hb⟩
    | some q=>rw [hG] at hb;exact .inl hb
  have hge:∀ b o,G b=none→F' b=some o→w.heap.size≤b:=fun b o hb ho=>by
    rcases hg b o ho with h |h
    · rw [hF b o h] at hb;cases hb
    · exact h
  have hno:∀ b,G b=none→b<w.heap.size→G.over F' b=none:=fun b hb hl=>by
    cases e:G.over F' b with
    | none=>rfl
    | some o =>
      rcases hov b o e with h6 |⟨_,h6⟩
      · rw [hb] at h6;cases h6
      · have:=hge b o hb h6;omega
  refine ⟨⟨hr'.below,fun b o hb=>?_,Mem.le_trans hr.sub (Mem.le_over _ _),fun b o hb=>?_,fun k z hk=>?_,hr'.inj,hr'.wrt⟩,fun b o hb=>?_⟩
  · rcases hov b o hb with h |⟨_,h⟩
    · exact hr'.hold b o h
    · exact hh b o h
  · rcases hov b o hb with h |⟨h1,h⟩
    · exact hr.grow b o h
    · exact .inr (Nat.le_trans hr.below.size (hge b o h1 h))
  · obtain ⟨x,hx1,hx2⟩:=hr.blk k z hk
    obtain ⟨x',hx1',hx2'⟩:=hr'.blk k z hk
    rw [hx1] at hx1';cases hx1'
    refine ⟨x,hx1,?_⟩
    have hlt:∀ b,x.live=true→q0i z=some b→b<w.heap.size:=fun b hl hb=>(hr.lt hk hx1 hl hb).2.1
    cases x with
    | gone=>trivial
    | muts S=>exact hx2'.elim
    | cells t l =>
      obtain ⟨b,c,q1,q2,q3,q4,q5⟩:=hx2'
      exact ⟨b,c,q1,q2,hno b q3 (hlt b rfl (by rw [q1];rfl)),q4,q5⟩
    | own e' sz' n' xs' =>
      exact ⟨hx2'.1,fun b hb=>hno b (hx2'.2 b hb) (hlt b rfl hb)⟩
    | lp i fr st p =>
      obtain ⟨q1,q2,q3,q4⟩:=hx2'
      exact ⟨q1,q2,hno i.l q3 (hlt i.l rfl (by rw [q1];rfl)),q4⟩
    | mp f ks vs =>
      obtain ⟨b,ys,q1,q2,q3,q4⟩:=hx2'
      exact ⟨b,ys,q1,q2,hno b q3 (hlt b rfl (by rw [q1];rfl)),q4⟩
  · unfold Mem.over
    cases hG:G b with
    | none=>exact hb
    | some q =>
      rcases hg b o hb with h |h
      · rw [hF b o h] at hG;cases hG;rfl
      · rw [q5t hr.hold h] at hG;cases hG
end
end Go.Proofs.YtegpkpilfgohhaaGreat
