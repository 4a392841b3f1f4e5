/-
  Merged: XMix3, XMix4.
-/
import Derived.Test.YtkicdhaklnmonaaGreatMrg6
set_option linter.unusedVariables false
set_option linter.unusedSimpArgs false
set_option linter.unnecessarySimpa false
namespace Go.Proofs.YtkicdhaklnmonaaGreat
open Go.RowKit
section
variable {P:Program} {ops:Array Oper} {md:Region.Mode} {w0:World} {R:Value→World→Prop}
def v0c (P:Program) (R:Value→World→Prop) (w:World):Result Next→Prop
  | .ok (.value v) u=>Below w.heap.size w u∧R v u
  | .ok (.enter f args) u=>u=w∧Calls P f args u fun e x=>∃ v,e=.returned v∧Below u.heap.size u x∧R v x
  | _=>False
end
end Go.Proofs.YtkicdhaklnmonaaGreat
namespace Go.Proofs.YtkicdhaklnmonaaGreat
open Go.RowKit
section
variable {P:Program} {ops:Array Oper} {md:Region.Mode} {w0:World} {mk:Nat→Option (Value→World→Prop)}
def gOp4 (P:Program) (ops:Array Oper) (w0:World) (mk:Nat→Option (Value→World→Prop)) (i:Nat) (K:Act→Prop) (a:Act):Prop :=
  match ops[i]? with
  | none=>K a
  | some o=>match mk i with
    | none=>∃ v,Yv P ops w0 o v a∧K (a.put o.dst v)
    | some R=>(∀ w,Below w0.heap.size w0 w→v0c P R w ((execOp a.eval o).run P w))∧∀ v,K (a.put o.dst v)
theorem x6l {i:Nat} {a:Act} {K K':Act→Prop} (h:∀ a,K a→K' a) (hh:gOp4 P ops w0 mk i K a):gOp4 P ops w0 mk i K' a:=by
  unfold gOp4 at *
  split
  · exact h _ (by simpa [*] using hh)
  · rename_i o ho
    simp only [ho] at hh
    split
    · rename_i hi;simp only [hi] at hh;obtain ⟨v,h1,h2⟩:=hh;exact ⟨v,h1,h _ h2⟩
    · rename_i R hi;simp only [hi] at hh;exact ⟨hh.1,fun v=>h _ (hh.2 v)⟩
def z3v (P:Program) (md:Region.Mode) (ops:Array Oper) (w0:World) (mk:Nat→Option (Value→World→Prop)) (n:Nat) (L:Array Bool→Act→Prop):Nat→Array Bool→Act→Prop
  | 0,listed,a=>L listed a
  | f+1,listed,a =>
    Region.ready md ops listed≠[]∧∀ i∈Region.ready md ops listed,i<n∧gOp4 P ops w0 mk i (z3v P md ops w0 mk n L f (listed.setIfInBounds i true)) a
theorem x82 {j:Nat} {oi oj:Oper} {v:Value} (hj:ops[j]? = some oj) (hap:oi.apart ops oj=true)
    (hsi:∀ cs b,oi.op≠.select cs b) (hsj:∀ cs b,oj.op≠.select cs b) {K:Act→Prop} {a:Act}
    (hy:Yv P ops w0 oi v a) (h:gOp4 P ops w0 mk j K (a.put oi.dst v)) :
    gOp4 P ops w0 mk j (fun a'=>Yv P ops w0 oi v a'∧K (a'.put oi.dst v)) a:=by
  obtain ⟨h1,h2,h3⟩:=Oper.apart_spec hap
  have keep:∀ (a:Act),Yv P ops w0 oi v a→∀ u,Yv P ops w0 oi v (a.put oj.dst u):=fun a hy u =>
    hy.of_same (execOp_put oi hsi a oj.dst u h3) (wanted_put oi a oj.dst u h3)
  unfold gOp4 at *
  simp only [hj] at *
  split
  · rename_i hlt
    simp only [hlt] at h
    obtain ⟨u,hu,hn⟩:=h
    refine ⟨u,?_,keep a hy u,by rw [← Act.put_comm a v u h2];exact hn⟩
    exact hu.of_same (execOp_put oj hsj a oi.dst v h1).symm (wanted_put oj a oi.dst v h1).symm
  · rename_i R hlt
    simp only [hlt] at h
    exact ⟨fun w hw=>by rw [← execOp_put oj hsj a oi.dst v h1];exact h.1 w hw,fun u=>⟨keep a hy _,by rw [← Act.put_comm a v _ h2];exact h.2 u⟩⟩
theorem x2g {n i:Nat} {oi:Oper} {v:Value} {L:Array Bool→Act→Prop} (hi:ops[i]? = some oi) (hsel:∀ (j:Nat) (o:Oper) cs b,ops[j]? = some o→o.op≠.select cs b)
    (hs:Region.sinkB md ops n=true) (hc:Region.chainB md ops n=true) (hn:n<ops.size) (hin:i<n) (hiN:mk i=none)
    (hdone:∀ listed a,L listed a→∀ j∈Region.ready md ops listed,n≤j) :
    ∀ (f:Nat) (listed:Array Bool) (a:Act),HeadInv md ops n listed →
      (∀ j oj,ops[j]? = some oj→j≠i→listed.getD j true=false→(∀ e∈oj.after,Region.binds md e=true→e.on≠i)→oi.apart ops oj=true) →
      i∈Region.ready md ops listed→Yv P ops w0 oi v a →
      z3v P md ops w0 mk n L f (listed.setIfInBounds i true) (a.put oi.dst v)→z3v P md ops w0 mk n L (f+1) listed a:=by
  have hgi:∀ (K:Act→Prop) (a:Act),Yv P ops w0 oi v a→K (a.put oi.dst v)→gOp4 P ops w0 mk i K a:=fun K a hy hk=>by
    unfold gOp4;simp only [hi,hiN];exact ⟨v,hy,hk⟩
  intro f
  induction f with
  | zero =>
    intro listed a inv _ hr hy H
    have hun:=(mem_ready.1 hr).1
    refine ⟨fun h=>(by rw [h] at hr;cases hr),fun j hj=>?_⟩
    have hjn:j<n:=by
      rcases Nat.lt_or_ge j n with h |h
      · exact h
      · exact absurd hj (tail_waits hs hc hn inv _ i rfl hin hun j h)
    refine ⟨hjn,?_⟩
    by_cases hji:j=i
    · subst hji;exact hgi _ _ hy H
    · have:=hdone _ _ H j (ready_mono hj hji)
      omega
  | succ f ih =>
    intro listed a inv hfree hr hy H
    have hun:=(mem_ready.1 hr).1
    refine ⟨fun h=>(by rw [h] at hr;cases hr),fun j hj=>?_⟩
    have hjn:j<n:=by
      rcases Nat.lt_or_ge j n with h |h
      · exact h
      · exact absurd hj (tail_waits hs hc hn inv _ i rfl hin hun j h)
    refine ⟨hjn,?_⟩
    by_cases hji:j=i
    · subst hji;exact hgi _ _ hy H
    · have h1:=(H.2 j (ready_mono hj hji)).2
      obtain ⟨hjun,oj,hoj,hall⟩:=mem_ready.1 hj
      have hnot:∀ e∈oj.after,Region.binds md e=true→e.on≠i:=fun e he hb heq=>by
        have h1:=hall e he hb
        rw [heq,getD_both hun] at h1
        cases h1
      have h2:=x82 hoj (hfree j oj hoj hji hjun hnot) (fun cs b=>hsel i oi cs b hi) (fun cs b=>hsel j oj cs b hoj) hy h1
      have hfree':∀ k ok,ops[k]? = some ok→k≠i→(listed.setIfInBounds j true).getD k true=false →
          (∀ e∈ok.after,Region.binds md e=true→e.on≠i)→oi.apart ops ok=true:=fun k ok hk hki hun hno=>by
        refine hfree k ok hk hki ?_ hno
        by_cases hjk:j=k
        · subst hjk;exact hjun
        · rw [getD_set_ne true hjk] at hun;exact hun
      refine x6l (fun a' h3=>ih (listed.setIfInBounds j true) a' (inv.set hj hjn) hfree' (ready_mono hr (Ne.symm hji)) h3.1 ?_) h2
      rw [Array.setIfInBounds_comm _ _ hji]
      exact h3.2
def q9l (md:Region.Mode) (ops:Array Oper) (E:Array Bool→Bool):Nat→Nat→Array Bool→Bool
  | 0,_,listed=>E listed
  | f+1,k,listed=>(Region.ready md ops listed).contains k&&Region.free md ops listed k&&q9l md ops E f (k+1) (listed.setIfInBounds k true)
theorem z8l {N n m:Nat} {E:Array Bool→Bool} {Lq:Act→Prop} {L:Array Bool→Act→Prop} (hsel:Region.noSelect ops=true) (hs:Region.sinkB md ops n=true) (hc:Region.chainB md ops n=true) (hn:n<ops.size) (hNn:N≤n) (hmk:∀ i,i<N→mk i=none)
    (hq:∀ listed a,HeadInv md ops n listed→Lq a→E listed=true→z3v P md ops w0 mk n L m listed a)
    (hdone:∀ listed a,L listed a→∀ j∈Region.ready md ops listed,n≤j) :
    ∀ (l:List Oper) (k:Nat) (listed:Array Bool) (a:Act),(∀ j,j<l.length→l[j]? = ops[k+j]?)→k+l.length=N→HeadInv md ops n listed →
    q9l md ops E l.length k listed=true→x0w P ops w0 Lq l a→z3v P md ops w0 mk n L (l.length+m) listed a
  | [],k,listed,a,_,hk,inv,hB,h=>by
    rw [List.length_nil,Nat.zero_add]
    exact hq listed a inv h (by simpa [q9l] using hB)
  | o::l,k,listed,a,hl,hk,inv,hB,h=>by
    have h0:ops[k]? = some o:=by simpa using (hl 0 (by simp)).symm
    simp only [List.length_cons,q9l,Bool.and_eq_true] at hB
    obtain ⟨⟨hr,hf⟩,hB'⟩:=hB
    have hkN:k<N:=by simp only [List.length_cons] at hk;omega
    have hr':k∈Region.ready md ops listed:=by simpa using hr
    obtain ⟨v,hy,hK⟩:=h
    rw [List.length_cons,show l.length+1+m=(l.length+m)+1 by omega]
    exact x2g h0 (Region.noSelect_spec hsel) hs hc hn (by omega) (hmk k hkN) hdone (l.length+m) listed a inv (Region.free_spec h0 hf) hr' hy
      (z8l hsel hs hc hn hNn hmk hq hdone l (k+1) _ _ (fun j hj=>by have:=hl (j+1) (by simp;omega);simpa [Nat.add_assoc,Nat.add_comm 1 j] using this) (by simp only [List.length_cons] at hk;omega) (inv.set hr' (by omega)) hB' hK)
structure Track4 (ops:Array Oper) (w0:World) (mk:Nat→Option (Value→World→Prop)) (listed:Array Bool) (a:Act) (w:World):Prop where
  below:Below w0.heap.size w0 w
  slot:∀ i R,mk i=some R→listed.getD i false=true→∃ o d v,ops[i]? = some o∧o.dst=some d∧a.tmps[d]? = some v∧R v w
  len:∀ i R o d,mk i=some R→ops[i]? = some o→o.dst=some d→d<a.tmps.size
theorem q7p {n g:Nat} {L:Array Bool→Act→Prop} {Q':Exit→Act→World→Prop}
    (hstab:∀ i R,mk i=some R→∀ v w w',Below w.heap.size w w'→R v w→R v w')
    (hal:∀ i R,mk i=some R→∃ o d,ops[i]? = some o∧o.dst=some d∧o.guard=none)
    (hd:∀ j R oj d,mk j=some R→ops[j]? = some oj→oj.dst=some d→∀ i o,i<n→i≠j→ops[i]? = some o→o.dst≠some d)
    (hL:∀ listed a w,L listed a→Track4 ops w0 mk listed a w→wpAny P md ops Q' g listed a w) :
    ∀ (f:Nat) (listed:Array Bool) (a:Act) (w:World),Track4 ops w0 mk listed a w→z3v P md ops w0 mk n L f listed a→wpAny P md ops Q' (f+g) listed a w
  | 0,listed,a,w,ht,h=>by rw [Nat.zero_add];exact hL _ _ _ h ht
  | f+1,listed,a,w,ht,h=>by
    rw [show f+1+g=(f+g)+1 by omega]
    refine ⟨fun h0=>absurd h0 h.1,fun i hi=>?_⟩
    obtain ⟨hin,hg⟩:=h.2 i hi
    unfold gOp4 at hg
    unfold wpOp
    have hlt:i<ops.size:=by
      obtain ⟨_,o,ho,_⟩:=mem_ready.1 hi
      exact (Array.getElem?_eq_some_iff.1 ho).1
    have ho:ops[i]? = some ops[i]:=Array.getElem?_eq_getElem hlt
    rw [ho] at hg ⊢
    simp only at hg ⊢
    -- what was known stays known
    have keep:∀ (v:Value) (w'':World),Below w.heap.size w w''→(∀ R,mk i=some R→∃ d,ops[i].dst=some d∧R v w'')→Track4 ops w0 mk (listed.setIfInBounds i true) (a.put ops[i].dst v) w'':=fun v w'' hb hR=>by
      refine ⟨ht.below.trans (hb.mono ht.below.size),fun j R hj hl=>?_,fun j R o d hj hoj hod=>by rw [x0x];exact ht.len j R o d hj hoj hod⟩
      by_cases hji:j=i
      · subst hji
        obtain ⟨d,hod,h2⟩:=hR R hj
        exact ⟨_,d,v,ho,hod,by rw [hod];exact x3o (ht.len j R _ d hj ho hod),h2⟩
      · rw [getD_set_ne false (Ne.symm hji)] at hl
        obtain ⟨o,d,v0,h1,h2,h3,h4⟩:=ht.slot j R hj hl
        exact ⟨o,d,v0,h1,h2,by rw [z53 (hd j R o d hj h1 h2 i _ hin (Ne.symm hji) ho)];exact h3,hstab j R hj _ _ _ hb h4⟩
    cases hmi:mk i with
    | none =>
      simp only [hmi] at hg
      obtain ⟨v,hy,hk⟩:=hg
      obtain ⟨v',hv',hy'⟩:=hy (v0b ht.below)
      rw [← put_same hv'] at hk
      have next:∀ w'',Below w.heap.size w w''→wpAny P md ops Q' (f+g) (listed.setIfInBounds i true) (a.put ops[i].dst v') w'':=fun w'' hb =>
        q7p hstab hal hd hL f _ _ w'' (keep v' w'' hb fun R hR=>by rw [hmi] at hR;cases hR) hk
      rcases hy' with ⟨hw,hq⟩ |⟨hw,rfl⟩
      · rw [if_pos hw]
        have h3:=hq w ⟨⟨w,Below.refl _ _⟩,rfl⟩
        refine .inl ?_
        unfold Oper.quietAt at h3
        unfold Oper.wp
        generalize (execOp a.eval ops[i]).run P w=r at *
        cases r with
        | ok nx w' =>
          cases nx <;> simp only [Oper.quietUpon] at h3 <;> simp only [Oper.upon]
          case value u =>
            obtain ⟨e1,e2⟩:=h3
            rw [e1,e2]
            exact next w (Below.refl _ _)
          case skip =>
            obtain ⟨e1,e2⟩:=h3
            rw [e1,← e2]
            exact next w (Below.refl _ _)
          case enter fn args =>
            obtain ⟨e1,hc⟩:=h3
            rw [e1]
            exact hc.mono fun e w'' ⟨he,x,hw''⟩=>by subst he;rw [hw''];exact next _ (q8w w x)
        | halt x w'=>simp only [Oper.quietUpon] at h3
      · rw [if_neg (by rw [hw];exact Bool.false_ne_true)]
        exact next w (Below.refl _ _)
    | some R =>
      simp only [hmi] at hg
      obtain ⟨o,d,ho',hod,hgd⟩:=hal i R hmi
      have hoo:ops[i]=o:=by rw [ho] at ho';exact Option.some.inj ho'
      rw [if_pos (by simp [Region.wanted,hoo,hgd])]
      refine .inl ?_
      unfold Oper.wp
      have hm:=hg.1 w ht.below
      have next:∀ v w'',Below w.heap.size w w''→R v w''→wpAny P md ops Q' (f+g) (listed.setIfInBounds i true) (a.put ops[i].dst v) w'':=fun v w'' hb hR =>
        q7p hstab hal hd hL f _ _ _ (keep v w'' hb fun R' hR'=>by rw [hmi] at hR';obtain rfl:=Option.some.inj hR';exact ⟨d,by rw [hoo];exact hod,hR⟩) (hg.2 v)
      generalize (execOp a.eval ops[i]).run P w=r at *
      cases r with
      | ok nx w' =>
        cases nx <;> simp only [v0c] at hm <;> simp only [Oper.upon]
        case value u=>exact next u w' hm.1 hm.2
        case enter fn args =>
          obtain ⟨rfl,hc⟩:=hm
          exact hc.mono fun e w'' ⟨v,he,hb,hR⟩=>by subst he;exact next v w'' hb hR
      | halt x w'=>exact hm.elim
end
end Go.Proofs.YtkicdhaklnmonaaGreat
