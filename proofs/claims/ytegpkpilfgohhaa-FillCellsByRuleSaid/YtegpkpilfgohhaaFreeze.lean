/-
  A row of the call's own stands from now on, wherever it is named. No program in sight.
-/
import Derived.Test.YtegpkpilfgohhaaMrg6
set_option linter.unusedVariables false
set_option linter.unusedSimpArgs false
set_option linter.unnecessarySimpa false
namespace Go.Proofs.Ytegpkpilfgohhaa
open Go.RowKit
def FlatM (G:Mem) (A:Option Addr) (xs:List Value):Prop:=(A=none∧xs=[])∨∃ b off,A=some ⟨b,off,none⟩∧∀ (j:Nat) u,xs[j]? = some u→G.cell? ⟨b,off+j,none⟩=some u
theorem FlatM.mono {G G':Mem} {A:Option Addr} {xs:List Value} (h:FlatM G A xs) (hle:G.le G'):FlatM G' A xs:=by
  rcases h with h |⟨b,off,h1,h2⟩
  · exact .inl h
  · exact .inr ⟨b,off,h1,fun j u hj=>hle.cell (h2 j u hj)⟩
def Mem.plus (G:Mem) (w:World) (g:Nat):Mem:=fun b=>if b=g then w.heap[g]? else G b
theorem Mem.le_plus {G:Mem} {w:World} (h:G.holds w) (g:Nat):G.le (G.plus w g):=fun b o hb=>by
  unfold Mem.plus
  split
  · rename_i e;subst e;exact h b o hb
  · exact hb
theorem Mem.plus_holds {G:Mem} {w:World} (h:G.holds w) (g:Nat):(G.plus w g).holds w:=fun b o hb=>by
  unfold Mem.plus at hb
  split at hb
  · rename_i e;subst e;exact hb
  · exact h b o hb
section
variable {w0:World} {G0:Mem} {β:Nm} {hp:List Blk} {G:Mem} {w:World}
end
def AV.plugB (k:Nat) (b:Nat):AV→AV
  | .sli j o n c=>match Nat.beq j k with
    | true=>.val (.slice (some ⟨b,o,none⟩) n c)
    | false=>.sli j o n c
  | .ptr j o=>match Nat.beq j k with
    | true=>.val (.pointer (some ⟨b,o,none⟩))
    | false=>.ptr j o
  | a=>a
theorem AV.plugB_rel {β:Nm} {k b:Nat} {v:Value} (hv:β k=some v) (hb:q0c v=some b) {a:AV} {y:Value} (h:a.rel β y):(a.plugB k b).rel β y:=by
  cases a with
  | sli j o n c =>
    show AV.rel β (match Nat.beq j k with
      | true=>.val (.slice (some ⟨b,o,none⟩) n c)
      | false=>.sli j o n c) y
    cases e:Nat.beq j k
    · exact h
    · have:=Nat.eq_of_beq_eq_true e
      subst this
      simp only [AV.rel] at h ⊢
      obtain ⟨v',b',h1,h2,h3⟩:=h
      rw [hv] at h1;cases h1
      rw [hb] at h2;cases h2
      exact h3
  | ptr j o =>
    show AV.rel β (match Nat.beq j k with
      | true=>.val (.pointer (some ⟨b,o,none⟩))
      | false=>.ptr j o) y
    cases e:Nat.beq j k
    · exact h
    · have:=Nat.eq_of_beq_eq_true e
      subst this
      simp only [AV.rel] at h ⊢
      obtain ⟨v',b',h1,h2,h3⟩:=h
      rw [hv] at h1;cases h1
      rw [hb] at h2;cases h2
      exact h3
  | _=>exact h
def q7c (k b:Nat) (l:List AV):List AV:=l.map (AV.plugB k b)
theorem q4i {β:Nm} {k b:Nat} {v:Value} (hv:β k=some v) (hb:q0c v=some b):∀ {l:List AV} {ys:List Value},AV.rels β l ys→AV.rels β (q7c k b l) ys
  | [],_,h=>h
  | a::l,ys,h=>by
    simp only [q7c,List.map_cons,AV.rels] at h ⊢
    obtain ⟨y,zs,h1,h2,h3⟩:=h
    exact ⟨y,zs,h1,AV.plugB_rel hv hb h2,q4i hv hb h3⟩
def q3r (k b:Nat) (l:List AV):(List AV→Prop)→Prop :=
  List.rec (motive:=fun _=>(List AV→Prop)→Prop) (fun K=>K []) (fun a _ ih K=>ih fun m=>q2c (AV.plugB k b a) fun a'=>K (a'::m)) l
theorem q4j (k b:Nat):∀ (l:List AV) (K:List AV→Prop),q3r k b l K=K (q7c k b l)
  | [],_=>rfl
  | a::l,K=>by
    show q3r k b l (fun m=>q2c (AV.plugB k b a) fun a'=>K (a'::m))=_
    rw [q4j k b l,q1p];rfl
theorem HR.stand {w0:World} {G0:Mem} {β:Nm} {hp:List Blk} {G:Mem} {w:World} (hr:HR w0 G0 β hp G w) {k:Nat} {v:Value} {t:TypeId} {l:List AV} {xs:List Value} (hv:β k=some v) (hk:nthB hp k=.cells t l) (hl:l=xs.map .val) :
    ∃ b G',q0c v=some b∧G.le G'∧(∀ (j:Nat) u,xs[j]? = some u→G'.cell? ⟨b,j,none⟩=some u)∧HR w0 G0 β (hp.set k .gone) G' w:=by
  obtain ⟨x,hx1,hx2⟩:=hr.blk k v hv
  have hkx:=q0l hk rfl
  rw [hkx] at hx1;cases hx1
  obtain ⟨g,c,rfl,h5,h6,h7,h8⟩:=hx2
  rw [hl] at h8
  have hc:=q1h h8
  have hcell:∀ (j:Nat) u,xs[j]? = some u→(G.plus w g).cell? ⟨g,j,none⟩=some u:=fun j u hj=>by
    have h11:(G.plus w g) g=some (.cells c t (0,0)):=by simp [Mem.plus,h7]
    unfold Mem.cell?
    rw [h11]
    rw [← hc] at hj
    simpa using hj
  have hf:=hr.forget k
  refine ⟨g,G.plus w g,rfl,Mem.le_plus hr.hold g,hcell,⟨hf.below,Mem.plus_holds hr.hold g,Mem.le_trans hr.sub (Mem.le_plus hr.hold g),fun b o hb=>?_,fun j z hj=>?_,hf.inj,hf.wrt⟩⟩
  · unfold Mem.plus at hb
    split at hb
    · rename_i e1;subst e1
      exact .inr h5
    · exact hr.grow b o hb
  · obtain ⟨x,hx1,hx2⟩:=hf.blk j z hj
    refine ⟨x,hx1,?_⟩
    have hne:∀ b,x.live=true→q0c z=some b→b≠g:=fun b hl hb e=>by
      subst e
      by_cases hjk:j=k
      · subst hjk
        rw [List.getElem?_set] at hx1
        simp [(List.getElem?_eq_some_iff.1 hkx).1] at hx1
        subst hx1;simp [Blk.live] at hl
      · have hx3:hp[j]? = some x:=by rw [List.getElem?_set,if_neg (fun e=>hjk e.symm)] at hx1;exact hx1
        exact hr.inj j k z _ x _ b hjk hj hv hx3 hkx hl rfl hb rfl
    cases x with
    | gone=>trivial
    | muts S=>exact hx2.elim
    | cells t l =>
      obtain ⟨b,c,q1,q2,q3,q4,q5⟩:=hx2
      refine ⟨b,c,q1,q2,?_,q4,q5⟩
      have:=hne b rfl (by rw [q1];rfl)
      simp [Mem.plus,this,q3]
    | own e sz' n' xs' =>
      obtain ⟨q1,q2⟩:=hx2
      refine ⟨q1,fun b hb=>?_⟩
      have:=hne b rfl hb
      simp [Mem.plus,this,q2 b hb]
    | lp i fr st p =>
      obtain ⟨q1,q2,q3,q4⟩:=hx2
      refine ⟨q1,q2,?_,q4⟩
      have:=hne i.l rfl (by rw [q1];rfl)
      simp [Mem.plus,this,q3]
    | mp f ks vs =>
      obtain ⟨b,ys,q1,q2,q3,q4⟩:=hx2
      refine ⟨b,ys,q1,q2,?_,q4⟩
      have:=hne b rfl (by rw [q1];rfl)
      simp [Mem.plus,this,q3]
def q5c (k:Nat):List AV→Bool
  | []=>false
  | .sli j _ _ _::l=>match Nat.beq j k with
    | true=>true
    | false=>q5c k l
  | _::l=>q5c k l
theorem q5d {β:Nm} {k:Nat}:∀ {l:List AV} {ys:List Value},AV.rels β l ys→q5c k l=true→∃ v,β k=some v
  | [],_,_,h=>by cases h
  | a::l,ys,hr,h=>by
    simp only [AV.rels] at hr
    obtain ⟨y,zs,_,h2,h3⟩:=hr
    cases a with
    | sli j o n c =>
      unfold q5c at h
      split at h
      · rename_i e
        have:=Nat.eq_of_beq_eq_true e
        subst this
        simp only [AV.rel] at h2
        obtain ⟨v,_,h4,_⟩:=h2
        exact ⟨v,h4⟩
      · exact q5d h3 h
    | _=>exact q5d h3 (by simpa [q5c] using h)
theorem q62 {P:Program} {f:FuncId} (k:Nat) (hen:∀ vs w,(callFunc f vs).run P w=.ok (.enter f vs) w) {args:List AV} {hp:List Blk} {G:Mem} {K:AV→List Blk→Mem→Prop} {t:TypeId} {l:List AV} {xs:List Value} (hin:q5c k args=true) (hk:nthB hp k=.cells t l) (hl:l=xs.map .val)
    (h:∀ b G',G.le G'→(∀ (j:Nat) u,xs[j]? = some u→G'.cell? ⟨b,j,none⟩=some u)→setF hp k .gone fun hp'=>q3r k b args fun args'=>CallP P f args' hp' G' K):CallP P f args hp G K:=by
  refine ⟨hen,fun w0 G0 β w vs hr ha=>?_⟩
  obtain ⟨v,hv⟩:=q5d ha hin
  obtain ⟨b,G',hb,hle,hc,hr'⟩:=hr.stand hv hk hl
  have h0:=h b G' hle hc
  rw [q06,q4j] at h0
  exact h0.calls w0 G0 β w vs hr' (q4i hv hb ha)
end Go.Proofs.Ytegpkpilfgohhaa
