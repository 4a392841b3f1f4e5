/-
  A row of the call's own stands from now on, wherever it is named. No program in sight.
-/
import Derived.Test.YtbkhpddodmbdoaaMrg6
set_option linter.unusedVariables false
set_option linter.unusedSimpArgs false
set_option linter.unnecessarySimpa false
namespace Go.Proofs.Ytbkhpddodmbdoaa
open Go.RowKit
def FlatM (G:Mem) (A:Option Addr) (xs:List Value):Prop:=(A=none∧xs=[])∨∃ b off,A=some ⟨b,off,none⟩∧∀ (j:Nat) u,xs[j]? = some u→G.cell? ⟨b,off+j,none⟩=some u
theorem FlatM.mono {G G':Mem} {A:Option Addr} {xs:List Value} (h:FlatM G A xs) (hle:G.le G'):FlatM G' A xs:=by
  rcases h with h |⟨b,off,h1,h2⟩
  · exact .inl h
  · exact .inr ⟨b,off,h1,fun j u hj=>hle.cell (h2 j u hj)⟩
theorem FlatM.els {G:Mem} {A:Option Addr} {sz n:Nat} {c:Nat→List Value} (h:FlatM G A (q0m c n)) (hl:∀ x,x<n→(c x).length=sz) (hs:0<sz):ElsM G A sz n c:=by
  refine ⟨hl,fun x hx=>?_⟩
  rcases h with ⟨_,h⟩ |⟨b,off,h1,h2⟩
  · have:=q1o hl
    rw [h] at this
    have h1:0<n*sz:=Nat.mul_pos (by omega) hs
    simp at this;omega
  · refine ⟨b,off,h1,fun j v hj=>?_⟩
    have hjl:j<sz:=by have:=(List.getElem?_eq_some_iff.1 hj).1;rw [hl x hx] at this;exact this
    rw [Nat.add_assoc]
    exact h2 _ _ (by rw [q3o hl hx hjl];exact hj)
def Mem.plus (G:Mem) (w:World) (g:Nat):Mem:=fun b=>if b=g then w.heap[g]? else G b
theorem Mem.le_plus {G:Mem} {w:World} (h:G.holds w) (g:Nat):G.le (G.plus w g):=fun b o hb=>by
  unfold Mem.plus
  split
  · rename_i e;subst e;exact h b o hb
  · exact hb
theorem Mem.plus_holds {G:Mem} {w:World} (h:G.holds w) (g:Nat):(G.plus w g).holds w:=fun b o hb=>by
  unfold Mem.plus at hb
  split at hb
  · rename_i e;subst e;exact hb
  · exact h b o hb
section
variable {w0:World} {G0:Mem} {β:Nm} {hp:List Blk} {G:Mem} {w:World}
theorem HR.freeze (hr:HR w0 G0 β hp G w) {k:Nat} {v:Value} {E:TypeId} {sz n:Nat} {xs:List Value} (hv:β k=some v) (hk:nthB hp k=.own E sz n xs) :
    ∃ A cap G',v=.slice A n cap∧G.le G'∧n≤cap∧cap≤maxLen∧FlatM G' A xs∧HR w0 G0 β (hp.set k .gone) G' w:=by
  obtain ⟨x,hx1,hx2⟩:=hr.blk k v hv
  have hkx:=q0x hk rfl
  rw [hkx] at hx1;cases hx1
  obtain ⟨⟨hlen,hown⟩,hfree⟩:=hx2
  rcases hown with ⟨rfl,h5⟩ |⟨g,cap,cur,rfl,h5,h6,h7,h8,h9,h10⟩
  · subst h5
    exact ⟨none,0,G,rfl,Mem.le_refl _,Nat.le_refl _,Nat.zero_le _,.inl ⟨rfl,by simpa using hlen⟩,hr.forget k⟩
  · have hcell:∀ (j:Nat) u,xs[j]? = some u→(G.plus w g).cell? ⟨g,0+j,none⟩=some u:=fun j u hj=>by
      have h11:(G.plus w g) g=some (.cells cur E (0,0)):=by simp [Mem.plus,h6]
      unfold Mem.cell?
      rw [Nat.zero_add,h11]
      rw [← h10] at hj
      rw [List.getElem?_take] at hj
      split at hj
      · simpa using hj
      · cases hj
    have hf:=hr.forget k
    refine ⟨some ⟨g,0,none⟩,cap,G.plus w g,rfl,Mem.le_plus hr.hold g,h7,h8,.inr ⟨g,0,rfl,hcell⟩,⟨hf.below,Mem.plus_holds hr.hold g,Mem.le_trans hr.sub (Mem.le_plus hr.hold g),fun b o hb=>?_,fun j z hj=>?_,hf.inj,hf.wrt⟩⟩
    · unfold Mem.plus at hb
      split at hb
      · rename_i e1;subst e1
        exact .inr h5
      · exact hr.grow b o hb
    · obtain ⟨x,hx1,hx2⟩:=hf.blk j z hj
      refine ⟨x,hx1,?_⟩
      have hne:∀ b,x.live=true→q0j z=some b→b≠g:=fun b hl hb e=>by
        subst e
        by_cases hjk:j=k
        · subst hjk
          rw [List.getElem?_set] at hx1
          simp [(List.getElem?_eq_some_iff.1 hkx).1] at hx1
          subst hx1;simp [Blk.live] at hl
        · have hx3:hp[j]? = some x:=by rw [List.getElem?_set,if_neg (fun e=>hjk e.symm)] at hx1;exact hx1
          exact hr.inj j k z _ x _ b hjk hj hv hx3 hkx hl rfl hb rfl
      cases x with
      | gone=>trivial
      | muts S=>exact hx2.elim
      | cells t l =>
        obtain ⟨b,c,q1,q2,q3,q4,q5⟩:=hx2
        refine ⟨b,c,q1,q2,?_,q4,q5⟩
        have:=hne b rfl (by rw [q1];rfl)
        simp [Mem.plus,this,q3]
      | own e sz' n' xs' =>
        obtain ⟨q1,q2⟩:=hx2
        refine ⟨q1,fun b hb=>?_⟩
        have:=hne b rfl hb
        simp [Mem.plus,this,q2 b hb]
      | lp i fr st p =>
        obtain ⟨q1,q2,q3,q4⟩:=hx2
        refine ⟨q1,q2,?_,q4⟩
        have:=hne i.l rfl (by rw [q1];rfl)
        simp [Mem.plus,this,q3]
      | mp f ks vs =>
        obtain ⟨b,ys,q1,q2,q3,q4⟩:=hx2
        refine ⟨b,ys,q1,q2,?_,q4⟩
        have:=hne b rfl (by rw [q1];rfl)
        simp [Mem.plus,this,q3]
end
end Go.Proofs.Ytbkhpddodmbdoaa
