/-
  Merged: XPcBack, XPullLaw, XPullI, XSomeW, XNumE, XGradients.
-/
import Derived.Test.YtkicdhaklnmonaaGreatMrg14
import Derived.Test.YtkicdhaklnmonaaGreatMrg16
import Derived.Test.YtkicdhaklnmonaaGreatMrg20
import Derived.Test.YtkicdhaklnmonaaGreatMrg19
import Derived.Test.YtkicdhaklnmonaaGreatMrg17
import Derived.Test.YtkicdhaklnmonaaGreatMrg13
import Derived.Test.YtkicdhaklnmonaaGreatMrg5
set_option linter.unusedVariables false
set_option linter.unusedSimpArgs false
set_option linter.unnecessarySimpa false
namespace Go.Proofs.YtkicdhaklnmonaaGreat
open Go.RowKit
theorem z6c {α:Type} {R:α→α→Prop} (asym:∀ a b,R a b→R b a→False):∀ {l m:List α},l.Pairwise R→m.Pairwise R→(∀ x,x∈l↔x∈m)→l=m
  | [],[],_,_,_=>rfl
  | [],b::m,_,_,h=>absurd ((h b).2 (by simp)) (by simp)
  | a::l,[],_,_,h=>absurd ((h a).1 (by simp)) (by simp)
  | a::l,b::m,hl,hm,h=>by
    rw [List.pairwise_cons] at hl hm
    have hab:a=b:=by
      rcases List.mem_cons.1 ((h a).1 (by simp)) with h1 |h1
      · exact h1
      · rcases List.mem_cons.1 ((h b).2 (by simp)) with h2 |h2
        · exact h2.symm
        · exact (asym a b (hl.1 b h2) (hm.1 a h1)).elim
    subst hab
    rw [z6c asym hl.2 hm.2 fun x=>⟨fun hx=>?_,fun hx=>?_⟩]
    · rcases List.mem_cons.1 ((h x).1 (List.mem_cons_of_mem _ hx)) with h1 |h1
      · subst h1;exact (asym x x (hl.1 x hx) (hl.1 x hx)).elim
      · exact h1
    · rcases List.mem_cons.1 ((h x).2 (List.mem_cons_of_mem _ hx)) with h1 |h1
      · subst h1;exact (asym x x (hm.1 x hx) (hm.1 x hx)).elim
      · exact h1
section
variable {c:Nat→List Int} {W:Nat}
structure GHas (c:Nat→List Int) (W i:Nat) (gs:List Pc):Prop where
  cells:∀ (a:Nat) (p:Pc),gs[a]? = some p→∀ x y,hasR p.2 x y↔∃ j,j<i∧c j=p.1∧x=((j%W:Nat):Int)∧y=((j/W:Nat):Int)
  keys:∀ j,j<i→c j≠q58→gidx (c j) gs<gs.length
  order:∀ (a b:Nat) (p q:Pc),a<b→gs[a]? = some p→gs[b]? = some q→∃ j,c j=p.1∧∀ j',j'≤j→c j'≠q.1
theorem z8x {v:List Int} {gs:List Pc} (h:gidx v gs=gs.length) {a:Nat} {p:Pc} (hp:gs[a]? = some p):p.1≠v :=
  z3z (v:=v) (gs:=gs) (by rw [h];exact (List.getElem?_eq_some_iff.1 hp).1) hp
theorem z7e {v:List Int} {gs:List Pc} {a:Nat} {p:Pc} (hp:gs[a]? = some p) (hv:p.1=v):gidx v gs<gs.length:=by
  rcases Nat.lt_or_ge (gidx v gs) gs.length with h |h
  · exact h
  · exact absurd hv (z8x (by have:=q62 v gs;omega) hp)
theorem x3g (hW:0<W):∀ i,GHas c W i (gat c W i)
  | 0=>⟨fun a p h=>(by simp [gat] at h),fun j hj=>(by omega),fun a b p q _ h=>(by simp [gat] at h)⟩
  | i+1=>by
    have ih:=x3g hW i
    have ok:=q8i c hW i
    rw [gat]
    generalize gat c W i=gs at *
    unfold gadd
    by_cases hz:c i=q58
    · rw [if_pos hz]
      refine ⟨fun a p hp x y=>(ih.cells a p hp x y).trans ⟨fun ⟨j,h1,h2⟩=>⟨j,by omega,h2⟩,fun ⟨j,h1,h2⟩=>⟨j,?_,h2⟩⟩,fun j hj hn=>ih.keys j ?_ hn,ih.order⟩
      · have:j≠i:=fun e=>by subst e;exact (ok.keys p (List.mem_of_getElem? hp)).1 (h2.1.symm.trans hz)
        omega
      · have:j≠i:=fun e=>by subst e;exact hn hz
        omega
    · rw [if_neg hz]
      rcases Nat.lt_or_ge (gidx (c i) gs) gs.length with hi |hi
      · obtain ⟨L,hL⟩:=q5l hi
        rw [q6q hL]
        obtain ⟨h1,h2,h3⟩:=ok.runs _ (List.mem_of_getElem? hL)
        obtain ⟨_,_,a3⟩:=z3u (b:=((i%W:Nat):Int)+1) h3 h2
        have get:∀ (a:Nat) (p:Pc),(gs.set (gidx (c i) gs) (c i,addR L ((i/W:Nat):Int) ((i%W:Nat):Int) ((i%W:Nat)+1:Int)))[a]? = some p→(a=gidx (c i) gs∧p=(c i,addR L ((i/W:Nat):Int) ((i%W:Nat):Int) ((i%W:Nat)+1:Int)))∨(a≠gidx (c i) gs∧gs[a]? = some p):=fun a p hp=>by
          rw [List.getElem?_set] at hp
          by_cases e:gidx (c i) gs=a
          · subst e
            rw [if_pos rfl,if_pos hi] at hp
            cases hp;exact .inl ⟨rfl,rfl⟩
          · rw [if_neg e] at hp;exact .inr ⟨fun h=>e h.symm,hp⟩
        have back:∀ (a:Nat) (p:Pc),(gs.set (gidx (c i) gs) (c i,addR L ((i/W:Nat):Int) ((i%W:Nat):Int) ((i%W:Nat)+1:Int)))[a]? = some p→∃ q,gs[a]? = some q∧q.1=p.1:=fun a p hp=>by
          rcases get a p hp with ⟨rfl,rfl⟩ |⟨_,h⟩
          · exact ⟨_,hL,rfl⟩
          · exact ⟨p,h,rfl⟩
        refine ⟨fun a p hp x y=>?_,fun j hj hn=>?_,fun a b p q hab hp hq=>?_⟩
        · rcases get a p hp with ⟨rfl,rfl⟩ |⟨hne,h⟩
          · rw [a3,ih.cells _ _ hL]
            constructor
            · rintro (⟨j,g1,g2⟩ |⟨g1,g2,g3⟩)
              · exact ⟨j,by omega,g2⟩
              · exact ⟨i,by omega,rfl,by omega,g1⟩
            · rintro ⟨j,g1,g2,g3,g4⟩
              by_cases e:j=i
              · subst e;exact .inr ⟨g4,by omega,by omega⟩
              · exact .inl ⟨j,by omega,g2,g3,g4⟩
          · rw [ih.cells _ _ h]
            have hpi:p.1≠c i:=fun e=>by
              rcases Nat.lt_or_ge a (gidx (c i) gs) with h5 |h5
              · exact z3z (v:=c i) (gs:=gs) h5 h e
              · exact ok.apart _ _ _ _ (show gidx (c i) gs<a by omega) hL h e.symm
            exact ⟨fun ⟨j,g1,g2⟩=>⟨j,by omega,g2⟩,fun ⟨j,g1,g2⟩=>⟨j,by
              have:j≠i:=fun e=>by subst e;exact hpi g2.1.symm
              omega,g2⟩⟩
        · have hlt:gidx (c j) gs<gs.length:=by
            by_cases e:j=i
            · subst e;exact hi
            · exact ih.keys j (by omega) hn
          obtain ⟨M,hM⟩:=q5l hlt
          have:∃ q,(gs.set (gidx (c i) gs) (c i,addR L ((i/W:Nat):Int) ((i%W:Nat):Int) ((i%W:Nat)+1:Int)))[gidx (c j) gs]? = some q∧q.1=c j:=by
            rw [List.getElem?_set]
            by_cases e:gidx (c i) gs=gidx (c j) gs
            · rw [if_pos e,if_pos hi]
              rw [e,hM] at hL
              exact ⟨_,rfl,(congrArg Prod.fst (Option.some.inj hL)).symm⟩
            · rw [if_neg e];exact ⟨_,hM,rfl⟩
          obtain ⟨q,g1,g2⟩:=this
          exact z7e g1 g2
        · obtain ⟨p',g1,g2⟩:=back a p hp
          obtain ⟨q',g3,g4⟩:=back b q hq
          rw [← g2,← g4];exact ih.order a b p' q' hab g1 g3
      · have hi:gidx (c i) gs=gs.length:=by have:=q62 (c i) gs;omega
        rw [q6r hi]
        have get:∀ (a:Nat) (p:Pc),(gs++[(c i,[⟨((i/W:Nat):Int),((i%W:Nat):Int),((i%W:Nat)+1:Int)⟩])])[a]? = some p→(a<gs.length∧gs[a]? = some p)∨(a=gs.length∧p=(c i,[⟨((i/W:Nat):Int),((i%W:Nat):Int),((i%W:Nat)+1:Int)⟩])):=fun a p hp=>by
          rw [List.getElem?_append] at hp
          split at hp
          · exact .inl ⟨‹_›,hp⟩
          · have:a-gs.length=0:=by have:=(List.getElem?_eq_some_iff.1 hp).1;simp at this;omega
            rw [this] at hp;simp at hp
            exact .inr ⟨by omega,hp.symm⟩
        have fresh:∀ j,j<i→c j≠c i:=fun j hj e=>by
          have:=ih.keys j hj (by rw [e];exact hz)
          rw [e,hi] at this;omega
        refine ⟨fun a p hp x y=>?_,fun j hj hn=>?_,fun a b p q hab hp hq=>?_⟩
        · rcases get a p hp with ⟨_,h⟩ |⟨rfl,rfl⟩
          · rw [ih.cells _ _ h]
            have hpi:p.1≠c i:=z8x hi h
            exact ⟨fun ⟨j,g1,g2⟩=>⟨j,by omega,g2⟩,fun ⟨j,g1,g2⟩=>⟨j,by
              have:j≠i:=fun e=>by subst e;exact hpi g2.1.symm
              omega,g2⟩⟩
          · constructor
            · rintro ⟨r,hr,g1,g2,g3⟩
              simp at hr;subst hr
              dsimp only at g1 g2 g3
              exact ⟨i,by omega,rfl,by omega,g1.symm⟩
            · rintro ⟨j,g1,g2,g3,g4⟩
              have:j=i:=by
                rcases Nat.lt_or_ge j i with h |h
                · exact absurd g2 (fresh j h)
                · omega
              subst this
              exact ⟨⟨((j/W:Nat):Int),((j%W:Nat):Int),((j%W:Nat)+1:Int)⟩,by simp,g4.symm,by show ((j%W:Nat):Int)≤x;omega,by show x<((j%W:Nat):Int)+1;omega⟩
        · by_cases e:j=i
          · subst e
            refine z7e (a:=gs.length) (p:=(c j,[⟨((j/W:Nat):Int),((j%W:Nat):Int),((j%W:Nat)+1:Int)⟩])) ?_ rfl
            simp
          · obtain ⟨M,hM⟩:=q5l (ih.keys j (by omega) hn)
            exact z7e (a:=gidx (c j) gs) (p:=(c j,M)) (by rw [List.getElem?_append_left (ih.keys j (by omega) hn)];exact hM) rfl
        · rcases get b q hq with ⟨_,hq'⟩ |⟨rfl,rfl⟩
          · rcases get a p hp with ⟨_,hp'⟩ |⟨rfl,_⟩
            · exact ih.order a b p q hab hp' hq'
            · have:=(List.getElem?_eq_some_iff.1 hq').1;omega
          · rcases get a p hp with ⟨_,hp'⟩ |⟨rfl,_⟩
            · -- any cell of the elder piece
              have hm:=List.mem_of_getElem? hp'
              obtain ⟨_,_,hok⟩:=ok.runs p hm
              have hne:=(ok.keys p hm).2
              obtain ⟨r,hr⟩:∃ r,r∈p.2:=by
                cases hpl:p.2 with
                | nil=>exact absurd hpl hne
                | cons r l=>exact ⟨r,by simp⟩
              obtain ⟨j,g1,g2,_⟩:=(ih.cells a p hp' r.x0 r.y).1 ⟨r,hr,rfl,Int.le_refl _,q4w hok hr⟩
              exact ⟨j,g2,fun j' hj'=>fresh j' (by omega)⟩
            · omega
end
theorem x6t {L:List Run} (h:okR L) (hne:L.length≠0) {x y:Int} (hh:hasR L x y):(q08 L).y<y∨((q08 L).y=y∧(q08 L).x0≤x):=by
  cases L with
  | nil=>simp at hne
  | cons r l=>exact z2r h hh
theorem z6d {L:List Run} (h:okR L) (hne:L.length≠0):hasR L (q08 L).x0 (q08 L).y:=by
  cases L with
  | nil=>simp at hne
  | cons r l=>exact ⟨r,by simp,rfl,Int.le_refl _,h.1⟩
theorem PcsOk.first {w h:Int} {n:Nat} {p:Nat→PcD} (ok:PcsOk w h n p):∀ (d i:Nat),i+d<n→(q08 (p i).L).y<(q08 (p (i+d)).L).y∨((q08 (p i).L).y=(q08 (p (i+d)).L).y∧(q08 (p i).L).x0≤(q08 (p (i+d)).L).x0)
  | 0,i,_=>.inr ⟨rfl,Int.le_refl _⟩
  | d+1,i,hd=>by
    have ih:=ok.first d i (by omega)
    have h1:=(ok.two (i+(d+1)) hd).2
    unfold ordP at h1
    rw [show i+(d+1)-1=i+d by omega] at h1
    omega
theorem x9e {w h:Int} {n:Nat} {p:Nat→PcD} (ok:PcsOk w h n p) {W N:Nat} (hW:(W:Int)=16*w) (hN:(N:Int)=(16*h)*(16*w)):gat (q3u p W n) W N=(List.range n).map fun k=>(vecI (p k).I,(p k).L):=by
  have hW0:0<W:=by have:=ok.wd;omega
  have g:=x3g (c:=q3u p W n) hW0 N
  have gk:=q8i (q3u p W n) hW0 N
  have okL:∀ k,k<n→okR (p k).L:=fun k hk=>(q35 (ok.one k hk).1).ok
  -- the place of a cell of the page
  have place:∀ x y:Int,(0≤x∧x<16*w)→(0≤y∧y<16*h)→∃ j,j<N∧x=((j%W:Nat):Int)∧y=((j/W:Nat):Int):=fun x y hx hy=>by
    obtain ⟨a,rfl⟩:∃ a:Nat,x=a:=⟨x.toNat,by omega⟩
    obtain ⟨b,rfl⟩:∃ b:Nat,y=b:=⟨y.toNat,by omega⟩
    have ha:a<W:=by omega
    refine ⟨a+W*b,?_,?_,?_⟩
    · have hb:(b:Int)+1≤16*h:=by omega
      have h1:((b:Int)+1)*W≤(16*h)*W:=Int.mul_le_mul_of_nonneg_right hb (by omega)
      rw [hW,← hN] at h1
      have h2:((a+W*b:Nat):Int)<N:=by
        have e:((W*b:Nat):Int)=(b:Int)*(16*w):=by rw [Int.natCast_mul,hW,Int.mul_comm]
        have e2:((b:Int)+1)*(16*w)=(b:Int)*(16*w)+16*w:=by rw [Int.add_mul,Int.one_mul]
        omega
      omega
    · rw [Nat.add_mul_mod_self_left,Nat.mod_eq_of_lt ha]
    · rw [Nat.add_mul_div_left _ _ hW0,Nat.div_eq_of_lt ha];omega
  let R:Pc→Pc→Prop:=fun a b=>∃ j,q3u p W n j=a.1∧∀ j',j'≤j→q3u p W n j'≠b.1
  have asym:∀ a b,R a b→R b a→False:=fun a b ⟨j,h1,h2⟩ ⟨k,h3,h4⟩=>by
    rcases Nat.le_total j k with h |h
    · exact h4 j h h1
    · exact h2 k h h3
  have cellv:∀ (k:Nat) (x y:Int),k<n→hasR (p k).L x y→∃ j,j<N∧x=((j%W:Nat):Int)∧y=((j/W:Nat):Int)∧q3u p W n j=vecI (p k).I:=fun k x y hk hh=>by
    obtain ⟨hx,hy⟩:=ok.page hk hh
    obtain ⟨j,h1,h2,h3⟩:=place x y hx hy
    exact ⟨j,h1,h2,h3,ok.cell hk (by rw [← h2,← h3];exact hh)⟩
  have vecs:∀ i j,i<n→j<n→vecI (p i).I=vecI (p j).I→i=j:=fun i j hi hj e=>by
    rcases Nat.lt_trichotomy i j with h |h |h
    · exact ((ok.two j hj).1 ⟨i,h,.inl (vecI_same.1 e)⟩).elim
    · exact h
    · exact ((ok.two i hi).1 ⟨j,h,.inl (vecI_same.1 e.symm)⟩).elim
  have back:∀ (k j:Nat),k<n→q3u p W n j=vecI (p k).I→hasR (p k).L ((j%W:Nat):Int) ((j/W:Nat):Int):=fun k j hk e=>by
    by_cases hh:∃ k',k'<n∧hasR (p k').L ((j%W:Nat):Int) ((j/W:Nat):Int)
    · obtain ⟨k',h1,h2⟩:=hh
      have:=ok.cell h1 h2
      rw [this] at e
      rw [← vecs k' k h1 hk e];exact h2
    · rw [ok.zero.2 hh] at e
      exact ((ok.one k hk).2.2.2 (vecI_zero.1 e.symm)).elim
  refine z6c asym ?_ ?_ fun x=>?_
  · rw [List.pairwise_iff_getElem]
    intro i j hi hj hij
    exact g.order i j _ _ hij (List.getElem?_eq_getElem hi) (List.getElem?_eq_getElem hj)
  · rw [List.pairwise_map,List.pairwise_iff_getElem]
    intro i j hi hj hij
    simp only [List.getElem_range]
    have hi:i<n:=by simpa using hi
    have hj:j<n:=by simpa using hj
    obtain ⟨q,h1,h2,h3,h4⟩:=cellv i _ _ hi (z6d (okL i hi) (ok.one i hi).2.1)
    refine ⟨q,h4,fun q' hq' e=>?_⟩
    have hh:=back j q' hj e
    have hf:=x6t (okL j hj) (ok.one j hj).2.1 hh
    have hd:=ok.first (j-i) i (by omega)
    rw [show i+(j-i)=j by omega] at hd
    have e1:=Nat.div_add_mod q W
    have e2:=Nat.div_add_mod q' W
    have m1:=Nat.mod_lt q hW0
    have m2:=Nat.mod_lt q' hW0
    have hle:q'/W≤q/W:=Nat.div_le_div_right hq'
    have hyy:q'/W=q/W:=by omega
    rw [hyy] at e2 hf hh
    have hxx:q'%W=q%W:=by omega
    have hqq:q'=q:=by omega
    subst hqq
    rw [h4] at e
    have:=vecs i j hi hj e
    omega
  · constructor
    · intro hx
      obtain ⟨a,ha⟩:=List.mem_iff_getElem?.1 hx
      have hc:=g.cells a x ha
      obtain ⟨h1,h2⟩:=gk.keys x hx
      obtain ⟨_,_,hok⟩:=gk.runs x hx
      obtain ⟨r,hr⟩:∃ r,r∈x.2:=by
        cases hpl:x.2 with
        | nil=>exact absurd hpl h2
        | cons r l=>exact ⟨r,by simp⟩
      obtain ⟨j,g1,g2,_⟩:=(hc r.x0 r.y).1 ⟨r,hr,rfl,Int.le_refl _,q4w hok hr⟩
      have hk:∃ k,k<n∧hasR (p k).L ((j%W:Nat):Int) ((j/W:Nat):Int):=by
        refine Classical.byContradiction fun hn=>?_
        rw [ok.zero.2 hn] at g2
        exact h1 g2.symm
      obtain ⟨k,hk1,hk2⟩:=hk
      have hv:=ok.cell hk1 hk2
      have hx1:x.1=vecI (p k).I:=g2.symm.trans hv
      have hx2:x.2=(p k).L:=q9b hok (okL k hk1) fun u v=>by
        rw [hc u v]
        constructor
        · rintro ⟨q,q1,q2,rfl,rfl⟩
          exact back k q hk1 (q2.trans hx1)
        · intro hh
          obtain ⟨q,q1,q2,q3,q4⟩:=cellv k u v hk1 hh
          exact ⟨q,q1,q4.trans hx1.symm,q2,q3⟩
      rw [List.mem_map]
      exact ⟨k,List.mem_range.2 hk1,by rw [← hx1,← hx2]⟩
    · intro hx
      obtain ⟨k,hk,rfl⟩:=List.mem_map.1 hx
      have hk:=List.mem_range.1 hk
      obtain ⟨j,h1,h2,h3,h4⟩:=cellv k _ _ hk (z6d (okL k hk) (ok.one k hk).2.1)
      have hz:q3u p W n j≠q58:=fun e=>(ok.one k hk).2.2.2 (vecI_zero.1 (h4.symm.trans e))
      obtain ⟨M,hM⟩:=q5l (g.keys j h1 hz)
      rw [h4] at hM
      have hm:=List.mem_of_getElem? hM
      obtain ⟨_,_,hok⟩:=gk.runs _ hm
      have hML:M=(p k).L:=q9b hok (okL k hk) fun u v=>by
        rw [g.cells _ _ hM u v]
        constructor
        · rintro ⟨q,q1,q2,rfl,rfl⟩
          exact back k q hk q2
        · intro hh
          obtain ⟨q,q1,q2,q3,q4⟩:=cellv k u v hk hh
          exact ⟨q,q1,q4,q2,q3⟩
      rw [← hML];exact hm
end Go.Proofs.YtkicdhaklnmonaaGreat
namespace Go.Proofs.YtkicdhaklnmonaaGreat
open Go.RowKit
theorem cell_in {w h:Int} {W N:Nat} (hw:0<w) (hW:(W:Int)=16*w) (hN:(N:Int)=(16*h)*(16*w)) {j:Nat} (hj:j<N):(((j%W:Nat):Int)<16*w)∧((j/W:Nat):Int)<16*h:=by
  have hW0:0<W:=by omega
  refine ⟨by have:=Nat.mod_lt j hW0;omega,?_⟩
  have e:=Nat.div_add_mod j W
  rcases Int.lt_or_le ((j/W:Nat):Int) (16*h) with h1 |h1
  · exact h1
  · exfalso
    have h2:(16*h)*W≤((j/W:Nat):Int)*W:=Int.mul_le_mul_of_nonneg_right h1 (by omega)
    have h3:((j/W:Nat):Int)*W=((W*(j/W):Nat):Int):=by rw [Int.natCast_mul,Int.mul_comm]
    rw [h3,hW,← hN] at h2
    omega
end Go.Proofs.YtkicdhaklnmonaaGreat
namespace Go.Proofs.YtkicdhaklnmonaaGreat
open Go.RowKit
theorem lt8 {k:Nat} (h:k<8):k=0∨k=1∨k=2∨k=3∨k=4∨k=5∨k=6∨k=7:=by omega
theorem x9f {I:Nat→Int} {k:Nat} (h:k<8):(vecI I)[k]? = some (I k):=by
  rcases lt8 h with rfl |rfl |rfl |rfl |rfl |rfl |rfl |rfl <;> rfl
end Go.Proofs.YtkicdhaklnmonaaGreat
namespace Go.Proofs.YtkicdhaklnmonaaGreat
open Go.RowKit
set_option maxRecDepth 20000
set_option maxHeartbeats 4000000 in
theorem z88 {A:Option Addr} {w h:Int} {n c:Nat} {p:Nat→PcD} {G:Mem} (ok:PcsOk w h n p) (e0:pcsE w h n p=0) (hP:PcsM G A n p) :
    q55 Tryz.prog 8 [.val (.int .i64 w),.val (.int .i64 h),.val (.slice A n c)] G (z56 0) 78 3 (z31 p (fun _=>true) n).length (q0q (z31 p (fun _=>true) n)):=by
  have hn:=ok.few
  have gc:=q7h (c:=c) (w:=w) (h:=h) hP (by unfold maxLen;omega)
  rw [e0] at gc
  refine q6o tab_ok Tryz.func8 (q73 0) ?_
  (repeat ((try (conv=>whnf));(first |(refine stQ ?_) |(with_reducible first |refine q0e (fun vs w=>by kernel_rfl) (by kernel_rfl) (gc) ?_ |refine q0d (fun vs w=>by kernel_rfl) (by kernel_rfl) (gc) ?_ |refine q0g tab_ok Tryz.func28 (fun vs w=>by kernel_rfl) (by rfl) ?_))))
  conv=>whnf
  refine q0w tab_ok (fun m=>m≤n) (fun (m:Nat)=>[(10,.val (.int .i64 m)),(5,.own 0)]) (fun m=>[.own 78 3 (catL p (fun _=>true) m).length (q0q (catL p (fun _=>true) m))]) (fun m=>n-m) 0 (Nat.zero_le _) ?_ ?_
  · refine q4b 78 3 ?_
    conv=>whnf
    ((refine q0h ?_);(conv=>whnf);(refine q0k (by rfl) (by rfl) flQ ?_))
    exact q0c rfl rfl q0f
  · rintro m hm
    rcases Nat.lt_or_ge m n with h1 |h1
    · obtain ⟨a,rfl,ca⟩:=hP.cells h1
      have hR:=hP.runs m h1
      have hroom:=hP.room m h1
      have hl1:=ok.cat_len (sel:=fun _=>true) hm
      have hl2:=ok.short h1
      have hcat:catL p (fun _=>true) (m+1)=catL p (fun _=>true) m++(p m).L:=z4x rfl
      (repeat ((try (conv=>whnf));(first |(refine ca _ ?_) |(refine stQ ?_) |(with_reducible refine q0g tab_ok Tryz.func29 (fun vs w=>by kernel_rfl) (by rfl) ?_))))
      conv=>whnf
      refine hR.src ?_
      (repeat ((try (conv=>whnf));(refine stQ ?_)))
      conv=>whnf
      refine ⟨m+1,by omega,by omega,?_⟩
      rw [hcat]
      refine q1t 3 0 rfl rfl rfl rfl ?_
      conv=>whnf
      ((refine q0h ?_);(conv=>whnf);(refine q0k (by rfl) (by rfl) flQ ?_))
      exact q0c (by rw [List.length_append]) (by rw [q1n]) q0f
    · obtain rfl:m=n:=by omega
      have hl1:=ok.cat_len (sel:=fun _=>true) hm
      (repeat ((try (conv=>whnf));(refine stQ ?_)))
      conv=>whnf
      refine x6g (fun vs w=>by kernel_rfl) (by exact rfl) (by kernel_rfl) fun A1 c1 G1 hG1 hc1 hm1 hx1=>?_
      have mk:=x4j (c:=c1) hx1 (fun r hr=>by
        have:=ok.cat_bd hr
        have:=ok.wd
        have:=ok.ht
        omega) (by omega)
      conv=>whnf
      refine z0q (fun vs w=>by kernel_rfl) (.alone fun _=>rfl) (by kernel_rfl) mk ?_
      (repeat ((try (conv=>whnf));(refine stQ ?_)))
      conv=>whnf
      exact .inl ⟨1,rfl,rfl⟩
end Go.Proofs.YtkicdhaklnmonaaGreat
namespace Go.Proofs.YtkicdhaklnmonaaGreat
open Go.RowKit
set_option maxRecDepth 20000
end Go.Proofs.YtkicdhaklnmonaaGreat
namespace Go.Proofs.YtkicdhaklnmonaaGreat
open Go.RowKit
set_option maxRecDepth 20000
end Go.Proofs.YtkicdhaklnmonaaGreat
