/-
  The engine: memory that may be written (blocks of the call's own that bear no name, at known places). No program in sight.
-/
import Derived.Test.YtegpkpilfgohhaaGreatMrg8
import Derived.Test.YtegpkpilfgohhaaGreatEk
set_option linter.unusedVariables false
set_option linter.unusedSimpArgs false
set_option linter.unnecessarySimpa false
namespace Go.Proofs.YtegpkpilfgohhaaGreat
open Go.RowKit
section
variable {w0:World} {G0:Mem} {β:Nm} {hp:List Blk} {G:Mem} {w:World}
theorem HR.writeG (hr:HR w0 G0 β hp G w) {b:Nat} (hb:w0.heap.size≤b) (h0:G0 b=none) {o0:Obj} (hG:G b=some o0) {w':World} (hg:w.grownBy w' (some b)) {o:Obj} (ho:w'.heap[b]? = some o):HR w0 G0 β hp (G.put b o) w':=by
  have hoth:∀ c,c<w.heap.size→c≠b→w'.heap[c]? = w.heap[c]?:=fun c hc hne=>hg.block c hc (fun e=>by cases e;exact hne rfl)
  refine ⟨hr.below.trans ⟨hg.os,hg.tape,hg.output,hg.size,fun j hj=>hoth j (Nat.lt_of_lt_of_le hj hr.below.size) (by omega)⟩,fun c o' hc=>?_,fun c o' hc=>?_,fun c o' hc=>?_,fun k y hk=>?_,hr.inj,fun k S hk c hc=>⟨(hr.wrt k S hk c hc).1,Nat.lt_of_lt_of_le (hr.wrt k S hk c hc).2.1 hg.size,(hr.wrt k S hk c hc).2.2⟩⟩
  · by_cases e:c=b
    · subst e;rw [Mem.put_same] at hc;cases hc;exact ho
    · rw [Mem.put_ne _ _ e] at hc
      have h1:=hr.hold c o' hc
      rw [hoth c (Array.getElem?_eq_some_iff.1 h1).1 e];exact h1
  · have e:c≠b:=fun e=>by rw [e,h0] at hc;cases hc
    rw [Mem.put_ne _ _ e];exact hr.sub c o' hc
  · by_cases e:c=b
    · subst e;exact .inr hb
    · rw [Mem.put_ne _ _ e] at hc;exact hr.grow c o' hc
  · obtain ⟨x,h1,h2⟩:=hr.blk k y hk
    refine ⟨x,h1,?_⟩
    by_cases hl:x.live=true
    · refine Blk.rel_of (Nm.le_refl _) h2 (fun c hc=>?_)
      have h3:=hr.lt hk h1 hl hc
      have hne:c≠b:=fun e=>by rw [e,hG] at h3;cases h3.2.2
      exact ⟨hoth c h3.2.1 hne,fun h4=>by rw [Mem.put_ne _ _ hne];exact h4⟩
    · cases x <;> simp [Blk.live] at hl <;> first |trivial |exact h2.elim
theorem HR.newG (hr:HR w0 G0 β hp G w) {b:Nat} (hb:w.heap.size≤b) {w':World} (hg:Below w.heap.size w w') {o:Obj} (ho:w'.heap[b]? = some o):HR w0 G0 β hp (G.put b o) w':=by
  have hr':=hr.step hg
  refine ⟨hr'.below,fun c o' hc=>?_,fun c o' hc=>?_,fun c o' hc=>?_,fun k y hk=>?_,hr.inj,hr'.wrt⟩
  · by_cases e:c=b
    · subst e;rw [Mem.put_same] at hc;cases hc;exact ho
    · rw [Mem.put_ne _ _ e] at hc;exact hr'.hold c o' hc
  · have e:c≠b:=fun e=>by
      have h1:=hr.sub c o' hc
      have:=(Array.getElem?_eq_some_iff.1 (hr.hold c o' h1)).1
      omega
    rw [Mem.put_ne _ _ e];exact hr.sub c o' hc
  · by_cases e:c=b
    · subst e;exact .inr (Nat.le_trans hr.below.size hb)
    · rw [Mem.put_ne _ _ e] at hc;exact hr.grow c o' hc
  · obtain ⟨x,h1,h2⟩:=hr.blk k y hk
    refine ⟨x,h1,?_⟩
    by_cases hl:x.live=true
    · refine Blk.rel_of (Nm.le_refl _) h2 (fun c hc=>?_)
      have h3:=hr.lt hk h1 hl hc
      have hne:c≠b:=by omega
      exact ⟨hg.block c h3.2.1,fun h4=>by rw [Mem.put_ne _ _ hne];exact h4⟩
    · cases x <;> simp [Blk.live] at hl <;> first |trivial |exact h2.elim
theorem HR.moreS (hr:HR w0 G0 β hp G w) {m:Nat} {S:Nat→Prop} (hm:hp[m]? = some (.muts S)) {b:Nat} (hb:w0.heap.size≤b) (hs:b<w.heap.size) (h0:G0 b=none):HR w0 G0 β (hp.set m (.muts fun c=>S c∨c=b)) G w:=by
  have hml:=(List.getElem?_eq_some_iff.1 hm).1
  refine ⟨hr.below,hr.hold,hr.sub,hr.grow,fun k y hk=>?_,fun k k' y y' x x' c hne hk hk' hx hx' hl hl' hy=>?_,fun k S' hk c hc=>?_⟩
  · obtain ⟨x,h1,h2⟩:=hr.blk k y hk
    have hkm:m≠k:=fun e=>by subst e;rw [hm] at h1;cases h1;exact h2.elim
    exact ⟨x,by rw [List.getElem?_set,if_neg hkm];exact h1,h2⟩
  · have old:∀ (i:Nat) (q:Blk),(hp.set m (.muts fun c=>S c∨c=b))[i]? = some q→q.live=true→hp[i]? = some q:=fun i q hq hql=>by
      by_cases hi:m=i
      · subst hi
        rw [List.getElem?_set] at hq
        simp at hq
        obtain ⟨_,rfl⟩:=hq
        simp [Blk.live] at hql
      · rw [List.getElem?_set,if_neg hi] at hq;exact hq
    exact hr.inj k k' y y' x x' c hne hk hk' (old k x hx hl) (old k' x' hx' hl') hl hl' hy
  · by_cases e:m=k
    · subst e
      rw [List.getElem?_set] at hk
      simp [hml] at hk
      subst hk
      rcases hc with hc |rfl
      · exact hr.wrt m S hm c hc
      · exact ⟨hb,hs,h0⟩
    · rw [List.getElem?_set,if_neg e] at hk
      exact hr.wrt k S' hk c hc
end
def RowS (S:Nat→Prop) (G:Mem) (E:TypeId) (sz:Nat) (v:Value) (n:Nat) (xs:List Value):Prop :=
  xs.length=n*sz∧((v=.slice none 0 0∧n=0)∨∃ g cap cur,v=.slice (some ⟨g,0,none⟩) n cap∧S g∧G g=some (.cells cur E (0,0))∧n≤cap∧cap≤maxLen∧cur.size=cap*sz∧cur.toList.take (n*sz)=xs)
theorem RowS.nil (S:Nat→Prop) (G:Mem) (E:TypeId) (sz:Nat):RowS S G E sz (.slice none 0 0) 0 []:=⟨by simp,.inl ⟨rfl,rfl⟩⟩
theorem RowS.of {S S':Nat→Prop} {G G':Mem} {E:TypeId} {sz n:Nat} {v:Value} {xs:List Value} (h:RowS S G E sz v n xs) (hS:∀ b,S b→S' b) (hG:∀ b,q0i v=some b→G' b=G b):RowS S' G' E sz v n xs:=by
  refine ⟨h.1,?_⟩
  rcases h.2 with h |⟨g,cap,cur,rfl,h1,h2,h3⟩
  · exact .inl h
  · exact .inr ⟨g,cap,cur,rfl,hS g h1,by rw [hG g rfl];exact h2,h3⟩
theorem RowS.blk {S:Nat→Prop} {G:Mem} {E:TypeId} {sz n:Nat} {v:Value} {xs:List Value} (h:RowS S G E sz v n xs) {b:Nat} (hb:q0i v=some b):S b∧∃ o,G b=some o:=by
  rcases h.2 with ⟨rfl,_⟩ |⟨g,cap,cur,rfl,h1,h2,h3⟩
  · cases hb
  · simp [q0i] at hb;subst hb;exact ⟨h1,_,h2⟩
theorem RowS.isSl {S:Nat→Prop} {G:Mem} {E:TypeId} {sz n:Nat} {v:Value} {xs:List Value} (h:RowS S G E sz v n xs):∃ A c,v=.slice A n c∧n≤c∧c≤maxLen:=by
  rcases h.2 with ⟨rfl,rfl⟩ |⟨g,cap,cur,rfl,h1,h2,h3,h4,_⟩
  · exact ⟨none,0,rfl,Nat.le_refl _,Nat.zero_le _⟩
  · exact ⟨_,cap,rfl,h3,h4⟩
theorem RowS.flat {S:Nat→Prop} {G:Mem} {E:TypeId} {sz n c:Nat} {A:Option Addr} {xs:List Value} (h:RowS S G E sz (.slice A n c) n xs):FlatM G A xs:=by
  obtain ⟨hlen,h⟩:=h
  rcases h with ⟨h1,h2⟩ |⟨g,cap,cur,h1,h2,h3,h4,h5,h6,h7⟩
  · cases h1;rw [Nat.zero_mul] at hlen;exact .inl ⟨rfl,List.eq_nil_of_length_eq_zero hlen⟩
  · cases h1
    refine .inr ⟨g,0,rfl,fun j u hj=>?_⟩
    unfold Mem.cell?
    simp only [h3,Nat.zero_add]
    rw [← h7] at hj
    rw [List.getElem?_take] at hj
    split at hj
    · simpa using hj
    · cases hj
theorem RowS.cell {S:Nat→Prop} {G:Mem} {E:TypeId} {sz n b o:Nat} {c:Nat} {sp:Option _} {xs:List Value} (h:RowS S G E sz (.slice (some ⟨b,o,sp⟩) n c) n xs) {j:Nat} {u:Value} (hj:xs[j]? = some u):G.cell? ⟨b,o+j,sp⟩=some u:=by
  obtain ⟨hlen,h⟩:=h
  rcases h with ⟨h1,h2⟩ |⟨g,cap,cur,h1,h2,h3,h4,h5,h6,h7⟩
  · cases h1
  · cases h1
    unfold Mem.cell?
    simp only [h3,Nat.zero_add]
    rw [← h7] at hj
    rw [List.getElem?_take] at hj
    split at hj
    · simpa using hj
    · cases hj
theorem RowS.owns {S:Nat→Prop} {w0:World} {G0:Mem} {β:Nm} {hp:List Blk} {G:Mem} {w:World} (hr:HR w0 G0 β hp G w) {m:Nat} (hm:hp[m]? = some (.muts S)) {E:TypeId} {sz n:Nat} {v:Value} {xs:List Value} (h:RowS S G E sz v n xs):w.ownsRow w0.heap.size E sz v n xs:=by
  refine ⟨h.1,?_⟩
  rcases h.2 with h |⟨g,cap,cur,rfl,h1,h2,h3⟩
  · exact .inl h
  · exact .inr ⟨g,cap,cur,rfl,(hr.wrt m S hm g h1).1,hr.hold g _ h2,h3⟩
structure RowG (S:Nat→Prop) (G:Mem) (v:Value) (S':Nat→Prop) (G':Mem) (v':Value):Prop where
  more:∀ b,S b→S' b
  only:∀ b,S' b→S b∨q0i v'=some b
  rest:∀ b,q0i v≠some b→q0i v'≠some b→G' b=G b
  fresh:∀ b,q0i v'=some b→q0i v≠some b→G b=none
  old:∀ b o,G b=some o→q0i v≠some b→G' b=some o
theorem RowG.row {S S':Nat→Prop} {G G':Mem} {v v':Value} (h:RowG S G v S' G' v') {E:TypeId} {sz n:Nat} {u:Value} {xs:List Value} (hu:RowS S G E sz u n xs) (hne:∀ b,q0i u=some b→q0i v≠some b):RowS S' G' E sz u n xs:=by
  refine hu.of h.more fun b hb=>?_
  obtain ⟨_,o,ho⟩:=hu.blk hb
  rw [h.old b o ho (hne b hb),ho]
theorem HR.rowG {w0:World} {G0:Mem} {β:Nm} {hp:List Blk} {G:Mem} {w:World} (hr:HR w0 G0 β hp G w) {m:Nat} {S:Nat→Prop} (hm:hp[m]? = some (.muts S)) {E:TypeId} {sz n:Nat} {v:Value} {xs:List Value} (h:RowS S G E sz v n xs)
    {w':World} {v':Value} {n':Nat} {xs':List Value} (hown:w'.ownsRow w0.heap.size E sz v' n' xs') (hg:w.grownBy w' (q0i v)) (hat:∀ b,q0i v'=some b→w.heap.size≤b∨q0i v=some b) :
    ∃ S' G',RowG S G v S' G' v'∧RowS S' G' E sz v' n' xs'∧HR w0 G0 β (hp.set m (.muts S')) G' w':=by
  have hml:=(List.getElem?_eq_some_iff.1 hm).1
  -- first the old block
  have h1:∃ G1,HR w0 G0 β hp G1 w'∧(∀ b,q0i v≠some b→G1 b=G b)∧(∀ b,q0i v=some b→G1 b=w'.heap[b]?∧G1 b≠none):=by
    cases hv:q0i v with
    | none =>
      rw [hv] at hg
      exact ⟨G,hr.step ⟨hg.os,hg.tape,hg.output,hg.size,fun j hj=>hg.block j hj (by simp)⟩,fun _ _=>rfl,fun b hb=>by cases hb⟩
    | some b =>
      rw [hv] at hg
      obtain ⟨hS,o,ho⟩:=h.blk hv
      obtain ⟨g1,g2,g3⟩:=hr.wrt m S hm b hS
      have hb':∃ o',w'.heap[b]? = some o':=⟨_,Array.getElem?_eq_getElem (Nat.lt_of_lt_of_le g2 hg.size)⟩
      obtain ⟨o',ho'⟩:=hb'
      refine ⟨G.put b o',hr.writeG g1 g3 ho hg ho',fun c hc=>Mem.put_ne _ _ (fun e=>hc (by rw [e])),fun c hc=>?_⟩
      cases hc
      rw [Mem.put_same,ho'];exact ⟨rfl,by simp⟩
  obtain ⟨G1,hr1,e1,e2⟩:=h1
  -- then the new one
  rcases hown.2 with ⟨rfl,rfl⟩ |⟨g,cap,cur,rfl,k1,k2,k3⟩
  · refine ⟨S,G1,⟨fun _ h=>h,fun _ h=>.inl h,fun b hb _=>e1 b hb,fun b hb=>(by cases hb),fun b o ho hb=>by rw [e1 b hb];exact ho⟩,⟨hown.1,.inl ⟨rfl,rfl⟩⟩,?_⟩
    have:hp.set m (.muts S)=hp:=by
      apply List.ext_getElem?
      intro i
      by_cases hi:m=i
      · subst hi;rw [hm];simp [List.getElem?_set,hml]
      · rw [List.getElem?_set,if_neg hi]
    rw [this];exact hr1
  · by_cases hvg:q0i v=some g
    · obtain ⟨hS,o,ho⟩:=h.blk hvg
      refine ⟨S,G1,⟨fun _ h=>h,fun _ h=>.inl h,fun b hb _=>e1 b hb,fun b hb hb2=>by simp [q0i] at hb;subst hb;exact absurd hvg hb2,fun b o ho hb=>by rw [e1 b hb];exact ho⟩,⟨hown.1,.inr ⟨g,cap,cur,rfl,hS,by rw [(e2 g hvg).1];exact k2,k3⟩⟩,?_⟩
      have:hp.set m (.muts S)=hp:=by
        apply List.ext_getElem?
        intro i
        by_cases hi:m=i
        · subst hi;rw [hm];simp [List.getElem?_set,hml]
        · rw [List.getElem?_set,if_neg hi]
      rw [this];exact hr1
    · have hge:w.heap.size≤g:=(hat g rfl).resolve_right hvg
      have hGn:G g=none:=q5t hr.hold hge
      have hGz:G0 g=none:=Mem.le.none hr.sub hGn
      have hG1n:G1 g=none:=by rw [e1 g hvg];exact hGn
      have hlt:=(Array.getElem?_eq_some_iff.1 k2).1
      have hr2:HR w0 G0 β hp (G1.put g (.cells cur E (0,0))) w':=by
        refine ⟨hr1.below,fun c o' hc=>?_,fun c o' hc=>?_,fun c o' hc=>?_,fun k y hk=>?_,hr1.inj,hr1.wrt⟩
        · by_cases e:c=g
          · subst e;rw [Mem.put_same] at hc;cases hc;exact k2
          · rw [Mem.put_ne _ _ e] at hc;exact hr1.hold c o' hc
        · rw [Mem.put_ne _ _ (fun e=>by rw [e,hGz] at hc;cases hc)];exact hr1.sub c o' hc
        · by_cases e:c=g
          · subst e;exact .inr k1
          · rw [Mem.put_ne _ _ e] at hc;exact hr1.grow c o' hc
        · obtain ⟨x,h1,h2⟩:=hr1.blk k y hk
          refine ⟨x,h1,?_⟩
          by_cases hl:x.live=true
          · obtain ⟨x0,q1,q2⟩:=hr.blk k y hk
            rw [h1] at q1;cases q1
            refine Blk.rel_of (Nm.le_refl _) h2 (fun c hc=>⟨rfl,fun h4=>?_⟩)
            have h3:=hr.lt hk h1 hl hc
            rw [Mem.put_ne _ _ (by omega)];exact h4
          · cases x <;> simp [Blk.live] at hl <;> first |trivial |exact h2.elim
      refine ⟨fun c=>S c∨c=g,G1.put g (.cells cur E (0,0)),⟨fun _ h=>.inl h,fun b hb=>?_,fun b hb hb2=>?_,fun b hb _=>?_,fun b o ho hb=>?_⟩,⟨hown.1,.inr ⟨g,cap,cur,rfl,.inr rfl,Mem.put_same _ _ _,k3⟩⟩,hr2.moreS hm k1 hlt hGz⟩
      · rcases hb with hb |rfl
        · exact .inl hb
        · exact .inr rfl
      · have hne:b≠g:=fun e=>hb2 (by rw [e];rfl)
        rw [Mem.put_ne _ _ hne];exact e1 b hb
      · simp [q0i] at hb;subst hb;exact hGn
      · have hne:b≠g:=fun e=>by rw [e,hGn] at ho;cases ho
        rw [Mem.put_ne _ _ hne,e1 b hb];exact ho
theorem q9z {l:List Blk} {n:Nat} {S:Nat→Prop} (h:nthB l n=.muts S):l[n]? = some (.muts S):=by
  rw [q3j] at h
  cases hx:l[n]? with
  | none=>rw [hx] at h;cases h
  | some y=>rw [hx] at h;simpa using h
end Go.Proofs.YtegpkpilfgohhaaGreat
