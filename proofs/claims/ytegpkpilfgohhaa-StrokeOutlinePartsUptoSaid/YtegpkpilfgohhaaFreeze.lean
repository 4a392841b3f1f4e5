/-
  A row of the call's own stands from now on, wherever it is named. No program in sight.
-/
import Derived.Test.YtegpkpilfgohhaaMrg9
set_option linter.unusedVariables false
set_option linter.unusedSimpArgs false
set_option linter.unnecessarySimpa false
namespace Go.Proofs.Ytegpkpilfgohhaa
open Go.RowKit
def FlatM (G:Mem) (A:Option Addr) (xs:List Value):Prop:=(A=none∧xs=[])∨∃ b off,A=some ⟨b,off,none⟩∧∀ (j:Nat) u,xs[j]? = some u→G.cell? ⟨b,off+j,none⟩=some u
theorem FlatM.mono {G G':Mem} {A:Option Addr} {xs:List Value} (h:FlatM G A xs) (hle:G.le G'):FlatM G' A xs:=by
  rcases h with h |⟨b,off,h1,h2⟩
  · exact .inl h
  · exact .inr ⟨b,off,h1,fun j u hj=>hle.cell (h2 j u hj)⟩
theorem FlatM.els {G:Mem} {A:Option Addr} {sz n:Nat} {c:Nat→List Value} (h:FlatM G A (q2x c n)) (hl:∀ x,x<n→(c x).length=sz) (hs:0<sz):ElsM G A sz n c:=by
  refine ⟨hl,fun x hx=>?_⟩
  rcases h with ⟨_,h⟩ |⟨b,off,h1,h2⟩
  · have:=q43 hl
    rw [h] at this
    have h1:0<n*sz:=Nat.mul_pos (by omega) hs
    simp at this;omega
  · refine ⟨b,off,h1,fun j v hj=>?_⟩
    have hjl:j<sz:=by have:=(List.getElem?_eq_some_iff.1 hj).1;rw [hl x hx] at this;exact this
    rw [Nat.add_assoc]
    exact h2 _ _ (by rw [q9i hl hx hjl];exact hj)
def Mem.plus (G:Mem) (w:World) (g:Nat):Mem:=fun b=>if b=g then w.heap[g]? else G b
theorem Mem.le_plus {G:Mem} {w:World} (h:G.holds w) (g:Nat):G.le (G.plus w g):=fun b o hb=>by
  unfold Mem.plus
  split
  · rename_i e;subst e;exact h b o hb
  · exact hb
theorem Mem.plus_holds {G:Mem} {w:World} (h:G.holds w) (g:Nat):(G.plus w g).holds w:=fun b o hb=>by
  unfold Mem.plus at hb
  split at hb
  · rename_i e;subst e;exact hb
  · exact h b o hb
section
variable {w0:World} {G0:Mem} {β:Nm} {hp:List Blk} {G:Mem} {w:World}
theorem HR.freeze (hr:HR w0 G0 β hp G w) {k:Nat} {v:Value} {E:TypeId} {sz n:Nat} {xs:List Value} (hv:β k=some v) (hk:nthB hp k=.own E sz n xs) :
    ∃ A cap G',v=.slice A n cap∧G.le G'∧n≤cap∧cap≤maxLen∧FlatM G' A xs∧HR w0 G0 β (hp.set k .gone) G' w:=by
  obtain ⟨x,hx1,hx2⟩:=hr.blk k v hv
  have hkx:=q0y hk rfl
  rw [hkx] at hx1;cases hx1
  obtain ⟨⟨hlen,hown⟩,hfree⟩:=hx2
  rcases hown with ⟨rfl,h5⟩ |⟨g,cap,cur,rfl,h5,h6,h7,h8,h9,h10⟩
  · subst h5
    exact ⟨none,0,G,rfl,Mem.le_refl _,Nat.le_refl _,Nat.zero_le _,.inl ⟨rfl,by simpa using hlen⟩,hr.forget k⟩
  · have hcell:∀ (j:Nat) u,xs[j]? = some u→(G.plus w g).cell? ⟨g,0+j,none⟩=some u:=fun j u hj=>by
      have h11:(G.plus w g) g=some (.cells cur E (0,0)):=by simp [Mem.plus,h6]
      unfold Mem.cell?
      rw [Nat.zero_add,h11]
      rw [← h10] at hj
      rw [List.getElem?_take] at hj
      split at hj
      · simpa using hj
      · cases hj
    have hf:=hr.forget k
    refine ⟨some ⟨g,0,none⟩,cap,G.plus w g,rfl,Mem.le_plus hr.hold g,h7,h8,.inr ⟨g,0,rfl,hcell⟩,⟨hf.below,Mem.plus_holds hr.hold g,Mem.le_trans hr.sub (Mem.le_plus hr.hold g),fun b o hb=>?_,fun j z hj=>?_,hf.inj,hf.wrt⟩⟩
    · unfold Mem.plus at hb
      split at hb
      · rename_i e1;subst e1
        exact .inr h5
      · exact hr.grow b o hb
    · obtain ⟨x,hx1,hx2⟩:=hf.blk j z hj
      refine ⟨x,hx1,?_⟩
      have hne:∀ b,x.live=true→q0f z=some b→b≠g:=fun b hl hb e=>by
        subst e
        by_cases hjk:j=k
        · subst hjk
          rw [List.getElem?_set] at hx1
          simp [(List.getElem?_eq_some_iff.1 hkx).1] at hx1
          subst hx1;simp [Blk.live] at hl
        · have hx3:hp[j]? = some x:=by rw [List.getElem?_set,if_neg (fun e=>hjk e.symm)] at hx1;exact hx1
          exact hr.inj j k z _ x _ b hjk hj hv hx3 hkx hl rfl hb rfl
      cases x with
      | gone=>trivial
      | muts S=>exact hx2.elim
      | cells t l =>
        obtain ⟨b,c,q1,q2,q3,q4,q5⟩:=hx2
        refine ⟨b,c,q1,q2,?_,q4,q5⟩
        have:=hne b rfl (by rw [q1];rfl)
        simp [Mem.plus,this,q3]
      | own e sz' n' xs' =>
        obtain ⟨q1,q2⟩:=hx2
        refine ⟨q1,fun b hb=>?_⟩
        have:=hne b rfl hb
        simp [Mem.plus,this,q2 b hb]
      | lp i fr st p =>
        obtain ⟨q1,q2,q3,q4⟩:=hx2
        refine ⟨q1,q2,?_,q4⟩
        have:=hne i.l rfl (by rw [q1];rfl)
        simp [Mem.plus,this,q3]
      | mp f ks vs =>
        obtain ⟨b,ys,q1,q2,q3,q4⟩:=hx2
        refine ⟨b,ys,q1,q2,?_,q4⟩
        have:=hne b rfl (by rw [q1];rfl)
        simp [Mem.plus,this,q3]
end
def AV.plug (k:Nat) (v:Value):AV→AV
  | .own j=>match Nat.beq j k with
    | true=>.val v
    | false=>.own j
  | a=>a
theorem AV.plug_rel {β:Nm} {k:Nat} {v:Value} (hv:β k=some v) {a:AV} {y:Value} (h:a.rel β y):(a.plug k v).rel β y:=by
  cases a with
  | own j =>
    show AV.rel β (match Nat.beq j k with
      | true=>.val v
      | false=>.own j) y
    cases e:Nat.beq j k
    · exact h
    · have:=Nat.eq_of_beq_eq_true e
      subst this
      simp only [AV.rel] at h ⊢
      rw [hv] at h;cases h.1;rfl
  | _=>exact h
def q6b (k:Nat) (v:Value) (l:List AV):List AV:=l.map (AV.plug k v)
theorem q3n {β:Nm} {k:Nat} {v:Value} (hv:β k=some v):∀ {l:List AV} {ys:List Value},AV.rels β l ys→AV.rels β (q6b k v l) ys
  | [],_,h=>h
  | a::l,ys,h=>by
    simp only [q6b,List.map_cons,AV.rels] at h ⊢
    obtain ⟨y,zs,h1,h2,h3⟩:=h
    exact ⟨y,zs,h1,AV.plug_rel hv h2,q3n hv h3⟩
def Blk.plug (k:Nat) (v:Value):Blk→Blk
  | .cells t l=>.cells t (q6b k v l)
  | .lp i l st p=>.lp i (q6b k v l) st p
  | .mp f ks l=>.mp f ks (q6b k v l)
  | x=>x
theorem HR.plug {w0:World} {G0:Mem} {β:Nm} {hp:List Blk} {G:Mem} {w:World} (hr:HR w0 G0 β hp G w) {k:Nat} {v:Value} (hv:β k=some v):HR w0 G0 β (hp.map (Blk.plug k v)) G w:=by
  have live:∀ x:Blk,(x.plug k v).live=x.live:=fun x=>by cases x <;> rfl
  refine ⟨hr.below,hr.hold,hr.sub,hr.grow,fun j y hj=>?_,fun i j y y' x x' b hne hi hj hx hx' hl hl' hy=>?_,z6d hr.wrt (fun x S e=>by cases x <;> first |exact e |cases e)⟩
  · obtain ⟨x,h1,h2⟩:=hr.blk j y hj
    refine ⟨x.plug k v,by rw [List.getElem?_map,h1];rfl,?_⟩
    cases x with
    | gone=>trivial
    | muts S=>exact h2.elim
    | cells t l =>
      obtain ⟨b,c,q1,q2,q3,q4,q5⟩:=h2
      exact ⟨b,c,q1,q2,q3,q4,q3n hv q5⟩
    | own e sz n xs=>exact h2
    | lp i fr st p =>
      obtain ⟨q1,q2,q3,tm,q4,q5⟩:=h2
      exact ⟨q1,q2,q3,tm,q4,q3n hv q5⟩
    | mp f ks vs =>
      obtain ⟨b,ys,q1,q2,q3,q4,q5,q6⟩:=h2
      exact ⟨b,ys,q1,q2,q3,q4,q5,q3n hv q6⟩
  · rw [List.getElem?_map] at hx hx'
    cases h1:hp[i]? with
    | none=>rw [h1] at hx;cases hx
    | some z =>
      cases h2:hp[j]? with
      | none=>rw [h2] at hx';cases hx'
      | some z' =>
        rw [h1] at hx;rw [h2] at hx'
        simp only [Option.map_some,Option.some.injEq] at hx hx'
        subst hx;subst hx'
        rw [live] at hl hl'
        exact hr.inj i j y y' z z' b hne hi hj h1 h2 hl hl' hy
def q44 (k:Nat) (v:Value) (l:List AV):(List AV→Prop)→Prop :=
  List.rec (motive:=fun _=>(List AV→Prop)→Prop) (fun K=>K []) (fun a _ ih K=>ih fun m=>q2j (AV.plug k v a) fun a'=>K (a'::m)) l
theorem q5u (k:Nat) (v:Value):∀ (l:List AV) (K:List AV→Prop),q44 k v l K=K (q6b k v l)
  | [],_=>rfl
  | a::l,K=>by
    show q44 k v l (fun m=>q2j (AV.plug k v a) fun a'=>K (a'::m))=_
    rw [q5u k v l,q1u];rfl
def q9j (k:Nat) (v:Value) (l:List Blk):(List Blk→Prop)→Prop :=
  List.rec (motive:=fun _=>(List Blk→Prop)→Prop) (fun K=>K []) (fun x _ ih K=>ih fun m=>match x with
    | .cells t cs=>q44 k v cs fun cs'=>K (.cells t cs'::m)
    | .own e sz n xs=>K (.own e sz n xs::m)
    | .gone=>K (.gone::m)
    | .muts S=>K (.muts S::m)
    | .lp i fr st p=>q44 k v fr fun fr'=>K (.lp i fr' st p::m)
    | .mp f ks vs=>q44 k v vs fun vs'=>K (.mp f ks vs'::m)) l
theorem q7e (k:Nat) (v:Value):∀ (l:List Blk) (K:List Blk→Prop),q9j k v l K=K (l.map (Blk.plug k v))
  | [],_=>rfl
  | x::l,K=>by
    show q9j k v l (fun m=>match x with
      | .cells t cs=>q44 k v cs fun cs'=>K (.cells t cs'::m)
      | .own e sz n xs=>K (.own e sz n xs::m)
      | .gone=>K (.gone::m)
      | .muts S=>K (.muts S::m)
      | .lp i fr st p=>q44 k v fr fun fr'=>K (.lp i fr' st p::m)
      | .mp f ks vs=>q44 k v vs fun vs'=>K (.mp f ks vs'::m))=_
    rw [q7e k v l]
    cases x with
    | cells t cs=>simp only [q5u];rfl
    | own e sz n xs=>rfl
    | gone=>rfl
    | muts S=>rfl
    | lp i fr st p=>simp only [q5u];rfl
    | mp f ks vs=>simp only [q5u];rfl
theorem q34 {β:Nm}:∀ {hp:List Blk} {l:List AV} {ys:List Value} {j:Nat},AV.rels β l ys→.own j∈l→∃ v,β j=some v
  | _,[],_,_,_,h=>by cases h
  | hp,a::l,ys,j,hr,h=>by
    simp only [AV.rels] at hr
    obtain ⟨y,zs,_,h2,h3⟩:=hr
    rcases List.mem_cons.1 h with rfl |h
    · simp only [AV.rel] at h2
      exact ⟨y,h2.1⟩
    · exact q34 (hp:=hp) h3 h
def q3k (k:Nat):List AV→Bool
  | []=>false
  | .own j::l=>match Nat.beq j k with
    | true=>true
    | false=>q3k k l
  | _::l=>q3k k l
theorem q2z {k:Nat}:∀ {l:List AV},q3k k l=true→.own k∈l
  | [],h=>by cases h
  | a::l,h=>by
    cases a <;> try exact List.mem_cons_of_mem _ (q2z (l:=l) (by simpa [q3k] using h))
    rename_i j
    unfold q3k at h
    split at h
    · rename_i e
      rw [Nat.eq_of_beq_eq_true e]
      exact List.mem_cons_self ..
    · exact List.mem_cons_of_mem _ (q2z h)
theorem z7r {P:Program} {T:Tab} (hT:TOk P T) (q k:Nat) {op:Op} {fr:List AV} {hp:List Blk} {G:Mem} {K:AV→List Blk→Mem→Prop} {t:TypeId} {l:List AV} {E:TypeId} {sz n:Nat} {xs:List Value}
    (hq:nthB hp q=.cells t l) (hin:q3k k l=true) (hk:nthB hp k=.own E sz n xs) {tt:TypeId} {d x:Operand} (hop:op=.call ⟨.builtin .append,⟨[d,x]⟩,⟨[tt,tt]⟩⟩) {dd:AV} {o c nn:Nat} (hd:ev fr d=dd) (hx:ev fr x=.sli q o nn c)
    (h:∀ A cap G',G.le G'→n≤cap→cap≤maxLen→FlatM G' A xs→q9j k (.slice A n cap) hp fun hp1=>setF hp1 k .gone fun hp2=>q7r T tt dd (.sli q o nn c) hp2 G' K):OpP P op fr hp G K:=by
  refine ⟨fun o' ho=>OpS.of_run fun w0 G0 β a w hr hf=>?_⟩
  obtain ⟨y,hy⟩:∃ y,β q=some y:=by
    have:=q2b hf x
    rw [hx] at this
    simp only [AV.rel] at this
    obtain ⟨v,_,h1,_⟩:=this
    exact ⟨v,h1⟩
  obtain ⟨xb,h1,h2⟩:=hr.blk q y hy
  rw [q0y hq rfl] at h1;cases h1
  obtain ⟨b,cs,rfl,q2,q3,q4,q5⟩:=h2
  obtain ⟨v,hv⟩:=q34 (hp:=hp) q5 (q2z hin)
  obtain ⟨A,cap,G',rfl,hle,hn,hm,hF,hr'⟩:=hr.freeze hv hk
  have h3:=h A cap G' hle hn hm hF
  rw [q7e,q09] at h3
  have hr2:=hr'.plug hv
  have e:(hp.set k .gone).map (Blk.plug k (.slice A n cap))=(hp.map (Blk.plug k (.slice A n cap))).set k .gone:=by
    rw [List.map_set];rfl
  rw [e] at hr2
  have:=q56 hT (o:=o') (d:=d) (x:=x) (t:=tt) (fr:=fr) (ho.trans hop) (by rw [hd,hx];exact h3)
  exact this w0 G0 β a w hr2 hf
def AV.plugB (k:Nat) (b:Nat):AV→AV
  | .sli j o n c=>match Nat.beq j k with
    | true=>.val (.slice (some ⟨b,o,none⟩) n c)
    | false=>.sli j o n c
  | .ptr j o=>match Nat.beq j k with
    | true=>.val (.pointer (some ⟨b,o,none⟩))
    | false=>.ptr j o
  | a=>a
theorem AV.plugB_rel {β:Nm} {k b:Nat} {v:Value} (hv:β k=some v) (hb:q0f v=some b) {a:AV} {y:Value} (h:a.rel β y):(a.plugB k b).rel β y:=by
  cases a with
  | sli j o n c =>
    show AV.rel β (match Nat.beq j k with
      | true=>.val (.slice (some ⟨b,o,none⟩) n c)
      | false=>.sli j o n c) y
    cases e:Nat.beq j k
    · exact h
    · have:=Nat.eq_of_beq_eq_true e
      subst this
      simp only [AV.rel] at h ⊢
      obtain ⟨v',b',h1,h2,h3⟩:=h
      rw [hv] at h1;cases h1
      rw [hb] at h2;cases h2
      exact h3
  | ptr j o =>
    show AV.rel β (match Nat.beq j k with
      | true=>.val (.pointer (some ⟨b,o,none⟩))
      | false=>.ptr j o) y
    cases e:Nat.beq j k
    · exact h
    · have:=Nat.eq_of_beq_eq_true e
      subst this
      simp only [AV.rel] at h ⊢
      obtain ⟨v',b',h1,h2,h3⟩:=h
      rw [hv] at h1;cases h1
      rw [hb] at h2;cases h2
      exact h3
  | _=>exact h
def q6u (k b:Nat) (l:List AV):List AV:=l.map (AV.plugB k b)
theorem q4a {β:Nm} {k b:Nat} {v:Value} (hv:β k=some v) (hb:q0f v=some b):∀ {l:List AV} {ys:List Value},AV.rels β l ys→AV.rels β (q6u k b l) ys
  | [],_,h=>h
  | a::l,ys,h=>by
    simp only [q6u,List.map_cons,AV.rels] at h ⊢
    obtain ⟨y,zs,h1,h2,h3⟩:=h
    exact ⟨y,zs,h1,AV.plugB_rel hv hb h2,q4a hv hb h3⟩
def z2p (k b:Nat) (l:List AV):(List AV→Prop)→Prop :=
  List.rec (motive:=fun _=>(List AV→Prop)→Prop) (fun K=>K []) (fun a _ ih K=>ih fun m=>q2j (AV.plugB k b a) fun a'=>K (a'::m)) l
theorem z1t (k b:Nat):∀ (l:List AV) (K:List AV→Prop),z2p k b l K=K (q6u k b l)
  | [],_=>rfl
  | a::l,K=>by
    show z2p k b l (fun m=>q2j (AV.plugB k b a) fun a'=>K (a'::m))=_
    rw [z1t k b l,q1u];rfl
theorem HR.stand {w0:World} {G0:Mem} {β:Nm} {hp:List Blk} {G:Mem} {w:World} (hr:HR w0 G0 β hp G w) {k:Nat} {v:Value} {t:TypeId} {l:List AV} {xs:List Value} (hv:β k=some v) (hk:nthB hp k=.cells t l) (hl:l=xs.map .val) :
    ∃ b G',q0f v=some b∧G.le G'∧(∀ (j:Nat) u,xs[j]? = some u→G'.cell? ⟨b,j,none⟩=some u)∧HR w0 G0 β (hp.set k .gone) G' w:=by
  obtain ⟨x,hx1,hx2⟩:=hr.blk k v hv
  have hkx:=q0y hk rfl
  rw [hkx] at hx1;cases hx1
  obtain ⟨g,c,rfl,h5,h6,h7,h8⟩:=hx2
  rw [hl] at h8
  have hc:=q15 h8
  have hcell:∀ (j:Nat) u,xs[j]? = some u→(G.plus w g).cell? ⟨g,j,none⟩=some u:=fun j u hj=>by
    have h11:(G.plus w g) g=some (.cells c t (0,0)):=by simp [Mem.plus,h7]
    unfold Mem.cell?
    rw [h11]
    rw [← hc] at hj
    simpa using hj
  have hf:=hr.forget k
  refine ⟨g,G.plus w g,rfl,Mem.le_plus hr.hold g,hcell,⟨hf.below,Mem.plus_holds hr.hold g,Mem.le_trans hr.sub (Mem.le_plus hr.hold g),fun b o hb=>?_,fun j z hj=>?_,hf.inj,hf.wrt⟩⟩
  · unfold Mem.plus at hb
    split at hb
    · rename_i e1;subst e1
      exact .inr h5
    · exact hr.grow b o hb
  · obtain ⟨x,hx1,hx2⟩:=hf.blk j z hj
    refine ⟨x,hx1,?_⟩
    have hne:∀ b,x.live=true→q0f z=some b→b≠g:=fun b hl hb e=>by
      subst e
      by_cases hjk:j=k
      · subst hjk
        rw [List.getElem?_set] at hx1
        simp [(List.getElem?_eq_some_iff.1 hkx).1] at hx1
        subst hx1;simp [Blk.live] at hl
      · have hx3:hp[j]? = some x:=by rw [List.getElem?_set,if_neg (fun e=>hjk e.symm)] at hx1;exact hx1
        exact hr.inj j k z _ x _ b hjk hj hv hx3 hkx hl rfl hb rfl
    cases x with
    | gone=>trivial
    | muts S=>exact hx2.elim
    | cells t l =>
      obtain ⟨b,c,q1,q2,q3,q4,q5⟩:=hx2
      refine ⟨b,c,q1,q2,?_,q4,q5⟩
      have:=hne b rfl (by rw [q1];rfl)
      simp [Mem.plus,this,q3]
    | own e sz' n' xs' =>
      obtain ⟨q1,q2⟩:=hx2
      refine ⟨q1,fun b hb=>?_⟩
      have:=hne b rfl hb
      simp [Mem.plus,this,q2 b hb]
    | lp i fr st p =>
      obtain ⟨q1,q2,q3,q4⟩:=hx2
      refine ⟨q1,q2,?_,q4⟩
      have:=hne i.l rfl (by rw [q1];rfl)
      simp [Mem.plus,this,q3]
    | mp f ks vs =>
      obtain ⟨b,ys,q1,q2,q3,q4⟩:=hx2
      refine ⟨b,ys,q1,q2,?_,q4⟩
      have:=hne b rfl (by rw [q1];rfl)
      simp [Mem.plus,this,q3]
def q7x (k:Nat):List AV→Bool
  | []=>false
  | .sli j _ _ _::l=>match Nat.beq j k with
    | true=>true
    | false=>q7x k l
  | _::l=>q7x k l
theorem q9k {β:Nm} {k:Nat}:∀ {l:List AV} {ys:List Value},AV.rels β l ys→q7x k l=true→∃ v,β k=some v
  | [],_,_,h=>by cases h
  | a::l,ys,hr,h=>by
    simp only [AV.rels] at hr
    obtain ⟨y,zs,_,h2,h3⟩:=hr
    cases a with
    | sli j o n c =>
      unfold q7x at h
      split at h
      · rename_i e
        have:=Nat.eq_of_beq_eq_true e
        subst this
        simp only [AV.rel] at h2
        obtain ⟨v,_,h4,_⟩:=h2
        exact ⟨v,h4⟩
      · exact q9k h3 h
    | _=>exact q9k h3 (by simpa [q7x] using h)
theorem q3w {P:Program} {f:FuncId} (k:Nat) (hen:∀ vs w,(callFunc f vs).run P w=.ok (.enter f vs) w) {args:List AV} {hp:List Blk} {G:Mem} {K:AV→List Blk→Mem→Prop} {t:TypeId} {l:List AV} {xs:List Value} (hin:q7x k args=true) (hk:nthB hp k=.cells t l) (hl:l=xs.map .val)
    (h:∀ b G',G.le G'→(∀ (j:Nat) u,xs[j]? = some u→G'.cell? ⟨b,j,none⟩=some u)→setF hp k .gone fun hp'=>z2p k b args fun args'=>CallP P f args' hp' G' K):CallP P f args hp G K:=by
  refine ⟨hen,fun w0 G0 β w vs hr ha=>?_⟩
  obtain ⟨v,hv⟩:=q9k ha hin
  obtain ⟨b,G',hb,hle,hc,hr'⟩:=hr.stand hv hk hl
  have h0:=h b G' hle hc
  rw [q09,z1t] at h0
  exact h0.calls w0 G0 β w vs hr' (q4a hv hb ha)
end Go.Proofs.Ytegpkpilfgohhaa
