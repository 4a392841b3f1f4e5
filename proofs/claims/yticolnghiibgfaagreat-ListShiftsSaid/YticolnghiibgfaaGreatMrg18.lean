/-
  Merged: XFreeze, XEk.
-/
import Derived.Test.YticolnghiibgfaaGreatMrg17
import Derived.Test.YticolnghiibgfaaGreatEng2
set_option linter.unusedVariables false
set_option linter.unusedSimpArgs false
set_option linter.unnecessarySimpa false
namespace Go.Proofs.YticolnghiibgfaaGreat
open Go.RowKit
def FlatM (G:Mem) (A:Option Addr) (xs:List Value):Prop:=(A=none∧xs=[])∨∃ b off,A=some ⟨b,off,none⟩∧∀ (j:Nat) u,xs[j]? = some u→G.cell? ⟨b,off+j,none⟩=some u
theorem FlatM.mono {G G':Mem} {A:Option Addr} {xs:List Value} (h:FlatM G A xs) (hle:G.le G'):FlatM G' A xs:=by
  rcases h with h |⟨b,off,h1,h2⟩
  · exact .inl h
  · exact .inr ⟨b,off,h1,fun j u hj=>hle.cell (h2 j u hj)⟩
theorem FlatM.els {G:Mem} {A:Option Addr} {sz n:Nat} {c:Nat→List Value} (h:FlatM G A (q0o c n)) (hl:∀ x,x<n→(c x).length=sz) (hs:0<sz):ElsM G A sz n c:=by
  refine ⟨hl,fun x hx=>?_⟩
  rcases h with ⟨_,h⟩ |⟨b,off,h1,h2⟩
  · have:=q2u hl
    rw [h] at this
    have h1:0<n*sz:=Nat.mul_pos (by omega) hs
    simp at this;omega
  · refine ⟨b,off,h1,fun j v hj=>?_⟩
    have hjl:j<sz:=by have:=(List.getElem?_eq_some_iff.1 hj).1;rw [hl x hx] at this;exact this
    rw [Nat.add_assoc]
    exact h2 _ _ (by rw [q39 hl hx hjl];exact hj)
def Mem.plus (G:Mem) (w:World) (g:Nat):Mem:=fun b=>if b=g then w.heap[g]? else G b
theorem Mem.le_plus {G:Mem} {w:World} (h:G.holds w) (g:Nat):G.le (G.plus w g):=fun b o hb=>by
  unfold Mem.plus
  split
  · rename_i e;subst e;exact h b o hb
  · exact hb
theorem Mem.plus_holds {G:Mem} {w:World} (h:G.holds w) (g:Nat):(G.plus w g).holds w:=fun b o hb=>by
  unfold Mem.plus at hb
  split at hb
  · rename_i e;subst e;exact hb
  · exact h b o hb
section
variable {w0:World} {G0:Mem} {β:Nm} {hp:List Blk} {G:Mem} {w:World}
theorem HR.freeze (hr:HR w0 G0 β hp G w) {k:Nat} {v:Value} {E:TypeId} {sz n:Nat} {xs:List Value} (hv:β k=some v) (hk:nthB hp k=.own E sz n xs) :
    ∃ A cap G',v=.slice A n cap∧G.le G'∧n≤cap∧cap≤maxLen∧FlatM G' A xs∧HR w0 G0 β (hp.set k .gone) G' w:=by
  obtain ⟨x,hx1,hx2⟩:=hr.blk k v hv
  have hkx:=q0z hk rfl
  rw [hkx] at hx1;cases hx1
  obtain ⟨⟨hlen,hown⟩,hfree⟩:=hx2
  rcases hown with ⟨rfl,h5⟩ |⟨g,cap,cur,rfl,h5,h6,h7,h8,h9,h10⟩
  · subst h5
    exact ⟨none,0,G,rfl,Mem.le_refl _,Nat.le_refl _,Nat.zero_le _,.inl ⟨rfl,by simpa using hlen⟩,hr.forget k⟩
  · have hcell:∀ (j:Nat) u,xs[j]? = some u→(G.plus w g).cell? ⟨g,0+j,none⟩=some u:=fun j u hj=>by
      have h11:(G.plus w g) g=some (.cells cur E (0,0)):=by simp [Mem.plus,h6]
      unfold Mem.cell?
      rw [Nat.zero_add,h11]
      rw [← h10] at hj
      rw [List.getElem?_take] at hj
      split at hj
      · simpa using hj
      · cases hj
    have hf:=hr.forget k
    refine ⟨some ⟨g,0,none⟩,cap,G.plus w g,rfl,Mem.le_plus hr.hold g,h7,h8,.inr ⟨g,0,rfl,hcell⟩,⟨hf.below,Mem.plus_holds hr.hold g,Mem.le_trans hr.sub (Mem.le_plus hr.hold g),fun b o hb=>?_,fun j z hj=>?_,hf.inj,hf.wrt⟩⟩
    · unfold Mem.plus at hb
      split at hb
      · rename_i e1;subst e1
        exact .inr h5
      · exact hr.grow b o hb
    · obtain ⟨x,hx1,hx2⟩:=hf.blk j z hj
      refine ⟨x,hx1,?_⟩
      have hne:∀ b,x.live=true→q0g z=some b→b≠g:=fun b hl hb e=>by
        subst e
        by_cases hjk:j=k
        · subst hjk
          rw [List.getElem?_set] at hx1
          simp [(List.getElem?_eq_some_iff.1 hkx).1] at hx1
          subst hx1;simp [Blk.live] at hl
        · have hx3:hp[j]? = some x:=by rw [List.getElem?_set,if_neg (fun e=>hjk e.symm)] at hx1;exact hx1
          exact hr.inj j k z _ x _ b hjk hj hv hx3 hkx hl rfl hb rfl
      cases x with
      | gone=>trivial
      | muts S=>exact hx2.elim
      | cells t l =>
        obtain ⟨b,c,q1,q2,q3,q4,q5⟩:=hx2
        refine ⟨b,c,q1,q2,?_,q4,q5⟩
        have:=hne b rfl (by rw [q1];rfl)
        simp [Mem.plus,this,q3]
      | own e sz' n' xs' =>
        obtain ⟨q1,q2⟩:=hx2
        refine ⟨q1,fun b hb=>?_⟩
        have:=hne b rfl hb
        simp [Mem.plus,this,q2 b hb]
      | lp i fr st p =>
        obtain ⟨q1,q2,q3,q4⟩:=hx2
        refine ⟨q1,q2,?_,q4⟩
        have:=hne i.l rfl (by rw [q1];rfl)
        simp [Mem.plus,this,q3]
      | mp f ks vs =>
        obtain ⟨b,ys,q1,q2,q3,q4⟩:=hx2
        refine ⟨b,ys,q1,q2,?_,q4⟩
        have:=hne b rfl (by rw [q1];rfl)
        simp [Mem.plus,this,q3]
end
def AV.plug (k:Nat) (v:Value):AV→AV
  | .own j=>match Nat.beq j k with
    | true=>.val v
    | false=>.own j
  | a=>a
theorem AV.plug_rel {β:Nm} {k:Nat} {v:Value} (hv:β k=some v) {a:AV} {y:Value} (h:a.rel β y):(a.plug k v).rel β y:=by
  cases a with
  | own j =>
    show AV.rel β (match Nat.beq j k with
      | true=>.val v
      | false=>.own j) y
    cases e:Nat.beq j k
    · exact h
    · have:=Nat.eq_of_beq_eq_true e
      subst this
      simp only [AV.rel] at h ⊢
      rw [hv] at h;cases h.1;rfl
  | _=>exact h
def z3p (k:Nat) (v:Value) (l:List AV):List AV:=l.map (AV.plug k v)
theorem q70 {β:Nm} {k:Nat} {v:Value} (hv:β k=some v):∀ {l:List AV} {ys:List Value},AV.rels β l ys→AV.rels β (z3p k v l) ys
  | [],_,h=>h
  | a::l,ys,h=>by
    simp only [z3p,List.map_cons,AV.rels] at h ⊢
    obtain ⟨y,zs,h1,h2,h3⟩:=h
    exact ⟨y,zs,h1,AV.plug_rel hv h2,q70 hv h3⟩
def Blk.plug (k:Nat) (v:Value):Blk→Blk
  | .cells t l=>.cells t (z3p k v l)
  | .lp i l st p=>.lp i (z3p k v l) st p
  | .mp f ks l=>.mp f ks (z3p k v l)
  | x=>x
theorem HR.plug {w0:World} {G0:Mem} {β:Nm} {hp:List Blk} {G:Mem} {w:World} (hr:HR w0 G0 β hp G w) {k:Nat} {v:Value} (hv:β k=some v):HR w0 G0 β (hp.map (Blk.plug k v)) G w:=by
  have live:∀ x:Blk,(x.plug k v).live=x.live:=fun x=>by cases x <;> rfl
  refine ⟨hr.below,hr.hold,hr.sub,hr.grow,fun j y hj=>?_,fun i j y y' x x' b hne hi hj hx hx' hl hl' hy=>?_,x9t hr.wrt (fun x S e=>by cases x <;> first |exact e |cases e)⟩
  · obtain ⟨x,h1,h2⟩:=hr.blk j y hj
    refine ⟨x.plug k v,by rw [List.getElem?_map,h1];rfl,?_⟩
    cases x with
    | gone=>trivial
    | muts S=>exact h2.elim
    | cells t l =>
      obtain ⟨b,c,q1,q2,q3,q4,q5⟩:=h2
      exact ⟨b,c,q1,q2,q3,q4,q70 hv q5⟩
    | own e sz n xs=>exact h2
    | lp i fr st p =>
      obtain ⟨q1,q2,q3,tm,q4,q5⟩:=h2
      exact ⟨q1,q2,q3,tm,q4,q70 hv q5⟩
    | mp f ks vs =>
      obtain ⟨b,ys,q1,q2,q3,q4,q5,q6⟩:=h2
      exact ⟨b,ys,q1,q2,q3,q4,q5,q70 hv q6⟩
  · rw [List.getElem?_map] at hx hx'
    cases h1:hp[i]? with
    | none=>rw [h1] at hx;cases hx
    | some z =>
      cases h2:hp[j]? with
      | none=>rw [h2] at hx';cases hx'
      | some z' =>
        rw [h1] at hx;rw [h2] at hx'
        simp only [Option.map_some,Option.some.injEq] at hx hx'
        subst hx;subst hx'
        rw [live] at hl hl'
        exact hr.inj i j y y' z z' b hne hi hj h1 h2 hl hl' hy
def q6p (k:Nat) (v:Value) (l:List AV):(List AV→Prop)→Prop :=
  List.rec (motive:=fun _=>(List AV→Prop)→Prop) (fun K=>K []) (fun a _ ih K=>ih fun m=>q3h (AV.plug k v a) fun a'=>K (a'::m)) l
theorem q71 (k:Nat) (v:Value):∀ (l:List AV) (K:List AV→Prop),q6p k v l K=K (z3p k v l)
  | [],_=>rfl
  | a::l,K=>by
    show q6p k v l (fun m=>q3h (AV.plug k v a) fun a'=>K (a'::m))=_
    rw [q71 k v l,q1w];rfl
def z2u (k:Nat) (v:Value) (l:List Blk):(List Blk→Prop)→Prop :=
  List.rec (motive:=fun _=>(List Blk→Prop)→Prop) (fun K=>K []) (fun x _ ih K=>ih fun m=>match x with
    | .cells t cs=>q6p k v cs fun cs'=>K (.cells t cs'::m)
    | .own e sz n xs=>K (.own e sz n xs::m)
    | .gone=>K (.gone::m)
    | .muts S=>K (.muts S::m)
    | .lp i fr st p=>q6p k v fr fun fr'=>K (.lp i fr' st p::m)
    | .mp f ks vs=>q6p k v vs fun vs'=>K (.mp f ks vs'::m)) l
theorem q9x (k:Nat) (v:Value):∀ (l:List Blk) (K:List Blk→Prop),z2u k v l K=K (l.map (Blk.plug k v))
  | [],_=>rfl
  | x::l,K=>by
    show z2u k v l (fun m=>match x with
      | .cells t cs=>q6p k v cs fun cs'=>K (.cells t cs'::m)
      | .own e sz n xs=>K (.own e sz n xs::m)
      | .gone=>K (.gone::m)
      | .muts S=>K (.muts S::m)
      | .lp i fr st p=>q6p k v fr fun fr'=>K (.lp i fr' st p::m)
      | .mp f ks vs=>q6p k v vs fun vs'=>K (.mp f ks vs'::m))=_
    rw [q9x k v l]
    cases x with
    | cells t cs=>simp only [q71];rfl
    | own e sz n xs=>rfl
    | gone=>rfl
    | muts S=>rfl
    | lp i fr st p=>simp only [q71];rfl
    | mp f ks vs=>simp only [q71];rfl
theorem z78 {β:Nm}:∀ {hp:List Blk} {l:List AV} {ys:List Value} {j:Nat},AV.rels β l ys→.own j∈l→∃ v,β j=some v
  | _,[],_,_,_,h=>by cases h
  | hp,a::l,ys,j,hr,h=>by
    simp only [AV.rels] at hr
    obtain ⟨y,zs,_,h2,h3⟩:=hr
    rcases List.mem_cons.1 h with rfl |h
    · simp only [AV.rel] at h2
      exact ⟨y,h2.1⟩
    · exact z78 (hp:=hp) h3 h
def q8v (k:Nat):List AV→Bool
  | []=>false
  | .own j::l=>match Nat.beq j k with
    | true=>true
    | false=>q8v k l
  | _::l=>q8v k l
theorem z0d {k:Nat}:∀ {l:List AV},q8v k l=true→.own k∈l
  | [],h=>by cases h
  | a::l,h=>by
    cases a <;> try exact List.mem_cons_of_mem _ (z0d (l:=l) (by simpa [q8v] using h))
    rename_i j
    unfold q8v at h
    split at h
    · rename_i e
      rw [Nat.eq_of_beq_eq_true e]
      exact List.mem_cons_self ..
    · exact List.mem_cons_of_mem _ (z0d h)
theorem x4f {P:Program} {T:Tab} (hT:TOk P T) (q k:Nat) {op:Op} {fr:List AV} {hp:List Blk} {G:Mem} {K:AV→List Blk→Mem→Prop} {t:TypeId} {l:List AV} {E:TypeId} {sz n:Nat} {xs:List Value}
    (hq:nthB hp q=.cells t l) (hin:q8v k l=true) (hk:nthB hp k=.own E sz n xs) {tt:TypeId} {d x:Operand} (hop:op=.call ⟨.builtin .append,⟨[d,x]⟩,⟨[tt,tt]⟩⟩) {dd:AV} {o c nn:Nat} (hd:ev fr d=dd) (hx:ev fr x=.sli q o nn c)
    (h:∀ A cap G',G.le G'→n≤cap→cap≤maxLen→FlatM G' A xs→z2u k (.slice A n cap) hp fun hp1=>setF hp1 k .gone fun hp2=>z3b T tt dd (.sli q o nn c) hp2 G' K):OpP P op fr hp G K:=by
  refine ⟨fun o' ho=>OpS.of_run fun w0 G0 β a w hr hf=>?_⟩
  obtain ⟨y,hy⟩:∃ y,β q=some y:=by
    have:=q1j hf x
    rw [hx] at this
    simp only [AV.rel] at this
    obtain ⟨v,_,h1,_⟩:=this
    exact ⟨v,h1⟩
  obtain ⟨xb,h1,h2⟩:=hr.blk q y hy
  rw [q0z hq rfl] at h1;cases h1
  obtain ⟨b,cs,rfl,q2,q3,q4,q5⟩:=h2
  obtain ⟨v,hv⟩:=z78 (hp:=hp) q5 (z0d hin)
  obtain ⟨A,cap,G',rfl,hle,hn,hm,hF,hr'⟩:=hr.freeze hv hk
  have h3:=h A cap G' hle hn hm hF
  rw [q9x,q1c] at h3
  have hr2:=hr'.plug hv
  have e:(hp.set k .gone).map (Blk.plug k (.slice A n cap))=(hp.map (Blk.plug k (.slice A n cap))).set k .gone:=by
    rw [List.map_set];rfl
  rw [e] at hr2
  have:=z08 hT (o:=o') (d:=d) (x:=x) (t:=tt) (fr:=fr) (ho.trans hop) (by rw [hd,hx];exact h3)
  exact this w0 G0 β a w hr2 hf
theorem x0t {P:Program} {T:Tab} (hT:TOk P T) {op:Op} {fr:List AV} {hp:List Blk} {G:Mem} {K:AV→List Blk→Mem→Prop} {t:TypeId} {x z:Operand} {q:Nat} {E:TypeId} {sz n:Nat} {xs:List Value} (hop:op=.store t x z) (hz:ev fr z=.own q) (hq:nthB hp q=.own E sz n xs)
    (h:∀ A cap G',G.le G'→n≤cap→cap≤maxLen→FlatM G' A xs→q6p q (.slice A n cap) fr fun fr1=>z2u q (.slice A n cap) hp fun hp1=>setF hp1 q .gone fun hp2=>z9c T t x z fr1 hp2 G' K):OpP P op fr hp G K:=by
  refine ⟨fun o' ho=>OpS.of_run fun w0 G0 β a w hr hf=>?_⟩
  have hv0:=q1j hf z
  rw [hz] at hv0
  simp only [AV.rel] at hv0
  have hv:=hv0.1
  obtain ⟨A,cap,G',e0,hle,hn,hm,hF,hr'⟩:=hr.freeze hv hq
  rw [e0] at hv
  have h3:=h A cap G' hle hn hm hF
  rw [q71,q9x,q1c] at h3
  have hr2:=hr'.plug hv
  have e:(hp.set q .gone).map (Blk.plug q (.slice A n cap))=(hp.map (Blk.plug q (.slice A n cap))).set q .gone:=by
    rw [List.map_set];rfl
  rw [e] at hr2
  exact z7j hT (ho.trans hop) h3 w0 G0 β a w hr2 (q70 hv hf)
end Go.Proofs.YticolnghiibgfaaGreat
namespace Go.Proofs.YticolnghiibgfaaGreat
open Go.RowKit
def psF:List Tmp→List AV→List AV→(List AV→Prop)→Prop
  | [],[],fr,K=>K fr
  | t::ts,a::l,fr,K=>setF fr t a fun fr'=>psF ts l fr' K
  | _,_,_,_=>False
def Mem.put (G:Mem) (D:Nat) (o:Obj):Mem:=fun b=>if b=D then some o else G b
theorem Mem.put_same (G:Mem) (D:Nat) (o:Obj):G.put D o D=some o:=by simp [Mem.put]
theorem Mem.put_ne (G:Mem) {D b:Nat} (o:Obj) (h:b≠D):G.put D o b=G b:=by simp [Mem.put,h]
end Go.Proofs.YticolnghiibgfaaGreat
