/-
  The engine: a region that draws its order, whose operations other than reads form a chain: the reads first, then the chain. No program in sight.
-/
import Derived.Test.YtbkhpddodmbdoaaEng2
set_option linter.unusedVariables false
set_option linter.unusedSimpArgs false
set_option linter.unnecessarySimpa false
namespace Go.Proofs.Ytbkhpddodmbdoaa
open Go.RowKit
theorem q7j:∀ {l:List Nat} {j k i:Nat},l.Nodup→l[j]? = some i→l[k]? = some i→j=k
  | [],_,_,_,_,h,_=>by simp at h
  | a::l,0,0,_,_,_,_=>rfl
  | a::l,0,k+1,i,hn,h,h'=>by
    simp at h;subst h
    exact absurd (List.mem_of_getElem? (by simpa using h')) (List.nodup_cons.1 hn).1
  | a::l,j+1,0,i,hn,h,h'=>by
    simp at h';subst h'
    exact absurd (List.mem_of_getElem? (by simpa using h)) (List.nodup_cons.1 hn).1
  | a::l,j+1,k+1,i,hn,h,h'=>by
    have:=q7j (i:=i) (j:=j) (k:=k) (List.nodup_cons.1 hn).2 (by simpa using h) (by simpa using h')
    omega
def z4d (P:Program) (T:Tab) (op:Op) (fr:List AV) (hp:List Blk) (G:Mem) (K:AV→Prop):Prop :=
  match op with
  | .move x=>K (ev fr x)
  | .assign x=>K (ev fr x)
  | .load t x=>q7s T t x fr hp G fun v _ _=>K v
  | .nilCheck x=>q8u x fr K
  | .binOp op t x y _=>vBin P op t x y fr K
  | .fieldAddr s x n=>q9o T s x n fr K
  | .field s x n=>z62 T s x n fr K
  | .indexAddr t x i=>q9p T t x i fr hp K
  | .index t x i=>z63 T t x i fr K
  | .extract x n=>q8c x n fr K
  | .call ⟨.builtin .len,⟨[x]⟩,⟨[t]⟩⟩=>vLen T t (ev fr x) hp K
  | _=>False
theorem x4e {P:Program} {T:Tab} (hT:TOk P T) {o:Oper} {fr:List AV} {hp:List Blk} {G:Mem} {K:AV→Prop} (h:z4d P T o.op fr hp G K):q2f P o fr hp G K:=by
  generalize ho:o.op=op at h
  unfold z4d at h
  split at h
  · exact ⟨_,h,fun base β ρ w hr hf=>⟨_,by simp [execOp,ho];(try rfl),hf _ (by simp [ho,Op.operands])⟩⟩
  · exact ⟨_,h,fun base β ρ w hr hf=>⟨_,by simp [execOp,ho];(try rfl),hf _ (by simp [ho,Op.operands])⟩⟩
  · exact z2i hT ho h
  · exact q8a ho h
  · exact z4g ho h
  · exact q7l hT ho h
  · exact z0i hT ho h
  · exact q7m hT ho h
  · exact z0j hT ho h
  · exact q6z ho h
  · exact z4j hT ho h
  · exact h.elim
def q8l (o:Oper):Bool:=match o.op with
  | .move _=>true
  | _=>false
def rops (P:Program) (T:Tab) (l:List Oper):List AV→List Blk→Mem→(List AV→Prop)→Prop :=
  List.rec (motive:=fun _=>List AV→List Blk→Mem→(List AV→Prop)→Prop) (fun fr _ _ K=>K fr)
    (fun o _ ih fr hp G K=>z4d P T o.op fr hp G fun v=>putF o.dst v fr fun fr'=>ih fr' hp G K) l
theorem x2x {P:Program} {T:Tab} {o:Oper} {l:List Oper} {fr:List AV} {hp:List Blk} {G:Mem} {K:List AV→Prop}:rops P T (o::l) fr hp G K=z4d P T o.op fr hp G fun v=>putF o.dst v fr fun fr'=>rops P T l fr' hp G K:=rfl
def q6p (n:Nat):List Blk→Bool
  | []=>true
  | .cells _ l::r=>AV.unders n l&&q6p n r
  | .own _ _ _ _::r=>q6p n r
  | .gone::r=>q6p n r
  | .muts _::r=>q6p n r
  | .lp _ l _ _::r=>AV.unders n l&&q6p n r
  | .mp _ _ l::r=>AV.unders n l&&q6p n r
theorem z1k {n:Nat}:∀ (l:List AV),AV.unders n l=true→frLe n l l:=by
  intro l
  induction l with
  | nil=>intro _;trivial
  | cons a l ih =>
    intro h
    simp only [AV.unders,Bool.and_eq_true] at h
    have h2:=ih h.2
    cases a <;> first |exact h2 |exact ⟨⟨rfl,h.1⟩,h2⟩
theorem q54 {n:Nat}:∀ {l r:List Blk},q6p n l=true→hpLe n (l++r) l
  | [],r,_=>by cases r <;> trivial
  | x::l,r,h=>by
    cases x with
    | cells t cs=>simp only [q6p,Bool.and_eq_true] at h;exact ⟨⟨rfl,z1k _ h.1⟩,q54 h.2⟩
    | own e sz k xs=>exact ⟨⟨rfl,rfl,rfl,rfl⟩,q54 h⟩
    | gone=>exact ⟨trivial,q54 h⟩
    | muts S=>exact ⟨fun _ h=>h,q54 h⟩
    | lp i fr st p=>simp only [q6p,Bool.and_eq_true] at h;exact ⟨⟨⟨rfl,rfl,rfl⟩,z1k _ h.1⟩,q54 h.2⟩
    | mp f ks vs=>simp only [q6p,Bool.and_eq_true] at h;exact ⟨⟨⟨rfl,rfl⟩,z1k _ h.1⟩,q54 h.2⟩
structure KeepP (hp:List Blk) (G:Mem) (hp':List Blk) (G':Mem) (A:Prop):Prop where
  le:hpLe hp.length hp' hp
  sub:G.le G'
  go:A
theorem z6e {hp r:List Blk} {G G':Mem} {A:Prop} (hs:q6p hp.length hp=true) (hG:G.le G') (h:A):KeepP hp G (hp++r) G' A:=⟨q54 hs,hG,h⟩
def x05 (b:Bool) (hp:List Blk) (G:Mem) (hp':List Blk) (G':Mem) (A:Prop):Prop:=match b with
  | true=>KeepP hp G hp' G' A
  | false=>A
def cops (P:Program) (T:Tab) (hp0:List Blk) (G0:Mem) (l:List (Oper × Bool)):List AV→List Blk→Mem→(List AV→List Blk→Mem→Prop)→Prop :=
  List.rec (motive:=fun _=>List AV→List Blk→Mem→(List AV→List Blk→Mem→Prop)→Prop) (fun fr hp G K=>K fr hp G)
    (fun o _ ih fr hp G K=>vop P T o.1.op fr hp G fun v hp' G'=>x05 o.2 hp0 G0 hp' G' (putF o.1.dst v fr fun fr'=>ih fr' hp' G' K)) l
theorem z6f {P:Program} {T:Tab} {hp0:List Blk} {G0:Mem} {o:Oper × Bool} {l:List (Oper × Bool)} {fr:List AV} {hp:List Blk} {G:Mem} {K:List AV→List Blk→Mem→Prop}:cops P T hp0 G0 (o::l) fr hp G K=vop P T o.1.op fr hp G fun v hp' G'=>x05 o.2 hp0 G0 hp' G' (putF o.1.dst v fr fun fr'=>cops P T hp0 G0 l fr' hp' G' K):=rfl
def q4x (ops:List Oper):List Nat→List Oper
  | []=>[]
  | i::l=>match ops[i]? with
    | some o=>o::q4x ops l
    | none=>q4x ops l
theorem q7k {ops:List Oper}:∀ {is:List Nat},(∀ i∈is,i<ops.length)→∀ (p:Nat),(q4x ops is)[p]? = (is[p]?).bind (ops[·]?)
  | [],_,p=>by simp [q4x]
  | i::l,h,p=>by
    have hi:=h i (by simp)
    unfold q4x
    rw [List.getElem?_eq_getElem hi]
    simp only
    cases p with
    | zero=>simp [List.getElem?_eq_getElem hi]
    | succ p=>simpa using q7k (fun j hj=>h j (List.mem_cons_of_mem _ hj)) p
theorem q86 {ops:List Oper}:∀ {is:List Nat},(∀ i∈is,i<ops.length)→(q4x ops is).length=is.length
  | [],_=>by simp [q4x]
  | i::l,h=>by
    have hi:=h i (by simp)
    unfold q4x
    rw [List.getElem?_eq_getElem hi]
    simp [q86 (fun j hj=>h j (List.mem_cons_of_mem _ hj))]
def q77 (o:Oper):Bool:=o.guard.isNone&&(match o.op with
  | .select _ _=>false
  | _=>true)
def dstB (ops:List Oper) (i x:Nat):Bool:=match ops[i]? with
  | some o=>o.dst==some x
  | none=>false
def z4e (ops:List Oper) (i:Nat):List Nat:=match ops[i]? with
  | some o=>o.looksAt ops.toArray
  | none=>[]
def RdOk (P:Program) (o:Oper) (fr:List AV) (hp:List Blk) (G:Mem):Prop :=
  ∃ v,(∀ x,o.dst=some x→x<fr.length→fr[x]? = some v)∧(∀ (base:Nat) (β:Nm) (ρ:Operand→Value) (w:World),BR base β hp G w→q13 o fr β ρ→∃ y,(execOp ρ o).run P w=.ok (.value y) w∧v.rel β y) ∧
    (q8l o=true→∀ (β:Nm) (ρ:Operand→Value) (w:World),q13 o fr β ρ→∃ y,(execOp ρ o).run P w=.ok (.value y) w∧v.rel β y)
theorem z95 {fr fr':List AV} {o:Oper} (h:∀ t,(Operand.tmp t)∈o.op.operands.toList→fr'[t]? = fr[t]?):∀ x∈o.op.operands.toList,ev fr' x=ev fr x:=by
  intro x hx
  cases x with
  | tmp t=>simp only [ev,q58,h t hx]
  | const v=>rfl
  | global g=>rfl
  | func f=>rfl
def setD (dst:Option Tmp) (v:AV) (fr:List AV):List AV:=match dst with
  | some d=>fr.set d v
  | none=>fr
theorem z2x {dst:Option Tmp} {v:AV} {fr:List AV} {K:List AV→Prop} (h:putF dst v fr K):K (setD dst v fr):=by
  unfold putF at h
  cases dst with
  | none=>exact h
  | some d=>simp only [q2u,q1h] at h;exact h
theorem z96 {P:Program} {T:Tab} (hT:TOk P T) {hp:List Blk} {G:Mem}:∀ (l:List Oper) (fr:List AV) (K:List AV→Prop),
    (∀ (p p':Nat) o q,l[p]? = some o→l[p']? = some q→p≤p'→∀ t,(Operand.tmp t)∈o.op.operands.toList→q.dst≠some t)→(l.filterMap (·.dst)).Nodup→rops P T l fr hp G K →
    ∃ frR,K frR∧frR.length=fr.length∧(∀ x,(∀ o∈l,o.dst≠some x)→frR[x]? = fr[x]?)∧(∀ o∈l,RdOk P o frR hp G) ∧
      ∀ (base:Nat) (β:Nm) (a:Act) (w:World),BR base β hp G w→AV.rels β fr a.tmps.toList→∃ b:Act,AV.rels β frR b.tmps.toList∧b.defers=a.defers∧b.tmps.size=a.tmps.size∧∀ x,(∀ o∈l,o.dst≠some x)→b.tmps[x]? = a.tmps[x]?
  | [],fr,K,_,_,h=>⟨fr,h,rfl,fun _ _=>rfl,fun o ho=>by simp at ho,fun base β a w hb hf=>⟨a,hf,rfl,rfl,fun _ _=>rfl⟩⟩
  | o::l,fr,K,hl,hnd,h=>by
    rw [x2x] at h
    have hmv:∀ x,o.op=.move x→z4d P T o.op fr hp G (fun v=>putF o.dst v fr fun fr'=>rops P T l fr' hp G K)=putF o.dst (ev fr x) fr fun fr'=>rops P T l fr' hp G K:=fun x hx=>by rw [hx];rfl
    have key:∃ v,(putF o.dst v fr fun fr'=>rops P T l fr' hp G K)∧(∀ (base:Nat) (β:Nm) (ρ:Operand→Value) (w:World),BR base β hp G w→q13 o fr β ρ→∃ y,(execOp ρ o).run P w=.ok (.value y) w∧v.rel β y) ∧
        (q8l o=true→∀ (β:Nm) (ρ:Operand→Value) (w:World),q13 o fr β ρ→∃ y,(execOp ρ o).run P w=.ok (.value y) w∧v.rel β y):=by
      cases hm:q8l o with
      | false =>
        obtain ⟨v,h1,h2⟩:=x4e hT h
        exact ⟨v,h1,h2,fun h=>by cases h⟩
      | true =>
        have:∃ x,o.op=.move x:=by
          unfold q8l at hm
          split at hm
          · exact ⟨_,by assumption⟩
          · cases hm
        obtain ⟨x,hx⟩:=this
        rw [hmv x hx] at h
        have h2:∀ (β:Nm) (ρ:Operand→Value) (w:World),q13 o fr β ρ→∃ y,(execOp ρ o).run P w=.ok (.value y) w∧(ev fr x).rel β y:=fun β ρ w hf=>⟨ρ x,by simp [execOp,hx];(try rfl),hf x (by simp [hx,Op.operands])⟩
        exact ⟨_,h,fun base β ρ w _ hf=>h2 β ρ w hf,fun _=>h2⟩
    obtain ⟨v,h1,h2,h3⟩:=key
    have h1:=z2x h1
    generalize hfr:setD o.dst v fr=fr1 at h1
    have hnd':(l.filterMap (·.dst)).Nodup:=by
      cases hd:o.dst with
      | none=>simpa [hd] using hnd
      | some d=>rw [List.filterMap_cons_some hd] at hnd;exact hnd.of_cons
    have hself:∀ q∈l,∀ x,o.dst=some x→q.dst≠some x:=fun q hq x hx hd=>by
      rw [List.filterMap_cons_some hx] at hnd
      exact (List.nodup_cons.1 hnd).1 (List.mem_filterMap.2 ⟨q,hq,hd⟩)
    have hne:∀ x,o.dst≠some x→fr1[x]? = fr[x]?:=fun x hx=>by
      rw [← hfr]
      cases hd:o.dst with
      | none=>rfl
      | some d=>simp only [setD];rw [List.getElem?_set_ne (fun e=>hx (by rw [hd,e]))]
    have hfl:fr1.length=fr.length:=by
      rw [← hfr];cases o.dst <;> simp [setD]
    obtain ⟨frR,g1,g2,g3,g4,g5⟩:=z96 hT l fr1 K (fun p p' o q hp hq hle t ht=>hl (p+1) (p'+1) o q (by simpa using hp) (by simpa using hq) (by omega) t ht) hnd' h1
    have hops:∀ t,(Operand.tmp t)∈o.op.operands.toList→frR[t]? = fr[t]?:=fun t ht=>by
      rw [g3 t (fun q hq=>by
        obtain ⟨j,hj⟩:=List.mem_iff_getElem?.1 hq
        exact hl 0 (j+1) o q rfl (by simpa using hj) (by omega) t ht),hne t (hl 0 0 o o rfl rfl (by omega) t ht)]
    have hev:=z95 hops
    have hrd:∀ {β:Nm} {ρ:Operand→Value},q13 o frR β ρ→q13 o fr β ρ:=fun h x hx=>by rw [← hev x hx];exact h x hx
    refine ⟨frR,g1,by rw [g2,hfl],fun x hx=>by rw [g3 x (fun q hq=>hx q (List.mem_cons_of_mem _ hq)),hne x (hx o (by simp))],fun q hq=>?_,fun base β a w hb hf=>?_⟩
    · rcases List.mem_cons.1 hq with rfl |hq
      · refine ⟨v,fun x hx hlt=>?_,fun base β ρ w hb hf=>h2 base β ρ w hb (hrd hf),fun hm β ρ w hf=>h3 hm β ρ w (hrd hf)⟩
        rw [g3 x (fun p hp=>hself p hp x hx),← hfr,hx]
        simp only [setD]
        rw [List.getElem?_set_self (by rw [← hfl,← g2];exact hlt)]
      · exact g4 q hq
    · obtain ⟨y,h4,h5⟩:=h2 base β a.eval w hb (q79 hf)
      have hf1:AV.rels β fr1 (a.put o.dst y).tmps.toList:=by
        rw [← hfr]
        cases hd:o.dst with
        | none=>simpa [Act.put,setD] using hf
        | some d=>simpa [Act.put,setD,Array.toList_setIfInBounds] using AV.rels_set d hf h5
      obtain ⟨b,k1,k2,k3,k4⟩:=g5 base β (a.put o.dst y) w hb hf1
      refine ⟨b,k1,by rw [k2,q1m],by rw [k3];cases o.dst <;> simp [Act.put],fun x hx=>?_⟩
      rw [k4 x (fun q hq=>hx q (List.mem_cons_of_mem _ hq))]
      cases hd:o.dst with
      | none=>rfl
      | some d=>simp only [Act.put];rw [Array.getElem?_setIfInBounds_ne (fun e=>hx o (by simp) (by rw [hd,e]))]
theorem x2y {P:Program} {o:Oper} {a b:Act} {w:World} {N:Act→World→Prop} {Q:Exit→Act→World→Prop} (hp:q77 o=true) (hev:∀ x∈o.op.operands.toList,b.eval x=a.eval x) (hs:b.tmps.size=a.tmps.size)
    (h:Oper.wpW P o b w (fun b' w'=>∃ y,b'=b.put o.dst y∧N (a.put o.dst y) w') (fun _ _ _=>False)):Oper.wpW P o a w N Q:=by
  have hinj:∀ y y',b.put o.dst y=b.put o.dst y'→a.put o.dst y=a.put o.dst y':=fun y y' e=>by
    cases hd:o.dst with
    | none=>rfl
    | some d =>
      rw [hd] at e
      simp only [Act.put] at e ⊢
      have e1:b.tmps.setIfInBounds d y=b.tmps.setIfInBounds d y':=congrArg Act.tmps e
      by_cases hlt:d<b.tmps.size
      · have e2:=congrArg (fun t:Array Value=>t[d]?) e1
        simp [Array.getElem?_setIfInBounds_self_of_lt,hlt] at e2
        rw [e2]
      · have hge:a.tmps.size≤d:=by rw [← hs];exact Nat.le_of_not_lt hlt
        rw [Array.setIfInBounds_eq_of_size_le hge,Array.setIfInBounds_eq_of_size_le hge]
  have hN:∀ y w',(∃ y',b.put o.dst y=b.put o.dst y'∧N (a.put o.dst y') w')→N (a.put o.dst y) w':=fun y w' ⟨y',e,h⟩=>by rw [hinj y y' e];exact h
  have hop:execOp a.eval o=execOp b.eval o:=(execOp_congr o (fun cs d e=>by simp [q77,e] at hp) (fun x hx=>(hev x (by simpa using hx)))).symm
  unfold Oper.wpW at h ⊢
  rw [hop]
  generalize (execOp b.eval o).run P w=r at h
  cases r with
  | ok nx w' =>
    cases nx <;> simp only [Oper.uponIn] at h ⊢ <;> first
      | exact hN _ w' h
      | (obtain ⟨y,e,_⟩:=h
         have e1:=congrArg Act.defers e
         rw [q1m,q1m] at e1
         exact absurd e1 (by simp))
      | exact ⟨h.1,CallsIn.mono h.2 (fun e w'' he=>by cases e <;> first |exact hN _ _ he |exact he.elim |(obtain ⟨_,_,f⟩:=he;exact f.elim))⟩
      | exact ⟨h.1,RowsIn.mono h.2 (fun _ _ he=>hN _ _ he)⟩
      | exact ⟨h.1,RoundIn.mono h.2 (fun e w'' he=>by cases e <;> first |exact hN _ _ he |exact he.elim |(obtain ⟨_,_,f⟩:=he;exact f.elim))⟩
      | exact h.elim
  | halt x w'=>cases x <;> simp only [Oper.uponIn] at h ⊢ <;> exact h.elim
section
variable {P:Program} {T:Tab} {ops:List Oper} {rs c1 c2:List Nat} {w0:World} {G0:Mem} {β0:Nm} {ds:List Deferred} {Q:Exit→Act→World→Prop} {K:List AV→List Blk→Mem→Prop}
def chL (ops:List Oper) (c1 c2:List Nat):List (Oper × Bool):=(q4x ops c1).map (fun o=>(o,true))++(q4x ops c2).map (fun o=>(o,false))
theorem x5b (h1:∀ i∈c1,i<ops.length) (h2:∀ i∈c2,i<ops.length) {p i:Nat} (hi:(c1++c2)[p]? = some i):∃ o,ops[i]? = some o∧(chL ops c1 c2)[p]? = some (o,decide (p<c1.length)):=by
  unfold chL
  have l1:=q86 h1
  by_cases hp:p<c1.length
  · rw [List.getElem?_append_left hp] at hi
    have hlt:=h1 i (List.mem_of_getElem? hi)
    refine ⟨ops[i],List.getElem?_eq_getElem hlt,?_⟩
    rw [List.getElem?_append_left (by rw [List.length_map,l1];exact hp),List.getElem?_map,q7k h1,hi]
    simp [hp,List.getElem?_eq_getElem hlt]
  · rw [List.getElem?_append_right (by omega)] at hi
    have hlt:=h2 i (List.mem_of_getElem? hi)
    refine ⟨ops[i],List.getElem?_eq_getElem hlt,?_⟩
    rw [List.getElem?_append_right (by rw [List.length_map,l1];omega),List.getElem?_map,List.length_map,l1,q7k h2,hi]
    simp [hp,List.getElem?_eq_getElem hlt]
theorem x5c (h1:∀ i∈c1,i<ops.length) (h2:∀ i∈c2,i<ops.length):(chL ops c1 c2).length=(c1++c2).length:=by
  unfold chL;simp [q86 h1,q86 h2]
theorem z6g:∀ {l:List AV} {n x:Nat} {v:AV},AV.unders n l=true→l[x]? = some v→v.under n=true
  | [],_,_,_,_,h=>by simp at h
  | a::l,n,0,v,hu,h=>by
    simp only [AV.unders,Bool.and_eq_true] at hu
    simp at h;subst h;exact hu.1
  | a::l,n,x+1,v,hu,h=>by
    simp only [AV.unders,Bool.and_eq_true] at hu
    exact z6g hu.2 (by simpa using h)
end
end Go.Proofs.Ytbkhpddodmbdoaa
