/-
  The engine: a region that draws its order, whose operations other than reads form a chain: the reads first, then the chain. No program in sight.
-/
import Derived.Test.YtegpkpilfgohhaaGreatEng2
set_option linter.unusedVariables false
set_option linter.unusedSimpArgs false
set_option linter.unnecessarySimpa false
namespace Go.Proofs.YtegpkpilfgohhaaGreat
open Go.RowKit
theorem q6r:∀ {l:List Nat} {j k i:Nat},l.Nodup→l[j]? = some i→l[k]? = some i→j=k
  | [],_,_,_,_,h,_=>by simp at h
  | a::l,0,0,_,_,_,_=>rfl
  | a::l,0,k+1,i,hn,h,h'=>by
    simp at h;subst h
    exact absurd (List.mem_of_getElem? (by simpa using h')) (List.nodup_cons.1 hn).1
  | a::l,j+1,0,i,hn,h,h'=>by
    simp at h';subst h'
    exact absurd (List.mem_of_getElem? (by simpa using h)) (List.nodup_cons.1 hn).1
  | a::l,j+1,k+1,i,hn,h,h'=>by
    have:=q6r (i:=i) (j:=j) (k:=k) (List.nodup_cons.1 hn).2 (by simpa using h) (by simpa using h')
    omega
def z51 (P:Program) (T:Tab) (op:Op) (fr:List AV) (hp:List Blk) (G:Mem) (K:AV→Prop):Prop :=
  match op with
  | .move x=>K (ev fr x)
  | .assign x=>K (ev fr x)
  | .load t x=>q8i T t x fr hp G fun v _ _=>K v
  | .nilCheck x=>q9p x fr K
  | .binOp op t x y _=>vBin P op t x y fr K
  | .fieldAddr s x n=>z1a T s x n fr K
  | .field s x n=>z9u T s x n fr K
  | .indexAddr t x i=>z1b T t x i fr hp K
  | .index t x i=>z9v T t x i fr K
  | .extract x n=>q88 x n fr K
  | .call ⟨.builtin .len,⟨[x]⟩,⟨[t]⟩⟩=>vLen T t (ev fr x) hp K
  | _=>False
theorem x7d {P:Program} {T:Tab} (hT:TOk P T) {o:Oper} {fr:List AV} {hp:List Blk} {G:Mem} {K:AV→Prop} (h:z51 P T o.op fr hp G K):q2g P o fr hp G K:=by
  generalize ho:o.op=op at h
  unfold z51 at h
  split at h
  · exact ⟨_,h,fun base β ρ w hr hf=>⟨_,by simp [execOp,ho];(try rfl),hf _ (by simp [ho,Op.operands])⟩⟩
  · exact ⟨_,h,fun base β ρ w hr hf=>⟨_,by simp [execOp,ho];(try rfl),hf _ (by simp [ho,Op.operands])⟩⟩
  · exact z4h hT ho h
  · exact q86 ho h
  · exact z6q ho h
  · exact q79 hT ho h
  · exact z2d hT ho h
  · exact q8a hT ho h
  · exact z2e hT ho h
  · exact q7m ho h
  · exact z6s hT ho h
  · exact h.elim
def q54 (o:Oper):Bool:=match o.op with
  | .move _=>true
  | _=>false
def rops (P:Program) (T:Tab) (l:List Oper):List AV→List Blk→Mem→(List AV→Prop)→Prop :=
  List.rec (motive:=fun _=>List AV→List Blk→Mem→(List AV→Prop)→Prop) (fun fr _ _ K=>K fr)
    (fun o _ ih fr hp G K=>z51 P T o.op fr hp G fun v=>putF o.dst v fr fun fr'=>ih fr' hp G K) l
theorem x5h {P:Program} {T:Tab} {o:Oper} {l:List Oper} {fr:List AV} {hp:List Blk} {G:Mem} {K:List AV→Prop}:rops P T (o::l) fr hp G K=z51 P T o.op fr hp G fun v=>putF o.dst v fr fun fr'=>rops P T l fr' hp G K:=rfl
def q63 (n:Nat):List Blk→Bool
  | []=>true
  | .cells _ l::r=>AV.unders n l&&q63 n r
  | .own _ _ _ _::r=>q63 n r
  | .gone::r=>q63 n r
  | .muts _::r=>q63 n r
  | .lp _ l _ _::r=>AV.unders n l&&q63 n r
  | .mp _ _ l::r=>AV.unders n l&&q63 n r
theorem z2v {n:Nat}:∀ (l:List AV),AV.unders n l=true→frLe n l l:=by
  intro l
  induction l with
  | nil=>intro _;trivial
  | cons a l ih =>
    intro h
    simp only [AV.unders,Bool.and_eq_true] at h
    have h2:=ih h.2
    cases a <;> first |exact h2 |exact ⟨⟨rfl,h.1⟩,h2⟩
theorem q6j {n:Nat}:∀ {l r:List Blk},q63 n l=true→hpLe n (l++r) l
  | [],r,_=>by cases r <;> trivial
  | x::l,r,h=>by
    cases x with
    | cells t cs=>simp only [q63,Bool.and_eq_true] at h;exact ⟨⟨rfl,z2v _ h.1⟩,q6j h.2⟩
    | own e sz k xs=>exact ⟨⟨rfl,rfl,rfl,rfl⟩,q6j h⟩
    | gone=>exact ⟨trivial,q6j h⟩
    | muts S=>exact ⟨fun _ h=>h,q6j h⟩
    | lp i fr st p=>simp only [q63,Bool.and_eq_true] at h;exact ⟨⟨⟨rfl,rfl,rfl⟩,z2v _ h.1⟩,q6j h.2⟩
    | mp f ks vs=>simp only [q63,Bool.and_eq_true] at h;exact ⟨⟨⟨rfl,rfl⟩,z2v _ h.1⟩,q6j h.2⟩
structure KeepP (hp:List Blk) (G:Mem) (hp':List Blk) (G':Mem) (A:Prop):Prop where
  le:hpLe hp.length hp' hp
  sub:G.le G'
  go:A
theorem q0n {hp r:List Blk} {G G':Mem} {A:Prop} (hs:q63 hp.length hp=true) (hG:G.le G') (h:A):KeepP hp G (hp++r) G' A:=⟨q6j hs,hG,h⟩
def z9g (b:Bool) (hp:List Blk) (G:Mem) (hp':List Blk) (G':Mem) (A:Prop):Prop:=match b with
  | true=>KeepP hp G hp' G' A
  | false=>A
def cops (P:Program) (T:Tab) (hp0:List Blk) (G0:Mem) (l:List (Oper × Bool)):List AV→List Blk→Mem→(List AV→List Blk→Mem→Prop)→Prop :=
  List.rec (motive:=fun _=>List AV→List Blk→Mem→(List AV→List Blk→Mem→Prop)→Prop) (fun fr hp G K=>K fr hp G)
    (fun o _ ih fr hp G K=>vop P T o.1.op fr hp G fun v hp' G'=>z9g o.2 hp0 G0 hp' G' (putF o.1.dst v fr fun fr'=>ih fr' hp' G' K)) l
theorem z2w {P:Program} {T:Tab} {hp0:List Blk} {G0:Mem} {o:Oper × Bool} {l:List (Oper × Bool)} {fr:List AV} {hp:List Blk} {G:Mem} {K:List AV→List Blk→Mem→Prop}:cops P T hp0 G0 (o::l) fr hp G K=vop P T o.1.op fr hp G fun v hp' G'=>z9g o.2 hp0 G0 hp' G' (putF o.1.dst v fr fun fr'=>cops P T hp0 G0 l fr' hp' G' K):=rfl
def q3m (ops:List Oper):List Nat→List Oper
  | []=>[]
  | i::l=>match ops[i]? with
    | some o=>o::q3m ops l
    | none=>q3m ops l
theorem q5n {ops:List Oper}:∀ {is:List Nat},(∀ i∈is,i<ops.length)→∀ (p:Nat),(q3m ops is)[p]? = (is[p]?).bind (ops[·]?)
  | [],_,p=>by simp [q3m]
  | i::l,h,p=>by
    have hi:=h i (by simp)
    unfold q3m
    rw [List.getElem?_eq_getElem hi]
    simp only
    cases p with
    | zero=>simp [List.getElem?_eq_getElem hi]
    | succ p=>simpa using q5n (fun j hj=>h j (List.mem_cons_of_mem _ hj)) p
theorem q9y {ops:List Oper}:∀ {is:List Nat},(∀ i∈is,i<ops.length)→(q3m ops is).length=is.length
  | [],_=>by simp [q3m]
  | i::l,h=>by
    have hi:=h i (by simp)
    unfold q3m
    rw [List.getElem?_eq_getElem hi]
    simp [q9y (fun j hj=>h j (List.mem_cons_of_mem _ hj))]
def q46 (o:Oper):Bool:=o.guard.isNone&&(match o.op with
  | .select _ _=>false
  | _=>true)
def dstB (ops:List Oper) (i x:Nat):Bool:=match ops[i]? with
  | some o=>o.dst==some x
  | none=>false
def q7q (ops:List Oper) (i:Nat):List Nat:=match ops[i]? with
  | some o=>o.looksAt ops.toArray
  | none=>[]
def x0l (ops:List Oper) (rs c1 c2:List Nat):Bool :=
  (ops.zipIdx.all fun (o,i)=>q46 o&&(o.after.toList.all fun e=>!Region.binds .any e||Nat.blt e.on i)&&(rs.contains i||(c1++c2).contains i)) &&
  ((rs++(c1++c2)).all fun i=>Nat.blt i ops.length) &&
  decide (rs++(c1++c2)).Nodup &&
  ((c1++c2).zipIdx.all fun (i,p)=>(c1++c2).zipIdx.all fun (j,q)=>!Nat.blt q p||q1e ops 12 i j) &&
  (c2.all fun i=>rs.all fun r=>((ops[r]?).map q54).getD false||q1e ops 12 i r) &&
  ((c1++c2).all fun i=>(q7q ops i).all fun x=>rs.all fun r=>!dstB ops r x||q1e ops 12 i r) &&
  (rs.zipIdx.all fun (i,p)=>(q7q ops i).all fun x=>((c1++c2).all fun j=>!dstB ops j x||q1e ops 12 j i)&&rs.zipIdx.all fun (j,q)=>!dstB ops j x||(Nat.blt q p&&q1e ops 12 i j)) &&
  (rs.all fun r=>(c1++c2).all fun j=>match (ops[r]?).bind (·.dst) with
    | some x=>!dstB ops j x
    | none=>true) &&
  decide ((q3m ops rs).filterMap (·.dst)).Nodup
structure ChainOk (ops:List Oper) (rs c1 c2:List Nat):Prop where
  plain:∀ (i:Nat) o,ops[i]? = some o→q46 o=true
  edge:∀ (i:Nat) o,ops[i]? = some o→∀ e∈o.after,Region.binds .any e=true→e.on<i
  part:∀ i,i<ops.length→i∈rs∨i∈c1++c2
  lt:∀ i∈rs++(c1++c2),i<ops.length
  nodup:(rs++(c1++c2)).Nodup
  chain:∀ (p q i j:Nat),(c1++c2)[p]? = some i→(c1++c2)[q]? = some j→q<p→q1e ops 12 i j=true
  late:∀ i∈c2,∀ r∈rs,∀ o,ops[r]? = some o→q54 o=true∨q1e ops 12 i r=true
  look:∀ i∈c1++c2,∀ o,ops[i]? = some o→∀ x∈o.looksAt ops.toArray,∀ r∈rs,∀ q,ops[r]? = some q→q.dst=some x→q1e ops 12 i r=true
  lookr:∀ (p i:Nat),rs[p]? = some i→∀ o,ops[i]? = some o→∀ x∈o.looksAt ops.toArray,(∀ j∈c1++c2,∀ q,ops[j]? = some q→q.dst=some x→q1e ops 12 j i=true)∧∀ (p' j:Nat),rs[p']? = some j→∀ q,ops[j]? = some q→q.dst=some x→p'<p∧q1e ops 12 i j=true
  apart:∀ r∈rs,∀ q,ops[r]? = some q→∀ x,q.dst=some x→∀ j∈c1++c2,∀ o,ops[j]? = some o→o.dst≠some x
  dsts:((q3m ops rs).filterMap (·.dst)).Nodup
theorem x5i {ops:List Oper} {rs c1 c2:List Nat} (h:x0l ops rs c1 c2=true):ChainOk ops rs c1 c2:=by
  simp only [x0l,Bool.and_eq_true] at h
  obtain ⟨⟨⟨⟨⟨⟨⟨⟨h1,h2⟩,h3⟩,h4⟩,h5⟩,h6⟩,h7⟩,h8⟩,h9⟩:=h
  have ofMem:∀ {l:List Nat} {p:Nat→Bool},l.all p=true→∀ i∈l,p i=true:=fun h i hi=>by
    rw [List.all_eq_true] at h;exact h i hi
  refine ⟨fun i o ho=>?_,fun i o ho e he hb=>?_,fun i hi=>?_,fun i hi=>q1w (ofMem h2 i hi),of_decide_eq_true h3,fun p q i j hp hq hlt=>?_,fun i hi r hr o ho=>?_,fun i hi o ho x hx r hr q hq hd=>?_,fun p i hp o ho x hx=>⟨fun j hj q hq hd=>?_,fun p' j hp' q hq hd=>?_⟩,fun r hr q hq x hx j hj o ho hd=>?_,of_decide_eq_true h9⟩
  · have:=q1g h1 ho
    simp only [Bool.and_eq_true] at this;exact this.1.1
  · have:=q1g h1 ho
    simp only [Bool.and_eq_true] at this
    have h10:=this.1.2
    rw [List.all_eq_true] at h10
    have h11:=h10 e (by simpa using he)
    simp only [hb,Bool.not_true,Bool.false_or] at h11
    exact q1w h11
  · have:=q1g h1 (List.getElem?_eq_getElem hi)
    simp only [Bool.and_eq_true,Bool.or_eq_true] at this
    have h10:=this.2
    rcases h10 with h10 |h10
    · exact .inl (by simpa using h10)
    · exact .inr (by simpa using h10)
  · have h10:=q1g h4 hp
    have h11:=q1g h10 hq
    simp only [Bool.or_eq_true,Bool.not_eq_true'] at h11
    rcases h11 with h11 |h11
    · rw [show Nat.blt q p=true by simpa [Nat.blt_eq] using hlt] at h11;cases h11
    · exact h11
  · have h10:=ofMem (ofMem h5 i hi) r hr
    simp only [ho,Option.map_some,Option.getD_some,Bool.or_eq_true] at h10
    exact h10
  · have h10:=ofMem h6 i hi
    simp only [q7q,ho] at h10
    have h11:=ofMem (ofMem h10 x hx) r hr
    simpa [dstB,hq,hd] using h11
  · have h10:=q1g h7 hp
    simp only [q7q,ho] at h10
    have h11:=ofMem h10 x hx
    simp only [Bool.and_eq_true] at h11
    have h12:=ofMem h11.1 j hj
    simpa [dstB,hq,hd] using h12
  · have h10:=q1g h7 hp
    simp only [q7q,ho] at h10
    have h11:=ofMem h10 x hx
    simp only [Bool.and_eq_true] at h11
    have h12:=q1g h11.2 hp'
    simp only [dstB,hq,hd,beq_self_eq_true,Bool.not_true,Bool.false_or,Bool.and_eq_true] at h12
    exact ⟨q1w h12.1,h12.2⟩
  · have h10:=ofMem (ofMem h8 r hr) j hj
    simp [hq,hx,dstB,ho,hd] at h10
def RdOk (P:Program) (o:Oper) (fr:List AV) (hp:List Blk) (G:Mem):Prop :=
  ∃ v,(∀ x,o.dst=some x→x<fr.length→fr[x]? = some v)∧(∀ (base:Nat) (β:Nm) (ρ:Operand→Value) (w:World),BR base β hp G w→q13 o fr β ρ→∃ y,(execOp ρ o).run P w=.ok (.value y) w∧v.rel β y) ∧
    (q54 o=true→∀ (β:Nm) (ρ:Operand→Value) (w:World),q13 o fr β ρ→∃ y,(execOp ρ o).run P w=.ok (.value y) w∧v.rel β y)
theorem z66 {fr fr':List AV} {o:Oper} (h:∀ t,(Operand.tmp t)∈o.op.operands.toList→fr'[t]? = fr[t]?):∀ x∈o.op.operands.toList,ev fr' x=ev fr x:=by
  intro x hx
  cases x with
  | tmp t=>simp only [ev,q5s,h t hx]
  | const v=>rfl
  | global g=>rfl
  | func f=>rfl
def setD (dst:Option Tmp) (v:AV) (fr:List AV):List AV:=match dst with
  | some d=>fr.set d v
  | none=>fr
theorem z1n {dst:Option Tmp} {v:AV} {fr:List AV} {K:List AV→Prop} (h:putF dst v fr K):K (setD dst v fr):=by
  unfold putF at h
  cases dst with
  | none=>exact h
  | some d=>simp only [q19,q1c] at h;exact h
theorem z67 {P:Program} {T:Tab} (hT:TOk P T) {hp:List Blk} {G:Mem}:∀ (l:List Oper) (fr:List AV) (K:List AV→Prop),
    (∀ (p p':Nat) o q,l[p]? = some o→l[p']? = some q→p≤p'→∀ t,(Operand.tmp t)∈o.op.operands.toList→q.dst≠some t)→(l.filterMap (·.dst)).Nodup→rops P T l fr hp G K →
    ∃ frR,K frR∧frR.length=fr.length∧(∀ x,(∀ o∈l,o.dst≠some x)→frR[x]? = fr[x]?)∧(∀ o∈l,RdOk P o frR hp G) ∧
      ∀ (base:Nat) (β:Nm) (a:Act) (w:World),BR base β hp G w→AV.rels β fr a.tmps.toList→∃ b:Act,AV.rels β frR b.tmps.toList∧b.defers=a.defers∧b.tmps.size=a.tmps.size∧∀ x,(∀ o∈l,o.dst≠some x)→b.tmps[x]? = a.tmps[x]?
  | [],fr,K,_,_,h=>⟨fr,h,rfl,fun _ _=>rfl,fun o ho=>by simp at ho,fun base β a w hb hf=>⟨a,hf,rfl,rfl,fun _ _=>rfl⟩⟩
  | o::l,fr,K,hl,hnd,h=>by
    rw [x5h] at h
    have hmv:∀ x,o.op=.move x→z51 P T o.op fr hp G (fun v=>putF o.dst v fr fun fr'=>rops P T l fr' hp G K)=putF o.dst (ev fr x) fr fun fr'=>rops P T l fr' hp G K:=fun x hx=>by rw [hx];rfl
    have key:∃ v,(putF o.dst v fr fun fr'=>rops P T l fr' hp G K)∧(∀ (base:Nat) (β:Nm) (ρ:Operand→Value) (w:World),BR base β hp G w→q13 o fr β ρ→∃ y,(execOp ρ o).run P w=.ok (.value y) w∧v.rel β y) ∧
        (q54 o=true→∀ (β:Nm) (ρ:Operand→Value) (w:World),q13 o fr β ρ→∃ y,(execOp ρ o).run P w=.ok (.value y) w∧v.rel β y):=by
      cases hm:q54 o with
      | false =>
        obtain ⟨v,h1,h2⟩:=x7d hT h
        exact ⟨v,h1,h2,fun h=>by cases h⟩
      | true =>
        have:∃ x,o.op=.move x:=by
          unfold q54 at hm
          split at hm
          · exact ⟨_,by assumption⟩
          · cases hm
        obtain ⟨x,hx⟩:=this
        rw [hmv x hx] at h
        have h2:∀ (β:Nm) (ρ:Operand→Value) (w:World),q13 o fr β ρ→∃ y,(execOp ρ o).run P w=.ok (.value y) w∧(ev fr x).rel β y:=fun β ρ w hf=>⟨ρ x,by simp [execOp,hx];(try rfl),hf x (by simp [hx,Op.operands])⟩
        exact ⟨_,h,fun base β ρ w _ hf=>h2 β ρ w hf,fun _=>h2⟩
    obtain ⟨v,h1,h2,h3⟩:=key
    have h1:=z1n h1
    generalize hfr:setD o.dst v fr=fr1 at h1
    have hnd':(l.filterMap (·.dst)).Nodup:=by
      cases hd:o.dst with
      | none=>simpa [hd] using hnd
      | some d=>rw [List.filterMap_cons_some hd] at hnd;exact hnd.of_cons
    have hself:∀ q∈l,∀ x,o.dst=some x→q.dst≠some x:=fun q hq x hx hd=>by
      rw [List.filterMap_cons_some hx] at hnd
      exact (List.nodup_cons.1 hnd).1 (List.mem_filterMap.2 ⟨q,hq,hd⟩)
    have hne:∀ x,o.dst≠some x→fr1[x]? = fr[x]?:=fun x hx=>by
      rw [← hfr]
      cases hd:o.dst with
      | none=>rfl
      | some d=>simp only [setD];rw [List.getElem?_set_ne (fun e=>hx (by rw [hd,e]))]
    have hfl:fr1.length=fr.length:=by
      rw [← hfr];cases o.dst <;> simp [setD]
    obtain ⟨frR,g1,g2,g3,g4,g5⟩:=z67 hT l fr1 K (fun p p' o q hp hq hle t ht=>hl (p+1) (p'+1) o q (by simpa using hp) (by simpa using hq) (by omega) t ht) hnd' h1
    have hops:∀ t,(Operand.tmp t)∈o.op.operands.toList→frR[t]? = fr[t]?:=fun t ht=>by
      rw [g3 t (fun q hq=>by
        obtain ⟨j,hj⟩:=List.mem_iff_getElem?.1 hq
        exact hl 0 (j+1) o q rfl (by simpa using hj) (by omega) t ht),hne t (hl 0 0 o o rfl rfl (by omega) t ht)]
    have hev:=z66 hops
    have hrd:∀ {β:Nm} {ρ:Operand→Value},q13 o frR β ρ→q13 o fr β ρ:=fun h x hx=>by rw [← hev x hx];exact h x hx
    refine ⟨frR,g1,by rw [g2,hfl],fun x hx=>by rw [g3 x (fun q hq=>hx q (List.mem_cons_of_mem _ hq)),hne x (hx o (by simp))],fun q hq=>?_,fun base β a w hb hf=>?_⟩
    · rcases List.mem_cons.1 hq with rfl |hq
      · refine ⟨v,fun x hx hlt=>?_,fun base β ρ w hb hf=>h2 base β ρ w hb (hrd hf),fun hm β ρ w hf=>h3 hm β ρ w (hrd hf)⟩
        rw [g3 x (fun p hp=>hself p hp x hx),← hfr,hx]
        simp only [setD]
        rw [List.getElem?_set_self (by rw [← hfl,← g2];exact hlt)]
      · exact g4 q hq
    · obtain ⟨y,h4,h5⟩:=h2 base β a.eval w hb (q85 hf)
      have hf1:AV.rels β fr1 (a.put o.dst y).tmps.toList:=by
        rw [← hfr]
        cases hd:o.dst with
        | none=>simpa [Act.put,setD] using hf
        | some d=>simpa [Act.put,setD,Array.toList_setIfInBounds] using AV.rels_set d hf h5
      obtain ⟨b,k1,k2,k3,k4⟩:=g5 base β (a.put o.dst y) w hb hf1
      refine ⟨b,k1,by rw [k2,q05],by rw [k3];cases o.dst <;> simp [Act.put],fun x hx=>?_⟩
      rw [k4 x (fun q hq=>hx q (List.mem_cons_of_mem _ hq))]
      cases hd:o.dst with
      | none=>rfl
      | some d=>simp only [Act.put];rw [Array.getElem?_setIfInBounds_ne (fun e=>hx o (by simp) (by rw [hd,e]))]
theorem z8c {P:Program} {o:Oper} {a b:Act} {w:World} {N:Act→World→Prop} {Q:Exit→Act→World→Prop} (hp:q46 o=true) (hev:∀ x∈o.op.operands.toList,b.eval x=a.eval x) (hs:b.tmps.size=a.tmps.size)
    (h:Oper.wpW P o b w (fun b' w'=>∃ y,b'=b.put o.dst y∧N (a.put o.dst y) w') (fun _ _ _=>False)):Oper.wpW P o a w N Q:=by
  have hinj:∀ y y',b.put o.dst y=b.put o.dst y'→a.put o.dst y=a.put o.dst y':=fun y y' e=>by
    cases hd:o.dst with
    | none=>rfl
    | some d =>
      rw [hd] at e
      simp only [Act.put] at e ⊢
      have e1:b.tmps.setIfInBounds d y=b.tmps.setIfInBounds d y':=congrArg Act.tmps e
      by_cases hlt:d<b.tmps.size
      · have e2:=congrArg (fun t:Array Value=>t[d]?) e1
        simp [Array.getElem?_setIfInBounds_self_of_lt,hlt] at e2
        rw [e2]
      · have hge:a.tmps.size≤d:=by rw [← hs];exact Nat.le_of_not_lt hlt
        rw [Array.setIfInBounds_eq_of_size_le hge,Array.setIfInBounds_eq_of_size_le hge]
  have hN:∀ y w',(∃ y',b.put o.dst y=b.put o.dst y'∧N (a.put o.dst y') w')→N (a.put o.dst y) w':=fun y w' ⟨y',e,h⟩=>by rw [hinj y y' e];exact h
  have hop:execOp a.eval o=execOp b.eval o:=(execOp_congr o (fun cs d e=>by simp [q46,e] at hp) (fun x hx=>(hev x (by simpa using hx)))).symm
  unfold Oper.wpW at h ⊢
  rw [hop]
  generalize (execOp b.eval o).run P w=r at h
  cases r with
  | ok nx w' =>
    cases nx <;> simp only [Oper.uponIn] at h ⊢ <;> first
      | exact hN _ w' h
      | (obtain ⟨y,e,_⟩:=h
         have e1:=congrArg Act.defers e
         rw [q05,q05] at e1
         exact absurd e1 (by simp))
      | exact ⟨h.1,CallsIn.mono h.2 (fun e w'' he=>by cases e <;> first |exact hN _ _ he |exact he.elim |(obtain ⟨_,_,f⟩:=he;exact f.elim))⟩
      | exact ⟨h.1,RowsIn.mono h.2 (fun _ _ he=>hN _ _ he)⟩
      | exact ⟨h.1,RoundIn.mono h.2 (fun e w'' he=>by cases e <;> first |exact hN _ _ he |exact he.elim |(obtain ⟨_,_,f⟩:=he;exact f.elim))⟩
      | exact h.elim
  | halt x w'=>cases x <;> simp only [Oper.uponIn] at h ⊢ <;> exact h.elim
section
variable {P:Program} {T:Tab} {ops:List Oper} {rs c1 c2:List Nat} {w0:World} {G0:Mem} {β0:Nm} {ds:List Deferred} {Q:Exit→Act→World→Prop} {K:List AV→List Blk→Mem→Prop}
def chL (ops:List Oper) (c1 c2:List Nat):List (Oper × Bool):=(q3m ops c1).map (fun o=>(o,true))++(q3m ops c2).map (fun o=>(o,false))
theorem x24 (h1:∀ i∈c1,i<ops.length) (h2:∀ i∈c2,i<ops.length) {p i:Nat} (hi:(c1++c2)[p]? = some i):∃ o,ops[i]? = some o∧(chL ops c1 c2)[p]? = some (o,decide (p<c1.length)):=by
  unfold chL
  have l1:=q9y h1
  by_cases hp:p<c1.length
  · rw [List.getElem?_append_left hp] at hi
    have hlt:=h1 i (List.mem_of_getElem? hi)
    refine ⟨ops[i],List.getElem?_eq_getElem hlt,?_⟩
    rw [List.getElem?_append_left (by rw [List.length_map,l1];exact hp),List.getElem?_map,q5n h1,hi]
    simp [hp,List.getElem?_eq_getElem hlt]
  · rw [List.getElem?_append_right (by omega)] at hi
    have hlt:=h2 i (List.mem_of_getElem? hi)
    refine ⟨ops[i],List.getElem?_eq_getElem hlt,?_⟩
    rw [List.getElem?_append_right (by rw [List.length_map,l1];omega),List.getElem?_map,List.length_map,l1,q5n h2,hi]
    simp [hp,List.getElem?_eq_getElem hlt]
theorem x25 (h1:∀ i∈c1,i<ops.length) (h2:∀ i∈c2,i<ops.length):(chL ops c1 c2).length=(c1++c2).length:=by
  unfold chL;simp [q9y h1,q9y h2]
structure CInv (P:Program) (T:Tab) (ops:List Oper) (rs c1 c2:List Nat) (w0:World) (G0:Mem) (β0:Nm) (ds:List Deferred) (hp:List Blk) (G:Mem) (frR:List AV) (K:List AV→List Blk→Mem→Prop) (listed:Array Bool) (a:Act) (w:World):Prop where
  size:listed.size=ops.length
  closed:∀ (i:Nat) o,ops[i]? = some o→listed.getD i true=true→∀ j,depB o j=true→listed.getD j true=true
  state:∃ (p:Nat) (β:Nm) (fr':List AV) (hp':List Blk) (G':Mem) (b:Act),
    p≤(c1++c2).length∧(∀ j i,(c1++c2)[j]? = some i→(listed.getD i true=true↔j<p))∧β0.le β∧HR w0 G0 β hp' G' w∧a.defers=ds∧AV.rels β fr' b.tmps.toList∧b.defers=a.defers∧b.tmps.size=a.tmps.size ∧
    (∀ x,(∀ r∈rs,∀ o,ops[r]? = some o→listed.getD r true=false→o.dst≠some x)→a.tmps[x]? = b.tmps[x]?) ∧
    (∀ x,(∀ i∈c1++c2,listed.getD i true=true→∀ o,ops[i]? = some o→o.dst≠some x)→fr'[x]? = frR[x]?)∧fr'.length=frR.length ∧
    (p≤c1.length→hpLe hp.length hp' hp∧G.le G')∧cops P T hp G ((chL ops c1 c2).drop p) fr' hp' G' K
theorem x7e (hok:ChainOk ops rs c1 c2) {L:Nat→Prop} (hcl:∀ (i:Nat) o,ops[i]? = some o→L i→∀ j,depB o j=true→L j) {i j:Nat} {o:Oper} (ho:ops[i]? = some o) (hd:∀ j,depB o j=true→L j) (h:q1e ops 12 i j=true):L j:=q2c hcl 12 i o ho hd j h
theorem z2x:∀ {l:List AV} {n x:Nat} {v:AV},AV.unders n l=true→l[x]? = some v→v.under n=true
  | [],_,_,_,_,h=>by simp at h
  | a::l,n,0,v,hu,h=>by
    simp only [AV.unders,Bool.and_eq_true] at hu
    simp at h;subst h;exact hu.1
  | a::l,n,x+1,v,hu,h=>by
    simp only [AV.unders,Bool.and_eq_true] at hu
    exact z2x hu.2 (by simpa using h)
theorem x5j (hT:TOk P T) (hok:ChainOk ops rs c1 c2) {hp:List Blk} {G:Mem} {frR:List AV} (hQ:∀ a' w',Sat w0 G0 β0 ds K a' w'→Q .normal a' w')
    (hrd:∀ r∈rs,∀ o,ops[r]? = some o→RdOk P o frR hp G) (hu:AV.unders hp.length frR=true) :
    ∀ (fuel:Nat) (listed:Array Bool) (a:Act) (w:World),unl listed ops.length=fuel→CInv P T ops rs c1 c2 w0 G0 β0 ds hp G frR K listed a w→q5b P ops.toArray Q fuel listed a w:=by
  have lt1:∀ i∈c1,i<ops.length:=fun i hi=>hok.lt i (by simp [hi])
  have lt2:∀ i∈c2,i<ops.length:=fun i hi=>hok.lt i (by simp [hi])
  have hnd:=List.nodup_append.1 hok.nodup
  intro fuel
  induction fuel with
  | zero =>
    rintro listed a w hunl ⟨hs,hcl,p,β,fr',hp',G',b,h1,h2,h3,h4,h5,h6,h7,h8,h9,h10,h11,h12,h13⟩
    have hall:=q7d _ hunl
    refine ⟨z1g hall,hQ a w ⟨β,fr',hp',G',h3,h4,?_,h5,?_⟩⟩
    · have:a.tmps=b.tmps:=by
        apply Array.ext_getElem?
        intro x
        refine h9 x fun r hr o ho hl=>?_
        rw [hall r (List.getElem?_eq_some_iff.1 ho).1] at hl;cases hl
      rw [this];exact h6
    · have:p=(c1++c2).length:=by
        rcases Nat.lt_or_ge p (c1++c2).length with hlt |hge
        · have e:=List.getElem?_eq_getElem hlt
          have:=(h2 p _ e).1 (hall _ (hok.lt _ (List.mem_append_right _ (List.getElem_mem hlt))))
          omega
        · omega
      rw [this,← x25 lt1 lt2,List.drop_length] at h13
      exact h13
  | succ fuel ih =>
    rintro listed a w hunl ⟨hs,hcl,p,β,fr',hp',G',b,h1,h2,h3,h4,h5,h6,h7,h8,h9,h10,h11,h12,h13⟩
    refine ⟨fun he=>?_,fun i hi=>?_⟩
    · exfalso
      obtain ⟨i,g1,g2,g3⟩:=z3h _ (by rw [hunl];exact Nat.succ_ne_zero _)
      have ho:ops[i]? = some ops[i]:=List.getElem?_eq_getElem g1
      have:i∈Region.ready .any ops.toArray listed:=mem_ready.2 ⟨g2,ops[i],by simpa using ho,fun e he hb=>by
        have h4:=hok.edge i _ ho e he hb
        rw [← q6g (by omega)];exact g3 _ h4⟩
      rw [he] at this;cases this
    obtain ⟨g1,o,g2,g3⟩:=mem_ready.1 hi
    have hlt:i<ops.length:=by have:=(Array.getElem?_eq_some_iff.1 g2).1;simpa using this
    have ho:ops[i]? = some o:=by simpa using g2
    have hpl:=hok.plain i o ho
    have hdep:∀ j,depB o j=true→listed.getD j true=true:=fun j hj=>by
      obtain ⟨e,he,hb,heq⟩:=z0n hj
      have h5:=g3 e he hb
      have h6:=hok.edge i o ho e he hb
      rw [heq] at h5 h6
      rw [q6g (by omega)];exact h5
    have hwait:∀ j,q1e ops 12 i j=true→listed.getD j true=true:=fun j hj=>x7e hok (L:=fun j=>listed.getD j true=true) hcl ho hdep hj
    have hs':(listed.setIfInBounds i true).size=ops.length:=by simp [hs]
    have hmoreL:∀ j,listed.getD j true=true→(listed.setIfInBounds i true).getD j true=true:=fun j hj=>by
      by_cases e:i=j
      · subst e;rw [q1q (by omega)]
      · rw [q0m e];exact hj
    have h10':∀ x,(∀ j∈c1++c2,(listed.setIfInBounds i true).getD j true=true→∀ o,ops[j]? = some o→o.dst≠some x)→fr'[x]? = frR[x]?:=fun x hx=>h10 x fun j hj hl o ho=>hx j hj (hmoreL j hl) o ho
    have hu':unl (listed.setIfInBounds i true) ops.length=fuel:=by
      have:=z0o g1 ops.length
      rw [if_pos hlt] at this;omega
    have hcl':∀ (k:Nat) q,ops[k]? = some q→(listed.setIfInBounds i true).getD k true=true→∀ j,depB q j=true→(listed.setIfInBounds i true).getD j true=true:=fun k q hq hk j hj=>by
      have hset:∀ j,listed.getD j true=true→(listed.setIfInBounds i true).getD j true=true:=fun j hj=>by
        by_cases e:i=j
        · subst e;rw [q1q (by omega)]
        · rw [q0m e];exact hj
      by_cases e:i=k
      · subst e;rw [ho] at hq;cases hq;exact hset j (hdep j hj)
      · rw [q0m e] at hk;exact hset j (hcl k q hq hk j hj)
    have hwant:Region.wanted o (yielded ops.toArray a.tmps)=true:=by
      have:o.guard=none:=by simpa [q46] using (show o.guard.isNone=true by simp [q46] at hpl;simpa using hpl.1)
      simp [Region.wanted,this]
    have hlook:∀ t,(Operand.tmp t)∈o.op.operands.toList→t∈o.looksAt ops.toArray:=fun t ht=>List.mem_append_left _ (List.mem_filterMap.2 ⟨.tmp t,by simpa using ht,rfl⟩)
    unfold q8g
    rw [g2]
    simp only
    rw [if_pos hwant]
    refine .inl ?_
    rcases hok.part i hlt with hir |hic
    · -- a read
      obtain ⟨v,k1,k2,k3⟩:=hrd i hir o ho
      obtain ⟨pi,hpi⟩:=List.mem_iff_getElem?.1 hir
      have hslot:∀ t,(Operand.tmp t)∈o.op.operands.toList→a.tmps[t]? = b.tmps[t]?∧fr'[t]? = frR[t]?:=fun t ht=>by
        obtain ⟨q1,q2⟩:=hok.lookr pi i hpi o ho t (hlook t ht)
        refine ⟨h9 t fun r hr q hq hl hd=>?_,h10 t fun j hj hl q hq hdq=>by
          have hw:=q2c (L:=fun j=>listed.getD j true=true) hcl 12 j q hq (hcl j q hq hl) i (q1 j hj q hq hdq)
          exact absurd hw (by simp [g1])⟩
        obtain ⟨pr,hpr⟩:=List.mem_iff_getElem?.1 hr
        have:=hwait r (q2 pr r hpr q hq hd).2
        rw [this] at hl;cases hl
      have hreads:q13 o frR β a.eval:=by
        intro x hx
        have e1:ev frR x=ev fr' x:=z66 (fr:=fr') (fr':=frR) (o:=o) (fun t ht=>(hslot t ht).2.symm) x hx
        have e2:a.eval x=b.eval x:=by
          cases x with
          | tmp t=>simp only [Act.eval,Array.getD_eq_getD_getElem?];rw [(hslot t hx).1]
          | const v=>rfl
          | global g=>rfl
          | func f=>rfl
        rw [e1,e2];exact q2s h6 x
      have hreads':q13 o frR (β.cut hp.length) a.eval:=fun x hx=>by
        refine AV.rel_cut _ _ ?_ (hreads x hx)
        cases x with
        | tmp t =>
          simp only [ev,q5s]
          cases hv:frR[t]? with
          | none=>rfl
          | some v=>exact z2x hu hv
        | const v=>rfl
        | global g=>rfl
        | func f=>rfl
      have hval:∃ y,(execOp a.eval o).run P w=.ok (.value y) w∧v.rel β y:=by
        by_cases hm:q54 o=true
        · exact k3 hm β _ w hreads
        · have hp1:p≤c1.length:=by
            rcases Nat.lt_or_ge c1.length p with hgt |hle
            · exfalso
              have hlt2:c1.length<(c1++c2).length:=by omega
              have e:=List.getElem?_eq_getElem hlt2
              have hl:=(h2 _ _ e).2 hgt
              have hmem:(c1++c2)[c1.length]∈c2:=by
                rw [List.getElem_append_right (Nat.le_refl _)];exact List.getElem_mem _
              have hq:ops[(c1++c2)[c1.length]]? = some _:=List.getElem?_eq_getElem (lt2 _ hmem)
              rcases hok.late _ hmem i hir o ho with hmv |hw
              · exact hm hmv
              · have:=q2c (ops:=ops) (L:=fun j=>listed.getD j true=true) hcl 12 _ _ hq (fun j hj=>hcl _ _ hq hl j hj) i hw
                rw [this] at g1;cases g1
            · exact hle
          obtain ⟨q1,q2⟩:=h12 hp1
          have hw:=h4.weaken (n:=hp.length) rfl q1
          have hbr:BR w0.heap.size (β.cut hp.length) hp G w:=by
            have:=hw.br
            refine ⟨fun k y x hk hx=>?_,fun b o hb=>this.hold b o (q2 b o hb)⟩
            have h14:=this.blk k y x hk hx
            refine Blk.rel_of (Nm.le_refl _) h14 (fun c hc=>⟨rfl,fun h4=>?_⟩)
            exact Mem.le.none q2 h4
          obtain ⟨y,q3,q4⟩:=k2 _ _ _ _ hbr hreads'
          exact ⟨y,q3,AV.rel_mono (fun k y hk=>(Nm.cut_some hk).2) _ _ q4⟩
      obtain ⟨y,q1,q2⟩:=hval
      unfold Oper.wpW
      rw [q1]
      refine ih _ _ _ hu' ⟨hs',hcl',p,β,fr',hp',G',b.put o.dst y,h1,fun j k hj=>?_,h3,h4,by rw [q05];exact h5,?_,by rw [q05,q05];exact h7,?_,fun x hx=>?_,h10',h11,h12,h13⟩
      · have hne:i≠k:=fun e=>by
          subst e
          exact hnd.2.2 i hir i (List.mem_of_getElem? hj) rfl
        rw [q0m hne];exact h2 j k hj
      · cases hd:o.dst with
        | none=>simpa [Act.put] using h6
        | some d =>
          have hset:=AV.rels_set d h6 q2
          by_cases hdl:d<frR.length
          · have e:fr'.set d v=fr':=by
              apply List.ext_getElem?
              intro j
              by_cases hj:d=j
              · subst hj
                rw [List.getElem?_set_self (show d<fr'.length by rw [h11];exact hdl),h10 d (fun j hj _ q hq=>hok.apart i hir o ho d hd j hj q hq),k1 d hd hdl]
              · rw [List.getElem?_set_ne hj]
            rw [e] at hset
            simpa [Act.put,Array.toList_setIfInBounds] using hset
          · have:fr'.set d v=fr':=List.set_eq_of_length_le (by rw [h11];exact Nat.le_of_not_lt hdl)
            rw [this] at hset
            simpa [Act.put,Array.toList_setIfInBounds] using hset
      · cases o.dst <;> simp [Act.put,h8]
      · by_cases hd:o.dst=some x
        · rw [hd]
          simp only [Act.put,Array.getElem?_setIfInBounds,if_pos,h8]
        · have h14:a.tmps[x]? = b.tmps[x]?:=h9 x fun r hr q hq hl=>by
            by_cases e:i=r
            · subst e;rw [ho] at hq;cases hq;exact hd
            · exact hx r hr q hq (by rw [q0m e];exact hl)
          cases hdd:o.dst with
          | none=>exact h14
          | some d =>
            have hne:d≠x:=fun e=>hd (by rw [hdd,e])
            simp only [Act.put]
            rw [Array.getElem?_setIfInBounds_ne hne,Array.getElem?_setIfInBounds_ne hne];exact h14
    · -- one of the chain
      obtain ⟨j,hj⟩:=List.mem_iff_getElem?.1 hic
      have hjp:j=p:=by
        have hge:p≤j:=by
          rcases Nat.lt_or_ge j p with h14 |h14
          · rw [(h2 j i hj).2 h14] at g1;cases g1
          · exact h14
        rcases Nat.lt_or_ge p j with h14 |h14
        · exfalso
          have hpl:p<(c1++c2).length:=by have:=(List.getElem?_eq_some_iff.1 hj).1;omega
          have e:=List.getElem?_eq_getElem hpl
          have:=(h2 p _ e).1 (hwait _ (hok.chain j p i _ hj e h14))
          omega
        · omega
      subst hjp
      obtain ⟨o',ho',hget⟩:=x24 lt1 lt2 hj
      rw [ho] at ho';cases ho'
      have hjl:j<(chL ops c1 c2).length:=(List.getElem?_eq_some_iff.1 hget).1
      have hdrop:(chL ops c1 c2).drop j=(o,decide (j<c1.length))::(chL ops c1 c2).drop (j+1):=by
        rw [List.drop_eq_getElem_cons hjl]
        have:(chL ops c1 c2)[j]=(o,decide (j<c1.length)):=by rw [List.getElem?_eq_getElem hjl] at hget;injection hget
        rw [this]
      rw [hdrop,z2w] at h13
      refine z8c hpl (b:=b) (fun x hx=>?_) h8 (z5f hT h13 w0 G0 β b w _ _ h4 h6 ?_)
      · cases x with
        | tmp t =>
          simp only [Act.eval,Array.getD_eq_getD_getElem?]
          rw [h9 t fun r hr q hq hl hd=>?_]
          have:=hwait r (hok.look i hic o ho t (hlook t hx) r hr q hq hd)
          rw [this] at hl;cases hl
        | const v=>rfl
        | global g=>rfl
        | func f=>rfl
      · intro β' v y hp'' G'' w' q1 q2 q3 q4
        refine ⟨y,rfl,?_⟩
        have hkeep:(j+1≤c1.length→hpLe hp.length hp'' hp∧G.le G'')∧putF o.dst v fr' fun fr'=>cops P T hp G ((chL ops c1 c2).drop (j+1)) fr' hp'' G'' K:=by
          unfold z9g at q4
          by_cases hjc:j<c1.length
          · simp only [hjc,decide_true] at q4
            exact ⟨fun _=>⟨q4.le,q4.sub⟩,q4.go⟩
          · simp only [hjc,decide_false] at q4
            exact ⟨fun h=>absurd h (by omega),q4⟩
        obtain ⟨q5,q6⟩:=hkeep
        have q7:=z1n q6
        refine ih _ _ _ hu' ⟨hs',hcl',j+1,β',setD o.dst v fr',hp'',G'',b.put o.dst y,by have:=(List.getElem?_eq_some_iff.1 hj).1;omega,fun k l hk=>?_,Nm.le_trans h3 q1,q2,by rw [q05];exact h5,?_,by rw [q05,q05];exact h7,?_,fun x hx=>?_,fun x hx=>?_,?_,q5,q7⟩
        · by_cases e:i=l
          · subst e
            have:j=k:=q6r hnd.2.1 hj hk
            rw [q1q (by omega)];simp;omega
          · rw [q0m e,h2 k l hk]
            have:j≠k:=fun e2=>e (by subst e2;rw [hj] at hk;injection hk)
            omega
        · have hm:=AV.rels_mono q1 _ _ h6
          cases hd:o.dst with
          | none=>simpa [Act.put,setD] using hm
          | some d=>simpa [Act.put,setD,Array.toList_setIfInBounds] using AV.rels_set d hm q3
        · cases o.dst <;> simp [Act.put,h8]
        · have h14:a.tmps[x]? = b.tmps[x]?:=h9 x fun r hr q hq hl=>hx r hr q hq (by
            have:i≠r:=fun e=>by subst e;exact hnd.2.2 i hr i hic rfl
            rw [q0m this];exact hl)
          cases hdd:o.dst with
          | none=>exact h14
          | some d =>
            simp only [Act.put,Array.getElem?_setIfInBounds,h8,h14]
        · cases hdd:o.dst with
          | none=>exact h10' x hx
          | some d =>
            simp only [setD]
            rw [List.getElem?_set_ne (fun e=>hx i hic (by rw [q1q (by omega)]) o ho (by rw [hdd,e]))];exact h10' x hx
        · cases o.dst <;> simp [setD,h11]
end
theorem q0o {P:Program} {T:Tab} (hT:TOk P T) (hm:P.follows .mixedOrders=true) {ops:List Oper} (rs c1 c2:List Nat) (hB:x0l ops rs c1 c2=true) {fr:List AV} {hp:List Blk} {G:Mem} {K:List AV→List Blk→Mem→Prop}
    (h:rops P T (q3m ops rs) fr hp G fun frR=>q0w (AV.unders hp.length frR) (KeepP hp G hp G (cops P T hp G (chL ops c1 c2) frR hp G K))):DrawP P ops fr hp G K:=by
  refine ⟨hm,?_⟩
  intro w0 G0 ds β0 β a w Q hβ hr hf hd hQ
  have hok:=x5i hB
  have ltr:∀ i∈rs,i<ops.length:=fun i hi=>hok.lt i (by simp [hi])
  have hget:∀ (p:Nat) o,(q3m ops rs)[p]? = some o→∃ i,rs[p]? = some i∧ops[i]? = some o:=fun p o hp=>by
    rw [q5n ltr] at hp
    obtain ⟨i,h1,h2⟩:=Option.bind_eq_some_iff.1 hp
    exact ⟨i,h1,h2⟩
  obtain ⟨frR,h1,h2,h3,h4,h5⟩:=z67 hT (q3m ops rs) fr _ (fun p p' o q ho hq hle t ht hdst=>by
    obtain ⟨i,hi,hoi⟩:=hget p o ho
    obtain ⟨j,hj,hqj⟩:=hget p' q hq
    have:=((hok.lookr p i hi o hoi t (List.mem_append_left _ (List.mem_filterMap.2 ⟨.tmp t,by simpa using ht,rfl⟩))).2 p' j hj q hqj hdst).1
    omega) hok.dsts h
  obtain ⟨hu,h6⟩:=q0t h1
  have hrd:∀ r∈rs,∀ o,ops[r]? = some o→RdOk P o frR hp G:=fun r hr o ho=>by
    obtain ⟨p,hp⟩:=List.mem_iff_getElem?.1 hr
    refine h4 o (List.mem_of_getElem? (i:=p) ?_)
    rw [q5n ltr,hp];exact ho
  obtain ⟨b,k1,k2,k3,k4⟩:=h5 _ β a w hr.br hf
  have hrep:∀ i,i<ops.length→(Array.replicate ops.length false).getD i true=false:=fun i hi=>by simp [Array.getD,hi]
  have hunl:∀ n,n≤ops.length→unl (Array.replicate ops.length false) n=n:=by
    intro n
    induction n with
    | zero=>intro _;rfl
    | succ n ih=>intro hn;simp only [unl,ih (by omega),hrep n (by omega),if_true]
  refine x5j hT hok hQ hrd hu _ _ _ _ (by simpa using hunl ops.length (Nat.le_refl _)) ⟨by simp,fun i o ho hl=>?_,0,β,frR,hp,G,b,Nat.zero_le _,fun j i hj=>?_,hβ,hr.drew,hd,k1,k2,k3,fun x hx=>(k4 x fun o ho hdst=>?_).symm,fun _ _=>rfl,rfl,fun _=>⟨h6.le,h6.sub⟩,h6.go⟩
  · have:=hrep i (List.getElem?_eq_some_iff.1 ho).1
    simp only [List.size_toArray] at hl
    rw [this] at hl;cases hl
  · have:=hrep i (hok.lt i (List.mem_append_right _ (List.mem_of_getElem? hj)))
    simp only [List.size_toArray]
    rw [this];simp
  · obtain ⟨p,hp⟩:=List.mem_iff_getElem?.1 ho
    obtain ⟨r,hr1,hr2⟩:=hget p o hp
    exact hx r (List.mem_of_getElem? hr1) o hr2 (by simp only [List.size_toArray];exact hrep r (List.getElem?_eq_some_iff.1 hr2).1) hdst
end Go.Proofs.YtegpkpilfgohhaaGreat
