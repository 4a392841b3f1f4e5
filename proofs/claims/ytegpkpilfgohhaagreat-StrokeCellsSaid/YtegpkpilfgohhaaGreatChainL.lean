/-
  The engine: a region that draws its order, whose operations other than reads form a chain, but for results that are taken out of a tuple (they may be taken at any time behind the call, ahead of what looks at them). No program in sight.
-/
import Derived.Test.YtegpkpilfgohhaaGreatChain
set_option linter.unusedVariables false
set_option linter.unusedSimpArgs false
set_option linter.unnecessarySimpa false
namespace Go.Proofs.YtegpkpilfgohhaaGreat
open Go.RowKit
theorem x9p {P:Program} {o:Oper} {x:Operand} {n:Nat} {ρ:Operand→Value} {y:Value} {w:World} (ho:o.op=.extract x n) (h:(execOp ρ o).run P w=.ok (.value y) w) (w':World):(execOp ρ o).run P w'=.ok (.value y) w':=by
  simp only [execOp,ho,Instr.extract] at h ⊢
  revert h
  cases ρ x <;> simp
  rename_i vs
  cases vs[n]? <;> simp
def x6m (ops:List Oper) (rs c:List Nat) (l:Nat):Bool:=match ops[l]? with
  | some o=>match o.op,o.dst with
    | .extract (.tmp x) _,some d=>!Nat.beq d x&&(rs.all fun r=>!dstB ops r x)&&(c.all fun j=>Nat.beq j l||!dstB ops j d)&&(c.zipIdx.all fun (j,q)=>c.zipIdx.all fun (l',p)=>!Nat.beq l' l||!Nat.blt p q||!dstB ops j x)
    | _,_=>false
  | none=>false
def z7i (ops:List Oper) (rs c1 c2 ls:List Nat):Bool :=
  (ops.zipIdx.all fun (o,i)=>q46 o&&(o.after.toList.all fun e=>!Region.binds .any e||Nat.blt e.on i)&&(rs.contains i||(c1++c2).contains i)) &&
  ((rs++(c1++c2)).all fun i=>Nat.blt i ops.length) &&
  decide (rs++(c1++c2)).Nodup &&
  ((c1++c2).zipIdx.all fun (i,p)=>(c1++c2).zipIdx.all fun (j,q)=>!Nat.blt q p||(q12 j ls||q1e ops 12 i j)) &&
  (c2.all fun i=>rs.all fun r=>((ops[r]?).map q54).getD false||q1e ops 12 i r) &&
  ((c1++c2).all fun i=>(q7q ops i).all fun x=>(rs++ls).all fun r=>!dstB ops r x||q1e ops 12 i r) &&
  (rs.zipIdx.all fun (i,p)=>(q7q ops i).all fun x=>((c1++c2).all fun j=>!dstB ops j x)&&rs.zipIdx.all fun (j,q)=>!dstB ops j x||(Nat.blt q p&&q1e ops 12 i j)) &&
  (rs.all fun r=>(c1++c2).all fun j=>match (ops[r]?).bind (·.dst) with
    | some x=>!dstB ops j x
    | none=>true) &&
  decide ((q3m ops rs).filterMap (·.dst)).Nodup &&
  (ls.all fun l=>q12 l c2&&x6m ops rs (c1++c2) l)&&(match c2 with
    | i::_=>!q12 i ls
    | []=>true)
structure ChainLOk (ops:List Oper) (rs c1 c2 ls:List Nat):Prop where
  plain:∀ (i:Nat) o,ops[i]? = some o→q46 o=true
  edge:∀ (i:Nat) o,ops[i]? = some o→∀ e∈o.after,Region.binds .any e=true→e.on<i
  part:∀ i,i<ops.length→i∈rs∨i∈c1++c2
  lt:∀ i∈rs++(c1++c2),i<ops.length
  nodup:(rs++(c1++c2)).Nodup
  chain:∀ (p q i j:Nat),(c1++c2)[p]? = some i→(c1++c2)[q]? = some j→q<p→j∉ls→q1e ops 12 i j=true
  late:∀ i∈c2,∀ r∈rs,∀ o,ops[r]? = some o→q54 o=true∨q1e ops 12 i r=true
  look:∀ i∈c1++c2,∀ o,ops[i]? = some o→∀ x∈o.looksAt ops.toArray,∀ r,r∈rs∨r∈ls→∀ q,ops[r]? = some q→q.dst=some x→q1e ops 12 i r=true
  lookr:∀ (p i:Nat),rs[p]? = some i→∀ o,ops[i]? = some o→∀ x∈o.looksAt ops.toArray,(∀ j∈c1++c2,∀ q,ops[j]? = some q→q.dst≠some x)∧∀ (p' j:Nat),rs[p']? = some j→∀ q,ops[j]? = some q→q.dst=some x→p'<p∧q1e ops 12 i j=true
  apart:∀ r∈rs,∀ q,ops[r]? = some q→∀ x,q.dst=some x→∀ j∈c1++c2,∀ o,ops[j]? = some o→o.dst≠some x
  dsts:((q3m ops rs).filterMap (·.dst)).Nodup
  lates:∀ l∈ls,l∈c2∧∀ o,ops[l]? = some o→∃ x n d,o.op=.extract (.tmp x) n∧o.dst=some d∧d≠x∧(∀ r∈rs,∀ q,ops[r]? = some q→q.dst≠some x)∧(∀ j∈c1++c2,j≠l→∀ q,ops[j]? = some q→q.dst≠some d)∧∀ (p q j:Nat),(c1++c2)[p]? = some l→(c1++c2)[q]? = some j→p<q→∀ u,ops[j]? = some u→u.dst≠some x
  first:∀ i,c2[0]? = some i→i∉ls
theorem x4i {ops:List Oper} {rs c1 c2 ls:List Nat} (h:z7i ops rs c1 c2 ls=true):ChainLOk ops rs c1 c2 ls:=by
  simp only [z7i,Bool.and_eq_true] at h
  obtain ⟨⟨⟨⟨⟨⟨⟨⟨⟨⟨h1,h2⟩,h3⟩,h4⟩,h5⟩,h6⟩,h7⟩,h8⟩,h9⟩,hl⟩,hf⟩:=h
  have ofMem:∀ {l:List Nat} {p:Nat→Bool},l.all p=true→∀ i∈l,p i=true:=fun h i hi=>by
    rw [List.all_eq_true] at h;exact h i hi
  have h2:∀ i∈rs++(c1++c2),i<ops.length:=fun i hi=>q1w (ofMem h2 i hi)
  refine ⟨fun i o ho=>?_,fun i o ho e he hb=>?_,fun i hi=>?_,h2,of_decide_eq_true h3,fun p q i j hp hq hlt hjl=>?_,fun i hi r hr o ho=>?_,fun i hi o ho x hx r hr q hq hd=>?_,fun p i hp o ho x hx=>⟨fun j hj q hq hd=>?_,fun p' j hp' q hq hd=>?_⟩,fun r hr q hq x hx j hj o ho hd=>?_,of_decide_eq_true h9,fun l hll=>?_,fun i hi hil=>?_⟩
  · have:=q1g h1 ho
    simp only [Bool.and_eq_true] at this;exact this.1.1
  · have:=q1g h1 ho
    simp only [Bool.and_eq_true] at this
    have h10:=this.1.2
    rw [List.all_eq_true] at h10
    have h11:=h10 e (by simpa using he)
    simp only [hb,Bool.not_true,Bool.false_or] at h11
    exact q1w h11
  · have:=q1g h1 (List.getElem?_eq_getElem hi)
    simp only [Bool.and_eq_true,Bool.or_eq_true] at this
    have h10:=this.2
    rcases h10 with h10 |h10
    · exact .inl (by simpa using h10)
    · exact .inr (by simpa using h10)
  · have h10:=q1g h4 hp
    have h11:=q1g h10 hq
    simp only [Bool.or_eq_true,Bool.not_eq_true'] at h11
    rcases h11 with h11 |h11 |h11
    · rw [show Nat.blt q p=true by simpa [Nat.blt_eq] using hlt] at h11;cases h11
    · exact absurd ((q2j _ _).1 h11) hjl
    · exact h11
  · have h10:=ofMem (ofMem h5 i hi) r hr
    simp only [ho,Option.map_some,Option.getD_some,Bool.or_eq_true] at h10
    exact h10
  · have h10:=ofMem h6 i hi
    simp only [q7q,ho] at h10
    have h11:=ofMem (ofMem h10 x hx) r (by simpa using hr)
    simpa [dstB,hq,hd] using h11
  · have h10:=q1g h7 hp
    simp only [q7q,ho] at h10
    have h11:=ofMem h10 x hx
    simp only [Bool.and_eq_true] at h11
    have h12:=ofMem h11.1 j hj
    simp [dstB,hq,hd] at h12
  · have h10:=q1g h7 hp
    simp only [q7q,ho] at h10
    have h11:=ofMem h10 x hx
    simp only [Bool.and_eq_true] at h11
    have h12:=q1g h11.2 hp'
    simp only [dstB,hq,hd,beq_self_eq_true,Bool.not_true,Bool.false_or,Bool.and_eq_true] at h12
    exact ⟨q1w h12.1,h12.2⟩
  · have h10:=ofMem (ofMem h8 r hr) j hj
    simp [hq,hx,dstB,ho,hd] at h10
  · have h10:=ofMem hl l hll
    simp only [Bool.and_eq_true] at h10
    refine ⟨(q2j _ _).1 h10.1,fun o ho=>?_⟩
    have h11:=h10.2
    unfold x6m at h11
    rw [ho] at h11
    dsimp only at h11
    split at h11
    · rename_i x n d hop hd
      simp only [Bool.and_eq_true,Bool.not_eq_true'] at h11
      obtain ⟨⟨⟨k1,k0⟩,k2⟩,k3⟩:=h11
      refine ⟨x,n,d,hop,hd,fun e=>?_,fun r hr q hq hqd=>?_,fun j hj hne q hq hqd=>?_,fun p q j hp hq hlt u hu hud=>?_⟩
      · subst e;simp at k1
      · have k4:=ofMem k0 r hr
        simp [dstB,hq,hqd] at k4
      · have k4:=ofMem k2 j hj
        simp only [Bool.or_eq_true,Bool.not_eq_true'] at k4
        rcases k4 with k4 |k4
        · exact hne (Nat.eq_of_beq_eq_true k4)
        · simp [dstB,hq,hqd] at k4
      · have k4:=q1g (q1g k3 hq) hp
        simp only [Bool.or_eq_true,Bool.not_eq_true'] at k4
        rcases k4 with (k4 |k4) |k4
        · simp at k4
        · rw [show Nat.blt p q=true by simpa [Nat.blt_eq] using hlt] at k4;cases k4
        · simp [dstB,hu,hud] at k4
    · cases h11
  · cases c2 with
    | nil=>simp at hi
    | cons k t =>
      simp at hi;subst hi
      simp only [Bool.not_eq_true'] at hf
      rw [(q2j _ _).2 hil] at hf;cases hf
section
variable {P:Program} {T:Tab} {ops:List Oper} {rs c1 c2 ls:List Nat} {w0:World} {G0:Mem} {β0:Nm} {ds:List Deferred} {Q:Exit→Act→World→Prop} {K:List AV→List Blk→Mem→Prop}
structure LInv (P:Program) (T:Tab) (ops:List Oper) (rs c1 c2 ls:List Nat) (w0:World) (G0:Mem) (β0:Nm) (ds:List Deferred) (hp:List Blk) (G:Mem) (frR:List AV) (K:List AV→List Blk→Mem→Prop) (listed:Array Bool) (a:Act) (w:World) (p:Nat) (β:Nm) (fr':List AV) (hp':List Blk) (G':Mem) (b:Act):Prop where
  pl:p≤(c1++c2).length
  ch:∀ j i,(c1++c2)[j]? = some i→i∉ls→(listed.getD i true=true↔j<p)
  lt:∀ j i,(c1++c2)[j]? = some i→i∈ls→listed.getD i true=true→j<p
  le:β0.le β
  hr:HR w0 G0 β hp' G' w
  ad:a.defers=ds
  rel:AV.rels β fr' b.tmps.toList
  bd:b.defers=a.defers
  bs:b.tmps.size=a.tmps.size
  same:∀ x,(∀ r,r∈rs∨r∈ls→∀ o,ops[r]? = some o→listed.getD r true=false→o.dst≠some x)→a.tmps[x]? = b.tmps[x]?
  fix:∀ x,(∀ i∈c1++c2,∀ o,ops[i]? = some o→o.dst≠some x)→fr'[x]? = frR[x]?
  len:fr'.length=frR.length
  keep:p≤c1.length→hpLe hp.length hp' hp∧G.le G'
  go:cops P T hp G ((chL ops c1 c2).drop p) fr' hp' G' K
  late:∀ j l,(c1++c2)[j]? = some l→l∈ls→j<p→listed.getD l true=false→∀ o,ops[l]? = some o→∃ d y,o.dst=some d∧(d<b.tmps.size→b.tmps[d]? = some y)∧∀ w',(execOp b.eval o).run P w'=.ok (.value y) w'
theorem q9j {o:Oper} {x n:Nat} (ho:o.op=.extract (.tmp x) n) {a b:Act} (h:a.tmps[x]? = b.tmps[x]?):execOp a.eval o=execOp b.eval o:=by
  refine execOp_congr o (fun cs d e=>by rw [ho] at e;cases e) (fun z hz=>?_)
  rw [ho] at hz
  simp only [Op.operands] at hz
  have:z=.tmp x:=by simpa using hz
  subst this
  simp only [Act.eval,Array.getD_eq_getD_getElem?];rw [h]
theorem q5r {b:Act} {d x:Nat} {y:Value} (h:d≠x):(b.put (some d) y).tmps[x]? = b.tmps[x]?:=by
  simp only [Act.put];rw [Array.getElem?_setIfInBounds_ne h]
theorem x1n (hok:ChainLOk ops rs c1 c2 ls) {j i:Nat} (hj:(c1++c2)[j]? = some i) {o:Oper} (ho:ops[i]? = some o):(chL ops c1 c2).drop j=(o,decide (j<c1.length))::(chL ops c1 c2).drop (j+1):=by
  have lt1:∀ i∈c1,i<ops.length:=fun i hi=>hok.lt i (by simp [hi])
  have lt2:∀ i∈c2,i<ops.length:=fun i hi=>hok.lt i (by simp [hi])
  obtain ⟨o',ho',hget⟩:=x24 lt1 lt2 hj
  rw [ho] at ho';cases ho'
  have hjl:j<(chL ops c1 c2).length:=(List.getElem?_eq_some_iff.1 hget).1
  rw [List.drop_eq_getElem_cons hjl]
  have:(chL ops c1 c2)[j]=(o,decide (j<c1.length)):=by rw [List.getElem?_eq_getElem hjl] at hget;injection hget
  rw [this]
theorem LInv.step (hok:ChainLOk ops rs c1 c2 ls) {hp:List Blk} {G:Mem} {frR:List AV} {listed:Array Bool} {a:Act} {w:World} {p:Nat} {β:Nm} {fr':List AV} {hp':List Blk} {G':Mem} {b:Act}
    (h:LInv P T ops rs c1 c2 ls w0 G0 β0 ds hp G frR K listed a w p β fr' hp' G' b) {l:Nat} (hl:(c1++c2)[p]? = some l) (hll:l∈ls):∃ fr2 b2,LInv P T ops rs c1 c2 ls w0 G0 β0 ds hp G frR K listed a w (p+1) β fr2 hp' G' b2:=by
  have hlc:=List.mem_of_getElem? hl
  have hpl:=(List.getElem?_eq_some_iff.1 hl).1
  have hlo:l<ops.length:=hok.lt l (by simp only [List.mem_append] at hlc ⊢;exact .inr hlc)
  have ho:ops[l]? = some ops[l]:=List.getElem?_eq_getElem hlo
  generalize ops[l]=o at ho
  have hnd:=(List.nodup_append.1 hok.nodup).2.1
  obtain ⟨hl2,hl3⟩:=hok.lates l hll
  obtain ⟨x,n,d,hop,hd,hdx,hrx,hdo,hxo⟩:=hl3 o ho
  have hp1:¬ p<c1.length:=fun hlt=>by
    rw [List.getElem?_append_left hlt] at hl
    obtain ⟨k,hk⟩:=List.mem_iff_getElem?.1 hl2
    have e:(c1++c2)[c1.length+k]? = some l:=by rw [List.getElem?_append_right (by omega)];simpa using hk
    have e2:(c1++c2)[p]? = some l:=by rw [List.getElem?_append_left hlt];exact hl
    have:=q6r hnd e e2
    omega
  have hg:=h.go
  rw [x1n hok hl ho,z2w] at hg
  dsimp only at hg
  rw [decide_eq_false hp1] at hg
  have hv:q88 (.tmp x) n fr' fun v=>putF o.dst v fr' fun fr2=>cops P T hp G ((chL ops c1 c2).drop (p+1)) fr2 hp' G' K:=by
    unfold vop vopF at hg
    rw [hop] at hg
    exact hg
  obtain ⟨v,k1,k2⟩:=q7m (P:=P) hop hv (hp:=hp') (G:=G')
  obtain ⟨y,k3,k4⟩:=k2 _ β b.eval w h.hr.br (q85 h.rel)
  have k5:=z1n k1
  have hune:listed.getD l true=false:=by
    cases e:listed.getD l true with
    | false=>rfl
    | true=>have:=h.lt p l hl hll e;omega
  refine ⟨setD o.dst v fr',b.put o.dst y,hpl,fun j i hj hi=>?_,fun j i hj hi hs=>?_,h.le,h.hr,h.ad,?_,by rw [q05];exact h.bd,by rw [hd];simp [Act.put,h.bs],fun z hz=>?_,fun z hz=>?_,?_,fun hp2=>absurd hp2 (by omega),k5,fun j l' hj hl' hlt hun o' ho'=>?_⟩
  · rw [h.ch j i hj hi]
    have:j≠p:=fun e=>by subst e;rw [hl] at hj;cases hj;exact hi hll
    omega
  · have:=h.lt j i hj hi hs;omega
  · rw [hd]
    simpa [Act.put,setD,Array.toList_setIfInBounds] using AV.rels_set d h.rel k4
  · rw [hd,q5r (fun e=>hz l (.inr hll) o ho hune (by rw [hd,e]))]
    exact h.same z hz
  · rw [hd]
    simp only [setD]
    rw [List.getElem?_set_ne (fun e=>hz l hlc o ho (by rw [hd,e]))];exact h.fix z hz
  · rw [hd];simp [setD,h.len]
  · by_cases e:j=p
    · subst e
      rw [hl] at hj;cases hj
      rw [ho] at ho';cases ho'
      refine ⟨d,y,hd,fun hlt2=>?_,fun w'=>?_⟩
      · rw [hd] at hlt2 ⊢
        simp only [Act.put,Array.size_setIfInBounds] at hlt2 ⊢
        simp [Array.getElem?_setIfInBounds_self_of_lt,hlt2]
      · rw [q9j hop (b:=b) (by rw [hd];exact q5r hdx)]
        exact x9p hop k3 w'
    · have hjp:j<p:=by omega
      obtain ⟨d',y',q1,q2,q3⟩:=h.late j l' hj hl' hjp hun o' ho'
      obtain ⟨_,hl3'⟩:=hok.lates l' hl'
      obtain ⟨x',n',d'',hop',hd',_,_,hdo',hxo'⟩:=hl3' o' ho'
      rw [q1] at hd';cases hd'
      have hne:l≠l':=fun e2=>by subst e2;exact e (q6r hnd hj hl)
      refine ⟨d',y',q1,fun hlt2=>?_,fun w'=>?_⟩
      · rw [hd] at hlt2 ⊢
        rw [q5r (fun e2=>hdo' l hlc hne o ho (by rw [hd,e2]))]
        exact q2 (by simpa [Act.put] using hlt2)
      · rw [q9j hop' (b:=b) (by rw [hd];exact q5r (fun e2=>hxo' j p l hj hl hjp o ho (by rw [hd,e2])))]
        exact q3 w'
theorem LInv.all (hok:ChainLOk ops rs c1 c2 ls) {hp:List Blk} {G:Mem} {frR:List AV} {listed:Array Bool} {a:Act} {w:World} {β:Nm} {hp':List Blk} {G':Mem} :
    ∀ (m p:Nat) (fr':List AV) (b:Act),(c1++c2).length-p=m→LInv P T ops rs c1 c2 ls w0 G0 β0 ds hp G frR K listed a w p β fr' hp' G' b→∃ p' fr2 b2,LInv P T ops rs c1 c2 ls w0 G0 β0 ds hp G frR K listed a w p' β fr2 hp' G' b2∧∀ i,(c1++c2)[p']? = some i→i∉ls:=by
  intro m
  induction m with
  | zero =>
    intro p fr' b hm h
    exact ⟨p,fr',b,h,fun i hi=>by have:=(List.getElem?_eq_some_iff.1 hi).1;omega⟩
  | succ m ih =>
    intro p fr' b hm h
    by_cases hc:∃ i,(c1++c2)[p]? = some i∧i∈ls
    · obtain ⟨i,h1,h2⟩:=hc
      obtain ⟨fr2,b2,h3⟩:=h.step hok h1 h2
      exact ih (p+1) fr2 b2 (by omega) h3
    · exact ⟨p,fr',b,h,fun i hi h2=>hc ⟨i,hi,h2⟩⟩
structure CInvL (P:Program) (T:Tab) (ops:List Oper) (rs c1 c2 ls:List Nat) (w0:World) (G0:Mem) (β0:Nm) (ds:List Deferred) (hp:List Blk) (G:Mem) (frR:List AV) (K:List AV→List Blk→Mem→Prop) (listed:Array Bool) (a:Act) (w:World):Prop where
  size:listed.size=ops.length
  closed:∀ (i:Nat) o,ops[i]? = some o→listed.getD i true=true→∀ j,depB o j=true→listed.getD j true=true
  state:∃ (p:Nat) (β:Nm) (fr':List AV) (hp':List Blk) (G':Mem) (b:Act),LInv P T ops rs c1 c2 ls w0 G0 β0 ds hp G frR K listed a w p β fr' hp' G' b∧∀ i,(c1++c2)[p]? = some i→i∉ls
theorem x6n {L:Nat→Prop} (hcl:∀ (i:Nat) o,ops[i]? = some o→L i→∀ j,depB o j=true→L j) {i j:Nat} {o:Oper} (ho:ops[i]? = some o) (hd:∀ j,depB o j=true→L j) (h:q1e ops 12 i j=true):L j:=q2c hcl 12 i o ho hd j h
theorem x4j (hT:TOk P T) (hok:ChainLOk ops rs c1 c2 ls) {hp:List Blk} {G:Mem} {frR:List AV} (hQ:∀ a' w',Sat w0 G0 β0 ds K a' w'→Q .normal a' w')
    (hrd:∀ r∈rs,∀ o,ops[r]? = some o→RdOk P o frR hp G) (hu:AV.unders hp.length frR=true) :
    ∀ (fuel:Nat) (listed:Array Bool) (a:Act) (w:World),unl listed ops.length=fuel→CInvL P T ops rs c1 c2 ls w0 G0 β0 ds hp G frR K listed a w→q5b P ops.toArray Q fuel listed a w:=by
  have lt1:∀ i∈c1,i<ops.length:=fun i hi=>hok.lt i (by simp [hi])
  have lt2:∀ i∈c2,i<ops.length:=fun i hi=>hok.lt i (by simp [hi])
  have hnd:=List.nodup_append.1 hok.nodup
  intro fuel
  induction fuel with
  | zero =>
    rintro listed a w hunl ⟨hs,hcl,p,β,fr',hp',G',b,h,hnl⟩
    have hall:=q7d _ hunl
    refine ⟨z1g hall,hQ a w ⟨β,fr',hp',G',h.le,h.hr,?_,h.ad,?_⟩⟩
    · have:a.tmps=b.tmps:=by
        apply Array.ext_getElem?
        intro x
        refine h.same x fun r hr o ho hl=>?_
        rw [hall r (List.getElem?_eq_some_iff.1 ho).1] at hl;cases hl
      rw [this];exact h.rel
    · have:p=(c1++c2).length:=by
        rcases Nat.lt_or_ge p (c1++c2).length with hlt |hge
        · have e:=List.getElem?_eq_getElem hlt
          have:=(h.ch p _ e (hnl _ e)).1 (hall _ (hok.lt _ (List.mem_append_right _ (List.getElem_mem hlt))))
          omega
        · have:=h.pl;omega
      have h13:=h.go
      rw [this,← x25 lt1 lt2,List.drop_length] at h13
      exact h13
  | succ fuel ih =>
    rintro listed a w hunl ⟨hs,hcl,p,β,fr',hp',G',b,h,hnl⟩
    obtain ⟨h1,h2,h2l,h3,h4,h5,h6,h7,h8,h9,h10,h11,h12,h13,hla⟩:=h
    refine ⟨fun he=>?_,fun i hi=>?_⟩
    · exfalso
      obtain ⟨i,g1,g2,g3⟩:=z3h _ (by rw [hunl];exact Nat.succ_ne_zero _)
      have ho:ops[i]? = some ops[i]:=List.getElem?_eq_getElem g1
      have:i∈Region.ready .any ops.toArray listed:=mem_ready.2 ⟨g2,ops[i],by simpa using ho,fun e he hb=>by
        have h4:=hok.edge i _ ho e he hb
        rw [← q6g (by omega)];exact g3 _ h4⟩
      rw [he] at this;cases this
    obtain ⟨g1,o,g2,g3⟩:=mem_ready.1 hi
    have hlt:i<ops.length:=by have:=(Array.getElem?_eq_some_iff.1 g2).1;simpa using this
    have ho:ops[i]? = some o:=by simpa using g2
    have hpl:=hok.plain i o ho
    have hdep:∀ j,depB o j=true→listed.getD j true=true:=fun j hj=>by
      obtain ⟨e,he,hb,heq⟩:=z0n hj
      have h5:=g3 e he hb
      have h6:=hok.edge i o ho e he hb
      rw [heq] at h5 h6
      rw [q6g (by omega)];exact h5
    have hwait:∀ j,q1e ops 12 i j=true→listed.getD j true=true:=fun j hj=>x6n (L:=fun j=>listed.getD j true=true) hcl ho hdep hj
    have hs':(listed.setIfInBounds i true).size=ops.length:=by simp [hs]
    have hu':unl (listed.setIfInBounds i true) ops.length=fuel:=by
      have:=z0o g1 ops.length
      rw [if_pos hlt] at this;omega
    have hcl':∀ (k:Nat) q,ops[k]? = some q→(listed.setIfInBounds i true).getD k true=true→∀ j,depB q j=true→(listed.setIfInBounds i true).getD j true=true:=fun k q hq hk j hj=>by
      have hset:∀ j,listed.getD j true=true→(listed.setIfInBounds i true).getD j true=true:=fun j hj=>by
        by_cases e:i=j
        · subst e;rw [q1q (by omega)]
        · rw [q0m e];exact hj
      by_cases e:i=k
      · subst e;rw [ho] at hq;cases hq;exact hset j (hdep j hj)
      · rw [q0m e] at hk;exact hset j (hcl k q hq hk j hj)
    have hwant:Region.wanted o (yielded ops.toArray a.tmps)=true:=by
      have:o.guard=none:=by simpa [q46] using (show o.guard.isNone=true by simp [q46] at hpl;simpa using hpl.1)
      simp [Region.wanted,this]
    have hlook:∀ t,(Operand.tmp t)∈o.op.operands.toList→t∈o.looksAt ops.toArray:=fun t ht=>List.mem_append_left _ (List.mem_filterMap.2 ⟨.tmp t,by simpa using ht,rfl⟩)
    unfold q8g
    rw [g2]
    simp only
    rw [if_pos hwant]
    refine .inl ?_
    rcases hok.part i hlt with hir |hic
    · -- a read
      obtain ⟨v,k1,k2,k3⟩:=hrd i hir o ho
      obtain ⟨pi,hpi⟩:=List.mem_iff_getElem?.1 hir
      have hslot:∀ t,(Operand.tmp t)∈o.op.operands.toList→a.tmps[t]? = b.tmps[t]?∧fr'[t]? = frR[t]?:=fun t ht=>by
        obtain ⟨q1,q2⟩:=hok.lookr pi i hpi o ho t (hlook t ht)
        refine ⟨h9 t fun r hr q hq hl hd=>?_,h10 t fun j hj q hq=>q1 j hj q hq⟩
        rcases hr with hr |hr
        · obtain ⟨pr,hpr⟩:=List.mem_iff_getElem?.1 hr
          have:=hwait r (q2 pr r hpr q hq hd).2
          rw [this] at hl;cases hl
        · exact q1 r (List.mem_append_right _ (hok.lates r hr).1) q hq hd
      have hreads:q13 o frR β a.eval:=by
        intro x hx
        have e1:ev frR x=ev fr' x:=z66 (fr:=fr') (fr':=frR) (o:=o) (fun t ht=>(hslot t ht).2.symm) x hx
        have e2:a.eval x=b.eval x:=by
          cases x with
          | tmp t=>simp only [Act.eval,Array.getD_eq_getD_getElem?];rw [(hslot t hx).1]
          | const v=>rfl
          | global g=>rfl
          | func f=>rfl
        rw [e1,e2];exact q2s h6 x
      have hreads':q13 o frR (β.cut hp.length) a.eval:=fun x hx=>by
        refine AV.rel_cut _ _ ?_ (hreads x hx)
        cases x with
        | tmp t =>
          simp only [ev,q5s]
          cases hv:frR[t]? with
          | none=>rfl
          | some v=>exact z2x hu hv
        | const v=>rfl
        | global g=>rfl
        | func f=>rfl
      have hval:∃ y,(execOp a.eval o).run P w=.ok (.value y) w∧v.rel β y:=by
        by_cases hm:q54 o=true
        · exact k3 hm β _ w hreads
        · have hp1:p≤c1.length:=by
            rcases Nat.lt_or_ge c1.length p with hgt |hle
            · exfalso
              have hlt2:c1.length<(c1++c2).length:=by omega
              have e:=List.getElem?_eq_getElem hlt2
              have hl:=(h2 _ _ e (hok.first _ (by rw [← e,List.getElem?_append_right (Nat.le_refl _),Nat.sub_self]))).2 hgt
              have hmem:(c1++c2)[c1.length]∈c2:=by
                rw [List.getElem_append_right (Nat.le_refl _)];exact List.getElem_mem _
              have hq:ops[(c1++c2)[c1.length]]? = some _:=List.getElem?_eq_getElem (lt2 _ hmem)
              rcases hok.late _ hmem i hir o ho with hmv |hw
              · exact hm hmv
              · have:=q2c (ops:=ops) (L:=fun j=>listed.getD j true=true) hcl 12 _ _ hq (fun j hj=>hcl _ _ hq hl j hj) i hw
                rw [this] at g1;cases g1
            · exact hle
          obtain ⟨q1,q2⟩:=h12 hp1
          have hw:=h4.weaken (n:=hp.length) rfl q1
          have hbr:BR w0.heap.size (β.cut hp.length) hp G w:=by
            have:=hw.br
            refine ⟨fun k y x hk hx=>?_,fun b o hb=>this.hold b o (q2 b o hb)⟩
            have h14:=this.blk k y x hk hx
            refine Blk.rel_of (Nm.le_refl _) h14 (fun c hc=>⟨rfl,fun h4=>?_⟩)
            exact Mem.le.none q2 h4
          obtain ⟨y,q3,q4⟩:=k2 _ _ _ _ hbr hreads'
          exact ⟨y,q3,AV.rel_mono (fun k y hk=>(Nm.cut_some hk).2) _ _ q4⟩
      obtain ⟨y,q1,q2⟩:=hval
      unfold Oper.wpW
      rw [q1]
      refine ih _ _ _ hu' ⟨hs',hcl',p,β,fr',hp',G',b.put o.dst y,⟨h1,fun j k hj hk=>?_,fun j k hj hk hkl=>?_,h3,h4,by rw [q05];exact h5,?_,by rw [q05,q05];exact h7,?_,fun x hx=>?_,h10,h11,h12,h13,fun j l hj hl hlt hun o' ho'=>?_⟩,hnl⟩
      · have hne:i≠k:=fun e=>by
          subst e
          exact hnd.2.2 i hir i (List.mem_of_getElem? hj) rfl
        rw [q0m hne];exact h2 j k hj hk
      · have hne:i≠k:=fun e=>by
          subst e
          exact hnd.2.2 i hir i (List.mem_of_getElem? hj) rfl
        rw [q0m hne] at hkl;exact h2l j k hj hk hkl
      · cases hd:o.dst with
        | none=>simpa [Act.put] using h6
        | some d =>
          have hset:=AV.rels_set d h6 q2
          by_cases hdl:d<frR.length
          · have e:fr'.set d v=fr':=by
              apply List.ext_getElem?
              intro j
              by_cases hj:d=j
              · subst hj
                rw [List.getElem?_set_self (show d<fr'.length by rw [h11];exact hdl),h10 d (fun j hj q hq=>hok.apart i hir o ho d hd j hj q hq),k1 d hd hdl]
              · rw [List.getElem?_set_ne hj]
            rw [e] at hset
            simpa [Act.put,Array.toList_setIfInBounds] using hset
          · have:fr'.set d v=fr':=List.set_eq_of_length_le (by rw [h11];exact Nat.le_of_not_lt hdl)
            rw [this] at hset
            simpa [Act.put,Array.toList_setIfInBounds] using hset
      · cases o.dst <;> simp [Act.put,h8]
      · by_cases hd:o.dst=some x
        · rw [hd]
          simp only [Act.put,Array.getElem?_setIfInBounds,if_pos,h8]
        · have h14:a.tmps[x]? = b.tmps[x]?:=h9 x fun r hr q hq hl=>by
            by_cases e:i=r
            · subst e;rw [ho] at hq;cases hq;exact hd
            · exact hx r hr q hq (by rw [q0m e];exact hl)
          cases hdd:o.dst with
          | none=>exact h14
          | some d =>
            have hne:d≠x:=fun e=>hd (by rw [hdd,e])
            simp only [Act.put]
            rw [Array.getElem?_setIfInBounds_ne hne,Array.getElem?_setIfInBounds_ne hne];exact h14
      · have hne:i≠l:=fun e=>by
          subst e
          exact hnd.2.2 i hir i (List.mem_of_getElem? hj) rfl
        rw [q0m hne] at hun
        obtain ⟨d,z,q3,q4,q5⟩:=hla j l hj hl hlt hun o' ho'
        obtain ⟨_,hl3⟩:=hok.lates l hl
        obtain ⟨x',n',d',hop',hd',_,hrx,_,_⟩:=hl3 o' ho'
        rw [q3] at hd';cases hd'
        have hox:o.dst≠some x':=hrx i hir o ho
        have hod:o.dst≠some d:=fun e=>hok.apart i hir o ho d e l (List.mem_of_getElem? hj) o' ho' q3
        have hput:∀ u,o.dst≠some u→(b.put o.dst y).tmps[u]? = b.tmps[u]?:=fun u hu=>by
          cases hdd:o.dst with
          | none=>rfl
          | some e=>exact q5r (fun e2=>hu (by rw [hdd,e2]))
        refine ⟨d,z,q3,fun hlt2=>?_,fun w'=>?_⟩
        · rw [hput d hod]
          refine q4 ?_
          cases hdd:o.dst with
          | none=>rw [hdd] at hlt2;simpa [Act.put] using hlt2
          | some e=>rw [hdd] at hlt2;simpa [Act.put] using hlt2
        · rw [q9j hop' (hput x' hox)];exact q5 w'
    · -- one of the chain
      obtain ⟨j,hj⟩:=List.mem_iff_getElem?.1 hic
      have hjl0:=(List.getElem?_eq_some_iff.1 hj).1
      by_cases hil:i∈ls
      · have hjp:j<p:=by
          rcases Nat.lt_or_ge j p with h15 |h15
          · exact h15
          · exfalso
            have hpl:p<(c1++c2).length:=by omega
            have e:=List.getElem?_eq_getElem hpl
            have hne:j≠p:=fun e2=>by
              subst e2
              rw [hj] at e;cases e
              exact hnl _ hj hil
            have:=(h2 p _ e (hnl _ e)).1 (hwait _ (hok.chain j p i _ hj e (by omega) (hnl _ e)))
            omega
        obtain ⟨d,y,q3,q4,q5⟩:=hla j i hj hil hjp g1 o ho
        obtain ⟨_,hl3⟩:=hok.lates i hil
        obtain ⟨x',n',d',hop',hd',hdx,hrx,hdo,_⟩:=hl3 o ho
        rw [q3] at hd';cases hd'
        have hx':a.tmps[x']? = b.tmps[x']?:=h9 x' fun r hr q hq hl hd=>by
          have:=hwait r (hok.look i hic o ho x' (hlook x' (by rw [hop'];simp [Op.operands])) r hr q hq hd)
          rw [this] at hl;cases hl
        unfold Oper.wpW
        rw [q9j hop' hx',q5 w]
        refine ih _ _ _ hu' ⟨hs',hcl',p,β,fr',hp',G',b,⟨h1,fun k l hk hl=>?_,fun k l hk hl hkl=>?_,h3,h4,by rw [q05];exact h5,h6,by rw [q05];exact h7,?_,fun x hx=>?_,h10,h11,h12,h13,fun k l hk hl hlt hun o' ho'=>?_⟩,hnl⟩
        · have hne:i≠l:=fun e=>by subst e;exact hl hil
          rw [q0m hne];exact h2 k l hk hl
        · by_cases e:i=l
          · subst e
            have:k=j:=q6r hnd.2.1 hk hj
            omega
          · rw [q0m e] at hkl;exact h2l k l hk hl hkl
        · rw [q3];simp [Act.put,h8]
        · by_cases e:d=x
          · subst e
            rw [q3]
            simp only [Act.put,Array.getElem?_setIfInBounds,if_pos]
            by_cases hsz:d<a.tmps.size
            · rw [if_pos hsz,q4 (by rw [h8];exact hsz)]
            · rw [if_neg hsz,Array.getElem?_eq_none (by rw [h8];exact Nat.le_of_not_lt hsz)]
          · rw [q3,q5r e]
            refine h9 x fun r hr q hq hl=>?_
            by_cases e2:i=r
            · subst e2;rw [ho] at hq;cases hq;rw [q3];exact fun e3=>e (by cases e3;rfl)
            · exact hx r hr q hq (by rw [q0m e2];exact hl)
        · have hne:i≠l:=fun e=>by
            subst e
            rw [q1q (by omega)] at hun;cases hun
          rw [q0m hne] at hun
          exact hla k l hk hl hlt hun o' ho'
      have hjp:j=p:=by
        have hge:p≤j:=by
          rcases Nat.lt_or_ge j p with h15 |h15
          · rw [(h2 j i hj hil).2 h15] at g1;cases g1
          · exact h15
        rcases Nat.lt_or_ge p j with h15 |h15
        · exfalso
          have hpl:p<(c1++c2).length:=by omega
          have e:=List.getElem?_eq_getElem hpl
          have:=(h2 p _ e (hnl _ e)).1 (hwait _ (hok.chain j p i _ hj e h15 (hnl _ e)))
          omega
        · omega
      subst hjp
      rw [x1n hok hj ho,z2w] at h13
      refine z8c hpl (b:=b) (fun x hx=>?_) h8 (z5f hT h13 w0 G0 β b w _ _ h4 h6 ?_)
      · cases x with
        | tmp t =>
          simp only [Act.eval,Array.getD_eq_getD_getElem?]
          rw [h9 t fun r hr q hq hl hd=>?_]
          have:=hwait r (hok.look i hic o ho t (hlook t hx) r hr q hq hd)
          rw [this] at hl;cases hl
        | const v=>rfl
        | global g=>rfl
        | func f=>rfl
      · intro β' v y hp'' G'' w' q1 q2 q3 q4
        refine ⟨y,rfl,?_⟩
        have hkeep:(j+1≤c1.length→hpLe hp.length hp'' hp∧G.le G'')∧putF o.dst v fr' fun fr'=>cops P T hp G ((chL ops c1 c2).drop (j+1)) fr' hp'' G'' K:=by
          unfold z9g at q4
          by_cases hjc:j<c1.length
          · simp only [hjc,decide_true] at q4
            exact ⟨fun _=>⟨q4.le,q4.sub⟩,q4.go⟩
          · simp only [hjc,decide_false] at q4
            exact ⟨fun h=>absurd h (by omega),q4⟩
        obtain ⟨q5,q6⟩:=hkeep
        have q7:=z1n q6
        have hL:LInv P T ops rs c1 c2 ls w0 G0 β0 ds hp G frR K (listed.setIfInBounds i true) (a.put o.dst y) w' (j+1) β' (setD o.dst v fr') hp'' G'' (b.put o.dst y):=by
          refine ⟨by omega,fun k l hk hl=>?_,fun k l hk hl hkl=>?_,Nm.le_trans h3 q1,q2,by rw [q05];exact h5,?_,by rw [q05,q05];exact h7,?_,fun x hx=>?_,fun x hx=>?_,?_,q5,q7,fun k l hk hl hlt hun o' ho'=>?_⟩
          · by_cases e:i=l
            · subst e
              have:j=k:=q6r hnd.2.1 hj hk
              rw [q1q (by omega)];simp;omega
            · rw [q0m e,h2 k l hk hl]
              have:j≠k:=fun e2=>e (by subst e2;rw [hj] at hk;injection hk)
              omega
          · have e:i≠l:=fun e=>by subst e;exact hil hl
            rw [q0m e] at hkl
            have:=h2l k l hk hl hkl;omega
          · have hm:=AV.rels_mono q1 _ _ h6
            cases hd:o.dst with
            | none=>simpa [Act.put,setD] using hm
            | some d=>simpa [Act.put,setD,Array.toList_setIfInBounds] using AV.rels_set d hm q3
          · cases o.dst <;> simp [Act.put,h8]
          · have h15:a.tmps[x]? = b.tmps[x]?∨o.dst=some x:=by
              by_cases e:o.dst=some x
              · exact .inr e
              · refine .inl (h9 x fun r hr q hq hl=>?_)
                by_cases e2:i=r
                · subst e2;rw [ho] at hq;cases hq;exact e
                · exact hx r hr q hq (by rw [q0m e2];exact hl)
            cases hdd:o.dst with
            | none =>
              rw [hdd] at h15
              rcases h15 with h15 |h15
              · exact h15
              · cases h15
            | some d =>
              rw [hdd] at h15
              simp only [Act.put,Array.getElem?_setIfInBounds,h8]
              rcases h15 with h15 |h15
              · rw [h15]
              · cases h15;simp
          · cases hdd:o.dst with
            | none=>exact h10 x hx
            | some d =>
              simp only [setD]
              rw [List.getElem?_set_ne (fun e=>hx i hic o ho (by rw [hdd,e]))];exact h10 x hx
          · cases o.dst <;> simp [setD,h11]
          · have hne:i≠l:=fun e=>by subst e;exact hil hl
            rw [q0m hne] at hun
            have hkj:k<j:=by
              have:k≠j:=fun e=>by subst e;rw [hj] at hk;cases hk;exact hne rfl
              omega
            obtain ⟨d,z,k3,k4,k5⟩:=hla k l hk hl hkj hun o' ho'
            obtain ⟨_,hl3⟩:=hok.lates l hl
            obtain ⟨x',n',d',hop',hd',_,_,hdo',hxo'⟩:=hl3 o' ho'
            rw [k3] at hd';cases hd'
            have hox:o.dst≠some x':=hxo' k j i hk hj hkj o ho
            have hod:o.dst≠some d:=hdo' i hic hne o ho
            have hput:∀ u,o.dst≠some u→(b.put o.dst y).tmps[u]? = b.tmps[u]?:=fun u hu=>by
              cases hdd:o.dst with
              | none=>rfl
              | some e=>exact q5r (fun e2=>hu (by rw [hdd,e2]))
            refine ⟨d,z,k3,fun hlt2=>?_,fun w'=>?_⟩
            · rw [hput d hod]
              refine k4 ?_
              cases hdd:o.dst with
              | none=>rw [hdd] at hlt2;simpa [Act.put] using hlt2
              | some e=>rw [hdd] at hlt2;simpa [Act.put] using hlt2
            · rw [q9j hop' (hput x' hox)];exact k5 w'
        obtain ⟨p2,fr2,b2,hL2,hnl2⟩:=LInv.all hok _ _ _ _ rfl hL
        exact ih _ _ _ hu' ⟨hs',hcl',p2,β',fr2,hp'',G'',b2,hL2,hnl2⟩
end
theorem z3c {P:Program} {T:Tab} (hT:TOk P T) (hm:P.follows .mixedOrders=true) {ops:List Oper} (rs c1 c2 ls:List Nat) (hB:z7i ops rs c1 c2 ls=true) {fr:List AV} {hp:List Blk} {G:Mem} {K:List AV→List Blk→Mem→Prop}
    (h:rops P T (q3m ops rs) fr hp G fun frR=>q0w (AV.unders hp.length frR) (KeepP hp G hp G (cops P T hp G (chL ops c1 c2) frR hp G K))):DrawP P ops fr hp G K:=by
  refine ⟨hm,?_⟩
  intro w0 G0 ds β0 β a w Q hβ hr hf hd hQ
  have hok:=x4i hB
  have ltr:∀ i∈rs,i<ops.length:=fun i hi=>hok.lt i (by simp [hi])
  have hget:∀ (p:Nat) o,(q3m ops rs)[p]? = some o→∃ i,rs[p]? = some i∧ops[i]? = some o:=fun p o hp=>by
    rw [q5n ltr] at hp
    obtain ⟨i,h1,h2⟩:=Option.bind_eq_some_iff.1 hp
    exact ⟨i,h1,h2⟩
  obtain ⟨frR,h1,h2,h3,h4,h5⟩:=z67 hT (q3m ops rs) fr _ (fun p p' o q ho hq hle t ht hdst=>by
    obtain ⟨i,hi,hoi⟩:=hget p o ho
    obtain ⟨j,hj,hqj⟩:=hget p' q hq
    have:=((hok.lookr p i hi o hoi t (List.mem_append_left _ (List.mem_filterMap.2 ⟨.tmp t,by simpa using ht,rfl⟩))).2 p' j hj q hqj hdst).1
    omega) hok.dsts h
  obtain ⟨hu,h6⟩:=q0t h1
  have hrd:∀ r∈rs,∀ o,ops[r]? = some o→RdOk P o frR hp G:=fun r hr o ho=>by
    obtain ⟨p,hp⟩:=List.mem_iff_getElem?.1 hr
    refine h4 o (List.mem_of_getElem? (i:=p) ?_)
    rw [q5n ltr,hp];exact ho
  obtain ⟨b,k1,k2,k3,k4⟩:=h5 _ β a w hr.br hf
  have hrep:∀ i,i<ops.length→(Array.replicate ops.length false).getD i true=false:=fun i hi=>by simp [Array.getD,hi]
  have hunl:∀ n,n≤ops.length→unl (Array.replicate ops.length false) n=n:=by
    intro n
    induction n with
    | zero=>intro _;rfl
    | succ n ih=>intro hn;simp only [unl,ih (by omega),hrep n (by omega),if_true]
  have hL:LInv P T ops rs c1 c2 ls w0 G0 β0 ds hp G frR K (Array.replicate ops.toArray.size false) a _ 0 β frR hp G b:=⟨Nat.zero_le _,fun j i hj _=>?_,fun j i hj _ hs=>?_,hβ,hr.drew,hd,k1,k2,k3,fun x hx=>(k4 x fun o ho hdst=>?_).symm,fun _ _=>rfl,rfl,fun _=>⟨h6.le,h6.sub⟩,h6.go,fun j l _ _ hlt=>absurd hlt (Nat.not_lt_zero _)⟩
  · obtain ⟨p',fr2,b2,hL2,hnl⟩:=LInv.all hok _ _ _ _ rfl hL
    refine x4j hT hok hQ hrd hu _ _ _ _ (by simpa using hunl ops.length (Nat.le_refl _)) ⟨by simp,fun i o ho hl=>?_,p',β,fr2,hp,G,b2,hL2,hnl⟩
    have:=hrep i (List.getElem?_eq_some_iff.1 ho).1
    simp only [List.size_toArray] at hl
    rw [this] at hl;cases hl
  · have:=hrep i (hok.lt i (List.mem_append_right _ (List.mem_of_getElem? hj)))
    simp only [List.size_toArray]
    rw [this];simp
  · have:=hrep i (hok.lt i (List.mem_append_right _ (List.mem_of_getElem? hj)))
    simp only [List.size_toArray] at hs
    rw [this] at hs;cases hs
  · obtain ⟨p,hp⟩:=List.mem_iff_getElem?.1 ho
    obtain ⟨r,hr1,hr2⟩:=hget p o hp
    exact hx r (.inl (List.mem_of_getElem? hr1)) o hr2 (by simp only [List.size_toArray];exact hrep r (List.getElem?_eq_some_iff.1 hr2).1) hdst
end Go.Proofs.YtegpkpilfgohhaaGreat
