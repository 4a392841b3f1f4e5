/-
  Merged: XEr, XEs, XEt, XEu, XEv.
-/
import Derived.Laws.StructEq
import Derived.ChangeKeysEq
import Derived.Test.YtegpkpilfgohhaaGreatEng1
set_option linter.unusedVariables false
set_option linter.unusedSimpArgs false
set_option linter.unnecessarySimpa false
namespace Go.Proofs.YtegpkpilfgohhaaGreat
open Go.RowKit
def Core (P:Program) (o:Oper) (fr:List AV) (hp:List Blk) (G:Mem) (v:AV) (hp':List Blk):Prop :=
  (hp'=hp∧∀ (base:Nat) (β:Nm) (ρ:Operand→Value) (w:World),BR base β hp G w→q13 o fr β ρ→∃ y,(execOp ρ o).run P w=.ok (.value y) w∧v.rel β y) ∨
  (∃ x,hp'=hp++[x]∧∀ (base:Nat) (β:Nm) (ρ:Operand→Value) (w:World),BR base β hp G w→base≤w.heap.size→β hp.length=none→q13 o fr β ρ →
    ∃ y z w',(execOp ρ o).run P w=.ok (.value y) w'∧Below w.heap.size w w'∧x.rel base (β.put hp.length z) G w' z∧(∀ b,q0i z=some b→w.heap.size≤b)∧v.rel (β.put hp.length z) y) ∨
  (hp'=hp∧∃ f,∀ (base:Nat) (β:Nm) (ρ:Operand→Value) (w:World),BR base β hp G w→q13 o fr β ρ→∃ args,(execOp ρ o).run P w=.ok (.enter f args) w∧Calls P f args w fun e w'=>∃ y,e=.returned y∧v.rel noName y∧Below w.heap.size w w') ∨
  (∃ x,hp'=hp++[x]∧∃ f,∀ (base:Nat) (β:Nm) (ρ:Operand→Value) (w:World),BR base β hp G w→base≤w.heap.size→β hp.length=none→q13 o fr β ρ →
    ∃ args,(execOp ρ o).run P w=.ok (.enter f args) w∧Calls P f args w fun e w'=>∃ y z,e=.returned y∧Below w.heap.size w w'∧x.rel base (β.put hp.length z) G w' z∧(∀ b,q0i z=some b→w.heap.size≤b)∧v.rel (β.put hp.length z) y)
theorem RobS.core {P:Program} {o:Oper} {fr:List AV} {hp:List Blk} {G:Mem} {K:AV→List Blk→Prop} (h:RobS P o fr hp G K):∃ v hp',Core P o fr hp G v hp'∧K v hp':=by
  cases h with
  | pure h=>obtain ⟨v,h1,h2⟩:=h;exact ⟨v,hp,.inl ⟨rfl,h2⟩,h1⟩
  | new h=>obtain ⟨v,x,h1,h2⟩:=h;exact ⟨v,_,.inr (.inl ⟨x,rfl,h2⟩),h1⟩
  | call v f h1 h2=>exact ⟨v,hp,.inr (.inr (.inl ⟨rfl,f,h2⟩)),h1⟩
  | callNew v x f h1 h2=>exact ⟨v,_,.inr (.inr (.inr ⟨x,rfl,f,h2⟩)),h1⟩
def q2h (k:Nat):List (Nat × Blk)→Option Blk
  | []=>none
  | (j,x)::l=>match Nat.beq k j with
    | true=>some x
    | false=>q2h k l
def depB (o:Oper) (j:Nat):Bool:=o.after.toList.any fun e=>Region.binds .any e&&Nat.beq e.on j
theorem z0n {o:Oper} {j:Nat} (h:depB o j=true):∃ e∈o.after,Region.binds .any e=true∧e.on=j:=by
  unfold depB at h
  obtain ⟨e,h1,h2⟩:=List.any_eq_true.1 h
  simp only [Bool.and_eq_true] at h2
  exact ⟨e,by simpa using h1,h2.1,Nat.eq_of_beq_eq_true h2.2⟩
def q1e (ops:List Oper):Nat→Nat→Nat→Bool
  | 0,_,_=>false
  | n+1,i,j=>match ops[i]? with
    | none=>false
    | some o=>depB o j||(List.range i).any fun k=>depB o k&&q1e ops n k j
def q3k (o:Oper):Bool :=
  match o.op with
  | .store _ _ _=>true
  | .call ⟨.value _,_,_⟩=>true
  | .call ⟨.builtin .append,_,_⟩=>true
  | _=>false
def z1d (all:List Oper) (i:Nat):Bool:=(List.range i).all fun j=>match all[j]? with
  | some o=>!q3k o||q1e all 12 i j
  | none=>true
theorem x6u {all:List Oper} {i j:Nat} {o:Oper} (h:z1d all i=true) (hj:j<i) (ho:all[j]? = some o) (hw:q3k o=true):q1e all 12 i j=true:=by
  unfold z1d at h
  rw [List.all_eq_true] at h
  have:=h j (List.mem_range.2 hj)
  rw [ho] at this
  simpa [hw] using this
def q8l (all:List Oper) (see:List (Nat × Nat)) (i k:Nat):Bool:=see.all fun e=>!Nat.beq e.2 k||Nat.beq e.1 i||q1e all 12 i e.1
theorem x6v {all:List Oper} {see:List (Nat × Nat)} {i k q:Nat} (h:q8l all see i k=true) (hq:(q,k)∈see) (hne:q≠i):q1e all 12 i q=true:=by
  unfold q8l at h
  rw [List.all_eq_true] at h
  have:=h _ hq
  simp only [Nat.beq_refl,Bool.not_true,Bool.false_or,Bool.or_eq_true] at this
  rcases this with h1 |h1
  · exact absurd (Nat.eq_of_beq_eq_true h1) hne
  · exact h1
theorem z2l {k:Nat}:∀ {l:List (Nat × Blk)},k∉l.map (·.1)→q2h k l=none
  | [],_=>rfl
  | e::l,h=>by
    rw [List.map_cons,List.mem_cons,not_or] at h
    unfold q2h
    have hb:Nat.beq k e.1=false:=by
      cases hb:Nat.beq k e.1 with
      | false=>rfl
      | true=>exact absurd (Nat.eq_of_beq_eq_true hb) h.1
    simp only [hb]
    exact z2l h.2
theorem x40 {k:Nat} {x:Blk} {l:List (Nat × Blk)}:q2h k ((k,x)::l)=some x:=by
  unfold q2h
  simp
theorem x3o {k k':Nat} {x:Blk} {l:List (Nat × Blk)} (h:k'≠k):q2h k ((k',x)::l)=q2h k l:=by
  rw [q2h]
  have hb:Nat.beq k k'=false:=by
    cases hb:Nat.beq k k' with
    | false=>rfl
    | true=>exact absurd (Nat.eq_of_beq_eq_true hb).symm h
  simp only [hb]
def curB (hp0:List Blk) (ps:List (Nat × Blk)) (k:Nat):Blk:=match q2h k ps with
  | some b=>b
  | none=>nthB hp0 k
def vpst (T:Tab) (all:List Oper) (see:List (Nat × Nat)) (n:Nat) (hp0:List Blk) (ks:List Nat) (t:TypeId) (x z:Operand) (fr:List AV) (ps:List (Nat × Blk)) (K:Nat→Blk→Prop):Prop :=
  q1b T t fun i=>z0j (ev fr z) fun cs=>lenF cs fun m=>q0w (Nat.beq m i.size) (q0w (AV.cells cs) (match ev fr x with
    | .ptr k o=>q0w (q12 k ks) (q0w ((!q12 k (ps.map (·.1))||z1d all n)&&q8l all see n k) (match curB hp0 ps k with
      | .cells t' l=>q8w l o cs fun l'=>K k (.cells t' l')
      | .own e sz n xs=>q14 cs fun vs=>mustP (o+vs.length≤xs.length) (K k (.own e sz n (xs.take o++vs++xs.drop (o+vs.length))))
      | _=>False))
    | _=>False))
def z7x (P:Program) (o:Oper) (fr:List AV) (G:Mem) (k:Nat) (old new:Blk):Prop :=
  ∀ (base:Nat) (β:Nm) (ρ:Operand→Value) (w:World),(∀ y,β k=some y→old.rel base β G w y)→q13 o fr β ρ→∃ y w' b,β k=some y∧(execOp ρ o).run P w=.ok .skip w'∧q0i y=some b∧w.grownBy w' (some b)∧new.rel base β G w' y
theorem x8q {P:Program} {T:Tab} (hT:TOk P T) {o:Oper} {fr:List AV} {hp0:List Blk} {G:Mem} {ks:List Nat} {ps:List (Nat × Blk)} {K:Nat→Blk→Prop} {t:TypeId} {x z:Operand} (ho:o.op=.store t x z) {all:List Oper} {see:List (Nat × Nat)} {n:Nat} (h:vpst T all see n hp0 ks t x z fr ps K) :
    ∃ k old new,curB hp0 ps k=old∧old.live=true∧k∈ks∧((k∉ps.map (·.1)∨z1d all n=true)∧q8l all see n k=true)∧z7x P o fr G k old new∧K k new:=by
  have elem:∀ (l:List Nat) (k:Nat),q12 k l=true↔k∈l:=by
    intro l
    induction l with
    | nil=>intro k;simp [q12]
    | cons a l ih =>
      intro k
      unfold q12
      cases hb:Nat.beq k a with
      | true=>have:=Nat.eq_of_beq_eq_true hb;simp [this]
      | false =>
        have hne:k≠a:=fun e=>by subst e;simp at hb
        simp [ih,hne]
  have hmx:x∈o.op.operands.toList:=by simp [ho,Op.operands]
  have hmz:z∈o.op.operands.toList:=by simp [ho,Op.operands]
  obtain ⟨i,hi,h1⟩:=q0y hT h
  obtain ⟨cs,h2,hcs⟩:=q9m h1
  obtain ⟨hlen0,h3⟩:=q0t (q1y h2)
  obtain ⟨hcell,h4⟩:=q0t h3
  have hlen:=Nat.eq_of_beq_eq_true hlen0
  split at h4
  · rename_i k off hx
    obtain ⟨hk1,h5⟩:=q0t h4
    obtain ⟨hk2,h6⟩:=q0t h5
    split at h6
    · rename_i t' l hl
      obtain ⟨h8,h9⟩:=q8f _ _ _ _ h6
      simp only [Bool.and_eq_true,Bool.or_eq_true] at hk2
      refine ⟨k,_,_,hl,rfl,(elem _ _).1 hk1,⟨hk2.1.imp (fun h0 hm=>by rw [(elem _ _).2 hm] at h0;simp at h0) id,hk2.2⟩,?_,h9⟩
      intro base β ρ w hr0 hf
      have he:=hf x hmx
      rw [hx] at he
      simp only [AV.rel] at he
      obtain ⟨v,b,h10,h11,h12⟩:=he
      have hy:=h10
      have hr:=hr0 v hy
      have hz:=hcs _ _ (hf z hmz)
      have hzl:(ρ z).cells.toList.length=i.size:=by rw [AV.rels_length hz,hlen]
      have hone:=AV.cells_rel hcell hz
      obtain ⟨b',c,rfl,hb1,hb2,hb3,hb4⟩:=hr
      simp [q0i] at h11;subst h11
      have hcl:=AV.rels_length hb4
      have hrun:=q6v (P:=P) hi (off:=off) rfl hb3 hzl (by rw [hzl,← hlen];simp at hcl;omega) hone
      generalize hL:(ρ z).cells.toList=L at *
      refine ⟨_,w.setRow b' (c.toList.take off++L++c.toList.drop (off+L.length)).toArray,b',hy,by simp [execOp,ho,h12,Instr.storeAt,Instr.sureAddr,hrun],rfl,q2t _ _ _,b',_,rfl,hb1,hb2,setRow_heap _ _ _ _ _ _ hb3,?_⟩
      have e:off+L.length=off+cs.length:=by rw [AV.rels_length hz]
      rw [e]
      simpa [List.append_assoc] using AV.rels_append (AV.rels_append (AV.rels_take off hb4) hz) (AV.rels_drop (off+cs.length) hb4)
    · rename_i e sz n' xs hl
      obtain ⟨vs,rfl,h8,h9⟩:=q3f _ _ h6
      simp only [Bool.and_eq_true,Bool.or_eq_true] at hk2
      refine ⟨k,_,_,hl,rfl,(elem _ _).1 hk1,⟨hk2.1.imp (fun h0 hm=>by rw [(elem _ _).2 hm] at h0;simp at h0) id,hk2.2⟩,?_,h9⟩
      intro base β ρ w hr0 hf
      have he:=hf x hmx
      rw [hx] at he
      simp only [AV.rel] at he
      obtain ⟨v,b,h10,h11,h12⟩:=he
      obtain ⟨hown,hG⟩:=hr0 v h10
      have hz:=hcs _ _ (hf z hmz)
      have hzl:(ρ z).cells.toList.length=i.size:=by rw [AV.rels_length hz,hlen]
      have hone:=AV.cells_rel hcell hz
      have hzv:=q2a hz
      obtain ⟨cur,t',hg2,hle,hnew⟩:=x2j hown h11 h8
      rw [List.append_assoc (cur.toList.take off)] at hnew
      have hrun:=q6v (P:=P) hi (off:=off) hzv hg2 (by rw [← hzv];exact hzl) hle (by rw [← hzv];exact hone)
      exact ⟨_,_,b,h10,by simp [execOp,ho,h12,Instr.storeAt,Instr.sureAddr,hrun],h11,q2t _ _ _,hnew,hG⟩
    · exact h6.elim
  · exact h4.elim
def x92 (P:Program) (f:FuncId) (post:List AV) (G:Mem) (E:TypeId) (sz n:Nat) (xs:List Value) (n':Nat) (xs':List Value):Prop :=
  ∀ (base:Nat) (w:World) (v:Value) (ts:List Value),G.holds w→w.ownsRow base E sz v n xs→base≤w.heap.size→(∀ g,q0i v=some g→G g=none)→AV.rels noName post ts →
    Calls P f (v::ts).toArray w fun e w'=>∃ v',e=.returned v'∧w'.ownsRow base E sz v' n' xs'∧w.grownBy w' (q0i v)∧(∀ b,q0i v'=some b→w.heap.size≤b∨q0i v=some b)
theorem z99 (β:Nm):β.cut 0=noName:=by funext k;simp [Nm.cut,noName]
theorem q5d {β:Nm} {v:AV} {y:Value} (h:v.under 0=true) (e:v.rel β y):v.rel noName y:=by
  rw [← z99 β];exact AV.rel_cut v y h e
theorem q3w {β:Nm} {l:List AV} {ys:List Value} (h:AV.unders 0 l=true) (e:AV.rels β l ys):AV.rels noName l ys:=by
  rw [← z99 β];exact AV.rels_cut l ys h e
inductive TakeP (P:Program) (f:FuncId) (k:Nat) (post:List AV) (hp0:List Blk) (G:Mem) (K:Blk→Prop):Prop
  | mk (E:TypeId) (sz n:Nat) (xs:List Value) (n':Nat) (xs':List Value) (hk:nthB hp0 k=.own E sz n xs) (he:∀ vs w,(callFunc f vs).run P w=.ok (.enter f vs) w) (hu:AV.unders 0 post=true) (hc:x92 P f post G E sz n xs n' xs') (h:K (.own E sz n' xs'))
def z4o (P:Program) (o:Oper) (fr:List AV) (hp:List Blk) (G:Mem) (k:Nat) (old:Blk) (q:Nat) (x:Blk) (v:AV):Prop :=
  ∀ (base:Nat) (β:Nm) (ρ:Operand→Value) (w:World),BR base β hp G w→base≤w.heap.size→(∀ y,β k=some y→old.rel base β G w y)→β q=none→q13 o fr β ρ →
    ∃ y,β k=some y∧((∃ f args,(execOp ρ o).run P w=.ok (.enter f args) w∧Calls P f args w fun e w'=>∃ u z,e=.returned u∧w.grownBy w' (q0i y)∧x.rel base (β.put q z) G w' z∧(∀ b,q0i z=some b→w.heap.size≤b∨q0i y=some b)∧v.rel (β.put q z) u) ∨
      ∃ u z w',(execOp ρ o).run P w=.ok (.value u) w'∧w.grownBy w' (q0i y)∧x.rel base (β.put q z) G w' z∧(∀ b,q0i z=some b→w.heap.size≤b∨q0i y=some b)∧v.rel (β.put q z) u)
theorem x3p {P:Program} {o:Oper} {fr:List AV} {hp0:List Blk} {G:Mem} {K:Blk→Prop} {x:Operand} {xs:Array Operand} {ts:Array TypeId} (ho:o.op=.call ⟨.value x,xs,ts⟩) {k:Nat} {post:List AV} {f:FuncId} (hx:ev fr x=.val (.func (.func f) #[] #[])) (hargs:xs.toList.map (ev fr)=.own k::post) (h:TakeP P f k post hp0 G K) (q:Nat) :
    ∃ old x,hp0[k]? = some old∧old.live=true∧(∀ hp,z4o P o fr hp G k old q x (.own q))∧K x:=by
  obtain ⟨E,sz,n,rs,n',rs',hk,hen,hu,hc,hK⟩:=h
  refine ⟨_,_,q0x hk rfl,rfl,fun hp=>?_,hK⟩
  intro base β ρ w hbr hb hold hq hf
  have hG:=hbr.hold
  have hrel:AV.rels β (.own k::post) (xs.toList.map ρ):=by
    rw [← hargs]
    exact q8z (β:=β) (fr:=fr) (ρ:=ρ) xs.toList (fun z hz=>hf z (by simp [ho,Op.operands,Call.operands];right;simpa using hz))
  simp only [AV.rels] at hrel
  obtain ⟨y,zs,hys,hy,hzs⟩:=hrel
  simp only [AV.rel] at hy
  have hxm:x∈o.op.operands.toList:=by simp [ho,Op.operands,Call.operands]
  have hfx:=hf x hxm
  rw [hx] at hfx;simp only [AV.rel] at hfx
  have hown:=hold y hy.1
  refine ⟨y,hy.1,.inl ⟨f,(y::zs).toArray,?_,(hc base w y zs hG hown.1 hb hown.2 (q3w hu hzs)).mono ?_⟩⟩
  · have e:xs.map ρ=(y::zs).toArray:=by rw [← hys];exact Array.toList_inj.1 (by simp)
    have h2:=hen (y::zs).toArray w
    simp only [execOp,ho,resolve,hfx,Deferred.ofValue,Sem.run_bind,Sem.run_pure,Result.andThen_ok,invoke]
    rw [e]
    simpa using h2
  · rintro e w' ⟨v',rfl,h1,h2,h3⟩
    refine ⟨v',v',rfl,h2,⟨h1,fun g hg=>?_⟩,h3,by simp only [AV.rel];exact ⟨Nm.put_same _ _ _,q22 h1⟩⟩
    rcases h3 g hg with h7 |h7
    · exact q5t hG h7
    · exact hown.2 g h7
def appT (T:Tab) (t:TypeId) (hp0 hp:List Blk) (k:Nat) (x:AV) (K:Blk→Prop):Prop :=
  litF T t hp x fun e j m vs=>match nthB hp0 k with
    | .own e' sz n xs=>q0w (Nat.beq e' e) (q0w (Nat.beq sz j.size) (mustP ((n+m)*j.bytes≤140737488355328) (K (.own e sz (n+m) (xs++vs)))))
    | _=>False
theorem x41 {P:Program} {T:Tab} (hT:TOk P T) {o:Oper} {fr:List AV} {hp0 hp:List Blk} {G:Mem} {K:Blk→Prop} {d x:Operand} {t:TypeId} (ho:o.op=.call ⟨.builtin .append,#[d,x],#[t,t]⟩) {k:Nat} (hd:ev fr d=.own k) (h:appT T t hp0 hp k (ev fr x) K) (q:Nat) :
    ∃ old x,hp0[k]? = some old∧old.live=true∧z4o P o fr hp G k old q x (.own q)∧K x:=by
  obtain ⟨e,j,m,vs,h1,hrun⟩:=x2r (G:=G) hT ho h
  split at h1
  · rename_i e' sz n xs hk
    obtain ⟨h2,h3⟩:=q0t h1
    obtain ⟨h4,hm,h5⟩:=q0t h3
    obtain rfl:=Nat.eq_of_beq_eq_true h2
    obtain rfl:=Nat.eq_of_beq_eq_true h4
    refine ⟨_,_,q0x hk rfl,rfl,?_,h5⟩
    intro base β ρ w hbr hb hold hq hf
    have hdr:=hf d (by simp [ho,Op.operands,Call.operands])
    rw [hd] at hdr;simp only [AV.rel] at hdr
    have hown:=hold _ hdr.1
    obtain ⟨v',w',g1,g2,g3,g4⟩:=hrun base β ρ w _ n xs hbr hb hf rfl hown.1 hm
    refine ⟨_,hdr.1,.inr ⟨v',v',w',g1,g3,⟨g2,fun g hg=>?_⟩,g4,by simp only [AV.rel];exact ⟨Nm.put_same _ _ _,q22 g2⟩⟩⟩
    rcases g4 g hg with h7 |h7
    · exact q5t hbr.hold h7
    · exact hown.2 g h7
  · exact h1.elim
def q4g (ks:List Nat):Nat→List Blk→List Blk
  | _,[]=>[]
  | i,x::l=>(match q12 i ks with |true=>.gone |false=>x)::q4g ks (i+1) l
def q5e (ks:List Nat):Nat→List Blk→(List Blk→Prop)→Prop
  | _,[],K=>K []
  | i,x::l,K=>q5e ks (i+1) l fun m=>match q12 i ks with
    | true=>K (.gone::m)
    | false=>K (x::m)
theorem z2m (ks:List Nat):∀ (l:List Blk) (i:Nat) (K:List Blk→Prop),q5e ks i l K=K (q4g ks i l)
  | [],_,_=>rfl
  | x::l,i,K=>by
    rw [q5e,z2m ks l,q4g]
    cases q12 i ks <;> rfl
def q23 (ks:List Nat) (ps:List (Nat × Blk)) (base0:List Blk):Nat→List Blk→List Blk
  | _,[]=>[]
  | i,x::l=>(match q12 i ks with
    | true=>(match q2h i ps with |some n=>n |none=>nthB base0 i)
    | false=>x)::q23 ks ps base0 (i+1) l
def q4i (ks:List Nat) (ps:List (Nat × Blk)) (base0:List Blk):Nat→List Blk→(List Blk→Prop)→Prop
  | _,[],K=>K []
  | i,x::l,K=>q4i ks ps base0 (i+1) l fun m=>match q12 i ks with
    | true=>(match q2h i ps with |some n=>K (n::m) |none=>K (nthB base0 i::m))
    | false=>K (x::m)
theorem z1e (ks:List Nat) (ps:List (Nat × Blk)) (base0:List Blk):∀ (l:List Blk) (i:Nat) (K:List Blk→Prop),q4i ks ps base0 i l K=K (q23 ks ps base0 i l)
  | [],_,_=>rfl
  | x::l,i,K=>by
    rw [q4i,z1e ks ps base0 l,q23]
    cases q12 i ks with
    | false=>rfl
    | true=>cases q2h i ps <;> rfl
theorem q2j:∀ (l:List Nat) (k:Nat),q12 k l=true↔k∈l
  | [],k=>by simp [q12]
  | a::l,k=>by
    unfold q12
    cases hb:Nat.beq k a with
    | true=>have:=Nat.eq_of_beq_eq_true hb;simp [this]
    | false =>
      have hne:k≠a:=fun e=>by subst e;simp at hb
      simp [q2j l k,hne]
theorem q5f (ks:List Nat):∀ (l:List Blk) (i k:Nat),(q4g ks i l)[k]? = (l[k]?).map fun x=>if i+k∈ks then .gone else x
  | [],_,_=>by simp [q4g]
  | x::l,i,0=>by
    have:=q2j ks i
    unfold q4g
    cases h:q12 i ks <;> simp_all
  | x::l,i,k+1=>by
    unfold q4g
    simp only [List.getElem?_cons_succ]
    rw [q5f ks l (i+1) k,show i+1+k=i+(k+1) by omega]
theorem z4p (ks:List Nat):∀ (l:List Blk) (i:Nat),(q4g ks i l).length=l.length
  | [],_=>rfl
  | x::l,i=>by simp [q4g,z4p ks l]
theorem q4s (ks:List Nat) (ps:List (Nat × Blk)) (base0:List Blk):∀ (l:List Blk) (i k:Nat),(q23 ks ps base0 i l)[k]? = (l[k]?).map fun x=>if i+k∈ks then (q2h (i+k) ps).getD (nthB base0 (i+k)) else x
  | [],_,_=>by simp [q23]
  | x::l,i,0=>by
    have:=q2j ks i
    unfold q23
    cases h:q12 i ks
    · simp_all
    · cases hf:q2h i ps <;> simp_all
  | x::l,i,k+1=>by
    unfold q23
    simp only [List.getElem?_cons_succ]
    rw [q4s ks ps base0 l (i+1) k,show i+1+k=i+(k+1) by omega]
theorem q8m (ks:List Nat) (ps:List (Nat × Blk)) (base0:List Blk):∀ (l:List Blk) (i:Nat),(q23 ks ps base0 i l).length=l.length
  | [],_=>rfl
  | x::l,i=>by simp [q23,q8m ks ps base0 l]
def z5m:List (Nat × Nat)→Nat→Nat→Bool
  | [],_,_=>false
  | e::l,i,k=>(Nat.beq e.1 i&&Nat.beq e.2 k)||z5m l i k
theorem z7y:∀ {l:List (Nat × Nat)} {i k:Nat},z5m l i k=true→(i,k)∈l
  | [],_,_,h=>by simp [z5m] at h
  | e::l,i,k,h=>by
    simp only [z5m,Bool.or_eq_true,Bool.and_eq_true] at h
    rcases h with ⟨h1,h2⟩ |h
    · have h1:=Nat.eq_of_beq_eq_true h1
      have h2:=Nat.eq_of_beq_eq_true h2
      obtain ⟨a,b⟩:=e
      simp only at h1 h2
      rw [h1,h2];simp
    · exact List.mem_cons_of_mem _ (z7y h)
def visK (see:List (Nat × Nat)) (ks:List Nat) (i:Nat):List Nat:=ks.filter fun k=>z5m see i k
theorem x0a {see:List (Nat × Nat)} {ks:List Nat} {i k:Nat} (h:k∈visK see ks i):k∈ks∧(i,k)∈see:=by
  unfold visK at h
  obtain ⟨h1,h2⟩:=List.mem_filter.1 h
  exact ⟨h1,z7y h2⟩
def seeF (see:List (Nat × Nat)) (ks:List Nat) (base0:List Blk) (i:Nat) (hp:List Blk) (K:List Blk→Prop):Prop :=
  match see with
  | []=>K hp
  | _::_=>q4i (visK see ks i) [] base0 0 hp K
def q7o (see:List (Nat × Nat)) (ks:List Nat) (i:Nat) (hp:List Blk) (K:List Blk→Prop):Prop :=
  match see with
  | []=>K hp
  | _::_=>q5e ks 0 hp K
def newF (ks:List Nat) (hs hs':List Blk) (A:Prop):Prop :=
  match ks with
  | []=>A
  | _::_=>lenF hs fun n=>lenF hs' fun m=>match Nat.beq n m with
    | true=>A
    | false=>q0w (!q12 n ks) A
theorem x2v {ks:List Nat} {hs hs':List Blk} {A:Prop} (h:newF ks hs hs' A):A∧(hs'.length≠hs.length→hs.length∉ks):=by
  unfold newF at h
  split at h
  · exact ⟨h,fun _=>by simp⟩
  · have h1:=q1y (q1y h)
    split at h1
    · rename_i e
      have:=Nat.eq_of_beq_eq_true e
      exact ⟨h1,fun hn=>absurd this.symm hn⟩
    · obtain ⟨h2,h3⟩:=q0t h1
      exact ⟨h3,fun _ hm=>by rw [(q2j _ _).2 hm] at h2;simp at h2⟩
def hidF (ks:List Nat) (hp:List Blk) (A:Nat→Prop) (B:Prop):Prop :=
  match ks with
  | []=>B
  | _::_=>lenF hp fun n=>match q12 n ks with
    | true=>A n
    | false=>B
theorem x8r {ks:List Nat} {hp:List Blk} {A:Nat→Prop} {B:Prop} (h:hidF ks hp A B):(hp.length∈ks∧A hp.length)∨B:=by
  unfold hidF at h
  split at h
  · exact .inr h
  · have h1:=q1y h
    split at h1
    · rename_i e
      exact .inl ⟨(q2j _ _).1 e,h1⟩
    · exact .inr h1
def x8s (P:Program) (o:Oper) (fr:List AV) (hp:List Blk) (G:Mem) (x:Blk) (v:AV):Prop :=
  ∀ (base:Nat) (β:Nm) (ρ:Operand→Value) (w:World),BR base β hp G w→base≤w.heap.size→β hp.length=none→q13 o fr β ρ →
    ∃ y z w',(execOp ρ o).run P w=.ok (.value y) w'∧Below w.heap.size w w'∧x.rel base (β.put hp.length z) G w' z∧(∀ b,q0i z=some b→w.heap.size≤b)∧v.rel (β.put hp.length z) y
def x8b (P:Program) (o:Oper) (fr:List AV) (hs hp:List Blk) (G:Mem) (v:AV) (hp':List Blk):Prop :=
  (hp'=hp∧∀ (base:Nat) (β:Nm) (ρ:Operand→Value) (w:World),BR base β hs G w→q13 o fr β ρ→∃ y,(execOp ρ o).run P w=.ok (.value y) w∧v.rel β y) ∨
  (∃ x,hp'=hp++[x]∧∀ (base:Nat) (β:Nm) (ρ:Operand→Value) (w:World),BR base β hs G w→base≤w.heap.size→β hp.length=none→q13 o fr β ρ →
    ∃ y z w',(execOp ρ o).run P w=.ok (.value y) w'∧Below w.heap.size w w'∧x.rel base (β.put hp.length z) G w' z∧(∀ b,q0i z=some b→w.heap.size≤b)∧v.rel (β.put hp.length z) y) ∨
  (hp'=hp∧∃ f,∀ (base:Nat) (β:Nm) (ρ:Operand→Value) (w:World),BR base β hs G w→q13 o fr β ρ→∃ args,(execOp ρ o).run P w=.ok (.enter f args) w∧Calls P f args w fun e w'=>∃ y,e=.returned y∧v.rel noName y∧Below w.heap.size w w') ∨
  (∃ x,hp'=hp++[x]∧∃ f,∀ (base:Nat) (β:Nm) (ρ:Operand→Value) (w:World),BR base β hs G w→base≤w.heap.size→β hp.length=none→q13 o fr β ρ →
    ∃ args,(execOp ρ o).run P w=.ok (.enter f args) w∧Calls P f args w fun e w'=>∃ y z,e=.returned y∧Below w.heap.size w w'∧x.rel base (β.put hp.length z) G w' z∧(∀ b,q0i z=some b→w.heap.size≤b)∧v.rel (β.put hp.length z) y)
theorem x6w {P:Program} {T:Tab} (hT:TOk P T) {o:Oper} {fr:List AV} {hp base0:List Blk} {G:Mem} {see:List (Nat × Nat)} {ks:List Nat} {i:Nat} {K:AV→List Blk→Prop} (hm:∀ k∈ks,∀ x,hp[k]? = some x→x=.gone) (h:seeF see ks base0 i hp fun hs=>vrop P T o.op fr hs G fun v hs'=>newF ks hs hs' (q7o see ks i hs' fun hp'=>K v hp')) :
    ∃ v hs hp',(hs=hp∨hs=q23 (visK see ks i) [] base0 0 hp)∧(hp'.length≠hp.length→hp.length∉ks)∧x8b P o fr hs hp G v hp'∧K v hp':=by
  cases see with
  | nil =>
    obtain ⟨v,hp',h1,h2⟩:=(x2s hT (show vrop P T o.op fr hp G fun v hs'=>newF ks hp hs' (q7o [] ks i hs' fun hp'=>K v hp') from h)).core
    obtain ⟨h2,h3⟩:=x2v h2
    exact ⟨v,hp,hp',.inl rfl,h3,h1,h2⟩
  | cons e0 see0 =>
    generalize hsee:e0::see0=see at *
    have h:vrop P T o.op fr (q23 (visK see ks i) [] base0 0 hp) G fun v hs'=>newF ks (q23 (visK see ks i) [] base0 0 hp) hs' (q7o see ks i hs' fun hp'=>K v hp'):=by
      rw [← hsee] at h ⊢
      unfold seeF at h
      simp only [z1e] at h
      exact h
    obtain ⟨v,hs',h1,h2⟩:=(x2s hT h).core
    obtain ⟨h2,h3⟩:=x2v h2
    rw [← hsee] at h2
    unfold q7o at h2
    simp only [z2m] at h2
    have hul:=q8m (visK see ks i) [] base0 hp 0
    have back:q4g ks 0 (q23 (visK see ks i) [] base0 0 hp)=hp:=by
      apply List.ext_getElem?
      intro k
      rw [q5f,q4s,Nat.zero_add]
      cases hk:hp[k]? with
      | none=>rfl
      | some x =>
        by_cases hkk:k∈ks
        · have:=hm k hkk x hk;subst this;simp [hkk]
        · have hkv:k∉visK see ks i:=fun hv=>hkk (x0a hv).1
          simp [hkk,hkv]
    have hml:(q4g ks 0 hs').length=hs'.length:=z4p ks hs' 0
    refine ⟨v,q23 (visK see ks i) [] base0 0 hp,q4g ks 0 hs',.inr rfl,fun hn=>by rw [hml] at hn;rw [hul] at h3;exact h3 hn,?_,h2⟩
    rcases h1 with ⟨rfl,hc⟩ |⟨x,rfl,hc⟩ |⟨rfl,hc⟩ |⟨x,rfl,hc⟩
    · exact .inl ⟨back,hc⟩
    · have hnk:hp.length∉ks:=by rw [hul] at h3;exact h3 (by simp [hul])
      refine .inr (.inl ⟨x,?_,?_⟩)
      · apply List.ext_getElem?
        intro k
        rw [q5f,Nat.zero_add]
        by_cases hk:k<hp.length
        · rw [List.getElem?_append_left (by omega),List.getElem?_append_left hk]
          have:=congrArg (fun l:List Blk=>l[k]?) back
          simp only [q5f,Nat.zero_add] at this
          exact this
        · rw [List.getElem?_append_right (by omega),List.getElem?_append_right (by omega),hul]
          cases hx:([x]:List Blk)[k-hp.length]? with
          | none=>rfl
          | some z =>
            have hk0:k-hp.length=0:=by
              have:=(List.getElem?_eq_some_iff.1 hx).1
              simp at this;omega
            have hke:k=hp.length:=by omega
            subst hke
            simp [hnk]
      · rw [hul] at hc;exact hc
    · exact .inr (.inr (.inl ⟨back,hc⟩))
    · have hnk:hp.length∉ks:=by rw [hul] at h3;exact h3 (by simp [hul])
      refine .inr (.inr (.inr ⟨x,?_,?_⟩))
      · apply List.ext_getElem?
        intro k
        rw [q5f,Nat.zero_add]
        by_cases hk:k<hp.length
        · rw [List.getElem?_append_left (by omega),List.getElem?_append_left hk]
          have:=congrArg (fun l:List Blk=>l[k]?) back
          simp only [q5f,Nat.zero_add] at this
          exact this
        · rw [List.getElem?_append_right (by omega),List.getElem?_append_right (by omega),hul]
          cases hx:([x]:List Blk)[k-hp.length]? with
          | none=>rfl
          | some z =>
            have hk0:k-hp.length=0:=by
              have:=(List.getElem?_eq_some_iff.1 hx).1
              simp at this;omega
            have hke:k=hp.length:=by omega
            subst hke
            simp [hnk]
      · rw [hul] at hc;exact hc
def vhop (P:Program) (T:Tab) (all:List Oper) (hp0:List Blk) (ks:List Nat) (see:List (Nat × Nat)) (i:Nat) (op:Op) (fr:List AV) (hp:List Blk) (G:Mem) (ps:List (Nat × Blk)) (K:AV→List Blk→List (Nat × Blk)→Prop):Prop :=
  match op with
  | .store t x z=>vpst T all see i hp0 ks t x z fr ps fun k new=>K (.val undef) hp ((k,new)::ps)
  | .alloc e=>hidF ks hp (fun n=>z2a T e hp G fun v hp1 _=>mustP (nthB hp0 n=nthB hp1 n) (catF hp [.gone] fun hp'=>K v hp' ps))
      (seeF see ks hp0 i hp fun hs=>vrop P T (.alloc e) fr hs G fun v hs'=>newF ks hs hs' (q7o see ks i hs' fun hp'=>K v hp' ps))
  | .call ⟨.value x,xs,ts⟩=>evsF fr xs.toList fun args=>match args with
    | .own k::post=>match q12 k ks with
      | true=>q0w (!q12 k (ps.map (·.1))&&q8l all see i k) (match ev fr x with
        | .val (.func (.func f) ⟨[]⟩ ⟨[]⟩)=>TakeP P f k post hp0 G fun x=>lenF hp fun q=>q0w (!q12 q ks) (catF hp [x] fun hp'=>K (.own q) hp' ((k,.gone)::ps))
        | _=>False)
      | false=>seeF see ks hp0 i hp fun hs=>vrop P T (.call ⟨.value x,xs,ts⟩) fr hs G fun v hs'=>newF ks hs hs' (q7o see ks i hs' fun hp'=>K v hp' ps)
    | _=>seeF see ks hp0 i hp fun hs=>vrop P T (.call ⟨.value x,xs,ts⟩) fr hs G fun v hs'=>newF ks hs hs' (q7o see ks i hs' fun hp'=>K v hp' ps)
  | .call ⟨.builtin .append,⟨[d,x]⟩,⟨[t,t']⟩⟩=>match ev fr d with
    | .own k=>q0w (Nat.beq t t') (q0w (q12 k ks&&(!q12 k (ps.map (·.1))&&q8l all see i k)) (appT T t hp0 hp k (ev fr x) fun b=>lenF hp fun q=>q0w (!q12 q ks) (catF hp [b] fun hp'=>K (.own q) hp' ((k,.gone)::ps))))
    | _=>seeF see ks hp0 i hp fun hs=>vrop P T (.call ⟨.builtin .append,⟨[d,x]⟩,⟨[t,t']⟩⟩) fr hs G fun v hs'=>newF ks hs hs' (q7o see ks i hs' fun hp'=>K v hp' ps)
  | op=>seeF see ks hp0 i hp fun hs=>vrop P T op fr hs G fun v hs'=>newF ks hs hs' (q7o see ks i hs' fun hp'=>K v hp' ps)
def q49 (P:Program) (T:Tab) (all:List Oper) (hp0:List Blk) (ks:List Nat) (see:List (Nat × Nat)) (l:List Oper):Nat→List AV→List Blk→Mem→List (Nat × Blk)→(List AV→List Blk→List (Nat × Blk)→Prop)→Prop :=
  List.rec (motive:=fun _=>Nat→List AV→List Blk→Mem→List (Nat × Blk)→(List AV→List Blk→List (Nat × Blk)→Prop)→Prop) (fun _ fr hp _ ps K=>K fr hp ps)
    (fun o _ ih i fr hp G ps K=>q7v all o.guard fr (vhop P T all hp0 ks see i o.op fr hp G ps fun v hp' ps'=>putF o.dst v fr fun fr'=>ih (Nat.succ i) fr' hp' G ps' K) (putF o.dst (.val undef) fr fun fr'=>ih (Nat.succ i) fr' hp G ps K)) l
theorem x3q {P:Program} {T:Tab} {all:List Oper} {hp0:List Blk} {ks:List Nat} {see:List (Nat × Nat)} {o:Oper} {rest:List Oper} {i:Nat} {fr:List AV} {hp:List Blk} {G:Mem} {ps:List (Nat × Blk)} {K:List AV→List Blk→List (Nat × Blk)→Prop} :
    q49 P T all hp0 ks see (o::rest) i fr hp G ps K=q7v all o.guard fr (vhop P T all hp0 ks see i o.op fr hp G ps fun v hp' ps'=>putF o.dst v fr fun fr'=>q49 P T all hp0 ks see rest (Nat.succ i) fr' hp' G ps' K) (putF o.dst (.val undef) fr fun fr'=>q49 P T all hp0 ks see rest (Nat.succ i) fr' hp G ps K):=rfl
def Agree (ops:List Oper) (o:Oper) (fr:List AV) (β:Nm) (a:Act):Prop:=∀ x∈o.looksAt ops.toArray,∀ v,fr[x]? = some v→∃ y,a.tmps[x]? = some y∧v.rel β y
theorem Agree.reads {ops:List Oper} {o:Oper} {fr:List AV} {β:Nm} {a:Act} (h:Agree ops o fr β a):q13 o fr β a.eval:=by
  intro x hx
  cases x with
  | tmp t =>
    simp only [ev,Act.eval,q5s]
    cases hb:fr[t]? with
    | none=>simp only [Option.getD_none,AV.rel]
    | some b =>
      obtain ⟨y,h1,h2⟩:=h t (List.mem_append_left _ (List.mem_filterMap.2 ⟨.tmp t,by simpa using hx,rfl⟩)) b hb
      have:a.tmps.getD t undef=y:=by
        rw [Array.getD_eq_getD_getElem?];simp [h1]
      rw [this];exact h2
  | const v=>simp only [ev,Act.eval,AV.rel]
  | global g=>simp only [ev,Act.eval,AV.rel]
  | func f=>simp only [ev,Act.eval,AV.rel]
theorem x1u {ops:List Oper} {o:Oper} {fr:List AV} {A B:Prop} (h:q7v ops o.guard fr A B) :
    (A∧∀ β a,Agree ops o fr β a→Region.wanted o (yielded ops.toArray a.tmps)=true)∨(B∧∀ β a,Agree ops o fr β a→Region.wanted o (yielded ops.toArray a.tmps)=false):=by
  unfold q7v at h
  split at h
  · rename_i hg;exact .inl ⟨h,fun β a _=>by simp [Region.wanted,hg]⟩
  · rename_i j want hg
    split at h
    · rename_i d hd
      rw [z4l] at hd
      have hlook:d∈o.looksAt ops.toArray:=by
        refine List.mem_append_right _ ?_
        have:(ops.toArray[j]?).bind (·.dst)=some d:=by simpa using hd
        simp [hg]
        simpa using this
      have key:∀ (v:AV),nthA fr d=v→v≠.any→∀ β a,Agree ops o fr β a→∃ y,a.tmps[d]? = some y∧v.rel β y:=by
        intro v hv hne β a ha
        rw [q5s] at hv
        cases hx:fr[d]? with
        | none=>rw [hx] at hv;exact absurd hv.symm hne
        | some x =>
          rw [hx] at hv;simp at hv;subst hv
          exact ha d hlook _ hx
      have hdst:(ops.toArray[j]?).bind (·.dst)=some d:=by simpa using hd
      split at h
      · rename_i b hb
        have hy:∀ β a,Agree ops o fr β a→yielded ops.toArray a.tmps j=some b:=fun β a ha=>by
          obtain ⟨y,h1,h2⟩:=key _ hb (by simp) β a ha
          simp only [AV.rel] at h2
          subst h2
          unfold yielded;rw [hdst];simp [h1]
        split at h
        · cases b
          · exact .inr ⟨h.no rfl,fun β a ha=>by simp [Region.wanted,hg,hy β a ha]⟩
          · exact .inl ⟨h.yes rfl,fun β a ha=>by simp [Region.wanted,hg,hy β a ha]⟩
        · cases b
          · exact .inl ⟨h.no rfl,fun β a ha=>by simp [Region.wanted,hg,hy β a ha]⟩
          · exact .inr ⟨h.yes rfl,fun β a ha=>by simp [Region.wanted,hg,hy β a ha]⟩
      · rename_i vs hb
        refine .inr ⟨h,fun β a ha=>?_⟩
        obtain ⟨y,h1,h2⟩:=key _ hb (by simp) β a ha
        simp only [AV.rel] at h2
        subst h2
        have hy:yielded ops.toArray a.tmps j=none:=by
          unfold yielded;rw [hdst];simp [h1]
        simp [Region.wanted,hg,hy]
      · exact h.elim
    · exact h.elim
def Pre (hp hq:List Blk):Prop:=∃ r,hq=hp++r
theorem Pre.refl (hp:List Blk):Pre hp hp:=⟨[],by simp⟩
theorem Pre.trans {a b c:List Blk} (h:Pre a b) (k:Pre b c):Pre a c:=by
  obtain ⟨r,rfl⟩:=h;obtain ⟨s,rfl⟩:=k;exact ⟨r++s,by simp⟩
theorem Pre.get {a b:List Blk} (h:Pre a b) {k:Nat} {x:Blk} (hx:a[k]? = some x):b[k]? = some x:=by
  obtain ⟨r,rfl⟩:=h
  rw [List.getElem?_append_left (List.getElem?_eq_some_iff.1 hx).1];exact hx
theorem Pre.len {a b:List Blk} (h:Pre a b):a.length≤b.length:=by obtain ⟨r,rfl⟩:=h;simp
def Does (P:Program) (all:List Oper) (G:Mem) (base0:List Blk) (oldP:Nat→Blk→Prop) (ks:List Nat) (see:List (Nat × Nat)) (n:Nat) (fr:List AV) (hp hp':List Blk) (o:Oper) (v:AV) (st:Option (Nat × Blk)):Prop :=
  ((∀ β a,Agree all o fr β a→Region.wanted o (yielded all.toArray a.tmps)=true)∧st=none∧(hp'.length≠hp.length→hp.length∉ks)∧∃ hs,(hs=hp∨hs=q23 (visK see ks n) [] base0 0 hp)∧x8b P o fr hs hp G v hp') ∨
  ((∀ β a,Agree all o fr β a→Region.wanted o (yielded all.toArray a.tmps)=false)∧st=none∧v=.val undef∧hp'=hp) ∨
  ((∀ β a,Agree all o fr β a→Region.wanted o (yielded all.toArray a.tmps)=true)∧v=.val undef∧hp'=hp∧∃ k old new,st=some (k,new)∧oldP k old∧old.live=true∧k∈ks∧(q3k o=true∧q8l all see n k=true)∧z7x P o fr G k old new) ∨
  ((∀ β a,Agree all o fr β a→Region.wanted o (yielded all.toArray a.tmps)=true)∧∃ k old x,hp'=hp++[x]∧hp.length∉ks∧st=some (k,.gone)∧oldP k old∧old.live=true∧k∈ks∧(q3k o=true∧q8l all see n k=true)∧z4o P o fr hp G k old hp.length x v) ∨
  ((∀ β a,Agree all o fr β a→Region.wanted o (yielded all.toArray a.tmps)=true)∧st=none∧hp'=hp++[.gone]∧hp.length∈ks∧∃ x,nthB base0 hp.length=x∧x8s P o fr hp G x v)
theorem Does.pre {P:Program} {all:List Oper} {G:Mem} {base0:List Blk} {oldP:Nat→Blk→Prop} {ks:List Nat} {see:List (Nat × Nat)} {n:Nat} {fr:List AV} {hp hp':List Blk} {o:Oper} {v:AV} {st:Option (Nat × Blk)} (h:Does P all G base0 oldP ks see n fr hp hp' o v st):Pre hp hp':=by
  rcases h with ⟨_,_,_,hs,_,hc⟩ |⟨_,_,_,rfl⟩ |⟨_,_,rfl,_⟩ |⟨_,_,_,x,rfl,_⟩ |⟨_,_,rfl,_⟩
  · rcases hc with ⟨rfl,_⟩ |⟨x,rfl,_⟩ |⟨rfl,_⟩ |⟨x,rfl,_⟩
    · exact Pre.refl _
    · exact ⟨_,rfl⟩
    · exact Pre.refl _
    · exact ⟨_,rfl⟩
  · exact Pre.refl _
  · exact Pre.refl _
  · exact ⟨_,rfl⟩
  · exact ⟨_,rfl⟩
theorem q9s {ks:List Nat} {hp:List Blk} {x:Blk} (h:∀ k∈ks,∀ z,hp[k]? = some z→z=.gone) (hx:hp.length∈ks→x=.gone):∀ k∈ks,∀ z,(hp++[x])[k]? = some z→z=.gone:=by
  intro k hk z hz
  rcases Nat.lt_or_ge k hp.length with h1 |h1
  · rw [List.getElem?_append_left h1] at hz
    exact h k hk z hz
  · rw [List.getElem?_append_right h1] at hz
    have hk0:k-hp.length=0:=by
      have:=(List.getElem?_eq_some_iff.1 hz).1
      simp at this;omega
    rw [hk0] at hz
    simp at hz
    subst hz
    exact hx (by rw [show hp.length=k by omega];exact hk)
theorem Does.gone {P:Program} {all:List Oper} {G:Mem} {base0:List Blk} {oldP:Nat→Blk→Prop} {ks:List Nat} {see:List (Nat × Nat)} {n:Nat} {fr:List AV} {hp hp':List Blk} {o:Oper} {v:AV} {st:Option (Nat × Blk)} (h:Does P all G base0 oldP ks see n fr hp hp' o v st) (hg:∀ k∈ks,∀ z,hp[k]? = some z→z=.gone):∀ k∈ks,∀ z,hp'[k]? = some z→z=.gone:=by
  rcases h with ⟨_,_,hn,hs,_,hc⟩ |⟨_,_,_,rfl⟩ |⟨_,_,rfl,_⟩ |⟨_,_,_,x,rfl,hn,_⟩ |⟨_,_,rfl,_⟩
  · rcases hc with ⟨rfl,_⟩ |⟨x,rfl,_⟩ |⟨rfl,_⟩ |⟨x,rfl,_⟩
    · exact hg
    · exact q9s hg (fun hm=>absurd hm (hn (by simp)))
    · exact hg
    · exact q9s hg (fun hm=>absurd hm (hn (by simp)))
  · exact hg
  · exact hg
  · exact q9s hg (fun hm=>absurd hm hn)
  · exact q9s hg (fun _=>rfl)
theorem Does.imp {P:Program} {all:List Oper} {G:Mem} {base0:List Blk} {oldP oldQ:Nat→Blk→Prop} {ks:List Nat} {see:List (Nat × Nat)} {n:Nat} {fr:List AV} {hp hp':List Blk} {o:Oper} {v:AV} {st:Option (Nat × Blk)} (hi:∀ k old new,st=some (k,new)→oldP k old→oldQ k old) (h:Does P all G base0 oldP ks see n fr hp hp' o v st):Does P all G base0 oldQ ks see n fr hp hp' o v st:=by
  rcases h with h |h |⟨h1,h2,h3,k,old,new,h4,h5,h6⟩ |⟨h1,k,old,x,h2,h3,h4,h5,h6⟩ |h
  · exact .inl h
  · exact .inr (.inl h)
  · exact .inr (.inr (.inl ⟨h1,h2,h3,k,old,new,h4,hi k old new h4 h5,h6⟩))
  · exact .inr (.inr (.inr (.inl ⟨h1,k,old,x,h2,h3,h4,hi k old _ h4 h5,h6⟩)))
  · exact .inr (.inr (.inr (.inr h)))
def x3r (base0:List Blk) (ps:List (Nat × Blk)) (st:Nat→Option (Nat × Blk)) (i k:Nat) (old:Blk):Prop :=
  (∃ i',i'<i∧st i'=some (k,old)∧∀ j,i'<j→j<i→∀ x,st j≠some (k,x))∨((∀ j,j<i→∀ x,st j≠some (k,x))∧curB base0 ps k=old)
structure Seen (P:Program) (all:List Oper) (G:Mem) (base0:List Blk) (oldP:Nat→Blk→Prop) (ks:List Nat) (see:List (Nat × Nat)) (n:Nat) (fr0 frF:List AV) (hp0 hpF:List Blk) (ds:List (Option Tmp)) (i:Nat) (o:Oper) (lo hi:Nat) (st:Option (Nat × Blk)):Prop where
  out:∃ fr hp hp' v,hp.length=lo∧hp'.length=hi∧Pre hp0 hp∧Pre hp hp'∧Pre hp' hpF∧(∀ k∈ks,∀ z,hp[k]? = some z→z=.gone)∧(∀ x,fr[x]? = if some x∈ds.take i then frF[x]? else fr0[x]?)∧(∀ d,o.dst=some d→d<fr0.length→frF[d]? = some v) ∧
    Does P all G base0 oldP ks see (n+i) fr hp hp' o v st
theorem x8c {P:Program} {T:Tab} (hT:TOk P T) {all:List Oper} {G:Mem} {base0:List Blk} {ks:List Nat} {see:List (Nat × Nat)}:∀ (l:List Oper) (n:Nat) (fr:List AV) (hp:List Blk) (ps:List (Nat × Blk)) (K:List AV→List Blk→List (Nat × Blk)→Prop),(∀ i o,l[i]? = some o→all[n+i]? = some o)→(l.filterMap (·.dst)).Nodup→(∀ k∈ks,∀ z,hp[k]? = some z→z=.gone)→q49 P T all base0 ks see l n fr hp G ps K →
    ∃ frF hpF psF,K frF hpF psF∧Pre hp hpF∧frF.length=fr.length∧(∀ x,some x∉l.map (·.dst)→frF[x]? = fr[x]?)∧∃ (lo:Nat→Nat) (st:Nat→Option (Nat × Blk)),lo 0=hp.length∧(∀ i,lo i≤lo (i+1)) ∧
      (∀ i o,l[i]? = some o→Seen P all G base0 (x3r base0 ps st i) ks see n fr frF hp hpF (l.map (·.dst)) i o (lo i) (lo (i+1)) (st i)) ∧
      (∀ i,l.length≤i→st i=none)∧(∀ i k new,st i=some (k,new)→k∈ps.map (·.1)→z1d all (n+i)=true)∧(∀ i j k new new',i<j→st i=some (k,new)→st j=some (k,new')→q1e all 12 (n+j) (n+i)=true) ∧
      (∀ k,(∃ i new,st i=some (k,new)∧(∀ j,i<j→∀ x,st j≠some (k,x))∧q2h k psF=some new)∨((∀ i x,st i≠some (k,x))∧q2h k psF=q2h k ps))
  | [],n,fr,hp,ps,K,_,_,_,h=>⟨fr,hp,ps,h,Pre.refl _,rfl,fun _ _=>rfl,fun _=>hp.length,fun _=>none,rfl,fun _=>Nat.le_refl _,(fun i o hi=>by simp at hi),fun _ _=>rfl,(fun i k new h=>by cases h),(fun i j k a b _ h=>by cases h),(fun k=>.inr ⟨fun i x h=>(by cases h),rfl⟩)⟩
  | o::l,n,fr,hp,ps,K,hall,hnd,hmk,h=>by
    -- the step
    have step:∃ v fr' hp' ps' st,q49 P T all base0 ks see l (Nat.succ n) fr' hp' G ps' K∧(fr'=match o.dst with |some d=>fr.set d v |none=>fr) ∧
        ((st=none∧ps'=ps)∨∃ k new,st=some (k,new)∧ps'=(k,new)::ps∧(k∉ps.map (·.1)∨z1d all n=true)∧q3k o=true) ∧
        Does P all G base0 (fun k old=>curB base0 ps k=old) ks see n fr hp hp' o v st:=by
      have put:∀ (v:AV) (K':List AV→Prop),putF o.dst v fr K'→K' (match o.dst with |some d=>fr.set d v |none=>fr):=by
        intro v K' hk
        unfold putF at hk
        split at hk
        · rename_i d hd;rw [q19,q1c] at hk;simpa [hd] using hk
        · rename_i hd;simpa [hd] using hk
      rw [x3q] at h
      rcases x1u h with ⟨h1,h2⟩ |⟨h1,h2⟩
      · have plain:(seeF see ks base0 n hp fun hs=>vrop P T o.op fr hs G fun v hs'=>newF ks hs hs' (q7o see ks n hs' fun hp'=>putF o.dst v fr fun fr'=>q49 P T all base0 ks see l (Nat.succ n) fr' hp' G ps K))→∃ v fr' hp' ps' st,q49 P T all base0 ks see l (Nat.succ n) fr' hp' G ps' K∧(fr'=match o.dst with |some d=>fr.set d v |none=>fr) ∧
            ((st=none∧ps'=ps)∨∃ k new,st=some (k,new)∧ps'=(k,new)::ps∧(k∉ps.map (·.1)∨z1d all n=true)∧q3k o=true) ∧
            Does P all G base0 (fun k old=>curB base0 ps k=old) ks see n fr hp hp' o v st:=by
          intro h1
          obtain ⟨v,hs,hp',h0,h6,h3,h4⟩:=x6w hT hmk h1
          exact ⟨v,_,hp',ps,none,put v _ h4,rfl,.inl ⟨rfl,rfl⟩,.inl ⟨h2,rfl,h6,hs,h0,h3⟩⟩
        generalize ho:o.op=op at h1
        unfold vhop at h1
        split at h1
        · rename_i t x z
          obtain ⟨k,old,new,q1,q2,q3,q4,q5,q6⟩:=x8q (P:=P) (G:=G) hT ho h1
          exact ⟨_,_,hp,_,some (k,new),put _ _ q6,rfl,.inr ⟨k,new,rfl,rfl,q4.1,by simp [q3k,ho]⟩,.inr (.inr (.inl ⟨h2,rfl,rfl,k,old,new,rfl,q1,q2,q3,⟨by simp [q3k,ho],q4.2⟩,q5⟩))⟩
        · rename_i e
          rcases x8r h1 with ⟨hk,h3⟩ |h3
          · obtain ⟨v,x,h4,h5⟩:=q9n hT ho h3
            obtain ⟨h6,h7⟩:=h4
            rw [q09] at h7
            have hx:nthB (hp++[x]) hp.length=x:=by rw [q3j];simp
            rw [hx] at h6
            exact ⟨v,_,hp++[.gone],ps,none,put _ _ h7,rfl,.inl ⟨rfl,rfl⟩,.inr (.inr (.inr (.inr ⟨h2,rfl,rfl,hk,x,h6,h5⟩)))⟩
          · exact plain (by rw [ho];exact h3)
        · rename_i x xs ts
          rw [q8y] at h1
          split at h1
          · rename_i k post hargs
            split at h1
            · rename_i hel
              obtain ⟨hk2,h5⟩:=q0t h1
              simp only [Bool.and_eq_true] at hk2
              have hkn:k∉ps.map (·.1):=fun hm=>by rw [(q2j _ _).2 hm] at hk2;simp at hk2
              split at h5
              · rename_i f hfx
                obtain ⟨old,x',q1,q2,q3,q4⟩:=x3p ho hfx hargs h5 hp.length
                obtain ⟨q6,q5⟩:=q0t (q1y q4)
                rw [q09] at q5
                exact ⟨_,_,hp++[x'],_,some (k,.gone),put _ _ q5,rfl,.inr ⟨k,.gone,rfl,rfl,.inl hkn,by simp [q3k,ho]⟩,.inr (.inr (.inr (.inl ⟨h2,k,old,x',rfl,fun hm=>by rw [(q2j _ _).2 hm] at q6;simp at q6,rfl,(by show curB _ _ _=_;unfold curB;rw [z2l hkn];simp only;rw [q3j,q1];rfl),q2,(q2j _ _).1 hel,⟨by simp [q3k,ho],hk2.2⟩,q3 hp⟩)))⟩
              · exact h5.elim
            · exact plain (by rw [ho];exact h1)
          · exact plain (by rw [ho];exact h1)
        · rename_i d x t t'
          split at h1
          · rename_i k hd
            obtain ⟨ht,h1b⟩:=q0t h1
            clear h1
            obtain rfl:=Nat.eq_of_beq_eq_true ht
            obtain ⟨hk1,h5⟩:=q0t h1b
            simp only [Bool.and_eq_true] at hk1
            obtain ⟨hel,hk2⟩:=hk1
            have hkn:k∉ps.map (·.1):=fun hm=>by rw [(q2j _ _).2 hm] at hk2;simp at hk2
            obtain ⟨old,x',q1,q2,q3,q4⟩:=x41 (G:=G) hT ho hd h5 hp.length
            obtain ⟨q6,q5⟩:=q0t (q1y q4)
            rw [q09] at q5
            exact ⟨_,_,hp++[x'],_,some (k,.gone),put _ _ q5,rfl,.inr ⟨k,.gone,rfl,rfl,.inl hkn,by simp [q3k,ho]⟩,.inr (.inr (.inr (.inl ⟨h2,k,old,x',rfl,fun hm=>by rw [(q2j _ _).2 hm] at q6;simp at q6,rfl,(by show curB _ _ _=_;unfold curB;rw [z2l hkn];simp only;rw [q3j,q1];rfl),q2,(q2j _ _).1 hel,⟨by simp [q3k,ho],hk2.2⟩,q3⟩)))⟩
          · exact plain (by rw [ho];exact h1)
        · rw [← ho] at h1
          exact plain h1
      · exact ⟨_,_,hp,ps,none,put _ _ h1,rfl,.inl ⟨rfl,rfl⟩,.inr (.inl ⟨h2,rfl,rfl,rfl⟩)⟩
    obtain ⟨v,fr',hp',ps',st0,h1,h3,h5,h4⟩:=step
    have h2:=h4.pre
    have hnd':(l.filterMap (·.dst)).Nodup:=by
      cases hd:o.dst with
      | none=>simpa [hd] using hnd
      | some d=>rw [List.filterMap_cons_some hd] at hnd;exact hnd.of_cons
    obtain ⟨frF,hpF,psF,g1,g2,g3,g4,lo,st,g5,g6,g7,g8,g9,g10,g11⟩:=x8c hT l (Nat.succ n) fr' hp' ps' K (fun i q hq=>by have:=hall (i+1) q (by simpa using hq);rwa [show n+(i+1)=Nat.succ n+i by omega] at this) hnd' (h4.gone hmk) h1
    have hlen:fr'.length=fr.length:=by rw [h3];split <;> simp
    have hdl:∀ d,o.dst=some d→some d∉l.map (·.dst):=fun d hd hm=>by
      rw [List.filterMap_cons_some hd] at hnd
      refine (List.nodup_cons.1 hnd).1 ?_
      obtain ⟨o',h5,h6⟩:=List.mem_map.1 hm
      exact List.mem_filterMap.2 ⟨o',h5,h6⟩
    have hfr':∀ x,some x≠o.dst→fr'[x]? = fr[x]?:=fun x hx=>by
      rw [h3]
      split
      · rename_i d hd;rw [List.getElem?_set_ne (fun e=>hx (by rw [hd,e]))]
      · rfl
    have hps:∀ x,x∈ps→x∈ps':=fun x hx=>by
      rcases h5 with ⟨_,e⟩ |⟨k,new,_,e,_⟩ <;> rw [e]
      · exact hx
      · exact List.mem_cons_of_mem _ hx
    have hfind:∀ k,(∀ x,st0≠some (k,x))→q2h k ps'=q2h k ps:=fun k hk=>by
      rcases h5 with ⟨_,e⟩ |⟨k',new',e1,e,_⟩
      · rw [e]
      · rw [e]
        exact x3o fun he=>hk new' (by rw [e1,he])
    have hcur:∀ k,(∀ x,st0≠some (k,x))→curB base0 ps' k=curB base0 ps k:=fun k hk=>by unfold curB;rw [hfind k hk]
    have hnew:∀ k x,st0=some (k,x)→q2h k ps'=some x∧curB base0 ps' k=x:=fun k x hk=>by
      rcases h5 with ⟨e,_⟩ |⟨k',new',e1,e,_⟩
      · rw [e] at hk;cases hk
      · rw [e1] at hk
        simp only [Option.some.injEq,Prod.mk.injEq] at hk
        obtain ⟨e2,e3⟩:=hk
        rw [e2,e3] at e
        have:q2h k ps'=some x:=by rw [e];exact x40
        exact ⟨this,by unfold curB;rw [this]⟩
    refine ⟨frF,hpF,psF,g1,h2.trans g2,g3.trans hlen,fun x hx=>?_,fun i=>match i with |0=>hp.length |i+1=>lo i,fun i=>match i with |0=>st0 |i+1=>st i,rfl,fun i=>?_,fun i q hq=>?_,fun i hi=>?_,fun i k new hi hkp=>?_,fun i j k a b hij hi hj=>?_,fun k=>?_⟩
    · rw [List.map_cons,List.mem_cons,not_or] at hx
      rw [g4 x hx.2,hfr' x hx.1]
    · cases i with
      | zero=>show hp.length≤lo 0;rw [g5];exact h2.len
      | succ i=>exact g6 i
    · cases i with
      | zero =>
        simp at hq;subst hq
        refine ⟨fr,hp,hp',v,rfl,by show hp'.length=lo 0;rw [g5],Pre.refl _,h2,g2,hmk,fun x=>by simp,fun d hd hlt=>?_,h4.imp fun k old new _ hc=>.inr ⟨fun j hj=>by omega,hc⟩⟩
        rw [g4 d (hdl d hd),h3,hd]
        simp [hlt]
      | succ i =>
        obtain ⟨fr2,hp2,hp2',v2,k1,k2,k3,k4,k5,kg,k6,k7,k8⟩:=(g7 i q (by simpa using hq)).out
        rw [show Nat.succ n+i=n+(i+1) by omega] at k8
        refine ⟨fr2,hp2,hp2',v2,k1,k2,h2.trans k3,k4,k5,kg,fun x=>?_,fun d hd hlt=>k7 d hd (by rw [hlen];exact hlt),k8.imp fun k old new _ hc=>?_⟩
        rotate_left
        · rcases hc with ⟨i',c1,c2,c3⟩ |⟨c1,c2⟩
          · exact .inl ⟨i'+1,by omega,c2,fun j hj1 hj2 x=>match j,hj1,hj2 with |j+1,hj1,hj2=>c3 j (by omega) (by omega) x⟩
          · rcases (show st0=none∨∃ e,st0=some e by cases st0;exact .inl rfl;exact .inr ⟨_,rfl⟩) with hst0 |⟨e,hst0⟩
            · exact .inr ⟨fun j hj x=>match j,hj with |0,_=>by simp only;rw [hst0];simp |j+1,hj=>c1 j (by omega) x,by rw [← c2];exact (hcur k (fun x=>by rw [hst0];simp)).symm⟩
            · by_cases he:e.1=k
              · have e2:st0=some (k,e.2):=by rw [hst0,← he]
                refine .inl ⟨0,by omega,?_,fun j hj1 hj2 x=>match j,hj1,hj2 with |j+1,hj1,hj2=>c1 j (by omega) x⟩
                simp only
                rw [e2,← c2,(hnew k _ e2).2]
              · have hne:∀ x,st0≠some (k,x):=fun x h0=>by rw [hst0] at h0;cases h0;exact he rfl
                exact .inr ⟨fun j hj x=>match j,hj with |0,_=>hne x |j+1,hj=>c1 j (by omega) x,by rw [← c2];exact (hcur k hne).symm⟩
        rw [k6 x,List.map_cons,List.take_succ_cons]
        by_cases hx:some x=o.dst
        · have h5:some x∉(l.map (·.dst)).take i:=fun hm=>hdl x hx.symm (List.mem_of_mem_take hm)
          rw [if_neg h5,if_pos (by rw [hx];simp)]
          have h6:some x∉l.map (·.dst):=hdl x hx.symm
          rw [g4 x h6]
        · rw [hfr' x hx]
          by_cases hm:some x∈(l.map (·.dst)).take i
          · rw [if_pos hm,if_pos (List.mem_cons_of_mem _ hm)]
          · rw [if_neg hm,if_neg (by rw [List.mem_cons];simp [hx,hm])]
    · cases i with
      | zero=>simp at hi
      | succ i=>exact g8 i (by simpa using hi)
    · cases i with
      | zero =>
        rcases h5 with ⟨e,_⟩ |⟨k',new',e,_,h6,_⟩
        · simp only at hi;rw [e] at hi;cases hi
        · simp only at hi;rw [e] at hi;cases hi
          rcases h6 with h6 |h6
          · exact absurd hkp h6
          · exact h6
      | succ i =>
        obtain ⟨x,hx1,hx2⟩:=List.mem_map.1 hkp
        have:=g9 i k new hi (List.mem_map.2 ⟨x,hps x hx1,hx2⟩)
        rwa [show Nat.succ n+i=n+(i+1) by omega] at this
    · cases i with
      | zero =>
        cases j with
        | zero=>omega
        | succ j =>
          rcases h5 with ⟨e,_⟩ |⟨k',new',e,e',_,hw⟩
          · simp only at hi;rw [e] at hi;cases hi
          · simp only at hi;rw [e] at hi;cases hi
            have h6:=g9 j k b hj (by rw [e'];simp)
            have h7:=x6u h6 (j:=n) (by omega) (by have:=hall 0 o (by simp);simpa using this) hw
            rwa [show Nat.succ n+j=n+(j+1) by omega] at h7
      | succ i =>
        cases j with
        | zero=>omega
        | succ j =>
          have:=g10 i j k a b (by omega) hi hj
          rwa [show Nat.succ n+j=n+(j+1) by omega,show Nat.succ n+i=n+(i+1) by omega] at this
    · rcases g11 k with ⟨i,new,h6,h7,h8⟩ |⟨h6,h7⟩
      · exact .inl ⟨i+1,new,h6,fun j hj x=>match j,hj with |j+1,hj=>h7 j (by omega) x,h8⟩
      · rcases (show st0=none∨∃ e,st0=some e by cases st0;exact .inl rfl;exact .inr ⟨_,rfl⟩) with hst0 |⟨e,hst0⟩
        · exact .inr ⟨fun i x=>match i with |0=>by simp only;rw [hst0];simp |i+1=>h6 i x,by rw [h7,hfind k (fun x=>by rw [hst0];simp)]⟩
        · by_cases he:e.1=k
          · have e2:st0=some (k,e.2):=by rw [hst0,← he]
            exact .inl ⟨0,e.2,e2,fun j hj x=>match j,hj with |j+1,hj=>h6 j x,by rw [h7,(hnew k _ e2).1]⟩
          · have hne:∀ x,st0≠some (k,x):=fun x h0=>by rw [hst0] at h0;cases h0;exact he rfl
            exact .inr ⟨fun i x=>match i with |0=>hne x |i+1=>h6 i x,by rw [h7,hfind k hne]⟩
/-! ### The order -/
def x3s (ops:List Oper) (N:Nat):Bool :=
  Nat.ble N ops.length &&
  (ops.zipIdx.all fun (o,i)=>o.after.toList.all fun e=>!Region.binds .any e||Nat.blt e.on i) &&
  ((ops.take N).zipIdx.all fun (o,i)=>(o.looksAt ops.toArray).all fun x=>(ops.take N).zipIdx.all fun (q,j)=>!(q.dst==some x)||Nat.beq i j||(Nat.blt j i&&depB o j)||(Nat.blt i j&&depB q i)) &&
  decide ((ops.take N).filterMap (·.dst)).Nodup
def q9t (ops:List Oper) (N:Nat):Bool:=x3s ops N&&((ops.zipIdx.drop N).all fun (_,i)=>(List.range i).all fun j=>q1e ops 12 i j)
structure DrawOk (ops:List Oper) (N:Nat):Prop where
  le:N≤ops.length
  edge:∀ (i:Nat) o,ops[i]? = some o→∀ e∈o.after,Region.binds .any e=true→e.on<i
  look:∀ (i:Nat) o,i<N→ops[i]? = some o→∀ x∈o.looksAt ops.toArray,∀ (j:Nat) q,j<N→ops[j]? = some q→q.dst=some x→i=j∨(j<i∧depB o j=true)∨(i<j∧depB q i=true)
  nodup:((ops.take N).filterMap (·.dst)).Nodup
theorem q1g {α:Type} {l:List α} {p:α × Nat→Bool} (h:l.zipIdx.all p=true) {i:Nat} {x:α} (hx:l[i]? = some x):p (x,i)=true:=by
  rw [List.all_eq_true] at h
  exact h _ (by rw [List.mem_zipIdx_iff_getElem?];simpa using hx)
theorem x6x {ops:List Oper} {N:Nat} (h:x3s ops N=true):DrawOk ops N:=by
  simp only [x3s,Bool.and_eq_true] at h
  obtain ⟨⟨⟨h1,h2⟩,h3⟩,h4⟩:=h
  refine ⟨Nat.le_of_ble_eq_true h1,fun i o ho e he hb=>?_,fun i o hi ho x hx j q hj hq hd=>?_,of_decide_eq_true h4⟩
  · have:=q1g h2 ho
    rw [List.all_eq_true] at this
    have:=this e (by simpa using he)
    simp only [hb,Bool.not_true,Bool.false_or] at this
    exact q1w this
  · have ho':(ops.take N)[i]? = some o:=by rw [List.getElem?_take,if_pos hi];exact ho
    have hq':(ops.take N)[j]? = some q:=by rw [List.getElem?_take,if_pos hj];exact hq
    have:=q1g h3 ho'
    rw [List.all_eq_true] at this
    have:=q1g (this x hx) hq'
    simp only [hd,beq_self_eq_true,Bool.not_true,Bool.false_or,Bool.or_eq_true,Bool.and_eq_true] at this
    rcases this with (h6 |⟨h6,h7⟩) |⟨h6,h7⟩
    · exact .inl (Nat.eq_of_beq_eq_true h6)
    · exact .inr (.inl ⟨q1w h6,h7⟩)
    · exact .inr (.inr ⟨q1w h6,h7⟩)
theorem x1v {ops:List Oper} {N i:Nat} {o:Oper} (hi:N≤i) (ho:ops[i]? = some o):(o,i)∈ops.zipIdx.drop N:=by
  rw [List.mem_iff_getElem?]
  refine ⟨i-N,?_⟩
  rw [List.getElem?_drop,show N+(i-N)=i by omega,List.getElem?_zipIdx,ho];simp
theorem z1f {ops:List Oper} {N:Nat} (h:q9t ops N=true):DrawOk ops N∧∀ (i:Nat) o,N≤i→ops[i]? = some o→∀ j,j<i→q1e ops 12 i j=true:=by
  rw [q9t,Bool.and_eq_true] at h
  refine ⟨x6x h.1,fun i o hi ho j hj=>?_⟩
  have h5:=h.2
  rw [List.all_eq_true] at h5
  have:=h5 _ (x1v hi ho)
  rw [List.all_eq_true] at this
  exact this j (List.mem_range.2 hj)
def unl (listed:Array Bool):Nat→Nat
  | 0=>0
  | n+1=>unl listed n+(if listed.getD n true=false then 1 else 0)
theorem z0o {listed:Array Bool} {i:Nat} (hi:listed.getD i true=false):∀ (n:Nat),unl (listed.setIfInBounds i true) n+(if i<n then 1 else 0)=unl listed n
  | 0=>by simp [unl]
  | n+1=>by
    have ih:=z0o hi n
    have hlt:i<listed.size:=by
      rcases Nat.lt_or_ge i listed.size with h |h
      · exact h
      · simp [Array.getD,Nat.not_lt.2 h] at hi
    simp only [unl]
    by_cases hin:i=n
    · subst hin
      have h1:(listed.setIfInBounds i true).getD i true=true:=by simp [Array.getD,hlt]
      rw [h1,hi]
      simp at ih ⊢
      omega
    · have h1:(listed.setIfInBounds i true).getD n true=listed.getD n true:=by
        rw [Array.getD_eq_getD_getElem?,Array.getD_eq_getD_getElem?,Array.getElem?_setIfInBounds_ne hin]
      rw [h1]
      have e:(if i<n+1 then 1 else 0)=(if i<n then 1 else 0):=by
        by_cases h:i<n
        · simp [h,show i<n+1 by omega]
        · simp [h,show ¬ i<n+1 by omega]
      rw [e];omega
theorem q7d {listed:Array Bool}:∀ (n:Nat),unl listed n=0→∀ i,i<n→listed.getD i true=true
  | 0,_,i,h=>by omega
  | n+1,h,i,hi=>by
    simp only [unl] at h
    rcases Nat.lt_or_ge i n with h1 |h1
    · exact q7d n (by omega) i h1
    · have:i=n:=by omega
      subst this
      cases hl:listed.getD i true with
      | true=>rfl
      | false=>rw [hl] at h;simp at h
theorem z3h {listed:Array Bool}:∀ (n:Nat),unl listed n≠0→∃ i,i<n∧listed.getD i true=false∧∀ j,j<i→listed.getD j true=true
  | 0,h=>by simp [unl] at h
  | n+1,h=>by
    by_cases h0:unl listed n=0
    · refine ⟨n,by omega,?_,q7d n h0⟩
      simp only [unl,h0] at h
      cases hl:listed.getD n true with
      | false=>rfl
      | true=>rw [hl] at h;simp at h
    · obtain ⟨i,h1,h2,h3⟩:=z3h n h0
      exact ⟨i,by omega,h2,h3⟩
end Go.Proofs.YtegpkpilfgohhaaGreat
namespace Go.Proofs.YtegpkpilfgohhaaGreat
open Go.RowKit
theorem q1q {l:Array Bool} {i:Nat} (h:i<l.size) (b d:Bool):(l.setIfInBounds i b).getD i d=b:=by simp [Array.getD,h]
theorem q0m {l:Array Bool} {i j:Nat} (h:i≠j) (b d:Bool):(l.setIfInBounds i b).getD j d=l.getD j d:=by
  rw [Array.getD_eq_getD_getElem?,Array.getD_eq_getD_getElem?,Array.getElem?_setIfInBounds_ne h]
theorem q6g {l:Array Bool} {i:Nat} (h:i<l.size):l.getD i true=l.getD i false:=by simp [Array.getD,h]
section
variable {P:Program} {T:Tab} {ops:List Oper} {N:Nat} {w0:World} {G0:Mem} {β0:Nm} {ds:List Deferred} {Q:Exit→Act→World→Prop} {K:List AV→List Blk→Mem→Prop}
theorem z1g {listed:Array Bool} (h:∀ i,i<ops.length→listed.getD i true=true):Region.ready .any ops.toArray listed=[]:=by
  rw [List.eq_nil_iff_forall_not_mem]
  intro i hi
  obtain ⟨h1,o,h2,_⟩:=mem_ready.1 hi
  have hlt:i<ops.length:=by
    have:=(Array.getElem?_eq_some_iff.1 h2).1;simpa using this
  rw [h i hlt] at h1;cases h1
theorem z5n (hok:DrawOk ops N) {listed:Array Bool} (hs:listed.size=ops.length) (h:unl listed ops.length≠0):Region.ready .any ops.toArray listed≠[]:=by
  obtain ⟨i,h1,h2,h3⟩:=z3h _ h
  have ho:ops[i]? = some ops[i]:=List.getElem?_eq_getElem h1
  have:i∈Region.ready .any ops.toArray listed:=mem_ready.2 ⟨h2,ops[i],by simpa using ho,fun e he hb=>by
    have h4:=hok.edge i _ ho e he hb
    rw [← q6g (by omega)];exact h3 _ h4⟩
  intro hnil
  rw [hnil] at this;cases this
theorem q2c {L:Nat→Prop} (hcl:∀ (i:Nat) o,ops[i]? = some o→L i→∀ j,depB o j=true→L j):∀ (n i:Nat) o,ops[i]? = some o→(∀ j,depB o j=true→L j)→∀ j,q1e ops n i j=true→L j
  | 0,_,_,_,_,_,h=>by simp [q1e] at h
  | n+1,i,o,ho,hd,j,h=>by
    unfold q1e at h
    rw [ho] at h
    simp only [Bool.or_eq_true] at h
    rcases h with h |h
    · exact hd j h
    · obtain ⟨k,h1,h2⟩:=List.any_eq_true.1 h
      simp only [Bool.and_eq_true] at h2
      have hk:=hd k h2.1
      have hlt:i<ops.length:=(List.getElem?_eq_some_iff.1 ho).1
      have hkl:k<ops.length:=by have:=List.mem_range.1 h1;omega
      have hko:ops[k]? = some ops[k]:=List.getElem?_eq_getElem hkl
      exact q2c hcl n k _ hko (hcl k _ hko hk) j h2.2
theorem x6y (hT:TOk P T) (hok:DrawOk ops N) (htl:∀ (i:Nat) o,N≤i→ops[i]? = some o→∀ j,j<i→q1e ops 12 i j=true) (hQ:∀ a' w',Sat w0 G0 β0 ds K a' w'→Q .normal a' w') :
    ∀ (fuel p:Nat) (listed:Array Bool) (fr:List AV) (hp:List Blk) (G:Mem) (β:Nm) (a:Act) (w:World),N≤p→listed.size=ops.length→(∀ i,i<ops.length→(listed.getD i true=true↔i<p))→unl listed ops.length=fuel→β0.le β→HR w0 G0 β hp G w→AV.rels β fr a.tmps.toList→a.defers=ds →
      vops P T ops (ops.drop p) fr hp G K→q5b P ops.toArray Q fuel listed a w:=by
  intro fuel
  induction fuel with
  | zero =>
    intro p listed fr hp G β a w hNp hs hl hu hβ hr hf hd h
    have hall:=q7d _ hu
    refine ⟨z1g hall,hQ a w ⟨β,fr,hp,G,hβ,hr,hf,hd,?_⟩⟩
    have:ops.drop p=[]:=List.drop_eq_nil_of_le (by
      rcases Nat.lt_or_ge p ops.length with h1 |h1
      · have:=(hl p h1).1 (hall p h1);omega
      · exact h1)
    rw [this] at h;exact h
  | succ fuel ih =>
    intro p listed fr hp G β a w hNp hs hl hu hβ hr hf hd h
    refine ⟨fun he=>absurd he (z5n hok hs (by omega)),fun i hi=>?_⟩
    obtain ⟨h1,o,h2,h3⟩:=mem_ready.1 hi
    have hlt:i<ops.length:=by have:=(Array.getElem?_eq_some_iff.1 h2).1;simpa using this
    have h2':ops[i]? = some o:=by simpa using h2
    have hip:i=p:=by
      have hge:p≤i:=by
        rcases Nat.lt_or_ge i p with h4 |h4
        · rw [(hl i hlt).2 h4] at h1;cases h1
        · exact h4
      rcases Nat.lt_or_ge p i with h4 |h4
      · have hw:=q2c (ops:=ops) (L:=fun j=>j<p) (fun k q hq hk j hj=>by
          obtain ⟨e,he,hb,heq⟩:=z0n hj
          have:=hok.edge k q hq e he hb
          omega) 12 i o h2' (fun j hj=>by
          obtain ⟨e,he,hb,heq⟩:=z0n hj
          have h5:=h3 e he hb
          have h6:=hok.edge i o h2' e he hb
          rw [heq,← q6g (by omega)] at h5
          exact (hl j (by omega)).1 h5) p (htl i o (by omega) h2' p h4)
        omega
      · omega
    subst hip
    have hdrop:ops.drop i=o::ops.drop (i+1):=by
      rw [List.drop_eq_getElem_cons hlt]
      have:ops[i]=o:=by rw [List.getElem?_eq_getElem hlt] at h2';injection h2'
      rw [this]
    rw [hdrop] at h
    have hs':(listed.setIfInBounds i true).size=ops.length:=by simp [hs]
    have hl':∀ j,j<ops.length→((listed.setIfInBounds i true).getD j true=true↔j<i+1):=fun j hj=>by
      by_cases hji:i=j
      · subst hji;rw [q1q (by omega)];simp
      · rw [q0m hji,hl j hj];omega
    have hu':unl (listed.setIfInBounds i true) ops.length=fuel:=by
      have:=z0o h1 ops.length
      rw [if_pos hlt] at this;omega
    unfold q8g
    rw [h2]
    simp only
    rw [z7w] at h
    rcases z2i hf h with ⟨hw,h4⟩ |⟨hw,h4⟩
    · rw [if_pos hw]
      refine .inl (z5f hT h4 w0 G0 β a w Q _ hr hf ?_)
      intro β' v y hp' G' w' g2 g3 g4 g5
      obtain ⟨fr',g6,g7⟩:=z3g (AV.rels_mono g2 _ _ hf) g4 g5
      exact ih (i+1) _ fr' hp' G' β' _ w' (by omega) hs' hl' hu' (Nm.le_trans hβ g2) g3 g6 (by rw [q05];exact hd) g7
    · rw [if_neg (by rw [hw];simp)]
      obtain ⟨fr',g6,g7⟩:=z3g hf (by simp only [AV.rel]:AV.rel β (.val undef) undef) h4
      exact ih (i+1) _ fr' hp G β _ w (by omega) hs' hl' hu' hβ hr g6 (by rw [q05];exact hd) g7
def x0b (P:Program) (ops:List Oper) (N:Nat) (W:Nat→Prop) (w0:World) (G0:Mem) (β0:Nm) (ds:List Deferred) (Q:Exit→Act→World→Prop) (fr:List AV) (hp:List Blk) (G:Mem):Prop :=
  ∀ (fuel:Nat) (listed:Array Bool) (β:Nm) (a:Act) (w:World),listed.size=ops.length→(∀ i,i<ops.length→¬ W i→(listed.getD i true=true↔i<N))→(∀ (i:Nat) o,ops[i]? = some o→listed.getD i true=true→∀ j,depB o j=true→listed.getD j true=true)→unl listed ops.length=fuel→β0.le β→HR w0 G0 β hp G w→a.defers=ds→a.tmps.size=fr.length →
    (∀ x v,fr[x]? = some v→(∀ i o,W i→ops[i]? = some o→o.dst≠some x)→∃ y,a.tmps[x]? = some y∧v.rel β y)→q5b P ops.toArray Q fuel listed a w
theorem x8t (hT:TOk P T) (hok:DrawOk ops N) (htl:∀ (i:Nat) o,N≤i→ops[i]? = some o→∀ j,j<i→q1e ops 12 i j=true) (hQ:∀ a' w',Sat w0 G0 β0 ds K a' w'→Q .normal a' w') {fr:List AV} {hp:List Blk} {G:Mem} (h:vops P T ops (ops.drop N) fr hp G K):x0b P ops N (fun _=>False) w0 G0 β0 ds Q fr hp G :=
  fun fuel listed β a w hs hl _ hu hβ hr hd hsz hf=>x6y hT hok htl hQ fuel N listed fr hp G β a w (Nat.le_refl _) hs (fun i hi=>hl i hi id) hu hβ hr (AV.rels_of_get (by simp [hsz]) fun x v y hx hy=>by
    obtain ⟨y',h1,h2⟩:=hf x v hx (fun _ _ h=>h.elim)
    have h3:a.tmps[x]? = some y:=by simpa using hy
    rw [h1] at h3;cases h3;exact h2) hd h
def x9r (ops:List Oper) (N:Nat) (fr0 frF:List AV) (listed:Array Bool) (x:Nat) (v:AV):Prop :=
  ((∃ (i:Nat) (o:Oper),i<N∧ops[i]? = some o∧o.dst=some x∧listed.getD i true=true)∧frF[x]? = some v)∨((∀ (i:Nat) (o:Oper),i<N→ops[i]? = some o→o.dst=some x→listed.getD i true=false)∧fr0[x]? = some v)
structure HD (ks:List Nat) (base0 hpF:List Blk) (N:Nat) (st:Nat→Option (Nat × Blk)) (L:Nat→Prop) (hp:List Blk):Prop where
  len:hp.length=hpF.length
  at_:∀ (k:Nat) (x:Blk),hp[k]? = some x→(k∉ks∧hpF[k]? = some x)∨(k∈ks∧((∃ i,i<N∧L i∧st i=some (k,x)∧∀ j,j<N→L j→∀ z,st j=some (k,z)→j≤i)∨((∀ i new,i<N→st i=some (k,new)→¬ L i)∧base0[k]? = some x)))
structure HeadInv (P:Program) (ops:List Oper) (N:Nat) (w0:World) (G0:Mem) (β0:Nm) (ds:List Deferred) (G:Mem) (ks:List Nat) (base0:List Blk) (st:Nat→Option (Nat × Blk)) (fr0 frF:List AV) (n0:Nat) (hpF:List Blk) (lo:Nat→Nat) (listed:Array Bool) (a:Act) (w:World):Prop where
  size:listed.size=ops.length
  tail:∀ i,N≤i→i<ops.length→listed.getD i true=false
  closed:∀ (i:Nat) o,ops[i]? = some o→listed.getD i true=true→∀ j,depB o j=true→listed.getD j true=true
  state:∃ β hp,HD ks base0 hpF N st (fun i=>listed.getD i true=true) hp∧β0.le β∧HR w0 G0 β hp G w∧(∀ k y,β k=some y→k<n0∨∃ i,i<N∧listed.getD i true=true∧lo i≤k∧k<lo (i+1))∧(∀ i k new,i<N→listed.getD i true=true→st i=some (k,new)→∃ y,β k=some y)∧a.defers=ds∧a.tmps.size=fr0.length∧∀ x v,x9r ops N fr0 frF listed x v→∃ y,a.tmps[x]? = some y∧v.rel β y
theorem HD.unique {ks:List Nat} {base0 hpF:List Blk} {st:Nat→Option (Nat × Blk)} {L:Nat→Prop} {a b:List Blk} (ha:HD ks base0 hpF N st L a) (hb:HD ks base0 hpF N st L b):a=b:=by
  apply List.ext_getElem?
  intro k
  by_cases hk:k<a.length
  · have h1:=ha.at_ k _ (List.getElem?_eq_getElem hk)
    have h2:=hb.at_ k _ (List.getElem?_eq_getElem (by rw [hb.len,← ha.len];exact hk))
    rw [List.getElem?_eq_getElem hk,List.getElem?_eq_getElem (by rw [hb.len,← ha.len];exact hk)]
    rcases h1 with ⟨n1,e1⟩ |⟨n1,e1⟩ <;> rcases h2 with ⟨n2,e2⟩ |⟨n2,e2⟩
    · rw [e1] at e2;exact e2
    · exact absurd n2 n1
    · exact absurd n1 n2
    · rcases e1 with ⟨i,hi,hL,hs,hx⟩ |⟨hn,hs⟩ <;> rcases e2 with ⟨j,hj,hL',hs',hx'⟩ |⟨hn',hs'⟩
      · have:i=j:=Nat.le_antisymm (hx' i hi hL _ hs) (hx j hj hL' _ hs')
        subst this
        rw [hs] at hs';simp only [Option.some.injEq,Prod.mk.injEq,true_and] at hs';rw [hs']
      · exact absurd hL (hn' i _ hi hs)
      · exact absurd hL' (hn j _ hj hs')
      · rw [hs] at hs';exact hs'
  · rw [List.getElem?_eq_none (by omega),List.getElem?_eq_none (by rw [hb.len,← ha.len];omega)]
theorem x6z {W:Nat→Prop} (hW:∀ i o,W i→ops[i]? = some o→i<N∧q3k o=false) (hok:DrawOk ops N) (htl:∀ (i:Nat) o,N≤i→ops[i]? = some o→∀ j,j<N→¬ W j→q1e ops 12 i j=true) {G:Mem} {fr0 frF:List AV} {hp0 hpF hpE base0:List Blk} {ks:List Nat} {see:List (Nat × Nat)} {st:Nat→Option (Nat × Blk)} {lo:Nat→Nat}
    (hlen:frF.length=fr0.length) (hsame:∀ x,some x∉(ops.take N).map (·.dst)→frF[x]? = fr0[x]?) (hlo0:lo 0=hp0.length) (hlo:∀ i,lo i≤lo (i+1))
    (hseen:∀ i o,(ops.take N)[i]? = some o→Seen P ops G base0 (x3r base0 [] st i) ks see 0 fr0 frF hp0 hpF ((ops.take N).map (·.dst)) i o (lo i) (lo (i+1)) (st i))
    (hstN:∀ i,N≤i→st i=none) (hch:∀ i j k a b,i<j→st i=some (k,a)→st j=some (k,b)→q1e ops 12 j i=true)
    (hE:HD ks base0 hpF N st (fun i=>i<N) hpE) (hend:x0b P ops N W w0 G0 β0 ds Q frF hpE G) :
    ∀ (fuel:Nat) (listed:Array Bool) (a:Act) (w:World),unl listed ops.length=fuel→HeadInv P ops N w0 G0 β0 ds G ks base0 st fr0 frF hp0.length hpF lo listed a w→q5b P ops.toArray Q fuel listed a w:=by
  have mono:∀ i j,i≤j→lo i≤lo j:=fun i j h=>by
    induction h with
    | refl=>exact Nat.le_refl _
    | step _ ih=>exact Nat.le_trans ih (hlo _)
  have stW:∀ i,W i→st i=none:=fun i hi=>by
    cases hs:st i with
    | none=>rfl
    | some x =>
      exfalso
      have hiN:i<N:=by
        rcases Nat.lt_or_ge i N with h |h
        · exact h
        · rw [hstN i h] at hs;cases hs
      have hil:i<ops.length:=by have:=hok.le;omega
      have ho:ops[i]? = some ops[i]:=List.getElem?_eq_getElem hil
      obtain ⟨_,_,_,_,_,_,_,_,_,_,_,_,k8⟩:=(hseen i _ (by rw [List.getElem?_take,if_pos hiN];exact ho)).out
      have hw:=(hW i _ hi ho).2
      rcases k8 with ⟨_,h,_⟩ |⟨_,h,_⟩ |⟨_,_,_,_,_,_,_,_,_,_,h,_⟩ |⟨_,_,_,_,_,_,_,_,_,_,h,_⟩ |⟨_,h,_⟩
      · rw [h] at hs;cases hs
      · rw [h] at hs;cases hs
      · rw [h.1] at hw;cases hw
      · rw [h.1] at hw;cases hw
      · rw [h] at hs;cases hs
  -- the head is done
  have done:∀ (fuel:Nat) (listed:Array Bool) (a:Act) (w:World),unl listed ops.length=fuel→HeadInv P ops N w0 G0 β0 ds G ks base0 st fr0 frF hp0.length hpF lo listed a w→(∀ i,i<N→¬ W i→listed.getD i true=true)→q5b P ops.toArray Q fuel listed a w:=by
    intro fuel listed a w hu hI hallN
    obtain ⟨β,hp,hhd,hβ,hr,hk,hnm,hd,hsz,hslot⟩:=hI.state
    have hpe:hp=hpE:=by
      refine HD.unique (N:=N) (L:=fun i=>i<N) ⟨hhd.len,fun k x hx=>?_⟩ hE
      rcases hhd.at_ k x hx with h |⟨h1,⟨i,h2,h3,h4,h5⟩ |⟨h2,h3⟩⟩
      · exact .inl h
      · exact .inr ⟨h1,.inl ⟨i,h2,h2,h4,fun j hj _ z hz=>by
          by_cases hjW:W j
          · rw [stW j hjW] at hz;cases hz
          · exact h5 j hj (hallN j hj hjW) z hz⟩⟩
      · exact .inr ⟨h1,.inr ⟨fun i new hi hs=>by
          by_cases hjW:W i
          · rw [stW i hjW] at hs;cases hs
          · exact absurd (hallN i hi hjW) (h2 i new hi hs),h3⟩⟩
    subst hpe
    refine hend fuel listed β a w hI.size (fun i hi hiW=>⟨fun h=>?_,fun h=>hallN i h hiW⟩) hI.closed hu hβ hr hd (by omega) fun x v hx hxW=>hslot x v ?_
    · rcases Nat.lt_or_ge i N with h1 |h1
      · exact h1
      · have:=hI.tail i h1 hi;rw [h] at this;cases this
    · by_cases hm:some x∈(ops.take N).map (·.dst)
      · obtain ⟨o,ho,hox⟩:=List.mem_map.1 hm
        obtain ⟨i,hi⟩:=List.mem_iff_getElem?.1 ho
        have hiN:i<N:=by
          have:=(List.getElem?_eq_some_iff.1 hi).1;rw [List.length_take] at this;omega
        rw [List.getElem?_take,if_pos hiN] at hi
        exact .inl ⟨⟨i,o,hiN,hi,hox,hallN i hiN (fun hw=>hxW i o hw hi hox)⟩,hx⟩
      · refine .inr ⟨fun i o hi ho hox=>absurd ?_ hm,by rw [← hsame x hm];exact hx⟩
        exact List.mem_map.2 ⟨o,List.mem_of_getElem? (by rw [List.getElem?_take,if_pos hi];exact ho),hox⟩
  intro fuel
  induction fuel with
  | zero=>exact fun listed a w hu hI=>done 0 listed a w hu hI (fun i hi _=>by
      rcases Nat.lt_or_ge i ops.length with h |h
      · exact q7d _ hu i h
      · simp [Array.getD,show ¬ i<listed.size by rw [hI.size];omega])
  | succ fuel ih =>
    intro listed a w hu hI
    by_cases hallN:∀ i,i<N→¬ W i→listed.getD i true=true
    · exact done (fuel+1) listed a w hu hI hallN
    · obtain ⟨β,hp,hhd,hβ,hr,hk,hnm,hd,hsz,hslot⟩:=hI.state
      refine ⟨fun he=>absurd he (z5n hok hI.size (by omega)),fun i hi=>?_⟩
      obtain ⟨h1,o,h2,h3⟩:=mem_ready.1 hi
      have hlt:i<ops.length:=by have:=(Array.getElem?_eq_some_iff.1 h2).1;simpa using this
      have h2':ops[i]? = some o:=by simpa using h2
      have hdep:∀ j,depB o j=true→listed.getD j true=true:=fun j hj=>by
        obtain ⟨e,he,hb,heq⟩:=z0n hj
        have h5:=h3 e he hb
        rw [heq] at h5
        rcases Nat.lt_or_ge j listed.size with h6 |h6
        · rw [q6g h6];exact h5
        · simp [Array.getD,Nat.not_lt.2 h6]
      have hiN:i<N:=by
        rcases Nat.lt_or_ge i N with h4 |h4
        · exact h4
        · refine absurd (fun j hj hjW=>?_) hallN
          exact q2c (ops:=ops) (L:=fun j=>listed.getD j true=true) (fun k q hq hk j hj=>hI.closed k q hq hk j hj) 12 i o h2' hdep j (htl i o h4 h2' j hj hjW)
      have h2t:(ops.take N)[i]? = some o:=by rw [List.getElem?_take,if_pos hiN];exact h2'
      obtain ⟨fr,hpi,hpi',v,k1,k2,k3,k4,k5,kg,k6,k7,k8⟩:=(hseen i o h2t).out
      -- the slots that it looks at
      have hag:Agree ops o fr β a:=by
        intro x hx u hu'
        refine hslot x u ?_
        rw [k6 x] at hu'
        split at hu'
        · rename_i hm
          rw [← List.map_take] at hm
          obtain ⟨q,hq,hqx⟩:=List.mem_map.1 hm
          obtain ⟨j,hj⟩:=List.mem_iff_getElem?.1 hq
          have hji:j<i:=by
            have:=(List.getElem?_eq_some_iff.1 hj).1;rw [List.length_take] at this;omega
          rw [List.getElem?_take,if_pos hji,List.getElem?_take,if_pos (by omega)] at hj
          have hjl:listed.getD j true=true:=by
            rcases hok.look i o hiN h2' x hx j q (by omega) hj hqx with h5 |⟨h5,h6⟩ |⟨h5,_⟩
            · omega
            · exact hdep j h6
            · omega
          exact .inl ⟨⟨j,q,by omega,hj,hqx,hjl⟩,hu'⟩
        · rename_i hm
          refine .inr ⟨fun j q hj hq hqx=>?_,hu'⟩
          rcases hok.look i o hiN h2' x hx j q hj hq hqx with h5 |⟨h5,h6⟩ |⟨h5,h6⟩
          · subst h5;exact h1
          · refine absurd ?_ hm
            rw [← List.map_take]
            exact List.mem_map.2 ⟨q,List.mem_of_getElem? (by rw [List.getElem?_take,if_pos h5,List.getElem?_take,if_pos (by omega)];exact hq),hqx⟩
          · cases hl:listed.getD j true with
            | false=>rfl
            | true =>
              have:=hI.closed j q hq hl i h6
              rw [h1] at this;cases this
      -- what stands behind it
      have next:∀ (β':Nm) (hp':List Blk) (y:Value) (w':World),β.le β'→HD ks base0 hpF N st (fun j=>(listed.setIfInBounds i true).getD j true=true) hp'→HR w0 G0 β' hp' G w'→v.rel β' y→(∀ k z,β' k=some z→β k=some z∨(lo i≤k∧k<lo (i+1)))→(∀ k new,st i=some (k,new)→∃ y,β' k=some y) →
          q5b P ops.toArray Q fuel (listed.setIfInBounds i true) (a.put o.dst y) w':=by
        intro β' hp' y w' g1 g0 g2 g3 g4 g5
        refine ih _ _ _ ?_ ⟨by simp [hI.size],fun j hj hjl=>?_,fun j q hq hl d hd'=>?_,β',hp',g0,Nm.le_trans hβ g1,g2,fun k z hz=>?_,fun j k new hj hl hs=>?_,by rw [q05];exact hd,by cases o.dst <;> simp [Act.put,hsz],fun x u hx=>?_⟩
        · have:=z0o h1 ops.length
          rw [if_pos hlt] at this;omega
        · rw [q0m (by omega)];exact hI.tail j hj hjl
        · by_cases hdi:i=d
          · subst hdi;rw [q1q (by rw [hI.size];exact hlt)]
          · rw [q0m hdi]
            by_cases hji:i=j
            · subst hji
              rw [h2'] at hq;cases hq
              exact hdep d hd'
            · rw [q0m hji] at hl
              exact hI.closed j q hq hl d hd'
        · rcases g4 k z hz with h5 |⟨h5,h6⟩
          · rcases hk k z h5 with h7 |⟨j,h7,h8,h9⟩
            · exact .inl h7
            · refine .inr ⟨j,h7,?_,h9⟩
              by_cases hij:i=j
              · subst hij;rw [q1q (by rw [hI.size];exact hlt)]
              · rw [q0m hij];exact h8
          · exact .inr ⟨i,hiN,by rw [q1q (by rw [hI.size];exact hlt)],h5,h6⟩
        · by_cases hij:i=j
          · subst hij;exact g5 k new hs
          · rw [q0m hij] at hl
            obtain ⟨y0,hy0⟩:=hnm j k new hj hl hs
            exact ⟨y0,g1 _ _ hy0⟩
        · by_cases hxd:o.dst=some x
          · -- the slot itself
            have hv:frF[x]? = some u:=by
              rcases hx with ⟨_,h5⟩ |⟨h5,_⟩
              · exact h5
              · have:=h5 i o hiN h2' hxd
                rw [q1q (by rw [hI.size];exact hlt)] at this;cases this
            have hxl:x<fr0.length:=by rw [← hlen];exact (List.getElem?_eq_some_iff.1 hv).1
            rw [k7 x hxd hxl] at hv;cases hv
            refine ⟨y,?_,g3⟩
            rw [hxd]
            simp [Act.put,hsz,hxl]
          · obtain ⟨z,h5,h6⟩:=hslot x u (by
              rcases hx with ⟨⟨j,q,h5,h6,h7,h8⟩,h9⟩ |⟨h5,h6⟩
              · refine .inl ⟨⟨j,q,h5,h6,h7,?_⟩,h9⟩
                have hij:i≠j:=fun e=>by subst e;rw [h2'] at h6;cases h6;exact hxd h7
                rwa [q0m hij] at h8
              · refine .inr ⟨fun j q h7 h8 h9=>?_,h6⟩
                have hij:i≠j:=fun e=>by subst e;rw [h2'] at h8;cases h8;exact hxd h9
                have:=h5 j q h7 h8 h9
                rwa [q0m hij] at this)
            refine ⟨z,?_,AV.rel_mono g1 _ _ h6⟩
            cases hod:o.dst with
            | none=>simpa [Act.put] using h5
            | some d =>
              have hne:d≠x:=fun e=>hxd (by rw [hod,e])
              simp only [Act.put]
              rw [Array.getElem?_setIfInBounds_ne hne];exact h5
      -- an operation that is no store leaves the q3l blocks as they are
      have keepHD:st i=none→HD ks base0 hpF N st (fun j=>(listed.setIfInBounds i true).getD j true=true) hp:=fun hn=>⟨hhd.len,fun k x hx=>by
        rcases hhd.at_ k x hx with h |⟨g1,⟨j,g2,g3,g4,g5⟩ |⟨g2,g3⟩⟩
        · exact .inl h
        · refine .inr ⟨g1,.inl ⟨j,g2,?_,g4,fun j' hj' hl' z hz=>?_⟩⟩
          · have hij:i≠j:=fun e=>by subst e;rw [hn] at g4;cases g4
            rw [q0m hij];exact g3
          · have hij:i≠j':=fun e=>by subst e;rw [hn] at hz;cases hz
            rw [q0m hij] at hl';exact g5 j' hj' hl' z hz
        · refine .inr ⟨g1,.inr ⟨fun j new hj hs=>?_,g3⟩⟩
          have hij:i≠j:=fun e=>by subst e;rw [hn] at hs;cases hs
          rw [q0m hij];exact g2 j new hj hs⟩
      unfold q8g
      rw [h2]
      simp only
      have hpF0:hp0.length≤hpF.length:=((k3.trans k4).trans k5).len
      have hbr:BR w0.heap.size β hpi G w:=⟨fun k y x hky hkx=>by
        by_cases hkk:k∈ks
        · have:=kg k hkk x hkx
          subst this;trivial
        · obtain ⟨x',h5,h6⟩:=hr.blk k y hky
          have h7:=(k4.trans k5).get hkx
          rcases hhd.at_ k x' h5 with ⟨_,h8⟩ |⟨h8,_⟩
          · rw [h7] at h8;cases h8;exact h6
          · exact absurd h8 hkk,hr.hold⟩
      have hbs:∀ hs,(hs=hpi∨hs=q23 (visK see ks (0+i)) [] base0 0 hpi)→BR w0.heap.size β hs G w:=by
        rintro hs (rfl |rfl)
        · exact hbr
        · refine ⟨fun k y x hky hkx=>?_,hr.hold⟩
          rw [q4s] at hkx
          simp only [Nat.zero_add] at hkx
          cases hk0:hpi[k]? with
          | none=>rw [hk0] at hkx;cases hkx
          | some z =>
            rw [hk0] at hkx
            simp only [Option.map_some,Option.some.injEq] at hkx
            by_cases hkk:k∈visK see ks i
            · rw [if_pos hkk] at hkx
              obtain ⟨hkks,hsi⟩:=x0a hkk
              simp only [q2h,Option.getD_none] at hkx
              obtain ⟨x',h5,h6⟩:=hr.blk k y hky
              rcases hhd.at_ k x' h5 with ⟨h8,_⟩ |⟨_,⟨j,q1,q2,q3,_⟩ |⟨_,q3⟩⟩
              · exact absurd hkks h8
              · exfalso
                obtain ⟨oj,hoj⟩:∃ oj,ops[j]? = some oj:=⟨_,List.getElem?_eq_getElem (by have:=hok.le;omega)⟩
                have hjt:(ops.take N)[j]? = some oj:=by rw [List.getElem?_take,if_pos q1];exact hoj
                obtain ⟨_,_,_,_,_,_,_,_,_,_,_,_,m8⟩:=(hseen j oj hjt).out
                have hsb:q8l ops see (0+j) k=true:=by
                  rcases m8 with ⟨_,e,_⟩ |⟨_,e,_⟩ |⟨_,_,_,k',_,_,e',_,_,_,⟨_,e⟩,_⟩ |⟨_,k',_,_,_,_,e',_,_,_,⟨_,e⟩,_⟩ |⟨_,e,_⟩
                  · rw [e] at q3;cases q3
                  · rw [e] at q3;cases q3
                  · rw [e'] at q3;cases q3;exact e
                  · rw [e'] at q3;cases q3;exact e
                  · rw [e] at q3;cases q3
                have hji:i≠j:=fun e=>by subst e;rw [h1] at q2;cases q2
                have hwt:=x6v hsb hsi (by omega)
                simp only [Nat.zero_add] at hwt
                have:=q2c (ops:=ops) (L:=fun j=>listed.getD j true=true) (fun k q hq hk j hj=>hI.closed k q hq hk j hj) 12 j oj hoj (fun d hd=>hI.closed j oj hoj q2 d hd) i hwt
                rw [h1] at this;cases this
              · rw [q3j,q3] at hkx
                simp only [Option.getD_some] at hkx
                subst hkx;exact h6
            · rw [if_neg hkk] at hkx
              subst hkx
              exact hbr.blk k y _ hky hk0
      have fresh:hpi'.length=hpi.length+1→β hpi.length=none:=fun hl1=>by
        cases hb:β hpi.length with
        | none=>rfl
        | some z =>
          rcases hk _ z hb with h5 |⟨j,h5,h6,h7,h8⟩
          · have:=k3.len;omega
          · rw [k1] at h7 h8
            have hij:j≠i:=fun e=>by subst e;rw [h1] at h6;cases h6
            rcases Nat.lt_or_ge j i with h9 |h9
            · have:=mono (j+1) i (by omega);omega
            · have h10:=mono (i+1) j (by omega)
              omega
      -- a new block gets its name
      have named:∀ (x:Blk) (y z:Value) (w':World),st i=none→hpi'.length=hpi.length+1→hp[hpi.length]? = some x→Below w.heap.size w w'→x.rel w0.heap.size (β.put hpi.length z) G w' z→(∀ b,q0i z=some b→w.heap.size≤b)→v.rel (β.put hpi.length z) y →
          q5b P ops.toArray Q fuel (listed.setIfInBounds i true) (a.put o.dst y) w':=by
        intro x y z w' hst0 hl1 hget h6 h7 h8 h9
        have hn:=fresh hl1
        refine next (β.put hpi.length z) hp y w' (Nm.le_put z hn) (keepHD hst0) ?_ h9 (fun k u hu'=>?_) (fun k new hs=>by rw [hst0] at hs;cases hs)
        · -- the heap with the new name
          refine ⟨(hr.step h6).below,(hr.step h6).hold,hr.sub,hr.grow,fun k u hku=>?_,fun j j' q q' s s' b hne hj hj' hs hs' hls hls' hq hq'=>?_,(hr.step h6).wrt⟩
          · by_cases hkn:k=hpi.length
            · rw [hkn,Nm.put_same] at hku;cases hku
              exact ⟨x,by rw [hkn];exact hget,h7⟩
            · rw [Nm.put_ne _ _ hkn] at hku
              obtain ⟨x',h10,h11⟩:=(hr.step h6).blk k u hku
              exact ⟨x',h10,Blk.rel_of (Nm.le_put z hn) h11 (fun b _=>⟨rfl,id⟩)⟩
          · have old:∀ {j:Nat} {q:Value} {s:Blk} {c:Nat},j≠hpi.length→(β.put hpi.length z) j=some q→hp[j]? = some s→s.live=true→q0i q=some c→c<w.heap.size∧β j=some q:=by
              intro j q s c hj hq hs hls hqb
              rw [Nm.put_ne _ _ hj] at hq
              exact ⟨(hr.lt hq hs hls hqb).2.1,hq⟩
            by_cases h10:j=hpi.length
            · have h11:j'≠hpi.length:=by omega
              obtain ⟨h12,_⟩:=old h11 hj' hs' hls' hq'
              rw [h10,Nm.put_same] at hj;cases hj
              have:=h8 b hq;omega
            · obtain ⟨h12,h13⟩:=old h10 hj hs hls hq
              by_cases h11:j'=hpi.length
              · rw [h11,Nm.put_same] at hj';cases hj'
                have:=h8 b hq';omega
              · obtain ⟨_,h14⟩:=old h11 hj' hs' hls' hq'
                exact hr.inj j j' q q' s s' b hne h13 h14 hs hs' hls hls' hq hq'
        · by_cases hkn:k=hpi.length
          · right;omega
          · rw [Nm.put_ne _ _ hkn] at hu';exact .inl hu'
      have ord:∀ (k:Nat) (new:Blk),st i=some (k,new)→∀ j,j<N→listed.getD j true=true→∀ z,st j=some (k,z)→j<i:=fun k new hst0 j hj hl z hz=>by
        rcases Nat.lt_trichotomy j i with h |h |h
        · exact h
        · subst h;rw [h1] at hl;cases hl
        · exfalso
          have hwt:=hch i j k _ _ h hst0 hz
          obtain ⟨oj,hoj⟩:∃ oj,ops[j]? = some oj:=⟨_,List.getElem?_eq_getElem (by have:=hok.le;omega)⟩
          have:=q2c (ops:=ops) (L:=fun j=>listed.getD j true=true) (fun k q hq hk j hj=>hI.closed k q hq hk j hj) 12 j oj hoj (fun d hd=>hI.closed j oj hoj hl d hd) i hwt
          rw [h1] at this;cases this
      have now:∀ (k:Nat) (old new:Blk),st i=some (k,new)→k∈ks→x3r base0 [] st i k old→∀ y,β k=some y→hp[k]? = some old:=fun k old new hst0 hkk hb0 y hy=>by
        have prior:∀ j,j<i→∀ z,st j=some (k,z)→listed.getD j true=true:=fun j hj z hz =>
          q2c (ops:=ops) (L:=fun j=>listed.getD j true=true) (fun k q hq hk j hj=>hI.closed k q hq hk j hj) 12 i o h2' hdep j (hch j i k _ _ hj hz hst0)
        obtain ⟨x',h10,_⟩:=hr.blk k y hy
        rcases hhd.at_ _ _ h10 with ⟨h11,_⟩ |⟨_,⟨j,h11,h12,h13,hmax⟩ |⟨h12,h13⟩⟩
        · exact absurd hkk h11
        · have hji:=ord k new hst0 j h11 h12 _ h13
          rcases hb0 with ⟨i',c1,c2,c3⟩ |⟨c1,_⟩
          · have hle:=hmax i' (by omega) (prior i' c1 _ c2) _ c2
            have hjj:j=i':=by
              rcases Nat.lt_or_ge i' j with h |h
              · exact absurd h13 (c3 j h hji x')
              · omega
            subst hjj
            rw [c2] at h13;cases h13;exact h10
          · exact absurd h13 (c1 j hji x')
        · rcases hb0 with ⟨i',c1,c2,_⟩ |⟨_,c2⟩
          · exact absurd (prior i' c1 _ c2) (h12 i' _ (by omega) c2)
          · have hc:curB base0 [] k=x':=by unfold curB;simp only [q2h];rw [q3j,h13];rfl
            rw [← c2,hc];exact h10
      rcases k8 with ⟨hw,hst0,hnew,hs,hsw,hcore⟩ |⟨hw,hst0,rfl,rfl⟩ |⟨hw,rfl,rfl,k,old,new,hst0,hb0,hol,hkk,_,hcore⟩ |⟨hw,k,old,x,rfl,hnk,hst0,hb0,hol,hkk,_,hcore⟩ |⟨hw,hst0,rfl,hkk,x,hb0,hcore⟩
      · rw [if_pos (hw β a hag)]
        left
        have hreads:=hag.reads
        have hhd':=keepHD hst0
        rcases hcore with ⟨rfl,hc⟩ |⟨x,rfl,hc⟩ |⟨rfl,f,hc⟩ |⟨x,rfl,f,hc⟩
        · obtain ⟨y,h5,h6⟩:=hc _ β a.eval w (hbs _ hsw) hreads
          unfold Oper.wpW
          rw [h5]
          exact next β hp y w (Nm.le_refl _) hhd' hr h6 (fun k z hz=>.inl hz) (fun k new hs=>by rw [hst0] at hs;cases hs)
        · obtain ⟨y,z,w',h5,h6,h7,h8,h9⟩:=hc _ β a.eval w (hbs _ hsw) hr.below.size (fresh (by simp)) hreads
          unfold Oper.wpW
          rw [h5]
          have hlen':hpi.length<hpF.length:=by have:=k5.len;simp at this;omega
          have hgetF:hpF[hpi.length]? = some x:=k5.get (by simp)
          have hget:hp[hpi.length]? = some x:=by
            have h10:hp[hpi.length]? = some (hp[hpi.length]'(by rw [hhd.len];exact hlen')):=List.getElem?_eq_getElem _
            rcases hhd.at_ _ _ h10 with ⟨_,h11⟩ |⟨h11,_⟩
            · rw [hgetF] at h11;rw [h10,← h11]
            · exact absurd h11 (hnew (by simp))
          exact named x y z w' hst0 (by simp) hget h6 h7 h8 h9
        · obtain ⟨args,h5,h6⟩:=hc _ β a.eval w (hbs _ hsw) hreads
          unfold Oper.wpW
          rw [h5]
          refine ⟨fun h=>(by cases h),callsIn_wide.2 (h6.mono ?_)⟩
          rintro e w' ⟨y,rfl,hv,hb⟩
          exact next β hp y w' (Nm.le_refl _) hhd' (hr.step hb) (AV.rel_mono (q4o β) _ _ hv) (fun k z hz=>.inl hz) (fun k new hs=>by rw [hst0] at hs;cases hs)
        · obtain ⟨args,h5,hcall⟩:=hc _ β a.eval w (hbs _ hsw) hr.below.size (fresh (by simp)) hreads
          unfold Oper.wpW
          rw [h5]
          have hlen':hpi.length<hpF.length:=by have:=k5.len;simp at this;omega
          have hgetF:hpF[hpi.length]? = some x:=k5.get (by simp)
          have hget:hp[hpi.length]? = some x:=by
            have h10:hp[hpi.length]? = some (hp[hpi.length]'(by rw [hhd.len];exact hlen')):=List.getElem?_eq_getElem _
            rcases hhd.at_ _ _ h10 with ⟨_,h11⟩ |⟨h11,_⟩
            · rw [hgetF] at h11;rw [h10,← h11]
            · exact absurd h11 (hnew (by simp))
          refine ⟨fun h=>(by cases h),callsIn_wide.2 (hcall.mono ?_)⟩
          rintro e w' ⟨y,z,rfl,h6,h7,h8,h9⟩
          exact named x y z w' hst0 (by simp) hget h6 h7 h8 h9
      · rw [if_neg (by rw [hw β a hag];simp)]
        exact next β hp undef w (Nm.le_refl _) (keepHD hst0) hr (by simp only [AV.rel]) (fun k z hz=>.inl hz) (fun k new hs=>by rw [hst0] at hs;cases hs)
      · -- a store into a block of the head's own
        rw [if_pos (hw β a hag)]
        left
        have hreads:=hag.reads
        have hold:=now k old _ hst0 hkk hb0
        obtain ⟨y,w',b,hβk,h12,h13,h14,h15⟩:=hcore _ β a.eval w (fun y hβk=>by
          obtain ⟨x',h10,h11⟩:=hr.blk k y hβk
          rw [hold y hβk] at h10;cases h10;exact h11) hreads
        have hold:=hold y hβk
        have hkF:k<hp.length:=(List.getElem?_eq_some_iff.1 hold).1
        have hhd':HD ks base0 hpF N st (fun j=>(listed.setIfInBounds i true).getD j true=true) (hp.set k new):=⟨by simp [hhd.len],fun j x hx=>by
          by_cases hjk:k=j
          · subst hjk
            rw [List.getElem?_set_self hkF] at hx;cases hx
            refine .inr ⟨hkk,.inl ⟨i,hiN,by rw [q1q (by rw [hI.size];exact hlt)],hst0,fun j' hj' hl' z hz=>?_⟩⟩
            by_cases hij:i=j'
            · omega
            · rw [q0m hij] at hl'
              exact Nat.le_of_lt (ord k _ hst0 j' hj' hl' z hz)
          · rw [List.getElem?_set_ne hjk] at hx
            rcases hhd.at_ j x hx with h |⟨g1,⟨q,g2,g3,g4,g5⟩ |⟨g2,g3⟩⟩
            · exact .inl h
            · refine .inr ⟨g1,.inl ⟨q,g2,?_,g4,fun j' hj' hl' z hz=>?_⟩⟩
              · have hij:i≠q:=fun e=>by subst e;rw [hst0] at g4;cases g4;exact hjk rfl
                rw [q0m hij];exact g3
              · have hij:i≠j':=fun e=>by subst e;rw [hst0] at hz;cases hz;exact hjk rfl
                rw [q0m hij] at hl';exact g5 j' hj' hl' z hz
            · refine .inr ⟨g1,.inr ⟨fun q nw hq hs=>?_,g3⟩⟩
              have hij:i≠q:=fun e=>by subst e;rw [hst0] at hs;cases hs;exact hjk rfl
              rw [q0m hij];exact g2 q nw hq hs⟩
        unfold Oper.wpW
        rw [h12]
        exact next β _ undef w' (Nm.le_refl _) hhd' (hr.setBlk hβk hold hol h13 h14 h15) (by simp only [AV.rel]) (fun k z hz=>.inl hz) (fun k' new' hs=>by rw [hst0] at hs;cases hs;exact ⟨y,hβk⟩)
      · -- a call that takes a row of the head's own
        rw [if_pos (hw β a hag)]
        left
        have hreads:=hag.reads
        have hold:=now k old _ hst0 hkk hb0
        have hn:β hpi.length=none:=fresh (by simp)
        obtain ⟨yk,hβk,hcase⟩:=hcore _ β a.eval w hbr hr.below.size (fun y hβk=>by
          obtain ⟨x',h10,h11⟩:=hr.blk k y hβk
          rw [hold y hβk] at h10;cases h10;exact h11) hn hreads
        have hold:=hold yk hβk
        have hkF:k<hp.length:=(List.getElem?_eq_some_iff.1 hold).1
        have hhd':HD ks base0 hpF N st (fun j=>(listed.setIfInBounds i true).getD j true=true) (hp.set k .gone):=⟨by simp [hhd.len],fun j x hx=>by
          by_cases hjk:k=j
          · subst hjk
            rw [List.getElem?_set_self hkF] at hx;cases hx
            refine .inr ⟨hkk,.inl ⟨i,hiN,by rw [q1q (by rw [hI.size];exact hlt)],hst0,fun j' hj' hl' z hz=>?_⟩⟩
            by_cases hij:i=j'
            · omega
            · rw [q0m hij] at hl'
              exact Nat.le_of_lt (ord k _ hst0 j' hj' hl' z hz)
          · rw [List.getElem?_set_ne hjk] at hx
            rcases hhd.at_ j x hx with h |⟨g1,⟨q,g2,g3,g4,g5⟩ |⟨g2,g3⟩⟩
            · exact .inl h
            · refine .inr ⟨g1,.inl ⟨q,g2,?_,g4,fun j' hj' hl' z hz=>?_⟩⟩
              · have hij:i≠q:=fun e=>by subst e;rw [hst0] at g4;cases g4;exact hjk rfl
                rw [q0m hij];exact g3
              · have hij:i≠j':=fun e=>by subst e;rw [hst0] at hz;cases hz;exact hjk rfl
                rw [q0m hij] at hl';exact g5 j' hj' hl' z hz
            · refine .inr ⟨g1,.inr ⟨fun q nw hq hs=>?_,g3⟩⟩
              have hij:i≠q:=fun e=>by subst e;rw [hst0] at hs;cases hs;exact hjk rfl
              rw [q0m hij];exact g2 q nw hq hs⟩
        have hlen':hpi.length<hpF.length:=by have:=k5.len;simp at this;omega
        have hgetF:hpF[hpi.length]? = some x:=k5.get (by simp)
        have hget:hp[hpi.length]? = some x:=by
          have h10:hp[hpi.length]? = some (hp[hpi.length]'(by rw [hhd.len];exact hlen')):=List.getElem?_eq_getElem _
          rcases hhd.at_ _ _ h10 with ⟨_,h11⟩ |⟨h11,_⟩
          · rw [hgetF] at h11;rw [h10,← h11]
          · exact absurd h11 hnk
        have hkne:k≠hpi.length:=fun e=>hnk (e ▸ hkk)
        unfold Oper.wpW
        rcases hcase with ⟨f,args,h12,hcall⟩ |⟨u,z,w',h12,g1,g2,g3,g4⟩
        · rw [h12]
          refine ⟨fun h=>(by cases h),callsIn_wide.2 (hcall.mono ?_)⟩
          rintro e w' ⟨u,z,rfl,g1,g2,g3,g4⟩
          have hr1:=hr.below_grown hβk hold hol g1
          refine next (β.put hpi.length z) _ u w' (Nm.le_put z hn) hhd' ?_ g4 (fun j q hq=>?_) (fun k' new' hs=>by rw [hst0] at hs;cases hs;exact ⟨yk,by rw [Nm.put_ne _ _ hkne];exact hβk⟩)
          · refine ⟨hr1.below,hr1.hold,hr1.sub,hr1.grow,fun j q hjq=>?_,fun j j' q q' s s' b hne hj hj' hs hs' hls hls' hq hq'=>?_,hr1.wrt⟩
            · by_cases hjn:j=hpi.length
              · rw [hjn,Nm.put_same] at hjq;cases hjq
                exact ⟨x,by rw [hjn,List.getElem?_set_ne hkne];exact hget,g2⟩
              · rw [Nm.put_ne _ _ hjn] at hjq
                obtain ⟨x',h10,h11⟩:=hr1.blk j q hjq
                exact ⟨x',h10,Blk.rel_of (Nm.le_put z hn) h11 (fun b _=>⟨rfl,id⟩)⟩
            · have old':∀ {j:Nat} {q:Value} {s:Blk} {c:Nat},j≠hpi.length→(β.put hpi.length z) j=some q→(hp.set k .gone)[j]? = some s→s.live=true→q0i q=some c→c<w.heap.size∧β j=some q∧q0i yk≠some c:=by
                intro j q s c hj hq hs hls hqb
                rw [Nm.put_ne _ _ hj] at hq
                have hjk:k≠j:=fun e=>by
                  subst e
                  rw [List.getElem?_set_self hkF] at hs;cases hs;cases hls
                rw [List.getElem?_set_ne hjk] at hs
                refine ⟨(hr.lt hq hs hls hqb).2.1,hq,fun he=>?_⟩
                exact hr.inj k j yk q old s c hjk hβk hq hold hs hol hls he hqb
              by_cases h10:j=hpi.length
              · have h11:j'≠hpi.length:=by omega
                obtain ⟨h12',h13,h14⟩:=old' h11 hj' hs' hls' hq'
                rw [h10,Nm.put_same] at hj;cases hj
                rcases g3 b hq with h15 |h15
                · omega
                · exact absurd h15 h14
              · obtain ⟨h12',h13,h14⟩:=old' h10 hj hs hls hq
                by_cases h11:j'=hpi.length
                · rw [h11,Nm.put_same] at hj';cases hj'
                  rcases g3 b hq' with h15 |h15
                  · omega
                  · exact absurd h15 h14
                · obtain ⟨_,h16,_⟩:=old' h11 hj' hs' hls' hq'
                  exact hr1.inj j j' q q' s s' b hne h13 h16 hs hs' hls hls' hq hq'
          · by_cases hkn:j=hpi.length
            · right;simp at k2;omega
            · rw [Nm.put_ne _ _ hkn] at hq;exact .inl hq
        · rw [h12]
          have hr1:=hr.below_grown hβk hold hol g1
          refine next (β.put hpi.length z) _ u w' (Nm.le_put z hn) hhd' ?_ g4 (fun j q hq=>?_) (fun k' new' hs=>by rw [hst0] at hs;cases hs;exact ⟨yk,by rw [Nm.put_ne _ _ hkne];exact hβk⟩)
          · refine ⟨hr1.below,hr1.hold,hr1.sub,hr1.grow,fun j q hjq=>?_,fun j j' q q' s s' b hne hj hj' hs hs' hls hls' hq hq'=>?_,hr1.wrt⟩
            · by_cases hjn:j=hpi.length
              · rw [hjn,Nm.put_same] at hjq;cases hjq
                exact ⟨x,by rw [hjn,List.getElem?_set_ne hkne];exact hget,g2⟩
              · rw [Nm.put_ne _ _ hjn] at hjq
                obtain ⟨x',h10,h11⟩:=hr1.blk j q hjq
                exact ⟨x',h10,Blk.rel_of (Nm.le_put z hn) h11 (fun b _=>⟨rfl,id⟩)⟩
            · have old':∀ {j:Nat} {q:Value} {s:Blk} {c:Nat},j≠hpi.length→(β.put hpi.length z) j=some q→(hp.set k .gone)[j]? = some s→s.live=true→q0i q=some c→c<w.heap.size∧β j=some q∧q0i yk≠some c:=by
                intro j q s c hj hq hs hls hqb
                rw [Nm.put_ne _ _ hj] at hq
                have hjk:k≠j:=fun e=>by
                  subst e
                  rw [List.getElem?_set_self hkF] at hs;cases hs;cases hls
                rw [List.getElem?_set_ne hjk] at hs
                refine ⟨(hr.lt hq hs hls hqb).2.1,hq,fun he=>?_⟩
                exact hr.inj k j yk q old s c hjk hβk hq hold hs hol hls he hqb
              by_cases h10:j=hpi.length
              · have h11:j'≠hpi.length:=by omega
                obtain ⟨h12',h13,h14⟩:=old' h11 hj' hs' hls' hq'
                rw [h10,Nm.put_same] at hj;cases hj
                rcases g3 b hq with h15 |h15
                · omega
                · exact absurd h15 h14
              · obtain ⟨h12',h13,h14⟩:=old' h10 hj hs hls hq
                by_cases h11:j'=hpi.length
                · rw [h11,Nm.put_same] at hj';cases hj'
                  rcases g3 b hq' with h15 |h15
                  · omega
                  · exact absurd h15 h14
                · obtain ⟨_,h16,_⟩:=old' h11 hj' hs' hls' hq'
                  exact hr1.inj j j' q q' s s' b hne h13 h16 hs hs' hls hls' hq hq'
          · by_cases hkn:j=hpi.length
            · right;simp at k2;omega
            · rw [Nm.put_ne _ _ hkn] at hq;exact .inl hq
      · -- a new block that the head itself writes
        rw [if_pos (hw β a hag)]
        left
        have hn:β hpi.length=none:=fresh (by simp)
        obtain ⟨y,z,w',h5,h6,h7,h8,h9⟩:=hcore _ β a.eval w hbr hr.below.size hn hag.reads
        unfold Oper.wpW
        rw [h5]
        have hlen':hpi.length<hpF.length:=by have:=k5.len;simp at this;omega
        have hget:hp[hpi.length]? = some x:=by
          have h10:hp[hpi.length]? = some (hp[hpi.length]'(by rw [hhd.len];exact hlen')):=List.getElem?_eq_getElem _
          rcases hhd.at_ _ _ h10 with ⟨h11,_⟩ |⟨_,⟨j,h11,h12,h13,_⟩ |⟨_,h12⟩⟩
          · exact absurd hkk h11
          · obtain ⟨y0,hy0⟩:=hnm j _ _ h11 h12 h13
            rw [hn] at hy0;cases hy0
          · rw [q3j,h12] at hb0
            simp only [Option.getD_some] at hb0
            rw [h10,hb0]
        exact named x y z w' hst0 (by simp) hget h6 h7 h8 h9
end
def noMu:Nat→List Blk→Bool
  | _,[]=>true
  | 0,x::l=>match x with
    | .muts _=>false
    | _=>noMu 0 l
  | n+1,_::l=>noMu n l
theorem z3i:∀ {n:Nat} {l:List Blk},noMu n l=true→∀ (k:Nat) S,n≤k→l[k]?≠some (.muts S)
  | _,[],_,k,S,_=>by simp
  | 0,x::l,h,0,S,_=>fun e=>by
    simp at e;subst e;simp [noMu] at h
  | 0,x::l,h,k+1,S,_=>by
    have:noMu 0 l=true:=by cases x <;> simp_all [noMu]
    simpa using z3i this k S (Nat.zero_le _)
  | n+1,_::l,h,0,S,hk=>by omega
  | n+1,_::l,h,k+1,S,hk=>by
    simpa using z3i (n:=n) (l:=l) h k S (by omega)
theorem x42 {W:Nat→Prop} {P:Program} {T:Tab} (hT:TOk P T) (hm:P.follows .mixedOrders=true) {ops:List Oper} (N:Nat) (ks:List Nat) (see:List (Nat × Nat)) (ext:List Blk) (hW:∀ i o,W i→ops[i]? = some o→i<N∧q3k o=false) (hok:DrawOk ops N) (htl:∀ (i:Nat) o,N≤i→ops[i]? = some o→∀ j,j<N→¬ W j→q1e ops 12 i j=true) {fr:List AV} {hp:List Blk} {G:Mem} {K Tl:List AV→List Blk→Mem→Prop} (hTl:∀ w0 G0 β0 ds Q fr hp G,(∀ a' w',Sat w0 G0 β0 ds K a' w'→Q .normal a' w')→Tl fr hp G→x0b P ops N W w0 G0 β0 ds Q fr hp G)
    (h:catF hp ext fun base0=>q0w (ks.all fun k=>Nat.blt k base0.length) (q5e ks 0 hp fun hpm=>q49 P T ops base0 ks see (ops.take N) 0 fr hpm G [] fun fr' hp' ps=>q0w (noMu hp.length base0&&noMu hp.length hp') (q4i ks ps base0 0 hp' fun hq=>Tl fr' hq G))):DrawP P ops fr hp G K:=by
  rw [q09] at h
  generalize hbase:hp++ext=base0 at h
  have hbl:∀ k,k<hp.length→base0[k]? = hp[k]?:=fun k hk=>by rw [← hbase,List.getElem?_append_left hk]
  refine ⟨hm,?_⟩
  intro w0 G0 β0 ds β a w Q hβ hr hf hd hQ
  obtain ⟨hks0,h'⟩:=q0t h
  rw [z2m] at h'
  have hksl:∀ k∈ks,k<base0.length:=fun k hk=>by
    rw [List.all_eq_true] at hks0
    exact q1w (hks0 k hk)
  obtain ⟨frF,hpF,psF,h1,h2,h3,h4,lo,st,h5,h6,h7,h8,h9,h10,h11⟩:=x8c hT (ops.take N) 0 fr (q4g ks 0 hp) [] _ (fun i o hi=>by
    rw [List.getElem?_take] at hi
    split at hi
    · rwa [Nat.zero_add]
    · cases hi) hok.nodup (fun k hk z hz=>by
    rw [q5f,Nat.zero_add] at hz
    cases hx:hp[k]? with
    | none=>rw [hx] at hz;cases hz
    | some x=>rw [hx] at hz;simp [hk] at hz;exact hz.symm) h'
  obtain ⟨hnm,h1⟩:=q0t h1
  rw [Bool.and_eq_true] at hnm
  rw [z1e] at h1
  have hrep:∀ i,i<ops.length→(Array.replicate ops.length false).getD i true=false:=fun i hi=>by simp [Array.getD,hi]
  have hunl:∀ n,n≤ops.length→unl (Array.replicate ops.length false) n=n:=by
    intro n
    induction n with
    | zero=>intro _;rfl
    | succ n ih=>intro hn;simp only [unl,ih (by omega),hrep n (by omega),if_true]
  have hfl:=AV.rels_length hf
  have hsz:a.tmps.size=fr.length:=by simpa using hfl
  have hml:=z4p ks hp 0
  have hN:(ops.take N).length=N:=by have:=hok.le;simp;omega
  have hstN:∀ i,N≤i→st i=none:=fun i hi=>h8 i (by rw [hN];exact hi)
  have hpFl:hp.length≤hpF.length:=by have:=h2.len;omega
  have nthk:∀ k,k<base0.length→base0[k]? = some (nthB base0 k):=fun k hk=>by rw [q3j,List.getElem?_eq_getElem hk];rfl
  have low:∀ k,k<hp.length→k∉ks→hpF[k]? = hp[k]?:=fun k hk hn=>by
    have e:(q4g ks 0 hp)[k]? = some (hp[k]'hk):=by rw [q5f,List.getElem?_eq_getElem hk];simp [hn]
    rw [h2.get e,List.getElem?_eq_getElem hk]
  have hE:HD ks base0 hpF N st (fun i=>i<N) (q23 ks psF base0 0 hpF):=⟨q8m ks psF base0 hpF 0,fun k x hx=>by
    rw [q4s,Nat.zero_add] at hx
    cases hF:hpF[k]? with
    | none=>rw [hF] at hx;cases hx
    | some z =>
      rw [hF] at hx
      simp only [Option.map_some,Option.some.injEq] at hx
      by_cases hk:k∈ks
      · rw [if_pos hk] at hx
        refine .inr ⟨hk,?_⟩
        rcases h11 k with ⟨i,new,c1,c2,c3⟩ |⟨c1,c2⟩
        · rw [c3] at hx
          simp only [Option.getD_some] at hx
          subst hx
          have hiN:i<N:=by
            rcases Nat.lt_or_ge i N with h13 |h13
            · exact h13
            · rw [hstN i h13] at c1;cases c1
          refine .inl ⟨i,hiN,hiN,c1,fun j _ _ z hz=>?_⟩
          rcases Nat.lt_or_ge i j with h13 |h13
          · exact absurd hz (c2 j h13 z)
          · exact h13
        · rw [c2] at hx
          simp only [q2h,Option.getD_none] at hx
          subst hx
          exact .inr ⟨fun i new _ hs=>absurd hs (c1 i new),nthk k (hksl k hk)⟩
      · rw [if_neg hk] at hx
        exact .inl ⟨hk,by rw [hx]⟩⟩
  have hkl0:(q4g ks 0 hp).length=hp.length:=hml
  refine x6z (N:=N) (hp0:=q4g ks 0 hp) (base0:=base0) (ks:=ks) (st:=st) hW hok htl h3 h4 h5 h6 h7 hstN (fun i j k a b hij hi hj=>by have:=h10 i j k a b hij hi hj;simpa only [Nat.zero_add] using this) hE (hTl _ _ _ _ _ _ _ _ hQ h1) _ _ _ _ (by simpa using hunl ops.length (Nat.le_refl _)) ⟨by simp,fun i hi hil=>hrep i hil,fun i o ho hl=>?_,β,q23 ks [] base0 0 hpF,?_,hβ,?_,fun k y hk=>.inl (by rw [hml];exact Nm.below_of hr k y hk),fun i k new hi hl=>?_,hd,hsz,fun x v hx=>?_⟩
  · have hi:i<ops.length:=(List.getElem?_eq_some_iff.1 ho).1
    have:=hrep i hi
    simp only [List.size_toArray] at hl
    rw [this] at hl;cases hl
  · refine ⟨q8m ks [] base0 hpF 0,fun k x hx=>?_⟩
    rw [q4s,Nat.zero_add] at hx
    cases hF:hpF[k]? with
    | none=>rw [hF] at hx;cases hx
    | some z =>
      rw [hF] at hx
      simp only [Option.map_some,Option.some.injEq] at hx
      by_cases hk:k∈ks
      · rw [if_pos hk] at hx
        simp only [q2h,Option.getD_none] at hx
        subst hx
        refine .inr ⟨hk,.inr ⟨fun i new hi hs hl=>?_,nthk k (hksl k hk)⟩⟩
        have hil:i<ops.length:=by have:=hok.le;omega
        have:=hrep i hil
        simp only [List.size_toArray] at hl
        rw [this] at hl;cases hl
      · rw [if_neg hk] at hx
        exact .inl ⟨hk,by rw [hx]⟩
  · -- the whole heap,whose new blocks have no name yet
    have hr':=hr.drew
    have look:∀ k,k<hp.length→(q23 ks [] base0 0 hpF)[k]? = hp[k]?:=fun k hk=>by
      rw [q4s,Nat.zero_add]
      by_cases hkk:k∈ks
      · rw [List.getElem?_eq_getElem (show k<hpF.length by omega),← hbl k hk,nthk k (hksl k hkk)];simp [hkk,q2h]
      · rw [low k hk hkk,List.getElem?_eq_getElem hk];simp [hkk]
    refine ⟨hr'.below,hr'.hold,hr'.sub,hr'.grow,fun k y hk=>?_,fun j j' z z' u u' c hne hj hj' hu hu'=>?_,fun k S hk=>?_⟩
    · obtain ⟨x,h12,h13⟩:=hr'.blk k y hk
      exact ⟨x,by rw [look k (List.getElem?_eq_some_iff.1 h12).1];exact h12,h13⟩
    · rw [look j (Nm.below_of hr j z hj)] at hu
      rw [look j' (Nm.below_of hr j' z' hj')] at hu'
      exact hr'.inj j j' z z' u u' c hne hj hj' hu hu'
    · rcases Nat.lt_or_ge k hp.length with hkl |hkl
      · rw [look k hkl] at hk
        exact hr'.wrt k S hk
      · exfalso
        rw [q4s,Nat.zero_add] at hk
        cases hFk:hpF[k]? with
        | none=>rw [hFk] at hk;cases hk
        | some x =>
          rw [hFk] at hk
          simp only [Option.map_some,Option.some.injEq] at hk
          by_cases hkk:k∈ks
          · rw [if_pos hkk] at hk
            have h12:base0[k]? = some (base0[k]'(hksl k hkk)):=List.getElem?_eq_getElem _
            refine z3i hnm.1 k S hkl ?_
            rw [h12]
            simp only [q2h,Option.getD_none,q3j,h12,Option.getD_some] at hk
            rw [hk]
          · rw [if_neg hkk] at hk
            exact z3i hnm.2 k S hkl (by rw [hFk,hk])
  · have hil:i<ops.length:=by have:=hok.le;omega
    have:=hrep i hil
    simp only [List.size_toArray] at hl
    rw [this] at hl;cases hl
  · rcases hx with ⟨⟨i,o,h12,h13,h14,h15⟩,_⟩ |⟨_,h12⟩
    · have:=hrep i (List.getElem?_eq_some_iff.1 h13).1
      simp only [List.size_toArray] at h15
      rw [this] at h15;cases h15
    · obtain ⟨y,h13,h14⟩:=AV.rels_get hf h12
      exact ⟨y,by simpa using h13,h14⟩
theorem z7z {P:Program} {T:Tab} (hT:TOk P T) (hm:P.follows .mixedOrders=true) {ops:List Oper} (N:Nat) (ks:List Nat) (see:List (Nat × Nat)) (ext:List Blk) (hB:q9t ops N=true) {fr:List AV} {hp:List Blk} {G:Mem} {K:List AV→List Blk→Mem→Prop}
    (h:catF hp ext fun base0=>q0w (ks.all fun k=>Nat.blt k base0.length) (q5e ks 0 hp fun hpm=>q49 P T ops base0 ks see (ops.take N) 0 fr hpm G [] fun fr' hp' ps=>q0w (noMu hp.length base0&&noMu hp.length hp') (q4i ks ps base0 0 hp' fun hq=>vops P T ops (ops.drop N) fr' hq G K))):DrawP P ops fr hp G K :=
  x42 (W:=fun _=>False) hT hm N ks see ext (fun _ _ h=>h.elim) (z1f hB).1 (fun i o hi ho j hj _=>(z1f hB).2 i o hi ho j (by omega)) (fun _ _ _ _ _ _ _ _ hQ h=>x8t hT (z1f hB).1 (z1f hB).2 hQ h) h
theorem q5g {P:Program} {T:Tab} (hT:TOk P T) (hm:P.follows .mixedOrders=true) {ops:List Oper} (N:Nat) (ks:List Nat) (see:List (Nat × Nat)) (hB:q9t ops N=true) {fr:List AV} {hp:List Blk} {G:Mem} {K:List AV→List Blk→Mem→Prop}
    (h:q0w (ks.all fun k=>Nat.blt k hp.length) (q5e ks 0 hp fun hpm=>q49 P T ops hp ks see (ops.take N) 0 fr hpm G [] fun fr' hp' ps=>q0w (noMu hp.length hp&&noMu hp.length hp') (q4i ks ps hp 0 hp' fun hq=>vops P T ops (ops.drop N) fr' hq G K))):DrawP P ops fr hp G K :=
  z7z hT hm N ks see [] hB (by rw [q09,List.append_nil];exact h)
theorem q24 {P:Program} {T:Tab} (hT:TOk P T) (hm:P.follows .mixedOrders=true) {ops:List Oper} (N:Nat) (ks:List Nat) (hB:q9t ops N=true) {fr:List AV} {hp:List Blk} {G:Mem} {K:List AV→List Blk→Mem→Prop}
    (h:q0w (ks.all fun k=>Nat.blt k hp.length) (q5e ks 0 hp fun hpm=>q49 P T ops hp ks [] (ops.take N) 0 fr hpm G [] fun fr' hp' ps=>q0w (noMu hp.length hp&&noMu hp.length hp') (q4i ks ps hp 0 hp' fun hq=>vops P T ops (ops.drop N) fr' hq G K))):DrawP P ops fr hp G K:=q5g hT hm N ks [] hB h
end Go.Proofs.YtegpkpilfgohhaaGreat
namespace Go.Proofs.YtegpkpilfgohhaaGreat
open Go.RowKit
theorem z70 {b:Bool} {A B:Prop} (h:condP b B A):condP (!b) A B:=⟨fun e=>h.no (by simpa using e),fun e=>h.yes (by simpa using e)⟩
theorem z71 {b c:Bool} {A B:Prop} (h:condP b (condP c A B) B):condP (b&&c) A B:=by
  refine ⟨fun e=>?_,fun e=>?_⟩
  · simp at e;exact (h.yes e.1).yes e.2
  · cases b
    · exact h.no rfl
    · simp at e;exact (h.yes rfl).no e
def z5o:List Oper→Nat
  | []=>0
  | o::l=>match o.op with
    | .store _ _ _=>0
    | .call ⟨.builtin .append,_,_⟩=>0
    | .call ⟨.builtin .copy,_,_⟩=>0
    | .mapUpdate _ _ _ _=>0
    | _=>z5o l+1
theorem z5p {P:Program} {T:Tab} (hT:TOk P T) (hm:P.follows .mixedOrders=true) {ops:List Oper} (hB:q9t ops (z5o ops)=true) {fr:List AV} {hp:List Blk} {G:Mem} {K:List AV→List Blk→Mem→Prop}
    (h:q0w (([]:List Nat).all fun k=>Nat.blt k hp.length) (q5e [] 0 hp fun hpm=>q49 P T ops hp [] [] (ops.take (z5o ops)) 0 fr hpm G [] fun fr' hp' ps=>q0w (noMu hp.length hp&&noMu hp.length hp') (q4i [] ps hp 0 hp' fun hq=>vops P T ops (ops.drop (z5o ops)) fr' hq G K))):DrawP P ops fr hp G K:=q24 hT hm (z5o ops) [] hB h
def q4j:List Oper→Nat
  | []=>0
  | o::l=>match o.op with
    | .call ⟨.builtin .append,_,_⟩=>0
    | .call ⟨.builtin .copy,_,_⟩=>0
    | .mapUpdate _ _ _ _=>0
    | _=>q4j l+1
def z3j:List Oper→List AV→(List Nat→Prop)→Prop
  | [],_,K=>K []
  | o::l,fr,K=>z3j l fr fun ks=>match o.op with
    | .store _ p _=>q2r (ev fr p) fun a=>match a with
      | .ptr k _=>(match q12 k ks with
        | true=>K ks
        | false=>K (k::ks))
      | _=>K ks
    | _=>K ks
theorem z1h:∀ {l:List Oper} {fr:List AV} {K:List Nat→Prop},z3j l fr K→∃ ks,K ks
  | [],_,_,h=>⟨[],h⟩
  | o::l,fr,K,h=>by
    obtain ⟨ks,h1⟩:=z1h (l:=l) h
    split at h1
    · rw [q19] at h1
      split at h1
      · split at h1
        · exact ⟨_,h1⟩
        · exact ⟨_,h1⟩
      · exact ⟨_,h1⟩
    · exact ⟨_,h1⟩
theorem x1w {P:Program} {T:Tab} (hT:TOk P T) (hm:P.follows .mixedOrders=true) {ops:List Oper} (hB:q9t ops (q4j ops)=true) {fr:List AV} {hp:List Blk} {G:Mem} {K:List AV→List Blk→Mem→Prop}
    (h:z3j (ops.take (q4j ops)) fr fun ks=>q0w (ks.all fun k=>Nat.blt k hp.length) (q5e ks 0 hp fun hpm=>q49 P T ops hp ks [] (ops.take (q4j ops)) 0 fr hpm G [] fun fr' hp' ps=>q0w (noMu hp.length hp&&noMu hp.length hp') (q4i ks ps hp 0 hp' fun hq=>vops P T ops (ops.drop (q4j ops)) fr' hq G K))):DrawP P ops fr hp G K:=by
  obtain ⟨ks,h1⟩:=z1h h
  exact q24 hT hm (q4j ops) ks hB h1
def z6z (d:Tmp):List Oper→Bool
  | []=>false
  | o::l=>match o.op with
    | .store _ (.tmp x) _=>(match Nat.beq x d with
      | true=>true
      | false=>z6z d l)
    | _=>z6z d l
def x0c:List Blk→List Nat→(List Nat→Prop)→Prop
  | [],ns,K=>K ns
  | _::l,ns,K=>match ns with
    | []=>K []
    | _::ns'=>x0c l ns' K
theorem z72:∀ {l:List Blk} {ns:List Nat} {K:List Nat→Prop},x0c l ns K→∃ ns',K ns'
  | [],ns,_,h=>⟨ns,h⟩
  | _::l,[],_,h=>⟨_,h⟩
  | _::l,_::ns,_,h=>z72 (l:=l) h
def q4v (T:Tab) (all:List Oper):List Oper→List Nat→(List Nat→List Blk→Prop)→Prop
  | [],_,K=>K [] []
  | o::l,ns,K=>match ns with
    | []=>K [] []
    | n::ns'=>match o.op with
      | .alloc e=>(match o.dst with
        | some d=>(match z6z d all with
          | true=>q1b T e fun i=>q4e i.zero fun cs=>q4v T all l ns' fun ks ext=>K (n::ks) (.cells e cs::ext)
          | false=>q4v T all l ns' fun ks ext=>K ks (.gone::ext))
        | none=>q4v T all l ns' fun ks ext=>K ks (.gone::ext))
      | .box _ _=>q4v T all l ns' fun ks ext=>K ks (.gone::ext)
      | .buildSlice _ _ _=>q4v T all l ns' fun ks ext=>K ks (.gone::ext)
      | .makeSlice _ _ _=>q4v T all l ns' fun ks ext=>K ks (.gone::ext)
      | _=>q4v T all l (n::ns') K
theorem z73 {T:Tab} {all:List Oper}:∀ {l:List Oper} {ns:List Nat} {K:List Nat→List Blk→Prop},q4v T all l ns K→∃ ks ext,K ks ext
  | [],_,_,h=>⟨_,_,h⟩
  | o::l,[],_,h=>⟨_,_,h⟩
  | o::l,n::ns,K,h=>by
    have go:∀ {ns:List Nat} {K':List Nat→List Blk→Prop},q4v T all l ns K'→∃ ks ext,K' ks ext:=fun h=>z73 h
    have gone:q4v T all l ns (fun ks ext=>K ks (.gone::ext))→∃ ks ext,K ks ext:=fun h=>by
      obtain ⟨_,_,h1⟩:=go h;exact ⟨_,_,h1⟩
    simp only [q4v] at h
    split at h
    · split at h
      · split at h
        · unfold q1b at h
          split at h
          · rw [q2i] at h
            obtain ⟨_,_,h1⟩:=go h;exact ⟨_,_,h1⟩
          · exact h.elim
        · exact gone h
      · exact gone h
    · exact gone h
    · exact gone h
    · exact gone h
    · exact go h
theorem x1x {P:Program} {T:Tab} (hT:TOk P T) (hm:P.follows .mixedOrders=true) {ops:List Oper} (hB:q9t ops (q4j ops)=true) {fr:List AV} {hp:List Blk} {G:Mem} {K:List AV→List Blk→Mem→Prop}
    (h : z3j (ops.take (q4j ops)) fr fun ks0=>x0c hp lits fun ns=>q4v T (ops.take (q4j ops)) (ops.take (q4j ops)) ns fun ks1 ext=>catF ks0 ks1 fun ks =>
      catF hp ext fun base0=>q0w (ks.all fun k=>Nat.blt k base0.length) (q5e ks 0 hp fun hpm=>q49 P T ops base0 ks [] (ops.take (q4j ops)) 0 fr hpm G [] fun fr' hp' ps=>q0w (noMu hp.length base0&&noMu hp.length hp') (q4i ks ps base0 0 hp' fun hq=>vops P T ops (ops.drop (q4j ops)) fr' hq G K))):DrawP P ops fr hp G K:=by
  obtain ⟨ks0,h1⟩:=z1h h
  obtain ⟨ns,h2⟩:=z72 h1
  obtain ⟨ks1,ext,h3⟩:=z73 h2
  rw [q09] at h3
  exact z7z hT hm (q4j ops) _ [] ext hB h3
/-! ### Contracts: plain values -/
def Gives (P:Program) (f:FuncId) (args:List AV) (G:Mem) (v:AV):Prop :=
  ∀ (w:World) (vs:Array Value),G.holds w→AV.rels noName args vs.toList→Calls P f vs w fun e w'=>∃ y,e=.returned y∧v.rel noName y∧Below w.heap.size w w'
theorem q06 {P:Program} {T:Tab} (hT:TOk P T) {f:FuncId} {fn:Func} (hfn:P.funcs[f]? = some fn) {args:List AV} {G:Mem} {v:AV} (h:q4f P T 0 fn args [] G fun v' _ _=>v'=v∧v'.under 0=true):Gives P f args G v:=by
  intro w vs hG ha
  refine (q8b hT hfn (args:=args) ha hG h (fun _ _ _ _ _ h=>h)).mono ?_
  rintro e w' ⟨y,β',v',hp',G',h1,h2,h3,rfl,h5⟩
  exact ⟨y,h1,q5d h5 h3,h2.below⟩
theorem q0b {P:Program} {f:FuncId} (hen:∀ vs w,(callFunc f vs).run P w=.ok (.enter f vs) w) {args:List AV} {hp:List Blk} {G:Mem} {K:AV→List Blk→Mem→Prop} {v:AV} (hu:AV.unders 0 args=true) (hc:Gives P f args G v) (h:K v hp G):CallP P f args hp G K:=by
  refine ⟨hen,fun w0 G0 β w vs hr ha=>(hc w vs hr.hold (q3w hu ha)).mono ?_⟩
  rintro e w' ⟨y,rfl,h2,h3⟩
  exact ⟨y,β,v,hp,G,rfl,Nm.le_refl _,hr.step h3,AV.rel_mono (q4o β) _ _ h2,h⟩
theorem q0a {P:Program} {f:FuncId} (hen:∀ vs w,(callFunc f vs).run P w=.ok (.enter f vs) w) {args:List AV} {hp:List Blk} {G:Mem} {K:AV→Prop} {M:AV→Blk→Prop} {v:AV} (hu:AV.unders 0 args=true) (hc:Gives P f args G v) (h:K v):RCallP P f args hp G K M :=
  .mk v hen (fun _ _ w vs hG ha=>hc w vs hG.hold (q3w hu ha)) h
def Mem.and (G:Mem) (w:World) (b:Nat):Mem:=fun k=>if k=b then w.heap[k]? else G k
theorem Mem.and_holds {G:Mem} {w:World} (h:G.holds w) (b:Nat):(G.and w b).holds w:=fun k o hk=>by
  unfold Mem.and at hk
  split at hk
  · exact hk
  · exact h k o hk
theorem Mem.le_and {G:Mem} {w:World} (h:G.holds w) (b:Nat):G.le (G.and w b):=fun k o hk=>by
  unfold Mem.and
  split
  · exact h k o hk
  · exact hk
theorem Gives.calls {P:Program} {f:FuncId} {args:List Value} {G:Mem} {y:Value} (h:Gives P f (args.map .val) G (.val y)) {w:World} (hG:G.holds w):Calls P f args.toArray w fun e w'=>e=.returned y∧Below w.heap.size w w':=by
  refine (h w args.toArray hG (q9a args)).mono ?_
  rintro e w' ⟨z,rfl,h2,h3⟩
  simp only [AV.rel] at h2
  subst h2
  exact ⟨rfl,h3⟩
theorem Gives.of_calls {P:Program} {f:FuncId} {args:List Value} {G:Mem} {y:Value} (h:∀ w,G.holds w→Calls P f args.toArray w fun e w'=>e=.returned y∧Below w.heap.size w w'):Gives P f (args.map .val) G (.val y):=by
  intro w vs hG ha
  have e:vs=args.toArray:=by rw [← q2a ha]
  subst e
  refine (h w hG).mono ?_
  rintro e w' ⟨rfl,h3⟩
  exact ⟨y,rfl,by simp only [AV.rel],h3⟩
/-! ### Contracts: a row of the callee's own -/
def q57 (P:Program) (f:FuncId) (args:List AV) (G:Mem) (wrap:AV→AV) (E:TypeId) (sz n:Nat) (xs:List Value):Prop :=
  ∀ (w:World) (vs:Array Value),G.holds w→AV.rels noName args vs.toList→Calls P f vs w fun e w'=>∃ y s,e=.returned y∧(wrap (.val s)).rel noName y∧w'.ownsRow w.heap.size E sz s n xs∧Below w.heap.size w w'
inductive Wraps (wrap:AV→AV):Prop
  | alone (h:∀ a,wrap a=a)
  | pair (b:AV) (h:∀ a,wrap a=.tup [a,b]) (u:b.under 0=true)
  | last (pre:List AV) (h:∀ a,wrap a=.agg (pre++[a])) (u:AV.unders 0 pre=true)
  | lastPair (pre:List AV) (b:AV) (h:∀ a,wrap a=.tup [.agg (pre++[a]),b]) (u:AV.unders 0 pre=true) (ub:b.under 0=true)
theorem q7y {β:Nm}:∀ {l:List AV} {a:AV} {ys:List Value},AV.rels β (l++[a]) ys→∃ zs y,ys=zs++[y]∧AV.rels β l zs∧a.rel β y
  | [],a,ys,e=>by
    simp only [List.nil_append,AV.rels] at e
    obtain ⟨y,zs,rfl,h,rfl⟩:=e
    exact ⟨[],y,rfl,by simp only [AV.rels],h⟩
  | b::l,a,ys,e=>by
    simp only [List.cons_append,AV.rels] at e
    obtain ⟨y,zs,rfl,h1,h2⟩:=e
    obtain ⟨ws,z,rfl,h3,h4⟩:=q7y h2
    exact ⟨y::ws,z,rfl,by simp only [AV.rels];exact ⟨y,ws,rfl,h1,h3⟩,h4⟩
theorem z1i {β:Nm} {a:AV} {y:Value} (h:a.rel β y):AV.rels β [a] [y]:=by simp only [AV.rels];exact ⟨y,[],rfl,h,rfl⟩
theorem z2n {β:Nm}:∀ {l:List AV} {ys:List Value},AV.unders 0 l=true→AV.rels β l ys→AV.rels noName l ys
  | [],_,_,h=>by simpa only [AV.rels] using h
  | a::l,_,u,h=>by
    simp only [AV.unders,Bool.and_eq_true] at u
    simp only [AV.rels] at h ⊢
    obtain ⟨y,zs,rfl,h1,h2⟩:=h
    exact ⟨y,zs,rfl,q5d u.1 h1,z2n u.2 h2⟩
theorem Wraps.rel {wrap:AV→AV} (h:Wraps wrap) {β:Nm} {s y:Value} {a:AV} (ha:a.rel β s) (e:(wrap (.val s)).rel noName y):(wrap a).rel β y:=by
  cases h with
  | alone h=>rw [h] at e ⊢;simp only [AV.rel] at e;rw [e];exact ha
  | pair b h u =>
    rw [h] at e ⊢
    simp only [AV.rel,AV.rels] at e ⊢
    obtain ⟨cs,h1,y1,zs,h2,h3,y2,zs2,h4,h5,h6⟩:=e
    exact ⟨cs,h1,y1,zs,h2,by rw [h3];exact ha,y2,zs2,h4,AV.rel_mono (q4o β) _ _ h5,h6⟩
  | last pre h u =>
    rw [h] at e ⊢
    simp only [AV.rel] at e ⊢
    obtain ⟨cs,h1,h2⟩:=e
    obtain ⟨zs,z,h3,h4,h5⟩:=q7y h2
    simp only [AV.rel] at h5
    subst h5
    exact ⟨cs,h1,by rw [h3];exact AV.rels_append (AV.rels_mono (q4o β) _ _ h4) (z1i ha)⟩
  | lastPair pre b h u ub =>
    rw [h] at e ⊢
    simp only [AV.rel,AV.rels] at e ⊢
    obtain ⟨cs,h1,y1,zs,h2,⟨ds,h3,h7⟩,y2,zs2,h4,h5,h6⟩:=e
    obtain ⟨ws,z,h8,h9,h10⟩:=q7y h7
    simp only [AV.rel] at h10
    subst h10
    exact ⟨cs,h1,y1,zs,h2,⟨ds,h3,by rw [h8];exact AV.rels_append (AV.rels_mono (q4o β) _ _ h9) (z1i ha)⟩,y2,zs2,h4,AV.rel_mono (q4o β) _ _ h5,h6⟩
theorem Wraps.back {wrap:AV→AV} (h:Wraps wrap) {β:Nm} {y:Value} {a:AV} (e:(wrap a).rel β y):∃ s,a.rel β s∧(wrap (.val s)).rel noName y:=by
  cases h with
  | alone h=>rw [h] at e;exact ⟨y,e,by rw [h];simp only [AV.rel]⟩
  | pair b h u =>
    rw [h] at e
    simp only [AV.rel,AV.rels] at e
    obtain ⟨cs,h1,y1,zs,h2,h3,y2,zs2,h4,h5,h6⟩:=e
    refine ⟨y1,h3,?_⟩
    rw [h]
    simp only [AV.rel,AV.rels]
    exact ⟨cs,h1,y1,zs,h2,rfl,y2,zs2,h4,q5d u h5,h6⟩
  | last pre h u =>
    rw [h] at e
    simp only [AV.rel] at e
    obtain ⟨cs,h1,h2⟩:=e
    obtain ⟨zs,z,h3,h4,h5⟩:=q7y h2
    refine ⟨z,h5,?_⟩
    rw [h]
    simp only [AV.rel]
    exact ⟨cs,h1,by rw [h3];exact AV.rels_append (z2n u h4) (z1i (by simp only [AV.rel]))⟩
  | lastPair pre b h u ub =>
    rw [h] at e
    simp only [AV.rel,AV.rels] at e
    obtain ⟨cs,h1,y1,zs,h2,⟨ds,h3,h7⟩,y2,zs2,h4,h5,h6⟩:=e
    obtain ⟨ws,z,h8,h9,h10⟩:=q7y h7
    refine ⟨z,h10,?_⟩
    rw [h]
    simp only [AV.rel,AV.rels]
    exact ⟨cs,h1,y1,zs,h2,⟨ds,h3,by rw [h8];exact AV.rels_append (z2n u h9) (z1i (by simp only [AV.rel]))⟩,y2,zs2,h4,q5d ub h5,h6⟩
def x9s (wrap:AV→AV) (E:TypeId) (sz n:Nat) (xs:List Value) (v:AV) (hp:List Blk):Prop :=
  (∃ k,v=wrap (.own k)∧nthB hp k=.own E sz n xs)∨(v=wrap (.val (.slice none 0 0))∧n=0∧xs=[])∨(∃ k,v=wrap (.sli k 0 n n)∧nthB hp k=.cells E (xs.map .val)∧xs.length=n*sz∧n≤maxLen)
theorem q9b {P:Program} {T:Tab} (hT:TOk P T) {f:FuncId} {fn:Func} (hfn:P.funcs[f]? = some fn) {args:List AV} {G:Mem} {wrap:AV→AV} (hwr:Wraps wrap) {E:TypeId} {sz n:Nat} {xs:List Value}
    (h:q4f P T 0 fn args [] G fun v hp' _=>x9s wrap E sz n xs v hp'):q57 P f args G wrap E sz n xs:=by
  intro w vs hG ha
  refine (q8b hT hfn (args:=args) ha hG h (fun _ _ _ _ _ h=>h)).mono ?_
  rintro e w' ⟨y,β',v',hp',G',h1,h2,h3,h4⟩
  rcases h4 with ⟨k,rfl,hk⟩ |⟨rfl,rfl,rfl⟩ |⟨k,rfl,hk,hl,hm⟩
  · obtain ⟨s,h5,h6⟩:=hwr.back h3
    simp only [AV.rel] at h5
    exact ⟨y,s,h1,h6,(h2.br.blk k s _ h5.1 (q0x hk rfl)).1,h2.below⟩
  · obtain ⟨s,h5,h6⟩:=hwr.back h3
    simp only [AV.rel] at h5
    subst h5
    exact ⟨y,_,h1,h6,World.ownsRow_nil _ _ _ _,h2.below⟩
  · obtain ⟨s,h5,h6⟩:=hwr.back h3
    simp only [AV.rel] at h5
    obtain ⟨v,b,h7,h8,rfl⟩:=h5
    have h9:=h2.br.blk k v _ h7 (q0x hk rfl)
    obtain ⟨b',c,rfl,g1,g2,g3,g4⟩:=h9
    simp [q0i] at h8;subst h8
    have g5:=q2a g4
    refine ⟨y,_,h1,h6,⟨hl,.inr ⟨b',n,c,rfl,g1,g3,Nat.le_refl _,hm,?_,?_⟩⟩,h2.below⟩
    · rw [← hl,← g5];simp
    · rw [g5,← hl];exact List.take_length
theorem z0c {P:Program} {f:FuncId} (hen:∀ vs w,(callFunc f vs).run P w=.ok (.enter f vs) w) {args:List AV} {hp:List Blk} {G:Mem} {K:AV→List Blk→Mem→Prop} {wrap:AV→AV} (hwr:Wraps wrap) {E:TypeId} {sz n:Nat} {xs:List Value} (hu:AV.unders 0 args=true)
    (hc:q57 P f args G wrap E sz n xs) (h:lenF hp fun m=>catF hp [.own E sz n xs] fun hp'=>K (wrap (.own m)) hp' G):CallP P f args hp G K:=by
  have h0:=q1y h
  rw [q09] at h0
  refine ⟨hen,fun w0 G0 β w vs hr ha=>(hc w vs hr.hold (q3w hu ha)).mono ?_⟩
  rintro e w' ⟨y,s,rfl,h2,h3,h4⟩
  have hfresh:∀ b,q0i s=some b→w.heap.size≤b:=fun b hb=>by
    rcases h3.2 with ⟨rfl,_⟩ |⟨g,cap,cur,rfl,h5,_⟩
    · simp [q0i] at hb
    · simp [q0i] at hb;omega
  refine ⟨y,_,wrap (.own hp.length),_,G,rfl,Nm.le_put s (hr.fresh (Nat.le_refl _)),hr.name h4 (x:=.own E sz n xs) ⟨?_,fun g hg=>q5t hr.hold (hfresh g hg)⟩ rfl hfresh,hwr.rel (by simp only [AV.rel];exact ⟨Nm.put_same _ _ _,q22 h3⟩) h2,h0⟩
  obtain ⟨q1,q2⟩:=h3
  refine ⟨q1,?_⟩
  rcases q2 with q2 |⟨g,cap,cur,q3,q4,q5⟩
  · exact .inl q2
  · exact .inr ⟨g,cap,cur,q3,Nat.le_trans hr.below.size q4,q5⟩
/-! ### Loops by the slots that they write -/
def x0d:List Oper→List Nat→List Nat
  | [],r=>r
  | o::l,r=>match o.dst with
    | some d=>d::x0d l r
    | none=>x0d l r
def q3l:Code→List Nat→List Nat
  | .region _ ops _,r=>x0d ops.toList r
  | .seq a b,r=>q3l a (q3l b r)
  | .cond _ a b,r=>q3l a (q3l b r)
  | .block _ b,r=>q3l b r
  | .loop b,r=>q3l b r
  | .scope b,r=>q3l b r
  | _,r=>r
def z9f (ws:List Nat):Nat→List AV→List AV
  | _,[]=>[]
  | i,a::l=>(match q12 i ws with |true=>.any |false=>a)::z9f ws (i+1) l
def q7z (ws:List Nat):Nat→List AV→(List AV→Prop)→Prop
  | _,[],K=>K []
  | i,a::l,K=>q7z ws (i+1) l fun m=>match q12 i ws with
    | true=>K (.any::m)
    | false=>K (a::m)
theorem q6m (ws:List Nat):∀ (l:List AV) (i:Nat) (K:List AV→Prop),q7z ws i l K=K (z9f ws i l)
  | [],_,_=>rfl
  | a::l,i,K=>by
    rw [q7z,q6m ws l,z9f]
    cases q12 i ws <;> rfl
def z5q:List AV→List (Nat × AV)→List AV
  | fr,[]=>fr
  | fr,(d,v)::l=>z5q (fr.set d v) l
def q6n:List AV→List (Nat × AV)→(List AV→Prop)→Prop
  | fr,[],K=>K fr
  | fr,(d,v)::l,K=>setF fr d v fun fr'=>q6n fr' l K
theorem q5x:∀ (l:List (Nat × AV)) (fr:List AV) (K:List AV→Prop),q6n fr l K=K (z5q fr l)
  | [],_,_=>rfl
  | (d,v)::l,fr,K=>by rw [q6n,q1c,q5x l,z5q]
def q9u:List Nat→(List Nat→Prop)→Prop
  | [],K=>K []
  | x::l,K=>q9u l fun m=>K (x::m)
theorem q7e:∀ (l:List Nat) (K:List Nat→Prop),q9u l K=K l
  | [],_=>rfl
  | x::l,K=>by rw [q9u,q7e l]
def q4w (b:Code) (fr:List AV) (S:List (Nat × AV)):List AV:=z5q (z9f (q3l b []) 0 fr) S
theorem q07 {P:Program} {T:Tab} (hT:TOk P T) {n0:Nat} {b:Code} {fr:List AV} {hp:List Blk} {G:Mem} {Q:Post} {ι:Type} (inv:ι→Prop) (S:ι→List (Nat × AV)) (H:ι→List Blk) (μ:ι→Nat) (i0:ι) (h0:inv i0)
    (start:Le n0 fr hp G (q4w b fr (S i0)) (H i0) G)
    (round:∀ i,inv i→q9u (q3l b []) fun ws=>q7z ws 0 fr fun fr1=>q6n fr1 (S i) fun fr2=>q9r P T n0 b fr2 (H i) G fun e fr' hp' G'=>match e with
      | .normal=>∃ i',inv i'∧μ i'<μ i∧Le n0 fr' hp' G' (q4w b fr (S i')) (H i') G
      | e=>Q e fr' hp' G'):LoopP P n0 b fr hp G Q:=by
  refine z4n hT inv (fun i=>q4w b fr (S i)) H (fun _=>G) μ ⟨i0,h0,start⟩ fun i hi=>?_
  have h:=round i hi
  rw [q7e,q6m,q5x] at h
  exact h
theorem z4q {n0:Nat} {fr fr' fr'':List AV} {hp hp' hp'':List Blk} {G G' G'':Mem} (h:Le n0 fr hp G fr' hp' G') (k:Le n0 fr' hp' G' fr'' hp'' G''):Le n0 fr hp G fr'' hp'' G'':=by
  constructor
  intro w0 G0 β0 β w ys hb hle hr hf
  obtain ⟨β',h1,h2,h3⟩:=h.out w0 G0 β0 β w ys hb hle hr hf
  exact k.out w0 G0 β0 β' w ys hb h1 h2 h3
def q70 (k:Nat):List AV→List AV→List AV
  | a::l,b::m=>(match b with
    | .own j=>match a with
      | .val (.slice none 0 0)=>cond (Nat.beq j k) (.own k) (.val (.slice none 0 0))
      | a=>a
    | _=>a)::q70 k l m
  | l,_=>l
def q30 (k:Nat):List Blk→List Blk→List Blk
  | x::l,y::m=>(match x,y with
    | .cells t cs,.cells _ ds=>.cells t (q70 k cs ds)
    | x,_=>x)::q30 k l m
  | l,_=>l
theorem z0d {β:Nm} {k:Nat} (hk:β k=none):∀ {l m:List AV} {ys:List Value},AV.rels β l ys→AV.rels (β.put k (.slice none 0 0)) (q70 k l m) ys
  | [],m,ys,e=>by simpa [q70,AV.rels] using e
  | a::l,[],ys,e=>AV.rels_mono (Nm.le_put _ hk) _ _ e
  | a::l,b::m,ys,e=>by
    simp only [AV.rels] at e
    obtain ⟨y,zs,rfl,h2,h3⟩:=e
    simp only [q70,AV.rels]
    refine ⟨y,zs,rfl,?_,z0d hk h3⟩
    have h4:=AV.rel_mono (Nm.le_put (.slice none 0 0) hk) _ _ h2
    cases b <;> try exact h4
    rename_i j
    dsimp only
    split
    · simp only [AV.rel] at h2
      subst h2
      cases hj:Nat.beq j k with
      | true =>
        have:=Nat.eq_of_beq_eq_true hj
        subst this
        simp only [cond_true,AV.rel];exact ⟨Nm.put_same _ _ _,rfl⟩
      | false=>simp only [cond_false,AV.rel]
    · exact h4
theorem x9t {n0:Nat} (E:TypeId) (sz:Nat) {fr fr':List AV} {hp hp':List Blk} {G G':Mem} (h:lenF hp fun k=>catF (q30 k hp hp') [.own E sz 0 []] fun hq=>Le n0 (q70 k fr fr') hq G fr' hp' G'):Le n0 fr hp G fr' hp' G':=by
  have h0:=q1y h
  rw [q09] at h0
  constructor
  intro w0 G0 β0 β w ys hb hle hr hf
  have hn:=hr.fresh (Nat.le_refl _)
  refine h0.out w0 G0 β0 (β.put hp.length (.slice none 0 0)) w ys hb (Nm.le_trans hle (Nm.le_put _ hn)) ?_ (z0d hn hf)
  have hbase:=hr.name (Below.refl _ _) (x:=.own E sz 0 []) (y:=.slice none 0 0) (n:=hp.length) ⟨World.ownsRow_nil _ _ _ _,fun g hg=>by simp [q0i] at hg⟩ rfl (fun b hb=>by simp [q0i] at hb)
  have zl:∀ (l m:List Blk),(q30 hp.length l m).length=l.length:=by
    intro l
    induction l with
    | nil=>intro m;cases m <;> rfl
    | cons x l ih=>intro m;cases m with
      | nil=>rfl
      | cons y m=>simp [q30,ih]
  have zg:∀ (l m:List Blk) (k:Nat) (x:Blk),l[k]? = some x→∃ y,(q30 hp.length l m)[k]? = some y∧y.live=x.live∧(∀ S,y=.muts S→x=.muts S)∧(∀ base G w z,x.rel base β G w z→y.rel base (β.put hp.length (.slice none 0 0)) G w z):=by
    intro l
    induction l with
    | nil=>intro m k x h;simp at h
    | cons a l ih =>
      intro m k x h
      cases m with
      | nil=>exact ⟨x,by simpa [q30] using h,rfl,(fun S h=>h),fun base G w z hz=>Blk.rel_of (Nm.le_put _ hn) hz (fun b _=>⟨rfl,id⟩)⟩
      | cons b m =>
        cases k with
        | succ k =>
          obtain ⟨y,h1,h2⟩:=ih m k x (by simpa using h)
          exact ⟨y,by simpa [q30] using h1,h2⟩
        | zero =>
          simp at h;subst h
          have same:∀ (x:Blk),(q30 hp.length (x::l) (b::m))[0]? = some x→∃ y,(q30 hp.length (x::l) (b::m))[0]? = some y∧y.live=x.live∧(∀ S,y=.muts S→x=.muts S)∧(∀ base G w z,x.rel base β G w z→y.rel base (β.put hp.length (.slice none 0 0)) G w z):=fun x hx =>
            ⟨x,hx,rfl,(fun S h=>h),fun base G w z hz=>Blk.rel_of (Nm.le_put _ hn) hz (fun b _=>⟨rfl,id⟩)⟩
          cases a with
          | gone=>cases b <;> exact same _ rfl
          | muts S=>cases b <;> exact same _ rfl
          | own e sz n xs=>cases b <;> exact same _ rfl
          | lp i fr st p=>cases b <;> exact same _ rfl
          | mp f ks vs=>cases b <;> exact same _ rfl
          | cells t cs =>
            cases b with
            | gone=>exact same _ rfl
            | muts S=>exact same _ rfl
            | own e sz n xs=>exact same _ rfl
            | lp i fr st p=>exact same _ rfl
            | mp f ks vs=>exact same _ rfl
            | cells t' ds =>
              refine ⟨.cells t (q70 hp.length cs ds),rfl,rfl,(fun S h=>by cases h),fun base G w z hz=>?_⟩
              obtain ⟨b',c,h1,h2,h3,h4,h5⟩:=hz
              exact ⟨b',c,h1,h2,h3,h4,z0d hn h5⟩
  have back:∀ (k:Nat) (x:Blk),(q30 hp.length hp hp'++[.own E sz 0 []])[k]? = some x→(k<hp.length∧∃ x',hp[k]? = some x'∧x.live=x'.live∧∀ S,x=.muts S→x'=.muts S)∨(k=hp.length∧x=.own E sz 0 []):=by
    intro k x hx
    rcases Nat.lt_or_ge k hp.length with h1 |h1
    · left
      rw [List.getElem?_append_left (by rw [zl];exact h1)] at hx
      obtain ⟨y,h2,h3,h4,_⟩:=zg hp hp' k _ (List.getElem?_eq_getElem h1)
      rw [hx] at h2;cases h2
      exact ⟨h1,_,List.getElem?_eq_getElem h1,h3,h4⟩
    · right
      rw [List.getElem?_append_right (by rw [zl];exact h1),zl] at hx
      have:k-hp.length=0:=by
        have:=(List.getElem?_eq_some_iff.1 hx).1;simp at this;omega
      rw [this] at hx
      simp at hx
      exact ⟨by omega,hx.symm⟩
  refine ⟨hbase.below,hbase.hold,hbase.sub,hbase.grow,fun k y hk=>?_,fun j j' z z' u u' c hne hj hj' hu hu' hul hul' hz hz'=>?_,fun k S hk=>?_⟩
  · by_cases hkn:k=hp.length
    · rw [hkn,Nm.put_same] at hk;cases hk
      refine ⟨.own E sz 0 [],by rw [hkn,List.getElem?_append_right (by rw [zl];exact Nat.le_refl _),zl];simp,World.ownsRow_nil _ _ _ _,fun g hg=>by simp [q0i] at hg⟩
    · rw [Nm.put_ne _ _ hkn] at hk
      obtain ⟨x,h1,h2⟩:=hr.blk k y hk
      obtain ⟨x',h3,_,_,h5⟩:=zg hp hp' k x h1
      exact ⟨x',by rw [List.getElem?_append_left (List.getElem?_eq_some_iff.1 h3).1];exact h3,h5 _ _ _ _ h2⟩
  · have old:∀ (i:Nat) (p:Value) (r:Blk) (d:Nat),(β.put hp.length (.slice none 0 0)) i=some p→(q30 hp.length hp hp'++[.own E sz 0 []])[i]? = some r→r.live=true→q0i p=some d→β i=some p∧∃ r',hp[i]? = some r'∧r'.live=true:=by
      intro i p r d hi hri hrl hd
      by_cases hin:i=hp.length
      · rw [hin,Nm.put_same] at hi;cases hi;simp [q0i] at hd
      · rw [Nm.put_ne _ _ hin] at hi
        rcases back i r hri with ⟨_,r',h2,h3,_⟩ |⟨h1,_⟩
        · exact ⟨hi,r',h2,by rw [← h3];exact hrl⟩
        · exact absurd h1 hin
    obtain ⟨a1,r,a2,a3⟩:=old j z u c hj hu hul hz
    by_cases hj'n:q0i z'=some c
    · obtain ⟨b1,r',b2,b3⟩:=old j' z' u' c hj' hu' hul' hj'n
      exact absurd hj'n (hr.inj j j' z z' r r' c hne a1 b1 a2 b2 a3 b3 hz)
    · exact hj'n hz'
  · rcases back k _ hk with ⟨_,r',h2,_,h3⟩ |⟨_,h1⟩
    · exact hr.wrt k S (by rw [h2,h3 S rfl])
    · cases h1
end Go.Proofs.YtegpkpilfgohhaaGreat
namespace Go.Proofs.YtegpkpilfgohhaaGreat
open Go.RowKit
theorem q4b {n:Nat}:frLe n [] []:=trivial
theorem q7f {n:Nat} {a:AV} {l m:List AV} (h:frLe n l m):frLe n (a::l) (.any::m):=h
theorem z0p {n:Nat} {a b:AV} {l m:List AV} (e:a=b) (u:a.under n=true) (h:frLe n l m):frLe n (a::l) (b::m):=by
  subst e
  cases a <;> first |exact ⟨⟨rfl,u⟩,h⟩ |exact h
theorem x60 {n:Nat} {x:Value} {l m:List AV} (h:frLe n l m):frLe n (.val x::l) (.val x::m):=z0p rfl rfl h
theorem q71 {n:Nat} {a b:AV} {l m:List AV} (e:a=b) (hb:b.under n=true) (h:frLe n l m):frLe n (a::l) (b::m):=z0p e (by rw [e];exact hb) h
theorem q0e {n:Nat} {l:List Blk}:hpLe n l []:=by cases l <;> trivial
theorem q0j {n:Nat} {x:Blk} {l m:List Blk} (h:hpLe n l m):hpLe n (x::l) (.gone::m):=⟨by cases x <;> trivial,h⟩
theorem q0c {n:Nat} {t:TypeId} {cs ds:List AV} {l m:List Blk} (e:frLe n cs ds) (h:hpLe n l m):hpLe n (.cells t cs::l) (.cells t ds::m):=⟨⟨rfl,e⟩,h⟩
theorem q0d {n:Nat} {e:TypeId} {sz k k':Nat} {xs ys:List Value} {l m:List Blk} (hk:k=k') (hx:xs=ys) (h:hpLe n l m):hpLe n (.own e sz k xs::l) (.own e sz k' ys::m):=by
  subst hk;subst hx;exact ⟨⟨rfl,rfl,rfl,rfl⟩,h⟩
theorem x43 {k:IntKind} {x y:Int} (h:x=y):AV.val (.int k x)=.val (.int k y):=by rw [h]
theorem x8u {x y:Bool} (h:x=y):AV.val (.bool x)=.val (.bool y):=by rw [h]
theorem q0g {n0:Nat} {fr:List AV} {hp:List Blk} {G:Mem} {b:Code} {fr0:List AV} {S:List (Nat × AV)} {hp':List Blk} {G':Mem} (h:q9u (q3l b []) fun ws=>q7z ws 0 fr0 fun fr1=>q6n fr1 S fun fr2=>Le n0 fr hp G fr2 hp' G') :
    Le n0 fr hp G (q4w b fr0 S) hp' G':=by
  rw [q7e,q6m,q5x] at h;exact h
def mvsF (q k:Nat) (l:List AV):(List AV→Prop)→Prop :=
  List.rec (motive:=fun _=>(List AV→Prop)→Prop) (fun K=>K []) (fun a _ ih K=>ih fun m=>q2r (AV.mv q k a) fun a'=>K (a'::m)) l
theorem q80 (q k:Nat):∀ (l:List AV) (K:List AV→Prop),mvsF q k l K=K (AV.mvs q k l)
  | [],_=>rfl
  | a::l,K=>by
    show mvsF q k l (fun m=>q2r (AV.mv q k a) fun a'=>K (a'::m))=_
    rw [q80 q k l,q19];rfl
def mvBF (q k:Nat) (l:List Blk):(List Blk→Prop)→Prop :=
  List.rec (motive:=fun _=>(List Blk→Prop)→Prop) (fun K=>K []) (fun x _ ih K=>ih fun m=>match x with
    | .cells t cs=>mvsF q k cs fun cs'=>K (.cells t cs'::m)
    | .own e sz n xs=>K (.own e sz n xs::m)
    | .gone=>K (.gone::m)
    | .muts S=>K (.muts S::m)
    | .lp i fr st p=>mvsF q k fr fun fr'=>K (.lp i fr' st p::m)
    | .mp f ks vs=>mvsF q k vs fun vs'=>K (.mp f ks vs'::m)) l
theorem z60 (q k:Nat):∀ (l:List Blk) (K:List Blk→Prop),mvBF q k l K=K (mvB q k l)
  | [],_=>rfl
  | x::l,K=>by
    show mvBF q k l (fun m=>match x with
      | .cells t cs=>mvsF q k cs fun cs'=>K (.cells t cs'::m)
      | .own e sz n xs=>K (.own e sz n xs::m)
      | .gone=>K (.gone::m)
      | .muts S=>K (.muts S::m)
      | .lp i fr st p=>mvsF q k fr fun fr'=>K (.lp i fr' st p::m)
      | .mp f ks vs=>mvsF q k vs fun vs'=>K (.mp f ks vs'::m))=_
    rw [z60 q k l]
    cases x with
    | cells t cs=>simp only [q80];rfl
    | own e sz n xs=>rfl
    | gone=>rfl
    | muts S=>rfl
    | lp i fr st p=>simp only [q80];rfl
    | mp f ks vs=>simp only [q80];rfl
def x44 (x:Blk) (K:Blk→Prop):Prop :=
  match x with
  | .cells t cs=>K (.cells t cs)
  | .own e sz n xs=>K (.own e sz n xs)
  | .gone=>K .gone
  | .muts S=>K (.muts S)
  | .lp i fr st p=>K (.lp i fr st p)
  | .mp f ks vs=>K (.mp f ks vs)
theorem x45 (x:Blk) (K:Blk→Prop):x44 x K=K x:=by cases x <;> rfl
theorem q0k (q k:Nat) {n0:Nat} {fr fr':List AV} {hp hp':List Blk} {G G':Mem} (h1:Nat.ble n0 q=true) (h2:Nat.ble n0 k=true) (h3:Nat.blt k q=true) (h4:Nat.blt q hp.length=true)
    (h:mvsF q k fr fun fr1=>mvBF q k hp fun hp1=>x44 (nthB hp1 q) fun x=>setF hp1 k x fun hp2=>setF hp2 q .gone fun hp3=>Le n0 fr1 hp3 G fr' hp' G'):Le n0 fr hp G fr' hp' G':=by
  rw [q80,z60,x45,q1c,q1c] at h
  exact x91 h1 h2 h3 h4 h
def z3k (k:Nat) (l:List AV):List AV→(List AV→Prop)→Prop :=
  List.rec (motive:=fun _=>List AV→(List AV→Prop)→Prop) (fun _ K=>K []) (fun a l ih m K=>match m with
    | b::m=>ih m fun r=>q2r (match b with
      | .own j=>match a with
        | .val (.slice none 0 0)=>cond (Nat.beq j k) (.own k) (.val (.slice none 0 0))
        | a=>a
      | _=>a) fun a'=>K (a'::r)
    | []=>K (a::l)) l
theorem z1j (k:Nat):∀ (l m:List AV) (K:List AV→Prop),z3k k l m K=K (q70 k l m)
  | [],m,_=>by cases m <;> rfl
  | a::l,[],_=>rfl
  | a::l,b::m,K=>by
    show z3k k l m _=_
    rw [z1j k l m,q19]
    rfl
def z4r (k:Nat) (l:List Blk):List Blk→(List Blk→Prop)→Prop :=
  List.rec (motive:=fun _=>List Blk→(List Blk→Prop)→Prop) (fun _ K=>K []) (fun x l ih m K=>match m with
    | y::m=>ih m fun r=>match x,y with
      | .cells t cs,.cells _ ds=>z3k k cs ds fun cs'=>K (.cells t cs'::r)
      | x,_=>K (x::r)
    | []=>K (x::l)) l
theorem z35 (k:Nat):∀ (l m:List Blk) (K:List Blk→Prop),z4r k l m K=K (q30 k l m)
  | [],m,_=>by cases m <;> rfl
  | a::l,[],_=>rfl
  | x::l,y::m,K=>by
    show z4r k l m _=_
    rw [z35 k l m]
    cases x with
    | cells t cs =>
      cases y with
      | cells t' ds=>exact z1j k cs ds _
      | own e sz n xs=>rfl
      | gone=>rfl
      | muts S=>rfl
      | lp i fr st p=>rfl
      | mp f ks vs=>rfl
    | own e sz n xs=>cases y <;> rfl
    | gone=>cases y <;> rfl
    | muts S=>cases y <;> rfl
    | lp i fr st p=>cases y <;> rfl
    | mp f ks vs=>cases y <;> rfl
theorem q15 {n0:Nat} (E:TypeId) (sz:Nat) {fr fr':List AV} {hp hp':List Blk} {G G':Mem} (h:lenF hp fun k=>z4r k hp hp' fun hp1=>catF hp1 [.own E sz 0 []] fun hq=>z3k k fr fr' fun fr1=>Le n0 fr1 hq G fr' hp' G'):Le n0 fr hp G fr' hp' G':=by
  refine x9t E sz ?_
  have h0:=q1y h
  rw [z35,q09,z1j] at h0
  have key:∀ (l:List Blk) (ns:List Nat) (i:Nat) (K:Nat→Prop),(∀ j,j<l.length+1→ns[j]? = some (i+j))→K (i+l.length)→q6l l ns K:=by
    intro l
    induction l with
    | nil =>
      intro ns i K hn hK
      cases ns with
      | nil=>have h1:=hn 0 (Nat.succ_pos _);cases h1
      | cons n ns =>
        have h1:=hn 0 (Nat.succ_pos _)
        simp only [List.getElem?_cons_zero,Nat.add_zero,Option.some.injEq] at h1
        subst h1;exact hK
    | cons x l ih =>
      intro ns i K hn hK
      cases ns with
      | nil=>have h1:=hn 0 (Nat.succ_pos _);cases h1
      | cons n ns =>
        refine ih ns (i+1) K (fun j hj=>?_) ?_
        · have:=hn (j+1) (by simp only [List.length_cons];omega)
          simp at this;rw [this];congr 1;omega
        · rw [List.length_cons] at hK;rw [show i+1+l.length=i+(l.length+1) by omega];exact hK
  have hl:hp.length<129:=by
    unfold lenF at h
    have:∀ (l:List Blk) (ns:List Nat) (K:Nat→Prop),q6l l ns K→l.length<ns.length:=by
      intro l
      induction l with
      | nil=>intro ns K h;cases ns with
        | nil=>exact h.elim
        | cons n ns=>simp
      | cons x l ih=>intro ns K h;cases ns with
        | nil=>exact h.elim
        | cons n ns=>have:=ih ns K h;simp;exact this
    exact this hp lits _ h
  unfold lenF
  refine key hp lits 0 _ (fun j hj=>?_) ?_
  · have:∀ j,j<129→lits[j]? = some j:=by decide
    rw [this j (by omega)];simp
  · rw [Nat.zero_add,q09];exact h0
theorem q1a {xs:List Value} {o:Nat} {K:List Value→Prop} (v:Value) (h:xs[o]? = some v) (k:K [v]):OwnCells xs o 1 K :=
  ⟨[v],⟨rfl,fun j u hj=>by
    cases j with
    | zero=>simp at hj;subst hj;simpa using h
    | succ j=>simp at hj⟩,k⟩
theorem z17 {xs:List Value} {o n:Nat} {K:List Value→Prop} (vs:List Value) (hn:vs.length=n) (h:∀ (j:Nat) v,vs[j]? = some v→xs[o+j]? = some v) (k:K vs):OwnCells xs o n K:=⟨vs,⟨hn,h⟩,k⟩
theorem q0q {G:Mem} {a:Addr} {K:List Value→Prop} (v:Value) (h:G.cell? a=some v) (k:K [v]):OldCells G a 1 K :=
  ⟨[v],⟨rfl,fun j u hj=>by
    cases j with
    | zero=>simp at hj;subst hj;simpa [Addr.add] using h
    | succ j=>simp at hj⟩,k⟩
theorem q58 {G:Mem} {a:Addr} {n:Nat} {K:List Value→Prop} (vs:List Value) (hn:vs.length=n) (h:G.cellsAt a vs) (k:K vs):OldCells G a n K:=⟨vs,⟨hn,h⟩,k⟩
end Go.Proofs.YtegpkpilfgohhaaGreat
namespace Go.Proofs.YtegpkpilfgohhaaGreat
open Go.RowKit
def z2o (P:Program) (g:TypeId→Option (List TD)):Nat→List Field→Option (List TD)
  | _,[]=>some []
  | off,f::fs=>if f.name = "_" then none else if f.offset≠off then none else
    match g f.type,P.info? f.type with
    | some l,some i=>if i.size≠l.length then none else
      match z2o P g (off+l.length) fs with
      | some r=>some (l++r)
      | none=>none
    | _,_=>none
def flatK (P:Program):Nat→TypeId→Option (List TD)
  | 0,_=>none
  | n+1,t=>match P.underlying t with
    | some (.int k)=>some [.int k]
    | some .bool=>some [.bool]
    | some .string=>some [.str]
    | some (.struct fs)=>if P.stoodInHeld t then none else z2o P (flatK P n) 0 fs.toList
    | some (.array m e)=>match flatK P n e,P.info? e with
      | some l,some i=>if i.size≠l.length then none else some (List.replicate m l).flatten
      | _,_=>none
    | _=>none
def q00:List TD→List Value→Bool
  | [],[]=>true
  | .int k::l,.int k' _::vs=>x3g k k'&&q00 l vs
  | .bool::l,.bool _::vs=>q00 l vs
  | .str::l,.string _::vs=>q00 l vs
  | _,_=>false
def q1x:List Value→List Value→Bool
  | [],[]=>true
  | .int _ a::xs,.int _ b::ys=>decide (a=b)&&q1x xs ys
  | .bool a::xs,.bool b::ys=>(a==b)&&q1x xs ys
  | .string a::xs,.string b::ys=>(a.toList==b.toList)&&q1x xs ys
  | _,_=>false
theorem q3r:∀ {l m:List TD} {vs:List Value},q00 (l++m) vs=true→q00 l (vs.take l.length)=true∧q00 m (vs.drop l.length)=true
  | [],_,_,h=>by simpa [q00] using h
  | t::l,m,[],h=>by cases t <;> simp [q00] at h
  | t::l,m,v::vs,h=>by
    cases t <;> cases v <;> simp only [List.cons_append,q00,Bool.and_eq_true,Bool.false_eq_true] at h
    · have:=q3r h.2;simp [q00,h.1,this]
    · have:=q3r h;simp [q00,this]
    · have:=q3r h;simp [q00,this]
theorem q2f:∀ {l:List TD} {vs:List Value},q00 l vs=true→vs.length=l.length
  | [],[],_=>rfl
  | [],_::_,h=>by simp [q00] at h
  | t::l,[],h=>by cases t <;> simp [q00] at h
  | t::l,v::vs,h=>by
    cases t <;> cases v <;> simp only [q00,Bool.and_eq_true,Bool.false_eq_true] at h
    · simp [q2f h.2]
    · simp [q2f h]
    · simp [q2f h]
theorem q4x:∀ {l:List TD} {a b c d:List Value},q00 l a=true→q00 l b=true→q1x (a++c) (b++d)=(q1x a b&&q1x c d)
  | [],[],[],c,d,_,_=>by simp [q1x]
  | [],_::_,_,_,_,h,_=>by simp [q00] at h
  | [],[],_::_,_,_,_,h=>by simp [q00] at h
  | t::l,[],_,_,_,h,_=>by cases t <;> simp [q00] at h
  | t::l,_::_,[],_,_,_,h=>by cases t <;> simp [q00] at h
  | t::l,x::a,y::b,c,d,h,h'=>by
    cases t <;> cases x <;> simp only [q00,Bool.and_eq_true,Bool.false_eq_true] at h <;> cases y <;> simp only [q00,Bool.and_eq_true,Bool.false_eq_true] at h'
    · simp [q1x,q4x h.2 h'.2,Bool.and_assoc]
    · simp [q1x,q4x h h',Bool.and_assoc]
    · simp [q1x,q4x h h',Bool.and_assoc]
def q35 (P:Program) (t:TypeId) (xs:List Value):Value :=
  match P.underlying t,xs with
  | some (.struct _),xs=>.agg xs.toArray
  | some (.array _ _),xs=>.agg xs.toArray
  | _,[x]=>x
  | _,_=>undef
theorem q9v {P:Program} {t:TypeId} {l:List TD} {n:Nat} (h:flatK P n t=some l) {i:TypeInfo} (hi:P.info? t=some i) (hs:i.size=l.length) {xs:List Value} {off:Nat} (hk:q00 l ((xs.drop off).take l.length)=true) (w:World) :
    (part t xs.toArray off).run P w=.ok (q35 P t ((xs.drop off).take l.length)) w:=by
  cases n with
  | zero=>simp [flatK] at h
  | succ n =>
    unfold flatK at h
    have hsz:(sizeOf t).run P w=.ok l.length w:=by simp [sizeOf,typeInfo,hi,hs]
    have hlen:=q2f hk
    have scal:∀ {d:TypeDesc},P.underlying t=some d→(match d with | .struct _=>False | .array _ _=>False |_=>True)→l.length=1→(part t xs.toArray off).run P w=.ok (q35 P t ((xs.drop off).take l.length)) w:=by
      intro d hd hna h1
      rw [h1] at hlen ⊢
      obtain ⟨v,hv⟩:=List.length_eq_one_iff.1 hlen
      have hx:xs[off]? = some v:=by
        have:=congrArg (fun z:List Value=>z[0]?) hv
        simpa using this
      have hag:(isAgg t).run P w=.ok false w:=by cases d <;> simp_all [isAgg,run_underlying]
      have hw:q35 P t [v]=v:=by unfold q35;rw [hd];cases d <;> simp_all
      rw [hv,hw]
      simp [part,hag,hx]
    split at h
    · rename_i k hd;cases h;exact scal hd trivial rfl
    · rename_i hd;cases h;exact scal hd trivial rfl
    · rename_i hd;cases h;exact scal hd trivial rfl
    · rename_i fs hd
      simp [part,isAgg,run_underlying hd,hsz,q35,hd]
    · rename_i m e hd
      simp [part,isAgg,run_underlying hd,hsz,q35,hd]
    · cases h
theorem q6y {P:Program}:∀ (n:Nat) (t:TypeId) (l:List TD),flatK P n t=some l→∀ (xs ys:List Value),q00 l xs=true→q00 l ys=true→∀ (d:Nat) (w:World),
    (Op.equalIn (d+n) t (q35 P t xs) (q35 P t ys)).run P w=.ok (q1x xs ys) w
  | 0,_,_,h=>by simp [flatK] at h
  | n+1,t,l,h=>by
    intro xs ys hx hy d w
    unfold flatK at h
    have one:∀ {k:TD},l=[k]→∃ x y,xs=[x]∧ys=[y]:=fun {k} e=>by
      subst e
      have h1:=q2f hx
      have h2:=q2f hy
      obtain ⟨x,rfl⟩:=List.length_eq_one_iff.1 h1
      obtain ⟨y,rfl⟩:=List.length_eq_one_iff.1 h2
      exact ⟨x,y,rfl,rfl⟩
    split at h
    · rename_i k hd
      cases h
      obtain ⟨x,y,rfl,rfl⟩:=one rfl
      cases x <;> simp only [q00,Bool.and_eq_true,Bool.false_eq_true] at hx
      cases y <;> simp only [q00,Bool.and_eq_true,Bool.false_eq_true] at hy
      obtain rfl:=z4j hx.1
      obtain rfl:=z4j hy.1
      simp only [q35,hd]
      rw [show d+(n+1)=(d+n)+1 by omega,run_equalIn_int w (d+n) t _ _ _ _ hd]
      simp [q1x];rfl
    · rename_i hd
      cases h
      obtain ⟨x,y,rfl,rfl⟩:=one rfl
      cases x <;> simp only [q00,Bool.and_eq_true,Bool.false_eq_true] at hx
      cases y <;> simp only [q00,Bool.and_eq_true,Bool.false_eq_true] at hy
      simp only [q35,hd]
      rw [show d+(n+1)=(d+n)+1 by omega,run_equalIn_bool' w (d+n) t _ _ hd]
      simp [q1x]
    · rename_i hd
      cases h
      obtain ⟨x,y,rfl,rfl⟩:=one rfl
      cases x <;> simp only [q00,Bool.and_eq_true,Bool.false_eq_true] at hx
      cases y <;> simp only [q00,Bool.and_eq_true,Bool.false_eq_true] at hy
      simp only [q35,hd]
      rw [show d+(n+1)=(d+n)+1 by omega,run_equalIn_string w (d+n) t _ _ hd]
      simp [q1x]
    · rename_i fs hd
      split at h
      · cases h
      · rename_i hst
        have hf:P.fieldsOf t=fs:=by simp [Program.fieldsOf,hd]
        simp only [q35,hd]
        rw [show d+(n+1)=(d+n)+1 by omega,run_equalIn_struct w (d+n) t _ _ (by rw [hf];exact hd) (by simpa using hst),hf]
        have key:∀ (gs:List Field) (off:Nat) (r:List TD),z2o P (flatK P n) off gs=some r→q00 r (xs.drop off)=true→q00 r (ys.drop off)=true →
            (Op.eqFields (d+n) xs.toArray ys.toArray gs).run P w=.ok (q1x (xs.drop off) (ys.drop off)) w:=by
          intro gs
          induction gs with
          | nil =>
            intro off r hr h1 h2
            simp [z2o] at hr;subst hr
            have e1:=List.eq_nil_of_length_eq_zero (q2f h1)
            have e2:=List.eq_nil_of_length_eq_zero (q2f h2)
            rw [e1,e2];simp [Op.eqFields,q1x]
          | cons f gs ih =>
            intro off r hr h1 h2
            unfold z2o at hr
            split at hr
            · cases hr
            · rename_i hnm
              split at hr
              · cases hr
              · rename_i hoff
                simp at hoff
                split at hr
                · rename_i l' i' hl' hi'
                  split at hr
                  · cases hr
                  · rename_i hsz
                    simp at hsz
                    split at hr
                    · rename_i r' hr'
                      cases hr
                      obtain ⟨a1,a2⟩:=q3r h1
                      obtain ⟨b1,b2⟩:=q3r h2
                      rw [List.drop_drop] at a2 b2
                      have p1:=q9v hl' hi' hsz a1 w
                      have p2:=q9v hl' hi' hsz b1 w
                      have q:=q6y n f.type l' hl' _ _ a1 b1 d w
                      have i2:=ih (off+l'.length) r' hr' a2 b2
                      have e3:q1x (xs.drop off) (ys.drop off)=(q1x ((xs.drop off).take l'.length) ((ys.drop off).take l'.length)&&q1x (xs.drop (off+l'.length)) (ys.drop (off+l'.length))):=by
                        rw [← q4x a1 b1,← List.drop_drop,← List.drop_drop,List.take_append_drop,List.take_append_drop]
                      rw [e3]
                      simp only [Op.eqFields,ne_eq,hnm,not_false_eq_true,if_true,Sem.run_bind,hoff,p1,p2,Result.andThen_ok,q]
                      cases hq:q1x ((xs.drop off).take l'.length) ((ys.drop off).take l'.length)
                      · simp
                      · simpa using i2
                    · cases hr
                · cases hr
        have:=key fs.toList 0 l h (by simpa using hx) (by simpa using hy)
        simpa using this
    · rename_i m e hd
      split at h
      · rename_i l' i' hl' hi'
        split at h
        · cases h
        · rename_i hsz
          simp at hsz
          cases h
          simp only [q35,hd]
          rw [show d+(n+1)=(d+n)+1 by omega,run_equalIn_array w (d+n) (e:=e) (n:=m) _ _ hd hi']
          have hc:P.cellsOf e=l'.length:=by simp [Program.cellsOf,hi',hsz]
          rw [hc]
          have key:∀ (k i:Nat),q00 (List.replicate k l').flatten (xs.drop (i*l'.length))=true→q00 (List.replicate k l').flatten (ys.drop (i*l'.length))=true →
              (Op.eqItems (d+n) e l'.length xs.toArray ys.toArray (List.range' i k)).run P w=.ok (q1x (xs.drop (i*l'.length)) (ys.drop (i*l'.length))) w:=by
            intro k
            induction k with
            | zero =>
              intro i h1 h2
              have e1:=List.eq_nil_of_length_eq_zero (q2f h1)
              have e2:=List.eq_nil_of_length_eq_zero (q2f h2)
              rw [e1,e2];simp [Op.eqItems,q1x]
            | succ k ih =>
              intro i h1 h2
              rw [List.replicate_succ,List.flatten_cons] at h1 h2
              obtain ⟨a1,a2⟩:=q3r h1
              obtain ⟨b1,b2⟩:=q3r h2
              rw [List.drop_drop] at a2 b2
              have e0:i*l'.length+l'.length=(i+1)*l'.length:=by rw [Nat.add_mul];omega
              rw [e0] at a2 b2
              have p1:=q9v hl' hi' hsz a1 w
              have p2:=q9v hl' hi' hsz b1 w
              have q:=q6y n e l' hl' _ _ a1 b1 d w
              have i2:=ih (i+1) a2 b2
              have e3:q1x (xs.drop (i*l'.length)) (ys.drop (i*l'.length))=(q1x ((xs.drop (i*l'.length)).take l'.length) ((ys.drop (i*l'.length)).take l'.length)&&q1x (xs.drop ((i+1)*l'.length)) (ys.drop ((i+1)*l'.length))):=by
                rw [← q4x a1 b1,← e0,← List.drop_drop,← List.drop_drop,List.take_append_drop,List.take_append_drop]
              rw [e3,List.range'_succ]
              simp only [Op.eqItems,Sem.run_bind,p1,p2,Result.andThen_ok,q]
              cases hq:q1x ((xs.drop (i*l'.length)).take l'.length) ((ys.drop (i*l'.length)).take l'.length)
              · simp
              · simpa using i2
          have:=key m 0 (by simpa using hx) (by simpa using hy)
          simpa [List.range_eq_range'] using this
      · cases h
    · cases h
def q31:List Value→List Value→(Bool→Prop)→Prop
  | [],[],K=>K true
  | .int _ a::xs,.int _ b::ys,K=>q31 xs ys fun r=>K (decide (a=b)&&r)
  | .bool a::xs,.bool b::ys,K=>q31 xs ys fun r=>K ((a==b)&&r)
  | .string a::xs,.string b::ys,K=>q31 xs ys fun r=>K ((a.toList==b.toList)&&r)
  | _,_,_=>False
theorem x3t:∀ {xs ys:List Value} {K:Bool→Prop},q31 xs ys K→K (q1x xs ys):=by
  intro xs
  induction xs with
  | nil=>intro ys K h;cases ys with
    | nil=>exact h
    | cons=>exact h.elim
  | cons x xs ih =>
    intro ys K h
    cases ys with
    | nil=>cases x <;> exact h.elim
    | cons y ys =>
      cases x <;> cases y <;> first |exact h.elim |exact ih h
theorem q7g {P:Program} {t:TypeId} {x y:Operand} {l m:List AV} {K:Bool→Prop} {ks:List TD} (hf:flatK P 8 t=some ks) (hg:P.eqGuardType P.depth t=false) (ha:q35 P t []=.agg #[])
    (h:q14 l fun xs=>q14 m fun ys=>q0w (q00 ks xs) (q0w (q00 ks ys) (q31 xs ys K))):EqP P t x y (.agg l) (.agg m) K:=by
  obtain ⟨xs,rfl,h1⟩:=q3f _ _ h
  obtain ⟨ys,rfl,h2⟩:=q3f _ _ h1
  obtain ⟨k1,h3⟩:=q0t h2
  obtain ⟨k2,h4⟩:=q0t h3
  refine ⟨q1x xs ys,fun β u v w hu hv=>?_,x3t h4⟩
  simp only [AV.rel] at hu hv
  obtain ⟨cs,rfl,hcs⟩:=hu
  obtain ⟨ds,rfl,hds⟩:=hv
  have e1:cs=xs.toArray:=by rw [← q2a hcs]
  have e2:ds=ys.toArray:=by rw [← q2a hds]
  subst e1;subst e2
  have hw:∀ zs:List Value,q35 P t zs=.agg zs.toArray:=fun zs=>by
    unfold q35 at ha ⊢
    split at ha <;> simp_all
    · cases ha
  have q:=q6y 8 t ks hf xs ys k1 k2 9992 w
  rw [hw,hw] at q
  refine ⟨run_eqGuard_agg w .eql t x y _ _ hg,run_eqGuard_agg w .neq t x y _ _ hg,?_,?_⟩
  · rw [run_eql_struct,q];rfl
  · rw [run_neq_struct,q];rfl
theorem x61 {P:Program} {t:TypeId} {x y:Operand} {a b:Bool} {K:Bool→Prop} (ht:P.underlying t=some .bool) (h:K (a==b)):EqP P t x y (.val (.bool a)) (.val (.bool b)) K:=by
  refine ⟨a==b,fun β u v w hu hv=>?_,h⟩
  simp only [AV.rel] at hu hv
  subst hu;subst hv
  have q:=run_equalIn_bool' (P:=P) w 9999 t a b ht
  refine ⟨by simp [eqGuard],by simp [eqGuard],?_,?_⟩
  · simp [binOp,Op.equal,Op.maxDepth,q]
  · simp [binOp,Op.equal,Op.maxDepth,q]
def x93 (b:Bool) (K:Bool→Prop):Prop :=
  match b with
  | true=>K true
  | false=>K false
theorem z74 {P:Program} {t:TypeId} {x y:Operand} {a b:Bool} {K:Bool→Prop} (ht:P.underlying t=some .bool) (h:x93 (a==b) K):EqP P t x y (.val (.bool a)) (.val (.bool b)) K :=
  x61 ht (by generalize (a==b)=r at *;cases r <;> exact h)
theorem q8d {P:Program} (w:World) (d:Nat) (t:TypeId) {e:TypeId} (A:Option Addr) (n c:Nat) (ht:P.underlying t=some (.slice e)):(Op.equalIn (d+1) t (.slice A n c) (.slice none 0 0)).run P w=.ok A.isNone w:=by
  rw [Op.equalIn]
  cases A <;> simp [run_underlying ht]
theorem x2w {P:Program} {T:Tab} (hT:TOk P T) {t:TypeId} {x y:Operand} {A:Option Addr} {n c:Nat} {K:Bool→Prop} (h:q1b T t fun i=>match i.td with | .slice _=>K A.isNone |_=>False):EqP P t x y (.val (.slice A n c)) (.val (.slice none 0 0)) K:=by
  obtain ⟨i,hi,h1⟩:=q0y hT h
  split at h1
  · rename_i e htd
    have hu:=q1r (htd ▸ hi.td)
    simp only [TD.says] at hu
    refine ⟨A.isNone,fun β u v w hu1 hv=>?_,h1⟩
    simp only [AV.rel] at hu1 hv
    subst hu1;subst hv
    have q:=q8d (P:=P) w 9999 t A n c hu
    refine ⟨by simp [eqGuard],by simp [eqGuard],?_,?_⟩
    · simp [binOp,Op.equal,Op.maxDepth,q]
    · simp [binOp,Op.equal,Op.maxDepth,q]
  · exact h1.elim
theorem x2x {P:Program} {T:Tab} (hT:TOk P T) {t:TypeId} {x y:Operand} {k o n c:Nat} {K:Bool→Prop} (h:q1b T t fun i=>match i.td with | .slice _=>K false |_=>False):EqP P t x y (.sli k o n c) (.val (.slice none 0 0)) K:=by
  obtain ⟨i,hi,h1⟩:=q0y hT h
  split at h1
  · rename_i e htd
    have hu:=q1r (htd ▸ hi.td)
    simp only [TD.says] at hu
    refine ⟨false,fun β u v w hu1 hv=>?_,h1⟩
    simp only [AV.rel] at hu1 hv
    obtain ⟨z,b,h2,h3,rfl⟩:=hu1
    subst hv
    have q:=q8d (P:=P) w 9999 t (some ⟨b,o,none⟩) n c hu
    refine ⟨by simp [eqGuard],by simp [eqGuard],?_,?_⟩
    · simp [binOp,Op.equal,Op.maxDepth,q]
    · simp [binOp,Op.equal,Op.maxDepth,q]
  · exact h1.elim
end Go.Proofs.YtegpkpilfgohhaaGreat
