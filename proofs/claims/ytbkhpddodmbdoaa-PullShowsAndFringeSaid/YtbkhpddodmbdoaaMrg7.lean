/-
  Merged: XEw, XGmap.
-/
import Derived.Test.YtbkhpddodmbdoaaEng2
import Derived.Test.YtbkhpddodmbdoaaMrg4
import Derived.Test.YtbkhpddodmbdoaaGm
set_option linter.unusedVariables false
set_option linter.unusedSimpArgs false
set_option linter.unnecessarySimpa false
namespace Go.Proofs.Ytbkhpddodmbdoaa
open Go.RowKit
theorem z4v {w w':World} (h:(q8n w).holds w'):Below w.heap.size {w' with heap:=w.heap} w':=by
  refine ⟨rfl,rfl,rfl,?_,fun k hk=>?_⟩
  · rcases Nat.eq_zero_or_pos w.heap.size with h0 |h0
    · show w.heap.size≤_;omega
    · have hk:w.heap.size-1<w.heap.size:=by omega
      have h1:=h (w.heap.size-1) _ (Array.getElem?_eq_getElem hk)
      have h2:=(Array.getElem?_eq_some_iff.1 h1).1
      show w.heap.size≤_
      omega
  · have h1:=h k _ (Array.getElem?_eq_getElem hk)
    show w'.heap[k]? = w.heap[k]?
    rw [h1,Array.getElem?_eq_getElem hk]
theorem Sees.heap {P:Program} {w w':World} (hh:w'.heap=w.heap):∀ (n:Nat) (t:TypeId) (cs:List Value),Sees P w n t cs→Sees P w' n t cs
  | 0,_,_,h=>h.elim
  | n+1,t,cs,h=>by
    unfold Sees at h ⊢
    split <;> first |(rename_i ht;rw [ht] at h;simp only at h) |skip
    · exact h
    · exact h
    · exact h
    · exact ⟨h.1,fun i f hi=>Sees.heap hh n _ _ (h.2 i f hi)⟩
    · exact ⟨h.1,fun i hi=>Sees.heap hh n _ _ (h.2 i hi)⟩
    · rcases h with h |⟨a,len,cap,h1,h2,h3,h4⟩
      · exact .inl h
      · refine .inr ⟨a,len,cap,h1,h2,h3,fun i hi=>?_⟩
        obtain ⟨cs',hl,hc,hs⟩:=h4 i hi
        refine ⟨cs',hl,fun j hj=>?_,Sees.heap hh n _ _ hs⟩
        rw [← hc j hj]
        simp only [World.cell?,hh]
    · trivial
theorem SliceG.holds {P:Program} {w w':World} {e:TypeId} {A:Option Addr} {n:Nat} {g:Nat→Nat→Value} (h:SliceG P w e A n g) (hb:(q8n w).holds w'):SliceG P w' e A n g:=by
  have h1:SliceG P {w' with heap:=w.heap} e A n g:=by
    intro hn
    obtain ⟨b,off,hA,hlt,hc⟩:=h hn
    refine ⟨b,off,hA,hlt,fun x hx=>⟨(hc x hx).1,?_⟩⟩
    obtain ⟨m,hm⟩:=(hc x hx).2
    exact ⟨m,Sees.heap (w:=w) (w':={w' with heap:=w.heap}) rfl _ _ _ hm⟩
  exact h1.below (z4v hb)
theorem x40 {P:Program} {T:Tab} (hT:TOk P T) {f:FuncId} {fn:Func} (hfn:P.funcs[f]? = some fn) {avs:List AV} {args:Array Value} {w:World} (ha:AV.rels noName avs args.toList)
    (h:q5n P T 0 fn avs [] (q8n w) fun v _ _=>v=.val (.bool true)):Calls P f args w fun e w'=>e=.returned (.bool true)∧Below w.heap.size w w':=by
  refine (q7n hT hfn ha (z8l w) h (fun _ _ _ _ _ h=>h)).mono ?_
  rintro e w' ⟨y,β',v,hp',G',h1,h2,h3,rfl⟩
  simp only [AV.rel] at h3
  subst h3
  exact ⟨h1,h2.below⟩
theorem q04 {P:Program} {f:FuncId} (hen:∀ vs w,(callFunc f vs).run P w=.ok (.enter f vs) w) {args:List AV} {hp:List Blk} {G:Mem} {K:AV→List Blk→Mem→Prop} {wrap:AV→AV} (hwr:Wraps wrap) {E:TypeId} {sz n:Nat} {xs:List Value} (hu:AV.unders 0 args=true)
    (hc:q2j P f args G wrap E sz n xs) (h:∀ A cap G',G.le G'→n≤cap→cap≤maxLen→(xs=[]∨∃ b,A=some ⟨b,0,none⟩∧∀ (j:Nat) u,xs[j]? = some u→G'.cell? ⟨b,j,none⟩=some u)→K (wrap (.val (.slice A n cap))) hp G'):CallP P f args hp G K:=by
  refine ⟨hen,fun w0 G0 β w vs hr ha=>(hc w vs hr.hold (q31 hu ha)).mono ?_⟩
  rintro e w' ⟨y,s,rfl,h2,h3,h4⟩
  have hr':=hr.step h4
  have hv:∀ s':Value,(AV.val s').rel β s':=fun s'=>by simp only [AV.rel]
  rcases h3.2 with ⟨rfl,h5⟩ |⟨g,cap,cur,rfl,h5,h6,h7,h8,h9,h10⟩
  · have h0:=h none 0 G (Mem.le_refl _) (by omega) (Nat.zero_le _) (.inl (by have:=h3.1;rw [h5] at this;simpa using this))
    subst h5
    exact ⟨y,β,_,hp,G,rfl,Nm.le_refl _,hr',hwr.rel (hv _) h2,h0⟩
  · have hcell:∀ (j:Nat) u,xs[j]? = some u→(G.and w' g).cell? ⟨g,j,none⟩=some u:=fun j u hj=>by
      have h11:(G.and w' g) g=some (.cells cur E (0,0)):=by simp [Mem.and,h6]
      unfold Mem.cell?
      rw [h11]
      rw [← h10] at hj
      rw [List.getElem?_take] at hj
      split at hj
      · simpa using hj
      · cases hj
    have h0:=h (some ⟨g,0,none⟩) cap (G.and w' g) (Mem.le_and hr'.hold g) h7 h8 (.inr ⟨g,rfl,hcell⟩)
    refine ⟨y,β,_,hp,G.and w' g,rfl,Nm.le_refl _,⟨hr'.below,Mem.and_holds hr'.hold g,Mem.le_trans hr'.sub (Mem.le_and hr'.hold g),fun b o hb=>?_,fun k z hk=>?_,hr'.inj,hr'.wrt⟩,hwr.rel (hv _) h2,h0⟩
    · unfold Mem.and at hb
      split at hb
      · rename_i e1;subst e1
        right
        exact Nat.le_trans hr.below.size h5
      · exact hr'.grow b o hb
    · obtain ⟨x,hx1,hx2⟩:=hr.blk k z hk
      obtain ⟨x',hx1',hx2'⟩:=hr'.blk k z hk
      rw [hx1] at hx1';cases hx1'
      refine ⟨x,hx1,?_⟩
      have hne:∀ b,x.live=true→q0j z=some b→b≠g:=fun b hl hb=>by
        have:=(hr.lt hk hx1 hl hb).2.1
        omega
      cases x with
      | gone=>trivial
      | muts S=>exact hx2'.elim
      | cells t l =>
        obtain ⟨b,c,q1,q2,q3,q4,q5⟩:=hx2'
        refine ⟨b,c,q1,q2,?_,q4,q5⟩
        have:=hne b rfl (by rw [q1];rfl)
        simp [Mem.and,this,q3]
      | own e' sz' n' xs' =>
        refine ⟨hx2'.1,fun b hb=>?_⟩
        have:=hne b rfl hb
        simp [Mem.and,this,hx2'.2 b hb]
      | lp i fr st p =>
        obtain ⟨q1,q2,q3,q4⟩:=hx2'
        refine ⟨q1,q2,?_,q4⟩
        have:=hne i.l rfl (by rw [q1];rfl)
        simp [Mem.and,this,q3]
      | mp f ks vs =>
        obtain ⟨b,ys,q1,q2,q3,q4⟩:=hx2'
        refine ⟨b,ys,q1,q2,?_,q4⟩
        have:=hne b rfl (by rw [q1];rfl)
        simp [Mem.and,this,q3]
end Go.Proofs.Ytbkhpddodmbdoaa
namespace Go.Proofs.Ytbkhpddodmbdoaa
open Go.RowKit
def q3v:List (List Value × Value)→Nat→List MapEntry
  | [],_=>[]
  | (k,v)::l,c=>⟨.agg k.toArray,v,c⟩::q3v l (c+1)
theorem z5q:∀ (l:List (List Value × Value)) (c:Nat) (k:List Value) (v:Value),q3v (l++[(k,v)]) c=q3v l c++[⟨.agg k.toArray,v,c+l.length⟩]
  | [],c,k,v=>by simp [q3v]
  | (j,u)::l,c,k,v=>by
    simp only [List.cons_append,q3v,z5q l (c+1) k v,List.length_cons]
    rw [show c+1+l.length=c+(l.length+1) by omega]
def atV? (k:List Value):List (List Value × Value)→Option Value
  | []=>none
  | (j,v)::l=>if q1a k j=true then some v else atV? k l
def q3z (k:List Value):List (List Value × Value)→Option Nat
  | []=>none
  | (j,v)::l=>if q1a k j=true then some 0 else (q3z k l).map (·+1)
theorem placeV_at {k:List Value}:∀ {l:List (List Value × Value)},q3z k l=none↔atV? k l=none
  | []=>by simp [q3z,atV?]
  | (j,v)::l=>by
    unfold q3z atV?
    split
    · simp
    · simp [placeV_at (l:=l)]
structure KeyT (P:Program) (kt:TypeId) (m:Nat) (k:IntKind):Prop where
  arr:∃ e,P.underlying kt=some (.array m e)∧P.underlying e=some (.int k)∧∃ i,P.info? e=some i∧i.size=1
  flat:flatK P 8 kt=some (List.replicate m (.int k))
section
variable {P:Program} {t kt et:TypeId} {w:World} {b m:Nat} {kd:IntKind} {l:List (List Value × Value)} {xs:List Value} {z:Value}
theorem KeyT.eq (h:KeyT P kt m kd) {xs ys:List Value} (hx:q0v (List.replicate m (.int kd)) xs=true) (hy:q0v (List.replicate m (.int kd)) ys=true) (w:World):(Op.equal kt (.agg xs.toArray) (.agg ys.toArray)).run P w=.ok (q1a xs ys) w:=by
  obtain ⟨e,h1,_⟩:=h.arr
  have q:=q6h 8 kt _ h.flat xs ys hx hy 9992 w
  unfold Op.equal
  simpa [q32,h1,Op.maxDepth] using q
theorem z01 (h:KeyT P kt m kd) (hx:q0v (List.replicate m (.int kd)) xs=true) (c:Bool) (w:World):(Instr.checkKey c 10000 kt (.agg xs.toArray)).run P w=.ok () w:=by
  obtain ⟨e,h1,h2,i,h3,h4⟩:=h.arr
  have hlen:=q10 hx
  rw [List.length_replicate] at hlen
  have hs:(sizeOf e).run P w=.ok 1 w:=by simp [sizeOf,typeInfo,h3,h4]
  have hp:∀ j,j<m→∃ v,(part e xs.toArray (j*1)).run P w=.ok v w:=fun j hj=>by
    have hv:xs[j]? = some xs[j]:=List.getElem?_eq_getElem (by omega)
    refine ⟨xs[j],?_⟩
    simp [part,isAgg,run_underlying h2,hv]
  have hc:∀ v,(Instr.checkKey c 9999 e v).run P w=.ok () w:=fun v=>by
    unfold Instr.checkKey
    simp [run_underlying h2,Result.andThen]
  rw [show (10000:Nat)=9999+1 from rfl,Instr.checkKey]
  simp only [Sem.run_bind,run_underlying h1,Result.andThen_ok]
  simp only [Std.Legacy.Range.forIn_eq_forIn_range',Std.Legacy.Range.size,Nat.sub_zero,Nat.add_one_sub_one,Nat.div_one]
  have each:∀ j∈List.range' 0 m,j<m:=fun j hj=>by
    rw [List.mem_range'_1] at hj;omega
  generalize List.range' 0 m=is at each
  induction is with
  | nil=>simp
  | cons j is ih =>
    obtain ⟨a,p1⟩:=hp j (each j (by simp))
    simp only [List.forIn_cons,Sem.run_bind,hs,Result.andThen_ok,p1,hc,Sem.run_pure]
    exact ih (fun y hy=>each y (by simp [hy]))
theorem z7s (h:KeyT P kt m kd) (hx:q0v (List.replicate m (.int kd)) xs=true) (w:World) (hl:∀ e∈l,q0v (List.replicate m (.int kd)) e.1=true) (c:Nat) :
    (Instr.findKey kt (.agg xs.toArray) (q3v l c)).run P w=.ok (match q3z xs l with
      | none=>none
      | some p=>(atV? xs l).map fun v=>(p,v)) w:=by
  have ask:∀ (l:List (List Value × Value)) (c i:Nat),(∀ e∈l,q0v (List.replicate m (.int kd)) e.1=true)→(Instr.findAsking kt (.agg xs.toArray) (q3v l c) i).run P w=.ok (match q3z xs l with
      | none=>none
      | some p=>(atV? xs l).map fun v=>(i+p,v)) w:=by
    intro l
    induction l with
    | nil=>intro c i _;simp [q3v,Instr.findAsking,q3z]
    | cons e l ih =>
      obtain ⟨k,v⟩:=e
      intro c i hl
      unfold q3v Instr.findAsking
      simp only [Sem.run_bind,h.eq hx (hl (k,v) (by simp)) w,Result.andThen_ok]
      by_cases hq:q1a xs k=true
      · simp [hq,q3z,atV?]
      · have hq':q1a xs k=false:=by simpa using hq
        simp only [hq',Bool.false_eq_true,if_false,q3z,atV?]
        rw [ih (c+1) (i+1) (fun e he=>hl e (by simp [he]))]
        cases hp:q3z xs l with
        | none=>simp
        | some p =>
          simp only [Option.map_some]
          cases atV? xs l with
          | none=>simp
          | some v=>simp;omega
  obtain ⟨e,h1,h2,_⟩:=h.arr
  unfold Instr.findKey
  simp only [Sem.run_bind,run_underlying h1,Result.andThen_ok]
  cases l with
  | nil=>simp [q3v,Instr.findNow,q3z]
  | cons e' l =>
    obtain ⟨k,v⟩:=e'
    have hn:Instr.findNow (.array m e) (.agg xs.toArray) (q3v ((k,v)::l) c) 0=none:=by
      simp [q3v,Instr.findNow,Instr.sameNow]
    simp only [hn]
    have:=ask ((k,v)::l) c 0 hl
    simpa using this
end
structure MapM (kd:IntKind) (m:Nat) (G:Mem) (b:Nat) (l:List (List Value × Value)):Prop where
  at_:G b=some (.map (q3v l 0).toArray l.length)
  kinds:∀ e∈l,q0v (List.replicate m (.int kd)) e.1=true
theorem MapM.of {kd:IntKind} {m:Nat} {G G':Mem} {b:Nat} {l:List (List Value × Value)} (h:MapM kd m G b l) (hG:G' b=G b):MapM kd m G' b l:=⟨by rw [hG];exact h.at_,h.kinds⟩
section
variable {P:Program} {t kt et:TypeId} {b m:Nat} {kd:IntKind} {l:List (List Value × Value)} {xs:List Value} {z:Value}
theorem x13 (ht:P.underlying t=some (.map kt et)) (hk:KeyT P kt m kd) {G:Mem} {w:World} (hG:G.holds w) (hM:MapM kd m G b l) (hx:q0v (List.replicate m (.int kd)) xs=true) (hz:(zeroValue et).run P w=.ok z w) :
    (Instr.lookup t (.map (some b)) (.agg xs.toArray) true).run P w=.ok (match atV? xs l with
      | some v=>.tuple #[v,.bool true]
      | none=>.tuple #[z,.bool false]) w:=by
  have hb:=hG b _ hM.at_
  have hf:=z7s hk hx w hM.kinds 0
  cases hp:q3z xs l with
  | none =>
    have ha:=placeV_at.1 hp
    rw [hp] at hf
    simp [Instr.lookup,run_underlying ht,MapKept.run_getObj_map hb,z01 hk hx,hf,hz,Result.andThen,ha]
  | some p =>
    cases ha:atV? xs l with
    | none=>exact absurd (placeV_at.2 ha) (by rw [hp];simp)
    | some v =>
      rw [hp,ha] at hf
      simp [Instr.lookup,run_underlying ht,MapKept.run_getObj_map hb,z01 hk hx,hf,hz,Result.andThen]
theorem z7t (ht:P.underlying t=some (.map kt et)) (hk:KeyT P kt m kd) (hz:∀ w,(zeroValue et).run P w=.ok z w) {G:Mem} (hM:MapM kd m G b l) (hx:q0v (List.replicate m (.int kd)) xs=true) {k:List AV} (hkey:k=xs.map .val) {K:AV→Prop}
    (h:∀ r,r=atV? xs l→K (match r with |some v=>.tup [.val v,.val (.bool true)] |none=>.tup [.val z,.val (.bool false)])):LookGP P t (.val (.map (some b))) (.agg k) true G K:=by
  subst hkey
  refine ⟨_,h _ rfl,fun β w x y hG hxr hyr=>?_⟩
  simp only [AV.rel] at hxr hyr
  obtain ⟨cs,rfl,hcs⟩:=hyr
  have e1:cs=xs.toArray:=by rw [← q1s hcs]
  subst e1;subst hxr
  refine ⟨_,x13 ht hk hG hM hx (hz w),?_⟩
  cases atV? xs l <;> simp [AV.rel,AV.rels]
theorem q7x (ht:P.underlying t=some (.map kt et)) (hk:KeyT P kt m kd) (hz:∀ w,(zeroValue et).run P w=.ok z w) {G:Mem} (hM:MapM kd m G b l) (hx:q0v (List.replicate m (.int kd)) xs=true) {k:List AV} (hkey:k=xs.map .val) {K:AV→Prop} (hn:atV? xs l=none)
    (h:K (.tup [.val z,.val (.bool false)])):LookGP P t (.val (.map (some b))) (.agg k) true G K:=z7t ht hk hz hM hx hkey fun r hr=>by rw [hr,hn];exact h
theorem q4w (ht:P.underlying t=some (.map kt et)) (hk:KeyT P kt m kd) (hz:∀ w,(zeroValue et).run P w=.ok z w) {G:Mem} (hM:MapM kd m G b l) (hx:q0v (List.replicate m (.int kd)) xs=true) {k:List AV} (hkey:k=xs.map .val) {K:AV→Prop} {v:Value} (hn:atV? xs l=some v)
    (h:K (.tup [.val v,.val (.bool true)])):LookGP P t (.val (.map (some b))) (.agg k) true G K:=z7t ht hk hz hM hx hkey fun r hr=>by rw [hr,hn];exact h
theorem z2t {op:Op} {fr:List AV} {hp:List Blk} {G:Mem} {K:AV→List Blk→Mem→Prop} {mm k x:Operand} (q:Nat) {S:Nat→Prop} (hS:nthB hp q=.muts S) (hSb:S b) (hop:op=.mapUpdate t mm k x) (hm:ev fr mm=.val (.map (some b))) {ka:List AV} (hkv:ev fr k=.agg ka) (hkey:ka=xs.map .val) {v:Value} (hv:ev fr x=.val v)
    (ht:P.underlying t=some (.map kt et)) (hk:KeyT P kt m kd) (hM:MapM kd m G b l) (hx:q0v (List.replicate m (.int kd)) xs=true) (hn:atV? xs l=none)
    (h:∀ G',(∀ c,c≠b→G' c=G c)→MapM kd m G' b (l++[(xs,v)])→K (.val undef) hp G'):OpP P op fr hp G K:=by
  subst hkey
  refine ⟨fun o ho=>OpS.of_run fun w0 G0 β a w hr hf=>?_⟩
  have ho:o.op=.mapUpdate t mm k x:=ho.trans hop
  have h1:=q1u hf mm
  rw [hm] at h1;simp only [AV.rel] at h1
  have h2:=q1u hf k
  rw [hkv] at h2;simp only [AV.rel] at h2
  obtain ⟨cs,hcs,hcs2⟩:=h2
  have e1:cs=xs.toArray:=by rw [← q1s hcs2]
  subst e1
  have h3:=q1u hf x
  rw [hv] at h3;simp only [AV.rel] at h3
  have hmS:=q6d hS
  obtain ⟨k1,k2,k3⟩:=hr.wrt q S hmS b hSb
  have hb:=hr.hold b _ hM.at_
  have hfk:=z7s hk hx w hM.kinds 0
  rw [placeV_at.2 hn] at hfk
  have hset:=MapKept.run_setObj_map (P:=P) (w:=w) (Obj.map (q3v (l++[(xs,v)]) 0).toArray (l.length+1)) hb
  have hrun:(Instr.mapUpdate t (.map (some b)) (.agg xs.toArray) v).run P w=.ok () { w with heap:=w.heap.setIfInBounds b (.map (q3v (l++[(xs,v)]) 0).toArray (l.length+1)) }:=by
    simp [Instr.mapUpdate,run_underlying ht,MapKept.run_getObj_map hb,z01 hk hx,hfk,Result.andThen,z5q] at hset ⊢
    exact hset
  have hg:w.grownBy { w with heap:=w.heap.setIfInBounds b (.map (q3v (l++[(xs,v)]) 0).toArray (l.length+1)) } (some b) :=
    ⟨rfl,rfl,rfl,by simp,fun j hj hne=>by
      simp only [Array.getElem?_setIfInBounds]
      rw [if_neg (fun e=>hne (by rw [e]))]⟩
  have hat:({ w with heap:=w.heap.setIfInBounds b (.map (q3v (l++[(xs,v)]) 0).toArray (l.length+1)) }:World).heap[b]? = some (.map (q3v (l++[(xs,v)]) 0).toArray (l.length+1)):=by
    simp [Array.getElem?_setIfInBounds,(Array.getElem?_eq_some_iff.1 hb).1]
  refine ⟨.skip,undef,_,β,.val undef,hp,_,by simp [execOp,ho,h1,hcs,h3,hrun];(try rfl),.inr ⟨rfl,rfl⟩,Nm.le_refl _,hr.writeG k1 k3 hM.at_ hg hat,by simp only [AV.rel],h _ (fun c hc=>Mem.put_ne _ _ hc) ⟨by rw [Mem.put_same];simp,fun e he=>?_⟩⟩
  rcases List.mem_append.1 he with he |he
  · exact hM.kinds e he
  · simp at he;subst he;exact hx
theorem z02 (q:Nat) {op:Op} {fr:List AV} {hp:List Blk} {G:Mem} {K:AV→List Blk→Mem→Prop} {S:Nat→Prop} (hS:nthB hp q=.muts S) (hop:op=.makeMap t none) (kd:IntKind) (m:Nat)
    (h:∀ b G' S',G b=none→S' b→(∀ c,S c→S' c)→(∀ c,c≠b→G' c=G c)→MapM kd m G' b []→setF hp q (.muts S') fun hp'=>K (.val (.map (some b))) hp' G'):OpP P op fr hp G K:=by
  refine ⟨fun o ho=>OpS.of_run fun w0 G0 β a w hr hf=>?_⟩
  have ho:o.op=.makeMap t none:=ho.trans hop
  have hmS:=q6d hS
  have hGn:G w.heap.size=none:=q3r hr.hold (Nat.le_refl _)
  have h0:=h w.heap.size (G.put w.heap.size (.map #[] 0)) (fun c=>S c∨c=w.heap.size) hGn (.inr rfl) (fun c hc=>.inl hc) (fun c hc=>Mem.put_ne _ _ hc) ⟨by rw [Mem.put_same];rfl,fun e he=>by cases he⟩
  rw [q1h] at h0
  have hb:Below w.heap.size w (w.alloc (.map #[] 0)):=(Below.refl _ _).alloc (Nat.le_refl _) _
  have hr1:=hr.newG (Nat.le_refl _) hb (heap_alloc_new w (.map #[] 0))
  have hr2:=hr1.moreS hmS hr.below.size (by have:=(Array.getElem?_eq_some_iff.1 (heap_alloc_new w (.map #[] 0))).1;exact this) (Mem.le.none hr.sub hGn)
  refine ⟨_,.map (some w.heap.size),_,β,_,_,_,?_,.inl rfl,Nm.le_refl _,hr2,by simp only [AV.rel],h0⟩
  simp [execOp,ho,Instr.makeMap,newObj,Sem.run,World.alloc,Result.andThen,-World.alloc_eq]
end
/-! ### Contracts of walks that write in memory -/
theorem HR.initM {G:Mem} {w:World} (hG:G.holds w):HR w G (fun _=>none) [.muts fun _=>False] G w :=
  ⟨Below.refl _ _,hG,Mem.le_refl _,fun _ _ h=>.inl h,fun _ _ h=>(by cases h),fun _ _ _ _ _ _ _ _ h=>(by cases h),fun k S hk b hb=>by
    cases k with
    | zero=>simp at hk;subst hk;exact hb.elim
    | succ k=>simp at hk⟩
theorem q6u {P:Program} {T:Tab} (hT:TOk P T) {f:FuncId} {fn:Func} (hfn:P.funcs[f]? = some fn) {args:List AV} {vs:Array Value} (ha:AV.rels (fun _=>none) args vs.toList) {G:Mem} {w:World} (hG:G.holds w) {K:AV→List Blk→Mem→Prop} (h:q0s (q8d fn) (q5n P T 1 fn args [.muts fun _=>False] G K)) :
    Calls P f vs w fun e w'=>∃ y β' v hp' G',e=.returned y∧HR w G β' hp' G' w'∧v.rel β' y∧K v hp' G':=by
  obtain ⟨h1,h2⟩:=q0q h
  refine (q9r hT hfn (hp:=[.muts fun _=>False]) h2 (.inl h1) w G _ w vs (HR.initM hG) ha).mono ?_
  rintro e w' ⟨y,β',v,hp',G',h1,_,h2,h3,h4⟩
  exact ⟨y,β',v,hp',G',h1,h2,h3,h4⟩
theorem x14 {P:Program} {T:Tab} (hT:TOk P T) {f:FuncId} {fn:Func} (hfn:P.funcs[f]? = some fn) {args:List AV} {G:Mem} {v:AV} (h:q0s (q8d fn) (q5n P T 1 fn args [.muts fun _=>False] G fun v' _ _=>v'=v∧v'.under 0=true)):Gives P f args G v:=by
  intro w vs hG ha
  refine (q6u hT hfn (args:=args) ha hG h).mono ?_
  rintro e w' ⟨y,β',v',hp',G',h1,h2,h3,rfl,h5⟩
  exact ⟨y,h1,q8e h5 h3,h2.below⟩
end Go.Proofs.Ytbkhpddodmbdoaa
