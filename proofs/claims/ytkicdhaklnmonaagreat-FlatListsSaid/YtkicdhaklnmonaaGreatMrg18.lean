/-
  Merged: XHpm, XTrim, XGmap, XDelO, XEdges.
-/
import Derived.Test.YtkicdhaklnmonaaGreatMrg17
import Derived.Test.YtkicdhaklnmonaaGreatMrg13
import Derived.Test.YtkicdhaklnmonaaGreatMrg14
set_option linter.unusedVariables false
set_option linter.unusedSimpArgs false
set_option linter.unnecessarySimpa false
namespace Go.Proofs.YtkicdhaklnmonaaGreat
theorem q0y {n:Nat} {S S':Nat→Prop} {l m:List Blk} (hS:∀ b,S' b→S b) (h:hpLe n l m):hpLe n (.muts S::l) (.muts S'::m):=⟨hS,h⟩
end Go.Proofs.YtkicdhaklnmonaaGreat
namespace Go.Proofs.YtkicdhaklnmonaaGreat
open Go.RowKit
theorem z1z {P:Program} {f:FuncId} {args:List AV} {hp:List Blk} {G:Mem} {K:AV→List Blk→Mem→Prop} {n0:Nat} (hn:hp.length=n0)
    (h:CallP P f args hp G fun v hp' G'=>∃ v1 hp1 G1,Le n0 [v] hp' G' [v1] hp1 G1∧K v1 hp1 G1):CallP P f args hp G K:=by
  subst hn
  refine ⟨h.enters,fun w0 G0 β w vs hr ha=>(h.calls w0 G0 β w vs hr ha).mono ?_⟩
  rintro e w' ⟨y,β',v,hp',G',rfl,h1,h2,h3,v1,hp1,G1,hle,hK⟩
  obtain ⟨β'',g1,g2,g3⟩:=hle.out w0 G0 β β' w' [y] (Nm.below_of hr) h1 h2 (by simp only [AV.rels];exact ⟨y,[],rfl,h3,rfl⟩)
  simp only [AV.rels] at g3
  obtain ⟨z,zs,g4,g5,g6⟩:=g3
  cases g4
  exact ⟨y,β'',v1,hp1,G1,rfl,g1,g2,g5,hK⟩
theorem x9k {n0 q:Nat} {hp hp':List Blk} {G G':Mem} {fr':List AV} {E:TypeId} {sz n:Nat} {xs:List Value} (hq:nthB hp q=.own E sz n xs) (h:Le n0 [.vw q 0 n] hp G fr' hp' G'):Le n0 [.own q] hp G fr' hp' G':=by
  refine ⟨fun w0 G0 β0 β w ys h0 h1 hr hf=>h.out w0 G0 β0 β w ys h0 h1 hr ?_⟩
  simp only [AV.rels,AV.rel] at hf ⊢
  obtain ⟨y,zs,rfl,⟨hy,_⟩,rfl⟩:=hf
  refine ⟨y,[],rfl,?_,rfl⟩
  obtain ⟨x,hx1,hx2⟩:=hr.blk q y hy
  rw [q0p hq rfl] at hx1;cases hx1
  rcases hx2.1.2 with ⟨rfl,rfl⟩ |⟨g,cap,cur,rfl,_,_,h8,_⟩
  · exact ⟨none,0,rfl,Nat.le_refl _,⟨fun _=>rfl,fun _=>⟨0,hy⟩⟩,fun h=>by omega⟩
  · exact ⟨_,cap,rfl,h8,⟨(fun h=>by cases h),fun _=>⟨n,hy⟩⟩,fun _=>⟨_,g,hy,rfl,rfl⟩⟩
theorem HR.trim {w0:World} {G0:Mem} {β:Nm} {hp:List Blk} {G:Mem} {w:World} (hr:HR w0 G0 β hp G w) {k N n m c:Nat} {E:TypeId} {sz:Nat} {xs:List Value} {A:Option Addr} (hk:nthB hp k=.own E sz N xs) (hβ:β k=some (.slice A m c)) (hn:n≤N) :
    HR w0 G0 (β.put hp.length (.slice A n c)) (hp.set k .gone++[.own E sz n (xs.take (n*sz))]) G w:=by
  have hkx:=q0p hk rfl
  obtain ⟨x1,hx1,hx2⟩:=hr.blk k _ hβ
  rw [hkx] at hx1;cases hx1
  obtain rfl:=z0o hx2.1
  have eb:q0h (.slice A n c)=q0h (.slice A m c):=by cases A <;> rfl
  refine hr.moveName hβ hkx rfl (w':=w) ⟨rfl,rfl,rfl,Nat.le_refl _,fun _ _ _=>rfl⟩ (fun b hb=>.inr (by rw [← eb];exact hb)) rfl ⟨z2f hx2.1 hn,fun g hg=>hx2.2 g (by rw [← eb];exact hg)⟩
theorem x40 {P:Program} {f:FuncId} (hen:∀ vs w,(callFunc f vs).run P w=.ok (.enter f vs) w) {k n N:Nat} {post:List AV} {hp:List Blk} {G:Mem} {K:AV→List Blk→Mem→Prop} {E:TypeId} {sz:Nat} {xs:List Value} (hk:nthB hp k=.own E sz N xs) (hn:n≤N)
    (h:setF hp k .gone fun hp1=>lenF hp1 fun q=>catF hp1 [.own E sz n (xs.take (n*sz))] fun hp'=>CallP P f (.own q::post) hp' G K):CallP P f (.vw k 0 n::post) hp G K:=by
  rw [q09] at h
  have h0:=q1i h
  rw [q02] at h0
  have hlen:(hp.set k .gone).length=hp.length:=by simp
  rw [hlen] at h0
  refine ⟨hen,fun w0 G0 β w vs hr ha=>?_⟩
  simp only [AV.rels,AV.rel] at ha
  obtain ⟨y,ts,hvs,⟨A,c,rfl,hnc,⟨_,hd⟩,_⟩,hts⟩:=ha
  obtain ⟨m,hβ⟩:=hd trivial
  have hle:=Nm.le_put (.slice A n c) (hr.fresh (Nat.le_refl hp.length))
  refine (h0.calls w0 G0 _ w vs (hr.trim hk hβ hn) ?_).mono ?_
  · simp only [AV.rels,AV.rel]
    exact ⟨_,ts,hvs,⟨Nm.put_same _ _ _,rfl⟩,AV.rels_mono hle _ _ hts⟩
  · rintro e w' ⟨y,β',v,hp',G',h1,h2,h3⟩
    exact ⟨y,β',v,hp',G',h1,Nm.le_trans hle h2,h3⟩
theorem x2j {P:Program} {f:FuncId} (hen:∀ vs w,(callFunc f vs).run P w=.ok (.enter f vs) w) {k N:Nat} {post:List AV} {hp:List Blk} {G:Mem} {K:AV→List Blk→Mem→Prop} {E:TypeId} {sz:Nat} {xs:List Value} (hk:nthB hp k=.own E sz N xs)
    (h:setF hp k .gone fun hp1=>lenF hp1 fun q=>catF hp1 [.own E sz N xs] fun hp'=>CallP P f (.own q::post) hp' G K):CallP P f (.own k::post) hp G K:=by
  rw [q09] at h
  have h0:=q1i h
  rw [q02] at h0
  have hlen:(hp.set k .gone).length=hp.length:=by simp
  rw [hlen] at h0
  refine ⟨hen,fun w0 G0 β w vs hr ha=>?_⟩
  simp only [AV.rels,AV.rel] at ha
  obtain ⟨y,ts,hvs,⟨hy,hsl⟩,hts⟩:=ha
  obtain ⟨A,m,c,rfl⟩:∃ A m c,y=.slice A m c:=by cases y <;> first |exact ⟨_,_,_,rfl⟩ |cases hsl
  obtain ⟨x,hx1,hx2⟩:=hr.blk k _ hy
  rw [q0p hk rfl] at hx1;cases hx1
  obtain rfl:=z0o hx2.1
  have hle:=Nm.le_put (.slice A m c) (hr.fresh (Nat.le_refl hp.length))
  have ht:=hr.trim hk hy (Nat.le_refl _)
  have hxs:xs.take (m*sz)=xs:=List.take_of_length_le (by rw [hx2.1.1];exact Nat.le_refl _)
  rw [hxs] at ht
  refine (h0.calls w0 G0 _ w vs ht ?_).mono ?_
  · simp only [AV.rels,AV.rel]
    exact ⟨_,ts,hvs,⟨Nm.put_same _ _ _,rfl⟩,AV.rels_mono hle _ _ hts⟩
  · rintro e w' ⟨y,β',v,hp',G',h1,h2,h3⟩
    exact ⟨y,β',v,hp',G',h1,Nm.le_trans hle h2,h3⟩
section
variable {α:Type} {enc:α→List Value} {k:Nat}
theorem x65 (hk:∀ x,(enc x).length=k):∀ (l:List α) (i:Nat) (x:α),i<l.length→(l.flatMap enc).take (i*k)++enc x++(l.flatMap enc).drop (i*k+k)=(l.set i x).flatMap enc
  | [],i,x,h=>by simp at h
  | a::l,0,x,_=>by
    simp only [List.flatMap_cons,Nat.zero_mul,List.take_zero,List.nil_append,Nat.zero_add,List.set_cons_zero]
    rw [List.drop_left' (hk a)]
  | a::l,i+1,x,h=>by
    have e:(i+1)*k=k+i*k:=by rw [Nat.add_mul];omega
    simp only [List.flatMap_cons,List.set_cons_succ]
    rw [e,Nat.add_assoc,← hk a,List.take_length_add_append,List.drop_length_add_append,hk a]
    have:=x65 hk l i x (by simpa using h)
    rw [← this];simp [List.append_assoc]
theorem z7f (hk:∀ x,(enc x).length=k):∀ (l:List α) (i:Nat),(l.flatMap enc).take (i*k)=(l.take i).flatMap enc
  | l,0=>by simp
  | [],i+1=>by simp
  | a::l,i+1=>by
    have e:(i+1)*k=k+i*k:=by rw [Nat.add_mul];omega
    simp only [List.flatMap_cons,List.take_succ_cons]
    rw [e,← hk a,List.take_length_add_append,hk a,z7f hk l i]
end
end Go.Proofs.YtkicdhaklnmonaaGreat
namespace Go.Proofs.YtkicdhaklnmonaaGreat
open Go.RowKit
def q33:List (List Value × Value)→Nat→List MapEntry
  | [],_=>[]
  | (k,v)::l,c=>⟨.agg k.toArray,v,c⟩::q33 l (c+1)
theorem z8w:∀ (l:List (List Value × Value)) (c:Nat) (k:List Value) (v:Value),q33 (l++[(k,v)]) c=q33 l c++[⟨.agg k.toArray,v,c+l.length⟩]
  | [],c,k,v=>by simp [q33]
  | (j,u)::l,c,k,v=>by
    simp only [List.cons_append,q33,z8w l (c+1) k v,List.length_cons]
    rw [show c+1+l.length=c+(l.length+1) by omega]
def atV? (k:List Value):List (List Value × Value)→Option Value
  | []=>none
  | (j,v)::l=>if q1a k j=true then some v else atV? k l
def q37 (k:List Value):List (List Value × Value)→Option Nat
  | []=>none
  | (j,v)::l=>if q1a k j=true then some 0 else (q37 k l).map (·+1)
theorem placeV_at {k:List Value}:∀ {l:List (List Value × Value)},q37 k l=none↔atV? k l=none
  | []=>by simp [q37,atV?]
  | (j,v)::l=>by
    unfold q37 atV?
    split
    · simp
    · simp [placeV_at (l:=l)]
structure KeyT (P:Program) (kt:TypeId) (m:Nat) (k:IntKind):Prop where
  arr:∃ e,P.underlying kt=some (.array m e)∧P.underlying e=some (.int k)∧∃ i,P.info? e=some i∧i.size=1
  flat:flatK P 8 kt=some (List.replicate m (.int k))
section
variable {P:Program} {t kt et:TypeId} {w:World} {b m:Nat} {kd:IntKind} {l:List (List Value × Value)} {xs:List Value} {z:Value}
theorem KeyT.eq (h:KeyT P kt m kd) {xs ys:List Value} (hx:q0t (List.replicate m (.int kd)) xs=true) (hy:q0t (List.replicate m (.int kd)) ys=true) (w:World):(Op.equal kt (.agg xs.toArray) (.agg ys.toArray)).run P w=.ok (q1a xs ys) w:=by
  obtain ⟨e,h1,_⟩:=h.arr
  have q:=q69 8 kt _ h.flat xs ys hx hy 9992 w
  unfold Op.equal
  simpa [q4a,h1,Op.maxDepth] using q
theorem z2z (h:KeyT P kt m kd) (hx:q0t (List.replicate m (.int kd)) xs=true) (c:Bool) (w:World):(Instr.checkKey c 10000 kt (.agg xs.toArray)).run P w=.ok () w:=by
  obtain ⟨e,h1,h2,i,h3,h4⟩:=h.arr
  have hlen:=q11 hx
  rw [List.length_replicate] at hlen
  have hs:(sizeOf e).run P w=.ok 1 w:=by simp [sizeOf,typeInfo,h3,h4]
  have hp:∀ j,j<m→∃ v,(part e xs.toArray (j*1)).run P w=.ok v w:=fun j hj=>by
    have hv:xs[j]? = some xs[j]:=List.getElem?_eq_getElem (by omega)
    refine ⟨xs[j],?_⟩
    simp [part,isAgg,run_underlying h2,hv]
  have hc:∀ v,(Instr.checkKey c 9999 e v).run P w=.ok () w:=fun v=>by
    unfold Instr.checkKey
    simp [run_underlying h2,Result.andThen]
  rw [show (10000:Nat)=9999+1 from rfl,Instr.checkKey]
  simp only [Sem.run_bind,run_underlying h1,Result.andThen_ok]
  simp only [Std.Legacy.Range.forIn_eq_forIn_range',Std.Legacy.Range.size,Nat.sub_zero,Nat.add_one_sub_one,Nat.div_one]
  have each:∀ j∈List.range' 0 m,j<m:=fun j hj=>by
    rw [List.mem_range'_1] at hj;omega
  generalize List.range' 0 m=is at each
  induction is with
  | nil=>simp
  | cons j is ih =>
    obtain ⟨a,p1⟩:=hp j (each j (by simp))
    simp only [List.forIn_cons,Sem.run_bind,hs,Result.andThen_ok,p1,hc,Sem.run_pure]
    exact ih (fun y hy=>each y (by simp [hy]))
theorem x1d (h:KeyT P kt m kd) (hx:q0t (List.replicate m (.int kd)) xs=true) (w:World) (hl:∀ e∈l,q0t (List.replicate m (.int kd)) e.1=true) (c:Nat) :
    (Instr.findKey kt (.agg xs.toArray) (q33 l c)).run P w=.ok (match q37 xs l with
      | none=>none
      | some p=>(atV? xs l).map fun v=>(p,v)) w:=by
  have ask:∀ (l:List (List Value × Value)) (c i:Nat),(∀ e∈l,q0t (List.replicate m (.int kd)) e.1=true)→(Instr.findAsking kt (.agg xs.toArray) (q33 l c) i).run P w=.ok (match q37 xs l with
      | none=>none
      | some p=>(atV? xs l).map fun v=>(i+p,v)) w:=by
    intro l
    induction l with
    | nil=>intro c i _;simp [q33,Instr.findAsking,q37]
    | cons e l ih =>
      obtain ⟨k,v⟩:=e
      intro c i hl
      unfold q33 Instr.findAsking
      simp only [Sem.run_bind,h.eq hx (hl (k,v) (by simp)) w,Result.andThen_ok]
      by_cases hq:q1a xs k=true
      · simp [hq,q37,atV?]
      · have hq':q1a xs k=false:=by simpa using hq
        simp only [hq',Bool.false_eq_true,if_false,q37,atV?]
        rw [ih (c+1) (i+1) (fun e he=>hl e (by simp [he]))]
        cases hp:q37 xs l with
        | none=>simp
        | some p =>
          simp only [Option.map_some]
          cases atV? xs l with
          | none=>simp
          | some v=>simp;omega
  obtain ⟨e,h1,h2,_⟩:=h.arr
  unfold Instr.findKey
  simp only [Sem.run_bind,run_underlying h1,Result.andThen_ok]
  cases l with
  | nil=>simp [q33,Instr.findNow,q37]
  | cons e' l =>
    obtain ⟨k,v⟩:=e'
    have hn:Instr.findNow (.array m e) (.agg xs.toArray) (q33 ((k,v)::l) c) 0=none:=by
      simp [q33,Instr.findNow,Instr.sameNow]
    simp only [hn]
    have:=ask ((k,v)::l) c 0 hl
    simpa using this
end
structure MapM (kd:IntKind) (m:Nat) (G:Mem) (b:Nat) (l:List (List Value × Value)):Prop where
  at_:G b=some (.map (q33 l 0).toArray l.length)
  kinds:∀ e∈l,q0t (List.replicate m (.int kd)) e.1=true
theorem MapM.of {kd:IntKind} {m:Nat} {G G':Mem} {b:Nat} {l:List (List Value × Value)} (h:MapM kd m G b l) (hG:G' b=G b):MapM kd m G' b l:=⟨by rw [hG];exact h.at_,h.kinds⟩
section
variable {P:Program} {t kt et:TypeId} {b m:Nat} {kd:IntKind} {l:List (List Value × Value)} {xs:List Value} {z:Value}
theorem x66 (ht:P.underlying t=some (.map kt et)) (hk:KeyT P kt m kd) {G:Mem} {w:World} (hG:G.holds w) (hM:MapM kd m G b l) (hx:q0t (List.replicate m (.int kd)) xs=true) (hz:(zeroValue et).run P w=.ok z w) :
    (Instr.lookup t (.map (some b)) (.agg xs.toArray) true).run P w=.ok (match atV? xs l with
      | some v=>.tuple #[v,.bool true]
      | none=>.tuple #[z,.bool false]) w:=by
  have hb:=hG b _ hM.at_
  have hf:=x1d hk hx w hM.kinds 0
  cases hp:q37 xs l with
  | none =>
    have ha:=placeV_at.1 hp
    rw [hp] at hf
    simp [Instr.lookup,run_underlying ht,MapKept.run_getObj_map hb,z2z hk hx,hf,hz,Result.andThen,ha]
  | some p =>
    cases ha:atV? xs l with
    | none=>exact absurd (placeV_at.2 ha) (by rw [hp];simp)
    | some v =>
      rw [hp,ha] at hf
      simp [Instr.lookup,run_underlying ht,MapKept.run_getObj_map hb,z2z hk hx,hf,hz,Result.andThen]
theorem x1e (ht:P.underlying t=some (.map kt et)) (hk:KeyT P kt m kd) (hz:∀ w,(zeroValue et).run P w=.ok z w) {G:Mem} (hM:MapM kd m G b l) (hx:q0t (List.replicate m (.int kd)) xs=true) {k:List AV} (hkey:k=xs.map .val) {K:AV→Prop}
    (h:∀ r,r=atV? xs l→K (match r with |some v=>.tup [.val v,.val (.bool true)] |none=>.tup [.val z,.val (.bool false)])):LookGP P t (.val (.map (some b))) (.agg k) true G K:=by
  subst hkey
  refine ⟨_,h _ rfl,fun β w x y hG hxr hyr=>?_⟩
  simp only [AV.rel] at hxr hyr
  obtain ⟨cs,rfl,hcs⟩:=hyr
  have e1:cs=xs.toArray:=by rw [← q07 hcs]
  subst e1;subst hxr
  refine ⟨_,x66 ht hk hG hM hx (hz w),?_⟩
  cases atV? xs l <;> simp [AV.rel,AV.rels]
theorem q8z (ht:P.underlying t=some (.map kt et)) (hk:KeyT P kt m kd) (hz:∀ w,(zeroValue et).run P w=.ok z w) {G:Mem} (hM:MapM kd m G b l) (hx:q0t (List.replicate m (.int kd)) xs=true) {k:List AV} (hkey:k=xs.map .val) {K:AV→Prop} (hn:atV? xs l=none)
    (h:K (.tup [.val z,.val (.bool false)])):LookGP P t (.val (.map (some b))) (.agg k) true G K:=x1e ht hk hz hM hx hkey fun r hr=>by rw [hr,hn];exact h
theorem q48 (ht:P.underlying t=some (.map kt et)) (hk:KeyT P kt m kd) (hz:∀ w,(zeroValue et).run P w=.ok z w) {G:Mem} (hM:MapM kd m G b l) (hx:q0t (List.replicate m (.int kd)) xs=true) {k:List AV} (hkey:k=xs.map .val) {K:AV→Prop} {v:Value} (hn:atV? xs l=some v)
    (h:K (.tup [.val v,.val (.bool true)])):LookGP P t (.val (.map (some b))) (.agg k) true G K:=x1e ht hk hz hM hx hkey fun r hr=>by rw [hr,hn];exact h
theorem z4y {op:Op} {fr:List AV} {hp:List Blk} {G:Mem} {K:AV→List Blk→Mem→Prop} {mm k x:Operand} (q:Nat) {S:Nat→Prop} (hS:nthB hp q=.muts S) (hSb:S b) (hop:op=.mapUpdate t mm k x) (hm:ev fr mm=.val (.map (some b))) {ka:List AV} (hkv:ev fr k=.agg ka) (hkey:ka=xs.map .val) {v:Value} (hv:ev fr x=.val v)
    (ht:P.underlying t=some (.map kt et)) (hk:KeyT P kt m kd) (hM:MapM kd m G b l) (hx:q0t (List.replicate m (.int kd)) xs=true) (hn:atV? xs l=none)
    (h:∀ G',(∀ c,c≠b→G' c=G c)→MapM kd m G' b (l++[(xs,v)])→K (.val undef) hp G'):OpP P op fr hp G K:=by
  subst hkey
  refine ⟨fun o ho=>OpS.of_run fun w0 G0 β a w hr hf=>?_⟩
  have ho:o.op=.mapUpdate t mm k x:=ho.trans hop
  have h1:=q1f hf mm
  rw [hm] at h1;simp only [AV.rel] at h1
  have h2:=q1f hf k
  rw [hkv] at h2;simp only [AV.rel] at h2
  obtain ⟨cs,hcs,hcs2⟩:=h2
  have e1:cs=xs.toArray:=by rw [← q07 hcs2]
  subst e1
  have h3:=q1f hf x
  rw [hv] at h3;simp only [AV.rel] at h3
  have hmS:=q3v hS
  obtain ⟨k1,k2,k3⟩:=hr.wrt q S hmS b hSb
  have hb:=hr.hold b _ hM.at_
  have hfk:=x1d hk hx w hM.kinds 0
  rw [placeV_at.2 hn] at hfk
  have hset:=MapKept.run_setObj_map (P:=P) (w:=w) (Obj.map (q33 (l++[(xs,v)]) 0).toArray (l.length+1)) hb
  have hrun:(Instr.mapUpdate t (.map (some b)) (.agg xs.toArray) v).run P w=.ok () { w with heap:=w.heap.setIfInBounds b (.map (q33 (l++[(xs,v)]) 0).toArray (l.length+1)) }:=by
    simp [Instr.mapUpdate,run_underlying ht,MapKept.run_getObj_map hb,z2z hk hx,hfk,Result.andThen,z8w] at hset ⊢
    exact hset
  have hg:w.grownBy { w with heap:=w.heap.setIfInBounds b (.map (q33 (l++[(xs,v)]) 0).toArray (l.length+1)) } (some b) :=
    ⟨rfl,rfl,rfl,by simp,fun j hj hne=>by
      simp only [Array.getElem?_setIfInBounds]
      rw [if_neg (fun e=>hne (by rw [e]))]⟩
  have hat:({ w with heap:=w.heap.setIfInBounds b (.map (q33 (l++[(xs,v)]) 0).toArray (l.length+1)) }:World).heap[b]? = some (.map (q33 (l++[(xs,v)]) 0).toArray (l.length+1)):=by
    simp [Array.getElem?_setIfInBounds,(Array.getElem?_eq_some_iff.1 hb).1]
  refine ⟨.skip,undef,_,β,.val undef,hp,_,by simp [execOp,ho,h1,hcs,h3,hrun];(try rfl),.inr ⟨rfl,rfl⟩,Nm.le_refl _,hr.writeG k1 k3 hM.at_ hg hat,by simp only [AV.rel],h _ (fun c hc=>Mem.put_ne _ _ hc) ⟨by rw [Mem.put_same];simp,fun e he=>?_⟩⟩
  rcases List.mem_append.1 he with he |he
  · exact hM.kinds e he
  · simp at he;subst he;exact hx
theorem x1f (q:Nat) {op:Op} {fr:List AV} {hp:List Blk} {G:Mem} {K:AV→List Blk→Mem→Prop} {S:Nat→Prop} (hS:nthB hp q=.muts S) (hop:op=.makeMap t none) (kd:IntKind) (m:Nat)
    (h:∀ b G' S',G b=none→S' b→(∀ c,S c→S' c)→(∀ c,c≠b→G' c=G c)→MapM kd m G' b []→setF hp q (.muts S') fun hp'=>K (.val (.map (some b))) hp' G'):OpP P op fr hp G K:=by
  refine ⟨fun o ho=>OpS.of_run fun w0 G0 β a w hr hf=>?_⟩
  have ho:o.op=.makeMap t none:=ho.trans hop
  have hmS:=q3v hS
  have hGn:G w.heap.size=none:=q2k hr.hold (Nat.le_refl _)
  have h0:=h w.heap.size (G.put w.heap.size (.map #[] 0)) (fun c=>S c∨c=w.heap.size) hGn (.inr rfl) (fun c hc=>.inl hc) (fun c hc=>Mem.put_ne _ _ hc) ⟨by rw [Mem.put_same];rfl,fun e he=>by cases he⟩
  rw [q09] at h0
  have hb:Below w.heap.size w (w.alloc (.map #[] 0)):=(Below.refl _ _).alloc (Nat.le_refl _) _
  have hr1:=hr.newG (Nat.le_refl _) hb (heap_alloc_new w (.map #[] 0))
  have hr2:=hr1.moreS hmS hr.below.size (by have:=(Array.getElem?_eq_some_iff.1 (heap_alloc_new w (.map #[] 0))).1;exact this) (Mem.le.none hr.sub hGn)
  refine ⟨_,.map (some w.heap.size),_,β,_,_,_,?_,.inl rfl,Nm.le_refl _,hr2,by simp only [AV.rel],h0⟩
  simp [execOp,ho,Instr.makeMap,newObj,Sem.run,World.alloc,Result.andThen,-World.alloc_eq]
end
/-! ### Contracts of walks that write in memory -/
theorem HR.initM {G:Mem} {w:World} (hG:G.holds w):HR w G (fun _=>none) [.muts fun _=>False] G w :=
  ⟨Below.refl _ _,hG,Mem.le_refl _,fun _ _ h=>.inl h,fun _ _ h=>(by cases h),fun _ _ _ _ _ _ _ _ h=>(by cases h),fun k S hk b hb=>by
    cases k with
    | zero=>simp at hk;subst hk;exact hb.elim
    | succ k=>simp at hk⟩
theorem q6a {P:Program} {T:Tab} (hT:TOk P T) {f:FuncId} {fn:Func} (hfn:P.funcs[f]? = some fn) {args:List AV} {vs:Array Value} (ha:AV.rels (fun _=>none) args vs.toList) {G:Mem} {w:World} (hG:G.holds w) {K:AV→List Blk→Mem→Prop} (h:q0o (q5s fn) (q32 P T 1 fn args [.muts fun _=>False] G K)) :
    Calls P f vs w fun e w'=>∃ y β' v hp' G',e=.returned y∧HR w G β' hp' G' w'∧v.rel β' y∧K v hp' G':=by
  obtain ⟨h1,h2⟩:=q0n h
  refine (q5t hT hfn (hp:=[.muts fun _=>False]) h2 (.inl h1) w G _ w vs (HR.initM hG) ha).mono ?_
  rintro e w' ⟨y,β',v,hp',G',h1,_,h2,h3,h4⟩
  exact ⟨y,β',v,hp',G',h1,h2,h3,h4⟩
theorem x67 {P:Program} {T:Tab} (hT:TOk P T) {f:FuncId} {fn:Func} (hfn:P.funcs[f]? = some fn) {args:List AV} {G:Mem} {v:AV} (h:q0o (q5s fn) (q32 P T 1 fn args [.muts fun _=>False] G fun v' _ _=>v'=v∧v'.under 0=true)):Gives P f args G v:=by
  intro w vs hG ha
  refine (q6a hT hfn (args:=args) ha hG h).mono ?_
  rintro e w' ⟨y,β',v',hp',G',h1,h2,h3,rfl,h5⟩
  exact ⟨y,h1,q7m h5 h3,h2.below⟩
end Go.Proofs.YtkicdhaklnmonaaGreat
namespace Go.Proofs.YtkicdhaklnmonaaGreat
open Go.RowKit
set_option maxRecDepth 20000
theorem q4n (x:Ow):(encO x).length=4:=rfl
theorem x1g {l:List Ow} {i:Nat} {x:Ow} (h:l[i]? = some x) (j:Nat) (hj:j<4):(l.flatMap encO)[i*4+j]? = (encO x)[j]?:=x1b q4n l i j x h hj
theorem q7s {l:List Ow} {i:Nat} {x:Ow} (h:l[i]? = some x) {K:List Value→Prop} (k:K [.int .i64 x.r.y,.int .i64 x.r.x0,.int .i64 x.r.x1,.int .i64 x.p]):OwnCells (l.flatMap encO) (i*4) 4 K :=
  q08 _ rfl (fun j v hj=>by
    have hj4:j<4:=(List.getElem?_eq_some_iff.1 hj).1
    rw [x1g h j hj4];exact hj) k
set_option maxHeartbeats 4000000 in
theorem z8x {S:Nat→Prop} {E1 E2:TypeId} {s1 s2 n1 n2:Nat} {x1 x2:List Value} {l:List Ow} {q:Ow} {G:Mem} {K:AV→List Blk→Mem→Prop} (hl:l.length≤4000000000000)
    (h:∀ xs:List Value,xs.length=l.length*4→xs.take ((l.filter (q25 q.r)).length*4)=(l.filter (q25 q.r)).flatMap encO→K (.vw 5 0 (l.filter (q25 q.r)).length) [.muts S,.own E1 s1 n1 x1,.own E2 s2 n2 x2,.gone,.cells 125 [.val (.int .i64 q.r.y),.val (.int .i64 q.r.x0),.val (.int .i64 q.r.x1),.val (.int .i64 q.p)],.own 125 4 l.length xs] G) :
    CallP Tryz.prog 68 [.own 5,.fn (.func 69) [] [.ptr 4 0]] [.muts S,.own E1 s1 n1 x1,.own E2 s2 n2 x2,.gone,.cells 125 [.val (.int .i64 q.r.y),.val (.int .i64 q.r.x0),.val (.int .i64 q.r.x1),.val (.int .i64 q.p)],.own 125 4 l.length (l.flatMap encO)] G K:=by
  have hHP:∀ {m:Nat} {t:List Blk} {xs ys:List Value},xs=ys→hpLe (m+6) (.muts S::.own E1 s1 n1 x1::.own E2 s2 n2 x2::.gone::.cells 125 [.val (.int .i64 q.r.y),.val (.int .i64 q.r.x0),.val (.int .i64 q.r.x1),.val (.int .i64 q.p)]::.own 125 4 l.length xs::t) [.muts S,.own E1 s1 n1 x1,.own E2 s2 n2 x2,.gone,.cells 125 [.val (.int .i64 q.r.y),.val (.int .i64 q.r.x0),.val (.int .i64 q.r.x1),.val (.int .i64 q.p)],.own 125 4 l.length ys]:=fun e=>by
    subst e
    exact q0y (fun _ h=>h) (q0c rfl rfl (q0c rfl rfl (q0j (q0a (by exact flQ) (q0c rfl rfl q0f)))))
  have hLe:∀ {t:List Blk} {xs ys:List Value} {fr fr':List AV},xs=ys→frLe 6 fr fr'→Le 6 fr (.muts S::.own E1 s1 n1 x1::.own E2 s2 n2 x2::.gone::.cells 125 [.val (.int .i64 q.r.y),.val (.int .i64 q.r.x0),.val (.int .i64 q.r.x1),.val (.int .i64 q.p)]::.own 125 4 l.length xs::t) G fr' [.muts S,.own E1 s1 n1 x1,.own E2 s2 n2 x2,.gone,.cells 125 [.val (.int .i64 q.r.y),.val (.int .i64 q.r.x0),.val (.int .i64 q.r.x1),.val (.int .i64 q.p)],.own 125 4 l.length ys] G:=fun e hf=>q0k rfl rfl hf (hHP e)
  refine z1z rfl (q0i tab_ok Tryz.func68 (fun vs w=>by kernel_rfl) rfl ?_)
  (repeat ((try (conv=>whnf));(first |(refine stQ ?_) |(with_reducible refine q0i tab_ok Tryz.func92 (fun vs w=>by kernel_rfl) (by rfl) ?_))))
  conv=>whnf
  refine q0w tab_ok (fun i=>i≤l.length∧∀ k x,k<i→l[k]? = some x→q25 q.r x=true) (fun (i:Nat)=>[(8,.val (.int .i64 i))]) (fun i=>[.muts S,.own E1 s1 n1 x1,.own E2 s2 n2 x2,.gone,.cells 125 [.val (.int .i64 q.r.y),.val (.int .i64 q.r.x0),.val (.int .i64 q.r.x1),.val (.int .i64 q.p)],.own 125 4 l.length (l.flatMap encO)]) (fun i=>l.length-i) 0 ⟨Nat.zero_le _,fun k x h=>by omega⟩ ?_ ?_
  · ((refine q0g ?_);(conv=>whnf);(refine q0k (by rfl) (by rfl) flQ ?_))
    exact hHP rfl
  · rintro i ⟨hi,hk⟩
    rcases Nat.lt_or_ge i l.length with h1 |h1
    · obtain ⟨x,hx⟩:∃ x,l[i]? = some x:=⟨l[i],List.getElem?_eq_getElem h1⟩
      by_cases hc:x.r.x1≤q.r.x0
      · have hkx:q25 q.r x=false:=by unfold q25;simp [hc]
        (repeat ((try (conv=>whnf));(first |(refine q7s hx ?_) |(refine stQ ?_) |(with_reducible refine q0i tab_ok Tryz.func69 (fun vs w=>by kernel_rfl) (by rfl) ?_))))
        conv=>whnf
        (repeat ((try (conv=>whnf));(refine stQ ?_)))
        conv=>whnf
        refine x6r tab_ok (fun i j M=>Moved (q25 q.r) l M i j) (fun (i j:Nat) (M:List Ow)=>[(5,.val (.int .i64 i)),(6,.val (.int .i64 j))]) (fun i j M=>[.muts S,.own E1 s1 n1 x1,.own E2 s2 n2 x2,.gone,.cells 125 [.val (.int .i64 q.r.y),.val (.int .i64 q.r.x0),.val (.int .i64 q.r.x1),.val (.int .i64 q.p)],.own 125 4 l.length (M.flatMap encO)]) (fun i j M=>l.length-j) i (i+1) l (Moved.start hk hx hkx) ?_ ?_
        · ((refine q0g ?_);(conv=>whnf);(refine q0k (by rfl) (by rfl) flQ ?_))
          exact hHP rfl
        · rintro i j M hM
          have hle:=hM.le
          have hlen:=hM.len
          rcases Nat.lt_or_ge j l.length with h2 |h2
          · obtain ⟨y,hy⟩:∃ y,l[j]? = some y:=⟨l[j],List.getElem?_eq_getElem h2⟩
            have hy':=hM.at_.trans hy
            by_cases hd:y.r.x1≤q.r.x0
            · have hky:q25 q.r y=false:=by unfold q25;simp [hd]
              (repeat ((try (conv=>whnf));(first |(refine q7s hy' ?_) |(refine stQ ?_) |(with_reducible refine q0i tab_ok Tryz.func69 (fun vs w=>by kernel_rfl) (by rfl) ?_))))
              conv=>whnf
              (repeat ((try (conv=>whnf));(refine stQ ?_)))
              conv=>whnf
              refine ⟨i,j+1,M,hM.drop_ hy hky,by omega,?_⟩
              ((refine q0g ?_);(conv=>whnf);(refine q0k (by rfl) (by rfl) flQ ?_))
              exact hHP rfl
            · have hky:q25 q.r y=true:=by unfold q25;simp [hd]
              (repeat ((try (conv=>whnf));(first |(refine q7s hy' ?_) |(refine stQ ?_) |(with_reducible refine q0i tab_ok Tryz.func69 (fun vs w=>by kernel_rfl) (by rfl) ?_))))
              conv=>whnf
              (repeat ((try (conv=>whnf));(refine stQ ?_)))
              conv=>whnf
              refine ⟨by rw [q42 q4n,hlen];simp;omega,?_⟩
              (repeat ((try (conv=>whnf));(refine stQ ?_)))
              conv=>whnf
              refine ⟨i+1,j+1,M.set i y,hM.keep_ hy hky,by omega,?_⟩
              ((refine q0g ?_);(conv=>whnf);(refine q0k (by rfl) (by rfl) flQ ?_))
              refine hHP ?_
              show List.take ((i:Int).toNat * 4) _++encO y++List.drop ((i:Int).toNat * 4+4) _=_
              rw [Int.toNat_natCast]
              exact x65 q4n M i y (by omega)
          · obtain rfl:j=l.length:=by omega
            have hfr:=hM.front
            rw [List.take_length] at hfr
            have hi0:(l.filter (q25 q.r)).length=i:=by rw [← hfr,List.length_take];omega
            (repeat ((try (conv=>whnf));(refine stQ ?_)))
            conv=>whnf
            refine ⟨by rw [q42 q4n,hlen];simp;omega,?_⟩
            (repeat ((try (conv=>whnf));(refine stQ ?_)))
            conv=>whnf
            refine ⟨.vw 5 0 (l.filter (q25 q.r)).length,_,G,hLe rfl (q8c ?_ (by rfl) z4u),h _ ?_ ?_⟩
            · rw [hi0];rfl
            · have e:(i:Int).toNat=i:=rfl
              have e2:(l.length:Int).toNat=l.length:=rfl
              simp only [List.length_append,List.length_take,List.length_drop,z5i,q42 q4n,e,e2,hlen,List.length_cons,List.length_nil]
              omega
            · have e:(i:Int).toNat=i:=rfl
              rw [hi0,← hfr,← z7f q4n,List.append_assoc,e]
              show List.take (i*4) (List.take (i*4) _++_)=_
              rw [List.take_append_of_le_length (by rw [List.length_take,q42 q4n];omega),List.take_take,Nat.min_self]
      · have hkx:q25 q.r x=true:=by unfold q25;simp [hc]
        (repeat ((try (conv=>whnf));(first |(refine q7s hx ?_) |(refine stQ ?_) |(with_reducible refine q0i tab_ok Tryz.func69 (fun vs w=>by kernel_rfl) (by rfl) ?_))))
        conv=>whnf
        refine ⟨i+1,⟨by omega,fun k y hky hy=>?_⟩,by omega,?_⟩
        · by_cases e:k=i
          · subst e;rw [hx] at hy;cases hy;exact hkx
          · exact hk k y (by omega) hy
        · ((refine q0g ?_);(conv=>whnf);(refine q0k (by rfl) (by rfl) flQ ?_))
          exact hHP rfl
    · obtain rfl:i=l.length:=by omega
      have hf:l.filter (q25 q.r)=l:=by
        rw [List.filter_eq_self]
        intro y hy
        obtain ⟨k,hk'⟩:=List.mem_iff_getElem?.1 hy
        exact hk k y (List.getElem?_eq_some_iff.1 hk').1 hk'
      (repeat ((try (conv=>whnf));(refine stQ ?_)))
      conv=>whnf
      (repeat ((try (conv=>whnf));(refine stQ ?_)))
      conv=>whnf
      refine ⟨.vw 5 0 (l.filter (q25 q.r)).length,_,G,x9k rfl (hLe rfl (q8c (by rw [hf]) (by rfl) z4u)),h _ ?_ ?_⟩
      · rw [q42 q4n]
      · rw [hf,z7f q4n,List.take_length]
end Go.Proofs.YtkicdhaklnmonaaGreat
namespace Go.Proofs.YtkicdhaklnmonaaGreat
open Go.RowKit
set_option maxRecDepth 20000
def q49 (L:List Run) (o:Int):List Value:=L.flatMap fun r=>[.int .i64 r.y,.int .i64 r.x0,.int .i64 o,.int .i64 r.y,.int .i64 r.x1,.int .i64 o]
theorem q9n (K L:List Run) (o:Int):q49 (K++L) o=q49 K o++q49 L o:=by simp [q49]
theorem z8y (r:Run) (o:Int):q49 [r] o=[.int .i64 r.y,.int .i64 r.x0,.int .i64 o,.int .i64 r.y,.int .i64 r.x1,.int .i64 o]:=by simp [q49]
theorem z20 (o:Int):∀ (L:List Run),(q49 L o).length=L.length*6
  | []=>rfl
  | r::L=>by
    have:=z20 o L
    show (q49 ([r]++L) o).length=_
    rw [q9n,List.length_append,this,z8y];simp;omega
theorem x68 {L:List Run} {o:Int} {e:Nat} (h:e<2*L.length):(q49 L o)[e*3]? = some (.int .i64 (eY (nthR L) e))∧(q49 L o)[e*3+1]? = some (.int .i64 (eX (nthR L) e))∧(q49 L o)[e*3+2]? = some (.int .i64 o):=by
  obtain ⟨r,hr⟩:∃ r,L[e/2]? = some r:=⟨_,List.getElem?_eq_getElem (by omega)⟩
  have hsp:L=L.take (e/2)++([r]++L.drop (e/2+1)):=by
    obtain ⟨h1,rfl⟩:=List.getElem?_eq_some_iff.1 hr
    simp
  have hl:(q49 (L.take (e/2)) o).length=e/2*6:=by rw [z20,List.length_take];congr 1;omega
  have key:∀ j,j<6→(q49 L o)[e/2*6+j]? = [Value.int .i64 r.y,.int .i64 r.x0,.int .i64 o,.int .i64 r.y,.int .i64 r.x1,.int .i64 o][j]?:=fun j hj=>by
    conv=>lhs;rw [hsp,q9n,q9n,z8y]
    rw [List.getElem?_append_right (by omega),hl,show e/2*6+j-e/2*6=j by omega,List.getElem?_append_left (by simp;omega)]
  unfold eY eX
  rw [q4m hr]
  rcases Nat.mod_two_eq_zero_or_one e with h0 |h0
  · rw [if_pos h0]
    have e1:e*3=e/2*6+0:=by omega
    rw [e1]
    exact ⟨key 0 (by omega),key 1 (by omega),key 2 (by omega)⟩
  · rw [if_neg (by omega)]
    have e1:e*3=e/2*6+3:=by omega
    rw [e1]
    exact ⟨key 3 (by omega),key 4 (by omega),key 5 (by omega)⟩
end Go.Proofs.YtkicdhaklnmonaaGreat
