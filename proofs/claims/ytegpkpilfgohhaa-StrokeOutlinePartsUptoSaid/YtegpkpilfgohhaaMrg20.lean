/-
  Merged: XFreezeS, XCallTo.
-/
import Derived.Test.YtegpkpilfgohhaaGm
import Derived.Test.YtegpkpilfgohhaaMrg19
import Derived.Test.YtegpkpilfgohhaaMrg12
import Derived.Test.YtegpkpilfgohhaaMrg14
set_option linter.unusedVariables false
set_option linter.unusedSimpArgs false
set_option linter.unnecessarySimpa false
namespace Go.Proofs.Ytegpkpilfgohhaa
open Go.RowKit
section
variable {w0:World} {G0:Mem} {β:Nm} {hp:List Blk} {G:Mem} {w:World}
structure RowN (S:Nat→Prop) (G:Mem) (v:Value) (S':Nat→Prop) (G':Mem):Prop where
  more:∀ b,S b→S' b
  le:G.le G'
  fresh:∀ b,q0f v=some b→G b=none
  rest:∀ b,q0f v≠some b→G' b=G b
theorem set_same {hp:List Blk} {m:Nat} {x:Blk} (h:hp[m]? = some x):hp.set m x=hp:=by
  have hml:=(List.getElem?_eq_some_iff.1 h).1
  apply List.ext_getElem?
  intro i
  by_cases hi:m=i
  · subst hi;rw [h];simp [List.getElem?_set,hml]
  · rw [List.getElem?_set,if_neg hi]
theorem HR.freezeS (hr:HR w0 G0 β hp G w) {m:Nat} {S:Nat→Prop} (hm:hp[m]? = some (.muts S)) {k:Nat} {v:Value} {E:TypeId} {sz n:Nat} {xs:List Value} (hv:β k=some v) (hk:nthB hp k=.own E sz n xs) :
    ∃ S' G',RowN S G v S' G'∧RowS S' G' E sz v n xs∧HR w0 G0 β ((hp.set k .gone).set m (.muts S')) G' w:=by
  obtain ⟨x,hx1,hx2⟩:=hr.blk k v hv
  have hkx:=q0y hk rfl
  rw [hkx] at hx1;cases hx1
  have hmk:k≠m:=fun e=>by subst e;rw [hm] at hkx;cases hkx
  have hm':(hp.set k .gone)[m]? = some (.muts S):=by rw [List.getElem?_set,if_neg hmk];exact hm
  obtain ⟨⟨hlen,hown⟩,hfree⟩:=hx2
  rcases hown with ⟨rfl,h5⟩ |⟨g,cap,cur,rfl,h5,h6,h7,h8,h9,h10⟩
  · subst h5
    refine ⟨S,G,⟨fun _ h=>h,Mem.le_refl _,fun b hb=>(by cases hb),fun _ _=>rfl⟩,⟨hlen,.inl ⟨rfl,rfl⟩⟩,?_⟩
    rw [set_same hm'];exact hr.forget k
  · have hGn:=hfree g rfl
    have hGz:G0 g=none:=Mem.le.none hr.sub hGn
    have hlt:=(Array.getElem?_eq_some_iff.1 h6).1
    have hf:=hr.forget k
    have hr2:HR w0 G0 β (hp.set k .gone) (G.put g (.cells cur E (0,0))) w:=by
      refine ⟨hf.below,fun c o' hc=>?_,fun c o' hc=>?_,fun c o' hc=>?_,fun j z hj=>?_,hf.inj,hf.wrt⟩
      · by_cases e:c=g
        · subst e;rw [Mem.put_same] at hc;cases hc;exact h6
        · rw [Mem.put_ne _ _ e] at hc;exact hf.hold c o' hc
      · rw [Mem.put_ne _ _ (fun e=>by rw [e,hGz] at hc;cases hc)];exact hf.sub c o' hc
      · by_cases e:c=g
        · subst e;exact .inr h5
        · rw [Mem.put_ne _ _ e] at hc;exact hf.grow c o' hc
      · obtain ⟨x,q1,q2⟩:=hf.blk j z hj
        refine ⟨x,q1,?_⟩
        by_cases hl:x.live=true
        · refine Blk.rel_of (Nm.le_refl _) q2 (fun c hc=>⟨rfl,fun h4=>?_⟩)
          have hne:c≠g:=fun e=>by
            subst e
            by_cases hjk:j=k
            · subst hjk
              rw [List.getElem?_set] at q1
              simp [(List.getElem?_eq_some_iff.1 hkx).1] at q1
              subst q1;simp [Blk.live] at hl
            · have hx3:hp[j]? = some x:=by rw [List.getElem?_set,if_neg (fun e=>hjk e.symm)] at q1;exact q1
              exact hr.inj j k z _ x _ c hjk hj hv hx3 hkx hl rfl hc rfl
          rw [Mem.put_ne _ _ hne];exact h4
        · cases x <;> simp [Blk.live] at hl <;> first |trivial |exact q2.elim
    refine ⟨fun c=>S c∨c=g,G.put g (.cells cur E (0,0)),⟨fun _ h=>.inl h,fun b o hb=>?_,fun b hb=>?_,fun b hb=>?_⟩,⟨hlen,.inr ⟨g,cap,cur,rfl,.inr rfl,Mem.put_same _ _ _,h7,h8,h9,h10⟩⟩,hr2.moreS hm' h5 hlt hGz⟩
    · rw [Mem.put_ne _ _ (fun e=>by rw [e,hGn] at hb;cases hb)];exact hb
    · simp [q0f] at hb;subst hb;exact hGn
    · exact Mem.put_ne _ _ (fun e=>hb (by rw [e];rfl))
end
theorem z3u {k m:Nat} {v:Value} {S:Nat→Prop} {hp:List Blk}:((hp.set k .gone).set m (.muts S)).map (Blk.plug k v)=((hp.map (Blk.plug k v)).set k .gone).set m (.muts S):=by
  rw [List.map_set,List.map_set];rfl
theorem q04 {P:Program} {T:Tab} (hT:TOk P T) (m q k:Nat) {op:Op} {fr:List AV} {hp:List Blk} {G:Mem} {K:AV→List Blk→Mem→Prop} {t:TypeId} {l:List AV} {E:TypeId} {sz n:Nat} {xs:List Value} {S:Nat→Prop} (hm:nthB hp m=.muts S)
    (hq:nthB hp q=.cells t l) (hin:q3k k l=true) (hk:nthB hp k=.own E sz n xs) {tt:TypeId} {d x:Operand} (hop:op=.call ⟨.builtin .append,⟨[d,x]⟩,⟨[tt,tt]⟩⟩) {dd:AV} {o c nn:Nat} (hd:ev fr d=dd) (hx:ev fr x=.sli q o nn c)
    (h:∀ A cap S' G',RowN S G (.slice A n cap) S' G'→RowS S' G' E sz (.slice A n cap) n xs→q9j k (.slice A n cap) hp fun hp1=>setF hp1 k .gone fun hp2=>setF hp2 m (.muts S') fun hp3=>q7r T tt dd (.sli q o nn c) hp3 G' K):OpP P op fr hp G K:=by
  refine ⟨fun o' ho=>OpS.of_run fun w0 G0 β a w hr hf=>?_⟩
  obtain ⟨y,hy⟩:∃ y,β q=some y:=by
    have:=q2b hf x
    rw [hx] at this
    simp only [AV.rel] at this
    obtain ⟨v,_,h1,_⟩:=this
    exact ⟨v,h1⟩
  obtain ⟨xb,h1,h2⟩:=hr.blk q y hy
  rw [q0y hq rfl] at h1;cases h1
  obtain ⟨b,cs,rfl,q2,q3,q4,q5⟩:=h2
  obtain ⟨v,hv⟩:=q34 (hp:=hp) q5 (q2z hin)
  obtain ⟨S',G',hN,hS,hr'⟩:=hr.freezeS (q7h hm) hv hk
  obtain ⟨A,cap,rfl,hn,hmx⟩:=hS.isSl
  have h3:=h A cap S' G' hN hS
  rw [q7e,q09,q09] at h3
  have hr2:=hr'.plug hv
  rw [z3u] at hr2
  have:=q56 hT (o:=o') (d:=d) (x:=x) (t:=tt) (fr:=fr) (ho.trans hop) (by rw [hd,hx];exact h3)
  exact this w0 G0 β a w hr2 hf
theorem z5n {P:Program} {f:FuncId} (args:List AV) (m:Nat) (hen:∀ vs w,(callFunc f vs).run P w=.ok (.enter f vs) w) {L:List AV} {hp:List Blk} {G:Mem} {K:AV→List Blk→Mem→Prop} {E:TypeId} {sz n:Nat} {v:Value} {xs xs':List Value} {S:Nat→Prop} (hm:nthB hp m=.muts S)
    (hL:L=args.map (subA (.val v))) (hu:AV.unders 0 L=true) (hv:RowS S G E sz v n xs) (hc:Mends P f args (fun _=>none) E sz n xs xs') (h:∀ S' G',RowG S G v S' G' v→RowS S' G' E sz v n xs'→setF hp m (.muts S') fun hp'=>K .any hp' G'):CallP P f L hp G K:=by
  refine ⟨hen,fun w0 G0 β w vs hr ha=>?_⟩
  have hm':=q7h hm
  have ho:=hv.owns hr hm'
  refine (hc w0.heap.size w v vs (fun b o hb=>by cases hb) ho hr.below.size (fun g _=>rfl) ?_).mono ?_
  · rw [← hL]
    exact q28 hu ha
  · rintro e w' ⟨y,rfl,h1,h2⟩
    obtain ⟨S',G',g1,g2,g3⟩:=hr.rowG hm' hv h1 h2 (fun b hb=>.inr hb)
    have h':=h S' G' g1 g2
    rw [q09] at h'
    exact ⟨y,β,.any,_,G',rfl,Nm.le_refl _,g3,by simp only [AV.rel],h'⟩
end Go.Proofs.Ytegpkpilfgohhaa
namespace Go.Proofs.Ytegpkpilfgohhaa
open Go.RowKit
theorem x0c {P:Program} {f:FuncId} {args:List AV} {hp:List Blk} {G:Mem} {K:AV→List Blk→Mem→Prop} {ι:Type} (n0:Nat) (hn:hp.length=n0) (inv:ι→Prop) (H:ι→List Blk) (M:ι→Mem) (v:AV)
    (h:CallP P f args hp G fun u hp' G'=>∃ i,inv i∧Le n0 [u] hp' G' [v] (H i) (M i)) (k:∀ i,inv i→K v (H i) (M i)):CallP P f args hp G K:=by
  subst hn
  refine ⟨h.enters,fun w0 G0 β w vs hr ha=>(h.calls w0 G0 β w vs hr ha).mono ?_⟩
  rintro e w' ⟨y,β',u,hp',G',h1,h2,h3,h4,i,hi,hL⟩
  obtain ⟨β2,g1,g2,g3⟩:=hL.out w0 G0 β β' w' [y] (Nm.below_of hr) h2 h3 (by simp only [AV.rels];exact ⟨y,[],rfl,h4,rfl⟩)
  simp only [AV.rels] at g3
  obtain ⟨y',ys,e1,e2,_⟩:=g3
  cases e1
  exact ⟨y,β2,v,H i,M i,h1,g1,g2,e2,k i hi⟩
theorem z7y {P:Program} {f:FuncId} (m k:Nat) (hen:∀ vs w,(callFunc f vs).run P w=.ok (.enter f vs) w) {args:List AV} {hp:List Blk} {G:Mem} {K:AV→List Blk→Mem→Prop} {E:TypeId} {sz n:Nat} {xs:List Value} {S:Nat→Prop} (hm:nthB hp m=.muts S) (hk:nthB hp k=.own E sz n xs) (hin:q3k k args=true)
    (h:∀ A cap S' G',RowN S G (.slice A n cap) S' G'→RowS S' G' E sz (.slice A n cap) n xs→q44 k (.slice A n cap) args fun args'=>q9j k (.slice A n cap) hp fun hp1=>setF hp1 k .gone fun hp2=>setF hp2 m (.muts S') fun hp3=>CallP P f args' hp3 G' K):CallP P f args hp G K:=by
  refine ⟨hen,fun w0 G0 β w vs hr ha=>?_⟩
  obtain ⟨v,hv⟩:=q34 (hp:=hp) ha (q2z hin)
  obtain ⟨S',G',hN,hS,hr'⟩:=hr.freezeS (q7h hm) hv hk
  obtain ⟨A,cap,rfl,hn,hmx⟩:=hS.isSl
  have h3:=h A cap S' G' hN hS
  rw [q5u,q7e,q09,q09] at h3
  have hr2:=hr'.plug hv
  rw [z3u] at hr2
  exact h3.calls w0 G0 β w vs hr2 (q3n hv ha)
def q6x (k:Nat):List AV→Bool
  | []=>false
  | .ptr j o::l=>match Nat.beq j k with
    | true=>true
    | false=>q6x k l
  | _::l=>q6x k l
theorem q6d {β:Nm} {k:Nat}:∀ {l:List AV} {ys:List Value},AV.rels β l ys→q6x k l=true→∃ v,β k=some v
  | [],_,_,h=>by cases h
  | a::l,ys,hr,h=>by
    simp only [AV.rels] at hr
    obtain ⟨y,zs,_,h2,h3⟩:=hr
    cases a with
    | ptr j o =>
      unfold q6x at h
      split at h
      · rename_i e
        have:=Nat.eq_of_beq_eq_true e
        subst this
        simp only [AV.rel] at h2
        obtain ⟨v,_,h4,_⟩:=h2
        exact ⟨v,h4⟩
      · exact q6d h3 h
    | _=>exact q6d h3 (by simpa [q6x] using h)
inductive FrzB (R:AV→Mem→Prop):List AV→List Blk→Mem→Prop
  | done {l:List AV} {hp:List Blk} {G:Mem} (hu:AV.unders 0 l=true) (h:R (.tup l) G):FrzB R l hp G
  | frz {l:List AV} {hp:List Blk} {G:Mem} (k:Nat) {E:TypeId} {sz n:Nat} {xs:List Value} (hk:nthB hp k=.own E sz n xs) (hin:q3k k l=true)
      (h:∀ A cap G',G.le G'→n≤cap→cap≤maxLen→FlatM G' A xs→FrzB R (q6b k (.slice A n cap) l) ((hp.map (Blk.plug k (.slice A n cap))).set k .gone) G'):FrzB R l hp G
  | row {l:List AV} {hp:List Blk} {G:Mem} (q k:Nat) {t:TypeId} {cs:List AV} {E:TypeId} {sz n:Nat} {xs:List Value} (hq:nthB hp q=.cells t cs) (hp':q6x q l=true) (hin:q3k k cs=true) (hk:nthB hp k=.own E sz n xs)
      (h:∀ A cap G',G.le G'→n≤cap→cap≤maxLen→FlatM G' A xs→FrzB R (q6b k (.slice A n cap) l) ((hp.map (Blk.plug k (.slice A n cap))).set k .gone) G'):FrzB R l hp G
  | cel {l:List AV} {hp:List Blk} {G:Mem} (q:Nat) {t:TypeId} {cs:List AV} (xs:List Value) (hq:nthB hp q=.cells t cs) (hcs:cs=xs.map .val) (hin:q6x q l=true)
      (h:∀ b G',G.le G'→(∀ (j:Nat) u,xs[j]? = some u→G'.cell? ⟨b,j,none⟩=some u)→FrzB R (q6u q b l) (hp.set q .gone) G'):FrzB R l hp G
theorem FrzB.out {R:AV→Mem→Prop} {l:List AV} {hp:List Blk} {G:Mem} (h:FrzB R l hp G):∀ {w0:World} {G0:Mem} {β:Nm} {w:World} {ys:List Value},HR w0 G0 β hp G w→AV.rels β l ys →
    ∃ l' hp' G',AV.rels noName l' ys∧HR w0 G0 β hp' G' w∧AV.unders 0 l'=true∧R (.tup l') G':=by
  have key:∀ {w0:World} {G0:Mem} {β:Nm} {hp:List Blk} {G:Mem} {w:World} {k:Nat} {v:Value},β k=some v→HR w0 G0 β (hp.set k .gone) G w→HR w0 G0 β ((hp.map (Blk.plug k v)).set k .gone) G w:=fun {w0 G0 β hp G w k v} hv hr=>by
    have hr2:=hr.plug hv
    have e:(hp.set k .gone).map (Blk.plug k v)=(hp.map (Blk.plug k v)).set k .gone:=by rw [List.map_set];rfl
    rwa [e] at hr2
  induction h with
  | done hu h=>intro w0 G0 β w ys hr ha;exact ⟨_,_,_,q28 hu ha,hr,hu,h⟩
  | frz k hk hin h ih =>
    intro w0 G0 β w ys hr ha
    obtain ⟨v,hv⟩:=q34 (hp:=[]) ha (q2z hin)
    obtain ⟨A,cap,G',rfl,hle,hn,hm,hF,hr'⟩:=hr.freeze hv hk
    exact ih A cap G' hle hn hm hF (key hv hr') (q3n hv ha)
  | row q k hq hp' hin hk h ih =>
    intro w0 G0 β w ys hr ha
    obtain ⟨y,hy⟩:=q6d ha hp'
    obtain ⟨xb,h1,h2⟩:=hr.blk q y hy
    rw [q0y hq rfl] at h1;cases h1
    obtain ⟨b,cs',rfl,q2,q3,q4,q5⟩:=h2
    obtain ⟨v,hv⟩:=q34 (hp:=[]) q5 (q2z hin)
    obtain ⟨A,cap,G',rfl,hle,hn,hm,hF,hr'⟩:=hr.freeze hv hk
    exact ih A cap G' hle hn hm hF (key hv hr') (q3n hv ha)
  | cel q xs hq hcs hin h ih =>
    intro w0 G0 β w ys hr ha
    obtain ⟨v,hv⟩:=q6d ha hin
    obtain ⟨b,G',hb,hle,hc,hr'⟩:=hr.stand hv hq hcs
    exact ih b G' hle hc hr' (q4a hv hb ha)
theorem z7z {P:Program} {T:Tab} (hT:TOk P T) {f:FuncId} {fn:Func} (hfn:P.funcs[f]? = some fn) {args:List AV} {G:Mem} {R:AV→Mem→Prop}
    (hn:q4v fn=true) (h:q3y P T 1 fn args [.muts fun _=>False] G fun v hp' G1=>(v.under 0=true∧R v G1)∨∃ l,v=.tup l∧FrzB R l hp' G1):q47 P f args G R:=by
  intro w vs hG ha
  refine (q70 hT hfn (args:=args) ha hG (by rw [hn];exact h)).mono ?_
  rintro e w' ⟨y,β',v,hp',G',h1,h2,h3,hK⟩
  rcases hK with ⟨hb,hR⟩ |⟨l,rfl,hF⟩
  · exact ⟨y,v,G',h1,q4j hb h3,h2.below,h2.sub,h2.hold,h2.grow,hb,hR⟩
  · simp only [AV.rel] at h3
    obtain ⟨ys,rfl,h4⟩:=h3
    obtain ⟨l',hp2,G2,g1,g2,g3,g4⟩:=hF.out h2 h4
    exact ⟨_,.tup l',G2,h1,by simp only [AV.rel];exact ⟨ys,rfl,g1⟩,g2.below,g2.sub,g2.hold,g2.grow,by simpa [AV.under] using g3,g4⟩
end Go.Proofs.Ytegpkpilfgohhaa
