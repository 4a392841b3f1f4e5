/-
  Merged: XFreezeS, XCallTo, XPartM.
-/
import Derived.Test.YtegpkpilfgohhaaGreatGm
import Derived.Test.YtegpkpilfgohhaaGreatMrg17
import Derived.Test.YtegpkpilfgohhaaGreatMrg11
import Derived.Test.YtegpkpilfgohhaaGreatMrg13
import Derived.Test.YtegpkpilfgohhaaGreatROut
import Derived.Test.YtegpkpilfgohhaaGreatMrg9
set_option linter.unusedVariables false
set_option linter.unusedSimpArgs false
set_option linter.unnecessarySimpa false
namespace Go.Proofs.YtegpkpilfgohhaaGreat
open Go.RowKit
section
variable {w0:World} {G0:Mem} {β:Nm} {hp:List Blk} {G:Mem} {w:World}
structure RowN (S:Nat→Prop) (G:Mem) (v:Value) (S':Nat→Prop) (G':Mem):Prop where
  more:∀ b,S b→S' b
  le:G.le G'
  fresh:∀ b,q0i v=some b→G b=none
  rest:∀ b,q0i v≠some b→G' b=G b
theorem x5s {hp:List Blk} {m:Nat} {x:Blk} (h:hp[m]? = some x):hp.set m x=hp:=by
  have hml:=(List.getElem?_eq_some_iff.1 h).1
  apply List.ext_getElem?
  intro i
  by_cases hi:m=i
  · subst hi;rw [h];simp [List.getElem?_set,hml]
  · rw [List.getElem?_set,if_neg hi]
theorem HR.freezeS (hr:HR w0 G0 β hp G w) {m:Nat} {S:Nat→Prop} (hm:hp[m]? = some (.muts S)) {k:Nat} {v:Value} {E:TypeId} {sz n:Nat} {xs:List Value} (hv:β k=some v) (hk:nthB hp k=.own E sz n xs) :
    ∃ S' G',RowN S G v S' G'∧RowS S' G' E sz v n xs∧HR w0 G0 β ((hp.set k .gone).set m (.muts S')) G' w:=by
  obtain ⟨x,hx1,hx2⟩:=hr.blk k v hv
  have hkx:=q0x hk rfl
  rw [hkx] at hx1;cases hx1
  have hmk:k≠m:=fun e=>by subst e;rw [hm] at hkx;cases hkx
  have hm':(hp.set k .gone)[m]? = some (.muts S):=by rw [List.getElem?_set,if_neg hmk];exact hm
  obtain ⟨⟨hlen,hown⟩,hfree⟩:=hx2
  rcases hown with ⟨rfl,h5⟩ |⟨g,cap,cur,rfl,h5,h6,h7,h8,h9,h10⟩
  · subst h5
    refine ⟨S,G,⟨fun _ h=>h,Mem.le_refl _,fun b hb=>(by cases hb),fun _ _=>rfl⟩,⟨hlen,.inl ⟨rfl,rfl⟩⟩,?_⟩
    rw [x5s hm'];exact hr.forget k
  · have hGn:=hfree g rfl
    have hGz:G0 g=none:=Mem.le.none hr.sub hGn
    have hlt:=(Array.getElem?_eq_some_iff.1 h6).1
    have hf:=hr.forget k
    have hr2:HR w0 G0 β (hp.set k .gone) (G.put g (.cells cur E (0,0))) w:=by
      refine ⟨hf.below,fun c o' hc=>?_,fun c o' hc=>?_,fun c o' hc=>?_,fun j z hj=>?_,hf.inj,hf.wrt⟩
      · by_cases e:c=g
        · subst e;rw [Mem.put_same] at hc;cases hc;exact h6
        · rw [Mem.put_ne _ _ e] at hc;exact hf.hold c o' hc
      · rw [Mem.put_ne _ _ (fun e=>by rw [e,hGz] at hc;cases hc)];exact hf.sub c o' hc
      · by_cases e:c=g
        · subst e;exact .inr h5
        · rw [Mem.put_ne _ _ e] at hc;exact hf.grow c o' hc
      · obtain ⟨x,q1,q2⟩:=hf.blk j z hj
        refine ⟨x,q1,?_⟩
        by_cases hl:x.live=true
        · refine Blk.rel_of (Nm.le_refl _) q2 (fun c hc=>⟨rfl,fun h4=>?_⟩)
          have hne:c≠g:=fun e=>by
            subst e
            by_cases hjk:j=k
            · subst hjk
              rw [List.getElem?_set] at q1
              simp [(List.getElem?_eq_some_iff.1 hkx).1] at q1
              subst q1;simp [Blk.live] at hl
            · have hx3:hp[j]? = some x:=by rw [List.getElem?_set,if_neg (fun e=>hjk e.symm)] at q1;exact q1
              exact hr.inj j k z _ x _ c hjk hj hv hx3 hkx hl rfl hc rfl
          rw [Mem.put_ne _ _ hne];exact h4
        · cases x <;> simp [Blk.live] at hl <;> first |trivial |exact q2.elim
    refine ⟨fun c=>S c∨c=g,G.put g (.cells cur E (0,0)),⟨fun _ h=>.inl h,fun b o hb=>?_,fun b hb=>?_,fun b hb=>?_⟩,⟨hlen,.inr ⟨g,cap,cur,rfl,.inr rfl,Mem.put_same _ _ _,h7,h8,h9,h10⟩⟩,hr2.moreS hm' h5 hlt hGz⟩
    · rw [Mem.put_ne _ _ (fun e=>by rw [e,hGn] at hb;cases hb)];exact hb
    · simp [q0i] at hb;subst hb;exact hGn
    · exact Mem.put_ne _ _ (fun e=>hb (by rw [e];rfl))
end
theorem z8i {k m:Nat} {v:Value} {S:Nat→Prop} {hp:List Blk}:((hp.set k .gone).set m (.muts S)).map (Blk.plug k v)=((hp.map (Blk.plug k v)).set k .gone).set m (.muts S):=by
  rw [List.map_set,List.map_set];rfl
theorem q1f {P:Program} {T:Tab} (hT:TOk P T) (m q k:Nat) {op:Op} {fr:List AV} {hp:List Blk} {G:Mem} {K:AV→List Blk→Mem→Prop} {t:TypeId} {l:List AV} {E:TypeId} {sz n:Nat} {xs:List Value} {S:Nat→Prop} (hm:nthB hp m=.muts S)
    (hq:nthB hp q=.cells t l) (hin:q33 k l=true) (hk:nthB hp k=.own E sz n xs) {tt:TypeId} {d x:Operand} (hop:op=.call ⟨.builtin .append,⟨[d,x]⟩,⟨[tt,tt]⟩⟩) {dd:AV} {o c nn:Nat} (hd:ev fr d=dd) (hx:ev fr x=.sli q o nn c)
    (h:∀ A cap S' G',RowN S G (.slice A n cap) S' G'→RowS S' G' E sz (.slice A n cap) n xs→z0t k (.slice A n cap) hp fun hp1=>setF hp1 k .gone fun hp2=>setF hp2 m (.muts S') fun hp3=>z0k T tt dd (.sli q o nn c) hp3 G' K):OpP P op fr hp G K:=by
  refine ⟨fun o' ho=>OpS.of_run fun w0 G0 β a w hr hf=>?_⟩
  obtain ⟨y,hy⟩:∃ y,β q=some y:=by
    have:=q2s hf x
    rw [hx] at this
    simp only [AV.rel] at this
    obtain ⟨v,_,h1,_⟩:=this
    exact ⟨v,h1⟩
  obtain ⟨xb,h1,h2⟩:=hr.blk q y hy
  rw [q0x hq rfl] at h1;cases h1
  obtain ⟨b,cs,rfl,q2,q3,q4,q5⟩:=h2
  obtain ⟨v,hv⟩:=q4q (hp:=hp) q5 (q3e hin)
  obtain ⟨S',G',hN,hS,hr'⟩:=hr.freezeS (q9z hm) hv hk
  obtain ⟨A,cap,rfl,hn,hmx⟩:=hS.isSl
  have h3:=h A cap S' G' hN hS
  rw [q72,q1c,q1c] at h3
  have hr2:=hr'.plug hv
  rw [z8i] at hr2
  have:=q8j hT (o:=o') (d:=d) (x:=x) (t:=tt) (fr:=fr) (ho.trans hop) (by rw [hd,hx];exact h3)
  exact this w0 G0 β a w hr2 hf
theorem x0v {P:Program} {f:FuncId} (args:List AV) (m:Nat) (hen:∀ vs w,(callFunc f vs).run P w=.ok (.enter f vs) w) {L:List AV} {hp:List Blk} {G:Mem} {K:AV→List Blk→Mem→Prop} {E:TypeId} {sz n:Nat} {v:Value} {xs xs':List Value} {S:Nat→Prop} (hm:nthB hp m=.muts S)
    (hL:L=args.map (subA (.val v))) (hu:AV.unders 0 L=true) (hv:RowS S G E sz v n xs) (hc:Mends P f args (fun _=>none) E sz n xs xs') (h:∀ S' G',RowG S G v S' G' v→RowS S' G' E sz v n xs'→setF hp m (.muts S') fun hp'=>K .any hp' G'):CallP P f L hp G K:=by
  refine ⟨hen,fun w0 G0 β w vs hr ha=>?_⟩
  have hm':=q9z hm
  have ho:=hv.owns hr hm'
  refine (hc w0.heap.size w v vs (fun b o hb=>by cases hb) ho hr.below.size (fun g _=>rfl) ?_).mono ?_
  · rw [← hL]
    exact q3w hu ha
  · rintro e w' ⟨y,rfl,h1,h2⟩
    obtain ⟨S',G',g1,g2,g3⟩:=hr.rowG hm' hv h1 h2 (fun b hb=>.inr hb)
    have h':=h S' G' g1 g2
    rw [q1c] at h'
    exact ⟨y,β,.any,_,G',rfl,Nm.le_refl _,g3,by simp only [AV.rel],h'⟩
end Go.Proofs.YtegpkpilfgohhaaGreat
namespace Go.Proofs.YtegpkpilfgohhaaGreat
open Go.RowKit
theorem x7i {P:Program} {f:FuncId} {args:List AV} {hp:List Blk} {G:Mem} {K:AV→List Blk→Mem→Prop} {ι:Type} (n0:Nat) (hn:hp.length=n0) (inv:ι→Prop) (H:ι→List Blk) (M:ι→Mem) (v:AV)
    (h:CallP P f args hp G fun u hp' G'=>∃ i,inv i∧Le n0 [u] hp' G' [v] (H i) (M i)) (k:∀ i,inv i→K v (H i) (M i)):CallP P f args hp G K:=by
  subst hn
  refine ⟨h.enters,fun w0 G0 β w vs hr ha=>(h.calls w0 G0 β w vs hr ha).mono ?_⟩
  rintro e w' ⟨y,β',u,hp',G',h1,h2,h3,h4,i,hi,hL⟩
  obtain ⟨β2,g1,g2,g3⟩:=hL.out w0 G0 β β' w' [y] (Nm.below_of hr) h2 h3 (by simp only [AV.rels];exact ⟨y,[],rfl,h4,rfl⟩)
  simp only [AV.rels] at g3
  obtain ⟨y',ys,e1,e2,_⟩:=g3
  cases e1
  exact ⟨y,β2,v,H i,M i,h1,g1,g2,e2,k i hi⟩
theorem x34 {P:Program} {f:FuncId} (m k:Nat) (hen:∀ vs w,(callFunc f vs).run P w=.ok (.enter f vs) w) {args:List AV} {hp:List Blk} {G:Mem} {K:AV→List Blk→Mem→Prop} {E:TypeId} {sz n:Nat} {xs:List Value} {S:Nat→Prop} (hm:nthB hp m=.muts S) (hk:nthB hp k=.own E sz n xs) (hin:q33 k args=true)
    (h:∀ A cap S' G',RowN S G (.slice A n cap) S' G'→RowS S' G' E sz (.slice A n cap) n xs→q53 k (.slice A n cap) args fun args'=>z0t k (.slice A n cap) hp fun hp1=>setF hp1 k .gone fun hp2=>setF hp2 m (.muts S') fun hp3=>CallP P f args' hp3 G' K):CallP P f args hp G K:=by
  refine ⟨hen,fun w0 G0 β w vs hr ha=>?_⟩
  obtain ⟨v,hv⟩:=q4q (hp:=hp) ha (q3e hin)
  obtain ⟨S',G',hN,hS,hr'⟩:=hr.freezeS (q9z hm) hv hk
  obtain ⟨A,cap,rfl,hn,hmx⟩:=hS.isSl
  have h3:=h A cap S' G' hN hS
  rw [q6q,q72,q1c,q1c] at h3
  have hr2:=hr'.plug hv
  rw [z8i] at hr2
  exact h3.calls w0 G0 β w vs hr2 (q39 hv ha)
def q9e (k:Nat):List AV→Bool
  | []=>false
  | .ptr j o::l=>match Nat.beq j k with
    | true=>true
    | false=>q9e k l
  | _::l=>q9e k l
theorem q8t {β:Nm} {k:Nat}:∀ {l:List AV} {ys:List Value},AV.rels β l ys→q9e k l=true→∃ v,β k=some v
  | [],_,_,h=>by cases h
  | a::l,ys,hr,h=>by
    simp only [AV.rels] at hr
    obtain ⟨y,zs,_,h2,h3⟩:=hr
    cases a with
    | ptr j o =>
      unfold q9e at h
      split at h
      · rename_i e
        have:=Nat.eq_of_beq_eq_true e
        subst this
        simp only [AV.rel] at h2
        obtain ⟨v,_,h4,_⟩:=h2
        exact ⟨v,h4⟩
      · exact q8t h3 h
    | _=>exact q8t h3 (by simpa [q9e] using h)
inductive FrzB (R:AV→Mem→Prop):List AV→List Blk→Mem→Prop
  | done {l:List AV} {hp:List Blk} {G:Mem} (hu:AV.unders 0 l=true) (h:R (.tup l) G):FrzB R l hp G
  | frz {l:List AV} {hp:List Blk} {G:Mem} (k:Nat) {E:TypeId} {sz n:Nat} {xs:List Value} (hk:nthB hp k=.own E sz n xs) (hin:q33 k l=true)
      (h:∀ A cap G',G.le G'→n≤cap→cap≤maxLen→FlatM G' A xs→FrzB R (q8o k (.slice A n cap) l) ((hp.map (Blk.plug k (.slice A n cap))).set k .gone) G'):FrzB R l hp G
  | row {l:List AV} {hp:List Blk} {G:Mem} (q k:Nat) {t:TypeId} {cs:List AV} {E:TypeId} {sz n:Nat} {xs:List Value} (hq:nthB hp q=.cells t cs) (hp':q9e q l=true) (hin:q33 k cs=true) (hk:nthB hp k=.own E sz n xs)
      (h:∀ A cap G',G.le G'→n≤cap→cap≤maxLen→FlatM G' A xs→FrzB R (q8o k (.slice A n cap) l) ((hp.map (Blk.plug k (.slice A n cap))).set k .gone) G'):FrzB R l hp G
  | cel {l:List AV} {hp:List Blk} {G:Mem} (q:Nat) {t:TypeId} {cs:List AV} (xs:List Value) (hq:nthB hp q=.cells t cs) (hcs:cs=xs.map .val) (hin:q9e q l=true)
      (h:∀ b G',G.le G'→(∀ (j:Nat) u,xs[j]? = some u→G'.cell? ⟨b,j,none⟩=some u)→FrzB R (q9d q b l) (hp.set q .gone) G'):FrzB R l hp G
theorem FrzB.out {R:AV→Mem→Prop} {l:List AV} {hp:List Blk} {G:Mem} (h:FrzB R l hp G):∀ {w0:World} {G0:Mem} {β:Nm} {w:World} {ys:List Value},HR w0 G0 β hp G w→AV.rels β l ys →
    ∃ l' hp' G',AV.rels noName l' ys∧HR w0 G0 β hp' G' w∧AV.unders 0 l'=true∧R (.tup l') G':=by
  have key:∀ {w0:World} {G0:Mem} {β:Nm} {hp:List Blk} {G:Mem} {w:World} {k:Nat} {v:Value},β k=some v→HR w0 G0 β (hp.set k .gone) G w→HR w0 G0 β ((hp.map (Blk.plug k v)).set k .gone) G w:=fun {w0 G0 β hp G w k v} hv hr=>by
    have hr2:=hr.plug hv
    have e:(hp.set k .gone).map (Blk.plug k v)=(hp.map (Blk.plug k v)).set k .gone:=by rw [List.map_set];rfl
    rwa [e] at hr2
  induction h with
  | done hu h=>intro w0 G0 β w ys hr ha;exact ⟨_,_,_,q3w hu ha,hr,hu,h⟩
  | frz k hk hin h ih =>
    intro w0 G0 β w ys hr ha
    obtain ⟨v,hv⟩:=q4q (hp:=[]) ha (q3e hin)
    obtain ⟨A,cap,G',rfl,hle,hn,hm,hF,hr'⟩:=hr.freeze hv hk
    exact ih A cap G' hle hn hm hF (key hv hr') (q39 hv ha)
  | row q k hq hp' hin hk h ih =>
    intro w0 G0 β w ys hr ha
    obtain ⟨y,hy⟩:=q8t ha hp'
    obtain ⟨xb,h1,h2⟩:=hr.blk q y hy
    rw [q0x hq rfl] at h1;cases h1
    obtain ⟨b,cs',rfl,q2,q3,q4,q5⟩:=h2
    obtain ⟨v,hv⟩:=q4q (hp:=[]) q5 (q3e hin)
    obtain ⟨A,cap,G',rfl,hle,hn,hm,hF,hr'⟩:=hr.freeze hv hk
    exact ih A cap G' hle hn hm hF (key hv hr') (q39 hv ha)
  | cel q xs hq hcs hin h ih =>
    intro w0 G0 β w ys hr ha
    obtain ⟨v,hv⟩:=q8t ha hin
    obtain ⟨b,G',hb,hle,hc,hr'⟩:=hr.stand hv hq hcs
    exact ih b G' hle hc hr' (q5y hv hb ha)
theorem x35 {P:Program} {T:Tab} (hT:TOk P T) {f:FuncId} {fn:Func} (hfn:P.funcs[f]? = some fn) {args:List AV} {G:Mem} {R:AV→Mem→Prop}
    (hn:q6x fn=true) (h:q4f P T 1 fn args [.muts fun _=>False] G fun v hp' G1=>(v.under 0=true∧R v G1)∨∃ l,v=.tup l∧FrzB R l hp' G1):q4y P f args G R:=by
  intro w vs hG ha
  refine (z0x hT hfn (args:=args) ha hG (by rw [hn];exact h)).mono ?_
  rintro e w' ⟨y,β',v,hp',G',h1,h2,h3,hK⟩
  rcases hK with ⟨hb,hR⟩ |⟨l,rfl,hF⟩
  · exact ⟨y,v,G',h1,q5d hb h3,h2.below,h2.sub,h2.hold,h2.grow,hb,hR⟩
  · simp only [AV.rel] at h3
    obtain ⟨ys,rfl,h4⟩:=h3
    obtain ⟨l',hp2,G2,g1,g2,g3,g4⟩:=hF.out h2 h4
    exact ⟨_,.tup l',G2,h1,by simp only [AV.rel];exact ⟨ys,rfl,g1⟩,g2.below,g2.sub,g2.hold,g2.grow,by simpa [AV.under] using g3,g4⟩
end Go.Proofs.YtegpkpilfgohhaaGreat
namespace Go.Proofs.YtegpkpilfgohhaaGreat
open Go.RowKit
def rowV (B:Nat→Value) (ps:List (List (Int × Int))):List Value:=q1s (fun i=>[B i,.bool true]) ps.length
theorem q17 (B:Nat→Value) (ps:List (List (Int × Int))) (q:List (Int × Int)) (v:Value):rowV (putV B ps.length v) (ps++[q])=rowV B ps++[v,.bool true]:=by
  unfold rowV
  rw [List.length_append,List.length_singleton,q1s]
  congr 1
  · exact q45 fun i hi=>by rw [q2x (by omega)]
  · rw [q3c]
structure OutM (G0:Mem) (E:TypeId) (S:Nat→Prop) (M:Mem) (ps:List (List (Int × Int))) (B:Nat→Value):Prop where
  le:G0.le M
  rows:∀ k,k<ps.length→RowS S M E 2 (B k) (nthL ps k).length (q0s (nthL ps k))
  apart:∀ k l b,k<ps.length→l<ps.length→k≠l→q0i (B k)=some b→q0i (B l)≠some b
  free:∀ k b,k<ps.length→q0i (B k)=some b→G0 b=none
section
variable {G0:Mem} {E:TypeId} {S S':Nat→Prop} {M M':Mem} {ps:List (List (Int × Int))} {B:Nat→Value} {v:Value} {q:List (Int × Int)}
theorem OutM.nil:OutM G0 E S G0 [] B:=⟨Mem.le_refl _,fun k hk=>(by cases hk),fun k l b hk=>(by cases hk),fun k b hk=>(by cases hk)⟩
theorem OutM.add (h:OutM G0 E S M ps B) (hN:RowN S M v S' M') (hR:RowS S' M' E 2 v q.length (q0s q)):OutM G0 E S' M' (ps++[q]) (putV B ps.length v):=by
  have hne:∀ k,k<ps.length→∀ b,q0i (B k)=some b→q0i v≠some b:=fun k hk b hb e=>by
    obtain ⟨_,o,ho⟩:=(h.rows k hk).blk hb
    rw [hN.fresh b e] at ho;cases ho
  refine ⟨Mem.le_trans h.le hN.le,fun k hk=>?_,fun k l b hk hl hkl hb=>?_,fun k b hk hb=>?_⟩
  · rw [List.length_append,List.length_singleton] at hk
    by_cases e:k=ps.length
    · subst e;rw [q3c,z20];exact hR
    · rw [q2x e,q90 (by omega)]
      exact (h.rows k (by omega)).of hN.more fun b hb=>hN.rest b (hne k (by omega) b hb)
  · rw [List.length_append,List.length_singleton] at hk hl
    by_cases e1:k=ps.length
    · subst e1
      rw [q3c] at hb
      rw [q2x (by omega)]
      exact fun e2=>hne l (by omega) b e2 hb
    · rw [q2x e1] at hb
      by_cases e2:l=ps.length
      · subst e2;rw [q3c];exact hne k (by omega) b hb
      · rw [q2x e2];exact h.apart k l b (by omega) (by omega) hkl hb
  · rw [List.length_append,List.length_singleton] at hk
    by_cases e1:k=ps.length
    · subst e1
      rw [q3c] at hb
      exact Mem.le.none h.le (hN.fresh b hb)
    · rw [q2x e1] at hb;exact h.free k b (by omega) hb
theorem OutM.stand (h:OutM G0 E S M ps B) (hN:RowN S M v S' M'):OutM G0 E S' M' ps B :=
  ⟨Mem.le_trans h.le hN.le,fun k hk=>(h.rows k hk).of hN.more fun b hb=>hN.rest b fun e=>(by
    obtain ⟨_,o,ho⟩:=(h.rows k hk).blk hb
    rw [hN.fresh b e] at ho;cases ho),h.apart,h.free⟩
theorem x7j {k l:Nat} (hk:k<ps.length):nthL (ps.set k q) l=if l=k then q else nthL ps l:=by
  by_cases e:l=k
  · subst e
    rw [if_pos rfl]
    have h1:(ps.set l q)[l]? = some q:=List.getElem?_set_self hk
    rw [q1m (by simpa using hk)] at h1
    exact Option.some.inj h1
  · rw [if_neg e]
    by_cases hl:l<ps.length
    · have h1:(ps.set k q)[l]? = ps[l]?:=List.getElem?_set_ne (fun e2=>e e2.symm)
      rw [q1m hl,q1m (by simpa using hl)] at h1
      exact Option.some.inj h1
    · unfold nthL
      rw [getElem!_def,getElem!_def,List.getElem?_eq_none (by simpa using hl),List.getElem?_eq_none (by omega)]
theorem OutM.mend {k:Nat} (h:OutM G0 E S M ps B) (hk:k<ps.length) (hG:RowG S M (B k) S' M' (B k)) (hR:RowS S' M' E 2 (B k) q.length (q0s q)):OutM G0 E S' M' (ps.set k q) B:=by
  refine ⟨fun b o hb=>hG.old b o (h.le b o hb) fun e=>(by rw [h.free k b hk e] at hb;cases hb),fun l hl=>?_,fun i j b hi hj hij hb=>?_,fun i b hi hb=>?_⟩
  · rw [List.length_set] at hl
    rw [x7j hk]
    by_cases e:l=k
    · rw [if_pos e,e];exact hR
    · rw [if_neg e]
      exact hG.row (h.rows l hl) fun b hb=>h.apart l k b hl hk e hb
  · rw [List.length_set] at hi hj;exact h.apart i j b hi hj hij hb
  · rw [List.length_set] at hi;exact h.free i b hi hb
theorem RowS.pts (h:RowS S M E 2 v q.length (q0s q)):∃ A c,v=.slice A q.length c∧PtsM M A q∧q.length≤c∧c≤maxLen:=by
  obtain ⟨A,c,rfl,h1,h2⟩:=h.isSl
  exact ⟨A,c,rfl,q5p h.flat,h1,h2⟩
def lnV (v:Value) (p:List (Int × Int)):LineD:=match v with
  | .slice A n c=>⟨A,p.length,c,fun j=>(nthP p j).1,fun j=>(nthP p j).2,true⟩
  | _=>⟨none,p.length,0,fun j=>(nthP p j).1,fun j=>(nthP p j).2,true⟩
theorem z3q {A:Option Addr} (h:PtsM M A q):ElsM M A 2 q.length (ptC (fun j=>(nthP q j).1) fun j=>(nthP q j).2):=by
  refine ⟨fun _ _=>rfl,fun x hx=>?_⟩
  obtain ⟨b,off,rfl,h1,h2⟩:=h x _ (q1h hx)
  refine ⟨b,off,rfl,fun j u hj=>?_⟩
  match j,hj with
  | 0,hj=>simp at hj;subst hj;exact h1
  | 1,hj=>simp at hj;subst hj;exact h2
theorem OutM.lines {A:Option Addr} (h:OutM G0 E S M ps B) (hF:FlatM M A (rowV B ps)):LinesM M A ps.length fun k=>lnV (B k) (nthL ps k):=by
  have hv:∀ k,k<ps.length→∃ A c,B k=.slice A (nthL ps k).length c∧PtsM M A (nthL ps k)∧(nthL ps k).length≤c∧c≤maxLen:=fun k hk=>(h.rows k hk).pts
  refine ⟨(hF.els (sz:=2) (fun _ _=>rfl) (by omega)).congr fun k hk=>?_,fun k hk=>?_,fun k hk=>?_⟩
  · obtain ⟨A',c,e,_⟩:=hv k hk
    show _=LineD.cells _
    rw [e];rfl
  · obtain ⟨A',c,e,hp,_⟩:=hv k hk
    show ElsM M (lnV (B k) _).A 2 (lnV (B k) _).n _
    rw [e];exact z3q hp
  · obtain ⟨A',c,e,_,h1,h2⟩:=hv k hk
    show (lnV (B k) _).n≤(lnV (B k) _).q∧_
    rw [e];exact ⟨h1,h2⟩
end
def arP (p:List (Int × Int)):Int:=q5z (fun j=>(nthP p j).1) (fun j=>(nthP p j).2) p.length 0 p.length
theorem x5t (v:Value) (p:List (Int × Int)):q3z (fun _=>lnV v p) 1=arP p:=by
  unfold q3z q3z arP lnV
  cases v <;> rfl
def orP (p:List (Int × Int)):List (Int × Int):=if arP p<0 then p.reverse else p
def q3u (ps:List (List (Int × Int))):Bool:=q1n (fun k=>lnV (.slice none 0 0) (nthL ps k)) ps.length
theorem q93 (B:Nat→Value) (ps:List (List (Int × Int))):q1n (fun k=>lnV (B k) (nthL ps k)) ps.length=q3u ps:=by
  have key:∀ (v:Value) (p:List (Int × Int)),z50 (lnV v p)=z50 (lnV (.slice none 0 0) p):=fun v p=>by cases v <;> rfl
  unfold q3u q1n
  congr 1
  funext k
  exact key _ _
end Go.Proofs.YtegpkpilfgohhaaGreat
