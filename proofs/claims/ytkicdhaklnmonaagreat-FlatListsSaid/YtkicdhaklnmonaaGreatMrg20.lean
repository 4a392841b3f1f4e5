/-
  Merged: XGatM, XMakesF, XMakesX, XMakesM, XFlatPut, XGatP, XCellW.
-/
import Derived.Test.YtkicdhaklnmonaaGreatMrg18
import Derived.Test.YtkicdhaklnmonaaGreatMrg14
import Derived.Test.YtkicdhaklnmonaaGreatEng2
import Derived.Test.YtkicdhaklnmonaaGreatMrg19
import Derived.Test.YtkicdhaklnmonaaGreatMrg17
set_option linter.unusedVariables false
set_option linter.unusedSimpArgs false
set_option linter.unnecessarySimpa false
namespace Go.Proofs.YtkicdhaklnmonaaGreat
open Go.RowKit
theorem z7g:∀ a b:List Int,q1a (a.map (.int .u8)) (b.map (.int .u8))=true↔a=b
  | [],[]=>by simp [q1a]
  | [],_::_=>by simp [q1a]
  | _::_,[]=>by simp [q1a]
  | a::l,b::m=>by
    simp only [List.map_cons,q1a,Bool.and_eq_true,decide_eq_true_eq,z7g l m,List.cons.injEq]
def q5m:Nat→List Pc→List (List Value × Value)
  | _,[]=>[]
  | n,p::t=>(p.1.map (.int .u8),.int .i64 n)::q5m (n+1) t
theorem z6g:∀ (n:Nat) (gs:List Pc) (p:Pc),q5m n (gs++[p])=q5m n gs++[(p.1.map (.int .u8),.int .i64 ((n+gs.length:Nat):Int))]
  | n,[],p=>by simp [q5m]
  | n,q::t,p=>by
    simp only [List.cons_append,q5m,z6g (n+1) t p,List.length_cons]
    rw [show n+1+t.length=n+(t.length+1) by omega]
theorem z23:∀ (n:Nat) (gs:List Pc) (k:Nat) (v:List Int) (L M:List Run),gs[k]? = some (v,L)→q5m n (gs.set k (v,M))=q5m n gs
  | n,[],k,v,L,M,h=>by simp at h
  | n,q::t,0,v,L,M,h=>by
    simp at h;subst h
    simp [q5m]
  | n,q::t,k+1,v,L,M,h=>by
    simp only [List.set_cons_succ,q5m]
    rw [z23 (n+1) t k v L M (by simpa using h)]
theorem q9o:∀ (n:Nat) (gs:List Pc) (v:List Int),atV? (v.map (.int .u8)) (q5m n gs)=if gidx v gs<gs.length then some (.int .i64 ((n+gidx v gs:Nat):Int)) else none
  | n,[],v=>by simp [q5m,atV?,gidx]
  | n,q::t,v=>by
    unfold q5m atV? gidx
    by_cases h:q.1=v
    · rw [if_pos ((z7g _ _).2 h.symm),if_pos h,if_pos (by simp)];simp
    · rw [if_neg (fun h'=>h ((z7g _ _).1 h').symm),if_neg h,q9o (n+1) t v]
      simp only [List.length_cons,Nat.add_lt_add_iff_right]
      rw [show n+1+gidx v t=n+(gidx v t+1) by omega]
def putV (B:Nat→Value) (k:Nat) (v:Value):Nat→Value:=fun x=>if x=k then v else B x
theorem q14 {B:Nat→Value} {k:Nat} {v:Value}:putV B k v k=v:=if_pos rfl
theorem q2d {B:Nat→Value} {k x:Nat} {v:Value} (h:x≠k):putV B k v x=B x:=if_neg h
structure GatM (G0:Mem) (E:TypeId) (bm:Nat) (S:Nat→Prop) (M:Mem) (gs:List Pc) (B:Nat→Value):Prop where
  le:G0.le M
  rows:∀ (k:Nat) (p:Pc),gs[k]? = some p→RowS S M E 3 (B k) p.2.length (q0r p.2)
  apart:∀ k l b,k<gs.length→l<gs.length→k≠l→q0h (B k)=some b→q0h (B l)≠some b
  free:∀ k b,k<gs.length→q0h (B k)=some b→G0 b=none∧b≠bm
  map:MapM .u8 8 M bm (q5m 0 gs)
  mapS:S bm
  mapF:G0 bm=none
section
variable {G0:Mem} {E:TypeId} {bm:Nat} {S S':Nat→Prop} {M M':Mem} {gs:List Pc} {B:Nat→Value} {k:Nat} {v:List Int} {L:List Run} {r:Run}
theorem q7u (L:List Run) (r:Run):q0r (L++[r])=q0r L++[.int .i64 r.y,.int .i64 r.x0,.int .i64 r.x1]:=by rw [q1m,q4d]
theorem GatM.app (h:GatM G0 E bm S M gs B) (hk:gs[k]? = some (v,L)) {x:Value} (hG:RowG S M (B k) S' M' x) (hR:RowS S' M' E 3 x (L.length+1) (q0r (L++[r]))):GatM G0 E bm S' M' (gs.set k (v,L++[r])) (putV B k x):=by
  have hkl:=(List.getElem?_eq_some_iff.1 hk).1
  have hfree:=h.free k
  have hG0:∀ b,q0h x=some b→G0 b=none∧b≠bm:=fun b hb=>by
    by_cases e:q0h (B k)=some b
    · exact h.free k b hkl e
    · have hn:=hG.fresh b hb e
      refine ⟨Mem.le.none h.le hn,fun e2=>?_⟩
      subst e2
      rw [h.map.at_] at hn;cases hn
  have hle:G0.le M':=fun b o hb=>hG.old b o (h.le b o hb) fun e=>by
    have:=(h.free k b hkl e).1
    rw [this] at hb;cases hb
  have hne:∀ l,l<gs.length→l≠k→∀ b,q0h (B l)=some b→q0h (B k)≠some b:=fun l hl hlk b hb=>h.apart l k b hl hkl hlk hb
  have hx:∀ l,l<gs.length→l≠k→∀ b,q0h (B l)=some b→q0h x≠some b:=fun l hl hlk b hb e=>by
    by_cases e2:q0h (B k)=some b
    · exact hne l hl hlk b hb e2
    · have hn:=hG.fresh b e e2
      obtain ⟨p,hp⟩:∃ p,gs[l]? = some p:=⟨_,List.getElem?_eq_getElem hl⟩
      obtain ⟨_,o,ho⟩:=(h.rows l p hp).blk hb
      rw [hn] at ho;cases ho
  refine ⟨hle,fun l p hl=>?_,fun i j b hi hj hij hb=>?_,fun i b hi hb=>?_,?_,hG.more bm h.mapS,h.mapF⟩
  · by_cases e:k=l
    · subst e
      rw [List.getElem?_set_self hkl] at hl;cases hl
      rw [q14]
      simpa using hR
    · rw [List.getElem?_set_ne e] at hl
      have hll:=(List.getElem?_eq_some_iff.1 hl).1
      rw [q2d (fun e2=>e e2.symm)]
      exact hG.row (h.rows l p hl) (hne l hll (fun e2=>e e2.symm))
  · simp only [List.length_set] at hi hj
    by_cases e1:i=k
    · subst e1
      rw [q14] at hb
      rw [q2d (fun e2=>hij e2.symm)]
      exact fun e3=>hx j hj (fun e2=>hij e2.symm) b e3 hb
    · rw [q2d e1] at hb
      by_cases e2:j=k
      · subst e2;rw [q14];exact hx i hi e1 b hb
      · rw [q2d e2];exact h.apart i j b hi hj hij hb
  · simp only [List.length_set] at hi
    by_cases e1:i=k
    · subst e1;rw [q14] at hb;exact hG0 b hb
    · rw [q2d e1] at hb;exact h.free i b hi hb
  · rw [z23 0 gs k v L _ hk]
    refine h.map.of (hG.rest bm (fun e=>?_) (fun e=>?_))
    · exact (h.free k bm hkl e).2 rfl
    · exact (hG0 bm e).2 rfl
theorem GatM.put {b:Nat} (h:GatM G0 E bm S M gs B) (hk:gs[k]? = some (v,L)) (hb:q0h (B k)=some b) (hM:∀ c,c≠b→M' c=M c) {L':List Run} (hR:RowS S M' E 3 (B k) L'.length (q0r L')):GatM G0 E bm S M' (gs.set k (v,L')) B:=by
  have hkl:=(List.getElem?_eq_some_iff.1 hk).1
  obtain ⟨f1,f2⟩:=h.free k b hkl hb
  refine ⟨fun c o hc=>?_,fun l p hl=>?_,fun i j c hi hj=>?_,fun i c hi=>?_,?_,h.mapS,h.mapF⟩
  · rw [hM c (fun e=>by rw [e,f1] at hc;cases hc)];exact h.le c o hc
  · by_cases e:k=l
    · subst e
      rw [List.getElem?_set_self hkl] at hl;cases hl
      exact hR
    · rw [List.getElem?_set_ne e] at hl
      have hll:=(List.getElem?_eq_some_iff.1 hl).1
      exact (h.rows l p hl).of (fun _ h=>h) fun c hc=>hM c fun e2=>by
        subst e2
        exact h.apart l k c hll hkl (fun e3=>e e3.symm) hc hb
  · simp only [List.length_set] at hi hj;exact h.apart i j c hi hj
  · simp only [List.length_set] at hi;exact h.free i c hi
  · rw [z23 0 gs k v L _ hk]
    exact h.map.of (hM bm fun e=>f2 e.symm)
theorem GatM.key (h:GatM G0 E bm S M gs B) (hM:∀ c,c≠bm→M' c=M c) (hm:MapM .u8 8 M' bm (q5m 0 gs++[(v.map (.int .u8),.int .i64 (gs.length:Int))])):GatM G0 E bm S M' (gs++[(v,[])]) (putV B gs.length (.slice none 0 0)):=by
  refine ⟨fun c o hc=>?_,fun l p hl=>?_,fun i j c hi hj hij hb=>?_,fun i c hi hb=>?_,?_,h.mapS,h.mapF⟩
  · rw [hM c (fun e=>by rw [e,h.mapF] at hc;cases hc)];exact h.le c o hc
  · rw [List.getElem?_append] at hl
    split at hl
    · rename_i hll
      rw [q2d (by omega)]
      exact (h.rows l p hl).of (fun _ h=>h) fun c hc=>hM c (h.free l c hll hc).2
    · rename_i hll
      have e:l-gs.length=0:=by have:=(List.getElem?_eq_some_iff.1 hl).1;simp at this;omega
      rw [e] at hl;simp at hl;subst hl
      rw [show l=gs.length by omega,q14]
      exact RowS.nil _ _ _ _
  · simp at hi hj
    by_cases e1:i=gs.length
    · subst e1;rw [q14] at hb;cases hb
    · rw [q2d e1] at hb
      by_cases e2:j=gs.length
      · subst e2;rw [q14];exact fun e=>by cases e
      · rw [q2d e2];exact h.apart i j c (by omega) (by omega) hij hb
  · simp at hi
    by_cases e1:i=gs.length
    · subst e1;rw [q14] at hb;cases hb
    · rw [q2d e1] at hb;exact h.free i c (by omega) hb
  · rw [z6g,Nat.zero_add];exact hm
end
end Go.Proofs.YtkicdhaklnmonaaGreat
namespace Go.Proofs.YtkicdhaklnmonaaGreat
open Go.RowKit
end Go.Proofs.YtkicdhaklnmonaaGreat
namespace Go.Proofs.YtkicdhaklnmonaaGreat
open Go.RowKit
theorem HR.more {w0:World} {G0:Mem} {β:Nm} {hp:List Blk} {G G':Mem} {w:World} (hr:HR w0 G0 β hp G w) (hle:G.le G') (hh:G'.holds w) (hg:∀ b o,G' b=some o→G b=some o∨w0.heap.size≤b)
    (hd:∀ k z x b,β k=some z→hp[k]? = some x→x.live=true→q0h z=some b→G' b=none):HR w0 G0 β hp G' w:=by
  refine ⟨hr.below,hh,Mem.le_trans hr.sub hle,fun b o hb=>?_,fun k z hk=>?_,hr.inj,hr.wrt⟩
  · rcases hg b o hb with h6 |h6
    · exact hr.grow b o h6
    · exact .inr h6
  · obtain ⟨x,hx1,hx2⟩:=hr.blk k z hk
    refine ⟨x,hx1,?_⟩
    have hno:∀ b,x.live=true→q0h z=some b→G' b=none:=fun b hl hb=>hd k z x b hk hx1 hl hb
    cases x with
    | gone=>trivial
    | muts S=>exact hx2.elim
    | cells t l =>
      obtain ⟨b,c,q1,q2,q3,q4,q5⟩:=hx2
      exact ⟨b,c,q1,q2,hno b rfl (by rw [q1];rfl),q4,q5⟩
    | own e' sz' n' xs' =>
      exact ⟨hx2.1,fun b hb=>hno b rfl hb⟩
    | lp i fr st p =>
      obtain ⟨q1,q2,q3,q4⟩:=hx2
      exact ⟨q1,q2,hno i.l rfl (by rw [q1];rfl),q4⟩
    | mp f ks vs =>
      obtain ⟨b,ys,q1,q2,q3,q4⟩:=hx2
      exact ⟨b,ys,q1,q2,hno b rfl (by rw [q1];rfl),q4⟩
def MakesX (P:Program) (f:FuncId) (args:List AV) (G:Mem) (E:TypeId) (sz:Nat) (R:(AV→AV)→Nat→List Value→Mem→Prop):Prop :=
  ∀ (w:World) (vs:Array Value),G.holds w→AV.rels noName args vs.toList→Calls P f vs w fun e w'=>∃ y s wrap n xs G',e=.returned y∧Wraps wrap∧(wrap (.val s)).rel noName y∧w'.ownsRow w.heap.size E sz s n xs∧Below w.heap.size w w' ∧
    G.le G'∧G'.holds w'∧(∀ b o,G' b=some o→G b=some o∨w.heap.size≤b)∧(∀ b,q0h s=some b→G' b=none)∧R wrap n xs G'
theorem x7d {P:Program} {T:Tab} (hT:TOk P T) {f:FuncId} {fn:Func} (hfn:P.funcs[f]? = some fn) {args:List AV} {G:Mem} {E:TypeId} {sz:Nat} {R:(AV→AV)→Nat→List Value→Mem→Prop} (hn:q5s fn=true)
    (h:q32 P T 0 fn args [] G fun v hp' G1=>∃ wrap k n xs,Wraps wrap∧v=wrap (.own k)∧nthB hp' k=.own E sz n xs∧R wrap n xs G1):MakesX P f args G E sz R:=by
  intro w vs hG ha
  refine (q5t hT hfn (hp:=[]) h (.inl hn) w G _ w vs (HR.init hG) ha).mono ?_
  rintro e w' ⟨y,β',v',hp',G',h1,_,h2,h3,wrap,k,n,xs,hw,rfl,hk,hR⟩
  obtain ⟨s,h5,h6⟩:=hw.back h3
  simp only [AV.rel] at h5
  obtain ⟨x,hx1,hx2⟩:=h2.blk k s h5.1
  rw [q0p hk rfl] at hx1;cases hx1
  exact ⟨y,s,wrap,n,xs,G',h1,hw,h6,hx2.1,h2.below,h2.sub,h2.hold,h2.grow,hx2.2,hR⟩
theorem MakesX.call {P:Program} {f:FuncId} {args:List AV} {hp:List Blk} {G:Mem} {E:TypeId} {sz:Nat} {R:(AV→AV)→Nat→List Value→Mem→Prop} (hu:AV.unders 0 args=true) (hc:MakesX P f args G E sz R)
    {w0:World} {G0:Mem} {β:Nm} {w:World} {vs:Array Value} (hr:HR w0 G0 β hp G w) (ha:AV.rels β args vs.toList) :
    Calls P f vs w fun e w'=>∃ y s wrap n xs G',e=.returned y∧Wraps wrap∧(wrap (.val s)).rel noName y∧HR w0 G0 (β.put hp.length s) (hp++[.own E sz n xs]) G' w'∧Nm.le β (β.put hp.length s)∧isSl s=true∧G.le G'∧R wrap n xs G':=by
  refine (hc w vs hr.hold (q2r hu ha)).mono ?_
  rintro e w' ⟨y,s,wrap,n,xs,G',rfl,hwr,h2,h3,h4,hle,hh,hg,hsn,hR⟩
  have hfresh:∀ b,q0h s=some b→w.heap.size≤b:=fun b hb=>by
    rcases h3.2 with ⟨rfl,_⟩ |⟨g,cap,cur,rfl,h5,_⟩
    · simp [q0h] at hb
    · simp [q0h] at hb;omega
  have hrn:HR w0 G0 (β.put hp.length s) (hp++[.own E sz n xs]) G w':=by
    refine hr.name h4 (x:=.own E sz n xs) ⟨?_,fun g hg=>q2k hr.hold (hfresh g hg)⟩ rfl hfresh
    obtain ⟨q1,q2⟩:=h3
    refine ⟨q1,?_⟩
    rcases q2 with q2 |⟨g,cap,cur,q3,q4,q5⟩
    · exact .inl q2
    · exact .inr ⟨g,cap,cur,q3,Nat.le_trans hr.below.size q4,q5⟩
  refine ⟨y,s,wrap,n,xs,G',rfl,hwr,h2,hrn.more hle hh (fun b o hb=>?_) (fun k z x b hk hx hl hb=>?_),Nm.le_put s (hr.fresh (Nat.le_refl _)),?_,hle,hR⟩
  · rcases hg b o hb with h6 |h6
    · exact .inl h6
    · exact .inr (Nat.le_trans hr.below.size h6)
  · by_cases hkn:k=hp.length
    · rw [hkn,Nm.put_same] at hk
      cases hk
      exact hsn b hb
    · rw [Nm.put_ne β s hkn] at hk
      obtain ⟨x',h1,_⟩:=hr.blk k z hk
      have hx':x=x':=by
        rw [List.getElem?_append_left (List.getElem?_eq_some_iff.1 h1).1,h1] at hx
        exact (Option.some.inj hx).symm
      subst hx'
      have hlt:=(hr.lt hk h1 hl hb).2
      have hGn:=hlt
      cases e:G' b with
      | none=>rfl
      | some o =>
        rcases hg b o e with h6 |h6
        · obtain ⟨x',hq1,hq2⟩:=hr.blk k z hk
          rw [h1] at hq1;cases hq1
          have hcon:G b=none:=by
            cases x with
            | gone=>simp [Blk.live] at hl
            | muts S=>exact hq2.elim
            | cells t l=>obtain ⟨b',c,q1,q2,q3,q4,q5⟩:=hq2;subst q1;simp [q0h] at hb;subst hb;exact q3
            | own e' sz' n' xs'=>exact hq2.2 b hb
            | lp i fr st p=>obtain ⟨q1,q2,q3,q4⟩:=hq2;subst q1;simp [q0h] at hb;subst hb;exact q3
            | mp f ks vs=>obtain ⟨b',ys,q1,q2,q3,q4⟩:=hq2;subst q1;simp [q0h] at hb;subst hb;exact q3
          rw [hcon] at h6;cases h6
        · have:=hlt.1;omega
  · exact q16 h3
theorem z14 {P:Program} {f:FuncId} (hen:∀ vs w,(callFunc f vs).run P w=.ok (.enter f vs) w) {args:List AV} {hp:List Blk} {G:Mem} {K:AV→List Blk→Mem→Prop} {E:TypeId} {sz:Nat} {R:(AV→AV)→Nat→List Value→Mem→Prop} (hu:AV.unders 0 args=true)
    (hc:MakesX P f args G E sz R) (h:∀ wrap n xs G' A cap G'',G.le G'→R wrap n xs G'→G'.le G''→n≤cap→cap≤maxLen→FlatM G'' A xs→catF hp [.gone] fun hp'=>K (wrap (.val (.slice A n cap))) hp' G''):CallP P f args hp G K:=by
  refine ⟨hen,fun w0 G0 β w vs hr ha=>(hc.call hu hr ha).mono ?_⟩
  rintro e w' ⟨y,s,wrap,n,xs,G',rfl,hwr,h2,h3,h4,hsl,hle,hR⟩
  obtain ⟨A,cap,G'',rfl,hle2,hnc,hcm,hF,hr2⟩:=h3.freeze (Nm.put_same _ _ _) (E:=E) (sz:=sz) (n:=n) (xs:=xs) (by rw [q2p];simp)
  have h0:=h wrap n xs G' A cap G'' hle hR hle2 hnc hcm hF
  rw [q02] at h0
  have hset:(hp++[Blk.own E sz n xs]).set hp.length .gone=hp++[.gone]:=by simp
  rw [hset] at hr2
  exact ⟨y,_,wrap (.val (.slice A n cap)),_,G'',rfl,h4,hr2,hwr.rel (by simp only [AV.rel]) h2,h0⟩
end Go.Proofs.YtkicdhaklnmonaaGreat
namespace Go.Proofs.YtkicdhaklnmonaaGreat
open Go.RowKit
theorem x42 {P:Program} {T:Tab} (hT:TOk P T) {f:FuncId} {fn:Func} (hfn:P.funcs[f]? = some fn) {args:List AV} {G:Mem} {E:TypeId} {sz:Nat} {R:(AV→AV)→Nat→List Value→Mem→Prop}
    (h:q0o (q5s fn) (q32 P T 1 fn args [.muts fun _=>False] G fun v hp' G1=>∃ wrap k n xs,Wraps wrap∧v=wrap (.own k)∧nthB hp' k=.own E sz n xs∧R wrap n xs G1)):MakesX P f args G E sz R:=by
  intro w vs hG ha
  refine (q6a hT hfn (args:=args) ha hG h).mono ?_
  rintro e w' ⟨y,β',v',hp',G',h1,h2,h3,wrap,k,n,xs,hw,rfl,hk,hR⟩
  obtain ⟨s,h5,h6⟩:=hw.back h3
  simp only [AV.rel] at h5
  obtain ⟨x,hx1,hx2⟩:=h2.blk k s h5.1
  rw [q0p hk rfl] at hx1;cases hx1
  exact ⟨y,s,wrap,n,xs,G',h1,hw,h6,hx2.1,h2.below,h2.sub,h2.hold,h2.grow,hx2.2,hR⟩
end Go.Proofs.YtkicdhaklnmonaaGreat
namespace Go.Proofs.YtkicdhaklnmonaaGreat
open Go.RowKit
theorem x9n {c:Nat→List Value} {sz n x o:Nat} {vs:List Value} (hl:∀ y,y<n→(c y).length=sz) (hx:x<n) (ho:o+vs.length≤sz) :
    (q0q c n).take (x*sz+o)++vs++(q0q c n).drop (x*sz+o+vs.length)=q0q (fun y=>if y=x then (c x).take o++vs++(c x).drop (o+vs.length) else c y) n:=by
  obtain ⟨r,rfl⟩:∃ r,n=x+(1+r):=⟨n-x-1,by omega⟩
  have hP:=q2l (c:=c) (n:=x) (fun y hy=>hl y (by omega))
  have hM:=hl x hx
  have e1:q0q c (x+(1+r))=q0q c x++(c x++q0q (fun y=>c (x+(1+y))) r):=by
    rw [q8f,q8f];simp [q0q]
  have e2:q0q (fun y=>if y=x then (c x).take o++vs++(c x).drop (o+vs.length) else c y) (x+(1+r))=q0q c x++(((c x).take o++vs++(c x).drop (o+vs.length))++q0q (fun y=>c (x+(1+y))) r):=by
    rw [q8f,q8f]
    congr 1
    · exact q3u fun y hy=>if_neg (by omega)
    · congr 1
      · simp [q0q]
      · exact q3u fun y hy=>if_neg (by omega)
  rw [e1,e2]
  have t1:(q0q c x++(c x++q0q (fun y=>c (x+(1+y))) r)).take (x*sz+o)=q0q c x++(c x).take o:=by
    rw [List.take_append,hP,List.take_of_length_le (by omega),show x*sz+o-x*sz=o by omega,List.take_append,show o-(c x).length=0 by omega];simp
  have t2:(q0q c x++(c x++q0q (fun y=>c (x+(1+y))) r)).drop (x*sz+o+vs.length)=(c x).drop (o+vs.length)++q0q (fun y=>c (x+(1+y))) r:=by
    rw [List.drop_append,hP,List.drop_of_length_le (by omega),show x*sz+o+vs.length-x*sz=o+vs.length by omega,List.drop_append,show o+vs.length-(c x).length=0 by omega];simp
  rw [t1,t2]
  simp [List.append_assoc]
theorem q9a {hp:List Blk} {k:Nat} {e:TypeId} {sz n o:Nat} {xs ys vs:List Value} {K:List Blk→Prop} (hle:o+vs.length≤xs.length) (h:xs.take o++vs++xs.drop (o+vs.length)=ys) (hk:setF hp k (.own e sz n ys) K) :
    mustP (o+vs.length≤xs.length) (setF hp k (.own e sz n (xs.take o++vs++xs.drop (o+vs.length))) K):=mustP.mk hle (by rw [h];exact hk)
end Go.Proofs.YtkicdhaklnmonaaGreat
namespace Go.Proofs.YtkicdhaklnmonaaGreat
open Go.RowKit
structure GSt where
  S:Nat→Prop
  B:Nat→Value
  M:Mem
def keyI (gs:List Pc) (k j:Nat):Int:=(((gs[k]?).map Prod.fst).getD []).getD j 0
theorem x9o {gs:List Pc} {k:Nat} {I:Nat→Int} {L:List Run} (h:gs[k]? = some (vecI I,L)):inkC (keyI gs k)=inkC I:=by simp [inkC,keyI,h,vecI]
theorem q7v {gs:List Pc} {k:Nat} {v:List Int} {L M:List Run} (h:gs[k]? = some (v,L)):keyI (gs.set k (v,M))=keyI gs:=by
  funext x j
  unfold keyI
  by_cases e:k=x
  · subst e
    rw [List.getElem?_set_self (List.getElem?_eq_some_iff.1 h).1,h];rfl
  · rw [List.getElem?_set_ne e]
theorem x9p {gs:List Pc} {p:Pc} {x:Nat} (h:x<gs.length):keyI (gs++[p]) x=keyI gs x:=by
  funext j
  unfold keyI
  rw [List.getElem?_append_left h]
theorem x9q {gs:List Pc} {p:Pc} {I:Nat→Int} (h:p.1=vecI I):inkC (keyI (gs++[p]) gs.length)=inkC I :=
  x9o (L:=p.2) (by rw [List.getElem?_concat_length,← h])
theorem x1k {gs:List Pc} {p:Pc} {I:Nat→Int} (h:p.1=vecI I):q0q (fun k=>inkC (keyI gs k)) gs.length++inkC I=q0q (fun k=>inkC (keyI (gs++[p]) k)) (gs.length+1):=by
  rw [q0q,x9q h]
  congr 1
  exact q3u fun x hx=>by rw [x9p hx]
theorem q3m {B:Nat→Value} {k m:Nat} {x:Value} (h:k<m):k*1+0+[x].length≤(q0q (fun j=>[B j]) m).length∧(q0q (fun j=>[B j]) m).take (k*1+0)++[x]++(q0q (fun j=>[B j]) m).drop (k*1+0+[x].length)=q0q (fun j=>[putV B k x j]) m:=by
  refine ⟨by rw [q2l (sz:=1) (fun _ _=>rfl)];simp;omega,?_⟩
  rw [x9n (sz:=1) (fun _ _=>rfl) h (by simp)]
  refine q3u fun y hy=>?_
  unfold putV
  split <;> simp
theorem z00 {B:Nat→Value} {k m:Nat} (h:k<m):(q0q (fun j=>[B j]) m)[k*1+0]? = some (B k):=by
  rw [q41 (sz:=1) (fun _ _=>rfl) h (by omega)];rfl
theorem z84 {B:Nat→Value} {m:Nat} {x:Value}:q0q (fun j=>[B j]) m++[x]=q0q (fun j=>[putV B m x j]) (m+1):=by
  rw [q0q,q14]
  congr 1
  exact q3u fun y hy=>by rw [q2d (by omega)]
theorem RowS.last {S:Nat→Prop} {M:Mem} {E:TypeId} {b:Value} {K:List Run} {r:Run} (h:RowS S M E 3 b (K++[r]).length (q0r (K++[r]))):∃ g c,b=.slice (some ⟨g,0,none⟩) (K.length+1) c∧K.length+1≤c∧c≤maxLen∧S g ∧
    M.cell? (Addr.add (Addr.add ⟨g,0,none⟩ (K.length*3)) 0)=some (.int .i64 r.y)∧M.cell? (Addr.add (Addr.add ⟨g,0,none⟩ (K.length*3)) 2)=some (.int .i64 r.x1):=by
  rcases h.2 with ⟨_,h0⟩ |⟨g,cap,cur,rfl,h1,h2,h3,h4,h5,h6⟩
  · simp at h0
  obtain ⟨q0,q1,q2⟩:=q24 (L:=K++[r]) (i:=K.length) (r:=r) (by simp)
  refine ⟨g,cap,by simp,by simpa using h3,h4,h1,?_,?_⟩
  · have:=h.cell (o:=0) q0
    simpa [q0m] using this
  · have:=h.cell (o:=0) q2
    simpa [q0m] using this
theorem z85 {K:List Run} {r:Run} {z:Int}:(q0r (K++[r])).take (K.length*3+2)++[.int .i64 z]++(q0r (K++[r])).drop (K.length*3+2+1)=q0r (K++[⟨r.y,r.x0,z⟩]):=by
  have hl:=q1h K
  rw [q1m,q1m,q4d,q4d]
  rw [List.take_append,List.drop_append,hl]
  rw [List.take_of_length_le (by omega),List.drop_of_length_le (by omega)]
  have e1:K.length*3+2-K.length*3=2:=by omega
  have e2:K.length*3+2+1-K.length*3=3:=by omega
  rw [e1,e2];simp
def slA (v:Value):Option Addr:=match v with | .slice A _ _=>A |_=>none
def slQ (v:Value):Nat:=match v with | .slice _ _ c=>c |_=>0
def gatP (gs:List Pc) (B:Nat→Value) (k:Nat):PcD:=⟨((gs[k]?).map Prod.snd).getD [],slA (B k),slQ (B k),keyI gs k⟩
theorem GatM.piece {G0:Mem} {E:TypeId} {bm:Nat} {S:Nat→Prop} {M:Mem} {gs:List Pc} {B:Nat→Value} (h:GatM G0 E bm S M gs B) {k:Nat} {p:Pc} (hk:gs[k]? = some p):(gatP gs B k).L=p.2∧B k=.slice (gatP gs B k).A (gatP gs B k).L.length (gatP gs B k).q∧(gatP gs B k).L.length≤(gatP gs B k).q∧(gatP gs B k).q≤maxLen∧RunsM M (gatP gs B k).A (gatP gs B k).L:=by
  have hL:(gatP gs B k).L=p.2:=by simp [gatP,hk]
  have hr:=h.rows k p hk
  obtain ⟨A,c,e,h1,h2⟩:=hr.isSl
  have eA:(gatP gs B k).A=A:=by simp [gatP,e,slA]
  have eq:(gatP gs B k).q=c:=by simp [gatP,e,slQ]
  rw [hL,eA,eq]
  refine ⟨rfl,e,h1,h2,?_⟩
  rw [e] at hr
  have hF:=hr.flat
  intro i r hi
  obtain ⟨q0,q1,q2⟩:=q24 hi
  rcases hF with ⟨_,h0⟩ |⟨b,off,rfl,h3⟩
  · rw [h0] at q0;simp at q0
  · exact ⟨b,off,rfl,by simpa using h3 _ _ q0,by simpa [Nat.add_assoc] using h3 _ _ q1,by simpa [Nat.add_assoc] using h3 _ _ q2⟩
end Go.Proofs.YtkicdhaklnmonaaGreat
namespace Go.Proofs.YtkicdhaklnmonaaGreat
open Go.RowKit
set_option maxRecDepth 20000
end Go.Proofs.YtkicdhaklnmonaaGreat
