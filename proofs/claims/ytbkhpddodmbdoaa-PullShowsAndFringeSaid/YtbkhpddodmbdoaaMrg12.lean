/-
  Merged: XMakesF, XMakesX, XMakesM, XFlatPut, XGatP, XRowsM, XEdges, XOr.
-/
import Derived.Test.YtbkhpddodmbdoaaMrg6
import Derived.Test.YtbkhpddodmbdoaaMrg7
import Derived.Test.YtbkhpddodmbdoaaEng2
import Derived.Test.YtbkhpddodmbdoaaMrg11
import Derived.Test.YtbkhpddodmbdoaaMrg10
import Derived.Test.YtbkhpddodmbdoaaMrg8
set_option linter.unusedVariables false
set_option linter.unusedSimpArgs false
set_option linter.unnecessarySimpa false
namespace Go.Proofs.Ytbkhpddodmbdoaa
open Go.RowKit
end Go.Proofs.Ytbkhpddodmbdoaa
namespace Go.Proofs.Ytbkhpddodmbdoaa
open Go.RowKit
theorem HR.more {w0:World} {G0:Mem} {β:Nm} {hp:List Blk} {G G':Mem} {w:World} (hr:HR w0 G0 β hp G w) (hle:G.le G') (hh:G'.holds w) (hg:∀ b o,G' b=some o→G b=some o∨w0.heap.size≤b)
    (hd:∀ k z x b,β k=some z→hp[k]? = some x→x.live=true→q0j z=some b→G' b=none):HR w0 G0 β hp G' w:=by
  refine ⟨hr.below,hh,Mem.le_trans hr.sub hle,fun b o hb=>?_,fun k z hk=>?_,hr.inj,hr.wrt⟩
  · rcases hg b o hb with h6 |h6
    · exact hr.grow b o h6
    · exact .inr h6
  · obtain ⟨x,hx1,hx2⟩:=hr.blk k z hk
    refine ⟨x,hx1,?_⟩
    have hno:∀ b,x.live=true→q0j z=some b→G' b=none:=fun b hl hb=>hd k z x b hk hx1 hl hb
    cases x with
    | gone=>trivial
    | muts S=>exact hx2.elim
    | cells t l =>
      obtain ⟨b,c,q1,q2,q3,q4,q5⟩:=hx2
      exact ⟨b,c,q1,q2,hno b rfl (by rw [q1];rfl),q4,q5⟩
    | own e' sz' n' xs' =>
      exact ⟨hx2.1,fun b hb=>hno b rfl hb⟩
    | lp i fr st p =>
      obtain ⟨q1,q2,q3,q4⟩:=hx2
      exact ⟨q1,q2,hno i.l rfl (by rw [q1];rfl),q4⟩
    | mp f ks vs =>
      obtain ⟨b,ys,q1,q2,q3,q4⟩:=hx2
      exact ⟨b,ys,q1,q2,hno b rfl (by rw [q1];rfl),q4⟩
def MakesX (P:Program) (f:FuncId) (args:List AV) (G:Mem) (E:TypeId) (sz:Nat) (R:(AV→AV)→Nat→List Value→Mem→Prop):Prop :=
  ∀ (w:World) (vs:Array Value),G.holds w→AV.rels noName args vs.toList→Calls P f vs w fun e w'=>∃ y s wrap n xs G',e=.returned y∧Wraps wrap∧(wrap (.val s)).rel noName y∧w'.ownsRow w.heap.size E sz s n xs∧Below w.heap.size w w' ∧
    G.le G'∧G'.holds w'∧(∀ b o,G' b=some o→G b=some o∨w.heap.size≤b)∧(∀ b,q0j s=some b→G' b=none)∧R wrap n xs G'
theorem MakesX.call {P:Program} {f:FuncId} {args:List AV} {hp:List Blk} {G:Mem} {E:TypeId} {sz:Nat} {R:(AV→AV)→Nat→List Value→Mem→Prop} (hu:AV.unders 0 args=true) (hc:MakesX P f args G E sz R)
    {w0:World} {G0:Mem} {β:Nm} {w:World} {vs:Array Value} (hr:HR w0 G0 β hp G w) (ha:AV.rels β args vs.toList) :
    Calls P f vs w fun e w'=>∃ y s wrap n xs G',e=.returned y∧Wraps wrap∧(wrap (.val s)).rel noName y∧HR w0 G0 (β.put hp.length s) (hp++[.own E sz n xs]) G' w'∧Nm.le β (β.put hp.length s)∧isSl s=true∧G.le G'∧R wrap n xs G':=by
  refine (hc w vs hr.hold (q31 hu ha)).mono ?_
  rintro e w' ⟨y,s,wrap,n,xs,G',rfl,hwr,h2,h3,h4,hle,hh,hg,hsn,hR⟩
  have hfresh:∀ b,q0j s=some b→w.heap.size≤b:=fun b hb=>by
    rcases h3.2 with ⟨rfl,_⟩ |⟨g,cap,cur,rfl,h5,_⟩
    · simp [q0j] at hb
    · simp [q0j] at hb;omega
  have hrn:HR w0 G0 (β.put hp.length s) (hp++[.own E sz n xs]) G w':=by
    refine hr.name h4 (x:=.own E sz n xs) ⟨?_,fun g hg=>q3r hr.hold (hfresh g hg)⟩ rfl hfresh
    obtain ⟨q1,q2⟩:=h3
    refine ⟨q1,?_⟩
    rcases q2 with q2 |⟨g,cap,cur,q3,q4,q5⟩
    · exact .inl q2
    · exact .inr ⟨g,cap,cur,q3,Nat.le_trans hr.below.size q4,q5⟩
  refine ⟨y,s,wrap,n,xs,G',rfl,hwr,h2,hrn.more hle hh (fun b o hb=>?_) (fun k z x b hk hx hl hb=>?_),Nm.le_put s (hr.fresh (Nat.le_refl _)),?_,hle,hR⟩
  · rcases hg b o hb with h6 |h6
    · exact .inl h6
    · exact .inr (Nat.le_trans hr.below.size h6)
  · by_cases hkn:k=hp.length
    · rw [hkn,Nm.put_same] at hk
      cases hk
      exact hsn b hb
    · rw [Nm.put_ne β s hkn] at hk
      obtain ⟨x',h1,_⟩:=hr.blk k z hk
      have hx':x=x':=by
        rw [List.getElem?_append_left (List.getElem?_eq_some_iff.1 h1).1,h1] at hx
        exact (Option.some.inj hx).symm
      subst hx'
      have hlt:=(hr.lt hk h1 hl hb).2
      have hGn:=hlt
      cases e:G' b with
      | none=>rfl
      | some o =>
        rcases hg b o e with h6 |h6
        · obtain ⟨x',hq1,hq2⟩:=hr.blk k z hk
          rw [h1] at hq1;cases hq1
          have hcon:G b=none:=by
            cases x with
            | gone=>simp [Blk.live] at hl
            | muts S=>exact hq2.elim
            | cells t l=>obtain ⟨b',c,q1,q2,q3,q4,q5⟩:=hq2;subst q1;simp [q0j] at hb;subst hb;exact q3
            | own e' sz' n' xs'=>exact hq2.2 b hb
            | lp i fr st p=>obtain ⟨q1,q2,q3,q4⟩:=hq2;subst q1;simp [q0j] at hb;subst hb;exact q3
            | mp f ks vs=>obtain ⟨b',ys,q1,q2,q3,q4⟩:=hq2;subst q1;simp [q0j] at hb;subst hb;exact q3
          rw [hcon] at h6;cases h6
        · have:=hlt.1;omega
  · exact q2g h3
theorem z71 {P:Program} {f:FuncId} (hen:∀ vs w,(callFunc f vs).run P w=.ok (.enter f vs) w) {args:List AV} {hp:List Blk} {G:Mem} {K:AV→List Blk→Mem→Prop} {E:TypeId} {sz:Nat} {R:(AV→AV)→Nat→List Value→Mem→Prop} (hu:AV.unders 0 args=true)
    (hc:MakesX P f args G E sz R) (h:∀ wrap n xs G',G.le G'→R wrap n xs G'→lenF hp fun m=>catF hp [.own E sz n xs] fun hp'=>K (wrap (.own m)) hp' G'):CallP P f args hp G K:=by
  refine ⟨hen,fun w0 G0 β w vs hr ha=>(hc.call hu hr ha).mono ?_⟩
  rintro e w' ⟨y,s,wrap,n,xs,G',rfl,hwr,h2,h3,h4,hsl,hle,hR⟩
  have h0:=q1i (h wrap n xs G' hle hR)
  rw [q03] at h0
  exact ⟨y,_,wrap (.own hp.length),_,G',rfl,h4,h3,hwr.rel (by simp only [AV.rel];exact ⟨Nm.put_same _ _ _,hsl⟩) h2,h0⟩
theorem z6h {P:Program} {f:FuncId} (hen:∀ vs w,(callFunc f vs).run P w=.ok (.enter f vs) w) {args:List AV} {hp:List Blk} {G:Mem} {K:AV→List Blk→Mem→Prop} {E:TypeId} {sz:Nat} {R:(AV→AV)→Nat→List Value→Mem→Prop} (hu:AV.unders 0 args=true)
    (hc:MakesX P f args G E sz R) (h:∀ wrap n xs G' A cap G'',G.le G'→R wrap n xs G'→G'.le G''→n≤cap→cap≤maxLen→FlatM G'' A xs→catF hp [.gone] fun hp'=>K (wrap (.val (.slice A n cap))) hp' G''):CallP P f args hp G K:=by
  refine ⟨hen,fun w0 G0 β w vs hr ha=>(hc.call hu hr ha).mono ?_⟩
  rintro e w' ⟨y,s,wrap,n,xs,G',rfl,hwr,h2,h3,h4,hsl,hle,hR⟩
  obtain ⟨A,cap,G'',rfl,hle2,hnc,hcm,hF,hr2⟩:=h3.freeze (Nm.put_same _ _ _) (E:=E) (sz:=sz) (n:=n) (xs:=xs) (by rw [q27];simp)
  have h0:=h wrap n xs G' A cap G'' hle hR hle2 hnc hcm hF
  rw [q03] at h0
  have hset:(hp++[Blk.own E sz n xs]).set hp.length .gone=hp++[.gone]:=by simp
  rw [hset] at hr2
  exact ⟨y,_,wrap (.val (.slice A n cap)),_,G'',rfl,h4,hr2,hwr.rel (by simp only [AV.rel]) h2,h0⟩
end Go.Proofs.Ytbkhpddodmbdoaa
namespace Go.Proofs.Ytbkhpddodmbdoaa
open Go.RowKit
theorem z35 {P:Program} {T:Tab} (hT:TOk P T) {f:FuncId} {fn:Func} (hfn:P.funcs[f]? = some fn) {args:List AV} {G:Mem} {E:TypeId} {sz:Nat} {R:(AV→AV)→Nat→List Value→Mem→Prop}
    (h:q0s (q8d fn) (q5n P T 1 fn args [.muts fun _=>False] G fun v hp' G1=>∃ wrap k n xs,Wraps wrap∧v=wrap (.own k)∧nthB hp' k=.own E sz n xs∧R wrap n xs G1)):MakesX P f args G E sz R:=by
  intro w vs hG ha
  refine (q6u hT hfn (args:=args) ha hG h).mono ?_
  rintro e w' ⟨y,β',v',hp',G',h1,h2,h3,wrap,k,n,xs,hw,rfl,hk,hR⟩
  obtain ⟨s,h5,h6⟩:=hw.back h3
  simp only [AV.rel] at h5
  obtain ⟨x,hx1,hx2⟩:=h2.blk k s h5.1
  rw [q0z hk rfl] at hx1;cases hx1
  exact ⟨y,s,wrap,n,xs,G',h1,hw,h6,hx2.1,h2.below,h2.sub,h2.hold,h2.grow,hx2.2,hR⟩
end Go.Proofs.Ytbkhpddodmbdoaa
namespace Go.Proofs.Ytbkhpddodmbdoaa
open Go.RowKit
theorem q8j {c:Nat→List Value} {sz n x o:Nat} {vs:List Value} (hl:∀ y,y<n→(c y).length=sz) (hx:x<n) (ho:o+vs.length≤sz) :
    (q0p c n).take (x*sz+o)++vs++(q0p c n).drop (x*sz+o+vs.length)=q0p (fun y=>if y=x then (c x).take o++vs++(c x).drop (o+vs.length) else c y) n:=by
  obtain ⟨r,rfl⟩:∃ r,n=x+(1+r):=⟨n-x-1,by omega⟩
  have hP:=q2b (c:=c) (n:=x) (fun y hy=>hl y (by omega))
  have hM:=hl x hx
  have e1:q0p c (x+(1+r))=q0p c x++(c x++q0p (fun y=>c (x+(1+y))) r):=by
    rw [q7g,q7g];simp [q0p]
  have e2:q0p (fun y=>if y=x then (c x).take o++vs++(c x).drop (o+vs.length) else c y) (x+(1+r))=q0p c x++(((c x).take o++vs++(c x).drop (o+vs.length))++q0p (fun y=>c (x+(1+y))) r):=by
    rw [q7g,q7g]
    congr 1
    · exact q2d fun y hy=>if_neg (by omega)
    · congr 1
      · simp [q0p]
      · exact q2d fun y hy=>if_neg (by omega)
  rw [e1,e2]
  have t1:(q0p c x++(c x++q0p (fun y=>c (x+(1+y))) r)).take (x*sz+o)=q0p c x++(c x).take o:=by
    rw [List.take_append,hP,List.take_of_length_le (by omega),show x*sz+o-x*sz=o by omega,List.take_append,show o-(c x).length=0 by omega];simp
  have t2:(q0p c x++(c x++q0p (fun y=>c (x+(1+y))) r)).drop (x*sz+o+vs.length)=(c x).drop (o+vs.length)++q0p (fun y=>c (x+(1+y))) r:=by
    rw [List.drop_append,hP,List.drop_of_length_le (by omega),show x*sz+o+vs.length-x*sz=o+vs.length by omega,List.drop_append,show o+vs.length-(c x).length=0 by omega];simp
  rw [t1,t2]
  simp [List.append_assoc]
theorem q46 {hp:List Blk} {k:Nat} {e:TypeId} {sz n o:Nat} {xs ys vs:List Value} {K:List Blk→Prop} (hle:o+vs.length≤xs.length) (h:xs.take o++vs++xs.drop (o+vs.length)=ys) (hk:setF hp k (.own e sz n ys) K) :
    mustP (o+vs.length≤xs.length) (setF hp k (.own e sz n (xs.take o++vs++xs.drop (o+vs.length))) K):=mustP.mk hle (by rw [h];exact hk)
end Go.Proofs.Ytbkhpddodmbdoaa
namespace Go.Proofs.Ytbkhpddodmbdoaa
open Go.RowKit
structure GSt where
  S:Nat→Prop
  B:Nat→Value
  M:Mem
def keyI (gs:List Pc) (k j:Nat):Int:=(((gs[k]?).map Prod.fst).getD []).getD j 0
theorem x3s {gs:List Pc} {k:Nat} {I:Nat→Int} {L:List Run} (h:gs[k]? = some (vecI I,L)):inkC (keyI gs k)=inkC I:=by simp [inkC,keyI,h,vecI]
theorem q6v {gs:List Pc} {k:Nat} {v:List Int} {L M:List Run} (h:gs[k]? = some (v,L)):keyI (gs.set k (v,M))=keyI gs:=by
  funext x j
  unfold keyI
  by_cases e:k=x
  · subst e
    rw [List.getElem?_set_self (List.getElem?_eq_some_iff.1 h).1,h];rfl
  · rw [List.getElem?_set_ne e]
theorem x3t {gs:List Pc} {p:Pc} {x:Nat} (h:x<gs.length):keyI (gs++[p]) x=keyI gs x:=by
  funext j
  unfold keyI
  rw [List.getElem?_append_left h]
theorem x3u {gs:List Pc} {p:Pc} {I:Nat→Int} (h:p.1=vecI I):inkC (keyI (gs++[p]) gs.length)=inkC I :=
  x3s (L:=p.2) (by rw [List.getElem?_concat_length,← h])
theorem z72 {gs:List Pc} {p:Pc} {I:Nat→Int} (h:p.1=vecI I):q0p (fun k=>inkC (keyI gs k)) gs.length++inkC I=q0p (fun k=>inkC (keyI (gs++[p]) k)) (gs.length+1):=by
  rw [q0p,x3u h]
  congr 1
  exact q2d fun x hx=>by rw [x3t hx]
theorem q3h {B:Nat→Value} {k m:Nat} {x:Value} (h:k<m):k*1+0+[x].length≤(q0p (fun j=>[B j]) m).length∧(q0p (fun j=>[B j]) m).take (k*1+0)++[x]++(q0p (fun j=>[B j]) m).drop (k*1+0+[x].length)=q0p (fun j=>[putV B k x j]) m:=by
  refine ⟨by rw [q2b (sz:=1) (fun _ _=>rfl)];simp;omega,?_⟩
  rw [q8j (sz:=1) (fun _ _=>rfl) h (by simp)]
  refine q2d fun y hy=>?_
  unfold putV
  split <;> simp
theorem q9k {B:Nat→Value} {k m:Nat} (h:k<m):(q0p (fun j=>[B j]) m)[k*1+0]? = some (B k):=by
  rw [q5f (sz:=1) (fun _ _=>rfl) h (by omega)];rfl
theorem z5v {B:Nat→Value} {m:Nat} {x:Value}:q0p (fun j=>[B j]) m++[x]=q0p (fun j=>[putV B m x j]) (m+1):=by
  rw [q0p,q1x]
  congr 1
  exact q2d fun y hy=>by rw [q18 (by omega)]
theorem RowS.last {S:Nat→Prop} {M:Mem} {E:TypeId} {b:Value} {K:List Run} {r:Run} (h:RowS S M E 3 b (K++[r]).length (q0o (K++[r]))):∃ g c,b=.slice (some ⟨g,0,none⟩) (K.length+1) c∧K.length+1≤c∧c≤maxLen∧S g ∧
    M.cell? (Addr.add (Addr.add ⟨g,0,none⟩ (K.length*3)) 0)=some (.int .i64 r.y)∧M.cell? (Addr.add (Addr.add ⟨g,0,none⟩ (K.length*3)) 2)=some (.int .i64 r.x1):=by
  rcases h.2 with ⟨_,h0⟩ |⟨g,cap,cur,rfl,h1,h2,h3,h4,h5,h6⟩
  · simp at h0
  obtain ⟨q0,q1,q2⟩:=q3q (L:=K++[r]) (i:=K.length) (r:=r) (by simp)
  refine ⟨g,cap,by simp,by simpa using h3,h4,h1,?_,?_⟩
  · have:=h.cell (o:=0) q0
    simpa [q0t] using this
  · have:=h.cell (o:=0) q2
    simpa [q0t] using this
theorem z5w {K:List Run} {r:Run} {z:Int}:(q0o (K++[r])).take (K.length*3+2)++[.int .i64 z]++(q0o (K++[r])).drop (K.length*3+2+1)=q0o (K++[⟨r.y,r.x0,z⟩]):=by
  have hl:=q1c K
  rw [q0x,q0x,q3p,q3p]
  rw [List.take_append,List.drop_append,hl]
  rw [List.take_of_length_le (by omega),List.drop_of_length_le (by omega)]
  have e1:K.length*3+2-K.length*3=2:=by omega
  have e2:K.length*3+2+1-K.length*3=3:=by omega
  rw [e1,e2];simp
def slA (v:Value):Option Addr:=match v with | .slice A _ _=>A |_=>none
def slQ (v:Value):Nat:=match v with | .slice _ _ c=>c |_=>0
def gatP (gs:List Pc) (B:Nat→Value) (k:Nat):PcD:=⟨((gs[k]?).map Prod.snd).getD [],slA (B k),slQ (B k),keyI gs k⟩
theorem GatM.piece {G0:Mem} {E:TypeId} {bm:Nat} {S:Nat→Prop} {M:Mem} {gs:List Pc} {B:Nat→Value} (h:GatM G0 E bm S M gs B) {k:Nat} {p:Pc} (hk:gs[k]? = some p):(gatP gs B k).L=p.2∧B k=.slice (gatP gs B k).A (gatP gs B k).L.length (gatP gs B k).q∧(gatP gs B k).L.length≤(gatP gs B k).q∧(gatP gs B k).q≤maxLen∧RunsM M (gatP gs B k).A (gatP gs B k).L:=by
  have hL:(gatP gs B k).L=p.2:=by simp [gatP,hk]
  have hr:=h.rows k p hk
  obtain ⟨A,c,e,h1,h2⟩:=hr.isSl
  have eA:(gatP gs B k).A=A:=by simp [gatP,e,slA]
  have eq:(gatP gs B k).q=c:=by simp [gatP,e,slQ]
  rw [hL,eA,eq]
  refine ⟨rfl,e,h1,h2,?_⟩
  rw [e] at hr
  have hF:=hr.flat
  intro i r hi
  obtain ⟨q0,q1,q2⟩:=q3q hi
  rcases hF with ⟨_,h0⟩ |⟨b,off,rfl,h3⟩
  · rw [h0] at q0;simp at q0
  · exact ⟨b,off,rfl,by simpa using h3 _ _ q0,by simpa [Nat.add_assoc] using h3 _ _ q1,by simpa [Nat.add_assoc] using h3 _ _ q2⟩
end Go.Proofs.Ytbkhpddodmbdoaa
namespace Go.Proofs.Ytbkhpddodmbdoaa
open Go.RowKit
structure PRowsM (G0:Mem) (E:TypeId) (S:Nat→Prop) (M:Mem) (gs:List Pc) (B:Nat→Value):Prop where
  le:G0.le M
  rows:∀ (k:Nat) (p:Pc),gs[k]? = some p→RowS S M E 3 (B k) p.2.length (q0o p.2)
  apart:∀ k l b,k<gs.length→l<gs.length→k≠l→q0j (B k)=some b→q0j (B l)≠some b
  free:∀ k b,k<gs.length→q0j (B k)=some b→G0 b=none
section
variable {G0:Mem} {E:TypeId} {S S':Nat→Prop} {M M':Mem} {gs:List Pc} {B:Nat→Value} {k:Nat} {v:List Int} {L:List Run} {r:Run}
theorem PRowsM.app (h:PRowsM G0 E S M gs B) (hk:gs[k]? = some (v,L)) {x:Value} (hG:RowG S M (B k) S' M' x) (hR:RowS S' M' E 3 x (L.length+1) (q0o (L++[r]))):PRowsM G0 E S' M' (gs.set k (v,L++[r])) (putV B k x):=by
  have hkl:=(List.getElem?_eq_some_iff.1 hk).1
  have hG0:∀ b,q0j x=some b→G0 b=none:=fun b hb=>by
    by_cases e:q0j (B k)=some b
    · exact h.free k b hkl e
    · exact Mem.le.none h.le (hG.fresh b hb e)
  have hle:G0.le M':=fun b o hb=>hG.old b o (h.le b o hb) fun e=>by
    have:=h.free k b hkl e
    rw [this] at hb;cases hb
  have hne:∀ l,l<gs.length→l≠k→∀ b,q0j (B l)=some b→q0j (B k)≠some b:=fun l hl hlk b hb=>h.apart l k b hl hkl hlk hb
  have hx:∀ l,l<gs.length→l≠k→∀ b,q0j (B l)=some b→q0j x≠some b:=fun l hl hlk b hb e=>by
    by_cases e2:q0j (B k)=some b
    · exact hne l hl hlk b hb e2
    · have hn:=hG.fresh b e e2
      obtain ⟨p,hp⟩:∃ p,gs[l]? = some p:=⟨_,List.getElem?_eq_getElem hl⟩
      obtain ⟨_,o,ho⟩:=(h.rows l p hp).blk hb
      rw [hn] at ho;cases ho
  refine ⟨hle,fun l p hl=>?_,fun i j b hi hj hij hb=>?_,fun i b hi hb=>?_⟩
  · by_cases e:k=l
    · subst e
      rw [List.getElem?_set_self hkl] at hl;cases hl
      rw [q1x]
      simpa using hR
    · rw [List.getElem?_set_ne e] at hl
      have hll:=(List.getElem?_eq_some_iff.1 hl).1
      rw [q18 (fun e2=>e e2.symm)]
      exact hG.row (h.rows l p hl) (hne l hll (fun e2=>e e2.symm))
  · simp only [List.length_set] at hi hj
    by_cases e1:i=k
    · subst e1
      rw [q1x] at hb
      rw [q18 (fun e2=>hij e2.symm)]
      exact fun e3=>hx j hj (fun e2=>hij e2.symm) b e3 hb
    · rw [q18 e1] at hb
      by_cases e2:j=k
      · subst e2;rw [q1x];exact hx i hi e1 b hb
      · rw [q18 e2];exact h.apart i j b hi hj hij hb
  · simp only [List.length_set] at hi
    by_cases e1:i=k
    · subst e1;rw [q1x] at hb;exact hG0 b hb
    · rw [q18 e1] at hb;exact h.free i b hi hb
theorem PRowsM.put {b:Nat} (h:PRowsM G0 E S M gs B) (hk:gs[k]? = some (v,L)) (hb:q0j (B k)=some b) (hM:∀ c,c≠b→M' c=M c) {L':List Run} (hR:RowS S M' E 3 (B k) L'.length (q0o L')):PRowsM G0 E S M' (gs.set k (v,L')) B:=by
  have hkl:=(List.getElem?_eq_some_iff.1 hk).1
  have f1:=h.free k b hkl hb
  refine ⟨fun c o hc=>?_,fun l p hl=>?_,fun i j c hi hj=>?_,fun i c hi=>?_⟩
  · rw [hM c (fun e=>by rw [e,f1] at hc;cases hc)];exact h.le c o hc
  · by_cases e:k=l
    · subst e
      rw [List.getElem?_set_self hkl] at hl;cases hl
      exact hR
    · rw [List.getElem?_set_ne e] at hl
      have hll:=(List.getElem?_eq_some_iff.1 hl).1
      exact (h.rows l p hl).of (fun _ h=>h) fun c hc=>hM c fun e2=>by
        subst e2
        exact h.apart l k c hll hkl (fun e3=>e e3.symm) hc hb
  · simp only [List.length_set] at hi hj;exact h.apart i j c hi hj
  · simp only [List.length_set] at hi;exact h.free i c hi
theorem PRowsM.key (h:PRowsM G0 E S M gs B):PRowsM G0 E S M (gs++[(v,[])]) (putV B gs.length (.slice none 0 0)):=by
  refine ⟨h.le,fun l p hl=>?_,fun i j c hi hj hij hb=>?_,fun i c hi hb=>?_⟩
  · rw [List.getElem?_append] at hl
    split at hl
    · rename_i hll
      rw [q18 (by omega)]
      exact h.rows l p hl
    · rename_i hll
      have e:l-gs.length=0:=by have:=(List.getElem?_eq_some_iff.1 hl).1;simp at this;omega
      rw [e] at hl;simp at hl;subst hl
      rw [show l=gs.length by omega,q1x]
      exact RowS.nil _ _ _ _
  · simp at hi hj
    by_cases e1:i=gs.length
    · subst e1;rw [q1x] at hb;cases hb
    · rw [q18 e1] at hb
      by_cases e2:j=gs.length
      · subst e2;rw [q1x];exact fun e=>by cases e
      · rw [q18 e2];exact h.apart i j c (by omega) (by omega) hij hb
  · simp at hi
    by_cases e1:i=gs.length
    · subst e1;rw [q1x] at hb;cases hb
    · rw [q18 e1] at hb;exact h.free i c (by omega) hb
end
end Go.Proofs.Ytbkhpddodmbdoaa
namespace Go.Proofs.Ytbkhpddodmbdoaa
open Go.RowKit
set_option maxRecDepth 20000
def q3e (L:List Run) (o:Int):List Value:=L.flatMap fun r=>[.int .i64 r.y,.int .i64 r.x0,.int .i64 o,.int .i64 r.y,.int .i64 r.x1,.int .i64 o]
theorem q6l (K L:List Run) (o:Int):q3e (K++L) o=q3e K o++q3e L o:=by simp [q3e]
theorem z5x (r:Run) (o:Int):q3e [r] o=[.int .i64 r.y,.int .i64 r.x0,.int .i64 o,.int .i64 r.y,.int .i64 r.x1,.int .i64 o]:=by simp [q3e]
theorem z08 (o:Int):∀ (L:List Run),(q3e L o).length=L.length*6
  | []=>rfl
  | r::L=>by
    have:=z08 o L
    show (q3e ([r]++L) o).length=_
    rw [q6l,List.length_append,this,z5x];simp;omega
theorem x0q {L:List Run} {i:Nat} {r:Run} (h:L[i]? = some r) (o:Int):q3e (L.take (i+1)) o=q3e (L.take i) o++[.int .i64 r.y,.int .i64 r.x0,.int .i64 o,.int .i64 r.y,.int .i64 r.x1,.int .i64 o]:=by
  rw [List.take_add_one,h,q6l];simp [q3e]
theorem x2d {L:List Run} {o:Int} {e:Nat} (h:e<2*L.length):(q3e L o)[e*3]? = some (.int .i64 (eY (nthR L) e))∧(q3e L o)[e*3+1]? = some (.int .i64 (eX (nthR L) e))∧(q3e L o)[e*3+2]? = some (.int .i64 o):=by
  obtain ⟨r,hr⟩:∃ r,L[e/2]? = some r:=⟨_,List.getElem?_eq_getElem (by omega)⟩
  have hsp:L=L.take (e/2)++([r]++L.drop (e/2+1)):=by
    obtain ⟨h1,rfl⟩:=List.getElem?_eq_some_iff.1 hr
    simp
  have hl:(q3e (L.take (e/2)) o).length=e/2*6:=by rw [z08,List.length_take];congr 1;omega
  have key:∀ j,j<6→(q3e L o)[e/2*6+j]? = [Value.int .i64 r.y,.int .i64 r.x0,.int .i64 o,.int .i64 r.y,.int .i64 r.x1,.int .i64 o][j]?:=fun j hj=>by
    conv=>lhs;rw [hsp,q6l,q6l,z5x]
    rw [List.getElem?_append_right (by omega),hl,show e/2*6+j-e/2*6=j by omega,List.getElem?_append_left (by simp;omega)]
  unfold eY eX
  rw [q39 hr]
  rcases Nat.mod_two_eq_zero_or_one e with h0 |h0
  · rw [if_pos h0]
    have e1:e*3=e/2*6+0:=by omega
    rw [e1]
    exact ⟨key 0 (by omega),key 1 (by omega),key 2 (by omega)⟩
  · rw [if_neg (by omega)]
    have e1:e*3=e/2*6+3:=by omega
    rw [e1]
    exact ⟨key 3 (by omega),key 4 (by omega),key 5 (by omega)⟩
set_option maxHeartbeats 1000000 in
theorem z2c (A:Option Addr) (L:List Run) (c:Nat) (o:Int) (G:Mem) (hA:RunsM G A L) (hl:L.length≤1000000000):q2j Try.prog 84 [.val (.slice A L.length c),.val (.int .i64 o)] G id 134 3 (2*L.length) (q3e L o):=by
  refine q1y tab_ok Try.func84 (.alone fun _=>rfl) ?_
  (repeat ((try (conv=>whnf));(refine stQ ?_)))
  conv=>whnf
  refine q05 tab_ok (fun i=>i≤L.length) (fun (i:Nat)=>[(14,.val (.int .i64 i)),(5,.own 0),(11,.any)]) (fun i=>[.own 134 3 (2*i) (q3e (L.take i) o)]) (fun i=>L.length-i) 0 (Nat.zero_le _) ?_ ?_
  · ((refine q0h ?_);(conv=>whnf);(refine q0k (by rfl) (by rfl) flQ ?_))
    exact q0e rfl rfl q0g
  · rintro i hi
    rcases Nat.lt_or_ge i L.length with h1 |h1
    · obtain ⟨r,hr⟩:∃ r,L[i]? = some r:=⟨L[i],List.getElem?_eq_getElem h1⟩
      obtain ⟨p,rfl,ca⟩:=hA.cells hr
      (repeat ((try (conv=>whnf));(refine stQ ?_)))
      conv=>whnf
      refine ca _ ?_
      (repeat ((try (conv=>whnf));(refine stQ ?_)))
      refine ⟨i+1,by omega,by omega,?_⟩
      refine q0y 3 0 rfl rfl rfl rfl ?_
      conv=>whnf
      ((refine q0h ?_);(conv=>whnf);(refine q0k (by rfl) (by rfl) flQ ?_))
      exact q0e (by omega) (x0q hr o).symm q0g
    · obtain rfl:i=L.length:=by omega
      (repeat ((try (conv=>whnf));(refine stQ ?_)))
      exact .inl ⟨0,rfl,by rw [List.take_length];rfl⟩
end Go.Proofs.Ytbkhpddodmbdoaa
namespace Go.Proofs.Ytbkhpddodmbdoaa
open Go.RowKit
set_option maxRecDepth 20000
def orI (a c:Int):Int:=if a=0 then c else a
theorem x3v (b:Nat) (a c:Int) (G:Mem) (h0:G.cell? ⟨b,0,none⟩=some (.int .i64 a)) (h1:G.cell? ⟨b,1,none⟩=some (.int .i64 c)) :
    Gives Try.prog 42 [.val (.slice (some ⟨b,0,none⟩) 2 2)] G (.val (.int .i64 (orI a c))):=by
  refine q1n tab_ok Try.func42 ?_
  by_cases ha:a=0
  · (repeat ((try (conv=>whnf));(refine stQ ?_)))
    refine q4r tab_ok ?_
    (repeat ((try (conv=>whnf));(refine stQ ?_)))
    refine q0d (.int .i64 a) (by rw [q0t];exact h0) ?_
    (repeat ((try (conv=>whnf));(refine stQ ?_)))
    refine q4r tab_ok ?_
    (repeat ((try (conv=>whnf));(refine stQ ?_)))
    refine q0d (.int .i64 c) (by rw [q0t];exact h1) ?_
    by_cases hc:c=0
    · (repeat ((try (conv=>whnf));(refine stQ ?_)))
      refine q4r tab_ok ?_
      (repeat ((try (conv=>whnf));(refine stQ ?_)))
      exact ⟨by simp [orI,ha,hc],rfl⟩
    · (repeat ((try (conv=>whnf));(refine stQ ?_)))
      exact ⟨by simp [orI,ha],rfl⟩
  · (repeat ((try (conv=>whnf));(refine stQ ?_)))
    refine q4r tab_ok ?_
    (repeat ((try (conv=>whnf));(refine stQ ?_)))
    refine q0d (.int .i64 a) (by rw [q0t];exact h0) ?_
    (repeat ((try (conv=>whnf));(refine stQ ?_)))
    exact ⟨by simp [orI,ha],rfl⟩
theorem q08 {k:Nat} {hp:List Blk} {G:Mem} {K:AV→Prop} {M:AV→Blk→Prop} {t:TypeId} {a c:Int} (hk:nthB hp k=.cells t [.val (.int .i64 a),.val (.int .i64 c)]) (h:K (.val (.int .i64 (orI a c)))):RCallP Try.prog 42 [.sli k 0 2 2] hp G K M :=
  x0l (vs:=[.int .i64 a,.int .i64 c]) (fun vs w=>by kernel_rfl) hk rfl (fun b G2 _ hc=>x3v b a c G2 (hc 0 _ rfl) (hc 1 _ rfl)) h
end Go.Proofs.Ytbkhpddodmbdoaa
