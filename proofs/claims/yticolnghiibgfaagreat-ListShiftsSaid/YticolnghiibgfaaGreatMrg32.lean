/-
  Merged: XClones, XMakesF, XMakesX, XCopied.
-/
import Derived.Test.YticolnghiibgfaaGreatMrg23
import Derived.Test.YticolnghiibgfaaGreatMrg17
import Derived.Test.YticolnghiibgfaaGreatMrg14
import Derived.Test.YticolnghiibgfaaGreatMrg18
import Derived.Test.YticolnghiibgfaaGreatMrg31
set_option linter.unusedVariables false
set_option linter.unusedSimpArgs false
set_option linter.unnecessarySimpa false
namespace Go.Proofs.YticolnghiibgfaaGreat
open Go.RowKit
set_option maxRecDepth 20000
theorem ElsM.cellsAt {G:Mem} {A:Option Addr} {sz n:Nat} {c:Nat→List Value} (h:ElsM G A sz n c) (hs:0<sz) (hn:0<n):∃ p,A=some p∧G.cellsAt p (q0o c n):=by
  obtain ⟨b,off,hA,_⟩:=h.at_ 0 hn
  refine ⟨_,hA,fun j u hj=>?_⟩
  have hjl:=(List.getElem?_eq_some_iff.1 hj).1
  rw [q2u h.len] at hjl
  have hx:j/sz<n:=Nat.div_lt_of_lt_mul (by rw [Nat.mul_comm];exact hjl)
  obtain ⟨b',off',hA',h2⟩:=h.at_ (j/sz) hx
  rw [hA] at hA';cases hA'
  have e:j=j/sz*sz+j%sz:=by rw [Nat.mul_comm];exact (Nat.div_add_mod j sz).symm
  rw [e,q39 h.len hx (Nat.mod_lt _ hs)] at hj
  have:=h2 _ _ hj
  rw [q0k]
  rw [Nat.add_assoc,← e] at this
  exact this
theorem ElsM.srcV {G:Mem} {A:Option Addr} {sz n:Nat} {c:Nat→List Value} (h:ElsM G A sz n c) (hs:0<sz) (ho:∀ x,x<n→∀ v∈c x,v.oneCell'=true) (K:Nat→List Value→Prop) (k:K n (q0o c n)):SrcV G A n sz K :=
  ⟨q0o c n,q2u h.len,fun h0=>h.cellsAt hs (by rcases Nat.eq_zero_or_pos n with e |e;(subst e;exact absurd rfl h0);exact e),z77 ho,k⟩
theorem q8z {G:Mem} {sz n:Nat} {c:Nat→List Value} (h:ElsM G none sz n c):n=0:=by
  rcases Nat.eq_zero_or_pos n with e |e
  · exact e
  · obtain ⟨b,off,hA,_⟩:=h.at_ 0 e;cases hA
set_option maxHeartbeats 1000000 in
theorem z8r {A:Option Addr} {n c:Nat} {cell:Nat→List Value} {G:Mem} (h:ElsM G A 1 n cell) (ho:∀ x,x<n→∀ v∈cell x,v.oneCell'=true) (hl:n≤1000000000) :
    q4f Tryz.prog 62 [.val (.slice A n c)] G id 9 1 n (q0o cell n):=by
  refine q3q tab_ok Tryz.func62 (.alone fun _=>rfl) ?_
  have hs:=h.srcV (by decide) ho
  have hb:n*16≤140737488355328:=by omega
  cases A with
  | none =>
    have h0:=q8z h
    subst h0
    (repeat ((try (conv=>whnf));(first |(refine q3k (show Option.isNone (none:Option Addr)=true from rfl) ?_) |(refine stQ ?_))))
    exact .inr (.inl ⟨rfl,rfl,rfl⟩)
  | some p =>
    (repeat ((try (conv=>whnf));(first |(refine q3p (show Option.isNone (some p)=false from rfl) ?_) |(refine hs _ ?_) |(refine stQ ?_))))
    exact .inl ⟨1,rfl,rfl⟩
set_option maxHeartbeats 1000000 in
theorem z8s {A:Option Addr} {n c:Nat} {cell:Nat→List Value} {G:Mem} (h:ElsM G A 34 n cell) (ho:∀ x,x<n→∀ v∈cell x,v.oneCell'=true) (hl:n≤100000000) :
    q4f Tryz.prog 63 [.val (.slice A n c)] G id 56 34 n (q0o cell n):=by
  refine q3q tab_ok Tryz.func63 (.alone fun _=>rfl) ?_
  have hs:=h.srcV (by decide) ho
  have hb:n*256≤140737488355328:=by omega
  cases A with
  | none =>
    have h0:=q8z h
    subst h0
    (repeat ((try (conv=>whnf));(first |(refine q3k (show Option.isNone (none:Option Addr)=true from rfl) ?_) |(refine stQ ?_))))
    exact .inr (.inl ⟨rfl,rfl,rfl⟩)
  | some p =>
    (repeat ((try (conv=>whnf));(first |(refine q3p (show Option.isNone (some p)=false from rfl) ?_) |(refine hs _ ?_) |(refine stQ ?_))))
    exact .inl ⟨1,rfl,rfl⟩
set_option maxHeartbeats 1000000 in
theorem z8t {A:Option Addr} {n c:Nat} {cell:Nat→List Value} {G:Mem} (h:ElsM G A 9 n cell) (ho:∀ x,x<n→∀ v∈cell x,v.oneCell'=true) (hl:n≤1000000000) :
    q4f Tryz.prog 65 [.val (.slice A n c)] G id 119 9 n (q0o cell n):=by
  refine q3q tab_ok Tryz.func65 (.alone fun _=>rfl) ?_
  have hs:=h.srcV (by decide) ho
  have hb:n*16≤140737488355328:=by omega
  cases A with
  | none =>
    have h0:=q8z h
    subst h0
    (repeat ((try (conv=>whnf));(first |(refine q3k (show Option.isNone (none:Option Addr)=true from rfl) ?_) |(refine stQ ?_))))
    exact .inr (.inl ⟨rfl,rfl,rfl⟩)
  | some p =>
    (repeat ((try (conv=>whnf));(first |(refine q3p (show Option.isNone (some p)=false from rfl) ?_) |(refine hs _ ?_) |(refine stQ ?_))))
    exact .inl ⟨1,rfl,rfl⟩
set_option maxHeartbeats 1000000 in
theorem z8u {A:Option Addr} {n c:Nat} {cell:Nat→List Value} {G:Mem} (h:ElsM G A 3 n cell) (ho:∀ x,x<n→∀ v∈cell x,v.oneCell'=true) (hl:n≤1000000000) :
    q4f Tryz.prog 64 [.val (.slice A n c)] G id 87 3 n (q0o cell n):=by
  refine q3q tab_ok Tryz.func64 (.alone fun _=>rfl) ?_
  have hs:=h.srcV (by decide) ho
  have hb:n*24≤140737488355328:=by omega
  cases A with
  | none =>
    have h0:=q8z h
    subst h0
    (repeat ((try (conv=>whnf));(first |(refine q3k (show Option.isNone (none:Option Addr)=true from rfl) ?_) |(refine stQ ?_))))
    exact .inr (.inl ⟨rfl,rfl,rfl⟩)
  | some p =>
    (repeat ((try (conv=>whnf));(first |(refine q3p (show Option.isNone (some p)=false from rfl) ?_) |(refine hs _ ?_) |(refine stQ ?_))))
    exact .inl ⟨1,rfl,rfl⟩
set_option maxHeartbeats 1000000 in
theorem z8v {A:Option Addr} {n c:Nat} {cell:Nat→List Value} {G:Mem} (h:ElsM G A 8 n cell) (ho:∀ x,x<n→∀ v∈cell x,v.oneCell'=true) (hl:n≤1000000000) :
    q4f Tryz.prog 66 [.val (.slice A n c)] G id 28 8 n (q0o cell n):=by
  refine q3q tab_ok Tryz.func66 (.alone fun _=>rfl) ?_
  have hs:=h.srcV (by decide) ho
  have hb:n*8≤140737488355328:=by omega
  cases A with
  | none =>
    have h0:=q8z h
    subst h0
    (repeat ((try (conv=>whnf));(first |(refine q3k (show Option.isNone (none:Option Addr)=true from rfl) ?_) |(refine stQ ?_))))
    exact .inr (.inl ⟨rfl,rfl,rfl⟩)
  | some p =>
    (repeat ((try (conv=>whnf));(first |(refine q3p (show Option.isNone (some p)=false from rfl) ?_) |(refine hs _ ?_) |(refine stQ ?_))))
    exact .inl ⟨1,rfl,rfl⟩
set_option maxHeartbeats 1000000 in
theorem z8w {A:Option Addr} {n c:Nat} {cell:Nat→List Value} {G:Mem} (h:ElsM G A 1 n cell) (ho:∀ x,x<n→∀ v∈cell x,v.oneCell'=true) (hl:n≤1000000000) :
    q4f Tryz.prog 67 [.val (.slice A n c)] G id 5 1 n (q0o cell n):=by
  refine q3q tab_ok Tryz.func67 (.alone fun _=>rfl) ?_
  have hs:=h.srcV (by decide) ho
  have hb:n*1≤140737488355328:=by omega
  cases A with
  | none =>
    have h0:=q8z h
    subst h0
    (repeat ((try (conv=>whnf));(first |(refine q3k (show Option.isNone (none:Option Addr)=true from rfl) ?_) |(refine stQ ?_))))
    exact .inr (.inl ⟨rfl,rfl,rfl⟩)
  | some p =>
    (repeat ((try (conv=>whnf));(first |(refine q3p (show Option.isNone (some p)=false from rfl) ?_) |(refine hs _ ?_) |(refine stQ ?_))))
    exact .inl ⟨1,rfl,rfl⟩
end Go.Proofs.YticolnghiibgfaaGreat
namespace Go.Proofs.YticolnghiibgfaaGreat
open Go.RowKit
end Go.Proofs.YticolnghiibgfaaGreat
namespace Go.Proofs.YticolnghiibgfaaGreat
open Go.RowKit
theorem HR.more {w0:World} {G0:Mem} {β:Nm} {hp:List Blk} {G G':Mem} {w:World} (hr:HR w0 G0 β hp G w) (hle:G.le G') (hh:G'.holds w) (hg:∀ b o,G' b=some o→G b=some o∨w0.heap.size≤b)
    (hd:∀ k z x b,β k=some z→hp[k]? = some x→x.live=true→q0g z=some b→G' b=none):HR w0 G0 β hp G' w:=by
  refine ⟨hr.below,hh,Mem.le_trans hr.sub hle,fun b o hb=>?_,fun k z hk=>?_,hr.inj,hr.wrt⟩
  · rcases hg b o hb with h6 |h6
    · exact hr.grow b o h6
    · exact .inr h6
  · obtain ⟨x,hx1,hx2⟩:=hr.blk k z hk
    refine ⟨x,hx1,?_⟩
    have hno:∀ b,x.live=true→q0g z=some b→G' b=none:=fun b hl hb=>hd k z x b hk hx1 hl hb
    cases x with
    | gone=>trivial
    | muts S=>exact hx2.elim
    | cells t l =>
      obtain ⟨b,c,q1,q2,q3,q4,q5⟩:=hx2
      exact ⟨b,c,q1,q2,hno b rfl (by rw [q1];rfl),q4,q5⟩
    | own e' sz' n' xs' =>
      exact ⟨hx2.1,fun b hb=>hno b rfl hb⟩
    | lp i fr st p =>
      obtain ⟨q1,q2,q3,q4⟩:=hx2
      exact ⟨q1,q2,hno i.l rfl (by rw [q1];rfl),q4⟩
    | mp f ks vs =>
      obtain ⟨b,ys,q1,q2,q3,q4⟩:=hx2
      exact ⟨b,ys,q1,q2,hno b rfl (by rw [q1];rfl),q4⟩
def MakesX (P:Program) (f:FuncId) (args:List AV) (G:Mem) (E:TypeId) (sz:Nat) (R:(AV→AV)→Nat→List Value→Mem→Prop):Prop :=
  ∀ (w:World) (vs:Array Value),G.holds w→AV.rels noName args vs.toList→Calls P f vs w fun e w'=>∃ y s wrap n xs G',e=.returned y∧Wraps wrap∧(wrap (.val s)).rel noName y∧w'.ownsRow w.heap.size E sz s n xs∧Below w.heap.size w w' ∧
    G.le G'∧G'.holds w'∧(∀ b o,G' b=some o→G b=some o∨w.heap.size≤b)∧(∀ b,q0g s=some b→G' b=none)∧R wrap n xs G'
theorem x66 {P:Program} {T:Tab} (hT:TOk P T) {f:FuncId} {fn:Func} (hfn:P.funcs[f]? = some fn) {args:List AV} {G:Mem} {E:TypeId} {sz:Nat} {R:(AV→AV)→Nat→List Value→Mem→Prop} (hn:q6e fn=true)
    (h:q4d P T 0 fn args [] G fun v hp' G1=>∃ wrap k n xs,Wraps wrap∧v=wrap (.own k)∧nthB hp' k=.own E sz n xs∧R wrap n xs G1):MakesX P f args G E sz R:=by
  intro w vs hG ha
  refine (q5u hT hfn (hp:=[]) h (.inl hn) w G _ w vs (HR.init hG) ha).mono ?_
  rintro e w' ⟨y,β',v',hp',G',h1,_,h2,h3,wrap,k,n,xs,hw,rfl,hk,hR⟩
  obtain ⟨s,h5,h6⟩:=hw.back h3
  simp only [AV.rel] at h5
  obtain ⟨x,hx1,hx2⟩:=h2.blk k s h5.1
  rw [q0z hk rfl] at hx1;cases hx1
  exact ⟨y,s,wrap,n,xs,G',h1,hw,h6,hx2.1,h2.below,h2.sub,h2.hold,h2.grow,hx2.2,hR⟩
theorem MakesX.call {P:Program} {f:FuncId} {args:List AV} {hp:List Blk} {G:Mem} {E:TypeId} {sz:Nat} {R:(AV→AV)→Nat→List Value→Mem→Prop} (hu:AV.unders 0 args=true) (hc:MakesX P f args G E sz R)
    {w0:World} {G0:Mem} {β:Nm} {w:World} {vs:Array Value} (hr:HR w0 G0 β hp G w) (ha:AV.rels β args vs.toList) :
    Calls P f vs w fun e w'=>∃ y s wrap n xs G',e=.returned y∧Wraps wrap∧(wrap (.val s)).rel noName y∧HR w0 G0 (β.put hp.length s) (hp++[.own E sz n xs]) G' w'∧Nm.le β (β.put hp.length s)∧isSl s=true∧G.le G'∧R wrap n xs G':=by
  refine (hc w vs hr.hold (q2z hu ha)).mono ?_
  rintro e w' ⟨y,s,wrap,n,xs,G',rfl,hwr,h2,h3,h4,hle,hh,hg,hsn,hR⟩
  have hfresh:∀ b,q0g s=some b→w.heap.size≤b:=fun b hb=>by
    rcases h3.2 with ⟨rfl,_⟩ |⟨g,cap,cur,rfl,h5,_⟩
    · simp [q0g] at hb
    · simp [q0g] at hb;omega
  have hrn:HR w0 G0 (β.put hp.length s) (hp++[.own E sz n xs]) G w':=by
    refine hr.name h4 (x:=.own E sz n xs) ⟨?_,fun g hg=>q24 hr.hold (hfresh g hg)⟩ rfl hfresh
    obtain ⟨q1,q2⟩:=h3
    refine ⟨q1,?_⟩
    rcases q2 with q2 |⟨g,cap,cur,q3,q4,q5⟩
    · exact .inl q2
    · exact .inr ⟨g,cap,cur,q3,Nat.le_trans hr.below.size q4,q5⟩
  refine ⟨y,s,wrap,n,xs,G',rfl,hwr,h2,hrn.more hle hh (fun b o hb=>?_) (fun k z x b hk hx hl hb=>?_),Nm.le_put s (hr.fresh (Nat.le_refl _)),?_,hle,hR⟩
  · rcases hg b o hb with h6 |h6
    · exact .inl h6
    · exact .inr (Nat.le_trans hr.below.size h6)
  · by_cases hkn:k=hp.length
    · rw [hkn,Nm.put_same] at hk
      cases hk
      exact hsn b hb
    · rw [Nm.put_ne β s hkn] at hk
      obtain ⟨x',h1,_⟩:=hr.blk k z hk
      have hx':x=x':=by
        rw [List.getElem?_append_left (List.getElem?_eq_some_iff.1 h1).1,h1] at hx
        exact (Option.some.inj hx).symm
      subst hx'
      have hlt:=(hr.lt hk h1 hl hb).2
      have hGn:=hlt
      cases e:G' b with
      | none=>rfl
      | some o =>
        rcases hg b o e with h6 |h6
        · obtain ⟨x',hq1,hq2⟩:=hr.blk k z hk
          rw [h1] at hq1;cases hq1
          have hcon:G b=none:=by
            cases x with
            | gone=>simp [Blk.live] at hl
            | muts S=>exact hq2.elim
            | cells t l=>obtain ⟨b',c,q1,q2,q3,q4,q5⟩:=hq2;subst q1;simp [q0g] at hb;subst hb;exact q3
            | own e' sz' n' xs'=>exact hq2.2 b hb
            | lp i fr st p=>obtain ⟨q1,q2,q3,q4⟩:=hq2;subst q1;simp [q0g] at hb;subst hb;exact q3
            | mp f ks vs=>obtain ⟨b',ys,q1,q2,q3,q4⟩:=hq2;subst q1;simp [q0g] at hb;subst hb;exact q3
          rw [hcon] at h6;cases h6
        · have:=hlt.1;omega
  · exact q2g h3
theorem x1b {P:Program} {f:FuncId} (hen:∀ vs w,(callFunc f vs).run P w=.ok (.enter f vs) w) {args:List AV} {hp:List Blk} {G:Mem} {K:AV→List Blk→Mem→Prop} {E:TypeId} {sz:Nat} {R:(AV→AV)→Nat→List Value→Mem→Prop} (hu:AV.unders 0 args=true)
    (hc:MakesX P f args G E sz R) (h:∀ wrap n xs G',G.le G'→R wrap n xs G'→lenF hp fun m=>catF hp [.own E sz n xs] fun hp'=>K (wrap (.own m)) hp' G'):CallP P f args hp G K:=by
  refine ⟨hen,fun w0 G0 β w vs hr ha=>(hc.call hu hr ha).mono ?_⟩
  rintro e w' ⟨y,s,wrap,n,xs,G',rfl,hwr,h2,h3,h4,hsl,hle,hR⟩
  have h0:=q1t (h wrap n xs G' hle hR)
  rw [q08] at h0
  exact ⟨y,_,wrap (.own hp.length),_,G',rfl,h4,h3,hwr.rel (by simp only [AV.rel];exact ⟨Nm.put_same _ _ _,hsl⟩) h2,h0⟩
end Go.Proofs.YticolnghiibgfaaGreat
namespace Go.Proofs.YticolnghiibgfaaGreat
open Go.RowKit Go.Deep
set_option maxRecDepth 20000
abbrev setC (i:ItemD) (RA:Option Addr) (rq:Nat) (A:Option Addr) (q:Nat) (B:Option Addr) (pq:Nat) (C:Option Addr) (sq:Nat):ItemD:=⟨i.K,RA,i.rn,rq,i.k,i.I,i.fx,i.fy,i.tx,i.ty,i.r,A,i.n,q,i.W,i.H,B,i.pn,pq,C,i.sn,sq,i.a,i.b,i.c,i.d,i.e,i.f,i.s,i.t,i.al,i.bl,i.ov,i.iso,i.kn⟩
theorem ones {P:Program} {w:World} {e:TypeId} {A:Option Addr} {n sz:Nat} {g:Nat→Nat→Value} (h:SliceG P w e A n g) (hok:q3t P 20 e=true) (hf:∀ j,j<sz→∃ k,(flat P 20 e)[j]? = some (.int k)):∀ x,x<n→∀ v∈(List.range sz).map (g x),v.oneCell'=true:=fun x hx v hv=>by
  obtain ⟨j,hj,rfl⟩:=List.mem_map.1 hv
  obtain ⟨k,hk⟩:=hf j (List.mem_range.1 hj)
  rw [(h.int hok hx hk).1];rfl
theorem x67 (i:ItemD):∀ v∈i.cells,v.oneCell'=true:=List.all_eq_true.1 (by rfl)
theorem ItemsM.els {G:Mem} {b off n:Nat} {I:Nat→ItemD} (h:ItemsM G (some ⟨b,off,none⟩) n I):ElsM G (some ⟨b,off,none⟩) 34 n fun x=>(I x).cells :=
  ⟨fun x hx=>rfl,fun x hx=>by
    obtain ⟨p,hp,hc⟩:=h.kind hx
    cases hp
    refine ⟨b,off,rfl,fun j v hj=>?_⟩
    have:=hc j v hj
    rw [q0k,q0k] at this
    exact this⟩
theorem z0g {G:Mem} {A:Option Addr} {n:Nat} {J:Nat→ItemD} (h:ElsM G A 34 n fun x=>(J x).cells):ItemsM G A n J:=fun x hx=>by
  obtain ⟨b,off,rfl,h2⟩:=h.at_ x hx
  refine ⟨_,rfl,fun K hK=>⟨(J x).cells,⟨rfl,fun j v hj=>?_⟩,hK⟩⟩
  rw [q0k,q0k];exact h2 j v hj
theorem x83 {G:Mem} {A:Option Addr} {n:Nat} {g:Nat→Nat→Value} (h:SliceM Tryz.prog G 9 A n g):∀ x,x<n→∀ v∈(List.range 1).map (g x),v.oneCell'=true:=fun x hx v hv=>by
  obtain ⟨⟨w0,A0,h0⟩,_⟩:=h
  obtain ⟨j,hj,rfl⟩:=List.mem_map.1 hv
  have hj:j=0:=by have:=List.mem_range.1 hj;omega
  subst hj
  have ef:flat Tryz.prog 20 9=[.string]:=by kernel_rfl
  obtain ⟨s,hs,_⟩:=h0.seen (j:=0) (by kernel_rfl) hx (by rw [ef];rfl)
  rw [hs];rfl
theorem z4x {c:Nat→List Value} {sz n x o:Nat} {vs:List Value} (hl:∀ y,y<n→(c y).length=sz) (hx:x<n) (ho:o+vs.length≤sz) :
    (q0o c n).take (x*sz+o)++vs++(q0o c n).drop (x*sz+o+vs.length)=q0o (fun y=>if y=x then (c x).take o++vs++(c x).drop (o+vs.length) else c y) n:=by
  obtain ⟨r,rfl⟩:∃ r,n=x+(1+r):=⟨n-x-1,by omega⟩
  have hP:=q2u (c:=c) (n:=x) (fun y hy=>hl y (by omega))
  have hM:=hl x hx
  have e1:q0o c (x+(1+r))=q0o c x++(c x++q0o (fun y=>c (x+(1+y))) r):=by
    rw [q7z,q7z];simp [q0o]
  have e2:q0o (fun y=>if y=x then (c x).take o++vs++(c x).drop (o+vs.length) else c y) (x+(1+r))=q0o c x++(((c x).take o++vs++(c x).drop (o+vs.length))++q0o (fun y=>c (x+(1+y))) r):=by
    rw [q7z,q7z]
    congr 1
    · exact q42 fun y hy=>if_neg (by omega)
    · congr 1
      · simp [q0o]
      · exact q42 fun y hy=>if_neg (by omega)
  rw [e1,e2]
  have t1:(q0o c x++(c x++q0o (fun y=>c (x+(1+y))) r)).take (x*sz+o)=q0o c x++(c x).take o:=by
    rw [List.take_append,hP,List.take_of_length_le (by omega),show x*sz+o-x*sz=o by omega,List.take_append,show o-(c x).length=0 by omega];simp
  have t2:(q0o c x++(c x++q0o (fun y=>c (x+(1+y))) r)).drop (x*sz+o+vs.length)=(c x).drop (o+vs.length)++q0o (fun y=>c (x+(1+y))) r:=by
    rw [List.drop_append,hP,List.drop_of_length_le (by omega),show x*sz+o+vs.length-x*sz=o+vs.length by omega,List.drop_append,show o+vs.length-(c x).length=0 by omega];simp
  rw [t1,t2]
  simp [List.append_assoc]
theorem q7e {hp:List Blk} {k:Nat} {e:TypeId} {sz n o:Nat} {xs ys vs:List Value} {K:List Blk→Prop} (hle:o+vs.length≤xs.length) (h:xs.take o++vs++xs.drop (o+vs.length)=ys) (hk:setF hp k (.own e sz n ys) K) :
    mustP (o+vs.length≤xs.length) (setF hp k (.own e sz n (xs.take o++vs++xs.drop (o+vs.length))) K):=mustP.mk hle (by rw [h];exact hk)
theorem SliceM.froz {P:Program} {G G':Mem} {e:TypeId} {A B:Option Addr} {n:Nat} {g:Nat→Nat→Value} (h:SliceM P G e A n g) {sz:Nat} (hs:P.cellsOf e=sz) (hz:0<sz)
    (hB:q0o (fun x=>(List.range sz).map (g x)) n=[]∨∃ b,B=some ⟨b,0,none⟩∧∀ (j:Nat) u,(q0o (fun x=>(List.range sz).map (g x)) n)[j]? = some u→G'.cell? ⟨b,j,none⟩=some u):SliceM P G' e B n g:=by
  rcases hB with h0 |⟨b,rfl,hc⟩
  · refine ⟨h.1,fun hn=>?_⟩
    have:=q2u (c:=fun x=>(List.range sz).map (g x)) (sz:=sz) (n:=n) (fun x hx=>by simp)
    rw [h0] at this
    have:0<n*sz:=Nat.mul_pos hn hz
    simp at *;omega
  · exact h.copy hs (.inr ⟨b,0,rfl,fun j u hj=>by rw [Nat.zero_add];exact hc j u hj⟩) hz
theorem SrcG.mono {G G':Mem} {i:ItemD} {gs gp gf:Nat→Nat→Value} (h:SrcG G i gs gp gf) (hG:G.le G'):SrcG G' i gs gp gf:=⟨⟨h.stop.1,h.stop.2.1,h.stop.2.2.mono hG⟩,⟨h.pix.1,h.pix.2.1,h.pix.2.2.mono hG⟩,⟨h.soft.1,h.soft.2.1,h.soft.2.2.mono hG⟩,h.ink⟩
theorem ItemG.mono {G G':Mem} {i:ItemD} {gr gs gp gf:Nat→Nat→Value} (h:ItemG G i gr gs gp gf) (hG:G.le G'):ItemG G' i gr gs gp gf:=⟨⟨h.run.1,h.run.2.1,h.run.2.2.mono hG⟩,h.src.mono hG,h.al⟩
theorem q5z {J J':Nat→ItemD} {n x o:Nat} {v:Value} (hx:x<n) (ho:o<34) (h1:∀ y,y≠x→J' y=J y) (h2:(J x).cells.take o++[v]++(J x).cells.drop (o+1)=(J' x).cells) :
    x*34+o+[v].length≤(q0o (fun y=>(J y).cells) n).length∧(q0o (fun y=>(J y).cells) n).take (x*34+o)++[v]++(q0o (fun y=>(J y).cells) n).drop (x*34+o+[v].length)=q0o (fun y=>(J' y).cells) n:=by
  refine ⟨?_,?_⟩
  · rw [q2u (sz:=34) (fun _ _=>rfl)]
    have:x*34+34≤n*34:=by omega
    simp;omega
  · rw [z4x (sz:=34) (fun _ _=>rfl) hx (by simp;omega)]
    refine q42 fun y hy=>?_
    split
    · rename_i e;subst e;exact h2
    · rename_i e;rw [h1 y e]
def setJ (J:Nat→ItemD) (x:Nat) (i:ItemD):Nat→ItemD:=fun y=>if y=x then i else J y
theorem q2x {J:Nat→ItemD} {x:Nat} {i:ItemD}:setJ J x i x=i:=if_pos rfl
theorem q1y {J:Nat→ItemD} {x y:Nat} {i:ItemD} (h:y≠x):setJ J x i y=J y:=if_neg h
theorem v1y:∀ j,j<3→∃ k,(flat Tryz.prog 20 87)[j]? = some (.int k):=fun j hj=>by
  rw [show flat Tryz.prog 20 87=[.int .i64,.int .i64,.int .i64] by kernel_rfl]
  match j,hj with
  | 0,_=>exact ⟨_,rfl⟩
  | 1,_=>exact ⟨_,rfl⟩
  | 2,_=>exact ⟨_,rfl⟩
theorem v1z:∀ j,j<9→∃ k,(flat Tryz.prog 20 119)[j]? = some (.int k):=fun j hj=>by
  cases j with
  | zero=>exact ⟨.i64,by kernel_rfl⟩
  | succ j=>exact ⟨.u8,z0n (by omega)⟩
theorem v10:∀ j,j<8→∃ k,(flat Tryz.prog 20 28)[j]? = some (.int k):=fun j hj=>⟨.u8,z3n hj⟩
theorem v11:∀ j,j<1→∃ k,(flat Tryz.prog 20 5)[j]? = some (.int k):=fun j hj=>by
  obtain rfl:j=0:=by omega
  exact ⟨.u8,by kernel_rfl⟩
section
variable {G:Mem} {W H:Int} {SA IA:Option Addr} {m sq n iq:Nat} {S:Nat→Nat→Value} {I:Nat→ItemD} {gr gs gp gf:Nat→Nat→Nat→Value}
structure CopyT where
  k:Nat
  J:Nat→ItemD
  M:Mem
structure CopyInv (I:Nat→ItemD) (gr gs gp gf:Nat→Nat→Nat→Value) (n:Nat) (G:Mem) (t:CopyT):Prop where
  le:t.k≤n
  sub:G.le t.M
  old:∀ x,t.k≤x→t.J x=I x
  new:∀ x,x<t.k→(∃ RA rq A q B pq C sq,t.J x=setC (I x) RA rq A q B pq C sq)∧ItemG t.M (t.J x) (gr x) (gs x) (gp x) (gf x)
set_option maxHeartbeats 16000000 in
theorem x1c (hS:SliceM Tryz.prog G 9 SA m S) (hI:ItemsM G IA n I) (hIA:0<n→∀ p,IA=some p→∃ b off,p=⟨b,off,none⟩) (hm:m≤1000000) (hn:n≤1000000) (hG:∀ x,x<n→ItemG G (I x) (gr x) (gs x) (gp x) (gf x)) (hB:∀ x,x<n→(I x).rn≤1000000000∧(I x).n≤1000000000∧(I x).pn≤1000000000∧(I x).sn≤1000000000) :
    MakesX Tryz.prog 41 [q2i W H SA m sq IA n iq] G 56 34 fun wrap k xs G'=>∃ (SA':Option Addr) (sq':Nat) (J:Nat→ItemD),k=n∧wrap=(fun a=>.agg [.val (.int .i64 W),.val (.int .i64 H),.val (.slice SA' m sq'),a])∧xs=q0o (fun x=>(J x).cells) n∧m≤sq'∧sq'≤maxLen∧SliceM Tryz.prog G' 9 SA' m S ∧
      ∀ x,x<n→(∃ RA rq A q B pq C sq,J x=setC (I x) RA rq A q B pq C sq)∧ItemG G' (J x) (gr x) (gs x) (gp x) (gf x):=by
  refine x66 tab_ok Tryz.func41 (by kernel_rfl) ?_
  have hc1:=z8r (c:=sq) (hS.els (by kernel_rfl)) (x83 hS) (by omega)
  (repeat ((try (conv=>whnf));(refine stQ ?_)))
  conv=>whnf
  refine q4k (fun vs w=>by kernel_rfl) (.alone fun _=>rfl) (by rfl) hc1 fun SA' sq' G1 hG1 hq1 hq2 hF1=>?_
  have hE:ElsM G1 IA 34 n fun x=>(I x).cells:=by
    cases IA with
    | none => 
      have:n=0:=by
        rcases Nat.eq_zero_or_pos n with e |e
        · exact e
        · obtain ⟨p,hp,_⟩:=hI 0 e;cases hp
      subst this;exact ElsM.none
    | some p =>
      rcases Nat.eq_zero_or_pos n with e |e
      · subst e;exact ElsM.none
      · obtain ⟨b,off,rfl⟩:=hIA e p rfl
        exact hI.els.mono hG1
  have hc2:=z8s (c:=iq) hE (fun x _=>x67 (I x)) (by omega)
  (repeat ((try (conv=>whnf));(refine stQ ?_)))
  conv=>whnf
  refine z31 (fun vs w=>by kernel_rfl) (.alone fun _=>rfl) (by rfl) hc2 ?_
  conv=>whnf
  (repeat ((try (conv=>whnf));(refine stQ ?_)))
  conv=>whnf
  refine q91 tab_ok (ι:=CopyT) (fun t=>CopyInv I gr gs gp gf n G t∧G1.le t.M) (fun t=>[(16,.val (.int .i64 t.k))]) (fun t=>[.cells 25 [.val (.int .i64 W),.val (.int .i64 H),.val (.slice SA' m sq'),.own 2],.cells 25 [.val (.int .i64 0),.val (.int .i64 0),.val (.slice none 0 0),.val (.slice none 0 0)],.own 56 34 n (q0o (fun x=>(t.J x).cells) n)]) (fun t=>t.M) (fun t=>n-t.k) ⟨0,I,G1⟩ ?_ ?_ ?_
  · exact ⟨⟨Nat.zero_le _,hG1,fun x _=>rfl,fun x hx=>absurd hx (Nat.not_lt_zero _)⟩,Mem.le_refl _⟩
  · dsimp only
    ((refine q0h ?_);(conv=>whnf);(refine q0j (by rfl) (by rfl) flQ ?_))
    exact q0c (by exact flQ) (q0c (by exact flQ) (q0i rfl rfl q0e))
  · rintro ⟨k,J,M⟩ ⟨⟨hk,hsub,hold,hnew⟩,hM⟩
    dsimp only at hk hsub hold hnew hM ⊢
    rcases Nat.lt_or_ge k n with h2 |h2
    · have hJ:=hold k (Nat.le_refl _)
      have hi:=hG k h2
      have e1:(q0o (fun x=>(J x).cells) n)[k*34+1]? = some (.slice (I k).RA (I k).rn (I k).rq):=by rw [q39 (c:=fun x=>(J x).cells) (sz:=34) (fun _ _=>rfl) h2 (by omega),hJ];rfl
      (repeat ((try (conv=>whnf));(first |(refine q0r _ e1 ?_) |(refine stQ ?_))))
      conv=>whnf
      obtain ⟨⟨w1,A1,s1⟩,_⟩:=id hi.run.2.2
      have c1:=z8u (c:=(I k).rq) ((hi.run.2.2.mono hsub).els (sz:=3) (by kernel_rfl)) (ones s1 (by kernel_rfl) (by exact v1y)) (hB k h2).1
      refine q4k (fun vs w=>by kernel_rfl) (.alone fun _=>rfl) (by rfl) c1 fun RA' rq' M1 hM1 ha1 hb1 hF1=>?_
      (repeat ((try (conv=>whnf));(refine stQ ?_)))
      conv=>whnf
      obtain ⟨p1,r1⟩:=q5z (J:=J) (J':=setJ J k (setC (I k) RA' rq' (I k).A (I k).q (I k).B (I k).pq (I k).C (I k).sq)) (n:=n) (x:=k) (o:=1) (v:=.slice RA' (I k).rn rq') h2 (by omega) (fun y hy=>q1y hy) (by rw [q2x,hJ];rfl)
      refine q7e (o:=k*34+1) p1 r1 ?_
      generalize hJ1:setJ J k (setC (I k) RA' rq' (I k).A (I k).q (I k).B (I k).pq (I k).C (I k).sq)=J1
      have hk1:J1 k=setC (I k) RA' rq' (I k).A (I k).q (I k).B (I k).pq (I k).C (I k).sq:=by rw [← hJ1];exact q2x
      have hn1:∀ y,y≠k→J1 y=J y:=fun y hy=>by rw [← hJ1];exact q1y hy
      clear hJ1
      conv=>whnf
      have su1:=Mem.le_trans hsub hM1
      have e2:(q0o (fun x=>(J1 x).cells) n)[k*34+16]? = some (.slice (I k).A (I k).n (I k).q):=by rw [q39 (c:=fun x=>(J1 x).cells) (sz:=34) (fun _ _=>rfl) h2 (by omega),hk1];rfl
      (repeat ((try (conv=>whnf));(first |(refine q0r _ e2 ?_) |(refine stQ ?_))))
      conv=>whnf
      obtain ⟨⟨w2,A2,s2⟩,_⟩:=id hi.src.stop.2.2
      have c2:=z8t (c:=(I k).q) ((hi.src.stop.2.2.mono su1).els (sz:=9) (by kernel_rfl)) (ones s2 (by kernel_rfl) (by exact v1z)) (hB k h2).2.1
      refine q4k (fun vs w=>by kernel_rfl) (.alone fun _=>rfl) (by rfl) c2 fun A' q' M2 hM2 ha2 hb2 hF2=>?_
      (repeat ((try (conv=>whnf));(refine stQ ?_)))
      conv=>whnf
      obtain ⟨p2,r2⟩:=q5z (J:=J1) (J':=setJ J1 k (setC (I k) RA' rq' A' q' (I k).B (I k).pq (I k).C (I k).sq)) (n:=n) (x:=k) (o:=16) (v:=.slice A' (I k).n q') h2 (by omega) (fun y hy=>q1y hy) (by rw [q2x,hk1];rfl)
      refine q7e (o:=k*34+16) p2 r2 ?_
      generalize hJ2:setJ J1 k (setC (I k) RA' rq' A' q' (I k).B (I k).pq (I k).C (I k).sq)=J2
      have hk2:J2 k=setC (I k) RA' rq' A' q' (I k).B (I k).pq (I k).C (I k).sq:=by rw [← hJ2];exact q2x
      have hn2:∀ y,y≠k→J2 y=J1 y:=fun y hy=>by rw [← hJ2];exact q1y hy
      clear hJ2
      conv=>whnf
      have su2:=Mem.le_trans su1 hM2
      have e3:(q0o (fun x=>(J2 x).cells) n)[k*34+19]? = some (.slice (I k).B (I k).pn (I k).pq):=by rw [q39 (c:=fun x=>(J2 x).cells) (sz:=34) (fun _ _=>rfl) h2 (by omega),hk2];rfl
      (repeat ((try (conv=>whnf));(first |(refine q0r _ e3 ?_) |(refine stQ ?_))))
      conv=>whnf
      obtain ⟨⟨w3,A3,s3⟩,_⟩:=id hi.src.pix.2.2
      have c3:=z8v (c:=(I k).pq) ((hi.src.pix.2.2.mono su2).els (sz:=8) (by kernel_rfl)) (ones s3 (by kernel_rfl) (by exact v10)) (hB k h2).2.2.1
      refine q4k (fun vs w=>by kernel_rfl) (.alone fun _=>rfl) (by rfl) c3 fun B' pq' M3 hM3 ha3 hb3 hF3=>?_
      (repeat ((try (conv=>whnf));(refine stQ ?_)))
      conv=>whnf
      obtain ⟨p3,r3⟩:=q5z (J:=J2) (J':=setJ J2 k (setC (I k) RA' rq' A' q' B' pq' (I k).C (I k).sq)) (n:=n) (x:=k) (o:=19) (v:=.slice B' (I k).pn pq') h2 (by omega) (fun y hy=>q1y hy) (by rw [q2x,hk2];rfl)
      refine q7e (o:=k*34+19) p3 r3 ?_
      generalize hJ3:setJ J2 k (setC (I k) RA' rq' A' q' B' pq' (I k).C (I k).sq)=J3
      have hk3:J3 k=setC (I k) RA' rq' A' q' B' pq' (I k).C (I k).sq:=by rw [← hJ3];exact q2x
      have hn3:∀ y,y≠k→J3 y=J2 y:=fun y hy=>by rw [← hJ3];exact q1y hy
      clear hJ3
      conv=>whnf
      have su3:=Mem.le_trans su2 hM3
      have e4:(q0o (fun x=>(J3 x).cells) n)[k*34+20]? = some (.slice (I k).C (I k).sn (I k).sq):=by rw [q39 (c:=fun x=>(J3 x).cells) (sz:=34) (fun _ _=>rfl) h2 (by omega),hk3];rfl
      (repeat ((try (conv=>whnf));(first |(refine q0r _ e4 ?_) |(refine stQ ?_))))
      conv=>whnf
      obtain ⟨⟨w4,A4,s4⟩,_⟩:=id hi.src.soft.2.2
      have c4:=z8w (c:=(I k).sq) ((hi.src.soft.2.2.mono su3).els (sz:=1) (by kernel_rfl)) (ones s4 (by kernel_rfl) (by exact v11)) (hB k h2).2.2.2
      refine q4k (fun vs w=>by kernel_rfl) (.alone fun _=>rfl) (by rfl) c4 fun C' sq' M4 hM4 ha4 hb4 hF4=>?_
      (repeat ((try (conv=>whnf));(refine stQ ?_)))
      conv=>whnf
      obtain ⟨p4,r4⟩:=q5z (J:=J3) (J':=setJ J3 k (setC (I k) RA' rq' A' q' B' pq' C' sq')) (n:=n) (x:=k) (o:=20) (v:=.slice C' (I k).sn sq') h2 (by omega) (fun y hy=>q1y hy) (by rw [q2x,hk3];rfl)
      refine q7e (o:=k*34+20) p4 r4 ?_
      generalize hJ4:setJ J3 k (setC (I k) RA' rq' A' q' B' pq' C' sq')=J4
      have hk4:J4 k=setC (I k) RA' rq' A' q' B' pq' C' sq':=by rw [← hJ4];exact q2x
      have hn4:∀ y,y≠k→J4 y=J3 y:=fun y hy=>by rw [← hJ4];exact q1y hy
      clear hJ4
      conv=>whnf
      have su4:=Mem.le_trans su3 hM4
      (repeat ((try (conv=>whnf));(refine stQ ?_)))
      conv=>whnf
      have l34:=hM4
      have l24:=Mem.le_trans hM3 l34
      have l14:=Mem.le_trans hM2 l24
      refine ⟨⟨k+1,J4,M4⟩,⟨⟨by show k+1≤n;omega,su4,fun x hx=>?_,fun x hx=>?_⟩,Mem.le_trans (Mem.le_trans hM hM1) l14⟩,by show n-(k+1)<n-k;omega,?_⟩
      · have hx:k+1≤x:=hx
        dsimp only
        rw [hn4 x (by omega),hn3 x (by omega),hn2 x (by omega),hn1 x (by omega)]
        exact hold x (by omega)
      · have hx:x<k+1:=hx
        dsimp only
        by_cases hxk:x=k
        · subst hxk
          rw [hk4]
          exact ⟨⟨_,_,_,_,_,_,_,_,rfl⟩,⟨ha1,hb1,(hi.run.2.2.froz (by kernel_rfl) (by omega) hF1).mono l14⟩,⟨⟨ha2,hb2,(hi.src.stop.2.2.froz (by kernel_rfl) (by omega) hF2).mono l24⟩,⟨ha3,hb3,(hi.src.pix.2.2.froz (by kernel_rfl) (by omega) hF3).mono l34⟩,⟨ha4,hb4,hi.src.soft.2.2.froz (by kernel_rfl) (by omega) hF4⟩,hi.src.ink⟩,hi.al⟩
        · rw [hn4 x hxk,hn3 x hxk,hn2 x hxk,hn1 x hxk]
          obtain ⟨q1,q2⟩:=hnew x (by omega)
          exact ⟨q1,q2.mono (Mem.le_trans hM1 l14)⟩
      · dsimp only
        ((refine q0h ?_);(conv=>whnf);(refine q0j (by rfl) (by rfl) flQ ?_))
        exact q0c (by exact flQ) (q0c (by exact flQ) (q0i rfl rfl q0e))
    · have hkn:k=n:=by omega
      subst hkn
      (repeat ((try (conv=>whnf));(refine stQ ?_)))
      conv=>whnf
      refine ⟨fun a=>.agg [.val (.int .i64 W),.val (.int .i64 H),.val (.slice SA' m sq'),a],2,k,_,.last [.val (.int .i64 W),.val (.int .i64 H),.val (.slice SA' m sq')] (fun _=>rfl) rfl,rfl,rfl,SA',sq',J,rfl,rfl,rfl,hq1,hq2,(hS.froz (by kernel_rfl) (by omega) hF1).mono hM,hnew⟩
end
end Go.Proofs.YticolnghiibgfaaGreat
