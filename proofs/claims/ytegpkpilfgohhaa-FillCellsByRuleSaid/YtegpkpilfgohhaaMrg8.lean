/-
  Merged: XFm, XStand, XNumE.
-/
import Derived.Test.YtegpkpilfgohhaaMrg6
import Derived.Test.YtegpkpilfgohhaaFreeze
import Derived.Test.YtegpkpilfgohhaaMrg7
import Derived.Test.YtegpkpilfgohhaaMrg5
set_option linter.unusedVariables false
set_option linter.unusedSimpArgs false
set_option linter.unnecessarySimpa false
namespace Go.Proofs.Ytegpkpilfgohhaa
open Go.RowKit
section
variable {α:Type} {enc:α→List Value} {k:Nat}
theorem q12 (hk:∀ x,(enc x).length=k):∀ (l:List α),(l.flatMap enc).length=l.length*k
  | []=>by simp
  | a::l=>by rw [List.flatMap_cons,List.length_append,hk,q12 hk l,List.length_cons,Nat.add_mul];omega
theorem q7d (hk:∀ x,(enc x).length=k):∀ (l:List α) (i j:Nat) (x:α),l[i]? = some x→j<k→(l.flatMap enc)[i*k+j]? = (enc x)[j]?
  | [],i,j,x,h,_=>by simp at h
  | a::l,0,j,x,h,hj=>by
    simp at h;subst h
    rw [List.flatMap_cons,Nat.zero_mul,Nat.zero_add,List.getElem?_append_left (by rw [hk];exact hj)]
  | a::l,i+1,j,x,h,hj=>by
    rw [List.flatMap_cons,List.getElem?_append_right (by rw [hk,Nat.add_mul];omega),hk]
    rw [show (i+1)*k+j-k=i*k+j by rw [Nat.add_mul];omega]
    exact q7d hk l i j x (by simpa using h) hj
end
end Go.Proofs.Ytegpkpilfgohhaa
namespace Go.Proofs.Ytegpkpilfgohhaa
open Go.RowKit
def Blk.plugB (k b:Nat):Blk→Blk
  | .cells t l=>.cells t (q7c k b l)
  | .lp i l st p=>.lp i (q7c k b l) st p
  | .mp f ks l=>.mp f ks (q7c k b l)
  | x=>x
def z13 (k b:Nat) (l:List Blk):(List Blk→Prop)→Prop :=
  List.rec (motive:=fun _=>(List Blk→Prop)→Prop) (fun K=>K []) (fun x _ ih K=>ih fun m=>match x with
    | .cells t cs=>q3r k b cs fun cs'=>K (.cells t cs'::m)
    | .own e sz n xs=>K (.own e sz n xs::m)
    | .gone=>K (.gone::m)
    | .muts S=>K (.muts S::m)
    | .lp i fr st p=>q3r k b fr fun fr'=>K (.lp i fr' st p::m)
    | .mp f ks vs=>q3r k b vs fun vs'=>K (.mp f ks vs'::m)) l
theorem z09 (k b:Nat):∀ (l:List Blk) (K:List Blk→Prop),z13 k b l K=K (l.map (Blk.plugB k b))
  | [],_=>rfl
  | x::l,K=>by
    show z13 k b l (fun m=>match x with
      | .cells t cs=>q3r k b cs fun cs'=>K (.cells t cs'::m)
      | .own e sz n xs=>K (.own e sz n xs::m)
      | .gone=>K (.gone::m)
      | .muts S=>K (.muts S::m)
      | .lp i fr st p=>q3r k b fr fun fr'=>K (.lp i fr' st p::m)
      | .mp f ks vs=>q3r k b vs fun vs'=>K (.mp f ks vs'::m))=_
    rw [z09 k b l]
    cases x with
    | cells t cs=>simp only [q4j];rfl
    | own e sz n xs=>rfl
    | gone=>rfl
    | muts S=>rfl
    | lp i fr st p=>simp only [q4j];rfl
    | mp f ks vs=>simp only [q4j];rfl
theorem HR.plugB {w0:World} {G0:Mem} {β:Nm} {hp:List Blk} {G:Mem} {w:World} (hr:HR w0 G0 β hp G w) {k b:Nat} {v:Value} (hv:β k=some v) (hb:q0c v=some b):HR w0 G0 β (hp.map (Blk.plugB k b)) G w:=by
  have live:∀ x:Blk,(x.plugB k b).live=x.live:=fun x=>by cases x <;> rfl
  refine ⟨hr.below,hr.hold,hr.sub,hr.grow,fun j y hj=>?_,fun i j y y' x x' c hne hi hj hx hx' hl hl' hy=>?_,z5n hr.wrt (fun x S e=>by cases x <;> first |exact e |cases e)⟩
  · obtain ⟨x,h1,h2⟩:=hr.blk j y hj
    refine ⟨x.plugB k b,by rw [List.getElem?_map,h1];rfl,?_⟩
    cases x with
    | gone=>trivial
    | muts S=>exact h2.elim
    | cells t l =>
      obtain ⟨b',c,q1,q2,q3,q4,q5⟩:=h2
      exact ⟨b',c,q1,q2,q3,q4,q4i hv hb q5⟩
    | own e sz n xs=>exact h2
    | lp i fr st p =>
      obtain ⟨q1,q2,q3,tm,q4,q5⟩:=h2
      exact ⟨q1,q2,q3,tm,q4,q4i hv hb q5⟩
    | mp f ks vs =>
      obtain ⟨b',ys,q1,q2,q3,q4,q5,q6⟩:=h2
      exact ⟨b',ys,q1,q2,q3,q4,q5,q4i hv hb q6⟩
  · rw [List.getElem?_map] at hx hx'
    cases h1:hp[i]? with
    | none=>rw [h1] at hx;cases hx
    | some z =>
      cases h2:hp[j]? with
      | none=>rw [h2] at hx';cases hx'
      | some z' =>
        rw [h1] at hx;rw [h2] at hx'
        simp only [Option.map_some,Option.some.injEq] at hx hx'
        subst hx;subst hx'
        rw [live] at hl hl'
        exact hr.inj i j y y' z z' c hne hi hj h1 h2 hl hl' hy
theorem q5j {P:Program} {f:FuncId} (k q:Nat) (hen:∀ vs w,(callFunc f vs).run P w=.ok (.enter f vs) w) {args:List AV} {hp:List Blk} {G:Mem} {K:AV→List Blk→Mem→Prop} {t tq:TypeId} {l lq:List AV} {xs:List Value}
    (hin:q5c q args=true) (hq:nthB hp q=.cells tq lq) (hkq:q5c k lq=true) (hk:nthB hp k=.cells t l) (hl:l=xs.map .val)
    (h:∀ b G',G.le G'→(∀ (j:Nat) u,xs[j]? = some u→G'.cell? ⟨b,j,none⟩=some u)→z13 k b hp fun hp1=>setF hp1 k .gone fun hp2=>CallP P f args hp2 G' K):CallP P f args hp G K:=by
  refine ⟨hen,fun w0 G0 β w vs hr ha=>?_⟩
  obtain ⟨vq,hvq⟩:=q5d ha hin
  obtain ⟨x,h1,h2⟩:=hr.blk q vq hvq
  rw [q0l hq rfl] at h1;cases h1
  obtain ⟨_,cs,_,_,_,_,q5⟩:=h2
  obtain ⟨v,hv⟩:=q5d q5 hkq
  obtain ⟨b,G',hb,hle,hc,hr'⟩:=hr.stand hv hk hl
  have h0:=h b G' hle hc
  rw [z09,q06] at h0
  have hr2:=hr'.plugB hv hb
  have e:(hp.set k .gone).map (Blk.plugB k b)=(hp.map (Blk.plugB k b)).set k .gone:=by
    rw [List.map_set];rfl
  rw [e] at hr2
  exact h0.calls w0 G0 β w vs hr2 ha
section
variable {α:Type} {enc:α→List Value} {k:Nat}
theorem z81 (hk:∀ x,(enc x).length=k) (h0:0<k) {l:List α} {A:Option Addr} {G:Mem} (h:l.flatMap enc=[]∨∃ b,A=some ⟨b,0,none⟩∧∀ (j:Nat) u,(l.flatMap enc)[j]? = some u→G.cell? ⟨b,j,none⟩=some u) {i:Nat} {x:α} (hi:l[i]? = some x) :
    ∃ p:Addr,A=some p∧∀ K:List Value→Prop,K (enc x)→OldCells G (p.add (i*k)) k K:=by
  have hx:∀ j,j<k→(l.flatMap enc)[i*k+j]? = (enc x)[j]?:=fun j hj=>q7d hk l i j x hi hj
  rcases h with h |⟨b,rfl,h⟩
  · have:=hx 0 h0
    rw [h] at this
    have h2:(enc x)[0]? = some ((enc x)[0]'(by rw [hk];exact h0)):=List.getElem?_eq_getElem _
    rw [h2] at this;simp at this
  · refine ⟨_,rfl,fun K hK=>q3w _ (hk x) (fun j u hj=>?_) hK⟩
    have hjk:j<k:=by have:=(List.getElem?_eq_some_iff.1 hj).1;rw [hk] at this;exact this
    rw [q0r,q0r,Nat.zero_add]
    exact h _ _ (by rw [hx j hjk];exact hj)
theorem q7e (hk:∀ x,(enc x).length=k) {l:List α} {i:Nat} {x:α} (hi:l[i]? = some x) (K:List Value→Prop) (h:K (enc x)):OwnCells (l.flatMap enc) (i*k) k K :=
  q5i _ (hk x) (fun j v hj=>by
    have hjk:j<k:=by have:=(List.getElem?_eq_some_iff.1 hj).1;rw [hk] at this;exact this
    rw [q7d hk l i j x hi hjk];exact hj) h
end
end Go.Proofs.Ytegpkpilfgohhaa
namespace Go.Proofs.Ytegpkpilfgohhaa
open Go.RowKit
set_option maxRecDepth 20000
theorem z73 {a b:Int} {G:Mem} (ha:-4611686018427387904≤a∧a≤4611686018427387904) (hb:1≤b∧b≤4611686018427387904):Gives Try.prog 71 [.val (.int .i64 a),.val (.int .i64 b)] G (.val (.int .i64 (a/b))) :=
  Gives.of_calls (args:=[.int .i64 a,.int .i64 b]) fun w _=>(z9w a b w ha hb).mono fun _ _ h=>⟨h.1,h.2 ▸ Below.refl _ _⟩
end Go.Proofs.Ytegpkpilfgohhaa
