/-
  The parts of an outline in memory, each a row that may be written. No program in sight.
-/
import Derived.Test.YtegpkpilfgohhaaROut
import Derived.Test.YtegpkpilfgohhaaMrg19
import Derived.Test.YtegpkpilfgohhaaMrg20
import Derived.Test.YtegpkpilfgohhaaMrg10
set_option linter.unusedVariables false
set_option linter.unusedSimpArgs false
set_option linter.unnecessarySimpa false
namespace Go.Proofs.Ytegpkpilfgohhaa
open Go.RowKit
def rowV (B:Nat→Value) (ps:List (List (Int × Int))):List Value:=q2x (fun i=>[B i,.bool true]) ps.length
theorem q1m (B:Nat→Value) (ps:List (List (Int × Int))) (q:List (Int × Int)) (v:Value):rowV (putV B ps.length v) (ps++[q])=rowV B ps++[v,.bool true]:=by
  unfold rowV
  rw [List.length_append,List.length_singleton,q2x]
  congr 1
  · exact q5l fun i hi=>by rw [q19 (by omega)]
  · rw [q2l]
structure OutM (G0:Mem) (E:TypeId) (S:Nat→Prop) (M:Mem) (ps:List (List (Int × Int))) (B:Nat→Value):Prop where
  le:G0.le M
  rows:∀ k,k<ps.length→RowS S M E 2 (B k) (nthL ps k).length (q0r (nthL ps k))
  apart:∀ k l b,k<ps.length→l<ps.length→k≠l→q0f (B k)=some b→q0f (B l)≠some b
  free:∀ k b,k<ps.length→q0f (B k)=some b→G0 b=none
section
variable {G0:Mem} {E:TypeId} {S S':Nat→Prop} {M M':Mem} {ps:List (List (Int × Int))} {B:Nat→Value} {v:Value} {q:List (Int × Int)}
theorem OutM.nil:OutM G0 E S G0 [] B:=⟨Mem.le_refl _,fun k hk=>(by cases hk),fun k l b hk=>(by cases hk),fun k b hk=>(by cases hk)⟩
theorem OutM.add (h:OutM G0 E S M ps B) (hN:RowN S M v S' M') (hR:RowS S' M' E 2 v q.length (q0r q)):OutM G0 E S' M' (ps++[q]) (putV B ps.length v):=by
  have hne:∀ k,k<ps.length→∀ b,q0f (B k)=some b→q0f v≠some b:=fun k hk b hb e=>by
    obtain ⟨_,o,ho⟩:=(h.rows k hk).blk hb
    rw [hN.fresh b e] at ho;cases ho
  refine ⟨Mem.le_trans h.le hN.le,fun k hk=>?_,fun k l b hk hl hkl hb=>?_,fun k b hk hb=>?_⟩
  · rw [List.length_append,List.length_singleton] at hk
    by_cases e:k=ps.length
    · subst e;rw [q2l,q9q];exact hR
    · rw [q19 e,q9p (by omega)]
      exact (h.rows k (by omega)).of hN.more fun b hb=>hN.rest b (hne k (by omega) b hb)
  · rw [List.length_append,List.length_singleton] at hk hl
    by_cases e1:k=ps.length
    · subst e1
      rw [q2l] at hb
      rw [q19 (by omega)]
      exact fun e2=>hne l (by omega) b e2 hb
    · rw [q19 e1] at hb
      by_cases e2:l=ps.length
      · subst e2;rw [q2l];exact hne k (by omega) b hb
      · rw [q19 e2];exact h.apart k l b (by omega) (by omega) hkl hb
  · rw [List.length_append,List.length_singleton] at hk
    by_cases e1:k=ps.length
    · subst e1
      rw [q2l] at hb
      exact Mem.le.none h.le (hN.fresh b hb)
    · rw [q19 e1] at hb;exact h.free k b (by omega) hb
theorem OutM.stand (h:OutM G0 E S M ps B) (hN:RowN S M v S' M'):OutM G0 E S' M' ps B :=
  ⟨Mem.le_trans h.le hN.le,fun k hk=>(h.rows k hk).of hN.more fun b hb=>hN.rest b fun e=>(by
    obtain ⟨_,o,ho⟩:=(h.rows k hk).blk hb
    rw [hN.fresh b e] at ho;cases ho),h.apart,h.free⟩
theorem x0d {k l:Nat} (hk:k<ps.length):nthL (ps.set k q) l=if l=k then q else nthL ps l:=by
  by_cases e:l=k
  · subst e
    rw [if_pos rfl]
    have h1:(ps.set l q)[l]? = some q:=List.getElem?_set_self hk
    rw [q11 (by simpa using hk)] at h1
    exact Option.some.inj h1
  · rw [if_neg e]
    by_cases hl:l<ps.length
    · have h1:(ps.set k q)[l]? = ps[l]?:=List.getElem?_set_ne (fun e2=>e e2.symm)
      rw [q11 hl,q11 (by simpa using hl)] at h1
      exact Option.some.inj h1
    · unfold nthL
      rw [getElem!_def,getElem!_def,List.getElem?_eq_none (by simpa using hl),List.getElem?_eq_none (by omega)]
theorem OutM.mend {k:Nat} (h:OutM G0 E S M ps B) (hk:k<ps.length) (hG:RowG S M (B k) S' M' (B k)) (hR:RowS S' M' E 2 (B k) q.length (q0r q)):OutM G0 E S' M' (ps.set k q) B:=by
  refine ⟨fun b o hb=>hG.old b o (h.le b o hb) fun e=>(by rw [h.free k b hk e] at hb;cases hb),fun l hl=>?_,fun i j b hi hj hij hb=>?_,fun i b hi hb=>?_⟩
  · rw [List.length_set] at hl
    rw [x0d hk]
    by_cases e:l=k
    · rw [if_pos e,e];exact hR
    · rw [if_neg e]
      exact hG.row (h.rows l hl) fun b hb=>h.apart l k b hl hk e hb
  · rw [List.length_set] at hi hj;exact h.apart i j b hi hj hij hb
  · rw [List.length_set] at hi;exact h.free i b hi hb
theorem RowS.pts (h:RowS S M E 2 v q.length (q0r q)):∃ A c,v=.slice A q.length c∧PtsM M A q∧q.length≤c∧c≤maxLen:=by
  obtain ⟨A,c,rfl,h1,h2⟩:=h.isSl
  exact ⟨A,c,rfl,q4m h.flat,h1,h2⟩
def lnV (v:Value) (p:List (Int × Int)):LineD:=match v with
  | .slice A n c=>⟨A,p.length,c,fun j=>(nthP p j).1,fun j=>(nthP p j).2,true⟩
  | _=>⟨none,p.length,0,fun j=>(nthP p j).1,fun j=>(nthP p j).2,true⟩
theorem z2t {A:Option Addr} (h:PtsM M A q):ElsM M A 2 q.length (ptC (fun j=>(nthP q j).1) fun j=>(nthP q j).2):=by
  refine ⟨fun _ _=>rfl,fun x hx=>?_⟩
  obtain ⟨b,off,rfl,h1,h2⟩:=h x _ (q10 hx)
  refine ⟨b,off,rfl,fun j u hj=>?_⟩
  match j,hj with
  | 0,hj=>simp at hj;subst hj;exact h1
  | 1,hj=>simp at hj;subst hj;exact h2
theorem OutM.lines {A:Option Addr} (h:OutM G0 E S M ps B) (hF:FlatM M A (rowV B ps)):LinesM M A ps.length fun k=>lnV (B k) (nthL ps k):=by
  have hv:∀ k,k<ps.length→∃ A c,B k=.slice A (nthL ps k).length c∧PtsM M A (nthL ps k)∧(nthL ps k).length≤c∧c≤maxLen:=fun k hk=>(h.rows k hk).pts
  refine ⟨(hF.els (sz:=2) (fun _ _=>rfl) (by omega)).congr fun k hk=>?_,fun k hk=>?_,fun k hk=>?_⟩
  · obtain ⟨A',c,e,_⟩:=hv k hk
    show _=LineD.cells _
    rw [e];rfl
  · obtain ⟨A',c,e,hp,_⟩:=hv k hk
    show ElsM M (lnV (B k) _).A 2 (lnV (B k) _).n _
    rw [e];exact z2t hp
  · obtain ⟨A',c,e,_,h1,h2⟩:=hv k hk
    show (lnV (B k) _).n≤(lnV (B k) _).q∧_
    rw [e];exact ⟨h1,h2⟩
theorem OutM.parts (h:OutM G0 E S M ps B):∃ a,PartM M a ps∧∀ k,k<ps.length→∃ c,B k=.slice (a k) (nthL ps k).length c:=by
  refine ⟨fun k=>match B k with | .slice A _ _=>A |_=>none,fun k hk=>?_,fun k hk=>?_⟩
  · obtain ⟨A',c,e,hp,_⟩:=(h.rows k hk).pts
    show PtsM M (match B k with | .slice A _ _=>A |_=>none) _
    rw [e];exact hp
  · obtain ⟨A',c,e,hp,_⟩:=(h.rows k hk).pts
    exact ⟨c,by show B k=.slice (match B k with | .slice A _ _=>A |_=>none) _ c;rw [e]⟩
end
def arP (p:List (Int × Int)):Int:=q4b (fun j=>(nthP p j).1) (fun j=>(nthP p j).2) p.length 0 p.length
theorem z9b (v:Value) (p:List (Int × Int)):q23 (fun _=>lnV v p) 1=arP p:=by
  unfold q23 q23 arP lnV
  cases v <;> rfl
def orP (p:List (Int × Int)):List (Int × Int):=if arP p<0 then p.reverse else p
def q49 (ps:List (List (Int × Int))):Bool:=q13 (fun k=>lnV (.slice none 0 0) (nthL ps k)) ps.length
theorem q7i (B:Nat→Value) (ps:List (List (Int × Int))):q13 (fun k=>lnV (B k) (nthL ps k)) ps.length=q49 ps:=by
  have key:∀ (v:Value) (p:List (Int × Int)),z1u (lnV v p)=z1u (lnV (.slice none 0 0) p):=fun v p=>by cases v <;> rfl
  unfold q49 q13
  congr 1
  funext k
  exact key _ _
end Go.Proofs.Ytegpkpilfgohhaa
