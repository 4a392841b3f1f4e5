/-
  Merged: XCombined, XRegCheckE, XRect, XBothU, XRegions, XAreaR.
-/
import Derived.Test.YticolnghiibgfaaGreatMrg24
import Derived.Test.YticolnghiibgfaaGreatMrg22
import Derived.Test.YticolnghiibgfaaGreatMrg14
import Derived.Test.YticolnghiibgfaaGreatCombine
set_option linter.unusedVariables false
set_option linter.unusedSimpArgs false
set_option linter.unnecessarySimpa false
namespace Go.Proofs.YticolnghiibgfaaGreat
open Go.RowKit
set_option maxRecDepth 20000
theorem RunsM.flat {G:Mem} {A:Option Addr} {L:List Run} (h:RunsM G A L) (hne:L≠[]):∃ p:Addr,A=some p∧∀ K:List Value→Prop,K (q1u L)→OldCells G p (L.length*3) K:=by
  cases L with
  | nil=>exact absurd rfl hne
  | cons r l =>
    obtain ⟨b,off,rfl,_⟩:=h 0 r (by simp)
    refine ⟨_,rfl,fun K k=>q1e _ (q3w _) (fun j u hj=>?_) k⟩
    have hlt:=(List.getElem?_eq_some_iff.1 hj).1
    rw [q3w] at hlt
    obtain ⟨q,hq⟩:∃ q,(r::l)[j/3]? = some q:=⟨_,List.getElem?_eq_getElem (by omega)⟩
    obtain ⟨b',off',he,c0,c1,c2⟩:=h (j/3) q hq
    cases he
    obtain ⟨d0,d1,d2⟩:=q6b hq
    rw [q0k]
    have hm:j%3=0∨j%3=1∨j%3=2:=by omega
    rcases hm with h0 |h0 |h0
    · have e:j/3*3=j:=by omega
      rw [e] at c0 d0;rw [hj] at d0;cases d0;exact c0
    · have e:j/3*3+1=j:=by omega
      rw [Nat.add_assoc,e] at c1;rw [e] at d1;rw [hj] at d1;cases d1;exact c1
    · have e:j/3*3+2=j:=by omega
      rw [Nat.add_assoc,e] at c2;rw [e] at d2;rw [hj] at d2;cases d2;exact c2
theorem RunsM.src {G:Mem} {A:Option Addr} {L:List Run} (h:RunsM G A L) {K:Nat→List Value→Prop} (k:K L.length (q1u L)):SrcV G A L.length 3 K:=by
  refine ⟨q1u L,q3w L,fun hn=>?_,x4n,k⟩
  obtain ⟨p,h1,h2⟩:=h.flat (by intro e;subst e;simp at hn)
  obtain ⟨vs,⟨h3,h4⟩,h5⟩:=h2 (fun vs=>vs=q1u L) rfl
  exact ⟨p,h1,h5 ▸ h4⟩
structure RowsOf (L:List Run) (i:Nat) (l:List Int):Prop where
  le:i≤L.length
  srt:q41 l
  len:l.length≤i
  has:∀ (j:Nat) r,j<i→L[j]? = some r→r.y∈l
  back:∀ y∈l,∃ (j:Nat) (r:Run),j<i∧L[j]? = some r∧r.y=y
theorem RowsOf.step {L:List Run} {i:Nat} {l:List Int} (h:RowsOf L i l) {r:Run} (hr:L[i]? = some r):RowsOf L (i+1) (ins r.y l) :=
  ⟨(List.getElem?_eq_some_iff.1 hr).1,q8j h.srt,by have:=q8k (x:=r.y) (l:=l);have:=h.len;omega,fun j q hj hq=>by
    rcases Nat.lt_or_ge j i with h1 |h1
    · exact mem_ins.2 (.inr (h.has j q h1 hq))
    · have:j=i:=by omega
      subst this;rw [hr] at hq;cases hq;exact mem_ins.2 (.inl rfl),fun y hy=>by
    rcases mem_ins.1 hy with rfl |hy
    · exact ⟨i,r,Nat.lt_succ_self i,hr,rfl⟩
    · obtain ⟨j,q,h1,h2,h3⟩:=h.back y hy
      exact ⟨j,q,by omega,h2,h3⟩⟩
structure EdgesOf (L:List Run) (Y:Int) (i:Nat) (l:List Int):Prop where
  le:i≤L.length
  srt:q41 l
  len:l.length≤2*i
  has:∀ (j:Nat) r,j<i→L[j]? = some r→r.y=Y→r.x0∈l∧r.x1∈l
theorem EdgesOf.skip {L:List Run} {Y:Int} {i:Nat} {l:List Int} (h:EdgesOf L Y i l) {r:Run} (hr:L[i]? = some r) (hy:r.y≠Y):EdgesOf L Y (i+1) l :=
  ⟨(List.getElem?_eq_some_iff.1 hr).1,h.srt,by have:=h.len;omega,fun j q hj hq hqy=>by
    rcases Nat.lt_or_ge j i with h1 |h1
    · exact h.has j q h1 hq hqy
    · have:j=i:=by omega
      subst this;rw [hr] at hq;cases hq;exact absurd hqy hy⟩
theorem EdgesOf.step {L:List Run} {Y:Int} {i:Nat} {l:List Int} (h:EdgesOf L Y i l) {r:Run} (hr:L[i]? = some r):EdgesOf L Y (i+1) (ins r.x1 (ins r.x0 l)) :=
  ⟨(List.getElem?_eq_some_iff.1 hr).1,q8j (q8j h.srt),by
    have:=q8k (x:=r.x1) (l:=ins r.x0 l);have:=q8k (x:=r.x0) (l:=l);have:=h.len;omega,fun j q hj hq hqy=>by
    rcases Nat.lt_or_ge j i with h1 |h1
    · have:=h.has j q h1 hq hqy
      exact ⟨mem_ins.2 (.inr (mem_ins.2 (.inr this.1))),mem_ins.2 (.inr (mem_ins.2 (.inr this.2)))⟩
    · have:j=i:=by omega
      subst this;rw [hr] at hq;cases hq
      exact ⟨mem_ins.2 (.inr (mem_ins.2 (.inl rfl))),mem_ins.2 (.inl rfl)⟩⟩
end Go.Proofs.YticolnghiibgfaaGreat
namespace Go.Proofs.YticolnghiibgfaaGreat
open Go.RowKit
set_option maxRecDepth 20000
theorem x27 {L:List Run} (h:errL L=0):ValidL L:=x8l h
end Go.Proofs.YticolnghiibgfaaGreat
namespace Go.Proofs.YticolnghiibgfaaGreat
open Go.RowKit
set_option maxRecDepth 20000
def q5q (x0 x1 y:Int) (n:Nat):List Value:=(List.range n).flatMap fun (i:Nat)=>[.int .i64 (y+i),.int .i64 x0,.int .i64 x1]
theorem x8v (x0 x1 y:Int) (n:Nat):(q5q x0 x1 y n).length=n*3:=by
  unfold q5q
  induction n with
  | zero=>rfl
  | succ n ih=>rw [List.range_succ,List.flatMap_append,List.length_append,ih];simp;omega
theorem x6w (x0 x1 y:Int) (n:Nat):q5q x0 x1 y (n+1)=q5q x0 x1 y n++[.int .i64 (y+n),.int .i64 x0,.int .i64 x1]:=by
  unfold q5q;rw [List.range_succ,List.flatMap_append];simp
def x9p (e:Int) (a:AV):AV:=.tup [a,.val (.int .i64 e)]
theorem z37 (e:Int):Wraps (x9p e):=.pair (.val (.int .i64 e)) (fun _=>rfl) rfl
end Go.Proofs.YticolnghiibgfaaGreat
namespace Go.Proofs.YticolnghiibgfaaGreat
open Go.RowKit
set_option maxRecDepth 20000
section
variable {A B:Option Addr} {La Lb:List Run} {c d:Nat} {G:Mem}
end
end Go.Proofs.YticolnghiibgfaaGreat
namespace Go.Proofs.YticolnghiibgfaaGreat
open Go.RowKit
set_option maxRecDepth 20000
theorem RunsM.take {G:Mem} {A:Option Addr} {L:List Run} (h:RunsM G A L) (n:Nat):RunsM G A (L.take n):=fun i r hr=>by
  rw [List.getElem?_take] at hr
  split at hr
  · exact h i r hr
  · cases hr
end Go.Proofs.YticolnghiibgfaaGreat
namespace Go.Proofs.YticolnghiibgfaaGreat
open Go.RowKit
set_option maxRecDepth 20000
section
variable {A:Option Addr} {L:List Run} {c:Nat} {G:Mem} {x y:Int}
end
end Go.Proofs.YticolnghiibgfaaGreat
