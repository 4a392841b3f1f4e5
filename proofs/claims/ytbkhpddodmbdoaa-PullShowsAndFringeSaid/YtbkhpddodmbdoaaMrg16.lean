/-
  Merged: XSettle, XRowAt.
-/
import Derived.Test.YtbkhpddodmbdoaaMrg6
import Derived.Test.YtbkhpddodmbdoaaMrg10
import Derived.Test.YtbkhpddodmbdoaaMrg9
import Derived.Test.YtbkhpddodmbdoaaMrg8
set_option linter.unusedVariables false
set_option linter.unusedSimpArgs false
set_option linter.unnecessarySimpa false
namespace Go.Proofs.Ytbkhpddodmbdoaa
open Go.RowKit
end Go.Proofs.Ytbkhpddodmbdoaa
namespace Go.Proofs.Ytbkhpddodmbdoaa
open Go.RowKit
structure RowAt (L:List Run) (i k:Nat) (y:Int):Prop where
  lt:i<k
  le:k≤L.length
  same:∀ t r,i≤t→t<k→L[t]? = some r→r.y=y
  next:∀ r,L[k]? = some r→y<r.y
theorem RowAt.edge {L:List Run} {i t:Nat} {y:Int} (h:RowAt L i t y) {q u:Run} (hq:L[t-1]? = some q) (hu:L[t]? = some u):q.y<u.y:=by
  have:=h.lt
  rw [h.same (t-1) q (by omega) (by omega) hq]
  exact h.next u hu
def narR (w:Int) (r:Run):Option Run:=if r.x0+w<r.x1-w then some ⟨r.y,r.x0+w,r.x1-w⟩ else none
def narY (w:Int) (L:List Run) (y:Int):List Run:=(L.filter fun r=>decide (r.y=y)).filterMap (narR w)
theorem x3y (w:Int) (K L:List Run) (y:Int):narY w (K++L) y=narY w K y++narY w L y:=by simp [narY,List.filter_append,List.filterMap_append]
theorem x2h {w:Int} {L:List Run} {y:Int} (h:∀ r∈L,r.y≠y):narY w L y=[]:=by
  unfold narY
  rw [List.filter_eq_nil_iff.2 fun r hr=>by simpa using h r hr];rfl
theorem z75 {w:Int} {L:List Run} {i k:Nat} {y0 y:Int} (h:RowAt L i k y0) (hne:y≠y0):narY w (L.take k) y=narY w (L.take i) y:=by
  have h1:=h.lt
  have e:L.take k=L.take i++(L.drop i).take (k-i):=by rw [show k=i+(k-i) by omega,List.take_add,show i+(k-i)-i=k-i by omega]
  rw [e,x3y,x2h (L:=(L.drop i).take (k-i)),List.append_nil]
  intro r hr
  obtain ⟨j,hj⟩:=List.getElem?_of_mem hr
  rw [List.getElem?_take] at hj
  split at hj
  · rw [List.getElem?_drop] at hj
    rw [h.same (i+j) r (by omega) (by omega) hj]
    exact fun h=>hne h.symm
  · cases hj
def RowF (G:Mem) (q:Option Value) (l:List Run):Prop:=(l=[]∧q=none)∨(l≠[]∧∃ A cap,q=some (.slice A l.length cap)∧RunsM G A l∧l.length≤cap∧cap≤maxLen)
theorem RowF.mono {G G':Mem} {q:Option Value} {l:List Run} (h:RowF G q l) (hle:G.le G'):RowF G' q l:=by
  rcases h with h |⟨h0,A,cap,h1,h2,h3⟩
  · exact .inl h
  · exact .inr ⟨h0,A,cap,h1,h2.mono hle,h3⟩
def RowsM (w:Int) (L:List Run) (G:Mem) (f:Int→Option Value) (hot:Option (Int × List Run)) (i:Nat):Prop :=
  (∀ y,(∀ l,hot≠some (y,l))→RowF G (f y) (narY w (L.take i) y))∧∀ y l,hot=some (y,l)→l=narY w (L.take i) y∧l≠[]
theorem RowsM.mono {w:Int} {L:List Run} {G G':Mem} {f:Int→Option Value} {hot:Option (Int × List Run)} {i:Nat} (h:RowsM w L G f hot i) (hle:G.le G'):RowsM w L G' f hot i :=
  ⟨fun y hy=>(h.1 y hy).mono hle,h.2⟩
theorem RowsM.next {w:Int} {L:List Run} {G:Mem} {f:Int→Option Value} {i k:Nat} {y0:Int} (h:RowsM w L G f none i) (hK:RowAt L i k y0) {l:List Run} (hl:narY w (L.take k) y0=l) (hne:l≠[]):RowsM w L G f (some (y0,l)) k:=by
  refine ⟨fun y hy=>?_,fun y l' h=>by cases h;exact ⟨hl.symm,hne⟩⟩
  have e:y≠y0:=fun e=>hy l (by rw [e])
  rw [z75 hK e]
  exact h.1 y fun l hl=>by cases hl
theorem RowsM.skip {w:Int} {L:List Run} {G:Mem} {f:Int→Option Value} {i k:Nat} {y0:Int} (h:RowsM w L G f none i) (hK:RowAt L i k y0) (hi:narY w (L.take i) y0=[]) (hl:narY w (L.take k) y0=[]):RowsM w L G f none k:=by
  refine ⟨fun y hy=>?_,fun y l' h=>by cases h⟩
  by_cases e:y=y0
  · subst e
    rw [hl]
    have:=h.1 y fun l hl=>by cases hl
    rwa [hi] at this
  · rw [z75 hK e]
    exact h.1 y fun l hl=>by cases hl
end Go.Proofs.Ytbkhpddodmbdoaa
