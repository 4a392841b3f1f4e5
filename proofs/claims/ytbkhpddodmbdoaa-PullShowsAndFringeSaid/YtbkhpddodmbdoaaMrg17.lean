/-
  Merged: XMeet, XErodeLaw, XErodeOk.
-/
import Derived.Test.YtbkhpddodmbdoaaMrg9
import Derived.Test.YtbkhpddodmbdoaaMrg8
import Derived.Test.YtbkhpddodmbdoaaMrg10
import Derived.Test.YtbkhpddodmbdoaaMrg16
import Derived.Test.YtbkhpddodmbdoaaMrg5
import Derived.Test.YtbkhpddodmbdoaaEk
set_option linter.unusedVariables false
set_option linter.unusedSimpArgs false
set_option linter.unnecessarySimpa false
namespace Go.Proofs.Ytbkhpddodmbdoaa
open Go.RowKit
set_option maxRecDepth 20000
theorem RunsM.tail {G:Mem} {A:Option Addr} {r:Run} {t:List Run} {c:Nat} (h:RunsM G A (r::t)) (hc:(r::t).length≤c):RunsM G (if c=1 then A else A.map (fun p=>p.add 3)) t:=by
  intro i q hq
  rw [if_neg (by have:=(List.getElem?_eq_some_iff.1 hq).1;simp only [List.length_cons] at hc;omega)]
  obtain ⟨b,off,rfl,c0,c1,c2⟩:=h (i+1) q (by simpa using hq)
  refine ⟨b,off+3,by simp [q0t],?_,?_,?_⟩
  · rw [show off+3+i*3=off+(i+1)*3 by omega];exact c0
  · rw [show off+3+i*3=off+(i+1)*3 by omega];exact c1
  · rw [show off+3+i*3=off+(i+1)*3 by omega];exact c2
end Go.Proofs.Ytbkhpddodmbdoaa
namespace Go.Proofs.Ytbkhpddodmbdoaa
open Go.RowKit
theorem RowF.slice {G:Mem} {q:Option Value} {l:List Run} (h:RowF G q l):∃ A cap,q.getD (.slice none 0 0)=.slice A l.length cap∧RunsM G A l∧l.length≤cap∧cap≤maxLen:=by
  rcases h with ⟨rfl,rfl⟩ |⟨_,A,cap,rfl,h⟩
  · exact ⟨none,0,rfl,RunsM.nil _ _,Nat.le_refl _,Nat.zero_le _⟩
  · exact ⟨A,cap,rfl,h⟩
theorem RowsM.look {w:Int} {L:List Run} {G:Mem} {f:Int→Option Value} (h:RowsM w L G f none L.length) (y:Int):∃ A cap,(f y).getD (.slice none 0 0)=.slice A (narY w L y).length cap∧RunsM G A (narY w L y)∧(narY w L y).length≤cap∧cap≤maxLen:=by
  have:=h.1 y fun l hl=>by cases hl
  rw [List.take_length] at this
  exact this.slice
end Go.Proofs.Ytbkhpddodmbdoaa
namespace Go.Proofs.Ytbkhpddodmbdoaa
open Go.RowKit
theorem x5n {L:List Run} (h:okR L):L.Pairwise leR:=by
  induction L with
  | nil=>exact List.Pairwise.nil
  | cons r l ih =>
    refine List.Pairwise.cons (fun s hs=>?_) (ih h.2.2)
    have h1:=h.2.1 s hs
    have h2:=h.1
    unfold leR
    omega
end Go.Proofs.Ytbkhpddodmbdoaa
