/-
  Slices of records of whole numbers in memory; of bytes too. No program in sight.
-/
import Derived.WalkKit
import Derived.Test.YtpdneadfllcpfaaGreatDoorMath
import Derived.Test.YtpdneadfllcpfaaGreatDoorSees
import Derived.Test.YtpdneadfllcpfaaGreatDoorRuns
set_option linter.unusedVariables false
set_option linter.unusedSimpArgs false
set_option linter.unnecessarySimpa false
namespace Go.Proofs.YtpdneadfllcpfaaGreatDoor
open Go.RowKit Go.ChangeShapes Go.WideShapes Go.Deep
def RecsAt (i:IntKind) (w:World) (A:Option Addr) (n k:Nat) (f:Nat→Nat→Int):Prop :=
  0<n→∃ b off,A=some ⟨b,off,none⟩∧b<w.heap.size∧∀ x,x<n→∀ j,j<k→w.cell? ⟨b,off+x*k+j,none⟩=some (.int i (f x j))
theorem RecsAt.below {i:IntKind} {w w':World} {A:Option Addr} {n k:Nat} {f:Nat→Nat→Int} (h:RecsAt i w A n k f) (hb:Below w.heap.size w w'):RecsAt i w' A n k f:=by
  intro hn
  obtain ⟨b,off,hA,hlt,hc⟩:=h hn
  exact ⟨b,off,hA,Nat.lt_of_lt_of_le hlt hb.size,fun x hx j hj=>(hb.cell (p:=⟨b,_,none⟩) hlt).trans (hc x hx j hj)⟩
section
variable {H:Type} {enc:TypeId × Value→H} {P:Program} {w:World} {base b0:Nat} {spare:Nat→Bool} {held:Bool} {r:Reach} {v:Value} {d:DataW H} {ps:List MemPlace}
end
end Go.Proofs.YtpdneadfllcpfaaGreatDoor
