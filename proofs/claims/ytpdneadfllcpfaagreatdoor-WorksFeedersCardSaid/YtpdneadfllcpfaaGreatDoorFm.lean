/-
  Rows of elements, each given by its cells. No program in sight.
-/
import Derived.Test.YtpdneadfllcpfaaGreatDoorEz
set_option linter.unusedVariables false
set_option linter.unusedSimpArgs false
set_option linter.unnecessarySimpa false
namespace Go.Proofs.YtpdneadfllcpfaaGreatDoor
open Go.RowKit
section
variable {α:Type} {enc:α→List Value} {k:Nat}
end
end Go.Proofs.YtpdneadfllcpfaaGreatDoor
