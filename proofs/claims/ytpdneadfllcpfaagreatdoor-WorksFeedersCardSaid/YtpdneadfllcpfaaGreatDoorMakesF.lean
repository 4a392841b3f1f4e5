/-
  The engine: a maker of a row of rows; what it hands back stands from then on. No program in sight.
-/
import Derived.Test.YtpdneadfllcpfaaGreatDoorFreeze
set_option linter.unusedVariables false
set_option linter.unusedSimpArgs false
set_option linter.unnecessarySimpa false
namespace Go.Proofs.YtpdneadfllcpfaaGreatDoor
open Go.RowKit
end Go.Proofs.YtpdneadfllcpfaaGreatDoor
