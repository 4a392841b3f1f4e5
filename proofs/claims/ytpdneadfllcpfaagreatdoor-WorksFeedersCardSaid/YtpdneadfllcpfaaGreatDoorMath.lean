/-
  Plain arithmetic on integers: quotients that are cut toward zero and quotients that are rounded down. No program in sight.
-/
import Derived.WalkKit
set_option linter.unusedVariables false
set_option linter.unusedSimpArgs false
set_option linter.unnecessarySimpa false
namespace Go.Proofs.YtpdneadfllcpfaaGreatDoor
open Go.RowKit
end Go.Proofs.YtpdneadfllcpfaaGreatDoor
