/-
  Merged: XPainted, XComposeMix.
-/
import Derived.Test.YticolnghiibgfaaGreatMrg6
set_option linter.unusedVariables false
set_option linter.unusedSimpArgs false
set_option linter.unnecessarySimpa false
namespace Go.Proofs.YticolnghiibgfaaGreat
open Go.RowKit
end Go.Proofs.YticolnghiibgfaaGreat
namespace Go.Proofs.YticolnghiibgfaaGreat
open Go.RowKit
end Go.Proofs.YticolnghiibgfaaGreat
