/-
  morph.erode: the walk (printed by mkerode1.py).
-/
import Derived.Test.YtkicdhaklnmonaaGreatMrg15
import Derived.Test.YtkicdhaklnmonaaGreatMrg13
import Derived.Test.YtkicdhaklnmonaaGreatMrg33
set_option linter.unusedVariables false
set_option linter.unusedSimpArgs false
set_option linter.unnecessarySimpa false
namespace Go.Proofs.YtkicdhaklnmonaaGreat
open Go.RowKit
set_option maxRecDepth 20000
end Go.Proofs.YtkicdhaklnmonaaGreat
