/-
  morph.erode: the walk (printed by mkerode1.py).
-/
import Derived.Test.YtbkhpddodmbdoaaMrg17
import Derived.Test.YtbkhpddodmbdoaaMrg9
import Derived.Test.YtbkhpddodmbdoaaMrg23
import Derived.Test.YtbkhpddodmbdoaaEk
set_option linter.unusedVariables false
set_option linter.unusedSimpArgs false
set_option linter.unnecessarySimpa false
namespace Go.Proofs.Ytbkhpddodmbdoaa
open Go.RowKit
set_option maxRecDepth 20000
end Go.Proofs.Ytbkhpddodmbdoaa
