/-
  region.Check and the reference's RegionCheck, by the engine.
-/
import Derived.Test.YtiakdbcikmkomaaMrg10
import Derived.Test.YtiakdbcikmkomaaRegChk
namespace Go.Proofs.Ytiakdbcikmkomaa
open Go.RowKit
set_option linter.unusedVariables false
set_option maxRecDepth 20000
theorem errL_ok {L : List Run} (h : errL L = 0) : ValidL L := valid_of h
end Go.Proofs.Ytiakdbcikmkomaa
