/-
  region.Check and the reference's RegionCheck, by the engine.
-/
import Derived.Test.YtbkhpddodmbdoaaMixed2
import Derived.Test.YtbkhpddodmbdoaaRegChk
namespace Go.Proofs.Ytbkhpddodmbdoaa
open Go.RowKit
set_option linter.unusedVariables false
set_option maxRecDepth 20000
theorem errL_ok {L : List Run} (h : errL L = 0) : ValidL L := valid_of h
end Go.Proofs.Ytbkhpddodmbdoaa
