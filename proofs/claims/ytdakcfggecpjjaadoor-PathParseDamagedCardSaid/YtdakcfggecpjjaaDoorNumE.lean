/-
  Contracts of Quo, Near, Sqrt for the engine.
-/
import Derived.Test.YtdakcfggecpjjaaDoorTab
import Derived.Test.YtdakcfggecpjjaaDoorQuo
namespace Go.Proofs.YtdakcfggecpjjaaDoor
open Go.RowKit
set_option linter.unusedVariables false
set_option maxRecDepth 20000
end Go.Proofs.YtdakcfggecpjjaaDoor
