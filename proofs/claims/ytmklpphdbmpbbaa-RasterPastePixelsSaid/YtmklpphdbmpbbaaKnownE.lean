/-
  The law's helper known, as a contract of the engine.
-/
import Derived.Test.YtmklpphdbmpbbaaKnown
import Derived.Test.YtmklpphdbmpbbaaEng2
namespace Go.Proofs.Ytmklpphdbmpbbaa
open Go.RowKit
set_option linter.unusedVariables false
theorem known_gives (G : Mem) : Gives Try.prog 15 [] G (.val (.bool true)) :=
  Gives.of_calls (args := []) fun w _ => known_any w
end Go.Proofs.Ytmklpphdbmpbbaa
