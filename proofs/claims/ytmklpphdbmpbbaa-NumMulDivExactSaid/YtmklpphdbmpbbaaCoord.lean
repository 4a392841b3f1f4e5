/-
  The contract of the reference's Coord.
-/
import Derived.Test.YtmklpphdbmpbbaaProg
import Derived.Test.YtmklpphdbmpbbaaMath
import Derived.Test.YtmklpphdbmpbbaaIn
import Derived.Test.YtmklpphdbmpbbaaPast
import Derived.WalkKit
import Derived.WalkLawsBesides
import Derived.Handy
namespace Go.Proofs.Ytmklpphdbmpbbaa
open Go.RowKit

/-- A permitted point. -/
def ptB (x y : Int) : Bool := inB x (-32767) 32767 && inB y (-32767) 32767
end Go.Proofs.Ytmklpphdbmpbbaa
