/-
  Contracts of Quo and Near of package num.
-/
import Derived.Test.YtmklpphdbmpbbaaProg
import Derived.Test.YtmklpphdbmpbbaaMath
import Derived.WalkKit
import Derived.WalkLawsBesides
import Derived.Handy
namespace Go.Proofs.Ytmklpphdbmpbbaa
open Go.RowKit



end Go.Proofs.Ytmklpphdbmpbbaa
