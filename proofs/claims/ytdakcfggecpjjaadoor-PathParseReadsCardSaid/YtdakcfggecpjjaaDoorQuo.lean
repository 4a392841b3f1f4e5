/-
  Contracts of Quo and Near of package num.
-/
import Derived.Test.YtdakcfggecpjjaaDoorProg
import Derived.Test.YtdakcfggecpjjaaDoorMath
import Derived.WalkKit
import Derived.WalkLawsBesides
import Derived.Handy
namespace Go.Proofs.YtdakcfggecpjjaaDoor
open Go.RowKit



end Go.Proofs.YtdakcfggecpjjaaDoor
