/-
  The contract of the reference's Down.
-/
import Derived.Test.YtdakcfggecpjjaaDoorProg
import Derived.Test.YtdakcfggecpjjaaDoorMrg3
import Derived.WalkKit
import Derived.WalkLawsBesides
import Derived.Handy
namespace Go.Proofs.YtdakcfggecpjjaaDoor
open Go.RowKit


end Go.Proofs.YtdakcfggecpjjaaDoor
