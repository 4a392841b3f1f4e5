/-
  The contract of the reference's In.
-/
import Derived.Test.YtdakcfggecpjjaaDoorProg
import Derived.Test.YtdakcfggecpjjaaDoorMrg3
import Derived.WalkKit
import Derived.WalkLawsBesides
import Derived.Handy
namespace Go.Proofs.YtdakcfggecpjjaaDoor
open Go.RowKit

theorem In_any (x l h : Int) (w : World) :
    Calls Tryd.prog 28 #[.int .i64 x, .int .i64 l, .int .i64 h] w fun e w' => e = .returned (.bool (inB x l h)) ∧ w = w' := by
  by_cases h1 : l ≤ x <;> by_cases h2 : x ≤ h
  all_goals
    go_enter Tryd.func28, Tryd.ntmps28
    go_wp2
    go_ret
    exact ⟨ret_bool (by simp [inB, h1, h2]), rfl⟩

end Go.Proofs.YtdakcfggecpjjaaDoor
