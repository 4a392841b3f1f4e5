/-
  The contract of the reference's Coord.
-/
import Derived.Test.YtdakcfggecpjjaaDoorProg
import Derived.Test.YtdakcfggecpjjaaDoorMrg3
import Derived.Test.YtdakcfggecpjjaaDoorIn
import Derived.Test.YtdakcfggecpjjaaDoorPast
import Derived.WalkKit
import Derived.WalkLawsBesides
import Derived.Handy
namespace Go.Proofs.YtdakcfggecpjjaaDoor
open Go.RowKit

/-- A permitted point. -/
def ptB (x y : Int) : Bool := inB x (-32767) 32767 && inB y (-32767) 32767
set_option maxHeartbeats 1000000 in
theorem Coord_any (x y : Int) (w : World) :
    Calls Tryd.prog 29 #[.agg #[.int .i64 x, .int .i64 y]] w fun e w' => e = .returned (.bool (ptB x y)) ∧ (w.alloc (.cells #[.int .i64 x, .int .i64 y] 62)) = w' := by
  go_enter Tryd.func29, Tryd.ntmps29
  go_wp2_with (first | (go_at_call 28; refine (In_any _ _ _ _).mono ?_; rintro e w' ⟨rfl, rfl⟩))
  all_goals go_ret
  all_goals refine ⟨ret_bool ?_, rfl⟩
  all_goals (go_tidy; unfold ptB; simp [*])
end Go.Proofs.YtdakcfggecpjjaaDoor
