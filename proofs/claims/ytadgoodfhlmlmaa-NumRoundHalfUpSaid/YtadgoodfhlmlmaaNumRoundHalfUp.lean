/-
  The walk of the law NumRoundHalfUp: num.Round returns what the reference returns.
-/
import Derived.Test.YtadgoodfhlmlmaaRound
namespace Go.Proofs.Ytadgoodfhlmlmaa.numRoundHalfUp
open Go.RowKit

set_option maxHeartbeats 800000 in
theorem walk (a b : Int) (w : World) (_w0 : (Lit.int .i64 a).wf = true) (_w1 : (Lit.int .i64 b).wf = true) :
    Calls Try.prog 10 #[.int .i64 a, .int .i64 b] w fun e w' => e = .returned (.bool true) ∧ Below w.heap.size w w' := by
  have h0 : roundV (-7) 2 = (-3, 0) := by decide
  go_enter Try.func10, Try.ntmps10
  go_wp2_with fail
  refine (Round_any _ _ _).mono ?_
  rintro e w1 ⟨rfl, hb1⟩
  go_wp2_with fail
  refine (Round_any _ _ _).mono ?_
  rintro e w2 ⟨rfl, hb2⟩
  go_wp2_with fail
  refine (RRound_any _ _ _).mono ?_
  rintro e w3 ⟨rfl, rfl⟩
  go_wp2_with fail
  all_goals go_ret
  all_goals exact ⟨by simp, hb1.trans (hb2.mono hb1.size)⟩
end Go.Proofs.Ytadgoodfhlmlmaa.numRoundHalfUp
