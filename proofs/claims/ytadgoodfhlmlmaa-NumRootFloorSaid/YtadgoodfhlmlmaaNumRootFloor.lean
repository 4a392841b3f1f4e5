/-
  The walk of the law NumRootFloor: Root returns the floor of the square root.
-/
import Derived.Test.YtadgoodfhlmlmaaRoot
namespace Go.Proofs.Ytadgoodfhlmlmaa.numRootFloor
open Go.RowKit

set_option maxHeartbeats 800000 in
theorem walk (n : Int) (w : World) (_w0 : (Lit.int .i64 n).wf = true) :
    Calls Try.prog 13 #[.int .i64 n] w fun e w' => e = .returned (.bool true) ∧ Below w.heap.size w w' := by
  by_cases hn : 0 ≤ n ∧ n ≤ 4611686018427387904
  · obtain ⟨r, hr⟩ := root_of hn.1
    go_enter Try.func13, Try.ntmps13
    go_wp2_with fail
    refine (Root_yes 4611686018427387903 2147483647 _ (by omega) ⟨by omega, by omega, by omega⟩).mono ?_
    rintro e w1 ⟨rfl, rfl⟩
    go_wp2_with fail
    refine (Root_yes n r _ hn hr).mono ?_
    rintro e w1 ⟨rfl, rfl⟩
    go_wp2_with fail
    refine (RRoot_any n r _ hn hr).mono ?_
    rintro e w1 ⟨rfl, rfl⟩
    go_wp2_with fail
    all_goals go_ret
    all_goals exact ⟨by simp, Below.refl _ _⟩
  · have hn' : n < 0 ∨ 4611686018427387904 < n := by omega
    by_cases h0 : n < 0
    all_goals
      go_enter Try.func13, Try.ntmps13
      go_wp2_with fail
      refine (Root_yes 4611686018427387903 2147483647 _ (by omega) ⟨by omega, by omega, by omega⟩).mono ?_
      rintro e w1 ⟨rfl, rfl⟩
      go_wp2_with fail
      refine (Root_no n _ hn').mono ?_
      rintro e w1 ⟨rfl, rfl⟩
      go_wp2_with fail
      all_goals go_ret
      all_goals exact ⟨by simp, Below.refl _ _⟩
end Go.Proofs.Ytadgoodfhlmlmaa.numRootFloor
