/-
  cmp.Compare of two numbers, in the world's own words.
-/
import Derived.Test.YthbppimjaealnaaPast
import Derived.Test.YthbppimjaealnaaMath
import Derived.Test.YthbppimjaealnaaProg
namespace Go.Proofs.Ythbppimjaealnaa
open Go.RowKit
set_option linter.unusedVariables false
set_option maxRecDepth 20000
def cmpI (a b : Int) : Int := if a < b then -1 else if b < a then 1 else 0
theorem isNaN_exact (a : Int) (W : World) : Calls Try.prog 83 #[.int .i64 a] W fun e w' => e = .returned (.bool false) ∧ W = w' := by
  go_enter Try.func83, Try.ntmps83
  go_wp2
  all_goals go_ret
  all_goals exact ⟨by simp, rfl⟩
set_option maxHeartbeats 1000000 in
theorem compare_exact (a b : Int) (W : World) : Calls Try.prog 64 #[.int .i64 a, .int .i64 b] W fun e w' => e = .returned (.int .i64 (cmpI a b)) ∧ W = w' := by
  go_enter Try.func64, Try.ntmps64
  by_cases h1 : a < b
  · go_wp2_with (first | (go_at_call 83; refine (isNaN_exact _ _).mono ?_; rintro e w' ⟨rfl, rfl⟩))
    all_goals go_ret
    all_goals exact ⟨ret_int (by unfold cmpI; first | rw [if_pos (by omega)] | simp_all), rfl⟩
  · by_cases h2 : b < a
    · go_wp2_with (first | (go_at_call 83; refine (isNaN_exact _ _).mono ?_; rintro e w' ⟨rfl, rfl⟩))
      all_goals go_ret
      all_goals exact ⟨ret_int (by unfold cmpI; first | rw [if_neg (by omega), if_pos (by omega)] | simp_all), rfl⟩
    · go_wp2_with (first | (go_at_call 83; refine (isNaN_exact _ _).mono ?_; rintro e w' ⟨rfl, rfl⟩))
      all_goals go_ret
      all_goals exact ⟨ret_int (by unfold cmpI; first | rw [if_neg (by omega), if_neg (by omega)] | simp_all), rfl⟩
end Go.Proofs.Ythbppimjaealnaa
