/-
  The reference's In, by the engine.
-/
import Derived.Test.YtbkhpddodmbdoaaMrg7
import Derived.Test.YtbkhpddodmbdoaaEng2
namespace Go.Proofs.Ytbkhpddodmbdoaa
open Go.RowKit
set_option linter.unusedVariables false
set_option maxRecDepth 20000
theorem In_gives (x a b : Int) (G : Mem) (v : Bool) (hv : v = true ↔ a ≤ x ∧ x ≤ b) : Gives Try.prog 9 [.val (.int .i64 x), .val (.int .i64 a), .val (.int .i64 b)] G (.val (.bool v)) := by
  have hv' : v = decide (a ≤ x ∧ x ≤ b) := by
    cases v
    · exact (decide_eq_false fun h => by simpa using hv.2 h).symm
    · exact (decide_eq_true (hv.1 rfl)).symm
  rw [hv']
  refine Gives_of tab_ok Try.func9 ?_
  by_cases h1 : a ≤ x
  · (repeat ((try (conv => whnf)); (first | (with_reducible first | refine condP_true ?_ | refine condP_false ?_ | refine condP_not ?_ | refine condP_and ?_) | ((with_reducible refine condP_dt ?_ ?_); (· omega)) | ((with_reducible refine condP_df ?_ ?_); (· omega)) | ((with_reducible refine condP_yes ?_ ?_); (· assumption)) | ((with_reducible refine condP_no ?_ ?_); (· assumption)) | ((with_reducible refine ArP_i64 ?_ ?_); (· omega)) | ((with_reducible refine mustP.mk ?_ ?_); (· first | omega | rfl | (dsimp only; omega))) | (with_reducible first | refine EqP_nil tab_ok ?_ | refine EqP_sli tab_ok ?_ | refine DrawP_auto tab_ok (by kernel_rfl) (by decide +kernel) ?_ | refine DrawP_auto2 tab_ok (by kernel_rfl) (by decide +kernel) ?_ | refine eq27 ?_ | refine eq44 ?_ | refine eq54 ?_ | refine eq76 ?_ | refine eq134 ?_))))
    exact ⟨by simp [h1], rfl⟩
  · (repeat ((try (conv => whnf)); (first | (with_reducible first | refine condP_true ?_ | refine condP_false ?_ | refine condP_not ?_ | refine condP_and ?_) | ((with_reducible refine condP_dt ?_ ?_); (· omega)) | ((with_reducible refine condP_df ?_ ?_); (· omega)) | ((with_reducible refine condP_yes ?_ ?_); (· assumption)) | ((with_reducible refine condP_no ?_ ?_); (· assumption)) | ((with_reducible refine ArP_i64 ?_ ?_); (· omega)) | ((with_reducible refine mustP.mk ?_ ?_); (· first | omega | rfl | (dsimp only; omega))) | (with_reducible first | refine EqP_nil tab_ok ?_ | refine EqP_sli tab_ok ?_ | refine DrawP_auto tab_ok (by kernel_rfl) (by decide +kernel) ?_ | refine DrawP_auto2 tab_ok (by kernel_rfl) (by decide +kernel) ?_ | refine eq27 ?_ | refine eq44 ?_ | refine eq54 ?_ | refine eq76 ?_ | refine eq134 ?_))))
    exact ⟨by simp [h1], rfl⟩
end Go.Proofs.Ytbkhpddodmbdoaa
