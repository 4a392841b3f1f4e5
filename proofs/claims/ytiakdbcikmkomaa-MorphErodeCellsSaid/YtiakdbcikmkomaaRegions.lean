/-
  What the laws of regions have in common: the helpers regions and short.
-/
import Derived.Test.YtiakdbcikmkomaaBothU
namespace Go.Proofs.Ytiakdbcikmkomaa
open Go.RowKit
set_option linter.unusedVariables false
set_option maxRecDepth 20000
def rectL (x0 x1 y : Int) (n : Nat) : List Run := (List.range n).map fun (i : Nat) => ⟨y + i, x0, x1⟩
theorem flat_rect (x0 x1 y : Int) (n : Nat) : flatR (rectL x0 x1 y n) = rowsOf x0 x1 y n := by
  unfold rowsOf rectL flatR; rw [List.flatMap_map]
theorem rectL_length (x0 x1 y : Int) (n : Nat) : (rectL x0 x1 y n).length = n := by simp [rectL]
/-- The three rows of the helper. -/
def trio : List Run := [⟨0, 0, 2⟩, ⟨1, 0, 4⟩, ⟨2, 2, 4⟩]
theorem trio_is : mixR 0 (rectL 0 2 0 2) (rectL 2 4 1 2) = trio := by
  refine (mixR_is (c := 0) (errL_ok (by decide)) (errL_ok (by decide)) (by simp [okR, trio]) fun x y => ?_).symm
  have e1 : rectL 0 2 0 2 = [⟨0, 0, 2⟩, ⟨1, 0, 2⟩] := by simp [rectL, List.range_succ]
  have e2 : rectL 2 4 1 2 = [⟨1, 2, 4⟩, ⟨2, 2, 4⟩] := by simp [rectL, List.range_succ]
  rw [e1, e2]
  simp only [hasR, hasL, inR, opB, trio, List.any_cons, List.any_nil, Bool.or_false, Bool.or_eq_true, decide_eq_true_eq, List.mem_cons, List.not_mem_nil, or_false, exists_eq_or_imp, exists_eq_left]
  simp only [show ¬ ((0 : Int) = 1) by decide, show ¬ ((0 : Int) = 2) by decide, show ¬ ((0 : Int) = 3) by decide, if_false, Bool.or_eq_true, decide_eq_true_eq]
  omega
theorem errL_rect1 : err2 (rectL 0 2 0 2) (rectL 2 4 1 2) = 0 := by decide
/-- The first 60 runs. -/
theorem RunsM.take {G : Mem} {A : Option Addr} {L : List Run} (h : RunsM G A L) (n : Nat) : RunsM G A (L.take n) := fun i r hr => by
  rw [List.getElem?_take] at hr
  split at hr
  · exact h i r hr
  · cases hr
theorem short_gives {A : Option Addr} {L : List Run} {c : Nat} {G : Mem} (h : RunsM G A L) (hc : L.length ≤ c) (hm : c ≤ maxLen) :
    ∃ A' c', RunsM G A' (L.take 60) ∧ (L.take 60).length ≤ c' ∧ c' ≤ maxLen ∧ Gives Try.prog 8 [.val (.slice A L.length c)] G (.val (.slice A' (L.take 60).length c')) := by
  by_cases hl : L.length ≤ 60
  · refine ⟨A, c, h.take 60, by rw [List.length_take]; omega, hm, ?_⟩
    rw [show (L.take 60).length = L.length by rw [List.length_take]; omega]
    refine Gives_of tab_ok Try.func8 ?_
    (repeat ((try (conv => whnf)); (first | (with_reducible first | refine condP_true ?_ | refine condP_false ?_ | refine condP_not ?_ | refine condP_and ?_) | ((with_reducible refine condP_dt ?_ ?_); (· omega)) | ((with_reducible refine condP_df ?_ ?_); (· omega)) | ((with_reducible refine condP_yes ?_ ?_); (· assumption)) | ((with_reducible refine condP_no ?_ ?_); (· assumption)) | ((with_reducible refine ArP_i64 ?_ ?_); (· omega)) | ((with_reducible refine mustP.mk ?_ ?_); (· first | omega | rfl | (dsimp only; omega))) | (with_reducible first | refine EqP_nil tab_ok ?_ | refine EqP_sli tab_ok ?_ | refine DrawP_auto tab_ok (by kernel_rfl) (by decide +kernel) ?_ | refine DrawP_auto2 tab_ok (by kernel_rfl) (by decide +kernel) ?_ | refine eq34 ?_ | refine eq68 ?_))))
    exact ⟨rfl, rfl⟩
  · refine ⟨if c = (0 : Int).toNat then A else A.map (·.add ((0 : Int).toNat * 3)), c - (0 : Int).toNat, ?_, by rw [List.length_take]; simp; omega, by omega, ?_⟩
    · rw [if_neg (by simp; omega)]
      have e : A.map (·.add ((0 : Int).toNat * 3)) = A := by
        cases A with
        | none => rfl
        | some p => simp [Addr.add]
      rw [e]
      exact h.take 60
    · rw [show (L.take 60).length = (60 : Int).toNat - (0 : Int).toNat by rw [List.length_take]; simp; omega]
      refine Gives_of tab_ok Try.func8 ?_
      (repeat ((try (conv => whnf)); (first | (with_reducible first | refine condP_true ?_ | refine condP_false ?_ | refine condP_not ?_ | refine condP_and ?_) | ((with_reducible refine condP_dt ?_ ?_); (· omega)) | ((with_reducible refine condP_df ?_ ?_); (· omega)) | ((with_reducible refine condP_yes ?_ ?_); (· assumption)) | ((with_reducible refine condP_no ?_ ?_); (· assumption)) | ((with_reducible refine ArP_i64 ?_ ?_); (· omega)) | ((with_reducible refine mustP.mk ?_ ?_); (· first | omega | rfl | (dsimp only; omega))) | (with_reducible first | refine EqP_nil tab_ok ?_ | refine EqP_sli tab_ok ?_ | refine DrawP_auto tab_ok (by kernel_rfl) (by decide +kernel) ?_ | refine DrawP_auto2 tab_ok (by kernel_rfl) (by decide +kernel) ?_ | refine eq34 ?_ | refine eq68 ?_))))
      exact ⟨rfl, rfl⟩
end Go.Proofs.Ytiakdbcikmkomaa
