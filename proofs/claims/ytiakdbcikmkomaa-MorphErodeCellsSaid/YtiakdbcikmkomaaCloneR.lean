/-
  slices.Clone of runs, by reckoning.
-/
import Derived.Test.YtiakdbcikmkomaaMrg8
import Derived.Test.YtiakdbcikmkomaaMrg9
import Derived.Test.YtiakdbcikmkomaaArg
namespace Go.Proofs.Ytiakdbcikmkomaa
open Go.RowKit
set_option linter.unusedVariables false
set_option maxRecDepth 20000
theorem RunsM.flatA {G : Mem} {A : Option Addr} {L : List Run} (h : RunsM G A L) : L = [] ∨ ∃ p, A = some p ∧ G.cellsAt p (flatR L) := by
  rcases L with _ | ⟨r, l⟩
  · exact .inl rfl
  · right
    obtain ⟨b, off, rfl, _⟩ := h 0 r (by simp)
    refine ⟨_, rfl, fun j u hj => ?_⟩
    have hjl := (List.getElem?_eq_some_iff.1 hj).1
    rw [flatR_length] at hjl
    obtain ⟨i, k, hk, rfl⟩ : ∃ i k, k < 3 ∧ j = i * 3 + k := ⟨j / 3, j % 3, by omega, by omega⟩
    obtain ⟨q, hq⟩ : ∃ q, (r :: l)[i]? = some q := ⟨(r :: l)[i]'(by omega), List.getElem?_eq_getElem (by omega)⟩
    obtain ⟨b', off', hA, c0, c1, c2⟩ := h i q hq
    cases hA
    obtain ⟨f0, f1, f2⟩ := flatR_get hq
    rw [addr_add]
    match k, hk with
    | 0, _ => rw [Nat.add_zero, f0] at hj; cases hj; simpa using c0
    | 1, _ => rw [f1] at hj; cases hj; rw [← Nat.add_assoc]; exact c1
    | 2, _ => rw [f2] at hj; cases hj; rw [← Nat.add_assoc]; exact c2
set_option maxHeartbeats 1000000 in
theorem CloneR_makes {A : Option Addr} {L : List Run} {c : Nat} {G : Mem} (h : RunsM G A L) (hl : L.length ≤ 1000000000000) :
    Makes Try.prog 39 [.val (.slice A L.length c)] G id 34 3 L.length (flatR L) := by
  refine Makes_of tab_ok Try.func39 (.alone fun _ => rfl) ?_
  have hs : ∀ K : Nat → List Value → Prop, K L.length (flatR L) → SrcV G A L.length 3 K := fun K k => ⟨flatR L, flatR_length L, fun h0 => by
    rcases h.flatA with h1 | h1
    · rw [h1] at h0; exact absurd rfl h0
    · exact h1, flatR_cell, k⟩
  have hb : L.length * 24 ≤ 140737488355328 := by omega
  cases A with
  | none =>
    have h0 : L = [] := by
      rcases h.flatA with h1 | ⟨p, h1, _⟩
      · exact h1
      · cases h1
    subst h0
    (repeat ((try (conv => whnf)); (first | (refine condP_yes (show Option.isNone (none : Option Addr) = true from rfl) ?_) | (with_reducible first | refine condP_true ?_ | refine condP_false ?_ | refine condP_not ?_ | refine condP_and ?_) | ((with_reducible refine condP_dt ?_ ?_); (· omega)) | ((with_reducible refine condP_df ?_ ?_); (· omega)) | ((with_reducible refine condP_yes ?_ ?_); (· assumption)) | ((with_reducible refine condP_no ?_ ?_); (· assumption)) | ((with_reducible refine ArP_i64 ?_ ?_); (· omega)) | ((with_reducible refine mustP.mk ?_ ?_); (· first | omega | rfl | (dsimp only; omega))) | (with_reducible first | refine EqP_nil tab_ok ?_ | refine EqP_sli tab_ok ?_ | refine DrawP_auto tab_ok (by kernel_rfl) (by decide +kernel) ?_ | refine DrawP_auto2 tab_ok (by kernel_rfl) (by decide +kernel) ?_ | refine eq34 ?_ | refine eq68 ?_))))
    exact .inr (.inl ⟨rfl, rfl, rfl⟩)
  | some p =>
    (repeat ((try (conv => whnf)); (first | (refine condP_no (show Option.isNone (some p) = false from rfl) ?_) | (refine hs _ ?_) | (with_reducible first | refine condP_true ?_ | refine condP_false ?_ | refine condP_not ?_ | refine condP_and ?_) | ((with_reducible refine condP_dt ?_ ?_); (· omega)) | ((with_reducible refine condP_df ?_ ?_); (· omega)) | ((with_reducible refine condP_yes ?_ ?_); (· assumption)) | ((with_reducible refine condP_no ?_ ?_); (· assumption)) | ((with_reducible refine ArP_i64 ?_ ?_); (· omega)) | ((with_reducible refine mustP.mk ?_ ?_); (· first | omega | rfl | (dsimp only; omega))) | (with_reducible first | refine EqP_nil tab_ok ?_ | refine EqP_sli tab_ok ?_ | refine DrawP_auto tab_ok (by kernel_rfl) (by decide +kernel) ?_ | refine DrawP_auto2 tab_ok (by kernel_rfl) (by decide +kernel) ?_ | refine eq34 ?_ | refine eq68 ?_))))
    exact .inl ⟨1, rfl, rfl⟩
end Go.Proofs.Ytiakdbcikmkomaa
