/-
  The rows of Subpaths follow each other. No program in sight.
-/
import Derived.Test.YtpgjbfbdappniaaSubL
namespace Go.Proofs.Ytpgjbfbdappniaa
open Go.RowKit
set_option linter.unusedVariables false
section
variable {S : Nat → SegD} {n : Nat}
theorem bt_mv (h0 : (S 0).k = 1) : ∀ x, (S (btP S x)).k = 1 ∧ ∀ y, btP S x < y → y ≤ x → (S y).k ≠ 1
  | 0 => ⟨h0, fun y h1 h2 => by simp [btP] at h1; omega⟩
  | x + 1 => by
    obtain ⟨h1, h2⟩ := bt_mv h0 x
    rw [btP]
    split
    · rename_i h
      exact ⟨h, fun y h3 h4 => by omega⟩
    · rename_i h
      refine ⟨h1, fun y h3 h4 => ?_⟩
      rcases Nat.lt_or_ge x y with h5 | h5
      · obtain rfl : y = x + 1 := by omega
        exact h
      · exact h2 y h3 h5
def offL (L : List (Nat × Nat)) (j : Nat) : Nat := ((L.take j).map (·.2)).sum
theorem offL_zero {L : List (Nat × Nat)} : offL L 0 = 0 := by simp [offL]
theorem offL_next {L : List (Nat × Nat)} {j : Nat} {q : Nat × Nat} (h : L[j]? = some q) : offL L (j + 1) = offL L j + q.2 := by
  unfold offL
  rw [List.take_add_one, h]
  simp
theorem offL_old {L : List (Nat × Nat)} {q : Nat × Nat} {j : Nat} (h : j ≤ L.length) : offL (L ++ [q]) j = offL L j := by
  unfold offL
  rw [List.take_append_of_le_length h]
def ChainL (S : Nat → SegD) (n : Nat) (L : List (Nat × Nat)) : Prop := ∀ (j : Nat) q, L[j]? = some q → q.1 = offL L j ∧ SubP S n q.1 (q.1 + q.2)
theorem ChainL.add {L : List (Nat × Nat)} {q : Nat × Nat} (h : ChainL S n L) (h1 : q.1 = offL L L.length) (h2 : SubP S n q.1 (q.1 + q.2)) : ChainL S n (L ++ [q]) := fun j r hr => by
  rcases Nat.lt_or_ge j L.length with hj | hj
  · rw [List.getElem?_append_left hj] at hr
    obtain ⟨a, b⟩ := h j r hr
    exact ⟨by rw [offL_old (by omega)]; exact a, b⟩
  · rw [List.getElem?_append_right hj] at hr
    have hz : j - L.length = 0 := by
      have := (List.getElem?_eq_some_iff.1 hr).1
      simp at this; omega
    rw [hz] at hr
    simp at hr
    subst hr
    obtain rfl : j = L.length := by omega
    exact ⟨by rw [offL_old (Nat.le_refl _)]; exact h1, h2⟩
theorem offL_full {L : List (Nat × Nat)} {q : Nat × Nat} : offL (L ++ [q]) (L ++ [q]).length = offL L L.length + q.2 := by
  unfold offL
  rw [List.take_of_length_le (by simp), List.take_of_length_le (by simp)]
  simp
theorem doneL_chain (h0 : (S 0).k = 1) : ∀ x, x < n → ChainL S n (doneL S x) ∧ offL (doneL S x) (doneL S x).length = btP S x
  | 0, _ => ⟨fun j q h => by simp [doneL] at h, by simp [doneL, offL, btP]⟩
  | x + 1, hx => by
    obtain ⟨h1, h2⟩ := doneL_chain h0 x (by omega)
    obtain ⟨h3, h4⟩ := bt_mv h0 x
    have hb := btP_le (S := S) x
    by_cases hm : (S (x + 1)).k = 1
    · rw [doneL, if_pos hm, btP, if_pos hm]
      refine ⟨h1.add h2.symm ?_, by rw [offL_full, h2]; simp only; omega⟩
      dsimp only
      rw [show btP S x + (x + 1 - btP S x) = x + 1 by omega]
      exact ⟨by omega, by omega, h3, fun y a b => h4 y a (by omega), .inr hm⟩
    · rw [doneL, if_neg hm, btP, if_neg hm]
      exact ⟨h1, h2⟩
theorem rowL_chain (h0 : 0 < n → (S 0).k = 1) : ChainL S n (rowL S n) ∧ offL (rowL S n) (rowL S n).length = n := by
  cases n with
  | zero => exact ⟨fun j q h => by simp [rowL] at h, by simp [rowL, offL]⟩
  | succ x =>
    have h0 := h0 (by omega)
    obtain ⟨h1, h2⟩ := doneL_chain (n := x + 1) h0 x (by omega)
    obtain ⟨h3, h4⟩ := bt_mv h0 x
    have hb := btP_le (S := S) x
    rw [rowL]
    refine ⟨h1.add h2.symm ?_, by rw [offL_full, h2]; simp only; omega⟩
    dsimp only
    rw [show btP S x + (x + 1 - btP S x) = x + 1 by omega]
    exact ⟨by omega, by omega, h3, fun y a b => h4 y a (by omega), .inl rfl⟩
end
end Go.Proofs.Ytpgjbfbdappniaa
