/-
  The reference's Dilated: the plain part.
-/
import Derived.Test.YtiakdbcikmkomaaDilateLaw
import Derived.Test.YtiakdbcikmkomaaErodeR
namespace Go.Proofs.Ytiakdbcikmkomaa
open Go.RowKit
set_option linter.unusedVariables false
structure RowsD (w : Int) (L : List Run) (i k : Nat) (l : List Int) : Prop where
  le : i ≤ L.length
  kle : (k : Int) ≤ 2 * w + 1
  srt : sorted l
  len : l.length ≤ i * 129 + k
  has : ∀ (j : Nat) r, j < i → L[j]? = some r → ∀ y, r.y - w ≤ y → y ≤ r.y + w → -8192 ≤ y → y ≤ 8191 → y ∈ l
  part : ∀ r, L[i]? = some r → ∀ y, r.y - w ≤ y → y < r.y - w + k → -8192 ≤ y → y ≤ 8191 → y ∈ l
  back : ∀ y ∈ l, (-8192 ≤ y ∧ y ≤ 8191) ∧ ∃ (j : Nat) (r : Run), L[j]? = some r ∧ y - w ≤ r.y ∧ r.y ≤ y + w
theorem RowsD.start {w : Int} (hw : 0 ≤ w) (L : List Run) : RowsD w L 0 0 [] :=
  ⟨Nat.zero_le _, by omega, by simp [sorted], Nat.le_refl _, (fun j r hj => by omega), (fun r hr y h1 h2 => by omega), fun y hy => by cases hy⟩
theorem RowsD.put {w : Int} {L : List Run} {i k : Nat} {l : List Int} (h : RowsD w L i k l) {r : Run} (hr : L[i]? = some r) (hk : (k : Int) < 2 * w + 1) (h1 : -8192 ≤ r.y - w + k) (h2 : r.y - w + k ≤ 8191) : RowsD w L i (k + 1) (ins (r.y - w + k) l) :=
  ⟨h.le, by push_cast; omega, ins_sorted h.srt, by have := ins_length (x := r.y - w + k) (l := l); have := h.len; omega, fun j q hj hq y g1 g2 g3 g4 => mem_ins.2 (.inr (h.has j q hj hq y g1 g2 g3 g4)), fun q hq y g1 g2 g3 g4 => by
    rw [hr] at hq; cases hq
    by_cases e : y = r.y - w + k
    · exact mem_ins.2 (.inl e)
    · exact mem_ins.2 (.inr (h.part r hr y g1 (by push_cast at g2; omega) g3 g4)), fun y hy => by
    rcases mem_ins.1 hy with rfl | hy
    · exact ⟨⟨h1, h2⟩, i, r, hr, by omega, by omega⟩
    · exact h.back y hy⟩
theorem RowsD.skip {w : Int} {L : List Run} {i k : Nat} {l : List Int} (h : RowsD w L i k l) {r : Run} (hr : L[i]? = some r) (hk : (k : Int) < 2 * w + 1) (h1 : ¬ (-8192 ≤ r.y - w + k ∧ r.y - w + k ≤ 8191)) : RowsD w L i (k + 1) l :=
  ⟨h.le, by push_cast; omega, h.srt, by have := h.len; omega, h.has, fun q hq y g1 g2 g3 g4 => by
    rw [hr] at hq; cases hq
    exact h.part r hr y g1 (by push_cast at g2; omega) g3 g4, h.back⟩
theorem RowsD.next {w : Int} (hw : w ≤ 64) {L : List Run} {i k : Nat} {l : List Int} (h : RowsD w L i k l) {r : Run} (hr : L[i]? = some r) (hk : (k : Int) = 2 * w + 1) : RowsD w L (i + 1) 0 l :=
  ⟨(List.getElem?_eq_some_iff.1 hr).1, by have := h.kle; omega, h.srt, by have := h.len; omega, fun j q hj hq y g1 g2 g3 g4 => by
    by_cases e : j = i
    · subst e; rw [hr] at hq; cases hq
      exact h.part r hr y g1 (by omega) g3 g4
    · exact h.has j q (by omega) hq y g1 g2 g3 g4, (fun q hq y g1 g2 => by omega), h.back⟩
theorem dilate_edges {w : Int} {L E : List Run} (hE : okR E) (hc : ∀ x y, hasR E x y ↔ cellD w L x y) (Y : Int) : ∀ s ∈ E, s.y = Y → (∃ r ∈ L, (Y - w ≤ r.y ∧ r.y ≤ Y + w) ∧ max (r.x0 - w) (-8192) = s.x0 ∨ r ∈ L ∧ (Y - w ≤ r.y ∧ r.y ≤ Y + w) ∧ min (r.x1 + w) 8192 = s.x0) ∧ (∃ r ∈ L, (Y - w ≤ r.y ∧ r.y ≤ Y + w) ∧ max (r.x0 - w) (-8192) = s.x1 ∨ r ∈ L ∧ (Y - w ≤ r.y ∧ r.y ≤ Y + w) ∧ min (r.x1 + w) 8192 = s.x1) := by
  rintro s hs rfl
  obtain ⟨h1, h2⟩ := okR_in hE hs
  have h3 := okR_left hE hs
  have h4 := okR_right hE hs
  rw [hc] at h1 h2 h3 h4
  obtain ⟨hy, r, hr, r1, r2, r3⟩ := h1
  obtain ⟨_, q, hq, q1, q2, q3⟩ := h2
  refine ⟨⟨r, hr, .inl ⟨r1, ?_⟩⟩, ⟨q, hq, .inr ⟨hq, q1, ?_⟩⟩⟩
  · apply Classical.byContradiction
    intro hne
    exact h3 ⟨hy, r, hr, r1, by omega, by omega⟩
  · apply Classical.byContradiction
    intro hne
    exact h4 ⟨hy, q, hq, q1, by omega, by omega⟩
theorem dilate_valid {w : Int} {L E : List Run} (hE : okR E) (hc : ∀ x y, hasR E x y ↔ cellD w L x y) : ValidL E := by
  refine ValidL.mk hE fun s hs => ?_
  obtain ⟨h1, h2⟩ := okR_in hE hs
  rw [hc] at h1 h2
  obtain ⟨hy, r, hr, r1, r2, r3⟩ := h1
  obtain ⟨_, q, hq, q1, q2, q3⟩ := h2
  omega
theorem dilate_row {w : Int} {L E : List Run} (hE : okR E) (hc : ∀ x y, hasR E x y ↔ cellD w L x y) {l : List Int} (h : RowsD w L L.length 0 l) : ∀ s ∈ E, s.y ∈ l := fun s hs => by
  obtain ⟨h1, h2⟩ := okR_in hE hs
  rw [hc] at h1
  obtain ⟨hy, r, hr, r1, r2, r3⟩ := h1
  obtain ⟨j, hj⟩ := List.getElem?_of_mem hr
  exact h.has j r (List.getElem?_eq_some_iff.1 hj).1 hj s.y (by omega) (by omega) hy.1 hy.2
end Go.Proofs.Ytiakdbcikmkomaa
