/-
  The reference's Eroded: the plain part.
-/
import Derived.Test.YtiakdbcikmkomaaErodeOk
import Derived.Test.YtiakdbcikmkomaaCombined
namespace Go.Proofs.Ytiakdbcikmkomaa
open Go.RowKit
set_option linter.unusedVariables false
set_option maxRecDepth 20000
theorem okR_left {E : List Run} (h : okR E) {s : Run} (hs : s ∈ E) : ¬ hasR E (s.x0 - 1) s.y := by
  rintro ⟨r, hr, h1, h2, h3⟩
  have hx := okR_run h hs
  obtain ⟨i, hi⟩ := List.getElem?_of_mem hs
  obtain ⟨j, hj⟩ := List.getElem?_of_mem hr
  rcases Nat.lt_trichotomy i j with h4 | h4 | h4
  · have := okR_lt h h4 hi hj; omega
  · subst h4; rw [hi] at hj; cases hj; omega
  · have := okR_lt h h4 hj hi; omega
theorem okR_right {E : List Run} (h : okR E) {s : Run} (hs : s ∈ E) : ¬ hasR E s.x1 s.y := by
  rintro ⟨r, hr, h1, h2, h3⟩
  have hx := okR_run h hs
  obtain ⟨i, hi⟩ := List.getElem?_of_mem hs
  obtain ⟨j, hj⟩ := List.getElem?_of_mem hr
  rcases Nat.lt_trichotomy i j with h4 | h4 | h4
  · have := okR_lt h h4 hi hj; omega
  · subst h4; rw [hi] at hj; cases hj; omega
  · have := okR_lt h h4 hj hi; omega
theorem okR_in {E : List Run} (h : okR E) {s : Run} (hs : s ∈ E) : hasR E s.x0 s.y ∧ hasR E (s.x1 - 1) s.y := by
  have hx := okR_run h hs
  exact ⟨⟨s, hs, rfl, by omega, hx⟩, ⟨s, hs, rfl, by omega, by omega⟩⟩
/-- The borders that the first i runs bring. -/
structure EdgF (f g : Run → Int) (P : Run → Prop) (L : List Run) (i : Nat) (l : List Int) : Prop where
  le : i ≤ L.length
  srt : sorted l
  len : l.length ≤ 2 * i
  bd : ∀ z ∈ l, -9000 ≤ z ∧ z ≤ 9000
  has : ∀ (j : Nat) r, j < i → L[j]? = some r → P r → f r ∈ l ∧ g r ∈ l
theorem EdgF.start (f g : Run → Int) (P : Run → Prop) (L : List Run) : EdgF f g P L 0 [] :=
  ⟨Nat.zero_le _, by simp [sorted], Nat.le_refl _, (by simp), fun j r hj => by omega⟩
theorem EdgF.skip {f g : Run → Int} {P : Run → Prop} {L : List Run} {i : Nat} {l : List Int} (h : EdgF f g P L i l) {r : Run} (hr : L[i]? = some r) (hy : ¬ P r) : EdgF f g P L (i + 1) l :=
  ⟨(List.getElem?_eq_some_iff.1 hr).1, h.srt, by have := h.len; omega, h.bd, fun j q hj hq hqy => by
    rcases Nat.lt_or_ge j i with h1 | h1
    · exact h.has j q h1 hq hqy
    · have : j = i := by omega
      subst this; rw [hr] at hq; cases hq; exact absurd hqy hy⟩
theorem EdgF.step {f g : Run → Int} {P : Run → Prop} {L : List Run} {i : Nat} {l : List Int} (h : EdgF f g P L i l) {r : Run} (hr : L[i]? = some r) {a b : Int} (ha : f r = a) (hb : g r = b) (h1 : -9000 ≤ a ∧ a ≤ 9000) (h2 : -9000 ≤ b ∧ b ≤ 9000) : EdgF f g P L (i + 1) (ins b (ins a l)) :=
  ⟨(List.getElem?_eq_some_iff.1 hr).1, ins_sorted (ins_sorted h.srt), by
    have := ins_length (x := b) (l := ins a l); have := ins_length (x := a) (l := l); have := h.len; omega, fun z hz => by
    rcases mem_ins.1 hz with rfl | hz
    · exact h2
    · rcases mem_ins.1 hz with rfl | hz
      · exact h1
      · exact h.bd z hz, fun j q hj hq hqy => by
    rcases Nat.lt_or_ge j i with h1 | h1
    · have := h.has j q h1 hq hqy
      exact ⟨mem_ins.2 (.inr (mem_ins.2 (.inr this.1))), mem_ins.2 (.inr (mem_ins.2 (.inr this.2)))⟩
    · have : j = i := by omega
      subst this; rw [hr] at hq; cases hq
      exact ⟨mem_ins.2 (.inr (mem_ins.2 (.inl ha))), mem_ins.2 (.inl hb)⟩⟩
theorem EdgF.borders {f g : Run → Int} {P : Run → Prop} {L E : List Run} {Y : Int} {l : List Int} (h : EdgF f g P L L.length l) (hE : ∀ s ∈ E, s.y = Y → (∃ r ∈ L, P r ∧ f r = s.x0 ∨ r ∈ L ∧ P r ∧ g r = s.x0) ∧ (∃ r ∈ L, P r ∧ f r = s.x1 ∨ r ∈ L ∧ P r ∧ g r = s.x1)) : Borders (nthR E) (nthR []) E.length 0 Y l := by
  have key : ∀ z, (∃ r ∈ L, P r ∧ f r = z ∨ r ∈ L ∧ P r ∧ g r = z) → z ∈ l := by
    rintro z ⟨r, hr, h1⟩
    obtain ⟨j, hj⟩ := List.getElem?_of_mem hr
    have hjl := (List.getElem?_eq_some_iff.1 hj).1
    rcases h1 with ⟨h2, h3⟩ | ⟨_, h2, h3⟩
    · rw [← h3]; exact (h.has j r hjl hj h2).1
    · rw [← h3]; exact (h.has j r hjl hj h2).2
  refine ⟨h.srt, fun i hi hy => ?_, fun i hi => by omega⟩
  have hq : E[i]? = some E[i] := List.getElem?_eq_getElem hi
  rw [nthR_get hq] at hy ⊢
  obtain ⟨h1, h2⟩ := hE _ (List.getElem_mem hi) hy
  exact ⟨key _ h1, key _ h2⟩
/-- The borders of an eroded region. -/
theorem erode_edges {w : Int} (hw : 0 ≤ w) {L E : List Run} (hE : okR E) (hc : ∀ x y, hasR E x y ↔ cellE w L x y) (Y : Int) : ∀ s ∈ E, s.y = Y → (∃ r ∈ L, (Y - w ≤ r.y ∧ r.y ≤ Y + w) ∧ r.x0 + w = s.x0 ∨ r ∈ L ∧ (Y - w ≤ r.y ∧ r.y ≤ Y + w) ∧ r.x1 - w = s.x0) ∧ (∃ r ∈ L, (Y - w ≤ r.y ∧ r.y ≤ Y + w) ∧ r.x0 + w = s.x1 ∨ r ∈ L ∧ (Y - w ≤ r.y ∧ r.y ≤ Y + w) ∧ r.x1 - w = s.x1) := by
  rintro s hs rfl
  obtain ⟨h1, h2⟩ := okR_in hE hs
  have h3 := okR_left hE hs
  have h4 := okR_right hE hs
  rw [hc] at h1 h2 h3 h4
  unfold cellE at *
  simp only [Classical.not_forall] at h3 h4
  obtain ⟨e, e1, e2, h3⟩ := h3
  obtain ⟨d, d1, d2, h4⟩ := h4
  obtain ⟨r, hr, r1, r2, r3⟩ := h1 e e1 e2
  obtain ⟨q, hq, q1, q2, q3⟩ := h2 d d1 d2
  refine ⟨⟨r, hr, .inl ⟨by omega, ?_⟩⟩, ⟨q, hq, .inr ⟨hq, by omega, ?_⟩⟩⟩
  · apply Classical.byContradiction
    intro hne
    exact h3 ⟨r, hr, r1, by omega, by omega⟩
  · apply Classical.byContradiction
    intro hne
    exact h4 ⟨q, hq, q1, by omega, by omega⟩
theorem erode_valid {w : Int} (hw : 0 ≤ w) {L E : List Run} (v : ValidL L) (hE : okR E) (hc : ∀ x y, hasR E x y ↔ cellE w L x y) : ValidL E := by
  refine ValidL.mk hE fun s hs => ?_
  obtain ⟨h1, h2⟩ := okR_in hE hs
  rw [hc] at h1 h2
  obtain ⟨r, hr, r1, r2, r3⟩ := h1 0 (by omega) hw
  obtain ⟨q, hq, q1, q2, q3⟩ := h2 0 (by omega) hw
  have := v.bd hr
  have := v.bd hq
  omega
theorem erode_y {w : Int} (hw : 0 ≤ w) {L E : List Run} (hE : okR E) (hc : ∀ x y, hasR E x y ↔ cellE w L x y) : ∀ s ∈ E, ∃ r ∈ L, r.y = s.y := fun s hs => by
  obtain ⟨h1, h2⟩ := okR_in hE hs
  rw [hc] at h1
  obtain ⟨r, hr, r1, _⟩ := h1 0 (by omega) hw
  exact ⟨r, hr, by omega⟩
theorem hasL_nil (x y : Int) : hasL [] x y = false := rfl
theorem opB_left (p : Bool) : opB 2 p false = p := by cases p <;> rfl
end Go.Proofs.Ytiakdbcikmkomaa
