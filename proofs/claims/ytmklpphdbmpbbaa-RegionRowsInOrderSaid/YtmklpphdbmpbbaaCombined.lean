/-
  The reference's Combined.
-/
import Derived.Test.YtmklpphdbmpbbaaMixed2
namespace Go.Proofs.Ytmklpphdbmpbbaa
open Go.RowKit
set_option linter.unusedVariables false
set_option maxRecDepth 20000
theorem RunsM.flat {G : Mem} {A : Option Addr} {L : List Run} (h : RunsM G A L) (hne : L ≠ []) : ∃ p : Addr, A = some p ∧ ∀ K : List Value → Prop, K (flatR L) → OldCells G p (L.length * 3) K := by
  cases L with
  | nil => exact absurd rfl hne
  | cons r l =>
    obtain ⟨b, off, rfl, _⟩ := h 0 r (by simp)
    refine ⟨_, rfl, fun K k => OldCells_list _ (flatR_length _) (fun j u hj => ?_) k⟩
    have hlt := (List.getElem?_eq_some_iff.1 hj).1
    rw [flatR_length] at hlt
    obtain ⟨q, hq⟩ : ∃ q, (r :: l)[j / 3]? = some q := ⟨_, List.getElem?_eq_getElem (by omega)⟩
    obtain ⟨b', off', he, c0, c1, c2⟩ := h (j / 3) q hq
    cases he
    obtain ⟨d0, d1, d2⟩ := flatR_get hq
    rw [addr_add]
    have hm : j % 3 = 0 ∨ j % 3 = 1 ∨ j % 3 = 2 := by omega
    rcases hm with h0 | h0 | h0
    · have e : j / 3 * 3 = j := by omega
      rw [e] at c0 d0; rw [hj] at d0; cases d0; exact c0
    · have e : j / 3 * 3 + 1 = j := by omega
      rw [Nat.add_assoc, e] at c1; rw [e] at d1; rw [hj] at d1; cases d1; exact c1
    · have e : j / 3 * 3 + 2 = j := by omega
      rw [Nat.add_assoc, e] at c2; rw [e] at d2; rw [hj] at d2; cases d2; exact c2
theorem RunsM.src {G : Mem} {A : Option Addr} {L : List Run} (h : RunsM G A L) {K : Nat → List Value → Prop} (k : K L.length (flatR L)) : SrcV G A L.length 3 K := by
  refine ⟨flatR L, flatR_length L, fun hn => ?_, flatR_cell, k⟩
  obtain ⟨p, h1, h2⟩ := h.flat (by intro e; subst e; simp at hn)
  obtain ⟨vs, ⟨h3, h4⟩, h5⟩ := h2 (fun vs => vs = flatR L) rfl
  exact ⟨p, h1, h5 ▸ h4⟩
/-- The rows of the first i runs. -/
structure RowsOf (L : List Run) (i : Nat) (l : List Int) : Prop where
  le : i ≤ L.length
  srt : sorted l
  len : l.length ≤ i
  has : ∀ (j : Nat) r, j < i → L[j]? = some r → r.y ∈ l
  back : ∀ y ∈ l, ∃ (j : Nat) (r : Run), j < i ∧ L[j]? = some r ∧ r.y = y
theorem RowsOf.step {L : List Run} {i : Nat} {l : List Int} (h : RowsOf L i l) {r : Run} (hr : L[i]? = some r) : RowsOf L (i + 1) (ins r.y l) :=
  ⟨(List.getElem?_eq_some_iff.1 hr).1, ins_sorted h.srt, by have := ins_length (x := r.y) (l := l); have := h.len; omega, fun j q hj hq => by
    rcases Nat.lt_or_ge j i with h1 | h1
    · exact mem_ins.2 (.inr (h.has j q h1 hq))
    · have : j = i := by omega
      subst this; rw [hr] at hq; cases hq; exact mem_ins.2 (.inl rfl), fun y hy => by
    rcases mem_ins.1 hy with rfl | hy
    · exact ⟨i, r, Nat.lt_succ_self i, hr, rfl⟩
    · obtain ⟨j, q, h1, h2, h3⟩ := h.back y hy
      exact ⟨j, q, by omega, h2, h3⟩⟩
/-- The borders of a row among the first i runs. -/
structure EdgesOf (L : List Run) (Y : Int) (i : Nat) (l : List Int) : Prop where
  le : i ≤ L.length
  srt : sorted l
  len : l.length ≤ 2 * i
  has : ∀ (j : Nat) r, j < i → L[j]? = some r → r.y = Y → r.x0 ∈ l ∧ r.x1 ∈ l
theorem EdgesOf.skip {L : List Run} {Y : Int} {i : Nat} {l : List Int} (h : EdgesOf L Y i l) {r : Run} (hr : L[i]? = some r) (hy : r.y ≠ Y) : EdgesOf L Y (i + 1) l :=
  ⟨(List.getElem?_eq_some_iff.1 hr).1, h.srt, by have := h.len; omega, fun j q hj hq hqy => by
    rcases Nat.lt_or_ge j i with h1 | h1
    · exact h.has j q h1 hq hqy
    · have : j = i := by omega
      subst this; rw [hr] at hq; cases hq; exact absurd hqy hy⟩
theorem EdgesOf.step {L : List Run} {Y : Int} {i : Nat} {l : List Int} (h : EdgesOf L Y i l) {r : Run} (hr : L[i]? = some r) : EdgesOf L Y (i + 1) (ins r.x1 (ins r.x0 l)) :=
  ⟨(List.getElem?_eq_some_iff.1 hr).1, ins_sorted (ins_sorted h.srt), by
    have := ins_length (x := r.x1) (l := ins r.x0 l); have := ins_length (x := r.x0) (l := l); have := h.len; omega, fun j q hj hq hqy => by
    rcases Nat.lt_or_ge j i with h1 | h1
    · have := h.has j q h1 hq hqy
      exact ⟨mem_ins.2 (.inr (mem_ins.2 (.inr this.1))), mem_ins.2 (.inr (mem_ins.2 (.inr this.2)))⟩
    · have : j = i := by omega
      subst this; rw [hr] at hq; cases hq
      exact ⟨mem_ins.2 (.inr (mem_ins.2 (.inl rfl))), mem_ins.2 (.inl rfl)⟩⟩
theorem nth_left {La Lb : List Run} {i : Nat} (h : i < La.length) : (La ++ Lb)[i]? = some (nthR La i) := by
  rw [List.getElem?_append_left h, List.getElem?_eq_getElem h]; simp [nthR, List.getElem?_eq_getElem h]
theorem nth_right {La Lb : List Run} {i : Nat} (h : i < Lb.length) : (La ++ Lb)[La.length + i]? = some (nthR Lb i) := by
  rw [List.getElem?_append_right (by omega), show La.length + i - La.length = i by omega, List.getElem?_eq_getElem h]; simp [nthR, List.getElem?_eq_getElem h]
theorem EdgesOf.borders {La Lb : List Run} {Y : Int} {l : List Int} (h : EdgesOf (La ++ Lb) Y (La.length + Lb.length) l) : Borders (nthR La) (nthR Lb) La.length Lb.length Y l :=
  ⟨h.srt, fun i hi hy => h.has i _ (by omega) (nth_left hi) hy, fun i hi hy => h.has (La.length + i) _ (by omega) (nth_right hi) hy⟩
/-- The regions of the rows that are done have few runs. -/
theorem cells_len {k : Int} {La Lb : List Run} (va : ValidL La) (vb : ValidL Lb) {rows : List Int} {q : Nat} {Y p : Int} {out : List Run} (h : CellsAt (opB k) (nthR La) (nthR Lb) La.length Lb.length rows q Y p out) : out.length ≤ 268451840 :=
  okR_length h.ok (mixed_bd (c := k) va vb h.ok fun x y hx => by have := ((h.has x y).1 hx).1; rwa [hasB_nth, hasB_nth] at this)
end Go.Proofs.Ytmklpphdbmpbbaa
