/-
  What dilate makes.
-/
import Derived.Test.YtiakdbcikmkomaaMrg5
import Derived.Test.YtiakdbcikmkomaaMrg10
import Derived.Test.YtiakdbcikmkomaaErodeOk
namespace Go.Proofs.Ytiakdbcikmkomaa
open Go.RowKit
set_option linter.unusedVariables false
def wideR (w : Int) (r : Run) : Run := ⟨r.y, max (r.x0 - w) (-8192), min (r.x1 + w) 8192⟩
def wideO (w : Int) (L : List Run) (i : Nat) : List Run := jn [] ((L.map (wideR w)).take i)
abbrev wideL (w : Int) (L : List Run) : List Run := jn [] (L.map (wideR w))
theorem wideO_step {w : Int} {L : List Run} {i : Nat} {r : Run} (h : L[i]? = some r) : wideO w L (i + 1) = addR (wideO w L i) r.y (max (r.x0 - w) (-8192)) (min (r.x1 + w) 8192) :=
  jn_take (L := L.map (wideR w)) (r := wideR w r) (by rw [List.getElem?_map, h]; rfl)
theorem wideO_all (w : Int) (L : List Run) : wideO w L L.length = wideL w L := by
  unfold wideO; rw [List.take_of_length_le (by simp)]
theorem wideO_len (w : Int) (L : List Run) (i : Nat) : (wideO w L i).length ≤ L.length := by
  have := jn_len ((L.map (wideR w)).take i) []
  rw [List.length_take, List.length_map] at this
  unfold wideO
  simp only [List.length_nil] at this
  omega
/-- The copies of a run in the rows around it. -/
def copyR (w : Int) (s : Run) (k : Nat) : Run := ⟨max (s.y - w) (-8192) + k, s.x0, s.x1⟩
def copies (w : Int) (s : Run) (n : Nat) : List Run := (List.range n).map (copyR w s)
def numC (w : Int) (s : Run) : Nat := (min (s.y + w) 8191 + 1 - max (s.y - w) (-8192)).toNat
def allC (w : Int) (W : List Run) (i : Nat) : List Run := (W.take i).flatMap fun s => copies w s (numC w s)
theorem copies_zero (w : Int) (s : Run) : copies w s 0 = [] := rfl
theorem copies_succ (w : Int) (s : Run) (n : Nat) : copies w s (n + 1) = copies w s n ++ [copyR w s n] := by
  unfold copies; rw [List.range_succ, List.map_append]; rfl
theorem copies_len (w : Int) (s : Run) (n : Nat) : (copies w s n).length = n := by simp [copies]
theorem allC_zero (w : Int) (W : List Run) : allC w W 0 = [] := by simp [allC]
theorem allC_step {w : Int} {W : List Run} {i : Nat} {s : Run} (h : W[i]? = some s) : allC w W (i + 1) = allC w W i ++ copies w s (numC w s) := by
  unfold allC; rw [List.take_add_one, h, Option.toList_some, List.flatMap_append]; simp
theorem numC_le {w : Int} (hw : 0 ≤ w ∧ w ≤ 64) (s : Run) : numC w s ≤ 129 := by unfold numC; omega
theorem allC_len {w : Int} (hw : 0 ≤ w ∧ w ≤ 64) (W : List Run) : ∀ i, (allC w W i).length ≤ i * 129
  | 0 => by simp [allC]
  | i + 1 => by
    have h := allC_len hw W i
    rcases Nat.lt_or_ge i W.length with h1 | h1
    · rw [allC_step (List.getElem?_eq_getElem h1), List.length_append, copies_len]
      have := numC_le hw W[i]
      omega
    · have e : allC w W (i + 1) = allC w W i := by unfold allC; rw [List.take_of_length_le h1, List.take_of_length_le (by omega)]
      rw [e]; omega
/-- The permitted cells within w of a cell. -/
def cellD (w : Int) (L : List Run) (x y : Int) : Prop := (-8192 ≤ y ∧ y ≤ 8191) ∧ ∃ r ∈ L, (y - w ≤ r.y ∧ r.y ≤ y + w) ∧ max (r.x0 - w) (-8192) ≤ x ∧ x < min (r.x1 + w) 8192
theorem wide_leR {w : Int} {L : List Run} (h : okR L) : (L.map (wideR w)).Pairwise leR := by
  rw [List.pairwise_map]
  refine (okR_le h).imp fun {a b} hab => ?_
  unfold leR wideR at *
  simp only
  omega
theorem wide_ok {w : Int} {L : List Run} (h : okR L) : okR (wideL w L) ∧ ∀ x y, hasR (wideL w L) x y ↔ ∃ r ∈ L, r.y = y ∧ max (r.x0 - w) (-8192) ≤ x ∧ x < min (r.x1 + w) 8192 := by
  obtain ⟨h1, h2⟩ := jn_ok (L.map (wideR w)) [] trivial (by simp) (wide_leR h)
  refine ⟨h1, fun x y => ?_⟩
  rw [h2]
  constructor
  · rintro (h3 | ⟨q, hq, h3, h4, h5⟩)
    · exact absurd h3 hasR_nil
    · obtain ⟨r, hr, rfl⟩ := List.mem_map.1 hq
      exact ⟨r, hr, h3, h4, h5⟩
  · rintro ⟨r, hr, h3, h4, h5⟩
    exact .inr ⟨wideR w r, List.mem_map.2 ⟨r, hr, rfl⟩, h3, h4, h5⟩
theorem allC_cells {w : Int} {W : List Run} {x y : Int} : hasR (allC w W W.length) x y ↔ (-8192 ≤ y ∧ y ≤ 8191) ∧ ∃ s ∈ W, (y - w ≤ s.y ∧ s.y ≤ y + w) ∧ s.x0 ≤ x ∧ x < s.x1 := by
  unfold allC
  rw [List.take_length]
  constructor
  · rintro ⟨q, hq, h1, h2, h3⟩
    obtain ⟨s, hs, hq⟩ := List.mem_flatMap.1 hq
    obtain ⟨k, hk, rfl⟩ := List.mem_map.1 hq
    rw [List.mem_range] at hk
    unfold numC at hk
    have h1' : max (s.y - w) (-8192) + (k : Int) = y := h1
    exact ⟨by omega, s, hs, by omega, h2, h3⟩
  · rintro ⟨hy, s, hs, h1, h2, h3⟩
    refine ⟨copyR w s (y - max (s.y - w) (-8192)).toNat, List.mem_flatMap.2 ⟨s, hs, List.mem_map.2 ⟨_, List.mem_range.2 (by unfold numC; omega), rfl⟩⟩, ?_, h2, h3⟩
    show max (s.y - w) (-8192) + (((y - max (s.y - w) (-8192)).toNat : Nat) : Int) = y
    omega
abbrev dilD (w : Int) (L : List Run) : List Run := allC w (wideL w L) (wideL w L).length
theorem dil_cells {w : Int} {L : List Run} (h : okR L) {x y : Int} : hasR (dilD w L) x y ↔ cellD w L x y := by
  rw [allC_cells]
  unfold cellD
  refine and_congr Iff.rfl ?_
  have key : ∀ z, (∃ s ∈ wideL w L, s.y = z ∧ s.x0 ≤ x ∧ x < s.x1) ↔ ∃ r ∈ L, r.y = z ∧ max (r.x0 - w) (-8192) ≤ x ∧ x < min (r.x1 + w) 8192 := fun z => (wide_ok h).2 x z
  constructor
  · rintro ⟨s, hs, h1, h2⟩
    obtain ⟨r, hr, h3, h4⟩ := (key s.y).1 ⟨s, hs, rfl, h2⟩
    exact ⟨r, hr, by omega, h4⟩
  · rintro ⟨r, hr, h1, h2⟩
    obtain ⟨s, hs, h3, h4⟩ := (key r.y).2 ⟨r, hr, rfl, h2⟩
    exact ⟨s, hs, by omega, h4⟩
open Classical in
theorem jn_ex (L : List Run) : ∀ (M : List Run), okR M → (∀ r ∈ L, r.x0 < r.x1) → ∃ N, okR N ∧ ∀ x y, hasR N x y ↔ hasR M x y ∨ hasR L x y := fun M hM hL => by
  have : ∃ P : List Run, P.Perm (M ++ L) ∧ P.Pairwise leR := by
    refine ⟨(M ++ L).mergeSort (fun r s => decide (leR r s)), List.mergeSort_perm _ _, ?_⟩
    have := List.pairwise_mergeSort (le := fun r s => decide (leR r s)) (fun a b c h1 h2 => by
      simp only [decide_eq_true_eq] at *; unfold leR at *; omega) (fun a b => by
      simp only [Bool.or_eq_true, decide_eq_true_eq]; unfold leR; omega) (M ++ L)
    exact this.imp fun h => by simpa using h
  obtain ⟨P, h1, h2⟩ := this
  obtain ⟨h3, h4⟩ := jn_ok P [] trivial (by simp) h2
  refine ⟨jn [] P, h3, fun x y => ?_⟩
  rw [h4, hasR_perm h1, hasR_append]
  exact ⟨fun h => h.resolve_left hasR_nil, .inr⟩
theorem dil_run {w : Int} {L : List Run} (h : okR L) : ∀ r ∈ dilD w L, r.x0 < r.x1 := fun r hr => by
  obtain ⟨s, hs, hq⟩ := List.mem_flatMap.1 hr
  obtain ⟨k, hk, rfl⟩ := List.mem_map.1 hq
  rw [List.take_length] at hs
  exact okR_run (r := s) (wide_ok h).1 hs
/-- What dilate makes is a region, and which cells it has. -/
theorem dilate_ok {w : Int} {L : List Run} (v : ValidL L) : okR (joinL (dilD w L)) ∧ ∀ x y, hasR (joinL (dilD w L)) x y ↔ cellD w L x y := by
  obtain ⟨N, h1, h2⟩ := jn_ex (dilD w L) [] trivial (dil_run v.ok)
  have e : joinL (dilD w L) = N := joinL_is h1 fun u v => by rw [h2]; exact ⟨fun h => h.resolve_left hasR_nil, .inr⟩
  rw [e]
  refine ⟨h1, fun x y => ?_⟩
  rw [h2, dil_cells v.ok]
  exact ⟨fun h => h.resolve_left hasR_nil, .inr⟩
theorem dil_bd {w : Int} (hw : 0 ≤ w ∧ w ≤ 64) {L : List Run} (v : ValidL L) : ∀ r ∈ dilD w L, (-8192 ≤ r.y ∧ r.y ≤ 8191) ∧ -8192 ≤ r.x0 ∧ r.x0 < r.x1 ∧ r.x1 ≤ 8192 := fun r hr => by
  have hx := dil_run v.ok r hr
  have h0 := (dil_cells (w := w) v.ok).1 ⟨r, hr, rfl, Int.le_refl _, hx⟩
  have h1 := (dil_cells (w := w) v.ok).1 ⟨r, hr, rfl, (by omega : r.x0 ≤ r.x1 - 1), by omega⟩
  obtain ⟨h2, q, hq, h3, h4⟩ := h0
  obtain ⟨_, q', hq', h3', h4'⟩ := h1
  omega
end Go.Proofs.Ytiakdbcikmkomaa
