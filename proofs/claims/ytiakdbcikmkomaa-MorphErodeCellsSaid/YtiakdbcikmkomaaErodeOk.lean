/-
  What erode makes is a region, and which cells it has.
-/
import Derived.Test.YtiakdbcikmkomaaErodeLaw
namespace Go.Proofs.Ytiakdbcikmkomaa
open Go.RowKit
set_option linter.unusedVariables false
theorem mem_narY {w : Int} {L : List Run} {y : Int} {q : Run} : q ∈ narY w L y ↔ ∃ s ∈ L, s.y = y ∧ s.x0 + w < s.x1 - w ∧ q = ⟨s.y, s.x0 + w, s.x1 - w⟩ := by
  unfold narY
  rw [List.mem_filterMap]
  constructor
  · rintro ⟨s, hs, h⟩
    rw [List.mem_filter] at hs
    unfold narR at h
    split at h
    · rename_i h2
      cases h
      exact ⟨s, hs.1, by simpa using hs.2, h2, rfl⟩
    · cases h
  · rintro ⟨s, hs, h1, h2, rfl⟩
    exact ⟨s, List.mem_filter.2 ⟨hs, by simpa using h1⟩, by unfold narR; rw [if_pos h2]⟩
theorem narY_ok {w : Int} (hw : 0 ≤ w) {y : Int} : ∀ {L : List Run}, okR L → okR (narY w L y)
  | [], _ => trivial
  | r :: l, h => by
    have e : narY w (r :: l) y = narY w [r] y ++ narY w l y := by rw [← narY_app]; rfl
    rw [e, okR_append]
    refine ⟨?_, narY_ok hw h.2.2, fun p hp q hq => ?_⟩
    · rw [narY_one]
      split
      · split
        · rename_i h2; exact ⟨h2, by simp, trivial⟩
        · trivial
      · trivial
    · obtain ⟨s, hs, h1, h2, rfl⟩ := mem_narY.1 hp
      obtain ⟨u, hu, h3, h4, rfl⟩ := mem_narY.1 hq
      simp at hs
      subst hs
      have := h.2.1 u hu
      right
      refine ⟨by show s.y = u.y; omega, ?_⟩
      show s.x1 - w < u.x0 + w
      omega
theorem narY_cells {w : Int} {L : List Run} {x y : Int} : hasR (narY w L y) x y ↔ ∃ r ∈ L, r.y = y ∧ r.x0 + w ≤ x ∧ x < r.x1 - w := by
  constructor
  · rintro ⟨q, hq, h1, h2, h3⟩
    obtain ⟨s, hs, h4, h5, rfl⟩ := mem_narY.1 hq
    exact ⟨s, hs, h4, h2, h3⟩
  · rintro ⟨s, hs, h1, h2, h3⟩
    exact ⟨⟨s.y, s.x0 + w, s.x1 - w⟩, mem_narY.2 ⟨s, hs, h1, by omega, rfl⟩, h1, h2, h3⟩
theorem meetL_lo {y : Int} : ∀ (n : Nat) (a b : List Run), a.length + b.length ≤ n → ∀ s ∈ meetL y a b, (∃ p ∈ a, p.x0 ≤ s.x0) ∧ ∃ q ∈ b, q.x0 ≤ s.x0
  | _, [], b, _, s, hs => by rw [meetL_nil_left] at hs; cases hs
  | _, a :: ta, [], _, s, hs => by rw [meetL_nil_right] at hs; cases hs
  | 0, a :: ta, b :: tb, h, s, hs => by simp at h
  | n + 1, a :: ta, b :: tb, h, s, hs => by
    simp only [List.length_cons] at h
    rw [meetL_cons, List.mem_append] at hs
    rcases hs with hs | hs
    · split at hs
      · simp at hs; subst hs
        exact ⟨⟨a, by simp, by show a.x0 ≤ max a.x0 b.x0; omega⟩, ⟨b, by simp, by show b.x0 ≤ max a.x0 b.x0; omega⟩⟩
      · cases hs
    · split at hs
      · obtain ⟨⟨p, hp, h1⟩, h2⟩ := meetL_lo n ta (b :: tb) (by simp only [List.length_cons]; omega) s hs
        exact ⟨⟨p, by simp [hp], h1⟩, h2⟩
      · obtain ⟨h1, q, hq, h2⟩ := meetL_lo n (a :: ta) tb (by simp only [List.length_cons]; omega) s hs
        exact ⟨h1, q, by simp [hq], h2⟩
theorem meetL_ok {y : Int} : ∀ (n : Nat) (a b : List Run), a.length + b.length ≤ n → okR a → okR b → (∀ r ∈ a, r.y = y) → (∀ r ∈ b, r.y = y) → okR (meetL y a b) ∧ ∀ x, hasR (meetL y a b) x y ↔ hasR a x y ∧ hasR b x y
  | _, [], b, _, _, _, _, _ => by rw [meetL_nil_left]; exact ⟨trivial, fun x => by simp [hasR]⟩
  | _, a :: ta, [], _, _, _, _, _ => by rw [meetL_nil_right]; exact ⟨trivial, fun x => by simp [hasR]⟩
  | 0, a :: ta, b :: tb, h, _, _, _, _ => by simp at h
  | n + 1, a :: ta, b :: tb, h, ha, hb, hya, hyb => by
    simp only [List.length_cons] at h
    have ya := hya a (by simp)
    have yb := hyb b (by simp)
    have ga : ∀ s ∈ ta, a.x1 < s.x0 := fun s hs => by
      have h1 := ha.2.1 s hs
      have h2 := hya s (by simp [hs])
      omega
    have gb : ∀ s ∈ tb, b.x1 < s.x0 := fun s hs => by
      have h1 := hb.2.1 s hs
      have h2 := hyb s (by simp [hs])
      omega
    rw [meetL_cons]
    have hd : ∀ x, hasR (if max a.x0 b.x0 < min a.x1 b.x1 then [(⟨y, max a.x0 b.x0, min a.x1 b.x1⟩ : Run)] else []) x y ↔ (a.x0 ≤ x ∧ x < a.x1) ∧ b.x0 ≤ x ∧ x < b.x1 := fun x => by
      split
      · rw [hasR_one]
        show (y = y ∧ max a.x0 b.x0 ≤ x ∧ x < min a.x1 b.x1) ↔ _
        constructor
        · rintro ⟨_, h1, h2⟩; omega
        · intro h; exact ⟨rfl, by omega, by omega⟩
      · constructor
        · intro h; exact absurd h hasR_nil
        · intro h; omega
    by_cases hx : a.x1 < b.x1
    · rw [if_pos hx]
      obtain ⟨h1, h2⟩ := meetL_ok n ta (b :: tb) (by simp only [List.length_cons]; omega) ha.2.2 hb (fun r hr => hya r (by simp [hr])) hyb
      refine ⟨okR_append.2 ⟨?_, h1, fun p hp q hq => ?_⟩, fun x => ?_⟩
      · split
        · rename_i hm; exact ⟨hm, by simp, trivial⟩
        · trivial
      · obtain ⟨⟨u, hu, h3⟩, _⟩ := meetL_lo _ _ _ (Nat.le_refl _) q hq
        have h4 := meetL_y _ _ _ (Nat.le_refl _) q hq
        have h5 := ga u hu
        split at hp
        · simp at hp; subst hp
          right
          refine ⟨h4.symm, ?_⟩
          show min a.x1 b.x1 < q.x0
          omega
        · cases hp
      · rw [hasR_append, hd, h2, hasR_cons, hasR_cons]
        constructor
        · rintro (⟨h3, h4⟩ | ⟨h3, h4⟩)
          · exact ⟨.inl ⟨ya, h3⟩, .inl ⟨yb, h4⟩⟩
          · exact ⟨.inr h3, h4⟩
        · rintro ⟨⟨_, h3⟩ | h3, h4⟩
          · rcases h4 with ⟨_, h4⟩ | ⟨s, hs, _, h5, h6⟩
            · exact .inl ⟨h3, h4⟩
            · have := gb s hs; omega
          · exact .inr ⟨h3, h4⟩
    · rw [if_neg hx]
      obtain ⟨h1, h2⟩ := meetL_ok n (a :: ta) tb (by simp only [List.length_cons]; omega) ha hb.2.2 hya (fun r hr => hyb r (by simp [hr]))
      refine ⟨okR_append.2 ⟨?_, h1, fun p hp q hq => ?_⟩, fun x => ?_⟩
      · split
        · rename_i hm; exact ⟨hm, by simp, trivial⟩
        · trivial
      · obtain ⟨_, u, hu, h3⟩ := meetL_lo _ _ _ (Nat.le_refl _) q hq
        have h4 := meetL_y _ _ _ (Nat.le_refl _) q hq
        have h5 := gb u hu
        split at hp
        · simp at hp; subst hp
          right
          refine ⟨h4.symm, ?_⟩
          show min a.x1 b.x1 < q.x0
          omega
        · cases hp
      · rw [hasR_append, hd, h2, hasR_cons, hasR_cons]
        constructor
        · rintro (⟨h3, h4⟩ | ⟨h3, h4⟩)
          · exact ⟨.inl ⟨ya, h3⟩, .inl ⟨yb, h4⟩⟩
          · exact ⟨h3, .inr h4⟩
        · rintro ⟨h3, ⟨_, h4⟩ | h4⟩
          · rcases h3 with ⟨_, h3⟩ | ⟨s, hs, _, h5, h6⟩
            · exact .inl ⟨h3, h4⟩
            · have := ga s hs; omega
          · exact .inr ⟨h3, h4⟩
theorem meetL_row (y : Int) : ∀ (n : Nat) (a b : List Run), a.length + b.length ≤ n → meetL y a (b.map fun r => (⟨y, r.x0, r.x1⟩ : Run)) = meetL y a b
  | _, [], b, _ => by rw [meetL_nil_left, meetL_nil_left]
  | _, a :: ta, [], _ => by rw [List.map_nil, meetL_nil_right]
  | 0, a :: ta, b :: tb, h => by simp at h
  | n + 1, a :: ta, b :: tb, h => by
    simp only [List.length_cons] at h
    rw [List.map_cons, meetL_cons, meetL_cons]
    have e1 := meetL_row y n ta (b :: tb) (by simp only [List.length_cons]; omega)
    have e2 := meetL_row y n (a :: ta) tb (by simp only [List.length_cons]; omega)
    rw [List.map_cons] at e1
    simp only [e1, e2]
theorem okR_row {y z : Int} : ∀ {b : List Run}, okR b → (∀ r ∈ b, r.y = z) → okR (b.map fun r => (⟨y, r.x0, r.x1⟩ : Run))
  | [], _, _ => trivial
  | r :: l, h, hy => by
    refine ⟨h.1, fun s hs => ?_, okR_row h.2.2 fun s hs => hy s (by simp [hs])⟩
    obtain ⟨u, hu, rfl⟩ := List.mem_map.1 hs
    have h1 := h.2.1 u hu
    have h2 := hy r (by simp)
    have h3 := hy u (by simp [hu])
    right
    exact ⟨rfl, by show r.x1 < u.x0; omega⟩
theorem leftD_ok {w : Int} (hw : 0 ≤ w) {L : List Run} (h : okR L) {y : Int} : ∀ d : Nat, okR (leftD w L y d) ∧ ∀ x, hasR (leftD w L y d) x y ↔ ∀ e : Int, -(d : Int) ≤ e → e ≤ d → hasR (narY w L (y + e)) x (y + e)
  | 0 => ⟨narY_ok hw h, fun x => ⟨fun h e h1 h2 => by
      have : e = 0 := by omega
      subst this
      rw [Int.add_zero]; exact h, fun h => by have := h 0 (by omega) (by omega); rwa [Int.add_zero] at this⟩⟩
  | d + 1 => by
    obtain ⟨h1, h2⟩ := leftD_ok hw h (y := y) d
    -- a narrowed row, told to be of another row
    have key : ∀ (a : List Run) (e : Int), okR a → (∀ r ∈ a, r.y = y) → okR (meetL y a (narY w L (y + e))) ∧ ∀ x, hasR (meetL y a (narY w L (y + e))) x y ↔ hasR a x y ∧ hasR (narY w L (y + e)) x (y + e) := fun a e ha hya => by
      have re : ∀ b : List Run, meetL y a b = meetL y a (b.map fun r => ⟨y, r.x0, r.x1⟩) := fun b => (meetL_row y _ a b (Nat.le_refl _)).symm
      have hb := narY_ok hw h (y := y + e)
      have hyb : ∀ r ∈ narY w L (y + e), r.y = y + e := narY_y
      generalize narY w L (y + e) = b at *
      rw [re]
      have hok : okR (b.map fun r => (⟨y, r.x0, r.x1⟩ : Run)) := okR_row hb hyb
      obtain ⟨g1, g2⟩ := meetL_ok _ a _ (Nat.le_refl _) ha hok hya (fun r hr => by
        obtain ⟨s, _, rfl⟩ := List.mem_map.1 hr; rfl)
      refine ⟨g1, fun x => ?_⟩
      rw [g2]
      refine and_congr Iff.rfl ?_
      constructor
      · rintro ⟨r, hr, h3, h4, h5⟩
        obtain ⟨s, hs, rfl⟩ := List.mem_map.1 hr
        exact ⟨s, hs, hyb s hs, h4, h5⟩
      · rintro ⟨s, hs, h3, h4, h5⟩
        exact ⟨_, List.mem_map.2 ⟨s, hs, rfl⟩, rfl, h4, h5⟩
    rw [leftD]
    obtain ⟨g1, g2⟩ := key (leftD w L y d) (-((d : Int) + 1)) h1 (leftD_y d)
    rw [show y + -((d : Int) + 1) = y - ((d : Int) + 1) by omega] at g1 g2
    obtain ⟨g3, g4⟩ := key _ ((d : Int) + 1) g1 (meetL_y _ _ _ (Nat.le_refl _))
    refine ⟨g3, fun x => ?_⟩
    rw [g4, g2, h2]
    constructor
    · rintro ⟨⟨h3, h4⟩, h5⟩ e he1 he2
      by_cases e1 : e = (d : Int) + 1
      · subst e1; exact h5
      · by_cases e2 : e = -((d : Int) + 1)
        · subst e2; rw [show y + -((d : Int) + 1) = y - ((d : Int) + 1) by omega]; exact h4
        · exact h3 e (by push_cast at he1; omega) (by push_cast at he2; omega)
    · intro h3
      refine ⟨⟨fun e h4 h5 => h3 e (by push_cast; omega) (by push_cast; omega), ?_⟩, h3 _ (by push_cast; omega) (by push_cast; omega)⟩
      have := h3 (-((d : Int) + 1)) (by push_cast; omega) (by push_cast; omega)
      rwa [show y + -((d : Int) + 1) = y - ((d : Int) + 1) by omega] at this
/-- The cells of which all cells within w are there. -/
def cellE (w : Int) (L : List Run) (x y : Int) : Prop := ∀ e : Int, -w ≤ e → e ≤ w → ∃ r ∈ L, r.y = y + e ∧ r.x0 + w ≤ x ∧ x < r.x1 - w
theorem leftY_cells {w : Int} (hw : 0 ≤ w) {L : List Run} (h : okR L) {x y : Int} : hasR (leftY w L y) x y ↔ cellE w L x y := by
  rw [(leftD_ok hw h w.toNat).2]
  unfold cellE
  rw [Int.toNat_of_nonneg hw]
  exact forall_congr' fun e => forall_congr' fun h1 => forall_congr' fun h2 => narY_cells
theorem okR_le {L : List Run} (h : okR L) : L.Pairwise leR := by
  induction L with
  | nil => exact List.Pairwise.nil
  | cons r l ih =>
    refine List.Pairwise.cons (fun s hs => ?_) (ih h.2.2)
    have h1 := h.2.1 s hs
    have h2 := h.1
    unfold leR
    omega
theorem outE_ok {w : Int} (hw : 0 ≤ w) {L : List Run} (v : ValidL L) : ∀ j, j ≤ L.length → okR (outE w L j) ∧ (∀ r ∈ outE w L j, ∃ k, k < j ∧ (nthR L k).y = r.y) ∧ ∀ x y, hasR (outE w L j) x y ↔ (∃ k, k < j ∧ (nthR L k).y = y) ∧ cellE w L x y
  | 0, _ => ⟨trivial, by simp [outE], fun x y => ⟨fun h => absurd h hasR_nil, fun ⟨⟨k, hk, _⟩, _⟩ => by omega⟩⟩
  | j + 1, hj => by
    obtain ⟨h1, h2, h3⟩ := outE_ok hw v j (by omega)
    have get : ∀ k, k < L.length → L[k]? = some (nthR L k) := fun k hk => by
      have : L[k]? = some L[k] := List.getElem?_eq_getElem hk
      rw [nthR_get this]; exact this
    have mono : ∀ k, k < j → (nthR L k).y ≤ (nthR L j).y := fun k hk => by
      have := okR_lt v.ok hk (get k (by omega)) (get j (by omega))
      omega
    rw [outE]
    by_cases hs : j = 0 ∨ (nthR L (j - 1)).y ≠ (nthR L j).y
    · rw [if_pos hs]
      have lt : ∀ k, k < j → (nthR L k).y < (nthR L j).y := fun k hk => by
        rcases hs with hs | hs
        · omega
        · have e1 : (nthR L (j - 1)).y < (nthR L j).y := by have := mono (j - 1) (by omega); omega
          by_cases hk2 : k = j - 1
          · rw [hk2]; exact e1
          · have := okR_lt v.ok (show k < j - 1 by omega) (get k (by omega)) (get (j - 1) (by omega))
            omega
      have lok := leftD_ok hw v.ok (y := (nthR L j).y) w.toNat
      have ly : ∀ s ∈ leftY w L (nthR L j).y, s.y = (nthR L j).y := leftD_y w.toNat
      obtain ⟨g1, g2⟩ := jn_ok (leftY w L (nthR L j).y) (outE w L j) h1 (fun r hr s hs => by
        obtain ⟨k, hk, hy⟩ := h2 r hr
        have := lt k hk
        have := ly s hs
        unfold leR; omega) (okR_le lok.1)
      have cells : ∀ x y, hasR (jn (outE w L j) (leftY w L (nthR L j).y)) x y ↔ (∃ k, k < j + 1 ∧ (nthR L k).y = y) ∧ cellE w L x y := fun x y => by
        rw [g2, h3]
        constructor
        · rintro (⟨⟨k, hk, hy⟩, h4⟩ | h4)
          · exact ⟨⟨k, by omega, hy⟩, h4⟩
          · obtain ⟨s, hs, hy, h5⟩ := h4
            have e := ly s hs
            have hyy : y = (nthR L j).y := by omega
            subst hyy
            exact ⟨⟨j, by omega, rfl⟩, (leftY_cells hw v.ok).1 ⟨s, hs, hy, h5⟩⟩
        · rintro ⟨⟨k, hk, hy⟩, h4⟩
          by_cases e : k = j
          · subst e; subst hy; exact .inr ((leftY_cells hw v.ok).2 h4)
          · exact .inl ⟨⟨k, by omega, hy⟩, h4⟩
      refine ⟨g1, fun r hr => ?_, cells⟩
      have hx := okR_run g1 hr
      obtain ⟨⟨k, hk, hy⟩, _⟩ := (cells r.x0 r.y).1 ⟨r, hr, rfl, by omega, hx⟩
      exact ⟨k, hk, hy⟩
    · rw [if_neg hs]
      have hs : ¬ j = 0 ∧ (nthR L (j - 1)).y = (nthR L j).y := ⟨fun h => hs (.inl h), Decidable.not_not.1 fun h => hs (.inr h)⟩
      refine ⟨h1, fun r hr => ?_, fun x y => ?_⟩
      · obtain ⟨k, hk, hy⟩ := h2 r hr
        exact ⟨k, by omega, hy⟩
      · rw [h3]
        refine and_congr ⟨fun ⟨k, hk, hy⟩ => ⟨k, by omega, hy⟩, fun ⟨k, hk, hy⟩ => ?_⟩ Iff.rfl
        by_cases e : k = j
        · subst e; exact ⟨k - 1, by omega, by rw [hs.2]; exact hy⟩
        · exact ⟨k, by omega, hy⟩
/-- What erode makes. -/
theorem erode_ok {w : Int} (hw : 0 ≤ w) {L : List Run} (v : ValidL L) : okR (outE w L L.length) ∧ ∀ x y, hasR (outE w L L.length) x y ↔ cellE w L x y := by
  obtain ⟨h1, _, h3⟩ := outE_ok hw v L.length (Nat.le_refl _)
  refine ⟨h1, fun x y => ?_⟩
  rw [h3]
  refine ⟨fun h => h.2, fun h => ⟨?_, h⟩⟩
  obtain ⟨r, hr, hy, _⟩ := h 0 (by omega) hw
  obtain ⟨k, hk⟩ := List.getElem?_of_mem hr
  exact ⟨k, (List.getElem?_eq_some_iff.1 hk).1, by rw [nthR_get hk]; omega⟩
end Go.Proofs.Ytiakdbcikmkomaa
