/-
  The dashes of a line: which side holds a position, the points of a dash, the dashes one behind the other. No program in sight.
-/
import Derived.Test.YtpgjbfbdappniaaRow
namespace Go.Proofs.Ytpgjbfbdappniaa
open Go.RowKit
set_option linter.unusedVariables false
set_option linter.unusedSimpArgs false
section
variable {z t : Nat → Int} {T : Nat}
/-- Sizes of sides and the positions at which they begin. -/
structure Sides (z t : Nat → Int) (T : Nat) : Prop where
  zero : t 0 = 0
  next : ∀ i, i < T → t (i + 1) = t i + z i
  pos : ∀ i, i < T → 0 ≤ z i
theorem Sides.mono (h : Sides z t T) : ∀ d i, i + d ≤ T → t i ≤ t (i + d)
  | 0, i, _ => Int.le_refl _
  | d + 1, i, hd => by
    have h1 := h.mono d i (by omega)
    have h2 := h.next (i + d) (by omega)
    have h3 := h.pos (i + d) (by omega)
    rw [← Nat.add_assoc]; omega
theorem Sides.le (h : Sides z t T) {i j : Nat} (hij : i ≤ j) (hj : j ≤ T) : t i ≤ t j := by
  have := h.mono (j - i) i (by omega)
  rwa [show i + (j - i) = j by omega] at this
theorem Sides.nonneg (h : Sides z t T) {i : Nat} (hi : i ≤ T) : 0 ≤ t i := by
  have := h.le (Nat.zero_le i) hi
  rw [h.zero] at this; exact this
/-- The first side that holds a position. -/
structure IsFi (z t : Nat → Int) (T : Nat) (s : Int) (f : Nat) : Prop where
  lt : f < T
  sz : 0 < z f
  up : s ≤ t (f + 1)
  no : ∀ j, j < f → ¬ (0 < z j ∧ s ≤ t (j + 1))
theorem IsFi.uniq {s : Int} {f g : Nat} (h : IsFi z t T s f) (h' : IsFi z t T s g) : f = g := by
  rcases Nat.lt_trichotomy f g with h1 | h1 | h1
  · exact absurd ⟨h.sz, h.up⟩ (h'.no f h1)
  · exact h1
  · exact absurd ⟨h'.sz, h'.up⟩ (h.no g h1)
theorem IsFi.ex (s : Int) : ∀ T, Sides z t T → 0 < t T → s ≤ t T → ∃ f, IsFi z t T s f
  | 0, h, h1, _ => by have := h.zero; omega
  | T + 1, h, h1, h2 => by
    have h' : Sides z t T := ⟨h.zero, fun i hi => h.next i (by omega), fun i hi => h.pos i (by omega)⟩
    have e := h.next T (by omega)
    have p := h.pos T (by omega)
    by_cases hc : 0 < t T ∧ s ≤ t T
    · obtain ⟨f, hf⟩ := IsFi.ex s T h' hc.1 hc.2
      exact ⟨f, by have := hf.lt; omega, hf.sz, hf.up, hf.no⟩
    · refine ⟨T, by omega, ?_, by rw [e] at h2 ⊢; omega, fun j hj hh => ?_⟩
      · have := h'.nonneg (Nat.le_refl T); omega
      · obtain ⟨a, b⟩ := hh
        have h5 := h'.le (show j + 1 ≤ T by omega) (Nat.le_refl _)
        have h6 := h'.next j hj
        have h7 := h'.nonneg (show j ≤ T by omega)
        omega
theorem IsFi.low {s : Int} {f : Nat} (h : Sides z t T) (hf : IsFi z t T s f) (hs : 0 ≤ s) : ∀ k, k ≤ f → t k ≤ s
  | 0, _ => by rw [h.zero]; exact hs
  | k + 1, hk => by
    have h1 := hf.lt
    have h2 := IsFi.low h hf hs k (by omega)
    have h3 := h.next k (by omega)
    have h4 := h.pos k (by omega)
    have h5 := hf.no k (by omega)
    by_cases h6 : 0 < z k
    · have : ¬ s ≤ t (k + 1) := fun h7 => h5 ⟨h6, h7⟩
      omega
    · omega
theorem IsFi.le {a b : Int} {f g : Nat} (hf : IsFi z t T a f) (hg : IsFi z t T b g) (hab : a ≤ b) : f ≤ g := by
  rcases Nat.lt_or_ge g f with h1 | h1
  · exact absurd ⟨hg.sz, by have := hg.up; omega⟩ (hf.no g h1)
  · exact h1
noncomputable def fiI (z t : Nat → Int) (T : Nat) (s : Int) : Nat := Classical.epsilon fun f => IsFi z t T s f
theorem fiI_is (h : Sides z t T) {s : Int} (h1 : 0 < t T) (h2 : s ≤ t T) : IsFi z t T s (fiI z t T s) := Classical.epsilon_spec (IsFi.ex s T h h1 h2)
/-- The corners that lie between two positions. -/
def midL (t : Nat → Int) (p : Nat → Int × Int) (a b : Int) : Nat → List (Int × Int)
  | 0 => []
  | k + 1 => midL t p a b k ++ (if a < t (k + 1) ∧ t (k + 1) < b then [p (k + 1)] else [])
theorem midL_len {p : Nat → Int × Int} {a b : Int} : ∀ k, (midL t p a b k).length ≤ k
  | 0 => by simp [midL]
  | k + 1 => by
    have := midL_len (p := p) (a := a) (b := b) k
    rw [midL, List.length_append]
    split <;> simp <;> omega
theorem midL_low (h : Sides z t T) {p : Nat → Int × Int} {a b : Int} {f : Nat} (hf : IsFi z t T a f) (ha : 0 ≤ a) : ∀ k, k ≤ f → midL t p a b k = []
  | 0, _ => rfl
  | k + 1, hk => by
    have := IsFi.low h hf ha (k + 1) hk
    rw [midL, midL_low h hf ha k (by omega), if_neg (by omega)]; rfl
theorem midL_up (h : Sides z t T) {p : Nat → Int × Int} {a b : Int} {g : Nat} (hg : IsFi z t T b g) : ∀ d, g + d ≤ T → midL t p a b (g + d) = midL t p a b g
  | 0, _ => rfl
  | d + 1, hd => by
    have h1 := h.le (show g + 1 ≤ g + d + 1 by omega) (by omega)
    have h2 := hg.up
    rw [← Nat.add_assoc, midL, midL_up h hg d (by omega), if_neg (by omega), List.append_nil]
theorem midL_all (h : Sides z t T) {p : Nat → Int × Int} {a b : Int} {g : Nat} (hg : IsFi z t T b g) : midL t p a b T = midL t p a b g := by
  have := hg.lt
  have h1 := midL_up h (p := p) (a := a) hg (T - g) (by omega)
  rwa [show g + (T - g) = T by omega] at h1
end
/-! ### The dashes one behind the other -/
section
variable {P : Nat → Int} {m : Nat}
/-- The sum of the first i lengths of the pattern, which is repeated. -/
def cumI (P : Nat → Int) (m : Nat) : Nat → Int
  | 0 => 0
  | i + 1 => cumI P m i + P (i % m)
theorem cumI_add (hm : 0 < m) : ∀ i, cumI P m (i + m) = cumI P m i + cumI P m m
  | 0 => by rw [Nat.zero_add]; simp [cumI]
  | i + 1 => by
    rw [show i + 1 + m = i + m + 1 by omega, cumI, cumI_add hm i, Nat.add_mod_right, cumI]
    omega
theorem cumI_up (hp : ∀ i, i < m → 1 ≤ P i) (hm : 0 < m) : ∀ d i, cumI P m i + d ≤ cumI P m (i + d)
  | 0, i => by simp
  | d + 1, i => by
    have h1 := cumI_up hp hm d i
    have h2 := hp ((i + d) % m) (Nat.mod_lt _ hm)
    rw [← Nat.add_assoc, cumI]; omega
theorem cumI_le (hp : ∀ i, i < m → 1 ≤ P i) (hm : 0 < m) {i j : Nat} (h : i ≤ j) : cumI P m i + (j - i : Nat) ≤ cumI P m j := by
  have := cumI_up hp hm (j - i) i
  rwa [show i + (j - i) = j by omega] at this
def dashI (P : Nat → Int) (m : Nat) (h e : Int) (i : Nat) : Int × Int := (max (cumI P m i - h) 0, min (cumI P m (i + 1) - h) e)
def isD (P : Nat → Int) (m : Nat) (h e : Int) (i : Nat) : Prop := i % 2 = 0 ∧ (dashI P m h e i).1 < (dashI P m h e i).2
instance {h e : Int} {i : Nat} : Decidable (isD P m h e i) := by unfold isD; infer_instance
/-- The dashes among the first i pieces. -/
def dL (P : Nat → Int) (m : Nat) (h e : Int) : Nat → List (Int × Int)
  | 0 => []
  | i + 1 => dL P m h e i ++ (if isD P m h e i then [dashI P m h e i] else [])
theorem dL_end (hp : ∀ i, i < m → 1 ≤ P i) (hm : 0 < m) {h e : Int} {i : Nat} (hi : e ≤ cumI P m i - h) : ∀ d, dL P m h e (i + d) = dL P m h e i
  | 0 => rfl
  | d + 1 => by
    have h1 := cumI_up hp hm d i
    rw [← Nat.add_assoc, dL, dL_end hp hm hi d, if_neg, List.append_nil]
    rintro ⟨_, h2⟩
    unfold dashI at h2
    dsimp only at h2
    omega
theorem dL_same (hp : ∀ i, i < m → 1 ≤ P i) (hm : 0 < m) {h e : Int} {i j : Nat} (hi : e ≤ cumI P m i - h) (hj : e ≤ cumI P m j - h) : dL P m h e i = dL P m h e j := by
  rcases Nat.le_total i j with h1 | h1
  · rw [← dL_end hp hm hi (j - i), show i + (j - i) = j by omega]
  · rw [← dL_end hp hm hj (i - j), show j + (i - j) = i by omega]
theorem dL_le {h e : Int} : ∀ (d i : Nat), (dL P m h e i).length ≤ (dL P m h e (i + d)).length
  | 0, i => Nat.le_refl _
  | d + 1, i => by
    have := dL_le (h := h) (e := e) d i
    rw [← Nat.add_assoc, dL, List.length_append]; omega
/-- Ahead of the first piece that reaches behind 0 there is no dash. -/
theorem dL_low {h e : Int} : ∀ {i : Nat}, (∀ j, j < i → cumI P m (j + 1) ≤ h) → dL P m h e i = []
  | 0, _ => rfl
  | i + 1, hi => by
    have h1 := hi i (by omega)
    rw [dL, dL_low (i := i) fun j hj => hi j (by omega), if_neg]; · rfl
    rintro ⟨_, h2⟩
    unfold dashI at h2
    dsimp only at h2
    omega
theorem dL_mem {h e : Int} {r : Int × Int} : ∀ {i : Nat}, r ∈ dL P m h e i → 0 ≤ r.1 ∧ r.1 < r.2 ∧ r.2 ≤ e
  | 0, hr => by simp [dL] at hr
  | i + 1, hr => by
    rw [dL, List.mem_append] at hr
    rcases hr with hr | hr
    · exact dL_mem hr
    · split at hr
      · rename_i hd
        simp at hr; subst hr
        have := hd.2
        refine ⟨?_, this, ?_⟩
        · unfold dashI; dsimp only; omega
        · unfold dashI; dsimp only; omega
      · simp at hr
/-- Too many dashes. -/
def bigD (P : Nat → Int) (m : Nat) (h e : Int) : Prop := ∃ i, 10000 < (dL P m h e i).length
theorem bigD_not (hp : ∀ i, i < m → 1 ≤ P i) (hm : 0 < m) {h e : Int} {i : Nat} (hi : e ≤ cumI P m i - h) (hl : (dL P m h e i).length ≤ 10000) : ¬ bigD P m h e := by
  rintro ⟨j, hj⟩
  rcases Nat.le_total i j with h1 | h1
  · rw [← show i + (j - i) = j by omega, dL_end hp hm hi] at hj; omega
  · have := dL_le (P := P) (m := m) (h := h) (e := e) (i - j) j
    rw [show j + (i - j) = i by omega] at this
    omega
theorem bigD_is {h e : Int} {i : Nat} (hd : isD P m h e i) (hl : (dL P m h e i).length = 10000) : bigD P m h e := ⟨i + 1, by rw [dL, if_pos hd, List.length_append, hl]; simp⟩
end
end Go.Proofs.Ytpgjbfbdappniaa
