/-
  Plain laws: the region of an operation. No program in sight.
-/
import Derived.Test.YtbkhpddodmbdoaaMrg10
namespace Go.Proofs.Ytbkhpddodmbdoaa
theorem runsL_nth (L : List Run) : runsL (nthR L) L.length = L := by
  apply List.ext_getElem?
  intro i
  unfold runsL
  rw [List.getElem?_map]
  by_cases h : i < L.length
  · rw [List.getElem?_range h, List.getElem?_eq_getElem h]
    simp [nthR, List.getElem?_eq_getElem h]
  · rw [List.getElem?_eq_none (by simpa using h), List.getElem?_eq_none (by omega)]; rfl
theorem hasB_nth (L : List Run) (x y : Int) : hasB (nthR L) L.length x y = hasL L x y := by rw [← hasL_runs, runsL_nth]
def ValidL (L : List Run) : Prop := Valid (nthR L) L.length
theorem validL_of {rs : Nat → Run} {n : Nat} (h : Valid rs n) : ValidL (runsL rs n) := by
  have hl : (runsL rs n).length = n := by simp [runsL]
  have hn : ∀ i, i < n → nthR (runsL rs n) i = rs i := fun i hi => by simp [nthR, runsL, List.getElem?_range hi]
  refine ⟨fun i hi => ?_, fun i j hij hj => ?_⟩
  · rw [hl] at hi; rw [hn i hi]; exact h.bd i hi
  · rw [hl] at hj; rw [hn i (by omega), hn j hj]; exact h.lt i j hij hj
theorem ValidL.ok {L : List Run} (h : ValidL L) : okR L := by have := Valid.ok h; rwa [runsL_nth] at this
theorem ValidL.bd {L : List Run} (h : ValidL L) {r : Run} (hr : r ∈ L) : (-8192 ≤ r.y ∧ r.y ≤ 8191) ∧ (-8192 ≤ r.x0 ∧ r.x0 < r.x1 ∧ r.x1 ≤ 8192) := by
  obtain ⟨i, hi⟩ := List.mem_iff_getElem?.1 hr
  have := Valid.bd h i (List.getElem?_eq_some_iff.1 hi).1
  rwa [nthR_get hi] at this
theorem okR_lt {L : List Run} (h : okR L) : ∀ {i j : Nat} {r s : Run}, i < j → L[i]? = some r → L[j]? = some s → r.y < s.y ∨ (r.y = s.y ∧ r.x1 < s.x0) := by
  induction L with
  | nil => intro i j r s _ hi; simp at hi
  | cons a l ih =>
    intro i j r s hij hi hj
    cases j with
    | zero => omega
    | succ j =>
      cases i with
      | zero =>
        simp at hi; subst hi
        exact h.2.1 s (List.mem_of_getElem? (by simpa using hj))
      | succ i => exact ih h.2.2 (i := i) (j := j) (by omega) (by simpa using hi) (by simpa using hj)
theorem ValidL.mk {L : List Run} (h : okR L) (hb : ∀ r ∈ L, (-8192 ≤ r.y ∧ r.y ≤ 8191) ∧ (-8192 ≤ r.x0 ∧ r.x1 ≤ 8192)) : ValidL L := by
  refine ⟨fun i hi => ?_, fun i j hij hj => ?_⟩
  · have e : L[i]? = some L[i] := List.getElem?_eq_getElem hi
    rw [nthR_get e]
    have h1 := hb _ (List.getElem_mem hi)
    have h2 := okR_run h (List.getElem_mem hi)
    omega
  · have e : L[i]? = some L[i] := List.getElem?_eq_getElem (by omega)
    have e' : L[j]? = some L[j] := List.getElem?_eq_getElem hj
    rw [nthR_get e, nthR_get e']
    exact okR_lt h hij e e'
theorem grow_length {l : List Int} (h : l.Pairwise (· < ·)) {B : Nat} (hb : ∀ z ∈ l, 0 ≤ z ∧ z < B) : l.length ≤ B := by
  have key : ∀ (l : List Int) (a : Int), l.Pairwise (· < ·) → (∀ z ∈ l, a ≤ z ∧ z < B) → a ≤ B → (l.length : Int) ≤ B - a := by
    intro l
    induction l with
    | nil => intro a _ _ ha; simp; omega
    | cons x l ih =>
      intro a hp hz ha
      obtain ⟨h1, h2⟩ := List.pairwise_cons.1 hp
      have h3 := hz x (by simp)
      have := ih (x + 1) h2 (fun z hz' => ⟨by have := h1 z hz'; omega, (hz z (by simp [hz'])).2⟩) (by omega)
      simp; omega
  have := key l 0 h hb (by omega)
  omega
theorem okR_length {L : List Run} (h : okR L) (hb : ∀ r ∈ L, (-8192 ≤ r.y ∧ r.y ≤ 8191) ∧ (-8192 ≤ r.x0 ∧ r.x1 ≤ 8192)) : L.length ≤ 268451840 := by
  have hp : (L.map fun r => (r.y + 8192) * 16385 + (r.x1 + 8192)).Pairwise (· < ·) := by
    rw [List.pairwise_map, List.pairwise_iff_getElem]
    intro i j hi hj hij
    have h1 := okR_lt h hij (List.getElem?_eq_getElem hi) (List.getElem?_eq_getElem hj)
    have h2 := hb _ (List.getElem_mem hi)
    have h3 := hb _ (List.getElem_mem hj)
    have h4 := okR_run h (List.getElem_mem hj)
    have h5 := okR_run h (List.getElem_mem hi)
    omega
  have := grow_length hp (B := 268451840) (fun z hz => by
    obtain ⟨r, hr, rfl⟩ := List.mem_map.1 hz
    have h1 := hb r hr
    have h2 := okR_run h hr
    omega)
  simpa using this
theorem ValidL.length {L : List Run} (h : ValidL L) : L.length ≤ 268451840 := okR_length h.ok fun r hr => by have := h.bd hr; omega
/-- The operations. -/
def opB (c : Int) (p q : Bool) : Bool := if c = 1 then p && q else if c = 2 then p && !q else if c = 3 then p != q else p || q
theorem opB_no (c : Int) : opB c false false = false := by unfold opB; split <;> (try split) <;> (try split) <;> rfl
theorem opB_one {c : Int} {p q : Bool} (h : opB c p q = true) : p = true ∨ q = true := by
  cases p
  · cases q
    · rw [opB_no] at h; cases h
    · exact .inr rfl
  · exact .inl rfl
theorem sweep_ex {op : Bool → Bool → Bool} (hop : op false false = false) {ra rb : Nat → Run} {n m : Nat} (va : Valid ra n) (vb : Valid rb m) : ∀ (k i j : Nat) (fy fx : Int) (out : List Run), (2 * n - i) + (2 * m - j) = k → Sweep op ra rb n m i j fy fx out → ∃ M, okR M ∧ ∀ x y, hasR M x y ↔ op (hasB ra n x y) (hasB rb m x y) = true := by
  intro k
  induction k with
  | zero =>
    intro i j fy fx out hk h
    have h1 := h.hi
    have h2 := h.hj
    have e1 : i = 2 * n := by omega
    have e2 : j = 2 * m := by omega
    subst e1; subst e2
    exact ⟨out, h.done hop va vb⟩
  | succ k ih =>
    intro i j fy fx out hk h
    have h1 := h.hi
    have h2 := h.hj
    by_cases hA : i < 2 * n ∧ (j < 2 * m → lexLe (eY ra i) (eX ra i) (eY rb j) (eX rb j))
    · exact ih (i + 1) j _ _ _ (by omega) (h.stepA hop va vb hA.1 hA.2)
    · by_cases hB : j < 2 * m
      · refine ih i (j + 1) _ _ _ (by omega) (h.stepB hop va vb hB fun hi => ?_)
        have : ¬ lexLe (eY ra i) (eX ra i) (eY rb j) (eX rb j) := fun hle => hA ⟨hi, fun _ => hle⟩
        unfold lexLe at *; omega
      · exact absurd ⟨by omega, fun h => absurd h hB⟩ hA
theorem mix_ex {c : Int} {La Lb : List Run} (va : ValidL La) (vb : ValidL Lb) : ∃ M, okR M ∧ ∀ x y, hasR M x y ↔ opB c (hasL La x y) (hasL Lb x y) = true := by
  obtain ⟨M, h1, h2⟩ := sweep_ex (op := opB c) (opB_no c) va vb _ 0 0 0 0 [] rfl (Sweep.start _ _ _ _ _ _ _)
  exact ⟨M, h1, fun x y => by rw [h2, hasB_nth, hasB_nth]⟩
open Classical in
noncomputable def mixR (c : Int) (La Lb : List Run) : List Run := if h : ∃ M, okR M ∧ ∀ x y, hasR M x y ↔ opB c (hasL La x y) (hasL Lb x y) = true then h.choose else []
theorem mixR_ok {c : Int} {La Lb : List Run} (va : ValidL La) (vb : ValidL Lb) : okR (mixR c La Lb) ∧ ∀ x y, hasR (mixR c La Lb) x y ↔ opB c (hasL La x y) (hasL Lb x y) = true := by
  unfold mixR
  rw [dif_pos (mix_ex va vb)]
  exact (mix_ex (c := c) va vb).choose_spec
theorem mixR_is {c : Int} {La Lb M : List Run} (va : ValidL La) (vb : ValidL Lb) (h : okR M) (h2 : ∀ x y, hasR M x y ↔ opB c (hasL La x y) (hasL Lb x y) = true) : M = mixR c La Lb :=
  okR_ext h (mixR_ok va vb).1 fun x y => (h2 x y).trans ((mixR_ok va vb).2 x y).symm
theorem has_bd {L : List Run} (h : ValidL L) {x y : Int} (hx : hasL L x y = true) : (-8192 ≤ y ∧ y ≤ 8191) ∧ (-8192 ≤ x ∧ x ≤ 8191) := by
  obtain ⟨r, hr, h1, h2, h3⟩ := hasL_iff.1 hx
  have := h.bd hr
  omega
theorem mixed_bd {c : Int} {La Lb M : List Run} (va : ValidL La) (vb : ValidL Lb) (h : okR M) (h2 : ∀ x y, hasR M x y → opB c (hasL La x y) (hasL Lb x y) = true) : ∀ r ∈ M, (-8192 ≤ r.y ∧ r.y ≤ 8191) ∧ (-8192 ≤ r.x0 ∧ r.x1 ≤ 8192) := fun r hr => by
  have hlt := okR_run h hr
  have key : ∀ x, r.x0 ≤ x → x < r.x1 → (-8192 ≤ r.y ∧ r.y ≤ 8191) ∧ (-8192 ≤ x ∧ x ≤ 8191) := fun x h3 h4 => by
    rcases opB_one (h2 x r.y ⟨r, hr, rfl, h3, h4⟩) with h5 | h5
    · exact has_bd va h5
    · exact has_bd vb h5
  have k1 := key r.x0 (Int.le_refl _) hlt
  have k2 := key (r.x1 - 1) (by omega) (by omega)
  omega
theorem mixR_valid {c : Int} {La Lb : List Run} (va : ValidL La) (vb : ValidL Lb) : ValidL (mixR c La Lb) :=
  ValidL.mk (mixR_ok va vb).1 (mixed_bd va vb (mixR_ok va vb).1 fun x y h => ((mixR_ok va vb).2 x y).1 h)
end Go.Proofs.Ytbkhpddodmbdoaa
