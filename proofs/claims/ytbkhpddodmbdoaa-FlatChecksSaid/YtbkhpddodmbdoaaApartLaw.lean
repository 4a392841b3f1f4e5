/-
  Plain law: which pieces share cells, found by a sweep over their sorted runs. No program in sight.
-/
import Derived.Test.YtbkhpddodmbdoaaMixed2
namespace Go.Proofs.Ytbkhpddodmbdoaa
set_option linter.unusedVariables false
set_option linter.unusedSimpArgs false
/-- A run with the number of its piece; its numbers are not far from zero. -/
structure Ow where
  r : Run
  p : Int
  hy : -100000 ≤ r.y ∧ r.y ≤ 100000
  hx : -100000 ≤ r.x0 ∧ r.x0 ≤ 100000
  hp : 0 ≤ p ∧ p ≤ 100000
instance : Inhabited Ow := ⟨⟨⟨0, 0, 0⟩, 0, by simp, by simp, by simp⟩⟩
def leO (a b : Ow) : Prop := a.r.y < b.r.y ∨ (a.r.y = b.r.y ∧ (a.r.x0 < b.r.x0 ∨ (a.r.x0 = b.r.x0 ∧ a.p ≤ b.p)))
def keepO (q : Run) (a : Ow) : Bool := !decide (a.r.x1 ≤ q.x0)
def liveP (q : Run) (a : Ow) : Bool := decide (a.r.y = q.y) && keepO q a
/-- The runs ahead that still cover the beginning of the b-th run. -/
def liveB (S : List Ow) (b : Nat) : List Ow :=
  match S[b]? with
  | some q => (S.take b).filter (liveP q.r)
  | none => []
/-- The live runs when b are done. -/
def liveS (S : List Ow) : Nat → List Ow
  | 0 => []
  | b + 1 => match S[b]? with
    | some q => liveB S b ++ [q]
    | none => []
def rowS (S : List Ow) : Nat → Int
  | 0 => -1
  | b + 1 => match S[b]? with
    | some q => q.r.y
    | none => 0
theorem liveS_step {S : List Ow} (hs : S.Pairwise leO) {b : Nat} {q : Ow} (hq : S[b]? = some q) : (if q.r.y ≠ rowS S b then [] else liveS S b).filter (keepO q.r) = liveB S b := by
  unfold liveB
  rw [hq]
  dsimp only
  have hle : ∀ {i j : Nat} {x y : Ow}, i < j → S[i]? = some x → S[j]? = some y → leO x y := fun {i j x y} hij hi hj => by
    obtain ⟨h1, e1⟩ := List.getElem?_eq_some_iff.1 hi
    obtain ⟨h2, e2⟩ := List.getElem?_eq_some_iff.1 hj
    rw [← e1, ← e2]
    exact List.pairwise_iff_getElem.1 hs i j h1 h2 hij
  cases b with
  | zero => simp [liveS]
  | succ c =>
    obtain ⟨a, ha⟩ : ∃ a, S[c]? = some a := ⟨_, List.getElem?_eq_getElem (by have := (List.getElem?_eq_some_iff.1 hq).1; omega)⟩
    have haq := hle (Nat.lt_succ_self c) ha hq
    have htk : S.take (c + 1) = S.take c ++ [a] := by
      rw [List.take_add_one, ha]; rfl
    simp only [rowS, liveS, ha, liveB]
    by_cases hy : q.r.y = a.r.y
    · rw [if_neg (by simp [hy]), htk, List.filter_append, List.filter_append, List.filter_filter]
      congr 1
      · apply List.filter_congr
        intro x hx
        unfold liveP keepO
        have h1 : a.r.x0 ≤ q.r.x0 := by unfold leO at haq; omega
        rw [hy]
        by_cases h2 : x.r.x1 ≤ q.r.x0 <;> by_cases h3 : x.r.x1 ≤ a.r.x0 <;> simp [h2, h3]
        omega
      · unfold liveP
        simp [hy, List.filter_cons]
    · rw [if_pos hy]
      symm
      rw [List.filter_nil, List.filter_eq_nil_iff]
      intro x hx
      unfold liveP
      obtain ⟨i, hi⟩ := List.mem_iff_getElem?.1 hx
      rw [List.getElem?_take] at hi
      split at hi
      · rename_i hlt
        have := hle hlt hi hq
        by_cases hic : i = c
        · subst hic; rw [ha] at hi; cases hi
          have : ¬ a.r.y = q.r.y := fun h => hy h.symm
          simp [this]
        · have h2 := hle (show i < c by omega) hi ha
          have : x.r.y ≠ q.r.y := by unfold leO at *; omega
          simp [this]
      · cases hi
/-- Both have a cell in common. -/
def meets (a b : Run) : Prop := a.y = b.y ∧ ∃ x, (a.x0 ≤ x ∧ x < a.x1) ∧ (b.x0 ≤ x ∧ x < b.x1)
theorem meets_symm {a b : Run} (h : meets a b) : meets b a := by
  obtain ⟨h1, x, h2, h3⟩ := h
  exact ⟨h1.symm, x, h3, h2⟩
theorem sweep {all S : List Ow} (hp : S.Perm all) (hs : S.Pairwise leO) (hv : ∀ a ∈ all, a.r.x0 < a.r.x1) (hd : all.Pairwise fun a b => a.p = b.p → ¬ meets a.r b.r) (i : Int) :
    (∃ c q a, S[c]? = some q ∧ a ∈ liveB S c ∧ max a.p q.p = i) ↔ ∃ a ∈ all, ∃ b ∈ all, a.p < b.p ∧ b.p = i ∧ meets a.r b.r := by
  have hle : ∀ {i j : Nat} {x y : Ow}, i < j → S[i]? = some x → S[j]? = some y → leO x y := fun {i j x y} hij hi hj => by
    obtain ⟨h1, e1⟩ := List.getElem?_eq_some_iff.1 hi
    obtain ⟨h2, e2⟩ := List.getElem?_eq_some_iff.1 hj
    rw [← e1, ← e2]
    exact List.pairwise_iff_getElem.1 hs i j h1 h2 hij
  have hd' : S.Pairwise fun a b => a.p = b.p → ¬ meets a.r b.r := (hp.pairwise_iff (fun {x y} h e hm => h e.symm (meets_symm hm))).2 hd
  have hdd : ∀ {i j : Nat} {x y : Ow}, i < j → S[i]? = some x → S[j]? = some y → x.p = y.p → ¬ meets x.r y.r := fun {i j x y} hij hi hj => by
    obtain ⟨h1, e1⟩ := List.getElem?_eq_some_iff.1 hi
    obtain ⟨h2, e2⟩ := List.getElem?_eq_some_iff.1 hj
    rw [← e1, ← e2]
    exact List.pairwise_iff_getElem.1 hd' i j h1 h2 hij
  have hmem : ∀ {i : Nat} {x : Ow}, S[i]? = some x → x ∈ all := fun h => hp.mem_iff.1 (List.mem_of_getElem? h)
  constructor
  · rintro ⟨c, q, a, hq, ha, hm⟩
    unfold liveB at ha
    rw [hq] at ha
    dsimp only at ha
    rw [List.mem_filter] at ha
    obtain ⟨ha1, ha2⟩ := ha
    obtain ⟨j, hj⟩ := List.mem_iff_getElem?.1 ha1
    rw [List.getElem?_take] at hj
    split at hj
    · rename_i hlt
      unfold liveP keepO at ha2
      simp at ha2
      have h1 := hle hlt hj hq
      have hvq := hv q (hmem hq)
      have hmt : meets a.r q.r := ⟨ha2.1, q.r.x0, by unfold leO at h1; omega, by omega⟩
      have hne : a.p ≠ q.p := fun e => hdd hlt hj hq e hmt
      rcases Int.lt_or_gt_of_ne hne with h2 | h2
      · exact ⟨a, hmem hj, q, hmem hq, h2, by omega, hmt⟩
      · exact ⟨q, hmem hq, a, hmem hj, h2, by omega, meets_symm hmt⟩
    · cases hj
  · rintro ⟨a, ha, b, hb, hlt, rfl, hm⟩
    obtain ⟨j, hj⟩ := List.mem_iff_getElem?.1 (hp.mem_iff.2 ha)
    obtain ⟨k, hk⟩ := List.mem_iff_getElem?.1 (hp.mem_iff.2 hb)
    have key : ∀ {j k : Nat} {a b : Ow}, j < k → S[j]? = some a → S[k]? = some b → meets a.r b.r → a ∈ liveB S k := fun {j k a b} hjk hj hk hm => by
      have h1 := hle hjk hj hk
      unfold liveB
      rw [hk]
      dsimp only
      rw [List.mem_filter]
      refine ⟨List.mem_iff_getElem?.2 ⟨j, by rw [List.getElem?_take, if_pos hjk]; exact hj⟩, ?_⟩
      obtain ⟨h2, x, h3, h4⟩ := hm
      unfold liveP keepO
      simp [h2]; omega
    have hne : j ≠ k := fun e => by subst e; rw [hj] at hk; cases hk; omega
    rcases Nat.lt_or_gt_of_ne hne with h | h
    · exact ⟨k, b, a, hk, key h hj hk hm, by omega⟩
    · exact ⟨j, a, b, hj, key h hk hj (meets_symm hm), by omega⟩
/-! ### Deleting in place -/
/-- A row in which those that stay have been moved to the front: i of the first j stayed. -/
structure Moved {α : Type} (keep : α → Bool) (L M : List α) (i j : Nat) : Prop where
  len : M.length = L.length
  front : M.take i = (L.take j).filter keep
  back : M.drop j = L.drop j
  le : i ≤ j ∧ j ≤ L.length
theorem Moved.start {α : Type} {keep : α → Bool} {L : List α} {i : Nat} (h : ∀ k x, k < i → L[k]? = some x → keep x = true) {x : α} (hx : L[i]? = some x) (hk : keep x = false) : Moved keep L L i (i + 1) := by
  have hi := (List.getElem?_eq_some_iff.1 hx).1
  refine ⟨rfl, ?_, rfl, by omega, by omega⟩
  rw [List.take_add_one, hx, List.filter_append]
  simp only [Option.toList, List.filter_cons, hk, List.filter_nil, if_false, List.append_nil, Bool.false_eq_true]
  symm
  rw [List.filter_eq_self]
  intro y hy
  obtain ⟨k, hk'⟩ := List.mem_iff_getElem?.1 hy
  rw [List.getElem?_take] at hk'
  split at hk'
  · rename_i hlt; exact h k y hlt hk'
  · cases hk'
theorem Moved.at_ {α : Type} {keep : α → Bool} {L M : List α} {i j : Nat} (h : Moved keep L M i j) : M[j]? = L[j]? := by
  have := congrArg (fun l : List α => l[0]?) h.back
  simpa using this
theorem Moved.drop_ {α : Type} {keep : α → Bool} {L M : List α} {i j : Nat} (h : Moved keep L M i j) {x : α} (hx : L[j]? = some x) (hk : keep x = false) : Moved keep L M i (j + 1) := by
  have hj := (List.getElem?_eq_some_iff.1 hx).1
  refine ⟨h.len, ?_, ?_, by have := h.le; omega, by omega⟩
  · rw [List.take_add_one, hx, List.filter_append, h.front]
    simp [hk]
  · rw [← List.drop_drop, ← List.drop_drop, h.back]
theorem Moved.keep_ {α : Type} {keep : α → Bool} {L M : List α} {i j : Nat} (h : Moved keep L M i j) {x : α} (hx : L[j]? = some x) (hk : keep x = true) : Moved keep L (M.set i x) (i + 1) (j + 1) := by
  have hj := (List.getElem?_eq_some_iff.1 hx).1
  have hl := h.le
  have hlen := h.len
  refine ⟨by simp [h.len], ?_, ?_, by omega, by omega⟩
  · rw [List.take_add_one, List.take_add_one, hx, List.filter_append, ← h.front]
    rw [List.take_set_of_le (Nat.le_refl i)]
    simp [hk, List.getElem?_set, show i < M.length by omega]
  · rw [List.drop_set_of_lt (by omega), ← List.drop_drop, ← List.drop_drop, h.back]
end Go.Proofs.Ytbkhpddodmbdoaa
