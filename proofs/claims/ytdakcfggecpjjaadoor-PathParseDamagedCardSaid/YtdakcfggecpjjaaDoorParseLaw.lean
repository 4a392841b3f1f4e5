/-
  What is read from the text of a path: words, numbers, segments. No program in sight.
-/
import Derived.Test.YtdakcfggecpjjaaDoorPathChk
import Derived.Lib.Split
import Derived.Lib.SplitLaws
namespace Go.Proofs.YtdakcfggecpjjaaDoor
open Go.RowKit
set_option linter.unusedVariables false
set_option linter.unusedSimpArgs false
def isD (b : UInt8) : Prop := 48 ≤ b.toNat ∧ b.toNat ≤ 57
instance (b : UInt8) : Decidable (isD b) := by unfold isD; exact inferInstance
/-- The value of the first digits. -/
def valN (l : List UInt8) : Nat → Int
  | 0 => 0
  | k + 1 => 10 * valN l k + (((l.getD k 0).toNat : Int) - 48)
def minusW (w : List UInt8) : Bool := w.head? == some 45
def digW (w : List UInt8) : List UInt8 := if minusW w then w.tail else w
def numOK (w : List UInt8) : Prop := 1 ≤ (digW w).length ∧ (digW w).length ≤ 5 ∧ ¬ ((digW w).getD 0 0 = 48 ∧ (minusW w = true ∨ 1 < (digW w).length)) ∧ ∀ i, i < (digW w).length → isD ((digW w).getD i 0)
def numV (w : List UInt8) : Int := if minusW w then 0 - valN (digW w) (digW w).length else valN (digW w) (digW w).length
theorem valN_bounds {l : List UInt8} : ∀ {k : Nat}, (∀ i, i < k → isD (l.getD i 0)) → 0 ≤ valN l k ∧ valN l k + 1 ≤ ((10 ^ k : Nat) : Int)
  | 0, _ => by simp [valN]
  | k + 1, h => by
    obtain ⟨h1, h2⟩ := valN_bounds (k := k) fun i hi => h i (by omega)
    have h3 := h k (by omega)
    unfold isD at h3
    rw [valN, Nat.pow_succ]
    push_cast at h2 ⊢
    omega
theorem valN_small {l : List UInt8} {k : Nat} (hk : k ≤ 5) (h : ∀ i, i < k → isD (l.getD i 0)) : 0 ≤ valN l k ∧ valN l k ≤ 99999 := by
  obtain ⟨h1, h2⟩ := valN_bounds h
  have h3 : 10 ^ k ≤ 10 ^ 5 := Nat.pow_le_pow_right (by omega) hk
  omega
theorem valN_congr {l m : List UInt8} : ∀ {k : Nat}, (∀ i, i < k → l.getD i 0 = m.getD i 0) → valN l k = valN m k
  | 0, _ => rfl
  | k + 1, h => by rw [valN, valN, valN_congr fun i hi => h i (by omega), h k (by omega)]
/-- The words of a text: cut at each blank. -/
def wordAt (l : List UInt8) : List UInt8 := l.takeWhile (· ≠ 32)
def sepW : List UInt8 → List (List UInt8)
  | [] => [[]]
  | b :: l => if b = 32 then [] :: sepW l else (b :: (sepW l).headD []) :: (sepW l).tail
theorem sepW_ne : ∀ l, sepW l ≠ []
  | [] => by simp [sepW]
  | b :: l => by rw [sepW]; split <;> simp
theorem sepW_cons (l : List UInt8) : sepW l = (sepW l).headD [] :: (sepW l).tail := by
  cases h : sepW l with
  | nil => exact absurd h (sepW_ne l)
  | cons a t => rfl
theorem sepW_head : ∀ l : List UInt8, (sepW l).headD [] = wordAt l
  | [] => rfl
  | b :: l => by
    rw [sepW]
    by_cases h : b = 32
    · rw [if_pos h]; simp [wordAt, h]
    · have hw : wordAt (b :: l) = b :: wordAt l := by simp [wordAt, h, List.takeWhile_cons]
      rw [if_neg h, hw, ← sepW_head l]; rfl
theorem sepW_tail : ∀ l : List UInt8, (sepW l).tail = if (wordAt l).length < l.length then sepW (l.drop ((wordAt l).length + 1)) else []
  | [] => rfl
  | b :: l => by
    rw [sepW]
    by_cases h : b = 32
    · rw [if_pos h]; simp [wordAt, h]
    · have hw : wordAt (b :: l) = b :: wordAt l := by simp [wordAt, h, List.takeWhile_cons]
      rw [if_neg h, List.tail_cons, sepW_tail l, hw, List.length_cons, List.length_cons, List.drop_succ_cons]
      by_cases h2 : (wordAt l).length < l.length
      · rw [if_pos h2, if_pos (by omega)]
      · rw [if_neg h2, if_neg (by omega)]
theorem sepW_eq (l : List UInt8) : sepW l = wordAt l :: if (wordAt l).length < l.length then sepW (l.drop ((wordAt l).length + 1)) else [] := by
  rw [← sepW_tail l, ← sepW_head l]; exact sepW_cons l
theorem wordAt_le (l : List UInt8) : (wordAt l).length ≤ l.length := by
  unfold wordAt; exact (List.takeWhile_prefix _).length_le
theorem wordAt_get : ∀ (l : List UInt8) (i : Nat), i < (wordAt l).length → (wordAt l).getD i 0 = l.getD i 0 ∧ l.getD i 0 ≠ 32
  | [], i, h => by simp [wordAt] at h
  | b :: l, i, h => by
    by_cases hb : b = 32
    · simp [wordAt, hb] at h
    · have hw : wordAt (b :: l) = b :: wordAt l := by simp [wordAt, hb, List.takeWhile_cons]
      rw [hw] at h ⊢
      cases i with
      | zero => simp [hb]
      | succ i => simpa using wordAt_get l i (by simpa using h)
theorem wordAt_end : ∀ (l : List UInt8), (wordAt l).length < l.length → l.getD (wordAt l).length 0 = 32
  | [], h => by simp at h
  | b :: l, h => by
    by_cases hb : b = 32
    · simp [wordAt, hb]
    · have hw : wordAt (b :: l) = b :: wordAt l := by simp [wordAt, hb, List.takeWhile_cons]
      rw [hw] at h ⊢
      simpa using wordAt_end l (by simpa using h)
theorem wordAt_of {l : List UInt8} {k : Nat} (h : ∀ i, i < k → i < l.length ∧ l.getD i 0 ≠ 32) : k ≤ (wordAt l).length := by
  rcases Nat.lt_or_ge (wordAt l).length k with hk | hk
  · have := h _ hk
    exact absurd (wordAt_end l this.1) this.2
  · exact hk
theorem getD_drop (l : List UInt8) (a i : Nat) : (l.drop a).getD i 0 = l.getD (a + i) 0 := by
  rw [List.getD_eq_getElem?_getD, List.getD_eq_getElem?_getD, List.getElem?_drop]
/-- How many digits a text begins with. -/
def runD (l : List UInt8) : Nat := (l.takeWhile (fun b => decide (isD b))).length
theorem runD_le (l : List UInt8) : runD l ≤ l.length := (List.takeWhile_prefix _).length_le
theorem runD_in : ∀ (l : List UInt8) (i : Nat), i < runD l → i < l.length ∧ isD (l.getD i 0)
  | [], i, h => by simp [runD] at h
  | b :: l, i, h => by
    by_cases hb : isD b
    · have hr : runD (b :: l) = runD l + 1 := by simp [runD, hb, List.takeWhile_cons]
      rw [hr] at h
      cases i with
      | zero => simpa using hb
      | succ i => simpa using runD_in l i (by omega)
    · have hr : runD (b :: l) = 0 := by simp [runD, hb, List.takeWhile_cons]
      omega
theorem runD_end : ∀ (l : List UInt8), runD l < l.length → ¬ isD (l.getD (runD l) 0)
  | [], h => by simp at h
  | b :: l, h => by
    by_cases hb : isD b
    · have hr : runD (b :: l) = runD l + 1 := by simp [runD, hb, List.takeWhile_cons]
      rw [hr] at h ⊢
      simpa using runD_end l (by simpa using h)
    · have hr : runD (b :: l) = 0 := by simp [runD, hb, List.takeWhile_cons]
      rw [hr]; simpa using hb
theorem isD_ne {b : UInt8} (h : isD b) : b ≠ 32 := fun e => by subst e; exact absurd h (by decide)
/-- What the reference reads: the number, and how many bytes it has. -/
def digR (l : List UInt8) : Option (Int × Nat) :=
  if 5 < runD (digW l) ∨ runD (digW l) = 0 ∨ ((digW l).getD 0 0 = 48 ∧ (1 < runD (digW l) ∨ minusW l = true)) then none
  else some (if minusW l then 0 - valN (digW l) (runD (digW l)) else valN (digW l) (runD (digW l)), (if minusW l then 1 else 0) + runD (digW l))
theorem minusW_word (l : List UInt8) : minusW (wordAt l) = minusW l := by
  cases l with
  | nil => rfl
  | cons b t =>
    by_cases hb : b = 32
    · subst hb; rfl
    · simp [minusW, wordAt, hb, List.takeWhile_cons]
theorem digW_word (l : List UInt8) : digW (wordAt l) = wordAt (digW l) := by
  unfold digW
  rw [minusW_word]
  cases h : minusW l with
  | false => rfl
  | true =>
    cases l with
    | nil => rfl
    | cons b t =>
      have hb : b = 45 := by simpa [minusW] using h
      subst hb
      simp [wordAt, List.takeWhile_cons]
theorem word_dig_len (l : List UInt8) : (wordAt l).length = (if minusW l then 1 else 0) + (wordAt (digW l)).length := by
  rw [← digW_word, digW, minusW_word]
  cases h : minusW l with
  | false => simp
  | true =>
    have h' : minusW (wordAt l) = true := by rw [minusW_word, h]
    cases hw : wordAt l with
    | nil => rw [hw] at h'; simp [minusW] at h'
    | cons b t => simp; omega
theorem dig_len (l : List UInt8) : l.length = (if minusW l then 1 else 0) + (digW l).length := by
  unfold digW
  cases h : minusW l with
  | false => simp
  | true =>
    cases l with
    | nil => simp [minusW] at h
    | cons b t => simp; omega
theorem dig_get (l : List UInt8) (i : Nat) : (digW l).getD i 0 = l.getD ((if minusW l then 1 else 0) + i) 0 := by
  unfold digW
  cases h : minusW l with
  | false => simp
  | true =>
    cases l with
    | nil => simp [minusW] at h
    | cons b t => simp [Nat.add_comm 1 i]
theorem digR_good {l : List UInt8} (h : numOK (wordAt l)) : digR l = some (numV (wordAt l), (wordAt l).length) := by
  obtain ⟨h1, h2, h3, h4⟩ := h
  rw [digW_word] at h1 h2 h3 h4
  rw [minusW_word] at h3
  have hle := wordAt_le (digW l)
  have hr : runD (digW l) = (wordAt (digW l)).length := by
    rcases Nat.lt_trichotomy (runD (digW l)) (wordAt (digW l)).length with h | h | h
    · have h5 := h4 _ h
      rw [(wordAt_get _ _ h).1] at h5
      exact absurd h5 (runD_end _ (by omega))
    · exact h
    · have h5 := runD_in _ _ h
      exact absurd (wordAt_end _ h5.1) (isD_ne h5.2)
  have h0 : (wordAt (digW l)).getD 0 0 = (digW l).getD 0 0 := (wordAt_get _ 0 (by omega)).1
  rw [h0] at h3
  unfold digR
  rw [hr, if_neg (by rintro (h | h | ⟨h, h'⟩); omega; omega; exact h3 ⟨h, h'.symm⟩)]
  have hv : valN (digW l) (wordAt (digW l)).length = valN (wordAt (digW l)) (wordAt (digW l)).length := valN_congr fun i hi => ((wordAt_get _ i hi).1).symm
  rw [word_dig_len l, numV, minusW_word, digW_word, hv]
theorem digR_bad {l : List UInt8} (h : ¬ numOK (wordAt l)) : digR l = none ∨ ∃ v k, digR l = some (v, k) ∧ k < l.length ∧ l.getD k 0 ≠ 32 := by
  unfold digR
  split
  · exact .inl rfl
  · rename_i hc
    refine .inr ⟨_, _, rfl, ?_⟩
    have hrl := runD_le (digW l)
    have hl := dig_len l
    have hrun := runD_in (digW l)
    have hwl : runD (digW l) ≤ (wordAt (digW l)).length := wordAt_of fun i hi => ⟨(hrun i hi).1, isD_ne (hrun i hi).2⟩
    have hle := wordAt_le (digW l)
    have key : ¬ (wordAt (digW l)).length = runD (digW l) := fun e => by
      refine h ⟨?_, ?_, ?_, ?_⟩
      · rw [digW_word, e]; omega
      · rw [digW_word, e]; omega
      · rw [digW_word, minusW_word, e, (wordAt_get _ 0 (by omega)).1]
        exact fun hh => hc (.inr (.inr ⟨hh.1, hh.2.symm⟩))
      · rw [digW_word]
        intro i hi
        rw [(wordAt_get _ i hi).1]
        exact (hrun i (by omega)).2
    refine ⟨by omega, ?_⟩
    rw [← dig_get]
    exact (wordAt_get (digW l) _ (by omega)).2
/-- What kind of segment a word begins. -/
def kindW (w : List UInt8) : Int := if w = [109] then 1 else if w = [108] then 2 else if w = [113] then 3 else if w = [104] then 4 else 0
def manyW (k : Int) : Nat := if k = 3 then 5 else if k = 4 then 0 else 2
def segP (k : Int) (V : Nat → Int) : SegD := if k = 3 then ⟨3, V 2, V 3, V 0, V 1, V 4⟩ else if k = 4 then ⟨4, 0, 0, 0, 0, 0⟩ else ⟨k, V 0, V 1, 0, 0, 0⟩
def numsOK (k : Nat) (ws : List (List UInt8)) : Prop := ∀ i, i < k → i < ws.length ∧ numOK (ws.getD i [])
/-- What words are read as. -/
inductive Parses : List (List UInt8) → Option (List SegD) → Prop
  | nil : Parses [] (some [])
  | odd (w : List UInt8) (ws : List (List UInt8)) (h : kindW w = 0) : Parses (w :: ws) none
  | bad (w : List UInt8) (ws : List (List UInt8)) (h : ¬ kindW w = 0) (h2 : ¬ numsOK (manyW (kindW w)) ws) : Parses (w :: ws) none
  | seg (w : List UInt8) (ws : List (List UInt8)) (r : Option (List SegD)) (h : ¬ kindW w = 0) (h2 : numsOK (manyW (kindW w)) ws) (h3 : Parses (ws.drop (manyW (kindW w))) r) : Parses (w :: ws) (r.map (segP (kindW w) (fun i => numV (ws.getD i [])) :: ·))
theorem parses_some : ∀ (n : Nat) (ws : List (List UInt8)), ws.length ≤ n → ∃ r, Parses ws r
  | _, [], _ => ⟨_, .nil⟩
  | 0, w :: ws, h => by simp at h
  | n + 1, w :: ws, h => by
    by_cases hk : kindW w = 0
    · exact ⟨_, .odd w ws hk⟩
    · by_cases h2 : numsOK (manyW (kindW w)) ws
      · obtain ⟨r, hr⟩ := parses_some n (ws.drop (manyW (kindW w))) (by simp at h ⊢; omega)
        exact ⟨_, .seg w ws r hk h2 hr⟩
      · exact ⟨_, .bad w ws hk h2⟩
/-- What is read in the end, when L is read already and ws are left. -/
def Left (T : Option (List SegD)) (L : List SegD) (ws : List (List UInt8)) : Prop := ∃ r, Parses ws r ∧ T = r.map (L ++ ·)
theorem Left.done {T : Option (List SegD)} {L : List SegD} (h : Left T L []) : T = some L := by
  obtain ⟨r, h1, h2⟩ := h
  cases h1
  simpa using h2
theorem Left.odd {T : Option (List SegD)} {L : List SegD} {w : List UInt8} {ws : List (List UInt8)} (h : Left T L (w :: ws)) (hk : kindW w = 0) : T = none := by
  obtain ⟨r, h1, h2⟩ := h
  cases h1 with
  | odd => exact h2
  | bad => exact h2
  | seg _ _ r h3 => exact absurd hk h3
theorem Left.bad {T : Option (List SegD)} {L : List SegD} {w : List UInt8} {ws : List (List UInt8)} (h : Left T L (w :: ws)) (hn : ¬ numsOK (manyW (kindW w)) ws) : T = none := by
  obtain ⟨r, h1, h2⟩ := h
  cases h1 with
  | odd => exact h2
  | bad => exact h2
  | seg _ _ r h3 h4 => exact absurd h4 hn
theorem Left.seg {T : Option (List SegD)} {L : List SegD} {w : List UInt8} {ws : List (List UInt8)} (h : Left T L (w :: ws)) (hk : ¬ kindW w = 0) (hn : numsOK (manyW (kindW w)) ws) : Left T (L ++ [segP (kindW w) (fun i => numV (ws.getD i []))]) (ws.drop (manyW (kindW w))) := by
  obtain ⟨r, h1, h2⟩ := h
  cases h1 with
  | odd _ _ h3 => exact absurd h3 hk
  | bad _ _ _ h4 => exact absurd hn h4
  | seg _ _ r h3 h4 h5 =>
    refine ⟨r, h5, ?_⟩
    rw [h2]
    cases r with
    | none => rfl
    | some t => simp
/-- The library's words are these words. -/
theorem splitK_sep : ∀ s : List UInt8, Lib.splitK [32] 0 (Lib.count s [32]) s = sepW s
  | [] => by rw [Lib.count_miss (by simp [Lib.index])]; rfl
  | b :: l => by
    by_cases h : b = 32
    · subst h
      rw [Lib.count_cons_eq, Nat.add_comm, Lib.splitK]
      have hix : Lib.index ((32 : UInt8) :: l) [32] = ((0 : Nat) : Int) := by rw [Lib.index]; simp [List.isPrefixOf]
      rw [hix, if_neg (by decide), sepW, if_pos rfl, ← splitK_sep l]
      simp
    · rw [Lib.count_cons_ne b 32 l h, sepW, if_neg h, ← splitK_sep l]
      have hp : ([32] : List UInt8).isPrefixOf (b :: l) = false := by simp [List.isPrefixOf, Ne.symm h]
      have hix : Lib.index (b :: l) [32] = if Lib.index l [32] == -1 then -1 else Lib.index l [32] + 1 := by rw [Lib.index, hp]; simp
      cases hc : Lib.count l [32] with
      | zero => rfl
      | succ k =>
        have hge := Lib.index_ge l [32]
        have hne : ¬ Lib.index l [32] = -1 := fun e => by rw [Lib.count_miss e] at hc; omega
        obtain ⟨j, hj⟩ : ∃ j : Nat, Lib.index l [32] = j := ⟨(Lib.index l [32]).toNat, by omega⟩
        have hix' : Lib.index (b :: l) [32] = ((j + 1 : Nat) : Int) := by rw [hix, if_neg (fun e => hne (beq_iff_eq.1 e)), hj]; omega
        rw [Lib.splitK, Lib.splitK, hix', hj, if_neg (by simp; omega), if_neg (by simp)]
        simp [Nat.add_assoc]
end Go.Proofs.YtdakcfggecpjjaaDoor
