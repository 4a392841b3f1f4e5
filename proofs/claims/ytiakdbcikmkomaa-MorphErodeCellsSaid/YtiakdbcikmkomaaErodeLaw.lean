/-
  What erode makes: the rows' common places.
-/
import Derived.Test.YtiakdbcikmkomaaMrg12
import Derived.Test.YtiakdbcikmkomaaMrg13
import Derived.Test.YtiakdbcikmkomaaMrg5
namespace Go.Proofs.Ytiakdbcikmkomaa
open Go.RowKit
set_option linter.unusedVariables false
/-- The places of a row that the rows around it have too, up to d rows away. -/
def leftD (w : Int) (L : List Run) (y : Int) : Nat → List Run
  | 0 => narY w L y
  | d + 1 => meetL y (meetL y (leftD w L y d) (narY w L (y - ((d : Int) + 1)))) (narY w L (y + ((d : Int) + 1)))
theorem leftD_len (w : Int) (L : List Run) (y : Int) : ∀ d, (leftD w L y d).length ≤ (2 * d + 1) * L.length
  | 0 => by simpa [leftD] using narY_len w L y
  | d + 1 => by
    have h := leftD_len w L y d
    have h1 := meetL_len y _ (leftD w L y d) (narY w L (y - ((d : Int) + 1))) (Nat.le_refl _)
    have h2 := meetL_len y _ (meetL y (leftD w L y d) (narY w L (y - ((d : Int) + 1)))) (narY w L (y + ((d : Int) + 1))) (Nat.le_refl _)
    have h3 := narY_len w L (y - ((d : Int) + 1))
    have h4 := narY_len w L (y + ((d : Int) + 1))
    rw [leftD]
    have e : (2 * (d + 1) + 1) * L.length = (2 * d + 1) * L.length + 2 * L.length := by rw [← Nat.add_mul]; congr 1
    omega
theorem leftD_nil {w : Int} {L : List Run} {y : Int} {d : Nat} (h : leftD w L y d = []) : ∀ k, leftD w L y (d + k) = []
  | 0 => h
  | k + 1 => by rw [← Nat.add_assoc, leftD, leftD_nil h k, meetL_nil_left, meetL_nil_left]
abbrev leftY (w : Int) (L : List Run) (y : Int) : List Run := leftD w L y w.toNat
/-- What is put out when the runs ahead of a place are gone through. -/
def outE (w : Int) (L : List Run) : Nat → List Run
  | 0 => []
  | j + 1 => if j = 0 ∨ (nthR L (j - 1)).y ≠ (nthR L j).y then jn (outE w L j) (leftY w L (nthR L j).y) else outE w L j
theorem outE_row {w : Int} {L : List Run} {i K : Nat} {y : Int} (hK : RowAt L i K y) (hlast : ∀ r q, 0 < i → L[i - 1]? = some r → L[i]? = some q → r.y < q.y) : outE w L K = jn (outE w L i) (leftY w L y) := by
  have h1 := hK.lt
  have h2 := hK.le
  have get : ∀ t, i ≤ t → t < K → (nthR L t).y = y := fun t ht htK => by
    have hq : L[t]? = some (L[t]'(by omega)) := List.getElem?_eq_getElem (by omega)
    rw [nthR_get hq]
    exact hK.same t _ ht htK hq
  have first : outE w L (i + 1) = jn (outE w L i) (leftY w L y) := by
    rw [outE, if_pos, get i (Nat.le_refl _) h1]
    by_cases h0 : i = 0
    · exact .inl h0
    · refine .inr fun e => ?_
      have hq : L[i]? = some (L[i]'(by omega)) := List.getElem?_eq_getElem (by omega)
      have hr : L[i - 1]? = some (L[i - 1]'(by omega)) := List.getElem?_eq_getElem (by omega)
      have := hlast _ _ (by omega) hr hq
      rw [nthR_get hq, nthR_get hr] at e
      omega
  have rest : ∀ n, i + 1 + n ≤ K → outE w L (i + 1 + n) = outE w L (i + 1) := fun n => by
    induction n with
    | zero => intro _; rfl
    | succ n ih =>
      intro hn
      rw [← Nat.add_assoc, outE, if_neg, ih (by omega)]
      rintro (h | h)
      · omega
      · exact h (by rw [get (i + 1 + n) (by omega) (by omega), get (i + 1 + n - 1) (by omega) (by omega)])
  rw [← first, ← rest (K - (i + 1)) (by omega), show i + 1 + (K - (i + 1)) = K by omega]
theorem outE_len (w : Int) (L : List Run) : ∀ j, (outE w L j).length ≤ j * ((2 * w.toNat + 1) * L.length)
  | 0 => by simp [outE]
  | j + 1 => by
    have h := outE_len w L j
    rw [outE, Nat.succ_mul]
    split
    · have h1 := jn_len (leftY w L (nthR L j).y) (outE w L j)
      have h2 : (leftY w L (nthR L j).y).length ≤ (2 * w.toNat + 1) * L.length := leftD_len w L (nthR L j).y w.toNat
      generalize (2 * w.toNat + 1) * L.length = X at *
      generalize j * X = Y at *
      omega
    · generalize (2 * w.toNat + 1) * L.length = X at *
      generalize j * X = Y at *
      omega
theorem RunsM.cmono {G G' : Mem} {A : Option Addr} {L : List Run} (h : RunsM G A L) (hle : G.cle G') : RunsM G' A L := fun i r hr => by
  obtain ⟨b, off, h1, h2, h3, h4⟩ := h i r hr
  exact ⟨b, off, h1, hle _ _ h2, hle _ _ h3, hle _ _ h4⟩
theorem RowF.cmono {G G' : Mem} {q : Option Value} {l : List Run} (h : RowF G q l) (hle : G.cle G') : RowF G' q l := by
  rcases h with h | ⟨h0, A, cap, h1, h2, h3⟩
  · exact .inl h
  · exact .inr ⟨h0, A, cap, h1, h2.cmono hle, h3⟩
theorem RowsM.cmono {w : Int} {L : List Run} {G G' : Mem} {f : Int → Option Value} {hot : Option (Int × List Run)} {i : Nat} (h : RowsM w L G f hot i) (hle : G.cle G') : RowsM w L G' f hot i :=
  ⟨fun y hy => (h.1 y hy).cmono hle, h.2⟩
theorem jn_takeO {o L : List Run} {i : Nat} {r : Run} (h : L[i]? = some r) : jn o (L.take (i + 1)) = addR (jn o (L.take i)) r.y r.x0 r.x1 := by
  unfold jn
  rw [List.take_add_one, h, Option.toList_some, List.foldl_append]; rfl
theorem narY_y {w : Int} {L : List Run} {y : Int} : ∀ s ∈ narY w L y, s.y = y := fun s hs => by
  unfold narY at hs
  rw [List.mem_filterMap] at hs
  obtain ⟨r, hr, h⟩ := hs
  rw [List.mem_filter] at hr
  unfold narR at h
  split at h
  · cases h; simpa using hr.2
  · cases h
theorem meetL_y {y : Int} : ∀ (n : Nat) (a b : List Run), a.length + b.length ≤ n → ∀ s ∈ meetL y a b, s.y = y
  | _, [], b, _, s, hs => by rw [meetL_nil_left] at hs; cases hs
  | _, a :: ta, [], _, s, hs => by rw [meetL_nil_right] at hs; cases hs
  | 0, a :: ta, b :: tb, h, s, hs => by simp at h
  | n + 1, a :: ta, b :: tb, h, s, hs => by
    simp only [List.length_cons] at h
    rw [meetL_cons, List.mem_append] at hs
    rcases hs with hs | hs
    · split at hs
      · simp at hs; subst hs; rfl
      · cases hs
    · split at hs
      · exact meetL_y n ta (b :: tb) (by simp only [List.length_cons]; omega) s hs
      · exact meetL_y n (a :: ta) tb (by simp only [List.length_cons]; omega) s hs
theorem leftD_y {w : Int} {L : List Run} {y : Int} : ∀ d, ∀ s ∈ leftD w L y d, s.y = y
  | 0 => narY_y
  | d + 1 => meetL_y _ _ _ (Nat.le_refl _)
/-- What a look into the map brings. -/
theorem RowF.slice {G : Mem} {q : Option Value} {l : List Run} (h : RowF G q l) : ∃ A cap, q.getD (.slice none 0 0) = .slice A l.length cap ∧ RunsM G A l ∧ l.length ≤ cap ∧ cap ≤ maxLen := by
  rcases h with ⟨rfl, rfl⟩ | ⟨_, A, cap, rfl, h⟩
  · exact ⟨none, 0, rfl, RunsM.nil _ _, Nat.le_refl _, Nat.zero_le _⟩
  · exact ⟨A, cap, rfl, h⟩
theorem RowsM.look {w : Int} {L : List Run} {G : Mem} {f : Int → Option Value} (h : RowsM w L G f none L.length) (y : Int) : ∃ A cap, (f y).getD (.slice none 0 0) = .slice A (narY w L y).length cap ∧ RunsM G A (narY w L y) ∧ (narY w L y).length ≤ cap ∧ cap ≤ maxLen := by
  have := h.1 y fun l hl => by cases hl
  rw [List.take_length] at this
  exact this.slice
end Go.Proofs.Ytiakdbcikmkomaa
