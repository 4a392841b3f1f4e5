/-
  joined: cells of a row go to the end of a region.
-/
import Derived.Test.YtmklpphdbmpbbaaPut
namespace Go.Proofs.Ytmklpphdbmpbbaa
open Go.RowKit
set_option linter.unusedVariables false
set_option maxRecDepth 20000
def flatR (L : List Run) : List Value := L.flatMap fun r => [.int .i64 r.y, .int .i64 r.x0, .int .i64 r.x1]
theorem flatR_append (K L : List Run) : flatR (K ++ L) = flatR K ++ flatR L := by simp [flatR]
theorem flatR_one (r : Run) : flatR [r] = [.int .i64 r.y, .int .i64 r.x0, .int .i64 r.x1] := by simp [flatR]
theorem flatR_length : ∀ (L : List Run), (flatR L).length = L.length * 3
  | [] => rfl
  | r :: L => by
    have := flatR_length L
    show (flatR ([r] ++ L)).length = _
    rw [flatR_append, List.length_append, this, flatR_one]; simp; omega
theorem flatR_get {L : List Run} {i : Nat} {r : Run} (h : L[i]? = some r) : (flatR L)[i * 3]? = some (.int .i64 r.y) ∧ (flatR L)[i * 3 + 1]? = some (.int .i64 r.x0) ∧ (flatR L)[i * 3 + 2]? = some (.int .i64 r.x1) := by
  obtain ⟨h1, rfl⟩ := List.getElem?_eq_some_iff.1 h
  have e : L = L.take i ++ ([L[i]] ++ L.drop (i + 1)) := by simp
  have hl : (flatR (L.take i)).length = i * 3 := by rw [flatR_length, List.length_take]; congr 1; omega
  have key : ∀ j, j < 3 → (flatR L)[i * 3 + j]? = [Value.int .i64 L[i].y, .int .i64 L[i].x0, .int .i64 L[i].x1][j]? := fun j hj => by
    conv => lhs; rw [e, flatR_append, flatR_append, flatR_one]
    rw [List.getElem?_append_right (by omega), hl, show i * 3 + j - i * 3 = j by omega, List.getElem?_append_left (by simp; omega)]
  exact ⟨key 0 (by omega), key 1 (by omega), key 2 (by omega)⟩
theorem flatR_cell {L : List Run} : ∀ v ∈ flatR L, v.oneCell' = true := fun v hv => by
  simp only [flatR, List.mem_flatMap, List.mem_cons, List.not_mem_nil, or_false] at hv
  obtain ⟨r, _, rfl | rfl | rfl⟩ := hv <;> rfl
def joinR (L : List Run) (y a b : Int) : List Run :=
  match L.getLast? with
  | some r => if r.y = y ∧ r.x1 = a then L.dropLast ++ [⟨y, r.x0, b⟩] else L ++ [⟨y, a, b⟩]
  | none => [⟨y, a, b⟩]
theorem joinR_nil {y a b : Int} : joinR [] y a b = [⟨y, a, b⟩] := by simp [joinR]
theorem joinR_join {L : List Run} {r : Run} {y a b : Int} (h1 : r.y = y) (h2 : r.x1 = a) : joinR (L ++ [r]) y a b = L ++ [⟨y, r.x0, b⟩] := by simp [joinR, h1, h2]
theorem joinR_new {L : List Run} {r : Run} {y a b : Int} (h1 : ¬ (r.y = y ∧ r.x1 = a)) : joinR (L ++ [r]) y a b = L ++ [r] ++ [⟨y, a, b⟩] := by
  unfold joinR
  have e : (L ++ [r]).getLast? = some r := by simp
  rw [e]
  simp only [if_neg h1]
theorem joinR_pos (L : List Run) (y a b : Int) : 0 < (joinR L y a b).length := by
  rcases last_or L with rfl | ⟨K, r, rfl⟩
  · simp [joinR_nil]
  · by_cases h : r.y = y ∧ r.x1 = a
    · rw [joinR_join h.1 h.2]; simp
    · rw [joinR_new h]; simp
theorem joinR_length (L : List Run) (y a b : Int) : (joinR L y a b).length ≤ L.length + 1 := by
  rcases last_or L with rfl | ⟨K, r, rfl⟩
  · simp [joinR_nil]
  · by_cases h : r.y = y ∧ r.x1 = a
    · rw [joinR_join h.1 h.2]; simp
    · rw [joinR_new h]; simp
theorem joinR_add {L : List Run} {y a b : Int} (hu : upTo L y a) (h : a < b) : joinR L y a b = addR L y a b := by
  rcases last_or L with rfl | ⟨K, r, rfl⟩
  · rw [joinR_nil, addR_nil (by omega)]
  · have hr := hu r (by simp)
    by_cases h1 : r.y = y ∧ a ≤ r.x1
    · rw [addR_join (by omega) h1.1 h1.2, joinR_join h1.1 (by omega)]
      have : max r.x1 b = b := by omega
      rw [this]
    · rw [addR_new (by omega) h1, joinR_new (by omega)]
theorem flat_last (K : List Run) (r : Run) : (flatR (K ++ [r]))[K.length * 3]? = some (.int .i64 r.y) ∧ (flatR (K ++ [r]))[K.length * 3 + 1]? = some (.int .i64 r.x0) ∧ (flatR (K ++ [r]))[K.length * 3 + 2]? = some (.int .i64 r.x1) :=
  flatR_get (by simp)
theorem flat_set (K : List Run) (r : Run) (b : Int) : (flatR (K ++ [r])).take (K.length * 3 + 2) ++ [.int .i64 b] ++ (flatR (K ++ [r])).drop (K.length * 3 + 2 + 1) = flatR (K ++ [⟨r.y, r.x0, b⟩]) := by
  have hl := flatR_length K
  rw [flatR_append, flatR_append, flatR_one, flatR_one, List.take_append, List.drop_append, hl]
  rw [List.take_of_length_le (by omega), List.drop_of_length_le (by omega)]
  simp [show K.length * 3 + 2 - K.length * 3 = 2 by omega, show K.length * 3 + 2 + 1 - K.length * 3 = 3 by omega]
theorem last_ix (K : List Run) (r : Run) : (((K ++ [r]).length : Nat) : Int) - 1 = (K.length : Int) := by simp
theorem join_fin {K : List Run} {r : Run} {y a b : Int} (h1 : r.y = y) (h2 : r.x1 = a) :
    Blk.own 28 3 (K ++ [r]).length ((flatR (K ++ [r])).take (((((K ++ [r]).length : Nat) : Int) - 1).toNat * 3 + 2) ++ [.int .i64 b] ++ (flatR (K ++ [r])).drop (((((K ++ [r]).length : Nat) : Int) - 1).toNat * 3 + 2 + [Value.int .i64 b].length)) =
      .own 28 3 (joinR (K ++ [r]) y a b).length (flatR (joinR (K ++ [r]) y a b)) := by
  rw [joinR_join h1 h2, ← h1, last_ix, Int.toNat_natCast, List.length_singleton, flat_set K r b]
  rw [show (K ++ [(⟨r.y, r.x0, b⟩ : Run)]).length = (K ++ [r]).length by simp]
end Go.Proofs.Ytmklpphdbmpbbaa
