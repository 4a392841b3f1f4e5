/-
  put: a number goes into a sorted row, once.
-/
import Derived.Test.YtmklpphdbmpbbaaTab
import Derived.Test.YtmklpphdbmpbbaaEz
import Derived.Test.YtmklpphdbmpbbaaRegSweep
namespace Go.Proofs.Ytmklpphdbmpbbaa
open Go.RowKit
set_option linter.unusedVariables false
set_option maxRecDepth 20000
def ints (l : List Int) : List Value := l.map (.int .i64)
theorem ints_get {l : List Int} {i : Nat} {z : Int} (h : l[i]? = some z) : (ints l)[i]? = some (.int .i64 z) := by simp [ints, h]
theorem ints_nat {l : List Int} {i : Nat} {z : Int} (h : l[i]? = some z) : (ints l)[(i : Int).toNat * (⟨.int .i64, 1, 8, [.int .i64 0]⟩ : TI).size]? = some (.int .i64 z) := by
  rw [Int.toNat_natCast, Nat.mul_one]; exact ints_get h
theorem ints_next {l : List Int} {i : Nat} {z : Int} (h : l[i + 1]? = some z) : (ints l)[((i : Int) + 1).toNat * (⟨.int .i64, 1, 8, [.int .i64 0]⟩ : TI).size]? = some (.int .i64 z) := by
  rw [show ((i : Int) + 1).toNat = i + 1 by omega, Nat.mul_one]; exact ints_get h
theorem ints_length (l : List Int) : (ints l).length = l.length := by simp [ints]
theorem put_row {l : List Int} {x : Int} {i : Nat} (hi : i ≤ l.length) (a : Value) : ((((ints l ++ [a]).take (i + 1) ++ ints (l.drop i) ++ (ints l ++ [a]).drop (i + 1 + (ints (l.drop i)).length)).take i ++ [.int .i64 x] ++ ((ints l ++ [a]).take (i + 1) ++ ints (l.drop i) ++ (ints l ++ [a]).drop (i + 1 + (ints (l.drop i)).length)).drop (i + 1))) = ints (l.take i ++ x :: l.drop i) := by
  have e1 : (ints l ++ [a]).drop (i + 1 + (ints (l.drop i)).length) = [] := by
    apply List.drop_eq_nil_of_le; simp [ints]; omega
  rw [e1, List.append_nil]
  have e2 : ((ints l ++ [a]).take (i + 1)).length = i + 1 := by simp [ints]; omega
  rw [List.take_append_of_le_length (by omega), List.drop_append_of_le_length (by omega), List.drop_of_length_le (by omega)]
  rw [List.take_take, show min i (i + 1) = i by omega, List.take_append_of_le_length (by simp [ints]; omega)]
  simp [ints]
theorem ints_drop {l : List Int} {i j : Nat} {v : Value} {r : List Value} (h : (ints (l.drop i))[j]? = some v) : (ints l ++ r)[(i : Int).toNat * 1 + j]? = some v := by
  have hj := (List.getElem?_eq_some_iff.1 h).1
  simp only [ints_length, List.length_drop] at hj
  rw [List.getElem?_append_left (by simp [ints_length]; omega)]
  simp only [ints, List.getElem?_map, List.getElem?_drop] at h ⊢
  rw [← h]; congr 2; omega
theorem ints_cell {l : List Int} : ∀ v ∈ ints l, v.oneCell' = true := fun v hv => by
  simp only [ints, List.mem_map] at hv
  obtain ⟨z, _, rfl⟩ := hv; rfl
theorem put_room {l : List Int} {i : Nat} {x : Int} (hi : i ≤ l.length) : (i : Int).toNat * 1 + [Value.int .i64 x].length ≤ ((ints l ++ [Value.int .i64 0]).take (((i : Int) + 1).toNat * 1) ++ ints (l.drop i) ++ (ints l ++ [Value.int .i64 0]).drop (((i : Int) + 1).toNat * 1 + (ints (l.drop i)).length)).length := by
  simp only [List.length_append, List.length_take, List.length_drop, ints_length, List.length_singleton]; omega
theorem put_fin {l : List Int} {i : Nat} {x : Int} (hi : i ≤ l.length) (hins : ins x l = l.take i ++ x :: l.drop i) :
    Blk.own 3 1 (l.length + 1) (((ints l ++ [Value.int .i64 0]).take (((i : Int) + 1).toNat * 1) ++ ints (l.drop i) ++ (ints l ++ [Value.int .i64 0]).drop (((i : Int) + 1).toNat * 1 + (ints (l.drop i)).length)).take ((i : Int).toNat * 1) ++ [.int .i64 x] ++ ((ints l ++ [Value.int .i64 0]).take (((i : Int) + 1).toNat * 1) ++ ints (l.drop i) ++ (ints l ++ [Value.int .i64 0]).drop (((i : Int) + 1).toNat * 1 + (ints (l.drop i)).length)).drop ((i : Int).toNat * 1 + [Value.int .i64 x].length)) =
      .own 3 1 (ins x l).length (ints (ins x l)) := by
  rw [show (((i : Int) + 1).toNat * 1) = i + 1 by omega, show ((i : Int).toNat * 1) = i by omega, List.length_singleton, put_row hi, hins]
  have e : l.length + 1 = (l.take i ++ x :: l.drop i).length := by simp; omega
  rw [e]
theorem ins_pos (x : Int) (l : List Int) : 0 < (ins x l).length := by
  cases l with
  | nil => simp [ins]
  | cons a l => unfold ins; split <;> (try split) <;> simp
end Go.Proofs.Ytmklpphdbmpbbaa
