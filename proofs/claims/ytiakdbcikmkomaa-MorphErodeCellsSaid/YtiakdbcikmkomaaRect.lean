/-
  The contract of region.Rectangle.
-/
import Derived.Test.YtiakdbcikmkomaaMrg7
namespace Go.Proofs.Ytiakdbcikmkomaa
open Go.RowKit
set_option maxRecDepth 20000

/-- n rows from y on. -/
def rowsOf (x0 x1 y : Int) (n : Nat) : List Value := (List.range n).flatMap fun (i : Nat) => [.int .i64 (y + i), .int .i64 x0, .int .i64 x1]
theorem rows_len (x0 x1 y : Int) (n : Nat) : (rowsOf x0 x1 y n).length = n * 3 := by
  unfold rowsOf
  induction n with
  | zero => rfl
  | succ n ih => rw [List.range_succ, List.flatMap_append, List.length_append, ih]; simp; omega
theorem rows_snoc (x0 x1 y : Int) (n : Nat) : rowsOf x0 x1 y (n + 1) = rowsOf x0 x1 y n ++ [.int .i64 (y + n), .int .i64 x0, .int .i64 x1] := by
  unfold rowsOf; rw [List.range_succ, List.flatMap_append]; simp
theorem rows_get (x0 x1 y : Int) (n j : Nat) (h : j < n) : (rowsOf x0 x1 y n)[j * 3]? = some (.int .i64 (y + j)) ∧ (rowsOf x0 x1 y n)[j * 3 + 1]? = some (.int .i64 x0) ∧ (rowsOf x0 x1 y n)[j * 3 + 2]? = some (.int .i64 x1) := by
  induction n with
  | zero => omega
  | succ n ih =>
    rw [rows_snoc]
    have hl := rows_len x0 x1 y n
    by_cases hj : j < n
    · obtain ⟨h1, h2, h3⟩ := ih hj
      rw [List.getElem?_append_left (by omega), List.getElem?_append_left (by omega), List.getElem?_append_left (by omega)]
      exact ⟨h1, h2, h3⟩
    · have : j = n := by omega
      subst this
      rw [List.getElem?_append_right (by omega), List.getElem?_append_right (by omega), List.getElem?_append_right (by omega), hl]
      simp [show j * 3 + 1 - j * 3 = 1 by omega, show j * 3 + 2 - j * 3 = 2 by omega]
def pairE (e : Int) (a : AV) : AV := .tup [a, .val (.int .i64 e)]
theorem pairE_wraps (e : Int) : Wraps (pairE e) := .pair (.val (.int .i64 e)) (fun _ => rfl) rfl
end Go.Proofs.Ytiakdbcikmkomaa
