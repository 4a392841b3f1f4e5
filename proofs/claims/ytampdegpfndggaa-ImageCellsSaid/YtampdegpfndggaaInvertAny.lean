/-
  Invert and the reference's Invert hand back the same seven numbers, whatever the map.
-/
import Derived.Test.YtampdegpfndggaaInvertNeg
import Derived.Test.YtampdegpfndggaaRInvertNeg
namespace Go.Proofs.Ytampdegpfndggaa
open Go.RowKit

def sevenI (g : Nat → Int) : Value := .tuple #[.agg #[.int .i64 (g 0), .int .i64 (g 1), .int .i64 (g 2), .int .i64 (g 3), .int .i64 (g 4), .int .i64 (g 5)], .int .i64 (g 6)]
def six (a b c d e f : Int) (i : Nat) : Int :=
  if matE a b c d e f = 0 then
    match i with | 0 => a | 1 => b | 2 => c | 3 => d | 4 => e | 5 => f | _ => 0
  else if i = 6 then 10 else 0
theorem out6_sevenI (a b c d e f : Int) : out6 a b c d e f = sevenI (six a b c d e f) := by
  unfold out6 sevenI six
  split <;> simp_all
/-- The sevenI numbers that Invert hands back. -/
def invL (a b c d e f : Int) : Nat → Int :=
  if matE a b c d e f = 0 then
    if a * d - b * c = 0 then fun i => if i = 6 then 8 else 0
    else if 0 < a * d - b * c then six (near (sg 1 (16777216 * d)) (a * d - b * c)) (near (sg 1 (-16777216 * b)) (a * d - b * c)) (near (sg 1 (-16777216 * c)) (a * d - b * c)) (near (sg 1 (16777216 * a)) (a * d - b * c)) (near (sg 1 (4096 * (c * f - d * e))) (a * d - b * c)) (near (sg 1 (4096 * (b * e - a * f))) (a * d - b * c))
    else six (near (sg (-1) (16777216 * d)) (-(a * d - b * c))) (near (sg (-1) (-16777216 * b)) (-(a * d - b * c))) (near (sg (-1) (-16777216 * c)) (-(a * d - b * c))) (near (sg (-1) (16777216 * a)) (-(a * d - b * c))) (near (sg (-1) (4096 * (c * f - d * e))) (-(a * d - b * c))) (near (sg (-1) (4096 * (b * e - a * f))) (-(a * d - b * c)))
  else fun i => if i = 6 then 3 else 0
theorem Invert_any (a b c d e f : Int) (w : World) :
    Calls Try.prog 105 #[.agg #[.int .i64 a, .int .i64 b, .int .i64 c, .int .i64 d, .int .i64 e, .int .i64 f]] w fun r w' => r = .returned (sevenI (invL a b c d e f)) ∧ Below w.heap.size w w' := by
  unfold invL
  rcases matE_or a b c d e f with hm | hm
  · rw [if_pos hm]
    by_cases h0 : a * d - b * c = 0
    · rw [if_pos h0]; exact Invert_none _ _ _ _ _ _ w hm h0
    · rw [if_neg h0]
      by_cases h1 : 0 < a * d - b * c
      · rw [if_pos h1, ← out6_sevenI]; exact Invert_pos _ _ _ _ _ _ w hm h1
      · rw [if_neg h1, ← out6_sevenI]; exact Invert_neg _ _ _ _ _ _ w hm (by omega)
  · rw [if_neg (by omega)]; exact Invert_no _ _ _ _ _ _ w hm
theorem RInvert_any (a b c d e f : Int) (w : World) :
    Calls Try.prog 72 #[.agg #[.int .i64 a, .int .i64 b, .int .i64 c, .int .i64 d, .int .i64 e, .int .i64 f]] w fun r w' => r = .returned (sevenI (invL a b c d e f)) ∧ Below w.heap.size w w' := by
  unfold invL
  rcases matE_or a b c d e f with hm | hm
  · rw [if_pos hm]
    by_cases h0 : a * d - b * c = 0
    · rw [if_pos h0]; exact RInvert_none _ _ _ _ _ _ w hm h0
    · rw [if_neg h0]
      by_cases h1 : 0 < a * d - b * c
      · rw [if_pos h1, ← out6_sevenI]; exact RInvert_pos _ _ _ _ _ _ w hm h1
      · rw [if_neg h1, ← out6_sevenI]; exact RInvert_neg _ _ _ _ _ _ w hm (by omega)
  · rw [if_neg (by omega)]; exact RInvert_no _ _ _ _ _ _ w hm
end Go.Proofs.Ytampdegpfndggaa
