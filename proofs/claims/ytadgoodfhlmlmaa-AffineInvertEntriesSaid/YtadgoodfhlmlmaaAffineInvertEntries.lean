/-
  The walk of the law AffineInvertEntries: Invert has the entries of the document, as the reference's has.
-/
import Derived.Test.YtadgoodfhlmlmaaInvertNeg
import Derived.Test.YtadgoodfhlmlmaaRInvertNeg
namespace Go.Proofs.Ytadgoodfhlmlmaa.affineInvertEntries
open Go.RowKit

def seven (g : Nat → Int) : Value := .tuple #[.agg #[.int .i64 (g 0), .int .i64 (g 1), .int .i64 (g 2), .int .i64 (g 3), .int .i64 (g 4), .int .i64 (g 5)], .int .i64 (g 6)]
def six (a b c d e f : Int) (i : Nat) : Int :=
  if matE a b c d e f = 0 then
    match i with | 0 => a | 1 => b | 2 => c | 3 => d | 4 => e | 5 => f | _ => 0
  else if i = 6 then 10 else 0
theorem out6_seven (a b c d e f : Int) : out6 a b c d e f = seven (six a b c d e f) := by
  unfold out6 seven six
  split <;> simp_all
/-- The seven numbers that Invert hands back. -/
def invL (a b c d e f : Int) : Nat → Int :=
  if matE a b c d e f = 0 then
    if a * d - b * c = 0 then fun i => if i = 6 then 8 else 0
    else if 0 < a * d - b * c then six (near (sg 1 (16777216 * d)) (a * d - b * c)) (near (sg 1 (-16777216 * b)) (a * d - b * c)) (near (sg 1 (-16777216 * c)) (a * d - b * c)) (near (sg 1 (16777216 * a)) (a * d - b * c)) (near (sg 1 (4096 * (c * f - d * e))) (a * d - b * c)) (near (sg 1 (4096 * (b * e - a * f))) (a * d - b * c))
    else six (near (sg (-1) (16777216 * d)) (-(a * d - b * c))) (near (sg (-1) (-16777216 * b)) (-(a * d - b * c))) (near (sg (-1) (-16777216 * c)) (-(a * d - b * c))) (near (sg (-1) (16777216 * a)) (-(a * d - b * c))) (near (sg (-1) (4096 * (c * f - d * e))) (-(a * d - b * c))) (near (sg (-1) (4096 * (b * e - a * f))) (-(a * d - b * c)))
  else fun i => if i = 6 then 3 else 0
theorem Invert_any (a b c d e f : Int) (w : World) :
    Calls Try.prog 41 #[.agg #[.int .i64 a, .int .i64 b, .int .i64 c, .int .i64 d, .int .i64 e, .int .i64 f]] w fun r w' => r = .returned (seven (invL a b c d e f)) ∧ Below w.heap.size w w' := by
  unfold invL
  rcases matE_or a b c d e f with hm | hm
  · rw [if_pos hm]
    by_cases h0 : a * d - b * c = 0
    · rw [if_pos h0]; exact Invert_none _ _ _ _ _ _ w hm h0
    · rw [if_neg h0]
      by_cases h1 : 0 < a * d - b * c
      · rw [if_pos h1, ← out6_seven]; exact Invert_pos _ _ _ _ _ _ w hm h1
      · rw [if_neg h1, ← out6_seven]; exact Invert_neg _ _ _ _ _ _ w hm (by omega)
  · rw [if_neg (by omega)]; exact Invert_no _ _ _ _ _ _ w hm
theorem RInvert_any (a b c d e f : Int) (w : World) :
    Calls Try.prog 42 #[.agg #[.int .i64 a, .int .i64 b, .int .i64 c, .int .i64 d, .int .i64 e, .int .i64 f]] w fun r w' => r = .returned (seven (invL a b c d e f)) ∧ Below w.heap.size w w' := by
  unfold invL
  rcases matE_or a b c d e f with hm | hm
  · rw [if_pos hm]
    by_cases h0 : a * d - b * c = 0
    · rw [if_pos h0]; exact RInvert_none _ _ _ _ _ _ w hm h0
    · rw [if_neg h0]
      by_cases h1 : 0 < a * d - b * c
      · rw [if_pos h1, ← out6_seven]; exact RInvert_pos _ _ _ _ _ _ w hm h1
      · rw [if_neg h1, ← out6_seven]; exact RInvert_neg _ _ _ _ _ _ w hm (by omega)
  · rw [if_neg (by omega)]; exact RInvert_no _ _ _ _ _ _ w hm
set_option maxHeartbeats 2000000 in
theorem walk (a b c d e f : Int) (w : World) (_w0 : ∀ z ∈ [a, b, c, d, e, f], (Lit.int .i64 z).wf = true) :
    Calls Try.prog 12 #[.agg #[.int .i64 a, .int .i64 b, .int .i64 c, .int .i64 d, .int .i64 e, .int .i64 f]] w fun e w' => e = .returned (.bool true) ∧ Below w.heap.size w w' := by
  clear _w0
  have h0 : seven (invL 8192 0 0 4096 0 0) = .tuple #[.agg #[.int .i64 2048, .int .i64 0, .int .i64 0, .int .i64 4096, .int .i64 0, .int .i64 0], .int .i64 0] := by kernel_rfl
  go_enter Try.func12, Try.ntmps12
  go_wp2_with fail
  refine (Invert_any 8192 0 0 4096 0 0 _).mono ?_
  rw [h0]
  rintro e w1 ⟨rfl, hb1⟩
  obtain ⟨hc1, hf1, hz1⟩ := bcell hb1
  try simp only [World.size_alloc] at hz1 hc1 hf1
  go_wp2_with fail
  refine (Invert_any _ _ _ _ _ _ _).mono ?_
  rintro e w2 ⟨rfl, hb2⟩
  obtain ⟨hc2, hf2, hz2⟩ := bcell hb2
  try simp only [World.size_alloc] at hz2 hc2 hf2
  unfold seven
  go_wp2_with fail
  refine (RInvert_any _ _ _ _ _ _ _).mono ?_
  rintro e w3 ⟨rfl, hb3⟩
  obtain ⟨hc3, hf3, hz3⟩ := bcell hb3
  try simp only [World.size_alloc] at hz3 hc3 hf3
  unfold seven
  go_wp2_with fail
  all_goals go_ret
  all_goals exact ⟨by simp, by (repeat' (with_reducible first | exact Below.refl _ _ | refine past_le ?_ ?_ _ | refine Below.alloc ?_ ?_ _ | refine Below.drew ?_ | refine drewN_le ?_ _ | refine Below.setCell ?_ ?_ _ | refine step_le (by assumption) ?_ ?_ | omega | (simp only []; omega) | (simp only [World.size_alloc]; omega) | (simp only [World.size_setCell]; omega) | (simp only [World.size_drew]; omega) | (simp only [World.size_alloc, World.size_setCell]; omega) | (simp only [World.size_alloc, World.size_drew]; omega) | (simp only [World.size_setCell, World.size_drew]; omega) | (simp only [World.size_alloc, World.size_setCell, World.size_drew]; omega)))⟩
end Go.Proofs.Ytadgoodfhlmlmaa.affineInvertEntries
