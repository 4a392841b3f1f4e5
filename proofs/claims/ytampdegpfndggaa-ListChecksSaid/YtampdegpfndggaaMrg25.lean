/-
  Merged: XInvertAny, XImage.
-/
import Derived.Test.YtampdegpfndggaaMrg23
import Derived.Test.YtampdegpfndggaaMrg24
import Derived.Test.YtampdegpfndggaaMrg6
namespace Go.Proofs.Ytampdegpfndggaa
open Go.RowKit

def sevenI (g : Nat → Int) : Value := .tuple #[.agg #[.int .i64 (g 0), .int .i64 (g 1), .int .i64 (g 2), .int .i64 (g 3), .int .i64 (g 4), .int .i64 (g 5)], .int .i64 (g 6)]
def six (a b c d e f : Int) (i : Nat) : Int :=
  if matE a b c d e f = 0 then
    match i with | 0 => a | 1 => b | 2 => c | 3 => d | 4 => e | 5 => f | _ => 0
  else if i = 6 then 10 else 0
theorem out6_sevenI (a b c d e f : Int) : out6 a b c d e f = sevenI (six a b c d e f) := by
  unfold out6 sevenI six
  split <;> simp_all
/-- The sevenI numbers that Invert hands back. -/
def invL (a b c d e f : Int) : Nat → Int :=
  if matE a b c d e f = 0 then
    if a * d - b * c = 0 then fun i => if i = 6 then 8 else 0
    else if 0 < a * d - b * c then six (near (sg 1 (16777216 * d)) (a * d - b * c)) (near (sg 1 (-16777216 * b)) (a * d - b * c)) (near (sg 1 (-16777216 * c)) (a * d - b * c)) (near (sg 1 (16777216 * a)) (a * d - b * c)) (near (sg 1 (4096 * (c * f - d * e))) (a * d - b * c)) (near (sg 1 (4096 * (b * e - a * f))) (a * d - b * c))
    else six (near (sg (-1) (16777216 * d)) (-(a * d - b * c))) (near (sg (-1) (-16777216 * b)) (-(a * d - b * c))) (near (sg (-1) (-16777216 * c)) (-(a * d - b * c))) (near (sg (-1) (16777216 * a)) (-(a * d - b * c))) (near (sg (-1) (4096 * (c * f - d * e))) (-(a * d - b * c))) (near (sg (-1) (4096 * (b * e - a * f))) (-(a * d - b * c)))
  else fun i => if i = 6 then 3 else 0
theorem Invert_any (a b c d e f : Int) (w : World) :
    Calls Try.prog 105 #[.agg #[.int .i64 a, .int .i64 b, .int .i64 c, .int .i64 d, .int .i64 e, .int .i64 f]] w fun r w' => r = .returned (sevenI (invL a b c d e f)) ∧ Below w.heap.size w w' := by
  unfold invL
  rcases matE_or a b c d e f with hm | hm
  · rw [if_pos hm]
    by_cases h0 : a * d - b * c = 0
    · rw [if_pos h0]; exact Invert_none _ _ _ _ _ _ w hm h0
    · rw [if_neg h0]
      by_cases h1 : 0 < a * d - b * c
      · rw [if_pos h1, ← out6_sevenI]; exact Invert_pos _ _ _ _ _ _ w hm h1
      · rw [if_neg h1, ← out6_sevenI]; exact Invert_neg _ _ _ _ _ _ w hm (by omega)
  · rw [if_neg (by omega)]; exact Invert_no _ _ _ _ _ _ w hm
theorem RInvert_any (a b c d e f : Int) (w : World) :
    Calls Try.prog 72 #[.agg #[.int .i64 a, .int .i64 b, .int .i64 c, .int .i64 d, .int .i64 e, .int .i64 f]] w fun r w' => r = .returned (sevenI (invL a b c d e f)) ∧ Below w.heap.size w w' := by
  unfold invL
  rcases matE_or a b c d e f with hm | hm
  · rw [if_pos hm]
    by_cases h0 : a * d - b * c = 0
    · rw [if_pos h0]; exact RInvert_none _ _ _ _ _ _ w hm h0
    · rw [if_neg h0]
      by_cases h1 : 0 < a * d - b * c
      · rw [if_pos h1, ← out6_sevenI]; exact RInvert_pos _ _ _ _ _ _ w hm h1
      · rw [if_neg h1, ← out6_sevenI]; exact RInvert_neg _ _ _ _ _ _ w hm (by omega)
  · rw [if_neg (by omega)]; exact RInvert_no _ _ _ _ _ _ w hm
end Go.Proofs.Ytampdegpfndggaa

namespace Go.Proofs.Ytampdegpfndggaa
open Go.RowKit

/-- The error of an image: its size, the lengths of its lists, the error of its placing. -/
def imgE (W H : Int) (n m : Nat) (e : Int) : Int :=
  if W < 1 ∨ 256 < W ∨ H < 1 ∨ 256 < H then 3 else if (n : Int) ≠ W * H ∨ (m ≠ 0 ∧ (m : Int) ≠ W * H) then 4 else e
theorem mul_256 {W H : Int} (hW : 1 ≤ W ∧ W ≤ 256) (hH : 1 ≤ H ∧ H ≤ 256) : 1 ≤ W * H ∧ W * H ≤ 65536 := by
  have h1 := Int.mul_le_mul hW.1 hH.1 (by omega) (by omega)
  have h2 := Int.mul_le_mul hW.2 hH.2 (by omega) (by omega)
  omega
set_option maxRecDepth 20000 in
set_option maxHeartbeats 4000000 in
theorem ImgCheck_any (W H : Int) (A B : Option Addr) (n p m q : Nat) (a b c d e f : Int) (s r : Bool) (w : World) :
    Calls Try.prog 70 #[.agg #[.int .i64 W, .int .i64 H, .slice A n p, .slice B m q, .int .i64 a, .int .i64 b, .int .i64 c, .int .i64 d, .int .i64 e, .int .i64 f, .bool s, .bool r]] w fun e' w' => e' = .returned (.int .i64 (imgE W H n m (invL a b c d e f 6))) ∧ Below w.heap.size w w' := by
  by_cases hs : W < 1 ∨ 256 < W ∨ H < 1 ∨ 256 < H
  · go_enter Try.func70, Try.ntmps70
    go_wp2_with (first | (go_at_call 105; refine (Invert_any _ _ _ _ _ _ _).mono ?_; rintro e' w' ⟨rfl, hb⟩; obtain ⟨hc9, hf9, hz9⟩ := bcell hb; try simp only [World.size_alloc] at hz9 hc9 hf9; try unfold sevenI))
    all_goals go_ret
    all_goals exact ⟨ret_int (by rw [imgE, if_pos hs]), by (repeat' (with_reducible first | exact Below.refl _ _ | refine past_le ?_ ?_ _ | refine Below.alloc ?_ ?_ _ | refine Below.drew ?_ | refine drewN_le ?_ _ | refine Below.setCell ?_ ?_ _ | refine step_le (by assumption) ?_ ?_ | omega | (simp only []; omega) | (simp only [World.size_alloc]; omega) | (simp only [World.size_setCell]; omega) | (simp only [World.size_drew]; omega) | (simp only [World.size_alloc, World.size_setCell]; omega) | (simp only [World.size_alloc, World.size_drew]; omega) | (simp only [World.size_setCell, World.size_drew]; omega) | (simp only [World.size_alloc, World.size_setCell, World.size_drew]; omega) | (simp only [World.size_alloc, World.size_setCell, World.size_drew, size_drewN]; omega)))⟩
  · have hWH := mul_256 (W := W) (H := H) (by omega) (by omega)
    go_enter Try.func70, Try.ntmps70
    go_wp2_with (first | (go_at_call 105; refine (Invert_any _ _ _ _ _ _ _).mono ?_; rintro e' w' ⟨rfl, hb⟩; obtain ⟨hc9, hf9, hz9⟩ := bcell hb; try simp only [World.size_alloc] at hz9 hc9 hf9; try unfold sevenI))
    all_goals go_ret
    all_goals refine ⟨ret_int ?_, by (repeat' (with_reducible first | exact Below.refl _ _ | refine past_le ?_ ?_ _ | refine Below.alloc ?_ ?_ _ | refine Below.drew ?_ | refine drewN_le ?_ _ | refine Below.setCell ?_ ?_ _ | refine step_le (by assumption) ?_ ?_ | omega | (simp only []; omega) | (simp only [World.size_alloc]; omega) | (simp only [World.size_setCell]; omega) | (simp only [World.size_drew]; omega) | (simp only [World.size_alloc, World.size_setCell]; omega) | (simp only [World.size_alloc, World.size_drew]; omega) | (simp only [World.size_setCell, World.size_drew]; omega) | (simp only [World.size_alloc, World.size_setCell, World.size_drew]; omega) | (simp only [World.size_alloc, World.size_setCell, World.size_drew, size_drewN]; omega)))⟩
    all_goals rw [imgE, if_neg hs]
    all_goals split
    all_goals first
      | rfl
      | (exfalso; simp_all; done)
      | (exfalso; simp_all; omega)
set_option maxRecDepth 20000 in
set_option maxHeartbeats 4000000 in
theorem RImgCheck_any (W H : Int) (A B : Option Addr) (n p m q : Nat) (a b c d e f : Int) (s r : Bool) (w : World) :
    Calls Try.prog 36 #[.agg #[.int .i64 W, .int .i64 H, .slice A n p, .slice B m q, .int .i64 a, .int .i64 b, .int .i64 c, .int .i64 d, .int .i64 e, .int .i64 f, .bool s, .bool r]] w fun e' w' => e' = .returned (.int .i64 (imgE W H n m (invL a b c d e f 6))) ∧ Below w.heap.size w w' := by
  by_cases hi : inB W 1 256 = false ∨ inB H 1 256 = false
  · have hs : Hid (W < 1 ∨ 256 < W ∨ H < 1 ∨ 256 < H) := by
      show W < 1 ∨ 256 < W ∨ H < 1 ∨ 256 < H
      rcases hi with hi | hi
      · have : ¬(1 ≤ W ∧ W ≤ 256) := fun hh => by rw [inB_yes hh] at hi; cases hi
        omega
      · have : ¬(1 ≤ H ∧ H ≤ 256) := fun hh => by rw [inB_yes hh] at hi; cases hi
        omega
    by_cases hW : inB W 1 256 = true
    · have hH : inB H 1 256 = false := by simpa [hW] using hi
      clear hi
      go_enter Try.func36, Try.ntmps36
      go_wp2_with (first | (go_at_call 16; refine (In_any _ _ _ _).mono ?_; rintro e w' ⟨rfl, rfl⟩))
      go_ret
      exact ⟨ret_int (by rw [imgE, if_pos hs.out]), by (repeat' (with_reducible first | exact Below.refl _ _ | refine past_le ?_ ?_ _ | refine Below.alloc ?_ ?_ _ | refine Below.drew ?_ | refine drewN_le ?_ _ | refine Below.setCell ?_ ?_ _ | refine step_le (by assumption) ?_ ?_ | omega | (simp only []; omega) | (simp only [World.size_alloc]; omega) | (simp only [World.size_setCell]; omega) | (simp only [World.size_drew]; omega) | (simp only [World.size_alloc, World.size_setCell]; omega) | (simp only [World.size_alloc, World.size_drew]; omega) | (simp only [World.size_setCell, World.size_drew]; omega) | (simp only [World.size_alloc, World.size_setCell, World.size_drew]; omega) | (simp only [World.size_alloc, World.size_setCell, World.size_drew, size_drewN]; omega)))⟩
    have hW : inB W 1 256 = false := by simpa using hW
    clear hi
    go_enter Try.func36, Try.ntmps36
    go_wp2_with (first | (go_at_call 16; refine (In_any _ _ _ _).mono ?_; rintro e w' ⟨rfl, rfl⟩) | (go_at_call 72; refine (RInvert_any _ _ _ _ _ _ _).mono ?_; rintro e' w' ⟨rfl, hb⟩; obtain ⟨hc9, hf9, hz9⟩ := bcell hb; try simp only [World.size_alloc] at hz9 hc9 hf9; try unfold sevenI))
    all_goals go_ret
    all_goals exact ⟨ret_int (by rw [imgE, if_pos hs.out]), by (repeat' (with_reducible first | exact Below.refl _ _ | refine past_le ?_ ?_ _ | refine Below.alloc ?_ ?_ _ | refine Below.drew ?_ | refine drewN_le ?_ _ | refine Below.setCell ?_ ?_ _ | refine step_le (by assumption) ?_ ?_ | omega | (simp only []; omega) | (simp only [World.size_alloc]; omega) | (simp only [World.size_setCell]; omega) | (simp only [World.size_drew]; omega) | (simp only [World.size_alloc, World.size_setCell]; omega) | (simp only [World.size_alloc, World.size_drew]; omega) | (simp only [World.size_setCell, World.size_drew]; omega) | (simp only [World.size_alloc, World.size_setCell, World.size_drew]; omega) | (simp only [World.size_alloc, World.size_setCell, World.size_drew, size_drewN]; omega)))⟩
  · have hW : inB W 1 256 = true := by cases h : inB W 1 256 <;> simp_all
    have hH : inB H 1 256 = true := by cases h : inB H 1 256 <;> simp_all
    have hW' := inB_iff.1 hW
    have hH' := inB_iff.1 hH
    have hs : ¬(W < 1 ∨ 256 < W ∨ H < 1 ∨ 256 < H) := by omega
    clear hi
    have hWH := mul_256 (W := W) (H := H) (by omega) (by omega)
    go_enter Try.func36, Try.ntmps36
    go_wp2_with (first | (go_at_call 16; refine (In_any _ _ _ _).mono ?_; rintro e w' ⟨rfl, rfl⟩) | (go_at_call 72; refine (RInvert_any _ _ _ _ _ _ _).mono ?_; rintro e' w' ⟨rfl, hb⟩; obtain ⟨hc9, hf9, hz9⟩ := bcell hb; try simp only [World.size_alloc] at hz9 hc9 hf9; try unfold sevenI))
    all_goals go_ret
    all_goals refine ⟨ret_int ?_, by (repeat' (with_reducible first | exact Below.refl _ _ | refine past_le ?_ ?_ _ | refine Below.alloc ?_ ?_ _ | refine Below.drew ?_ | refine drewN_le ?_ _ | refine Below.setCell ?_ ?_ _ | refine step_le (by assumption) ?_ ?_ | omega | (simp only []; omega) | (simp only [World.size_alloc]; omega) | (simp only [World.size_setCell]; omega) | (simp only [World.size_drew]; omega) | (simp only [World.size_alloc, World.size_setCell]; omega) | (simp only [World.size_alloc, World.size_drew]; omega) | (simp only [World.size_setCell, World.size_drew]; omega) | (simp only [World.size_alloc, World.size_setCell, World.size_drew]; omega) | (simp only [World.size_alloc, World.size_setCell, World.size_drew, size_drewN]; omega)))⟩
    all_goals rw [imgE, if_neg hs]
    all_goals split
    all_goals first
      | rfl
      | (exfalso; simp_all; done)
      | (exfalso; simp_all; omega)
end Go.Proofs.Ytampdegpfndggaa
