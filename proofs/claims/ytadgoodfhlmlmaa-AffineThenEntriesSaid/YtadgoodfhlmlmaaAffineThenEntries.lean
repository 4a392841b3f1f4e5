/-
  The walk of the law AffineThenEntries: Then has the entries of the document, as the reference's has.
-/
import Derived.Test.YtadgoodfhlmlmaaRThen
namespace Go.Proofs.Ytadgoodfhlmlmaa.affineThenEntries
open Go.RowKit

/-- The seven numbers that Then hands back. -/
def thenL (a1 b1 c1 d1 e1 f1 a2 b2 c2 d2 e2 f2 : Int) (i : Nat) : Int :=
  if matE a1 b1 c1 d1 e1 f1 = 0 ∧ matE a2 b2 c2 d2 e2 f2 = 0 then
    if matE (near (a2 * a1 + c2 * b1) 4096) (near (b2 * a1 + d2 * b1) 4096) (near (a2 * c1 + c2 * d1) 4096) (near (b2 * c1 + d2 * d1) 4096) (near (a2 * e1 + c2 * f1) 4096 + e2) (near (b2 * e1 + d2 * f1) 4096 + f2) = 0 then
      match i with
      | 0 => near (a2 * a1 + c2 * b1) 4096
      | 1 => near (b2 * a1 + d2 * b1) 4096
      | 2 => near (a2 * c1 + c2 * d1) 4096
      | 3 => near (b2 * c1 + d2 * d1) 4096
      | 4 => near (a2 * e1 + c2 * f1) 4096 + e2
      | 5 => near (b2 * e1 + d2 * f1) 4096 + f2
      | _ => 0
    else if i = 6 then 10 else 0
  else if i = 6 then 3 else 0
def seven (g : Nat → Int) : Value := .tuple #[.agg #[.int .i64 (g 0), .int .i64 (g 1), .int .i64 (g 2), .int .i64 (g 3), .int .i64 (g 4), .int .i64 (g 5)], .int .i64 (g 6)]
theorem seven_12 {a1 b1 c1 d1 e1 f1 a2 b2 c2 d2 e2 f2 : Int} (hm : matE a1 b1 c1 d1 e1 f1 = 0) (hn : matE a2 b2 c2 d2 e2 f2 = 0) : thenV a1 b1 c1 d1 e1 f1 a2 b2 c2 d2 e2 f2 = seven (thenL a1 b1 c1 d1 e1 f1 a2 b2 c2 d2 e2 f2) := by
  unfold thenV seven thenL
  split
  · simp [hm, hn]
  · simp [hm, hn]
theorem seven_no {a1 b1 c1 d1 e1 f1 a2 b2 c2 d2 e2 f2 : Int} (h : ¬ (matE a1 b1 c1 d1 e1 f1 = 0 ∧ matE a2 b2 c2 d2 e2 f2 = 0)) : .tuple #[.agg #[.int .i64 0, .int .i64 0, .int .i64 0, .int .i64 0, .int .i64 0, .int .i64 0], .int .i64 3] = seven (thenL a1 b1 c1 d1 e1 f1 a2 b2 c2 d2 e2 f2) := by
  unfold seven thenL
  simp [h]
theorem Then_any (a1 b1 c1 d1 e1 f1 a2 b2 c2 d2 e2 f2 : Int) (w : World) :
    Calls Try.prog 45 #[.agg #[.int .i64 a1, .int .i64 b1, .int .i64 c1, .int .i64 d1, .int .i64 e1, .int .i64 f1], .agg #[.int .i64 a2, .int .i64 b2, .int .i64 c2, .int .i64 d2, .int .i64 e2, .int .i64 f2]] w fun r w' => r = .returned (seven (thenL a1 b1 c1 d1 e1 f1 a2 b2 c2 d2 e2 f2)) ∧ Below w.heap.size w w' := by
  rcases matE_or a1 b1 c1 d1 e1 f1 with hm | hm
  · rcases matE_or a2 b2 c2 d2 e2 f2 with hn | hn
    · rw [← seven_12 hm hn]; exact Then_12 _ _ _ _ _ _ _ _ _ _ _ _ w hm hn
    · rw [← seven_no (by rw [hn]; omega)]; exact Then_no2 _ _ _ _ _ _ _ _ _ _ _ _ w hm hn
  · rw [← seven_no (by rw [hm]; omega)]; exact Then_no1 _ _ _ _ _ _ _ _ _ _ _ _ w hm
theorem RThen_any (a1 b1 c1 d1 e1 f1 a2 b2 c2 d2 e2 f2 : Int) (w : World) :
    Calls Try.prog 47 #[.agg #[.int .i64 a1, .int .i64 b1, .int .i64 c1, .int .i64 d1, .int .i64 e1, .int .i64 f1], .agg #[.int .i64 a2, .int .i64 b2, .int .i64 c2, .int .i64 d2, .int .i64 e2, .int .i64 f2]] w fun r w' => r = .returned (seven (thenL a1 b1 c1 d1 e1 f1 a2 b2 c2 d2 e2 f2)) ∧ Below w.heap.size w w' := by
  rcases matE_or a1 b1 c1 d1 e1 f1 with hm | hm
  · rcases matE_or a2 b2 c2 d2 e2 f2 with hn | hn
    · rw [← seven_12 hm hn]; exact RThen_12 _ _ _ _ _ _ _ _ _ _ _ _ w hm hn
    · rw [← seven_no (by rw [hn]; omega)]; exact RThen_no2 _ _ _ _ _ _ _ _ _ _ _ _ w hm hn
  · rw [← seven_no (by rw [hm]; omega)]; exact RThen_no1 _ _ _ _ _ _ _ _ _ _ _ _ w hm
set_option maxHeartbeats 1000000 in
theorem Quarter_1 (w : World) : Calls Try.prog 46 #[.int .i64 1] w fun r w' => r = .returned (.agg #[.int .i64 0, .int .i64 4096, .int .i64 (-4096), .int .i64 0, .int .i64 0, .int .i64 0]) ∧ Below w.heap.size w w' := by
  go_enter Try.func46, Try.ntmps46
  go_wp2_with fail
  go_returns
  exact ⟨rfl, by (repeat' (with_reducible first | exact Below.refl _ _ | refine past_le ?_ ?_ _ | refine Below.alloc ?_ ?_ _ | refine Below.drew ?_ | refine drewN_le ?_ _ | refine Below.setCell ?_ ?_ _ | refine step_le (by assumption) ?_ ?_ | omega | (simp only []; omega) | (simp only [World.size_alloc]; omega) | (simp only [World.size_setCell]; omega) | (simp only [World.size_drew]; omega) | (simp only [World.size_alloc, World.size_setCell]; omega) | (simp only [World.size_alloc, World.size_drew]; omega) | (simp only [World.size_setCell, World.size_drew]; omega) | (simp only [World.size_alloc, World.size_setCell, World.size_drew]; omega)))⟩
set_option maxHeartbeats 2000000 in
theorem walk (a1 b1 c1 d1 e1 f1 a2 b2 c2 d2 e2 f2 : Int) (w : World) (_w0 : ∀ z ∈ [a1, b1, c1, d1, e1, f1], (Lit.int .i64 z).wf = true) (_w1 : ∀ z ∈ [a2, b2, c2, d2, e2, f2], (Lit.int .i64 z).wf = true) :
    Calls Try.prog 14 #[.agg #[.int .i64 a1, .int .i64 b1, .int .i64 c1, .int .i64 d1, .int .i64 e1, .int .i64 f1], .agg #[.int .i64 a2, .int .i64 b2, .int .i64 c2, .int .i64 d2, .int .i64 e2, .int .i64 f2]] w fun e w' => e = .returned (.bool true) ∧ Below w.heap.size w w' := by
  clear _w0 _w1
  have h0 : seven (thenL 4096 0 0 4096 12288 0 0 4096 (-4096) 0 0 0) = .tuple #[.agg #[.int .i64 0, .int .i64 4096, .int .i64 (-4096), .int .i64 0, .int .i64 0, .int .i64 12288], .int .i64 0] := by kernel_rfl
  go_enter Try.func14, Try.ntmps14
  go_wp2_with fail
  refine (Quarter_1 _).mono ?_
  rintro e w0 ⟨rfl, hb0⟩
  obtain ⟨hc0, hf0, hz0⟩ := bcell hb0
  try simp only [World.size_alloc] at hz0 hc0 hf0
  go_wp2_with fail
  refine (Then_any 4096 0 0 4096 12288 0 0 4096 (-4096) 0 0 0 _).mono ?_
  rw [h0]
  rintro e w1 ⟨rfl, hb1⟩
  obtain ⟨hc1, hf1, hz1⟩ := bcell hb1
  try simp only [World.size_alloc] at hz1 hc1 hf1
  go_wp2_with fail
  refine (Then_any _ _ _ _ _ _ _ _ _ _ _ _ _).mono ?_
  rintro e w2 ⟨rfl, hb2⟩
  obtain ⟨hc2, hf2, hz2⟩ := bcell hb2
  try simp only [World.size_alloc] at hz2 hc2 hf2
  unfold seven
  go_wp2_with fail
  refine (RThen_any _ _ _ _ _ _ _ _ _ _ _ _ _).mono ?_
  rintro e w3 ⟨rfl, hb3⟩
  obtain ⟨hc3, hf3, hz3⟩ := bcell hb3
  try simp only [World.size_alloc] at hz3 hc3 hf3
  unfold seven
  go_wp2_with fail
  all_goals go_ret
  all_goals exact ⟨by simp, by (repeat' (with_reducible first | exact Below.refl _ _ | refine past_le ?_ ?_ _ | refine Below.alloc ?_ ?_ _ | refine Below.drew ?_ | refine drewN_le ?_ _ | refine Below.setCell ?_ ?_ _ | refine step_le (by assumption) ?_ ?_ | omega | (simp only []; omega) | (simp only [World.size_alloc]; omega) | (simp only [World.size_setCell]; omega) | (simp only [World.size_drew]; omega) | (simp only [World.size_alloc, World.size_setCell]; omega) | (simp only [World.size_alloc, World.size_drew]; omega) | (simp only [World.size_setCell, World.size_drew]; omega) | (simp only [World.size_alloc, World.size_setCell, World.size_drew]; omega)))⟩
end Go.Proofs.Ytadgoodfhlmlmaa.affineThenEntries
