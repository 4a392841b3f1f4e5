/-
  The walk of the law AffineApplyRounds: Apply rounds both coordinates half up, as the reference does.
-/
import Derived.Test.YtadgoodfhlmlmaaApply
namespace Go.Proofs.Ytadgoodfhlmlmaa.affineApplyRounds
open Go.RowKit

set_option maxHeartbeats 2000000 in
theorem RApply_no (a b c d e f x y : Int) (w : World) (h : ¬ (matE a b c d e f = 0 ∧ ptB x y = true)) :
    Calls Try.prog 40 #[.agg #[.int .i64 a, .int .i64 b, .int .i64 c, .int .i64 d, .int .i64 e, .int .i64 f], .agg #[.int .i64 x, .int .i64 y]] w fun r w' => r = .returned (.tuple #[.agg #[.int .i64 (applyV a b c d e f x y).1, .int .i64 (applyV a b c d e f x y).2.1], .int .i64 (applyV a b c d e f x y).2.2]) ∧ Below w.heap.size w w' := by
  have hv : Hid _ := applyV_no h
  rcases matE_or a b c d e f with hm | hm
  · have hp : ptB x y = false := by have hp := fun hp => h ⟨hm, hp⟩; simpa using hp
    clear h
    go_enter Try.func40, Try.ntmps40
    go_wp2_with (first | (go_at_call 35; refine (MapCheck_any _ _ _ _ _ _ _).mono ?_; rintro e w' ⟨rfl, rfl⟩) | (go_at_call 34; refine (Coord_any _ _ _).mono ?_; rintro e w' ⟨rfl, rfl⟩))
    go_returns
    exact ⟨tupP hv.out, by (repeat' (with_reducible first | exact Below.refl _ _ | refine past_le ?_ ?_ _ | refine Below.alloc ?_ ?_ _ | refine Below.drew ?_ | refine Below.setCell ?_ ?_ _ | refine step_le (by assumption) ?_ ?_ | omega | (simp only [World.size_alloc]; omega) | (simp only [World.size_alloc, World.size_setCell]; omega) | (simp only [World.size_alloc, World.size_setCell, World.size_drew]; omega)))⟩
  · clear h
    go_enter Try.func40, Try.ntmps40
    go_wp2_with (first | (go_at_call 35; refine (MapCheck_any _ _ _ _ _ _ _).mono ?_; rintro e w' ⟨rfl, rfl⟩))
    go_returns
    exact ⟨tupP hv.out, by (repeat' (with_reducible first | exact Below.refl _ _ | refine past_le ?_ ?_ _ | refine Below.alloc ?_ ?_ _ | refine Below.drew ?_ | refine Below.setCell ?_ ?_ _ | refine step_le (by assumption) ?_ ?_ | omega | (simp only [World.size_alloc]; omega) | (simp only [World.size_alloc, World.size_setCell]; omega) | (simp only [World.size_alloc, World.size_setCell, World.size_drew]; omega)))⟩
theorem RApply_any (a b c d e f x y : Int) (w : World) :
    Calls Try.prog 40 #[.agg #[.int .i64 a, .int .i64 b, .int .i64 c, .int .i64 d, .int .i64 e, .int .i64 f], .agg #[.int .i64 x, .int .i64 y]] w fun r w' => r = .returned (.tuple #[.agg #[.int .i64 (applyV a b c d e f x y).1, .int .i64 (applyV a b c d e f x y).2.1], .int .i64 (applyV a b c d e f x y).2.2]) ∧ Below w.heap.size w w' := by
  by_cases h : matE a b c d e f = 0 ∧ ptB x y = true
  · exact RApply_ok a b c d e f x y w h.1 h.2
  · exact RApply_no a b c d e f x y w h
set_option maxHeartbeats 2000000 in
theorem walk (a b c d e f x y : Int) (w : World) (_w0 : ∀ z ∈ [a, b, c, d, e, f], (Lit.int .i64 z).wf = true) (_w1 : ∀ z ∈ [x, y], (Lit.int .i64 z).wf = true) :
    Calls Try.prog 11 #[.agg #[.int .i64 a, .int .i64 b, .int .i64 c, .int .i64 d, .int .i64 e, .int .i64 f], .agg #[.int .i64 x, .int .i64 y]] w fun e w' => e = .returned (.bool true) ∧ Below w.heap.size w w' := by
  clear _w0 _w1
  have h0 : applyV 2048 0 0 2048 0 0 1 (-1) = (1, 0, 0) := by decide
  go_enter Try.func11, Try.ntmps11
  go_wp2_with fail
  refine (Apply_any 2048 0 0 2048 0 0 1 (-1) _).mono ?_
  rintro e w1 ⟨rfl, hb1⟩
  obtain ⟨hc1, hf1, hz1⟩ := bcell hb1
  simp only [World.size_alloc] at hz1 hc1 hf1
  go_wp2_with fail
  refine (Apply_any _ _ _ _ _ _ _ _ _).mono ?_
  rintro e w2 ⟨rfl, hb2⟩
  obtain ⟨hc2, hf2, hz2⟩ := bcell hb2
  simp only [World.size_alloc] at hz2 hc2 hf2
  go_wp2_with fail
  refine (RApply_any _ _ _ _ _ _ _ _ _).mono ?_
  rintro e w3 ⟨rfl, hb3⟩
  obtain ⟨hc3, hf3, hz3⟩ := bcell hb3
  simp only [World.size_alloc] at hz3 hc3 hf3
  go_wp2_with fail
  all_goals go_ret
  all_goals exact ⟨by simp, by (repeat' (with_reducible first | exact Below.refl _ _ | refine past_le ?_ ?_ _ | refine Below.alloc ?_ ?_ _ | refine Below.drew ?_ | refine Below.setCell ?_ ?_ _ | refine step_le (by assumption) ?_ ?_ | omega | (simp only [World.size_alloc]; omega) | (simp only [World.size_alloc, World.size_setCell]; omega) | (simp only [World.size_alloc, World.size_setCell, World.size_drew]; omega)))⟩
end Go.Proofs.Ytadgoodfhlmlmaa.affineApplyRounds
