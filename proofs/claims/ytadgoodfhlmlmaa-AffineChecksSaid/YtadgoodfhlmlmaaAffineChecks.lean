/-
  The walk of the law AffineChecks: Check, Shift, Scale and Identity keep the bounds.
-/
import Derived.Test.YtadgoodfhlmlmaaAffine
import Derived.Test.YtadgoodfhlmlmaaPast
namespace Go.Proofs.Ytadgoodfhlmlmaa.affineChecks
open Go.RowKit

set_option maxHeartbeats 1000000 in
theorem Shift_yes (x y : Int) (w : World) (h : ptB x y = true) :
    Calls Try.prog 32 #[.int .i64 x, .int .i64 y] w fun e w' => e = .returned (.tuple #[.agg #[.int .i64 4096, .int .i64 0, .int .i64 0, .int .i64 4096, .int .i64 (4096 * x), .int .i64 (4096 * y)], .int .i64 0]) ∧ Below w.heap.size w w' := by
  unfold ptB at h
  simp only [Bool.and_eq_true] at h
  obtain ⟨hx, hy⟩ := h
  have hx' := inB_iff.1 hx
  have hy' := inB_iff.1 hy
  go_enter Try.func32, Try.ntmps32
  go_wp2_with (first | (go_at_call 59; refine (within_any _ _ _ ?_).mono ?_; omega; rintro e w' ⟨rfl, rfl⟩) | (go_at_call 31; refine (Identity_any _).mono ?_; rintro e w' ⟨rfl, rfl⟩))
  go_returns
  exact ⟨rfl, by go_grown⟩
set_option maxHeartbeats 1000000 in
theorem Shift_no (x y : Int) (w : World) (h : ptB x y = false) :
    Calls Try.prog 32 #[.int .i64 x, .int .i64 y] w fun e w' => e = .returned (.tuple #[.agg #[.int .i64 0, .int .i64 0, .int .i64 0, .int .i64 0, .int .i64 0, .int .i64 0], .int .i64 3]) ∧ Below w.heap.size w w' := by
  unfold ptB at h
  by_cases hx : inB x (-32767) 32767 = true
  · have hy : inB y (-32767) 32767 = false := by rw [hx] at h; simpa using h
    go_enter Try.func32, Try.ntmps32
    go_wp2_with (first | (go_at_call 59; refine (within_any _ _ _ ?_).mono ?_; omega; rintro e w' ⟨rfl, rfl⟩))
    go_returns
    exact ⟨rfl, by go_grown⟩
  · have hx' : inB x (-32767) 32767 = false := by simpa using hx
    clear h
    go_enter Try.func32, Try.ntmps32
    go_wp2_with (first | (go_at_call 59; refine (within_any _ _ _ ?_).mono ?_; omega; rintro e w' ⟨rfl, rfl⟩))
    go_returns
    exact ⟨rfl, by go_grown⟩
set_option maxHeartbeats 1000000 in
theorem Scale_yes (x y : Int) (w : World) (h : matE x 0 0 y 0 0 = 0) :
    Calls Try.prog 33 #[.int .i64 x, .int .i64 y] w fun e w' => e = .returned (.tuple #[.agg #[.int .i64 x, .int .i64 0, .int .i64 0, .int .i64 y, .int .i64 0, .int .i64 0], .int .i64 0]) ∧ Below w.heap.size w w' := by
  go_enter Try.func33, Try.ntmps33
  go_wp2_with (first | (go_at_call 36; refine (Check_any _ _ _ _ _ _ _).mono ?_; rintro e w' ⟨rfl, rfl⟩))
  go_returns
  exact ⟨rfl, by go_grown⟩
set_option maxHeartbeats 1000000 in
theorem Scale_no (x y : Int) (w : World) (h : matE x 0 0 y 0 0 = 3) :
    Calls Try.prog 33 #[.int .i64 x, .int .i64 y] w fun e w' => e = .returned (.tuple #[.agg #[.int .i64 0, .int .i64 0, .int .i64 0, .int .i64 0, .int .i64 0, .int .i64 0], .int .i64 3]) ∧ Below w.heap.size w w' := by
  go_enter Try.func33, Try.ntmps33
  go_wp2_with (first | (go_at_call 36; refine (Check_any _ _ _ _ _ _ _).mono ?_; rintro e w' ⟨rfl, rfl⟩))
  go_returns
  exact ⟨rfl, by go_grown⟩
theorem matE_or (a b c d e f : Int) : matE a b c d e f = 0 ∨ matE a b c d e f = 3 := by unfold matE; split <;> simp
set_option maxHeartbeats 2000000 in
theorem walk (a b c d e f x y : Int) (w : World) (_w0 : ∀ z ∈ [a, b, c, d, e, f], (Lit.int .i64 z).wf = true) (_w1 : (Lit.int .i64 x).wf = true) (_w2 : (Lit.int .i64 y).wf = true) :
    Calls Try.prog 9 #[.agg #[.int .i64 a, .int .i64 b, .int .i64 c, .int .i64 d, .int .i64 e, .int .i64 f], .int .i64 x, .int .i64 y] w fun e w' => e = .returned (.bool true) ∧ Below w.heap.size w w' := by
  clear _w0 _w1 _w2
  by_cases hp : ptB x y = true
  · have hp1 := hp
    unfold ptB at hp1
    simp only [Bool.and_eq_true] at hp1
    have hx' := inB_iff.1 hp1.1
    have hy' := inB_iff.1 hp1.2
    clear hp1
    rcases matE_or x 0 0 y 0 0 with hs | hs
    · skip
      go_enter Try.func9, Try.ntmps9
      go_wp2_with fail
      refine (Identity_any _).mono ?_
      rintro e w' ⟨rfl, rfl⟩
      go_wp2_with fail
      refine (Shift_yes _ _ _ hp).mono ?_
      rintro e w1 ⟨rfl, hb1⟩
      obtain ⟨hc1, hf1, hz1⟩ := bcell hb1
      simp only [World.size_alloc] at hz1 hc1 hf1
      go_wp2_with fail
      refine (Scale_yes _ _ _ hs).mono ?_
      rintro e w2 ⟨rfl, hb2⟩
      obtain ⟨hc2, hf2, hz2⟩ := bcell hb2
      simp only [World.size_alloc] at hz2 hc2 hf2
      go_wp2_with (first | (go_at_call 34; refine (Coord_any _ _ _).mono ?_; rintro e w' ⟨rfl, rfl⟩) | (go_at_call 35; refine (MapCheck_any _ _ _ _ _ _ _).mono ?_; rintro e w' ⟨rfl, rfl⟩))
      refine wp_region_past (by kernel_rfl) (by kernel_rfl) ?_
      repeat (go_big_quiet_step (first | (go_at_call 36; exact past_alloc (Check_any _ _ _ _ _ _ _)) | (go_at_call 35; exact past_alloc (MapCheck_any _ _ _ _ _ _ _))))
      refine wpQuiet_nil ?_
      intro _ hw'
      obtain ⟨x1, hx1⟩ := hw'
      subst hx1
      go_wp2
      go_ret
      exact ⟨rfl, by (repeat' (with_reducible first | exact Below.refl _ _ | refine past_le ?_ ?_ _ | refine Below.alloc ?_ ?_ _ | refine Below.drew ?_ | refine Below.setCell ?_ ?_ _ | refine step_le (by assumption) ?_ ?_ | omega | (simp only [World.size_alloc]; omega) | (simp only [World.size_alloc, World.size_setCell]; omega) | (simp only [World.size_alloc, World.size_setCell, World.size_drew]; omega)))⟩
    · skip
      go_enter Try.func9, Try.ntmps9
      go_wp2_with fail
      refine (Identity_any _).mono ?_
      rintro e w' ⟨rfl, rfl⟩
      go_wp2_with fail
      refine (Shift_yes _ _ _ hp).mono ?_
      rintro e w1 ⟨rfl, hb1⟩
      obtain ⟨hc1, hf1, hz1⟩ := bcell hb1
      simp only [World.size_alloc] at hz1 hc1 hf1
      go_wp2_with fail
      refine (Scale_no _ _ _ hs).mono ?_
      rintro e w2 ⟨rfl, hb2⟩
      obtain ⟨hc2, hf2, hz2⟩ := bcell hb2
      simp only [World.size_alloc] at hz2 hc2 hf2
      go_wp2_with (first | (go_at_call 34; refine (Coord_any _ _ _).mono ?_; rintro e w' ⟨rfl, rfl⟩) | (go_at_call 35; refine (MapCheck_any _ _ _ _ _ _ _).mono ?_; rintro e w' ⟨rfl, rfl⟩))
      refine wp_region_past (by kernel_rfl) (by kernel_rfl) ?_
      repeat (go_big_quiet_step (first | (go_at_call 36; exact past_alloc (Check_any _ _ _ _ _ _ _)) | (go_at_call 35; exact past_alloc (MapCheck_any _ _ _ _ _ _ _))))
      refine wpQuiet_nil ?_
      intro _ hw'
      obtain ⟨x1, hx1⟩ := hw'
      subst hx1
      go_wp2
      go_ret
      exact ⟨rfl, by (repeat' (with_reducible first | exact Below.refl _ _ | refine past_le ?_ ?_ _ | refine Below.alloc ?_ ?_ _ | refine Below.drew ?_ | refine Below.setCell ?_ ?_ _ | refine step_le (by assumption) ?_ ?_ | omega | (simp only [World.size_alloc]; omega) | (simp only [World.size_alloc, World.size_setCell]; omega) | (simp only [World.size_alloc, World.size_setCell, World.size_drew]; omega)))⟩
  · have hp : ptB x y = false := by simpa using hp
    rcases matE_or x 0 0 y 0 0 with hs | hs
    · skip
      go_enter Try.func9, Try.ntmps9
      go_wp2_with fail
      refine (Identity_any _).mono ?_
      rintro e w' ⟨rfl, rfl⟩
      go_wp2_with fail
      refine (Shift_no _ _ _ hp).mono ?_
      rintro e w1 ⟨rfl, hb1⟩
      obtain ⟨hc1, hf1, hz1⟩ := bcell hb1
      simp only [World.size_alloc] at hz1 hc1 hf1
      go_wp2_with fail
      refine (Scale_yes _ _ _ hs).mono ?_
      rintro e w2 ⟨rfl, hb2⟩
      obtain ⟨hc2, hf2, hz2⟩ := bcell hb2
      simp only [World.size_alloc] at hz2 hc2 hf2
      go_wp2_with (first | (go_at_call 34; refine (Coord_any _ _ _).mono ?_; rintro e w' ⟨rfl, rfl⟩) | (go_at_call 35; refine (MapCheck_any _ _ _ _ _ _ _).mono ?_; rintro e w' ⟨rfl, rfl⟩))
      refine wp_region_past (by kernel_rfl) (by kernel_rfl) ?_
      repeat (go_big_quiet_step (first | (go_at_call 36; exact past_alloc (Check_any _ _ _ _ _ _ _)) | (go_at_call 35; exact past_alloc (MapCheck_any _ _ _ _ _ _ _))))
      refine wpQuiet_nil ?_
      intro _ hw'
      obtain ⟨x1, hx1⟩ := hw'
      subst hx1
      go_wp2
      go_ret
      exact ⟨rfl, by (repeat' (with_reducible first | exact Below.refl _ _ | refine past_le ?_ ?_ _ | refine Below.alloc ?_ ?_ _ | refine Below.drew ?_ | refine Below.setCell ?_ ?_ _ | refine step_le (by assumption) ?_ ?_ | omega | (simp only [World.size_alloc]; omega) | (simp only [World.size_alloc, World.size_setCell]; omega) | (simp only [World.size_alloc, World.size_setCell, World.size_drew]; omega)))⟩
    · skip
      go_enter Try.func9, Try.ntmps9
      go_wp2_with fail
      refine (Identity_any _).mono ?_
      rintro e w' ⟨rfl, rfl⟩
      go_wp2_with fail
      refine (Shift_no _ _ _ hp).mono ?_
      rintro e w1 ⟨rfl, hb1⟩
      obtain ⟨hc1, hf1, hz1⟩ := bcell hb1
      simp only [World.size_alloc] at hz1 hc1 hf1
      go_wp2_with fail
      refine (Scale_no _ _ _ hs).mono ?_
      rintro e w2 ⟨rfl, hb2⟩
      obtain ⟨hc2, hf2, hz2⟩ := bcell hb2
      simp only [World.size_alloc] at hz2 hc2 hf2
      go_wp2_with (first | (go_at_call 34; refine (Coord_any _ _ _).mono ?_; rintro e w' ⟨rfl, rfl⟩) | (go_at_call 35; refine (MapCheck_any _ _ _ _ _ _ _).mono ?_; rintro e w' ⟨rfl, rfl⟩))
      refine wp_region_past (by kernel_rfl) (by kernel_rfl) ?_
      repeat (go_big_quiet_step (first | (go_at_call 36; exact past_alloc (Check_any _ _ _ _ _ _ _)) | (go_at_call 35; exact past_alloc (MapCheck_any _ _ _ _ _ _ _))))
      refine wpQuiet_nil ?_
      intro _ hw'
      obtain ⟨x1, hx1⟩ := hw'
      subst hx1
      go_wp2
      go_ret
      exact ⟨rfl, by (repeat' (with_reducible first | exact Below.refl _ _ | refine past_le ?_ ?_ _ | refine Below.alloc ?_ ?_ _ | refine Below.drew ?_ | refine Below.setCell ?_ ?_ _ | refine step_le (by assumption) ?_ ?_ | omega | (simp only [World.size_alloc]; omega) | (simp only [World.size_alloc, World.size_setCell]; omega) | (simp only [World.size_alloc, World.size_setCell, World.size_drew]; omega)))⟩
end Go.Proofs.Ytadgoodfhlmlmaa.affineChecks
