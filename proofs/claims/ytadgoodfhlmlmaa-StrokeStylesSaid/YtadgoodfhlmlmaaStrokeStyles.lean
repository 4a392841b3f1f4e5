/-
  The walk of the law StrokeStyles: Check returns the errors of the document.
-/
import Derived.Test.YtadgoodfhlmlmaaNum
import Derived.Test.YtadgoodfhlmlmaaPast
namespace Go.Proofs.Ytadgoodfhlmlmaa.strokeStyles
open Go.RowKit

def styleV (w c j l : Int) : Int := if w < 1 ∨ 1024 < w then 3 else if c < 0 ∨ 2 < c ∨ j < 0 ∨ 2 < j then 1 else if l < 16 ∨ 1024 < l then 3 else 0
set_option maxHeartbeats 2000000 in
theorem SCheck_any (a b c d : Int) (w : World) :
    Calls Try.prog 16 #[.agg #[.int .i64 a, .int .i64 b, .int .i64 c, .int .i64 d]] w fun e w' => e = .returned (.int .i64 (styleV a b c d)) ∧ (w.alloc (.cells #[.int .i64 a, .int .i64 b, .int .i64 c, .int .i64 d] 23)) = w' := by
  go_enter Try.func16, Try.ntmps16
  go_wp2
  all_goals go_ret
  all_goals refine ⟨ret_int ?_, rfl⟩
  all_goals unfold styleV
  all_goals first | rw [if_pos (by omega)] | rw [if_neg (by omega), if_pos (by omega)] | rw [if_neg (by omega), if_neg (by omega), if_pos (by omega)] | rw [if_neg (by omega), if_neg (by omega), if_neg (by omega)]
set_option maxHeartbeats 2000000 in
theorem StyleCheck_any (a b c d : Int) (w : World) :
    Calls Try.prog 17 #[.agg #[.int .i64 a, .int .i64 b, .int .i64 c, .int .i64 d]] w fun e w' => e = .returned (.int .i64 (styleV a b c d)) ∧ (w.alloc (.cells #[.int .i64 a, .int .i64 b, .int .i64 c, .int .i64 d] 23)) = w' := by
  go_enter Try.func17, Try.ntmps17
  go_wp2_with (first | (go_at_call 21; refine (In_any _ _ _ _).mono ?_; rintro e w' ⟨rfl, rfl⟩))
  all_goals go_ret
  all_goals refine ⟨ret_int ?_, rfl⟩
  all_goals go_tidy
  all_goals unfold styleV
  all_goals simp only [inB, Bool.not_eq_true', decide_eq_true_eq, decide_eq_false_iff_not, Bool.not_eq_false'] at *
  all_goals first | rw [if_pos (by omega)] | rw [if_neg (by omega), if_pos (by omega)] | rw [if_neg (by omega), if_neg (by omega), if_pos (by omega)] | rw [if_neg (by omega), if_neg (by omega), if_neg (by omega)]
set_option maxHeartbeats 2000000 in
theorem walk (a b c d : Int) (w : World) (_w0 : ∀ z ∈ [a, b, c, d], (Lit.int .i64 z).wf = true) :
    Calls Try.prog 3 #[.agg #[.int .i64 a, .int .i64 b, .int .i64 c, .int .i64 d]] w fun e w' => e = .returned (.bool true) ∧ Below w.heap.size w w' := by
  clear _w0
  have h0 : styleV 4 0 0 0 = 3 := by decide
  go_enter Try.func3, Try.ntmps3
  go_wp2_with fail
  refine wp_region_past (by kernel_rfl) (by kernel_rfl) ?_
  repeat (go_big_quiet_step (first | (go_at_call 16; exact past_alloc (SCheck_any _ _ _ _ _)) | (go_at_call 17; exact past_alloc (StyleCheck_any _ _ _ _ _))))
  refine wpQuiet_nil ?_
  intro _ hw'
  obtain ⟨x1, hx1⟩ := hw'
  subst hx1
  go_wp2
  go_ret
  exact ⟨rfl, by (repeat' (with_reducible first | exact Below.refl _ _ | refine past_le ?_ ?_ _ | refine Below.alloc ?_ ?_ _ | refine Below.drew ?_ | refine drewN_le ?_ _ | refine Below.setCell ?_ ?_ _ | refine step_le (by assumption) ?_ ?_ | omega | (simp only [World.size_alloc]; omega) | (simp only [World.size_alloc, World.size_setCell]; omega) | (simp only [World.size_alloc, World.size_setCell, World.size_drew]; omega)))⟩
end Go.Proofs.Ytadgoodfhlmlmaa.strokeStyles
