/-
  The walk of the law ImageChecks: Check returns the errors of the document.
-/
import Derived.Test.YtoiblpncofbdpaaImage
import Derived.Test.YtoiblpncofbdpaaFlat
import Derived.Test.YtoiblpncofbdpaaPre
namespace Go.Proofs.Ytoiblpncofbdpaa.imageChecks
open Go.RowKit

set_option maxRecDepth 20000 in
set_option maxHeartbeats 4000000 in
set_option linter.unusedVariables false in
theorem walk (a0x0 : Int) (a0x1 : Int) (A0x2 : Option Addr) (n0x2 : Nat) (q0x2 : Nat) (g0x2 : Nat → Nat → Value) (A0x3 : Option Addr) (n0x3 : Nat) (q0x3 : Nat) (g0x3 : Nat → Nat → Value) (a0x4 : Int) (a0x5 : Int) (a0x6 : Int) (a0x7 : Int) (a0x8 : Int) (a0x9 : Int) (a0x10 : Bool) (a0x11 : Bool) (w : World) (w0x0 : (Lit.int .i64 a0x0).wf = true) (w0x1 : (Lit.int .i64 a0x1).wf = true) (c0x2 : n0x2 ≤ q0x2) (m0x2 : q0x2 ≤ maxLen) (s0x2 : SliceG Try.prog w 23 A0x2 n0x2 g0x2) (c0x3 : n0x3 ≤ q0x3) (m0x3 : q0x3 ≤ maxLen) (s0x3 : SliceG Try.prog w 5 A0x3 n0x3 g0x3) (w0x4 : (Lit.int .i64 a0x4).wf = true) (w0x5 : (Lit.int .i64 a0x5).wf = true) (w0x6 : (Lit.int .i64 a0x6).wf = true) (w0x7 : (Lit.int .i64 a0x7).wf = true) (w0x8 : (Lit.int .i64 a0x8).wf = true) (w0x9 : (Lit.int .i64 a0x9).wf = true) :
    Calls Try.prog 9 #[.agg #[.int .i64 a0x0, .int .i64 a0x1, .slice A0x2 n0x2 q0x2, .slice A0x3 n0x3 q0x3, .int .i64 a0x4, .int .i64 a0x5, .int .i64 a0x6, .int .i64 a0x7, .int .i64 a0x8, .int .i64 a0x9, .bool a0x10, .bool a0x11]] w fun e w' => e = .returned (.bool true) ∧ Below w.heap.size w w' := by
  have h0 : imgE 1 1 1 0 (invL 0 0 0 0 0 0 6) = 8 := by kernel_rfl
  clear s0x2 s0x3 c0x2 c0x3 m0x2 m0x3 w0x0 w0x1 w0x4 w0x5 w0x6 w0x7 w0x8 w0x9
  go_enter Try.func9, Try.ntmps9
  go_wp2_with fail
  refine wp_region_pre 6 (by kernel_rfl) (by kernel_rfl) (by decide) ?_
  simp only [List.take_succ_cons, List.take_zero]
  go_wp2_with fail
  refine (ImgCheck_any 1 1 (some ⟨w.heap.size + 1, 0, none⟩) none 1 1 0 0 0 0 0 0 0 0 false false _).mono ?_
  rw [h0]
  rintro e' w1 ⟨rfl, hb1⟩
  have hwb : Hid (Below w.heap.size w w1) := show Below w.heap.size w w1 from step_le hb1 (by (repeat' (with_reducible first | exact Below.refl _ _ | refine past_le ?_ ?_ _ | refine Below.alloc ?_ ?_ _ | refine Below.drew ?_ | refine drewN_le ?_ _ | refine Below.setCell ?_ ?_ _ | refine step_le (by assumption) ?_ ?_ | omega | (simp only []; omega) | (simp only [World.size_alloc]; omega) | (simp only [World.size_setCell]; omega) | (simp only [World.size_drew]; omega) | (simp only [World.size_alloc, World.size_setCell]; omega) | (simp only [World.size_alloc, World.size_drew]; omega) | (simp only [World.size_setCell, World.size_drew]; omega) | (simp only [World.size_alloc, World.size_setCell, World.size_drew]; omega)))) (by simp only [World.size_drew, World.size_alloc]; omega)
  obtain ⟨hc1, hf1, hz1⟩ := bcell hb1
  simp only [World.size_drew, World.size_alloc] at hz1 hc1 hf1
  have hlc : Hid (∀ j, w1.cell? ⟨w.heap.size, j, none⟩ = #[.int .i64 a0x0, .int .i64 a0x1, .slice A0x2 n0x2 q0x2, .slice A0x3 n0x3 q0x3, .int .i64 a0x4, .int .i64 a0x5, .int .i64 a0x6, .int .i64 a0x7, .int .i64 a0x8, .int .i64 a0x9, .bool a0x10, .bool a0x11][j]?) := fun j => by
    rw [hc1, if_pos (by omega)]; simp [go_sem]
  clear hc1 hf1 hb1
  go_wp2_with fail
  simp only [List.drop_succ_cons, List.drop_zero]
  obtain ⟨V, hV⟩ : ∃ V, V = Value.agg #[.int .i64 a0x0, .int .i64 a0x1, .slice A0x2 n0x2 q0x2, .slice A0x3 n0x3 q0x3, .int .i64 a0x4, .int .i64 a0x5, .int .i64 a0x6, .int .i64 a0x7, .int .i64 a0x8, .int .i64 a0x9, .bool a0x10, .bool a0x11] := ⟨_, rfl⟩
  have hld : ∀ x : Later w1, (loadVar 32 ⟨w.heap.size, 0, none⟩).run Try.prog (past w1 x) = .ok V (past w1 x) := fun x => by
    subst hV
    exact load_past (by omega) hlc.out Try.underlying32 rfl (by kernel_rfl)
  have hG : ∀ w', Calls Try.prog 35 #[V] w' fun e' w'' => e' = .returned (.int .i64 (imgE a0x0 a0x1 n0x2 n0x3 (invL a0x4 a0x5 a0x6 a0x7 a0x8 a0x9 6))) ∧ Below w'.heap.size w' w'' := fun w' => by
    rw [hV]; exact ImgCheck_any _ _ _ _ _ _ _ _ _ _ _ _ _ _ _ _ w'
  have hR : ∀ w', Calls Try.prog 36 #[V] w' fun e' w'' => e' = .returned (.int .i64 (imgE a0x0 a0x1 n0x2 n0x3 (invL a0x4 a0x5 a0x6 a0x7 a0x8 a0x9 6))) ∧ Below w'.heap.size w' w'' := fun w' => by
    rw [hV]; exact RImgCheck_any _ _ _ _ _ _ _ _ _ _ _ _ _ _ _ _ w'
  rw [← hV]
  clear hV hlc
  go_big_quiet_want
  refine quiet_load 32 (.tmp 1) ⟨w.heap.size, 0, none⟩ V (by rfl) (by rfl) (fun w' hw' => by obtain ⟨x, rfl⟩ := hw'; exact hld x) ?_
  simp only [Act.put, List.setIfInBounds_toArray, List.set_cons_succ, List.set_cons_zero]
  go_big_quiet_on
  repeat (go_big_quiet_step (first | (go_at_call 35; exact past_call (hG _)) | (go_at_call 36; exact past_call (hR _))))
  go_big_quiet_want
  refine quiet_load 32 (.tmp 1) ⟨w.heap.size, 0, none⟩ V (by rfl) (by rfl) (fun w' hw' => by obtain ⟨x, rfl⟩ := hw'; exact hld x) ?_
  simp only [Act.put, List.setIfInBounds_toArray, List.set_cons_succ, List.set_cons_zero]
  go_big_quiet_on
  repeat (go_big_quiet_step (first | (go_at_call 35; exact past_call (hG _)) | (go_at_call 36; exact past_call (hR _))))
  refine wpQuiet_nil ?_
  intro _ hw'
  obtain ⟨x1, hx1⟩ := hw'
  subst hx1
  go_wp2
  all_goals go_ret
  all_goals exact ⟨by simp, past_le hwb.out (by omega) _⟩
end Go.Proofs.Ytoiblpncofbdpaa.imageChecks
