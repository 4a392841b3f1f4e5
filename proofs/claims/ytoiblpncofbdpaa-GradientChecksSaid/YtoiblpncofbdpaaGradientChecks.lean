/-
  The walk of the law GradientChecks: Check returns the errors of the document.
-/
import Derived.Test.YtoiblpncofbdpaaGrad
namespace Go.Proofs.Ytoiblpncofbdpaa.gradientChecks
open Go.RowKit

theorem G0 (w : World) : Calls Try.prog 15 #[.agg #[.int .i64 0, .int .u8 0, .int .u8 0, .int .u8 0, .int .u8 0, .int .u8 0, .int .u8 0, .int .u8 0, .int .u8 0, .int .i64 0, .int .i64 0, .int .i64 0, .int .i64 0, .int .i64 0, .slice none 0 0, .int .i64 0, .int .i64 0, .slice none 0 0, .slice none 0 0, .int .i64 0, .int .i64 0, .int .i64 0, .int .i64 0, .int .i64 0, .int .i64 0, .bool false, .bool false]] w fun e' w' => e' = .returned (.int .i64 14) ∧ Below w.heap.size w w' :=
  GCheck_any 0 0 0 0 0 0 0 0 0 0 0 0 0 0 none 0 0 (fun _ _ => undef) 0 0 none none 0 0 0 0 0 0 0 0 0 0 false false w (by omega) (fun hh => absurd hh (by omega))
set_option maxRecDepth 20000 in
set_option maxHeartbeats 4000000 in
set_option linter.unusedVariables false in
theorem walk (a0x0 : Int) (a0x1 : Int) (a0x2 : Int) (a0x3 : Int) (a0x4 : Int) (a0x5 : Int) (a0x6 : Int) (a0x7 : Int) (a0x8 : Int) (a0x9 : Int) (a0x10 : Int) (a0x11 : Int) (a0x12 : Int) (a0x13 : Int) (A0x14 : Option Addr) (n0x14 : Nat) (q0x14 : Nat) (g0x14 : Nat → Nat → Value) (a0x15 : Int) (a0x16 : Int) (A0x17 : Option Addr) (n0x17 : Nat) (q0x17 : Nat) (g0x17 : Nat → Nat → Value) (A0x18 : Option Addr) (n0x18 : Nat) (q0x18 : Nat) (g0x18 : Nat → Nat → Value) (a0x19 : Int) (a0x20 : Int) (a0x21 : Int) (a0x22 : Int) (a0x23 : Int) (a0x24 : Int) (a0x25 : Bool) (a0x26 : Bool) (w : World) (w0x0 : (Lit.int .i64 a0x0).wf = true) (w0x1 : (Lit.int .u8 a0x1).wf = true) (w0x2 : (Lit.int .u8 a0x2).wf = true) (w0x3 : (Lit.int .u8 a0x3).wf = true) (w0x4 : (Lit.int .u8 a0x4).wf = true) (w0x5 : (Lit.int .u8 a0x5).wf = true) (w0x6 : (Lit.int .u8 a0x6).wf = true) (w0x7 : (Lit.int .u8 a0x7).wf = true) (w0x8 : (Lit.int .u8 a0x8).wf = true) (w0x9 : (Lit.int .i64 a0x9).wf = true) (w0x10 : (Lit.int .i64 a0x10).wf = true) (w0x11 : (Lit.int .i64 a0x11).wf = true) (w0x12 : (Lit.int .i64 a0x12).wf = true) (w0x13 : (Lit.int .i64 a0x13).wf = true) (c0x14 : n0x14 ≤ q0x14) (m0x14 : q0x14 ≤ maxLen) (s0x14 : SliceG Try.prog w 111 A0x14 n0x14 g0x14) (w0x15 : (Lit.int .i64 a0x15).wf = true) (w0x16 : (Lit.int .i64 a0x16).wf = true) (c0x17 : n0x17 ≤ q0x17) (m0x17 : q0x17 ≤ maxLen) (s0x17 : SliceG Try.prog w 23 A0x17 n0x17 g0x17) (c0x18 : n0x18 ≤ q0x18) (m0x18 : q0x18 ≤ maxLen) (s0x18 : SliceG Try.prog w 5 A0x18 n0x18 g0x18) (w0x19 : (Lit.int .i64 a0x19).wf = true) (w0x20 : (Lit.int .i64 a0x20).wf = true) (w0x21 : (Lit.int .i64 a0x21).wf = true) (w0x22 : (Lit.int .i64 a0x22).wf = true) (w0x23 : (Lit.int .i64 a0x23).wf = true) (w0x24 : (Lit.int .i64 a0x24).wf = true) :
    Calls Try.prog 3 #[.agg #[.int .i64 a0x0, .int .u8 a0x1, .int .u8 a0x2, .int .u8 a0x3, .int .u8 a0x4, .int .u8 a0x5, .int .u8 a0x6, .int .u8 a0x7, .int .u8 a0x8, .int .i64 a0x9, .int .i64 a0x10, .int .i64 a0x11, .int .i64 a0x12, .int .i64 a0x13, .slice A0x14 n0x14 q0x14, .int .i64 a0x15, .int .i64 a0x16, .slice A0x17 n0x17 q0x17, .slice A0x18 n0x18 q0x18, .int .i64 a0x19, .int .i64 a0x20, .int .i64 a0x21, .int .i64 a0x22, .int .i64 a0x23, .int .i64 a0x24, .bool a0x25, .bool a0x26]] w fun e w' => e = .returned (.bool true) ∧ Below w.heap.size w w' := by
  unfold maxLen at m0x14
  have hS : Hid _ := s0x14
  clear s0x14 s0x17 s0x18 c0x17 c0x18 m0x17 m0x18 w0x0 w0x1 w0x2 w0x3 w0x4 w0x5 w0x6 w0x7 w0x8 w0x9 w0x10 w0x11 w0x12 w0x13 w0x15 w0x16 w0x19 w0x20 w0x21 w0x22 w0x23 w0x24
  go_enter Try.func3, Try.ntmps3
  go_wp2_with fail
  obtain ⟨W, hW⟩ : ∃ W, W = w.alloc (.cells #[.int .i64 a0x0, .int .u8 a0x1, .int .u8 a0x2, .int .u8 a0x3, .int .u8 a0x4, .int .u8 a0x5, .int .u8 a0x6, .int .u8 a0x7, .int .u8 a0x8, .int .i64 a0x9, .int .i64 a0x10, .int .i64 a0x11, .int .i64 a0x12, .int .i64 a0x13, .slice A0x14 n0x14 q0x14, .int .i64 a0x15, .int .i64 a0x16, .slice A0x17 n0x17 q0x17, .slice A0x18 n0x18 q0x18, .int .i64 a0x19, .int .i64 a0x20, .int .i64 a0x21, .int .i64 a0x22, .int .i64 a0x23, .int .i64 a0x24, .bool a0x25, .bool a0x26] 34) := ⟨_, rfl⟩
  obtain ⟨V, hV⟩ : ∃ V, V = Value.agg #[.int .i64 a0x0, .int .u8 a0x1, .int .u8 a0x2, .int .u8 a0x3, .int .u8 a0x4, .int .u8 a0x5, .int .u8 a0x6, .int .u8 a0x7, .int .u8 a0x8, .int .i64 a0x9, .int .i64 a0x10, .int .i64 a0x11, .int .i64 a0x12, .int .i64 a0x13, .slice A0x14 n0x14 q0x14, .int .i64 a0x15, .int .i64 a0x16, .slice A0x17 n0x17 q0x17, .slice A0x18 n0x18 q0x18, .int .i64 a0x19, .int .i64 a0x20, .int .i64 a0x21, .int .i64 a0x22, .int .i64 a0x23, .int .i64 a0x24, .bool a0x25, .bool a0x26] := ⟨_, rfl⟩
  have hld : ∀ x : Later W, (loadVar 34 ⟨w.heap.size, 0, none⟩).run Try.prog (past W x) = .ok V (past W x) := fun x => by
    subst hV
    exact load_past (by rw [hW]; simp) (fun j => by rw [hW]; simp) Try.underlying34 rfl (by kernel_rfl)
  have hWb0 : Below w.heap.size w W := by rw [hW]; exact (Below.refl _ _).alloc (Nat.le_refl _) _
  have hG : ∀ w', Below W.heap.size W w' → Calls Try.prog 15 #[V] w' fun e' w'' => e' = .returned (.int .i64 (gradE a0x0 (inkZ a0x1 a0x2 a0x3 a0x4 a0x5 a0x6 a0x7 a0x8 && plainB a0x15 a0x16 n0x17 n0x18 a0x19 a0x20 a0x21 a0x22 a0x23 a0x24 a0x25 a0x26) a0x9 a0x10 a0x11 a0x12 a0x13 (stopsE (fun x => valI (g0x14 x 0)) n0x14))) ∧ Below w'.heap.size w' w'' := fun w' hb => by
    rw [hV]
    exact GCheck_any a0x0 a0x1 a0x2 a0x3 a0x4 a0x5 a0x6 a0x7 a0x8 a0x9 a0x10 a0x11 a0x12 a0x13 A0x14 n0x14 q0x14 g0x14 a0x15 a0x16 A0x17 A0x18 n0x17 q0x17 n0x18 q0x18 a0x19 a0x20 a0x21 a0x22 a0x23 a0x24 a0x25 a0x26 w' ⟨c0x14, m0x14⟩ (SliceG.below hS.out (hWb0.trans (hb.mono hWb0.size)))
  have hR : ∀ w', Below W.heap.size W w' → Calls Try.prog 16 #[V] w' fun e' w'' => e' = .returned (.int .i64 (gradE a0x0 (inkZ a0x1 a0x2 a0x3 a0x4 a0x5 a0x6 a0x7 a0x8 && plainB a0x15 a0x16 n0x17 n0x18 a0x19 a0x20 a0x21 a0x22 a0x23 a0x24 a0x25 a0x26) a0x9 a0x10 a0x11 a0x12 a0x13 (stopsE (fun x => valI (g0x14 x 0)) n0x14))) ∧ Below w'.heap.size w' w'' := fun w' hb => by
    rw [hV]
    exact RGCheck_any a0x0 a0x1 a0x2 a0x3 a0x4 a0x5 a0x6 a0x7 a0x8 a0x9 a0x10 a0x11 a0x12 a0x13 A0x14 n0x14 q0x14 g0x14 a0x15 a0x16 A0x17 A0x18 n0x17 q0x17 n0x18 q0x18 a0x19 a0x20 a0x21 a0x22 a0x23 a0x24 a0x25 a0x26 w' ⟨c0x14, m0x14⟩ (SliceG.below hS.out (hWb0.trans (hb.mono hWb0.size)))
  rw [← hW, ← hV]
  have hWs : w.heap.size + 1 ≤ W.heap.size := by rw [hW]; simp
  have hWb : Hid _ := hWb0
  clear hW hV hWb0
  refine wp_region_past (by kernel_rfl) (by kernel_rfl) ?_
  iterate 4 (go_big_quiet_step (first | (go_at_call 15; exact past_call (G0 _))))
  go_big_quiet_want
  refine quiet_load 34 (.tmp 1) ⟨w.heap.size, 0, none⟩ V (by rfl) (by rfl) (fun w' hw' => by obtain ⟨x, rfl⟩ := hw'; exact hld x) ?_
  simp only [Act.put, List.setIfInBounds_toArray, List.set_cons_succ, List.set_cons_zero]
  go_big_quiet_on
  repeat (go_big_quiet_step (first | (go_at_call 15; exact past_call (hG _ (past_below W _))) | (go_at_call 16; exact past_call (hR _ (past_below W _)))))
  go_big_quiet_want
  refine quiet_load 34 (.tmp 1) ⟨w.heap.size, 0, none⟩ V (by rfl) (by rfl) (fun w' hw' => by obtain ⟨x, rfl⟩ := hw'; exact hld x) ?_
  simp only [Act.put, List.setIfInBounds_toArray, List.set_cons_succ, List.set_cons_zero]
  go_big_quiet_on
  repeat (go_big_quiet_step (first | (go_at_call 15; exact past_call (hG _ (past_below W _))) | (go_at_call 16; exact past_call (hR _ (past_below W _)))))
  refine wpQuiet_nil ?_
  intro _ hw'
  obtain ⟨x1, hx1⟩ := hw'
  subst hx1
  go_wp2
  all_goals go_ret
  all_goals exact ⟨by simp, past_le hWb.out (by omega) _⟩
end Go.Proofs.Ytoiblpncofbdpaa.gradientChecks
