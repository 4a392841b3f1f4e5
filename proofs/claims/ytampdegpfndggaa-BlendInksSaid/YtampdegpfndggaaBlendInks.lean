/-
  The walk of the law BlendInks: Ink applies the mode to the complements of the amounts.
-/
import Derived.Test.YtampdegpfndggaaInk
namespace Go.Proofs.Ytampdegpfndggaa.blendInks
open Go.RowKit

theorem u8_bd {z : Int} (h : (Lit.int .u8 z).wf = true) : 0 ≤ z ∧ z ≤ 255 := by
  simp [Lit.wf, IntKind.min, IntKind.max, IntKind.signed, IntKind.bits] at h
  omega
set_option maxRecDepth 20000 in
set_option maxHeartbeats 4000000 in
set_option linter.unusedVariables false in
theorem walk (a0 : Int) (a1 : Int) (a2 : Int) (w : World) (w0 : (Lit.int .i64 a0).wf = true) (w1 : (Lit.int .u8 a1).wf = true) (w2 : (Lit.int .u8 a2).wf = true) :
    Calls Try.prog 3 #[.int .i64 a0, .int .u8 a1, .int .u8 a2] w fun e w' => e = .returned (.bool true) ∧ Below w.heap.size w w' := by
  have hb := u8_bd w1
  have hs := u8_bd w2
  clear w0 w1 w2
  have h39 : inkV 2 100 100 = 39 := by decide
  by_cases hk : 0 ≤ a0 ∧ a0 ≤ 11
  · have hi := inB_yes hk
    have hr := inkV_bd (k := a0) hb hs
    go_enter Try.func3, Try.ntmps3
    go_wp2_with fail
    refine (Ink_any 2 100 100 _ (by omega) (by omega) (by omega)).mono ?_
    rw [h39]
    rintro e w1 ⟨rfl, hb1⟩
    go_wp2_with fail
    refine (Ink_any a0 a1 a2 _ hk hb hs).mono ?_
    rintro e w2 ⟨rfl, hb2⟩
    go_wp2_with (first | (go_at_call 16; refine (In_any _ _ _ _).mono ?_; rintro e w' ⟨rfl, rfl⟩))
    refine (RInk_any a0 a1 a2 _ hk hb hs).mono ?_
    rintro e w' ⟨rfl, rfl⟩
    go_wp2_with fail
    all_goals go_ret
    all_goals exact ⟨by simp, hb1.trans (hb2.mono hb1.size)⟩
  · have hi : inB a0 0 11 = false := inB_no hk
    go_enter Try.func3, Try.ntmps3
    go_wp2_with fail
    refine (Ink_any 2 100 100 _ (by omega) (by omega) (by omega)).mono ?_
    rw [h39]
    rintro e w1 ⟨rfl, hb1⟩
    go_wp2_with fail
    refine (Ink_no a0 a1 a2 _ hk).mono ?_
    rintro e w2 ⟨rfl, hb2⟩
    go_wp2_with (first | (go_at_call 16; refine (In_any _ _ _ _).mono ?_; rintro e w' ⟨rfl, rfl⟩))
    all_goals go_ret
    all_goals exact ⟨by simp, hb1.trans (hb2.mono hb1.size)⟩
end Go.Proofs.Ytampdegpfndggaa.blendInks
