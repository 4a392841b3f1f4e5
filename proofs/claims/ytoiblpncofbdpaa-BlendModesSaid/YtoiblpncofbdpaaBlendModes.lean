/-
  The walk of the law BlendModes: Mode returns the function of the document.
-/
import Derived.Test.YtoiblpncofbdpaaMode
import Derived.Test.YtoiblpncofbdpaaRBlend
namespace Go.Proofs.Ytoiblpncofbdpaa.blendModes
open Go.RowKit

theorem u8_bd {z : Int} (h : (Lit.int .u8 z).wf = true) : 0 ≤ z ∧ z ≤ 255 := by
  simp [Lit.wf, IntKind.min, IntKind.max, IntKind.signed, IntKind.bits] at h
  omega
set_option maxRecDepth 20000 in
set_option maxHeartbeats 4000000 in
set_option linter.unusedVariables false in
theorem walk (a0 : Int) (a1 : Int) (a2 : Int) (w : World) (w0 : (Lit.int .i64 a0).wf = true) (w1 : (Lit.int .u8 a1).wf = true) (w2 : (Lit.int .u8 a2).wf = true) :
    Calls Try.prog 13 #[.int .i64 a0, .int .u8 a1, .int .u8 a2] w fun e w' => e = .returned (.bool true) ∧ Below w.heap.size w w' := by
  have hb := u8_bd w1
  have hs := u8_bd w2
  clear w0 w1 w2
  have q1 : ∀ c w, (binOp .eql 84 (.func (.func 72) #[] c) .nilFunc).run Try.prog w = .ok (.bool false) w := fun _ _ => by kernel_rfl
  have q2 : ∀ c w, (binOp .neq 84 (.func (.func 72) #[] c) .nilFunc).run Try.prog w = .ok (.bool true) w := fun _ _ => by kernel_rfl
  have h64 : blV 1 128 128 = 64 := by decide
  by_cases hk : 0 ≤ a0 ∧ a0 ≤ 11
  · have hi := inB_yes hk
    have hr := blV_bd (k := a0) hb hs
    go_enter Try.func13, Try.ntmps13
    go_wp2_with fail
    refine (Mode_any 1 _ (by omega)).mono ?_
    rintro e w' ⟨rfl, rfl⟩
    go_wp2_with fail
    refine (modeFn_any 1 128 128 _ _ (by omega) (by omega) (by omega) (by intro o; simp [go_sem])).mono ?_
    rw [h64]
    rintro e w' ⟨rfl, rfl⟩
    go_wp2_with fail
    refine (Mode_any a0 _ hk).mono ?_
    rintro e w' ⟨rfl, rfl⟩
    go_wp2_with (first | (go_at_call 22; refine (In_any _ _ _ _).mono ?_; rintro e w' ⟨rfl, rfl⟩))
    refine (modeFn_any a0 a1 a2 _ _ hk hb hs (by intro o; simp [go_sem])).mono ?_
    rintro e w' ⟨rfl, rfl⟩
    go_wp2_with fail
    refine (RBlend_any a0 a1 a2 _ hk hb hs).mono ?_
    rintro e w' ⟨rfl, rfl⟩
    go_wp2_with fail
    all_goals go_ret
    all_goals exact ⟨by simp, by (repeat' (with_reducible first | exact Below.refl _ _ | refine past_le ?_ ?_ _ | refine Below.alloc ?_ ?_ _ | refine Below.drew ?_ | refine drewN_le ?_ _ | refine Below.setCell ?_ ?_ _ | refine step_le (by assumption) ?_ ?_ | omega | (simp only []; omega) | (simp only [World.size_alloc]; omega) | (simp only [World.size_setCell]; omega) | (simp only [World.size_drew]; omega) | (simp only [World.size_alloc, World.size_setCell]; omega) | (simp only [World.size_alloc, World.size_drew]; omega) | (simp only [World.size_setCell, World.size_drew]; omega) | (simp only [World.size_alloc, World.size_setCell, World.size_drew]; omega)))⟩
  · have hi : inB a0 0 11 = false := inB_no hk
    go_enter Try.func13, Try.ntmps13
    go_wp2_with fail
    refine (Mode_any 1 _ (by omega)).mono ?_
    rintro e w' ⟨rfl, rfl⟩
    go_wp2_with fail
    refine (modeFn_any 1 128 128 _ _ (by omega) (by omega) (by omega) (by intro o; simp [go_sem])).mono ?_
    rw [h64]
    rintro e w' ⟨rfl, rfl⟩
    go_wp2_with fail
    refine (Mode_no a0 _ hk).mono ?_
    rintro e w' ⟨rfl, rfl⟩
    go_wp2_with (first | (go_at_call 22; refine (In_any _ _ _ _).mono ?_; rintro e w' ⟨rfl, rfl⟩))
    all_goals go_ret
    all_goals exact ⟨by simp, by (repeat' (with_reducible first | exact Below.refl _ _ | refine past_le ?_ ?_ _ | refine Below.alloc ?_ ?_ _ | refine Below.drew ?_ | refine drewN_le ?_ _ | refine Below.setCell ?_ ?_ _ | refine step_le (by assumption) ?_ ?_ | omega | (simp only []; omega) | (simp only [World.size_alloc]; omega) | (simp only [World.size_setCell]; omega) | (simp only [World.size_drew]; omega) | (simp only [World.size_alloc, World.size_setCell]; omega) | (simp only [World.size_alloc, World.size_drew]; omega) | (simp only [World.size_setCell, World.size_drew]; omega) | (simp only [World.size_alloc, World.size_setCell, World.size_drew]; omega)))⟩
end Go.Proofs.Ytoiblpncofbdpaa.blendModes
