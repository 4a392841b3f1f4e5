/-
  Merged: XRBlend, XInk.
-/
import Derived.Test.YtampdegpfndggaaMrg7
namespace Go.Proofs.Ytampdegpfndggaa
open Go.RowKit

set_option linter.unusedVariables false
theorem bl6 (b s : Int) : blV 6 b s = dodgeV b s := by simp [blV]
theorem bl7 (b s : Int) : blV 7 b s = burnV b s := by simp [blV]
theorem soft_ref (b s : Int) : 255 * b * b - 2 * s * b * b + 510 * s * b = (255 - 2 * s) * b * b + 510 * s * b := by
  rw [Int.sub_mul, Int.sub_mul]
set_option maxHeartbeats 1000000 in
theorem RBlend_0 (b s : Int) (w : World) (hb : 0 ≤ b ∧ b ≤ 255) (hs : 0 ≤ s ∧ s ≤ 255) :
    Calls Try.prog 57 #[.int .i64 0, .int .i64 b, .int .i64 s] w fun e w' => e = .returned (.int .i64 (blV 0 b s)) ∧ w = w' := by
  go_enter Try.func57, Try.ntmps57
  go_wp2_with (first | fail)
  go_ret
  exact ⟨ret_int (by simp [blV]; try omega), rfl⟩
set_option maxHeartbeats 1000000 in
theorem RBlend_1 (b s : Int) (w : World) (hb : 0 ≤ b ∧ b ≤ 255) (hs : 0 ≤ s ∧ s ≤ 255) :
    Calls Try.prog 57 #[.int .i64 1, .int .i64 b, .int .i64 s] w fun e w' => e = .returned (.int .i64 (blV 1 b s)) ∧ w = w' := by
  go_enter Try.func57, Try.ntmps57
  go_wp2_with (first | (go_at_call 98; refine (RMul_any _ _ _ (by omega) (by omega)).mono ?_; rintro e w' ⟨rfl, rfl⟩))
  go_ret
  exact ⟨ret_int (by simp [blV, mulV]), rfl⟩
set_option maxHeartbeats 1000000 in
theorem RBlend_2 (b s : Int) (w : World) (hb : 0 ≤ b ∧ b ≤ 255) (hs : 0 ≤ s ∧ s ≤ 255) :
    Calls Try.prog 57 #[.int .i64 2, .int .i64 b, .int .i64 s] w fun e w' => e = .returned (.int .i64 (blV 2 b s)) ∧ w = w' := by
  have h1 := mulV_bd (b := 255 - b) (s := 255 - s) (by omega) (by omega)
  unfold mulV at h1
  go_enter Try.func57, Try.ntmps57
  go_wp2_with (first | (go_at_call 98; refine (RMul_any _ _ _ (by omega) (by omega)).mono ?_; rintro e w' ⟨rfl, rfl⟩))
  go_ret
  exact ⟨ret_int (by simp [blV, mulV]), rfl⟩
set_option maxHeartbeats 1000000 in
theorem RBlend_3 (b s : Int) (w : World) (hb : 0 ≤ b ∧ b ≤ 255) (hs : 0 ≤ s ∧ s ≤ 255) :
    Calls Try.prog 57 #[.int .i64 3, .int .i64 b, .int .i64 s] w fun e w' => e = .returned (.int .i64 (blV 3 b s)) ∧ w = w' := by
  go_enter Try.func57, Try.ntmps57
  go_wp2_with (first | (go_at_call 99; refine (rhard_any _ _ _ (by omega) (by omega)).mono ?_; rintro e w' ⟨rfl, rfl⟩))
  go_ret
  exact ⟨ret_int (by simp [blV]; try omega), rfl⟩
set_option maxHeartbeats 1000000 in
theorem RBlend_4 (b s : Int) (w : World) (hb : 0 ≤ b ∧ b ≤ 255) (hs : 0 ≤ s ∧ s ≤ 255) :
    Calls Try.prog 57 #[.int .i64 4, .int .i64 b, .int .i64 s] w fun e w' => e = .returned (.int .i64 (blV 4 b s)) ∧ w = w' := by
  by_cases h : s < b
  · skip
    go_enter Try.func57, Try.ntmps57
    go_wp2_with (first | fail)
    go_ret
    exact ⟨ret_int (by simp [blV]; try omega), rfl⟩
  go_enter Try.func57, Try.ntmps57
  go_wp2_with (first | fail)
  go_ret
  exact ⟨ret_int (by simp [blV]; try omega), rfl⟩
set_option maxHeartbeats 1000000 in
theorem RBlend_5 (b s : Int) (w : World) (hb : 0 ≤ b ∧ b ≤ 255) (hs : 0 ≤ s ∧ s ≤ 255) :
    Calls Try.prog 57 #[.int .i64 5, .int .i64 b, .int .i64 s] w fun e w' => e = .returned (.int .i64 (blV 5 b s)) ∧ w = w' := by
  by_cases h : b < s
  · skip
    go_enter Try.func57, Try.ntmps57
    go_wp2_with (first | fail)
    go_ret
    exact ⟨ret_int (by simp [blV]; try omega), rfl⟩
  go_enter Try.func57, Try.ntmps57
  go_wp2_with (first | fail)
  go_ret
  exact ⟨ret_int (by simp [blV]; try omega), rfl⟩
set_option maxHeartbeats 1000000 in
theorem RBlend_6 (b s : Int) (w : World) (hb : 0 ≤ b ∧ b ≤ 255) (hs : 0 ≤ s ∧ s ≤ 255) :
    Calls Try.prog 57 #[.int .i64 6, .int .i64 b, .int .i64 s] w fun e w' => e = .returned (.int .i64 (blV 6 b s)) ∧ w = w' := by
  by_cases h0 : b = 0
  · skip
    go_enter Try.func57, Try.ntmps57
    go_wp2_with (first | (go_at_call 60; refine (Half_any _ _ _ (by omega) (by omega)).mono ?_; rintro e w' ⟨rfl, rfl⟩))
    go_ret
    exact ⟨ret_int (by rw [bl6]; unfold dodgeV; (repeat' split) <;> omega), rfl⟩
  by_cases h1 : 255 ≤ b + s
  · skip
    go_enter Try.func57, Try.ntmps57
    go_wp2_with (first | (go_at_call 60; refine (Half_any _ _ _ (by omega) (by omega)).mono ?_; rintro e w' ⟨rfl, rfl⟩))
    go_ret
    exact ⟨ret_int (by rw [bl6]; unfold dodgeV; (repeat' split) <;> omega), rfl⟩
  go_enter Try.func57, Try.ntmps57
  go_wp2_with (first | (go_at_call 60; refine (Half_any _ _ _ (by omega) (by omega)).mono ?_; rintro e w' ⟨rfl, rfl⟩))
  go_ret
  exact ⟨ret_int (by rw [bl6]; unfold dodgeV; (repeat' split) <;> omega), rfl⟩
set_option maxHeartbeats 1000000 in
theorem RBlend_7 (b s : Int) (w : World) (hb : 0 ≤ b ∧ b ≤ 255) (hs : 0 ≤ s ∧ s ≤ 255) :
    Calls Try.prog 57 #[.int .i64 7, .int .i64 b, .int .i64 s] w fun e w' => e = .returned (.int .i64 (blV 7 b s)) ∧ w = w' := by
  have hn : ¬ b = 255 → ¬ s ≤ 255 - b → 0 ≤ near (255 * (255 - b)) s ∧ near (255 * (255 - b)) s ≤ 255 := fun _ _ => near_bd _ _ _ (by omega) (by omega) (by omega)
  by_cases h0 : b = 255
  · skip
    go_enter Try.func57, Try.ntmps57
    go_wp2_with (first | (go_at_call 60; refine (Half_any _ _ _ (by omega) (by omega)).mono ?_; rintro e w' ⟨rfl, rfl⟩))
    go_ret
    exact ⟨ret_int (by rw [bl7]; unfold burnV; (repeat' split) <;> omega), rfl⟩
  by_cases h1 : b + s ≤ 255
  · skip
    go_enter Try.func57, Try.ntmps57
    go_wp2_with (first | (go_at_call 60; refine (Half_any _ _ _ (by omega) (by omega)).mono ?_; rintro e w' ⟨rfl, rfl⟩))
    go_ret
    exact ⟨ret_int (by rw [bl7]; unfold burnV; (repeat' split) <;> omega), rfl⟩
  go_enter Try.func57, Try.ntmps57
  go_wp2_with (first | (go_at_call 60; refine (Half_any _ _ _ (by omega) (by omega)).mono ?_; rintro e w' ⟨rfl, rfl⟩))
  go_ret
  exact ⟨ret_int (by rw [bl7]; unfold burnV; (repeat' split) <;> omega), rfl⟩
set_option maxHeartbeats 1000000 in
theorem RBlend_8 (b s : Int) (w : World) (hb : 0 ≤ b ∧ b ≤ 255) (hs : 0 ≤ s ∧ s ≤ 255) :
    Calls Try.prog 57 #[.int .i64 8, .int .i64 b, .int .i64 s] w fun e w' => e = .returned (.int .i64 (blV 8 b s)) ∧ w = w' := by
  go_enter Try.func57, Try.ntmps57
  go_wp2_with (first | (go_at_call 99; refine (rhard_any _ _ _ (by omega) (by omega)).mono ?_; rintro e w' ⟨rfl, rfl⟩))
  go_ret
  exact ⟨ret_int (by simp [blV]; try omega), rfl⟩
set_option maxHeartbeats 1000000 in
theorem RBlend_9 (b s : Int) (w : World) (hb : 0 ≤ b ∧ b ≤ 255) (hs : 0 ≤ s ∧ s ≤ 255) :
    Calls Try.prog 57 #[.int .i64 9, .int .i64 b, .int .i64 s] w fun e w' => e = .returned (.int .i64 (blV 9 b s)) ∧ w = w' := by
  have h1 := soft_in hb hs
  have g1 := mul_abs 65025 255 (x := 255 * b) (y := b) (by omega) (by omega)
  have g2 := mul_abs 510 255 (x := 2 * s) (y := b) (by omega) (by omega)
  have g3 := mul_abs 130050 255 (x := 2 * s * b) (y := b) (by omega) (by omega)
  have g5 := mul_abs 130050 255 (x := 510 * s) (y := b) (by omega) (by omega)
  have hq : Hid _ := soft_ref b s
  rw [← hq.out] at h1
  go_enter Try.func57, Try.ntmps57
  go_wp2_with (first | (go_at_call 60; refine (Half_any _ _ _ (by omega) (by omega)).mono ?_; rintro e w' ⟨rfl, rfl⟩))
  go_ret
  exact ⟨ret_int (by show _ = softV b s; unfold softV; rw [← hq.out]), rfl⟩
set_option maxHeartbeats 1000000 in
theorem RBlend_10 (b s : Int) (w : World) (hb : 0 ≤ b ∧ b ≤ 255) (hs : 0 ≤ s ∧ s ≤ 255) :
    Calls Try.prog 57 #[.int .i64 10, .int .i64 b, .int .i64 s] w fun e w' => e = .returned (.int .i64 (blV 10 b s)) ∧ w = w' := by
  by_cases h : b < s
  · skip
    go_enter Try.func57, Try.ntmps57
    go_wp2_with (first | fail)
    go_ret
    exact ⟨ret_int (by simp [blV]; try omega), rfl⟩
  go_enter Try.func57, Try.ntmps57
  go_wp2_with (first | fail)
  go_ret
  exact ⟨ret_int (by simp [blV]; try omega), rfl⟩
set_option maxHeartbeats 1000000 in
theorem RBlend_11 (b s : Int) (w : World) (hb : 0 ≤ b ∧ b ≤ 255) (hs : 0 ≤ s ∧ s ≤ 255) :
    Calls Try.prog 57 #[.int .i64 11, .int .i64 b, .int .i64 s] w fun e w' => e = .returned (.int .i64 (blV 11 b s)) ∧ w = w' := by
  have h1 := mul_abs 510 255 (x := 2 * b) (y := s) (by omega) (by omega)
  have h2 := exclV_bd hb hs
  unfold exclV at h2
  go_enter Try.func57, Try.ntmps57
  go_wp2_with (first | (go_at_call 60; refine (Half_any _ _ _ (by omega) (by omega)).mono ?_; rintro e w' ⟨rfl, rfl⟩))
  go_ret
  exact ⟨ret_int (by simp [blV, exclV]), rfl⟩
theorem RBlend_any (k b s : Int) (w : World) (hk : 0 ≤ k ∧ k ≤ 11) (hb : 0 ≤ b ∧ b ≤ 255) (hs : 0 ≤ s ∧ s ≤ 255) :
    Calls Try.prog 57 #[.int .i64 k, .int .i64 b, .int .i64 s] w fun e w' => e = .returned (.int .i64 (blV k b s)) ∧ w = w' := by
  have : k = 0 ∨ k = 1 ∨ k = 2 ∨ k = 3 ∨ k = 4 ∨ k = 5 ∨ k = 6 ∨ k = 7 ∨ k = 8 ∨ k = 9 ∨ k = 10 ∨ k = 11 := by omega
  rcases this with rfl | rfl | rfl | rfl | rfl | rfl | rfl | rfl | rfl | rfl | rfl | rfl
  · exact RBlend_0 b s w hb hs
  · exact RBlend_1 b s w hb hs
  · exact RBlend_2 b s w hb hs
  · exact RBlend_3 b s w hb hs
  · exact RBlend_4 b s w hb hs
  · exact RBlend_5 b s w hb hs
  · exact RBlend_6 b s w hb hs
  · exact RBlend_7 b s w hb hs
  · exact RBlend_8 b s w hb hs
  · exact RBlend_9 b s w hb hs
  · exact RBlend_10 b s w hb hs
  · exact RBlend_11 b s w hb hs
end Go.Proofs.Ytampdegpfndggaa

namespace Go.Proofs.Ytampdegpfndggaa
open Go.RowKit

/-- A mode on amounts of ink. -/
def inkV (k b s : Int) : Int := 255 - blV k (255 - b) (255 - s)
theorem inkV_bd {k b s : Int} (hb : 0 ≤ b ∧ b ≤ 255) (hs : 0 ≤ s ∧ s ≤ 255) : 0 ≤ inkV k b s ∧ inkV k b s ≤ 255 := by
  have := blV_bd (k := k) (b := 255 - b) (s := 255 - s) (by omega) (by omega)
  unfold inkV; omega
theorem RInk_any (k b s : Int) (w : World) (hk : 0 ≤ k ∧ k ≤ 11) (hb : 0 ≤ b ∧ b ≤ 255) (hs : 0 ≤ s ∧ s ≤ 255) :
    Calls Try.prog 17 #[.int .i64 k, .int .i64 b, .int .i64 s] w fun e w' => e = .returned (.int .i64 (inkV k b s)) ∧ w = w' := by
  have hr := blV_bd (k := k) (b := 255 - b) (s := 255 - s) (by omega) (by omega)
  go_enter Try.func17, Try.ntmps17
  go_wp2_with fail
  refine (RBlend_any k (255 - b) (255 - s) _ hk (by omega) (by omega)).mono ?_
  rintro e w' ⟨rfl, rfl⟩
  go_wp2_with fail
  go_ret
  exact ⟨rfl, rfl⟩
set_option maxRecDepth 20000 in
set_option maxHeartbeats 2000000 in
theorem Inks_any (k : Int) (w : World) (hk : 0 ≤ k ∧ k ≤ 11) : Calls Try.prog 56 #[.int .i64 k] w fun e w' => e = .returned (.func (.func 97) #[] #[.pointer (some ⟨w.heap.size + 2, 0, none⟩)]) ∧
    ((w.alloc modesO).alloc (.cells #[.func (.func (modeF k)) #[] #[]] 105)).alloc (.cells #[.func (.func 129) #[] #[.pointer (some ⟨w.heap.size + 1, 0, none⟩)]] 101) = w' := by
  go_enter Try.func56, Try.ntmps56
  go_wp2_with fail
  refine (Mode_any k _ hk).mono ?_
  rintro e w' ⟨rfl, rfl⟩
  go_wp2_with fail
  go_ret
  exact ⟨rfl, rfl⟩
set_option maxRecDepth 20000 in
set_option maxHeartbeats 2000000 in
theorem Inks_no (k : Int) (w : World) (hk : ¬(0 ≤ k ∧ k ≤ 11)) : Calls Try.prog 56 #[.int .i64 k] w fun e w' => e = .returned .nilFunc ∧ Below w.heap.size w w' := by
  go_enter Try.func56, Try.ntmps56
  go_wp2_with fail
  refine (Mode_no k _ hk).mono ?_
  rintro e w' ⟨rfl, rfl⟩
  go_wp2_with fail
  go_ret
  exact ⟨rfl, by (repeat' (with_reducible first | exact Below.refl _ _ | refine past_le ?_ ?_ _ | refine Below.alloc ?_ ?_ _ | refine Below.drew ?_ | refine drewN_le ?_ _ | refine Below.setCell ?_ ?_ _ | refine step_le (by assumption) ?_ ?_ | omega | (simp only []; omega) | (simp only [World.size_alloc]; omega) | (simp only [World.size_setCell]; omega) | (simp only [World.size_drew]; omega) | (simp only [World.size_alloc, World.size_setCell]; omega) | (simp only [World.size_alloc, World.size_drew]; omega) | (simp only [World.size_setCell, World.size_drew]; omega) | (simp only [World.size_alloc, World.size_setCell, World.size_drew]; omega) | (simp only [World.size_alloc, World.size_setCell, World.size_drew, size_drewN]; omega)))⟩
set_option maxRecDepth 20000 in
set_option maxHeartbeats 2000000 in
theorem InksFn_any (k b s : Int) (p q : Nat) (w : World) (hk : 0 ≤ k ∧ k ≤ 11) (hb : 0 ≤ b ∧ b ≤ 255) (hs : 0 ≤ s ∧ s ≤ 255) (hc : ∀ o, w.cell? ⟨p, o, none⟩ = #[Value.func (.func 129) #[] #[.pointer (some ⟨q, 0, none⟩)]][o]?)
    (hq : ∀ o, w.cell? ⟨q, o, none⟩ = #[Value.func (.func (modeF k)) #[] #[]][o]?) :
    Calls Try.prog 97 #[.int .u8 b, .int .u8 s, .pointer (some ⟨p, 0, none⟩)] w fun e w' => e = .returned (.int .u8 (inkV k b s)) ∧ w = w' := by
  have hr := blV_bd (k := k) (b := 255 - b) (s := 255 - s) (by omega) (by omega)
  have hqH : Hid _ := hq
  clear hq
  go_enter Try.func97, Try.ntmps97
  go_wp2_with fail
  refine (modeFn_any k (255 - b) (255 - s) q _ hk (by omega) (by omega) hqH.out).mono ?_
  rintro e w' ⟨rfl, rfl⟩
  go_wp2_with fail
  go_ret
  exact ⟨rfl, rfl⟩
set_option maxRecDepth 20000 in
set_option maxHeartbeats 2000000 in
theorem Ink_any (k b s : Int) (w : World) (hk : 0 ≤ k ∧ k ≤ 11) (hb : 0 ≤ b ∧ b ≤ 255) (hs : 0 ≤ s ∧ s ≤ 255) :
    Calls Try.prog 15 #[.int .i64 k, .int .u8 b, .int .u8 s] w fun e w' => e = .returned (.tuple #[.int .u8 (inkV k b s), .int .i64 0]) ∧ Below w.heap.size w w' := by
  have q1 : ∀ c w, (binOp .eql 101 (.func (.func 97) #[] c) .nilFunc).run Try.prog w = .ok (.bool false) w := fun _ _ => by kernel_rfl
  go_enter Try.func15, Try.ntmps15
  go_wp2_with fail
  refine (Inks_any k _ hk).mono ?_
  rintro e w' ⟨rfl, rfl⟩
  go_wp2_with fail
  refine (InksFn_any k b s _ (w.heap.size + 1) _ hk hb hs (by intro o; simp [go_sem]) (by intro o; simp [go_sem])).mono ?_
  rintro e w' ⟨rfl, rfl⟩
  go_wp2_with fail
  go_ret2
  exact ⟨rfl, by (repeat' (with_reducible first | exact Below.refl _ _ | refine past_le ?_ ?_ _ | refine Below.alloc ?_ ?_ _ | refine Below.drew ?_ | refine drewN_le ?_ _ | refine Below.setCell ?_ ?_ _ | refine step_le (by assumption) ?_ ?_ | omega | (simp only []; omega) | (simp only [World.size_alloc]; omega) | (simp only [World.size_setCell]; omega) | (simp only [World.size_drew]; omega) | (simp only [World.size_alloc, World.size_setCell]; omega) | (simp only [World.size_alloc, World.size_drew]; omega) | (simp only [World.size_setCell, World.size_drew]; omega) | (simp only [World.size_alloc, World.size_setCell, World.size_drew]; omega) | (simp only [World.size_alloc, World.size_setCell, World.size_drew, size_drewN]; omega)))⟩
set_option maxRecDepth 20000 in
set_option maxHeartbeats 2000000 in
theorem Ink_no (k b s : Int) (w : World) (hk : ¬(0 ≤ k ∧ k ≤ 11)) :
    Calls Try.prog 15 #[.int .i64 k, .int .u8 b, .int .u8 s] w fun e w' => e = .returned (.tuple #[.int .u8 0, .int .i64 1]) ∧ Below w.heap.size w w' := by
  have q1 : ∀ w, (binOp .eql 101 .nilFunc .nilFunc).run Try.prog w = .ok (.bool true) w := fun _ => by kernel_rfl
  go_enter Try.func15, Try.ntmps15
  go_wp2_with fail
  refine (Inks_no k _ hk).mono ?_
  rintro e w' ⟨rfl, hb1⟩
  go_wp2_with fail
  go_ret2
  exact ⟨rfl, by (repeat' (with_reducible first | exact Below.refl _ _ | refine past_le ?_ ?_ _ | refine Below.alloc ?_ ?_ _ | refine Below.drew ?_ | refine drewN_le ?_ _ | refine Below.setCell ?_ ?_ _ | refine step_le (by assumption) ?_ ?_ | omega | (simp only []; omega) | (simp only [World.size_alloc]; omega) | (simp only [World.size_setCell]; omega) | (simp only [World.size_drew]; omega) | (simp only [World.size_alloc, World.size_setCell]; omega) | (simp only [World.size_alloc, World.size_drew]; omega) | (simp only [World.size_setCell, World.size_drew]; omega) | (simp only [World.size_alloc, World.size_setCell, World.size_drew]; omega) | (simp only [World.size_alloc, World.size_setCell, World.size_drew, size_drewN]; omega)))⟩
end Go.Proofs.Ytampdegpfndggaa
