/-
  Merged: XModes, XMode.
-/
import Derived.Test.YtampdegpfndggaaMrg6
namespace Go.Proofs.Ytampdegpfndggaa
open Go.RowKit

theorem mul_abs (A B : Int) {x y : Int} (hx : -A ≤ x ∧ x ≤ A) (hy : -B ≤ y ∧ y ≤ B) : -(A * B) ≤ x * y ∧ x * y ≤ A * B := by
  have h1 : x.natAbs * y.natAbs ≤ A.natAbs * B.natAbs := Nat.mul_le_mul (by omega) (by omega)
  have h2 : (x * y).natAbs ≤ (A * B).natAbs := by rw [Int.natAbs_mul, Int.natAbs_mul]; exact h1
  have h3 : 0 ≤ A * B := Int.mul_nonneg (by omega) (by omega)
  omega
set_option linter.unusedVariables false
set_option maxHeartbeats 1000000 in
theorem mode0_any (b s : Int) (w : World) (hb : 0 ≤ b ∧ b ≤ 255) (hs : 0 ≤ s ∧ s ≤ 255) :
    Calls Try.prog 138 #[.int .i64 b, .int .i64 s] w fun e w' => e = .returned (.int .i64 (blV 0 b s)) ∧ w = w' := by
  go_enter Try.func138, Try.ntmps138
  go_wp2_with (first | fail)
  go_ret
  exact ⟨ret_int (by simp [blV]; try omega), rfl⟩
set_option maxHeartbeats 1000000 in
theorem mode2_any (b s : Int) (w : World) (hb : 0 ≤ b ∧ b ≤ 255) (hs : 0 ≤ s ∧ s ≤ 255) :
    Calls Try.prog 140 #[.int .i64 b, .int .i64 s] w fun e w' => e = .returned (.int .i64 (blV 2 b s)) ∧ w = w' := by
  have h1 := mulV_bd (b := 255 - b) (s := 255 - s) (by omega) (by omega)
  go_enter Try.func140, Try.ntmps140
  go_wp2_with (first | (go_at_call 139; refine (bmul_any _ _ _ (by omega) (by omega)).mono ?_; rintro e w' ⟨rfl, rfl⟩))
  go_ret
  exact ⟨ret_int (by simp [blV]; try omega), rfl⟩
set_option maxHeartbeats 1000000 in
theorem mode3_any (b s : Int) (w : World) (hb : 0 ≤ b ∧ b ≤ 255) (hs : 0 ≤ s ∧ s ≤ 255) :
    Calls Try.prog 141 #[.int .i64 b, .int .i64 s] w fun e w' => e = .returned (.int .i64 (blV 3 b s)) ∧ w = w' := by
  go_enter Try.func141, Try.ntmps141
  go_wp2_with (first | (go_at_call 142; refine (bhard_any _ _ _ (by omega) (by omega)).mono ?_; rintro e w' ⟨rfl, rfl⟩))
  go_ret
  exact ⟨ret_int (by simp [blV]; try omega), rfl⟩
set_option maxHeartbeats 1000000 in
theorem mode4_any (b s : Int) (w : World) (hb : 0 ≤ b ∧ b ≤ 255) (hs : 0 ≤ s ∧ s ≤ 255) :
    Calls Try.prog 143 #[.int .i64 b, .int .i64 s] w fun e w' => e = .returned (.int .i64 (blV 4 b s)) ∧ w = w' := by
  by_cases h : s < b
  · skip
    go_enter Try.func143, Try.ntmps143
    go_wp2_with (first | fail)
    go_ret
    exact ⟨ret_int (by simp [blV]; try omega), rfl⟩
  go_enter Try.func143, Try.ntmps143
  go_wp2_with (first | fail)
  go_ret
  exact ⟨ret_int (by simp [blV]; try omega), rfl⟩
set_option maxHeartbeats 1000000 in
theorem mode5_any (b s : Int) (w : World) (hb : 0 ≤ b ∧ b ≤ 255) (hs : 0 ≤ s ∧ s ≤ 255) :
    Calls Try.prog 144 #[.int .i64 b, .int .i64 s] w fun e w' => e = .returned (.int .i64 (blV 5 b s)) ∧ w = w' := by
  by_cases h : b < s
  · skip
    go_enter Try.func144, Try.ntmps144
    go_wp2_with (first | fail)
    go_ret
    exact ⟨ret_int (by simp [blV]; try omega), rfl⟩
  go_enter Try.func144, Try.ntmps144
  go_wp2_with (first | fail)
  go_ret
  exact ⟨ret_int (by simp [blV]; try omega), rfl⟩
set_option maxHeartbeats 1000000 in
theorem mode9_any (b s : Int) (w : World) (hb : 0 ≤ b ∧ b ≤ 255) (hs : 0 ≤ s ∧ s ≤ 255) :
    Calls Try.prog 147 #[.int .i64 b, .int .i64 s] w fun e w' => e = .returned (.int .i64 (blV 9 b s)) ∧ w = w' := by
  have h1 := soft_in hb hs
  have g2 := mul_abs 255 255 (x := 255 - 2 * s) (y := b) (by omega) (by omega)
  have g3 := mul_abs 65025 255 (x := (255 - 2 * s) * b) (y := b) (by omega) (by omega)
  have g5 := mul_abs 130050 255 (x := 510 * s) (y := b) (by omega) (by omega)
  go_enter Try.func147, Try.ntmps147
  go_wp2_with (first | (go_at_call 100; refine (Near_any _ _ _ (by omega) (by omega)).mono ?_; rintro e w' ⟨rfl, rfl⟩))
  go_ret
  exact ⟨ret_int (by simp [blV, softV]), rfl⟩
set_option maxHeartbeats 1000000 in
theorem mode10_any (b s : Int) (w : World) (hb : 0 ≤ b ∧ b ≤ 255) (hs : 0 ≤ s ∧ s ≤ 255) :
    Calls Try.prog 148 #[.int .i64 b, .int .i64 s] w fun e w' => e = .returned (.int .i64 (blV 10 b s)) ∧ w = w' := by
  by_cases h : b < s
  · skip
    go_enter Try.func148, Try.ntmps148
    go_wp2_with (first | fail)
    go_ret
    exact ⟨ret_int (by simp [blV]; try omega), rfl⟩
  go_enter Try.func148, Try.ntmps148
  go_wp2_with (first | fail)
  go_ret
  exact ⟨ret_int (by simp [blV]; try omega), rfl⟩
set_option maxHeartbeats 1000000 in
theorem mode11_any (b s : Int) (w : World) (hb : 0 ≤ b ∧ b ≤ 255) (hs : 0 ≤ s ∧ s ≤ 255) :
    Calls Try.prog 149 #[.int .i64 b, .int .i64 s] w fun e w' => e = .returned (.int .i64 (blV 11 b s)) ∧ w = w' := by
  have h1 := mul_abs 510 255 (x := 2 * b) (y := s) (by omega) (by omega)
  have h2 := exclV_bd hb hs
  unfold exclV at h2
  go_enter Try.func149, Try.ntmps149
  go_wp2_with (first | (go_at_call 100; refine (Near_any _ _ _ (by omega) (by omega)).mono ?_; rintro e w' ⟨rfl, rfl⟩))
  go_ret
  exact ⟨ret_int (by simp [blV, exclV]), rfl⟩
end Go.Proofs.Ytampdegpfndggaa

namespace Go.Proofs.Ytampdegpfndggaa
open Go.RowKit

/-- The function of a mode. -/
def modeF (k : Int) : FuncId :=
  if k = 1 then 139 else if k = 2 then 140 else if k = 3 then 141 else if k = 4 then 143 else if k = 5 then 144
  else if k = 6 then 145 else if k = 7 then 146 else if k = 8 then 142 else if k = 9 then 147 else if k = 10 then 148 else if k = 11 then 149 else 138
theorem modeF_any (k b s : Int) (w : World) (hk : 0 ≤ k ∧ k ≤ 11) (hb : 0 ≤ b ∧ b ≤ 255) (hs : 0 ≤ s ∧ s ≤ 255) :
    Calls Try.prog (modeF k) #[.int .i64 b, .int .i64 s] w fun e w' => e = .returned (.int .i64 (blV k b s)) ∧ w = w' := by
  have : k = 0 ∨ k = 1 ∨ k = 2 ∨ k = 3 ∨ k = 4 ∨ k = 5 ∨ k = 6 ∨ k = 7 ∨ k = 8 ∨ k = 9 ∨ k = 10 ∨ k = 11 := by omega
  rcases this with rfl | rfl | rfl | rfl | rfl | rfl | rfl | rfl | rfl | rfl | rfl | rfl
  · exact mode0_any b s w hb hs
  · exact bmul_any b s w hb hs
  · exact mode2_any b s w hb hs
  · exact mode3_any b s w hb hs
  · exact mode4_any b s w hb hs
  · exact mode5_any b s w hb hs
  · exact bdodge_any b s w hb hs
  · exact bburn_any b s w hb hs
  · exact bhard_any b s w hb hs
  · exact mode9_any b s w hb hs
  · exact mode10_any b s w hb hs
  · exact mode11_any b s w hb hs
def modesO : Obj := .cells #[.func (.func 138) #[] #[], .func (.func 139) #[] #[], .func (.func 140) #[] #[], .func (.func 141) #[] #[], .func (.func 143) #[] #[], .func (.func 144) #[] #[], .func (.func 145) #[] #[], .func (.func 146) #[] #[], .func (.func 142) #[] #[], .func (.func 147) #[] #[], .func (.func 148) #[] #[], .func (.func 149) #[] #[]] 165
set_option maxRecDepth 20000 in
set_option maxHeartbeats 2000000 in
theorem modes_any (w : World) : Calls Try.prog 128 #[] w fun e w' => e = .returned (.agg #[.func (.func 138) #[] #[], .func (.func 139) #[] #[], .func (.func 140) #[] #[], .func (.func 141) #[] #[], .func (.func 143) #[] #[], .func (.func 144) #[] #[], .func (.func 145) #[] #[], .func (.func 146) #[] #[], .func (.func 142) #[] #[], .func (.func 147) #[] #[], .func (.func 148) #[] #[], .func (.func 149) #[] #[]]) ∧ w.alloc modesO = w' := by
  go_enter Try.func128, Try.ntmps128
  go_wp2_with fail
  go_returns
  exact ⟨rfl, rfl⟩
set_option maxRecDepth 20000 in
set_option maxHeartbeats 1000000 in
theorem modeFn_0 (b s : Int) (p : Nat) (w : World) (hb : 0 ≤ b ∧ b ≤ 255) (hs : 0 ≤ s ∧ s ≤ 255) (hc : ∀ o, w.cell? ⟨p, o, none⟩ = #[Value.func (.func 138) #[] #[]][o]?) :
    Calls Try.prog 129 #[.int .u8 b, .int .u8 s, .pointer (some ⟨p, 0, none⟩)] w fun e w' => e = .returned (.int .u8 (blV 0 b s)) ∧ w = w' := by
  have hr := blV_bd (k := 0) hb hs
  have hF := fun w => modeF_any 0 b s w (by omega) hb hs
  rw [show modeF 0 = 138 by decide] at hF
  generalize blV 0 b s = r at *
  go_enter Try.func129, Try.ntmps129
  go_wp2_with (first | (go_at_call 138; refine (hF _).mono ?_; rintro e w' ⟨rfl, rfl⟩))
  go_ret
  exact ⟨by rfl, rfl⟩
set_option maxRecDepth 20000 in
set_option maxHeartbeats 2000000 in
theorem Mode_0 (w : World) : Calls Try.prog 96 #[.int .i64 0] w fun e w' => e = .returned (.tuple #[.func (.func 129) #[] #[.pointer (some ⟨w.heap.size + 1, 0, none⟩)], .int .i64 0]) ∧ (w.alloc modesO).alloc (.cells #[.func (.func 138) #[] #[]] 105) = w' := by
  have i1 : ∀ w, (Instr.index 165 (.agg #[.func (.func 138) #[] #[], .func (.func 139) #[] #[], .func (.func 140) #[] #[], .func (.func 141) #[] #[], .func (.func 143) #[] #[], .func (.func 144) #[] #[], .func (.func 145) #[] #[], .func (.func 146) #[] #[], .func (.func 142) #[] #[], .func (.func 147) #[] #[], .func (.func 148) #[] #[], .func (.func 149) #[] #[]]) (.int .i64 0)).run Try.prog w = .ok (.func (.func 138) #[] #[]) w := fun _ => by kernel_rfl
  go_enter Try.func96, Try.ntmps96
  go_wp2_with (first | (go_at_call 128; refine (modes_any _).mono ?_; rintro e w' ⟨rfl, rfl⟩))
  go_ret2
  exact ⟨rfl, rfl⟩
set_option maxRecDepth 20000 in
set_option maxHeartbeats 1000000 in
theorem modeFn_1 (b s : Int) (p : Nat) (w : World) (hb : 0 ≤ b ∧ b ≤ 255) (hs : 0 ≤ s ∧ s ≤ 255) (hc : ∀ o, w.cell? ⟨p, o, none⟩ = #[Value.func (.func 139) #[] #[]][o]?) :
    Calls Try.prog 129 #[.int .u8 b, .int .u8 s, .pointer (some ⟨p, 0, none⟩)] w fun e w' => e = .returned (.int .u8 (blV 1 b s)) ∧ w = w' := by
  have hr := blV_bd (k := 1) hb hs
  have hF := fun w => modeF_any 1 b s w (by omega) hb hs
  rw [show modeF 1 = 139 by decide] at hF
  generalize blV 1 b s = r at *
  go_enter Try.func129, Try.ntmps129
  go_wp2_with (first | (go_at_call 139; refine (hF _).mono ?_; rintro e w' ⟨rfl, rfl⟩))
  go_ret
  exact ⟨by rfl, rfl⟩
set_option maxRecDepth 20000 in
set_option maxHeartbeats 2000000 in
theorem Mode_1 (w : World) : Calls Try.prog 96 #[.int .i64 1] w fun e w' => e = .returned (.tuple #[.func (.func 129) #[] #[.pointer (some ⟨w.heap.size + 1, 0, none⟩)], .int .i64 0]) ∧ (w.alloc modesO).alloc (.cells #[.func (.func 139) #[] #[]] 105) = w' := by
  have i1 : ∀ w, (Instr.index 165 (.agg #[.func (.func 138) #[] #[], .func (.func 139) #[] #[], .func (.func 140) #[] #[], .func (.func 141) #[] #[], .func (.func 143) #[] #[], .func (.func 144) #[] #[], .func (.func 145) #[] #[], .func (.func 146) #[] #[], .func (.func 142) #[] #[], .func (.func 147) #[] #[], .func (.func 148) #[] #[], .func (.func 149) #[] #[]]) (.int .i64 1)).run Try.prog w = .ok (.func (.func 139) #[] #[]) w := fun _ => by kernel_rfl
  go_enter Try.func96, Try.ntmps96
  go_wp2_with (first | (go_at_call 128; refine (modes_any _).mono ?_; rintro e w' ⟨rfl, rfl⟩))
  go_ret2
  exact ⟨rfl, rfl⟩
set_option maxRecDepth 20000 in
set_option maxHeartbeats 1000000 in
theorem modeFn_2 (b s : Int) (p : Nat) (w : World) (hb : 0 ≤ b ∧ b ≤ 255) (hs : 0 ≤ s ∧ s ≤ 255) (hc : ∀ o, w.cell? ⟨p, o, none⟩ = #[Value.func (.func 140) #[] #[]][o]?) :
    Calls Try.prog 129 #[.int .u8 b, .int .u8 s, .pointer (some ⟨p, 0, none⟩)] w fun e w' => e = .returned (.int .u8 (blV 2 b s)) ∧ w = w' := by
  have hr := blV_bd (k := 2) hb hs
  have hF := fun w => modeF_any 2 b s w (by omega) hb hs
  rw [show modeF 2 = 140 by decide] at hF
  generalize blV 2 b s = r at *
  go_enter Try.func129, Try.ntmps129
  go_wp2_with (first | (go_at_call 140; refine (hF _).mono ?_; rintro e w' ⟨rfl, rfl⟩))
  go_ret
  exact ⟨by rfl, rfl⟩
set_option maxRecDepth 20000 in
set_option maxHeartbeats 2000000 in
theorem Mode_2 (w : World) : Calls Try.prog 96 #[.int .i64 2] w fun e w' => e = .returned (.tuple #[.func (.func 129) #[] #[.pointer (some ⟨w.heap.size + 1, 0, none⟩)], .int .i64 0]) ∧ (w.alloc modesO).alloc (.cells #[.func (.func 140) #[] #[]] 105) = w' := by
  have i1 : ∀ w, (Instr.index 165 (.agg #[.func (.func 138) #[] #[], .func (.func 139) #[] #[], .func (.func 140) #[] #[], .func (.func 141) #[] #[], .func (.func 143) #[] #[], .func (.func 144) #[] #[], .func (.func 145) #[] #[], .func (.func 146) #[] #[], .func (.func 142) #[] #[], .func (.func 147) #[] #[], .func (.func 148) #[] #[], .func (.func 149) #[] #[]]) (.int .i64 2)).run Try.prog w = .ok (.func (.func 140) #[] #[]) w := fun _ => by kernel_rfl
  go_enter Try.func96, Try.ntmps96
  go_wp2_with (first | (go_at_call 128; refine (modes_any _).mono ?_; rintro e w' ⟨rfl, rfl⟩))
  go_ret2
  exact ⟨rfl, rfl⟩
set_option maxRecDepth 20000 in
set_option maxHeartbeats 1000000 in
theorem modeFn_3 (b s : Int) (p : Nat) (w : World) (hb : 0 ≤ b ∧ b ≤ 255) (hs : 0 ≤ s ∧ s ≤ 255) (hc : ∀ o, w.cell? ⟨p, o, none⟩ = #[Value.func (.func 141) #[] #[]][o]?) :
    Calls Try.prog 129 #[.int .u8 b, .int .u8 s, .pointer (some ⟨p, 0, none⟩)] w fun e w' => e = .returned (.int .u8 (blV 3 b s)) ∧ w = w' := by
  have hr := blV_bd (k := 3) hb hs
  have hF := fun w => modeF_any 3 b s w (by omega) hb hs
  rw [show modeF 3 = 141 by decide] at hF
  generalize blV 3 b s = r at *
  go_enter Try.func129, Try.ntmps129
  go_wp2_with (first | (go_at_call 141; refine (hF _).mono ?_; rintro e w' ⟨rfl, rfl⟩))
  go_ret
  exact ⟨by rfl, rfl⟩
set_option maxRecDepth 20000 in
set_option maxHeartbeats 2000000 in
theorem Mode_3 (w : World) : Calls Try.prog 96 #[.int .i64 3] w fun e w' => e = .returned (.tuple #[.func (.func 129) #[] #[.pointer (some ⟨w.heap.size + 1, 0, none⟩)], .int .i64 0]) ∧ (w.alloc modesO).alloc (.cells #[.func (.func 141) #[] #[]] 105) = w' := by
  have i1 : ∀ w, (Instr.index 165 (.agg #[.func (.func 138) #[] #[], .func (.func 139) #[] #[], .func (.func 140) #[] #[], .func (.func 141) #[] #[], .func (.func 143) #[] #[], .func (.func 144) #[] #[], .func (.func 145) #[] #[], .func (.func 146) #[] #[], .func (.func 142) #[] #[], .func (.func 147) #[] #[], .func (.func 148) #[] #[], .func (.func 149) #[] #[]]) (.int .i64 3)).run Try.prog w = .ok (.func (.func 141) #[] #[]) w := fun _ => by kernel_rfl
  go_enter Try.func96, Try.ntmps96
  go_wp2_with (first | (go_at_call 128; refine (modes_any _).mono ?_; rintro e w' ⟨rfl, rfl⟩))
  go_ret2
  exact ⟨rfl, rfl⟩
set_option maxRecDepth 20000 in
set_option maxHeartbeats 1000000 in
theorem modeFn_4 (b s : Int) (p : Nat) (w : World) (hb : 0 ≤ b ∧ b ≤ 255) (hs : 0 ≤ s ∧ s ≤ 255) (hc : ∀ o, w.cell? ⟨p, o, none⟩ = #[Value.func (.func 143) #[] #[]][o]?) :
    Calls Try.prog 129 #[.int .u8 b, .int .u8 s, .pointer (some ⟨p, 0, none⟩)] w fun e w' => e = .returned (.int .u8 (blV 4 b s)) ∧ w = w' := by
  have hr := blV_bd (k := 4) hb hs
  have hF := fun w => modeF_any 4 b s w (by omega) hb hs
  rw [show modeF 4 = 143 by decide] at hF
  generalize blV 4 b s = r at *
  go_enter Try.func129, Try.ntmps129
  go_wp2_with (first | (go_at_call 143; refine (hF _).mono ?_; rintro e w' ⟨rfl, rfl⟩))
  go_ret
  exact ⟨by rfl, rfl⟩
set_option maxRecDepth 20000 in
set_option maxHeartbeats 2000000 in
theorem Mode_4 (w : World) : Calls Try.prog 96 #[.int .i64 4] w fun e w' => e = .returned (.tuple #[.func (.func 129) #[] #[.pointer (some ⟨w.heap.size + 1, 0, none⟩)], .int .i64 0]) ∧ (w.alloc modesO).alloc (.cells #[.func (.func 143) #[] #[]] 105) = w' := by
  have i1 : ∀ w, (Instr.index 165 (.agg #[.func (.func 138) #[] #[], .func (.func 139) #[] #[], .func (.func 140) #[] #[], .func (.func 141) #[] #[], .func (.func 143) #[] #[], .func (.func 144) #[] #[], .func (.func 145) #[] #[], .func (.func 146) #[] #[], .func (.func 142) #[] #[], .func (.func 147) #[] #[], .func (.func 148) #[] #[], .func (.func 149) #[] #[]]) (.int .i64 4)).run Try.prog w = .ok (.func (.func 143) #[] #[]) w := fun _ => by kernel_rfl
  go_enter Try.func96, Try.ntmps96
  go_wp2_with (first | (go_at_call 128; refine (modes_any _).mono ?_; rintro e w' ⟨rfl, rfl⟩))
  go_ret2
  exact ⟨rfl, rfl⟩
set_option maxRecDepth 20000 in
set_option maxHeartbeats 1000000 in
theorem modeFn_5 (b s : Int) (p : Nat) (w : World) (hb : 0 ≤ b ∧ b ≤ 255) (hs : 0 ≤ s ∧ s ≤ 255) (hc : ∀ o, w.cell? ⟨p, o, none⟩ = #[Value.func (.func 144) #[] #[]][o]?) :
    Calls Try.prog 129 #[.int .u8 b, .int .u8 s, .pointer (some ⟨p, 0, none⟩)] w fun e w' => e = .returned (.int .u8 (blV 5 b s)) ∧ w = w' := by
  have hr := blV_bd (k := 5) hb hs
  have hF := fun w => modeF_any 5 b s w (by omega) hb hs
  rw [show modeF 5 = 144 by decide] at hF
  generalize blV 5 b s = r at *
  go_enter Try.func129, Try.ntmps129
  go_wp2_with (first | (go_at_call 144; refine (hF _).mono ?_; rintro e w' ⟨rfl, rfl⟩))
  go_ret
  exact ⟨by rfl, rfl⟩
set_option maxRecDepth 20000 in
set_option maxHeartbeats 2000000 in
theorem Mode_5 (w : World) : Calls Try.prog 96 #[.int .i64 5] w fun e w' => e = .returned (.tuple #[.func (.func 129) #[] #[.pointer (some ⟨w.heap.size + 1, 0, none⟩)], .int .i64 0]) ∧ (w.alloc modesO).alloc (.cells #[.func (.func 144) #[] #[]] 105) = w' := by
  have i1 : ∀ w, (Instr.index 165 (.agg #[.func (.func 138) #[] #[], .func (.func 139) #[] #[], .func (.func 140) #[] #[], .func (.func 141) #[] #[], .func (.func 143) #[] #[], .func (.func 144) #[] #[], .func (.func 145) #[] #[], .func (.func 146) #[] #[], .func (.func 142) #[] #[], .func (.func 147) #[] #[], .func (.func 148) #[] #[], .func (.func 149) #[] #[]]) (.int .i64 5)).run Try.prog w = .ok (.func (.func 144) #[] #[]) w := fun _ => by kernel_rfl
  go_enter Try.func96, Try.ntmps96
  go_wp2_with (first | (go_at_call 128; refine (modes_any _).mono ?_; rintro e w' ⟨rfl, rfl⟩))
  go_ret2
  exact ⟨rfl, rfl⟩
set_option maxRecDepth 20000 in
set_option maxHeartbeats 1000000 in
theorem modeFn_6 (b s : Int) (p : Nat) (w : World) (hb : 0 ≤ b ∧ b ≤ 255) (hs : 0 ≤ s ∧ s ≤ 255) (hc : ∀ o, w.cell? ⟨p, o, none⟩ = #[Value.func (.func 145) #[] #[]][o]?) :
    Calls Try.prog 129 #[.int .u8 b, .int .u8 s, .pointer (some ⟨p, 0, none⟩)] w fun e w' => e = .returned (.int .u8 (blV 6 b s)) ∧ w = w' := by
  have hr := blV_bd (k := 6) hb hs
  have hF := fun w => modeF_any 6 b s w (by omega) hb hs
  rw [show modeF 6 = 145 by decide] at hF
  generalize blV 6 b s = r at *
  go_enter Try.func129, Try.ntmps129
  go_wp2_with (first | (go_at_call 145; refine (hF _).mono ?_; rintro e w' ⟨rfl, rfl⟩))
  go_ret
  exact ⟨by rfl, rfl⟩
set_option maxRecDepth 20000 in
set_option maxHeartbeats 2000000 in
theorem Mode_6 (w : World) : Calls Try.prog 96 #[.int .i64 6] w fun e w' => e = .returned (.tuple #[.func (.func 129) #[] #[.pointer (some ⟨w.heap.size + 1, 0, none⟩)], .int .i64 0]) ∧ (w.alloc modesO).alloc (.cells #[.func (.func 145) #[] #[]] 105) = w' := by
  have i1 : ∀ w, (Instr.index 165 (.agg #[.func (.func 138) #[] #[], .func (.func 139) #[] #[], .func (.func 140) #[] #[], .func (.func 141) #[] #[], .func (.func 143) #[] #[], .func (.func 144) #[] #[], .func (.func 145) #[] #[], .func (.func 146) #[] #[], .func (.func 142) #[] #[], .func (.func 147) #[] #[], .func (.func 148) #[] #[], .func (.func 149) #[] #[]]) (.int .i64 6)).run Try.prog w = .ok (.func (.func 145) #[] #[]) w := fun _ => by kernel_rfl
  go_enter Try.func96, Try.ntmps96
  go_wp2_with (first | (go_at_call 128; refine (modes_any _).mono ?_; rintro e w' ⟨rfl, rfl⟩))
  go_ret2
  exact ⟨rfl, rfl⟩
set_option maxRecDepth 20000 in
set_option maxHeartbeats 1000000 in
theorem modeFn_7 (b s : Int) (p : Nat) (w : World) (hb : 0 ≤ b ∧ b ≤ 255) (hs : 0 ≤ s ∧ s ≤ 255) (hc : ∀ o, w.cell? ⟨p, o, none⟩ = #[Value.func (.func 146) #[] #[]][o]?) :
    Calls Try.prog 129 #[.int .u8 b, .int .u8 s, .pointer (some ⟨p, 0, none⟩)] w fun e w' => e = .returned (.int .u8 (blV 7 b s)) ∧ w = w' := by
  have hr := blV_bd (k := 7) hb hs
  have hF := fun w => modeF_any 7 b s w (by omega) hb hs
  rw [show modeF 7 = 146 by decide] at hF
  generalize blV 7 b s = r at *
  go_enter Try.func129, Try.ntmps129
  go_wp2_with (first | (go_at_call 146; refine (hF _).mono ?_; rintro e w' ⟨rfl, rfl⟩))
  go_ret
  exact ⟨by rfl, rfl⟩
set_option maxRecDepth 20000 in
set_option maxHeartbeats 2000000 in
theorem Mode_7 (w : World) : Calls Try.prog 96 #[.int .i64 7] w fun e w' => e = .returned (.tuple #[.func (.func 129) #[] #[.pointer (some ⟨w.heap.size + 1, 0, none⟩)], .int .i64 0]) ∧ (w.alloc modesO).alloc (.cells #[.func (.func 146) #[] #[]] 105) = w' := by
  have i1 : ∀ w, (Instr.index 165 (.agg #[.func (.func 138) #[] #[], .func (.func 139) #[] #[], .func (.func 140) #[] #[], .func (.func 141) #[] #[], .func (.func 143) #[] #[], .func (.func 144) #[] #[], .func (.func 145) #[] #[], .func (.func 146) #[] #[], .func (.func 142) #[] #[], .func (.func 147) #[] #[], .func (.func 148) #[] #[], .func (.func 149) #[] #[]]) (.int .i64 7)).run Try.prog w = .ok (.func (.func 146) #[] #[]) w := fun _ => by kernel_rfl
  go_enter Try.func96, Try.ntmps96
  go_wp2_with (first | (go_at_call 128; refine (modes_any _).mono ?_; rintro e w' ⟨rfl, rfl⟩))
  go_ret2
  exact ⟨rfl, rfl⟩
set_option maxRecDepth 20000 in
set_option maxHeartbeats 1000000 in
theorem modeFn_8 (b s : Int) (p : Nat) (w : World) (hb : 0 ≤ b ∧ b ≤ 255) (hs : 0 ≤ s ∧ s ≤ 255) (hc : ∀ o, w.cell? ⟨p, o, none⟩ = #[Value.func (.func 142) #[] #[]][o]?) :
    Calls Try.prog 129 #[.int .u8 b, .int .u8 s, .pointer (some ⟨p, 0, none⟩)] w fun e w' => e = .returned (.int .u8 (blV 8 b s)) ∧ w = w' := by
  have hr := blV_bd (k := 8) hb hs
  have hF := fun w => modeF_any 8 b s w (by omega) hb hs
  rw [show modeF 8 = 142 by decide] at hF
  generalize blV 8 b s = r at *
  go_enter Try.func129, Try.ntmps129
  go_wp2_with (first | (go_at_call 142; refine (hF _).mono ?_; rintro e w' ⟨rfl, rfl⟩))
  go_ret
  exact ⟨by rfl, rfl⟩
set_option maxRecDepth 20000 in
set_option maxHeartbeats 2000000 in
theorem Mode_8 (w : World) : Calls Try.prog 96 #[.int .i64 8] w fun e w' => e = .returned (.tuple #[.func (.func 129) #[] #[.pointer (some ⟨w.heap.size + 1, 0, none⟩)], .int .i64 0]) ∧ (w.alloc modesO).alloc (.cells #[.func (.func 142) #[] #[]] 105) = w' := by
  have i1 : ∀ w, (Instr.index 165 (.agg #[.func (.func 138) #[] #[], .func (.func 139) #[] #[], .func (.func 140) #[] #[], .func (.func 141) #[] #[], .func (.func 143) #[] #[], .func (.func 144) #[] #[], .func (.func 145) #[] #[], .func (.func 146) #[] #[], .func (.func 142) #[] #[], .func (.func 147) #[] #[], .func (.func 148) #[] #[], .func (.func 149) #[] #[]]) (.int .i64 8)).run Try.prog w = .ok (.func (.func 142) #[] #[]) w := fun _ => by kernel_rfl
  go_enter Try.func96, Try.ntmps96
  go_wp2_with (first | (go_at_call 128; refine (modes_any _).mono ?_; rintro e w' ⟨rfl, rfl⟩))
  go_ret2
  exact ⟨rfl, rfl⟩
set_option maxRecDepth 20000 in
set_option maxHeartbeats 1000000 in
theorem modeFn_9 (b s : Int) (p : Nat) (w : World) (hb : 0 ≤ b ∧ b ≤ 255) (hs : 0 ≤ s ∧ s ≤ 255) (hc : ∀ o, w.cell? ⟨p, o, none⟩ = #[Value.func (.func 147) #[] #[]][o]?) :
    Calls Try.prog 129 #[.int .u8 b, .int .u8 s, .pointer (some ⟨p, 0, none⟩)] w fun e w' => e = .returned (.int .u8 (blV 9 b s)) ∧ w = w' := by
  have hr := blV_bd (k := 9) hb hs
  have hF := fun w => modeF_any 9 b s w (by omega) hb hs
  rw [show modeF 9 = 147 by decide] at hF
  generalize blV 9 b s = r at *
  go_enter Try.func129, Try.ntmps129
  go_wp2_with (first | (go_at_call 147; refine (hF _).mono ?_; rintro e w' ⟨rfl, rfl⟩))
  go_ret
  exact ⟨by rfl, rfl⟩
set_option maxRecDepth 20000 in
set_option maxHeartbeats 2000000 in
theorem Mode_9 (w : World) : Calls Try.prog 96 #[.int .i64 9] w fun e w' => e = .returned (.tuple #[.func (.func 129) #[] #[.pointer (some ⟨w.heap.size + 1, 0, none⟩)], .int .i64 0]) ∧ (w.alloc modesO).alloc (.cells #[.func (.func 147) #[] #[]] 105) = w' := by
  have i1 : ∀ w, (Instr.index 165 (.agg #[.func (.func 138) #[] #[], .func (.func 139) #[] #[], .func (.func 140) #[] #[], .func (.func 141) #[] #[], .func (.func 143) #[] #[], .func (.func 144) #[] #[], .func (.func 145) #[] #[], .func (.func 146) #[] #[], .func (.func 142) #[] #[], .func (.func 147) #[] #[], .func (.func 148) #[] #[], .func (.func 149) #[] #[]]) (.int .i64 9)).run Try.prog w = .ok (.func (.func 147) #[] #[]) w := fun _ => by kernel_rfl
  go_enter Try.func96, Try.ntmps96
  go_wp2_with (first | (go_at_call 128; refine (modes_any _).mono ?_; rintro e w' ⟨rfl, rfl⟩))
  go_ret2
  exact ⟨rfl, rfl⟩
set_option maxRecDepth 20000 in
set_option maxHeartbeats 1000000 in
theorem modeFn_10 (b s : Int) (p : Nat) (w : World) (hb : 0 ≤ b ∧ b ≤ 255) (hs : 0 ≤ s ∧ s ≤ 255) (hc : ∀ o, w.cell? ⟨p, o, none⟩ = #[Value.func (.func 148) #[] #[]][o]?) :
    Calls Try.prog 129 #[.int .u8 b, .int .u8 s, .pointer (some ⟨p, 0, none⟩)] w fun e w' => e = .returned (.int .u8 (blV 10 b s)) ∧ w = w' := by
  have hr := blV_bd (k := 10) hb hs
  have hF := fun w => modeF_any 10 b s w (by omega) hb hs
  rw [show modeF 10 = 148 by decide] at hF
  generalize blV 10 b s = r at *
  go_enter Try.func129, Try.ntmps129
  go_wp2_with (first | (go_at_call 148; refine (hF _).mono ?_; rintro e w' ⟨rfl, rfl⟩))
  go_ret
  exact ⟨by rfl, rfl⟩
set_option maxRecDepth 20000 in
set_option maxHeartbeats 2000000 in
theorem Mode_10 (w : World) : Calls Try.prog 96 #[.int .i64 10] w fun e w' => e = .returned (.tuple #[.func (.func 129) #[] #[.pointer (some ⟨w.heap.size + 1, 0, none⟩)], .int .i64 0]) ∧ (w.alloc modesO).alloc (.cells #[.func (.func 148) #[] #[]] 105) = w' := by
  have i1 : ∀ w, (Instr.index 165 (.agg #[.func (.func 138) #[] #[], .func (.func 139) #[] #[], .func (.func 140) #[] #[], .func (.func 141) #[] #[], .func (.func 143) #[] #[], .func (.func 144) #[] #[], .func (.func 145) #[] #[], .func (.func 146) #[] #[], .func (.func 142) #[] #[], .func (.func 147) #[] #[], .func (.func 148) #[] #[], .func (.func 149) #[] #[]]) (.int .i64 10)).run Try.prog w = .ok (.func (.func 148) #[] #[]) w := fun _ => by kernel_rfl
  go_enter Try.func96, Try.ntmps96
  go_wp2_with (first | (go_at_call 128; refine (modes_any _).mono ?_; rintro e w' ⟨rfl, rfl⟩))
  go_ret2
  exact ⟨rfl, rfl⟩
set_option maxRecDepth 20000 in
set_option maxHeartbeats 1000000 in
theorem modeFn_11 (b s : Int) (p : Nat) (w : World) (hb : 0 ≤ b ∧ b ≤ 255) (hs : 0 ≤ s ∧ s ≤ 255) (hc : ∀ o, w.cell? ⟨p, o, none⟩ = #[Value.func (.func 149) #[] #[]][o]?) :
    Calls Try.prog 129 #[.int .u8 b, .int .u8 s, .pointer (some ⟨p, 0, none⟩)] w fun e w' => e = .returned (.int .u8 (blV 11 b s)) ∧ w = w' := by
  have hr := blV_bd (k := 11) hb hs
  have hF := fun w => modeF_any 11 b s w (by omega) hb hs
  rw [show modeF 11 = 149 by decide] at hF
  generalize blV 11 b s = r at *
  go_enter Try.func129, Try.ntmps129
  go_wp2_with (first | (go_at_call 149; refine (hF _).mono ?_; rintro e w' ⟨rfl, rfl⟩))
  go_ret
  exact ⟨by rfl, rfl⟩
set_option maxRecDepth 20000 in
set_option maxHeartbeats 2000000 in
theorem Mode_11 (w : World) : Calls Try.prog 96 #[.int .i64 11] w fun e w' => e = .returned (.tuple #[.func (.func 129) #[] #[.pointer (some ⟨w.heap.size + 1, 0, none⟩)], .int .i64 0]) ∧ (w.alloc modesO).alloc (.cells #[.func (.func 149) #[] #[]] 105) = w' := by
  have i1 : ∀ w, (Instr.index 165 (.agg #[.func (.func 138) #[] #[], .func (.func 139) #[] #[], .func (.func 140) #[] #[], .func (.func 141) #[] #[], .func (.func 143) #[] #[], .func (.func 144) #[] #[], .func (.func 145) #[] #[], .func (.func 146) #[] #[], .func (.func 142) #[] #[], .func (.func 147) #[] #[], .func (.func 148) #[] #[], .func (.func 149) #[] #[]]) (.int .i64 11)).run Try.prog w = .ok (.func (.func 149) #[] #[]) w := fun _ => by kernel_rfl
  go_enter Try.func96, Try.ntmps96
  go_wp2_with (first | (go_at_call 128; refine (modes_any _).mono ?_; rintro e w' ⟨rfl, rfl⟩))
  go_ret2
  exact ⟨rfl, rfl⟩
theorem modeFn_any (k b s : Int) (p : Nat) (w : World) (hk : 0 ≤ k ∧ k ≤ 11) (hb : 0 ≤ b ∧ b ≤ 255) (hs : 0 ≤ s ∧ s ≤ 255) (hc : ∀ o, w.cell? ⟨p, o, none⟩ = #[Value.func (.func (modeF k)) #[] #[]][o]?) :
    Calls Try.prog 129 #[.int .u8 b, .int .u8 s, .pointer (some ⟨p, 0, none⟩)] w fun e w' => e = .returned (.int .u8 (blV k b s)) ∧ w = w' := by
  have : k = 0 ∨ k = 1 ∨ k = 2 ∨ k = 3 ∨ k = 4 ∨ k = 5 ∨ k = 6 ∨ k = 7 ∨ k = 8 ∨ k = 9 ∨ k = 10 ∨ k = 11 := by omega
  rcases this with rfl | rfl | rfl | rfl | rfl | rfl | rfl | rfl | rfl | rfl | rfl | rfl
  · exact modeFn_0 b s p w hb hs hc
  · exact modeFn_1 b s p w hb hs hc
  · exact modeFn_2 b s p w hb hs hc
  · exact modeFn_3 b s p w hb hs hc
  · exact modeFn_4 b s p w hb hs hc
  · exact modeFn_5 b s p w hb hs hc
  · exact modeFn_6 b s p w hb hs hc
  · exact modeFn_7 b s p w hb hs hc
  · exact modeFn_8 b s p w hb hs hc
  · exact modeFn_9 b s p w hb hs hc
  · exact modeFn_10 b s p w hb hs hc
  · exact modeFn_11 b s p w hb hs hc
theorem Mode_any (k : Int) (w : World) (hk : 0 ≤ k ∧ k ≤ 11) : Calls Try.prog 96 #[.int .i64 k] w fun e w' => e = .returned (.tuple #[.func (.func 129) #[] #[.pointer (some ⟨w.heap.size + 1, 0, none⟩)], .int .i64 0]) ∧ (w.alloc modesO).alloc (.cells #[.func (.func (modeF k)) #[] #[]] 105) = w' := by
  have : k = 0 ∨ k = 1 ∨ k = 2 ∨ k = 3 ∨ k = 4 ∨ k = 5 ∨ k = 6 ∨ k = 7 ∨ k = 8 ∨ k = 9 ∨ k = 10 ∨ k = 11 := by omega
  rcases this with rfl | rfl | rfl | rfl | rfl | rfl | rfl | rfl | rfl | rfl | rfl | rfl
  · exact Mode_0 w
  · exact Mode_1 w
  · exact Mode_2 w
  · exact Mode_3 w
  · exact Mode_4 w
  · exact Mode_5 w
  · exact Mode_6 w
  · exact Mode_7 w
  · exact Mode_8 w
  · exact Mode_9 w
  · exact Mode_10 w
  · exact Mode_11 w
theorem Mode_no (k : Int) (w : World) (hk : ¬(0 ≤ k ∧ k ≤ 11)) : Calls Try.prog 96 #[.int .i64 k] w fun e w' => e = .returned (.tuple #[.nilFunc, .int .i64 1]) ∧ w = w' := by
  by_cases h : k < 0
  all_goals
    go_enter Try.func96, Try.ntmps96
    go_wp2_with fail
    go_ret2
    exact ⟨rfl, rfl⟩
end Go.Proofs.Ytampdegpfndggaa
