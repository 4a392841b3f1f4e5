/-
  The contract of blend.Mode and of the function that it makes.
-/
import Derived.Test.YtoiblpncofbdpaaModes
namespace Go.Proofs.Ytoiblpncofbdpaa
open Go.RowKit

/-- The function of a mode. -/
def modeF (k : Int) : FuncId :=
  if k = 1 then 84 else if k = 2 then 85 else if k = 3 then 86 else if k = 4 then 88 else if k = 5 then 89
  else if k = 6 then 90 else if k = 7 then 91 else if k = 8 then 87 else if k = 9 then 92 else if k = 10 then 93 else if k = 11 then 94 else 83
theorem modeF_any (k b s : Int) (w : World) (hk : 0 ≤ k ∧ k ≤ 11) (hb : 0 ≤ b ∧ b ≤ 255) (hs : 0 ≤ s ∧ s ≤ 255) :
    Calls Try.prog (modeF k) #[.int .i64 b, .int .i64 s] w fun e w' => e = .returned (.int .i64 (blV k b s)) ∧ w = w' := by
  have : k = 0 ∨ k = 1 ∨ k = 2 ∨ k = 3 ∨ k = 4 ∨ k = 5 ∨ k = 6 ∨ k = 7 ∨ k = 8 ∨ k = 9 ∨ k = 10 ∨ k = 11 := by omega
  rcases this with rfl | rfl | rfl | rfl | rfl | rfl | rfl | rfl | rfl | rfl | rfl | rfl
  · exact mode0_any b s w hb hs
  · exact bmul_any b s w hb hs
  · exact mode2_any b s w hb hs
  · exact mode3_any b s w hb hs
  · exact mode4_any b s w hb hs
  · exact mode5_any b s w hb hs
  · exact bdodge_any b s w hb hs
  · exact bburn_any b s w hb hs
  · exact bhard_any b s w hb hs
  · exact mode9_any b s w hb hs
  · exact mode10_any b s w hb hs
  · exact mode11_any b s w hb hs
def modesO : Obj := .cells #[.func (.func 83) #[] #[], .func (.func 84) #[] #[], .func (.func 85) #[] #[], .func (.func 86) #[] #[], .func (.func 88) #[] #[], .func (.func 89) #[] #[], .func (.func 90) #[] #[], .func (.func 91) #[] #[], .func (.func 87) #[] #[], .func (.func 92) #[] #[], .func (.func 93) #[] #[], .func (.func 94) #[] #[]] 106
set_option maxRecDepth 20000 in
set_option maxHeartbeats 2000000 in
theorem modes_any (w : World) : Calls Try.prog 71 #[] w fun e w' => e = .returned (.agg #[.func (.func 83) #[] #[], .func (.func 84) #[] #[], .func (.func 85) #[] #[], .func (.func 86) #[] #[], .func (.func 88) #[] #[], .func (.func 89) #[] #[], .func (.func 90) #[] #[], .func (.func 91) #[] #[], .func (.func 87) #[] #[], .func (.func 92) #[] #[], .func (.func 93) #[] #[], .func (.func 94) #[] #[]]) ∧ w.alloc modesO = w' := by
  go_enter Try.func71, Try.ntmps71
  go_wp2_with fail
  go_returns
  exact ⟨rfl, rfl⟩
set_option maxRecDepth 20000 in
set_option maxHeartbeats 1000000 in
theorem modeFn_0 (b s : Int) (p : Nat) (w : World) (hb : 0 ≤ b ∧ b ≤ 255) (hs : 0 ≤ s ∧ s ≤ 255) (hc : ∀ o, w.cell? ⟨p, o, none⟩ = #[Value.func (.func 83) #[] #[]][o]?) :
    Calls Try.prog 72 #[.int .u8 b, .int .u8 s, .pointer (some ⟨p, 0, none⟩)] w fun e w' => e = .returned (.int .u8 (blV 0 b s)) ∧ w = w' := by
  have hr := blV_bd (k := 0) hb hs
  have hF := fun w => modeF_any 0 b s w (by omega) hb hs
  rw [show modeF 0 = 83 by decide] at hF
  generalize blV 0 b s = r at *
  go_enter Try.func72, Try.ntmps72
  go_wp2_with (first | (go_at_call 83; refine (hF _).mono ?_; rintro e w' ⟨rfl, rfl⟩))
  go_ret
  exact ⟨by rfl, rfl⟩
set_option maxRecDepth 20000 in
set_option maxHeartbeats 2000000 in
theorem Mode_0 (w : World) : Calls Try.prog 42 #[.int .i64 0] w fun e w' => e = .returned (.tuple #[.func (.func 72) #[] #[.pointer (some ⟨w.heap.size + 1, 0, none⟩)], .int .i64 0]) ∧ (w.alloc modesO).alloc (.cells #[.func (.func 83) #[] #[]] 97) = w' := by
  have i1 : ∀ w, (Instr.index 106 (.agg #[.func (.func 83) #[] #[], .func (.func 84) #[] #[], .func (.func 85) #[] #[], .func (.func 86) #[] #[], .func (.func 88) #[] #[], .func (.func 89) #[] #[], .func (.func 90) #[] #[], .func (.func 91) #[] #[], .func (.func 87) #[] #[], .func (.func 92) #[] #[], .func (.func 93) #[] #[], .func (.func 94) #[] #[]]) (.int .i64 0)).run Try.prog w = .ok (.func (.func 83) #[] #[]) w := fun _ => by kernel_rfl
  go_enter Try.func42, Try.ntmps42
  go_wp2_with (first | (go_at_call 71; refine (modes_any _).mono ?_; rintro e w' ⟨rfl, rfl⟩))
  go_ret2
  exact ⟨rfl, rfl⟩
set_option maxRecDepth 20000 in
set_option maxHeartbeats 1000000 in
theorem modeFn_1 (b s : Int) (p : Nat) (w : World) (hb : 0 ≤ b ∧ b ≤ 255) (hs : 0 ≤ s ∧ s ≤ 255) (hc : ∀ o, w.cell? ⟨p, o, none⟩ = #[Value.func (.func 84) #[] #[]][o]?) :
    Calls Try.prog 72 #[.int .u8 b, .int .u8 s, .pointer (some ⟨p, 0, none⟩)] w fun e w' => e = .returned (.int .u8 (blV 1 b s)) ∧ w = w' := by
  have hr := blV_bd (k := 1) hb hs
  have hF := fun w => modeF_any 1 b s w (by omega) hb hs
  rw [show modeF 1 = 84 by decide] at hF
  generalize blV 1 b s = r at *
  go_enter Try.func72, Try.ntmps72
  go_wp2_with (first | (go_at_call 84; refine (hF _).mono ?_; rintro e w' ⟨rfl, rfl⟩))
  go_ret
  exact ⟨by rfl, rfl⟩
set_option maxRecDepth 20000 in
set_option maxHeartbeats 2000000 in
theorem Mode_1 (w : World) : Calls Try.prog 42 #[.int .i64 1] w fun e w' => e = .returned (.tuple #[.func (.func 72) #[] #[.pointer (some ⟨w.heap.size + 1, 0, none⟩)], .int .i64 0]) ∧ (w.alloc modesO).alloc (.cells #[.func (.func 84) #[] #[]] 97) = w' := by
  have i1 : ∀ w, (Instr.index 106 (.agg #[.func (.func 83) #[] #[], .func (.func 84) #[] #[], .func (.func 85) #[] #[], .func (.func 86) #[] #[], .func (.func 88) #[] #[], .func (.func 89) #[] #[], .func (.func 90) #[] #[], .func (.func 91) #[] #[], .func (.func 87) #[] #[], .func (.func 92) #[] #[], .func (.func 93) #[] #[], .func (.func 94) #[] #[]]) (.int .i64 1)).run Try.prog w = .ok (.func (.func 84) #[] #[]) w := fun _ => by kernel_rfl
  go_enter Try.func42, Try.ntmps42
  go_wp2_with (first | (go_at_call 71; refine (modes_any _).mono ?_; rintro e w' ⟨rfl, rfl⟩))
  go_ret2
  exact ⟨rfl, rfl⟩
set_option maxRecDepth 20000 in
set_option maxHeartbeats 1000000 in
theorem modeFn_2 (b s : Int) (p : Nat) (w : World) (hb : 0 ≤ b ∧ b ≤ 255) (hs : 0 ≤ s ∧ s ≤ 255) (hc : ∀ o, w.cell? ⟨p, o, none⟩ = #[Value.func (.func 85) #[] #[]][o]?) :
    Calls Try.prog 72 #[.int .u8 b, .int .u8 s, .pointer (some ⟨p, 0, none⟩)] w fun e w' => e = .returned (.int .u8 (blV 2 b s)) ∧ w = w' := by
  have hr := blV_bd (k := 2) hb hs
  have hF := fun w => modeF_any 2 b s w (by omega) hb hs
  rw [show modeF 2 = 85 by decide] at hF
  generalize blV 2 b s = r at *
  go_enter Try.func72, Try.ntmps72
  go_wp2_with (first | (go_at_call 85; refine (hF _).mono ?_; rintro e w' ⟨rfl, rfl⟩))
  go_ret
  exact ⟨by rfl, rfl⟩
set_option maxRecDepth 20000 in
set_option maxHeartbeats 2000000 in
theorem Mode_2 (w : World) : Calls Try.prog 42 #[.int .i64 2] w fun e w' => e = .returned (.tuple #[.func (.func 72) #[] #[.pointer (some ⟨w.heap.size + 1, 0, none⟩)], .int .i64 0]) ∧ (w.alloc modesO).alloc (.cells #[.func (.func 85) #[] #[]] 97) = w' := by
  have i1 : ∀ w, (Instr.index 106 (.agg #[.func (.func 83) #[] #[], .func (.func 84) #[] #[], .func (.func 85) #[] #[], .func (.func 86) #[] #[], .func (.func 88) #[] #[], .func (.func 89) #[] #[], .func (.func 90) #[] #[], .func (.func 91) #[] #[], .func (.func 87) #[] #[], .func (.func 92) #[] #[], .func (.func 93) #[] #[], .func (.func 94) #[] #[]]) (.int .i64 2)).run Try.prog w = .ok (.func (.func 85) #[] #[]) w := fun _ => by kernel_rfl
  go_enter Try.func42, Try.ntmps42
  go_wp2_with (first | (go_at_call 71; refine (modes_any _).mono ?_; rintro e w' ⟨rfl, rfl⟩))
  go_ret2
  exact ⟨rfl, rfl⟩
set_option maxRecDepth 20000 in
set_option maxHeartbeats 1000000 in
theorem modeFn_3 (b s : Int) (p : Nat) (w : World) (hb : 0 ≤ b ∧ b ≤ 255) (hs : 0 ≤ s ∧ s ≤ 255) (hc : ∀ o, w.cell? ⟨p, o, none⟩ = #[Value.func (.func 86) #[] #[]][o]?) :
    Calls Try.prog 72 #[.int .u8 b, .int .u8 s, .pointer (some ⟨p, 0, none⟩)] w fun e w' => e = .returned (.int .u8 (blV 3 b s)) ∧ w = w' := by
  have hr := blV_bd (k := 3) hb hs
  have hF := fun w => modeF_any 3 b s w (by omega) hb hs
  rw [show modeF 3 = 86 by decide] at hF
  generalize blV 3 b s = r at *
  go_enter Try.func72, Try.ntmps72
  go_wp2_with (first | (go_at_call 86; refine (hF _).mono ?_; rintro e w' ⟨rfl, rfl⟩))
  go_ret
  exact ⟨by rfl, rfl⟩
set_option maxRecDepth 20000 in
set_option maxHeartbeats 2000000 in
theorem Mode_3 (w : World) : Calls Try.prog 42 #[.int .i64 3] w fun e w' => e = .returned (.tuple #[.func (.func 72) #[] #[.pointer (some ⟨w.heap.size + 1, 0, none⟩)], .int .i64 0]) ∧ (w.alloc modesO).alloc (.cells #[.func (.func 86) #[] #[]] 97) = w' := by
  have i1 : ∀ w, (Instr.index 106 (.agg #[.func (.func 83) #[] #[], .func (.func 84) #[] #[], .func (.func 85) #[] #[], .func (.func 86) #[] #[], .func (.func 88) #[] #[], .func (.func 89) #[] #[], .func (.func 90) #[] #[], .func (.func 91) #[] #[], .func (.func 87) #[] #[], .func (.func 92) #[] #[], .func (.func 93) #[] #[], .func (.func 94) #[] #[]]) (.int .i64 3)).run Try.prog w = .ok (.func (.func 86) #[] #[]) w := fun _ => by kernel_rfl
  go_enter Try.func42, Try.ntmps42
  go_wp2_with (first | (go_at_call 71; refine (modes_any _).mono ?_; rintro e w' ⟨rfl, rfl⟩))
  go_ret2
  exact ⟨rfl, rfl⟩
set_option maxRecDepth 20000 in
set_option maxHeartbeats 1000000 in
theorem modeFn_4 (b s : Int) (p : Nat) (w : World) (hb : 0 ≤ b ∧ b ≤ 255) (hs : 0 ≤ s ∧ s ≤ 255) (hc : ∀ o, w.cell? ⟨p, o, none⟩ = #[Value.func (.func 88) #[] #[]][o]?) :
    Calls Try.prog 72 #[.int .u8 b, .int .u8 s, .pointer (some ⟨p, 0, none⟩)] w fun e w' => e = .returned (.int .u8 (blV 4 b s)) ∧ w = w' := by
  have hr := blV_bd (k := 4) hb hs
  have hF := fun w => modeF_any 4 b s w (by omega) hb hs
  rw [show modeF 4 = 88 by decide] at hF
  generalize blV 4 b s = r at *
  go_enter Try.func72, Try.ntmps72
  go_wp2_with (first | (go_at_call 88; refine (hF _).mono ?_; rintro e w' ⟨rfl, rfl⟩))
  go_ret
  exact ⟨by rfl, rfl⟩
set_option maxRecDepth 20000 in
set_option maxHeartbeats 2000000 in
theorem Mode_4 (w : World) : Calls Try.prog 42 #[.int .i64 4] w fun e w' => e = .returned (.tuple #[.func (.func 72) #[] #[.pointer (some ⟨w.heap.size + 1, 0, none⟩)], .int .i64 0]) ∧ (w.alloc modesO).alloc (.cells #[.func (.func 88) #[] #[]] 97) = w' := by
  have i1 : ∀ w, (Instr.index 106 (.agg #[.func (.func 83) #[] #[], .func (.func 84) #[] #[], .func (.func 85) #[] #[], .func (.func 86) #[] #[], .func (.func 88) #[] #[], .func (.func 89) #[] #[], .func (.func 90) #[] #[], .func (.func 91) #[] #[], .func (.func 87) #[] #[], .func (.func 92) #[] #[], .func (.func 93) #[] #[], .func (.func 94) #[] #[]]) (.int .i64 4)).run Try.prog w = .ok (.func (.func 88) #[] #[]) w := fun _ => by kernel_rfl
  go_enter Try.func42, Try.ntmps42
  go_wp2_with (first | (go_at_call 71; refine (modes_any _).mono ?_; rintro e w' ⟨rfl, rfl⟩))
  go_ret2
  exact ⟨rfl, rfl⟩
set_option maxRecDepth 20000 in
set_option maxHeartbeats 1000000 in
theorem modeFn_5 (b s : Int) (p : Nat) (w : World) (hb : 0 ≤ b ∧ b ≤ 255) (hs : 0 ≤ s ∧ s ≤ 255) (hc : ∀ o, w.cell? ⟨p, o, none⟩ = #[Value.func (.func 89) #[] #[]][o]?) :
    Calls Try.prog 72 #[.int .u8 b, .int .u8 s, .pointer (some ⟨p, 0, none⟩)] w fun e w' => e = .returned (.int .u8 (blV 5 b s)) ∧ w = w' := by
  have hr := blV_bd (k := 5) hb hs
  have hF := fun w => modeF_any 5 b s w (by omega) hb hs
  rw [show modeF 5 = 89 by decide] at hF
  generalize blV 5 b s = r at *
  go_enter Try.func72, Try.ntmps72
  go_wp2_with (first | (go_at_call 89; refine (hF _).mono ?_; rintro e w' ⟨rfl, rfl⟩))
  go_ret
  exact ⟨by rfl, rfl⟩
set_option maxRecDepth 20000 in
set_option maxHeartbeats 2000000 in
theorem Mode_5 (w : World) : Calls Try.prog 42 #[.int .i64 5] w fun e w' => e = .returned (.tuple #[.func (.func 72) #[] #[.pointer (some ⟨w.heap.size + 1, 0, none⟩)], .int .i64 0]) ∧ (w.alloc modesO).alloc (.cells #[.func (.func 89) #[] #[]] 97) = w' := by
  have i1 : ∀ w, (Instr.index 106 (.agg #[.func (.func 83) #[] #[], .func (.func 84) #[] #[], .func (.func 85) #[] #[], .func (.func 86) #[] #[], .func (.func 88) #[] #[], .func (.func 89) #[] #[], .func (.func 90) #[] #[], .func (.func 91) #[] #[], .func (.func 87) #[] #[], .func (.func 92) #[] #[], .func (.func 93) #[] #[], .func (.func 94) #[] #[]]) (.int .i64 5)).run Try.prog w = .ok (.func (.func 89) #[] #[]) w := fun _ => by kernel_rfl
  go_enter Try.func42, Try.ntmps42
  go_wp2_with (first | (go_at_call 71; refine (modes_any _).mono ?_; rintro e w' ⟨rfl, rfl⟩))
  go_ret2
  exact ⟨rfl, rfl⟩
set_option maxRecDepth 20000 in
set_option maxHeartbeats 1000000 in
theorem modeFn_6 (b s : Int) (p : Nat) (w : World) (hb : 0 ≤ b ∧ b ≤ 255) (hs : 0 ≤ s ∧ s ≤ 255) (hc : ∀ o, w.cell? ⟨p, o, none⟩ = #[Value.func (.func 90) #[] #[]][o]?) :
    Calls Try.prog 72 #[.int .u8 b, .int .u8 s, .pointer (some ⟨p, 0, none⟩)] w fun e w' => e = .returned (.int .u8 (blV 6 b s)) ∧ w = w' := by
  have hr := blV_bd (k := 6) hb hs
  have hF := fun w => modeF_any 6 b s w (by omega) hb hs
  rw [show modeF 6 = 90 by decide] at hF
  generalize blV 6 b s = r at *
  go_enter Try.func72, Try.ntmps72
  go_wp2_with (first | (go_at_call 90; refine (hF _).mono ?_; rintro e w' ⟨rfl, rfl⟩))
  go_ret
  exact ⟨by rfl, rfl⟩
set_option maxRecDepth 20000 in
set_option maxHeartbeats 2000000 in
theorem Mode_6 (w : World) : Calls Try.prog 42 #[.int .i64 6] w fun e w' => e = .returned (.tuple #[.func (.func 72) #[] #[.pointer (some ⟨w.heap.size + 1, 0, none⟩)], .int .i64 0]) ∧ (w.alloc modesO).alloc (.cells #[.func (.func 90) #[] #[]] 97) = w' := by
  have i1 : ∀ w, (Instr.index 106 (.agg #[.func (.func 83) #[] #[], .func (.func 84) #[] #[], .func (.func 85) #[] #[], .func (.func 86) #[] #[], .func (.func 88) #[] #[], .func (.func 89) #[] #[], .func (.func 90) #[] #[], .func (.func 91) #[] #[], .func (.func 87) #[] #[], .func (.func 92) #[] #[], .func (.func 93) #[] #[], .func (.func 94) #[] #[]]) (.int .i64 6)).run Try.prog w = .ok (.func (.func 90) #[] #[]) w := fun _ => by kernel_rfl
  go_enter Try.func42, Try.ntmps42
  go_wp2_with (first | (go_at_call 71; refine (modes_any _).mono ?_; rintro e w' ⟨rfl, rfl⟩))
  go_ret2
  exact ⟨rfl, rfl⟩
set_option maxRecDepth 20000 in
set_option maxHeartbeats 1000000 in
theorem modeFn_7 (b s : Int) (p : Nat) (w : World) (hb : 0 ≤ b ∧ b ≤ 255) (hs : 0 ≤ s ∧ s ≤ 255) (hc : ∀ o, w.cell? ⟨p, o, none⟩ = #[Value.func (.func 91) #[] #[]][o]?) :
    Calls Try.prog 72 #[.int .u8 b, .int .u8 s, .pointer (some ⟨p, 0, none⟩)] w fun e w' => e = .returned (.int .u8 (blV 7 b s)) ∧ w = w' := by
  have hr := blV_bd (k := 7) hb hs
  have hF := fun w => modeF_any 7 b s w (by omega) hb hs
  rw [show modeF 7 = 91 by decide] at hF
  generalize blV 7 b s = r at *
  go_enter Try.func72, Try.ntmps72
  go_wp2_with (first | (go_at_call 91; refine (hF _).mono ?_; rintro e w' ⟨rfl, rfl⟩))
  go_ret
  exact ⟨by rfl, rfl⟩
set_option maxRecDepth 20000 in
set_option maxHeartbeats 2000000 in
theorem Mode_7 (w : World) : Calls Try.prog 42 #[.int .i64 7] w fun e w' => e = .returned (.tuple #[.func (.func 72) #[] #[.pointer (some ⟨w.heap.size + 1, 0, none⟩)], .int .i64 0]) ∧ (w.alloc modesO).alloc (.cells #[.func (.func 91) #[] #[]] 97) = w' := by
  have i1 : ∀ w, (Instr.index 106 (.agg #[.func (.func 83) #[] #[], .func (.func 84) #[] #[], .func (.func 85) #[] #[], .func (.func 86) #[] #[], .func (.func 88) #[] #[], .func (.func 89) #[] #[], .func (.func 90) #[] #[], .func (.func 91) #[] #[], .func (.func 87) #[] #[], .func (.func 92) #[] #[], .func (.func 93) #[] #[], .func (.func 94) #[] #[]]) (.int .i64 7)).run Try.prog w = .ok (.func (.func 91) #[] #[]) w := fun _ => by kernel_rfl
  go_enter Try.func42, Try.ntmps42
  go_wp2_with (first | (go_at_call 71; refine (modes_any _).mono ?_; rintro e w' ⟨rfl, rfl⟩))
  go_ret2
  exact ⟨rfl, rfl⟩
set_option maxRecDepth 20000 in
set_option maxHeartbeats 1000000 in
theorem modeFn_8 (b s : Int) (p : Nat) (w : World) (hb : 0 ≤ b ∧ b ≤ 255) (hs : 0 ≤ s ∧ s ≤ 255) (hc : ∀ o, w.cell? ⟨p, o, none⟩ = #[Value.func (.func 87) #[] #[]][o]?) :
    Calls Try.prog 72 #[.int .u8 b, .int .u8 s, .pointer (some ⟨p, 0, none⟩)] w fun e w' => e = .returned (.int .u8 (blV 8 b s)) ∧ w = w' := by
  have hr := blV_bd (k := 8) hb hs
  have hF := fun w => modeF_any 8 b s w (by omega) hb hs
  rw [show modeF 8 = 87 by decide] at hF
  generalize blV 8 b s = r at *
  go_enter Try.func72, Try.ntmps72
  go_wp2_with (first | (go_at_call 87; refine (hF _).mono ?_; rintro e w' ⟨rfl, rfl⟩))
  go_ret
  exact ⟨by rfl, rfl⟩
set_option maxRecDepth 20000 in
set_option maxHeartbeats 2000000 in
theorem Mode_8 (w : World) : Calls Try.prog 42 #[.int .i64 8] w fun e w' => e = .returned (.tuple #[.func (.func 72) #[] #[.pointer (some ⟨w.heap.size + 1, 0, none⟩)], .int .i64 0]) ∧ (w.alloc modesO).alloc (.cells #[.func (.func 87) #[] #[]] 97) = w' := by
  have i1 : ∀ w, (Instr.index 106 (.agg #[.func (.func 83) #[] #[], .func (.func 84) #[] #[], .func (.func 85) #[] #[], .func (.func 86) #[] #[], .func (.func 88) #[] #[], .func (.func 89) #[] #[], .func (.func 90) #[] #[], .func (.func 91) #[] #[], .func (.func 87) #[] #[], .func (.func 92) #[] #[], .func (.func 93) #[] #[], .func (.func 94) #[] #[]]) (.int .i64 8)).run Try.prog w = .ok (.func (.func 87) #[] #[]) w := fun _ => by kernel_rfl
  go_enter Try.func42, Try.ntmps42
  go_wp2_with (first | (go_at_call 71; refine (modes_any _).mono ?_; rintro e w' ⟨rfl, rfl⟩))
  go_ret2
  exact ⟨rfl, rfl⟩
set_option maxRecDepth 20000 in
set_option maxHeartbeats 1000000 in
theorem modeFn_9 (b s : Int) (p : Nat) (w : World) (hb : 0 ≤ b ∧ b ≤ 255) (hs : 0 ≤ s ∧ s ≤ 255) (hc : ∀ o, w.cell? ⟨p, o, none⟩ = #[Value.func (.func 92) #[] #[]][o]?) :
    Calls Try.prog 72 #[.int .u8 b, .int .u8 s, .pointer (some ⟨p, 0, none⟩)] w fun e w' => e = .returned (.int .u8 (blV 9 b s)) ∧ w = w' := by
  have hr := blV_bd (k := 9) hb hs
  have hF := fun w => modeF_any 9 b s w (by omega) hb hs
  rw [show modeF 9 = 92 by decide] at hF
  generalize blV 9 b s = r at *
  go_enter Try.func72, Try.ntmps72
  go_wp2_with (first | (go_at_call 92; refine (hF _).mono ?_; rintro e w' ⟨rfl, rfl⟩))
  go_ret
  exact ⟨by rfl, rfl⟩
set_option maxRecDepth 20000 in
set_option maxHeartbeats 2000000 in
theorem Mode_9 (w : World) : Calls Try.prog 42 #[.int .i64 9] w fun e w' => e = .returned (.tuple #[.func (.func 72) #[] #[.pointer (some ⟨w.heap.size + 1, 0, none⟩)], .int .i64 0]) ∧ (w.alloc modesO).alloc (.cells #[.func (.func 92) #[] #[]] 97) = w' := by
  have i1 : ∀ w, (Instr.index 106 (.agg #[.func (.func 83) #[] #[], .func (.func 84) #[] #[], .func (.func 85) #[] #[], .func (.func 86) #[] #[], .func (.func 88) #[] #[], .func (.func 89) #[] #[], .func (.func 90) #[] #[], .func (.func 91) #[] #[], .func (.func 87) #[] #[], .func (.func 92) #[] #[], .func (.func 93) #[] #[], .func (.func 94) #[] #[]]) (.int .i64 9)).run Try.prog w = .ok (.func (.func 92) #[] #[]) w := fun _ => by kernel_rfl
  go_enter Try.func42, Try.ntmps42
  go_wp2_with (first | (go_at_call 71; refine (modes_any _).mono ?_; rintro e w' ⟨rfl, rfl⟩))
  go_ret2
  exact ⟨rfl, rfl⟩
set_option maxRecDepth 20000 in
set_option maxHeartbeats 1000000 in
theorem modeFn_10 (b s : Int) (p : Nat) (w : World) (hb : 0 ≤ b ∧ b ≤ 255) (hs : 0 ≤ s ∧ s ≤ 255) (hc : ∀ o, w.cell? ⟨p, o, none⟩ = #[Value.func (.func 93) #[] #[]][o]?) :
    Calls Try.prog 72 #[.int .u8 b, .int .u8 s, .pointer (some ⟨p, 0, none⟩)] w fun e w' => e = .returned (.int .u8 (blV 10 b s)) ∧ w = w' := by
  have hr := blV_bd (k := 10) hb hs
  have hF := fun w => modeF_any 10 b s w (by omega) hb hs
  rw [show modeF 10 = 93 by decide] at hF
  generalize blV 10 b s = r at *
  go_enter Try.func72, Try.ntmps72
  go_wp2_with (first | (go_at_call 93; refine (hF _).mono ?_; rintro e w' ⟨rfl, rfl⟩))
  go_ret
  exact ⟨by rfl, rfl⟩
set_option maxRecDepth 20000 in
set_option maxHeartbeats 2000000 in
theorem Mode_10 (w : World) : Calls Try.prog 42 #[.int .i64 10] w fun e w' => e = .returned (.tuple #[.func (.func 72) #[] #[.pointer (some ⟨w.heap.size + 1, 0, none⟩)], .int .i64 0]) ∧ (w.alloc modesO).alloc (.cells #[.func (.func 93) #[] #[]] 97) = w' := by
  have i1 : ∀ w, (Instr.index 106 (.agg #[.func (.func 83) #[] #[], .func (.func 84) #[] #[], .func (.func 85) #[] #[], .func (.func 86) #[] #[], .func (.func 88) #[] #[], .func (.func 89) #[] #[], .func (.func 90) #[] #[], .func (.func 91) #[] #[], .func (.func 87) #[] #[], .func (.func 92) #[] #[], .func (.func 93) #[] #[], .func (.func 94) #[] #[]]) (.int .i64 10)).run Try.prog w = .ok (.func (.func 93) #[] #[]) w := fun _ => by kernel_rfl
  go_enter Try.func42, Try.ntmps42
  go_wp2_with (first | (go_at_call 71; refine (modes_any _).mono ?_; rintro e w' ⟨rfl, rfl⟩))
  go_ret2
  exact ⟨rfl, rfl⟩
set_option maxRecDepth 20000 in
set_option maxHeartbeats 1000000 in
theorem modeFn_11 (b s : Int) (p : Nat) (w : World) (hb : 0 ≤ b ∧ b ≤ 255) (hs : 0 ≤ s ∧ s ≤ 255) (hc : ∀ o, w.cell? ⟨p, o, none⟩ = #[Value.func (.func 94) #[] #[]][o]?) :
    Calls Try.prog 72 #[.int .u8 b, .int .u8 s, .pointer (some ⟨p, 0, none⟩)] w fun e w' => e = .returned (.int .u8 (blV 11 b s)) ∧ w = w' := by
  have hr := blV_bd (k := 11) hb hs
  have hF := fun w => modeF_any 11 b s w (by omega) hb hs
  rw [show modeF 11 = 94 by decide] at hF
  generalize blV 11 b s = r at *
  go_enter Try.func72, Try.ntmps72
  go_wp2_with (first | (go_at_call 94; refine (hF _).mono ?_; rintro e w' ⟨rfl, rfl⟩))
  go_ret
  exact ⟨by rfl, rfl⟩
set_option maxRecDepth 20000 in
set_option maxHeartbeats 2000000 in
theorem Mode_11 (w : World) : Calls Try.prog 42 #[.int .i64 11] w fun e w' => e = .returned (.tuple #[.func (.func 72) #[] #[.pointer (some ⟨w.heap.size + 1, 0, none⟩)], .int .i64 0]) ∧ (w.alloc modesO).alloc (.cells #[.func (.func 94) #[] #[]] 97) = w' := by
  have i1 : ∀ w, (Instr.index 106 (.agg #[.func (.func 83) #[] #[], .func (.func 84) #[] #[], .func (.func 85) #[] #[], .func (.func 86) #[] #[], .func (.func 88) #[] #[], .func (.func 89) #[] #[], .func (.func 90) #[] #[], .func (.func 91) #[] #[], .func (.func 87) #[] #[], .func (.func 92) #[] #[], .func (.func 93) #[] #[], .func (.func 94) #[] #[]]) (.int .i64 11)).run Try.prog w = .ok (.func (.func 94) #[] #[]) w := fun _ => by kernel_rfl
  go_enter Try.func42, Try.ntmps42
  go_wp2_with (first | (go_at_call 71; refine (modes_any _).mono ?_; rintro e w' ⟨rfl, rfl⟩))
  go_ret2
  exact ⟨rfl, rfl⟩
theorem modeFn_any (k b s : Int) (p : Nat) (w : World) (hk : 0 ≤ k ∧ k ≤ 11) (hb : 0 ≤ b ∧ b ≤ 255) (hs : 0 ≤ s ∧ s ≤ 255) (hc : ∀ o, w.cell? ⟨p, o, none⟩ = #[Value.func (.func (modeF k)) #[] #[]][o]?) :
    Calls Try.prog 72 #[.int .u8 b, .int .u8 s, .pointer (some ⟨p, 0, none⟩)] w fun e w' => e = .returned (.int .u8 (blV k b s)) ∧ w = w' := by
  have : k = 0 ∨ k = 1 ∨ k = 2 ∨ k = 3 ∨ k = 4 ∨ k = 5 ∨ k = 6 ∨ k = 7 ∨ k = 8 ∨ k = 9 ∨ k = 10 ∨ k = 11 := by omega
  rcases this with rfl | rfl | rfl | rfl | rfl | rfl | rfl | rfl | rfl | rfl | rfl | rfl
  · exact modeFn_0 b s p w hb hs hc
  · exact modeFn_1 b s p w hb hs hc
  · exact modeFn_2 b s p w hb hs hc
  · exact modeFn_3 b s p w hb hs hc
  · exact modeFn_4 b s p w hb hs hc
  · exact modeFn_5 b s p w hb hs hc
  · exact modeFn_6 b s p w hb hs hc
  · exact modeFn_7 b s p w hb hs hc
  · exact modeFn_8 b s p w hb hs hc
  · exact modeFn_9 b s p w hb hs hc
  · exact modeFn_10 b s p w hb hs hc
  · exact modeFn_11 b s p w hb hs hc
theorem Mode_any (k : Int) (w : World) (hk : 0 ≤ k ∧ k ≤ 11) : Calls Try.prog 42 #[.int .i64 k] w fun e w' => e = .returned (.tuple #[.func (.func 72) #[] #[.pointer (some ⟨w.heap.size + 1, 0, none⟩)], .int .i64 0]) ∧ (w.alloc modesO).alloc (.cells #[.func (.func (modeF k)) #[] #[]] 97) = w' := by
  have : k = 0 ∨ k = 1 ∨ k = 2 ∨ k = 3 ∨ k = 4 ∨ k = 5 ∨ k = 6 ∨ k = 7 ∨ k = 8 ∨ k = 9 ∨ k = 10 ∨ k = 11 := by omega
  rcases this with rfl | rfl | rfl | rfl | rfl | rfl | rfl | rfl | rfl | rfl | rfl | rfl
  · exact Mode_0 w
  · exact Mode_1 w
  · exact Mode_2 w
  · exact Mode_3 w
  · exact Mode_4 w
  · exact Mode_5 w
  · exact Mode_6 w
  · exact Mode_7 w
  · exact Mode_8 w
  · exact Mode_9 w
  · exact Mode_10 w
  · exact Mode_11 w
theorem Mode_no (k : Int) (w : World) (hk : ¬(0 ≤ k ∧ k ≤ 11)) : Calls Try.prog 42 #[.int .i64 k] w fun e w' => e = .returned (.tuple #[.nilFunc, .int .i64 1]) ∧ w = w' := by
  by_cases h : k < 0
  all_goals
    go_enter Try.func42, Try.ntmps42
    go_wp2_with fail
    go_ret2
    exact ⟨rfl, rfl⟩
end Go.Proofs.Ytoiblpncofbdpaa
