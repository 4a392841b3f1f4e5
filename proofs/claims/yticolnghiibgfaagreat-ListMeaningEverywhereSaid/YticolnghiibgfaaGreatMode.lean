/-
  The contract of blend.Mode and of the function that it makes.
-/
import Derived.Test.YticolnghiibgfaaGreatMrg3
set_option linter.unusedVariables false
set_option linter.unusedSimpArgs false
set_option linter.unnecessarySimpa false
namespace Go.Proofs.YticolnghiibgfaaGreat
open Go.RowKit
def modeF (k : Int) : FuncId :=
  if k = 1 then 146 else if k = 2 then 147 else if k = 3 then 148 else if k = 4 then 150 else if k = 5 then 151
  else if k = 6 then 152 else if k = 7 then 153 else if k = 8 then 149 else if k = 9 then 154 else if k = 10 then 155 else if k = 11 then 156 else 145
theorem modeF_any (k b s : Int) (w : World) (hk : 0 ≤ k ∧ k ≤ 11) (hb : 0 ≤ b ∧ b ≤ 255) (hs : 0 ≤ s ∧ s ≤ 255) :
    Calls Tryz.prog (modeF k) #[.int .i64 b, .int .i64 s] w fun e w' => e = .returned (.int .i64 (blV k b s)) ∧ w = w' := by
  have : k = 0 ∨ k = 1 ∨ k = 2 ∨ k = 3 ∨ k = 4 ∨ k = 5 ∨ k = 6 ∨ k = 7 ∨ k = 8 ∨ k = 9 ∨ k = 10 ∨ k = 11 := by omega
  rcases this with rfl | rfl | rfl | rfl | rfl | rfl | rfl | rfl | rfl | rfl | rfl | rfl
  · exact mode0_any b s w hb hs
  · exact bmul_any b s w hb hs
  · exact mode2_any b s w hb hs
  · exact mode3_any b s w hb hs
  · exact mode4_any b s w hb hs
  · exact mode5_any b s w hb hs
  · exact bdodge_any b s w hb hs
  · exact bburn_any b s w hb hs
  · exact bhard_any b s w hb hs
  · exact mode9_any b s w hb hs
  · exact mode10_any b s w hb hs
  · exact mode11_any b s w hb hs
def modesO : Obj := .cells #[.func (.func 145) #[] #[], .func (.func 146) #[] #[], .func (.func 147) #[] #[], .func (.func 148) #[] #[], .func (.func 150) #[] #[], .func (.func 151) #[] #[], .func (.func 152) #[] #[], .func (.func 153) #[] #[], .func (.func 149) #[] #[], .func (.func 154) #[] #[], .func (.func 155) #[] #[], .func (.func 156) #[] #[]] 189
set_option maxRecDepth 20000 in
set_option maxHeartbeats 2000000 in
theorem modes_any (w : World) : Calls Tryz.prog 133 #[] w fun e w' => e = .returned (.agg #[.func (.func 145) #[] #[], .func (.func 146) #[] #[], .func (.func 147) #[] #[], .func (.func 148) #[] #[], .func (.func 150) #[] #[], .func (.func 151) #[] #[], .func (.func 152) #[] #[], .func (.func 153) #[] #[], .func (.func 149) #[] #[], .func (.func 154) #[] #[], .func (.func 155) #[] #[], .func (.func 156) #[] #[]]) ∧ w.alloc modesO = w' := by
  go_enter Tryz.func133, Tryz.ntmps133
  go_wp2_with fail
  go_returns
  exact ⟨rfl, rfl⟩
set_option maxRecDepth 20000 in
set_option maxHeartbeats 1000000 in
theorem modeFn_0 (b s : Int) (p : Nat) (w : World) (hb : 0 ≤ b ∧ b ≤ 255) (hs : 0 ≤ s ∧ s ≤ 255) (hc : ∀ o, w.cell? ⟨p, o, none⟩ = #[Value.func (.func 145) #[] #[]][o]?) :
    Calls Tryz.prog 134 #[.int .u8 b, .int .u8 s, .pointer (some ⟨p, 0, none⟩)] w fun e w' => e = .returned (.int .u8 (blV 0 b s)) ∧ w = w' := by
  have hr := blV_bd (k := 0) hb hs
  have hF := fun w => modeF_any 0 b s w (by omega) hb hs
  rw [show modeF 0 = 145 by decide] at hF
  generalize blV 0 b s = r at *
  go_enter Tryz.func134, Tryz.ntmps134
  go_wp2_with (first | (go_at_call 145; refine (hF _).mono ?_; rintro e w' ⟨rfl, rfl⟩))
  go_ret
  exact ⟨by rfl, rfl⟩
set_option maxRecDepth 20000 in
set_option maxHeartbeats 2000000 in
theorem Mode_0 (w : World) : Calls Tryz.prog 106 #[.int .i64 0] w fun e w' => e = .returned (.tuple #[.func (.func 134) #[] #[.pointer (some ⟨w.heap.size + 1, 0, none⟩)], .int .i64 0]) ∧ (w.alloc modesO).alloc (.cells #[.func (.func 145) #[] #[]] 113) = w' := by
  have i1 : ∀ w, (Instr.index 189 (.agg #[.func (.func 145) #[] #[], .func (.func 146) #[] #[], .func (.func 147) #[] #[], .func (.func 148) #[] #[], .func (.func 150) #[] #[], .func (.func 151) #[] #[], .func (.func 152) #[] #[], .func (.func 153) #[] #[], .func (.func 149) #[] #[], .func (.func 154) #[] #[], .func (.func 155) #[] #[], .func (.func 156) #[] #[]]) (.int .i64 0)).run Tryz.prog w = .ok (.func (.func 145) #[] #[]) w := fun _ => by kernel_rfl
  go_enter Tryz.func106, Tryz.ntmps106
  go_wp2_with (first | (go_at_call 133; refine (modes_any _).mono ?_; rintro e w' ⟨rfl, rfl⟩))
  go_ret2
  exact ⟨rfl, rfl⟩
set_option maxRecDepth 20000 in
set_option maxHeartbeats 1000000 in
theorem modeFn_1 (b s : Int) (p : Nat) (w : World) (hb : 0 ≤ b ∧ b ≤ 255) (hs : 0 ≤ s ∧ s ≤ 255) (hc : ∀ o, w.cell? ⟨p, o, none⟩ = #[Value.func (.func 146) #[] #[]][o]?) :
    Calls Tryz.prog 134 #[.int .u8 b, .int .u8 s, .pointer (some ⟨p, 0, none⟩)] w fun e w' => e = .returned (.int .u8 (blV 1 b s)) ∧ w = w' := by
  have hr := blV_bd (k := 1) hb hs
  have hF := fun w => modeF_any 1 b s w (by omega) hb hs
  rw [show modeF 1 = 146 by decide] at hF
  generalize blV 1 b s = r at *
  go_enter Tryz.func134, Tryz.ntmps134
  go_wp2_with (first | (go_at_call 146; refine (hF _).mono ?_; rintro e w' ⟨rfl, rfl⟩))
  go_ret
  exact ⟨by rfl, rfl⟩
set_option maxRecDepth 20000 in
set_option maxHeartbeats 2000000 in
theorem Mode_1 (w : World) : Calls Tryz.prog 106 #[.int .i64 1] w fun e w' => e = .returned (.tuple #[.func (.func 134) #[] #[.pointer (some ⟨w.heap.size + 1, 0, none⟩)], .int .i64 0]) ∧ (w.alloc modesO).alloc (.cells #[.func (.func 146) #[] #[]] 113) = w' := by
  have i1 : ∀ w, (Instr.index 189 (.agg #[.func (.func 145) #[] #[], .func (.func 146) #[] #[], .func (.func 147) #[] #[], .func (.func 148) #[] #[], .func (.func 150) #[] #[], .func (.func 151) #[] #[], .func (.func 152) #[] #[], .func (.func 153) #[] #[], .func (.func 149) #[] #[], .func (.func 154) #[] #[], .func (.func 155) #[] #[], .func (.func 156) #[] #[]]) (.int .i64 1)).run Tryz.prog w = .ok (.func (.func 146) #[] #[]) w := fun _ => by kernel_rfl
  go_enter Tryz.func106, Tryz.ntmps106
  go_wp2_with (first | (go_at_call 133; refine (modes_any _).mono ?_; rintro e w' ⟨rfl, rfl⟩))
  go_ret2
  exact ⟨rfl, rfl⟩
set_option maxRecDepth 20000 in
set_option maxHeartbeats 1000000 in
theorem modeFn_2 (b s : Int) (p : Nat) (w : World) (hb : 0 ≤ b ∧ b ≤ 255) (hs : 0 ≤ s ∧ s ≤ 255) (hc : ∀ o, w.cell? ⟨p, o, none⟩ = #[Value.func (.func 147) #[] #[]][o]?) :
    Calls Tryz.prog 134 #[.int .u8 b, .int .u8 s, .pointer (some ⟨p, 0, none⟩)] w fun e w' => e = .returned (.int .u8 (blV 2 b s)) ∧ w = w' := by
  have hr := blV_bd (k := 2) hb hs
  have hF := fun w => modeF_any 2 b s w (by omega) hb hs
  rw [show modeF 2 = 147 by decide] at hF
  generalize blV 2 b s = r at *
  go_enter Tryz.func134, Tryz.ntmps134
  go_wp2_with (first | (go_at_call 147; refine (hF _).mono ?_; rintro e w' ⟨rfl, rfl⟩))
  go_ret
  exact ⟨by rfl, rfl⟩
set_option maxRecDepth 20000 in
set_option maxHeartbeats 2000000 in
theorem Mode_2 (w : World) : Calls Tryz.prog 106 #[.int .i64 2] w fun e w' => e = .returned (.tuple #[.func (.func 134) #[] #[.pointer (some ⟨w.heap.size + 1, 0, none⟩)], .int .i64 0]) ∧ (w.alloc modesO).alloc (.cells #[.func (.func 147) #[] #[]] 113) = w' := by
  have i1 : ∀ w, (Instr.index 189 (.agg #[.func (.func 145) #[] #[], .func (.func 146) #[] #[], .func (.func 147) #[] #[], .func (.func 148) #[] #[], .func (.func 150) #[] #[], .func (.func 151) #[] #[], .func (.func 152) #[] #[], .func (.func 153) #[] #[], .func (.func 149) #[] #[], .func (.func 154) #[] #[], .func (.func 155) #[] #[], .func (.func 156) #[] #[]]) (.int .i64 2)).run Tryz.prog w = .ok (.func (.func 147) #[] #[]) w := fun _ => by kernel_rfl
  go_enter Tryz.func106, Tryz.ntmps106
  go_wp2_with (first | (go_at_call 133; refine (modes_any _).mono ?_; rintro e w' ⟨rfl, rfl⟩))
  go_ret2
  exact ⟨rfl, rfl⟩
set_option maxRecDepth 20000 in
set_option maxHeartbeats 1000000 in
theorem modeFn_3 (b s : Int) (p : Nat) (w : World) (hb : 0 ≤ b ∧ b ≤ 255) (hs : 0 ≤ s ∧ s ≤ 255) (hc : ∀ o, w.cell? ⟨p, o, none⟩ = #[Value.func (.func 148) #[] #[]][o]?) :
    Calls Tryz.prog 134 #[.int .u8 b, .int .u8 s, .pointer (some ⟨p, 0, none⟩)] w fun e w' => e = .returned (.int .u8 (blV 3 b s)) ∧ w = w' := by
  have hr := blV_bd (k := 3) hb hs
  have hF := fun w => modeF_any 3 b s w (by omega) hb hs
  rw [show modeF 3 = 148 by decide] at hF
  generalize blV 3 b s = r at *
  go_enter Tryz.func134, Tryz.ntmps134
  go_wp2_with (first | (go_at_call 148; refine (hF _).mono ?_; rintro e w' ⟨rfl, rfl⟩))
  go_ret
  exact ⟨by rfl, rfl⟩
set_option maxRecDepth 20000 in
set_option maxHeartbeats 2000000 in
theorem Mode_3 (w : World) : Calls Tryz.prog 106 #[.int .i64 3] w fun e w' => e = .returned (.tuple #[.func (.func 134) #[] #[.pointer (some ⟨w.heap.size + 1, 0, none⟩)], .int .i64 0]) ∧ (w.alloc modesO).alloc (.cells #[.func (.func 148) #[] #[]] 113) = w' := by
  have i1 : ∀ w, (Instr.index 189 (.agg #[.func (.func 145) #[] #[], .func (.func 146) #[] #[], .func (.func 147) #[] #[], .func (.func 148) #[] #[], .func (.func 150) #[] #[], .func (.func 151) #[] #[], .func (.func 152) #[] #[], .func (.func 153) #[] #[], .func (.func 149) #[] #[], .func (.func 154) #[] #[], .func (.func 155) #[] #[], .func (.func 156) #[] #[]]) (.int .i64 3)).run Tryz.prog w = .ok (.func (.func 148) #[] #[]) w := fun _ => by kernel_rfl
  go_enter Tryz.func106, Tryz.ntmps106
  go_wp2_with (first | (go_at_call 133; refine (modes_any _).mono ?_; rintro e w' ⟨rfl, rfl⟩))
  go_ret2
  exact ⟨rfl, rfl⟩
set_option maxRecDepth 20000 in
set_option maxHeartbeats 1000000 in
theorem modeFn_4 (b s : Int) (p : Nat) (w : World) (hb : 0 ≤ b ∧ b ≤ 255) (hs : 0 ≤ s ∧ s ≤ 255) (hc : ∀ o, w.cell? ⟨p, o, none⟩ = #[Value.func (.func 150) #[] #[]][o]?) :
    Calls Tryz.prog 134 #[.int .u8 b, .int .u8 s, .pointer (some ⟨p, 0, none⟩)] w fun e w' => e = .returned (.int .u8 (blV 4 b s)) ∧ w = w' := by
  have hr := blV_bd (k := 4) hb hs
  have hF := fun w => modeF_any 4 b s w (by omega) hb hs
  rw [show modeF 4 = 150 by decide] at hF
  generalize blV 4 b s = r at *
  go_enter Tryz.func134, Tryz.ntmps134
  go_wp2_with (first | (go_at_call 150; refine (hF _).mono ?_; rintro e w' ⟨rfl, rfl⟩))
  go_ret
  exact ⟨by rfl, rfl⟩
set_option maxRecDepth 20000 in
set_option maxHeartbeats 2000000 in
theorem Mode_4 (w : World) : Calls Tryz.prog 106 #[.int .i64 4] w fun e w' => e = .returned (.tuple #[.func (.func 134) #[] #[.pointer (some ⟨w.heap.size + 1, 0, none⟩)], .int .i64 0]) ∧ (w.alloc modesO).alloc (.cells #[.func (.func 150) #[] #[]] 113) = w' := by
  have i1 : ∀ w, (Instr.index 189 (.agg #[.func (.func 145) #[] #[], .func (.func 146) #[] #[], .func (.func 147) #[] #[], .func (.func 148) #[] #[], .func (.func 150) #[] #[], .func (.func 151) #[] #[], .func (.func 152) #[] #[], .func (.func 153) #[] #[], .func (.func 149) #[] #[], .func (.func 154) #[] #[], .func (.func 155) #[] #[], .func (.func 156) #[] #[]]) (.int .i64 4)).run Tryz.prog w = .ok (.func (.func 150) #[] #[]) w := fun _ => by kernel_rfl
  go_enter Tryz.func106, Tryz.ntmps106
  go_wp2_with (first | (go_at_call 133; refine (modes_any _).mono ?_; rintro e w' ⟨rfl, rfl⟩))
  go_ret2
  exact ⟨rfl, rfl⟩
set_option maxRecDepth 20000 in
set_option maxHeartbeats 1000000 in
theorem modeFn_5 (b s : Int) (p : Nat) (w : World) (hb : 0 ≤ b ∧ b ≤ 255) (hs : 0 ≤ s ∧ s ≤ 255) (hc : ∀ o, w.cell? ⟨p, o, none⟩ = #[Value.func (.func 151) #[] #[]][o]?) :
    Calls Tryz.prog 134 #[.int .u8 b, .int .u8 s, .pointer (some ⟨p, 0, none⟩)] w fun e w' => e = .returned (.int .u8 (blV 5 b s)) ∧ w = w' := by
  have hr := blV_bd (k := 5) hb hs
  have hF := fun w => modeF_any 5 b s w (by omega) hb hs
  rw [show modeF 5 = 151 by decide] at hF
  generalize blV 5 b s = r at *
  go_enter Tryz.func134, Tryz.ntmps134
  go_wp2_with (first | (go_at_call 151; refine (hF _).mono ?_; rintro e w' ⟨rfl, rfl⟩))
  go_ret
  exact ⟨by rfl, rfl⟩
set_option maxRecDepth 20000 in
set_option maxHeartbeats 2000000 in
theorem Mode_5 (w : World) : Calls Tryz.prog 106 #[.int .i64 5] w fun e w' => e = .returned (.tuple #[.func (.func 134) #[] #[.pointer (some ⟨w.heap.size + 1, 0, none⟩)], .int .i64 0]) ∧ (w.alloc modesO).alloc (.cells #[.func (.func 151) #[] #[]] 113) = w' := by
  have i1 : ∀ w, (Instr.index 189 (.agg #[.func (.func 145) #[] #[], .func (.func 146) #[] #[], .func (.func 147) #[] #[], .func (.func 148) #[] #[], .func (.func 150) #[] #[], .func (.func 151) #[] #[], .func (.func 152) #[] #[], .func (.func 153) #[] #[], .func (.func 149) #[] #[], .func (.func 154) #[] #[], .func (.func 155) #[] #[], .func (.func 156) #[] #[]]) (.int .i64 5)).run Tryz.prog w = .ok (.func (.func 151) #[] #[]) w := fun _ => by kernel_rfl
  go_enter Tryz.func106, Tryz.ntmps106
  go_wp2_with (first | (go_at_call 133; refine (modes_any _).mono ?_; rintro e w' ⟨rfl, rfl⟩))
  go_ret2
  exact ⟨rfl, rfl⟩
set_option maxRecDepth 20000 in
set_option maxHeartbeats 1000000 in
theorem modeFn_6 (b s : Int) (p : Nat) (w : World) (hb : 0 ≤ b ∧ b ≤ 255) (hs : 0 ≤ s ∧ s ≤ 255) (hc : ∀ o, w.cell? ⟨p, o, none⟩ = #[Value.func (.func 152) #[] #[]][o]?) :
    Calls Tryz.prog 134 #[.int .u8 b, .int .u8 s, .pointer (some ⟨p, 0, none⟩)] w fun e w' => e = .returned (.int .u8 (blV 6 b s)) ∧ w = w' := by
  have hr := blV_bd (k := 6) hb hs
  have hF := fun w => modeF_any 6 b s w (by omega) hb hs
  rw [show modeF 6 = 152 by decide] at hF
  generalize blV 6 b s = r at *
  go_enter Tryz.func134, Tryz.ntmps134
  go_wp2_with (first | (go_at_call 152; refine (hF _).mono ?_; rintro e w' ⟨rfl, rfl⟩))
  go_ret
  exact ⟨by rfl, rfl⟩
set_option maxRecDepth 20000 in
set_option maxHeartbeats 2000000 in
theorem Mode_6 (w : World) : Calls Tryz.prog 106 #[.int .i64 6] w fun e w' => e = .returned (.tuple #[.func (.func 134) #[] #[.pointer (some ⟨w.heap.size + 1, 0, none⟩)], .int .i64 0]) ∧ (w.alloc modesO).alloc (.cells #[.func (.func 152) #[] #[]] 113) = w' := by
  have i1 : ∀ w, (Instr.index 189 (.agg #[.func (.func 145) #[] #[], .func (.func 146) #[] #[], .func (.func 147) #[] #[], .func (.func 148) #[] #[], .func (.func 150) #[] #[], .func (.func 151) #[] #[], .func (.func 152) #[] #[], .func (.func 153) #[] #[], .func (.func 149) #[] #[], .func (.func 154) #[] #[], .func (.func 155) #[] #[], .func (.func 156) #[] #[]]) (.int .i64 6)).run Tryz.prog w = .ok (.func (.func 152) #[] #[]) w := fun _ => by kernel_rfl
  go_enter Tryz.func106, Tryz.ntmps106
  go_wp2_with (first | (go_at_call 133; refine (modes_any _).mono ?_; rintro e w' ⟨rfl, rfl⟩))
  go_ret2
  exact ⟨rfl, rfl⟩
set_option maxRecDepth 20000 in
set_option maxHeartbeats 1000000 in
theorem modeFn_7 (b s : Int) (p : Nat) (w : World) (hb : 0 ≤ b ∧ b ≤ 255) (hs : 0 ≤ s ∧ s ≤ 255) (hc : ∀ o, w.cell? ⟨p, o, none⟩ = #[Value.func (.func 153) #[] #[]][o]?) :
    Calls Tryz.prog 134 #[.int .u8 b, .int .u8 s, .pointer (some ⟨p, 0, none⟩)] w fun e w' => e = .returned (.int .u8 (blV 7 b s)) ∧ w = w' := by
  have hr := blV_bd (k := 7) hb hs
  have hF := fun w => modeF_any 7 b s w (by omega) hb hs
  rw [show modeF 7 = 153 by decide] at hF
  generalize blV 7 b s = r at *
  go_enter Tryz.func134, Tryz.ntmps134
  go_wp2_with (first | (go_at_call 153; refine (hF _).mono ?_; rintro e w' ⟨rfl, rfl⟩))
  go_ret
  exact ⟨by rfl, rfl⟩
set_option maxRecDepth 20000 in
set_option maxHeartbeats 2000000 in
theorem Mode_7 (w : World) : Calls Tryz.prog 106 #[.int .i64 7] w fun e w' => e = .returned (.tuple #[.func (.func 134) #[] #[.pointer (some ⟨w.heap.size + 1, 0, none⟩)], .int .i64 0]) ∧ (w.alloc modesO).alloc (.cells #[.func (.func 153) #[] #[]] 113) = w' := by
  have i1 : ∀ w, (Instr.index 189 (.agg #[.func (.func 145) #[] #[], .func (.func 146) #[] #[], .func (.func 147) #[] #[], .func (.func 148) #[] #[], .func (.func 150) #[] #[], .func (.func 151) #[] #[], .func (.func 152) #[] #[], .func (.func 153) #[] #[], .func (.func 149) #[] #[], .func (.func 154) #[] #[], .func (.func 155) #[] #[], .func (.func 156) #[] #[]]) (.int .i64 7)).run Tryz.prog w = .ok (.func (.func 153) #[] #[]) w := fun _ => by kernel_rfl
  go_enter Tryz.func106, Tryz.ntmps106
  go_wp2_with (first | (go_at_call 133; refine (modes_any _).mono ?_; rintro e w' ⟨rfl, rfl⟩))
  go_ret2
  exact ⟨rfl, rfl⟩
set_option maxRecDepth 20000 in
set_option maxHeartbeats 1000000 in
theorem modeFn_8 (b s : Int) (p : Nat) (w : World) (hb : 0 ≤ b ∧ b ≤ 255) (hs : 0 ≤ s ∧ s ≤ 255) (hc : ∀ o, w.cell? ⟨p, o, none⟩ = #[Value.func (.func 149) #[] #[]][o]?) :
    Calls Tryz.prog 134 #[.int .u8 b, .int .u8 s, .pointer (some ⟨p, 0, none⟩)] w fun e w' => e = .returned (.int .u8 (blV 8 b s)) ∧ w = w' := by
  have hr := blV_bd (k := 8) hb hs
  have hF := fun w => modeF_any 8 b s w (by omega) hb hs
  rw [show modeF 8 = 149 by decide] at hF
  generalize blV 8 b s = r at *
  go_enter Tryz.func134, Tryz.ntmps134
  go_wp2_with (first | (go_at_call 149; refine (hF _).mono ?_; rintro e w' ⟨rfl, rfl⟩))
  go_ret
  exact ⟨by rfl, rfl⟩
set_option maxRecDepth 20000 in
set_option maxHeartbeats 2000000 in
theorem Mode_8 (w : World) : Calls Tryz.prog 106 #[.int .i64 8] w fun e w' => e = .returned (.tuple #[.func (.func 134) #[] #[.pointer (some ⟨w.heap.size + 1, 0, none⟩)], .int .i64 0]) ∧ (w.alloc modesO).alloc (.cells #[.func (.func 149) #[] #[]] 113) = w' := by
  have i1 : ∀ w, (Instr.index 189 (.agg #[.func (.func 145) #[] #[], .func (.func 146) #[] #[], .func (.func 147) #[] #[], .func (.func 148) #[] #[], .func (.func 150) #[] #[], .func (.func 151) #[] #[], .func (.func 152) #[] #[], .func (.func 153) #[] #[], .func (.func 149) #[] #[], .func (.func 154) #[] #[], .func (.func 155) #[] #[], .func (.func 156) #[] #[]]) (.int .i64 8)).run Tryz.prog w = .ok (.func (.func 149) #[] #[]) w := fun _ => by kernel_rfl
  go_enter Tryz.func106, Tryz.ntmps106
  go_wp2_with (first | (go_at_call 133; refine (modes_any _).mono ?_; rintro e w' ⟨rfl, rfl⟩))
  go_ret2
  exact ⟨rfl, rfl⟩
set_option maxRecDepth 20000 in
set_option maxHeartbeats 1000000 in
theorem modeFn_9 (b s : Int) (p : Nat) (w : World) (hb : 0 ≤ b ∧ b ≤ 255) (hs : 0 ≤ s ∧ s ≤ 255) (hc : ∀ o, w.cell? ⟨p, o, none⟩ = #[Value.func (.func 154) #[] #[]][o]?) :
    Calls Tryz.prog 134 #[.int .u8 b, .int .u8 s, .pointer (some ⟨p, 0, none⟩)] w fun e w' => e = .returned (.int .u8 (blV 9 b s)) ∧ w = w' := by
  have hr := blV_bd (k := 9) hb hs
  have hF := fun w => modeF_any 9 b s w (by omega) hb hs
  rw [show modeF 9 = 154 by decide] at hF
  generalize blV 9 b s = r at *
  go_enter Tryz.func134, Tryz.ntmps134
  go_wp2_with (first | (go_at_call 154; refine (hF _).mono ?_; rintro e w' ⟨rfl, rfl⟩))
  go_ret
  exact ⟨by rfl, rfl⟩
set_option maxRecDepth 20000 in
set_option maxHeartbeats 2000000 in
theorem Mode_9 (w : World) : Calls Tryz.prog 106 #[.int .i64 9] w fun e w' => e = .returned (.tuple #[.func (.func 134) #[] #[.pointer (some ⟨w.heap.size + 1, 0, none⟩)], .int .i64 0]) ∧ (w.alloc modesO).alloc (.cells #[.func (.func 154) #[] #[]] 113) = w' := by
  have i1 : ∀ w, (Instr.index 189 (.agg #[.func (.func 145) #[] #[], .func (.func 146) #[] #[], .func (.func 147) #[] #[], .func (.func 148) #[] #[], .func (.func 150) #[] #[], .func (.func 151) #[] #[], .func (.func 152) #[] #[], .func (.func 153) #[] #[], .func (.func 149) #[] #[], .func (.func 154) #[] #[], .func (.func 155) #[] #[], .func (.func 156) #[] #[]]) (.int .i64 9)).run Tryz.prog w = .ok (.func (.func 154) #[] #[]) w := fun _ => by kernel_rfl
  go_enter Tryz.func106, Tryz.ntmps106
  go_wp2_with (first | (go_at_call 133; refine (modes_any _).mono ?_; rintro e w' ⟨rfl, rfl⟩))
  go_ret2
  exact ⟨rfl, rfl⟩
set_option maxRecDepth 20000 in
set_option maxHeartbeats 1000000 in
theorem modeFn_10 (b s : Int) (p : Nat) (w : World) (hb : 0 ≤ b ∧ b ≤ 255) (hs : 0 ≤ s ∧ s ≤ 255) (hc : ∀ o, w.cell? ⟨p, o, none⟩ = #[Value.func (.func 155) #[] #[]][o]?) :
    Calls Tryz.prog 134 #[.int .u8 b, .int .u8 s, .pointer (some ⟨p, 0, none⟩)] w fun e w' => e = .returned (.int .u8 (blV 10 b s)) ∧ w = w' := by
  have hr := blV_bd (k := 10) hb hs
  have hF := fun w => modeF_any 10 b s w (by omega) hb hs
  rw [show modeF 10 = 155 by decide] at hF
  generalize blV 10 b s = r at *
  go_enter Tryz.func134, Tryz.ntmps134
  go_wp2_with (first | (go_at_call 155; refine (hF _).mono ?_; rintro e w' ⟨rfl, rfl⟩))
  go_ret
  exact ⟨by rfl, rfl⟩
set_option maxRecDepth 20000 in
set_option maxHeartbeats 2000000 in
theorem Mode_10 (w : World) : Calls Tryz.prog 106 #[.int .i64 10] w fun e w' => e = .returned (.tuple #[.func (.func 134) #[] #[.pointer (some ⟨w.heap.size + 1, 0, none⟩)], .int .i64 0]) ∧ (w.alloc modesO).alloc (.cells #[.func (.func 155) #[] #[]] 113) = w' := by
  have i1 : ∀ w, (Instr.index 189 (.agg #[.func (.func 145) #[] #[], .func (.func 146) #[] #[], .func (.func 147) #[] #[], .func (.func 148) #[] #[], .func (.func 150) #[] #[], .func (.func 151) #[] #[], .func (.func 152) #[] #[], .func (.func 153) #[] #[], .func (.func 149) #[] #[], .func (.func 154) #[] #[], .func (.func 155) #[] #[], .func (.func 156) #[] #[]]) (.int .i64 10)).run Tryz.prog w = .ok (.func (.func 155) #[] #[]) w := fun _ => by kernel_rfl
  go_enter Tryz.func106, Tryz.ntmps106
  go_wp2_with (first | (go_at_call 133; refine (modes_any _).mono ?_; rintro e w' ⟨rfl, rfl⟩))
  go_ret2
  exact ⟨rfl, rfl⟩
set_option maxRecDepth 20000 in
set_option maxHeartbeats 1000000 in
theorem modeFn_11 (b s : Int) (p : Nat) (w : World) (hb : 0 ≤ b ∧ b ≤ 255) (hs : 0 ≤ s ∧ s ≤ 255) (hc : ∀ o, w.cell? ⟨p, o, none⟩ = #[Value.func (.func 156) #[] #[]][o]?) :
    Calls Tryz.prog 134 #[.int .u8 b, .int .u8 s, .pointer (some ⟨p, 0, none⟩)] w fun e w' => e = .returned (.int .u8 (blV 11 b s)) ∧ w = w' := by
  have hr := blV_bd (k := 11) hb hs
  have hF := fun w => modeF_any 11 b s w (by omega) hb hs
  rw [show modeF 11 = 156 by decide] at hF
  generalize blV 11 b s = r at *
  go_enter Tryz.func134, Tryz.ntmps134
  go_wp2_with (first | (go_at_call 156; refine (hF _).mono ?_; rintro e w' ⟨rfl, rfl⟩))
  go_ret
  exact ⟨by rfl, rfl⟩
set_option maxRecDepth 20000 in
set_option maxHeartbeats 2000000 in
theorem Mode_11 (w : World) : Calls Tryz.prog 106 #[.int .i64 11] w fun e w' => e = .returned (.tuple #[.func (.func 134) #[] #[.pointer (some ⟨w.heap.size + 1, 0, none⟩)], .int .i64 0]) ∧ (w.alloc modesO).alloc (.cells #[.func (.func 156) #[] #[]] 113) = w' := by
  have i1 : ∀ w, (Instr.index 189 (.agg #[.func (.func 145) #[] #[], .func (.func 146) #[] #[], .func (.func 147) #[] #[], .func (.func 148) #[] #[], .func (.func 150) #[] #[], .func (.func 151) #[] #[], .func (.func 152) #[] #[], .func (.func 153) #[] #[], .func (.func 149) #[] #[], .func (.func 154) #[] #[], .func (.func 155) #[] #[], .func (.func 156) #[] #[]]) (.int .i64 11)).run Tryz.prog w = .ok (.func (.func 156) #[] #[]) w := fun _ => by kernel_rfl
  go_enter Tryz.func106, Tryz.ntmps106
  go_wp2_with (first | (go_at_call 133; refine (modes_any _).mono ?_; rintro e w' ⟨rfl, rfl⟩))
  go_ret2
  exact ⟨rfl, rfl⟩
theorem modeFn_any (k b s : Int) (p : Nat) (w : World) (hk : 0 ≤ k ∧ k ≤ 11) (hb : 0 ≤ b ∧ b ≤ 255) (hs : 0 ≤ s ∧ s ≤ 255) (hc : ∀ o, w.cell? ⟨p, o, none⟩ = #[Value.func (.func (modeF k)) #[] #[]][o]?) :
    Calls Tryz.prog 134 #[.int .u8 b, .int .u8 s, .pointer (some ⟨p, 0, none⟩)] w fun e w' => e = .returned (.int .u8 (blV k b s)) ∧ w = w' := by
  have : k = 0 ∨ k = 1 ∨ k = 2 ∨ k = 3 ∨ k = 4 ∨ k = 5 ∨ k = 6 ∨ k = 7 ∨ k = 8 ∨ k = 9 ∨ k = 10 ∨ k = 11 := by omega
  rcases this with rfl | rfl | rfl | rfl | rfl | rfl | rfl | rfl | rfl | rfl | rfl | rfl
  · exact modeFn_0 b s p w hb hs hc
  · exact modeFn_1 b s p w hb hs hc
  · exact modeFn_2 b s p w hb hs hc
  · exact modeFn_3 b s p w hb hs hc
  · exact modeFn_4 b s p w hb hs hc
  · exact modeFn_5 b s p w hb hs hc
  · exact modeFn_6 b s p w hb hs hc
  · exact modeFn_7 b s p w hb hs hc
  · exact modeFn_8 b s p w hb hs hc
  · exact modeFn_9 b s p w hb hs hc
  · exact modeFn_10 b s p w hb hs hc
  · exact modeFn_11 b s p w hb hs hc
theorem Mode_any (k : Int) (w : World) (hk : 0 ≤ k ∧ k ≤ 11) : Calls Tryz.prog 106 #[.int .i64 k] w fun e w' => e = .returned (.tuple #[.func (.func 134) #[] #[.pointer (some ⟨w.heap.size + 1, 0, none⟩)], .int .i64 0]) ∧ (w.alloc modesO).alloc (.cells #[.func (.func (modeF k)) #[] #[]] 113) = w' := by
  have : k = 0 ∨ k = 1 ∨ k = 2 ∨ k = 3 ∨ k = 4 ∨ k = 5 ∨ k = 6 ∨ k = 7 ∨ k = 8 ∨ k = 9 ∨ k = 10 ∨ k = 11 := by omega
  rcases this with rfl | rfl | rfl | rfl | rfl | rfl | rfl | rfl | rfl | rfl | rfl | rfl
  · exact Mode_0 w
  · exact Mode_1 w
  · exact Mode_2 w
  · exact Mode_3 w
  · exact Mode_4 w
  · exact Mode_5 w
  · exact Mode_6 w
  · exact Mode_7 w
  · exact Mode_8 w
  · exact Mode_9 w
  · exact Mode_10 w
  · exact Mode_11 w
end Go.Proofs.YticolnghiibgfaaGreat
