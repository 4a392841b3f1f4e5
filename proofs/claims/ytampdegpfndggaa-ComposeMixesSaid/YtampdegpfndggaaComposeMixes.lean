/-
  The walk of the law ComposeMixes: Mix lies between two states.
-/
import Derived.Test.YtampdegpfndggaaComposes
import Derived.Test.YtampdegpfndggaaFlat
namespace Go.Proofs.Ytampdegpfndggaa.composeMixes
open Go.RowKit

set_option maxRecDepth 20000 in
set_option maxHeartbeats 4000000 in
theorem walk_e1 (S T : Nat → Int) (t : Int) (w : World) (hs : stE S = 4) :
    Calls Try.prog 5 #[.agg #[.int .u8 (S 0), .int .u8 (S 1), .int .u8 (S 2), .int .u8 (S 3), .int .u8 (S 4), .int .u8 (S 5), .int .u8 (S 6), .int .u8 (S 7), .int .u8 (S 8)], .agg #[.int .u8 (T 0), .int .u8 (T 1), .int .u8 (T 2), .int .u8 (T 3), .int .u8 (T 4), .int .u8 (T 5), .int .u8 (T 6), .int .u8 (T 7), .int .u8 (T 8)], .int .u8 t] w fun e w' => e = .returned (.bool true) ∧ Below w.heap.size w w' := by
  have HM : Hid _ := fun w' => Mix_e1 S T t w' hs
  go_enter Try.func5, Try.ntmps5
  go_wp2_with fail
  refine (composes_any _).mono ?_
  rintro e w1 ⟨rfl, hb1⟩
  obtain ⟨hc1, hf1, hz1⟩ := bcell hb1
  simp only [World.size_alloc] at hc1 hf1 hz1
  have gS1 : ∀ o, w1.cell? ⟨w.heap.size, o, none⟩ = #[Value.int .u8 (S 0), .int .u8 (S 1), .int .u8 (S 2), .int .u8 (S 3), .int .u8 (S 4), .int .u8 (S 5), .int .u8 (S 6), .int .u8 (S 7), .int .u8 (S 8)][o]? := fun o => by
    rw [hc1, if_pos (by omega), cell_alloc_if, if_neg (by simp only [World.size_alloc]; omega), cell_alloc_if, if_pos rfl]
  have gT1 : ∀ o, w1.cell? ⟨w.heap.size + 1, o, none⟩ = #[Value.int .u8 (T 0), .int .u8 (T 1), .int .u8 (T 2), .int .u8 (T 3), .int .u8 (T 4), .int .u8 (T 5), .int .u8 (T 6), .int .u8 (T 7), .int .u8 (T 8)][o]? := fun o => by
    rw [hc1, if_pos (by omega), cell_alloc_if, if_pos (by simp only [World.size_alloc])]
  have B1 : Hid (Below w.heap.size w w1) := show Below w.heap.size w w1 from step_le hb1 (by (repeat' (with_reducible first | exact Below.refl _ _ | refine past_le ?_ ?_ _ | refine Below.alloc ?_ ?_ _ | refine Below.drew ?_ | refine drewN_le ?_ _ | refine Below.setCell ?_ ?_ _ | refine step_le (by assumption) ?_ ?_ | omega | (simp only []; omega) | (simp only [World.size_alloc]; omega) | (simp only [World.size_setCell]; omega) | (simp only [World.size_drew]; omega) | (simp only [World.size_alloc, World.size_setCell]; omega) | (simp only [World.size_alloc, World.size_drew]; omega) | (simp only [World.size_setCell, World.size_drew]; omega) | (simp only [World.size_alloc, World.size_setCell, World.size_drew]; omega) | (simp only [World.size_alloc, World.size_setCell, World.size_drew, size_drewN]; omega)))) (by simp only [World.size_alloc]; omega)
  clear hb1 hc1 hf1
  go_wp2_with fail
  refine (HM.out _).mono ?_
  rintro e w2 ⟨rfl, hb2⟩
  have hz2 := hb2.size
  have gS2 : ∀ o, w2.cell? ⟨w.heap.size, o, none⟩ = #[Value.int .u8 (S 0), .int .u8 (S 1), .int .u8 (S 2), .int .u8 (S 3), .int .u8 (S 4), .int .u8 (S 5), .int .u8 (S 6), .int .u8 (S 7), .int .u8 (S 8)][o]? := fun o => (hb2.cell (p := ⟨w.heap.size, o, none⟩) (by show w.heap.size < _; omega)).trans (gS1 o)
  have gT2 : ∀ o, w2.cell? ⟨w.heap.size + 1, o, none⟩ = #[Value.int .u8 (T 0), .int .u8 (T 1), .int .u8 (T 2), .int .u8 (T 3), .int .u8 (T 4), .int .u8 (T 5), .int .u8 (T 6), .int .u8 (T 7), .int .u8 (T 8)][o]? := fun o => (hb2.cell (p := ⟨w.heap.size + 1, o, none⟩) (by show w.heap.size + 1 < _; omega)).trans (gT1 o)
  have B2 : Hid (Below w.heap.size w w2) := show Below w.heap.size w w2 from step_le hb2 B1.out B1.out.size
  clear hb2 B1 gS1 gT1
  go_wp2_with fail
  refine (state_any S _).mono ?_
  rintro e w9 ⟨rfl, rfl⟩
  go_wp2_with fail
  obtain ⟨W5, hW5⟩ : ∃ W5, W5 = (w2.alloc (.cells #[.int .u8 0, .int .u8 0, .int .u8 0, .int .u8 0, .int .u8 0, .int .u8 0, .int .u8 0, .int .u8 0, .int .u8 0] 31)).alloc (.cells #[Value.int .u8 (S 0), .int .u8 (S 1), .int .u8 (S 2), .int .u8 (S 3), .int .u8 (S 4), .int .u8 (S 5), .int .u8 (S 6), .int .u8 (S 7), .int .u8 (S 8)] 31) := ⟨_, rfl⟩
  rw [← hW5]
  have B5 : Below w2.heap.size w2 W5 := by rw [hW5]; (repeat' (with_reducible first | exact Below.refl _ _ | refine past_le ?_ ?_ _ | refine Below.alloc ?_ ?_ _ | refine Below.drew ?_ | refine drewN_le ?_ _ | refine Below.setCell ?_ ?_ _ | refine step_le (by assumption) ?_ ?_ | omega | (simp only []; omega) | (simp only [World.size_alloc]; omega) | (simp only [World.size_setCell]; omega) | (simp only [World.size_drew]; omega) | (simp only [World.size_alloc, World.size_setCell]; omega) | (simp only [World.size_alloc, World.size_drew]; omega) | (simp only [World.size_setCell, World.size_drew]; omega) | (simp only [World.size_alloc, World.size_setCell, World.size_drew]; omega) | (simp only [World.size_alloc, World.size_setCell, World.size_drew, size_drewN]; omega)))
  have hz5 : w2.heap.size + 2 ≤ W5.heap.size := by rw [hW5]; simp only [World.size_alloc]; omega
  have gS : ∀ o, W5.cell? ⟨w.heap.size, o, none⟩ = #[Value.int .u8 (S 0), .int .u8 (S 1), .int .u8 (S 2), .int .u8 (S 3), .int .u8 (S 4), .int .u8 (S 5), .int .u8 (S 6), .int .u8 (S 7), .int .u8 (S 8)][o]? := fun o => (B5.cell (p := ⟨w.heap.size, o, none⟩) (by show w.heap.size < _; omega)).trans (gS2 o)
  have gT : ∀ o, W5.cell? ⟨w.heap.size + 1, o, none⟩ = #[Value.int .u8 (T 0), .int .u8 (T 1), .int .u8 (T 2), .int .u8 (T 3), .int .u8 (T 4), .int .u8 (T 5), .int .u8 (T 6), .int .u8 (T 7), .int .u8 (T 8)][o]? := fun o => (B5.cell (p := ⟨w.heap.size + 1, o, none⟩) (by show w.heap.size + 1 < _; omega)).trans (gT2 o)
  have gR : ∀ o, W5.cell? ⟨w2.heap.size, o, none⟩ = #[Value.int .u8 0, .int .u8 0, .int .u8 0, .int .u8 0, .int .u8 0, .int .u8 0, .int .u8 0, .int .u8 0, .int .u8 0][o]? := fun o => by
    rw [hW5, cell_old _ _ _ _ (by simp only [World.size_alloc]; omega), cell_alloc_if, if_pos rfl]
  have BW : Hid (Below w.heap.size w W5) := show Below w.heap.size w W5 from B2.out.trans (B5.mono B2.out.size)
  clear hW5 B5 gS2 gT2 B2
  obtain ⟨VS, hVS⟩ : ∃ VS, VS = Value.agg #[.int .u8 (S 0), .int .u8 (S 1), .int .u8 (S 2), .int .u8 (S 3), .int .u8 (S 4), .int .u8 (S 5), .int .u8 (S 6), .int .u8 (S 7), .int .u8 (S 8)] := ⟨_, rfl⟩
  obtain ⟨VT, hVT⟩ : ∃ VT, VT = Value.agg #[.int .u8 (T 0), .int .u8 (T 1), .int .u8 (T 2), .int .u8 (T 3), .int .u8 (T 4), .int .u8 (T 5), .int .u8 (T 6), .int .u8 (T 7), .int .u8 (T 8)] := ⟨_, rfl⟩
  obtain ⟨VR, hVR⟩ : ∃ VR, VR = Value.agg #[Value.int .u8 0, .int .u8 0, .int .u8 0, .int .u8 0, .int .u8 0, .int .u8 0, .int .u8 0, .int .u8 0, .int .u8 0] := ⟨_, rfl⟩
  have HVS : Hid _ := hVS
  have HVT : Hid _ := hVT
  have HVR : Hid _ := hVR
  have hEq : ∀ w, (Op.equalIn 10000 31 VR VR).run Try.prog w = .ok true w := fun w => by rw [HVR.out]; exact state_refl _ _ _ _ _ _ _ _ _ w
  have hSW5 : ∀ x : Later W5, (loadVar 31 ⟨w.heap.size, 0, none⟩).run Try.prog (past W5 x) = .ok VS (past W5 x) := fun x => by rw [HVS.out]; exact load_past (by omega) gS Try.underlying31 rfl (by kernel_rfl)
  have hTW5 : ∀ x : Later W5, (loadVar 31 ⟨w.heap.size + 1, 0, none⟩).run Try.prog (past W5 x) = .ok VT (past W5 x) := fun x => by rw [HVT.out]; exact load_past (by omega) gT Try.underlying31 rfl (by kernel_rfl)
  have hRW5 : ∀ x : Later W5, (loadVar 31 ⟨w2.heap.size, 0, none⟩).run Try.prog (past W5 x) = .ok VR (past W5 x) := fun x => by rw [HVR.out]; exact load_past (by omega) gR Try.underlying31 rfl (by kernel_rfl)
  have hKW5 : ∀ x : Later W5, Calls Try.prog 21 #[VS] (past W5 x) fun e w' => e = .returned (.int .i64 (stE S)) ∧ ∃ y, w' = past W5 y := fun x => by rw [HVS.out]; exact past_alloc (composeCheck_any S _)
  have hQW5 : ∀ x : Later W5, Calls Try.prog 20 #[VS] (past W5 x) fun e w' => e = .returned (.int .i64 (stE S)) ∧ ∃ y, w' = past W5 y := fun x => by rw [HVS.out]; exact past_alloc (state_any S _)
  rw [← hVS, ← hVT, ← hVR]
  clear hVS hVT hVR
  refine wp_region_past (by kernel_rfl) (by kernel_rfl) ?_
  go_big_quiet_want
  refine quiet_load 31 (.tmp 3) ⟨w.heap.size, 0, none⟩ VS (by rfl) (by rfl) (fun w' hw' => by obtain ⟨x, rfl⟩ := hw'; exact hSW5 x) ?_
  simp only [Act.put, List.setIfInBounds_toArray, List.set_cons_succ, List.set_cons_zero]
  go_big_quiet_on
  go_big_quiet_step ((go_at_call 21; exact hKW5 _))
  go_big_quiet_want
  refine quiet_load 31 (.tmp 3) ⟨w.heap.size, 0, none⟩ VS (by rfl) (by rfl) (fun w' hw' => by obtain ⟨x, rfl⟩ := hw'; exact hSW5 x) ?_
  simp only [Act.put, List.setIfInBounds_toArray, List.set_cons_succ, List.set_cons_zero]
  go_big_quiet_on
  go_big_quiet_step ((go_at_call 20; exact hQW5 _))
  repeat (go_big_quiet_step (fail))
  refine wpQuiet_nil ?_
  rintro w6 ⟨x6, rfl⟩
  have hz6 := past_size W5 x6
  clear hSW5 hTW5 hRW5 hKW5 hQW5
  go_wp2_with fail
  have BP : Hid (Below w.heap.size w (past W5 x6)) := past_le BW.out BW.out.size x6
  have pS : ∀ o, (past W5 x6).cell? ⟨w.heap.size, o, none⟩ = #[Value.int .u8 (S 0), .int .u8 (S 1), .int .u8 (S 2), .int .u8 (S 3), .int .u8 (S 4), .int .u8 (S 5), .int .u8 (S 6), .int .u8 (S 7), .int .u8 (S 8)][o]? := fun o => ((past_below W5 x6).cell (p := ⟨w.heap.size, o, none⟩) (by show w.heap.size < _; omega)).trans (gS o)
  have pT : ∀ o, (past W5 x6).cell? ⟨w.heap.size + 1, o, none⟩ = #[Value.int .u8 (T 0), .int .u8 (T 1), .int .u8 (T 2), .int .u8 (T 3), .int .u8 (T 4), .int .u8 (T 5), .int .u8 (T 6), .int .u8 (T 7), .int .u8 (T 8)][o]? := fun o => ((past_below W5 x6).cell (p := ⟨w.heap.size + 1, o, none⟩) (by show w.heap.size + 1 < _; omega)).trans (gT o)
  have pR : ∀ o, (past W5 x6).cell? ⟨w2.heap.size, o, none⟩ = #[Value.int .u8 0, .int .u8 0, .int .u8 0, .int .u8 0, .int .u8 0, .int .u8 0, .int .u8 0, .int .u8 0, .int .u8 0][o]? := fun o => ((past_below W5 x6).cell (p := ⟨w2.heap.size, o, none⟩) (by show w2.heap.size < _; omega)).trans (gR o)
  generalize past W5 x6 = W7 at *
  clear gS gT gR BW
  have hSW7 : ∀ x : Later W7, (loadVar 31 ⟨w.heap.size, 0, none⟩).run Try.prog (past W7 x) = .ok VS (past W7 x) := fun x => by rw [HVS.out]; exact load_past (by omega) pS Try.underlying31 rfl (by kernel_rfl)
  have hTW7 : ∀ x : Later W7, (loadVar 31 ⟨w.heap.size + 1, 0, none⟩).run Try.prog (past W7 x) = .ok VT (past W7 x) := fun x => by rw [HVT.out]; exact load_past (by omega) pT Try.underlying31 rfl (by kernel_rfl)
  have hRW7 : ∀ x : Later W7, (loadVar 31 ⟨w2.heap.size, 0, none⟩).run Try.prog (past W7 x) = .ok VR (past W7 x) := fun x => by rw [HVR.out]; exact load_past (by omega) pR Try.underlying31 rfl (by kernel_rfl)
  have hKW7 : ∀ x : Later W7, Calls Try.prog 21 #[VS] (past W7 x) fun e w' => e = .returned (.int .i64 (stE S)) ∧ ∃ y, w' = past W7 y := fun x => by rw [HVS.out]; exact past_alloc (composeCheck_any S _)
  have hQW7 : ∀ x : Later W7, Calls Try.prog 20 #[VS] (past W7 x) fun e w' => e = .returned (.int .i64 (stE S)) ∧ ∃ y, w' = past W7 y := fun x => by rw [HVS.out]; exact past_alloc (state_any S _)
  clear pS pT pR
  refine wp_region_past (by kernel_rfl) (by kernel_rfl) ?_
  go_big_quiet_want
  refine quiet_load 31 (.tmp 3) ⟨w.heap.size, 0, none⟩ VS (by rfl) (by rfl) (fun w' hw' => by obtain ⟨x, rfl⟩ := hw'; exact hSW7 x) ?_
  simp only [Act.put, List.setIfInBounds_toArray, List.set_cons_succ, List.set_cons_zero]
  go_big_quiet_on
  go_big_quiet_step ((go_at_call 21; exact hKW7 _))
  go_big_quiet_want
  refine quiet_load 31 (.tmp 3) ⟨w.heap.size, 0, none⟩ VS (by rfl) (by rfl) (fun w' hw' => by obtain ⟨x, rfl⟩ := hw'; exact hSW7 x) ?_
  simp only [Act.put, List.setIfInBounds_toArray, List.set_cons_succ, List.set_cons_zero]
  go_big_quiet_on
  go_big_quiet_step ((go_at_call 20; exact hQW7 _))
  iterate 7 (go_big_quiet_step (fail))
  go_big_quiet_want
  refine quiet_load 31 (.tmp 7) ⟨w2.heap.size, 0, none⟩ VR (by rfl) (by rfl) (fun w' hw' => by obtain ⟨x, rfl⟩ := hw'; exact hRW7 x) ?_
  simp only [Act.put, List.setIfInBounds_toArray, List.set_cons_succ, List.set_cons_zero]
  go_big_quiet_on
  rw [HVR.out]
  repeat (go_big_quiet_step (fail))
  refine wpQuiet_nil ?_
  rintro w8 ⟨x8, rfl⟩
  go_wp2_with fail
  go_ret
  exact ⟨by simp, past_le BP.out BP.out.size x8⟩
set_option maxRecDepth 20000 in
set_option maxHeartbeats 4000000 in
theorem walk_e2 (S T : Nat → Int) (t : Int) (w : World) (hs : stE S = 0) (hst : stE T = 4) :
    Calls Try.prog 5 #[.agg #[.int .u8 (S 0), .int .u8 (S 1), .int .u8 (S 2), .int .u8 (S 3), .int .u8 (S 4), .int .u8 (S 5), .int .u8 (S 6), .int .u8 (S 7), .int .u8 (S 8)], .agg #[.int .u8 (T 0), .int .u8 (T 1), .int .u8 (T 2), .int .u8 (T 3), .int .u8 (T 4), .int .u8 (T 5), .int .u8 (T 6), .int .u8 (T 7), .int .u8 (T 8)], .int .u8 t] w fun e w' => e = .returned (.bool true) ∧ Below w.heap.size w w' := by
  have HM : Hid _ := fun w' => Mix_e2 S T t w' hs hst
  go_enter Try.func5, Try.ntmps5
  go_wp2_with fail
  refine (composes_any _).mono ?_
  rintro e w1 ⟨rfl, hb1⟩
  obtain ⟨hc1, hf1, hz1⟩ := bcell hb1
  simp only [World.size_alloc] at hc1 hf1 hz1
  have gS1 : ∀ o, w1.cell? ⟨w.heap.size, o, none⟩ = #[Value.int .u8 (S 0), .int .u8 (S 1), .int .u8 (S 2), .int .u8 (S 3), .int .u8 (S 4), .int .u8 (S 5), .int .u8 (S 6), .int .u8 (S 7), .int .u8 (S 8)][o]? := fun o => by
    rw [hc1, if_pos (by omega), cell_alloc_if, if_neg (by simp only [World.size_alloc]; omega), cell_alloc_if, if_pos rfl]
  have gT1 : ∀ o, w1.cell? ⟨w.heap.size + 1, o, none⟩ = #[Value.int .u8 (T 0), .int .u8 (T 1), .int .u8 (T 2), .int .u8 (T 3), .int .u8 (T 4), .int .u8 (T 5), .int .u8 (T 6), .int .u8 (T 7), .int .u8 (T 8)][o]? := fun o => by
    rw [hc1, if_pos (by omega), cell_alloc_if, if_pos (by simp only [World.size_alloc])]
  have B1 : Hid (Below w.heap.size w w1) := show Below w.heap.size w w1 from step_le hb1 (by (repeat' (with_reducible first | exact Below.refl _ _ | refine past_le ?_ ?_ _ | refine Below.alloc ?_ ?_ _ | refine Below.drew ?_ | refine drewN_le ?_ _ | refine Below.setCell ?_ ?_ _ | refine step_le (by assumption) ?_ ?_ | omega | (simp only []; omega) | (simp only [World.size_alloc]; omega) | (simp only [World.size_setCell]; omega) | (simp only [World.size_drew]; omega) | (simp only [World.size_alloc, World.size_setCell]; omega) | (simp only [World.size_alloc, World.size_drew]; omega) | (simp only [World.size_setCell, World.size_drew]; omega) | (simp only [World.size_alloc, World.size_setCell, World.size_drew]; omega) | (simp only [World.size_alloc, World.size_setCell, World.size_drew, size_drewN]; omega)))) (by simp only [World.size_alloc]; omega)
  clear hb1 hc1 hf1
  go_wp2_with fail
  refine (HM.out _).mono ?_
  rintro e w2 ⟨rfl, hb2⟩
  have hz2 := hb2.size
  have gS2 : ∀ o, w2.cell? ⟨w.heap.size, o, none⟩ = #[Value.int .u8 (S 0), .int .u8 (S 1), .int .u8 (S 2), .int .u8 (S 3), .int .u8 (S 4), .int .u8 (S 5), .int .u8 (S 6), .int .u8 (S 7), .int .u8 (S 8)][o]? := fun o => (hb2.cell (p := ⟨w.heap.size, o, none⟩) (by show w.heap.size < _; omega)).trans (gS1 o)
  have gT2 : ∀ o, w2.cell? ⟨w.heap.size + 1, o, none⟩ = #[Value.int .u8 (T 0), .int .u8 (T 1), .int .u8 (T 2), .int .u8 (T 3), .int .u8 (T 4), .int .u8 (T 5), .int .u8 (T 6), .int .u8 (T 7), .int .u8 (T 8)][o]? := fun o => (hb2.cell (p := ⟨w.heap.size + 1, o, none⟩) (by show w.heap.size + 1 < _; omega)).trans (gT1 o)
  have B2 : Hid (Below w.heap.size w w2) := show Below w.heap.size w w2 from step_le hb2 B1.out B1.out.size
  clear hb2 B1 gS1 gT1
  go_wp2_with fail
  refine (state_any S _).mono ?_
  rintro e w9 ⟨rfl, rfl⟩
  go_wp2_with fail
  refine (state_any T _).mono ?_
  rintro e w9 ⟨rfl, rfl⟩
  go_wp2_with fail
  obtain ⟨W5, hW5⟩ : ∃ W5, W5 = ((w2.alloc (.cells #[.int .u8 0, .int .u8 0, .int .u8 0, .int .u8 0, .int .u8 0, .int .u8 0, .int .u8 0, .int .u8 0, .int .u8 0] 31)).alloc (.cells #[Value.int .u8 (S 0), .int .u8 (S 1), .int .u8 (S 2), .int .u8 (S 3), .int .u8 (S 4), .int .u8 (S 5), .int .u8 (S 6), .int .u8 (S 7), .int .u8 (S 8)] 31)).alloc (.cells #[Value.int .u8 (T 0), .int .u8 (T 1), .int .u8 (T 2), .int .u8 (T 3), .int .u8 (T 4), .int .u8 (T 5), .int .u8 (T 6), .int .u8 (T 7), .int .u8 (T 8)] 31) := ⟨_, rfl⟩
  rw [← hW5]
  have B5 : Below w2.heap.size w2 W5 := by rw [hW5]; (repeat' (with_reducible first | exact Below.refl _ _ | refine past_le ?_ ?_ _ | refine Below.alloc ?_ ?_ _ | refine Below.drew ?_ | refine drewN_le ?_ _ | refine Below.setCell ?_ ?_ _ | refine step_le (by assumption) ?_ ?_ | omega | (simp only []; omega) | (simp only [World.size_alloc]; omega) | (simp only [World.size_setCell]; omega) | (simp only [World.size_drew]; omega) | (simp only [World.size_alloc, World.size_setCell]; omega) | (simp only [World.size_alloc, World.size_drew]; omega) | (simp only [World.size_setCell, World.size_drew]; omega) | (simp only [World.size_alloc, World.size_setCell, World.size_drew]; omega) | (simp only [World.size_alloc, World.size_setCell, World.size_drew, size_drewN]; omega)))
  have hz5 : w2.heap.size + 2 ≤ W5.heap.size := by rw [hW5]; simp only [World.size_alloc]; omega
  have gS : ∀ o, W5.cell? ⟨w.heap.size, o, none⟩ = #[Value.int .u8 (S 0), .int .u8 (S 1), .int .u8 (S 2), .int .u8 (S 3), .int .u8 (S 4), .int .u8 (S 5), .int .u8 (S 6), .int .u8 (S 7), .int .u8 (S 8)][o]? := fun o => (B5.cell (p := ⟨w.heap.size, o, none⟩) (by show w.heap.size < _; omega)).trans (gS2 o)
  have gT : ∀ o, W5.cell? ⟨w.heap.size + 1, o, none⟩ = #[Value.int .u8 (T 0), .int .u8 (T 1), .int .u8 (T 2), .int .u8 (T 3), .int .u8 (T 4), .int .u8 (T 5), .int .u8 (T 6), .int .u8 (T 7), .int .u8 (T 8)][o]? := fun o => (B5.cell (p := ⟨w.heap.size + 1, o, none⟩) (by show w.heap.size + 1 < _; omega)).trans (gT2 o)
  have gR : ∀ o, W5.cell? ⟨w2.heap.size, o, none⟩ = #[Value.int .u8 0, .int .u8 0, .int .u8 0, .int .u8 0, .int .u8 0, .int .u8 0, .int .u8 0, .int .u8 0, .int .u8 0][o]? := fun o => by
    rw [hW5, cell_old _ _ _ _ (by simp only [World.size_alloc]; omega), cell_old _ _ _ _ (by simp only [World.size_alloc]; omega), cell_alloc_if, if_pos rfl]
  have BW : Hid (Below w.heap.size w W5) := show Below w.heap.size w W5 from B2.out.trans (B5.mono B2.out.size)
  clear hW5 B5 gS2 gT2 B2
  obtain ⟨VS, hVS⟩ : ∃ VS, VS = Value.agg #[.int .u8 (S 0), .int .u8 (S 1), .int .u8 (S 2), .int .u8 (S 3), .int .u8 (S 4), .int .u8 (S 5), .int .u8 (S 6), .int .u8 (S 7), .int .u8 (S 8)] := ⟨_, rfl⟩
  obtain ⟨VT, hVT⟩ : ∃ VT, VT = Value.agg #[.int .u8 (T 0), .int .u8 (T 1), .int .u8 (T 2), .int .u8 (T 3), .int .u8 (T 4), .int .u8 (T 5), .int .u8 (T 6), .int .u8 (T 7), .int .u8 (T 8)] := ⟨_, rfl⟩
  obtain ⟨VR, hVR⟩ : ∃ VR, VR = Value.agg #[Value.int .u8 0, .int .u8 0, .int .u8 0, .int .u8 0, .int .u8 0, .int .u8 0, .int .u8 0, .int .u8 0, .int .u8 0] := ⟨_, rfl⟩
  have HVS : Hid _ := hVS
  have HVT : Hid _ := hVT
  have HVR : Hid _ := hVR
  have hEq : ∀ w, (Op.equalIn 10000 31 VR VR).run Try.prog w = .ok true w := fun w => by rw [HVR.out]; exact state_refl _ _ _ _ _ _ _ _ _ w
  have hSW5 : ∀ x : Later W5, (loadVar 31 ⟨w.heap.size, 0, none⟩).run Try.prog (past W5 x) = .ok VS (past W5 x) := fun x => by rw [HVS.out]; exact load_past (by omega) gS Try.underlying31 rfl (by kernel_rfl)
  have hTW5 : ∀ x : Later W5, (loadVar 31 ⟨w.heap.size + 1, 0, none⟩).run Try.prog (past W5 x) = .ok VT (past W5 x) := fun x => by rw [HVT.out]; exact load_past (by omega) gT Try.underlying31 rfl (by kernel_rfl)
  have hRW5 : ∀ x : Later W5, (loadVar 31 ⟨w2.heap.size, 0, none⟩).run Try.prog (past W5 x) = .ok VR (past W5 x) := fun x => by rw [HVR.out]; exact load_past (by omega) gR Try.underlying31 rfl (by kernel_rfl)
  have hKW5 : ∀ x : Later W5, Calls Try.prog 21 #[VS] (past W5 x) fun e w' => e = .returned (.int .i64 (stE S)) ∧ ∃ y, w' = past W5 y := fun x => by rw [HVS.out]; exact past_alloc (composeCheck_any S _)
  have hQW5 : ∀ x : Later W5, Calls Try.prog 20 #[VS] (past W5 x) fun e w' => e = .returned (.int .i64 (stE S)) ∧ ∃ y, w' = past W5 y := fun x => by rw [HVS.out]; exact past_alloc (state_any S _)
  rw [← hVS, ← hVT, ← hVR]
  clear hVS hVT hVR
  refine wp_region_past (by kernel_rfl) (by kernel_rfl) ?_
  go_big_quiet_want
  refine quiet_load 31 (.tmp 3) ⟨w.heap.size, 0, none⟩ VS (by rfl) (by rfl) (fun w' hw' => by obtain ⟨x, rfl⟩ := hw'; exact hSW5 x) ?_
  simp only [Act.put, List.setIfInBounds_toArray, List.set_cons_succ, List.set_cons_zero]
  go_big_quiet_on
  go_big_quiet_step ((go_at_call 21; exact hKW5 _))
  go_big_quiet_want
  refine quiet_load 31 (.tmp 3) ⟨w.heap.size, 0, none⟩ VS (by rfl) (by rfl) (fun w' hw' => by obtain ⟨x, rfl⟩ := hw'; exact hSW5 x) ?_
  simp only [Act.put, List.setIfInBounds_toArray, List.set_cons_succ, List.set_cons_zero]
  go_big_quiet_on
  go_big_quiet_step ((go_at_call 20; exact hQW5 _))
  repeat (go_big_quiet_step (fail))
  refine wpQuiet_nil ?_
  rintro w6 ⟨x6, rfl⟩
  have hz6 := past_size W5 x6
  clear hSW5 hTW5 hRW5 hKW5 hQW5
  go_wp2_with fail
  have BP : Hid (Below w.heap.size w (past W5 x6)) := past_le BW.out BW.out.size x6
  have pS : ∀ o, (past W5 x6).cell? ⟨w.heap.size, o, none⟩ = #[Value.int .u8 (S 0), .int .u8 (S 1), .int .u8 (S 2), .int .u8 (S 3), .int .u8 (S 4), .int .u8 (S 5), .int .u8 (S 6), .int .u8 (S 7), .int .u8 (S 8)][o]? := fun o => ((past_below W5 x6).cell (p := ⟨w.heap.size, o, none⟩) (by show w.heap.size < _; omega)).trans (gS o)
  have pT : ∀ o, (past W5 x6).cell? ⟨w.heap.size + 1, o, none⟩ = #[Value.int .u8 (T 0), .int .u8 (T 1), .int .u8 (T 2), .int .u8 (T 3), .int .u8 (T 4), .int .u8 (T 5), .int .u8 (T 6), .int .u8 (T 7), .int .u8 (T 8)][o]? := fun o => ((past_below W5 x6).cell (p := ⟨w.heap.size + 1, o, none⟩) (by show w.heap.size + 1 < _; omega)).trans (gT o)
  have pR : ∀ o, (past W5 x6).cell? ⟨w2.heap.size, o, none⟩ = #[Value.int .u8 0, .int .u8 0, .int .u8 0, .int .u8 0, .int .u8 0, .int .u8 0, .int .u8 0, .int .u8 0, .int .u8 0][o]? := fun o => ((past_below W5 x6).cell (p := ⟨w2.heap.size, o, none⟩) (by show w2.heap.size < _; omega)).trans (gR o)
  generalize past W5 x6 = W7 at *
  clear gS gT gR BW
  have hSW7 : ∀ x : Later W7, (loadVar 31 ⟨w.heap.size, 0, none⟩).run Try.prog (past W7 x) = .ok VS (past W7 x) := fun x => by rw [HVS.out]; exact load_past (by omega) pS Try.underlying31 rfl (by kernel_rfl)
  have hTW7 : ∀ x : Later W7, (loadVar 31 ⟨w.heap.size + 1, 0, none⟩).run Try.prog (past W7 x) = .ok VT (past W7 x) := fun x => by rw [HVT.out]; exact load_past (by omega) pT Try.underlying31 rfl (by kernel_rfl)
  have hRW7 : ∀ x : Later W7, (loadVar 31 ⟨w2.heap.size, 0, none⟩).run Try.prog (past W7 x) = .ok VR (past W7 x) := fun x => by rw [HVR.out]; exact load_past (by omega) pR Try.underlying31 rfl (by kernel_rfl)
  have hKW7 : ∀ x : Later W7, Calls Try.prog 21 #[VS] (past W7 x) fun e w' => e = .returned (.int .i64 (stE S)) ∧ ∃ y, w' = past W7 y := fun x => by rw [HVS.out]; exact past_alloc (composeCheck_any S _)
  have hQW7 : ∀ x : Later W7, Calls Try.prog 20 #[VS] (past W7 x) fun e w' => e = .returned (.int .i64 (stE S)) ∧ ∃ y, w' = past W7 y := fun x => by rw [HVS.out]; exact past_alloc (state_any S _)
  clear pS pT pR
  refine wp_region_past (by kernel_rfl) (by kernel_rfl) ?_
  go_big_quiet_want
  refine quiet_load 31 (.tmp 3) ⟨w.heap.size, 0, none⟩ VS (by rfl) (by rfl) (fun w' hw' => by obtain ⟨x, rfl⟩ := hw'; exact hSW7 x) ?_
  simp only [Act.put, List.setIfInBounds_toArray, List.set_cons_succ, List.set_cons_zero]
  go_big_quiet_on
  go_big_quiet_step ((go_at_call 21; exact hKW7 _))
  go_big_quiet_want
  refine quiet_load 31 (.tmp 3) ⟨w.heap.size, 0, none⟩ VS (by rfl) (by rfl) (fun w' hw' => by obtain ⟨x, rfl⟩ := hw'; exact hSW7 x) ?_
  simp only [Act.put, List.setIfInBounds_toArray, List.set_cons_succ, List.set_cons_zero]
  go_big_quiet_on
  go_big_quiet_step ((go_at_call 20; exact hQW7 _))
  iterate 7 (go_big_quiet_step (fail))
  go_big_quiet_want
  refine quiet_load 31 (.tmp 7) ⟨w2.heap.size, 0, none⟩ VR (by rfl) (by rfl) (fun w' hw' => by obtain ⟨x, rfl⟩ := hw'; exact hRW7 x) ?_
  simp only [Act.put, List.setIfInBounds_toArray, List.set_cons_succ, List.set_cons_zero]
  go_big_quiet_on
  rw [HVR.out]
  repeat (go_big_quiet_step (fail))
  refine wpQuiet_nil ?_
  rintro w8 ⟨x8, rfl⟩
  go_wp2_with fail
  go_ret
  exact ⟨by simp, past_le BP.out BP.out.size x8⟩
set_option maxRecDepth 20000 in
set_option maxHeartbeats 4000000 in
theorem walk_ok (S T : Nat → Int) (t : Int) (w : World) (hs : stE S = 0) (hst : stE T = 0) (hS : ∀ o, o < 9 → 0 ≤ S o ∧ S o ≤ 255) (hT : ∀ o, o < 9 → 0 ≤ T o ∧ T o ≤ 255) (ht : 0 ≤ t ∧ t ≤ 255) :
    Calls Try.prog 5 #[.agg #[.int .u8 (S 0), .int .u8 (S 1), .int .u8 (S 2), .int .u8 (S 3), .int .u8 (S 4), .int .u8 (S 5), .int .u8 (S 6), .int .u8 (S 7), .int .u8 (S 8)], .agg #[.int .u8 (T 0), .int .u8 (T 1), .int .u8 (T 2), .int .u8 (T 3), .int .u8 (T 4), .int .u8 (T 5), .int .u8 (T 6), .int .u8 (T 7), .int .u8 (T 8)], .int .u8 t] w fun e w' => e = .returned (.bool true) ∧ Below w.heap.size w w' := by
  obtain ⟨B, hB⟩ : ∃ B, B = betw S T t := ⟨_, rfl⟩
  have HM : Hid _ := fun w' => Mix_ok S T B t w' hs hst hS hT ht (fun o ho => by rw [hB])
  have HX : Hid _ := fun w' => Mixed_any S T B t w' hS hT ht (fun o ho => by rw [hB])
  clear hB hS hT
  go_enter Try.func5, Try.ntmps5
  go_wp2_with fail
  refine (composes_any _).mono ?_
  rintro e w1 ⟨rfl, hb1⟩
  obtain ⟨hc1, hf1, hz1⟩ := bcell hb1
  simp only [World.size_alloc] at hc1 hf1 hz1
  have gS1 : ∀ o, w1.cell? ⟨w.heap.size, o, none⟩ = #[Value.int .u8 (S 0), .int .u8 (S 1), .int .u8 (S 2), .int .u8 (S 3), .int .u8 (S 4), .int .u8 (S 5), .int .u8 (S 6), .int .u8 (S 7), .int .u8 (S 8)][o]? := fun o => by
    rw [hc1, if_pos (by omega), cell_alloc_if, if_neg (by simp only [World.size_alloc]; omega), cell_alloc_if, if_pos rfl]
  have gT1 : ∀ o, w1.cell? ⟨w.heap.size + 1, o, none⟩ = #[Value.int .u8 (T 0), .int .u8 (T 1), .int .u8 (T 2), .int .u8 (T 3), .int .u8 (T 4), .int .u8 (T 5), .int .u8 (T 6), .int .u8 (T 7), .int .u8 (T 8)][o]? := fun o => by
    rw [hc1, if_pos (by omega), cell_alloc_if, if_pos (by simp only [World.size_alloc])]
  have B1 : Hid (Below w.heap.size w w1) := show Below w.heap.size w w1 from step_le hb1 (by (repeat' (with_reducible first | exact Below.refl _ _ | refine past_le ?_ ?_ _ | refine Below.alloc ?_ ?_ _ | refine Below.drew ?_ | refine drewN_le ?_ _ | refine Below.setCell ?_ ?_ _ | refine step_le (by assumption) ?_ ?_ | omega | (simp only []; omega) | (simp only [World.size_alloc]; omega) | (simp only [World.size_setCell]; omega) | (simp only [World.size_drew]; omega) | (simp only [World.size_alloc, World.size_setCell]; omega) | (simp only [World.size_alloc, World.size_drew]; omega) | (simp only [World.size_setCell, World.size_drew]; omega) | (simp only [World.size_alloc, World.size_setCell, World.size_drew]; omega) | (simp only [World.size_alloc, World.size_setCell, World.size_drew, size_drewN]; omega)))) (by simp only [World.size_alloc]; omega)
  clear hb1 hc1 hf1
  go_wp2_with fail
  refine (HM.out _).mono ?_
  rintro e w2 ⟨rfl, hb2⟩
  have hz2 := hb2.size
  have gS2 : ∀ o, w2.cell? ⟨w.heap.size, o, none⟩ = #[Value.int .u8 (S 0), .int .u8 (S 1), .int .u8 (S 2), .int .u8 (S 3), .int .u8 (S 4), .int .u8 (S 5), .int .u8 (S 6), .int .u8 (S 7), .int .u8 (S 8)][o]? := fun o => (hb2.cell (p := ⟨w.heap.size, o, none⟩) (by show w.heap.size < _; omega)).trans (gS1 o)
  have gT2 : ∀ o, w2.cell? ⟨w.heap.size + 1, o, none⟩ = #[Value.int .u8 (T 0), .int .u8 (T 1), .int .u8 (T 2), .int .u8 (T 3), .int .u8 (T 4), .int .u8 (T 5), .int .u8 (T 6), .int .u8 (T 7), .int .u8 (T 8)][o]? := fun o => (hb2.cell (p := ⟨w.heap.size + 1, o, none⟩) (by show w.heap.size + 1 < _; omega)).trans (gT1 o)
  have B2 : Hid (Below w.heap.size w w2) := show Below w.heap.size w w2 from step_le hb2 B1.out B1.out.size
  clear hb2 B1 gS1 gT1
  go_wp2_with fail
  refine (state_any S _).mono ?_
  rintro e w9 ⟨rfl, rfl⟩
  go_wp2_with fail
  refine (state_any T _).mono ?_
  rintro e w9 ⟨rfl, rfl⟩
  go_wp2_with fail
  obtain ⟨W5, hW5⟩ : ∃ W5, W5 = ((w2.alloc (.cells #[Value.int .u8 (B 0), .int .u8 (B 1), .int .u8 (B 2), .int .u8 (B 3), .int .u8 (B 4), .int .u8 (B 5), .int .u8 (B 6), .int .u8 (B 7), .int .u8 (B 8)] 31)).alloc (.cells #[Value.int .u8 (S 0), .int .u8 (S 1), .int .u8 (S 2), .int .u8 (S 3), .int .u8 (S 4), .int .u8 (S 5), .int .u8 (S 6), .int .u8 (S 7), .int .u8 (S 8)] 31)).alloc (.cells #[Value.int .u8 (T 0), .int .u8 (T 1), .int .u8 (T 2), .int .u8 (T 3), .int .u8 (T 4), .int .u8 (T 5), .int .u8 (T 6), .int .u8 (T 7), .int .u8 (T 8)] 31) := ⟨_, rfl⟩
  rw [← hW5]
  have B5 : Below w2.heap.size w2 W5 := by rw [hW5]; (repeat' (with_reducible first | exact Below.refl _ _ | refine past_le ?_ ?_ _ | refine Below.alloc ?_ ?_ _ | refine Below.drew ?_ | refine drewN_le ?_ _ | refine Below.setCell ?_ ?_ _ | refine step_le (by assumption) ?_ ?_ | omega | (simp only []; omega) | (simp only [World.size_alloc]; omega) | (simp only [World.size_setCell]; omega) | (simp only [World.size_drew]; omega) | (simp only [World.size_alloc, World.size_setCell]; omega) | (simp only [World.size_alloc, World.size_drew]; omega) | (simp only [World.size_setCell, World.size_drew]; omega) | (simp only [World.size_alloc, World.size_setCell, World.size_drew]; omega) | (simp only [World.size_alloc, World.size_setCell, World.size_drew, size_drewN]; omega)))
  have hz5 : w2.heap.size + 2 ≤ W5.heap.size := by rw [hW5]; simp only [World.size_alloc]; omega
  have gS : ∀ o, W5.cell? ⟨w.heap.size, o, none⟩ = #[Value.int .u8 (S 0), .int .u8 (S 1), .int .u8 (S 2), .int .u8 (S 3), .int .u8 (S 4), .int .u8 (S 5), .int .u8 (S 6), .int .u8 (S 7), .int .u8 (S 8)][o]? := fun o => (B5.cell (p := ⟨w.heap.size, o, none⟩) (by show w.heap.size < _; omega)).trans (gS2 o)
  have gT : ∀ o, W5.cell? ⟨w.heap.size + 1, o, none⟩ = #[Value.int .u8 (T 0), .int .u8 (T 1), .int .u8 (T 2), .int .u8 (T 3), .int .u8 (T 4), .int .u8 (T 5), .int .u8 (T 6), .int .u8 (T 7), .int .u8 (T 8)][o]? := fun o => (B5.cell (p := ⟨w.heap.size + 1, o, none⟩) (by show w.heap.size + 1 < _; omega)).trans (gT2 o)
  have gR : ∀ o, W5.cell? ⟨w2.heap.size, o, none⟩ = #[Value.int .u8 (B 0), .int .u8 (B 1), .int .u8 (B 2), .int .u8 (B 3), .int .u8 (B 4), .int .u8 (B 5), .int .u8 (B 6), .int .u8 (B 7), .int .u8 (B 8)][o]? := fun o => by
    rw [hW5, cell_old _ _ _ _ (by simp only [World.size_alloc]; omega), cell_old _ _ _ _ (by simp only [World.size_alloc]; omega), cell_alloc_if, if_pos rfl]
  have BW : Hid (Below w.heap.size w W5) := show Below w.heap.size w W5 from B2.out.trans (B5.mono B2.out.size)
  clear hW5 B5 gS2 gT2 B2
  obtain ⟨VS, hVS⟩ : ∃ VS, VS = Value.agg #[.int .u8 (S 0), .int .u8 (S 1), .int .u8 (S 2), .int .u8 (S 3), .int .u8 (S 4), .int .u8 (S 5), .int .u8 (S 6), .int .u8 (S 7), .int .u8 (S 8)] := ⟨_, rfl⟩
  obtain ⟨VT, hVT⟩ : ∃ VT, VT = Value.agg #[.int .u8 (T 0), .int .u8 (T 1), .int .u8 (T 2), .int .u8 (T 3), .int .u8 (T 4), .int .u8 (T 5), .int .u8 (T 6), .int .u8 (T 7), .int .u8 (T 8)] := ⟨_, rfl⟩
  obtain ⟨VR, hVR⟩ : ∃ VR, VR = Value.agg #[.int .u8 (B 0), .int .u8 (B 1), .int .u8 (B 2), .int .u8 (B 3), .int .u8 (B 4), .int .u8 (B 5), .int .u8 (B 6), .int .u8 (B 7), .int .u8 (B 8)] := ⟨_, rfl⟩
  have HVS : Hid _ := hVS
  have HVT : Hid _ := hVT
  have HVR : Hid _ := hVR
  have hEq : ∀ w, (Op.equalIn 10000 31 VR VR).run Try.prog w = .ok true w := fun w => by rw [HVR.out]; exact state_refl _ _ _ _ _ _ _ _ _ w
  have hSW5 : ∀ x : Later W5, (loadVar 31 ⟨w.heap.size, 0, none⟩).run Try.prog (past W5 x) = .ok VS (past W5 x) := fun x => by rw [HVS.out]; exact load_past (by omega) gS Try.underlying31 rfl (by kernel_rfl)
  have hTW5 : ∀ x : Later W5, (loadVar 31 ⟨w.heap.size + 1, 0, none⟩).run Try.prog (past W5 x) = .ok VT (past W5 x) := fun x => by rw [HVT.out]; exact load_past (by omega) gT Try.underlying31 rfl (by kernel_rfl)
  have hRW5 : ∀ x : Later W5, (loadVar 31 ⟨w2.heap.size, 0, none⟩).run Try.prog (past W5 x) = .ok VR (past W5 x) := fun x => by rw [HVR.out]; exact load_past (by omega) gR Try.underlying31 rfl (by kernel_rfl)
  have hKW5 : ∀ x : Later W5, Calls Try.prog 21 #[VS] (past W5 x) fun e w' => e = .returned (.int .i64 (stE S)) ∧ ∃ y, w' = past W5 y := fun x => by rw [HVS.out]; exact past_alloc (composeCheck_any S _)
  have hQW5 : ∀ x : Later W5, Calls Try.prog 20 #[VS] (past W5 x) fun e w' => e = .returned (.int .i64 (stE S)) ∧ ∃ y, w' = past W5 y := fun x => by rw [HVS.out]; exact past_alloc (state_any S _)
  have hXW5 : ∀ x : Later W5, Calls Try.prog 24 #[VS, VT, .int .i64 t] (past W5 x) fun e w' => e = .returned VR ∧ ∃ y, w' = past W5 y := fun x => by rw [HVS.out, HVT.out, HVR.out]; exact past_call (HX.out _)
  rw [← hVS, ← hVT, ← hVR]
  clear hVS hVT hVR
  refine wp_region_past (by kernel_rfl) (by kernel_rfl) ?_
  go_big_quiet_want
  refine quiet_load 31 (.tmp 3) ⟨w.heap.size, 0, none⟩ VS (by rfl) (by rfl) (fun w' hw' => by obtain ⟨x, rfl⟩ := hw'; exact hSW5 x) ?_
  simp only [Act.put, List.setIfInBounds_toArray, List.set_cons_succ, List.set_cons_zero]
  go_big_quiet_on
  go_big_quiet_step ((go_at_call 21; exact hKW5 _))
  go_big_quiet_want
  refine quiet_load 31 (.tmp 3) ⟨w.heap.size, 0, none⟩ VS (by rfl) (by rfl) (fun w' hw' => by obtain ⟨x, rfl⟩ := hw'; exact hSW5 x) ?_
  simp only [Act.put, List.setIfInBounds_toArray, List.set_cons_succ, List.set_cons_zero]
  go_big_quiet_on
  go_big_quiet_step ((go_at_call 20; exact hQW5 _))
  repeat (go_big_quiet_step (fail))
  refine wpQuiet_nil ?_
  rintro w6 ⟨x6, rfl⟩
  have hz6 := past_size W5 x6
  clear hSW5 hTW5 hRW5 hKW5 hQW5 hXW5
  go_wp2_with fail
  have BP : Hid (Below w.heap.size w (past W5 x6)) := past_le BW.out BW.out.size x6
  have pS : ∀ o, (past W5 x6).cell? ⟨w.heap.size, o, none⟩ = #[Value.int .u8 (S 0), .int .u8 (S 1), .int .u8 (S 2), .int .u8 (S 3), .int .u8 (S 4), .int .u8 (S 5), .int .u8 (S 6), .int .u8 (S 7), .int .u8 (S 8)][o]? := fun o => ((past_below W5 x6).cell (p := ⟨w.heap.size, o, none⟩) (by show w.heap.size < _; omega)).trans (gS o)
  have pT : ∀ o, (past W5 x6).cell? ⟨w.heap.size + 1, o, none⟩ = #[Value.int .u8 (T 0), .int .u8 (T 1), .int .u8 (T 2), .int .u8 (T 3), .int .u8 (T 4), .int .u8 (T 5), .int .u8 (T 6), .int .u8 (T 7), .int .u8 (T 8)][o]? := fun o => ((past_below W5 x6).cell (p := ⟨w.heap.size + 1, o, none⟩) (by show w.heap.size + 1 < _; omega)).trans (gT o)
  have pR : ∀ o, (past W5 x6).cell? ⟨w2.heap.size, o, none⟩ = #[Value.int .u8 (B 0), .int .u8 (B 1), .int .u8 (B 2), .int .u8 (B 3), .int .u8 (B 4), .int .u8 (B 5), .int .u8 (B 6), .int .u8 (B 7), .int .u8 (B 8)][o]? := fun o => ((past_below W5 x6).cell (p := ⟨w2.heap.size, o, none⟩) (by show w2.heap.size < _; omega)).trans (gR o)
  generalize past W5 x6 = W7 at *
  clear gS gT gR BW
  have hSW7 : ∀ x : Later W7, (loadVar 31 ⟨w.heap.size, 0, none⟩).run Try.prog (past W7 x) = .ok VS (past W7 x) := fun x => by rw [HVS.out]; exact load_past (by omega) pS Try.underlying31 rfl (by kernel_rfl)
  have hTW7 : ∀ x : Later W7, (loadVar 31 ⟨w.heap.size + 1, 0, none⟩).run Try.prog (past W7 x) = .ok VT (past W7 x) := fun x => by rw [HVT.out]; exact load_past (by omega) pT Try.underlying31 rfl (by kernel_rfl)
  have hRW7 : ∀ x : Later W7, (loadVar 31 ⟨w2.heap.size, 0, none⟩).run Try.prog (past W7 x) = .ok VR (past W7 x) := fun x => by rw [HVR.out]; exact load_past (by omega) pR Try.underlying31 rfl (by kernel_rfl)
  have hKW7 : ∀ x : Later W7, Calls Try.prog 21 #[VS] (past W7 x) fun e w' => e = .returned (.int .i64 (stE S)) ∧ ∃ y, w' = past W7 y := fun x => by rw [HVS.out]; exact past_alloc (composeCheck_any S _)
  have hQW7 : ∀ x : Later W7, Calls Try.prog 20 #[VS] (past W7 x) fun e w' => e = .returned (.int .i64 (stE S)) ∧ ∃ y, w' = past W7 y := fun x => by rw [HVS.out]; exact past_alloc (state_any S _)
  have hXW7 : ∀ x : Later W7, Calls Try.prog 24 #[VS, VT, .int .i64 t] (past W7 x) fun e w' => e = .returned VR ∧ ∃ y, w' = past W7 y := fun x => by rw [HVS.out, HVT.out, HVR.out]; exact past_call (HX.out _)
  clear pS pT pR
  refine wp_region_past (by kernel_rfl) (by kernel_rfl) ?_
  iterate 3 (go_big_quiet_step (fail))
  go_big_quiet_want
  refine quiet_load 31 (.tmp 7) ⟨w2.heap.size, 0, none⟩ VR (by rfl) (by rfl) (fun w' hw' => by obtain ⟨x, rfl⟩ := hw'; exact hRW7 x) ?_
  simp only [Act.put, List.setIfInBounds_toArray, List.set_cons_succ, List.set_cons_zero]
  go_big_quiet_on
  go_big_quiet_want
  refine quiet_load 31 (.tmp 3) ⟨w.heap.size, 0, none⟩ VS (by rfl) (by rfl) (fun w' hw' => by obtain ⟨x, rfl⟩ := hw'; exact hSW7 x) ?_
  simp only [Act.put, List.setIfInBounds_toArray, List.set_cons_succ, List.set_cons_zero]
  go_big_quiet_on
  go_big_quiet_want
  refine quiet_load 31 (.tmp 4) ⟨w.heap.size + 1, 0, none⟩ VT (by rfl) (by rfl) (fun w' hw' => by obtain ⟨x, rfl⟩ := hw'; exact hTW7 x) ?_
  simp only [Act.put, List.setIfInBounds_toArray, List.set_cons_succ, List.set_cons_zero]
  go_big_quiet_on
  iterate 2 (go_big_quiet_step (fail))
  go_big_quiet_step ((go_at_call 24; exact hXW7 _))
  rw [HVR.out]
  repeat (go_big_quiet_step (fail))
  refine wpQuiet_nil ?_
  rintro w8 ⟨x8, rfl⟩
  go_wp2_with fail
  go_ret
  exact ⟨by simp, past_le BP.out BP.out.size x8⟩
theorem u8_bd {z : Int} (h : (Lit.int .u8 z).wf = true) : 0 ≤ z ∧ z ≤ 255 := by
  simp [Lit.wf, IntKind.min, IntKind.max, IntKind.signed, IntKind.bits] at h
  omega
set_option linter.unusedVariables false in
theorem walk (a0x0 : Int) (a0x1 : Int) (a0x2 : Int) (a0x3 : Int) (a0x4 : Int) (a0x5 : Int) (a0x6 : Int) (a0x7 : Int) (a0x8 : Int) (a1x0 : Int) (a1x1 : Int) (a1x2 : Int) (a1x3 : Int) (a1x4 : Int) (a1x5 : Int) (a1x6 : Int) (a1x7 : Int) (a1x8 : Int) (a2 : Int) (w : World) (w0x0 : (Lit.int .u8 a0x0).wf = true) (w0x1 : (Lit.int .u8 a0x1).wf = true) (w0x2 : (Lit.int .u8 a0x2).wf = true) (w0x3 : (Lit.int .u8 a0x3).wf = true) (w0x4 : (Lit.int .u8 a0x4).wf = true) (w0x5 : (Lit.int .u8 a0x5).wf = true) (w0x6 : (Lit.int .u8 a0x6).wf = true) (w0x7 : (Lit.int .u8 a0x7).wf = true) (w0x8 : (Lit.int .u8 a0x8).wf = true) (w1x0 : (Lit.int .u8 a1x0).wf = true) (w1x1 : (Lit.int .u8 a1x1).wf = true) (w1x2 : (Lit.int .u8 a1x2).wf = true) (w1x3 : (Lit.int .u8 a1x3).wf = true) (w1x4 : (Lit.int .u8 a1x4).wf = true) (w1x5 : (Lit.int .u8 a1x5).wf = true) (w1x6 : (Lit.int .u8 a1x6).wf = true) (w1x7 : (Lit.int .u8 a1x7).wf = true) (w1x8 : (Lit.int .u8 a1x8).wf = true) (w2 : (Lit.int .u8 a2).wf = true) :
    Calls Try.prog 5 #[.agg #[.int .u8 a0x0, .int .u8 a0x1, .int .u8 a0x2, .int .u8 a0x3, .int .u8 a0x4, .int .u8 a0x5, .int .u8 a0x6, .int .u8 a0x7, .int .u8 a0x8], .agg #[.int .u8 a1x0, .int .u8 a1x1, .int .u8 a1x2, .int .u8 a1x3, .int .u8 a1x4, .int .u8 a1x5, .int .u8 a1x6, .int .u8 a1x7, .int .u8 a1x8], .int .u8 a2] w fun e w' => e = .returned (.bool true) ∧ Below w.heap.size w w' := by
  have hS : ∀ o, o < 9 → 0 ≤ [a0x0, a0x1, a0x2, a0x3, a0x4, a0x5, a0x6, a0x7, a0x8].getD o 0 ∧ [a0x0, a0x1, a0x2, a0x3, a0x4, a0x5, a0x6, a0x7, a0x8].getD o 0 ≤ 255 := fun o ho => by
      have ho' : o = 0 ∨ o = 1 ∨ o = 2 ∨ o = 3 ∨ o = 4 ∨ o = 5 ∨ o = 6 ∨ o = 7 ∨ o = 8 := by omega
      rcases ho' with rfl | rfl | rfl | rfl | rfl | rfl | rfl | rfl | rfl
      · exact u8_bd w0x0
      · exact u8_bd w0x1
      · exact u8_bd w0x2
      · exact u8_bd w0x3
      · exact u8_bd w0x4
      · exact u8_bd w0x5
      · exact u8_bd w0x6
      · exact u8_bd w0x7
      · exact u8_bd w0x8
  have hT : ∀ o, o < 9 → 0 ≤ [a1x0, a1x1, a1x2, a1x3, a1x4, a1x5, a1x6, a1x7, a1x8].getD o 0 ∧ [a1x0, a1x1, a1x2, a1x3, a1x4, a1x5, a1x6, a1x7, a1x8].getD o 0 ≤ 255 := fun o ho => by
      have ho' : o = 0 ∨ o = 1 ∨ o = 2 ∨ o = 3 ∨ o = 4 ∨ o = 5 ∨ o = 6 ∨ o = 7 ∨ o = 8 := by omega
      rcases ho' with rfl | rfl | rfl | rfl | rfl | rfl | rfl | rfl | rfl
      · exact u8_bd w1x0
      · exact u8_bd w1x1
      · exact u8_bd w1x2
      · exact u8_bd w1x3
      · exact u8_bd w1x4
      · exact u8_bd w1x5
      · exact u8_bd w1x6
      · exact u8_bd w1x7
      · exact u8_bd w1x8
  rcases stE_or (fun o => [a0x0, a0x1, a0x2, a0x3, a0x4, a0x5, a0x6, a0x7, a0x8].getD o 0) with hs | hs
  · rcases stE_or (fun o => [a1x0, a1x1, a1x2, a1x3, a1x4, a1x5, a1x6, a1x7, a1x8].getD o 0) with hst | hst
    · exact walk_ok (fun o => [a0x0, a0x1, a0x2, a0x3, a0x4, a0x5, a0x6, a0x7, a0x8].getD o 0) (fun o => [a1x0, a1x1, a1x2, a1x3, a1x4, a1x5, a1x6, a1x7, a1x8].getD o 0) a2 w hs hst hS hT (u8_bd w2)
    · exact walk_e2 (fun o => [a0x0, a0x1, a0x2, a0x3, a0x4, a0x5, a0x6, a0x7, a0x8].getD o 0) (fun o => [a1x0, a1x1, a1x2, a1x3, a1x4, a1x5, a1x6, a1x7, a1x8].getD o 0) a2 w hs hst
  · exact walk_e1 (fun o => [a0x0, a0x1, a0x2, a0x3, a0x4, a0x5, a0x6, a0x7, a0x8].getD o 0) (fun o => [a1x0, a1x1, a1x2, a1x3, a1x4, a1x5, a1x6, a1x7, a1x8].getD o 0) a2 w hs
end Go.Proofs.Ytampdegpfndggaa.composeMixes
