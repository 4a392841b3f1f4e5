/-
  The contract of compose.Mix.
-/
import Derived.Test.YtampdegpfndggaaMixed
namespace Go.Proofs.Ytampdegpfndggaa
open Go.RowKit

theorem stE_or (S : Nat → Int) : stE S = 0 ∨ stE S = 4 := by unfold stE; split <;> simp
def mixE (S T : Nat → Int) : Int := if stE S = 0 then stE T else stE S
set_option maxRecDepth 20000 in
set_option maxHeartbeats 4000000 in
theorem Mix_e1 (S T : Nat → Int) (t : Int) (w : World) (hs : stE S = 4) :
    Calls Try.prog 23 #[.agg #[.int .u8 (S 0), .int .u8 (S 1), .int .u8 (S 2), .int .u8 (S 3), .int .u8 (S 4), .int .u8 (S 5), .int .u8 (S 6), .int .u8 (S 7), .int .u8 (S 8)], .agg #[.int .u8 (T 0), .int .u8 (T 1), .int .u8 (T 2), .int .u8 (T 3), .int .u8 (T 4), .int .u8 (T 5), .int .u8 (T 6), .int .u8 (T 7), .int .u8 (T 8)], .int .u8 t] w fun e w' => e = .returned (.tuple #[.agg #[.int .u8 0, .int .u8 0, .int .u8 0, .int .u8 0, .int .u8 0, .int .u8 0, .int .u8 0, .int .u8 0, .int .u8 0], .int .i64 4]) ∧ Below w.heap.size w w' := by
  have HS : Hid _ := hs
  clear hs
  have i0 : ∀ w, (Instr.index 106 (.agg #[.int .u8 (S 0), .int .u8 (S 1), .int .u8 (S 2), .int .u8 (S 3), .int .u8 (S 4), .int .u8 (S 5), .int .u8 (S 6), .int .u8 (S 7), .int .u8 (S 8), .int .u8 (T 0), .int .u8 (T 1), .int .u8 (T 2), .int .u8 (T 3), .int .u8 (T 4), .int .u8 (T 5), .int .u8 (T 6), .int .u8 (T 7), .int .u8 (T 8)]) (.int .i64 0)).run Try.prog w = .ok (.agg #[.int .u8 (S 0), .int .u8 (S 1), .int .u8 (S 2), .int .u8 (S 3), .int .u8 (S 4), .int .u8 (S 5), .int .u8 (S 6), .int .u8 (S 7), .int .u8 (S 8)]) w := fun _ => by kernel_rfl
  have i1 : ∀ w, (Instr.index 106 (.agg #[.int .u8 (S 0), .int .u8 (S 1), .int .u8 (S 2), .int .u8 (S 3), .int .u8 (S 4), .int .u8 (S 5), .int .u8 (S 6), .int .u8 (S 7), .int .u8 (S 8), .int .u8 (T 0), .int .u8 (T 1), .int .u8 (T 2), .int .u8 (T 3), .int .u8 (T 4), .int .u8 (T 5), .int .u8 (T 6), .int .u8 (T 7), .int .u8 (T 8)]) (.int .i64 1)).run Try.prog w = .ok (.agg #[.int .u8 (T 0), .int .u8 (T 1), .int .u8 (T 2), .int .u8 (T 3), .int .u8 (T 4), .int .u8 (T 5), .int .u8 (T 6), .int .u8 (T 7), .int .u8 (T 8)]) w := fun _ => by kernel_rfl
  go_enter Try.func23, Try.ntmps23
  go_wp2_with fail
  obtain ⟨W1, hW1⟩ : ∃ W1, W1 = (((w.alloc (.cells #[Value.int .u8 (S 0), .int .u8 (S 1), .int .u8 (S 2), .int .u8 (S 3), .int .u8 (S 4), .int .u8 (S 5), .int .u8 (S 6), .int .u8 (S 7), .int .u8 (S 8)] 31)).alloc (.cells #[Value.int .u8 (T 0), .int .u8 (T 1), .int .u8 (T 2), .int .u8 (T 3), .int .u8 (T 4), .int .u8 (T 5), .int .u8 (T 6), .int .u8 (T 7), .int .u8 (T 8)] 31)).alloc (.cells #[.int .u8 0, .int .u8 0, .int .u8 0, .int .u8 0, .int .u8 0, .int .u8 0, .int .u8 0, .int .u8 0, .int .u8 0] 31)) := ⟨_, rfl⟩
  rw [← hW1]
  have B1 : Hid (Below w.heap.size w W1) := show Below w.heap.size w W1 by rw [hW1]; (repeat' (with_reducible first | exact Below.refl _ _ | refine past_le ?_ ?_ _ | refine Below.alloc ?_ ?_ _ | refine Below.drew ?_ | refine drewN_le ?_ _ | refine Below.setCell ?_ ?_ _ | refine step_le (by assumption) ?_ ?_ | omega | (simp only []; omega) | (simp only [World.size_alloc]; omega) | (simp only [World.size_setCell]; omega) | (simp only [World.size_drew]; omega) | (simp only [World.size_alloc, World.size_setCell]; omega) | (simp only [World.size_alloc, World.size_drew]; omega) | (simp only [World.size_setCell, World.size_drew]; omega) | (simp only [World.size_alloc, World.size_setCell, World.size_drew]; omega) | (simp only [World.size_alloc, World.size_setCell, World.size_drew, size_drewN]; omega)))
  have CS : Hid (∀ o, o < 9 → W1.cell? ⟨w.heap.size, o, none⟩ = some (.int .u8 (S o))) := show ∀ o, o < 9 → W1.cell? ⟨w.heap.size, o, none⟩ = some (.int .u8 (S o)) from fun o ho => by
    rw [hW1, cell_alloc_if, if_neg (by simp only [World.size_alloc]; omega), cell_alloc_if, if_neg (by simp only [World.size_alloc]; omega), cell_alloc_if, if_pos rfl]
    exact nine S o ho
  have CT : Hid (∀ o, o < 9 → W1.cell? ⟨w.heap.size + 1, o, none⟩ = some (.int .u8 (T o))) := show ∀ o, o < 9 → W1.cell? ⟨w.heap.size + 1, o, none⟩ = some (.int .u8 (T o)) from fun o ho => by
    rw [hW1, cell_alloc_if, if_neg (by simp only [World.size_alloc]; omega), cell_alloc_if, if_pos (by simp only [World.size_alloc])]
    exact nine T o ho
  have CR : Hid (∀ o, W1.cell? ⟨w.heap.size + 1 + 1, o, none⟩ = #[Value.int .u8 0, .int .u8 0, .int .u8 0, .int .u8 0, .int .u8 0, .int .u8 0, .int .u8 0, .int .u8 0, .int .u8 0][o]?) := show ∀ o, W1.cell? ⟨w.heap.size + 1 + 1, o, none⟩ = #[Value.int .u8 0, .int .u8 0, .int .u8 0, .int .u8 0, .int .u8 0, .int .u8 0, .int .u8 0, .int .u8 0, .int .u8 0][o]? from fun o => by
    rw [hW1, cell_alloc_if, if_pos (by simp only [World.size_alloc])]
  have FR : Hid (∀ o, W1.frozen? ⟨w.heap.size + 1 + 1, o, none⟩ = false) := show ∀ o, W1.frozen? ⟨w.heap.size + 1 + 1, o, none⟩ = false from fun o => by
    rw [hW1]; simp [frozen_alloc_if]
  have hz1 : w.heap.size + 1 + 1 < W1.heap.size := by rw [hW1]; simp only [World.size_alloc]; omega
  clear hW1
  go_loopw [14] (fun v wr => ∃ k : Nat, k ≤ 0 ∧ v = .int .i64 k ∧ Below W1.heap.size W1 wr) (fun v _ => 2 - (intOf v).toNat)
  case atStart => exact ⟨0, by omega, rfl, Below.refl _ _⟩
  case round =>
    obtain ⟨k, hk, rfl, hB⟩ := hrel
    have BH : Hid _ := hB
    have hzr := hB.size
    obtain rfl : k = 0 := by omega
    have hr : ∀ o, _ := fun o => (hB.cell (p := ⟨w.heap.size + 1 + 1, o, none⟩) (by show w.heap.size + 1 + 1 < _; omega)).trans (CR.out o)
    have hrF : ∀ o, _ := fun o => (hB.frozen (p := ⟨w.heap.size + 1 + 1, o, none⟩) (by show w.heap.size + 1 + 1 < _; omega)).trans (FR.out o)
    clear hB
    go_wp2_with fail
    refine (composeCheck_any S _).mono ?_
    rw [HS.out]
    rintro e w' ⟨rfl, rfl⟩
    go_wp2_with fail
    have n1 : ¬ w.heap.size + 1 = wr.heap.size := by omega
    have n2 : ¬ w.heap.size + 1 + 1 = wr.heap.size := by omega
    refine bodyPost_ret (by simp [results, Try.results23, go_sem, hr, n1, n2]; try rfl) rfl ?_
    exact ⟨rfl, ((((((((((((B1.out.trans (BH.out.mono B1.out.size)).alloc (by omega) _).alloc (by simp only [World.size_alloc]; omega) _).setCell (by show w.heap.size ≤ w.heap.size + 1 + 1; omega) _).setCell (by show w.heap.size ≤ w.heap.size + 1 + 1; omega) _).setCell (by show w.heap.size ≤ w.heap.size + 1 + 1; omega) _).setCell (by show w.heap.size ≤ w.heap.size + 1 + 1; omega) _).setCell (by show w.heap.size ≤ w.heap.size + 1 + 1; omega) _).setCell (by show w.heap.size ≤ w.heap.size + 1 + 1; omega) _).setCell (by show w.heap.size ≤ w.heap.size + 1 + 1; omega) _).setCell (by show w.heap.size ≤ w.heap.size + 1 + 1; omega) _).setCell (by show w.heap.size ≤ w.heap.size + 1 + 1; omega) _)⟩
set_option maxRecDepth 20000 in
set_option maxHeartbeats 4000000 in
theorem Mix_e2 (S T : Nat → Int) (t : Int) (w : World) (hs : stE S = 0) (ht : stE T = 4) :
    Calls Try.prog 23 #[.agg #[.int .u8 (S 0), .int .u8 (S 1), .int .u8 (S 2), .int .u8 (S 3), .int .u8 (S 4), .int .u8 (S 5), .int .u8 (S 6), .int .u8 (S 7), .int .u8 (S 8)], .agg #[.int .u8 (T 0), .int .u8 (T 1), .int .u8 (T 2), .int .u8 (T 3), .int .u8 (T 4), .int .u8 (T 5), .int .u8 (T 6), .int .u8 (T 7), .int .u8 (T 8)], .int .u8 t] w fun e w' => e = .returned (.tuple #[.agg #[.int .u8 0, .int .u8 0, .int .u8 0, .int .u8 0, .int .u8 0, .int .u8 0, .int .u8 0, .int .u8 0, .int .u8 0], .int .i64 4]) ∧ Below w.heap.size w w' := by
  have HS : Hid _ := hs
  have HT : Hid _ := ht
  clear hs ht
  have i0 : ∀ w, (Instr.index 106 (.agg #[.int .u8 (S 0), .int .u8 (S 1), .int .u8 (S 2), .int .u8 (S 3), .int .u8 (S 4), .int .u8 (S 5), .int .u8 (S 6), .int .u8 (S 7), .int .u8 (S 8), .int .u8 (T 0), .int .u8 (T 1), .int .u8 (T 2), .int .u8 (T 3), .int .u8 (T 4), .int .u8 (T 5), .int .u8 (T 6), .int .u8 (T 7), .int .u8 (T 8)]) (.int .i64 0)).run Try.prog w = .ok (.agg #[.int .u8 (S 0), .int .u8 (S 1), .int .u8 (S 2), .int .u8 (S 3), .int .u8 (S 4), .int .u8 (S 5), .int .u8 (S 6), .int .u8 (S 7), .int .u8 (S 8)]) w := fun _ => by kernel_rfl
  have i1 : ∀ w, (Instr.index 106 (.agg #[.int .u8 (S 0), .int .u8 (S 1), .int .u8 (S 2), .int .u8 (S 3), .int .u8 (S 4), .int .u8 (S 5), .int .u8 (S 6), .int .u8 (S 7), .int .u8 (S 8), .int .u8 (T 0), .int .u8 (T 1), .int .u8 (T 2), .int .u8 (T 3), .int .u8 (T 4), .int .u8 (T 5), .int .u8 (T 6), .int .u8 (T 7), .int .u8 (T 8)]) (.int .i64 1)).run Try.prog w = .ok (.agg #[.int .u8 (T 0), .int .u8 (T 1), .int .u8 (T 2), .int .u8 (T 3), .int .u8 (T 4), .int .u8 (T 5), .int .u8 (T 6), .int .u8 (T 7), .int .u8 (T 8)]) w := fun _ => by kernel_rfl
  go_enter Try.func23, Try.ntmps23
  go_wp2_with fail
  obtain ⟨W1, hW1⟩ : ∃ W1, W1 = (((w.alloc (.cells #[Value.int .u8 (S 0), .int .u8 (S 1), .int .u8 (S 2), .int .u8 (S 3), .int .u8 (S 4), .int .u8 (S 5), .int .u8 (S 6), .int .u8 (S 7), .int .u8 (S 8)] 31)).alloc (.cells #[Value.int .u8 (T 0), .int .u8 (T 1), .int .u8 (T 2), .int .u8 (T 3), .int .u8 (T 4), .int .u8 (T 5), .int .u8 (T 6), .int .u8 (T 7), .int .u8 (T 8)] 31)).alloc (.cells #[.int .u8 0, .int .u8 0, .int .u8 0, .int .u8 0, .int .u8 0, .int .u8 0, .int .u8 0, .int .u8 0, .int .u8 0] 31)) := ⟨_, rfl⟩
  rw [← hW1]
  have B1 : Hid (Below w.heap.size w W1) := show Below w.heap.size w W1 by rw [hW1]; (repeat' (with_reducible first | exact Below.refl _ _ | refine past_le ?_ ?_ _ | refine Below.alloc ?_ ?_ _ | refine Below.drew ?_ | refine drewN_le ?_ _ | refine Below.setCell ?_ ?_ _ | refine step_le (by assumption) ?_ ?_ | omega | (simp only []; omega) | (simp only [World.size_alloc]; omega) | (simp only [World.size_setCell]; omega) | (simp only [World.size_drew]; omega) | (simp only [World.size_alloc, World.size_setCell]; omega) | (simp only [World.size_alloc, World.size_drew]; omega) | (simp only [World.size_setCell, World.size_drew]; omega) | (simp only [World.size_alloc, World.size_setCell, World.size_drew]; omega) | (simp only [World.size_alloc, World.size_setCell, World.size_drew, size_drewN]; omega)))
  have CS : Hid (∀ o, o < 9 → W1.cell? ⟨w.heap.size, o, none⟩ = some (.int .u8 (S o))) := show ∀ o, o < 9 → W1.cell? ⟨w.heap.size, o, none⟩ = some (.int .u8 (S o)) from fun o ho => by
    rw [hW1, cell_alloc_if, if_neg (by simp only [World.size_alloc]; omega), cell_alloc_if, if_neg (by simp only [World.size_alloc]; omega), cell_alloc_if, if_pos rfl]
    exact nine S o ho
  have CT : Hid (∀ o, o < 9 → W1.cell? ⟨w.heap.size + 1, o, none⟩ = some (.int .u8 (T o))) := show ∀ o, o < 9 → W1.cell? ⟨w.heap.size + 1, o, none⟩ = some (.int .u8 (T o)) from fun o ho => by
    rw [hW1, cell_alloc_if, if_neg (by simp only [World.size_alloc]; omega), cell_alloc_if, if_pos (by simp only [World.size_alloc])]
    exact nine T o ho
  have CR : Hid (∀ o, W1.cell? ⟨w.heap.size + 1 + 1, o, none⟩ = #[Value.int .u8 0, .int .u8 0, .int .u8 0, .int .u8 0, .int .u8 0, .int .u8 0, .int .u8 0, .int .u8 0, .int .u8 0][o]?) := show ∀ o, W1.cell? ⟨w.heap.size + 1 + 1, o, none⟩ = #[Value.int .u8 0, .int .u8 0, .int .u8 0, .int .u8 0, .int .u8 0, .int .u8 0, .int .u8 0, .int .u8 0, .int .u8 0][o]? from fun o => by
    rw [hW1, cell_alloc_if, if_pos (by simp only [World.size_alloc])]
  have FR : Hid (∀ o, W1.frozen? ⟨w.heap.size + 1 + 1, o, none⟩ = false) := show ∀ o, W1.frozen? ⟨w.heap.size + 1 + 1, o, none⟩ = false from fun o => by
    rw [hW1]; simp [frozen_alloc_if]
  have hz1 : w.heap.size + 1 + 1 < W1.heap.size := by rw [hW1]; simp only [World.size_alloc]; omega
  clear hW1
  go_loopw [14] (fun v wr => ∃ k : Nat, k ≤ 1 ∧ v = .int .i64 k ∧ Below W1.heap.size W1 wr) (fun v _ => 2 - (intOf v).toNat)
  case atStart => exact ⟨0, by omega, rfl, Below.refl _ _⟩
  case round =>
    obtain ⟨k, hk, rfl, hB⟩ := hrel
    have BH : Hid _ := hB
    have hzr := hB.size
    have hk2 : k = 0 ∨ k = 1 := by omega
    clear hk
    rcases hk2 with rfl | rfl
    · clear hB
      go_wp2_with fail
      refine (composeCheck_any S _).mono ?_
      rw [HS.out]
      rintro e w' ⟨rfl, rfl⟩
      go_wp2_with fail
      go_roundw
      case rel => exact ⟨1, by omega, rfl, BH.out.alloc (by omega) _ |>.alloc (by simp only [World.size_alloc]; omega) _⟩
      case measure => simp [intOf]
    · have hr : ∀ o, _ := fun o => (hB.cell (p := ⟨w.heap.size + 1 + 1, o, none⟩) (by show w.heap.size + 1 + 1 < _; omega)).trans (CR.out o)
      have hrF : ∀ o, _ := fun o => (hB.frozen (p := ⟨w.heap.size + 1 + 1, o, none⟩) (by show w.heap.size + 1 + 1 < _; omega)).trans (FR.out o)
      clear hB
      go_wp2_with fail
      refine (composeCheck_any T _).mono ?_
      rw [HT.out]
      rintro e w' ⟨rfl, rfl⟩
      go_wp2_with fail
      have n1 : ¬ w.heap.size + 1 = wr.heap.size := by omega
      have n2 : ¬ w.heap.size + 1 + 1 = wr.heap.size := by omega
      refine bodyPost_ret (by simp [results, Try.results23, go_sem, hr, n1, n2]; try rfl) rfl ?_
      exact ⟨rfl, ((((((((((((B1.out.trans (BH.out.mono B1.out.size)).alloc (by omega) _).alloc (by simp only [World.size_alloc]; omega) _).setCell (by show w.heap.size ≤ w.heap.size + 1 + 1; omega) _).setCell (by show w.heap.size ≤ w.heap.size + 1 + 1; omega) _).setCell (by show w.heap.size ≤ w.heap.size + 1 + 1; omega) _).setCell (by show w.heap.size ≤ w.heap.size + 1 + 1; omega) _).setCell (by show w.heap.size ≤ w.heap.size + 1 + 1; omega) _).setCell (by show w.heap.size ≤ w.heap.size + 1 + 1; omega) _).setCell (by show w.heap.size ≤ w.heap.size + 1 + 1; omega) _).setCell (by show w.heap.size ≤ w.heap.size + 1 + 1; omega) _).setCell (by show w.heap.size ≤ w.heap.size + 1 + 1; omega) _)⟩
set_option maxRecDepth 20000 in
set_option maxHeartbeats 4000000 in
theorem Mix_ok (S T B : Nat → Int) (t : Int) (w : World) (hs : stE S = 0) (ht : stE T = 0) (hS : ∀ o, o < 9 → 0 ≤ S o ∧ S o ≤ 255) (hT : ∀ o, o < 9 → 0 ≤ T o ∧ T o ≤ 255) (ht2 : 0 ≤ t ∧ t ≤ 255) (hB : ∀ o, o < 9 → B o = betw S T t o) :
    Calls Try.prog 23 #[.agg #[.int .u8 (S 0), .int .u8 (S 1), .int .u8 (S 2), .int .u8 (S 3), .int .u8 (S 4), .int .u8 (S 5), .int .u8 (S 6), .int .u8 (S 7), .int .u8 (S 8)], .agg #[.int .u8 (T 0), .int .u8 (T 1), .int .u8 (T 2), .int .u8 (T 3), .int .u8 (T 4), .int .u8 (T 5), .int .u8 (T 6), .int .u8 (T 7), .int .u8 (T 8)], .int .u8 t] w fun e w' => e = .returned (.tuple #[.agg #[.int .u8 (B 0), .int .u8 (B 1), .int .u8 (B 2), .int .u8 (B 3), .int .u8 (B 4), .int .u8 (B 5), .int .u8 (B 6), .int .u8 (B 7), .int .u8 (B 8)], .int .i64 0]) ∧ Below w.heap.size w w' := by
  have HS : Hid _ := hs
  have HT : Hid _ := ht
  have HB : Hid _ := fun w' => Between_any S T B t w' hS hT ht2 hB
  clear hs ht hS hT hB
  have i0 : ∀ w, (Instr.index 106 (.agg #[.int .u8 (S 0), .int .u8 (S 1), .int .u8 (S 2), .int .u8 (S 3), .int .u8 (S 4), .int .u8 (S 5), .int .u8 (S 6), .int .u8 (S 7), .int .u8 (S 8), .int .u8 (T 0), .int .u8 (T 1), .int .u8 (T 2), .int .u8 (T 3), .int .u8 (T 4), .int .u8 (T 5), .int .u8 (T 6), .int .u8 (T 7), .int .u8 (T 8)]) (.int .i64 0)).run Try.prog w = .ok (.agg #[.int .u8 (S 0), .int .u8 (S 1), .int .u8 (S 2), .int .u8 (S 3), .int .u8 (S 4), .int .u8 (S 5), .int .u8 (S 6), .int .u8 (S 7), .int .u8 (S 8)]) w := fun _ => by kernel_rfl
  have i1 : ∀ w, (Instr.index 106 (.agg #[.int .u8 (S 0), .int .u8 (S 1), .int .u8 (S 2), .int .u8 (S 3), .int .u8 (S 4), .int .u8 (S 5), .int .u8 (S 6), .int .u8 (S 7), .int .u8 (S 8), .int .u8 (T 0), .int .u8 (T 1), .int .u8 (T 2), .int .u8 (T 3), .int .u8 (T 4), .int .u8 (T 5), .int .u8 (T 6), .int .u8 (T 7), .int .u8 (T 8)]) (.int .i64 1)).run Try.prog w = .ok (.agg #[.int .u8 (T 0), .int .u8 (T 1), .int .u8 (T 2), .int .u8 (T 3), .int .u8 (T 4), .int .u8 (T 5), .int .u8 (T 6), .int .u8 (T 7), .int .u8 (T 8)]) w := fun _ => by kernel_rfl
  go_enter Try.func23, Try.ntmps23
  go_wp2_with fail
  obtain ⟨W1, hW1⟩ : ∃ W1, W1 = (((w.alloc (.cells #[Value.int .u8 (S 0), .int .u8 (S 1), .int .u8 (S 2), .int .u8 (S 3), .int .u8 (S 4), .int .u8 (S 5), .int .u8 (S 6), .int .u8 (S 7), .int .u8 (S 8)] 31)).alloc (.cells #[Value.int .u8 (T 0), .int .u8 (T 1), .int .u8 (T 2), .int .u8 (T 3), .int .u8 (T 4), .int .u8 (T 5), .int .u8 (T 6), .int .u8 (T 7), .int .u8 (T 8)] 31)).alloc (.cells #[.int .u8 0, .int .u8 0, .int .u8 0, .int .u8 0, .int .u8 0, .int .u8 0, .int .u8 0, .int .u8 0, .int .u8 0] 31)) := ⟨_, rfl⟩
  rw [← hW1]
  have B1 : Hid (Below w.heap.size w W1) := show Below w.heap.size w W1 by rw [hW1]; (repeat' (with_reducible first | exact Below.refl _ _ | refine past_le ?_ ?_ _ | refine Below.alloc ?_ ?_ _ | refine Below.drew ?_ | refine drewN_le ?_ _ | refine Below.setCell ?_ ?_ _ | refine step_le (by assumption) ?_ ?_ | omega | (simp only []; omega) | (simp only [World.size_alloc]; omega) | (simp only [World.size_setCell]; omega) | (simp only [World.size_drew]; omega) | (simp only [World.size_alloc, World.size_setCell]; omega) | (simp only [World.size_alloc, World.size_drew]; omega) | (simp only [World.size_setCell, World.size_drew]; omega) | (simp only [World.size_alloc, World.size_setCell, World.size_drew]; omega) | (simp only [World.size_alloc, World.size_setCell, World.size_drew, size_drewN]; omega)))
  have CS : Hid (∀ o, o < 9 → W1.cell? ⟨w.heap.size, o, none⟩ = some (.int .u8 (S o))) := show ∀ o, o < 9 → W1.cell? ⟨w.heap.size, o, none⟩ = some (.int .u8 (S o)) from fun o ho => by
    rw [hW1, cell_alloc_if, if_neg (by simp only [World.size_alloc]; omega), cell_alloc_if, if_neg (by simp only [World.size_alloc]; omega), cell_alloc_if, if_pos rfl]
    exact nine S o ho
  have CT : Hid (∀ o, o < 9 → W1.cell? ⟨w.heap.size + 1, o, none⟩ = some (.int .u8 (T o))) := show ∀ o, o < 9 → W1.cell? ⟨w.heap.size + 1, o, none⟩ = some (.int .u8 (T o)) from fun o ho => by
    rw [hW1, cell_alloc_if, if_neg (by simp only [World.size_alloc]; omega), cell_alloc_if, if_pos (by simp only [World.size_alloc])]
    exact nine T o ho
  have CR : Hid (∀ o, W1.cell? ⟨w.heap.size + 1 + 1, o, none⟩ = #[Value.int .u8 0, .int .u8 0, .int .u8 0, .int .u8 0, .int .u8 0, .int .u8 0, .int .u8 0, .int .u8 0, .int .u8 0][o]?) := show ∀ o, W1.cell? ⟨w.heap.size + 1 + 1, o, none⟩ = #[Value.int .u8 0, .int .u8 0, .int .u8 0, .int .u8 0, .int .u8 0, .int .u8 0, .int .u8 0, .int .u8 0, .int .u8 0][o]? from fun o => by
    rw [hW1, cell_alloc_if, if_pos (by simp only [World.size_alloc])]
  have FR : Hid (∀ o, W1.frozen? ⟨w.heap.size + 1 + 1, o, none⟩ = false) := show ∀ o, W1.frozen? ⟨w.heap.size + 1 + 1, o, none⟩ = false from fun o => by
    rw [hW1]; simp [frozen_alloc_if]
  have hz1 : w.heap.size + 1 + 1 < W1.heap.size := by rw [hW1]; simp only [World.size_alloc]; omega
  clear hW1
  go_loopw [14] (fun v wr => ∃ k : Nat, k ≤ 2 ∧ v = .int .i64 k ∧ Below W1.heap.size W1 wr) (fun v _ => 2 - (intOf v).toNat)
  case atStart => exact ⟨0, by omega, rfl, Below.refl _ _⟩
  case round =>
    obtain ⟨k, hk, rfl, hB⟩ := hrel
    have BH : Hid _ := hB
    have hzr := hB.size
    have hk2 : k = 0 ∨ k = 1 ∨ k = 2 := by omega
    clear hk
    rcases hk2 with rfl | rfl | rfl
    · clear hB
      go_wp2_with fail
      refine (composeCheck_any S _).mono ?_
      rw [HS.out]
      rintro e w' ⟨rfl, rfl⟩
      go_wp2_with fail
      go_roundw
      case rel => exact ⟨1, by omega, rfl, BH.out.alloc (by omega) _ |>.alloc (by simp only [World.size_alloc]; omega) _⟩
      case measure => simp [intOf]
    · clear hB
      go_wp2_with fail
      refine (composeCheck_any T _).mono ?_
      rw [HT.out]
      rintro e w' ⟨rfl, rfl⟩
      go_wp2_with fail
      go_roundw
      case rel => exact ⟨2, by omega, rfl, BH.out.alloc (by omega) _ |>.alloc (by simp only [World.size_alloc]; omega) _⟩
      case measure => simp [intOf]
    · have cS : ∀ o, o < 9 → _ := fun o (ho : o < 9) => (hB.cell (p := ⟨w.heap.size, o, none⟩) (by show w.heap.size < _; omega)).trans (CS.out o ho)
      have cT : ∀ o, o < 9 → _ := fun o (ho : o < 9) => (hB.cell (p := ⟨w.heap.size + 1, o, none⟩) (by show w.heap.size + 1 < _; omega)).trans (CT.out o ho)
      have s0 := cS 0 (by omega)
      have t0 := cT 0 (by omega)
      have s1 := cS 1 (by omega)
      have t1 := cT 1 (by omega)
      have s2 := cS 2 (by omega)
      have t2 := cT 2 (by omega)
      have s3 := cS 3 (by omega)
      have t3 := cT 3 (by omega)
      have s4 := cS 4 (by omega)
      have t4 := cT 4 (by omega)
      have s5 := cS 5 (by omega)
      have t5 := cT 5 (by omega)
      have s6 := cS 6 (by omega)
      have t6 := cT 6 (by omega)
      have s7 := cS 7 (by omega)
      have t7 := cT 7 (by omega)
      have s8 := cS 8 (by omega)
      have t8 := cT 8 (by omega)
      clear hB cS cT
      go_wp2_with fail
      refine (HB.out _).mono ?_
      rintro e w' ⟨rfl, hb⟩
      have hr : ∀ o, _ := fun o => (hb.cell (p := ⟨w.heap.size + 1 + 1, o, none⟩) (by show w.heap.size + 1 + 1 < _; omega)).trans ((BH.out.cell (p := ⟨w.heap.size + 1 + 1, o, none⟩) (by show w.heap.size + 1 + 1 < _; omega)).trans (CR.out o))
      have hrF : ∀ o, _ := fun o => (hb.frozen (p := ⟨w.heap.size + 1 + 1, o, none⟩) (by show w.heap.size + 1 + 1 < _; omega)).trans ((BH.out.frozen (p := ⟨w.heap.size + 1 + 1, o, none⟩) (by show w.heap.size + 1 + 1 < _; omega)).trans (FR.out o))
      have BB : Hid (Below w.heap.size w w') := show Below w.heap.size w w' from (B1.out.trans (BH.out.mono B1.out.size)).trans (hb.mono (by omega))
      clear hb
      go_wp2_with fail
      refine bodyPost_ret (by simp [results, Try.results23, go_sem, hr]; try rfl) rfl ?_
      exact ⟨rfl, (((((((((BB.out.setCell (by show w.heap.size ≤ w.heap.size + 1 + 1; omega) _).setCell (by show w.heap.size ≤ w.heap.size + 1 + 1; omega) _).setCell (by show w.heap.size ≤ w.heap.size + 1 + 1; omega) _).setCell (by show w.heap.size ≤ w.heap.size + 1 + 1; omega) _).setCell (by show w.heap.size ≤ w.heap.size + 1 + 1; omega) _).setCell (by show w.heap.size ≤ w.heap.size + 1 + 1; omega) _).setCell (by show w.heap.size ≤ w.heap.size + 1 + 1; omega) _).setCell (by show w.heap.size ≤ w.heap.size + 1 + 1; omega) _).setCell (by show w.heap.size ≤ w.heap.size + 1 + 1; omega) _)⟩
end Go.Proofs.Ytampdegpfndggaa
