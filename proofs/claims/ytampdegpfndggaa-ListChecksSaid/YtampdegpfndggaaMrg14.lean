/-
  Merged: XComposeMix, XOver.
-/
import Derived.Test.YtampdegpfndggaaMrg12
import Derived.Test.YtampdegpfndggaaMrg13
namespace Go.Proofs.Ytampdegpfndggaa
open Go.RowKit

theorem stE_or (S : Nat → Int) : stE S = 0 ∨ stE S = 4 := by unfold stE; split <;> simp
def mixE (S T : Nat → Int) : Int := if stE S = 0 then stE T else stE S
set_option maxRecDepth 20000 in
set_option maxHeartbeats 4000000 in
theorem Mix_e1 (S T : Nat → Int) (t : Int) (w : World) (hs : stE S = 4) :
    Calls Try.prog 23 #[.agg #[.int .u8 (S 0), .int .u8 (S 1), .int .u8 (S 2), .int .u8 (S 3), .int .u8 (S 4), .int .u8 (S 5), .int .u8 (S 6), .int .u8 (S 7), .int .u8 (S 8)], .agg #[.int .u8 (T 0), .int .u8 (T 1), .int .u8 (T 2), .int .u8 (T 3), .int .u8 (T 4), .int .u8 (T 5), .int .u8 (T 6), .int .u8 (T 7), .int .u8 (T 8)], .int .u8 t] w fun e w' => e = .returned (.tuple #[.agg #[.int .u8 0, .int .u8 0, .int .u8 0, .int .u8 0, .int .u8 0, .int .u8 0, .int .u8 0, .int .u8 0, .int .u8 0], .int .i64 4]) ∧ Below w.heap.size w w' := by
  have HS : Hid _ := hs
  clear hs
  have i0 : ∀ w, (Instr.index 106 (.agg #[.int .u8 (S 0), .int .u8 (S 1), .int .u8 (S 2), .int .u8 (S 3), .int .u8 (S 4), .int .u8 (S 5), .int .u8 (S 6), .int .u8 (S 7), .int .u8 (S 8), .int .u8 (T 0), .int .u8 (T 1), .int .u8 (T 2), .int .u8 (T 3), .int .u8 (T 4), .int .u8 (T 5), .int .u8 (T 6), .int .u8 (T 7), .int .u8 (T 8)]) (.int .i64 0)).run Try.prog w = .ok (.agg #[.int .u8 (S 0), .int .u8 (S 1), .int .u8 (S 2), .int .u8 (S 3), .int .u8 (S 4), .int .u8 (S 5), .int .u8 (S 6), .int .u8 (S 7), .int .u8 (S 8)]) w := fun _ => by kernel_rfl
  have i1 : ∀ w, (Instr.index 106 (.agg #[.int .u8 (S 0), .int .u8 (S 1), .int .u8 (S 2), .int .u8 (S 3), .int .u8 (S 4), .int .u8 (S 5), .int .u8 (S 6), .int .u8 (S 7), .int .u8 (S 8), .int .u8 (T 0), .int .u8 (T 1), .int .u8 (T 2), .int .u8 (T 3), .int .u8 (T 4), .int .u8 (T 5), .int .u8 (T 6), .int .u8 (T 7), .int .u8 (T 8)]) (.int .i64 1)).run Try.prog w = .ok (.agg #[.int .u8 (T 0), .int .u8 (T 1), .int .u8 (T 2), .int .u8 (T 3), .int .u8 (T 4), .int .u8 (T 5), .int .u8 (T 6), .int .u8 (T 7), .int .u8 (T 8)]) w := fun _ => by kernel_rfl
  go_enter Try.func23, Try.ntmps23
  go_wp2_with fail
  obtain ⟨W1, hW1⟩ : ∃ W1, W1 = (((w.alloc (.cells #[Value.int .u8 (S 0), .int .u8 (S 1), .int .u8 (S 2), .int .u8 (S 3), .int .u8 (S 4), .int .u8 (S 5), .int .u8 (S 6), .int .u8 (S 7), .int .u8 (S 8)] 31)).alloc (.cells #[Value.int .u8 (T 0), .int .u8 (T 1), .int .u8 (T 2), .int .u8 (T 3), .int .u8 (T 4), .int .u8 (T 5), .int .u8 (T 6), .int .u8 (T 7), .int .u8 (T 8)] 31)).alloc (.cells #[.int .u8 0, .int .u8 0, .int .u8 0, .int .u8 0, .int .u8 0, .int .u8 0, .int .u8 0, .int .u8 0, .int .u8 0] 31)) := ⟨_, rfl⟩
  rw [← hW1]
  have B1 : Hid (Below w.heap.size w W1) := show Below w.heap.size w W1 by rw [hW1]; (repeat' (with_reducible first | exact Below.refl _ _ | refine past_le ?_ ?_ _ | refine Below.alloc ?_ ?_ _ | refine Below.drew ?_ | refine drewN_le ?_ _ | refine Below.setCell ?_ ?_ _ | refine step_le (by assumption) ?_ ?_ | omega | (simp only []; omega) | (simp only [World.size_alloc]; omega) | (simp only [World.size_setCell]; omega) | (simp only [World.size_drew]; omega) | (simp only [World.size_alloc, World.size_setCell]; omega) | (simp only [World.size_alloc, World.size_drew]; omega) | (simp only [World.size_setCell, World.size_drew]; omega) | (simp only [World.size_alloc, World.size_setCell, World.size_drew]; omega) | (simp only [World.size_alloc, World.size_setCell, World.size_drew, size_drewN]; omega)))
  have CS : Hid (∀ o, o < 9 → W1.cell? ⟨w.heap.size, o, none⟩ = some (.int .u8 (S o))) := show ∀ o, o < 9 → W1.cell? ⟨w.heap.size, o, none⟩ = some (.int .u8 (S o)) from fun o ho => by
    rw [hW1, cell_alloc_if, if_neg (by simp only [World.size_alloc]; omega), cell_alloc_if, if_neg (by simp only [World.size_alloc]; omega), cell_alloc_if, if_pos rfl]
    exact nine S o ho
  have CT : Hid (∀ o, o < 9 → W1.cell? ⟨w.heap.size + 1, o, none⟩ = some (.int .u8 (T o))) := show ∀ o, o < 9 → W1.cell? ⟨w.heap.size + 1, o, none⟩ = some (.int .u8 (T o)) from fun o ho => by
    rw [hW1, cell_alloc_if, if_neg (by simp only [World.size_alloc]; omega), cell_alloc_if, if_pos (by simp only [World.size_alloc])]
    exact nine T o ho
  have CR : Hid (∀ o, W1.cell? ⟨w.heap.size + 1 + 1, o, none⟩ = #[Value.int .u8 0, .int .u8 0, .int .u8 0, .int .u8 0, .int .u8 0, .int .u8 0, .int .u8 0, .int .u8 0, .int .u8 0][o]?) := show ∀ o, W1.cell? ⟨w.heap.size + 1 + 1, o, none⟩ = #[Value.int .u8 0, .int .u8 0, .int .u8 0, .int .u8 0, .int .u8 0, .int .u8 0, .int .u8 0, .int .u8 0, .int .u8 0][o]? from fun o => by
    rw [hW1, cell_alloc_if, if_pos (by simp only [World.size_alloc])]
  have FR : Hid (∀ o, W1.frozen? ⟨w.heap.size + 1 + 1, o, none⟩ = false) := show ∀ o, W1.frozen? ⟨w.heap.size + 1 + 1, o, none⟩ = false from fun o => by
    rw [hW1]; simp [frozen_alloc_if]
  have hz1 : w.heap.size + 1 + 1 < W1.heap.size := by rw [hW1]; simp only [World.size_alloc]; omega
  clear hW1
  go_loopw [14] (fun v wr => ∃ k : Nat, k ≤ 0 ∧ v = .int .i64 k ∧ Below W1.heap.size W1 wr) (fun v _ => 2 - (intOf v).toNat)
  case atStart => exact ⟨0, by omega, rfl, Below.refl _ _⟩
  case round =>
    obtain ⟨k, hk, rfl, hB⟩ := hrel
    have BH : Hid _ := hB
    have hzr := hB.size
    obtain rfl : k = 0 := by omega
    have hr : ∀ o, _ := fun o => (hB.cell (p := ⟨w.heap.size + 1 + 1, o, none⟩) (by show w.heap.size + 1 + 1 < _; omega)).trans (CR.out o)
    have hrF : ∀ o, _ := fun o => (hB.frozen (p := ⟨w.heap.size + 1 + 1, o, none⟩) (by show w.heap.size + 1 + 1 < _; omega)).trans (FR.out o)
    clear hB
    go_wp2_with fail
    refine (composeCheck_any S _).mono ?_
    rw [HS.out]
    rintro e w' ⟨rfl, rfl⟩
    go_wp2_with fail
    have n1 : ¬ w.heap.size + 1 = wr.heap.size := by omega
    have n2 : ¬ w.heap.size + 1 + 1 = wr.heap.size := by omega
    refine bodyPost_ret (by simp [results, Try.results23, go_sem, hr, n1, n2]; try rfl) rfl ?_
    exact ⟨rfl, ((((((((((((B1.out.trans (BH.out.mono B1.out.size)).alloc (by omega) _).alloc (by simp only [World.size_alloc]; omega) _).setCell (by show w.heap.size ≤ w.heap.size + 1 + 1; omega) _).setCell (by show w.heap.size ≤ w.heap.size + 1 + 1; omega) _).setCell (by show w.heap.size ≤ w.heap.size + 1 + 1; omega) _).setCell (by show w.heap.size ≤ w.heap.size + 1 + 1; omega) _).setCell (by show w.heap.size ≤ w.heap.size + 1 + 1; omega) _).setCell (by show w.heap.size ≤ w.heap.size + 1 + 1; omega) _).setCell (by show w.heap.size ≤ w.heap.size + 1 + 1; omega) _).setCell (by show w.heap.size ≤ w.heap.size + 1 + 1; omega) _).setCell (by show w.heap.size ≤ w.heap.size + 1 + 1; omega) _)⟩
set_option maxRecDepth 20000 in
set_option maxHeartbeats 4000000 in
theorem Mix_e2 (S T : Nat → Int) (t : Int) (w : World) (hs : stE S = 0) (ht : stE T = 4) :
    Calls Try.prog 23 #[.agg #[.int .u8 (S 0), .int .u8 (S 1), .int .u8 (S 2), .int .u8 (S 3), .int .u8 (S 4), .int .u8 (S 5), .int .u8 (S 6), .int .u8 (S 7), .int .u8 (S 8)], .agg #[.int .u8 (T 0), .int .u8 (T 1), .int .u8 (T 2), .int .u8 (T 3), .int .u8 (T 4), .int .u8 (T 5), .int .u8 (T 6), .int .u8 (T 7), .int .u8 (T 8)], .int .u8 t] w fun e w' => e = .returned (.tuple #[.agg #[.int .u8 0, .int .u8 0, .int .u8 0, .int .u8 0, .int .u8 0, .int .u8 0, .int .u8 0, .int .u8 0, .int .u8 0], .int .i64 4]) ∧ Below w.heap.size w w' := by
  have HS : Hid _ := hs
  have HT : Hid _ := ht
  clear hs ht
  have i0 : ∀ w, (Instr.index 106 (.agg #[.int .u8 (S 0), .int .u8 (S 1), .int .u8 (S 2), .int .u8 (S 3), .int .u8 (S 4), .int .u8 (S 5), .int .u8 (S 6), .int .u8 (S 7), .int .u8 (S 8), .int .u8 (T 0), .int .u8 (T 1), .int .u8 (T 2), .int .u8 (T 3), .int .u8 (T 4), .int .u8 (T 5), .int .u8 (T 6), .int .u8 (T 7), .int .u8 (T 8)]) (.int .i64 0)).run Try.prog w = .ok (.agg #[.int .u8 (S 0), .int .u8 (S 1), .int .u8 (S 2), .int .u8 (S 3), .int .u8 (S 4), .int .u8 (S 5), .int .u8 (S 6), .int .u8 (S 7), .int .u8 (S 8)]) w := fun _ => by kernel_rfl
  have i1 : ∀ w, (Instr.index 106 (.agg #[.int .u8 (S 0), .int .u8 (S 1), .int .u8 (S 2), .int .u8 (S 3), .int .u8 (S 4), .int .u8 (S 5), .int .u8 (S 6), .int .u8 (S 7), .int .u8 (S 8), .int .u8 (T 0), .int .u8 (T 1), .int .u8 (T 2), .int .u8 (T 3), .int .u8 (T 4), .int .u8 (T 5), .int .u8 (T 6), .int .u8 (T 7), .int .u8 (T 8)]) (.int .i64 1)).run Try.prog w = .ok (.agg #[.int .u8 (T 0), .int .u8 (T 1), .int .u8 (T 2), .int .u8 (T 3), .int .u8 (T 4), .int .u8 (T 5), .int .u8 (T 6), .int .u8 (T 7), .int .u8 (T 8)]) w := fun _ => by kernel_rfl
  go_enter Try.func23, Try.ntmps23
  go_wp2_with fail
  obtain ⟨W1, hW1⟩ : ∃ W1, W1 = (((w.alloc (.cells #[Value.int .u8 (S 0), .int .u8 (S 1), .int .u8 (S 2), .int .u8 (S 3), .int .u8 (S 4), .int .u8 (S 5), .int .u8 (S 6), .int .u8 (S 7), .int .u8 (S 8)] 31)).alloc (.cells #[Value.int .u8 (T 0), .int .u8 (T 1), .int .u8 (T 2), .int .u8 (T 3), .int .u8 (T 4), .int .u8 (T 5), .int .u8 (T 6), .int .u8 (T 7), .int .u8 (T 8)] 31)).alloc (.cells #[.int .u8 0, .int .u8 0, .int .u8 0, .int .u8 0, .int .u8 0, .int .u8 0, .int .u8 0, .int .u8 0, .int .u8 0] 31)) := ⟨_, rfl⟩
  rw [← hW1]
  have B1 : Hid (Below w.heap.size w W1) := show Below w.heap.size w W1 by rw [hW1]; (repeat' (with_reducible first | exact Below.refl _ _ | refine past_le ?_ ?_ _ | refine Below.alloc ?_ ?_ _ | refine Below.drew ?_ | refine drewN_le ?_ _ | refine Below.setCell ?_ ?_ _ | refine step_le (by assumption) ?_ ?_ | omega | (simp only []; omega) | (simp only [World.size_alloc]; omega) | (simp only [World.size_setCell]; omega) | (simp only [World.size_drew]; omega) | (simp only [World.size_alloc, World.size_setCell]; omega) | (simp only [World.size_alloc, World.size_drew]; omega) | (simp only [World.size_setCell, World.size_drew]; omega) | (simp only [World.size_alloc, World.size_setCell, World.size_drew]; omega) | (simp only [World.size_alloc, World.size_setCell, World.size_drew, size_drewN]; omega)))
  have CS : Hid (∀ o, o < 9 → W1.cell? ⟨w.heap.size, o, none⟩ = some (.int .u8 (S o))) := show ∀ o, o < 9 → W1.cell? ⟨w.heap.size, o, none⟩ = some (.int .u8 (S o)) from fun o ho => by
    rw [hW1, cell_alloc_if, if_neg (by simp only [World.size_alloc]; omega), cell_alloc_if, if_neg (by simp only [World.size_alloc]; omega), cell_alloc_if, if_pos rfl]
    exact nine S o ho
  have CT : Hid (∀ o, o < 9 → W1.cell? ⟨w.heap.size + 1, o, none⟩ = some (.int .u8 (T o))) := show ∀ o, o < 9 → W1.cell? ⟨w.heap.size + 1, o, none⟩ = some (.int .u8 (T o)) from fun o ho => by
    rw [hW1, cell_alloc_if, if_neg (by simp only [World.size_alloc]; omega), cell_alloc_if, if_pos (by simp only [World.size_alloc])]
    exact nine T o ho
  have CR : Hid (∀ o, W1.cell? ⟨w.heap.size + 1 + 1, o, none⟩ = #[Value.int .u8 0, .int .u8 0, .int .u8 0, .int .u8 0, .int .u8 0, .int .u8 0, .int .u8 0, .int .u8 0, .int .u8 0][o]?) := show ∀ o, W1.cell? ⟨w.heap.size + 1 + 1, o, none⟩ = #[Value.int .u8 0, .int .u8 0, .int .u8 0, .int .u8 0, .int .u8 0, .int .u8 0, .int .u8 0, .int .u8 0, .int .u8 0][o]? from fun o => by
    rw [hW1, cell_alloc_if, if_pos (by simp only [World.size_alloc])]
  have FR : Hid (∀ o, W1.frozen? ⟨w.heap.size + 1 + 1, o, none⟩ = false) := show ∀ o, W1.frozen? ⟨w.heap.size + 1 + 1, o, none⟩ = false from fun o => by
    rw [hW1]; simp [frozen_alloc_if]
  have hz1 : w.heap.size + 1 + 1 < W1.heap.size := by rw [hW1]; simp only [World.size_alloc]; omega
  clear hW1
  go_loopw [14] (fun v wr => ∃ k : Nat, k ≤ 1 ∧ v = .int .i64 k ∧ Below W1.heap.size W1 wr) (fun v _ => 2 - (intOf v).toNat)
  case atStart => exact ⟨0, by omega, rfl, Below.refl _ _⟩
  case round =>
    obtain ⟨k, hk, rfl, hB⟩ := hrel
    have BH : Hid _ := hB
    have hzr := hB.size
    have hk2 : k = 0 ∨ k = 1 := by omega
    clear hk
    rcases hk2 with rfl | rfl
    · clear hB
      go_wp2_with fail
      refine (composeCheck_any S _).mono ?_
      rw [HS.out]
      rintro e w' ⟨rfl, rfl⟩
      go_wp2_with fail
      go_roundw
      case rel => exact ⟨1, by omega, rfl, BH.out.alloc (by omega) _ |>.alloc (by simp only [World.size_alloc]; omega) _⟩
      case measure => simp [intOf]
    · have hr : ∀ o, _ := fun o => (hB.cell (p := ⟨w.heap.size + 1 + 1, o, none⟩) (by show w.heap.size + 1 + 1 < _; omega)).trans (CR.out o)
      have hrF : ∀ o, _ := fun o => (hB.frozen (p := ⟨w.heap.size + 1 + 1, o, none⟩) (by show w.heap.size + 1 + 1 < _; omega)).trans (FR.out o)
      clear hB
      go_wp2_with fail
      refine (composeCheck_any T _).mono ?_
      rw [HT.out]
      rintro e w' ⟨rfl, rfl⟩
      go_wp2_with fail
      have n1 : ¬ w.heap.size + 1 = wr.heap.size := by omega
      have n2 : ¬ w.heap.size + 1 + 1 = wr.heap.size := by omega
      refine bodyPost_ret (by simp [results, Try.results23, go_sem, hr, n1, n2]; try rfl) rfl ?_
      exact ⟨rfl, ((((((((((((B1.out.trans (BH.out.mono B1.out.size)).alloc (by omega) _).alloc (by simp only [World.size_alloc]; omega) _).setCell (by show w.heap.size ≤ w.heap.size + 1 + 1; omega) _).setCell (by show w.heap.size ≤ w.heap.size + 1 + 1; omega) _).setCell (by show w.heap.size ≤ w.heap.size + 1 + 1; omega) _).setCell (by show w.heap.size ≤ w.heap.size + 1 + 1; omega) _).setCell (by show w.heap.size ≤ w.heap.size + 1 + 1; omega) _).setCell (by show w.heap.size ≤ w.heap.size + 1 + 1; omega) _).setCell (by show w.heap.size ≤ w.heap.size + 1 + 1; omega) _).setCell (by show w.heap.size ≤ w.heap.size + 1 + 1; omega) _).setCell (by show w.heap.size ≤ w.heap.size + 1 + 1; omega) _)⟩
set_option maxRecDepth 20000 in
set_option maxHeartbeats 4000000 in
theorem Mix_ok (S T B : Nat → Int) (t : Int) (w : World) (hs : stE S = 0) (ht : stE T = 0) (hS : ∀ o, o < 9 → 0 ≤ S o ∧ S o ≤ 255) (hT : ∀ o, o < 9 → 0 ≤ T o ∧ T o ≤ 255) (ht2 : 0 ≤ t ∧ t ≤ 255) (hB : ∀ o, o < 9 → B o = betw S T t o) :
    Calls Try.prog 23 #[.agg #[.int .u8 (S 0), .int .u8 (S 1), .int .u8 (S 2), .int .u8 (S 3), .int .u8 (S 4), .int .u8 (S 5), .int .u8 (S 6), .int .u8 (S 7), .int .u8 (S 8)], .agg #[.int .u8 (T 0), .int .u8 (T 1), .int .u8 (T 2), .int .u8 (T 3), .int .u8 (T 4), .int .u8 (T 5), .int .u8 (T 6), .int .u8 (T 7), .int .u8 (T 8)], .int .u8 t] w fun e w' => e = .returned (.tuple #[.agg #[.int .u8 (B 0), .int .u8 (B 1), .int .u8 (B 2), .int .u8 (B 3), .int .u8 (B 4), .int .u8 (B 5), .int .u8 (B 6), .int .u8 (B 7), .int .u8 (B 8)], .int .i64 0]) ∧ Below w.heap.size w w' := by
  have HS : Hid _ := hs
  have HT : Hid _ := ht
  have HB : Hid _ := fun w' => Between_any S T B t w' hS hT ht2 hB
  clear hs ht hS hT hB
  have i0 : ∀ w, (Instr.index 106 (.agg #[.int .u8 (S 0), .int .u8 (S 1), .int .u8 (S 2), .int .u8 (S 3), .int .u8 (S 4), .int .u8 (S 5), .int .u8 (S 6), .int .u8 (S 7), .int .u8 (S 8), .int .u8 (T 0), .int .u8 (T 1), .int .u8 (T 2), .int .u8 (T 3), .int .u8 (T 4), .int .u8 (T 5), .int .u8 (T 6), .int .u8 (T 7), .int .u8 (T 8)]) (.int .i64 0)).run Try.prog w = .ok (.agg #[.int .u8 (S 0), .int .u8 (S 1), .int .u8 (S 2), .int .u8 (S 3), .int .u8 (S 4), .int .u8 (S 5), .int .u8 (S 6), .int .u8 (S 7), .int .u8 (S 8)]) w := fun _ => by kernel_rfl
  have i1 : ∀ w, (Instr.index 106 (.agg #[.int .u8 (S 0), .int .u8 (S 1), .int .u8 (S 2), .int .u8 (S 3), .int .u8 (S 4), .int .u8 (S 5), .int .u8 (S 6), .int .u8 (S 7), .int .u8 (S 8), .int .u8 (T 0), .int .u8 (T 1), .int .u8 (T 2), .int .u8 (T 3), .int .u8 (T 4), .int .u8 (T 5), .int .u8 (T 6), .int .u8 (T 7), .int .u8 (T 8)]) (.int .i64 1)).run Try.prog w = .ok (.agg #[.int .u8 (T 0), .int .u8 (T 1), .int .u8 (T 2), .int .u8 (T 3), .int .u8 (T 4), .int .u8 (T 5), .int .u8 (T 6), .int .u8 (T 7), .int .u8 (T 8)]) w := fun _ => by kernel_rfl
  go_enter Try.func23, Try.ntmps23
  go_wp2_with fail
  obtain ⟨W1, hW1⟩ : ∃ W1, W1 = (((w.alloc (.cells #[Value.int .u8 (S 0), .int .u8 (S 1), .int .u8 (S 2), .int .u8 (S 3), .int .u8 (S 4), .int .u8 (S 5), .int .u8 (S 6), .int .u8 (S 7), .int .u8 (S 8)] 31)).alloc (.cells #[Value.int .u8 (T 0), .int .u8 (T 1), .int .u8 (T 2), .int .u8 (T 3), .int .u8 (T 4), .int .u8 (T 5), .int .u8 (T 6), .int .u8 (T 7), .int .u8 (T 8)] 31)).alloc (.cells #[.int .u8 0, .int .u8 0, .int .u8 0, .int .u8 0, .int .u8 0, .int .u8 0, .int .u8 0, .int .u8 0, .int .u8 0] 31)) := ⟨_, rfl⟩
  rw [← hW1]
  have B1 : Hid (Below w.heap.size w W1) := show Below w.heap.size w W1 by rw [hW1]; (repeat' (with_reducible first | exact Below.refl _ _ | refine past_le ?_ ?_ _ | refine Below.alloc ?_ ?_ _ | refine Below.drew ?_ | refine drewN_le ?_ _ | refine Below.setCell ?_ ?_ _ | refine step_le (by assumption) ?_ ?_ | omega | (simp only []; omega) | (simp only [World.size_alloc]; omega) | (simp only [World.size_setCell]; omega) | (simp only [World.size_drew]; omega) | (simp only [World.size_alloc, World.size_setCell]; omega) | (simp only [World.size_alloc, World.size_drew]; omega) | (simp only [World.size_setCell, World.size_drew]; omega) | (simp only [World.size_alloc, World.size_setCell, World.size_drew]; omega) | (simp only [World.size_alloc, World.size_setCell, World.size_drew, size_drewN]; omega)))
  have CS : Hid (∀ o, o < 9 → W1.cell? ⟨w.heap.size, o, none⟩ = some (.int .u8 (S o))) := show ∀ o, o < 9 → W1.cell? ⟨w.heap.size, o, none⟩ = some (.int .u8 (S o)) from fun o ho => by
    rw [hW1, cell_alloc_if, if_neg (by simp only [World.size_alloc]; omega), cell_alloc_if, if_neg (by simp only [World.size_alloc]; omega), cell_alloc_if, if_pos rfl]
    exact nine S o ho
  have CT : Hid (∀ o, o < 9 → W1.cell? ⟨w.heap.size + 1, o, none⟩ = some (.int .u8 (T o))) := show ∀ o, o < 9 → W1.cell? ⟨w.heap.size + 1, o, none⟩ = some (.int .u8 (T o)) from fun o ho => by
    rw [hW1, cell_alloc_if, if_neg (by simp only [World.size_alloc]; omega), cell_alloc_if, if_pos (by simp only [World.size_alloc])]
    exact nine T o ho
  have CR : Hid (∀ o, W1.cell? ⟨w.heap.size + 1 + 1, o, none⟩ = #[Value.int .u8 0, .int .u8 0, .int .u8 0, .int .u8 0, .int .u8 0, .int .u8 0, .int .u8 0, .int .u8 0, .int .u8 0][o]?) := show ∀ o, W1.cell? ⟨w.heap.size + 1 + 1, o, none⟩ = #[Value.int .u8 0, .int .u8 0, .int .u8 0, .int .u8 0, .int .u8 0, .int .u8 0, .int .u8 0, .int .u8 0, .int .u8 0][o]? from fun o => by
    rw [hW1, cell_alloc_if, if_pos (by simp only [World.size_alloc])]
  have FR : Hid (∀ o, W1.frozen? ⟨w.heap.size + 1 + 1, o, none⟩ = false) := show ∀ o, W1.frozen? ⟨w.heap.size + 1 + 1, o, none⟩ = false from fun o => by
    rw [hW1]; simp [frozen_alloc_if]
  have hz1 : w.heap.size + 1 + 1 < W1.heap.size := by rw [hW1]; simp only [World.size_alloc]; omega
  clear hW1
  go_loopw [14] (fun v wr => ∃ k : Nat, k ≤ 2 ∧ v = .int .i64 k ∧ Below W1.heap.size W1 wr) (fun v _ => 2 - (intOf v).toNat)
  case atStart => exact ⟨0, by omega, rfl, Below.refl _ _⟩
  case round =>
    obtain ⟨k, hk, rfl, hB⟩ := hrel
    have BH : Hid _ := hB
    have hzr := hB.size
    have hk2 : k = 0 ∨ k = 1 ∨ k = 2 := by omega
    clear hk
    rcases hk2 with rfl | rfl | rfl
    · clear hB
      go_wp2_with fail
      refine (composeCheck_any S _).mono ?_
      rw [HS.out]
      rintro e w' ⟨rfl, rfl⟩
      go_wp2_with fail
      go_roundw
      case rel => exact ⟨1, by omega, rfl, BH.out.alloc (by omega) _ |>.alloc (by simp only [World.size_alloc]; omega) _⟩
      case measure => simp [intOf]
    · clear hB
      go_wp2_with fail
      refine (composeCheck_any T _).mono ?_
      rw [HT.out]
      rintro e w' ⟨rfl, rfl⟩
      go_wp2_with fail
      go_roundw
      case rel => exact ⟨2, by omega, rfl, BH.out.alloc (by omega) _ |>.alloc (by simp only [World.size_alloc]; omega) _⟩
      case measure => simp [intOf]
    · have cS : ∀ o, o < 9 → _ := fun o (ho : o < 9) => (hB.cell (p := ⟨w.heap.size, o, none⟩) (by show w.heap.size < _; omega)).trans (CS.out o ho)
      have cT : ∀ o, o < 9 → _ := fun o (ho : o < 9) => (hB.cell (p := ⟨w.heap.size + 1, o, none⟩) (by show w.heap.size + 1 < _; omega)).trans (CT.out o ho)
      have s0 := cS 0 (by omega)
      have t0 := cT 0 (by omega)
      have s1 := cS 1 (by omega)
      have t1 := cT 1 (by omega)
      have s2 := cS 2 (by omega)
      have t2 := cT 2 (by omega)
      have s3 := cS 3 (by omega)
      have t3 := cT 3 (by omega)
      have s4 := cS 4 (by omega)
      have t4 := cT 4 (by omega)
      have s5 := cS 5 (by omega)
      have t5 := cT 5 (by omega)
      have s6 := cS 6 (by omega)
      have t6 := cT 6 (by omega)
      have s7 := cS 7 (by omega)
      have t7 := cT 7 (by omega)
      have s8 := cS 8 (by omega)
      have t8 := cT 8 (by omega)
      clear hB cS cT
      go_wp2_with fail
      refine (HB.out _).mono ?_
      rintro e w' ⟨rfl, hb⟩
      have hr : ∀ o, _ := fun o => (hb.cell (p := ⟨w.heap.size + 1 + 1, o, none⟩) (by show w.heap.size + 1 + 1 < _; omega)).trans ((BH.out.cell (p := ⟨w.heap.size + 1 + 1, o, none⟩) (by show w.heap.size + 1 + 1 < _; omega)).trans (CR.out o))
      have hrF : ∀ o, _ := fun o => (hb.frozen (p := ⟨w.heap.size + 1 + 1, o, none⟩) (by show w.heap.size + 1 + 1 < _; omega)).trans ((BH.out.frozen (p := ⟨w.heap.size + 1 + 1, o, none⟩) (by show w.heap.size + 1 + 1 < _; omega)).trans (FR.out o))
      have BB : Hid (Below w.heap.size w w') := show Below w.heap.size w w' from (B1.out.trans (BH.out.mono B1.out.size)).trans (hb.mono (by omega))
      clear hb
      go_wp2_with fail
      refine bodyPost_ret (by simp [results, Try.results23, go_sem, hr]; try rfl) rfl ?_
      exact ⟨rfl, (((((((((BB.out.setCell (by show w.heap.size ≤ w.heap.size + 1 + 1; omega) _).setCell (by show w.heap.size ≤ w.heap.size + 1 + 1; omega) _).setCell (by show w.heap.size ≤ w.heap.size + 1 + 1; omega) _).setCell (by show w.heap.size ≤ w.heap.size + 1 + 1; omega) _).setCell (by show w.heap.size ≤ w.heap.size + 1 + 1; omega) _).setCell (by show w.heap.size ≤ w.heap.size + 1 + 1; omega) _).setCell (by show w.heap.size ≤ w.heap.size + 1 + 1; omega) _).setCell (by show w.heap.size ≤ w.heap.size + 1 + 1; omega) _).setCell (by show w.heap.size ≤ w.heap.size + 1 + 1; omega) _)⟩
end Go.Proofs.Ytampdegpfndggaa

namespace Go.Proofs.Ytampdegpfndggaa
open Go.RowKit

theorem cell_old (w : World) (o : Obj) (n i : Nat) (h : n < w.heap.size) : (w.alloc o).cell? ⟨n, i, none⟩ = w.cell? ⟨n, i, none⟩ := ((Below.refl w.heap.size w).alloc (Nat.le_refl _) o).cell (p := ⟨n, i, none⟩) h
theorem frozen_old (w : World) (o : Obj) (n i : Nat) (h : n < w.heap.size) : (w.alloc o).frozen? ⟨n, i, none⟩ = w.frozen? ⟨n, i, none⟩ := ((Below.refl w.heap.size w).alloc (Nat.le_refl _) o).frozen (p := ⟨n, i, none⟩) h
set_option maxRecDepth 20000 in
set_option maxHeartbeats 4000000 in
theorem Over_e1 (md : Int) (S I B : Nat → Int) (q : Int) (ov : Bool) (w : World) (hs : stE S = 4) :
    Calls Try.prog 19 #[.agg #[.int .u8 (S 0), .int .u8 (S 1), .int .u8 (S 2), .int .u8 (S 3), .int .u8 (S 4), .int .u8 (S 5), .int .u8 (S 6), .int .u8 (S 7), .int .u8 (S 8)], .agg #[.int .u8 (I 0), .int .u8 (I 1), .int .u8 (I 2), .int .u8 (I 3), .int .u8 (I 4), .int .u8 (I 5), .int .u8 (I 6), .int .u8 (I 7)], .int .u8 q, .int .i64 md, .bool ov] w fun e w' => e = .returned (.tuple #[.agg #[.int .u8 0, .int .u8 0, .int .u8 0, .int .u8 0, .int .u8 0, .int .u8 0, .int .u8 0, .int .u8 0, .int .u8 0], .int .i64 4]) ∧ Below w.heap.size w w' := by
  have HS : Hid _ := hs
  clear hs
  go_enter Try.func19, Try.ntmps19
  go_wp2_with fail
  refine (composeCheck_any S _).mono ?_
  rw [HS.out]
  rintro e w' ⟨rfl, rfl⟩
  go_wp2_with fail
  refine bodyPost_ret (by simp [results, Try.results19, go_sem]; try rfl) rfl ?_
  exact ⟨rfl, by (repeat' (with_reducible first | exact Below.refl _ _ | refine past_le ?_ ?_ _ | refine Below.alloc ?_ ?_ _ | refine Below.drew ?_ | refine drewN_le ?_ _ | refine Below.setCell ?_ ?_ _ | refine step_le (by assumption) ?_ ?_ | omega | (simp only []; omega) | (simp only [World.size_alloc]; omega) | (simp only [World.size_setCell]; omega) | (simp only [World.size_drew]; omega) | (simp only [World.size_alloc, World.size_setCell]; omega) | (simp only [World.size_alloc, World.size_drew]; omega) | (simp only [World.size_setCell, World.size_drew]; omega) | (simp only [World.size_alloc, World.size_setCell, World.size_drew]; omega) | (simp only [World.size_alloc, World.size_setCell, World.size_drew, size_drewN]; omega)))⟩
set_option maxRecDepth 20000 in
set_option maxHeartbeats 4000000 in
theorem Over_e2 (md : Int) (S I B : Nat → Int) (q : Int) (ov : Bool) (w : World) (hs : stE S = 0) (hmd : ¬(0 ≤ md ∧ md ≤ 11)) :
    Calls Try.prog 19 #[.agg #[.int .u8 (S 0), .int .u8 (S 1), .int .u8 (S 2), .int .u8 (S 3), .int .u8 (S 4), .int .u8 (S 5), .int .u8 (S 6), .int .u8 (S 7), .int .u8 (S 8)], .agg #[.int .u8 (I 0), .int .u8 (I 1), .int .u8 (I 2), .int .u8 (I 3), .int .u8 (I 4), .int .u8 (I 5), .int .u8 (I 6), .int .u8 (I 7)], .int .u8 q, .int .i64 md, .bool ov] w fun e w' => e = .returned (.tuple #[.agg #[.int .u8 0, .int .u8 0, .int .u8 0, .int .u8 0, .int .u8 0, .int .u8 0, .int .u8 0, .int .u8 0, .int .u8 0], .int .i64 1]) ∧ Below w.heap.size w w' := by
  have HS : Hid _ := hs
  clear hs
  have q1 : ∀ w, (binOp .eql 101 .nilFunc .nilFunc).run Try.prog w = .ok (.bool true) w := fun _ => by kernel_rfl
  go_enter Try.func19, Try.ntmps19
  go_wp2_with fail
  refine (composeCheck_any S _).mono ?_
  rw [HS.out]
  rintro e w' ⟨rfl, rfl⟩
  go_wp2_with fail
  refine (Inks_no md _ hmd).mono ?_
  rintro e w1 ⟨rfl, hb⟩
  obtain ⟨hc1, hf1, hz1⟩ := bcell hb
  simp only [World.size_alloc] at hc1 hf1 hz1
  have hr : ∀ o, w1.cell? ⟨w.heap.size + 1 + 1, o, none⟩ = #[Value.int .u8 0, .int .u8 0, .int .u8 0, .int .u8 0, .int .u8 0, .int .u8 0, .int .u8 0, .int .u8 0, .int .u8 0][o]? := fun o => by
    rw [hc1, if_pos (by omega)]; simp +arith [cell_alloc_if]
  have hrF : ∀ o, w1.frozen? ⟨w.heap.size + 1 + 1, o, none⟩ = false := fun o => by
    rw [hf1, if_pos (by omega)]; simp +arith [frozen_alloc_if]
  have HB : Hid (Below w.heap.size w w1) := show Below w.heap.size w w1 from step_le hb (by (repeat' (with_reducible first | exact Below.refl _ _ | refine past_le ?_ ?_ _ | refine Below.alloc ?_ ?_ _ | refine Below.drew ?_ | refine drewN_le ?_ _ | refine Below.setCell ?_ ?_ _ | refine step_le (by assumption) ?_ ?_ | omega | (simp only []; omega) | (simp only [World.size_alloc]; omega) | (simp only [World.size_setCell]; omega) | (simp only [World.size_drew]; omega) | (simp only [World.size_alloc, World.size_setCell]; omega) | (simp only [World.size_alloc, World.size_drew]; omega) | (simp only [World.size_setCell, World.size_drew]; omega) | (simp only [World.size_alloc, World.size_setCell, World.size_drew]; omega) | (simp only [World.size_alloc, World.size_setCell, World.size_drew, size_drewN]; omega)))) (by simp only [World.size_alloc]; omega)
  clear hb hc1 hf1
  go_wp2_with fail
  refine bodyPost_ret (by simp [results, Try.results19, go_sem, hr]; try rfl) rfl ?_
  exact ⟨rfl, (((((((((HB.out.setCell (by show w.heap.size ≤ w.heap.size + 1 + 1; omega) _).setCell (by show w.heap.size ≤ w.heap.size + 1 + 1; omega) _).setCell (by show w.heap.size ≤ w.heap.size + 1 + 1; omega) _).setCell (by show w.heap.size ≤ w.heap.size + 1 + 1; omega) _).setCell (by show w.heap.size ≤ w.heap.size + 1 + 1; omega) _).setCell (by show w.heap.size ≤ w.heap.size + 1 + 1; omega) _).setCell (by show w.heap.size ≤ w.heap.size + 1 + 1; omega) _).setCell (by show w.heap.size ≤ w.heap.size + 1 + 1; omega) _).setCell (by show w.heap.size ≤ w.heap.size + 1 + 1; omega) _)⟩
set_option maxRecDepth 20000 in
set_option maxHeartbeats 4000000 in
theorem Over_e3 (md : Int) (S I B : Nat → Int) (q : Int) (ov : Bool) (w : World) (hs : stE S = 0) (hmd : 0 ≤ md ∧ md ≤ 11) (hq : q = 0) (hz : zer8 I = false) :
    Calls Try.prog 19 #[.agg #[.int .u8 (S 0), .int .u8 (S 1), .int .u8 (S 2), .int .u8 (S 3), .int .u8 (S 4), .int .u8 (S 5), .int .u8 (S 6), .int .u8 (S 7), .int .u8 (S 8)], .agg #[.int .u8 (I 0), .int .u8 (I 1), .int .u8 (I 2), .int .u8 (I 3), .int .u8 (I 4), .int .u8 (I 5), .int .u8 (I 6), .int .u8 (I 7)], .int .u8 q, .int .i64 md, .bool ov] w fun e w' => e = .returned (.tuple #[.agg #[.int .u8 0, .int .u8 0, .int .u8 0, .int .u8 0, .int .u8 0, .int .u8 0, .int .u8 0, .int .u8 0, .int .u8 0], .int .i64 4]) ∧ Below w.heap.size w w' := by
  have HS : Hid _ := hs
  have hn := zer8_no hz
  clear hs hz
  subst hq
  have q1 : ∀ c w, (binOp .eql 101 (.func (.func 97) #[] c) .nilFunc).run Try.prog w = .ok (.bool false) w := fun _ _ => by kernel_rfl
  rcases hn with h1 | ⟨h1, h2⟩ | ⟨h1, h2, h3⟩ | ⟨h1, h2, h3, h4⟩ | ⟨h1, h2, h3, h4, h5⟩ | ⟨h1, h2, h3, h4, h5, h6⟩ | ⟨h1, h2, h3, h4, h5, h6, h7⟩ | ⟨h1, h2, h3, h4, h5, h6, h7, h8⟩
  all_goals
    go_enter Try.func19, Try.ntmps19
    go_wp2_with fail
    refine (composeCheck_any S _).mono ?_
    rw [HS.out]
    rintro e w' ⟨rfl, rfl⟩
    go_wp2_with fail
    refine (Inks_any md _ hmd).mono ?_
    rintro e w1 ⟨rfl, rfl⟩
    go_wp2_with fail
    refine bodyPost_ret (by simp [results, Try.results19, go_sem]; try rfl) rfl ?_
    exact ⟨rfl, by (repeat' (with_reducible first | exact Below.refl _ _ | refine past_le ?_ ?_ _ | refine Below.alloc ?_ ?_ _ | refine Below.drew ?_ | refine drewN_le ?_ _ | refine Below.setCell ?_ ?_ _ | refine step_le (by assumption) ?_ ?_ | omega | (simp only []; omega) | (simp only [World.size_alloc]; omega) | (simp only [World.size_setCell]; omega) | (simp only [World.size_drew]; omega) | (simp only [World.size_alloc, World.size_setCell]; omega) | (simp only [World.size_alloc, World.size_drew]; omega) | (simp only [World.size_setCell, World.size_drew]; omega) | (simp only [World.size_alloc, World.size_setCell, World.size_drew]; omega) | (simp only [World.size_alloc, World.size_setCell, World.size_drew, size_drewN]; omega)))⟩
set_option maxRecDepth 20000 in
set_option maxHeartbeats 4000000 in
theorem Over_ok (md : Int) (S I B : Nat → Int) (q : Int) (ov : Bool) (w : World) (hs : stE S = 0) (hmd : 0 ≤ md ∧ md ≤ 11) (hz : ¬(q = 0 ∧ zer8 I = false)) (hS : ∀ o, o < 9 → 0 ≤ S o ∧ S o ≤ 255) (hI : ∀ o, o < 8 → 0 ≤ I o ∧ I o ≤ 255) (hq : 0 ≤ q ∧ q ≤ 255) (hB : ∀ o, o < 9 → B o = pnt md S I q ov o) :
    Calls Try.prog 19 #[.agg #[.int .u8 (S 0), .int .u8 (S 1), .int .u8 (S 2), .int .u8 (S 3), .int .u8 (S 4), .int .u8 (S 5), .int .u8 (S 6), .int .u8 (S 7), .int .u8 (S 8)], .agg #[.int .u8 (I 0), .int .u8 (I 1), .int .u8 (I 2), .int .u8 (I 3), .int .u8 (I 4), .int .u8 (I 5), .int .u8 (I 6), .int .u8 (I 7)], .int .u8 q, .int .i64 md, .bool ov] w fun e w' => e = .returned (.tuple #[.agg #[.int .u8 (B 0), .int .u8 (B 1), .int .u8 (B 2), .int .u8 (B 3), .int .u8 (B 4), .int .u8 (B 5), .int .u8 (B 6), .int .u8 (B 7), .int .u8 (B 8)], .int .i64 0]) ∧ Below w.heap.size w w' := by
  have HS : Hid _ := hs
  have HP : Hid (∀ (p p2 : Nat) (w' : World), (p < w'.heap.size ∧ p2 < w'.heap.size) → (∀ o, w'.cell? ⟨p, o, none⟩ = #[Value.func (.func 129) #[] #[.pointer (some ⟨p2, 0, none⟩)]][o]?) → (∀ o, w'.cell? ⟨p2, o, none⟩ = #[Value.func (.func (modeF md)) #[] #[]][o]?) →
      Calls Try.prog 59 #[.agg #[.int .u8 (S 0), .int .u8 (S 1), .int .u8 (S 2), .int .u8 (S 3), .int .u8 (S 4), .int .u8 (S 5), .int .u8 (S 6), .int .u8 (S 7), .int .u8 (S 8)], .agg #[.int .u8 (I 0), .int .u8 (I 1), .int .u8 (I 2), .int .u8 (I 3), .int .u8 (I 4), .int .u8 (I 5), .int .u8 (I 6), .int .u8 (I 7)], .int .u8 q, .func (.func 97) #[] #[.pointer (some ⟨p, 0, none⟩)], .bool ov] w' fun e w'' => e = .returned (.agg #[.int .u8 (B 0), .int .u8 (B 1), .int .u8 (B 2), .int .u8 (B 3), .int .u8 (B 4), .int .u8 (B 5), .int .u8 (B 6), .int .u8 (B 7), .int .u8 (B 8)]) ∧ Below w'.heap.size w' w'') := fun p p2 w' h1 h2 h3 => Paint_any md S I B q ov w' p p2 h1 h2 h3 hmd hS hI hq hB
  have hzz : (q == 0) = false ∨ (q = 0 ∧ zer8 I = true) := by
    by_cases h : q = 0
    · refine .inr ⟨h, ?_⟩
      cases hz8 : zer8 I with
      | true => rfl
      | false => exact absurd ⟨h, hz8⟩ hz
    · exact .inl (by simpa using h)
  clear hs hz hS hI hB
  have q1 : ∀ c w, (binOp .eql 101 (.func (.func 97) #[] c) .nilFunc).run Try.prog w = .ok (.bool false) w := fun _ _ => by kernel_rfl
  rcases hzz with hq0 | ⟨rfl, hz8⟩
  · go_enter Try.func19, Try.ntmps19
    go_wp2_with fail
    refine (composeCheck_any S _).mono ?_
    rw [HS.out]
    rintro e w' ⟨rfl, rfl⟩
    go_wp2_with fail
    refine (Inks_any md _ hmd).mono ?_
    rintro e w1 ⟨rfl, rfl⟩
    go_wp2_with fail
    refine (HP.out (w.heap.size + 1 + 1 + 1 + 1 + 2) (w.heap.size + 1 + 1 + 1 + 1 + 1) _ (by simp only [World.size_alloc]; omega) (fun o => ?_) (fun o => ?_)).mono ?_
    · simp +arith [cell_alloc_if]
    · simp +arith [cell_alloc_if]
    rintro e w1 ⟨rfl, hb⟩
    obtain ⟨hc1, hf1, hz1⟩ := bcell hb
    simp only [World.size_alloc] at hc1 hf1 hz1
    have hr : ∀ o, w1.cell? ⟨w.heap.size + 1 + 1, o, none⟩ = #[Value.int .u8 0, .int .u8 0, .int .u8 0, .int .u8 0, .int .u8 0, .int .u8 0, .int .u8 0, .int .u8 0, .int .u8 0][o]? := fun o => by
      rw [hc1, if_pos (by omega), cell_old _ _ _ _ (by simp only [World.size_alloc]; omega), cell_old _ _ _ _ (by simp only [World.size_alloc]; omega), cell_old _ _ _ _ (by simp only [World.size_alloc]; omega), cell_old _ _ _ _ (by simp only [World.size_alloc]; omega), cell_alloc_if, if_pos (by simp only [World.size_alloc])]
    have hrF : ∀ o, w1.frozen? ⟨w.heap.size + 1 + 1, o, none⟩ = false := fun o => by
      rw [hf1, if_pos (by omega), frozen_old _ _ _ _ (by simp only [World.size_alloc]; omega), frozen_old _ _ _ _ (by simp only [World.size_alloc]; omega), frozen_old _ _ _ _ (by simp only [World.size_alloc]; omega), frozen_old _ _ _ _ (by simp only [World.size_alloc]; omega), frozen_alloc_if, if_pos (by simp only [World.size_alloc])]
    have HB : Hid (Below w.heap.size w w1) := show Below w.heap.size w w1 from step_le hb (by (repeat' (with_reducible first | exact Below.refl _ _ | refine past_le ?_ ?_ _ | refine Below.alloc ?_ ?_ _ | refine Below.drew ?_ | refine drewN_le ?_ _ | refine Below.setCell ?_ ?_ _ | refine step_le (by assumption) ?_ ?_ | omega | (simp only []; omega) | (simp only [World.size_alloc]; omega) | (simp only [World.size_setCell]; omega) | (simp only [World.size_drew]; omega) | (simp only [World.size_alloc, World.size_setCell]; omega) | (simp only [World.size_alloc, World.size_drew]; omega) | (simp only [World.size_setCell, World.size_drew]; omega) | (simp only [World.size_alloc, World.size_setCell, World.size_drew]; omega) | (simp only [World.size_alloc, World.size_setCell, World.size_drew, size_drewN]; omega)))) (by simp only [World.size_alloc]; omega)
    clear hb hc1 hf1
    go_wp2_with fail
    refine bodyPost_ret (by simp [results, Try.results19, go_sem, hr]; try rfl) rfl ?_
    exact ⟨rfl, (((((((((HB.out.setCell (by show w.heap.size ≤ w.heap.size + 1 + 1; omega) _).setCell (by show w.heap.size ≤ w.heap.size + 1 + 1; omega) _).setCell (by show w.heap.size ≤ w.heap.size + 1 + 1; omega) _).setCell (by show w.heap.size ≤ w.heap.size + 1 + 1; omega) _).setCell (by show w.heap.size ≤ w.heap.size + 1 + 1; omega) _).setCell (by show w.heap.size ≤ w.heap.size + 1 + 1; omega) _).setCell (by show w.heap.size ≤ w.heap.size + 1 + 1; omega) _).setCell (by show w.heap.size ≤ w.heap.size + 1 + 1; omega) _).setCell (by show w.heap.size ≤ w.heap.size + 1 + 1; omega) _)⟩
  · obtain ⟨h1, h2, h3, h4, h5, h6, h7, h8⟩ := zer8_yes hz8
    clear hz8
    rw [h1, h2, h3, h4, h5, h6, h7, h8] at HP
    rw [h1, h2, h3, h4, h5, h6, h7, h8]
    go_enter Try.func19, Try.ntmps19
    go_wp2_with fail
    refine (composeCheck_any S _).mono ?_
    rw [HS.out]
    rintro e w' ⟨rfl, rfl⟩
    go_wp2_with fail
    refine (Inks_any md _ hmd).mono ?_
    rintro e w1 ⟨rfl, rfl⟩
    go_wp2_with fail
    refine (HP.out (w.heap.size + 1 + 1 + 1 + 1 + 2) (w.heap.size + 1 + 1 + 1 + 1 + 1) _ (by simp only [World.size_alloc]; omega) (fun o => ?_) (fun o => ?_)).mono ?_
    · simp +arith [cell_alloc_if]
    · simp +arith [cell_alloc_if]
    rintro e w1 ⟨rfl, hb⟩
    obtain ⟨hc1, hf1, hz1⟩ := bcell hb
    simp only [World.size_alloc] at hc1 hf1 hz1
    have hr : ∀ o, w1.cell? ⟨w.heap.size + 1 + 1, o, none⟩ = #[Value.int .u8 0, .int .u8 0, .int .u8 0, .int .u8 0, .int .u8 0, .int .u8 0, .int .u8 0, .int .u8 0, .int .u8 0][o]? := fun o => by
      rw [hc1, if_pos (by omega), cell_old _ _ _ _ (by simp only [World.size_alloc]; omega), cell_old _ _ _ _ (by simp only [World.size_alloc]; omega), cell_old _ _ _ _ (by simp only [World.size_alloc]; omega), cell_old _ _ _ _ (by simp only [World.size_alloc]; omega), cell_alloc_if, if_pos (by simp only [World.size_alloc])]
    have hrF : ∀ o, w1.frozen? ⟨w.heap.size + 1 + 1, o, none⟩ = false := fun o => by
      rw [hf1, if_pos (by omega), frozen_old _ _ _ _ (by simp only [World.size_alloc]; omega), frozen_old _ _ _ _ (by simp only [World.size_alloc]; omega), frozen_old _ _ _ _ (by simp only [World.size_alloc]; omega), frozen_old _ _ _ _ (by simp only [World.size_alloc]; omega), frozen_alloc_if, if_pos (by simp only [World.size_alloc])]
    have HB : Hid (Below w.heap.size w w1) := show Below w.heap.size w w1 from step_le hb (by (repeat' (with_reducible first | exact Below.refl _ _ | refine past_le ?_ ?_ _ | refine Below.alloc ?_ ?_ _ | refine Below.drew ?_ | refine drewN_le ?_ _ | refine Below.setCell ?_ ?_ _ | refine step_le (by assumption) ?_ ?_ | omega | (simp only []; omega) | (simp only [World.size_alloc]; omega) | (simp only [World.size_setCell]; omega) | (simp only [World.size_drew]; omega) | (simp only [World.size_alloc, World.size_setCell]; omega) | (simp only [World.size_alloc, World.size_drew]; omega) | (simp only [World.size_setCell, World.size_drew]; omega) | (simp only [World.size_alloc, World.size_setCell, World.size_drew]; omega) | (simp only [World.size_alloc, World.size_setCell, World.size_drew, size_drewN]; omega)))) (by simp only [World.size_alloc]; omega)
    clear hb hc1 hf1
    go_wp2_with fail
    refine bodyPost_ret (by simp [results, Try.results19, go_sem, hr]; try rfl) rfl ?_
    exact ⟨rfl, (((((((((HB.out.setCell (by show w.heap.size ≤ w.heap.size + 1 + 1; omega) _).setCell (by show w.heap.size ≤ w.heap.size + 1 + 1; omega) _).setCell (by show w.heap.size ≤ w.heap.size + 1 + 1; omega) _).setCell (by show w.heap.size ≤ w.heap.size + 1 + 1; omega) _).setCell (by show w.heap.size ≤ w.heap.size + 1 + 1; omega) _).setCell (by show w.heap.size ≤ w.heap.size + 1 + 1; omega) _).setCell (by show w.heap.size ≤ w.heap.size + 1 + 1; omega) _).setCell (by show w.heap.size ≤ w.heap.size + 1 + 1; omega) _).setCell (by show w.heap.size ≤ w.heap.size + 1 + 1; omega) _)⟩
def overE (md : Int) (S I : Nat → Int) (q : Int) : Int := if stE S ≠ 0 then 4 else if ¬(0 ≤ md ∧ md ≤ 11) then 1 else if q = 0 ∧ zer8 I = false then 4 else 0
theorem Over_any (md : Int) (S I B : Nat → Int) (q : Int) (ov : Bool) (w : World) (hS : ∀ o, o < 9 → 0 ≤ S o ∧ S o ≤ 255) (hI : ∀ o, o < 8 → 0 ≤ I o ∧ I o ≤ 255) (hq : 0 ≤ q ∧ q ≤ 255) (hB : ∀ o, o < 9 → B o = if overE md S I q = 0 then pnt md S I q ov o else 0) :
    Calls Try.prog 19 #[.agg #[.int .u8 (S 0), .int .u8 (S 1), .int .u8 (S 2), .int .u8 (S 3), .int .u8 (S 4), .int .u8 (S 5), .int .u8 (S 6), .int .u8 (S 7), .int .u8 (S 8)], .agg #[.int .u8 (I 0), .int .u8 (I 1), .int .u8 (I 2), .int .u8 (I 3), .int .u8 (I 4), .int .u8 (I 5), .int .u8 (I 6), .int .u8 (I 7)], .int .u8 q, .int .i64 md, .bool ov] w fun e w' => e = .returned (.tuple #[.agg #[.int .u8 (B 0), .int .u8 (B 1), .int .u8 (B 2), .int .u8 (B 3), .int .u8 (B 4), .int .u8 (B 5), .int .u8 (B 6), .int .u8 (B 7), .int .u8 (B 8)], .int .i64 (overE md S I q)]) ∧ Below w.heap.size w w' := by
  have hz : overE md S I q ≠ 0 → B 0 = 0 ∧ B 1 = 0 ∧ B 2 = 0 ∧ B 3 = 0 ∧ B 4 = 0 ∧ B 5 = 0 ∧ B 6 = 0 ∧ B 7 = 0 ∧ B 8 = 0 := fun h =>
    ⟨by rw [hB 0 (by omega), if_neg h], by rw [hB 1 (by omega), if_neg h], by rw [hB 2 (by omega), if_neg h], by rw [hB 3 (by omega), if_neg h], by rw [hB 4 (by omega), if_neg h], by rw [hB 5 (by omega), if_neg h], by rw [hB 6 (by omega), if_neg h], by rw [hB 7 (by omega), if_neg h], by rw [hB 8 (by omega), if_neg h]⟩
  rcases stE_or S with hs | hs
  · by_cases hmd : 0 ≤ md ∧ md ≤ 11
    · by_cases h3 : q = 0 ∧ zer8 I = false
      · have hE : overE md S I q = 4 := by rw [overE, if_neg (by simp [hs]), if_neg (by simp [hmd]), if_pos h3]
        obtain ⟨e0, e1, e2, e3, e4, e5, e6, e7, e8⟩ := hz (by rw [hE]; decide)
        rw [hE, e0, e1, e2, e3, e4, e5, e6, e7, e8]
        exact Over_e3 md S I B q ov w hs hmd h3.1 h3.2
      · have hE : overE md S I q = 0 := by rw [overE, if_neg (by simp [hs]), if_neg (by simp [hmd]), if_neg h3]
        rw [hE]
        exact Over_ok md S I B q ov w hs hmd h3 hS hI hq (fun o ho => by rw [hB o ho, if_pos hE])
    · have hE : overE md S I q = 1 := by rw [overE, if_neg (by simp [hs]), if_pos hmd]
      obtain ⟨e0, e1, e2, e3, e4, e5, e6, e7, e8⟩ := hz (by rw [hE]; decide)
      rw [hE, e0, e1, e2, e3, e4, e5, e6, e7, e8]
      exact Over_e2 md S I B q ov w hs hmd
  · have hE : overE md S I q = 4 := by rw [overE, if_pos (by rw [hs]; decide)]
    obtain ⟨e0, e1, e2, e3, e4, e5, e6, e7, e8⟩ := hz (by rw [hE]; decide)
    rw [hE, e0, e1, e2, e3, e4, e5, e6, e7, e8]
    exact Over_e1 md S I B q ov w hs
end Go.Proofs.Ytampdegpfndggaa
