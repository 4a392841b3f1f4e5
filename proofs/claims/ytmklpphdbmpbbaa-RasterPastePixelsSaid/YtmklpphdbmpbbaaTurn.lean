/-
  The contract of Turn, one theorem a number of quarter turns.
-/
import Derived.Test.YtmklpphdbmpbbaaBuildF
import Derived.Test.YtmklpphdbmpbbaaClos
namespace Go.Proofs.Ytmklpphdbmpbbaa
open Go.RowKit

set_option maxRecDepth 20000 in
set_option maxHeartbeats 2000000 in
theorem Turn_1 (k : Int) (W H cap b off : Nat) (pix : Nat → Int) (w : World) (hW : 1 ≤ W ∧ W ≤ 1024) (hH : 1 ≤ H ∧ H ≤ 1024) (hk : bits .and .i64 k 3 = 1) (hlt : b < w.heap.size)
    (hp : ∀ i, i < W * H → w.cell? ⟨b, off + i, none⟩ = some (.int .u8 (pix i))) (hpx : ∀ i, i < W * H → 0 ≤ pix i ∧ pix i ≤ 255) :
    Calls Try.prog 29 #[.agg #[.int .i64 W, .int .i64 H, .slice (some ⟨b, off, none⟩) (W * H) cap], .int .i64 k] w fun e w' => ∃ A, e = .returned (.tuple #[.agg #[.int .i64 H, .int .i64 W, .slice A (H * W) (H * W)], .int .i64 0]) ∧
      Below w.heap.size w w' ∧ BytesAt w' A (H * W) (fun i => pix ((H - 1 - i % H) * W + i / H)) := by
  have h0 : gridE W H (W * H) = 0 := by rw [gridE, if_neg (by rw [inB_yes (by omega), inB_yes (by omega)]; simp), if_neg (by simp)]
  have hpH : Hid _ := hp
  have hpxH : Hid _ := hpx
  clear hp hpx
  go_enter Try.func29, Try.ntmps29
  go_wp2_with fail
  refine (gridCheck_any W H _ (W * H) cap _).mono ?_
  rw [h0]
  rintro e w' ⟨rfl, rfl⟩
  go_wp2_with fail
  go_region
  all_goals
    go_wp2_with fail
    refine (build_turn1 H W _ _ _ (fun x y => pix ((H - 1 - x) * W + y)) _ (Nat.mul_le_mul hH.2 hW.2) hH.2 hW.2 (fun x y hx hy => hpxH.out _ (idx_lt (by omega) hy))
      (fun x y w' hx hy hb => turn1_any x y W H cap b off _ _ _ pix w' hx hy hW.2 hH.2 (fun o => ?_) (fun o => ?_) (fun o => ?_) (fun i hi => ?_))).mono ?_
    · rw [(bcell hb).1, if_pos (by simp only [World.size_drew, World.size_alloc]; omega)]; simp [go_sem]
    · rw [(bcell hb).1, if_pos (by simp only [World.size_drew, World.size_alloc]; omega)]; simp [go_sem]
    · rw [(bcell hb).1, if_pos (by simp only [World.size_drew, World.size_alloc]; omega)]; simp [go_sem]
    · have hBw : Below w.heap.size w w' := step_le hb (by (repeat' (with_reducible first | exact Below.refl _ _ | refine past_le ?_ ?_ _ | refine Below.alloc ?_ ?_ _ | refine Below.drew ?_ | refine drewN_le ?_ _ | refine Below.setCell ?_ ?_ _ | refine step_le (by assumption) ?_ ?_ | omega | (simp only []; omega) | (simp only [World.size_alloc]; omega) | (simp only [World.size_setCell]; omega) | (simp only [World.size_drew]; omega) | (simp only [World.size_alloc, World.size_setCell]; omega) | (simp only [World.size_alloc, World.size_drew]; omega) | (simp only [World.size_setCell, World.size_drew]; omega) | (simp only [World.size_alloc, World.size_setCell, World.size_drew]; omega) | (simp only [World.size_alloc, World.size_setCell, World.size_drew, size_drewN]; omega)))) (by simp only [World.size_drew, World.size_alloc]; omega)
      exact (hBw.cell (p := ⟨b, _, none⟩) hlt).trans (hpH.out i hi)
    rintro e w9 ⟨rfl, hb, hpix⟩
    simp only [World.size_drew, World.size_alloc] at hpix
    have hbH : Hid (Below w.heap.size w w9) := show Below w.heap.size w w9 from step_le hb (by (repeat' (with_reducible first | exact Below.refl _ _ | refine past_le ?_ ?_ _ | refine Below.alloc ?_ ?_ _ | refine Below.drew ?_ | refine drewN_le ?_ _ | refine Below.setCell ?_ ?_ _ | refine step_le (by assumption) ?_ ?_ | omega | (simp only []; omega) | (simp only [World.size_alloc]; omega) | (simp only [World.size_setCell]; omega) | (simp only [World.size_drew]; omega) | (simp only [World.size_alloc, World.size_setCell]; omega) | (simp only [World.size_alloc, World.size_drew]; omega) | (simp only [World.size_setCell, World.size_drew]; omega) | (simp only [World.size_alloc, World.size_setCell, World.size_drew]; omega) | (simp only [World.size_alloc, World.size_setCell, World.size_drew, size_drewN]; omega)))) (by simp only [World.size_drew, World.size_alloc]; omega)
    obtain ⟨hc9, hf9, hz9⟩ := bcell hb
    simp only [World.size_drew, World.size_alloc] at hc9 hf9 hz9
    have hr9 : ∀ o, w9.cell? ⟨w.heap.size + 1, o, none⟩ = #[Value.int .i64 0, .int .i64 0, .slice none 0 0][o]? := fun o => by
      rw [hc9, if_pos (by omega)]; simp [go_sem]
    have hrF9 : ∀ o, w9.frozen? ⟨w.heap.size + 1, o, none⟩ = false := fun o => by
      rw [hf9, if_pos (by omega)]; simp [go_sem]
    have hpH9 : Hid _ := hpix
    clear hc9 hf9 hb hpix
    go_wp2_with fail
    refine bodyPost_ret (by simp [results, Try.results29, go_sem, hr9]; try rfl) rfl ?_
    refine ⟨_, rfl, ((hbH.out.setCell (Nat.le_succ _) _).setCell (Nat.le_succ _) _).setCell (Nat.le_succ _) _, bytes_of_cells0 fun j hj => ?_⟩
    rw [cell_setCell_if, if_neg (by omega), cell_setCell_if, if_neg (by omega), cell_setCell_if, if_neg (by omega)]
    exact hpH9.out j hj
set_option maxRecDepth 20000 in
set_option maxHeartbeats 2000000 in
theorem Turn_2 (k : Int) (W H cap b off : Nat) (pix : Nat → Int) (w : World) (hW : 1 ≤ W ∧ W ≤ 1024) (hH : 1 ≤ H ∧ H ≤ 1024) (hk : bits .and .i64 k 3 = 2) (hlt : b < w.heap.size)
    (hp : ∀ i, i < W * H → w.cell? ⟨b, off + i, none⟩ = some (.int .u8 (pix i))) (hpx : ∀ i, i < W * H → 0 ≤ pix i ∧ pix i ≤ 255) :
    Calls Try.prog 29 #[.agg #[.int .i64 W, .int .i64 H, .slice (some ⟨b, off, none⟩) (W * H) cap], .int .i64 k] w fun e w' => ∃ A, e = .returned (.tuple #[.agg #[.int .i64 W, .int .i64 H, .slice A (W * H) (W * H)], .int .i64 0]) ∧
      Below w.heap.size w w' ∧ BytesAt w' A (W * H) (fun i => pix ((H - 1 - i / W) * W + (W - 1 - i % W))) := by
  have h0 : gridE W H (W * H) = 0 := by rw [gridE, if_neg (by rw [inB_yes (by omega), inB_yes (by omega)]; simp), if_neg (by simp)]
  have hpH : Hid _ := hp
  have hpxH : Hid _ := hpx
  clear hp hpx
  go_enter Try.func29, Try.ntmps29
  go_wp2_with fail
  refine (gridCheck_any W H _ (W * H) cap _).mono ?_
  rw [h0]
  rintro e w' ⟨rfl, rfl⟩
  go_wp2_with fail
  go_region
  all_goals
    go_wp2_with fail
    refine (build_turn2 W H _ _ _ (fun x y => pix ((H - 1 - y) * W + (W - 1 - x))) _ (Nat.mul_le_mul hW.2 hH.2) hW.2 hH.2 (fun x y hx hy => hpxH.out _ (idx_lt (by omega) (by omega)))
      (fun x y w' hx hy hb => turn2_any x y W H cap b off _ _ _ pix w' hx hy hW.2 hH.2 (fun o => ?_) (fun o => ?_) (fun o => ?_) (fun i hi => ?_))).mono ?_
    · rw [(bcell hb).1, if_pos (by simp only [World.size_drew, World.size_alloc]; omega)]; simp [go_sem]
    · rw [(bcell hb).1, if_pos (by simp only [World.size_drew, World.size_alloc]; omega)]; simp [go_sem]
    · rw [(bcell hb).1, if_pos (by simp only [World.size_drew, World.size_alloc]; omega)]; simp [go_sem]
    · have hBw : Below w.heap.size w w' := step_le hb (by (repeat' (with_reducible first | exact Below.refl _ _ | refine past_le ?_ ?_ _ | refine Below.alloc ?_ ?_ _ | refine Below.drew ?_ | refine drewN_le ?_ _ | refine Below.setCell ?_ ?_ _ | refine step_le (by assumption) ?_ ?_ | omega | (simp only []; omega) | (simp only [World.size_alloc]; omega) | (simp only [World.size_setCell]; omega) | (simp only [World.size_drew]; omega) | (simp only [World.size_alloc, World.size_setCell]; omega) | (simp only [World.size_alloc, World.size_drew]; omega) | (simp only [World.size_setCell, World.size_drew]; omega) | (simp only [World.size_alloc, World.size_setCell, World.size_drew]; omega) | (simp only [World.size_alloc, World.size_setCell, World.size_drew, size_drewN]; omega)))) (by simp only [World.size_drew, World.size_alloc]; omega)
      exact (hBw.cell (p := ⟨b, _, none⟩) hlt).trans (hpH.out i hi)
    rintro e w9 ⟨rfl, hb, hpix⟩
    simp only [World.size_drew, World.size_alloc] at hpix
    have hbH : Hid (Below w.heap.size w w9) := show Below w.heap.size w w9 from step_le hb (by (repeat' (with_reducible first | exact Below.refl _ _ | refine past_le ?_ ?_ _ | refine Below.alloc ?_ ?_ _ | refine Below.drew ?_ | refine drewN_le ?_ _ | refine Below.setCell ?_ ?_ _ | refine step_le (by assumption) ?_ ?_ | omega | (simp only []; omega) | (simp only [World.size_alloc]; omega) | (simp only [World.size_setCell]; omega) | (simp only [World.size_drew]; omega) | (simp only [World.size_alloc, World.size_setCell]; omega) | (simp only [World.size_alloc, World.size_drew]; omega) | (simp only [World.size_setCell, World.size_drew]; omega) | (simp only [World.size_alloc, World.size_setCell, World.size_drew]; omega) | (simp only [World.size_alloc, World.size_setCell, World.size_drew, size_drewN]; omega)))) (by simp only [World.size_drew, World.size_alloc]; omega)
    obtain ⟨hc9, hf9, hz9⟩ := bcell hb
    simp only [World.size_drew, World.size_alloc] at hc9 hf9 hz9
    have hr9 : ∀ o, w9.cell? ⟨w.heap.size + 1, o, none⟩ = #[Value.int .i64 0, .int .i64 0, .slice none 0 0][o]? := fun o => by
      rw [hc9, if_pos (by omega)]; simp [go_sem]
    have hrF9 : ∀ o, w9.frozen? ⟨w.heap.size + 1, o, none⟩ = false := fun o => by
      rw [hf9, if_pos (by omega)]; simp [go_sem]
    have hpH9 : Hid _ := hpix
    clear hc9 hf9 hb hpix
    go_wp2_with fail
    refine bodyPost_ret (by simp [results, Try.results29, go_sem, hr9]; try rfl) rfl ?_
    refine ⟨_, rfl, ((hbH.out.setCell (Nat.le_succ _) _).setCell (Nat.le_succ _) _).setCell (Nat.le_succ _) _, bytes_of_cells0 fun j hj => ?_⟩
    rw [cell_setCell_if, if_neg (by omega), cell_setCell_if, if_neg (by omega), cell_setCell_if, if_neg (by omega)]
    exact hpH9.out j hj
set_option maxRecDepth 20000 in
set_option maxHeartbeats 2000000 in
theorem Turn_3 (k : Int) (W H cap b off : Nat) (pix : Nat → Int) (w : World) (hW : 1 ≤ W ∧ W ≤ 1024) (hH : 1 ≤ H ∧ H ≤ 1024) (hk : bits .and .i64 k 3 = 3) (hlt : b < w.heap.size)
    (hp : ∀ i, i < W * H → w.cell? ⟨b, off + i, none⟩ = some (.int .u8 (pix i))) (hpx : ∀ i, i < W * H → 0 ≤ pix i ∧ pix i ≤ 255) :
    Calls Try.prog 29 #[.agg #[.int .i64 W, .int .i64 H, .slice (some ⟨b, off, none⟩) (W * H) cap], .int .i64 k] w fun e w' => ∃ A, e = .returned (.tuple #[.agg #[.int .i64 H, .int .i64 W, .slice A (H * W) (H * W)], .int .i64 0]) ∧
      Below w.heap.size w w' ∧ BytesAt w' A (H * W) (fun i => pix (i % H * W + (W - 1 - i / H))) := by
  have h0 : gridE W H (W * H) = 0 := by rw [gridE, if_neg (by rw [inB_yes (by omega), inB_yes (by omega)]; simp), if_neg (by simp)]
  have hpH : Hid _ := hp
  have hpxH : Hid _ := hpx
  clear hp hpx
  go_enter Try.func29, Try.ntmps29
  go_wp2_with fail
  refine (gridCheck_any W H _ (W * H) cap _).mono ?_
  rw [h0]
  rintro e w' ⟨rfl, rfl⟩
  go_wp2_with fail
  go_region
  all_goals
    go_wp2_with fail
    refine (build_turn3 H W _ _ (fun x y => pix (x * W + (W - 1 - y))) _ (Nat.mul_le_mul hH.2 hW.2) hH.2 hW.2 (fun x y hx hy => hpxH.out _ (idx_lt hx (by omega)))
      (fun x y w' hx hy hb => turn3_any x y W H cap b off _ _ pix w' hx hy hW.2 hH.2 (fun o => ?_) (fun o => ?_) (fun i hi => ?_))).mono ?_
    · rw [(bcell hb).1, if_pos (by simp only [World.size_drew, World.size_alloc]; omega)]; simp [go_sem]
    · rw [(bcell hb).1, if_pos (by simp only [World.size_drew, World.size_alloc]; omega)]; simp [go_sem]
    · have hBw : Below w.heap.size w w' := step_le hb (by (repeat' (with_reducible first | exact Below.refl _ _ | refine past_le ?_ ?_ _ | refine Below.alloc ?_ ?_ _ | refine Below.drew ?_ | refine drewN_le ?_ _ | refine Below.setCell ?_ ?_ _ | refine step_le (by assumption) ?_ ?_ | omega | (simp only []; omega) | (simp only [World.size_alloc]; omega) | (simp only [World.size_setCell]; omega) | (simp only [World.size_drew]; omega) | (simp only [World.size_alloc, World.size_setCell]; omega) | (simp only [World.size_alloc, World.size_drew]; omega) | (simp only [World.size_setCell, World.size_drew]; omega) | (simp only [World.size_alloc, World.size_setCell, World.size_drew]; omega) | (simp only [World.size_alloc, World.size_setCell, World.size_drew, size_drewN]; omega)))) (by simp only [World.size_drew, World.size_alloc]; omega)
      exact (hBw.cell (p := ⟨b, _, none⟩) hlt).trans (hpH.out i hi)
    rintro e w9 ⟨rfl, hb, hpix⟩
    simp only [World.size_drew, World.size_alloc] at hpix
    have hbH : Hid (Below w.heap.size w w9) := show Below w.heap.size w w9 from step_le hb (by (repeat' (with_reducible first | exact Below.refl _ _ | refine past_le ?_ ?_ _ | refine Below.alloc ?_ ?_ _ | refine Below.drew ?_ | refine drewN_le ?_ _ | refine Below.setCell ?_ ?_ _ | refine step_le (by assumption) ?_ ?_ | omega | (simp only []; omega) | (simp only [World.size_alloc]; omega) | (simp only [World.size_setCell]; omega) | (simp only [World.size_drew]; omega) | (simp only [World.size_alloc, World.size_setCell]; omega) | (simp only [World.size_alloc, World.size_drew]; omega) | (simp only [World.size_setCell, World.size_drew]; omega) | (simp only [World.size_alloc, World.size_setCell, World.size_drew]; omega) | (simp only [World.size_alloc, World.size_setCell, World.size_drew, size_drewN]; omega)))) (by simp only [World.size_drew, World.size_alloc]; omega)
    obtain ⟨hc9, hf9, hz9⟩ := bcell hb
    simp only [World.size_drew, World.size_alloc] at hc9 hf9 hz9
    have hr9 : ∀ o, w9.cell? ⟨w.heap.size + 1, o, none⟩ = #[Value.int .i64 0, .int .i64 0, .slice none 0 0][o]? := fun o => by
      rw [hc9, if_pos (by omega)]; simp [go_sem]
    have hrF9 : ∀ o, w9.frozen? ⟨w.heap.size + 1, o, none⟩ = false := fun o => by
      rw [hf9, if_pos (by omega)]; simp [go_sem]
    have hpH9 : Hid _ := hpix
    clear hc9 hf9 hb hpix
    go_wp2_with fail
    refine bodyPost_ret (by simp [results, Try.results29, go_sem, hr9]; try rfl) rfl ?_
    refine ⟨_, rfl, ((hbH.out.setCell (Nat.le_succ _) _).setCell (Nat.le_succ _) _).setCell (Nat.le_succ _) _, bytes_of_cells0 fun j hj => ?_⟩
    rw [cell_setCell_if, if_neg (by omega), cell_setCell_if, if_neg (by omega), cell_setCell_if, if_neg (by omega)]
    exact hpH9.out j hj
end Go.Proofs.Ytmklpphdbmpbbaa
