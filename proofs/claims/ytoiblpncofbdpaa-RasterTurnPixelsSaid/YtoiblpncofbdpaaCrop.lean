/-
  Contracts of Crop and At.
-/
import Derived.Test.YtoiblpncofbdpaaBuildF
import Derived.Test.YtoiblpncofbdpaaClos
namespace Go.Proofs.Ytoiblpncofbdpaa
open Go.RowKit

theorem gridE_ok {W H : Nat} (hW : 1 ≤ W ∧ W ≤ 1024) (hH : 1 ≤ H ∧ H ≤ 1024) : gridE W H (W * H) = 0 := by
  rw [gridE, if_neg (by rw [inB_yes (by omega), inB_yes (by omega)]; simp), if_neg (by simp)]
set_option maxRecDepth 20000 in
set_option maxHeartbeats 2000000 in
theorem Crop_in (W H X Y c d cap b off : Nat) (pix : Nat → Int) (w : World) (hW : 1 ≤ W ∧ W ≤ 1024) (hH : 1 ≤ H ∧ H ≤ 1024) (hc : 1 ≤ c ∧ X + c ≤ W) (hd : 1 ≤ d ∧ Y + d ≤ H) (hlt : b < w.heap.size)
    (hp : ∀ i, i < W * H → w.cell? ⟨b, off + i, none⟩ = some (.int .u8 (pix i))) (hpx : ∀ i, i < W * H → 0 ≤ pix i ∧ pix i ≤ 255) :
    Calls Try.prog 39 #[.agg #[.int .i64 W, .int .i64 H, .slice (some ⟨b, off, none⟩) (W * H) cap], .int .i64 X, .int .i64 Y, .int .i64 c, .int .i64 d] w fun e w' => ∃ A, e = .returned (.tuple #[.agg #[.int .i64 c, .int .i64 d, .slice A (c * d) (c * d)], .int .i64 0]) ∧
      Below w.heap.size w w' ∧ BytesAt w' A (c * d) (fun i => pix ((Y + i / c) * W + (X + i % c))) := by
  have h0 := gridE_ok hW hH
  have hpH : Hid _ := hp
  have hpxH : Hid _ := hpx
  clear hp hpx
  go_enter Try.func39, Try.ntmps39
  go_wp2_with fail
  refine (gridCheck_any W H _ (W * H) cap _).mono ?_
  rw [h0]
  rintro e w' ⟨rfl, rfl⟩
  go_wp2_with fail
  refine (build_crop c d _ _ _ (fun x y => pix ((Y + y) * W + (X + x))) _ (Nat.mul_le_mul (show c ≤ 1024 by omega) (show d ≤ 1024 by omega)) (by omega) (by omega) (fun x y hx hy => hpxH.out _ (idx_lt (by omega) (by omega)))
    (fun x y w' hx hy hb => crop_any x y W H X Y cap b off _ _ _ pix w' (by omega) (by omega) hW.2 hH.2 (fun o => ?_) (fun o => ?_) (fun o => ?_) (fun i hi => ?_))).mono ?_
  · rw [(bcell hb).1, if_pos (by simp only [World.size_alloc]; omega)]; simp [go_sem]
  · rw [(bcell hb).1, if_pos (by simp only [World.size_alloc]; omega)]; simp [go_sem]
  · rw [(bcell hb).1, if_pos (by simp only [World.size_alloc]; omega)]; simp [go_sem]
  · have hBw : Below w.heap.size w w' := step_le hb (by (repeat' (with_reducible first | exact Below.refl _ _ | refine past_le ?_ ?_ _ | refine Below.alloc ?_ ?_ _ | refine Below.drew ?_ | refine drewN_le ?_ _ | refine Below.setCell ?_ ?_ _ | refine step_le (by assumption) ?_ ?_ | omega | (simp only []; omega) | (simp only [World.size_alloc]; omega) | (simp only [World.size_setCell]; omega) | (simp only [World.size_drew]; omega) | (simp only [World.size_alloc, World.size_setCell]; omega) | (simp only [World.size_alloc, World.size_drew]; omega) | (simp only [World.size_setCell, World.size_drew]; omega) | (simp only [World.size_alloc, World.size_setCell, World.size_drew]; omega)))) (by simp only [World.size_alloc]; omega)
    exact (hBw.cell (p := ⟨b, _, none⟩) hlt).trans (hpH.out i hi)
  rintro e w9 ⟨rfl, hb, hpix⟩
  simp only [World.size_alloc] at hpix
  have hbH : Hid (Below w.heap.size w w9) := show Below w.heap.size w w9 from step_le hb (by (repeat' (with_reducible first | exact Below.refl _ _ | refine past_le ?_ ?_ _ | refine Below.alloc ?_ ?_ _ | refine Below.drew ?_ | refine drewN_le ?_ _ | refine Below.setCell ?_ ?_ _ | refine step_le (by assumption) ?_ ?_ | omega | (simp only []; omega) | (simp only [World.size_alloc]; omega) | (simp only [World.size_setCell]; omega) | (simp only [World.size_drew]; omega) | (simp only [World.size_alloc, World.size_setCell]; omega) | (simp only [World.size_alloc, World.size_drew]; omega) | (simp only [World.size_setCell, World.size_drew]; omega) | (simp only [World.size_alloc, World.size_setCell, World.size_drew]; omega)))) (by simp only [World.size_alloc]; omega)
  obtain ⟨hc9, hf9, hz9⟩ := bcell hb
  simp only [World.size_alloc] at hc9 hf9 hz9
  have hr9 : ∀ o, w9.cell? ⟨w.heap.size + 3, o, none⟩ = #[Value.int .i64 0, .int .i64 0, .slice none 0 0][o]? := fun o => by
    rw [hc9, if_pos (by omega)]; simp [go_sem]
  have hrF9 : ∀ o, w9.frozen? ⟨w.heap.size + 3, o, none⟩ = false := fun o => by
    rw [hf9, if_pos (by omega)]; simp [go_sem]
  have hpH9 : Hid _ := hpix
  clear hc9 hf9 hb hpix
  go_wp2_with fail
  refine bodyPost_ret (by simp [results, Try.results39, go_sem, hr9]; try rfl) rfl ?_
  refine ⟨_, rfl, ((hbH.out.setCell (by show _ ≤ w.heap.size + 3; omega) _).setCell (by show _ ≤ w.heap.size + 3; omega) _).setCell (by show _ ≤ w.heap.size + 3; omega) _, bytes_of_cells0 fun j hj => ?_⟩
  rw [cell_setCell_if, if_neg (by omega), cell_setCell_if, if_neg (by omega), cell_setCell_if, if_neg (by omega)]
  exact hpH9.out j hj
set_option maxRecDepth 20000 in
set_option maxHeartbeats 4000000 in
theorem Crop_no (W H cap b off : Nat) (x y c d : Int) (w : World) (hW : 1 ≤ W ∧ W ≤ 1024) (hH : 1 ≤ H ∧ H ≤ 1024) (h : c < 1 ∨ d < 1 ∨ x < 0 ∨ y < 0 ∨ (W : Int) < c ∨ (H : Int) < d ∨ (W : Int) - c < x ∨ (H : Int) - d < y) :
    Calls Try.prog 39 #[.agg #[.int .i64 W, .int .i64 H, .slice (some ⟨b, off, none⟩) (W * H) cap], .int .i64 x, .int .i64 y, .int .i64 c, .int .i64 d] w fun e w' => e = .returned (.tuple #[.agg #[.int .i64 0, .int .i64 0, .slice none 0 0], .int .i64 3]) ∧ Below w.heap.size w w' := by
  have h0 := gridE_ok hW hH
  by_cases h1 : c < 1
  · clear h
    go_enter Try.func39, Try.ntmps39
    go_wp2_with fail
    refine (gridCheck_any W H _ (W * H) cap _).mono ?_
    rw [h0]
    rintro e w' ⟨rfl, rfl⟩
    go_wp2_with fail
    go_returns
    exact ⟨rfl, by (repeat' (with_reducible first | exact Below.refl _ _ | refine past_le ?_ ?_ _ | refine Below.alloc ?_ ?_ _ | refine Below.drew ?_ | refine drewN_le ?_ _ | refine Below.setCell ?_ ?_ _ | refine step_le (by assumption) ?_ ?_ | omega | (simp only []; omega) | (simp only [World.size_alloc]; omega) | (simp only [World.size_setCell]; omega) | (simp only [World.size_drew]; omega) | (simp only [World.size_alloc, World.size_setCell]; omega) | (simp only [World.size_alloc, World.size_drew]; omega) | (simp only [World.size_setCell, World.size_drew]; omega) | (simp only [World.size_alloc, World.size_setCell, World.size_drew]; omega)))⟩
  by_cases h2 : d < 1
  · clear h
    go_enter Try.func39, Try.ntmps39
    go_wp2_with fail
    refine (gridCheck_any W H _ (W * H) cap _).mono ?_
    rw [h0]
    rintro e w' ⟨rfl, rfl⟩
    go_wp2_with fail
    go_returns
    exact ⟨rfl, by (repeat' (with_reducible first | exact Below.refl _ _ | refine past_le ?_ ?_ _ | refine Below.alloc ?_ ?_ _ | refine Below.drew ?_ | refine drewN_le ?_ _ | refine Below.setCell ?_ ?_ _ | refine step_le (by assumption) ?_ ?_ | omega | (simp only []; omega) | (simp only [World.size_alloc]; omega) | (simp only [World.size_setCell]; omega) | (simp only [World.size_drew]; omega) | (simp only [World.size_alloc, World.size_setCell]; omega) | (simp only [World.size_alloc, World.size_drew]; omega) | (simp only [World.size_setCell, World.size_drew]; omega) | (simp only [World.size_alloc, World.size_setCell, World.size_drew]; omega)))⟩
  by_cases h3 : x < 0
  · clear h
    go_enter Try.func39, Try.ntmps39
    go_wp2_with fail
    refine (gridCheck_any W H _ (W * H) cap _).mono ?_
    rw [h0]
    rintro e w' ⟨rfl, rfl⟩
    go_wp2_with fail
    go_returns
    exact ⟨rfl, by (repeat' (with_reducible first | exact Below.refl _ _ | refine past_le ?_ ?_ _ | refine Below.alloc ?_ ?_ _ | refine Below.drew ?_ | refine drewN_le ?_ _ | refine Below.setCell ?_ ?_ _ | refine step_le (by assumption) ?_ ?_ | omega | (simp only []; omega) | (simp only [World.size_alloc]; omega) | (simp only [World.size_setCell]; omega) | (simp only [World.size_drew]; omega) | (simp only [World.size_alloc, World.size_setCell]; omega) | (simp only [World.size_alloc, World.size_drew]; omega) | (simp only [World.size_setCell, World.size_drew]; omega) | (simp only [World.size_alloc, World.size_setCell, World.size_drew]; omega)))⟩
  by_cases h4 : y < 0
  · clear h
    go_enter Try.func39, Try.ntmps39
    go_wp2_with fail
    refine (gridCheck_any W H _ (W * H) cap _).mono ?_
    rw [h0]
    rintro e w' ⟨rfl, rfl⟩
    go_wp2_with fail
    go_returns
    exact ⟨rfl, by (repeat' (with_reducible first | exact Below.refl _ _ | refine past_le ?_ ?_ _ | refine Below.alloc ?_ ?_ _ | refine Below.drew ?_ | refine drewN_le ?_ _ | refine Below.setCell ?_ ?_ _ | refine step_le (by assumption) ?_ ?_ | omega | (simp only []; omega) | (simp only [World.size_alloc]; omega) | (simp only [World.size_setCell]; omega) | (simp only [World.size_drew]; omega) | (simp only [World.size_alloc, World.size_setCell]; omega) | (simp only [World.size_alloc, World.size_drew]; omega) | (simp only [World.size_setCell, World.size_drew]; omega) | (simp only [World.size_alloc, World.size_setCell, World.size_drew]; omega)))⟩
  by_cases h5 : (W : Int) < c
  · clear h
    go_enter Try.func39, Try.ntmps39
    go_wp2_with fail
    refine (gridCheck_any W H _ (W * H) cap _).mono ?_
    rw [h0]
    rintro e w' ⟨rfl, rfl⟩
    go_wp2_with fail
    go_returns
    exact ⟨rfl, by (repeat' (with_reducible first | exact Below.refl _ _ | refine past_le ?_ ?_ _ | refine Below.alloc ?_ ?_ _ | refine Below.drew ?_ | refine drewN_le ?_ _ | refine Below.setCell ?_ ?_ _ | refine step_le (by assumption) ?_ ?_ | omega | (simp only []; omega) | (simp only [World.size_alloc]; omega) | (simp only [World.size_setCell]; omega) | (simp only [World.size_drew]; omega) | (simp only [World.size_alloc, World.size_setCell]; omega) | (simp only [World.size_alloc, World.size_drew]; omega) | (simp only [World.size_setCell, World.size_drew]; omega) | (simp only [World.size_alloc, World.size_setCell, World.size_drew]; omega)))⟩
  by_cases h6 : (H : Int) < d
  · clear h
    go_enter Try.func39, Try.ntmps39
    go_wp2_with fail
    refine (gridCheck_any W H _ (W * H) cap _).mono ?_
    rw [h0]
    rintro e w' ⟨rfl, rfl⟩
    go_wp2_with fail
    go_returns
    exact ⟨rfl, by (repeat' (with_reducible first | exact Below.refl _ _ | refine past_le ?_ ?_ _ | refine Below.alloc ?_ ?_ _ | refine Below.drew ?_ | refine drewN_le ?_ _ | refine Below.setCell ?_ ?_ _ | refine step_le (by assumption) ?_ ?_ | omega | (simp only []; omega) | (simp only [World.size_alloc]; omega) | (simp only [World.size_setCell]; omega) | (simp only [World.size_drew]; omega) | (simp only [World.size_alloc, World.size_setCell]; omega) | (simp only [World.size_alloc, World.size_drew]; omega) | (simp only [World.size_setCell, World.size_drew]; omega) | (simp only [World.size_alloc, World.size_setCell, World.size_drew]; omega)))⟩
  by_cases h7 : (W : Int) - c < x
  · clear h
    go_enter Try.func39, Try.ntmps39
    go_wp2_with fail
    refine (gridCheck_any W H _ (W * H) cap _).mono ?_
    rw [h0]
    rintro e w' ⟨rfl, rfl⟩
    go_wp2_with fail
    go_returns
    exact ⟨rfl, by (repeat' (with_reducible first | exact Below.refl _ _ | refine past_le ?_ ?_ _ | refine Below.alloc ?_ ?_ _ | refine Below.drew ?_ | refine drewN_le ?_ _ | refine Below.setCell ?_ ?_ _ | refine step_le (by assumption) ?_ ?_ | omega | (simp only []; omega) | (simp only [World.size_alloc]; omega) | (simp only [World.size_setCell]; omega) | (simp only [World.size_drew]; omega) | (simp only [World.size_alloc, World.size_setCell]; omega) | (simp only [World.size_alloc, World.size_drew]; omega) | (simp only [World.size_setCell, World.size_drew]; omega) | (simp only [World.size_alloc, World.size_setCell, World.size_drew]; omega)))⟩
  have h8 : (H : Int) - d < y := by omega
  clear h
  go_enter Try.func39, Try.ntmps39
  go_wp2_with fail
  refine (gridCheck_any W H _ (W * H) cap _).mono ?_
  rw [h0]
  rintro e w' ⟨rfl, rfl⟩
  go_wp2_with fail
  go_returns
  exact ⟨rfl, by (repeat' (with_reducible first | exact Below.refl _ _ | refine past_le ?_ ?_ _ | refine Below.alloc ?_ ?_ _ | refine Below.drew ?_ | refine drewN_le ?_ _ | refine Below.setCell ?_ ?_ _ | refine step_le (by assumption) ?_ ?_ | omega | (simp only []; omega) | (simp only [World.size_alloc]; omega) | (simp only [World.size_setCell]; omega) | (simp only [World.size_drew]; omega) | (simp only [World.size_alloc, World.size_setCell]; omega) | (simp only [World.size_alloc, World.size_drew]; omega) | (simp only [World.size_setCell, World.size_drew]; omega) | (simp only [World.size_alloc, World.size_setCell, World.size_drew]; omega)))⟩
set_option maxRecDepth 20000 in
set_option maxHeartbeats 2000000 in
theorem At_in (W H x y cap b off : Nat) (pix : Nat → Int) (w : World) (hW : 1 ≤ W ∧ W ≤ 1024) (hH : 1 ≤ H ∧ H ≤ 1024) (hx : x < W) (hy : y < H) (hlt : b < w.heap.size)
    (hp : ∀ i, i < W * H → w.cell? ⟨b, off + i, none⟩ = some (.int .u8 (pix i))) :
    Calls Try.prog 40 #[.agg #[.int .i64 W, .int .i64 H, .slice (some ⟨b, off, none⟩) (W * H) cap], .int .i64 x, .int .i64 y] w fun e w' => e = .returned (.tuple #[.int .u8 (pix (y * W + x)), .int .i64 0]) ∧ Below w.heap.size w w' := by
  have h0 := gridE_ok hW hH
  have hlt2 : y * W + x < W * H := idx_lt hy hx
  have hc := hp _ hlt2
  have hm : W * H ≤ 1048576 := Nat.mul_le_mul hW.2 hH.2
  have e1 : (y : Int) * W = ((y * W : Nat) : Int) := (Int.natCast_mul y W).symm
  clear hp
  generalize y * W = q at *
  generalize W * H = m at *
  go_enter Try.func40, Try.ntmps40
  go_wp2_with fail
  refine (gridCheck_any W H _ m cap _).mono ?_
  rw [h0]
  rintro e w' ⟨rfl, rfl⟩
  go_wp2_with fail
  go_ret2
  exact ⟨rfl, by (repeat' (with_reducible first | exact Below.refl _ _ | refine past_le ?_ ?_ _ | refine Below.alloc ?_ ?_ _ | refine Below.drew ?_ | refine drewN_le ?_ _ | refine Below.setCell ?_ ?_ _ | refine step_le (by assumption) ?_ ?_ | omega | (simp only []; omega) | (simp only [World.size_alloc]; omega) | (simp only [World.size_setCell]; omega) | (simp only [World.size_drew]; omega) | (simp only [World.size_alloc, World.size_setCell]; omega) | (simp only [World.size_alloc, World.size_drew]; omega) | (simp only [World.size_setCell, World.size_drew]; omega) | (simp only [World.size_alloc, World.size_setCell, World.size_drew]; omega)))⟩
set_option maxRecDepth 20000 in
set_option maxHeartbeats 2000000 in
theorem At_no (W H x y cap b off : Nat) (w : World) (hW : 1 ≤ W ∧ W ≤ 1024) (hH : 1 ≤ H ∧ H ≤ 1024) (hx : W ≤ x) :
    Calls Try.prog 40 #[.agg #[.int .i64 W, .int .i64 H, .slice (some ⟨b, off, none⟩) (W * H) cap], .int .i64 x, .int .i64 y] w fun e w' => e = .returned (.tuple #[.int .u8 0, .int .i64 3]) ∧ Below w.heap.size w w' := by
  have h0 := gridE_ok hW hH
  go_enter Try.func40, Try.ntmps40
  go_wp2_with fail
  refine (gridCheck_any W H _ (W * H) cap _).mono ?_
  rw [h0]
  rintro e w' ⟨rfl, rfl⟩
  go_wp2_with fail
  go_ret2
  exact ⟨rfl, by (repeat' (with_reducible first | exact Below.refl _ _ | refine past_le ?_ ?_ _ | refine Below.alloc ?_ ?_ _ | refine Below.drew ?_ | refine drewN_le ?_ _ | refine Below.setCell ?_ ?_ _ | refine step_le (by assumption) ?_ ?_ | omega | (simp only []; omega) | (simp only [World.size_alloc]; omega) | (simp only [World.size_setCell]; omega) | (simp only [World.size_drew]; omega) | (simp only [World.size_alloc, World.size_setCell]; omega) | (simp only [World.size_alloc, World.size_drew]; omega) | (simp only [World.size_setCell, World.size_drew]; omega) | (simp only [World.size_alloc, World.size_setCell, World.size_drew]; omega)))⟩
end Go.Proofs.Ytoiblpncofbdpaa
