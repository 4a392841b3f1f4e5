/-
  The contract of Mirror.
-/
import Derived.Test.YtoiblpncofbdpaaBuildF
import Derived.Test.YtoiblpncofbdpaaClos
import Derived.Test.YtoiblpncofbdpaaCrop
namespace Go.Proofs.Ytoiblpncofbdpaa
open Go.RowKit

set_option maxRecDepth 20000 in
set_option maxHeartbeats 2000000 in
theorem Mirror_any (W H cap b off : Nat) (pix : Nat → Int) (w : World) (hW : 1 ≤ W ∧ W ≤ 1024) (hH : 1 ≤ H ∧ H ≤ 1024) (hlt : b < w.heap.size)
    (hp : ∀ i, i < W * H → w.cell? ⟨b, off + i, none⟩ = some (.int .u8 (pix i))) (hpx : ∀ i, i < W * H → 0 ≤ pix i ∧ pix i ≤ 255) :
    Calls Try.prog 32 #[.agg #[.int .i64 W, .int .i64 H, .slice (some ⟨b, off, none⟩) (W * H) cap]] w fun e w' => ∃ A, e = .returned (.tuple #[.agg #[.int .i64 W, .int .i64 H, .slice A (W * H) (W * H)], .int .i64 0]) ∧
      Below w.heap.size w w' ∧ BytesAt w' A (W * H) (fun i => pix (i / W * W + (W - 1 - i % W))) := by
  have h0 := gridE_ok hW hH
  have hpH : Hid _ := hp
  have hpxH : Hid _ := hpx
  clear hp hpx
  go_enter Try.func32, Try.ntmps32
  go_wp2_with fail
  refine (gridCheck_any W H _ (W * H) cap _).mono ?_
  rw [h0]
  rintro e w' ⟨rfl, rfl⟩
  go_wp2_with fail
  refine (build_mirror W H _ (fun x y => pix (y * W + (W - 1 - x))) _ (Nat.mul_le_mul hW.2 hH.2) hW.2 hH.2 (fun x y hx hy => hpxH.out _ (idx_lt hy (by omega)))
    (fun x y w' hx hy hb => mirror_any x y W H cap b off _ pix w' hx hy hW.2 hH.2 (fun o => ?_) (fun i hi => ?_))).mono ?_
  · rw [(bcell hb).1, if_pos (by simp only [World.size_alloc]; omega)]; simp [go_sem]
  · have hBw : Below w.heap.size w w' := step_le hb (by (repeat' (with_reducible first | exact Below.refl _ _ | refine past_le ?_ ?_ _ | refine Below.alloc ?_ ?_ _ | refine Below.drew ?_ | refine drewN_le ?_ _ | refine Below.setCell ?_ ?_ _ | refine step_le (by assumption) ?_ ?_ | omega | (simp only []; omega) | (simp only [World.size_alloc]; omega) | (simp only [World.size_setCell]; omega) | (simp only [World.size_drew]; omega) | (simp only [World.size_alloc, World.size_setCell]; omega) | (simp only [World.size_alloc, World.size_drew]; omega) | (simp only [World.size_setCell, World.size_drew]; omega) | (simp only [World.size_alloc, World.size_setCell, World.size_drew]; omega)))) (by simp only [World.size_alloc]; omega)
    exact (hBw.cell (p := ⟨b, _, none⟩) hlt).trans (hpH.out i hi)
  rintro e w9 ⟨rfl, hb, hpix⟩
  simp only [World.size_alloc] at hpix
  have hbH : Hid (Below w.heap.size w w9) := show Below w.heap.size w w9 from step_le hb (by (repeat' (with_reducible first | exact Below.refl _ _ | refine past_le ?_ ?_ _ | refine Below.alloc ?_ ?_ _ | refine Below.drew ?_ | refine drewN_le ?_ _ | refine Below.setCell ?_ ?_ _ | refine step_le (by assumption) ?_ ?_ | omega | (simp only []; omega) | (simp only [World.size_alloc]; omega) | (simp only [World.size_setCell]; omega) | (simp only [World.size_drew]; omega) | (simp only [World.size_alloc, World.size_setCell]; omega) | (simp only [World.size_alloc, World.size_drew]; omega) | (simp only [World.size_setCell, World.size_drew]; omega) | (simp only [World.size_alloc, World.size_setCell, World.size_drew]; omega)))) (by simp only [World.size_alloc]; omega)
  obtain ⟨hc9, hf9, hz9⟩ := bcell hb
  simp only [World.size_alloc] at hc9 hf9 hz9
  have hr9 : ∀ o, w9.cell? ⟨w.heap.size + 1, o, none⟩ = #[Value.int .i64 0, .int .i64 0, .slice none 0 0][o]? := fun o => by
    rw [hc9, if_pos (by omega)]; simp [go_sem]
  have hrF9 : ∀ o, w9.frozen? ⟨w.heap.size + 1, o, none⟩ = false := fun o => by
    rw [hf9, if_pos (by omega)]; simp [go_sem]
  have hpH9 : Hid _ := hpix
  clear hc9 hf9 hb hpix
  go_wp2_with fail
  refine bodyPost_ret (by simp [results, Try.results32, go_sem, hr9]; try rfl) rfl ?_
  refine ⟨_, rfl, ((hbH.out.setCell (Nat.le_succ _) _).setCell (Nat.le_succ _) _).setCell (Nat.le_succ _) _, bytes_of_cells0 fun j hj => ?_⟩
  rw [cell_setCell_if, if_neg (by omega), cell_setCell_if, if_neg (by omega), cell_setCell_if, if_neg (by omega)]
  exact hpH9.out j hj
end Go.Proofs.Ytoiblpncofbdpaa
