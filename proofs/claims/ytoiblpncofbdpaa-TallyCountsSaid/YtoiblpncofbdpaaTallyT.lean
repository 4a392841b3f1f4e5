/-
  The contract of tally's Tiles.
-/
import Derived.Test.YtoiblpncofbdpaaTallyS
namespace Go.Proofs.Ytoiblpncofbdpaa
open Go.RowKit

set_option maxRecDepth 20000 in
set_option maxHeartbeats 1000000 in
theorem Tiles_ok (a c W H cap b off : Nat) (pix : Nat → Int) (w : World) (ha : 1 ≤ a ∧ a ≤ 1024) (hc : 1 ≤ c ∧ c ≤ 1024) (hW : 1 ≤ W ∧ W ≤ 1024) (hH : 1 ≤ H ∧ H ≤ 1024) (hlt : b < w.heap.size)
    (hp : ∀ i, i < W * H → w.cell? ⟨b, off + i, none⟩ = some (.int .u8 (pix i))) (hpx : ∀ i, i < W * H → 0 ≤ pix i ∧ pix i ≤ 255) :
    Calls Try.prog 20 #[.agg #[.int .i64 W, .int .i64 H, .slice (some ⟨b, off, none⟩) (W * H) cap], .int .i64 a, .int .i64 c] w fun e w' => ∃ A, e = .returned (.tuple #[.slice A (tilesN W a * tilesN H c) (tilesN W a * tilesN H c), .int .i64 0]) ∧ Below w.heap.size w w' ∧ IntsAt w' A (tilesN W a * tilesN H c) (acc (tileOf W a c) pix (W * H)) := by
  have h0 : gridE W H (W * H) = 0 := by rw [gridE, if_neg (by rw [inB_yes (by omega), inB_yes (by omega)]; simp), if_neg (by simp)]
  have HP : Hid _ := hp
  have HX : Hid _ := hpx
  have t1 := tilesN_bd hW ha.1
  have t2 := tilesN_bd hH hc.1
  have HL : Hid _ := fun i (hi : i < W * H) => tileOf_lt hi hW.1 ha.1 hc.1
  have t3 : tilesN W a * tilesN H c ≤ 1048576 := Nat.mul_le_mul t1.2 t2.2
  have HA : Hid (∀ i, tileOf W a c i = i / W / c * tilesN W a + i % W / a) := fun i => rfl
  have q1 : ((W : Int) + a - 1).tdiv a = ((tilesN W a : Nat) : Int) := by
    rw [show (W : Int) + a - 1 = ((W + a - 1 : Nat) : Int) by omega, Int.tdiv_eq_ediv_of_nonneg (by omega)]; rfl
  have q2 : ((H : Int) + c - 1).tdiv c = ((tilesN H c : Nat) : Int) := by
    rw [show (H : Int) + c - 1 = ((H + c - 1 : Nat) : Int) by omega, Int.tdiv_eq_ediv_of_nonneg (by omega)]; rfl
  have q3 : ((tilesN W a : Nat) : Int) * ((tilesN H c : Nat) : Int) = ((tilesN W a * tilesN H c : Nat) : Int) := by simp
  generalize tilesN W a * tilesN H c = N at *
  generalize tilesN W a = tw at *
  generalize tilesN H c = th at *
  clear hp hpx
  go_enter Try.func20, Try.ntmps20
  go_wp2_with fail
  refine (renderCheck_any W H _ (W * H) cap _).mono ?_
  rw [h0]
  rintro e w' ⟨rfl, rfl⟩
  go_wp2_with fail
  go_region
  all_goals
    go_wp2_with fail
    refine (sums_any 57 callTiles #[.pointer (some ⟨w.heap.size + 1 + 1, 0, none⟩), .pointer (some ⟨w.heap.size + 1 + 1 + 1 + 1, 0, none⟩), .pointer (some ⟨w.heap.size + 1, 0, none⟩)] (tileOf W a c) N W H cap b off pix _ t3 hW hH (by simp only [World.size_drew, World.size_alloc]; omega) (fun i hi => ?_) HX.out HL.out (fun i w' hi hb => ?_)).mono ?_
    · simp only [World.cell?_drew, cell_alloc_if, World.size_alloc]
      rw [if_neg (by omega), if_neg (by omega), if_neg (by omega), if_neg (by omega), if_neg (by omega)]; exact HP.out i hi
    · rw [HA.out]
      have hx1 := Nat.mod_lt i (show W > 0 by omega)
      have hy1 := Nat.div_lt_of_lt_mul hi
      refine tilesC_any (i % W) (i / W) c tw a _ _ _ w' (by omega) (by omega) hc t1.2 ha (fun o => ?_) (fun o => ?_) (fun o => ?_)
      · rw [(bcell hb).1, if_pos (by simp only [World.size_drew, World.size_alloc]; omega)]; simp [go_sem]
      · rw [(bcell hb).1, if_pos (by simp only [World.size_drew, World.size_alloc]; omega)]; simp [go_sem]
      · rw [(bcell hb).1, if_pos (by simp only [World.size_drew, World.size_alloc]; omega)]; simp [go_sem]
    rintro e w1 ⟨B, rfl, hB, hS⟩
    have hI : Hid (IntsAt w1 (some ⟨B, 0, none⟩) N (acc (tileOf W a c) pix (W * H))) := ints_of_cells0 hS.cells
    have hb : Hid (Below w.heap.size w w1) := show Below w.heap.size w w1 from step_le hS.below (by (repeat' (with_reducible first | exact Below.refl _ _ | refine past_le ?_ ?_ _ | refine Below.alloc ?_ ?_ _ | refine Below.drew ?_ | refine drewN_le ?_ _ | refine Below.setCell ?_ ?_ _ | refine step_le (by assumption) ?_ ?_ | omega | (simp only []; omega) | (simp only [World.size_alloc]; omega) | (simp only [World.size_setCell]; omega) | (simp only [World.size_drew]; omega) | (simp only [World.size_alloc, World.size_setCell]; omega) | (simp only [World.size_alloc, World.size_drew]; omega) | (simp only [World.size_setCell, World.size_drew]; omega) | (simp only [World.size_alloc, World.size_setCell, World.size_drew]; omega)))) (by simp only [World.size_drew, World.size_alloc]; omega)
    clear hS
    go_wp2_with fail
    go_ret2
    exact ⟨_, rfl, hb.out, hI.out⟩
end Go.Proofs.Ytoiblpncofbdpaa
