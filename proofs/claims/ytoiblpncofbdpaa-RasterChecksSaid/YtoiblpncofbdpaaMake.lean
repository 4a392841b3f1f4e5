/-
  The contract of raster.Make.
-/
import Derived.Test.YtoiblpncofbdpaaBuildF
import Derived.Test.YtoiblpncofbdpaaClos
namespace Go.Proofs.Ytoiblpncofbdpaa
open Go.RowKit

set_option maxRecDepth 20000 in
set_option maxHeartbeats 2000000 in
theorem Make_any (c d : Nat) (v : Int) (w : World) (hc : 1 ≤ c ∧ c ≤ 1024) (hd : 1 ≤ d ∧ d ≤ 1024) (hv : 0 ≤ v ∧ v ≤ 255) :
    Calls Try.prog 29 #[.int .i64 c, .int .i64 d, .int .u8 v] w fun e w' => ∃ A, e = .returned (.tuple #[.agg #[.int .i64 c, .int .i64 d, .slice A (c * d) (c * d)], .int .i64 0]) ∧ Below w.heap.size w w' ∧ BytesAt w' A (c * d) (fun _ => v) := by
  have h1 : inB c 1 1024 = true := inB_yes (by omega)
  have h2 : inB d 1 1024 = true := inB_yes (by omega)
  have hm : c * d ≤ 1048576 := Nat.mul_le_mul hc.2 hd.2
  go_enter Try.func29, Try.ntmps29
  go_wp2_with (first | (go_at_call 60; refine (sized_any _ _ _).mono ?_; rintro e w' ⟨rfl, rfl⟩))
  refine (build_make c d w.heap.size (fun _ _ => v) _ hm hc.2 hd.2 (fun _ _ _ _ => hv) (fun x y w' _ _ hb => make_any x y _ v w' (fun o => ?_))).mono ?_
  · rw [(bcell hb).1, if_pos (by simp only [World.size_alloc]; omega)]
    simp [go_sem]
  rintro e w9 ⟨rfl, hb, hpix⟩
  simp only [World.size_alloc] at hpix
  have hbH : Hid (Below w.heap.size w w9) := show Below w.heap.size w w9 from step_le hb (by (repeat' (with_reducible first | exact Below.refl _ _ | refine past_le ?_ ?_ _ | refine Below.alloc ?_ ?_ _ | refine Below.drew ?_ | refine drewN_le ?_ _ | refine Below.setCell ?_ ?_ _ | refine step_le (by assumption) ?_ ?_ | omega | (simp only []; omega) | (simp only [World.size_alloc]; omega) | (simp only [World.size_setCell]; omega) | (simp only [World.size_drew]; omega) | (simp only [World.size_alloc, World.size_setCell]; omega) | (simp only [World.size_alloc, World.size_drew]; omega) | (simp only [World.size_setCell, World.size_drew]; omega) | (simp only [World.size_alloc, World.size_setCell, World.size_drew]; omega)))) (by simp only [World.size_alloc]; omega)
  obtain ⟨hc9, hf9, hz9⟩ := bcell hb
  simp only [World.size_alloc] at hc9 hf9 hz9
  have hr9 : ∀ o, w9.cell? ⟨w.heap.size + 1, o, none⟩ = #[Value.int .i64 0, .int .i64 0, .slice none 0 0][o]? := fun o => by
    rw [hc9, if_pos (by omega)]; simp [go_sem]
  have hrF9 : ∀ o, w9.frozen? ⟨w.heap.size + 1, o, none⟩ = false := fun o => by
    rw [hf9, if_pos (by omega)]; simp [go_sem]
  have hpH : Hid _ := hpix
  clear hc9 hf9 hb hpix
  go_wp2_with fail
  refine bodyPost_ret (by simp [results, Try.results29, go_sem, hr9]; try rfl) rfl ?_
  refine ⟨_, rfl, ((hbH.out.setCell (Nat.le_succ _) _).setCell (Nat.le_succ _) _).setCell (Nat.le_succ _) _, bytes_of_cells0 fun j hj => ?_⟩
  rw [cell_setCell_if, if_neg (by omega), cell_setCell_if, if_neg (by omega), cell_setCell_if, if_neg (by omega)]
  exact hpH.out j hj
theorem Make_no (x y v : Int) (w : World) (h : ¬(inB x 1 1024 = true ∧ inB y 1 1024 = true)) :
    Calls Try.prog 29 #[.int .i64 x, .int .i64 y, .int .u8 v] w fun e w' => e = .returned (.tuple #[.agg #[.int .i64 0, .int .i64 0, .slice none 0 0], .int .i64 3]) ∧ Below w.heap.size w w' := by
  have hs' : (inB x 1 1024 && inB y 1 1024) = false := by
    cases h1 : inB x 1 1024 <;> cases h2 : inB y 1 1024 <;> simp_all
  clear h
  go_enter Try.func29, Try.ntmps29
  go_wp2_with (first | (go_at_call 60; refine (sized_any _ _ _).mono ?_; rw [hs']; rintro e w' ⟨rfl, rfl⟩))
  go_returns
  exact ⟨rfl, by (repeat' (with_reducible first | exact Below.refl _ _ | refine past_le ?_ ?_ _ | refine Below.alloc ?_ ?_ _ | refine Below.drew ?_ | refine drewN_le ?_ _ | refine Below.setCell ?_ ?_ _ | refine step_le (by assumption) ?_ ?_ | omega | (simp only []; omega) | (simp only [World.size_alloc]; omega) | (simp only [World.size_setCell]; omega) | (simp only [World.size_drew]; omega) | (simp only [World.size_alloc, World.size_setCell]; omega) | (simp only [World.size_alloc, World.size_drew]; omega) | (simp only [World.size_setCell, World.size_drew]; omega) | (simp only [World.size_alloc, World.size_setCell, World.size_drew]; omega)))⟩
end Go.Proofs.Ytoiblpncofbdpaa
