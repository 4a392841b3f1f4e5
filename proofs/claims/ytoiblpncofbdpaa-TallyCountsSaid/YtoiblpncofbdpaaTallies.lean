/-
  The contract of the law's helper tallies.
-/
import Derived.Test.YtoiblpncofbdpaaTallyT
import Derived.Test.YtoiblpncofbdpaaKnown
namespace Go.Proofs.Ytoiblpncofbdpaa
open Go.RowKit

theorem numbers_any (w : World) : Calls Try.prog 52 #[] w fun e w' => ∃ b, e = .returned (.agg #[.int .i64 3, .int .i64 2, .slice (some ⟨b, 0, none⟩) 6 6]) ∧ Below w.heap.size w w' ∧ b < w'.heap.size ∧ ∀ i, i < 6 → w'.cell? ⟨b, 0 + i, none⟩ = some (.int .u8 ([1, 2, 3, 4, 5, 6].getD i 0)) := by
  go_enter Try.func52, Try.ntmps52
  go_wp2_with fail
  refine bodyPost_ret (by simp [results, Try.results52, go_sem]; try rfl) rfl ?_
  refine ⟨_, rfl, by (repeat' (with_reducible first | exact Below.refl _ _ | refine past_le ?_ ?_ _ | refine Below.alloc ?_ ?_ _ | refine Below.drew ?_ | refine drewN_le ?_ _ | refine Below.setCell ?_ ?_ _ | refine step_le (by assumption) ?_ ?_ | omega | (simp only []; omega) | (simp only [World.size_alloc]; omega) | (simp only [World.size_setCell]; omega) | (simp only [World.size_drew]; omega) | (simp only [World.size_alloc, World.size_setCell]; omega) | (simp only [World.size_alloc, World.size_drew]; omega) | (simp only [World.size_setCell, World.size_drew]; omega) | (simp only [World.size_alloc, World.size_setCell, World.size_drew]; omega))), by simp, fun i hi => new6 (fun o => ?_) i hi⟩
  simp [cell_setCell_if, go_sem]
theorem Sum_known (b : Nat) (w : World) (h : ∀ i, i < 6 → w.cell? ⟨b, 0 + i, none⟩ = some (.int .u8 ([1, 2, 3, 4, 5, 6].getD i 0))) (hlt : b < w.heap.size) :
    Calls Try.prog 18 #[.agg #[.int .i64 3, .int .i64 2, .slice (some ⟨b, 0, none⟩) 6 6]] w fun e w' => e = .returned (.tuple #[.int .i64 21, .int .i64 0]) ∧ Below w.heap.size w w' := by
  have hT := Sum_ok 3 2 6 b 0 (fun i => [1, 2, 3, 4, 5, 6].getD i 0) w (by omega) (by omega) hlt h (fun i hi => by
    match i, hi with
    | 0, _ => decide
    | 1, _ => decide
    | 2, _ => decide
    | 3, _ => decide
    | 4, _ => decide
    | 5, _ => decide)
  exact hT
theorem Zones_known (b : Nat) (w : World) (h : ∀ i, i < 6 → w.cell? ⟨b, 0 + i, none⟩ = some (.int .u8 ([1, 2, 3, 4, 5, 6].getD i 0))) (hlt : b < w.heap.size) :
    Calls Try.prog 19 #[.agg #[.int .i64 3, .int .i64 2, .slice (some ⟨b, 0, none⟩) 6 6], .int .i64 2] w fun e w' => ∃ A, e = .returned (.tuple #[.slice A 2 2, .int .i64 0]) ∧ Below w.heap.size w w' ∧ IntsAt w' A 2 (fun i => [12, 9].getD i 0) := by
  have hT := Zones_ok 2 3 2 6 b 0 (fun i => [1, 2, 3, 4, 5, 6].getD i 0) w (by omega) (by omega) (by omega) hlt h (fun i hi => by
    match i, hi with
    | 0, _ => decide
    | 1, _ => decide
    | 2, _ => decide
    | 3, _ => decide
    | 4, _ => decide
    | 5, _ => decide)
  refine hT.mono ?_
  rintro e w' ⟨A, he, hb, hA⟩
  refine ⟨A, he, hb, fun _ => ?_⟩
  obtain ⟨b', off, h1, h2, h3⟩ := hA (by decide)
  refine ⟨b', off, h1, h2, fun i hi => ?_⟩
  rw [h3 i hi]
  match i, hi with
  | 0, _ => rfl
  | 1, _ => rfl
set_option maxRecDepth 20000 in
set_option maxHeartbeats 2000000 in
theorem tallies_any (w : World) : Calls Try.prog 17 #[] w fun e w' => e = .returned (.bool true) ∧ Below w.heap.size w w' := by
  have hs : sameB 2 2 (fun i => [12, 9].getD i 0) (fun i => [12, 9].getD i 0) = true := sameB_refl _ _
  go_enter Try.func17, Try.ntmps17
  go_wp2_with fail
  refine (numbers_any _).mono ?_
  rintro e w1 ⟨b1, rfl, hb1, hlt1, hc1⟩
  have HC1 : Hid _ := hc1
  clear hc1
  go_wp2_with fail
  refine (Sum_known b1 w1 HC1.out hlt1).mono ?_
  rintro e w2 ⟨rfl, hb2⟩
  have HB2 : Hid (Below w.heap.size w w2) := show Below w.heap.size w w2 from step_le hb2 hb1 hb1.size
  clear hb1 hb2 hlt1 HC1
  go_wp2_with fail
  refine (numbers_any _).mono ?_
  rintro e w3 ⟨b3, rfl, hb3, hlt3, hc3⟩
  have HC3 : Hid _ := hc3
  have HB3 : Hid (Below w.heap.size w w3) := show Below w.heap.size w w3 from step_le hb3 HB2.out HB2.out.size
  clear hc3 hb3 HB2
  go_wp2_with fail
  refine (Zones_known b3 w3 HC3.out hlt3).mono ?_
  rintro e w4 ⟨A, rfl, hb4, hA⟩
  have HA : Hid _ := hA
  have HB4 : Hid (Below w.heap.size w w4) := show Below w.heap.size w w4 from step_le hb4 HB3.out HB3.out.size
  clear hA hb4 HC3 HB3 hlt3
  go_wp2_with fail
  refine (SameInts_any A _ 2 2 2 2 (fun i => [12, 9].getD i 0) (fun i => [12, 9].getD i 0) _ (by omega) (by omega) (IntsAt.below HA.out ?_) (ints_of_cells0 fun i hi => ?_)).mono ?_
  · (repeat' (with_reducible first | exact Below.refl _ _ | refine past_le ?_ ?_ _ | refine Below.alloc ?_ ?_ _ | refine Below.drew ?_ | refine drewN_le ?_ _ | refine Below.setCell ?_ ?_ _ | refine step_le (by assumption) ?_ ?_ | omega | (simp only []; omega) | (simp only [World.size_alloc]; omega) | (simp only [World.size_setCell]; omega) | (simp only [World.size_drew]; omega) | (simp only [World.size_alloc, World.size_setCell]; omega) | (simp only [World.size_alloc, World.size_drew]; omega) | (simp only [World.size_setCell, World.size_drew]; omega) | (simp only [World.size_alloc, World.size_setCell, World.size_drew]; omega)))
  · match i, hi with
    | 0, _ => simp [go_sem]
    | 1, _ => simp [go_sem]
  rw [hs]
  rintro e w5 ⟨rfl, hb5⟩
  have HB5 : Hid (Below w.heap.size w w5) := show Below w.heap.size w w5 from step_le hb5 (HB4.out.alloc HB4.out.size _) (by simp only [World.size_alloc]; have := HB4.out.size; omega)
  clear hb5
  go_wp2_with fail
  go_ret
  exact ⟨rfl, HB5.out⟩
end Go.Proofs.Ytoiblpncofbdpaa
