/-
  The walk of the law ComposeOvers: Over paints with the formula of the document.
-/
import Derived.Test.YtampdegpfndggaaComposes
import Derived.Test.YtampdegpfndggaaFlatA
namespace Go.Proofs.Ytampdegpfndggaa.composeOvers
open Go.RowKit

set_option maxRecDepth 20000 in
set_option maxHeartbeats 4000000 in
theorem walk_e1 (md : Int) (S I : Nat → Int) (q : Int) (ov : Bool) (w : World) (hs : stE S = 4) :
    Calls Try.prog 4 #[.agg #[.int .u8 (S 0), .int .u8 (S 1), .int .u8 (S 2), .int .u8 (S 3), .int .u8 (S 4), .int .u8 (S 5), .int .u8 (S 6), .int .u8 (S 7), .int .u8 (S 8)], .agg #[.int .u8 (I 0), .int .u8 (I 1), .int .u8 (I 2), .int .u8 (I 3), .int .u8 (I 4), .int .u8 (I 5), .int .u8 (I 6), .int .u8 (I 7)], .int .u8 q, .int .i64 md, .bool ov] w fun e w' => e = .returned (.bool true) ∧ Below w.heap.size w w' := by
  have HM : Hid _ := fun w' => Over_e1 md S I S q ov w' hs
  go_enter Try.func4, Try.ntmps4
  go_wp2_with fail
  refine (composes_any _).mono ?_
  rintro e w1 ⟨rfl, hb1⟩
  obtain ⟨hc1, hf1, hz1⟩ := bcell hb1
  simp only [World.size_alloc] at hc1 hf1 hz1
  have gS1 : ∀ o, w1.cell? ⟨w.heap.size, o, none⟩ = #[Value.int .u8 (S 0), .int .u8 (S 1), .int .u8 (S 2), .int .u8 (S 3), .int .u8 (S 4), .int .u8 (S 5), .int .u8 (S 6), .int .u8 (S 7), .int .u8 (S 8)][o]? := fun o => by
    rw [hc1, if_pos (by omega), cell_alloc_if, if_neg (by simp only [World.size_alloc]; omega), cell_alloc_if, if_pos rfl]
  have gI1 : ∀ o, w1.cell? ⟨w.heap.size + 1, o, none⟩ = #[Value.int .u8 (I 0), .int .u8 (I 1), .int .u8 (I 2), .int .u8 (I 3), .int .u8 (I 4), .int .u8 (I 5), .int .u8 (I 6), .int .u8 (I 7)][o]? := fun o => by
    rw [hc1, if_pos (by omega), cell_alloc_if, if_pos (by simp only [World.size_alloc])]
  have B1 : Hid (Below w.heap.size w w1) := show Below w.heap.size w w1 from step_le hb1 (by (repeat' (with_reducible first | exact Below.refl _ _ | refine past_le ?_ ?_ _ | refine Below.alloc ?_ ?_ _ | refine Below.drew ?_ | refine drewN_le ?_ _ | refine Below.setCell ?_ ?_ _ | refine step_le (by assumption) ?_ ?_ | omega | (simp only []; omega) | (simp only [World.size_alloc]; omega) | (simp only [World.size_setCell]; omega) | (simp only [World.size_drew]; omega) | (simp only [World.size_alloc, World.size_setCell]; omega) | (simp only [World.size_alloc, World.size_drew]; omega) | (simp only [World.size_setCell, World.size_drew]; omega) | (simp only [World.size_alloc, World.size_setCell, World.size_drew]; omega) | (simp only [World.size_alloc, World.size_setCell, World.size_drew, size_drewN]; omega)))) (by simp only [World.size_alloc]; omega)
  clear hb1 hc1 hf1
  go_wp2_with fail
  refine (HM.out _).mono ?_
  rintro e w2 ⟨rfl, hb2⟩
  have hz2 := hb2.size
  have gS2 : ∀ o, w2.cell? ⟨w.heap.size, o, none⟩ = #[Value.int .u8 (S 0), .int .u8 (S 1), .int .u8 (S 2), .int .u8 (S 3), .int .u8 (S 4), .int .u8 (S 5), .int .u8 (S 6), .int .u8 (S 7), .int .u8 (S 8)][o]? := fun o => (hb2.cell (p := ⟨w.heap.size, o, none⟩) (by show w.heap.size < _; omega)).trans (gS1 o)
  have gI2 : ∀ o, w2.cell? ⟨w.heap.size + 1, o, none⟩ = #[Value.int .u8 (I 0), .int .u8 (I 1), .int .u8 (I 2), .int .u8 (I 3), .int .u8 (I 4), .int .u8 (I 5), .int .u8 (I 6), .int .u8 (I 7)][o]? := fun o => (hb2.cell (p := ⟨w.heap.size + 1, o, none⟩) (by show w.heap.size + 1 < _; omega)).trans (gI1 o)
  have B2 : Hid (Below w.heap.size w w2) := show Below w.heap.size w w2 from step_le hb2 B1.out B1.out.size
  clear hb2 B1 gS1 gI1
  go_wp2_with fail
  refine (state_any S _).mono ?_
  rintro e w9 ⟨rfl, rfl⟩
  go_wp2_with (first | (go_at_call 16; refine (In_any _ _ _ _).mono ?_; rintro e w' ⟨rfl, rfl⟩))
  go_ret
  exact ⟨by simp, (B2.out.alloc B2.out.size _).alloc (by simp only [World.size_alloc]; have := B2.out.size; omega) _⟩
set_option maxRecDepth 20000 in
set_option maxHeartbeats 4000000 in
theorem walk_e2 (md : Int) (S I : Nat → Int) (q : Int) (ov : Bool) (w : World) (hs : stE S = 0) (hmd : ¬(0 ≤ md ∧ md ≤ 11)) :
    Calls Try.prog 4 #[.agg #[.int .u8 (S 0), .int .u8 (S 1), .int .u8 (S 2), .int .u8 (S 3), .int .u8 (S 4), .int .u8 (S 5), .int .u8 (S 6), .int .u8 (S 7), .int .u8 (S 8)], .agg #[.int .u8 (I 0), .int .u8 (I 1), .int .u8 (I 2), .int .u8 (I 3), .int .u8 (I 4), .int .u8 (I 5), .int .u8 (I 6), .int .u8 (I 7)], .int .u8 q, .int .i64 md, .bool ov] w fun e w' => e = .returned (.bool true) ∧ Below w.heap.size w w' := by
  have HM : Hid _ := fun w' => Over_e2 md S I S q ov w' hs hmd
  have hin : inB md 0 11 = false := by cases h : inB md 0 11 with | false => rfl | true => exact absurd (inB_iff.1 h) hmd
  go_enter Try.func4, Try.ntmps4
  go_wp2_with fail
  refine (composes_any _).mono ?_
  rintro e w1 ⟨rfl, hb1⟩
  obtain ⟨hc1, hf1, hz1⟩ := bcell hb1
  simp only [World.size_alloc] at hc1 hf1 hz1
  have gS1 : ∀ o, w1.cell? ⟨w.heap.size, o, none⟩ = #[Value.int .u8 (S 0), .int .u8 (S 1), .int .u8 (S 2), .int .u8 (S 3), .int .u8 (S 4), .int .u8 (S 5), .int .u8 (S 6), .int .u8 (S 7), .int .u8 (S 8)][o]? := fun o => by
    rw [hc1, if_pos (by omega), cell_alloc_if, if_neg (by simp only [World.size_alloc]; omega), cell_alloc_if, if_pos rfl]
  have gI1 : ∀ o, w1.cell? ⟨w.heap.size + 1, o, none⟩ = #[Value.int .u8 (I 0), .int .u8 (I 1), .int .u8 (I 2), .int .u8 (I 3), .int .u8 (I 4), .int .u8 (I 5), .int .u8 (I 6), .int .u8 (I 7)][o]? := fun o => by
    rw [hc1, if_pos (by omega), cell_alloc_if, if_pos (by simp only [World.size_alloc])]
  have B1 : Hid (Below w.heap.size w w1) := show Below w.heap.size w w1 from step_le hb1 (by (repeat' (with_reducible first | exact Below.refl _ _ | refine past_le ?_ ?_ _ | refine Below.alloc ?_ ?_ _ | refine Below.drew ?_ | refine drewN_le ?_ _ | refine Below.setCell ?_ ?_ _ | refine step_le (by assumption) ?_ ?_ | omega | (simp only []; omega) | (simp only [World.size_alloc]; omega) | (simp only [World.size_setCell]; omega) | (simp only [World.size_drew]; omega) | (simp only [World.size_alloc, World.size_setCell]; omega) | (simp only [World.size_alloc, World.size_drew]; omega) | (simp only [World.size_setCell, World.size_drew]; omega) | (simp only [World.size_alloc, World.size_setCell, World.size_drew]; omega) | (simp only [World.size_alloc, World.size_setCell, World.size_drew, size_drewN]; omega)))) (by simp only [World.size_alloc]; omega)
  clear hb1 hc1 hf1
  go_wp2_with fail
  refine (HM.out _).mono ?_
  rintro e w2 ⟨rfl, hb2⟩
  have hz2 := hb2.size
  have gS2 : ∀ o, w2.cell? ⟨w.heap.size, o, none⟩ = #[Value.int .u8 (S 0), .int .u8 (S 1), .int .u8 (S 2), .int .u8 (S 3), .int .u8 (S 4), .int .u8 (S 5), .int .u8 (S 6), .int .u8 (S 7), .int .u8 (S 8)][o]? := fun o => (hb2.cell (p := ⟨w.heap.size, o, none⟩) (by show w.heap.size < _; omega)).trans (gS1 o)
  have gI2 : ∀ o, w2.cell? ⟨w.heap.size + 1, o, none⟩ = #[Value.int .u8 (I 0), .int .u8 (I 1), .int .u8 (I 2), .int .u8 (I 3), .int .u8 (I 4), .int .u8 (I 5), .int .u8 (I 6), .int .u8 (I 7)][o]? := fun o => (hb2.cell (p := ⟨w.heap.size + 1, o, none⟩) (by show w.heap.size + 1 < _; omega)).trans (gI1 o)
  have B2 : Hid (Below w.heap.size w w2) := show Below w.heap.size w w2 from step_le hb2 B1.out B1.out.size
  clear hb2 B1 gS1 gI1
  go_wp2_with fail
  refine (state_any S _).mono ?_
  rintro e w9 ⟨rfl, rfl⟩
  go_wp2_with (first | (go_at_call 16; refine (In_any _ _ _ _).mono ?_; rintro e w' ⟨rfl, rfl⟩))
  go_ret
  exact ⟨by simp, (B2.out.alloc B2.out.size _).alloc (by simp only [World.size_alloc]; have := B2.out.size; omega) _⟩
set_option maxRecDepth 20000 in
set_option maxHeartbeats 4000000 in
theorem walk_e3 (md : Int) (S I : Nat → Int) (q : Int) (ov : Bool) (w : World) (hs : stE S = 0) (hmd : 0 ≤ md ∧ md ≤ 11) (hz : zer8 I = false) :
    Calls Try.prog 4 #[.agg #[.int .u8 (S 0), .int .u8 (S 1), .int .u8 (S 2), .int .u8 (S 3), .int .u8 (S 4), .int .u8 (S 5), .int .u8 (S 6), .int .u8 (S 7), .int .u8 (S 8)], .agg #[.int .u8 (I 0), .int .u8 (I 1), .int .u8 (I 2), .int .u8 (I 3), .int .u8 (I 4), .int .u8 (I 5), .int .u8 (I 6), .int .u8 (I 7)], .int .u8 0, .int .i64 md, .bool ov] w fun e w' => e = .returned (.bool true) ∧ Below w.heap.size w w' := by
  have HM : Hid _ := fun w' => Over_e3 md S I S 0 ov w' hs hmd rfl hz
  have hin : inB md 0 11 = true := inB_yes hmd
  have hn := zer8_no hz
  clear hz
  rcases hn with h1 | ⟨h1, h2⟩ | ⟨h1, h2, h3⟩ | ⟨h1, h2, h3, h4⟩ | ⟨h1, h2, h3, h4, h5⟩ | ⟨h1, h2, h3, h4, h5, h6⟩ | ⟨h1, h2, h3, h4, h5, h6, h7⟩ | ⟨h1, h2, h3, h4, h5, h6, h7, h8⟩
  · go_enter Try.func4, Try.ntmps4
    go_wp2_with fail
    refine (composes_any _).mono ?_
    rintro e w1 ⟨rfl, hb1⟩
    obtain ⟨hc1, hf1, hz1⟩ := bcell hb1
    simp only [World.size_alloc] at hc1 hf1 hz1
    have gS1 : ∀ o, w1.cell? ⟨w.heap.size, o, none⟩ = #[Value.int .u8 (S 0), .int .u8 (S 1), .int .u8 (S 2), .int .u8 (S 3), .int .u8 (S 4), .int .u8 (S 5), .int .u8 (S 6), .int .u8 (S 7), .int .u8 (S 8)][o]? := fun o => by
      rw [hc1, if_pos (by omega), cell_alloc_if, if_neg (by simp only [World.size_alloc]; omega), cell_alloc_if, if_pos rfl]
    have gI1 : ∀ o, w1.cell? ⟨w.heap.size + 1, o, none⟩ = #[Value.int .u8 (I 0), .int .u8 (I 1), .int .u8 (I 2), .int .u8 (I 3), .int .u8 (I 4), .int .u8 (I 5), .int .u8 (I 6), .int .u8 (I 7)][o]? := fun o => by
      rw [hc1, if_pos (by omega), cell_alloc_if, if_pos (by simp only [World.size_alloc])]
    have B1 : Hid (Below w.heap.size w w1) := show Below w.heap.size w w1 from step_le hb1 (by (repeat' (with_reducible first | exact Below.refl _ _ | refine past_le ?_ ?_ _ | refine Below.alloc ?_ ?_ _ | refine Below.drew ?_ | refine drewN_le ?_ _ | refine Below.setCell ?_ ?_ _ | refine step_le (by assumption) ?_ ?_ | omega | (simp only []; omega) | (simp only [World.size_alloc]; omega) | (simp only [World.size_setCell]; omega) | (simp only [World.size_drew]; omega) | (simp only [World.size_alloc, World.size_setCell]; omega) | (simp only [World.size_alloc, World.size_drew]; omega) | (simp only [World.size_setCell, World.size_drew]; omega) | (simp only [World.size_alloc, World.size_setCell, World.size_drew]; omega) | (simp only [World.size_alloc, World.size_setCell, World.size_drew, size_drewN]; omega)))) (by simp only [World.size_alloc]; omega)
    clear hb1 hc1 hf1
    go_wp2_with fail
    refine (HM.out _).mono ?_
    rintro e w2 ⟨rfl, hb2⟩
    have hz2 := hb2.size
    have gS2 : ∀ o, w2.cell? ⟨w.heap.size, o, none⟩ = #[Value.int .u8 (S 0), .int .u8 (S 1), .int .u8 (S 2), .int .u8 (S 3), .int .u8 (S 4), .int .u8 (S 5), .int .u8 (S 6), .int .u8 (S 7), .int .u8 (S 8)][o]? := fun o => (hb2.cell (p := ⟨w.heap.size, o, none⟩) (by show w.heap.size < _; omega)).trans (gS1 o)
    have gI2 : ∀ o, w2.cell? ⟨w.heap.size + 1, o, none⟩ = #[Value.int .u8 (I 0), .int .u8 (I 1), .int .u8 (I 2), .int .u8 (I 3), .int .u8 (I 4), .int .u8 (I 5), .int .u8 (I 6), .int .u8 (I 7)][o]? := fun o => (hb2.cell (p := ⟨w.heap.size + 1, o, none⟩) (by show w.heap.size + 1 < _; omega)).trans (gI1 o)
    have B2 : Hid (Below w.heap.size w w2) := show Below w.heap.size w w2 from step_le hb2 B1.out B1.out.size
    clear hb2 B1 gS1 gI1
    go_wp2_with fail
    refine (state_any S _).mono ?_
    rintro e w9 ⟨rfl, rfl⟩
    go_wp2_with (first | (go_at_call 16; refine (In_any _ _ _ _).mono ?_; rintro e w' ⟨rfl, rfl⟩))
    go_ret
    exact ⟨by simp, (B2.out.alloc B2.out.size _).alloc (by simp only [World.size_alloc]; have := B2.out.size; omega) _⟩
  · rw [h1] at HM
    rw [h1]
    clear h1
    go_enter Try.func4, Try.ntmps4
    go_wp2_with fail
    refine (composes_any _).mono ?_
    rintro e w1 ⟨rfl, hb1⟩
    obtain ⟨hc1, hf1, hz1⟩ := bcell hb1
    simp only [World.size_alloc] at hc1 hf1 hz1
    have gS1 : ∀ o, w1.cell? ⟨w.heap.size, o, none⟩ = #[Value.int .u8 (S 0), .int .u8 (S 1), .int .u8 (S 2), .int .u8 (S 3), .int .u8 (S 4), .int .u8 (S 5), .int .u8 (S 6), .int .u8 (S 7), .int .u8 (S 8)][o]? := fun o => by
      rw [hc1, if_pos (by omega), cell_alloc_if, if_neg (by simp only [World.size_alloc]; omega), cell_alloc_if, if_pos rfl]
    have gI1 : ∀ o, w1.cell? ⟨w.heap.size + 1, o, none⟩ = #[Value.int .u8 0, .int .u8 (I 1), .int .u8 (I 2), .int .u8 (I 3), .int .u8 (I 4), .int .u8 (I 5), .int .u8 (I 6), .int .u8 (I 7)][o]? := fun o => by
      rw [hc1, if_pos (by omega), cell_alloc_if, if_pos (by simp only [World.size_alloc])]
    have B1 : Hid (Below w.heap.size w w1) := show Below w.heap.size w w1 from step_le hb1 (by (repeat' (with_reducible first | exact Below.refl _ _ | refine past_le ?_ ?_ _ | refine Below.alloc ?_ ?_ _ | refine Below.drew ?_ | refine drewN_le ?_ _ | refine Below.setCell ?_ ?_ _ | refine step_le (by assumption) ?_ ?_ | omega | (simp only []; omega) | (simp only [World.size_alloc]; omega) | (simp only [World.size_setCell]; omega) | (simp only [World.size_drew]; omega) | (simp only [World.size_alloc, World.size_setCell]; omega) | (simp only [World.size_alloc, World.size_drew]; omega) | (simp only [World.size_setCell, World.size_drew]; omega) | (simp only [World.size_alloc, World.size_setCell, World.size_drew]; omega) | (simp only [World.size_alloc, World.size_setCell, World.size_drew, size_drewN]; omega)))) (by simp only [World.size_alloc]; omega)
    clear hb1 hc1 hf1
    go_wp2_with fail
    refine (HM.out _).mono ?_
    rintro e w2 ⟨rfl, hb2⟩
    have hz2 := hb2.size
    have gS2 : ∀ o, w2.cell? ⟨w.heap.size, o, none⟩ = #[Value.int .u8 (S 0), .int .u8 (S 1), .int .u8 (S 2), .int .u8 (S 3), .int .u8 (S 4), .int .u8 (S 5), .int .u8 (S 6), .int .u8 (S 7), .int .u8 (S 8)][o]? := fun o => (hb2.cell (p := ⟨w.heap.size, o, none⟩) (by show w.heap.size < _; omega)).trans (gS1 o)
    have gI2 : ∀ o, w2.cell? ⟨w.heap.size + 1, o, none⟩ = #[Value.int .u8 0, .int .u8 (I 1), .int .u8 (I 2), .int .u8 (I 3), .int .u8 (I 4), .int .u8 (I 5), .int .u8 (I 6), .int .u8 (I 7)][o]? := fun o => (hb2.cell (p := ⟨w.heap.size + 1, o, none⟩) (by show w.heap.size + 1 < _; omega)).trans (gI1 o)
    have B2 : Hid (Below w.heap.size w w2) := show Below w.heap.size w w2 from step_le hb2 B1.out B1.out.size
    clear hb2 B1 gS1 gI1
    go_wp2_with fail
    refine (state_any S _).mono ?_
    rintro e w9 ⟨rfl, rfl⟩
    go_wp2_with (first | (go_at_call 16; refine (In_any _ _ _ _).mono ?_; rintro e w' ⟨rfl, rfl⟩))
    go_ret
    exact ⟨by simp, (B2.out.alloc B2.out.size _).alloc (by simp only [World.size_alloc]; have := B2.out.size; omega) _⟩
  · rw [h1, h2] at HM
    rw [h1, h2]
    clear h1 h2
    go_enter Try.func4, Try.ntmps4
    go_wp2_with fail
    refine (composes_any _).mono ?_
    rintro e w1 ⟨rfl, hb1⟩
    obtain ⟨hc1, hf1, hz1⟩ := bcell hb1
    simp only [World.size_alloc] at hc1 hf1 hz1
    have gS1 : ∀ o, w1.cell? ⟨w.heap.size, o, none⟩ = #[Value.int .u8 (S 0), .int .u8 (S 1), .int .u8 (S 2), .int .u8 (S 3), .int .u8 (S 4), .int .u8 (S 5), .int .u8 (S 6), .int .u8 (S 7), .int .u8 (S 8)][o]? := fun o => by
      rw [hc1, if_pos (by omega), cell_alloc_if, if_neg (by simp only [World.size_alloc]; omega), cell_alloc_if, if_pos rfl]
    have gI1 : ∀ o, w1.cell? ⟨w.heap.size + 1, o, none⟩ = #[Value.int .u8 0, .int .u8 0, .int .u8 (I 2), .int .u8 (I 3), .int .u8 (I 4), .int .u8 (I 5), .int .u8 (I 6), .int .u8 (I 7)][o]? := fun o => by
      rw [hc1, if_pos (by omega), cell_alloc_if, if_pos (by simp only [World.size_alloc])]
    have B1 : Hid (Below w.heap.size w w1) := show Below w.heap.size w w1 from step_le hb1 (by (repeat' (with_reducible first | exact Below.refl _ _ | refine past_le ?_ ?_ _ | refine Below.alloc ?_ ?_ _ | refine Below.drew ?_ | refine drewN_le ?_ _ | refine Below.setCell ?_ ?_ _ | refine step_le (by assumption) ?_ ?_ | omega | (simp only []; omega) | (simp only [World.size_alloc]; omega) | (simp only [World.size_setCell]; omega) | (simp only [World.size_drew]; omega) | (simp only [World.size_alloc, World.size_setCell]; omega) | (simp only [World.size_alloc, World.size_drew]; omega) | (simp only [World.size_setCell, World.size_drew]; omega) | (simp only [World.size_alloc, World.size_setCell, World.size_drew]; omega) | (simp only [World.size_alloc, World.size_setCell, World.size_drew, size_drewN]; omega)))) (by simp only [World.size_alloc]; omega)
    clear hb1 hc1 hf1
    go_wp2_with fail
    refine (HM.out _).mono ?_
    rintro e w2 ⟨rfl, hb2⟩
    have hz2 := hb2.size
    have gS2 : ∀ o, w2.cell? ⟨w.heap.size, o, none⟩ = #[Value.int .u8 (S 0), .int .u8 (S 1), .int .u8 (S 2), .int .u8 (S 3), .int .u8 (S 4), .int .u8 (S 5), .int .u8 (S 6), .int .u8 (S 7), .int .u8 (S 8)][o]? := fun o => (hb2.cell (p := ⟨w.heap.size, o, none⟩) (by show w.heap.size < _; omega)).trans (gS1 o)
    have gI2 : ∀ o, w2.cell? ⟨w.heap.size + 1, o, none⟩ = #[Value.int .u8 0, .int .u8 0, .int .u8 (I 2), .int .u8 (I 3), .int .u8 (I 4), .int .u8 (I 5), .int .u8 (I 6), .int .u8 (I 7)][o]? := fun o => (hb2.cell (p := ⟨w.heap.size + 1, o, none⟩) (by show w.heap.size + 1 < _; omega)).trans (gI1 o)
    have B2 : Hid (Below w.heap.size w w2) := show Below w.heap.size w w2 from step_le hb2 B1.out B1.out.size
    clear hb2 B1 gS1 gI1
    go_wp2_with fail
    refine (state_any S _).mono ?_
    rintro e w9 ⟨rfl, rfl⟩
    go_wp2_with (first | (go_at_call 16; refine (In_any _ _ _ _).mono ?_; rintro e w' ⟨rfl, rfl⟩))
    go_ret
    exact ⟨by simp, (B2.out.alloc B2.out.size _).alloc (by simp only [World.size_alloc]; have := B2.out.size; omega) _⟩
  · rw [h1, h2, h3] at HM
    rw [h1, h2, h3]
    clear h1 h2 h3
    go_enter Try.func4, Try.ntmps4
    go_wp2_with fail
    refine (composes_any _).mono ?_
    rintro e w1 ⟨rfl, hb1⟩
    obtain ⟨hc1, hf1, hz1⟩ := bcell hb1
    simp only [World.size_alloc] at hc1 hf1 hz1
    have gS1 : ∀ o, w1.cell? ⟨w.heap.size, o, none⟩ = #[Value.int .u8 (S 0), .int .u8 (S 1), .int .u8 (S 2), .int .u8 (S 3), .int .u8 (S 4), .int .u8 (S 5), .int .u8 (S 6), .int .u8 (S 7), .int .u8 (S 8)][o]? := fun o => by
      rw [hc1, if_pos (by omega), cell_alloc_if, if_neg (by simp only [World.size_alloc]; omega), cell_alloc_if, if_pos rfl]
    have gI1 : ∀ o, w1.cell? ⟨w.heap.size + 1, o, none⟩ = #[Value.int .u8 0, .int .u8 0, .int .u8 0, .int .u8 (I 3), .int .u8 (I 4), .int .u8 (I 5), .int .u8 (I 6), .int .u8 (I 7)][o]? := fun o => by
      rw [hc1, if_pos (by omega), cell_alloc_if, if_pos (by simp only [World.size_alloc])]
    have B1 : Hid (Below w.heap.size w w1) := show Below w.heap.size w w1 from step_le hb1 (by (repeat' (with_reducible first | exact Below.refl _ _ | refine past_le ?_ ?_ _ | refine Below.alloc ?_ ?_ _ | refine Below.drew ?_ | refine drewN_le ?_ _ | refine Below.setCell ?_ ?_ _ | refine step_le (by assumption) ?_ ?_ | omega | (simp only []; omega) | (simp only [World.size_alloc]; omega) | (simp only [World.size_setCell]; omega) | (simp only [World.size_drew]; omega) | (simp only [World.size_alloc, World.size_setCell]; omega) | (simp only [World.size_alloc, World.size_drew]; omega) | (simp only [World.size_setCell, World.size_drew]; omega) | (simp only [World.size_alloc, World.size_setCell, World.size_drew]; omega) | (simp only [World.size_alloc, World.size_setCell, World.size_drew, size_drewN]; omega)))) (by simp only [World.size_alloc]; omega)
    clear hb1 hc1 hf1
    go_wp2_with fail
    refine (HM.out _).mono ?_
    rintro e w2 ⟨rfl, hb2⟩
    have hz2 := hb2.size
    have gS2 : ∀ o, w2.cell? ⟨w.heap.size, o, none⟩ = #[Value.int .u8 (S 0), .int .u8 (S 1), .int .u8 (S 2), .int .u8 (S 3), .int .u8 (S 4), .int .u8 (S 5), .int .u8 (S 6), .int .u8 (S 7), .int .u8 (S 8)][o]? := fun o => (hb2.cell (p := ⟨w.heap.size, o, none⟩) (by show w.heap.size < _; omega)).trans (gS1 o)
    have gI2 : ∀ o, w2.cell? ⟨w.heap.size + 1, o, none⟩ = #[Value.int .u8 0, .int .u8 0, .int .u8 0, .int .u8 (I 3), .int .u8 (I 4), .int .u8 (I 5), .int .u8 (I 6), .int .u8 (I 7)][o]? := fun o => (hb2.cell (p := ⟨w.heap.size + 1, o, none⟩) (by show w.heap.size + 1 < _; omega)).trans (gI1 o)
    have B2 : Hid (Below w.heap.size w w2) := show Below w.heap.size w w2 from step_le hb2 B1.out B1.out.size
    clear hb2 B1 gS1 gI1
    go_wp2_with fail
    refine (state_any S _).mono ?_
    rintro e w9 ⟨rfl, rfl⟩
    go_wp2_with (first | (go_at_call 16; refine (In_any _ _ _ _).mono ?_; rintro e w' ⟨rfl, rfl⟩))
    go_ret
    exact ⟨by simp, (B2.out.alloc B2.out.size _).alloc (by simp only [World.size_alloc]; have := B2.out.size; omega) _⟩
  · rw [h1, h2, h3, h4] at HM
    rw [h1, h2, h3, h4]
    clear h1 h2 h3 h4
    go_enter Try.func4, Try.ntmps4
    go_wp2_with fail
    refine (composes_any _).mono ?_
    rintro e w1 ⟨rfl, hb1⟩
    obtain ⟨hc1, hf1, hz1⟩ := bcell hb1
    simp only [World.size_alloc] at hc1 hf1 hz1
    have gS1 : ∀ o, w1.cell? ⟨w.heap.size, o, none⟩ = #[Value.int .u8 (S 0), .int .u8 (S 1), .int .u8 (S 2), .int .u8 (S 3), .int .u8 (S 4), .int .u8 (S 5), .int .u8 (S 6), .int .u8 (S 7), .int .u8 (S 8)][o]? := fun o => by
      rw [hc1, if_pos (by omega), cell_alloc_if, if_neg (by simp only [World.size_alloc]; omega), cell_alloc_if, if_pos rfl]
    have gI1 : ∀ o, w1.cell? ⟨w.heap.size + 1, o, none⟩ = #[Value.int .u8 0, .int .u8 0, .int .u8 0, .int .u8 0, .int .u8 (I 4), .int .u8 (I 5), .int .u8 (I 6), .int .u8 (I 7)][o]? := fun o => by
      rw [hc1, if_pos (by omega), cell_alloc_if, if_pos (by simp only [World.size_alloc])]
    have B1 : Hid (Below w.heap.size w w1) := show Below w.heap.size w w1 from step_le hb1 (by (repeat' (with_reducible first | exact Below.refl _ _ | refine past_le ?_ ?_ _ | refine Below.alloc ?_ ?_ _ | refine Below.drew ?_ | refine drewN_le ?_ _ | refine Below.setCell ?_ ?_ _ | refine step_le (by assumption) ?_ ?_ | omega | (simp only []; omega) | (simp only [World.size_alloc]; omega) | (simp only [World.size_setCell]; omega) | (simp only [World.size_drew]; omega) | (simp only [World.size_alloc, World.size_setCell]; omega) | (simp only [World.size_alloc, World.size_drew]; omega) | (simp only [World.size_setCell, World.size_drew]; omega) | (simp only [World.size_alloc, World.size_setCell, World.size_drew]; omega) | (simp only [World.size_alloc, World.size_setCell, World.size_drew, size_drewN]; omega)))) (by simp only [World.size_alloc]; omega)
    clear hb1 hc1 hf1
    go_wp2_with fail
    refine (HM.out _).mono ?_
    rintro e w2 ⟨rfl, hb2⟩
    have hz2 := hb2.size
    have gS2 : ∀ o, w2.cell? ⟨w.heap.size, o, none⟩ = #[Value.int .u8 (S 0), .int .u8 (S 1), .int .u8 (S 2), .int .u8 (S 3), .int .u8 (S 4), .int .u8 (S 5), .int .u8 (S 6), .int .u8 (S 7), .int .u8 (S 8)][o]? := fun o => (hb2.cell (p := ⟨w.heap.size, o, none⟩) (by show w.heap.size < _; omega)).trans (gS1 o)
    have gI2 : ∀ o, w2.cell? ⟨w.heap.size + 1, o, none⟩ = #[Value.int .u8 0, .int .u8 0, .int .u8 0, .int .u8 0, .int .u8 (I 4), .int .u8 (I 5), .int .u8 (I 6), .int .u8 (I 7)][o]? := fun o => (hb2.cell (p := ⟨w.heap.size + 1, o, none⟩) (by show w.heap.size + 1 < _; omega)).trans (gI1 o)
    have B2 : Hid (Below w.heap.size w w2) := show Below w.heap.size w w2 from step_le hb2 B1.out B1.out.size
    clear hb2 B1 gS1 gI1
    go_wp2_with fail
    refine (state_any S _).mono ?_
    rintro e w9 ⟨rfl, rfl⟩
    go_wp2_with (first | (go_at_call 16; refine (In_any _ _ _ _).mono ?_; rintro e w' ⟨rfl, rfl⟩))
    go_ret
    exact ⟨by simp, (B2.out.alloc B2.out.size _).alloc (by simp only [World.size_alloc]; have := B2.out.size; omega) _⟩
  · rw [h1, h2, h3, h4, h5] at HM
    rw [h1, h2, h3, h4, h5]
    clear h1 h2 h3 h4 h5
    go_enter Try.func4, Try.ntmps4
    go_wp2_with fail
    refine (composes_any _).mono ?_
    rintro e w1 ⟨rfl, hb1⟩
    obtain ⟨hc1, hf1, hz1⟩ := bcell hb1
    simp only [World.size_alloc] at hc1 hf1 hz1
    have gS1 : ∀ o, w1.cell? ⟨w.heap.size, o, none⟩ = #[Value.int .u8 (S 0), .int .u8 (S 1), .int .u8 (S 2), .int .u8 (S 3), .int .u8 (S 4), .int .u8 (S 5), .int .u8 (S 6), .int .u8 (S 7), .int .u8 (S 8)][o]? := fun o => by
      rw [hc1, if_pos (by omega), cell_alloc_if, if_neg (by simp only [World.size_alloc]; omega), cell_alloc_if, if_pos rfl]
    have gI1 : ∀ o, w1.cell? ⟨w.heap.size + 1, o, none⟩ = #[Value.int .u8 0, .int .u8 0, .int .u8 0, .int .u8 0, .int .u8 0, .int .u8 (I 5), .int .u8 (I 6), .int .u8 (I 7)][o]? := fun o => by
      rw [hc1, if_pos (by omega), cell_alloc_if, if_pos (by simp only [World.size_alloc])]
    have B1 : Hid (Below w.heap.size w w1) := show Below w.heap.size w w1 from step_le hb1 (by (repeat' (with_reducible first | exact Below.refl _ _ | refine past_le ?_ ?_ _ | refine Below.alloc ?_ ?_ _ | refine Below.drew ?_ | refine drewN_le ?_ _ | refine Below.setCell ?_ ?_ _ | refine step_le (by assumption) ?_ ?_ | omega | (simp only []; omega) | (simp only [World.size_alloc]; omega) | (simp only [World.size_setCell]; omega) | (simp only [World.size_drew]; omega) | (simp only [World.size_alloc, World.size_setCell]; omega) | (simp only [World.size_alloc, World.size_drew]; omega) | (simp only [World.size_setCell, World.size_drew]; omega) | (simp only [World.size_alloc, World.size_setCell, World.size_drew]; omega) | (simp only [World.size_alloc, World.size_setCell, World.size_drew, size_drewN]; omega)))) (by simp only [World.size_alloc]; omega)
    clear hb1 hc1 hf1
    go_wp2_with fail
    refine (HM.out _).mono ?_
    rintro e w2 ⟨rfl, hb2⟩
    have hz2 := hb2.size
    have gS2 : ∀ o, w2.cell? ⟨w.heap.size, o, none⟩ = #[Value.int .u8 (S 0), .int .u8 (S 1), .int .u8 (S 2), .int .u8 (S 3), .int .u8 (S 4), .int .u8 (S 5), .int .u8 (S 6), .int .u8 (S 7), .int .u8 (S 8)][o]? := fun o => (hb2.cell (p := ⟨w.heap.size, o, none⟩) (by show w.heap.size < _; omega)).trans (gS1 o)
    have gI2 : ∀ o, w2.cell? ⟨w.heap.size + 1, o, none⟩ = #[Value.int .u8 0, .int .u8 0, .int .u8 0, .int .u8 0, .int .u8 0, .int .u8 (I 5), .int .u8 (I 6), .int .u8 (I 7)][o]? := fun o => (hb2.cell (p := ⟨w.heap.size + 1, o, none⟩) (by show w.heap.size + 1 < _; omega)).trans (gI1 o)
    have B2 : Hid (Below w.heap.size w w2) := show Below w.heap.size w w2 from step_le hb2 B1.out B1.out.size
    clear hb2 B1 gS1 gI1
    go_wp2_with fail
    refine (state_any S _).mono ?_
    rintro e w9 ⟨rfl, rfl⟩
    go_wp2_with (first | (go_at_call 16; refine (In_any _ _ _ _).mono ?_; rintro e w' ⟨rfl, rfl⟩))
    go_ret
    exact ⟨by simp, (B2.out.alloc B2.out.size _).alloc (by simp only [World.size_alloc]; have := B2.out.size; omega) _⟩
  · rw [h1, h2, h3, h4, h5, h6] at HM
    rw [h1, h2, h3, h4, h5, h6]
    clear h1 h2 h3 h4 h5 h6
    go_enter Try.func4, Try.ntmps4
    go_wp2_with fail
    refine (composes_any _).mono ?_
    rintro e w1 ⟨rfl, hb1⟩
    obtain ⟨hc1, hf1, hz1⟩ := bcell hb1
    simp only [World.size_alloc] at hc1 hf1 hz1
    have gS1 : ∀ o, w1.cell? ⟨w.heap.size, o, none⟩ = #[Value.int .u8 (S 0), .int .u8 (S 1), .int .u8 (S 2), .int .u8 (S 3), .int .u8 (S 4), .int .u8 (S 5), .int .u8 (S 6), .int .u8 (S 7), .int .u8 (S 8)][o]? := fun o => by
      rw [hc1, if_pos (by omega), cell_alloc_if, if_neg (by simp only [World.size_alloc]; omega), cell_alloc_if, if_pos rfl]
    have gI1 : ∀ o, w1.cell? ⟨w.heap.size + 1, o, none⟩ = #[Value.int .u8 0, .int .u8 0, .int .u8 0, .int .u8 0, .int .u8 0, .int .u8 0, .int .u8 (I 6), .int .u8 (I 7)][o]? := fun o => by
      rw [hc1, if_pos (by omega), cell_alloc_if, if_pos (by simp only [World.size_alloc])]
    have B1 : Hid (Below w.heap.size w w1) := show Below w.heap.size w w1 from step_le hb1 (by (repeat' (with_reducible first | exact Below.refl _ _ | refine past_le ?_ ?_ _ | refine Below.alloc ?_ ?_ _ | refine Below.drew ?_ | refine drewN_le ?_ _ | refine Below.setCell ?_ ?_ _ | refine step_le (by assumption) ?_ ?_ | omega | (simp only []; omega) | (simp only [World.size_alloc]; omega) | (simp only [World.size_setCell]; omega) | (simp only [World.size_drew]; omega) | (simp only [World.size_alloc, World.size_setCell]; omega) | (simp only [World.size_alloc, World.size_drew]; omega) | (simp only [World.size_setCell, World.size_drew]; omega) | (simp only [World.size_alloc, World.size_setCell, World.size_drew]; omega) | (simp only [World.size_alloc, World.size_setCell, World.size_drew, size_drewN]; omega)))) (by simp only [World.size_alloc]; omega)
    clear hb1 hc1 hf1
    go_wp2_with fail
    refine (HM.out _).mono ?_
    rintro e w2 ⟨rfl, hb2⟩
    have hz2 := hb2.size
    have gS2 : ∀ o, w2.cell? ⟨w.heap.size, o, none⟩ = #[Value.int .u8 (S 0), .int .u8 (S 1), .int .u8 (S 2), .int .u8 (S 3), .int .u8 (S 4), .int .u8 (S 5), .int .u8 (S 6), .int .u8 (S 7), .int .u8 (S 8)][o]? := fun o => (hb2.cell (p := ⟨w.heap.size, o, none⟩) (by show w.heap.size < _; omega)).trans (gS1 o)
    have gI2 : ∀ o, w2.cell? ⟨w.heap.size + 1, o, none⟩ = #[Value.int .u8 0, .int .u8 0, .int .u8 0, .int .u8 0, .int .u8 0, .int .u8 0, .int .u8 (I 6), .int .u8 (I 7)][o]? := fun o => (hb2.cell (p := ⟨w.heap.size + 1, o, none⟩) (by show w.heap.size + 1 < _; omega)).trans (gI1 o)
    have B2 : Hid (Below w.heap.size w w2) := show Below w.heap.size w w2 from step_le hb2 B1.out B1.out.size
    clear hb2 B1 gS1 gI1
    go_wp2_with fail
    refine (state_any S _).mono ?_
    rintro e w9 ⟨rfl, rfl⟩
    go_wp2_with (first | (go_at_call 16; refine (In_any _ _ _ _).mono ?_; rintro e w' ⟨rfl, rfl⟩))
    go_ret
    exact ⟨by simp, (B2.out.alloc B2.out.size _).alloc (by simp only [World.size_alloc]; have := B2.out.size; omega) _⟩
  · rw [h1, h2, h3, h4, h5, h6, h7] at HM
    rw [h1, h2, h3, h4, h5, h6, h7]
    clear h1 h2 h3 h4 h5 h6 h7
    go_enter Try.func4, Try.ntmps4
    go_wp2_with fail
    refine (composes_any _).mono ?_
    rintro e w1 ⟨rfl, hb1⟩
    obtain ⟨hc1, hf1, hz1⟩ := bcell hb1
    simp only [World.size_alloc] at hc1 hf1 hz1
    have gS1 : ∀ o, w1.cell? ⟨w.heap.size, o, none⟩ = #[Value.int .u8 (S 0), .int .u8 (S 1), .int .u8 (S 2), .int .u8 (S 3), .int .u8 (S 4), .int .u8 (S 5), .int .u8 (S 6), .int .u8 (S 7), .int .u8 (S 8)][o]? := fun o => by
      rw [hc1, if_pos (by omega), cell_alloc_if, if_neg (by simp only [World.size_alloc]; omega), cell_alloc_if, if_pos rfl]
    have gI1 : ∀ o, w1.cell? ⟨w.heap.size + 1, o, none⟩ = #[Value.int .u8 0, .int .u8 0, .int .u8 0, .int .u8 0, .int .u8 0, .int .u8 0, .int .u8 0, .int .u8 (I 7)][o]? := fun o => by
      rw [hc1, if_pos (by omega), cell_alloc_if, if_pos (by simp only [World.size_alloc])]
    have B1 : Hid (Below w.heap.size w w1) := show Below w.heap.size w w1 from step_le hb1 (by (repeat' (with_reducible first | exact Below.refl _ _ | refine past_le ?_ ?_ _ | refine Below.alloc ?_ ?_ _ | refine Below.drew ?_ | refine drewN_le ?_ _ | refine Below.setCell ?_ ?_ _ | refine step_le (by assumption) ?_ ?_ | omega | (simp only []; omega) | (simp only [World.size_alloc]; omega) | (simp only [World.size_setCell]; omega) | (simp only [World.size_drew]; omega) | (simp only [World.size_alloc, World.size_setCell]; omega) | (simp only [World.size_alloc, World.size_drew]; omega) | (simp only [World.size_setCell, World.size_drew]; omega) | (simp only [World.size_alloc, World.size_setCell, World.size_drew]; omega) | (simp only [World.size_alloc, World.size_setCell, World.size_drew, size_drewN]; omega)))) (by simp only [World.size_alloc]; omega)
    clear hb1 hc1 hf1
    go_wp2_with fail
    refine (HM.out _).mono ?_
    rintro e w2 ⟨rfl, hb2⟩
    have hz2 := hb2.size
    have gS2 : ∀ o, w2.cell? ⟨w.heap.size, o, none⟩ = #[Value.int .u8 (S 0), .int .u8 (S 1), .int .u8 (S 2), .int .u8 (S 3), .int .u8 (S 4), .int .u8 (S 5), .int .u8 (S 6), .int .u8 (S 7), .int .u8 (S 8)][o]? := fun o => (hb2.cell (p := ⟨w.heap.size, o, none⟩) (by show w.heap.size < _; omega)).trans (gS1 o)
    have gI2 : ∀ o, w2.cell? ⟨w.heap.size + 1, o, none⟩ = #[Value.int .u8 0, .int .u8 0, .int .u8 0, .int .u8 0, .int .u8 0, .int .u8 0, .int .u8 0, .int .u8 (I 7)][o]? := fun o => (hb2.cell (p := ⟨w.heap.size + 1, o, none⟩) (by show w.heap.size + 1 < _; omega)).trans (gI1 o)
    have B2 : Hid (Below w.heap.size w w2) := show Below w.heap.size w w2 from step_le hb2 B1.out B1.out.size
    clear hb2 B1 gS1 gI1
    go_wp2_with fail
    refine (state_any S _).mono ?_
    rintro e w9 ⟨rfl, rfl⟩
    go_wp2_with (first | (go_at_call 16; refine (In_any _ _ _ _).mono ?_; rintro e w' ⟨rfl, rfl⟩))
    go_ret
    exact ⟨by simp, (B2.out.alloc B2.out.size _).alloc (by simp only [World.size_alloc]; have := B2.out.size; omega) _⟩
set_option maxRecDepth 20000 in
set_option maxHeartbeats 4000000 in
theorem walk_o1 (md : Int) (S I : Nat → Int) (q : Int) (ov : Bool) (w : World) (hs : stE S = 0) (hmd : 0 ≤ md ∧ md ≤ 11) (hq0 : (q == 0) = false) (hS : ∀ o, o < 9 → 0 ≤ S o ∧ S o ≤ 255) (hI : ∀ o, o < 8 → 0 ≤ I o ∧ I o ≤ 255) (hq : 0 ≤ q ∧ q ≤ 255) :
    Calls Try.prog 4 #[.agg #[.int .u8 (S 0), .int .u8 (S 1), .int .u8 (S 2), .int .u8 (S 3), .int .u8 (S 4), .int .u8 (S 5), .int .u8 (S 6), .int .u8 (S 7), .int .u8 (S 8)], .agg #[.int .u8 (I 0), .int .u8 (I 1), .int .u8 (I 2), .int .u8 (I 3), .int .u8 (I 4), .int .u8 (I 5), .int .u8 (I 6), .int .u8 (I 7)], .int .u8 q, .int .i64 md, .bool ov] w fun e w' => e = .returned (.bool true) ∧ Below w.heap.size w w' := by
  obtain ⟨B, hB⟩ : ∃ B, B = pnt md S I q ov := ⟨_, rfl⟩
  have HM : Hid _ := fun w' => Over_ok md S I B q ov w' hs hmd (fun h => by rw [h.1] at hq0; cases hq0) hS hI hq (fun o ho => by rw [hB])
  have HX : Hid _ := fun w' => Painted_any md S I B q ov w' hmd hS hI hq (fun o ho => by rw [hB])
  clear hB hS hI
  have hin : inB md 0 11 = true := inB_yes hmd
  go_enter Try.func4, Try.ntmps4
  go_wp2_with fail
  refine (composes_any _).mono ?_
  rintro e w1 ⟨rfl, hb1⟩
  obtain ⟨hc1, hf1, hz1⟩ := bcell hb1
  simp only [World.size_alloc] at hc1 hf1 hz1
  have gS1 : ∀ o, w1.cell? ⟨w.heap.size, o, none⟩ = #[Value.int .u8 (S 0), .int .u8 (S 1), .int .u8 (S 2), .int .u8 (S 3), .int .u8 (S 4), .int .u8 (S 5), .int .u8 (S 6), .int .u8 (S 7), .int .u8 (S 8)][o]? := fun o => by
    rw [hc1, if_pos (by omega), cell_alloc_if, if_neg (by simp only [World.size_alloc]; omega), cell_alloc_if, if_pos rfl]
  have gI1 : ∀ o, w1.cell? ⟨w.heap.size + 1, o, none⟩ = #[Value.int .u8 (I 0), .int .u8 (I 1), .int .u8 (I 2), .int .u8 (I 3), .int .u8 (I 4), .int .u8 (I 5), .int .u8 (I 6), .int .u8 (I 7)][o]? := fun o => by
    rw [hc1, if_pos (by omega), cell_alloc_if, if_pos (by simp only [World.size_alloc])]
  have B1 : Hid (Below w.heap.size w w1) := show Below w.heap.size w w1 from step_le hb1 (by (repeat' (with_reducible first | exact Below.refl _ _ | refine past_le ?_ ?_ _ | refine Below.alloc ?_ ?_ _ | refine Below.drew ?_ | refine drewN_le ?_ _ | refine Below.setCell ?_ ?_ _ | refine step_le (by assumption) ?_ ?_ | omega | (simp only []; omega) | (simp only [World.size_alloc]; omega) | (simp only [World.size_setCell]; omega) | (simp only [World.size_drew]; omega) | (simp only [World.size_alloc, World.size_setCell]; omega) | (simp only [World.size_alloc, World.size_drew]; omega) | (simp only [World.size_setCell, World.size_drew]; omega) | (simp only [World.size_alloc, World.size_setCell, World.size_drew]; omega) | (simp only [World.size_alloc, World.size_setCell, World.size_drew, size_drewN]; omega)))) (by simp only [World.size_alloc]; omega)
  clear hb1 hc1 hf1
  go_wp2_with fail
  refine (HM.out _).mono ?_
  rintro e w2 ⟨rfl, hb2⟩
  have hz2 := hb2.size
  have gS2 : ∀ o, w2.cell? ⟨w.heap.size, o, none⟩ = #[Value.int .u8 (S 0), .int .u8 (S 1), .int .u8 (S 2), .int .u8 (S 3), .int .u8 (S 4), .int .u8 (S 5), .int .u8 (S 6), .int .u8 (S 7), .int .u8 (S 8)][o]? := fun o => (hb2.cell (p := ⟨w.heap.size, o, none⟩) (by show w.heap.size < _; omega)).trans (gS1 o)
  have gI2 : ∀ o, w2.cell? ⟨w.heap.size + 1, o, none⟩ = #[Value.int .u8 (I 0), .int .u8 (I 1), .int .u8 (I 2), .int .u8 (I 3), .int .u8 (I 4), .int .u8 (I 5), .int .u8 (I 6), .int .u8 (I 7)][o]? := fun o => (hb2.cell (p := ⟨w.heap.size + 1, o, none⟩) (by show w.heap.size + 1 < _; omega)).trans (gI1 o)
  have B2 : Hid (Below w.heap.size w w2) := show Below w.heap.size w w2 from step_le hb2 B1.out B1.out.size
  clear hb2 B1 gS1 gI1
  go_wp2_with fail
  refine (state_any S _).mono ?_
  rintro e w9 ⟨rfl, rfl⟩
  go_wp2_with (first | (go_at_call 16; refine (In_any _ _ _ _).mono ?_; rintro e w' ⟨rfl, rfl⟩))
  obtain ⟨W5, hW5⟩ : ∃ W5, W5 = (w2.alloc (.cells #[Value.int .u8 (B 0), .int .u8 (B 1), .int .u8 (B 2), .int .u8 (B 3), .int .u8 (B 4), .int .u8 (B 5), .int .u8 (B 6), .int .u8 (B 7), .int .u8 (B 8)] 31)).alloc (.cells #[Value.int .u8 (S 0), .int .u8 (S 1), .int .u8 (S 2), .int .u8 (S 3), .int .u8 (S 4), .int .u8 (S 5), .int .u8 (S 6), .int .u8 (S 7), .int .u8 (S 8)] 31) := ⟨_, rfl⟩
  rw [← hW5]
  have B5 : Below w2.heap.size w2 W5 := by rw [hW5]; (repeat' (with_reducible first | exact Below.refl _ _ | refine past_le ?_ ?_ _ | refine Below.alloc ?_ ?_ _ | refine Below.drew ?_ | refine drewN_le ?_ _ | refine Below.setCell ?_ ?_ _ | refine step_le (by assumption) ?_ ?_ | omega | (simp only []; omega) | (simp only [World.size_alloc]; omega) | (simp only [World.size_setCell]; omega) | (simp only [World.size_drew]; omega) | (simp only [World.size_alloc, World.size_setCell]; omega) | (simp only [World.size_alloc, World.size_drew]; omega) | (simp only [World.size_setCell, World.size_drew]; omega) | (simp only [World.size_alloc, World.size_setCell, World.size_drew]; omega) | (simp only [World.size_alloc, World.size_setCell, World.size_drew, size_drewN]; omega)))
  have hz5 : w2.heap.size + 2 ≤ W5.heap.size := by rw [hW5]; simp only [World.size_alloc]; omega
  have gS : ∀ o, W5.cell? ⟨w.heap.size, o, none⟩ = #[Value.int .u8 (S 0), .int .u8 (S 1), .int .u8 (S 2), .int .u8 (S 3), .int .u8 (S 4), .int .u8 (S 5), .int .u8 (S 6), .int .u8 (S 7), .int .u8 (S 8)][o]? := fun o => (B5.cell (p := ⟨w.heap.size, o, none⟩) (by show w.heap.size < _; omega)).trans (gS2 o)
  have gI : ∀ o, W5.cell? ⟨w.heap.size + 1, o, none⟩ = #[Value.int .u8 (I 0), .int .u8 (I 1), .int .u8 (I 2), .int .u8 (I 3), .int .u8 (I 4), .int .u8 (I 5), .int .u8 (I 6), .int .u8 (I 7)][o]? := fun o => (B5.cell (p := ⟨w.heap.size + 1, o, none⟩) (by show w.heap.size + 1 < _; omega)).trans (gI2 o)
  have gR : ∀ o, W5.cell? ⟨w2.heap.size, o, none⟩ = #[Value.int .u8 (B 0), .int .u8 (B 1), .int .u8 (B 2), .int .u8 (B 3), .int .u8 (B 4), .int .u8 (B 5), .int .u8 (B 6), .int .u8 (B 7), .int .u8 (B 8)][o]? := fun o => by
    rw [hW5, cell_old _ _ _ _ (by simp only [World.size_alloc]; omega), cell_alloc_if, if_pos rfl]
  have BW : Hid (Below w.heap.size w W5) := show Below w.heap.size w W5 from B2.out.trans (B5.mono B2.out.size)
  clear hW5 B5 gS2 gI2 B2
  obtain ⟨VS, hVS⟩ : ∃ VS, VS = Value.agg #[.int .u8 (S 0), .int .u8 (S 1), .int .u8 (S 2), .int .u8 (S 3), .int .u8 (S 4), .int .u8 (S 5), .int .u8 (S 6), .int .u8 (S 7), .int .u8 (S 8)] := ⟨_, rfl⟩
  obtain ⟨VI, hVI⟩ : ∃ VI, VI = Value.agg #[.int .u8 (I 0), .int .u8 (I 1), .int .u8 (I 2), .int .u8 (I 3), .int .u8 (I 4), .int .u8 (I 5), .int .u8 (I 6), .int .u8 (I 7)] := ⟨_, rfl⟩
  obtain ⟨VR, hVR⟩ : ∃ VR, VR = Value.agg #[.int .u8 (B 0), .int .u8 (B 1), .int .u8 (B 2), .int .u8 (B 3), .int .u8 (B 4), .int .u8 (B 5), .int .u8 (B 6), .int .u8 (B 7), .int .u8 (B 8)] := ⟨_, rfl⟩
  have HVS : Hid _ := hVS
  have HVI : Hid _ := hVI
  have HVR : Hid _ := hVR
  have hSW : ∀ x : Later W5, (loadVar 31 ⟨w.heap.size, 0, none⟩).run Try.prog (past W5 x) = .ok VS (past W5 x) := fun x => by rw [HVS.out]; exact load_past (by omega) gS Try.underlying31 rfl (by kernel_rfl)
  have hIW : ∀ x : Later W5, (loadVar 29 ⟨w.heap.size + 1, 0, none⟩).run Try.prog (past W5 x) = .ok VI (past W5 x) := fun x => by rw [HVI.out]; exact load_past (by omega) gI Try.underlying29 rfl (by kernel_rfl)
  have hRW : ∀ x : Later W5, (loadVar 31 ⟨w2.heap.size, 0, none⟩).run Try.prog (past W5 x) = .ok VR (past W5 x) := fun x => by rw [HVR.out]; exact load_past (by omega) gR Try.underlying31 rfl (by kernel_rfl)
  have hKW : ∀ x : Later W5, Calls Try.prog 21 #[VS] (past W5 x) fun e w' => e = .returned (.int .i64 (stE S)) ∧ ∃ y, w' = past W5 y := fun x => by rw [HVS.out]; exact past_alloc (composeCheck_any S _)
  have hXW : ∀ x : Later W5, Calls Try.prog 22 #[VS, VI, .int .i64 q, .int .i64 md, .bool ov] (past W5 x) fun e w' => e = .returned VR ∧ ∃ y, w' = past W5 y := fun x => by rw [HVS.out, HVI.out, HVR.out]; exact past_call (HX.out _)
  rw [← hVS, ← hVI, ← hVR]
  clear hVS hVI hVR gS gI gR
  refine wp_region_past (by kernel_rfl) (by kernel_rfl) ?_
  iterate 3 (go_big_quiet_step (fail))
  go_big_quiet_want
  refine quiet_load 31 (.tmp 5) ⟨w.heap.size, 0, none⟩ VS (by rfl) (by rfl) (fun w' hw' => by obtain ⟨x, rfl⟩ := hw'; exact hSW x) ?_
  simp only [Act.put, List.setIfInBounds_toArray, List.set_cons_succ, List.set_cons_zero]
  go_big_quiet_on
  go_big_quiet_step ((go_at_call 21; exact hKW _))
  iterate 3 (go_big_quiet_step (fail))
  go_big_quiet_want
  refine quiet_load 31 (.tmp 11) ⟨w2.heap.size, 0, none⟩ VR (by rfl) (by rfl) (fun w' hw' => by obtain ⟨x, rfl⟩ := hw'; exact hRW x) ?_
  simp only [Act.put, List.setIfInBounds_toArray, List.set_cons_succ, List.set_cons_zero]
  go_big_quiet_on
  go_big_quiet_want
  refine quiet_load 31 (.tmp 5) ⟨w.heap.size, 0, none⟩ VS (by rfl) (by rfl) (fun w' hw' => by obtain ⟨x, rfl⟩ := hw'; exact hSW x) ?_
  simp only [Act.put, List.setIfInBounds_toArray, List.set_cons_succ, List.set_cons_zero]
  go_big_quiet_on
  go_big_quiet_want
  refine quiet_load 29 (.tmp 6) ⟨w.heap.size + 1, 0, none⟩ VI (by rfl) (by rfl) (fun w' hw' => by obtain ⟨x, rfl⟩ := hw'; exact hIW x) ?_
  simp only [Act.put, List.setIfInBounds_toArray, List.set_cons_succ, List.set_cons_zero]
  go_big_quiet_on
  iterate 4 (go_big_quiet_step (fail))
  go_big_quiet_step ((go_at_call 22; exact hXW _))
  rw [HVR.out]
  repeat (go_big_quiet_step (fail))
  refine wpQuiet_nil ?_
  rintro w8 ⟨x8, rfl⟩
  go_wp2_with fail
  go_ret
  exact ⟨by simp, past_le BW.out BW.out.size x8⟩
set_option maxRecDepth 20000 in
set_option maxHeartbeats 4000000 in
theorem walk_o2 (md : Int) (S I : Nat → Int) (q : Int) (ov : Bool) (w : World) (hs : stE S = 0) (hmd : 0 ≤ md ∧ md ≤ 11) (hz : zer8 I = true) (hS : ∀ o, o < 9 → 0 ≤ S o ∧ S o ≤ 255) (hI : ∀ o, o < 8 → 0 ≤ I o ∧ I o ≤ 255) :
    Calls Try.prog 4 #[.agg #[.int .u8 (S 0), .int .u8 (S 1), .int .u8 (S 2), .int .u8 (S 3), .int .u8 (S 4), .int .u8 (S 5), .int .u8 (S 6), .int .u8 (S 7), .int .u8 (S 8)], .agg #[.int .u8 (I 0), .int .u8 (I 1), .int .u8 (I 2), .int .u8 (I 3), .int .u8 (I 4), .int .u8 (I 5), .int .u8 (I 6), .int .u8 (I 7)], .int .u8 0, .int .i64 md, .bool ov] w fun e w' => e = .returned (.bool true) ∧ Below w.heap.size w w' := by
  obtain ⟨B, hB⟩ : ∃ B, B = pnt md S I 0 ov := ⟨_, rfl⟩
  have HM : Hid _ := fun w' => Over_ok md S I B 0 ov w' hs hmd (fun h => by rw [hz] at h; cases h.2) hS hI (by decide) (fun o ho => by rw [hB])
  have HX : Hid _ := fun w' => Painted_any md S I B 0 ov w' hmd hS hI (by decide) (fun o ho => by rw [hB])
  clear hB hS hI
  have hin : inB md 0 11 = true := inB_yes hmd
  obtain ⟨h1, h2, h3, h4, h5, h6, h7, h8⟩ := zer8_yes hz
  have HI : Hid _ := And.intro h1 (And.intro h2 (And.intro h3 (And.intro h4 (And.intro h5 (And.intro h6 (And.intro h7 h8))))))
  rw [h1, h2, h3, h4, h5, h6, h7, h8] at HM HX
  rw [h1, h2, h3, h4, h5, h6, h7, h8]
  clear hz h1 h2 h3 h4 h5 h6 h7 h8
  go_enter Try.func4, Try.ntmps4
  go_wp2_with fail
  refine (composes_any _).mono ?_
  rintro e w1 ⟨rfl, hb1⟩
  obtain ⟨hc1, hf1, hz1⟩ := bcell hb1
  simp only [World.size_alloc] at hc1 hf1 hz1
  have gS1 : ∀ o, w1.cell? ⟨w.heap.size, o, none⟩ = #[Value.int .u8 (S 0), .int .u8 (S 1), .int .u8 (S 2), .int .u8 (S 3), .int .u8 (S 4), .int .u8 (S 5), .int .u8 (S 6), .int .u8 (S 7), .int .u8 (S 8)][o]? := fun o => by
    rw [hc1, if_pos (by omega), cell_alloc_if, if_neg (by simp only [World.size_alloc]; omega), cell_alloc_if, if_pos rfl]
  have gI1 : ∀ o, w1.cell? ⟨w.heap.size + 1, o, none⟩ = #[Value.int .u8 0, .int .u8 0, .int .u8 0, .int .u8 0, .int .u8 0, .int .u8 0, .int .u8 0, .int .u8 0][o]? := fun o => by
    rw [hc1, if_pos (by omega), cell_alloc_if, if_pos (by simp only [World.size_alloc])]
  have B1 : Hid (Below w.heap.size w w1) := show Below w.heap.size w w1 from step_le hb1 (by (repeat' (with_reducible first | exact Below.refl _ _ | refine past_le ?_ ?_ _ | refine Below.alloc ?_ ?_ _ | refine Below.drew ?_ | refine drewN_le ?_ _ | refine Below.setCell ?_ ?_ _ | refine step_le (by assumption) ?_ ?_ | omega | (simp only []; omega) | (simp only [World.size_alloc]; omega) | (simp only [World.size_setCell]; omega) | (simp only [World.size_drew]; omega) | (simp only [World.size_alloc, World.size_setCell]; omega) | (simp only [World.size_alloc, World.size_drew]; omega) | (simp only [World.size_setCell, World.size_drew]; omega) | (simp only [World.size_alloc, World.size_setCell, World.size_drew]; omega) | (simp only [World.size_alloc, World.size_setCell, World.size_drew, size_drewN]; omega)))) (by simp only [World.size_alloc]; omega)
  clear hb1 hc1 hf1
  go_wp2_with fail
  refine (HM.out _).mono ?_
  rintro e w2 ⟨rfl, hb2⟩
  have hz2 := hb2.size
  have gS2 : ∀ o, w2.cell? ⟨w.heap.size, o, none⟩ = #[Value.int .u8 (S 0), .int .u8 (S 1), .int .u8 (S 2), .int .u8 (S 3), .int .u8 (S 4), .int .u8 (S 5), .int .u8 (S 6), .int .u8 (S 7), .int .u8 (S 8)][o]? := fun o => (hb2.cell (p := ⟨w.heap.size, o, none⟩) (by show w.heap.size < _; omega)).trans (gS1 o)
  have gI2 : ∀ o, w2.cell? ⟨w.heap.size + 1, o, none⟩ = #[Value.int .u8 0, .int .u8 0, .int .u8 0, .int .u8 0, .int .u8 0, .int .u8 0, .int .u8 0, .int .u8 0][o]? := fun o => (hb2.cell (p := ⟨w.heap.size + 1, o, none⟩) (by show w.heap.size + 1 < _; omega)).trans (gI1 o)
  have B2 : Hid (Below w.heap.size w w2) := show Below w.heap.size w w2 from step_le hb2 B1.out B1.out.size
  clear hb2 B1 gS1 gI1
  go_wp2_with fail
  refine (state_any S _).mono ?_
  rintro e w9 ⟨rfl, rfl⟩
  go_wp2_with (first | (go_at_call 16; refine (In_any _ _ _ _).mono ?_; rintro e w' ⟨rfl, rfl⟩))
  obtain ⟨W5, hW5⟩ : ∃ W5, W5 = (w2.alloc (.cells #[Value.int .u8 (B 0), .int .u8 (B 1), .int .u8 (B 2), .int .u8 (B 3), .int .u8 (B 4), .int .u8 (B 5), .int .u8 (B 6), .int .u8 (B 7), .int .u8 (B 8)] 31)).alloc (.cells #[Value.int .u8 (S 0), .int .u8 (S 1), .int .u8 (S 2), .int .u8 (S 3), .int .u8 (S 4), .int .u8 (S 5), .int .u8 (S 6), .int .u8 (S 7), .int .u8 (S 8)] 31) := ⟨_, rfl⟩
  rw [← hW5]
  have B5 : Below w2.heap.size w2 W5 := by rw [hW5]; (repeat' (with_reducible first | exact Below.refl _ _ | refine past_le ?_ ?_ _ | refine Below.alloc ?_ ?_ _ | refine Below.drew ?_ | refine drewN_le ?_ _ | refine Below.setCell ?_ ?_ _ | refine step_le (by assumption) ?_ ?_ | omega | (simp only []; omega) | (simp only [World.size_alloc]; omega) | (simp only [World.size_setCell]; omega) | (simp only [World.size_drew]; omega) | (simp only [World.size_alloc, World.size_setCell]; omega) | (simp only [World.size_alloc, World.size_drew]; omega) | (simp only [World.size_setCell, World.size_drew]; omega) | (simp only [World.size_alloc, World.size_setCell, World.size_drew]; omega) | (simp only [World.size_alloc, World.size_setCell, World.size_drew, size_drewN]; omega)))
  have hz5 : w2.heap.size + 2 ≤ W5.heap.size := by rw [hW5]; simp only [World.size_alloc]; omega
  have gS : ∀ o, W5.cell? ⟨w.heap.size, o, none⟩ = #[Value.int .u8 (S 0), .int .u8 (S 1), .int .u8 (S 2), .int .u8 (S 3), .int .u8 (S 4), .int .u8 (S 5), .int .u8 (S 6), .int .u8 (S 7), .int .u8 (S 8)][o]? := fun o => (B5.cell (p := ⟨w.heap.size, o, none⟩) (by show w.heap.size < _; omega)).trans (gS2 o)
  have gI : ∀ o, W5.cell? ⟨w.heap.size + 1, o, none⟩ = #[Value.int .u8 0, .int .u8 0, .int .u8 0, .int .u8 0, .int .u8 0, .int .u8 0, .int .u8 0, .int .u8 0][o]? := fun o => (B5.cell (p := ⟨w.heap.size + 1, o, none⟩) (by show w.heap.size + 1 < _; omega)).trans (gI2 o)
  have gR : ∀ o, W5.cell? ⟨w2.heap.size, o, none⟩ = #[Value.int .u8 (B 0), .int .u8 (B 1), .int .u8 (B 2), .int .u8 (B 3), .int .u8 (B 4), .int .u8 (B 5), .int .u8 (B 6), .int .u8 (B 7), .int .u8 (B 8)][o]? := fun o => by
    rw [hW5, cell_old _ _ _ _ (by simp only [World.size_alloc]; omega), cell_alloc_if, if_pos rfl]
  have BW : Hid (Below w.heap.size w W5) := show Below w.heap.size w W5 from B2.out.trans (B5.mono B2.out.size)
  clear hW5 B5 gS2 gI2 B2
  obtain ⟨VS, hVS⟩ : ∃ VS, VS = Value.agg #[.int .u8 (S 0), .int .u8 (S 1), .int .u8 (S 2), .int .u8 (S 3), .int .u8 (S 4), .int .u8 (S 5), .int .u8 (S 6), .int .u8 (S 7), .int .u8 (S 8)] := ⟨_, rfl⟩
  obtain ⟨VI, hVI⟩ : ∃ VI, VI = Value.agg #[.int .u8 0, .int .u8 0, .int .u8 0, .int .u8 0, .int .u8 0, .int .u8 0, .int .u8 0, .int .u8 0] := ⟨_, rfl⟩
  obtain ⟨VR, hVR⟩ : ∃ VR, VR = Value.agg #[.int .u8 (B 0), .int .u8 (B 1), .int .u8 (B 2), .int .u8 (B 3), .int .u8 (B 4), .int .u8 (B 5), .int .u8 (B 6), .int .u8 (B 7), .int .u8 (B 8)] := ⟨_, rfl⟩
  have HVS : Hid _ := hVS
  have HVI : Hid _ := hVI
  have HVR : Hid _ := hVR
  have hSW : ∀ x : Later W5, (loadVar 31 ⟨w.heap.size, 0, none⟩).run Try.prog (past W5 x) = .ok VS (past W5 x) := fun x => by rw [HVS.out]; exact load_past (by omega) gS Try.underlying31 rfl (by kernel_rfl)
  have hIW : ∀ x : Later W5, (loadVar 29 ⟨w.heap.size + 1, 0, none⟩).run Try.prog (past W5 x) = .ok VI (past W5 x) := fun x => by rw [HVI.out]; exact load_past (by omega) gI Try.underlying29 rfl (by kernel_rfl)
  have hRW : ∀ x : Later W5, (loadVar 31 ⟨w2.heap.size, 0, none⟩).run Try.prog (past W5 x) = .ok VR (past W5 x) := fun x => by rw [HVR.out]; exact load_past (by omega) gR Try.underlying31 rfl (by kernel_rfl)
  have hKW : ∀ x : Later W5, Calls Try.prog 21 #[VS] (past W5 x) fun e w' => e = .returned (.int .i64 (stE S)) ∧ ∃ y, w' = past W5 y := fun x => by rw [HVS.out]; exact past_alloc (composeCheck_any S _)
  have hXW : ∀ x : Later W5, Calls Try.prog 22 #[VS, VI, .int .i64 0, .int .i64 md, .bool ov] (past W5 x) fun e w' => e = .returned VR ∧ ∃ y, w' = past W5 y := fun x => by rw [HVS.out, HVI.out, HVR.out]; exact past_call (HX.out _)
  rw [← hVS, ← hVI, ← hVR]
  clear hVS hVI hVR gS gI gR
  refine wp_region_past (by kernel_rfl) (by kernel_rfl) ?_
  iterate 3 (go_big_quiet_step (fail))
  go_big_quiet_want
  refine quiet_load 31 (.tmp 5) ⟨w.heap.size, 0, none⟩ VS (by rfl) (by rfl) (fun w' hw' => by obtain ⟨x, rfl⟩ := hw'; exact hSW x) ?_
  simp only [Act.put, List.setIfInBounds_toArray, List.set_cons_succ, List.set_cons_zero]
  go_big_quiet_on
  go_big_quiet_step ((go_at_call 21; exact hKW _))
  iterate 3 (go_big_quiet_step (fail))
  go_big_quiet_want
  refine quiet_load 31 (.tmp 11) ⟨w2.heap.size, 0, none⟩ VR (by rfl) (by rfl) (fun w' hw' => by obtain ⟨x, rfl⟩ := hw'; exact hRW x) ?_
  simp only [Act.put, List.setIfInBounds_toArray, List.set_cons_succ, List.set_cons_zero]
  go_big_quiet_on
  go_big_quiet_want
  refine quiet_load 31 (.tmp 5) ⟨w.heap.size, 0, none⟩ VS (by rfl) (by rfl) (fun w' hw' => by obtain ⟨x, rfl⟩ := hw'; exact hSW x) ?_
  simp only [Act.put, List.setIfInBounds_toArray, List.set_cons_succ, List.set_cons_zero]
  go_big_quiet_on
  go_big_quiet_want
  refine quiet_load 29 (.tmp 6) ⟨w.heap.size + 1, 0, none⟩ VI (by rfl) (by rfl) (fun w' hw' => by obtain ⟨x, rfl⟩ := hw'; exact hIW x) ?_
  simp only [Act.put, List.setIfInBounds_toArray, List.set_cons_succ, List.set_cons_zero]
  go_big_quiet_on
  iterate 4 (go_big_quiet_step (fail))
  go_big_quiet_step ((go_at_call 22; exact hXW _))
  rw [HVR.out]
  repeat (go_big_quiet_step (fail))
  refine wpQuiet_nil ?_
  rintro w8 ⟨x8, rfl⟩
  go_wp2_with fail
  go_ret
  exact ⟨by simp, past_le BW.out BW.out.size x8⟩
theorem u8_bd {z : Int} (h : (Lit.int .u8 z).wf = true) : 0 ≤ z ∧ z ≤ 255 := by
  simp [Lit.wf, IntKind.min, IntKind.max, IntKind.signed, IntKind.bits] at h
  omega
set_option linter.unusedVariables false in
theorem walk (a0x0 : Int) (a0x1 : Int) (a0x2 : Int) (a0x3 : Int) (a0x4 : Int) (a0x5 : Int) (a0x6 : Int) (a0x7 : Int) (a0x8 : Int) (a1x0 : Int) (a1x1 : Int) (a1x2 : Int) (a1x3 : Int) (a1x4 : Int) (a1x5 : Int) (a1x6 : Int) (a1x7 : Int) (a2 : Int) (a3 : Int) (a4 : Bool) (w : World) (w0x0 : (Lit.int .u8 a0x0).wf = true) (w0x1 : (Lit.int .u8 a0x1).wf = true) (w0x2 : (Lit.int .u8 a0x2).wf = true) (w0x3 : (Lit.int .u8 a0x3).wf = true) (w0x4 : (Lit.int .u8 a0x4).wf = true) (w0x5 : (Lit.int .u8 a0x5).wf = true) (w0x6 : (Lit.int .u8 a0x6).wf = true) (w0x7 : (Lit.int .u8 a0x7).wf = true) (w0x8 : (Lit.int .u8 a0x8).wf = true) (w1x0 : (Lit.int .u8 a1x0).wf = true) (w1x1 : (Lit.int .u8 a1x1).wf = true) (w1x2 : (Lit.int .u8 a1x2).wf = true) (w1x3 : (Lit.int .u8 a1x3).wf = true) (w1x4 : (Lit.int .u8 a1x4).wf = true) (w1x5 : (Lit.int .u8 a1x5).wf = true) (w1x6 : (Lit.int .u8 a1x6).wf = true) (w1x7 : (Lit.int .u8 a1x7).wf = true) (w2 : (Lit.int .u8 a2).wf = true) (w3 : (Lit.int .i64 a3).wf = true) :
    Calls Try.prog 4 #[.agg #[.int .u8 a0x0, .int .u8 a0x1, .int .u8 a0x2, .int .u8 a0x3, .int .u8 a0x4, .int .u8 a0x5, .int .u8 a0x6, .int .u8 a0x7, .int .u8 a0x8], .agg #[.int .u8 a1x0, .int .u8 a1x1, .int .u8 a1x2, .int .u8 a1x3, .int .u8 a1x4, .int .u8 a1x5, .int .u8 a1x6, .int .u8 a1x7], .int .u8 a2, .int .i64 a3, .bool a4] w fun e w' => e = .returned (.bool true) ∧ Below w.heap.size w w' := by
  have hS : ∀ o, o < 9 → 0 ≤ [a0x0, a0x1, a0x2, a0x3, a0x4, a0x5, a0x6, a0x7, a0x8].getD o 0 ∧ [a0x0, a0x1, a0x2, a0x3, a0x4, a0x5, a0x6, a0x7, a0x8].getD o 0 ≤ 255 := fun o ho => by
      have ho' : o = 0 ∨ o = 1 ∨ o = 2 ∨ o = 3 ∨ o = 4 ∨ o = 5 ∨ o = 6 ∨ o = 7 ∨ o = 8 := by omega
      rcases ho' with rfl | rfl | rfl | rfl | rfl | rfl | rfl | rfl | rfl
      · exact u8_bd w0x0
      · exact u8_bd w0x1
      · exact u8_bd w0x2
      · exact u8_bd w0x3
      · exact u8_bd w0x4
      · exact u8_bd w0x5
      · exact u8_bd w0x6
      · exact u8_bd w0x7
      · exact u8_bd w0x8
  have hI : ∀ o, o < 8 → 0 ≤ [a1x0, a1x1, a1x2, a1x3, a1x4, a1x5, a1x6, a1x7].getD o 0 ∧ [a1x0, a1x1, a1x2, a1x3, a1x4, a1x5, a1x6, a1x7].getD o 0 ≤ 255 := fun o ho => by
      have ho' : o = 0 ∨ o = 1 ∨ o = 2 ∨ o = 3 ∨ o = 4 ∨ o = 5 ∨ o = 6 ∨ o = 7 := by omega
      rcases ho' with rfl | rfl | rfl | rfl | rfl | rfl | rfl | rfl
      · exact u8_bd w1x0
      · exact u8_bd w1x1
      · exact u8_bd w1x2
      · exact u8_bd w1x3
      · exact u8_bd w1x4
      · exact u8_bd w1x5
      · exact u8_bd w1x6
      · exact u8_bd w1x7
  rcases stE_or (fun o => [a0x0, a0x1, a0x2, a0x3, a0x4, a0x5, a0x6, a0x7, a0x8].getD o 0) with hs | hs
  · by_cases hmd : 0 ≤ a3 ∧ a3 ≤ 11
    · by_cases hq : a2 = 0
      · subst hq
        cases hz : zer8 (fun o => [a1x0, a1x1, a1x2, a1x3, a1x4, a1x5, a1x6, a1x7].getD o 0) with
        | false => exact walk_e3 a3 (fun o => [a0x0, a0x1, a0x2, a0x3, a0x4, a0x5, a0x6, a0x7, a0x8].getD o 0) (fun o => [a1x0, a1x1, a1x2, a1x3, a1x4, a1x5, a1x6, a1x7].getD o 0) 0 a4 w hs hmd hz
        | true => exact walk_o2 a3 (fun o => [a0x0, a0x1, a0x2, a0x3, a0x4, a0x5, a0x6, a0x7, a0x8].getD o 0) (fun o => [a1x0, a1x1, a1x2, a1x3, a1x4, a1x5, a1x6, a1x7].getD o 0) 0 a4 w hs hmd hz hS hI
      · exact walk_o1 a3 (fun o => [a0x0, a0x1, a0x2, a0x3, a0x4, a0x5, a0x6, a0x7, a0x8].getD o 0) (fun o => [a1x0, a1x1, a1x2, a1x3, a1x4, a1x5, a1x6, a1x7].getD o 0) a2 a4 w hs hmd (by simpa using hq) hS hI (u8_bd w2)
    · exact walk_e2 a3 (fun o => [a0x0, a0x1, a0x2, a0x3, a0x4, a0x5, a0x6, a0x7, a0x8].getD o 0) (fun o => [a1x0, a1x1, a1x2, a1x3, a1x4, a1x5, a1x6, a1x7].getD o 0) a2 a4 w hs hmd
  · exact walk_e1 a3 (fun o => [a0x0, a0x1, a0x2, a0x3, a0x4, a0x5, a0x6, a0x7, a0x8].getD o 0) (fun o => [a1x0, a1x1, a1x2, a1x3, a1x4, a1x5, a1x6, a1x7].getD o 0) a2 a4 w hs
end Go.Proofs.Ytampdegpfndggaa.composeOvers
