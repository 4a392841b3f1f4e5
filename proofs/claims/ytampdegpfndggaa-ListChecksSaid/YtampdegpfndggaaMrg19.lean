/-
  Merged: XRampX, XRampZ.
-/
import Derived.Test.YtampdegpfndggaaMrg18
namespace Go.Proofs.Ytampdegpfndggaa
open Go.RowKit

theorem firstV_zero {err : Nat → Int} : ∀ {n : Nat}, firstV err n = 0 → ∀ i, i < n → err i = 0
  | 0, _, i, hi => by omega
  | n + 1, h, i, hi => by
    unfold firstV at h
    split at h
    · rename_i h1; exact absurd h h1
    · rename_i h1
      rcases Nat.lt_or_ge i n with h2 | h2
      · exact firstV_zero (by simpa using h1) i h2
      · have : i = n := by omega
        subst this; exact h
theorem stops_ok {P : Nat → Int} {n : Nat} (h : stopsE P n = 0) : (1 ≤ n ∧ n ≤ 16) ∧ ∀ i, i < n → 0 ≤ P i ∧ P i ≤ 65536 := by
  unfold stopsE at h
  split at h
  · omega
  · refine ⟨by omega, fun i hi => ?_⟩
    have := firstV_zero h i hi
    unfold stopErr at this
    split at this
    · omega
    · omega
theorem stop_info {w : World} {A : Option Addr} {n : Nat} {g : Nat → Nat → Value} (h : SliceG Try.prog w 110 A n g) (hn : 0 < n) :
    ∃ b off, A = some ⟨b, off, none⟩ ∧ StopsAt w b off n (fun x => valI (g x 0)) (fun x j => valI (g x (j + 1))) ∧ ∀ i, i < n → ∀ j, j < 8 → 0 ≤ valI (g i (j + 1)) ∧ valI (g i (j + 1)) ≤ 255 := by
  have h9 : Try.prog.cellsOf 110 = 9 := by kernel_rfl
  obtain ⟨b, off, hA, hb, hc⟩ := h hn
  rw [h9] at hc
  refine ⟨b, off, hA, ⟨hb, fun i hi => ⟨?_, fun j hj => ?_⟩⟩, fun i hi j hj => ?_⟩
  · have := (hc i hi).1 0 (by omega)
    rw [Nat.add_zero] at this
    rw [this]; exact congrArg some (h.int (by kernel_rfl) hi (by kernel_rfl)).1
  · rw [(hc i hi).1 (j + 1) (by omega)]
    exact congrArg some (h.int (by kernel_rfl) hi (stop_u8 hj)).1
  · have := (h.int (by kernel_rfl) hi (stop_u8 hj)).2
    simp [Lit.wf, IntKind.min, IntKind.max, IntKind.signed, IntKind.bits] at this
    omega
end Go.Proofs.Ytampdegpfndggaa

namespace Go.Proofs.Ytampdegpfndggaa
open Go.RowKit

set_option maxRecDepth 20000 in
set_option maxHeartbeats 2000000 in
theorem Ramp_err (A : Option Addr) (n cap : Nat) (g : Nat → Nat → Value) (t : Int) (w : World) (hn : n ≤ cap ∧ cap ≤ 9223372036854775807) (h : SliceG Try.prog w 110 A n g) (he : stopsE (fun x => valI (g x 0)) n ≠ 0) :
    Calls Try.prog 26 #[.slice A n cap, .int .i64 t] w fun e w' => e = .returned (.tuple #[.agg #[.int .u8 0, .int .u8 0, .int .u8 0, .int .u8 0, .int .u8 0, .int .u8 0, .int .u8 0, .int .u8 0], .int .i64 (stopsE (fun x => valI (g x 0)) n)]) ∧ Below w.heap.size w w' := by
  have HC : Hid _ := fun w' hb => CheckStops_any A n cap g w' hn (SliceG.below h hb)
  clear h
  generalize stopsE (fun x => valI (g x 0)) n = er at *
  have hne : (er != 0) = true := by simpa using he
  go_enter Try.func26, Try.ntmps26
  go_wp2_with fail
  refine (HC.out _ (by (repeat' (with_reducible first | exact Below.refl _ _ | refine past_le ?_ ?_ _ | refine Below.alloc ?_ ?_ _ | refine Below.drew ?_ | refine drewN_le ?_ _ | refine Below.setCell ?_ ?_ _ | refine step_le (by assumption) ?_ ?_ | omega | (simp only []; omega) | (simp only [World.size_alloc]; omega) | (simp only [World.size_setCell]; omega) | (simp only [World.size_drew]; omega) | (simp only [World.size_alloc, World.size_setCell]; omega) | (simp only [World.size_alloc, World.size_drew]; omega) | (simp only [World.size_setCell, World.size_drew]; omega) | (simp only [World.size_alloc, World.size_setCell, World.size_drew]; omega) | (simp only [World.size_alloc, World.size_setCell, World.size_drew, size_drewN]; omega))))).mono ?_
  rintro e w1 ⟨rfl, hb⟩
  obtain ⟨hc1, hf1, hz1⟩ := bcell hb
  simp only [World.size_alloc] at hc1 hf1 hz1
  have hr : ∀ o, w1.cell? ⟨w.heap.size, o, none⟩ = #[Value.int .u8 0, .int .u8 0, .int .u8 0, .int .u8 0, .int .u8 0, .int .u8 0, .int .u8 0, .int .u8 0][o]? := fun o => by
    rw [hc1, if_pos (by omega), cell_alloc_if, if_pos rfl]
  have hrF : ∀ o, w1.frozen? ⟨w.heap.size, o, none⟩ = false := fun o => by
    rw [hf1, if_pos (by omega)]; simp [frozen_alloc_if]
  have HB : Hid (Below w.heap.size w w1) := show Below w.heap.size w w1 from step_le hb (by (repeat' (with_reducible first | exact Below.refl _ _ | refine past_le ?_ ?_ _ | refine Below.alloc ?_ ?_ _ | refine Below.drew ?_ | refine drewN_le ?_ _ | refine Below.setCell ?_ ?_ _ | refine step_le (by assumption) ?_ ?_ | omega | (simp only []; omega) | (simp only [World.size_alloc]; omega) | (simp only [World.size_setCell]; omega) | (simp only [World.size_drew]; omega) | (simp only [World.size_alloc, World.size_setCell]; omega) | (simp only [World.size_alloc, World.size_drew]; omega) | (simp only [World.size_setCell, World.size_drew]; omega) | (simp only [World.size_alloc, World.size_setCell, World.size_drew]; omega) | (simp only [World.size_alloc, World.size_setCell, World.size_drew, size_drewN]; omega)))) (by simp only [World.size_alloc]; omega)
  clear hb hc1 hf1
  go_wp2_with fail
  refine bodyPost_ret (by simp [results, Try.results26, go_sem, hr]; try rfl) rfl ?_
  have hBB := HB.out
  refine ⟨rfl, ?_⟩
  (repeat' (with_reducible first | exact Below.refl _ _ | refine past_le ?_ ?_ _ | refine Below.alloc ?_ ?_ _ | refine Below.drew ?_ | refine drewN_le ?_ _ | refine Below.setCell ?_ ?_ _ | refine step_le (by assumption) ?_ ?_ | omega | (simp only []; omega) | (simp only [World.size_alloc]; omega) | (simp only [World.size_setCell]; omega) | (simp only [World.size_drew]; omega) | (simp only [World.size_alloc, World.size_setCell]; omega) | (simp only [World.size_alloc, World.size_drew]; omega) | (simp only [World.size_setCell, World.size_drew]; omega) | (simp only [World.size_alloc, World.size_setCell, World.size_drew]; omega) | (simp only [World.size_alloc, World.size_setCell, World.size_drew, size_drewN]; omega)))
set_option maxRecDepth 20000 in
set_option maxHeartbeats 2000000 in
theorem Ramp_out (A : Option Addr) (n cap : Nat) (g : Nat → Nat → Value) (t : Int) (w : World) (hn : n ≤ cap ∧ cap ≤ 9223372036854775807) (h : SliceG Try.prog w 110 A n g) (he : stopsE (fun x => valI (g x 0)) n = 0) (ht : t < 0 ∨ (0 ≤ t ∧ 65536 < t)) :
    Calls Try.prog 26 #[.slice A n cap, .int .i64 t] w fun e w' => e = .returned (.tuple #[.agg #[.int .u8 0, .int .u8 0, .int .u8 0, .int .u8 0, .int .u8 0, .int .u8 0, .int .u8 0, .int .u8 0], .int .i64 3]) ∧ Below w.heap.size w w' := by
  have HC : Hid _ := fun w' hb => CheckStops_any A n cap g w' hn (SliceG.below h hb)
  have HE : Hid _ := he
  clear h he
  rcases ht with ht | ⟨ht0, ht⟩
  all_goals
    go_enter Try.func26, Try.ntmps26
    go_wp2_with fail
    refine (HC.out _ (by (repeat' (with_reducible first | exact Below.refl _ _ | refine past_le ?_ ?_ _ | refine Below.alloc ?_ ?_ _ | refine Below.drew ?_ | refine drewN_le ?_ _ | refine Below.setCell ?_ ?_ _ | refine step_le (by assumption) ?_ ?_ | omega | (simp only []; omega) | (simp only [World.size_alloc]; omega) | (simp only [World.size_setCell]; omega) | (simp only [World.size_drew]; omega) | (simp only [World.size_alloc, World.size_setCell]; omega) | (simp only [World.size_alloc, World.size_drew]; omega) | (simp only [World.size_setCell, World.size_drew]; omega) | (simp only [World.size_alloc, World.size_setCell, World.size_drew]; omega) | (simp only [World.size_alloc, World.size_setCell, World.size_drew, size_drewN]; omega))))).mono ?_
    rw [HE.out]
    rintro e w1 ⟨rfl, hb⟩
    obtain ⟨hc1, hf1, hz1⟩ := bcell hb
    simp only [World.size_alloc] at hc1 hf1 hz1
    have hr : ∀ o, w1.cell? ⟨w.heap.size, o, none⟩ = #[Value.int .u8 0, .int .u8 0, .int .u8 0, .int .u8 0, .int .u8 0, .int .u8 0, .int .u8 0, .int .u8 0][o]? := fun o => by
      rw [hc1, if_pos (by omega), cell_alloc_if, if_pos rfl]
    have hrF : ∀ o, w1.frozen? ⟨w.heap.size, o, none⟩ = false := fun o => by
      rw [hf1, if_pos (by omega)]; simp [frozen_alloc_if]
    have HB : Hid (Below w.heap.size w w1) := show Below w.heap.size w w1 from step_le hb (by (repeat' (with_reducible first | exact Below.refl _ _ | refine past_le ?_ ?_ _ | refine Below.alloc ?_ ?_ _ | refine Below.drew ?_ | refine drewN_le ?_ _ | refine Below.setCell ?_ ?_ _ | refine step_le (by assumption) ?_ ?_ | omega | (simp only []; omega) | (simp only [World.size_alloc]; omega) | (simp only [World.size_setCell]; omega) | (simp only [World.size_drew]; omega) | (simp only [World.size_alloc, World.size_setCell]; omega) | (simp only [World.size_alloc, World.size_drew]; omega) | (simp only [World.size_setCell, World.size_drew]; omega) | (simp only [World.size_alloc, World.size_setCell, World.size_drew]; omega) | (simp only [World.size_alloc, World.size_setCell, World.size_drew, size_drewN]; omega)))) (by simp only [World.size_alloc]; omega)
    clear hb hc1 hf1
    go_wp2_with fail
    refine bodyPost_ret (by simp [results, Try.results26, go_sem, hr]; try rfl) rfl ?_
    have hBB := HB.out
    refine ⟨rfl, ?_⟩
    (repeat' (with_reducible first | exact Below.refl _ _ | refine past_le ?_ ?_ _ | refine Below.alloc ?_ ?_ _ | refine Below.drew ?_ | refine drewN_le ?_ _ | refine Below.setCell ?_ ?_ _ | refine step_le (by assumption) ?_ ?_ | omega | (simp only []; omega) | (simp only [World.size_alloc]; omega) | (simp only [World.size_setCell]; omega) | (simp only [World.size_drew]; omega) | (simp only [World.size_alloc, World.size_setCell]; omega) | (simp only [World.size_alloc, World.size_drew]; omega) | (simp only [World.size_setCell, World.size_drew]; omega) | (simp only [World.size_alloc, World.size_setCell, World.size_drew]; omega) | (simp only [World.size_alloc, World.size_setCell, World.size_drew, size_drewN]; omega)))
set_option maxRecDepth 20000 in
set_option maxHeartbeats 2000000 in
theorem Ramp_ok (b off n cap : Nat) (g : Nat → Nat → Value) (B : Nat → Int) (t : Int) (w : World) (hn : n ≤ cap ∧ cap ≤ 9223372036854775807) (h : SliceG Try.prog w 110 (some ⟨b, off, none⟩) n g) (he : stopsE (fun x => valI (g x 0)) n = 0) (ht : 0 ≤ t ∧ t ≤ 65536)
    (hst : StopsAt w b off n (fun x => valI (g x 0)) (fun x j => valI (g x (j + 1)))) (hV : ∀ i, i < n → ∀ j, j < 8 → 0 ≤ valI (g i (j + 1)) ∧ valI (g i (j + 1)) ≤ 255) (hB : ∀ j, j < 8 → B j = rampV n (fun x => valI (g x 0)) (fun x j => valI (g x (j + 1))) t j) :
    Calls Try.prog 26 #[.slice (some ⟨b, off, none⟩) n cap, .int .i64 t] w fun e w' => e = .returned (.tuple #[.agg #[.int .u8 (B 0), .int .u8 (B 1), .int .u8 (B 2), .int .u8 (B 3), .int .u8 (B 4), .int .u8 (B 5), .int .u8 (B 6), .int .u8 (B 7)], .int .i64 0]) ∧ Below w.heap.size w w' := by
  have HC : Hid _ := fun w' hb => CheckStops_any (some ⟨b, off, none⟩) n cap g w' hn (SliceG.below h hb)
  have HR : Hid _ := fun w' hb => (ramp_any b off n cap _ _ B t w' (stops_ok he).1 ht (stops_ok he).2 hV (StopsAt.below hst hb) hB).1
  have HE : Hid _ := he
  obtain ⟨ht0, ht1⟩ := ht
  clear h he hst hV hB
  go_enter Try.func26, Try.ntmps26
  go_wp2_with fail
  refine (HC.out _ (by (repeat' (with_reducible first | exact Below.refl _ _ | refine past_le ?_ ?_ _ | refine Below.alloc ?_ ?_ _ | refine Below.drew ?_ | refine drewN_le ?_ _ | refine Below.setCell ?_ ?_ _ | refine step_le (by assumption) ?_ ?_ | omega | (simp only []; omega) | (simp only [World.size_alloc]; omega) | (simp only [World.size_setCell]; omega) | (simp only [World.size_drew]; omega) | (simp only [World.size_alloc, World.size_setCell]; omega) | (simp only [World.size_alloc, World.size_drew]; omega) | (simp only [World.size_setCell, World.size_drew]; omega) | (simp only [World.size_alloc, World.size_setCell, World.size_drew]; omega) | (simp only [World.size_alloc, World.size_setCell, World.size_drew, size_drewN]; omega))))).mono ?_
  rw [HE.out]
  rintro e w1 ⟨rfl, hb⟩
  obtain ⟨hc1, hf1, hz1⟩ := bcell hb
  simp only [World.size_alloc] at hc1 hf1 hz1
  have hr1 : Hid (∀ o, w1.cell? ⟨w.heap.size, o, none⟩ = #[Value.int .u8 0, .int .u8 0, .int .u8 0, .int .u8 0, .int .u8 0, .int .u8 0, .int .u8 0, .int .u8 0][o]?) := fun o => by
    rw [hc1, if_pos (by omega), cell_alloc_if, if_pos rfl]
  have hrF1 : Hid (∀ o, w1.frozen? ⟨w.heap.size, o, none⟩ = false) := fun o => by
    rw [hf1, if_pos (by omega)]; simp [frozen_alloc_if]
  have HB : Hid (Below w.heap.size w w1) := show Below w.heap.size w w1 from step_le hb (by (repeat' (with_reducible first | exact Below.refl _ _ | refine past_le ?_ ?_ _ | refine Below.alloc ?_ ?_ _ | refine Below.drew ?_ | refine drewN_le ?_ _ | refine Below.setCell ?_ ?_ _ | refine step_le (by assumption) ?_ ?_ | omega | (simp only []; omega) | (simp only [World.size_alloc]; omega) | (simp only [World.size_setCell]; omega) | (simp only [World.size_drew]; omega) | (simp only [World.size_alloc, World.size_setCell]; omega) | (simp only [World.size_alloc, World.size_drew]; omega) | (simp only [World.size_setCell, World.size_drew]; omega) | (simp only [World.size_alloc, World.size_setCell, World.size_drew]; omega) | (simp only [World.size_alloc, World.size_setCell, World.size_drew, size_drewN]; omega)))) (by simp only [World.size_alloc]; omega)
  clear hb hc1 hf1
  go_wp2_with fail
  refine (HR.out _ HB.out).mono ?_
  rintro e w2 ⟨rfl, hb2⟩
  have hr : ∀ o, _ := fun o => (hb2.cell (p := ⟨w.heap.size, o, none⟩) (by show w.heap.size < _; omega)).trans (hr1.out o)
  have hrF : ∀ o, _ := fun o => (hb2.frozen (p := ⟨w.heap.size, o, none⟩) (by show w.heap.size < _; omega)).trans (hrF1.out o)
  have HB2 : Hid (Below w.heap.size w w2) := show Below w.heap.size w w2 from HB.out.trans (hb2.mono HB.out.size)
  clear hb2
  go_wp2_with fail
  refine bodyPost_ret (by simp [results, Try.results26, go_sem, hr]; try rfl) rfl ?_
  have hBB := HB2.out
  refine ⟨rfl, ?_⟩
  (repeat' (with_reducible first | exact Below.refl _ _ | refine past_le ?_ ?_ _ | refine Below.alloc ?_ ?_ _ | refine Below.drew ?_ | refine drewN_le ?_ _ | refine Below.setCell ?_ ?_ _ | refine step_le (by assumption) ?_ ?_ | omega | (simp only []; omega) | (simp only [World.size_alloc]; omega) | (simp only [World.size_setCell]; omega) | (simp only [World.size_drew]; omega) | (simp only [World.size_alloc, World.size_setCell]; omega) | (simp only [World.size_alloc, World.size_drew]; omega) | (simp only [World.size_setCell, World.size_drew]; omega) | (simp only [World.size_alloc, World.size_setCell, World.size_drew]; omega) | (simp only [World.size_alloc, World.size_setCell, World.size_drew, size_drewN]; omega)))
end Go.Proofs.Ytampdegpfndggaa
