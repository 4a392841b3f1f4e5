/-
  The walk of the law TallySums: Sum, Zones and Tiles add up the amounts of their pixels.
-/
import Derived.Test.YtoiblpncofbdpaaTallies
import Derived.Test.YtoiblpncofbdpaaBytes
namespace Go.Proofs.Ytoiblpncofbdpaa.tallySums
open Go.RowKit

set_option maxRecDepth 20000 in
set_option maxHeartbeats 2000000 in
theorem walk_err (x y a1 a2 a3 : Int) (A : Option Addr) (n cap : Nat) (w : World) (er : Int) (he : gridE x y n = er) (h0 : er = 3 ∨ er = 4) :
    Calls Try.prog 4 #[.agg #[.int .i64 x, .int .i64 y, .slice A n cap], .int .i64 a1, .int .i64 a2, .int .i64 a3] w fun e w' => e = .returned (.bool true) ∧ Below w.heap.size w w' := by
  have H1 : Hid _ := fun w' => Sum_err x y A n cap w' er he h0
  have H2 : Hid _ := fun w' => Zones_err x y a1 A n cap w' er he h0
  have H3 : Hid _ := fun w' => Tiles_err x y a2 a3 A n cap w' er he h0
  have HE : Hid _ := he
  clear he
  rcases h0 with rfl | rfl
  all_goals
    go_enter Try.func4, Try.ntmps4
    go_wp2_with fail
    refine (tallies_any _).mono ?_
    rintro e w1 ⟨rfl, hb1⟩
    obtain ⟨hc1, hf1, hz1⟩ := bcell hb1
    simp only [World.size_alloc] at hc1 hf1 hz1
    have B1 : Hid (Below w.heap.size w w1) := show Below w.heap.size w w1 from step_le hb1 (by (repeat' (with_reducible first | exact Below.refl _ _ | refine past_le ?_ ?_ _ | refine Below.alloc ?_ ?_ _ | refine Below.drew ?_ | refine drewN_le ?_ _ | refine Below.setCell ?_ ?_ _ | refine step_le (by assumption) ?_ ?_ | omega | (simp only []; omega) | (simp only [World.size_alloc]; omega) | (simp only [World.size_setCell]; omega) | (simp only [World.size_drew]; omega) | (simp only [World.size_alloc, World.size_setCell]; omega) | (simp only [World.size_alloc, World.size_drew]; omega) | (simp only [World.size_setCell, World.size_drew]; omega) | (simp only [World.size_alloc, World.size_setCell, World.size_drew]; omega)))) (by simp only [World.size_alloc]; omega)
    clear hb1
    go_wp2_with fail
    refine (H1.out _).mono ?_
    rintro e w2 ⟨rfl, hb2⟩
    obtain ⟨hc2, hf2, hz2⟩ := bcell hb2
    have B2 : Hid (Below w.heap.size w w2) := show Below w.heap.size w w2 from step_le hb2 B1.out B1.out.size
    clear hb2 B1
    go_wp2_with fail
    refine (H2.out _).mono ?_
    rintro e w3 ⟨rfl, hb3⟩
    obtain ⟨hc3, hf3, hz3⟩ := bcell hb3
    have B3 : Hid (Below w.heap.size w w3) := show Below w.heap.size w w3 from step_le hb3 B2.out B2.out.size
    clear hb3 B2
    go_wp2_with fail
    refine (H3.out _).mono ?_
    rintro e w4 ⟨rfl, hb4⟩
    obtain ⟨hc4, hf4, hz4⟩ := bcell hb4
    have B4 : Hid (Below w.heap.size w w4) := show Below w.heap.size w w4 from step_le hb4 B3.out B3.out.size
    clear hb4 B3
    go_wp2_with fail
    refine (PlateCheck_any x y A n cap _).mono ?_
    rw [HE.out]
    rintro e w5 ⟨rfl, rfl⟩
    go_wp2_with fail
    go_ret
    exact ⟨by simp, B4.out.alloc B4.out.size _⟩
-- WALKS
set_option maxRecDepth 20000 in
set_option maxHeartbeats 4000000 in
theorem walk_zt (n : Nat) (a c : Nat) (W H cap b off : Nat) (pix : Nat → Int) (w : World) (hn : 1 ≤ n ∧ n ≤ 64) (ha : 1 ≤ a ∧ a ≤ 1024) (hc : 1 ≤ c ∧ c ≤ 1024) (hW : 1 ≤ W ∧ W ≤ 1024) (hH : 1 ≤ H ∧ H ≤ 1024) (hlt : b < w.heap.size)
    (hp : ∀ i, i < W * H → w.cell? ⟨b, off + i, none⟩ = some (.int .u8 (pix i))) (hpx : ∀ i, i < W * H → 0 ≤ pix i ∧ pix i ≤ 255) :
    Calls Try.prog 4 #[.agg #[.int .i64 W, .int .i64 H, .slice (some ⟨b, off, none⟩) (W * H) cap], .int .i64 n, .int .i64 a, .int .i64 c] w fun e w' => e = .returned (.bool true) ∧ Below w.heap.size w w' := by
  have h0 : gridE W H (W * H) = 0 := by rw [gridE, if_neg (by rw [inB_yes (by omega), inB_yes (by omega)]; simp), if_neg (by simp)]
  have hm : W * H ≤ 1048576 := Nat.mul_le_mul hW.2 hH.2
  have HP : Hid _ := hp
  have HX : Hid _ := hpx
  clear hp hpx
  have z1 : inB n 1 64 = true := inB_yes (by omega)
  have zmk := make_ints n (by omega)
  have t1 : inB a 1 1024 = true := inB_yes (by omega)
  have t2 : inB c 1 1024 = true := inB_yes (by omega)
  have d1 := tilesN_bd hW ha.1
  have d2 := tilesN_bd hH hc.1
  have d3 : tilesN W a * tilesN H c ≤ 1048576 := Nat.mul_le_mul d1.2 d2.2
  have tmk := make_ints (tilesN W a * tilesN H c) d3
  have TL : Hid _ := fun i (hi : i < W * H) => tileOf_lt hi hW.1 ha.1 hc.1
  have TT : Hid _ := Tiles_ok a c W H cap b off pix (ha := ha) (hc := hc) (hW := hW) (hH := hH) (hpx := HX.out)
  have TA : Hid (∀ i, tileOf W a c i = i / W / c * tilesN W a + i % W / a) := fun i => rfl
  have q1 : ((W : Int) + a - 1).tdiv a = ((tilesN W a : Nat) : Int) := by
    rw [show (W : Int) + a - 1 = ((W + a - 1 : Nat) : Int) by omega, Int.tdiv_eq_ediv_of_nonneg (by omega)]; rfl
  have q2 : ((H : Int) + c - 1).tdiv c = ((tilesN H c : Nat) : Int) := by
    rw [show (H : Int) + c - 1 = ((H + c - 1 : Nat) : Int) by omega, Int.tdiv_eq_ediv_of_nonneg (by omega)]; rfl
  have q3 : ((tilesN W a : Nat) : Int) * ((tilesN H c : Nat) : Int) = ((tilesN W a * tilesN H c : Nat) : Int) := by simp
  generalize tilesN W a * tilesN H c = N at *
  generalize tilesN W a = tw at *
  generalize tilesN H c = th at *
  have HM : Hid (∃ M, M = W * H) := ⟨_, rfl⟩
  go_enter Try.func4, Try.ntmps4
  go_wp2_with fail
  refine (tallies_any _).mono ?_
  rintro e w1 ⟨rfl, hb1⟩
  obtain ⟨hc1, hf1, hz1⟩ := bcell hb1
  simp only [World.size_alloc] at hc1 hf1 hz1
  have B1 : Hid (Below w.heap.size w w1) := show Below w.heap.size w w1 from step_le hb1 (by (repeat' (with_reducible first | exact Below.refl _ _ | refine past_le ?_ ?_ _ | refine Below.alloc ?_ ?_ _ | refine Below.drew ?_ | refine drewN_le ?_ _ | refine Below.setCell ?_ ?_ _ | refine step_le (by assumption) ?_ ?_ | omega | (simp only []; omega) | (simp only [World.size_alloc]; omega) | (simp only [World.size_setCell]; omega) | (simp only [World.size_drew]; omega) | (simp only [World.size_alloc, World.size_setCell]; omega) | (simp only [World.size_alloc, World.size_drew]; omega) | (simp only [World.size_setCell, World.size_drew]; omega) | (simp only [World.size_alloc, World.size_setCell, World.size_drew]; omega)))) (by simp only [World.size_alloc]; omega)
  have P1 : Hid (∀ i, i < W * H → w1.cell? ⟨b, off + i, none⟩ = some (.int .u8 (pix i))) := fun i hi => (B1.out.cell (p := ⟨b, _, none⟩) hlt).trans (HP.out i hi)
  clear hb1
  go_wp2_with fail
  refine (Sum_ok W H cap b off pix w1 hW hH (by omega) P1.out HX.out).mono ?_
  rintro e w2 ⟨rfl, hb2⟩
  obtain ⟨hc2, hf2, hz2⟩ := bcell hb2
  have B2 : Hid (Below w.heap.size w w2) := show Below w.heap.size w w2 from step_le hb2 B1.out B1.out.size
  have P2 : Hid (∀ i, i < W * H → w2.cell? ⟨b, off + i, none⟩ = some (.int .u8 (pix i))) := fun i hi => (B2.out.cell (p := ⟨b, _, none⟩) hlt).trans (HP.out i hi)
  clear hb2 B1 P1
  go_wp2_with fail
  refine (Zones_ok n W H cap b off pix w2 hn hW hH (by omega) P2.out HX.out).mono ?_
  rintro e w3 ⟨Az, rfl, hb3, hAz⟩
  have IZ3 : Hid _ := hAz
  clear hAz
  obtain ⟨hc3, hf3, hz3⟩ := bcell hb3
  have B3 : Hid (Below w.heap.size w w3) := show Below w.heap.size w w3 from step_le hb3 B2.out B2.out.size
  have P3 : Hid (∀ i, i < W * H → w3.cell? ⟨b, off + i, none⟩ = some (.int .u8 (pix i))) := fun i hi => (B3.out.cell (p := ⟨b, _, none⟩) hlt).trans (HP.out i hi)
  clear hb3 B2 P2
  go_wp2_with fail
  refine (TT.out w3 (by omega) P3.out).mono ?_
  rintro e w4 ⟨At, rfl, hb4, hAt⟩
  have IT4 : Hid _ := hAt
  clear hAt
  obtain ⟨hc4, hf4, hz4⟩ := bcell hb4
  have B4 : Hid (Below w.heap.size w w4) := show Below w.heap.size w w4 from step_le hb4 B3.out B3.out.size
  have P4 : Hid (∀ i, i < W * H → w4.cell? ⟨b, off + i, none⟩ = some (.int .u8 (pix i))) := fun i hi => (B4.out.cell (p := ⟨b, _, none⟩) hlt).trans (HP.out i hi)
  have G4 : Hid (∀ o, w4.cell? ⟨w.heap.size, o, none⟩ = #[.int .i64 W, .int .i64 H, .slice (some ⟨b, off, none⟩) (W * H) cap][o]?) := show ∀ o, w4.cell? ⟨w.heap.size, o, none⟩ = #[.int .i64 W, .int .i64 H, .slice (some ⟨b, off, none⟩) (W * H) cap][o]? from fun o => by
    rw [hc4, if_pos (by omega), hc3, if_pos (by omega), hc2, if_pos (by omega), hc1, if_pos (by omega), cell_alloc_if, if_pos rfl]
  have IZ4 : Hid (IntsAt w4 Az n (acc (zoneOf W n) pix (W * H))) := IntsAt.below IZ3.out hb4
  clear hb4 B3 P3
  go_wp2_with fail
  refine (PlateCheck_any W H (some ⟨b, off, none⟩) (W * H) cap _).mono ?_
  rw [h0]
  rintro e w5 ⟨rfl, rfl⟩
  go_wp2_with (first | (go_at_call 22; refine (In_any _ _ _ _).mono ?_; rintro e w' ⟨rfl, rfl⟩))
  obtain ⟨W5, hW5⟩ : ∃ W5, W5 = (((w4.alloc (.cells #[.int .i64 W, .int .i64 H, .slice (some ⟨b, off, none⟩) (W * H) cap] 39)).alloc (.cells (madeCells #[.int .i64 0] n) 3)).alloc (.cells (madeCells #[.int .i64 0] N) 3)) := ⟨_, rfl⟩
  rw [← hW5]
  have B5 : Hid (Below w4.heap.size w4 W5) := show Below w4.heap.size w4 W5 by rw [hW5]; (repeat' (with_reducible first | exact Below.refl _ _ | refine past_le ?_ ?_ _ | refine Below.alloc ?_ ?_ _ | refine Below.drew ?_ | refine drewN_le ?_ _ | refine Below.setCell ?_ ?_ _ | refine step_le (by assumption) ?_ ?_ | omega | (simp only []; omega) | (simp only [World.size_alloc]; omega) | (simp only [World.size_setCell]; omega) | (simp only [World.size_drew]; omega) | (simp only [World.size_alloc, World.size_setCell]; omega) | (simp only [World.size_alloc, World.size_drew]; omega) | (simp only [World.size_setCell, World.size_drew]; omega) | (simp only [World.size_alloc, World.size_setCell, World.size_drew]; omega)))
  have Z5 : Hid (Sums w4 W5 (w4.heap.size + 1) n (acc (zoneOf W n) pix 0)) := show Sums w4 W5 (w4.heap.size + 1) n (acc (zoneOf W n) pix 0) by
    refine ⟨B5.out, by rw [hW5]; simp, fun k hk => ?_, fun k => ?_⟩
    · rw [hW5]; simp only [cell_alloc_if, World.size_alloc]
      rw [if_neg (by omega), if_pos trivial]; exact made_get n k hk
    · rw [hW5]; simp [frozen_alloc_if]
  have T5 : Hid (Sums w4 W5 (w4.heap.size + 1 + 1) N (acc (tileOf W a c) pix 0)) := show Sums w4 W5 (w4.heap.size + 1 + 1) N (acc (tileOf W a c) pix 0) by
    refine ⟨B5.out, by rw [hW5]; simp, fun k hk => ?_, fun k => ?_⟩
    · rw [hW5]; simp only [cell_alloc_if, World.size_alloc]
      rw [if_pos trivial]; exact made_get N k hk
    · rw [hW5]; simp [frozen_alloc_if]
  clear hW5 hc1 hc2 hc3 hc4 hf1 hf2 hf3 hf4
  go_loopw [18, 129] (fun v18 v129 wr => ∃ k : Nat, k ≤ W * H ∧ v18 = .int .i64 (acc (fun _ => 0) pix k 0) ∧ v129 = .int .i64 k ∧ Below w4.heap.size w4 wr ∧ Sums w4 wr (w4.heap.size + 1) n (acc (zoneOf W n) pix k) ∧ Sums w4 wr (w4.heap.size + 1 + 1) N (acc (tileOf W a c) pix k)) (fun _ v _ => W * H - (intOf v).toNat)
  case atStart => exact ⟨0, Nat.zero_le _, rfl, rfl, B5.out, Z5.out, T5.out⟩
  case round =>
    obtain ⟨k, hk, rfl, rfl, hB, hZ, hT⟩ := hrel
    have hBH : Hid _ := hB
    have hzr := hB.size
    by_cases hlk : k < W * H
    · have hg : ∀ o, _ := fun o => (hB.cell (p := ⟨w.heap.size, o, none⟩) (by show w.heap.size < _; omega)).trans (G4.out o)
      have hpk := (hB.cell (p := ⟨b, off + k, none⟩) (by show b < _; omega)).trans (P4.out k hlk)
      have hbd := HX.out k hlk
      have hab := acc_bd (fun _ => 0) pix 0 k (fun i hi => HX.out i (by omega))
      have HN : Hid (acc (fun _ => 0) pix (k + 1) 0 = acc (fun _ => 0) pix k 0 + pix k) := acc_hit (fun _ => 0) pix k
      have e1 : (k : Int).tmod W = ((k % W : Nat) : Int) := by rw [Int.tmod_eq_emod_of_nonneg (Int.natCast_nonneg _)]; simp
      have e2 : (k : Int).tdiv W = ((k / W : Nat) : Int) := by rw [Int.tdiv_eq_ediv_of_nonneg (Int.natCast_nonneg _)]; simp
      have e3 := Nat.mod_lt k (show W > 0 by omega)
      have e4 := Nat.div_lt_of_lt_mul hlk
      have HZ : Hid _ := hZ
      have zs := hZ.size
      have zab := acc_bd (zoneOf W n) pix (k % W * n / W) k (fun i hi => HX.out i (by omega))
      have z2 : ((k % W : Nat) : Int) * n = ((k % W * n : Nat) : Int) := by simp
      have z3 : ((k % W * n : Nat) : Int).tdiv W = ((k % W * n / W : Nat) : Int) := by rw [Int.tdiv_eq_ediv_of_nonneg (Int.natCast_nonneg _)]; simp
      have z4 : k % W * n ≤ 65536 := Nat.mul_le_mul (show k % W ≤ 1024 by omega) hn.2
      have z5 : k % W * n / W < n := zoneOf_lt hW.1 hn.1
      have zst : ∀ w', Sums w4 w' (w4.heap.size + 1) n (acc (zoneOf W n) pix k) → Sums w4 (w'.setCell ⟨w4.heap.size + 1, k % W * n / W, none⟩ (.int .i64 (acc (zoneOf W n) pix k (k % W * n / W) + pix k))) (w4.heap.size + 1) n (acc (zoneOf W n) pix (k + 1)) := fun w' h => h.step (cls := zoneOf W n) (f := pix) (Nat.le_succ _)
      have ZS : Hid _ := zst
      have zck : Hid (∀ w', Sums w4 w' (w4.heap.size + 1) n (acc (zoneOf W n) pix k) → w'.cell? ⟨w4.heap.size + 1, k % W * n / W, none⟩ = some (.int .i64 (acc (zoneOf W n) pix k (k % W * n / W)))) := fun w' h => h.cells _ z5
      clear zst
      have HT : Hid _ := hT
      have ts := hT.size
      have tab := acc_bd (tileOf W a c) pix (k / W / c * tw + k % W / a) k (fun i hi => HX.out i (by omega))
      have u1 : ((k / W : Nat) : Int).tdiv c = ((k / W / c : Nat) : Int) := by rw [Int.tdiv_eq_ediv_of_nonneg (Int.natCast_nonneg _)]; simp
      have u2 : ((k % W : Nat) : Int).tdiv a = ((k % W / a : Nat) : Int) := by rw [Int.tdiv_eq_ediv_of_nonneg (Int.natCast_nonneg _)]; simp
      have u3 : ((k / W / c : Nat) : Int) * tw = ((k / W / c * tw : Nat) : Int) := by simp
      have u4 : k / W / c ≤ k / W := Nat.div_le_self _ _
      have u5 : k % W / a ≤ k % W := Nat.div_le_self _ _
      have u6 : k / W / c * tw ≤ 1048576 := Nat.mul_le_mul (show k / W / c ≤ 1024 by omega) d1.2
      have u7 : k / W / c * tw + k % W / a < N := by have := TL.out k hlk; rw [TA.out] at this; exact this
      have u8 : ((k / W / c * tw : Nat) : Int) + ((k % W / a : Nat) : Int) = ((k / W / c * tw + k % W / a : Nat) : Int) := by simp
      have tst : ∀ w', Sums w4 w' (w4.heap.size + 1 + 1) N (acc (tileOf W a c) pix k) → Sums w4 (w'.setCell ⟨w4.heap.size + 1 + 1, k / W / c * tw + k % W / a, none⟩ (.int .i64 (acc (tileOf W a c) pix k (k / W / c * tw + k % W / a) + pix k))) (w4.heap.size + 1 + 1) N (acc (tileOf W a c) pix (k + 1)) := fun w' h => by
        rw [← TA.out]; exact h.step (cls := tileOf W a c) (f := pix) (by omega)
      have TS : Hid _ := tst
      have tck : Hid (∀ w', Sums w4 w' (w4.heap.size + 1 + 1) N (acc (tileOf W a c) pix k) → w'.cell? ⟨w4.heap.size + 1 + 1, k / W / c * tw + k % W / a, none⟩ = some (.int .i64 (acc (tileOf W a c) pix k (k / W / c * tw + k % W / a)))) := fun w' h => h.cells _ u7
      clear tst
      clear hB hZ hT
      generalize acc (zoneOf W n) pix k (k % W * n / W) = sz at *
      generalize k % W * n / W = cz at *
      generalize k % W * n = xn at *
      generalize acc (tileOf W a c) pix k (k / W / c * tw + k % W / a) = st at *
      generalize k / W / c * tw + k % W / a = ct at *
      generalize k / W / c * tw = y1 at *
      generalize k / W / c = y0 at *
      generalize k % W / a = x0 at *
      generalize pix k = p at *
      generalize acc (fun _ => 0) pix k 0 = s0 at *
      generalize k / W = y at *
      generalize k % W = x at *
      go_wp2_with fail
      refine head 14 (by kernel_rfl) (by kernel_rfl) (by rfl) ?_
      apply Exists.intro
      have zc := zck.out _ HZ.out
      refine ⟨fun F' => ?_, fun w6 hb6 => ?_⟩
      · haveI := F'.ne
        simp only [List.take_succ_cons, List.take_zero]
        repeat (go_big_quiet_step (fail))
        exact wpQuiet_nil rfl
      have Z6 : Hid _ := HZ.out.later hb6
      have B6 : Hid (Below w4.heap.size w4 w6) := hBH.out.trans (hb6.mono hBH.out.size)
      have T6 : Hid _ := HT.out.later hb6
      have zc6 := zck.out _ Z6.out
      have zf6 := Z6.out.free cz
      have hz6 := hb6.size
      clear zc hg hpk hb6
      simp only [List.drop_succ_cons, List.drop_zero]
      go_wp2_with fail
      have Z7 : Hid _ := ZS.out _ Z6.out
      have B7 : Hid (Below w4.heap.size w4 (w6.setCell ⟨w4.heap.size + 1, cz, none⟩ (.int .i64 (sz + p)))) := B6.out.setCell (Nat.le_succ _) _
      have T7 : Hid _ := T6.out.other (b' := w4.heap.size + 1) (k' := cz) (v := .int .i64 (sz + p)) (by omega) (by omega)
      clear zc6 zf6
      have W8 : Hid (∃ w8, w8 = w8) := ⟨w, rfl⟩
      obtain ⟨w8, hw8⟩ : ∃ w8, w8 = w6.setCell ⟨w4.heap.size + 1, cz, none⟩ (.int .i64 (sz + p)) := ⟨_, rfl⟩
      rw [← hw8] at Z7 B7 T7 ⊢
      clear hw8 Z6 B6 T6
      have hz8 := B7.out.size
      have ts8 := T7.out.size
      have hg8 : ∀ o, _ := fun o => (B7.out.cell (p := ⟨w.heap.size, o, none⟩) (by show w.heap.size < _; omega)).trans (G4.out o)
      refine head 20 (by kernel_rfl) (by kernel_rfl) (by rfl) ?_
      apply Exists.intro
      have tc := tck.out _ T7.out
      refine ⟨fun F' => ?_, fun w9 hb9 => ?_⟩
      · haveI := F'.ne
        simp only [List.take_succ_cons, List.take_zero]
        repeat (go_big_quiet_step (fail))
        exact wpQuiet_nil rfl
      have T9 : Hid _ := (T7.out).later hb9
      have B9 : Hid (Below w4.heap.size w4 w9) := (B7.out).trans (hb9.mono (B7.out).size)
      have Z9 : Hid _ := (Z7.out).later hb9
      have tc9 := tck.out _ T9.out
      have tf9 := T9.out.free ct
      have hz9 := hb9.size
      clear tc hg8 hb9
      simp only [List.drop_succ_cons, List.drop_zero]
      go_wp2_with fail
      have T10 : Hid _ := TS.out _ T9.out
      have B10 : Hid (Below w4.heap.size w4 (w9.setCell ⟨w4.heap.size + 1 + 1, ct, none⟩ (.int .i64 (st + p)))) := B9.out.setCell (Nat.le_succ_of_le (Nat.le_succ _)) _
      have Z10 : Hid _ := Z9.out.other (b' := w4.heap.size + 1 + 1) (k' := ct) (v := .int .i64 (st + p)) (by omega) (by omega)
      clear tc9 tf9
      go_roundw
      case rel => exact ⟨k + 1, by omega, congrArg (Value.int .i64) HN.out.symm, by go_num, B10.out, Z10.out, T10.out⟩
      case measure => simp [intOf]; omega
    · obtain rfl : k = W * H := by omega
      have IZ : Hid (IntsAt wr (some ⟨w4.heap.size + 1, 0, none⟩) n (acc (zoneOf W n) pix (W * H))) := ints_of_cells0 hZ.cells
      clear hZ
      have IT : Hid (IntsAt wr (some ⟨w4.heap.size + 1 + 1, 0, none⟩) N (acc (tileOf W a c) pix (W * H))) := ints_of_cells0 hT.cells
      clear hT
      clear hB
      go_wp2_with fail
      refine (SameInts_any Az _ n n n n _ _ wr (by omega) (by omega) (IntsAt.below IZ4.out hBH.out) IZ.out).mono ?_
      rw [sameB_refl]
      rintro e w6 ⟨rfl, hb6⟩
      have B6 : Hid (Below w4.heap.size w4 w6) := hBH.out.trans (hb6.mono hBH.out.size)
      have IT6 : Hid _ := IntsAt.below IT.out hb6
      clear hb6
      go_wp2_with fail
      refine (SameInts_any At _ N N N N _ _ w6 (by omega) (by omega) (IntsAt.below IT4.out B6.out) IT6.out).mono ?_
      rw [sameB_refl]
      rintro e w7 ⟨rfl, hb7⟩
      have B7 : Hid (Below w4.heap.size w4 w7) := (B6.out).trans (hb7.mono (B6.out).size)
      clear hb7
      go_wp2_with fail
      go_ret
      exact ⟨by simp, B4.out.trans ((B7.out).mono B4.out.size)⟩
set_option maxRecDepth 20000 in
set_option maxHeartbeats 4000000 in
theorem walk_zf1 (n : Nat) (a2 a3 : Int) (W H cap b off : Nat) (pix : Nat → Int) (w : World) (hn : 1 ≤ n ∧ n ≤ 64) (ha : inB a2 1 1024 = false) (hW : 1 ≤ W ∧ W ≤ 1024) (hH : 1 ≤ H ∧ H ≤ 1024) (hlt : b < w.heap.size)
    (hp : ∀ i, i < W * H → w.cell? ⟨b, off + i, none⟩ = some (.int .u8 (pix i))) (hpx : ∀ i, i < W * H → 0 ≤ pix i ∧ pix i ≤ 255) :
    Calls Try.prog 4 #[.agg #[.int .i64 W, .int .i64 H, .slice (some ⟨b, off, none⟩) (W * H) cap], .int .i64 n, .int .i64 a2, .int .i64 a3] w fun e w' => e = .returned (.bool true) ∧ Below w.heap.size w w' := by
  have h0 : gridE W H (W * H) = 0 := by rw [gridE, if_neg (by rw [inB_yes (by omega), inB_yes (by omega)]; simp), if_neg (by simp)]
  have hm : W * H ≤ 1048576 := Nat.mul_le_mul hW.2 hH.2
  have HP : Hid _ := hp
  have HX : Hid _ := hpx
  clear hp hpx
  have z1 : inB n 1 64 = true := inB_yes (by omega)
  have zmk := make_ints n (by omega)
  have TO : Hid _ := fun w' => Tiles_out W H a2 a3 (some ⟨b, off, none⟩) (W * H) cap w' h0 (fun h => by rw [inB_yes h.1] at ha; cases ha)
  have HM : Hid (∃ M, M = W * H) := ⟨_, rfl⟩
  go_enter Try.func4, Try.ntmps4
  go_wp2_with fail
  refine (tallies_any _).mono ?_
  rintro e w1 ⟨rfl, hb1⟩
  obtain ⟨hc1, hf1, hz1⟩ := bcell hb1
  simp only [World.size_alloc] at hc1 hf1 hz1
  have B1 : Hid (Below w.heap.size w w1) := show Below w.heap.size w w1 from step_le hb1 (by (repeat' (with_reducible first | exact Below.refl _ _ | refine past_le ?_ ?_ _ | refine Below.alloc ?_ ?_ _ | refine Below.drew ?_ | refine drewN_le ?_ _ | refine Below.setCell ?_ ?_ _ | refine step_le (by assumption) ?_ ?_ | omega | (simp only []; omega) | (simp only [World.size_alloc]; omega) | (simp only [World.size_setCell]; omega) | (simp only [World.size_drew]; omega) | (simp only [World.size_alloc, World.size_setCell]; omega) | (simp only [World.size_alloc, World.size_drew]; omega) | (simp only [World.size_setCell, World.size_drew]; omega) | (simp only [World.size_alloc, World.size_setCell, World.size_drew]; omega)))) (by simp only [World.size_alloc]; omega)
  have P1 : Hid (∀ i, i < W * H → w1.cell? ⟨b, off + i, none⟩ = some (.int .u8 (pix i))) := fun i hi => (B1.out.cell (p := ⟨b, _, none⟩) hlt).trans (HP.out i hi)
  clear hb1
  go_wp2_with fail
  refine (Sum_ok W H cap b off pix w1 hW hH (by omega) P1.out HX.out).mono ?_
  rintro e w2 ⟨rfl, hb2⟩
  obtain ⟨hc2, hf2, hz2⟩ := bcell hb2
  have B2 : Hid (Below w.heap.size w w2) := show Below w.heap.size w w2 from step_le hb2 B1.out B1.out.size
  have P2 : Hid (∀ i, i < W * H → w2.cell? ⟨b, off + i, none⟩ = some (.int .u8 (pix i))) := fun i hi => (B2.out.cell (p := ⟨b, _, none⟩) hlt).trans (HP.out i hi)
  clear hb2 B1 P1
  go_wp2_with fail
  refine (Zones_ok n W H cap b off pix w2 hn hW hH (by omega) P2.out HX.out).mono ?_
  rintro e w3 ⟨Az, rfl, hb3, hAz⟩
  have IZ3 : Hid _ := hAz
  clear hAz
  obtain ⟨hc3, hf3, hz3⟩ := bcell hb3
  have B3 : Hid (Below w.heap.size w w3) := show Below w.heap.size w w3 from step_le hb3 B2.out B2.out.size
  have P3 : Hid (∀ i, i < W * H → w3.cell? ⟨b, off + i, none⟩ = some (.int .u8 (pix i))) := fun i hi => (B3.out.cell (p := ⟨b, _, none⟩) hlt).trans (HP.out i hi)
  clear hb3 B2 P2
  go_wp2_with fail
  refine (TO.out w3).mono ?_
  rintro e w4 ⟨rfl, hb4⟩
  obtain ⟨hc4, hf4, hz4⟩ := bcell hb4
  have B4 : Hid (Below w.heap.size w w4) := show Below w.heap.size w w4 from step_le hb4 B3.out B3.out.size
  have P4 : Hid (∀ i, i < W * H → w4.cell? ⟨b, off + i, none⟩ = some (.int .u8 (pix i))) := fun i hi => (B4.out.cell (p := ⟨b, _, none⟩) hlt).trans (HP.out i hi)
  have G4 : Hid (∀ o, w4.cell? ⟨w.heap.size, o, none⟩ = #[.int .i64 W, .int .i64 H, .slice (some ⟨b, off, none⟩) (W * H) cap][o]?) := show ∀ o, w4.cell? ⟨w.heap.size, o, none⟩ = #[.int .i64 W, .int .i64 H, .slice (some ⟨b, off, none⟩) (W * H) cap][o]? from fun o => by
    rw [hc4, if_pos (by omega), hc3, if_pos (by omega), hc2, if_pos (by omega), hc1, if_pos (by omega), cell_alloc_if, if_pos rfl]
  have IZ4 : Hid (IntsAt w4 Az n (acc (zoneOf W n) pix (W * H))) := IntsAt.below IZ3.out hb4
  clear hb4 B3 P3
  go_wp2_with fail
  refine (PlateCheck_any W H (some ⟨b, off, none⟩) (W * H) cap _).mono ?_
  rw [h0]
  rintro e w5 ⟨rfl, rfl⟩
  go_wp2_with (first | (go_at_call 22; refine (In_any _ _ _ _).mono ?_; rintro e w' ⟨rfl, rfl⟩))
  obtain ⟨W5, hW5⟩ : ∃ W5, W5 = ((w4.alloc (.cells #[.int .i64 W, .int .i64 H, .slice (some ⟨b, off, none⟩) (W * H) cap] 39)).alloc (.cells (madeCells #[.int .i64 0] n) 3)) := ⟨_, rfl⟩
  rw [← hW5]
  have B5 : Hid (Below w4.heap.size w4 W5) := show Below w4.heap.size w4 W5 by rw [hW5]; (repeat' (with_reducible first | exact Below.refl _ _ | refine past_le ?_ ?_ _ | refine Below.alloc ?_ ?_ _ | refine Below.drew ?_ | refine drewN_le ?_ _ | refine Below.setCell ?_ ?_ _ | refine step_le (by assumption) ?_ ?_ | omega | (simp only []; omega) | (simp only [World.size_alloc]; omega) | (simp only [World.size_setCell]; omega) | (simp only [World.size_drew]; omega) | (simp only [World.size_alloc, World.size_setCell]; omega) | (simp only [World.size_alloc, World.size_drew]; omega) | (simp only [World.size_setCell, World.size_drew]; omega) | (simp only [World.size_alloc, World.size_setCell, World.size_drew]; omega)))
  have Z5 : Hid (Sums w4 W5 (w4.heap.size + 1) n (acc (zoneOf W n) pix 0)) := show Sums w4 W5 (w4.heap.size + 1) n (acc (zoneOf W n) pix 0) by
    refine ⟨B5.out, by rw [hW5]; simp, fun k hk => ?_, fun k => ?_⟩
    · rw [hW5]; simp only [cell_alloc_if, World.size_alloc]
      rw [if_pos trivial]; exact made_get n k hk
    · rw [hW5]; simp [frozen_alloc_if]
  clear hW5 hc1 hc2 hc3 hc4 hf1 hf2 hf3 hf4
  go_loopw [18, 129] (fun v18 v129 wr => ∃ k : Nat, k ≤ W * H ∧ v18 = .int .i64 (acc (fun _ => 0) pix k 0) ∧ v129 = .int .i64 k ∧ Below w4.heap.size w4 wr ∧ Sums w4 wr (w4.heap.size + 1) n (acc (zoneOf W n) pix k)) (fun _ v _ => W * H - (intOf v).toNat)
  case atStart => exact ⟨0, Nat.zero_le _, rfl, rfl, B5.out, Z5.out⟩
  case round =>
    obtain ⟨k, hk, rfl, rfl, hB, hZ⟩ := hrel
    have hBH : Hid _ := hB
    have hzr := hB.size
    by_cases hlk : k < W * H
    · have hg : ∀ o, _ := fun o => (hB.cell (p := ⟨w.heap.size, o, none⟩) (by show w.heap.size < _; omega)).trans (G4.out o)
      have hpk := (hB.cell (p := ⟨b, off + k, none⟩) (by show b < _; omega)).trans (P4.out k hlk)
      have hbd := HX.out k hlk
      have hab := acc_bd (fun _ => 0) pix 0 k (fun i hi => HX.out i (by omega))
      have HN : Hid (acc (fun _ => 0) pix (k + 1) 0 = acc (fun _ => 0) pix k 0 + pix k) := acc_hit (fun _ => 0) pix k
      have e1 : (k : Int).tmod W = ((k % W : Nat) : Int) := by rw [Int.tmod_eq_emod_of_nonneg (Int.natCast_nonneg _)]; simp
      have e2 : (k : Int).tdiv W = ((k / W : Nat) : Int) := by rw [Int.tdiv_eq_ediv_of_nonneg (Int.natCast_nonneg _)]; simp
      have e3 := Nat.mod_lt k (show W > 0 by omega)
      have e4 := Nat.div_lt_of_lt_mul hlk
      have HZ : Hid _ := hZ
      have zs := hZ.size
      have zab := acc_bd (zoneOf W n) pix (k % W * n / W) k (fun i hi => HX.out i (by omega))
      have z2 : ((k % W : Nat) : Int) * n = ((k % W * n : Nat) : Int) := by simp
      have z3 : ((k % W * n : Nat) : Int).tdiv W = ((k % W * n / W : Nat) : Int) := by rw [Int.tdiv_eq_ediv_of_nonneg (Int.natCast_nonneg _)]; simp
      have z4 : k % W * n ≤ 65536 := Nat.mul_le_mul (show k % W ≤ 1024 by omega) hn.2
      have z5 : k % W * n / W < n := zoneOf_lt hW.1 hn.1
      have zst : ∀ w', Sums w4 w' (w4.heap.size + 1) n (acc (zoneOf W n) pix k) → Sums w4 (w'.setCell ⟨w4.heap.size + 1, k % W * n / W, none⟩ (.int .i64 (acc (zoneOf W n) pix k (k % W * n / W) + pix k))) (w4.heap.size + 1) n (acc (zoneOf W n) pix (k + 1)) := fun w' h => h.step (cls := zoneOf W n) (f := pix) (Nat.le_succ _)
      have ZS : Hid _ := zst
      have zck : Hid (∀ w', Sums w4 w' (w4.heap.size + 1) n (acc (zoneOf W n) pix k) → w'.cell? ⟨w4.heap.size + 1, k % W * n / W, none⟩ = some (.int .i64 (acc (zoneOf W n) pix k (k % W * n / W)))) := fun w' h => h.cells _ z5
      clear zst
      clear hB hZ
      generalize acc (zoneOf W n) pix k (k % W * n / W) = sz at *
      generalize k % W * n / W = cz at *
      generalize k % W * n = xn at *
      generalize pix k = p at *
      generalize acc (fun _ => 0) pix k 0 = s0 at *
      generalize k / W = y at *
      generalize k % W = x at *
      go_wp2_with fail
      refine head 14 (by kernel_rfl) (by kernel_rfl) (by rfl) ?_
      apply Exists.intro
      have zc := zck.out _ HZ.out
      refine ⟨fun F' => ?_, fun w6 hb6 => ?_⟩
      · haveI := F'.ne
        simp only [List.take_succ_cons, List.take_zero]
        repeat (go_big_quiet_step (fail))
        exact wpQuiet_nil rfl
      have Z6 : Hid _ := HZ.out.later hb6
      have B6 : Hid (Below w4.heap.size w4 w6) := hBH.out.trans (hb6.mono hBH.out.size)
      have zc6 := zck.out _ Z6.out
      have zf6 := Z6.out.free cz
      have hz6 := hb6.size
      clear zc hg hpk hb6
      simp only [List.drop_succ_cons, List.drop_zero]
      go_wp2_with fail
      have Z7 : Hid _ := ZS.out _ Z6.out
      have B7 : Hid (Below w4.heap.size w4 (w6.setCell ⟨w4.heap.size + 1, cz, none⟩ (.int .i64 (sz + p)))) := B6.out.setCell (Nat.le_succ _) _
      clear zc6 zf6
      go_roundw
      case rel => exact ⟨k + 1, by omega, congrArg (Value.int .i64) HN.out.symm, by go_num, B7.out, Z7.out⟩
      case measure => simp [intOf]; omega
    · obtain rfl : k = W * H := by omega
      have IZ : Hid (IntsAt wr (some ⟨w4.heap.size + 1, 0, none⟩) n (acc (zoneOf W n) pix (W * H))) := ints_of_cells0 hZ.cells
      clear hZ
      clear hB
      go_wp2_with fail
      refine (SameInts_any Az _ n n n n _ _ wr (by omega) (by omega) (IntsAt.below IZ4.out hBH.out) IZ.out).mono ?_
      rw [sameB_refl]
      rintro e w6 ⟨rfl, hb6⟩
      have B6 : Hid (Below w4.heap.size w4 w6) := hBH.out.trans (hb6.mono hBH.out.size)
      clear hb6
      go_wp2_with fail
      go_ret
      exact ⟨by simp, B4.out.trans ((B6.out).mono B4.out.size)⟩
set_option maxRecDepth 20000 in
set_option maxHeartbeats 4000000 in
theorem walk_zf2 (n : Nat) (a2 a3 : Int) (W H cap b off : Nat) (pix : Nat → Int) (w : World) (hn : 1 ≤ n ∧ n ≤ 64) (ha : inB a2 1 1024 = true) (hc : inB a3 1 1024 = false) (hW : 1 ≤ W ∧ W ≤ 1024) (hH : 1 ≤ H ∧ H ≤ 1024) (hlt : b < w.heap.size)
    (hp : ∀ i, i < W * H → w.cell? ⟨b, off + i, none⟩ = some (.int .u8 (pix i))) (hpx : ∀ i, i < W * H → 0 ≤ pix i ∧ pix i ≤ 255) :
    Calls Try.prog 4 #[.agg #[.int .i64 W, .int .i64 H, .slice (some ⟨b, off, none⟩) (W * H) cap], .int .i64 n, .int .i64 a2, .int .i64 a3] w fun e w' => e = .returned (.bool true) ∧ Below w.heap.size w w' := by
  have h0 : gridE W H (W * H) = 0 := by rw [gridE, if_neg (by rw [inB_yes (by omega), inB_yes (by omega)]; simp), if_neg (by simp)]
  have hm : W * H ≤ 1048576 := Nat.mul_le_mul hW.2 hH.2
  have HP : Hid _ := hp
  have HX : Hid _ := hpx
  clear hp hpx
  have z1 : inB n 1 64 = true := inB_yes (by omega)
  have zmk := make_ints n (by omega)
  have TO : Hid _ := fun w' => Tiles_out W H a2 a3 (some ⟨b, off, none⟩) (W * H) cap w' h0 (fun h => by rw [inB_yes h.2] at hc; cases hc)
  have HM : Hid (∃ M, M = W * H) := ⟨_, rfl⟩
  go_enter Try.func4, Try.ntmps4
  go_wp2_with fail
  refine (tallies_any _).mono ?_
  rintro e w1 ⟨rfl, hb1⟩
  obtain ⟨hc1, hf1, hz1⟩ := bcell hb1
  simp only [World.size_alloc] at hc1 hf1 hz1
  have B1 : Hid (Below w.heap.size w w1) := show Below w.heap.size w w1 from step_le hb1 (by (repeat' (with_reducible first | exact Below.refl _ _ | refine past_le ?_ ?_ _ | refine Below.alloc ?_ ?_ _ | refine Below.drew ?_ | refine drewN_le ?_ _ | refine Below.setCell ?_ ?_ _ | refine step_le (by assumption) ?_ ?_ | omega | (simp only []; omega) | (simp only [World.size_alloc]; omega) | (simp only [World.size_setCell]; omega) | (simp only [World.size_drew]; omega) | (simp only [World.size_alloc, World.size_setCell]; omega) | (simp only [World.size_alloc, World.size_drew]; omega) | (simp only [World.size_setCell, World.size_drew]; omega) | (simp only [World.size_alloc, World.size_setCell, World.size_drew]; omega)))) (by simp only [World.size_alloc]; omega)
  have P1 : Hid (∀ i, i < W * H → w1.cell? ⟨b, off + i, none⟩ = some (.int .u8 (pix i))) := fun i hi => (B1.out.cell (p := ⟨b, _, none⟩) hlt).trans (HP.out i hi)
  clear hb1
  go_wp2_with fail
  refine (Sum_ok W H cap b off pix w1 hW hH (by omega) P1.out HX.out).mono ?_
  rintro e w2 ⟨rfl, hb2⟩
  obtain ⟨hc2, hf2, hz2⟩ := bcell hb2
  have B2 : Hid (Below w.heap.size w w2) := show Below w.heap.size w w2 from step_le hb2 B1.out B1.out.size
  have P2 : Hid (∀ i, i < W * H → w2.cell? ⟨b, off + i, none⟩ = some (.int .u8 (pix i))) := fun i hi => (B2.out.cell (p := ⟨b, _, none⟩) hlt).trans (HP.out i hi)
  clear hb2 B1 P1
  go_wp2_with fail
  refine (Zones_ok n W H cap b off pix w2 hn hW hH (by omega) P2.out HX.out).mono ?_
  rintro e w3 ⟨Az, rfl, hb3, hAz⟩
  have IZ3 : Hid _ := hAz
  clear hAz
  obtain ⟨hc3, hf3, hz3⟩ := bcell hb3
  have B3 : Hid (Below w.heap.size w w3) := show Below w.heap.size w w3 from step_le hb3 B2.out B2.out.size
  have P3 : Hid (∀ i, i < W * H → w3.cell? ⟨b, off + i, none⟩ = some (.int .u8 (pix i))) := fun i hi => (B3.out.cell (p := ⟨b, _, none⟩) hlt).trans (HP.out i hi)
  clear hb3 B2 P2
  go_wp2_with fail
  refine (TO.out w3).mono ?_
  rintro e w4 ⟨rfl, hb4⟩
  obtain ⟨hc4, hf4, hz4⟩ := bcell hb4
  have B4 : Hid (Below w.heap.size w w4) := show Below w.heap.size w w4 from step_le hb4 B3.out B3.out.size
  have P4 : Hid (∀ i, i < W * H → w4.cell? ⟨b, off + i, none⟩ = some (.int .u8 (pix i))) := fun i hi => (B4.out.cell (p := ⟨b, _, none⟩) hlt).trans (HP.out i hi)
  have G4 : Hid (∀ o, w4.cell? ⟨w.heap.size, o, none⟩ = #[.int .i64 W, .int .i64 H, .slice (some ⟨b, off, none⟩) (W * H) cap][o]?) := show ∀ o, w4.cell? ⟨w.heap.size, o, none⟩ = #[.int .i64 W, .int .i64 H, .slice (some ⟨b, off, none⟩) (W * H) cap][o]? from fun o => by
    rw [hc4, if_pos (by omega), hc3, if_pos (by omega), hc2, if_pos (by omega), hc1, if_pos (by omega), cell_alloc_if, if_pos rfl]
  have IZ4 : Hid (IntsAt w4 Az n (acc (zoneOf W n) pix (W * H))) := IntsAt.below IZ3.out hb4
  clear hb4 B3 P3
  go_wp2_with fail
  refine (PlateCheck_any W H (some ⟨b, off, none⟩) (W * H) cap _).mono ?_
  rw [h0]
  rintro e w5 ⟨rfl, rfl⟩
  go_wp2_with (first | (go_at_call 22; refine (In_any _ _ _ _).mono ?_; rintro e w' ⟨rfl, rfl⟩))
  obtain ⟨W5, hW5⟩ : ∃ W5, W5 = ((w4.alloc (.cells #[.int .i64 W, .int .i64 H, .slice (some ⟨b, off, none⟩) (W * H) cap] 39)).alloc (.cells (madeCells #[.int .i64 0] n) 3)) := ⟨_, rfl⟩
  rw [← hW5]
  have B5 : Hid (Below w4.heap.size w4 W5) := show Below w4.heap.size w4 W5 by rw [hW5]; (repeat' (with_reducible first | exact Below.refl _ _ | refine past_le ?_ ?_ _ | refine Below.alloc ?_ ?_ _ | refine Below.drew ?_ | refine drewN_le ?_ _ | refine Below.setCell ?_ ?_ _ | refine step_le (by assumption) ?_ ?_ | omega | (simp only []; omega) | (simp only [World.size_alloc]; omega) | (simp only [World.size_setCell]; omega) | (simp only [World.size_drew]; omega) | (simp only [World.size_alloc, World.size_setCell]; omega) | (simp only [World.size_alloc, World.size_drew]; omega) | (simp only [World.size_setCell, World.size_drew]; omega) | (simp only [World.size_alloc, World.size_setCell, World.size_drew]; omega)))
  have Z5 : Hid (Sums w4 W5 (w4.heap.size + 1) n (acc (zoneOf W n) pix 0)) := show Sums w4 W5 (w4.heap.size + 1) n (acc (zoneOf W n) pix 0) by
    refine ⟨B5.out, by rw [hW5]; simp, fun k hk => ?_, fun k => ?_⟩
    · rw [hW5]; simp only [cell_alloc_if, World.size_alloc]
      rw [if_pos trivial]; exact made_get n k hk
    · rw [hW5]; simp [frozen_alloc_if]
  clear hW5 hc1 hc2 hc3 hc4 hf1 hf2 hf3 hf4
  go_loopw [18, 129] (fun v18 v129 wr => ∃ k : Nat, k ≤ W * H ∧ v18 = .int .i64 (acc (fun _ => 0) pix k 0) ∧ v129 = .int .i64 k ∧ Below w4.heap.size w4 wr ∧ Sums w4 wr (w4.heap.size + 1) n (acc (zoneOf W n) pix k)) (fun _ v _ => W * H - (intOf v).toNat)
  case atStart => exact ⟨0, Nat.zero_le _, rfl, rfl, B5.out, Z5.out⟩
  case round =>
    obtain ⟨k, hk, rfl, rfl, hB, hZ⟩ := hrel
    have hBH : Hid _ := hB
    have hzr := hB.size
    by_cases hlk : k < W * H
    · have hg : ∀ o, _ := fun o => (hB.cell (p := ⟨w.heap.size, o, none⟩) (by show w.heap.size < _; omega)).trans (G4.out o)
      have hpk := (hB.cell (p := ⟨b, off + k, none⟩) (by show b < _; omega)).trans (P4.out k hlk)
      have hbd := HX.out k hlk
      have hab := acc_bd (fun _ => 0) pix 0 k (fun i hi => HX.out i (by omega))
      have HN : Hid (acc (fun _ => 0) pix (k + 1) 0 = acc (fun _ => 0) pix k 0 + pix k) := acc_hit (fun _ => 0) pix k
      have e1 : (k : Int).tmod W = ((k % W : Nat) : Int) := by rw [Int.tmod_eq_emod_of_nonneg (Int.natCast_nonneg _)]; simp
      have e2 : (k : Int).tdiv W = ((k / W : Nat) : Int) := by rw [Int.tdiv_eq_ediv_of_nonneg (Int.natCast_nonneg _)]; simp
      have e3 := Nat.mod_lt k (show W > 0 by omega)
      have e4 := Nat.div_lt_of_lt_mul hlk
      have HZ : Hid _ := hZ
      have zs := hZ.size
      have zab := acc_bd (zoneOf W n) pix (k % W * n / W) k (fun i hi => HX.out i (by omega))
      have z2 : ((k % W : Nat) : Int) * n = ((k % W * n : Nat) : Int) := by simp
      have z3 : ((k % W * n : Nat) : Int).tdiv W = ((k % W * n / W : Nat) : Int) := by rw [Int.tdiv_eq_ediv_of_nonneg (Int.natCast_nonneg _)]; simp
      have z4 : k % W * n ≤ 65536 := Nat.mul_le_mul (show k % W ≤ 1024 by omega) hn.2
      have z5 : k % W * n / W < n := zoneOf_lt hW.1 hn.1
      have zst : ∀ w', Sums w4 w' (w4.heap.size + 1) n (acc (zoneOf W n) pix k) → Sums w4 (w'.setCell ⟨w4.heap.size + 1, k % W * n / W, none⟩ (.int .i64 (acc (zoneOf W n) pix k (k % W * n / W) + pix k))) (w4.heap.size + 1) n (acc (zoneOf W n) pix (k + 1)) := fun w' h => h.step (cls := zoneOf W n) (f := pix) (Nat.le_succ _)
      have ZS : Hid _ := zst
      have zck : Hid (∀ w', Sums w4 w' (w4.heap.size + 1) n (acc (zoneOf W n) pix k) → w'.cell? ⟨w4.heap.size + 1, k % W * n / W, none⟩ = some (.int .i64 (acc (zoneOf W n) pix k (k % W * n / W)))) := fun w' h => h.cells _ z5
      clear zst
      clear hB hZ
      generalize acc (zoneOf W n) pix k (k % W * n / W) = sz at *
      generalize k % W * n / W = cz at *
      generalize k % W * n = xn at *
      generalize pix k = p at *
      generalize acc (fun _ => 0) pix k 0 = s0 at *
      generalize k / W = y at *
      generalize k % W = x at *
      go_wp2_with fail
      refine head 14 (by kernel_rfl) (by kernel_rfl) (by rfl) ?_
      apply Exists.intro
      have zc := zck.out _ HZ.out
      refine ⟨fun F' => ?_, fun w6 hb6 => ?_⟩
      · haveI := F'.ne
        simp only [List.take_succ_cons, List.take_zero]
        repeat (go_big_quiet_step (fail))
        exact wpQuiet_nil rfl
      have Z6 : Hid _ := HZ.out.later hb6
      have B6 : Hid (Below w4.heap.size w4 w6) := hBH.out.trans (hb6.mono hBH.out.size)
      have zc6 := zck.out _ Z6.out
      have zf6 := Z6.out.free cz
      have hz6 := hb6.size
      clear zc hg hpk hb6
      simp only [List.drop_succ_cons, List.drop_zero]
      go_wp2_with fail
      have Z7 : Hid _ := ZS.out _ Z6.out
      have B7 : Hid (Below w4.heap.size w4 (w6.setCell ⟨w4.heap.size + 1, cz, none⟩ (.int .i64 (sz + p)))) := B6.out.setCell (Nat.le_succ _) _
      clear zc6 zf6
      go_roundw
      case rel => exact ⟨k + 1, by omega, congrArg (Value.int .i64) HN.out.symm, by go_num, B7.out, Z7.out⟩
      case measure => simp [intOf]; omega
    · obtain rfl : k = W * H := by omega
      have IZ : Hid (IntsAt wr (some ⟨w4.heap.size + 1, 0, none⟩) n (acc (zoneOf W n) pix (W * H))) := ints_of_cells0 hZ.cells
      clear hZ
      clear hB
      go_wp2_with fail
      refine (SameInts_any Az _ n n n n _ _ wr (by omega) (by omega) (IntsAt.below IZ4.out hBH.out) IZ.out).mono ?_
      rw [sameB_refl]
      rintro e w6 ⟨rfl, hb6⟩
      have B6 : Hid (Below w4.heap.size w4 w6) := hBH.out.trans (hb6.mono hBH.out.size)
      clear hb6
      go_wp2_with fail
      go_ret
      exact ⟨by simp, B4.out.trans ((B6.out).mono B4.out.size)⟩
set_option maxRecDepth 20000 in
set_option maxHeartbeats 4000000 in
theorem walk_nt (a1 : Int) (a c : Nat) (W H cap b off : Nat) (pix : Nat → Int) (w : World) (hn : a1 < 1 ∨ 64 < a1) (ha : 1 ≤ a ∧ a ≤ 1024) (hc : 1 ≤ c ∧ c ≤ 1024) (hW : 1 ≤ W ∧ W ≤ 1024) (hH : 1 ≤ H ∧ H ≤ 1024) (hlt : b < w.heap.size)
    (hp : ∀ i, i < W * H → w.cell? ⟨b, off + i, none⟩ = some (.int .u8 (pix i))) (hpx : ∀ i, i < W * H → 0 ≤ pix i ∧ pix i ≤ 255) :
    Calls Try.prog 4 #[.agg #[.int .i64 W, .int .i64 H, .slice (some ⟨b, off, none⟩) (W * H) cap], .int .i64 a1, .int .i64 a, .int .i64 c] w fun e w' => e = .returned (.bool true) ∧ Below w.heap.size w w' := by
  have h0 : gridE W H (W * H) = 0 := by rw [gridE, if_neg (by rw [inB_yes (by omega), inB_yes (by omega)]; simp), if_neg (by simp)]
  have hm : W * H ≤ 1048576 := Nat.mul_le_mul hW.2 hH.2
  have HP : Hid _ := hp
  have HX : Hid _ := hpx
  clear hp hpx
  have z1 : inB a1 1 64 = false := by cases h : inB a1 1 64 with | false => rfl | true => (have := inB_iff.1 h; omega)
  have ZO : Hid _ := fun w' => Zones_out W H a1 (some ⟨b, off, none⟩) (W * H) cap w' h0 hn
  have t1 : inB a 1 1024 = true := inB_yes (by omega)
  have t2 : inB c 1 1024 = true := inB_yes (by omega)
  have d1 := tilesN_bd hW ha.1
  have d2 := tilesN_bd hH hc.1
  have d3 : tilesN W a * tilesN H c ≤ 1048576 := Nat.mul_le_mul d1.2 d2.2
  have tmk := make_ints (tilesN W a * tilesN H c) d3
  have TL : Hid _ := fun i (hi : i < W * H) => tileOf_lt hi hW.1 ha.1 hc.1
  have TT : Hid _ := Tiles_ok a c W H cap b off pix (ha := ha) (hc := hc) (hW := hW) (hH := hH) (hpx := HX.out)
  have TA : Hid (∀ i, tileOf W a c i = i / W / c * tilesN W a + i % W / a) := fun i => rfl
  have q1 : ((W : Int) + a - 1).tdiv a = ((tilesN W a : Nat) : Int) := by
    rw [show (W : Int) + a - 1 = ((W + a - 1 : Nat) : Int) by omega, Int.tdiv_eq_ediv_of_nonneg (by omega)]; rfl
  have q2 : ((H : Int) + c - 1).tdiv c = ((tilesN H c : Nat) : Int) := by
    rw [show (H : Int) + c - 1 = ((H + c - 1 : Nat) : Int) by omega, Int.tdiv_eq_ediv_of_nonneg (by omega)]; rfl
  have q3 : ((tilesN W a : Nat) : Int) * ((tilesN H c : Nat) : Int) = ((tilesN W a * tilesN H c : Nat) : Int) := by simp
  generalize tilesN W a * tilesN H c = N at *
  generalize tilesN W a = tw at *
  generalize tilesN H c = th at *
  have HM : Hid (∃ M, M = W * H) := ⟨_, rfl⟩
  go_enter Try.func4, Try.ntmps4
  go_wp2_with fail
  refine (tallies_any _).mono ?_
  rintro e w1 ⟨rfl, hb1⟩
  obtain ⟨hc1, hf1, hz1⟩ := bcell hb1
  simp only [World.size_alloc] at hc1 hf1 hz1
  have B1 : Hid (Below w.heap.size w w1) := show Below w.heap.size w w1 from step_le hb1 (by (repeat' (with_reducible first | exact Below.refl _ _ | refine past_le ?_ ?_ _ | refine Below.alloc ?_ ?_ _ | refine Below.drew ?_ | refine drewN_le ?_ _ | refine Below.setCell ?_ ?_ _ | refine step_le (by assumption) ?_ ?_ | omega | (simp only []; omega) | (simp only [World.size_alloc]; omega) | (simp only [World.size_setCell]; omega) | (simp only [World.size_drew]; omega) | (simp only [World.size_alloc, World.size_setCell]; omega) | (simp only [World.size_alloc, World.size_drew]; omega) | (simp only [World.size_setCell, World.size_drew]; omega) | (simp only [World.size_alloc, World.size_setCell, World.size_drew]; omega)))) (by simp only [World.size_alloc]; omega)
  have P1 : Hid (∀ i, i < W * H → w1.cell? ⟨b, off + i, none⟩ = some (.int .u8 (pix i))) := fun i hi => (B1.out.cell (p := ⟨b, _, none⟩) hlt).trans (HP.out i hi)
  clear hb1
  go_wp2_with fail
  refine (Sum_ok W H cap b off pix w1 hW hH (by omega) P1.out HX.out).mono ?_
  rintro e w2 ⟨rfl, hb2⟩
  obtain ⟨hc2, hf2, hz2⟩ := bcell hb2
  have B2 : Hid (Below w.heap.size w w2) := show Below w.heap.size w w2 from step_le hb2 B1.out B1.out.size
  have P2 : Hid (∀ i, i < W * H → w2.cell? ⟨b, off + i, none⟩ = some (.int .u8 (pix i))) := fun i hi => (B2.out.cell (p := ⟨b, _, none⟩) hlt).trans (HP.out i hi)
  clear hb2 B1 P1
  go_wp2_with fail
  refine (ZO.out w2).mono ?_
  rintro e w3 ⟨rfl, hb3⟩
  obtain ⟨hc3, hf3, hz3⟩ := bcell hb3
  have B3 : Hid (Below w.heap.size w w3) := show Below w.heap.size w w3 from step_le hb3 B2.out B2.out.size
  have P3 : Hid (∀ i, i < W * H → w3.cell? ⟨b, off + i, none⟩ = some (.int .u8 (pix i))) := fun i hi => (B3.out.cell (p := ⟨b, _, none⟩) hlt).trans (HP.out i hi)
  clear hb3 B2 P2
  go_wp2_with fail
  refine (TT.out w3 (by omega) P3.out).mono ?_
  rintro e w4 ⟨At, rfl, hb4, hAt⟩
  have IT4 : Hid _ := hAt
  clear hAt
  obtain ⟨hc4, hf4, hz4⟩ := bcell hb4
  have B4 : Hid (Below w.heap.size w w4) := show Below w.heap.size w w4 from step_le hb4 B3.out B3.out.size
  have P4 : Hid (∀ i, i < W * H → w4.cell? ⟨b, off + i, none⟩ = some (.int .u8 (pix i))) := fun i hi => (B4.out.cell (p := ⟨b, _, none⟩) hlt).trans (HP.out i hi)
  have G4 : Hid (∀ o, w4.cell? ⟨w.heap.size, o, none⟩ = #[.int .i64 W, .int .i64 H, .slice (some ⟨b, off, none⟩) (W * H) cap][o]?) := show ∀ o, w4.cell? ⟨w.heap.size, o, none⟩ = #[.int .i64 W, .int .i64 H, .slice (some ⟨b, off, none⟩) (W * H) cap][o]? from fun o => by
    rw [hc4, if_pos (by omega), hc3, if_pos (by omega), hc2, if_pos (by omega), hc1, if_pos (by omega), cell_alloc_if, if_pos rfl]
  clear hb4 B3 P3
  go_wp2_with fail
  refine (PlateCheck_any W H (some ⟨b, off, none⟩) (W * H) cap _).mono ?_
  rw [h0]
  rintro e w5 ⟨rfl, rfl⟩
  go_wp2_with (first | (go_at_call 22; refine (In_any _ _ _ _).mono ?_; rintro e w' ⟨rfl, rfl⟩))
  obtain ⟨W5, hW5⟩ : ∃ W5, W5 = ((w4.alloc (.cells #[.int .i64 W, .int .i64 H, .slice (some ⟨b, off, none⟩) (W * H) cap] 39)).alloc (.cells (madeCells #[.int .i64 0] N) 3)) := ⟨_, rfl⟩
  rw [← hW5]
  have B5 : Hid (Below w4.heap.size w4 W5) := show Below w4.heap.size w4 W5 by rw [hW5]; (repeat' (with_reducible first | exact Below.refl _ _ | refine past_le ?_ ?_ _ | refine Below.alloc ?_ ?_ _ | refine Below.drew ?_ | refine drewN_le ?_ _ | refine Below.setCell ?_ ?_ _ | refine step_le (by assumption) ?_ ?_ | omega | (simp only []; omega) | (simp only [World.size_alloc]; omega) | (simp only [World.size_setCell]; omega) | (simp only [World.size_drew]; omega) | (simp only [World.size_alloc, World.size_setCell]; omega) | (simp only [World.size_alloc, World.size_drew]; omega) | (simp only [World.size_setCell, World.size_drew]; omega) | (simp only [World.size_alloc, World.size_setCell, World.size_drew]; omega)))
  have T5 : Hid (Sums w4 W5 (w4.heap.size + 1) N (acc (tileOf W a c) pix 0)) := show Sums w4 W5 (w4.heap.size + 1) N (acc (tileOf W a c) pix 0) by
    refine ⟨B5.out, by rw [hW5]; simp, fun k hk => ?_, fun k => ?_⟩
    · rw [hW5]; simp only [cell_alloc_if, World.size_alloc]
      rw [if_pos trivial]; exact made_get N k hk
    · rw [hW5]; simp [frozen_alloc_if]
  clear hW5 hc1 hc2 hc3 hc4 hf1 hf2 hf3 hf4
  go_loopw [18, 129] (fun v18 v129 wr => ∃ k : Nat, k ≤ W * H ∧ v18 = .int .i64 (acc (fun _ => 0) pix k 0) ∧ v129 = .int .i64 k ∧ Below w4.heap.size w4 wr ∧ Sums w4 wr (w4.heap.size + 1) N (acc (tileOf W a c) pix k)) (fun _ v _ => W * H - (intOf v).toNat)
  case atStart => exact ⟨0, Nat.zero_le _, rfl, rfl, B5.out, T5.out⟩
  case round =>
    obtain ⟨k, hk, rfl, rfl, hB, hT⟩ := hrel
    have hBH : Hid _ := hB
    have hzr := hB.size
    by_cases hlk : k < W * H
    · have hg : ∀ o, _ := fun o => (hB.cell (p := ⟨w.heap.size, o, none⟩) (by show w.heap.size < _; omega)).trans (G4.out o)
      have hpk := (hB.cell (p := ⟨b, off + k, none⟩) (by show b < _; omega)).trans (P4.out k hlk)
      have hbd := HX.out k hlk
      have hab := acc_bd (fun _ => 0) pix 0 k (fun i hi => HX.out i (by omega))
      have HN : Hid (acc (fun _ => 0) pix (k + 1) 0 = acc (fun _ => 0) pix k 0 + pix k) := acc_hit (fun _ => 0) pix k
      have e1 : (k : Int).tmod W = ((k % W : Nat) : Int) := by rw [Int.tmod_eq_emod_of_nonneg (Int.natCast_nonneg _)]; simp
      have e2 : (k : Int).tdiv W = ((k / W : Nat) : Int) := by rw [Int.tdiv_eq_ediv_of_nonneg (Int.natCast_nonneg _)]; simp
      have e3 := Nat.mod_lt k (show W > 0 by omega)
      have e4 := Nat.div_lt_of_lt_mul hlk
      have HT : Hid _ := hT
      have ts := hT.size
      have tab := acc_bd (tileOf W a c) pix (k / W / c * tw + k % W / a) k (fun i hi => HX.out i (by omega))
      have u1 : ((k / W : Nat) : Int).tdiv c = ((k / W / c : Nat) : Int) := by rw [Int.tdiv_eq_ediv_of_nonneg (Int.natCast_nonneg _)]; simp
      have u2 : ((k % W : Nat) : Int).tdiv a = ((k % W / a : Nat) : Int) := by rw [Int.tdiv_eq_ediv_of_nonneg (Int.natCast_nonneg _)]; simp
      have u3 : ((k / W / c : Nat) : Int) * tw = ((k / W / c * tw : Nat) : Int) := by simp
      have u4 : k / W / c ≤ k / W := Nat.div_le_self _ _
      have u5 : k % W / a ≤ k % W := Nat.div_le_self _ _
      have u6 : k / W / c * tw ≤ 1048576 := Nat.mul_le_mul (show k / W / c ≤ 1024 by omega) d1.2
      have u7 : k / W / c * tw + k % W / a < N := by have := TL.out k hlk; rw [TA.out] at this; exact this
      have u8 : ((k / W / c * tw : Nat) : Int) + ((k % W / a : Nat) : Int) = ((k / W / c * tw + k % W / a : Nat) : Int) := by simp
      have tst : ∀ w', Sums w4 w' (w4.heap.size + 1) N (acc (tileOf W a c) pix k) → Sums w4 (w'.setCell ⟨w4.heap.size + 1, k / W / c * tw + k % W / a, none⟩ (.int .i64 (acc (tileOf W a c) pix k (k / W / c * tw + k % W / a) + pix k))) (w4.heap.size + 1) N (acc (tileOf W a c) pix (k + 1)) := fun w' h => by
        rw [← TA.out]; exact h.step (cls := tileOf W a c) (f := pix) (by omega)
      have TS : Hid _ := tst
      have tck : Hid (∀ w', Sums w4 w' (w4.heap.size + 1) N (acc (tileOf W a c) pix k) → w'.cell? ⟨w4.heap.size + 1, k / W / c * tw + k % W / a, none⟩ = some (.int .i64 (acc (tileOf W a c) pix k (k / W / c * tw + k % W / a)))) := fun w' h => h.cells _ u7
      clear tst
      clear hB hT
      generalize acc (tileOf W a c) pix k (k / W / c * tw + k % W / a) = st at *
      generalize k / W / c * tw + k % W / a = ct at *
      generalize k / W / c * tw = y1 at *
      generalize k / W / c = y0 at *
      generalize k % W / a = x0 at *
      generalize pix k = p at *
      generalize acc (fun _ => 0) pix k 0 = s0 at *
      generalize k / W = y at *
      generalize k % W = x at *
      go_wp2_with fail
      have W8 : Hid (∃ w8, w8 = w8) := ⟨w, rfl⟩
      refine head 20 (by kernel_rfl) (by kernel_rfl) (by rfl) ?_
      apply Exists.intro
      have tc := tck.out _ HT.out
      refine ⟨fun F' => ?_, fun w9 hb9 => ?_⟩
      · haveI := F'.ne
        simp only [List.take_succ_cons, List.take_zero]
        repeat (go_big_quiet_step (fail))
        exact wpQuiet_nil rfl
      have T9 : Hid _ := (HT.out).later hb9
      have B9 : Hid (Below w4.heap.size w4 w9) := (hBH.out).trans (hb9.mono (hBH.out).size)
      have tc9 := tck.out _ T9.out
      have tf9 := T9.out.free ct
      have hz9 := hb9.size
      clear tc hg hpk hb9
      simp only [List.drop_succ_cons, List.drop_zero]
      go_wp2_with fail
      have T10 : Hid _ := TS.out _ T9.out
      have B10 : Hid (Below w4.heap.size w4 (w9.setCell ⟨w4.heap.size + 1, ct, none⟩ (.int .i64 (st + p)))) := B9.out.setCell (Nat.le_succ _) _
      clear tc9 tf9
      go_roundw
      case rel => exact ⟨k + 1, by omega, congrArg (Value.int .i64) HN.out.symm, by go_num, B10.out, T10.out⟩
      case measure => simp [intOf]; omega
    · obtain rfl : k = W * H := by omega
      have IT : Hid (IntsAt wr (some ⟨w4.heap.size + 1, 0, none⟩) N (acc (tileOf W a c) pix (W * H))) := ints_of_cells0 hT.cells
      clear hT
      clear hB
      go_wp2_with fail
      refine (SameInts_any At _ N N N N _ _ wr (by omega) (by omega) (IntsAt.below IT4.out hBH.out) IT.out).mono ?_
      rw [sameB_refl]
      rintro e w7 ⟨rfl, hb7⟩
      have B7 : Hid (Below w4.heap.size w4 w7) := (hBH.out).trans (hb7.mono (hBH.out).size)
      clear hb7
      go_wp2_with fail
      go_ret
      exact ⟨by simp, B4.out.trans ((B7.out).mono B4.out.size)⟩
set_option maxRecDepth 20000 in
set_option maxHeartbeats 4000000 in
theorem walk_nf1 (a1 : Int) (a2 a3 : Int) (W H cap b off : Nat) (pix : Nat → Int) (w : World) (hn : a1 < 1 ∨ 64 < a1) (ha : inB a2 1 1024 = false) (hW : 1 ≤ W ∧ W ≤ 1024) (hH : 1 ≤ H ∧ H ≤ 1024) (hlt : b < w.heap.size)
    (hp : ∀ i, i < W * H → w.cell? ⟨b, off + i, none⟩ = some (.int .u8 (pix i))) (hpx : ∀ i, i < W * H → 0 ≤ pix i ∧ pix i ≤ 255) :
    Calls Try.prog 4 #[.agg #[.int .i64 W, .int .i64 H, .slice (some ⟨b, off, none⟩) (W * H) cap], .int .i64 a1, .int .i64 a2, .int .i64 a3] w fun e w' => e = .returned (.bool true) ∧ Below w.heap.size w w' := by
  have h0 : gridE W H (W * H) = 0 := by rw [gridE, if_neg (by rw [inB_yes (by omega), inB_yes (by omega)]; simp), if_neg (by simp)]
  have hm : W * H ≤ 1048576 := Nat.mul_le_mul hW.2 hH.2
  have HP : Hid _ := hp
  have HX : Hid _ := hpx
  clear hp hpx
  have z1 : inB a1 1 64 = false := by cases h : inB a1 1 64 with | false => rfl | true => (have := inB_iff.1 h; omega)
  have ZO : Hid _ := fun w' => Zones_out W H a1 (some ⟨b, off, none⟩) (W * H) cap w' h0 hn
  have TO : Hid _ := fun w' => Tiles_out W H a2 a3 (some ⟨b, off, none⟩) (W * H) cap w' h0 (fun h => by rw [inB_yes h.1] at ha; cases ha)
  have HM : Hid (∃ M, M = W * H) := ⟨_, rfl⟩
  go_enter Try.func4, Try.ntmps4
  go_wp2_with fail
  refine (tallies_any _).mono ?_
  rintro e w1 ⟨rfl, hb1⟩
  obtain ⟨hc1, hf1, hz1⟩ := bcell hb1
  simp only [World.size_alloc] at hc1 hf1 hz1
  have B1 : Hid (Below w.heap.size w w1) := show Below w.heap.size w w1 from step_le hb1 (by (repeat' (with_reducible first | exact Below.refl _ _ | refine past_le ?_ ?_ _ | refine Below.alloc ?_ ?_ _ | refine Below.drew ?_ | refine drewN_le ?_ _ | refine Below.setCell ?_ ?_ _ | refine step_le (by assumption) ?_ ?_ | omega | (simp only []; omega) | (simp only [World.size_alloc]; omega) | (simp only [World.size_setCell]; omega) | (simp only [World.size_drew]; omega) | (simp only [World.size_alloc, World.size_setCell]; omega) | (simp only [World.size_alloc, World.size_drew]; omega) | (simp only [World.size_setCell, World.size_drew]; omega) | (simp only [World.size_alloc, World.size_setCell, World.size_drew]; omega)))) (by simp only [World.size_alloc]; omega)
  have P1 : Hid (∀ i, i < W * H → w1.cell? ⟨b, off + i, none⟩ = some (.int .u8 (pix i))) := fun i hi => (B1.out.cell (p := ⟨b, _, none⟩) hlt).trans (HP.out i hi)
  clear hb1
  go_wp2_with fail
  refine (Sum_ok W H cap b off pix w1 hW hH (by omega) P1.out HX.out).mono ?_
  rintro e w2 ⟨rfl, hb2⟩
  obtain ⟨hc2, hf2, hz2⟩ := bcell hb2
  have B2 : Hid (Below w.heap.size w w2) := show Below w.heap.size w w2 from step_le hb2 B1.out B1.out.size
  have P2 : Hid (∀ i, i < W * H → w2.cell? ⟨b, off + i, none⟩ = some (.int .u8 (pix i))) := fun i hi => (B2.out.cell (p := ⟨b, _, none⟩) hlt).trans (HP.out i hi)
  clear hb2 B1 P1
  go_wp2_with fail
  refine (ZO.out w2).mono ?_
  rintro e w3 ⟨rfl, hb3⟩
  obtain ⟨hc3, hf3, hz3⟩ := bcell hb3
  have B3 : Hid (Below w.heap.size w w3) := show Below w.heap.size w w3 from step_le hb3 B2.out B2.out.size
  have P3 : Hid (∀ i, i < W * H → w3.cell? ⟨b, off + i, none⟩ = some (.int .u8 (pix i))) := fun i hi => (B3.out.cell (p := ⟨b, _, none⟩) hlt).trans (HP.out i hi)
  clear hb3 B2 P2
  go_wp2_with fail
  refine (TO.out w3).mono ?_
  rintro e w4 ⟨rfl, hb4⟩
  obtain ⟨hc4, hf4, hz4⟩ := bcell hb4
  have B4 : Hid (Below w.heap.size w w4) := show Below w.heap.size w w4 from step_le hb4 B3.out B3.out.size
  have P4 : Hid (∀ i, i < W * H → w4.cell? ⟨b, off + i, none⟩ = some (.int .u8 (pix i))) := fun i hi => (B4.out.cell (p := ⟨b, _, none⟩) hlt).trans (HP.out i hi)
  have G4 : Hid (∀ o, w4.cell? ⟨w.heap.size, o, none⟩ = #[.int .i64 W, .int .i64 H, .slice (some ⟨b, off, none⟩) (W * H) cap][o]?) := show ∀ o, w4.cell? ⟨w.heap.size, o, none⟩ = #[.int .i64 W, .int .i64 H, .slice (some ⟨b, off, none⟩) (W * H) cap][o]? from fun o => by
    rw [hc4, if_pos (by omega), hc3, if_pos (by omega), hc2, if_pos (by omega), hc1, if_pos (by omega), cell_alloc_if, if_pos rfl]
  clear hb4 B3 P3
  go_wp2_with fail
  refine (PlateCheck_any W H (some ⟨b, off, none⟩) (W * H) cap _).mono ?_
  rw [h0]
  rintro e w5 ⟨rfl, rfl⟩
  go_wp2_with (first | (go_at_call 22; refine (In_any _ _ _ _).mono ?_; rintro e w' ⟨rfl, rfl⟩))
  obtain ⟨W5, hW5⟩ : ∃ W5, W5 = (w4.alloc (.cells #[.int .i64 W, .int .i64 H, .slice (some ⟨b, off, none⟩) (W * H) cap] 39)) := ⟨_, rfl⟩
  rw [← hW5]
  have B5 : Hid (Below w4.heap.size w4 W5) := show Below w4.heap.size w4 W5 by rw [hW5]; (repeat' (with_reducible first | exact Below.refl _ _ | refine past_le ?_ ?_ _ | refine Below.alloc ?_ ?_ _ | refine Below.drew ?_ | refine drewN_le ?_ _ | refine Below.setCell ?_ ?_ _ | refine step_le (by assumption) ?_ ?_ | omega | (simp only []; omega) | (simp only [World.size_alloc]; omega) | (simp only [World.size_setCell]; omega) | (simp only [World.size_drew]; omega) | (simp only [World.size_alloc, World.size_setCell]; omega) | (simp only [World.size_alloc, World.size_drew]; omega) | (simp only [World.size_setCell, World.size_drew]; omega) | (simp only [World.size_alloc, World.size_setCell, World.size_drew]; omega)))
  clear hW5 hc1 hc2 hc3 hc4 hf1 hf2 hf3 hf4
  go_loopw [18, 129] (fun v18 v129 wr => ∃ k : Nat, k ≤ W * H ∧ v18 = .int .i64 (acc (fun _ => 0) pix k 0) ∧ v129 = .int .i64 k ∧ Below w4.heap.size w4 wr) (fun _ v _ => W * H - (intOf v).toNat)
  case atStart => exact ⟨0, Nat.zero_le _, rfl, rfl, B5.out⟩
  case round =>
    obtain ⟨k, hk, rfl, rfl, hB⟩ := hrel
    have hBH : Hid _ := hB
    have hzr := hB.size
    by_cases hlk : k < W * H
    · have hg : ∀ o, _ := fun o => (hB.cell (p := ⟨w.heap.size, o, none⟩) (by show w.heap.size < _; omega)).trans (G4.out o)
      have hpk := (hB.cell (p := ⟨b, off + k, none⟩) (by show b < _; omega)).trans (P4.out k hlk)
      have hbd := HX.out k hlk
      have hab := acc_bd (fun _ => 0) pix 0 k (fun i hi => HX.out i (by omega))
      have HN : Hid (acc (fun _ => 0) pix (k + 1) 0 = acc (fun _ => 0) pix k 0 + pix k) := acc_hit (fun _ => 0) pix k
      have e1 : (k : Int).tmod W = ((k % W : Nat) : Int) := by rw [Int.tmod_eq_emod_of_nonneg (Int.natCast_nonneg _)]; simp
      have e2 : (k : Int).tdiv W = ((k / W : Nat) : Int) := by rw [Int.tdiv_eq_ediv_of_nonneg (Int.natCast_nonneg _)]; simp
      have e3 := Nat.mod_lt k (show W > 0 by omega)
      have e4 := Nat.div_lt_of_lt_mul hlk
      clear hB
      generalize pix k = p at *
      generalize acc (fun _ => 0) pix k 0 = s0 at *
      generalize k / W = y at *
      generalize k % W = x at *
      go_wp2_with fail
      go_roundw
      case rel => exact ⟨k + 1, by omega, congrArg (Value.int .i64) HN.out.symm, by go_num, hBH.out⟩
      case measure => simp [intOf]; omega
    · obtain rfl : k = W * H := by omega
      clear hB
      go_wp2_with fail
      go_ret
      exact ⟨by simp, B4.out.trans ((hBH.out).mono B4.out.size)⟩
set_option maxRecDepth 20000 in
set_option maxHeartbeats 4000000 in
theorem walk_nf2 (a1 : Int) (a2 a3 : Int) (W H cap b off : Nat) (pix : Nat → Int) (w : World) (hn : a1 < 1 ∨ 64 < a1) (ha : inB a2 1 1024 = true) (hc : inB a3 1 1024 = false) (hW : 1 ≤ W ∧ W ≤ 1024) (hH : 1 ≤ H ∧ H ≤ 1024) (hlt : b < w.heap.size)
    (hp : ∀ i, i < W * H → w.cell? ⟨b, off + i, none⟩ = some (.int .u8 (pix i))) (hpx : ∀ i, i < W * H → 0 ≤ pix i ∧ pix i ≤ 255) :
    Calls Try.prog 4 #[.agg #[.int .i64 W, .int .i64 H, .slice (some ⟨b, off, none⟩) (W * H) cap], .int .i64 a1, .int .i64 a2, .int .i64 a3] w fun e w' => e = .returned (.bool true) ∧ Below w.heap.size w w' := by
  have h0 : gridE W H (W * H) = 0 := by rw [gridE, if_neg (by rw [inB_yes (by omega), inB_yes (by omega)]; simp), if_neg (by simp)]
  have hm : W * H ≤ 1048576 := Nat.mul_le_mul hW.2 hH.2
  have HP : Hid _ := hp
  have HX : Hid _ := hpx
  clear hp hpx
  have z1 : inB a1 1 64 = false := by cases h : inB a1 1 64 with | false => rfl | true => (have := inB_iff.1 h; omega)
  have ZO : Hid _ := fun w' => Zones_out W H a1 (some ⟨b, off, none⟩) (W * H) cap w' h0 hn
  have TO : Hid _ := fun w' => Tiles_out W H a2 a3 (some ⟨b, off, none⟩) (W * H) cap w' h0 (fun h => by rw [inB_yes h.2] at hc; cases hc)
  have HM : Hid (∃ M, M = W * H) := ⟨_, rfl⟩
  go_enter Try.func4, Try.ntmps4
  go_wp2_with fail
  refine (tallies_any _).mono ?_
  rintro e w1 ⟨rfl, hb1⟩
  obtain ⟨hc1, hf1, hz1⟩ := bcell hb1
  simp only [World.size_alloc] at hc1 hf1 hz1
  have B1 : Hid (Below w.heap.size w w1) := show Below w.heap.size w w1 from step_le hb1 (by (repeat' (with_reducible first | exact Below.refl _ _ | refine past_le ?_ ?_ _ | refine Below.alloc ?_ ?_ _ | refine Below.drew ?_ | refine drewN_le ?_ _ | refine Below.setCell ?_ ?_ _ | refine step_le (by assumption) ?_ ?_ | omega | (simp only []; omega) | (simp only [World.size_alloc]; omega) | (simp only [World.size_setCell]; omega) | (simp only [World.size_drew]; omega) | (simp only [World.size_alloc, World.size_setCell]; omega) | (simp only [World.size_alloc, World.size_drew]; omega) | (simp only [World.size_setCell, World.size_drew]; omega) | (simp only [World.size_alloc, World.size_setCell, World.size_drew]; omega)))) (by simp only [World.size_alloc]; omega)
  have P1 : Hid (∀ i, i < W * H → w1.cell? ⟨b, off + i, none⟩ = some (.int .u8 (pix i))) := fun i hi => (B1.out.cell (p := ⟨b, _, none⟩) hlt).trans (HP.out i hi)
  clear hb1
  go_wp2_with fail
  refine (Sum_ok W H cap b off pix w1 hW hH (by omega) P1.out HX.out).mono ?_
  rintro e w2 ⟨rfl, hb2⟩
  obtain ⟨hc2, hf2, hz2⟩ := bcell hb2
  have B2 : Hid (Below w.heap.size w w2) := show Below w.heap.size w w2 from step_le hb2 B1.out B1.out.size
  have P2 : Hid (∀ i, i < W * H → w2.cell? ⟨b, off + i, none⟩ = some (.int .u8 (pix i))) := fun i hi => (B2.out.cell (p := ⟨b, _, none⟩) hlt).trans (HP.out i hi)
  clear hb2 B1 P1
  go_wp2_with fail
  refine (ZO.out w2).mono ?_
  rintro e w3 ⟨rfl, hb3⟩
  obtain ⟨hc3, hf3, hz3⟩ := bcell hb3
  have B3 : Hid (Below w.heap.size w w3) := show Below w.heap.size w w3 from step_le hb3 B2.out B2.out.size
  have P3 : Hid (∀ i, i < W * H → w3.cell? ⟨b, off + i, none⟩ = some (.int .u8 (pix i))) := fun i hi => (B3.out.cell (p := ⟨b, _, none⟩) hlt).trans (HP.out i hi)
  clear hb3 B2 P2
  go_wp2_with fail
  refine (TO.out w3).mono ?_
  rintro e w4 ⟨rfl, hb4⟩
  obtain ⟨hc4, hf4, hz4⟩ := bcell hb4
  have B4 : Hid (Below w.heap.size w w4) := show Below w.heap.size w w4 from step_le hb4 B3.out B3.out.size
  have P4 : Hid (∀ i, i < W * H → w4.cell? ⟨b, off + i, none⟩ = some (.int .u8 (pix i))) := fun i hi => (B4.out.cell (p := ⟨b, _, none⟩) hlt).trans (HP.out i hi)
  have G4 : Hid (∀ o, w4.cell? ⟨w.heap.size, o, none⟩ = #[.int .i64 W, .int .i64 H, .slice (some ⟨b, off, none⟩) (W * H) cap][o]?) := show ∀ o, w4.cell? ⟨w.heap.size, o, none⟩ = #[.int .i64 W, .int .i64 H, .slice (some ⟨b, off, none⟩) (W * H) cap][o]? from fun o => by
    rw [hc4, if_pos (by omega), hc3, if_pos (by omega), hc2, if_pos (by omega), hc1, if_pos (by omega), cell_alloc_if, if_pos rfl]
  clear hb4 B3 P3
  go_wp2_with fail
  refine (PlateCheck_any W H (some ⟨b, off, none⟩) (W * H) cap _).mono ?_
  rw [h0]
  rintro e w5 ⟨rfl, rfl⟩
  go_wp2_with (first | (go_at_call 22; refine (In_any _ _ _ _).mono ?_; rintro e w' ⟨rfl, rfl⟩))
  obtain ⟨W5, hW5⟩ : ∃ W5, W5 = (w4.alloc (.cells #[.int .i64 W, .int .i64 H, .slice (some ⟨b, off, none⟩) (W * H) cap] 39)) := ⟨_, rfl⟩
  rw [← hW5]
  have B5 : Hid (Below w4.heap.size w4 W5) := show Below w4.heap.size w4 W5 by rw [hW5]; (repeat' (with_reducible first | exact Below.refl _ _ | refine past_le ?_ ?_ _ | refine Below.alloc ?_ ?_ _ | refine Below.drew ?_ | refine drewN_le ?_ _ | refine Below.setCell ?_ ?_ _ | refine step_le (by assumption) ?_ ?_ | omega | (simp only []; omega) | (simp only [World.size_alloc]; omega) | (simp only [World.size_setCell]; omega) | (simp only [World.size_drew]; omega) | (simp only [World.size_alloc, World.size_setCell]; omega) | (simp only [World.size_alloc, World.size_drew]; omega) | (simp only [World.size_setCell, World.size_drew]; omega) | (simp only [World.size_alloc, World.size_setCell, World.size_drew]; omega)))
  clear hW5 hc1 hc2 hc3 hc4 hf1 hf2 hf3 hf4
  go_loopw [18, 129] (fun v18 v129 wr => ∃ k : Nat, k ≤ W * H ∧ v18 = .int .i64 (acc (fun _ => 0) pix k 0) ∧ v129 = .int .i64 k ∧ Below w4.heap.size w4 wr) (fun _ v _ => W * H - (intOf v).toNat)
  case atStart => exact ⟨0, Nat.zero_le _, rfl, rfl, B5.out⟩
  case round =>
    obtain ⟨k, hk, rfl, rfl, hB⟩ := hrel
    have hBH : Hid _ := hB
    have hzr := hB.size
    by_cases hlk : k < W * H
    · have hg : ∀ o, _ := fun o => (hB.cell (p := ⟨w.heap.size, o, none⟩) (by show w.heap.size < _; omega)).trans (G4.out o)
      have hpk := (hB.cell (p := ⟨b, off + k, none⟩) (by show b < _; omega)).trans (P4.out k hlk)
      have hbd := HX.out k hlk
      have hab := acc_bd (fun _ => 0) pix 0 k (fun i hi => HX.out i (by omega))
      have HN : Hid (acc (fun _ => 0) pix (k + 1) 0 = acc (fun _ => 0) pix k 0 + pix k) := acc_hit (fun _ => 0) pix k
      have e1 : (k : Int).tmod W = ((k % W : Nat) : Int) := by rw [Int.tmod_eq_emod_of_nonneg (Int.natCast_nonneg _)]; simp
      have e2 : (k : Int).tdiv W = ((k / W : Nat) : Int) := by rw [Int.tdiv_eq_ediv_of_nonneg (Int.natCast_nonneg _)]; simp
      have e3 := Nat.mod_lt k (show W > 0 by omega)
      have e4 := Nat.div_lt_of_lt_mul hlk
      clear hB
      generalize pix k = p at *
      generalize acc (fun _ => 0) pix k 0 = s0 at *
      generalize k / W = y at *
      generalize k % W = x at *
      go_wp2_with fail
      go_roundw
      case rel => exact ⟨k + 1, by omega, congrArg (Value.int .i64) HN.out.symm, by go_num, hBH.out⟩
      case measure => simp [intOf]; omega
    · obtain rfl : k = W * H := by omega
      clear hB
      go_wp2_with fail
      go_ret
      exact ⟨by simp, B4.out.trans ((hBH.out).mono B4.out.size)⟩
set_option linter.unusedVariables false in
theorem walk (a0x0 : Int) (a0x1 : Int) (A0x2 : Option Addr) (n0x2 : Nat) (q0x2 : Nat) (g0x2 : Nat → Nat → Value) (a1 : Int) (a2 : Int) (a3 : Int) (w : World) (w0x0 : (Lit.int .i64 a0x0).wf = true) (w0x1 : (Lit.int .i64 a0x1).wf = true) (c0x2 : n0x2 ≤ q0x2) (m0x2 : q0x2 ≤ maxLen) (s0x2 : SliceG Try.prog w 5 A0x2 n0x2 g0x2) (w1 : (Lit.int .i64 a1).wf = true) (w2 : (Lit.int .i64 a2).wf = true) (w3 : (Lit.int .i64 a3).wf = true) :
    Calls Try.prog 4 #[.agg #[.int .i64 a0x0, .int .i64 a0x1, .slice A0x2 n0x2 q0x2], .int .i64 a1, .int .i64 a2, .int .i64 a3] w fun e w' => e = .returned (.bool true) ∧ Below w.heap.size w w' := by
  obtain ⟨hA, hA2⟩ := bytes_of_slice s0x2
  rcases gridE_cases a0x0 a0x1 n0x2 with ⟨h0, hx, hy, hn⟩ | h
  · obtain ⟨W, rfl⟩ : ∃ W : Nat, a0x0 = W := ⟨a0x0.toNat, by omega⟩
    obtain ⟨H, rfl⟩ : ∃ H : Nat, a0x1 = H := ⟨a0x1.toNat, by omega⟩
    have hW : 1 ≤ W ∧ W ≤ 1024 := by omega
    have hH : 1 ≤ H ∧ H ≤ 1024 := by omega
    have hn' : n0x2 = W * H := by have := Int.natCast_mul W H; omega
    subst hn'
    obtain ⟨b, off, rfl, hlt, hp⟩ := hA (Nat.mul_le_mul hW.1 hH.1)
    by_cases z : 1 ≤ a1 ∧ a1 ≤ 64
    · obtain ⟨n, rfl⟩ : ∃ n : Nat, a1 = n := ⟨a1.toNat, by omega⟩
      cases h2 : inB a2 1 1024 with
      | false => exact walk_zf1 n a2 a3 W H q0x2 b off _ w (by omega) h2 hW hH hlt hp hA2
      | true =>
        cases h3 : inB a3 1 1024 with
        | false => exact walk_zf2 n a2 a3 W H q0x2 b off _ w (by omega) h2 h3 hW hH hlt hp hA2
        | true =>
          have h2' := inB_iff.1 h2
          have h3' := inB_iff.1 h3
          obtain ⟨a, rfl⟩ : ∃ n : Nat, a2 = n := ⟨a2.toNat, by omega⟩
          obtain ⟨c, rfl⟩ : ∃ n : Nat, a3 = n := ⟨a3.toNat, by omega⟩
          exact walk_zt n a c W H q0x2 b off _ w (by omega) (by omega) (by omega) hW hH hlt hp hA2
    · cases h2 : inB a2 1 1024 with
      | false => exact walk_nf1 a1 a2 a3 W H q0x2 b off _ w (by omega) h2 hW hH hlt hp hA2
      | true =>
        cases h3 : inB a3 1 1024 with
        | false => exact walk_nf2 a1 a2 a3 W H q0x2 b off _ w (by omega) h2 h3 hW hH hlt hp hA2
        | true =>
          have h2' := inB_iff.1 h2
          have h3' := inB_iff.1 h3
          obtain ⟨a, rfl⟩ : ∃ n : Nat, a2 = n := ⟨a2.toNat, by omega⟩
          obtain ⟨c, rfl⟩ : ∃ n : Nat, a3 = n := ⟨a3.toNat, by omega⟩
          exact walk_nt a1 a c W H q0x2 b off _ w (by omega) (by omega) (by omega) hW hH hlt hp hA2
  · exact walk_err a0x0 a0x1 a1 a2 a3 A0x2 n0x2 q0x2 w _ rfl h
end Go.Proofs.Ytoiblpncofbdpaa.tallySums
