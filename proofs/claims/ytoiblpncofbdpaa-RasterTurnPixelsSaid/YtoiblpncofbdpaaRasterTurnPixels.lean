/-
  The walk of the law RasterTurnPixels: Turn moves the pixel at (x, y) by quarter turns; Mirror exchanges columns.
-/
import Derived.Test.YtoiblpncofbdpaaKnown
import Derived.Test.YtoiblpncofbdpaaSmallW
import Derived.Test.YtoiblpncofbdpaaMirror
import Derived.Test.YtoiblpncofbdpaaTurnAll
import Derived.Test.YtoiblpncofbdpaaBytes
namespace Go.Proofs.Ytoiblpncofbdpaa.rasterTurnPixels
open Go.RowKit

set_option maxRecDepth 20000 in
set_option maxHeartbeats 4000000 in
theorem walk_any (a0 a1 : Int) (A : Option Addr) (n cap : Nat) (g : Nat → Int) (k : Int) (t : Nat) (c d : Nat) (w : World) (hA : BytesAt w A n g) (hc : 1 ≤ c ∧ c ≤ 8) (hd : 1 ≤ d ∧ d ≤ 8) (ht : (t : Int) = k % 4)
    (hsm : ∀ (A : Option Addr) (n cap : Nat) (g : Nat → Int) (w : World), BytesAt w A n g →
      Calls Try.prog 30 #[.int .i64 a0, .int .i64 a1, .slice A n cap] w fun e w' => ∃ (B : Option Addr) (q : Nat) (f : Nat → Int), e = .returned (.agg #[.int .i64 c, .int .i64 d, .slice B (c * d) q]) ∧ (c * d ≤ q ∧ q ≤ 9223372036854775807) ∧ BytesAt w' B (c * d) f ∧ (∀ i, i < c * d → 0 ≤ f i ∧ f i ≤ 255) ∧ Below w.heap.size w w') :
    Calls Try.prog 7 #[.int .i64 a0, .int .i64 a1, .slice A n cap, .int .i64 k] w fun e w' => e = .returned (.bool true) ∧ Below w.heap.size w w' := by
  have HA : Hid _ := hA
  have HS : Hid _ := hsm
  have HT : Hid _ := ht
  have ht3 : t < 4 := by omega
  clear hA hsm ht
  have hcd : 1 ≤ c * d := Nat.mul_le_mul hc.1 hd.1
  have hcd2 : c * d ≤ 64 := Nat.mul_le_mul hc.2 hd.2
  go_enter Try.func7, Try.ntmps7
  go_wp2_with fail
  refine (known_any _).mono ?_
  rintro e w1 ⟨rfl, hb1⟩
  go_wp2_with fail
  refine (HS.out A n cap g _ (BytesAt.below HA.out hb1)).mono ?_
  rintro e w2 ⟨B, q, f, rfl, hq, hB, hf, hb2⟩
  have b2 : Hid (Below w.heap.size w w2) := show Below w.heap.size w w2 from hb1.trans (hb2.mono hb1.size)
  have HF : Hid _ := hf
  obtain ⟨b, off, rfl, hbs, hpx⟩ := hB (by omega)
  have HP : Hid _ := hpx
  clear hb1 hb2 hB hf hpx
  go_wp2_with fail
  have P2 : Hid (∀ i, i < c * d → (w2.alloc (.cells #[.int .i64 c, .int .i64 d, .slice (some ⟨b, off, none⟩) (c * d) q] 56)).cell? ⟨b, off + i, none⟩ = some (.int .u8 (f i))) := fun i hi => by
    have hBw : Below w2.heap.size w2 (w2.alloc (.cells #[.int .i64 c, .int .i64 d, .slice (some ⟨b, off, none⟩) (c * d) q] 56)) := (Below.refl _ _).alloc (Nat.le_refl _) _
    exact (hBw.cell (p := ⟨b, _, none⟩) hbs).trans (HP.out i hi)
  refine (Turn_any k t HT.out c d q b off f _ ⟨hc.1, by omega⟩ ⟨hd.1, by omega⟩ (by simp only [World.size_alloc]; omega) P2.out HF.out).mono ?_
  rintro e w3 ⟨C, q3, f3, c3, d3, rfl, hq3, hb3, hC, hf3⟩
  obtain ⟨b', off', rfl, hbs', hpc⟩ := hC (by omega)
  have b3 : Hid (Below w2.heap.size w2 w3) := show Below w2.heap.size w2 w3 from step_le hb3 (by (repeat' (with_reducible first | exact Below.refl _ _ | refine past_le ?_ ?_ _ | refine Below.alloc ?_ ?_ _ | refine Below.drew ?_ | refine drewN_le ?_ _ | refine Below.setCell ?_ ?_ _ | refine step_le (by assumption) ?_ ?_ | omega | (simp only []; omega) | (simp only [World.size_alloc]; omega) | (simp only [World.size_setCell]; omega) | (simp only [World.size_drew]; omega) | (simp only [World.size_alloc, World.size_setCell]; omega) | (simp only [World.size_alloc, World.size_drew]; omega) | (simp only [World.size_setCell, World.size_drew]; omega) | (simp only [World.size_alloc, World.size_setCell, World.size_drew]; omega)))) (by simp only [World.size_alloc]; omega)
  obtain ⟨hc3, hfr3, hz3⟩ := bcell hb3
  simp only [World.size_alloc] at hc3 hfr3 hz3
  have hg3 : ∀ o, w3.cell? ⟨w2.heap.size, o, none⟩ = #[Value.int .i64 c, .int .i64 d, .slice (some ⟨b, off, none⟩) (c * d) q][o]? := fun o => by
    rw [hc3, if_pos (by omega)]; simp [go_sem]
  have HC : Hid _ := hpc
  have HF3 : Hid _ := hf3
  clear hb3 hC hpc hc3 hfr3 hf3 P2
  go_wp2_with fail
  have P3 : Hid (∀ i, i < c * d → (w3.alloc (.cells #[.int .i64 c3, .int .i64 d3, .slice (some ⟨b', off', none⟩) (c * d) q3] 56)).cell? ⟨b, off + i, none⟩ = some (.int .u8 (f i))) := fun i hi => by
    have hBw : Below w3.heap.size w3 (w3.alloc (.cells #[.int .i64 c3, .int .i64 d3, .slice (some ⟨b', off', none⟩) (c * d) q3] 56)) := (Below.refl _ _).alloc (Nat.le_refl _) _
    exact (hBw.cell (p := ⟨b, _, none⟩) (by show b < _; omega)).trans ((b3.out.cell (p := ⟨b, _, none⟩) hbs).trans (HP.out i hi))
  refine (Mirror_any c d q b off f _ ⟨hc.1, by omega⟩ ⟨hd.1, by omega⟩ (by simp only [World.size_alloc]; omega) P3.out HF.out).mono ?_
  rintro e w4 ⟨D, rfl, hb4, hD⟩
  obtain ⟨b'', off'', rfl, hbs'', hpd⟩ := hD (by omega)
  have b4 : Hid (Below w3.heap.size w3 w4) := show Below w3.heap.size w3 w4 from step_le hb4 (by (repeat' (with_reducible first | exact Below.refl _ _ | refine past_le ?_ ?_ _ | refine Below.alloc ?_ ?_ _ | refine Below.drew ?_ | refine drewN_le ?_ _ | refine Below.setCell ?_ ?_ _ | refine step_le (by assumption) ?_ ?_ | omega | (simp only []; omega) | (simp only [World.size_alloc]; omega) | (simp only [World.size_setCell]; omega) | (simp only [World.size_drew]; omega) | (simp only [World.size_alloc, World.size_setCell]; omega) | (simp only [World.size_alloc, World.size_drew]; omega) | (simp only [World.size_setCell, World.size_drew]; omega) | (simp only [World.size_alloc, World.size_setCell, World.size_drew]; omega)))) (by simp only [World.size_alloc]; omega)
  obtain ⟨hc4, hfr4, hz4⟩ := bcell hb4
  simp only [World.size_alloc] at hc4 hfr4 hz4
  have hg4 : ∀ o, w4.cell? ⟨w2.heap.size, o, none⟩ = #[Value.int .i64 c, .int .i64 d, .slice (some ⟨b, off, none⟩) (c * d) q][o]? := fun o => by
    rw [hc4, if_pos (by omega), cell_alloc_if, if_neg (by omega), hg3]
  have ht4 : ∀ o, w4.cell? ⟨w3.heap.size, o, none⟩ = #[Value.int .i64 c3, .int .i64 d3, .slice (some ⟨b', off', none⟩) (c * d) q3][o]? := fun o => by
    rw [hc4, if_pos (by omega)]; simp [go_sem]
  have HD : Hid _ := hpd
  clear hb4 hD hpd hc4 hfr4 hg3 P3
  go_wp2_with fail
  obtain ⟨W5, hW5⟩ : ∃ W5, W5 = w4.alloc (.cells #[.int .i64 c, .int .i64 d, .slice (some ⟨b'', off'', none⟩) (c * d) (c * d)] 56) := ⟨_, rfl⟩
  rw [← hW5]
  have B45 : Below w4.heap.size w4 W5 := by rw [hW5]; exact (Below.refl _ _).alloc (Nat.le_refl _) _
  have hs5 : w4.heap.size + 1 ≤ W5.heap.size := by rw [hW5]; simp
  have hg5 : Hid (∀ o, W5.cell? ⟨w2.heap.size, o, none⟩ = #[Value.int .i64 c, .int .i64 d, .slice (some ⟨b, off, none⟩) (c * d) q][o]?) := fun o => (B45.cell (p := ⟨w2.heap.size, o, none⟩) (by show w2.heap.size < _; omega)).trans (hg4 o)
  have ht5 : Hid (∀ o, W5.cell? ⟨w3.heap.size, o, none⟩ = #[Value.int .i64 c3, .int .i64 d3, .slice (some ⟨b', off', none⟩) (c * d) q3][o]?) := fun o => (B45.cell (p := ⟨w3.heap.size, o, none⟩) (by show w3.heap.size < _; omega)).trans (ht4 o)
  have hm5 : Hid (∀ o, W5.cell? ⟨w4.heap.size, o, none⟩ = #[Value.int .i64 c, .int .i64 d, .slice (some ⟨b'', off'', none⟩) (c * d) (c * d)][o]?) := fun o => by rw [hW5]; simp [go_sem]
  have HP5 : Hid (∀ i, i < c * d → W5.cell? ⟨b, off + i, none⟩ = some (.int .u8 (f i))) := fun i hi => (B45.cell (p := ⟨b, off + i, none⟩) (by show b < _; omega)).trans ((b4.out.cell (p := ⟨b, off + i, none⟩) (by show b < _; omega)).trans ((b3.out.cell (p := ⟨b, off + i, none⟩) hbs).trans (HP.out i hi)))
  have HC5 : Hid (∀ i, i < c * d → W5.cell? ⟨b', off' + i, none⟩ = some (.int .u8 (f3 i))) := fun i hi => (B45.cell (p := ⟨b', off' + i, none⟩) (by show b' < _; omega)).trans ((b4.out.cell (p := ⟨b', off' + i, none⟩) hbs').trans (HC.out i hi))
  have HD5 : Hid (∀ i, i < c * d → W5.cell? ⟨b'', off'' + i, none⟩ = some (.int .u8 (f (i / c * c + (c - 1 - i % c))))) := fun i hi => (B45.cell (p := ⟨b'', off'' + i, none⟩) hbs'').trans (HD.out i hi)
  have b5 : Hid (Below w.heap.size w W5) := show Below w.heap.size w W5 from ((b2.out.trans (b3.out.mono b2.out.size)).trans (b4.out.mono (Nat.le_trans b2.out.size b3.out.size))).trans (B45.mono (Nat.le_trans (Nat.le_trans b2.out.size b3.out.size) b4.out.size))
  clear hW5 B45 hg4 ht4 HP HC HD b2 b3 b4
  go_loopw [79] (fun v wr => ∃ j : Nat, j ≤ c * d ∧ v = .int .i64 j ∧ Below W5.heap.size W5 wr) (fun v _ => c * d - (intOf v).toNat)
  case atStart => exact ⟨0, Nat.zero_le _, rfl, Below.refl _ _⟩
  case round =>
    obtain ⟨j, hj, rfl, hB⟩ := hrel
    have hBH : Hid _ := hB
    have hzr := hB.size
    by_cases hlj : j < c * d
    · have hgr : ∀ o, _ := fun o => (hB.cell (p := ⟨w2.heap.size, o, none⟩) (by show w2.heap.size < _; omega)).trans (hg5.out o)
      have htr : ∀ o, _ := fun o => (hB.cell (p := ⟨w3.heap.size, o, none⟩) (by show w3.heap.size < _; omega)).trans (ht5.out o)
      have hmr : ∀ o, _ := fun o => (hB.cell (p := ⟨w4.heap.size, o, none⟩) (by show w4.heap.size < _; omega)).trans (hm5.out o)
      have hpj := (hB.cell (p := ⟨b, off + j, none⟩) (by show b < _; omega)).trans (HP5.out j hlj)
      obtain ⟨m1, m2, m3⟩ := mod_div hlj hc.1
      obtain ⟨k1, k2, k3⟩ := HF3.out j hlj
      have hin := rot_in t ⟨j % c, j / c, c, d⟩ m1 m2
      have hle := rot_le t ⟨j % c, j / c, c, d⟩ 8 hc.2 hd.2
      have har := rot_area t ⟨j % c, j / c, c, d⟩
      have hmj : W5.cell? ⟨b'', off'' + (j / c * c + (c - 1 - j % c)), none⟩ = some (.int .u8 (f j)) := by
        rw [HD5.out _ (idx_lt m2 (by omega))]
        obtain ⟨p1, p2⟩ := place (a := j / c) (show c - 1 - j % c < c by omega)
        rw [p1, p2, show c - 1 - (c - 1 - j % c) = j % c by omega, m3]
      have hmj' := (hB.cell (p := ⟨b'', off'' + (j / c * c + (c - 1 - j % c)), none⟩) (by show b'' < _; omega)).trans hmj
      have e1 : (j : Int).tmod c = ((j % c : Nat) : Int) := by rw [Int.tmod_eq_emod_of_nonneg (by omega)]; simp
      have e2 : (j : Int).tdiv c = ((j / c : Nat) : Int) := by rw [Int.tdiv_eq_ediv_of_nonneg (by omega)]; simp
      have i1 : j / c * c + (c - 1 - j % c) < c * d := idx_lt m2 (by omega)
      have K1 : Hid _ := k1
      have K2 : Hid _ := k2
      have K3 : Hid _ := k3
      have HI : Hid _ := hin
      have HL : Hid _ := hle
      have HR : Hid _ := har
      clear hB k1 k2 k3 hin hle har
      generalize j % c = x at *
      generalize j / c = y at *
      have e3 : (y : Int) * c = ((y * c : Nat) : Int) := by simp
      have e0 : (c : Int) * d = ((c * d : Nat) : Int) := by simp
      generalize y * c = yc at *
      generalize c * d = m at *
      have e4 : (yc : Int) + c - 1 - x = ((yc + (c - 1 - x) : Nat) : Int) := by omega
      generalize yc + (c - 1 - x) = kk at *
      have hb4 := tmod_bd k 4 (by omega)
      have e5 : (k.tmod 4 + 4).tmod 4 = (t : Int) := by
        rw [HT.out, ← tmod_emod k 4 (by omega), Int.tmod_eq_emod_of_nonneg (by omega)]
        omega
      go_wp2_with fail
      go_quiet (fail)
      have hdz : (wr.drewN nq).heap.size = wr.heap.size := rfl
      go_wp2_with fail
      go_loopw [16, 17, 18, 19, 20] (fun v16 v17 v18 v19 v20 wr => ∃ s x1 y1 c1 d1 : Nat, s ≤ t ∧ rot s ⟨x, y, c, d⟩ = ⟨x1, y1, c1, d1⟩ ∧ v16 = .int .i64 x1 ∧ v17 = .int .i64 y1 ∧ v18 = .int .i64 c1 ∧ v19 = .int .i64 d1 ∧ v20 = .int .i64 s ∧ Below W5.heap.size W5 wr) (fun _ _ _ _ v _ => t - (intOf v).toNat)
      case atStart => exact ⟨0, x, y, c, d, Nat.zero_le _, rfl, rfl, rfl, rfl, rfl, rfl, drewN_le hBH.out _⟩
      case round =>
        obtain ⟨s, x1, y1, c1, d1, hst, hS, rfl, rfl, rfl, rfl, rfl, hB1⟩ := hrel
        have HB1 : Hid _ := hB1
        have hzr1 := hB1.size
        have HSR : Hid _ := hS
        have hin1 := rot_in s ⟨x, y, c, d⟩ m1 m2
        have hle1 := rot_le s ⟨x, y, c, d⟩ 8 hc.2 hd.2
        rw [hS] at hin1 hle1
        simp only [] at hin1 hle1
        clear hS hgr htr hmr hpj hmj hmj' hB1 hdz
        by_cases hlt : s < t
        · go_wp2_with fail
          go_roundw
          case rel => exact ⟨s + 1, d1 - 1 - y1, x1, d1, c1, by omega, by rw [rot, HSR.out]; rfl, congrArg (Value.int .i64) (by omega), rfl, rfl, rfl, by go_num, HB1.out⟩
          case measure => simp [intOf]; omega
        · obtain rfl : s = t := by omega
          have k1 := K1.out
          have k2 := K2.out
          have k3 := K3.out
          have har := HR.out
          rw [HSR.out] at k1 k2 k3 har
          simp only [] at k1 k2 k3 har
          subst k1 k2
          have hlk : y1 * c1 + x1 < m := by rw [← har]; exact idx_lt hin1.2 hin1.1
          have htr : ∀ o, _ := fun o => (HB1.out.cell (p := ⟨w3.heap.size, o, none⟩) (by show w3.heap.size < _; omega)).trans (ht5.out o)
          have hp3 := (HB1.out.cell (p := ⟨b', off' + (y1 * c1 + x1), none⟩) (by show b' < _; omega)).trans (HC5.out _ hlk)
          rw [k3] at hp3
          have e7 : (y1 : Int) * c1 = ((y1 * c1 : Nat) : Int) := by simp
          clear har k3
          generalize y1 * c1 = yc1 at *
          go_wp2_with fail
          go_roundw
          case rel => exact ⟨j + 1, by omega, by go_num, HB1.out⟩
          case measure => simp [intOf]; omega
    · have : j = c * d := by omega
      subst this
      go_wp2_with fail
      go_ret
      exact ⟨rfl, b5.out.trans (hBH.out.mono b5.out.size)⟩
set_option linter.unusedVariables false in
theorem walk (a0 : Int) (a1 : Int) (A2 : Option Addr) (n2 : Nat) (q2 : Nat) (g2 : Nat → Nat → Value) (a3 : Int) (w : World) (w0 : (Lit.int .i64 a0).wf = true) (w1 : (Lit.int .i64 a1).wf = true) (c2 : n2 ≤ q2) (m2 : q2 ≤ maxLen) (s2 : SliceG Try.prog w 5 A2 n2 g2) (w3 : (Lit.int .i64 a3).wf = true) :
    Calls Try.prog 7 #[.int .i64 a0, .int .i64 a1, .slice A2 n2 q2, .int .i64 a3] w fun e w' => e = .returned (.bool true) ∧ Below w.heap.size w w' := by
  obtain ⟨c, d, hc, hd, hsm⟩ := small_any a0 a1
  exact walk_any a0 a1 A2 n2 q2 _ a3 (a3 % 4).toNat c d w (bytes_of_slice s2).1 hc hd (by omega) hsm
end Go.Proofs.Ytoiblpncofbdpaa.rasterTurnPixels
