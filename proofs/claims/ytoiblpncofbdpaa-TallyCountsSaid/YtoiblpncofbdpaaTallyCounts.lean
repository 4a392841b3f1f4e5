/-
  The walk of the law TallyCounts: Count counts the amounts, and Quantile is the least one that enough pixels do not exceed.
-/
import Derived.Test.YtoiblpncofbdpaaTallies
import Derived.Test.YtoiblpncofbdpaaCount
import Derived.Test.YtoiblpncofbdpaaBytes
namespace Go.Proofs.Ytoiblpncofbdpaa.tallyCounts
open Go.RowKit

set_option maxRecDepth 20000 in
set_option maxHeartbeats 2000000 in
theorem walk_err (x y k : Int) (A : Option Addr) (n cap : Nat) (w : World) (er : Int) (he : gridE x y n = er) (h0 : er = 3 ∨ er = 4) :
    Calls Try.prog 10 #[.agg #[.int .i64 x, .int .i64 y, .slice A n cap], .int .i64 k] w fun e w' => e = .returned (.bool true) ∧ Below w.heap.size w w' := by
  have H1 : Hid _ := fun w' => Count_err x y A n cap w' er he h0
  have H2 : Hid _ := fun w' => Quantile_err x y k A n cap w' er he h0
  have HE : Hid _ := he
  clear he
  rcases h0 with rfl | rfl
  all_goals
    go_enter Try.func10, Try.ntmps10
    go_wp2_with fail
    refine (tallies_any _).mono ?_
    rintro e w1 ⟨rfl, hb1⟩
    obtain ⟨hc1, hf1, hz1⟩ := bcell hb1
    simp only [World.size_alloc] at hc1 hf1 hz1
    have B1 : Hid (Below w.heap.size w w1) := show Below w.heap.size w w1 from step_le hb1 (by (repeat' (with_reducible first | exact Below.refl _ _ | refine past_le ?_ ?_ _ | refine Below.alloc ?_ ?_ _ | refine Below.drew ?_ | refine drewN_le ?_ _ | refine Below.setCell ?_ ?_ _ | refine step_le (by assumption) ?_ ?_ | omega | (simp only []; omega) | (simp only [World.size_alloc]; omega) | (simp only [World.size_setCell]; omega) | (simp only [World.size_drew]; omega) | (simp only [World.size_alloc, World.size_setCell]; omega) | (simp only [World.size_alloc, World.size_drew]; omega) | (simp only [World.size_setCell, World.size_drew]; omega) | (simp only [World.size_alloc, World.size_setCell, World.size_drew]; omega)))) (by simp only [World.size_alloc]; omega)
    clear hb1
    go_wp2_with fail
    refine (H1.out _).mono ?_
    rintro e w2 ⟨rfl, hb2⟩
    obtain ⟨hc2, hf2, hz2⟩ := bcell hb2
    have B2 : Hid (Below w.heap.size w w2) := show Below w.heap.size w w2 from step_le hb2 B1.out B1.out.size
    clear hb2 B1
    go_wp2_with fail
    refine (H2.out _).mono ?_
    rintro e w3 ⟨rfl, hb3⟩
    obtain ⟨hc3, hf3, hz3⟩ := bcell hb3
    have B3 : Hid (Below w.heap.size w w3) := show Below w.heap.size w w3 from step_le hb3 B2.out B2.out.size
    clear hb3 B2
    go_wp2_with fail
    refine (PlateCheck_any x y A n cap _).mono ?_
    rw [HE.out]
    rintro e w5 ⟨rfl, rfl⟩
    go_wp2_with fail
    go_ret
    exact ⟨by simp, B3.out.alloc B3.out.size _⟩
/-- The first amount whose sum reaches a bound, among the first j; -1 if there is none. -/
def leastV (c : Nat → Int) (k : Int) : Nat → Int
  | 0 => -1
  | j + 1 => if leastV c k j < 0 ∧ k ≤ csum c (j + 1) then j else leastV c k j
theorem leastV_at {c : Nat → Int} {k : Int} (hc : ∀ v, 0 ≤ c v) {q : Nat} (h1 : csum c q < k) (h2 : k ≤ csum c (q + 1)) : ∀ j, leastV c k j = if j ≤ q then -1 else (q : Int)
  | 0 => by simp [leastV]
  | j + 1 => by
    have ih := leastV_at hc h1 h2 j
    unfold leastV
    rw [ih]
    rcases Nat.lt_trichotomy j q with h | h | h
    · have hm := csum_mono hc (show j + 1 ≤ q by omega)
      rw [if_pos (by omega : j ≤ q), if_neg (by omega), if_pos (by omega)]
    · subst h
      rw [if_pos (Nat.le_refl _), if_pos ⟨by omega, h2⟩, if_neg (by omega)]
    · have hn : ¬ j ≤ q := by omega
      rw [if_neg hn, if_neg (fun h => by have := h.1; omega), if_neg (by omega)]
theorem zeros : Try.zeroCells77 = Array.replicate 256 (.int .i64 0) := by kernel_rfl
set_option maxRecDepth 20000 in
set_option maxHeartbeats 4000000 in
theorem walk_ok (k : Int) (W H M cap b off : Nat) (pix : Nat → Int) (w : World) (eq : Int) (heq : eq = 0 ∨ eq = 3) (hMM : M = W * H) (hW : 1 ≤ W ∧ W ≤ 1024) (hH : 1 ≤ H ∧ H ≤ 1024) (hlt : b < w.heap.size)
    (hp : ∀ i, i < M → w.cell? ⟨b, off + i, none⟩ = some (.int .u8 (pix i))) (hpx : ∀ i, i < M → 0 ≤ pix i ∧ pix i ≤ 255)
    (HC : Hid (∀ w', b < w'.heap.size → (∀ i, i < M → w'.cell? ⟨b, off + i, none⟩ = some (.int .u8 (pix i))) → Calls Try.prog 37 #[.agg #[.int .i64 W, .int .i64 H, .slice (some ⟨b, off, none⟩) M cap]] w' fun e w'' => ∃ A, e = .returned (.tuple #[.slice A 256 256, .int .i64 0]) ∧ Below w'.heap.size w' w'' ∧ IntsAt w'' A 256 (cnt pix M)))
    (HQ : Hid (∀ w', b < w'.heap.size → (∀ i, i < M → w'.cell? ⟨b, off + i, none⟩ = some (.int .u8 (pix i))) → Calls Try.prog 38 #[.agg #[.int .i64 W, .int .i64 H, .slice (some ⟨b, off, none⟩) M cap], .int .i64 k] w' fun e w'' => ∃ q : Nat, e = .returned (.tuple #[.int .u8 q, .int .i64 eq]) ∧ Below w'.heap.size w' w'' ∧
      ((eq = 0 ∧ inB k 1 M = true ∧ q ≤ 255 ∧ leastV (cnt pix M) k 256 = q) ∨ (eq = 3 ∧ inB k 1 M = false ∧ q = 0)))) :
    Calls Try.prog 10 #[.agg #[.int .i64 W, .int .i64 H, .slice (some ⟨b, off, none⟩) M cap], .int .i64 k] w fun e w' => e = .returned (.bool true) ∧ Below w.heap.size w w' := by
  have h0 : gridE W H M = 0 := by rw [hMM, gridE, if_neg (by rw [inB_yes (by omega), inB_yes (by omega)]; simp), if_neg (by simp)]
  have hm : M ≤ 1048576 := by rw [hMM]; exact Nat.mul_le_mul hW.2 hH.2
  have e0 : (W : Int) * (H : Int) = (M : Int) := by rw [hMM]; simp
  have HP : Hid _ := hp
  have HX : Hid _ := hpx
  have ht := csum_cnt pix M hpx
  have hcn := fun v => (cnt_bd pix M v).1
  have HU : Hid (∀ v, v ≤ 256 → 0 ≤ csum (cnt pix M) v ∧ csum (cnt pix M) v ≤ M) := fun v hv => ⟨csum_nonneg hcn v, by rw [← ht]; exact csum_mono hcn hv⟩
  clear hp hpx hMM ht hcn
  rcases heq with rfl | rfl
  all_goals
    go_enter Try.func10, Try.ntmps10
    go_wp2_with fail
    refine (tallies_any _).mono ?_
    rintro e w1 ⟨rfl, hb1⟩
    obtain ⟨hc1, hf1, hz1⟩ := bcell hb1
    simp only [World.size_alloc] at hc1 hf1 hz1
    have B1 : Hid (Below w.heap.size w w1) := show Below w.heap.size w w1 from step_le hb1 (by (repeat' (with_reducible first | exact Below.refl _ _ | refine past_le ?_ ?_ _ | refine Below.alloc ?_ ?_ _ | refine Below.drew ?_ | refine drewN_le ?_ _ | refine Below.setCell ?_ ?_ _ | refine step_le (by assumption) ?_ ?_ | omega | (simp only []; omega) | (simp only [World.size_alloc]; omega) | (simp only [World.size_setCell]; omega) | (simp only [World.size_drew]; omega) | (simp only [World.size_alloc, World.size_setCell]; omega) | (simp only [World.size_alloc, World.size_drew]; omega) | (simp only [World.size_setCell, World.size_drew]; omega) | (simp only [World.size_alloc, World.size_setCell, World.size_drew]; omega)))) (by simp only [World.size_alloc]; omega)
    have P1 : Hid (∀ i, i < M → w1.cell? ⟨b, off + i, none⟩ = some (.int .u8 (pix i))) := fun i hi => (B1.out.cell (p := ⟨b, _, none⟩) hlt).trans (HP.out i hi)
    clear hb1
    go_wp2_with fail
    refine (HC.out w1 (by omega) P1.out).mono ?_
    rintro e w2 ⟨A, rfl, hb2, hA⟩
    obtain ⟨hc2, hf2, hz2⟩ := bcell hb2
    have B2 : Hid (Below w.heap.size w w2) := show Below w.heap.size w w2 from step_le hb2 B1.out B1.out.size
    have P2 : Hid (∀ i, i < M → w2.cell? ⟨b, off + i, none⟩ = some (.int .u8 (pix i))) := fun i hi => (B2.out.cell (p := ⟨b, _, none⟩) hlt).trans (HP.out i hi)
    obtain ⟨bA, oA, rfl, hbA, hcA⟩ := hA (by omega)
    have I2 : Hid _ := hcA
    clear hb2 B1 P1 hA hcA
    go_wp2_with fail
    refine (HQ.out w2 (by omega) P2.out).mono ?_
    rintro e w3 ⟨q, rfl, hb3, hq⟩
    have hq' : Hid _ := hq
    obtain ⟨hc3, hf3, hz3⟩ := bcell hb3
    have B3 : Hid (Below w.heap.size w w3) := show Below w.heap.size w w3 from step_le hb3 B2.out B2.out.size
    have P3 : Hid (∀ i, i < M → w3.cell? ⟨b, off + i, none⟩ = some (.int .u8 (pix i))) := fun i hi => (B3.out.cell (p := ⟨b, _, none⟩) hlt).trans (HP.out i hi)
    have G3 : Hid (∀ o, w3.cell? ⟨w.heap.size, o, none⟩ = #[Value.int .i64 W, .int .i64 H, .slice (some ⟨b, off, none⟩) M cap][o]?) := show ∀ o, w3.cell? ⟨w.heap.size, o, none⟩ = #[Value.int .i64 W, .int .i64 H, .slice (some ⟨b, off, none⟩) M cap][o]? from fun o => by
      rw [hc3, if_pos (by omega), hc2, if_pos (by omega), hc1, if_pos (by omega), cell_alloc_if, if_pos rfl]
    have I3 : Hid (∀ i, i < 256 → w3.cell? ⟨bA, oA + i, none⟩ = some (.int .i64 (cnt pix M i))) := fun i hi => (hb3.cell (p := ⟨bA, _, none⟩) hbA).trans (I2.out i hi)
    clear hb3 B2 P2 I2 hq
    go_wp2_with fail
    refine (PlateCheck_any W H (some ⟨b, off, none⟩) M cap _).mono ?_
    rw [h0]
    rintro e w5 ⟨rfl, rfl⟩
    go_wp2_with fail
    obtain ⟨W5, hW5⟩ : ∃ W5, W5 = ((w3.alloc (.cells #[.int .i64 W, .int .i64 H, .slice (some ⟨b, off, none⟩) M cap] 39)).alloc (.cells Try.zeroCells77 77)) := ⟨_, rfl⟩
    rw [← hW5]
    have B5 : Hid (Below w3.heap.size w3 W5) := show Below w3.heap.size w3 W5 by rw [hW5]; (repeat' (with_reducible first | exact Below.refl _ _ | refine past_le ?_ ?_ _ | refine Below.alloc ?_ ?_ _ | refine Below.drew ?_ | refine drewN_le ?_ _ | refine Below.setCell ?_ ?_ _ | refine step_le (by assumption) ?_ ?_ | omega | (simp only []; omega) | (simp only [World.size_alloc]; omega) | (simp only [World.size_setCell]; omega) | (simp only [World.size_drew]; omega) | (simp only [World.size_alloc, World.size_setCell]; omega) | (simp only [World.size_alloc, World.size_drew]; omega) | (simp only [World.size_setCell, World.size_drew]; omega) | (simp only [World.size_alloc, World.size_setCell, World.size_drew]; omega)))
    have S5 : Hid (Sums w3 W5 (w3.heap.size + 1) 256 (cnt pix 0)) := show Sums w3 W5 (w3.heap.size + 1) 256 (cnt pix 0) by
      refine ⟨B5.out, by rw [hW5]; simp, fun k hk => ?_, fun k => ?_⟩
      · rw [hW5, cell_alloc_if, if_pos (by simp), zeros, Array.getElem?_replicate, if_pos hk]; rfl
      · rw [hW5]; simp [frozen_alloc_if]
    clear hW5 hc1 hc2 hc3 hf1 hf2 hf3
    go_loopw [60] (fun i wr => ∃ j : Nat, j ≤ M ∧ i = .int .i64 j ∧ Sums w3 wr (w3.heap.size + 1) 256 (cnt pix j)) (fun i _ => M - (intOf i).toNat)
    case atStart => exact ⟨0, Nat.zero_le _, rfl, S5.out⟩
    case round =>
      obtain ⟨j, hj, rfl, hS⟩ := hrel
      have HS : Hid _ := hS
      have hszr := hS.size
      by_cases hlt' : j < M
      · have hpk := (hS.below.cell (p := ⟨b, off + j, none⟩) (by show b < _; omega)).trans (P3.out j hlt')
        have hbd := HX.out j hlt'
        obtain ⟨p, hpe⟩ : ∃ p : Nat, pix j = p := ⟨(pix j).toNat, by omega⟩
        rw [hpe] at hpk hbd
        have hck := hS.cells p (by omega)
        have hfk := hS.free p
        have hab := cnt_bd pix j p
        have hst : ∀ w', Sums w3 w' (w3.heap.size + 1) 256 (cnt pix j) → Sums w3 (w'.setCell ⟨w3.heap.size + 1, p, none⟩ (.int .i64 (cnt pix j p + 1))) (w3.heap.size + 1) 256 (cnt pix (j + 1)) := fun w' h => by
          have := h.step (cls := fun i => (pix i).toNat) (f := fun _ => 1) (m := j) (Nat.le_succ _)
          rw [hpe] at this
          exact this
        have HT : Hid _ := hst _ hS
        clear hst hS hpe
        generalize cnt pix j p = s at *
        go_wp2_with fail
        go_roundw
        case rel => exact ⟨j + 1, by omega, by go_num, HT.out⟩
        case measure => simp [intOf]; omega
      · obtain rfl : j = M := by omega
        clear hS
        go_wp2_with fail
        go_loopw [13, 14, 70] (fun v13 v14 v70 wq => ∃ v : Nat, v ≤ 256 ∧ v13 = .int .i64 (csum (cnt pix j) v) ∧ v14 = .int .i64 (leastV (cnt pix j) k v) ∧ v70 = .int .i64 v ∧ Below wr.heap.size wr wq) (fun _ _ v _ => 256 - (intOf v).toNat)
        case atStart => exact ⟨0, by omega, rfl, rfl, rfl, Below.refl _ _⟩
        case round =>
          obtain ⟨v, hv, rfl, rfl, rfl, hB⟩ := hrel
          have hBH : Hid _ := hB
          have hzq := hB.size
          by_cases hlv : v < 256
          · have k1 := (hB.cell (p := ⟨bA, oA + v, none⟩) (by show bA < _; omega)).trans ((HS.out.below.cell (p := ⟨bA, oA + v, none⟩) (by show bA < _; omega)).trans (I3.out v hlv))
            have k2 := (hB.cell (p := ⟨w3.heap.size + 1, v, none⟩) (by show w3.heap.size + 1 < _; omega)).trans (HS.out.cells v hlv)
            have u1 := HU.out v (by omega)
            have u2 := cnt_bd pix j v
            have E1 : Hid (csum (cnt pix j) (v + 1) = csum (cnt pix j) v + cnt pix j v) := rfl
            have E2 : Hid (leastV (cnt pix j) k (v + 1) = if leastV (cnt pix j) k v < 0 ∧ k ≤ csum (cnt pix j) v + cnt pix j v then (v : Int) else leastV (cnt pix j) k v) := rfl
            clear hB
            generalize csum (cnt pix j) v = s at *
            generalize cnt pix j v = cv at *
            generalize leastV (cnt pix j) k v = L at *
            by_cases hL : L < 0
            · by_cases hk : k ≤ s + cv
              all_goals
                go_wp2_with fail
                go_quiet (fail)
                go_wp2_with fail
                go_roundw
                case rel => exact ⟨v + 1, by omega, by rw [E1.out], by rw [E2.out]; first | rw [if_pos (by omega)] | rw [if_neg (by omega)], by go_num, drewN_le hBH.out _⟩
                case measure => simp [intOf]; omega
            · have hd : decide (L < 0) = false := by simpa using hL
              go_wp2_with fail
              go_quiet (fail)
              go_wp2_with fail
              go_roundw
              case rel => exact ⟨v + 1, by omega, by rw [E1.out], by rw [E2.out, if_neg (by omega)], by go_num, drewN_le hBH.out _⟩
              case measure => simp [intOf]; omega
          · obtain rfl : v = 256 := by omega
            have hg : ∀ o, _ := fun o => (hB.cell (p := ⟨w.heap.size, o, none⟩) (by show w.heap.size < _; omega)).trans ((HS.out.below.cell (p := ⟨w.heap.size, o, none⟩) (by show w.heap.size < _; omega)).trans (G3.out o))
            have FB : Hid (Below w.heap.size w wr) := show Below w.heap.size w wr from B3.out.trans ((HS.out.below.trans (hB.mono (by omega))).mono B3.out.size)
            clear hB
            rcases hq'.out with ⟨he, hin, hq255, hle⟩ | ⟨he, hin, hq0⟩
            all_goals
              first
              | (exfalso; omega)
              | (clear he
                 first | rw [hle] | (generalize leastV (cnt pix j) k 256 = L; subst hq0)
                 go_wp2_with (first | (go_at_call 22; refine (In_any _ _ _ _).mono ?_; rintro e w' ⟨rfl, rfl⟩))
                 go_ret
                 exact ⟨by simp, FB.out⟩)
set_option linter.unusedVariables false in
theorem walk (a0x0 : Int) (a0x1 : Int) (A0x2 : Option Addr) (n0x2 : Nat) (q0x2 : Nat) (g0x2 : Nat → Nat → Value) (a1 : Int) (w : World) (w0x0 : (Lit.int .i64 a0x0).wf = true) (w0x1 : (Lit.int .i64 a0x1).wf = true) (c0x2 : n0x2 ≤ q0x2) (m0x2 : q0x2 ≤ maxLen) (s0x2 : SliceG Try.prog w 5 A0x2 n0x2 g0x2) (w1 : (Lit.int .i64 a1).wf = true) :
    Calls Try.prog 10 #[.agg #[.int .i64 a0x0, .int .i64 a0x1, .slice A0x2 n0x2 q0x2], .int .i64 a1] w fun e w' => e = .returned (.bool true) ∧ Below w.heap.size w w' := by
  obtain ⟨hA, hA2⟩ := bytes_of_slice s0x2
  rcases gridE_cases a0x0 a0x1 n0x2 with ⟨h0, hx, hy, hn⟩ | h
  · obtain ⟨W, rfl⟩ : ∃ W : Nat, a0x0 = W := ⟨a0x0.toNat, by omega⟩
    obtain ⟨H, rfl⟩ : ∃ H : Nat, a0x1 = H := ⟨a0x1.toNat, by omega⟩
    have hW : 1 ≤ W ∧ W ≤ 1024 := by omega
    have hH : 1 ≤ H ∧ H ≤ 1024 := by omega
    have hn' : n0x2 = W * H := by have := Int.natCast_mul W H; omega
    subst hn'
    obtain ⟨b, off, rfl, hlt, hp⟩ := hA (Nat.mul_le_mul hW.1 hH.1)
    have HC : Hid _ := fun w' h1 h2 => Count_ok W H q0x2 b off _ w' hW hH h1 h2 hA2
    by_cases hk : 1 ≤ a1 ∧ a1 ≤ ((W * H : Nat) : Int)
    · refine walk_ok a1 W H (W * H) q0x2 b off _ w 0 (.inl rfl) rfl hW hH hlt hp hA2 HC (fun w' h1 h2 => (Quantile_ok a1 W H q0x2 b off _ w' hk hW hH h1 h2 hA2).mono ?_)
      rintro e w'' ⟨q, he, hb, hq, hlo, hhi⟩
      exact ⟨q, he, hb, .inl ⟨rfl, inB_yes hk, hq, by rw [leastV_at (fun v => (cnt_bd _ _ v).1) hlo hhi, if_neg (by omega)]⟩⟩
    · refine walk_ok a1 W H (W * H) q0x2 b off _ w 3 (.inr rfl) rfl hW hH hlt hp hA2 HC (fun w' h1 h2 => (Quantile_out a1 W H q0x2 b off _ w' (by omega) hW hH h1 h2 hA2).mono ?_)
      rintro e w'' ⟨he, hb⟩
      exact ⟨0, he, hb, .inr ⟨rfl, by cases h : inB a1 1 ((W * H : Nat) : Int) with | false => rfl | true => exact absurd (inB_iff.1 h) hk, rfl⟩⟩
  · exact walk_err a0x0 a0x1 a1 A0x2 n0x2 q0x2 w _ rfl h
end Go.Proofs.Ytoiblpncofbdpaa.tallyCounts
