/-
  The contracts of tally's Count and Quantile.
-/
import Derived.Test.YtoiblpncofbdpaaTallyZ
namespace Go.Proofs.Ytoiblpncofbdpaa
open Go.RowKit

/-- How many of the first m pixels have an amount. -/
def cnt (pix : Nat → Int) (m v : Nat) : Int := acc (fun i => (pix i).toNat) (fun _ => 1) m v
def csum (c : Nat → Int) : Nat → Int
  | 0 => 0
  | v + 1 => csum c v + c v
theorem csum_add (c d : Nat → Int) : ∀ v, csum (fun u => c u + d u) v = csum c v + csum d v
  | 0 => rfl
  | v + 1 => by simp only [csum]; rw [csum_add c d v]; omega
theorem csum_one (a : Nat) : ∀ v, csum (fun u => if a = u then 1 else 0) v = if a < v then 1 else 0
  | 0 => by simp [csum]
  | v + 1 => by
    simp only [csum]
    rw [csum_one a v]
    by_cases h : a < v
    · rw [if_pos h, if_neg (by omega), if_pos (by omega)]; rfl
    · by_cases h2 : a = v
      · rw [if_neg h, if_pos h2, if_pos (by omega)]; rfl
      · rw [if_neg h, if_neg h2, if_neg (by omega)]; rfl
theorem csum_zero : ∀ v, csum (fun _ => 0) v = 0
  | 0 => rfl
  | v + 1 => by simp only [csum]; rw [csum_zero v]; rfl
theorem csum_congr {c d : Nat → Int} (h : ∀ u, c u = d u) (v : Nat) : csum c v = csum d v := by
  rw [show c = d from funext h]
theorem csum_cnt (pix : Nat → Int) : ∀ m, (∀ i, i < m → 0 ≤ pix i ∧ pix i ≤ 255) → csum (cnt pix m) 256 = m
  | 0, _ => csum_zero 256
  | m + 1, h => by
    have h1 := h m (by omega)
    rw [csum_congr (c := cnt pix (m + 1)) (d := fun u => cnt pix m u + if (pix m).toNat = u then 1 else 0) (fun u => rfl), csum_add (cnt pix m) (fun u => if (pix m).toNat = u then 1 else 0), csum_cnt pix m (fun i hi => h i (by omega)), csum_one, if_pos (by omega)]
    simp
theorem cnt_bd (pix : Nat → Int) (m v : Nat) : 0 ≤ cnt pix m v ∧ cnt pix m v ≤ 255 * m := acc_bd _ _ v m (fun _ _ => by decide)
theorem csum_mono {c : Nat → Int} (h : ∀ v, 0 ≤ c v) {a b : Nat} (hab : a ≤ b) : csum c a ≤ csum c b := by
  induction b with
  | zero => have : a = 0 := by omega
            subst this; exact Int.le_refl _
  | succ b ih =>
    rcases Nat.lt_or_ge a (b + 1) with h1 | h1
    · have := ih (by omega)
      have := h b
      simp only [csum]; omega
    · have : a = b + 1 := by omega
      subst this; exact Int.le_refl _
theorem csum_nonneg {c : Nat → Int} (h : ∀ v, 0 ≤ c v) (a : Nat) : 0 ≤ csum c a := csum_mono h (Nat.zero_le a)
theorem Count_err (x y : Int) (A : Option Addr) (n cap : Nat) (w : World) (er : Int) (he : gridE x y n = er) (h0 : er = 3 ∨ er = 4) :
    Calls Try.prog 37 #[.agg #[.int .i64 x, .int .i64 y, .slice A n cap]] w fun e w' => e = .returned (.tuple #[.slice none 0 0, .int .i64 er]) ∧ Below w.heap.size w w' := by
  have HE : Hid _ := he
  clear he
  rcases h0 with rfl | rfl
  all_goals
    go_enter Try.func37, Try.ntmps37
    go_wp2_with fail
    refine (renderCheck_any x y A n cap _).mono ?_
    rw [HE.out]
    rintro e w' ⟨rfl, rfl⟩
    go_wp2_with fail
    go_ret2
    exact ⟨rfl, by (repeat' (with_reducible first | exact Below.refl _ _ | refine past_le ?_ ?_ _ | refine Below.alloc ?_ ?_ _ | refine Below.drew ?_ | refine drewN_le ?_ _ | refine Below.setCell ?_ ?_ _ | refine step_le (by assumption) ?_ ?_ | omega | (simp only []; omega) | (simp only [World.size_alloc]; omega) | (simp only [World.size_setCell]; omega) | (simp only [World.size_drew]; omega) | (simp only [World.size_alloc, World.size_setCell]; omega) | (simp only [World.size_alloc, World.size_drew]; omega) | (simp only [World.size_setCell, World.size_drew]; omega) | (simp only [World.size_alloc, World.size_setCell, World.size_drew]; omega)))⟩
set_option maxRecDepth 20000 in
set_option maxHeartbeats 2000000 in
theorem Count_ok (W H cap b off : Nat) (pix : Nat → Int) (w : World) (hW : 1 ≤ W ∧ W ≤ 1024) (hH : 1 ≤ H ∧ H ≤ 1024) (hlt : b < w.heap.size)
    (hp : ∀ i, i < W * H → w.cell? ⟨b, off + i, none⟩ = some (.int .u8 (pix i))) (hpx : ∀ i, i < W * H → 0 ≤ pix i ∧ pix i ≤ 255) :
    Calls Try.prog 37 #[.agg #[.int .i64 W, .int .i64 H, .slice (some ⟨b, off, none⟩) (W * H) cap]] w fun e w' => ∃ A, e = .returned (.tuple #[.slice A 256 256, .int .i64 0]) ∧ Below w.heap.size w w' ∧ IntsAt w' A 256 (cnt pix (W * H)) := by
  have h0 : gridE W H (W * H) = 0 := by rw [gridE, if_neg (by rw [inB_yes (by omega), inB_yes (by omega)]; simp), if_neg (by simp)]
  have hm : W * H ≤ 1048576 := Nat.mul_le_mul hW.2 hH.2
  have hmk := make_ints 256 (by omega)
  have hmk : ∀ w : World, (Instr.makeSlice 43 (.int .i64 256) (.int .i64 256)).run Try.prog w = .ok (.slice (some ⟨w.heap.size, 0, none⟩) 256 256) (w.alloc (.cells (madeCells #[.int .i64 0] 256) 3)) := hmk
  generalize hM : W * H = M at *
  have hpH : Hid _ := hp
  have hpxH : Hid _ := hpx
  clear hp hpx hM
  go_enter Try.func37, Try.ntmps37
  go_wp2_with fail
  refine (renderCheck_any W H _ M cap _).mono ?_
  rw [h0]
  rintro e w' ⟨rfl, rfl⟩
  go_wp2_with fail
  obtain ⟨W1, hW1⟩ : ∃ W1, W1 = ((w.alloc (.cells #[.int .i64 W, .int .i64 H, .slice (some ⟨b, off, none⟩) M cap] 39)).alloc (.cells #[.int .i64 W, .int .i64 H, .slice (some ⟨b, off, none⟩) M cap] 39)).alloc (.cells (madeCells #[.int .i64 0] 256) 3) := ⟨_, rfl⟩
  rw [← hW1]
  have B1 : Hid (Below w.heap.size w W1) := show Below w.heap.size w W1 by rw [hW1]; (repeat' (with_reducible first | exact Below.refl _ _ | refine past_le ?_ ?_ _ | refine Below.alloc ?_ ?_ _ | refine Below.drew ?_ | refine drewN_le ?_ _ | refine Below.setCell ?_ ?_ _ | refine step_le (by assumption) ?_ ?_ | omega | (simp only []; omega) | (simp only [World.size_alloc]; omega) | (simp only [World.size_setCell]; omega) | (simp only [World.size_drew]; omega) | (simp only [World.size_alloc, World.size_setCell]; omega) | (simp only [World.size_alloc, World.size_drew]; omega) | (simp only [World.size_setCell, World.size_drew]; omega) | (simp only [World.size_alloc, World.size_setCell, World.size_drew]; omega)))
  have S1 : Hid (Sums w W1 (w.heap.size + 1 + 1) 256 (cnt pix 0)) := show Sums w W1 (w.heap.size + 1 + 1) 256 (cnt pix 0) by
    refine ⟨B1.out, by rw [hW1]; simp, fun k hk => ?_, fun k => ?_⟩
    · rw [hW1, cell_alloc_if, if_pos (by simp)]
      exact made_get 256 k hk
    · rw [hW1]; simp [frozen_alloc_if]
  clear hW1 hmk
  go_loopw [17] (fun i wr => ∃ k : Nat, k ≤ M ∧ i = .int .i64 k ∧ Sums w wr (w.heap.size + 1 + 1) 256 (cnt pix k)) (fun i _ => M - (intOf i).toNat)
  case atStart => exact ⟨0, Nat.zero_le _, rfl, S1.out⟩
  case round =>
    obtain ⟨k, hk, rfl, hS⟩ := hrel
    have HS : Hid _ := hS
    by_cases hlt' : k < M
    · have hpk := (hS.below.cell (p := ⟨b, off + k, none⟩) hlt).trans (hpH.out k hlt')
      have hbd := hpxH.out k hlt'
      obtain ⟨p, hpe⟩ : ∃ p : Nat, pix k = p := ⟨(pix k).toNat, by omega⟩
      rw [hpe] at hpk hbd
      have hck := hS.cells p (by omega)
      have hfk := hS.free p
      have hab := cnt_bd pix k p
      have hst : ∀ w', Sums w w' (w.heap.size + 1 + 1) 256 (cnt pix k) → Sums w (w'.setCell ⟨w.heap.size + 1 + 1, p, none⟩ (.int .i64 (cnt pix k p + 1))) (w.heap.size + 1 + 1) 256 (cnt pix (k + 1)) := fun w' h => by
        have := h.step (cls := fun i => (pix i).toNat) (f := fun _ => 1) (m := k) (Nat.le_succ_of_le (Nat.le_succ _))
        rw [hpe] at this
        exact this
      have HT : Hid _ := hst _ hS
      clear hst hS hpe
      generalize cnt pix k p = s at *
      go_wp2_with fail
      go_roundw
      case rel => exact ⟨k + 1, by omega, by go_num, HT.out⟩
      case measure => simp [intOf]; omega
    · have : k = M := by omega
      subst this
      have IA : Hid (IntsAt wr (some ⟨w.heap.size + 1 + 1, 0, none⟩) 256 (cnt pix k)) := ints_of_cells0 hS.cells
      clear hS
      go_wp2_with fail
      go_ret2
      exact ⟨_, rfl, HS.out.below, IA.out⟩
theorem Quantile_err (x y k : Int) (A : Option Addr) (n cap : Nat) (w : World) (er : Int) (he : gridE x y n = er) (h0 : er = 3 ∨ er = 4) :
    Calls Try.prog 38 #[.agg #[.int .i64 x, .int .i64 y, .slice A n cap], .int .i64 k] w fun e w' => e = .returned (.tuple #[.int .u8 0, .int .i64 er]) ∧ Below w.heap.size w w' := by
  have HE : Hid _ := fun w' => Count_err x y A n cap w' er he h0
  clear he
  rcases h0 with rfl | rfl
  all_goals
    go_enter Try.func38, Try.ntmps38
    go_wp2_with fail
    refine (HE.out _).mono ?_
    rintro e w1 ⟨rfl, hb⟩
    go_wp2_with fail
    go_ret2
    exact ⟨rfl, by (repeat' (with_reducible first | exact Below.refl _ _ | refine past_le ?_ ?_ _ | refine Below.alloc ?_ ?_ _ | refine Below.drew ?_ | refine drewN_le ?_ _ | refine Below.setCell ?_ ?_ _ | refine step_le (by assumption) ?_ ?_ | omega | (simp only []; omega) | (simp only [World.size_alloc]; omega) | (simp only [World.size_setCell]; omega) | (simp only [World.size_drew]; omega) | (simp only [World.size_alloc, World.size_setCell]; omega) | (simp only [World.size_alloc, World.size_drew]; omega) | (simp only [World.size_setCell, World.size_drew]; omega) | (simp only [World.size_alloc, World.size_setCell, World.size_drew]; omega)))⟩
theorem Quantile_out (k : Int) (W H cap b off : Nat) (pix : Nat → Int) (w : World) (hk : k < 1 ∨ ((W * H : Nat) : Int) < k) (hW : 1 ≤ W ∧ W ≤ 1024) (hH : 1 ≤ H ∧ H ≤ 1024) (hlt : b < w.heap.size)
    (hp : ∀ i, i < W * H → w.cell? ⟨b, off + i, none⟩ = some (.int .u8 (pix i))) (hpx : ∀ i, i < W * H → 0 ≤ pix i ∧ pix i ≤ 255) :
    Calls Try.prog 38 #[.agg #[.int .i64 W, .int .i64 H, .slice (some ⟨b, off, none⟩) (W * H) cap], .int .i64 k] w fun e w' => e = .returned (.tuple #[.int .u8 0, .int .i64 3]) ∧ Below w.heap.size w w' := by
  have HC : Hid _ := Count_ok W H cap b off pix (hW := hW) (hH := hH) (hpx := hpx)
  have HP : Hid _ := hp
  clear hp hpx
  generalize W * H = M at *
  have hkk : k < 1 ∨ (1 ≤ k ∧ (M : Int) < k) := by omega
  clear hk
  rcases hkk with hk | ⟨hk1, hk⟩
  all_goals
    go_enter Try.func38, Try.ntmps38
    go_wp2_with fail
    refine (HC.out _ (by simp only [World.size_alloc]; omega) (fun i hi => ?_)).mono ?_
    · rw [cell_alloc_if, if_neg (by omega)]; exact HP.out i hi
    rintro e w1 ⟨A, rfl, hb, hA⟩
    obtain ⟨hc1, hf1, hz1⟩ := bcell hb
    simp only [World.size_alloc] at hc1 hf1 hz1
    have HB : Hid (Below w.heap.size w w1) := show Below w.heap.size w w1 from step_le hb (by (repeat' (with_reducible first | exact Below.refl _ _ | refine past_le ?_ ?_ _ | refine Below.alloc ?_ ?_ _ | refine Below.drew ?_ | refine drewN_le ?_ _ | refine Below.setCell ?_ ?_ _ | refine step_le (by assumption) ?_ ?_ | omega | (simp only []; omega) | (simp only [World.size_alloc]; omega) | (simp only [World.size_setCell]; omega) | (simp only [World.size_drew]; omega) | (simp only [World.size_alloc, World.size_setCell]; omega) | (simp only [World.size_alloc, World.size_drew]; omega) | (simp only [World.size_setCell, World.size_drew]; omega) | (simp only [World.size_alloc, World.size_setCell, World.size_drew]; omega)))) (by simp only [World.size_alloc]; omega)
    clear hb hA
    go_wp2_with fail
    go_ret2
    exact ⟨rfl, HB.out⟩
set_option maxRecDepth 20000 in
set_option maxHeartbeats 2000000 in
theorem Quantile_ok (k : Int) (W H cap b off : Nat) (pix : Nat → Int) (w : World) (hk : 1 ≤ k ∧ k ≤ ((W * H : Nat) : Int)) (hW : 1 ≤ W ∧ W ≤ 1024) (hH : 1 ≤ H ∧ H ≤ 1024) (hlt : b < w.heap.size)
    (hp : ∀ i, i < W * H → w.cell? ⟨b, off + i, none⟩ = some (.int .u8 (pix i))) (hpx : ∀ i, i < W * H → 0 ≤ pix i ∧ pix i ≤ 255) :
    Calls Try.prog 38 #[.agg #[.int .i64 W, .int .i64 H, .slice (some ⟨b, off, none⟩) (W * H) cap], .int .i64 k] w fun e w' => ∃ q : Nat, e = .returned (.tuple #[.int .u8 q, .int .i64 0]) ∧ Below w.heap.size w w' ∧ q ≤ 255 ∧ csum (cnt pix (W * H)) q < k ∧ k ≤ csum (cnt pix (W * H)) (q + 1) := by
  have HC : Hid _ := Count_ok W H cap b off pix (hW := hW) (hH := hH) (hpx := hpx)
  have HP : Hid _ := hp
  have hm : W * H ≤ 1048576 := Nat.mul_le_mul hW.2 hH.2
  have ht := csum_cnt pix (W * H) hpx
  clear hp hpx
  generalize W * H = M at *
  have hcn := fun v => (cnt_bd pix M v).1
  have HN : Hid _ := hcn
  have HT : Hid _ := ht
  have HU : Hid (∀ v, v ≤ 256 → 0 ≤ csum (cnt pix M) v ∧ csum (cnt pix M) v ≤ M) := fun v hv => ⟨csum_nonneg hcn v, by rw [← ht]; exact csum_mono hcn hv⟩
  clear hcn ht
  obtain ⟨hk1, hk2⟩ := hk
  go_enter Try.func38, Try.ntmps38
  go_wp2_with fail
  refine (HC.out _ (by simp only [World.size_alloc]; omega) (fun i hi => ?_)).mono ?_
  · rw [cell_alloc_if, if_neg (by omega)]; exact HP.out i hi
  rintro e w1 ⟨A, rfl, hb, hA⟩
  obtain ⟨hc1, hf1, hz1⟩ := bcell hb
  simp only [World.size_alloc] at hc1 hf1 hz1
  have HB : Hid (Below w.heap.size w w1) := show Below w.heap.size w w1 from step_le hb (by (repeat' (with_reducible first | exact Below.refl _ _ | refine past_le ?_ ?_ _ | refine Below.alloc ?_ ?_ _ | refine Below.drew ?_ | refine drewN_le ?_ _ | refine Below.setCell ?_ ?_ _ | refine step_le (by assumption) ?_ ?_ | omega | (simp only []; omega) | (simp only [World.size_alloc]; omega) | (simp only [World.size_setCell]; omega) | (simp only [World.size_drew]; omega) | (simp only [World.size_alloc, World.size_setCell]; omega) | (simp only [World.size_alloc, World.size_drew]; omega) | (simp only [World.size_setCell, World.size_drew]; omega) | (simp only [World.size_alloc, World.size_setCell, World.size_drew]; omega)))) (by simp only [World.size_alloc]; omega)
  obtain ⟨B, o, rfl, hBs, hcs⟩ := hA (by omega)
  have HS : Hid _ := hcs
  have h0 := hcs 0 (by omega)
  rw [Nat.add_zero] at h0
  have hg1 : ∀ o, w1.cell? ⟨w.heap.size, o, none⟩ = #[Value.int .i64 W, .int .i64 H, .slice (some ⟨b, off, none⟩) M cap][o]? := fun o => by
    rw [hc1, if_pos (by omega), cell_alloc_if, if_pos rfl]
  have HD : Hid (csum (cnt pix M) 1 = cnt pix M 0) := Int.zero_add _
  clear hb hA hcs hc1 hf1
  go_wp2_with fail

  go_loop [8, 9] (fun v n => ∃ q : Nat, q ≤ 255 ∧ v = .int .i64 q ∧ n = .int .i64 (csum (cnt pix M) (q + 1)) ∧ csum (cnt pix M) q < k) (fun v _ => 256 - (intOf v).toNat)
  case atStart => exact ⟨0, by omega, rfl, by rw [HD.out], by show (0 : Int) < k; omega⟩
  case round =>
    obtain ⟨q, hq, rfl, rfl, hlo⟩ := hrel
    by_cases hlt' : csum (cnt pix M) (q + 1) < k
    · have hq2 : q < 255 := by
        rcases Nat.lt_or_ge q 255 with h | h
        · exact h
        · have : q = 255 := by omega
          subst this
          rw [HT.out] at hlt'; omega
      have hcell := HS.out (q + 1) (by omega)
      have u1 := HU.out (q + 1) (by omega)
      have u2 := HU.out (q + 1 + 1) (by omega)
      have E2 : Hid (csum (cnt pix M) (q + 1 + 1) = csum (cnt pix M) (q + 1) + cnt pix M (q + 1)) := rfl
      rw [E2.out] at u2
      clear h0 hg1
      have hn := HN.out (q + 1)
      go_wp2_with fail
      go_round
      case rel => exact ⟨q + 1, by omega, by go_num, by rw [E2.out], hlt'⟩
      case measure => simp [intOf]; omega
    · have hge : k ≤ csum (cnt pix M) (q + 1) := by omega
      clear h0 hg1
      go_wp2_with fail
      go_ret2
      exact ⟨q, by first | rfl | (congr 3; omega) | skip, HB.out, by omega, hlo, hge⟩
end Go.Proofs.Ytoiblpncofbdpaa
