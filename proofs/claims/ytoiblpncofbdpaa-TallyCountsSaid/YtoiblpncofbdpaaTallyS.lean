/-
  The contracts of tally's Sum, Zones and Tiles: the walks.
-/
import Derived.Test.YtoiblpncofbdpaaTallyZ
namespace Go.Proofs.Ytoiblpncofbdpaa
open Go.RowKit

theorem Sum_err (x y : Int) (A : Option Addr) (n cap : Nat) (w : World) (er : Int) (he : gridE x y n = er) (h0 : er = 3 ∨ er = 4) :
    Calls Try.prog 18 #[.agg #[.int .i64 x, .int .i64 y, .slice A n cap]] w fun e w' => e = .returned (.tuple #[.int .i64 0, .int .i64 er]) ∧ Below w.heap.size w w' := by
  have HS : Hid _ := fun F caps N w' => sums_err F caps x y N A n cap w' er he h0
  clear he
  rcases h0 with rfl | rfl
  all_goals
    go_enter Try.func18, Try.ntmps18
    go_wp2_with fail
    refine (HS.out _ _ _ _).mono ?_
    rintro e w1 ⟨rfl, hb⟩
    go_wp2_with fail
    go_ret2
    exact ⟨rfl, by (repeat' (with_reducible first | exact Below.refl _ _ | refine past_le ?_ ?_ _ | refine Below.alloc ?_ ?_ _ | refine Below.drew ?_ | refine drewN_le ?_ _ | refine Below.setCell ?_ ?_ _ | refine step_le (by assumption) ?_ ?_ | omega | (simp only []; omega) | (simp only [World.size_alloc]; omega) | (simp only [World.size_setCell]; omega) | (simp only [World.size_drew]; omega) | (simp only [World.size_alloc, World.size_setCell]; omega) | (simp only [World.size_alloc, World.size_drew]; omega) | (simp only [World.size_setCell, World.size_drew]; omega) | (simp only [World.size_alloc, World.size_setCell, World.size_drew]; omega)))⟩
set_option maxHeartbeats 1000000 in
theorem Sum_ok (W H cap b off : Nat) (pix : Nat → Int) (w : World) (hW : 1 ≤ W ∧ W ≤ 1024) (hH : 1 ≤ H ∧ H ≤ 1024) (hlt : b < w.heap.size)
    (hp : ∀ i, i < W * H → w.cell? ⟨b, off + i, none⟩ = some (.int .u8 (pix i))) (hpx : ∀ i, i < W * H → 0 ≤ pix i ∧ pix i ≤ 255) :
    Calls Try.prog 18 #[.agg #[.int .i64 W, .int .i64 H, .slice (some ⟨b, off, none⟩) (W * H) cap]] w fun e w' => e = .returned (.tuple #[.int .i64 (acc (fun _ => 0) pix (W * H) 0), .int .i64 0]) ∧ Below w.heap.size w w' := by
  have HP : Hid _ := hp
  have HX : Hid _ := hpx
  clear hp hpx
  go_enter Try.func18, Try.ntmps18
  go_wp2_with fail
  refine (sums_any 54 callSum #[] (fun _ => 0) 1 W H cap b off pix _ (by omega) hW hH (by simp only [World.size_alloc]; omega) (fun i hi => ?_) HX.out (fun _ _ => by omega) (fun i w' _ _ => (sumC_any _ _ w').mono fun e w'' ⟨h1, h2⟩ => ⟨h1, 0, h2.symm⟩)).mono ?_
  · rw [cell_alloc_if, if_neg (by omega)]; exact HP.out i hi
  rintro e w1 ⟨B, rfl, hB, hS⟩
  have hc := hS.cells 0 (by omega)
  have hb : Hid (Below w.heap.size w w1) := show Below w.heap.size w w1 from step_le hS.below (by (repeat' (with_reducible first | exact Below.refl _ _ | refine past_le ?_ ?_ _ | refine Below.alloc ?_ ?_ _ | refine Below.drew ?_ | refine drewN_le ?_ _ | refine Below.setCell ?_ ?_ _ | refine step_le (by assumption) ?_ ?_ | omega | (simp only []; omega) | (simp only [World.size_alloc]; omega) | (simp only [World.size_setCell]; omega) | (simp only [World.size_drew]; omega) | (simp only [World.size_alloc, World.size_setCell]; omega) | (simp only [World.size_alloc, World.size_drew]; omega) | (simp only [World.size_setCell, World.size_drew]; omega) | (simp only [World.size_alloc, World.size_setCell, World.size_drew]; omega)))) (by simp only [World.size_alloc]; omega)
  clear hS
  go_wp2_with fail
  go_ret2
  exact ⟨rfl, hb.out⟩
theorem Zones_err (x y m : Int) (A : Option Addr) (n cap : Nat) (w : World) (er : Int) (he : gridE x y n = er) (h0 : er = 3 ∨ er = 4) :
    Calls Try.prog 19 #[.agg #[.int .i64 x, .int .i64 y, .slice A n cap], .int .i64 m] w fun e w' => e = .returned (.tuple #[.slice none 0 0, .int .i64 er]) ∧ Below w.heap.size w w' := by
  have HE : Hid _ := he
  clear he
  rcases h0 with rfl | rfl
  all_goals
    go_enter Try.func19, Try.ntmps19
    go_wp2_with fail
    refine (renderCheck_any x y A n cap _).mono ?_
    rw [HE.out]
    rintro e w' ⟨rfl, rfl⟩
    go_wp2_with fail
    go_ret2
    exact ⟨rfl, by (repeat' (with_reducible first | exact Below.refl _ _ | refine past_le ?_ ?_ _ | refine Below.alloc ?_ ?_ _ | refine Below.drew ?_ | refine drewN_le ?_ _ | refine Below.setCell ?_ ?_ _ | refine step_le (by assumption) ?_ ?_ | omega | (simp only []; omega) | (simp only [World.size_alloc]; omega) | (simp only [World.size_setCell]; omega) | (simp only [World.size_drew]; omega) | (simp only [World.size_alloc, World.size_setCell]; omega) | (simp only [World.size_alloc, World.size_drew]; omega) | (simp only [World.size_setCell, World.size_drew]; omega) | (simp only [World.size_alloc, World.size_setCell, World.size_drew]; omega)))⟩
theorem Zones_out (x y m : Int) (A : Option Addr) (n cap : Nat) (w : World) (he : gridE x y n = 0) (hm : m < 1 ∨ 64 < m) :
    Calls Try.prog 19 #[.agg #[.int .i64 x, .int .i64 y, .slice A n cap], .int .i64 m] w fun e w' => e = .returned (.tuple #[.slice none 0 0, .int .i64 3]) ∧ Below w.heap.size w w' := by
  have HE : Hid _ := he
  clear he
  rcases hm with hm | hm
  · go_enter Try.func19, Try.ntmps19
    go_wp2_with fail
    refine (renderCheck_any x y A n cap _).mono ?_
    rw [HE.out]
    rintro e w' ⟨rfl, rfl⟩
    go_wp2_with fail
    go_ret2
    exact ⟨rfl, by (repeat' (with_reducible first | exact Below.refl _ _ | refine past_le ?_ ?_ _ | refine Below.alloc ?_ ?_ _ | refine Below.drew ?_ | refine drewN_le ?_ _ | refine Below.setCell ?_ ?_ _ | refine step_le (by assumption) ?_ ?_ | omega | (simp only []; omega) | (simp only [World.size_alloc]; omega) | (simp only [World.size_setCell]; omega) | (simp only [World.size_drew]; omega) | (simp only [World.size_alloc, World.size_setCell]; omega) | (simp only [World.size_alloc, World.size_drew]; omega) | (simp only [World.size_setCell, World.size_drew]; omega) | (simp only [World.size_alloc, World.size_setCell, World.size_drew]; omega)))⟩
  · have hm' : 1 ≤ m := by omega
    go_enter Try.func19, Try.ntmps19
    go_wp2_with fail
    refine (renderCheck_any x y A n cap _).mono ?_
    rw [HE.out]
    rintro e w' ⟨rfl, rfl⟩
    go_wp2_with fail
    go_ret2
    exact ⟨rfl, by (repeat' (with_reducible first | exact Below.refl _ _ | refine past_le ?_ ?_ _ | refine Below.alloc ?_ ?_ _ | refine Below.drew ?_ | refine drewN_le ?_ _ | refine Below.setCell ?_ ?_ _ | refine step_le (by assumption) ?_ ?_ | omega | (simp only []; omega) | (simp only [World.size_alloc]; omega) | (simp only [World.size_setCell]; omega) | (simp only [World.size_drew]; omega) | (simp only [World.size_alloc, World.size_setCell]; omega) | (simp only [World.size_alloc, World.size_drew]; omega) | (simp only [World.size_setCell, World.size_drew]; omega) | (simp only [World.size_alloc, World.size_setCell, World.size_drew]; omega)))⟩
def zoneOf (W n i : Nat) : Nat := i % W * n / W
theorem zoneOf_lt {W n i : Nat} (hW : 1 ≤ W) (hn : 1 ≤ n) : zoneOf W n i < n := by
  unfold zoneOf
  rw [Nat.div_lt_iff_lt_mul hW, Nat.mul_comm n W]
  exact Nat.mul_lt_mul_of_pos_right (Nat.mod_lt _ hW) hn
set_option maxHeartbeats 1000000 in
theorem Zones_ok (n W H cap b off : Nat) (pix : Nat → Int) (w : World) (hn : 1 ≤ n ∧ n ≤ 64) (hW : 1 ≤ W ∧ W ≤ 1024) (hH : 1 ≤ H ∧ H ≤ 1024) (hlt : b < w.heap.size)
    (hp : ∀ i, i < W * H → w.cell? ⟨b, off + i, none⟩ = some (.int .u8 (pix i))) (hpx : ∀ i, i < W * H → 0 ≤ pix i ∧ pix i ≤ 255) :
    Calls Try.prog 19 #[.agg #[.int .i64 W, .int .i64 H, .slice (some ⟨b, off, none⟩) (W * H) cap], .int .i64 n] w fun e w' => ∃ A, e = .returned (.tuple #[.slice A n n, .int .i64 0]) ∧ Below w.heap.size w w' ∧ IntsAt w' A n (acc (zoneOf W n) pix (W * H)) := by
  have h0 : gridE W H (W * H) = 0 := by rw [gridE, if_neg (by rw [inB_yes (by omega), inB_yes (by omega)]; simp), if_neg (by simp)]
  have HP : Hid _ := hp
  have HX : Hid _ := hpx
  clear hp hpx
  go_enter Try.func19, Try.ntmps19
  go_wp2_with fail
  refine (renderCheck_any W H _ (W * H) cap _).mono ?_
  rw [h0]
  rintro e w' ⟨rfl, rfl⟩
  go_wp2_with fail
  refine (sums_any 56 callZones #[.pointer (some ⟨w.heap.size + 1, 0, none⟩), .pointer (some ⟨w.heap.size, 0, none⟩)] (zoneOf W n) n W H cap b off pix _ (by omega) hW hH (by simp only [World.size_alloc]; omega) (fun i hi => ?_) HX.out (fun _ _ => zoneOf_lt hW.1 hn.1) (fun i w' hi hb => zonesC_any (i % W) (i / W) n W H _ _ (.slice (some ⟨b, off, none⟩) (W * H) cap) w' (Nat.mod_lt _ hW.1) hW hn (fun o => ?_) (fun o => ?_))).mono ?_
  · simp only [cell_alloc_if, World.size_alloc]
    rw [if_neg (by omega), if_neg (by omega), if_neg (by omega)]; exact HP.out i hi
  · rw [(bcell hb).1, if_pos (by simp only [World.size_alloc]; omega)]; simp [go_sem]
  · rw [(bcell hb).1, if_pos (by simp only [World.size_alloc]; omega)]; simp [go_sem]
  rintro e w1 ⟨B, rfl, hB, hS⟩
  have hI : Hid (IntsAt w1 (some ⟨B, 0, none⟩) n (acc (zoneOf W n) pix (W * H))) := ints_of_cells0 hS.cells
  have hb : Hid (Below w.heap.size w w1) := show Below w.heap.size w w1 from step_le hS.below (by (repeat' (with_reducible first | exact Below.refl _ _ | refine past_le ?_ ?_ _ | refine Below.alloc ?_ ?_ _ | refine Below.drew ?_ | refine drewN_le ?_ _ | refine Below.setCell ?_ ?_ _ | refine step_le (by assumption) ?_ ?_ | omega | (simp only []; omega) | (simp only [World.size_alloc]; omega) | (simp only [World.size_setCell]; omega) | (simp only [World.size_drew]; omega) | (simp only [World.size_alloc, World.size_setCell]; omega) | (simp only [World.size_alloc, World.size_drew]; omega) | (simp only [World.size_setCell, World.size_drew]; omega) | (simp only [World.size_alloc, World.size_setCell, World.size_drew]; omega)))) (by simp only [World.size_alloc]; omega)
  clear hS
  go_wp2_with fail
  go_ret2
  exact ⟨_, rfl, hb.out, hI.out⟩
theorem Tiles_err (x y a c : Int) (A : Option Addr) (n cap : Nat) (w : World) (er : Int) (he : gridE x y n = er) (h0 : er = 3 ∨ er = 4) :
    Calls Try.prog 20 #[.agg #[.int .i64 x, .int .i64 y, .slice A n cap], .int .i64 a, .int .i64 c] w fun e w' => e = .returned (.tuple #[.slice none 0 0, .int .i64 er]) ∧ Below w.heap.size w w' := by
  have HE : Hid _ := he
  clear he
  rcases h0 with rfl | rfl
  all_goals
    go_enter Try.func20, Try.ntmps20
    go_wp2_with fail
    refine (renderCheck_any x y A n cap _).mono ?_
    rw [HE.out]
    rintro e w' ⟨rfl, rfl⟩
    go_wp2_with fail
    go_ret2
    exact ⟨rfl, by (repeat' (with_reducible first | exact Below.refl _ _ | refine past_le ?_ ?_ _ | refine Below.alloc ?_ ?_ _ | refine Below.drew ?_ | refine drewN_le ?_ _ | refine Below.setCell ?_ ?_ _ | refine step_le (by assumption) ?_ ?_ | omega | (simp only []; omega) | (simp only [World.size_alloc]; omega) | (simp only [World.size_setCell]; omega) | (simp only [World.size_drew]; omega) | (simp only [World.size_alloc, World.size_setCell]; omega) | (simp only [World.size_alloc, World.size_drew]; omega) | (simp only [World.size_setCell, World.size_drew]; omega) | (simp only [World.size_alloc, World.size_setCell, World.size_drew]; omega)))⟩
theorem Tiles_out (x y a c : Int) (A : Option Addr) (n cap : Nat) (w : World) (he : gridE x y n = 0) (hm : ¬((1 ≤ a ∧ a ≤ 1024) ∧ (1 ≤ c ∧ c ≤ 1024))) :
    Calls Try.prog 20 #[.agg #[.int .i64 x, .int .i64 y, .slice A n cap], .int .i64 a, .int .i64 c] w fun e w' => e = .returned (.tuple #[.slice none 0 0, .int .i64 3]) ∧ Below w.heap.size w w' := by
  have HE : Hid _ := he
  clear he
  by_cases h1 : a < 1 <;> by_cases h2 : 1024 < a <;> by_cases h3 : c < 1 <;> by_cases h4 : 1024 < c
  all_goals
    first
    | omega
    | (clear hm
       go_enter Try.func20, Try.ntmps20
       go_wp2_with fail
       refine (renderCheck_any x y A n cap _).mono ?_
       rw [HE.out]
       rintro e w' ⟨rfl, rfl⟩
       go_wp2_with fail
       go_ret2
       exact ⟨rfl, by (repeat' (with_reducible first | exact Below.refl _ _ | refine past_le ?_ ?_ _ | refine Below.alloc ?_ ?_ _ | refine Below.drew ?_ | refine drewN_le ?_ _ | refine Below.setCell ?_ ?_ _ | refine step_le (by assumption) ?_ ?_ | omega | (simp only []; omega) | (simp only [World.size_alloc]; omega) | (simp only [World.size_setCell]; omega) | (simp only [World.size_drew]; omega) | (simp only [World.size_alloc, World.size_setCell]; omega) | (simp only [World.size_alloc, World.size_drew]; omega) | (simp only [World.size_setCell, World.size_drew]; omega) | (simp only [World.size_alloc, World.size_setCell, World.size_drew]; omega)))⟩)
/-- How many tiles of a columns c columns need. -/
def tilesN (W a : Nat) : Nat := (W + a - 1) / a
def tileOf (W a c i : Nat) : Nat := i / W / c * tilesN W a + i % W / a
theorem tilesN_bd {W a : Nat} (hW : 1 ≤ W ∧ W ≤ 1024) (ha : 1 ≤ a) : 1 ≤ tilesN W a ∧ tilesN W a ≤ 1024 := by
  unfold tilesN
  refine ⟨(Nat.le_div_iff_mul_le ha).2 (by omega), ?_⟩
  refine Nat.le_trans (Nat.div_le_div_left (c := a) (b := a) (Nat.le_refl _) ha) ?_
  rw [Nat.div_le_iff_le_mul_add_pred ha]
  have h : 1024 ≤ a * 1024 := Nat.le_mul_of_pos_left _ ha
  omega
theorem div_lt_tilesN {x W a : Nat} (hx : x < W) (ha : 1 ≤ a) : x / a < tilesN W a := by
  unfold tilesN
  rw [Nat.lt_iff_add_one_le, Nat.le_div_iff_mul_le ha, Nat.add_mul, Nat.one_mul]
  have := Nat.div_mul_le_self x a
  omega
theorem tileOf_lt {W H a c i : Nat} (hi : i < W * H) (hW : 1 ≤ W) (ha : 1 ≤ a) (hc : 1 ≤ c) : tileOf W a c i < tilesN W a * tilesN H c := by
  unfold tileOf
  exact idx_lt (div_lt_tilesN (Nat.div_lt_of_lt_mul hi) hc) (div_lt_tilesN (Nat.mod_lt _ hW) ha)
end Go.Proofs.Ytoiblpncofbdpaa
