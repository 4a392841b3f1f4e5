/-
  The contract of Turn by no quarter turn: a copy.
-/
import Derived.Test.YtoiblpncofbdpaaTurn
import Derived.Test.YtoiblpncofbdpaaMix3
import Derived.Test.YtoiblpncofbdpaaSmall
import Derived.Test.YtoiblpncofbdpaaSmallW
import Derived.Test.YtoiblpncofbdpaaShelf
namespace Go.Proofs.Ytoiblpncofbdpaa
open Go.RowKit

/-- A slice of n bytes in memory that is not older than 'base'. -/
def Row8 (base n : Nat) (f : Nat → Int) (v : Value) (u : World) : Prop :=
  ∃ g q, v = .slice (some ⟨g, 0, none⟩) n q ∧ n ≤ q ∧ q ≤ 9223372036854775807 ∧ base ≤ g ∧ g < u.heap.size ∧ ∀ i, i < n → u.cell? ⟨g, i, none⟩ = some (.int .u8 (f i))
theorem Row8.below {base n : Nat} {f : Nat → Int} {v : Value} {u u' : World} (h : Row8 base n f v u) (hb : Below u.heap.size u u') : Row8 base n f v u' := by
  obtain ⟨g, q, h1, h2, h3, h4, h5, h6⟩ := h
  exact ⟨g, q, h1, h2, h3, h4, Nat.lt_of_lt_of_le h5 hb.size, fun i hi => (hb.cell (p := ⟨g, i, none⟩) h5).trans (h6 i hi)⟩
theorem Row8.mono {base base' n : Nat} {f : Nat → Int} {v : Value} {u : World} (h : Row8 base n f v u) (hb : base' ≤ base) : Row8 base' n f v u := by
  obtain ⟨g, q, h1, h2, h3, h4, h5, h6⟩ := h
  exact ⟨g, q, h1, h2, h3, Nat.le_trans hb h4, h5, h6⟩
theorem clone_any (b off n c : Nat) (f : Nat → Int) (w : World) (hn : 1 ≤ n ∧ n ≤ 1048576) (hp : ∀ i, i < n → w.cell? ⟨b, off + i, none⟩ = some (.int .u8 (f i))) :
    Calls Try.prog 66 #[.slice (some ⟨b, off, none⟩) n c] w fun e w' => ∃ v', e = .returned v' ∧ Below w.heap.size w w' ∧ Row8 w.heap.size n f v' w' := by
  obtain ⟨i, hi, hz, h1, h2⟩ := u8_info
  refine (Try.slices_Clone i (.int .u8 0) 1 1 hi hz h1 h2 rfl (by decide) (fun w => by kernel_rfl) b off n c ((List.range n).map fun i => .int .u8 (f i)) w (by simp) (by unfold maxLen; omega) (by omega) (fun j u hj => ?_) (fun u hu => ?_)).mono ?_
  · have hj' : j < n := by
      have := (List.getElem?_eq_some_iff.1 hj).1
      simpa using this
    rw [hp j hj']
    simpa [hj'] using hj
  · obtain ⟨j, _, rfl⟩ := List.mem_map.1 hu
    rfl
  · rintro e w' ⟨v', rfl, hown, hne, hb⟩
    refine ⟨v', rfl, hb, ?_⟩
    rcases hown.2 with ⟨_, h0⟩ | ⟨g, q, cur, hv, hg, hcur, hq, hq2, _, htake⟩
    · omega
    · refine ⟨g, q, hv, hq, by unfold maxLen at hq2; omega, hg, (Array.getElem?_eq_some_iff.1 hcur).1, fun i hi => ?_⟩
      have e1 : w'.cell? ⟨g, i, none⟩ = cur[i]? := by unfold World.cell?; simp [hcur]
      rw [e1]
      have e2 : (cur.toList.take (n * 1))[i]? = some (.int .u8 (f i)) := by rw [htake]; simp [hi]
      rw [List.getElem?_take, if_pos (by omega)] at e2
      simpa using e2
set_option maxRecDepth 20000 in
set_option maxHeartbeats 2000000 in
theorem Turn_0 (k : Int) (W H cap b off : Nat) (pix : Nat → Int) (w : World) (hW : 1 ≤ W ∧ W ≤ 1024) (hH : 1 ≤ H ∧ H ≤ 1024) (hk : bits .and .i64 k 3 = 0) (hlt : b < w.heap.size)
    (hp : ∀ i, i < W * H → w.cell? ⟨b, off + i, none⟩ = some (.int .u8 (pix i))) :
    Calls Try.prog 31 #[.agg #[.int .i64 W, .int .i64 H, .slice (some ⟨b, off, none⟩) (W * H) cap], .int .i64 k] w fun e w' => ∃ A q, e = .returned (.tuple #[.agg #[.int .i64 W, .int .i64 H, .slice A (W * H) q], .int .i64 0]) ∧ (W * H ≤ q ∧ q ≤ 9223372036854775807) ∧
      Below w.heap.size w w' ∧ BytesAt w' A (W * H) pix := by
  have h0 : gridE W H (W * H) = 0 := by rw [gridE, if_neg (by rw [inB_yes (by omega), inB_yes (by omega)]; simp), if_neg (by simp)]
  have hWH : 1 ≤ W * H := Nat.mul_le_mul hW.1 hH.1
  have hWH2 : W * H ≤ 1048576 := Nat.mul_le_mul hW.2 hH.2
  have hpH : Hid _ := hp
  clear hp
  go_enter Try.func31, Try.ntmps31
  go_wp2_with fail
  refine (gridCheck_any W H _ (W * H) cap _).mono ?_
  rw [h0]
  rintro e w' ⟨rfl, rfl⟩
  go_wp2_with fail
  go_region
  all_goals
    go_wp2_with fail
    refine mix3 4 43 (by kernel_rfl) (by kernel_rfl) ⟨by rfl, by simp⟩ ⟨_, rfl, rfl, rfl⟩ ?_
    apply Exists.intro
    refine ⟨Row8 (w.heap.size + 5) (W * H) pix, fun v u u' hb h => Row8.below h hb, fun F => ?_, fun o ho w' hw' => ?_, fun v w9 hb hR => ?_⟩
    · haveI := F.ne
      simp only [List.take_succ_cons, List.take_zero]
      repeat (go_big_quiet_step (fail))
      exact wpQuiet_nil rfl
    · obtain rfl := Option.some.inj ho
      have hBw : Below w.heap.size w w' := step_le hw' (by (repeat' (with_reducible first | exact Below.refl _ _ | refine past_le ?_ ?_ _ | refine Below.alloc ?_ ?_ _ | refine Below.drew ?_ | refine drewN_le ?_ _ | refine Below.setCell ?_ ?_ _ | refine step_le (by assumption) ?_ ?_ | omega | (simp only []; omega) | (simp only [World.size_alloc]; omega) | (simp only [World.size_setCell]; omega) | (simp only [World.size_drew]; omega) | (simp only [World.size_alloc, World.size_setCell]; omega) | (simp only [World.size_alloc, World.size_drew]; omega) | (simp only [World.size_setCell, World.size_drew]; omega) | (simp only [World.size_alloc, World.size_setCell, World.size_drew]; omega)))) (by simp only [World.size_drew, World.size_alloc]; omega)
      refine makes_enter 66 #[.slice (some ⟨b, off, none⟩) (W * H : Nat) cap] (by kernel_rfl) ((clone_any b off (W * H) cap pix w' ⟨hWH, hWH2⟩ fun i hi => (hBw.cell (p := ⟨b, _, none⟩) hlt).trans (hpH.out i hi)).mono ?_)
      rintro e w'' ⟨v', he, hb', hR⟩
      exact ⟨v', he, hb', hR.mono (by have := hw'.size; simp only [World.size_drew, World.size_alloc] at this; omega)⟩
    obtain ⟨g, q, rfl, hq1, hq2, hg1, hg2, hpx⟩ := hR
    have hpxH : Hid _ := hpx
    have hbH : Hid (Below w.heap.size w w9) := show Below w.heap.size w w9 from step_le hb (by (repeat' (with_reducible first | exact Below.refl _ _ | refine past_le ?_ ?_ _ | refine Below.alloc ?_ ?_ _ | refine Below.drew ?_ | refine drewN_le ?_ _ | refine Below.setCell ?_ ?_ _ | refine step_le (by assumption) ?_ ?_ | omega | (simp only []; omega) | (simp only [World.size_alloc]; omega) | (simp only [World.size_setCell]; omega) | (simp only [World.size_drew]; omega) | (simp only [World.size_alloc, World.size_setCell]; omega) | (simp only [World.size_alloc, World.size_drew]; omega) | (simp only [World.size_setCell, World.size_drew]; omega) | (simp only [World.size_alloc, World.size_setCell, World.size_drew]; omega)))) (by simp only [World.size_drew, World.size_alloc]; omega)
    obtain ⟨hc9, hf9, hz9⟩ := bcell hb
    simp only [World.size_drew, World.size_alloc] at hc9 hf9 hz9
    have hr9 : ∀ o, w9.cell? ⟨w.heap.size + 1, o, none⟩ = #[Value.int .i64 0, .int .i64 0, .slice none 0 0][o]? := fun o => by
      rw [hc9, if_pos (by omega)]; simp [go_sem]
    have hrF9 : ∀ o, w9.frozen? ⟨w.heap.size + 1, o, none⟩ = false := fun o => by
      rw [hf9, if_pos (by omega)]; simp [go_sem]
    clear hc9 hf9 hb hpx
    simp only [List.drop_succ_cons, List.drop_zero, Act.put, List.setIfInBounds_toArray, List.set_cons_succ, List.set_cons_zero]
    go_wp2_with fail
    refine bodyPost_ret (by simp [results, Try.results31, go_sem, hr9]; try rfl) rfl ?_
    refine ⟨_, _, rfl, ⟨hq1, hq2⟩, ((hbH.out.setCell (Nat.le_succ _) _).setCell (Nat.le_succ _) _).setCell (Nat.le_succ _) _, bytes_of_cells0 fun j hj => ?_⟩
    rw [cell_setCell_if, if_neg (by omega), cell_setCell_if, if_neg (by omega), cell_setCell_if, if_neg (by omega)]
    exact hpxH.out j hj
end Go.Proofs.Ytoiblpncofbdpaa
