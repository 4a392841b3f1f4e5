/-
  The contract of compose.Over.
-/
import Derived.Test.YtampdegpfndggaaPainted
import Derived.Test.YtampdegpfndggaaComposeMix
namespace Go.Proofs.Ytampdegpfndggaa
open Go.RowKit

theorem cell_old (w : World) (o : Obj) (n i : Nat) (h : n < w.heap.size) : (w.alloc o).cell? ⟨n, i, none⟩ = w.cell? ⟨n, i, none⟩ := ((Below.refl w.heap.size w).alloc (Nat.le_refl _) o).cell (p := ⟨n, i, none⟩) h
theorem frozen_old (w : World) (o : Obj) (n i : Nat) (h : n < w.heap.size) : (w.alloc o).frozen? ⟨n, i, none⟩ = w.frozen? ⟨n, i, none⟩ := ((Below.refl w.heap.size w).alloc (Nat.le_refl _) o).frozen (p := ⟨n, i, none⟩) h
set_option maxRecDepth 20000 in
set_option maxHeartbeats 4000000 in
theorem Over_e1 (md : Int) (S I B : Nat → Int) (q : Int) (ov : Bool) (w : World) (hs : stE S = 4) :
    Calls Try.prog 19 #[.agg #[.int .u8 (S 0), .int .u8 (S 1), .int .u8 (S 2), .int .u8 (S 3), .int .u8 (S 4), .int .u8 (S 5), .int .u8 (S 6), .int .u8 (S 7), .int .u8 (S 8)], .agg #[.int .u8 (I 0), .int .u8 (I 1), .int .u8 (I 2), .int .u8 (I 3), .int .u8 (I 4), .int .u8 (I 5), .int .u8 (I 6), .int .u8 (I 7)], .int .u8 q, .int .i64 md, .bool ov] w fun e w' => e = .returned (.tuple #[.agg #[.int .u8 0, .int .u8 0, .int .u8 0, .int .u8 0, .int .u8 0, .int .u8 0, .int .u8 0, .int .u8 0, .int .u8 0], .int .i64 4]) ∧ Below w.heap.size w w' := by
  have HS : Hid _ := hs
  clear hs
  go_enter Try.func19, Try.ntmps19
  go_wp2_with fail
  refine (composeCheck_any S _).mono ?_
  rw [HS.out]
  rintro e w' ⟨rfl, rfl⟩
  go_wp2_with fail
  refine bodyPost_ret (by simp [results, Try.results19, go_sem]; try rfl) rfl ?_
  exact ⟨rfl, by (repeat' (with_reducible first | exact Below.refl _ _ | refine past_le ?_ ?_ _ | refine Below.alloc ?_ ?_ _ | refine Below.drew ?_ | refine drewN_le ?_ _ | refine Below.setCell ?_ ?_ _ | refine step_le (by assumption) ?_ ?_ | omega | (simp only []; omega) | (simp only [World.size_alloc]; omega) | (simp only [World.size_setCell]; omega) | (simp only [World.size_drew]; omega) | (simp only [World.size_alloc, World.size_setCell]; omega) | (simp only [World.size_alloc, World.size_drew]; omega) | (simp only [World.size_setCell, World.size_drew]; omega) | (simp only [World.size_alloc, World.size_setCell, World.size_drew]; omega) | (simp only [World.size_alloc, World.size_setCell, World.size_drew, size_drewN]; omega)))⟩
set_option maxRecDepth 20000 in
set_option maxHeartbeats 4000000 in
theorem Over_e2 (md : Int) (S I B : Nat → Int) (q : Int) (ov : Bool) (w : World) (hs : stE S = 0) (hmd : ¬(0 ≤ md ∧ md ≤ 11)) :
    Calls Try.prog 19 #[.agg #[.int .u8 (S 0), .int .u8 (S 1), .int .u8 (S 2), .int .u8 (S 3), .int .u8 (S 4), .int .u8 (S 5), .int .u8 (S 6), .int .u8 (S 7), .int .u8 (S 8)], .agg #[.int .u8 (I 0), .int .u8 (I 1), .int .u8 (I 2), .int .u8 (I 3), .int .u8 (I 4), .int .u8 (I 5), .int .u8 (I 6), .int .u8 (I 7)], .int .u8 q, .int .i64 md, .bool ov] w fun e w' => e = .returned (.tuple #[.agg #[.int .u8 0, .int .u8 0, .int .u8 0, .int .u8 0, .int .u8 0, .int .u8 0, .int .u8 0, .int .u8 0, .int .u8 0], .int .i64 1]) ∧ Below w.heap.size w w' := by
  have HS : Hid _ := hs
  clear hs
  have q1 : ∀ w, (binOp .eql 101 .nilFunc .nilFunc).run Try.prog w = .ok (.bool true) w := fun _ => by kernel_rfl
  go_enter Try.func19, Try.ntmps19
  go_wp2_with fail
  refine (composeCheck_any S _).mono ?_
  rw [HS.out]
  rintro e w' ⟨rfl, rfl⟩
  go_wp2_with fail
  refine (Inks_no md _ hmd).mono ?_
  rintro e w1 ⟨rfl, hb⟩
  obtain ⟨hc1, hf1, hz1⟩ := bcell hb
  simp only [World.size_alloc] at hc1 hf1 hz1
  have hr : ∀ o, w1.cell? ⟨w.heap.size + 1 + 1, o, none⟩ = #[Value.int .u8 0, .int .u8 0, .int .u8 0, .int .u8 0, .int .u8 0, .int .u8 0, .int .u8 0, .int .u8 0, .int .u8 0][o]? := fun o => by
    rw [hc1, if_pos (by omega)]; simp +arith [cell_alloc_if]
  have hrF : ∀ o, w1.frozen? ⟨w.heap.size + 1 + 1, o, none⟩ = false := fun o => by
    rw [hf1, if_pos (by omega)]; simp +arith [frozen_alloc_if]
  have HB : Hid (Below w.heap.size w w1) := show Below w.heap.size w w1 from step_le hb (by (repeat' (with_reducible first | exact Below.refl _ _ | refine past_le ?_ ?_ _ | refine Below.alloc ?_ ?_ _ | refine Below.drew ?_ | refine drewN_le ?_ _ | refine Below.setCell ?_ ?_ _ | refine step_le (by assumption) ?_ ?_ | omega | (simp only []; omega) | (simp only [World.size_alloc]; omega) | (simp only [World.size_setCell]; omega) | (simp only [World.size_drew]; omega) | (simp only [World.size_alloc, World.size_setCell]; omega) | (simp only [World.size_alloc, World.size_drew]; omega) | (simp only [World.size_setCell, World.size_drew]; omega) | (simp only [World.size_alloc, World.size_setCell, World.size_drew]; omega) | (simp only [World.size_alloc, World.size_setCell, World.size_drew, size_drewN]; omega)))) (by simp only [World.size_alloc]; omega)
  clear hb hc1 hf1
  go_wp2_with fail
  refine bodyPost_ret (by simp [results, Try.results19, go_sem, hr]; try rfl) rfl ?_
  exact ⟨rfl, (((((((((HB.out.setCell (by show w.heap.size ≤ w.heap.size + 1 + 1; omega) _).setCell (by show w.heap.size ≤ w.heap.size + 1 + 1; omega) _).setCell (by show w.heap.size ≤ w.heap.size + 1 + 1; omega) _).setCell (by show w.heap.size ≤ w.heap.size + 1 + 1; omega) _).setCell (by show w.heap.size ≤ w.heap.size + 1 + 1; omega) _).setCell (by show w.heap.size ≤ w.heap.size + 1 + 1; omega) _).setCell (by show w.heap.size ≤ w.heap.size + 1 + 1; omega) _).setCell (by show w.heap.size ≤ w.heap.size + 1 + 1; omega) _).setCell (by show w.heap.size ≤ w.heap.size + 1 + 1; omega) _)⟩
set_option maxRecDepth 20000 in
set_option maxHeartbeats 4000000 in
theorem Over_e3 (md : Int) (S I B : Nat → Int) (q : Int) (ov : Bool) (w : World) (hs : stE S = 0) (hmd : 0 ≤ md ∧ md ≤ 11) (hq : q = 0) (hz : zer8 I = false) :
    Calls Try.prog 19 #[.agg #[.int .u8 (S 0), .int .u8 (S 1), .int .u8 (S 2), .int .u8 (S 3), .int .u8 (S 4), .int .u8 (S 5), .int .u8 (S 6), .int .u8 (S 7), .int .u8 (S 8)], .agg #[.int .u8 (I 0), .int .u8 (I 1), .int .u8 (I 2), .int .u8 (I 3), .int .u8 (I 4), .int .u8 (I 5), .int .u8 (I 6), .int .u8 (I 7)], .int .u8 q, .int .i64 md, .bool ov] w fun e w' => e = .returned (.tuple #[.agg #[.int .u8 0, .int .u8 0, .int .u8 0, .int .u8 0, .int .u8 0, .int .u8 0, .int .u8 0, .int .u8 0, .int .u8 0], .int .i64 4]) ∧ Below w.heap.size w w' := by
  have HS : Hid _ := hs
  have hn := zer8_no hz
  clear hs hz
  subst hq
  have q1 : ∀ c w, (binOp .eql 101 (.func (.func 97) #[] c) .nilFunc).run Try.prog w = .ok (.bool false) w := fun _ _ => by kernel_rfl
  rcases hn with h1 | ⟨h1, h2⟩ | ⟨h1, h2, h3⟩ | ⟨h1, h2, h3, h4⟩ | ⟨h1, h2, h3, h4, h5⟩ | ⟨h1, h2, h3, h4, h5, h6⟩ | ⟨h1, h2, h3, h4, h5, h6, h7⟩ | ⟨h1, h2, h3, h4, h5, h6, h7, h8⟩
  all_goals
    go_enter Try.func19, Try.ntmps19
    go_wp2_with fail
    refine (composeCheck_any S _).mono ?_
    rw [HS.out]
    rintro e w' ⟨rfl, rfl⟩
    go_wp2_with fail
    refine (Inks_any md _ hmd).mono ?_
    rintro e w1 ⟨rfl, rfl⟩
    go_wp2_with fail
    refine bodyPost_ret (by simp [results, Try.results19, go_sem]; try rfl) rfl ?_
    exact ⟨rfl, by (repeat' (with_reducible first | exact Below.refl _ _ | refine past_le ?_ ?_ _ | refine Below.alloc ?_ ?_ _ | refine Below.drew ?_ | refine drewN_le ?_ _ | refine Below.setCell ?_ ?_ _ | refine step_le (by assumption) ?_ ?_ | omega | (simp only []; omega) | (simp only [World.size_alloc]; omega) | (simp only [World.size_setCell]; omega) | (simp only [World.size_drew]; omega) | (simp only [World.size_alloc, World.size_setCell]; omega) | (simp only [World.size_alloc, World.size_drew]; omega) | (simp only [World.size_setCell, World.size_drew]; omega) | (simp only [World.size_alloc, World.size_setCell, World.size_drew]; omega) | (simp only [World.size_alloc, World.size_setCell, World.size_drew, size_drewN]; omega)))⟩
set_option maxRecDepth 20000 in
set_option maxHeartbeats 4000000 in
theorem Over_ok (md : Int) (S I B : Nat → Int) (q : Int) (ov : Bool) (w : World) (hs : stE S = 0) (hmd : 0 ≤ md ∧ md ≤ 11) (hz : ¬(q = 0 ∧ zer8 I = false)) (hS : ∀ o, o < 9 → 0 ≤ S o ∧ S o ≤ 255) (hI : ∀ o, o < 8 → 0 ≤ I o ∧ I o ≤ 255) (hq : 0 ≤ q ∧ q ≤ 255) (hB : ∀ o, o < 9 → B o = pnt md S I q ov o) :
    Calls Try.prog 19 #[.agg #[.int .u8 (S 0), .int .u8 (S 1), .int .u8 (S 2), .int .u8 (S 3), .int .u8 (S 4), .int .u8 (S 5), .int .u8 (S 6), .int .u8 (S 7), .int .u8 (S 8)], .agg #[.int .u8 (I 0), .int .u8 (I 1), .int .u8 (I 2), .int .u8 (I 3), .int .u8 (I 4), .int .u8 (I 5), .int .u8 (I 6), .int .u8 (I 7)], .int .u8 q, .int .i64 md, .bool ov] w fun e w' => e = .returned (.tuple #[.agg #[.int .u8 (B 0), .int .u8 (B 1), .int .u8 (B 2), .int .u8 (B 3), .int .u8 (B 4), .int .u8 (B 5), .int .u8 (B 6), .int .u8 (B 7), .int .u8 (B 8)], .int .i64 0]) ∧ Below w.heap.size w w' := by
  have HS : Hid _ := hs
  have HP : Hid (∀ (p p2 : Nat) (w' : World), (p < w'.heap.size ∧ p2 < w'.heap.size) → (∀ o, w'.cell? ⟨p, o, none⟩ = #[Value.func (.func 129) #[] #[.pointer (some ⟨p2, 0, none⟩)]][o]?) → (∀ o, w'.cell? ⟨p2, o, none⟩ = #[Value.func (.func (modeF md)) #[] #[]][o]?) →
      Calls Try.prog 59 #[.agg #[.int .u8 (S 0), .int .u8 (S 1), .int .u8 (S 2), .int .u8 (S 3), .int .u8 (S 4), .int .u8 (S 5), .int .u8 (S 6), .int .u8 (S 7), .int .u8 (S 8)], .agg #[.int .u8 (I 0), .int .u8 (I 1), .int .u8 (I 2), .int .u8 (I 3), .int .u8 (I 4), .int .u8 (I 5), .int .u8 (I 6), .int .u8 (I 7)], .int .u8 q, .func (.func 97) #[] #[.pointer (some ⟨p, 0, none⟩)], .bool ov] w' fun e w'' => e = .returned (.agg #[.int .u8 (B 0), .int .u8 (B 1), .int .u8 (B 2), .int .u8 (B 3), .int .u8 (B 4), .int .u8 (B 5), .int .u8 (B 6), .int .u8 (B 7), .int .u8 (B 8)]) ∧ Below w'.heap.size w' w'') := fun p p2 w' h1 h2 h3 => Paint_any md S I B q ov w' p p2 h1 h2 h3 hmd hS hI hq hB
  have hzz : (q == 0) = false ∨ (q = 0 ∧ zer8 I = true) := by
    by_cases h : q = 0
    · refine .inr ⟨h, ?_⟩
      cases hz8 : zer8 I with
      | true => rfl
      | false => exact absurd ⟨h, hz8⟩ hz
    · exact .inl (by simpa using h)
  clear hs hz hS hI hB
  have q1 : ∀ c w, (binOp .eql 101 (.func (.func 97) #[] c) .nilFunc).run Try.prog w = .ok (.bool false) w := fun _ _ => by kernel_rfl
  rcases hzz with hq0 | ⟨rfl, hz8⟩
  · go_enter Try.func19, Try.ntmps19
    go_wp2_with fail
    refine (composeCheck_any S _).mono ?_
    rw [HS.out]
    rintro e w' ⟨rfl, rfl⟩
    go_wp2_with fail
    refine (Inks_any md _ hmd).mono ?_
    rintro e w1 ⟨rfl, rfl⟩
    go_wp2_with fail
    refine (HP.out (w.heap.size + 1 + 1 + 1 + 1 + 2) (w.heap.size + 1 + 1 + 1 + 1 + 1) _ (by simp only [World.size_alloc]; omega) (fun o => ?_) (fun o => ?_)).mono ?_
    · simp +arith [cell_alloc_if]
    · simp +arith [cell_alloc_if]
    rintro e w1 ⟨rfl, hb⟩
    obtain ⟨hc1, hf1, hz1⟩ := bcell hb
    simp only [World.size_alloc] at hc1 hf1 hz1
    have hr : ∀ o, w1.cell? ⟨w.heap.size + 1 + 1, o, none⟩ = #[Value.int .u8 0, .int .u8 0, .int .u8 0, .int .u8 0, .int .u8 0, .int .u8 0, .int .u8 0, .int .u8 0, .int .u8 0][o]? := fun o => by
      rw [hc1, if_pos (by omega), cell_old _ _ _ _ (by simp only [World.size_alloc]; omega), cell_old _ _ _ _ (by simp only [World.size_alloc]; omega), cell_old _ _ _ _ (by simp only [World.size_alloc]; omega), cell_old _ _ _ _ (by simp only [World.size_alloc]; omega), cell_alloc_if, if_pos (by simp only [World.size_alloc])]
    have hrF : ∀ o, w1.frozen? ⟨w.heap.size + 1 + 1, o, none⟩ = false := fun o => by
      rw [hf1, if_pos (by omega), frozen_old _ _ _ _ (by simp only [World.size_alloc]; omega), frozen_old _ _ _ _ (by simp only [World.size_alloc]; omega), frozen_old _ _ _ _ (by simp only [World.size_alloc]; omega), frozen_old _ _ _ _ (by simp only [World.size_alloc]; omega), frozen_alloc_if, if_pos (by simp only [World.size_alloc])]
    have HB : Hid (Below w.heap.size w w1) := show Below w.heap.size w w1 from step_le hb (by (repeat' (with_reducible first | exact Below.refl _ _ | refine past_le ?_ ?_ _ | refine Below.alloc ?_ ?_ _ | refine Below.drew ?_ | refine drewN_le ?_ _ | refine Below.setCell ?_ ?_ _ | refine step_le (by assumption) ?_ ?_ | omega | (simp only []; omega) | (simp only [World.size_alloc]; omega) | (simp only [World.size_setCell]; omega) | (simp only [World.size_drew]; omega) | (simp only [World.size_alloc, World.size_setCell]; omega) | (simp only [World.size_alloc, World.size_drew]; omega) | (simp only [World.size_setCell, World.size_drew]; omega) | (simp only [World.size_alloc, World.size_setCell, World.size_drew]; omega) | (simp only [World.size_alloc, World.size_setCell, World.size_drew, size_drewN]; omega)))) (by simp only [World.size_alloc]; omega)
    clear hb hc1 hf1
    go_wp2_with fail
    refine bodyPost_ret (by simp [results, Try.results19, go_sem, hr]; try rfl) rfl ?_
    exact ⟨rfl, (((((((((HB.out.setCell (by show w.heap.size ≤ w.heap.size + 1 + 1; omega) _).setCell (by show w.heap.size ≤ w.heap.size + 1 + 1; omega) _).setCell (by show w.heap.size ≤ w.heap.size + 1 + 1; omega) _).setCell (by show w.heap.size ≤ w.heap.size + 1 + 1; omega) _).setCell (by show w.heap.size ≤ w.heap.size + 1 + 1; omega) _).setCell (by show w.heap.size ≤ w.heap.size + 1 + 1; omega) _).setCell (by show w.heap.size ≤ w.heap.size + 1 + 1; omega) _).setCell (by show w.heap.size ≤ w.heap.size + 1 + 1; omega) _).setCell (by show w.heap.size ≤ w.heap.size + 1 + 1; omega) _)⟩
  · obtain ⟨h1, h2, h3, h4, h5, h6, h7, h8⟩ := zer8_yes hz8
    clear hz8
    rw [h1, h2, h3, h4, h5, h6, h7, h8] at HP
    rw [h1, h2, h3, h4, h5, h6, h7, h8]
    go_enter Try.func19, Try.ntmps19
    go_wp2_with fail
    refine (composeCheck_any S _).mono ?_
    rw [HS.out]
    rintro e w' ⟨rfl, rfl⟩
    go_wp2_with fail
    refine (Inks_any md _ hmd).mono ?_
    rintro e w1 ⟨rfl, rfl⟩
    go_wp2_with fail
    refine (HP.out (w.heap.size + 1 + 1 + 1 + 1 + 2) (w.heap.size + 1 + 1 + 1 + 1 + 1) _ (by simp only [World.size_alloc]; omega) (fun o => ?_) (fun o => ?_)).mono ?_
    · simp +arith [cell_alloc_if]
    · simp +arith [cell_alloc_if]
    rintro e w1 ⟨rfl, hb⟩
    obtain ⟨hc1, hf1, hz1⟩ := bcell hb
    simp only [World.size_alloc] at hc1 hf1 hz1
    have hr : ∀ o, w1.cell? ⟨w.heap.size + 1 + 1, o, none⟩ = #[Value.int .u8 0, .int .u8 0, .int .u8 0, .int .u8 0, .int .u8 0, .int .u8 0, .int .u8 0, .int .u8 0, .int .u8 0][o]? := fun o => by
      rw [hc1, if_pos (by omega), cell_old _ _ _ _ (by simp only [World.size_alloc]; omega), cell_old _ _ _ _ (by simp only [World.size_alloc]; omega), cell_old _ _ _ _ (by simp only [World.size_alloc]; omega), cell_old _ _ _ _ (by simp only [World.size_alloc]; omega), cell_alloc_if, if_pos (by simp only [World.size_alloc])]
    have hrF : ∀ o, w1.frozen? ⟨w.heap.size + 1 + 1, o, none⟩ = false := fun o => by
      rw [hf1, if_pos (by omega), frozen_old _ _ _ _ (by simp only [World.size_alloc]; omega), frozen_old _ _ _ _ (by simp only [World.size_alloc]; omega), frozen_old _ _ _ _ (by simp only [World.size_alloc]; omega), frozen_old _ _ _ _ (by simp only [World.size_alloc]; omega), frozen_alloc_if, if_pos (by simp only [World.size_alloc])]
    have HB : Hid (Below w.heap.size w w1) := show Below w.heap.size w w1 from step_le hb (by (repeat' (with_reducible first | exact Below.refl _ _ | refine past_le ?_ ?_ _ | refine Below.alloc ?_ ?_ _ | refine Below.drew ?_ | refine drewN_le ?_ _ | refine Below.setCell ?_ ?_ _ | refine step_le (by assumption) ?_ ?_ | omega | (simp only []; omega) | (simp only [World.size_alloc]; omega) | (simp only [World.size_setCell]; omega) | (simp only [World.size_drew]; omega) | (simp only [World.size_alloc, World.size_setCell]; omega) | (simp only [World.size_alloc, World.size_drew]; omega) | (simp only [World.size_setCell, World.size_drew]; omega) | (simp only [World.size_alloc, World.size_setCell, World.size_drew]; omega) | (simp only [World.size_alloc, World.size_setCell, World.size_drew, size_drewN]; omega)))) (by simp only [World.size_alloc]; omega)
    clear hb hc1 hf1
    go_wp2_with fail
    refine bodyPost_ret (by simp [results, Try.results19, go_sem, hr]; try rfl) rfl ?_
    exact ⟨rfl, (((((((((HB.out.setCell (by show w.heap.size ≤ w.heap.size + 1 + 1; omega) _).setCell (by show w.heap.size ≤ w.heap.size + 1 + 1; omega) _).setCell (by show w.heap.size ≤ w.heap.size + 1 + 1; omega) _).setCell (by show w.heap.size ≤ w.heap.size + 1 + 1; omega) _).setCell (by show w.heap.size ≤ w.heap.size + 1 + 1; omega) _).setCell (by show w.heap.size ≤ w.heap.size + 1 + 1; omega) _).setCell (by show w.heap.size ≤ w.heap.size + 1 + 1; omega) _).setCell (by show w.heap.size ≤ w.heap.size + 1 + 1; omega) _).setCell (by show w.heap.size ≤ w.heap.size + 1 + 1; omega) _)⟩
def overE (md : Int) (S I : Nat → Int) (q : Int) : Int := if stE S ≠ 0 then 4 else if ¬(0 ≤ md ∧ md ≤ 11) then 1 else if q = 0 ∧ zer8 I = false then 4 else 0
theorem Over_any (md : Int) (S I B : Nat → Int) (q : Int) (ov : Bool) (w : World) (hS : ∀ o, o < 9 → 0 ≤ S o ∧ S o ≤ 255) (hI : ∀ o, o < 8 → 0 ≤ I o ∧ I o ≤ 255) (hq : 0 ≤ q ∧ q ≤ 255) (hB : ∀ o, o < 9 → B o = if overE md S I q = 0 then pnt md S I q ov o else 0) :
    Calls Try.prog 19 #[.agg #[.int .u8 (S 0), .int .u8 (S 1), .int .u8 (S 2), .int .u8 (S 3), .int .u8 (S 4), .int .u8 (S 5), .int .u8 (S 6), .int .u8 (S 7), .int .u8 (S 8)], .agg #[.int .u8 (I 0), .int .u8 (I 1), .int .u8 (I 2), .int .u8 (I 3), .int .u8 (I 4), .int .u8 (I 5), .int .u8 (I 6), .int .u8 (I 7)], .int .u8 q, .int .i64 md, .bool ov] w fun e w' => e = .returned (.tuple #[.agg #[.int .u8 (B 0), .int .u8 (B 1), .int .u8 (B 2), .int .u8 (B 3), .int .u8 (B 4), .int .u8 (B 5), .int .u8 (B 6), .int .u8 (B 7), .int .u8 (B 8)], .int .i64 (overE md S I q)]) ∧ Below w.heap.size w w' := by
  have hz : overE md S I q ≠ 0 → B 0 = 0 ∧ B 1 = 0 ∧ B 2 = 0 ∧ B 3 = 0 ∧ B 4 = 0 ∧ B 5 = 0 ∧ B 6 = 0 ∧ B 7 = 0 ∧ B 8 = 0 := fun h =>
    ⟨by rw [hB 0 (by omega), if_neg h], by rw [hB 1 (by omega), if_neg h], by rw [hB 2 (by omega), if_neg h], by rw [hB 3 (by omega), if_neg h], by rw [hB 4 (by omega), if_neg h], by rw [hB 5 (by omega), if_neg h], by rw [hB 6 (by omega), if_neg h], by rw [hB 7 (by omega), if_neg h], by rw [hB 8 (by omega), if_neg h]⟩
  rcases stE_or S with hs | hs
  · by_cases hmd : 0 ≤ md ∧ md ≤ 11
    · by_cases h3 : q = 0 ∧ zer8 I = false
      · have hE : overE md S I q = 4 := by rw [overE, if_neg (by simp [hs]), if_neg (by simp [hmd]), if_pos h3]
        obtain ⟨e0, e1, e2, e3, e4, e5, e6, e7, e8⟩ := hz (by rw [hE]; decide)
        rw [hE, e0, e1, e2, e3, e4, e5, e6, e7, e8]
        exact Over_e3 md S I B q ov w hs hmd h3.1 h3.2
      · have hE : overE md S I q = 0 := by rw [overE, if_neg (by simp [hs]), if_neg (by simp [hmd]), if_neg h3]
        rw [hE]
        exact Over_ok md S I B q ov w hs hmd h3 hS hI hq (fun o ho => by rw [hB o ho, if_pos hE])
    · have hE : overE md S I q = 1 := by rw [overE, if_neg (by simp [hs]), if_pos hmd]
      obtain ⟨e0, e1, e2, e3, e4, e5, e6, e7, e8⟩ := hz (by rw [hE]; decide)
      rw [hE, e0, e1, e2, e3, e4, e5, e6, e7, e8]
      exact Over_e2 md S I B q ov w hs hmd
  · have hE : overE md S I q = 4 := by rw [overE, if_pos (by rw [hs]; decide)]
    obtain ⟨e0, e1, e2, e3, e4, e5, e6, e7, e8⟩ := hz (by rw [hE]; decide)
    rw [hE, e0, e1, e2, e3, e4, e5, e6, e7, e8]
    exact Over_e1 md S I B q ov w hs
end Go.Proofs.Ytampdegpfndggaa
