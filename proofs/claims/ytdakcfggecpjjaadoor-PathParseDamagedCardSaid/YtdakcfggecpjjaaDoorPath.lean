/-
  Contracts of package path: one segment.
-/
import Derived.Test.YtdakcfggecpjjaaDoorIn
import Derived.Test.YtdakcfggecpjjaaDoorCoord
import Derived.Test.YtdakcfggecpjjaaDoorPast
import Derived.Test.YtdakcfggecpjjaaDoorMrg3
namespace Go.Proofs.YtdakcfggecpjjaaDoor
open Go.RowKit

def coB (x : Int) : Bool := inB x (-32767) 32767
theorem coB_yes {x : Int} (h : -32767 ≤ x ∧ x ≤ 32767) : coB x = true := inB_iff.2 h
theorem coB_no {x : Int} (h : ¬(-32767 ≤ x ∧ x ≤ 32767)) : coB x = false := by
  cases hc : coB x
  · rfl
  · exact absurd (inB_iff.1 hc) h
set_option maxHeartbeats 400000 in
theorem pwithin_list (b n : Nat) (zs : List Int) (w : World) (hn : zs.length = n) (hl : n ≤ 1000) (hc : ∀ j, (h : j < n) → w.cell? ⟨b, j, none⟩ = some (.int .i64 (zs[j]))) :
    Calls Tryd.prog 21 #[.slice (some ⟨b, 0, none⟩) n n] w fun e w' => e = .returned (.bool (zs.all coB)) ∧ w = w' := by
  go_enter Tryd.func21, Tryd.ntmps21
  go_wp2
  go_loop [7] (fun i => ∃ k : Nat, k ≤ n ∧ i = .int .i64 k ∧ (zs.take k).all coB = true) (fun i => n - (intOf i).toNat)
  case atStart => exact ⟨0, Nat.zero_le _, rfl, rfl⟩
  case round =>
    obtain ⟨k, hk, rfl, hall⟩ := hrel
    by_cases hlt : k < n
    · have hck := hc k hlt
      have hlt' : k < zs.length := by omega
      have HS : Hid _ := all_take_succ coB zs k hlt'
      have hA : Hid _ := hall
      clear hall
      by_cases hx : -32767 ≤ zs[k] ∧ zs[k] ≤ 32767
      · go_wp2
        go_round
        case rel => exact ⟨k + 1, by omega, by go_num, by rw [HS.out, hA.out, coB_yes hx]; rfl⟩
        case measure => simp [intOf]; omega
      · by_cases h1 : zs[k] < -32767
        all_goals
          go_wp2
          go_ret
          refine ⟨ret_bool ?_, rfl⟩
          symm
          rw [List.all_eq_false]
          exact ⟨zs[k], List.getElem_mem _, by rw [coB_no hx]; simp⟩
    · go_wp2
      go_ret
      rw [List.take_of_length_le (by omega)] at hall
      exact ⟨by rw [hall]; rfl, rfl⟩
theorem pwithin_any (a b c d : Int) (w : World) (B : Nat) (h : ∀ o, w.cell? ⟨B, o, none⟩ = #[.int .i64 a, .int .i64 b, .int .i64 c, .int .i64 d][o]?) :
    Calls Tryd.prog 21 #[.slice (some ⟨B, 0, none⟩) 4 4] w fun e w' => e = .returned (.bool (ptB a b && ptB c d)) ∧ w = w' :=
  (pwithin_list B 4 [a, b, c, d] w rfl (by omega) (fun j hj => by
    rw [h]
    match j, hj with
    | 0, _ => rfl
    | 1, _ => rfl
    | 2, _ => rfl
    | 3, _ => rfl)).mono fun e w' ⟨h, hw⟩ => ⟨by rw [h]; simp [ptB, coB, Bool.and_assoc], hw⟩
/-- The error of a segment for itself. -/
def segE (k x y u v w : Int) : Int :=
  if k = 3 then (if w < 16 ∨ 4096 < w then 3 else if ptB x y = true ∧ ptB u v = true then 0 else 3)
  else if k = 1 ∨ k = 2 then (if u ≠ 0 ∨ v ≠ 0 ∨ w ≠ 0 then 4 else if ptB x y = true then 0 else 3)
  else if k = 4 then (if x ≠ 0 ∨ y ≠ 0 ∨ u ≠ 0 ∨ v ≠ 0 ∨ w ≠ 0 then 4 else 0)
  else 14
set_option maxHeartbeats 2000000 in
theorem CheckSeg_3lo (x y u v s : Int) (w : World) (h1 : s < 16) :
    Calls Tryd.prog 27 #[.agg #[.int .i64 3, .int .i64 x, .int .i64 y, .int .i64 u, .int .i64 v, .int .i64 s]] w fun e w' => e = .returned (.int .i64 (segE 3 x y u v s)) ∧ Below w.heap.size w w' := by
  go_enter Tryd.func27, Tryd.ntmps27
  go_wp2_with (first | (go_at_call 21; refine (pwithin_any x y u v _ _ (by intro o; simp [go_sem])).mono ?_; rintro e w' ⟨rfl, rfl⟩))
  all_goals go_ret
  all_goals exact ⟨ret_int (by simp_all [segE]), by (repeat' (with_reducible first | exact Below.refl _ _ | refine past_le ?_ ?_ _ | refine Below.alloc ?_ ?_ _ | refine Below.drew ?_ | refine drewN_le ?_ _ | refine Below.setCell ?_ ?_ _ | refine step_le (by assumption) ?_ ?_ | omega | (simp only []; omega) | (simp only [World.size_alloc]; omega) | (simp only [World.size_setCell]; omega) | (simp only [World.size_drew]; omega) | (simp only [World.size_alloc, World.size_setCell]; omega) | (simp only [World.size_alloc, World.size_drew]; omega) | (simp only [World.size_setCell, World.size_drew]; omega) | (simp only [World.size_alloc, World.size_setCell, World.size_drew]; omega) | (simp only [World.size_alloc, World.size_setCell, World.size_drew, size_drewN]; omega)))⟩
set_option maxHeartbeats 2000000 in
theorem CheckSeg_3hi (x y u v s : Int) (w : World) (h1 : ¬ s < 16) (h2 : 4096 < s) :
    Calls Tryd.prog 27 #[.agg #[.int .i64 3, .int .i64 x, .int .i64 y, .int .i64 u, .int .i64 v, .int .i64 s]] w fun e w' => e = .returned (.int .i64 (segE 3 x y u v s)) ∧ Below w.heap.size w w' := by
  go_enter Tryd.func27, Tryd.ntmps27
  go_wp2_with (first | (go_at_call 21; refine (pwithin_any x y u v _ _ (by intro o; simp [go_sem])).mono ?_; rintro e w' ⟨rfl, rfl⟩))
  all_goals go_ret
  all_goals exact ⟨ret_int (by simp_all [segE]), by (repeat' (with_reducible first | exact Below.refl _ _ | refine past_le ?_ ?_ _ | refine Below.alloc ?_ ?_ _ | refine Below.drew ?_ | refine drewN_le ?_ _ | refine Below.setCell ?_ ?_ _ | refine step_le (by assumption) ?_ ?_ | omega | (simp only []; omega) | (simp only [World.size_alloc]; omega) | (simp only [World.size_setCell]; omega) | (simp only [World.size_drew]; omega) | (simp only [World.size_alloc, World.size_setCell]; omega) | (simp only [World.size_alloc, World.size_drew]; omega) | (simp only [World.size_setCell, World.size_drew]; omega) | (simp only [World.size_alloc, World.size_setCell, World.size_drew]; omega) | (simp only [World.size_alloc, World.size_setCell, World.size_drew, size_drewN]; omega)))⟩
set_option maxHeartbeats 2000000 in
theorem CheckSeg_3in (x y u v s : Int) (w : World) (h1 : ¬ s < 16) (h2 : ¬ 4096 < s) :
    Calls Tryd.prog 27 #[.agg #[.int .i64 3, .int .i64 x, .int .i64 y, .int .i64 u, .int .i64 v, .int .i64 s]] w fun e w' => e = .returned (.int .i64 (segE 3 x y u v s)) ∧ Below w.heap.size w w' := by
  go_enter Tryd.func27, Tryd.ntmps27
  go_wp2_with (first | (go_at_call 21; refine (pwithin_any x y u v _ _ (by intro o; simp [go_sem])).mono ?_; rintro e w' ⟨rfl, rfl⟩))
  all_goals go_ret
  all_goals exact ⟨ret_int (by cases hp : ptB x y <;> cases hq : ptB u v <;> simp_all [segE]), by (repeat' (with_reducible first | exact Below.refl _ _ | refine past_le ?_ ?_ _ | refine Below.alloc ?_ ?_ _ | refine Below.drew ?_ | refine drewN_le ?_ _ | refine Below.setCell ?_ ?_ _ | refine step_le (by assumption) ?_ ?_ | omega | (simp only []; omega) | (simp only [World.size_alloc]; omega) | (simp only [World.size_setCell]; omega) | (simp only [World.size_drew]; omega) | (simp only [World.size_alloc, World.size_setCell]; omega) | (simp only [World.size_alloc, World.size_drew]; omega) | (simp only [World.size_setCell, World.size_drew]; omega) | (simp only [World.size_alloc, World.size_setCell, World.size_drew]; omega) | (simp only [World.size_alloc, World.size_setCell, World.size_drew, size_drewN]; omega)))⟩
set_option maxHeartbeats 2000000 in
theorem CheckSeg_1ok (x y : Int) (w : World) :
    Calls Tryd.prog 27 #[.agg #[.int .i64 1, .int .i64 x, .int .i64 y, .int .i64 0, .int .i64 0, .int .i64 0]] w fun e w' => e = .returned (.int .i64 (segE 1 x y 0 0 0)) ∧ Below w.heap.size w w' := by
  go_enter Tryd.func27, Tryd.ntmps27
  go_wp2_with (first | (go_at_call 21; refine (pwithin_any x y 0 0 _ _ (by intro o; simp [go_sem])).mono ?_; rintro e w' ⟨rfl, rfl⟩))
  all_goals go_ret
  all_goals exact ⟨ret_int (by have h00 : ptB 0 0 = true := rfl; cases hp : ptB x y <;> simp_all [segE]), by (repeat' (with_reducible first | exact Below.refl _ _ | refine past_le ?_ ?_ _ | refine Below.alloc ?_ ?_ _ | refine Below.drew ?_ | refine drewN_le ?_ _ | refine Below.setCell ?_ ?_ _ | refine step_le (by assumption) ?_ ?_ | omega | (simp only []; omega) | (simp only [World.size_alloc]; omega) | (simp only [World.size_setCell]; omega) | (simp only [World.size_drew]; omega) | (simp only [World.size_alloc, World.size_setCell]; omega) | (simp only [World.size_alloc, World.size_drew]; omega) | (simp only [World.size_setCell, World.size_drew]; omega) | (simp only [World.size_alloc, World.size_setCell, World.size_drew]; omega) | (simp only [World.size_alloc, World.size_setCell, World.size_drew, size_drewN]; omega)))⟩
set_option maxHeartbeats 2000000 in
theorem CheckSeg_1no (x y u v s : Int) (w : World) (h : u ≠ 0 ∨ v ≠ 0 ∨ s ≠ 0) :
    Calls Tryd.prog 27 #[.agg #[.int .i64 1, .int .i64 x, .int .i64 y, .int .i64 u, .int .i64 v, .int .i64 s]] w fun e w' => e = .returned (.int .i64 (segE 1 x y u v s)) ∧ Below w.heap.size w w' := by
  go_enter Tryd.func27, Tryd.ntmps27
  go_wp2_with (first | (go_at_call 21; refine (pwithin_any x y u v _ _ (by intro o; simp [go_sem])).mono ?_; rintro e w' ⟨rfl, rfl⟩))
  all_goals go_ret
  all_goals exact ⟨ret_int (by simp_all [segE]), by (repeat' (with_reducible first | exact Below.refl _ _ | refine past_le ?_ ?_ _ | refine Below.alloc ?_ ?_ _ | refine Below.drew ?_ | refine drewN_le ?_ _ | refine Below.setCell ?_ ?_ _ | refine step_le (by assumption) ?_ ?_ | omega | (simp only []; omega) | (simp only [World.size_alloc]; omega) | (simp only [World.size_setCell]; omega) | (simp only [World.size_drew]; omega) | (simp only [World.size_alloc, World.size_setCell]; omega) | (simp only [World.size_alloc, World.size_drew]; omega) | (simp only [World.size_setCell, World.size_drew]; omega) | (simp only [World.size_alloc, World.size_setCell, World.size_drew]; omega) | (simp only [World.size_alloc, World.size_setCell, World.size_drew, size_drewN]; omega)))⟩
set_option maxHeartbeats 2000000 in
theorem CheckSeg_2ok (x y : Int) (w : World) :
    Calls Tryd.prog 27 #[.agg #[.int .i64 2, .int .i64 x, .int .i64 y, .int .i64 0, .int .i64 0, .int .i64 0]] w fun e w' => e = .returned (.int .i64 (segE 2 x y 0 0 0)) ∧ Below w.heap.size w w' := by
  go_enter Tryd.func27, Tryd.ntmps27
  go_wp2_with (first | (go_at_call 21; refine (pwithin_any x y 0 0 _ _ (by intro o; simp [go_sem])).mono ?_; rintro e w' ⟨rfl, rfl⟩))
  all_goals go_ret
  all_goals exact ⟨ret_int (by have h00 : ptB 0 0 = true := rfl; cases hp : ptB x y <;> simp_all [segE]), by (repeat' (with_reducible first | exact Below.refl _ _ | refine past_le ?_ ?_ _ | refine Below.alloc ?_ ?_ _ | refine Below.drew ?_ | refine drewN_le ?_ _ | refine Below.setCell ?_ ?_ _ | refine step_le (by assumption) ?_ ?_ | omega | (simp only []; omega) | (simp only [World.size_alloc]; omega) | (simp only [World.size_setCell]; omega) | (simp only [World.size_drew]; omega) | (simp only [World.size_alloc, World.size_setCell]; omega) | (simp only [World.size_alloc, World.size_drew]; omega) | (simp only [World.size_setCell, World.size_drew]; omega) | (simp only [World.size_alloc, World.size_setCell, World.size_drew]; omega) | (simp only [World.size_alloc, World.size_setCell, World.size_drew, size_drewN]; omega)))⟩
set_option maxHeartbeats 2000000 in
theorem CheckSeg_2no (x y u v s : Int) (w : World) (h : u ≠ 0 ∨ v ≠ 0 ∨ s ≠ 0) :
    Calls Tryd.prog 27 #[.agg #[.int .i64 2, .int .i64 x, .int .i64 y, .int .i64 u, .int .i64 v, .int .i64 s]] w fun e w' => e = .returned (.int .i64 (segE 2 x y u v s)) ∧ Below w.heap.size w w' := by
  go_enter Tryd.func27, Tryd.ntmps27
  go_wp2_with (first | (go_at_call 21; refine (pwithin_any x y u v _ _ (by intro o; simp [go_sem])).mono ?_; rintro e w' ⟨rfl, rfl⟩))
  all_goals go_ret
  all_goals exact ⟨ret_int (by simp_all [segE]), by (repeat' (with_reducible first | exact Below.refl _ _ | refine past_le ?_ ?_ _ | refine Below.alloc ?_ ?_ _ | refine Below.drew ?_ | refine drewN_le ?_ _ | refine Below.setCell ?_ ?_ _ | refine step_le (by assumption) ?_ ?_ | omega | (simp only []; omega) | (simp only [World.size_alloc]; omega) | (simp only [World.size_setCell]; omega) | (simp only [World.size_drew]; omega) | (simp only [World.size_alloc, World.size_setCell]; omega) | (simp only [World.size_alloc, World.size_drew]; omega) | (simp only [World.size_setCell, World.size_drew]; omega) | (simp only [World.size_alloc, World.size_setCell, World.size_drew]; omega) | (simp only [World.size_alloc, World.size_setCell, World.size_drew, size_drewN]; omega)))⟩
set_option maxHeartbeats 2000000 in
theorem CheckSeg_4ok (w : World) :
    Calls Tryd.prog 27 #[.agg #[.int .i64 4, .int .i64 0, .int .i64 0, .int .i64 0, .int .i64 0, .int .i64 0]] w fun e w' => e = .returned (.int .i64 (segE 4 0 0 0 0 0)) ∧ Below w.heap.size w w' := by
  go_enter Tryd.func27, Tryd.ntmps27
  go_wp2_with (first | (go_at_call 21; refine (pwithin_any 0 0 0 0 _ _ (by intro o; simp [go_sem])).mono ?_; rintro e w' ⟨rfl, rfl⟩))
  all_goals go_ret
  all_goals exact ⟨ret_int (by simp_all [segE]), by (repeat' (with_reducible first | exact Below.refl _ _ | refine past_le ?_ ?_ _ | refine Below.alloc ?_ ?_ _ | refine Below.drew ?_ | refine drewN_le ?_ _ | refine Below.setCell ?_ ?_ _ | refine step_le (by assumption) ?_ ?_ | omega | (simp only []; omega) | (simp only [World.size_alloc]; omega) | (simp only [World.size_setCell]; omega) | (simp only [World.size_drew]; omega) | (simp only [World.size_alloc, World.size_setCell]; omega) | (simp only [World.size_alloc, World.size_drew]; omega) | (simp only [World.size_setCell, World.size_drew]; omega) | (simp only [World.size_alloc, World.size_setCell, World.size_drew]; omega) | (simp only [World.size_alloc, World.size_setCell, World.size_drew, size_drewN]; omega)))⟩
set_option maxHeartbeats 2000000 in
theorem CheckSeg_4no (x y u v s : Int) (w : World) (h : x ≠ 0 ∨ y ≠ 0 ∨ u ≠ 0 ∨ v ≠ 0 ∨ s ≠ 0) :
    Calls Tryd.prog 27 #[.agg #[.int .i64 4, .int .i64 x, .int .i64 y, .int .i64 u, .int .i64 v, .int .i64 s]] w fun e w' => e = .returned (.int .i64 (segE 4 x y u v s)) ∧ Below w.heap.size w w' := by
  go_enter Tryd.func27, Tryd.ntmps27
  go_wp2_with (first | (go_at_call 21; refine (pwithin_any x y u v _ _ (by intro o; simp [go_sem])).mono ?_; rintro e w' ⟨rfl, rfl⟩))
  all_goals go_ret
  all_goals exact ⟨ret_int (by simp_all [segE]), by (repeat' (with_reducible first | exact Below.refl _ _ | refine past_le ?_ ?_ _ | refine Below.alloc ?_ ?_ _ | refine Below.drew ?_ | refine drewN_le ?_ _ | refine Below.setCell ?_ ?_ _ | refine step_le (by assumption) ?_ ?_ | omega | (simp only []; omega) | (simp only [World.size_alloc]; omega) | (simp only [World.size_setCell]; omega) | (simp only [World.size_drew]; omega) | (simp only [World.size_alloc, World.size_setCell]; omega) | (simp only [World.size_alloc, World.size_drew]; omega) | (simp only [World.size_setCell, World.size_drew]; omega) | (simp only [World.size_alloc, World.size_setCell, World.size_drew]; omega) | (simp only [World.size_alloc, World.size_setCell, World.size_drew, size_drewN]; omega)))⟩
set_option maxHeartbeats 2000000 in
theorem CheckSeg_else (k x y u v s : Int) (w : World) (h1 : k ≠ 1) (h2 : k ≠ 2) (h3 : k ≠ 3) (h4 : k ≠ 4) :
    Calls Tryd.prog 27 #[.agg #[.int .i64 k, .int .i64 x, .int .i64 y, .int .i64 u, .int .i64 v, .int .i64 s]] w fun e w' => e = .returned (.int .i64 (segE k x y u v s)) ∧ Below w.heap.size w w' := by
  go_enter Tryd.func27, Tryd.ntmps27
  go_wp2_with (first | (go_at_call 21; refine (pwithin_any x y u v _ _ (by intro o; simp [go_sem])).mono ?_; rintro e w' ⟨rfl, rfl⟩))
  all_goals go_ret
  all_goals exact ⟨ret_int (by simp_all [segE]), by (repeat' (with_reducible first | exact Below.refl _ _ | refine past_le ?_ ?_ _ | refine Below.alloc ?_ ?_ _ | refine Below.drew ?_ | refine drewN_le ?_ _ | refine Below.setCell ?_ ?_ _ | refine step_le (by assumption) ?_ ?_ | omega | (simp only []; omega) | (simp only [World.size_alloc]; omega) | (simp only [World.size_setCell]; omega) | (simp only [World.size_drew]; omega) | (simp only [World.size_alloc, World.size_setCell]; omega) | (simp only [World.size_alloc, World.size_drew]; omega) | (simp only [World.size_setCell, World.size_drew]; omega) | (simp only [World.size_alloc, World.size_setCell, World.size_drew]; omega) | (simp only [World.size_alloc, World.size_setCell, World.size_drew, size_drewN]; omega)))⟩
theorem CheckSeg_any (k x y u v s : Int) (w : World) :
    Calls Tryd.prog 27 #[.agg #[.int .i64 k, .int .i64 x, .int .i64 y, .int .i64 u, .int .i64 v, .int .i64 s]] w fun e w' => e = .returned (.int .i64 (segE k x y u v s)) ∧ Below w.heap.size w w' := by
  by_cases k3 : k = 3
  · subst k3
    by_cases h1 : s < 16
    · exact CheckSeg_3lo x y u v s w h1
    · by_cases h2 : 4096 < s
      · exact CheckSeg_3hi x y u v s w h1 h2
      · exact CheckSeg_3in x y u v s w h1 h2
  by_cases k1 : k = 1
  · subst k1
    by_cases h : u ≠ 0 ∨ v ≠ 0 ∨ s ≠ 0
    · exact CheckSeg_1no x y u v s w h
    · obtain rfl : u = 0 := by omega
      obtain rfl : v = 0 := by omega
      obtain rfl : s = 0 := by omega
      exact CheckSeg_1ok x y w
  by_cases k2 : k = 2
  · subst k2
    by_cases h : u ≠ 0 ∨ v ≠ 0 ∨ s ≠ 0
    · exact CheckSeg_2no x y u v s w h
    · obtain rfl : u = 0 := by omega
      obtain rfl : v = 0 := by omega
      obtain rfl : s = 0 := by omega
      exact CheckSeg_2ok x y w
  by_cases k4 : k = 4
  · subst k4
    by_cases h : x ≠ 0 ∨ y ≠ 0 ∨ u ≠ 0 ∨ v ≠ 0 ∨ s ≠ 0
    · exact CheckSeg_4no x y u v s w h
    · obtain rfl : x = 0 := by omega
      obtain rfl : y = 0 := by omega
      obtain rfl : u = 0 := by omega
      obtain rfl : v = 0 := by omega
      obtain rfl : s = 0 := by omega
      exact CheckSeg_4ok w
  exact CheckSeg_else k x y u v s w k1 k2 k3 k4
end Go.Proofs.YtdakcfggecpjjaaDoor
