/-
  Contracts of path.Check, of the reference's Seg and of its PathCheck.
-/
import Derived.Test.YtdakcfggecpjjaaDoorPath
import Derived.Test.YtdakcfggecpjjaaDoorMrg4
namespace Go.Proofs.YtdakcfggecpjjaaDoor
open Go.RowKit

/-- The error of a segment at its place. -/
def segF (first : Bool) (k x y u v w : Int) : Int :=
  if k < 1 ∨ 4 < k then 14 else if first = true ∧ k ≠ 1 then 18 else segE k x y u v w
/-- The tests of the reference, one behind the other. -/
theorem segF_ref (first : Bool) (k x y u v w : Int) : segF first k x y u v w =
    (if ¬(1 ≤ k ∧ k ≤ 4) then 14 else if first = true ∧ k ≠ 1 then 18
    else if k ≠ 3 ∧ (u ≠ 0 ∨ v ≠ 0 ∨ w ≠ 0) then 4 else if k = 4 ∧ (x ≠ 0 ∨ y ≠ 0) then 4
    else if ptB x y = false ∨ ptB u v = false then 3 else if k = 3 ∧ ¬(16 ≤ w ∧ w ≤ 4096) then 3 else 0) := by
  have hp0 : x = 0 → y = 0 → ptB x y = true := fun h h' => by subst h; subst h'; rfl
  have hq0 : u = 0 → v = 0 → ptB u v = true := fun h h' => by subst h; subst h'; rfl
  unfold segF segE
  generalize ptB x y = p at *
  generalize ptB u v = q at *
  cases first <;> cases p <;> cases q <;> simp only [Bool.false_eq_true, imp_false, false_and, true_and, and_false, and_true, or_false, or_true, if_false, if_true, Bool.true_eq_false] at hp0 hq0 ⊢
  all_goals repeat' split
  all_goals omega
set_option maxHeartbeats 4000000 in
theorem Seg_1 (x y u v s : Int) (first : Bool) (w : World) :
    Calls Tryd.prog 19 #[.agg #[.int .i64 1, .int .i64 x, .int .i64 y, .int .i64 u, .int .i64 v, .int .i64 s], .bool first] w fun e w' => e = .returned (.int .i64 (segF first 1 x y u v s)) ∧ Below w.heap.size w w' := by
  have i1 : inB 1 1 4 = true := rfl
  cases first
  all_goals
    go_enter Tryd.func19, Tryd.ntmps19
    go_wp2_with (first | (go_at_call 28; refine (In_any _ _ _ _).mono ?_; rintro e w' ⟨rfl, rfl⟩) | (go_at_call 29; refine (Coord_any _ _ _).mono ?_; rintro e w' ⟨rfl, rfl⟩))
    all_goals go_ret
    all_goals exact ⟨ret_int (by rw [segF_ref]; simp_all [inB]; try omega), by (repeat' (with_reducible first | exact Below.refl _ _ | refine past_le ?_ ?_ _ | refine Below.alloc ?_ ?_ _ | refine Below.drew ?_ | refine drewN_le ?_ _ | refine Below.setCell ?_ ?_ _ | refine step_le (by assumption) ?_ ?_ | omega | (simp only []; omega) | (simp only [World.size_alloc]; omega) | (simp only [World.size_setCell]; omega) | (simp only [World.size_drew]; omega) | (simp only [World.size_alloc, World.size_setCell]; omega) | (simp only [World.size_alloc, World.size_drew]; omega) | (simp only [World.size_setCell, World.size_drew]; omega) | (simp only [World.size_alloc, World.size_setCell, World.size_drew]; omega) | (simp only [World.size_alloc, World.size_setCell, World.size_drew, size_drewN]; omega)))⟩
set_option maxHeartbeats 4000000 in
theorem Seg_2 (x y u v s : Int) (first : Bool) (w : World) :
    Calls Tryd.prog 19 #[.agg #[.int .i64 2, .int .i64 x, .int .i64 y, .int .i64 u, .int .i64 v, .int .i64 s], .bool first] w fun e w' => e = .returned (.int .i64 (segF first 2 x y u v s)) ∧ Below w.heap.size w w' := by
  have i1 : inB 2 1 4 = true := rfl
  cases first
  all_goals
    go_enter Tryd.func19, Tryd.ntmps19
    go_wp2_with (first | (go_at_call 28; refine (In_any _ _ _ _).mono ?_; rintro e w' ⟨rfl, rfl⟩) | (go_at_call 29; refine (Coord_any _ _ _).mono ?_; rintro e w' ⟨rfl, rfl⟩))
    all_goals go_ret
    all_goals exact ⟨ret_int (by rw [segF_ref]; simp_all [inB]; try omega), by (repeat' (with_reducible first | exact Below.refl _ _ | refine past_le ?_ ?_ _ | refine Below.alloc ?_ ?_ _ | refine Below.drew ?_ | refine drewN_le ?_ _ | refine Below.setCell ?_ ?_ _ | refine step_le (by assumption) ?_ ?_ | omega | (simp only []; omega) | (simp only [World.size_alloc]; omega) | (simp only [World.size_setCell]; omega) | (simp only [World.size_drew]; omega) | (simp only [World.size_alloc, World.size_setCell]; omega) | (simp only [World.size_alloc, World.size_drew]; omega) | (simp only [World.size_setCell, World.size_drew]; omega) | (simp only [World.size_alloc, World.size_setCell, World.size_drew]; omega) | (simp only [World.size_alloc, World.size_setCell, World.size_drew, size_drewN]; omega)))⟩
set_option maxHeartbeats 4000000 in
theorem Seg_3 (x y u v s : Int) (first : Bool) (w : World) :
    Calls Tryd.prog 19 #[.agg #[.int .i64 3, .int .i64 x, .int .i64 y, .int .i64 u, .int .i64 v, .int .i64 s], .bool first] w fun e w' => e = .returned (.int .i64 (segF first 3 x y u v s)) ∧ Below w.heap.size w w' := by
  have i1 : inB 3 1 4 = true := rfl
  cases first
  all_goals
    go_enter Tryd.func19, Tryd.ntmps19
    go_wp2_with (first | (go_at_call 28; refine (In_any _ _ _ _).mono ?_; rintro e w' ⟨rfl, rfl⟩) | (go_at_call 29; refine (Coord_any _ _ _).mono ?_; rintro e w' ⟨rfl, rfl⟩))
    all_goals go_ret
    all_goals exact ⟨ret_int (by rw [segF_ref]; simp_all [inB]; try omega), by (repeat' (with_reducible first | exact Below.refl _ _ | refine past_le ?_ ?_ _ | refine Below.alloc ?_ ?_ _ | refine Below.drew ?_ | refine drewN_le ?_ _ | refine Below.setCell ?_ ?_ _ | refine step_le (by assumption) ?_ ?_ | omega | (simp only []; omega) | (simp only [World.size_alloc]; omega) | (simp only [World.size_setCell]; omega) | (simp only [World.size_drew]; omega) | (simp only [World.size_alloc, World.size_setCell]; omega) | (simp only [World.size_alloc, World.size_drew]; omega) | (simp only [World.size_setCell, World.size_drew]; omega) | (simp only [World.size_alloc, World.size_setCell, World.size_drew]; omega) | (simp only [World.size_alloc, World.size_setCell, World.size_drew, size_drewN]; omega)))⟩
set_option maxHeartbeats 4000000 in
theorem Seg_4 (x y u v s : Int) (first : Bool) (w : World) :
    Calls Tryd.prog 19 #[.agg #[.int .i64 4, .int .i64 x, .int .i64 y, .int .i64 u, .int .i64 v, .int .i64 s], .bool first] w fun e w' => e = .returned (.int .i64 (segF first 4 x y u v s)) ∧ Below w.heap.size w w' := by
  have i1 : inB 4 1 4 = true := rfl
  cases first
  all_goals
    go_enter Tryd.func19, Tryd.ntmps19
    go_wp2_with (first | (go_at_call 28; refine (In_any _ _ _ _).mono ?_; rintro e w' ⟨rfl, rfl⟩) | (go_at_call 29; refine (Coord_any _ _ _).mono ?_; rintro e w' ⟨rfl, rfl⟩))
    all_goals go_ret
    all_goals exact ⟨ret_int (by rw [segF_ref]; simp_all [inB]; try omega), by (repeat' (with_reducible first | exact Below.refl _ _ | refine past_le ?_ ?_ _ | refine Below.alloc ?_ ?_ _ | refine Below.drew ?_ | refine drewN_le ?_ _ | refine Below.setCell ?_ ?_ _ | refine step_le (by assumption) ?_ ?_ | omega | (simp only []; omega) | (simp only [World.size_alloc]; omega) | (simp only [World.size_setCell]; omega) | (simp only [World.size_drew]; omega) | (simp only [World.size_alloc, World.size_setCell]; omega) | (simp only [World.size_alloc, World.size_drew]; omega) | (simp only [World.size_setCell, World.size_drew]; omega) | (simp only [World.size_alloc, World.size_setCell, World.size_drew]; omega) | (simp only [World.size_alloc, World.size_setCell, World.size_drew, size_drewN]; omega)))⟩
set_option maxHeartbeats 1000000 in
theorem Seg_out (k x y u v s : Int) (first : Bool) (w : World) (h : inB k 1 4 = false) :
    Calls Tryd.prog 19 #[.agg #[.int .i64 k, .int .i64 x, .int .i64 y, .int .i64 u, .int .i64 v, .int .i64 s], .bool first] w fun e w' => e = .returned (.int .i64 (segF first k x y u v s)) ∧ Below w.heap.size w w' := by
  go_enter Tryd.func19, Tryd.ntmps19
  go_wp2_with (first | (go_at_call 28; refine (In_any _ _ _ _).mono ?_; rintro e w' ⟨rfl, rfl⟩) | (go_at_call 29; refine (Coord_any _ _ _).mono ?_; rintro e w' ⟨rfl, rfl⟩))
  go_ret
  exact ⟨ret_int (by rw [segF_ref, if_pos (by simpa [inB] using h)]), by (repeat' (with_reducible first | exact Below.refl _ _ | refine past_le ?_ ?_ _ | refine Below.alloc ?_ ?_ _ | refine Below.drew ?_ | refine drewN_le ?_ _ | refine Below.setCell ?_ ?_ _ | refine step_le (by assumption) ?_ ?_ | omega | (simp only []; omega) | (simp only [World.size_alloc]; omega) | (simp only [World.size_setCell]; omega) | (simp only [World.size_drew]; omega) | (simp only [World.size_alloc, World.size_setCell]; omega) | (simp only [World.size_alloc, World.size_drew]; omega) | (simp only [World.size_setCell, World.size_drew]; omega) | (simp only [World.size_alloc, World.size_setCell, World.size_drew]; omega) | (simp only [World.size_alloc, World.size_setCell, World.size_drew, size_drewN]; omega)))⟩
theorem Seg_any (k x y u v s : Int) (first : Bool) (w : World) :
    Calls Tryd.prog 19 #[.agg #[.int .i64 k, .int .i64 x, .int .i64 y, .int .i64 u, .int .i64 v, .int .i64 s], .bool first] w fun e w' => e = .returned (.int .i64 (segF first k x y u v s)) ∧ Below w.heap.size w w' := by
  by_cases h : 1 ≤ k ∧ k ≤ 4
  · have hk : k = 1 ∨ k = 2 ∨ k = 3 ∨ k = 4 := by omega
    rcases hk with rfl | rfl | rfl | rfl
    · exact Seg_1 x y u v s first w
    · exact Seg_2 x y u v s first w
    · exact Seg_3 x y u v s first w
    · exact Seg_4 x y u v s first w
  · exact Seg_out k x y u v s first w (inB_no h)
end Go.Proofs.YtdakcfggecpjjaaDoor
