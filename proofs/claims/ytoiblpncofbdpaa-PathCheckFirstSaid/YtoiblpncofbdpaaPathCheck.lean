/-
  Contracts of path.Check, of the reference's Seg and of its PathCheck.
-/
import Derived.Test.YtoiblpncofbdpaaPath
import Derived.Test.YtoiblpncofbdpaaRecs
namespace Go.Proofs.Ytoiblpncofbdpaa
open Go.RowKit

/-- The error of a segment at its place. -/
def segF (first : Bool) (k x y u v w : Int) : Int :=
  if k < 1 ∨ 4 < k then 14 else if first = true ∧ k ≠ 1 then 18 else segE k x y u v w
/-- The tests of the reference, one behind the other. -/
theorem segF_ref (first : Bool) (k x y u v w : Int) : segF first k x y u v w =
    (if ¬(1 ≤ k ∧ k ≤ 4) then 14 else if first = true ∧ k ≠ 1 then 18
    else if k ≠ 3 ∧ (u ≠ 0 ∨ v ≠ 0 ∨ w ≠ 0) then 4 else if k = 4 ∧ (x ≠ 0 ∨ y ≠ 0) then 4
    else if ptB x y = false ∨ ptB u v = false then 3 else if k = 3 ∧ ¬(16 ≤ w ∧ w ≤ 4096) then 3 else 0) := by
  have hp0 : x = 0 → y = 0 → ptB x y = true := fun h h' => by subst h; subst h'; rfl
  have hq0 : u = 0 → v = 0 → ptB u v = true := fun h h' => by subst h; subst h'; rfl
  unfold segF segE
  generalize ptB x y = p at *
  generalize ptB u v = q at *
  cases first <;> cases p <;> cases q <;> simp only [Bool.false_eq_true, imp_false, false_and, true_and, and_false, and_true, or_false, or_true, if_false, if_true, Bool.true_eq_false] at hp0 hq0 ⊢
  all_goals repeat' split
  all_goals omega
set_option maxHeartbeats 4000000 in
theorem Seg_1 (x y u v s : Int) (first : Bool) (w : World) :
    Calls Try.prog 59 #[.agg #[.int .i64 1, .int .i64 x, .int .i64 y, .int .i64 u, .int .i64 v, .int .i64 s], .bool first] w fun e w' => e = .returned (.int .i64 (segF first 1 x y u v s)) ∧ Below w.heap.size w w' := by
  have i1 : inB 1 1 4 = true := rfl
  cases first
  all_goals
    go_enter Try.func59, Try.ntmps59
    go_wp2_with (first | (go_at_call 22; refine (In_any _ _ _ _).mono ?_; rintro e w' ⟨rfl, rfl⟩) | (go_at_call 50; refine (Coord_any _ _ _).mono ?_; rintro e w' ⟨rfl, rfl⟩))
    all_goals go_ret
    all_goals exact ⟨ret_int (by rw [segF_ref]; simp_all [inB]; try omega), by (repeat' (with_reducible first | exact Below.refl _ _ | refine past_le ?_ ?_ _ | refine Below.alloc ?_ ?_ _ | refine Below.drew ?_ | refine drewN_le ?_ _ | refine Below.setCell ?_ ?_ _ | refine step_le (by assumption) ?_ ?_ | omega | (simp only []; omega) | (simp only [World.size_alloc]; omega) | (simp only [World.size_setCell]; omega) | (simp only [World.size_drew]; omega) | (simp only [World.size_alloc, World.size_setCell]; omega) | (simp only [World.size_alloc, World.size_drew]; omega) | (simp only [World.size_setCell, World.size_drew]; omega) | (simp only [World.size_alloc, World.size_setCell, World.size_drew]; omega)))⟩
set_option maxHeartbeats 4000000 in
theorem Seg_2 (x y u v s : Int) (first : Bool) (w : World) :
    Calls Try.prog 59 #[.agg #[.int .i64 2, .int .i64 x, .int .i64 y, .int .i64 u, .int .i64 v, .int .i64 s], .bool first] w fun e w' => e = .returned (.int .i64 (segF first 2 x y u v s)) ∧ Below w.heap.size w w' := by
  have i1 : inB 2 1 4 = true := rfl
  cases first
  all_goals
    go_enter Try.func59, Try.ntmps59
    go_wp2_with (first | (go_at_call 22; refine (In_any _ _ _ _).mono ?_; rintro e w' ⟨rfl, rfl⟩) | (go_at_call 50; refine (Coord_any _ _ _).mono ?_; rintro e w' ⟨rfl, rfl⟩))
    all_goals go_ret
    all_goals exact ⟨ret_int (by rw [segF_ref]; simp_all [inB]; try omega), by (repeat' (with_reducible first | exact Below.refl _ _ | refine past_le ?_ ?_ _ | refine Below.alloc ?_ ?_ _ | refine Below.drew ?_ | refine drewN_le ?_ _ | refine Below.setCell ?_ ?_ _ | refine step_le (by assumption) ?_ ?_ | omega | (simp only []; omega) | (simp only [World.size_alloc]; omega) | (simp only [World.size_setCell]; omega) | (simp only [World.size_drew]; omega) | (simp only [World.size_alloc, World.size_setCell]; omega) | (simp only [World.size_alloc, World.size_drew]; omega) | (simp only [World.size_setCell, World.size_drew]; omega) | (simp only [World.size_alloc, World.size_setCell, World.size_drew]; omega)))⟩
set_option maxHeartbeats 4000000 in
theorem Seg_3 (x y u v s : Int) (first : Bool) (w : World) :
    Calls Try.prog 59 #[.agg #[.int .i64 3, .int .i64 x, .int .i64 y, .int .i64 u, .int .i64 v, .int .i64 s], .bool first] w fun e w' => e = .returned (.int .i64 (segF first 3 x y u v s)) ∧ Below w.heap.size w w' := by
  have i1 : inB 3 1 4 = true := rfl
  cases first
  all_goals
    go_enter Try.func59, Try.ntmps59
    go_wp2_with (first | (go_at_call 22; refine (In_any _ _ _ _).mono ?_; rintro e w' ⟨rfl, rfl⟩) | (go_at_call 50; refine (Coord_any _ _ _).mono ?_; rintro e w' ⟨rfl, rfl⟩))
    all_goals go_ret
    all_goals exact ⟨ret_int (by rw [segF_ref]; simp_all [inB]; try omega), by (repeat' (with_reducible first | exact Below.refl _ _ | refine past_le ?_ ?_ _ | refine Below.alloc ?_ ?_ _ | refine Below.drew ?_ | refine drewN_le ?_ _ | refine Below.setCell ?_ ?_ _ | refine step_le (by assumption) ?_ ?_ | omega | (simp only []; omega) | (simp only [World.size_alloc]; omega) | (simp only [World.size_setCell]; omega) | (simp only [World.size_drew]; omega) | (simp only [World.size_alloc, World.size_setCell]; omega) | (simp only [World.size_alloc, World.size_drew]; omega) | (simp only [World.size_setCell, World.size_drew]; omega) | (simp only [World.size_alloc, World.size_setCell, World.size_drew]; omega)))⟩
set_option maxHeartbeats 4000000 in
theorem Seg_4 (x y u v s : Int) (first : Bool) (w : World) :
    Calls Try.prog 59 #[.agg #[.int .i64 4, .int .i64 x, .int .i64 y, .int .i64 u, .int .i64 v, .int .i64 s], .bool first] w fun e w' => e = .returned (.int .i64 (segF first 4 x y u v s)) ∧ Below w.heap.size w w' := by
  have i1 : inB 4 1 4 = true := rfl
  cases first
  all_goals
    go_enter Try.func59, Try.ntmps59
    go_wp2_with (first | (go_at_call 22; refine (In_any _ _ _ _).mono ?_; rintro e w' ⟨rfl, rfl⟩) | (go_at_call 50; refine (Coord_any _ _ _).mono ?_; rintro e w' ⟨rfl, rfl⟩))
    all_goals go_ret
    all_goals exact ⟨ret_int (by rw [segF_ref]; simp_all [inB]; try omega), by (repeat' (with_reducible first | exact Below.refl _ _ | refine past_le ?_ ?_ _ | refine Below.alloc ?_ ?_ _ | refine Below.drew ?_ | refine drewN_le ?_ _ | refine Below.setCell ?_ ?_ _ | refine step_le (by assumption) ?_ ?_ | omega | (simp only []; omega) | (simp only [World.size_alloc]; omega) | (simp only [World.size_setCell]; omega) | (simp only [World.size_drew]; omega) | (simp only [World.size_alloc, World.size_setCell]; omega) | (simp only [World.size_alloc, World.size_drew]; omega) | (simp only [World.size_setCell, World.size_drew]; omega) | (simp only [World.size_alloc, World.size_setCell, World.size_drew]; omega)))⟩
set_option maxHeartbeats 1000000 in
theorem Seg_out (k x y u v s : Int) (first : Bool) (w : World) (h : inB k 1 4 = false) :
    Calls Try.prog 59 #[.agg #[.int .i64 k, .int .i64 x, .int .i64 y, .int .i64 u, .int .i64 v, .int .i64 s], .bool first] w fun e w' => e = .returned (.int .i64 (segF first k x y u v s)) ∧ Below w.heap.size w w' := by
  go_enter Try.func59, Try.ntmps59
  go_wp2_with (first | (go_at_call 22; refine (In_any _ _ _ _).mono ?_; rintro e w' ⟨rfl, rfl⟩) | (go_at_call 50; refine (Coord_any _ _ _).mono ?_; rintro e w' ⟨rfl, rfl⟩))
  go_ret
  exact ⟨ret_int (by rw [segF_ref, if_pos (by simpa [inB] using h)]), by (repeat' (with_reducible first | exact Below.refl _ _ | refine past_le ?_ ?_ _ | refine Below.alloc ?_ ?_ _ | refine Below.drew ?_ | refine drewN_le ?_ _ | refine Below.setCell ?_ ?_ _ | refine step_le (by assumption) ?_ ?_ | omega | (simp only []; omega) | (simp only [World.size_alloc]; omega) | (simp only [World.size_setCell]; omega) | (simp only [World.size_drew]; omega) | (simp only [World.size_alloc, World.size_setCell]; omega) | (simp only [World.size_alloc, World.size_drew]; omega) | (simp only [World.size_setCell, World.size_drew]; omega) | (simp only [World.size_alloc, World.size_setCell, World.size_drew]; omega)))⟩
theorem Seg_any (k x y u v s : Int) (first : Bool) (w : World) :
    Calls Try.prog 59 #[.agg #[.int .i64 k, .int .i64 x, .int .i64 y, .int .i64 u, .int .i64 v, .int .i64 s], .bool first] w fun e w' => e = .returned (.int .i64 (segF first k x y u v s)) ∧ Below w.heap.size w w' := by
  by_cases h : 1 ≤ k ∧ k ≤ 4
  · have hk : k = 1 ∨ k = 2 ∨ k = 3 ∨ k = 4 := by omega
    rcases hk with rfl | rfl | rfl | rfl
    · exact Seg_1 x y u v s first w
    · exact Seg_2 x y u v s first w
    · exact Seg_3 x y u v s first w
    · exact Seg_4 x y u v s first w
  · exact Seg_out k x y u v s first w (inB_no h)
/-- The error of a segment of a path, seen beside the one before it. -/
def pathErr (f : Nat → Nat → Int) (k : Nat) : Int := segF (decide (k = 0 ∨ f (k - 1) 0 = 4)) (f k 0) (f k 1) (f k 2) (f k 3) (f k 4) (f k 5)
def pathE (f : Nat → Nat → Int) (n : Nat) : Int := if 1000 < n then 2 else firstV (pathErr f) n
set_option maxHeartbeats 2000000 in
theorem PathCheckR_any (A : Option Addr) (n cap : Nat) (f : Nat → Nat → Int) (w : World) (hn : n ≤ cap ∧ cap ≤ 9223372036854775807) (h : RecsAt .i64 w A n 6 f) :
    Calls Try.prog 25 #[.slice A n cap] w fun e w' => e = .returned (.int .i64 (pathE f n)) ∧ Below w.heap.size w w' := by
  by_cases hbig : 1000 < n
  · go_enter Try.func25, Try.ntmps25
    go_wp2
    go_ret
    exact ⟨ret_int (by rw [pathE, if_pos hbig]), by (repeat' (with_reducible first | exact Below.refl _ _ | refine past_le ?_ ?_ _ | refine Below.alloc ?_ ?_ _ | refine Below.drew ?_ | refine drewN_le ?_ _ | refine Below.setCell ?_ ?_ _ | refine step_le (by assumption) ?_ ?_ | omega | (simp only []; omega) | (simp only [World.size_alloc]; omega) | (simp only [World.size_setCell]; omega) | (simp only [World.size_drew]; omega) | (simp only [World.size_alloc, World.size_setCell]; omega) | (simp only [World.size_alloc, World.size_drew]; omega) | (simp only [World.size_setCell, World.size_drew]; omega) | (simp only [World.size_alloc, World.size_setCell, World.size_drew]; omega)))⟩
  go_enter Try.func25, Try.ntmps25
  go_wp2
  go_loopw [10] (fun i wr => ∃ k : Nat, k ≤ n ∧ i = .int .i64 k ∧ firstV (pathErr f) k = 0 ∧ Below w.heap.size w wr) (fun i _ => n - (intOf i).toNat)
  case atStart => exact ⟨0, Nat.zero_le _, rfl, rfl, Below.refl _ _⟩
  case round =>
    obtain ⟨k, hk, rfl, hz, hbel⟩ := hrel
    by_cases hlt : k < n
    · obtain ⟨b, off, rfl, hbs, hc⟩ := h.below hbel (by omega)
      have c0 := hc k hlt 0 (by omega)
      have c1 := hc k hlt 1 (by omega)
      have c2 := hc k hlt 2 (by omega)
      have c3 := hc k hlt 3 (by omega)
      have c4 := hc k hlt 4 (by omega)
      have c5 := hc k hlt 5 (by omega)
      rw [Nat.add_zero] at c0
      have hsz := hbel.size
      have HF : Hid (pathErr f k ≠ 0 → pathE f n = pathErr f k) := fun he => by rw [pathE, if_neg hbig]; exact firstV_first hz he hlt
      have HN : Hid (pathErr f k = 0 → firstV (pathErr f) (k + 1) = 0) := fun he => firstV_next hz he
      clear hz
      by_cases hk0 : k = 0
      · subst hk0
        simp only [Nat.zero_mul, Nat.add_zero] at c0 c1 c2 c3 c4 c5
        have hS : ∀ w', Calls Try.prog 59 #[.agg #[.int .i64 (f 0 0), .int .i64 (f 0 1), .int .i64 (f 0 2), .int .i64 (f 0 3), .int .i64 (f 0 4), .int .i64 (f 0 5)], .bool true] w' fun e w'' => e = .returned (.int .i64 (pathErr f 0)) ∧ Below w'.heap.size w' w'' := fun w' => by
          have := Seg_any (f 0 0) (f 0 1) (f 0 2) (f 0 3) (f 0 4) (f 0 5) true w'
          rwa [show segF true (f 0 0) (f 0 1) (f 0 2) (f 0 3) (f 0 4) (f 0 5) = pathErr f 0 from by unfold pathErr; simp] at this
        by_cases he : pathErr f 0 = 0
        all_goals
          go_wp2_with fail
          refine wp_region_past (by kernel_rfl) (by kernel_rfl) ?_
          repeat (go_big_quiet_step (first | (go_at_call 59; exact past_call (hS _))))
          refine wpQuiet_nil ?_
          intro _ hw'
          obtain ⟨x1, hx1⟩ := hw'
          subst hx1
          go_wp2
        · go_roundw
          case rel => exact ⟨0 + 1, by omega, by go_num, HN.out he, by (repeat' (with_reducible first | exact Below.refl _ _ | refine past_le ?_ ?_ _ | refine Below.alloc ?_ ?_ _ | refine Below.drew ?_ | refine drewN_le ?_ _ | refine Below.setCell ?_ ?_ _ | refine step_le (by assumption) ?_ ?_ | omega | (simp only []; omega) | (simp only [World.size_alloc]; omega) | (simp only [World.size_setCell]; omega) | (simp only [World.size_drew]; omega) | (simp only [World.size_alloc, World.size_setCell]; omega) | (simp only [World.size_alloc, World.size_drew]; omega) | (simp only [World.size_setCell, World.size_drew]; omega) | (simp only [World.size_alloc, World.size_setCell, World.size_drew]; omega)))⟩
          case measure => simp [intOf]; omega
        · go_ret
          exact ⟨ret_int (by rw [HF.out he]), by (repeat' (with_reducible first | exact Below.refl _ _ | refine past_le ?_ ?_ _ | refine Below.alloc ?_ ?_ _ | refine Below.drew ?_ | refine drewN_le ?_ _ | refine Below.setCell ?_ ?_ _ | refine step_le (by assumption) ?_ ?_ | omega | (simp only []; omega) | (simp only [World.size_alloc]; omega) | (simp only [World.size_setCell]; omega) | (simp only [World.size_drew]; omega) | (simp only [World.size_alloc, World.size_setCell]; omega) | (simp only [World.size_alloc, World.size_drew]; omega) | (simp only [World.size_setCell, World.size_drew]; omega) | (simp only [World.size_alloc, World.size_setCell, World.size_drew]; omega)))⟩
      · obtain ⟨m, rfl⟩ : ∃ m, k = m + 1 := ⟨k - 1, by omega⟩
        have d0 := hc m (by omega) 0 (by omega)
        rw [Nat.add_zero] at d0
        have km : IntKind.i64.wrap (m : Int) = m := IntWalk.i64_in _ (by omega)
        have hmb : 0 ≤ (m : Int) ∧ (m : Int) < (n : Int) := by omega
        have hm0 : ((m : Int) + 1 == 0) = false := by simpa using (by omega : ¬ (m : Int) + 1 = 0)
        by_cases h4 : f m 0 = 4
        · have h4d : (f m 0 == 4) = true := by simpa using h4
          have hS : ∀ w', Calls Try.prog 59 #[.agg #[.int .i64 (f (m + 1) 0), .int .i64 (f (m + 1) 1), .int .i64 (f (m + 1) 2), .int .i64 (f (m + 1) 3), .int .i64 (f (m + 1) 4), .int .i64 (f (m + 1) 5)], .bool true] w' fun e w'' => e = .returned (.int .i64 (pathErr f (m + 1))) ∧ Below w'.heap.size w' w'' := fun w' => by
            have := Seg_any (f (m + 1) 0) (f (m + 1) 1) (f (m + 1) 2) (f (m + 1) 3) (f (m + 1) 4) (f (m + 1) 5) true w'
            rwa [show segF true (f (m + 1) 0) (f (m + 1) 1) (f (m + 1) 2) (f (m + 1) 3) (f (m + 1) 4) (f (m + 1) 5) = pathErr f (m + 1) from by unfold pathErr; simp [h4]] at this
          by_cases he : pathErr f (m + 1) = 0
          all_goals
            go_wp2_with fail
            refine wp_region_past (by kernel_rfl) (by kernel_rfl) ?_
            repeat (go_big_quiet_step (first | (go_at_call 59; exact past_call (hS _))))
            refine wpQuiet_nil ?_
            intro _ hw'
            obtain ⟨x1, hx1⟩ := hw'
            subst hx1
            go_wp2
          · go_roundw
            case rel => exact ⟨(m + 1) + 1, by omega, by go_num, HN.out he, by (repeat' (with_reducible first | exact Below.refl _ _ | refine past_le ?_ ?_ _ | refine Below.alloc ?_ ?_ _ | refine Below.drew ?_ | refine drewN_le ?_ _ | refine Below.setCell ?_ ?_ _ | refine step_le (by assumption) ?_ ?_ | omega | (simp only []; omega) | (simp only [World.size_alloc]; omega) | (simp only [World.size_setCell]; omega) | (simp only [World.size_drew]; omega) | (simp only [World.size_alloc, World.size_setCell]; omega) | (simp only [World.size_alloc, World.size_drew]; omega) | (simp only [World.size_setCell, World.size_drew]; omega) | (simp only [World.size_alloc, World.size_setCell, World.size_drew]; omega)))⟩
            case measure => simp [intOf]; omega
          · go_ret
            exact ⟨ret_int (by rw [HF.out he]), by (repeat' (with_reducible first | exact Below.refl _ _ | refine past_le ?_ ?_ _ | refine Below.alloc ?_ ?_ _ | refine Below.drew ?_ | refine drewN_le ?_ _ | refine Below.setCell ?_ ?_ _ | refine step_le (by assumption) ?_ ?_ | omega | (simp only []; omega) | (simp only [World.size_alloc]; omega) | (simp only [World.size_setCell]; omega) | (simp only [World.size_drew]; omega) | (simp only [World.size_alloc, World.size_setCell]; omega) | (simp only [World.size_alloc, World.size_drew]; omega) | (simp only [World.size_setCell, World.size_drew]; omega) | (simp only [World.size_alloc, World.size_setCell, World.size_drew]; omega)))⟩
        · have h4d : (f m 0 == 4) = false := by simpa using h4
          have hS : ∀ w', Calls Try.prog 59 #[.agg #[.int .i64 (f (m + 1) 0), .int .i64 (f (m + 1) 1), .int .i64 (f (m + 1) 2), .int .i64 (f (m + 1) 3), .int .i64 (f (m + 1) 4), .int .i64 (f (m + 1) 5)], .bool false] w' fun e w'' => e = .returned (.int .i64 (pathErr f (m + 1))) ∧ Below w'.heap.size w' w'' := fun w' => by
            have := Seg_any (f (m + 1) 0) (f (m + 1) 1) (f (m + 1) 2) (f (m + 1) 3) (f (m + 1) 4) (f (m + 1) 5) false w'
            rwa [show segF false (f (m + 1) 0) (f (m + 1) 1) (f (m + 1) 2) (f (m + 1) 3) (f (m + 1) 4) (f (m + 1) 5) = pathErr f (m + 1) from by unfold pathErr; simp [h4]] at this
          by_cases he : pathErr f (m + 1) = 0
          all_goals
            go_wp2_with fail
            refine wp_region_past (by kernel_rfl) (by kernel_rfl) ?_
            repeat (go_big_quiet_step (first | (go_at_call 59; exact past_call (hS _))))
            refine wpQuiet_nil ?_
            intro _ hw'
            obtain ⟨x1, hx1⟩ := hw'
            subst hx1
            go_wp2
          · go_roundw
            case rel => exact ⟨(m + 1) + 1, by omega, by go_num, HN.out he, by (repeat' (with_reducible first | exact Below.refl _ _ | refine past_le ?_ ?_ _ | refine Below.alloc ?_ ?_ _ | refine Below.drew ?_ | refine drewN_le ?_ _ | refine Below.setCell ?_ ?_ _ | refine step_le (by assumption) ?_ ?_ | omega | (simp only []; omega) | (simp only [World.size_alloc]; omega) | (simp only [World.size_setCell]; omega) | (simp only [World.size_drew]; omega) | (simp only [World.size_alloc, World.size_setCell]; omega) | (simp only [World.size_alloc, World.size_drew]; omega) | (simp only [World.size_setCell, World.size_drew]; omega) | (simp only [World.size_alloc, World.size_setCell, World.size_drew]; omega)))⟩
            case measure => simp [intOf]; omega
          · go_ret
            exact ⟨ret_int (by rw [HF.out he]), by (repeat' (with_reducible first | exact Below.refl _ _ | refine past_le ?_ ?_ _ | refine Below.alloc ?_ ?_ _ | refine Below.drew ?_ | refine drewN_le ?_ _ | refine Below.setCell ?_ ?_ _ | refine step_le (by assumption) ?_ ?_ | omega | (simp only []; omega) | (simp only [World.size_alloc]; omega) | (simp only [World.size_setCell]; omega) | (simp only [World.size_drew]; omega) | (simp only [World.size_alloc, World.size_setCell]; omega) | (simp only [World.size_alloc, World.size_drew]; omega) | (simp only [World.size_setCell, World.size_drew]; omega) | (simp only [World.size_alloc, World.size_setCell, World.size_drew]; omega)))⟩
    · have : k = n := by omega
      subst this
      go_wp2
      go_ret
      exact ⟨ret_int (by rw [pathE, if_neg hbig, hz]), hbel⟩
end Go.Proofs.Ytoiblpncofbdpaa
