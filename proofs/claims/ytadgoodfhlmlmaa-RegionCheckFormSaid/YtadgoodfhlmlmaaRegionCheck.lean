/-
  Contracts of region.Check and of the reference's RegionCheck.
-/
import Derived.Test.YtadgoodfhlmlmaaNum
import Derived.Test.YtadgoodfhlmlmaaPast
import Derived.Test.YtadgoodfhlmlmaaRuns
namespace Go.Proofs.Ytadgoodfhlmlmaa
open Go.RowKit

def permB (x : Int) : Bool := inB x (-8192) 8191
def bordB (x : Int) : Bool := inB x (-8192) 8192
theorem permitted_any (x : Int) (w : World) :
    Calls Try.prog 50 #[.int .i64 x] w fun e w' => e = .returned (.bool (inB x (-8192) 8191)) ∧ w = w' := by
  by_cases h1 : -8192 ≤ x <;> by_cases h2 : x ≤ 8191
  all_goals
    go_enter Try.func50, Try.ntmps50
    go_wp2
    go_ret
    exact ⟨ret_bool (by simp [inB, h1, h2]; try omega), rfl⟩
theorem border_any (x : Int) (w : World) :
    Calls Try.prog 51 #[.int .i64 x] w fun e w' => e = .returned (.bool (inB x (-8192) 8192)) ∧ w = w' := by
  by_cases h1 : -8192 ≤ x <;> by_cases h2 : x ≤ 8192
  all_goals
    go_enter Try.func51, Try.ntmps51
    go_wp2
    go_ret
    exact ⟨ret_bool (by simp [inB, h1, h2]), rfl⟩

set_option maxHeartbeats 2000000 in
theorem RCheck_any (A : Option Addr) (n cap : Nat) (rs : Nat → Run) (w : World) (hn : n ≤ cap ∧ cap ≤ 9223372036854775807) (h : RunsAt w A n rs) :
    Calls Try.prog 18 #[.slice A n cap] w fun e w' => e = .returned (.int .i64 (regV rs n)) ∧ Below w.heap.size w w' := by
  go_enter Try.func18, Try.ntmps18
  go_wp2
  go_loopw [7] (fun i wr => ∃ k : Nat, k ≤ n ∧ i = .int .i64 k ∧ regV rs k = 0 ∧ Below w.heap.size w wr) (fun i _ => n - (intOf i).toNat)
  case atStart => exact ⟨0, Nat.zero_le _, rfl, rfl, Below.refl _ _⟩
  case round =>
    obtain ⟨k, hk, rfl, hz, hbel⟩ := hrel
    by_cases hlt : k < n
    · obtain ⟨b, off, rfl, hbs, hc⟩ := h.below hbel (by omega)
      obtain ⟨c0, c1, c2⟩ := hc k hlt
      have hsz := hbel.size
      have HF : Hid (runErr rs k ≠ 0 → regV rs n = runErr rs k) := fun he => regV_first hz he hlt
      have HN : Hid (runErr rs k = 0 → regV rs (k + 1) = 0) := fun he => regV_next hz he
      clear hz
      by_cases r : inB (rs k).y (-8192) 8191 = true ∧ inB (rs k).x0 (-8192) 8192 = true ∧ inB (rs k).x1 (-8192) 8192 = true
      · obtain ⟨r0, r1, r2⟩ := r
        have q0 := inB_iff.1 r0
        have q1 := inB_iff.1 r1
        have q2 := inB_iff.1 r2
        by_cases hx : (rs k).x1 ≤ (rs k).x0
        · have HE : Hid (runErr rs k = 4) := by show runErr rs k = 4; rw [runErr, if_neg (by omega), if_pos hx]
          go_wp2_with (first | (go_at_call 50; refine (permitted_any _ _).mono ?_; rintro e w' ⟨rfl, rfl⟩) | (go_at_call 51; refine (border_any _ _).mono ?_; rintro e w' ⟨rfl, rfl⟩))
          go_ret
          exact ⟨ret_int (by rw [HF.out (by rw [HE.out]; decide), HE.out]), by (repeat' (with_reducible first | exact Below.refl _ _ | refine past_le ?_ ?_ _ | refine Below.alloc ?_ ?_ _ | refine Below.drew ?_ | refine drewN_le ?_ _ | refine Below.setCell ?_ ?_ _ | refine step_le (by assumption) ?_ ?_ | omega | (simp only [World.size_alloc]; omega) | (simp only [World.size_alloc, World.size_setCell]; omega) | (simp only [World.size_alloc, World.size_setCell, World.size_drew]; omega)))⟩
        · by_cases hk0 : k = 0
          · subst hk0
            simp only [Nat.zero_mul, Nat.add_zero] at c0 c1 c2
            have HE : Hid (runErr rs 0 = 0) := by show runErr rs 0 = 0; rw [runErr, if_neg (by omega), if_neg hx, if_neg (by omega)]
            go_wp2_with (first | (go_at_call 50; refine (permitted_any _ _).mono ?_; rintro e w' ⟨rfl, rfl⟩) | (go_at_call 51; refine (border_any _ _).mono ?_; rintro e w' ⟨rfl, rfl⟩))
            go_quiet (fail)
            go_wp2
            go_roundw
            case rel => exact ⟨1, by omega, rfl, HN.out HE.out, by (repeat' (with_reducible first | exact Below.refl _ _ | refine past_le ?_ ?_ _ | refine Below.alloc ?_ ?_ _ | refine Below.drew ?_ | refine drewN_le ?_ _ | refine Below.setCell ?_ ?_ _ | refine step_le (by assumption) ?_ ?_ | omega | (simp only [World.size_alloc]; omega) | (simp only [World.size_alloc, World.size_setCell]; omega) | (simp only [World.size_alloc, World.size_setCell, World.size_drew]; omega)))⟩
            case measure => simp [intOf]; omega
          · obtain ⟨m, rfl⟩ : ∃ m, k = m + 1 := ⟨k - 1, by omega⟩
            obtain ⟨d0, d1, d2⟩ := hc m (by omega)
            have km : IntKind.i64.wrap (m : Int) = m := IntWalk.i64_in _ (by omega)
            have hmb : 0 ≤ (m : Int) ∧ (m : Int) < (n : Int) := by omega
            have HX : Hid (runErr rs (m + 1) = if (rs (m + 1)).y ≤ (rs m).y ∧ ((rs (m + 1)).y < (rs m).y ∨ (rs (m + 1)).x0 ≤ (rs m).x1) then 18 else 0) := by
              show runErr rs (m + 1) = _
              rw [runErr, if_neg (by omega), if_neg hx]
              simp
            by_cases e1 : (rs (m + 1)).y ≤ (rs m).y
            · have e1d : decide ((rs (m + 1)).y ≤ (rs m).y) = true := by simpa using e1
              by_cases e2 : (rs (m + 1)).y < (rs m).y
              · have e2d : decide ((rs (m + 1)).y < (rs m).y) = true := by simpa using e2
                skip
                have HE : Hid (runErr rs (m + 1) = 18) := by show runErr rs (m + 1) = 18; rw [HX.out, if_pos ⟨by omega, by omega⟩]
                go_wp2_with (first | (go_at_call 50; refine (permitted_any _ _).mono ?_; rintro e w' ⟨rfl, rfl⟩) | (go_at_call 51; refine (border_any _ _).mono ?_; rintro e w' ⟨rfl, rfl⟩))
                go_quiet (fail)
                go_wp2
                go_ret
                exact ⟨ret_int (by rw [HF.out (by rw [HE.out]; decide), HE.out]), by (repeat' (with_reducible first | exact Below.refl _ _ | refine past_le ?_ ?_ _ | refine Below.alloc ?_ ?_ _ | refine Below.drew ?_ | refine drewN_le ?_ _ | refine Below.setCell ?_ ?_ _ | refine step_le (by assumption) ?_ ?_ | omega | (simp only [World.size_alloc]; omega) | (simp only [World.size_alloc, World.size_setCell]; omega) | (simp only [World.size_alloc, World.size_setCell, World.size_drew]; omega)))⟩
              · have e2d : decide ((rs (m + 1)).y < (rs m).y) = false := by simpa using e2
                by_cases e3 : (rs (m + 1)).x0 ≤ (rs m).x1
                · have e3d : decide ((rs (m + 1)).x0 ≤ (rs m).x1) = true := by simpa using e3
                  skip
                  have HE : Hid (runErr rs (m + 1) = 18) := by show runErr rs (m + 1) = 18; rw [HX.out, if_pos ⟨by omega, by omega⟩]
                  go_wp2_with (first | (go_at_call 50; refine (permitted_any _ _).mono ?_; rintro e w' ⟨rfl, rfl⟩) | (go_at_call 51; refine (border_any _ _).mono ?_; rintro e w' ⟨rfl, rfl⟩))
                  go_quiet (fail)
                  go_wp2
                  go_ret
                  exact ⟨ret_int (by rw [HF.out (by rw [HE.out]; decide), HE.out]), by (repeat' (with_reducible first | exact Below.refl _ _ | refine past_le ?_ ?_ _ | refine Below.alloc ?_ ?_ _ | refine Below.drew ?_ | refine drewN_le ?_ _ | refine Below.setCell ?_ ?_ _ | refine step_le (by assumption) ?_ ?_ | omega | (simp only [World.size_alloc]; omega) | (simp only [World.size_alloc, World.size_setCell]; omega) | (simp only [World.size_alloc, World.size_setCell, World.size_drew]; omega)))⟩
                · have e3d : decide ((rs (m + 1)).x0 ≤ (rs m).x1) = false := by simpa using e3
                  skip
                  have HE : Hid (runErr rs (m + 1) = 0) := by show runErr rs (m + 1) = 0; rw [HX.out, if_neg (by omega)]
                  go_wp2_with (first | (go_at_call 50; refine (permitted_any _ _).mono ?_; rintro e w' ⟨rfl, rfl⟩) | (go_at_call 51; refine (border_any _ _).mono ?_; rintro e w' ⟨rfl, rfl⟩))
                  go_quiet (fail)
                  go_wp2
                  go_roundw
                  case rel => exact ⟨m + 1 + 1, by omega, by go_num, HN.out HE.out, by (repeat' (with_reducible first | exact Below.refl _ _ | refine past_le ?_ ?_ _ | refine Below.alloc ?_ ?_ _ | refine Below.drew ?_ | refine drewN_le ?_ _ | refine Below.setCell ?_ ?_ _ | refine step_le (by assumption) ?_ ?_ | omega | (simp only [World.size_alloc]; omega) | (simp only [World.size_alloc, World.size_setCell]; omega) | (simp only [World.size_alloc, World.size_setCell, World.size_drew]; omega)))⟩
                  case measure => simp [intOf]; omega
            · have e1d : decide ((rs (m + 1)).y ≤ (rs m).y) = false := by simpa using e1
              skip
              have HE : Hid (runErr rs (m + 1) = 0) := by show runErr rs (m + 1) = 0; rw [HX.out, if_neg (by omega)]
              go_wp2_with (first | (go_at_call 50; refine (permitted_any _ _).mono ?_; rintro e w' ⟨rfl, rfl⟩) | (go_at_call 51; refine (border_any _ _).mono ?_; rintro e w' ⟨rfl, rfl⟩))
              go_quiet (fail)
              go_wp2
              go_roundw
              case rel => exact ⟨m + 1 + 1, by omega, by go_num, HN.out HE.out, by (repeat' (with_reducible first | exact Below.refl _ _ | refine past_le ?_ ?_ _ | refine Below.alloc ?_ ?_ _ | refine Below.drew ?_ | refine drewN_le ?_ _ | refine Below.setCell ?_ ?_ _ | refine step_le (by assumption) ?_ ?_ | omega | (simp only [World.size_alloc]; omega) | (simp only [World.size_alloc, World.size_setCell]; omega) | (simp only [World.size_alloc, World.size_setCell, World.size_drew]; omega)))⟩
              case measure => simp [intOf]; omega
      · have HE : Hid (runErr rs k = 3) := by
          show runErr rs k = 3
          rw [runErr, if_pos]
          simp only [inB_iff] at r
          omega
        by_cases r0 : inB (rs k).y (-8192) 8191 = true
        · by_cases r1 : inB (rs k).x0 (-8192) 8192 = true
          · have r2 : inB (rs k).x1 (-8192) 8192 = false := by simpa [r0, r1] using r
            clear r
            go_wp2_with (first | (go_at_call 50; refine (permitted_any _ _).mono ?_; rintro e w' ⟨rfl, rfl⟩) | (go_at_call 51; refine (border_any _ _).mono ?_; rintro e w' ⟨rfl, rfl⟩))
            go_ret
            exact ⟨ret_int (by rw [HF.out (by rw [HE.out]; decide), HE.out]), by (repeat' (with_reducible first | exact Below.refl _ _ | refine past_le ?_ ?_ _ | refine Below.alloc ?_ ?_ _ | refine Below.drew ?_ | refine drewN_le ?_ _ | refine Below.setCell ?_ ?_ _ | refine step_le (by assumption) ?_ ?_ | omega | (simp only [World.size_alloc]; omega) | (simp only [World.size_alloc, World.size_setCell]; omega) | (simp only [World.size_alloc, World.size_setCell, World.size_drew]; omega)))⟩
          · have r1 : inB (rs k).x0 (-8192) 8192 = false := by simpa using r1
            clear r
            go_wp2_with (first | (go_at_call 50; refine (permitted_any _ _).mono ?_; rintro e w' ⟨rfl, rfl⟩) | (go_at_call 51; refine (border_any _ _).mono ?_; rintro e w' ⟨rfl, rfl⟩))
            go_ret
            exact ⟨ret_int (by rw [HF.out (by rw [HE.out]; decide), HE.out]), by (repeat' (with_reducible first | exact Below.refl _ _ | refine past_le ?_ ?_ _ | refine Below.alloc ?_ ?_ _ | refine Below.drew ?_ | refine drewN_le ?_ _ | refine Below.setCell ?_ ?_ _ | refine step_le (by assumption) ?_ ?_ | omega | (simp only [World.size_alloc]; omega) | (simp only [World.size_alloc, World.size_setCell]; omega) | (simp only [World.size_alloc, World.size_setCell, World.size_drew]; omega)))⟩
        · have r0 : inB (rs k).y (-8192) 8191 = false := by simpa using r0
          clear r
          go_wp2_with (first | (go_at_call 50; refine (permitted_any _ _).mono ?_; rintro e w' ⟨rfl, rfl⟩) | (go_at_call 51; refine (border_any _ _).mono ?_; rintro e w' ⟨rfl, rfl⟩))
          go_ret
          exact ⟨ret_int (by rw [HF.out (by rw [HE.out]; decide), HE.out]), by (repeat' (with_reducible first | exact Below.refl _ _ | refine past_le ?_ ?_ _ | refine Below.alloc ?_ ?_ _ | refine Below.drew ?_ | refine drewN_le ?_ _ | refine Below.setCell ?_ ?_ _ | refine step_le (by assumption) ?_ ?_ | omega | (simp only [World.size_alloc]; omega) | (simp only [World.size_alloc, World.size_setCell]; omega) | (simp only [World.size_alloc, World.size_setCell, World.size_drew]; omega)))⟩
    · have : k = n := by omega
      subst this
      go_wp2
      go_ret
      exact ⟨ret_int hz.symm, hbel⟩
set_option maxHeartbeats 2000000 in
theorem RegionCheck_any (A : Option Addr) (n cap : Nat) (rs : Nat → Run) (w : World) (hn : n ≤ cap ∧ cap ≤ 9223372036854775807) (h : RunsAt w A n rs) :
    Calls Try.prog 19 #[.slice A n cap] w fun e w' => e = .returned (.int .i64 (regV rs n)) ∧ Below w.heap.size w w' := by
  go_enter Try.func19, Try.ntmps19
  go_wp2
  go_loopw [7] (fun i wr => ∃ k : Nat, k ≤ n ∧ i = .int .i64 k ∧ regV rs k = 0 ∧ Below w.heap.size w wr) (fun i _ => n - (intOf i).toNat)
  case atStart => exact ⟨0, Nat.zero_le _, rfl, rfl, Below.refl _ _⟩
  case round =>
    obtain ⟨k, hk, rfl, hz, hbel⟩ := hrel
    by_cases hlt : k < n
    · obtain ⟨b, off, rfl, hbs, hc⟩ := h.below hbel (by omega)
      obtain ⟨c0, c1, c2⟩ := hc k hlt
      have hsz := hbel.size
      have HF : Hid (runErr rs k ≠ 0 → regV rs n = runErr rs k) := fun he => regV_first hz he hlt
      have HN : Hid (runErr rs k = 0 → regV rs (k + 1) = 0) := fun he => regV_next hz he
      clear hz
      by_cases r : inB (rs k).y (-8192) 8191 = true ∧ inB (rs k).x0 (-8192) 8192 = true ∧ inB (rs k).x1 (-8192) 8192 = true
      · obtain ⟨r0, r1, r2⟩ := r
        have q0 := inB_iff.1 r0
        have q1 := inB_iff.1 r1
        have q2 := inB_iff.1 r2
        by_cases hx : (rs k).x1 ≤ (rs k).x0
        · have HE : Hid (runErr rs k = 4) := by show runErr rs k = 4; rw [runErr, if_neg (by omega), if_pos hx]
          go_wp2_with (first | (go_at_call 21; refine (In_any _ _ _ _).mono ?_; rintro e w' ⟨rfl, rfl⟩))
          go_ret
          exact ⟨ret_int (by rw [HF.out (by rw [HE.out]; decide), HE.out]), by (repeat' (with_reducible first | exact Below.refl _ _ | refine past_le ?_ ?_ _ | refine Below.alloc ?_ ?_ _ | refine Below.drew ?_ | refine drewN_le ?_ _ | refine Below.setCell ?_ ?_ _ | refine step_le (by assumption) ?_ ?_ | omega | (simp only [World.size_alloc]; omega) | (simp only [World.size_alloc, World.size_setCell]; omega) | (simp only [World.size_alloc, World.size_setCell, World.size_drew]; omega)))⟩
        · by_cases hk0 : k = 0
          · subst hk0
            simp only [Nat.zero_mul, Nat.add_zero] at c0 c1 c2
            have HE : Hid (runErr rs 0 = 0) := by show runErr rs 0 = 0; rw [runErr, if_neg (by omega), if_neg hx, if_neg (by omega)]
            go_wp2_with (first | (go_at_call 21; refine (In_any _ _ _ _).mono ?_; rintro e w' ⟨rfl, rfl⟩))
            go_quiet (fail)
            go_wp2
            go_roundw
            case rel => exact ⟨1, by omega, rfl, HN.out HE.out, by (repeat' (with_reducible first | exact Below.refl _ _ | refine past_le ?_ ?_ _ | refine Below.alloc ?_ ?_ _ | refine Below.drew ?_ | refine drewN_le ?_ _ | refine Below.setCell ?_ ?_ _ | refine step_le (by assumption) ?_ ?_ | omega | (simp only [World.size_alloc]; omega) | (simp only [World.size_alloc, World.size_setCell]; omega) | (simp only [World.size_alloc, World.size_setCell, World.size_drew]; omega)))⟩
            case measure => simp [intOf]; omega
          · obtain ⟨m, rfl⟩ : ∃ m, k = m + 1 := ⟨k - 1, by omega⟩
            obtain ⟨d0, d1, d2⟩ := hc m (by omega)
            have km : IntKind.i64.wrap (m : Int) = m := IntWalk.i64_in _ (by omega)
            have hmb : 0 ≤ (m : Int) ∧ (m : Int) < (n : Int) := by omega
            have HX : Hid (runErr rs (m + 1) = if (rs (m + 1)).y ≤ (rs m).y ∧ ((rs (m + 1)).y < (rs m).y ∨ (rs (m + 1)).x0 ≤ (rs m).x1) then 18 else 0) := by
              show runErr rs (m + 1) = _
              rw [runErr, if_neg (by omega), if_neg hx]
              simp
            by_cases e1 : (rs m).y < (rs (m + 1)).y
            · have e1d : decide ((rs m).y < (rs (m + 1)).y) = true := by simpa using e1
              skip
              have HE : Hid (runErr rs (m + 1) = 0) := by show runErr rs (m + 1) = 0; rw [HX.out, if_neg (by omega)]
              go_wp2_with (first | (go_at_call 21; refine (In_any _ _ _ _).mono ?_; rintro e w' ⟨rfl, rfl⟩))
              go_quiet (fail)
              go_wp2
              go_roundw
              case rel => exact ⟨m + 1 + 1, by omega, by go_num, HN.out HE.out, by (repeat' (with_reducible first | exact Below.refl _ _ | refine past_le ?_ ?_ _ | refine Below.alloc ?_ ?_ _ | refine Below.drew ?_ | refine drewN_le ?_ _ | refine Below.setCell ?_ ?_ _ | refine step_le (by assumption) ?_ ?_ | omega | (simp only [World.size_alloc]; omega) | (simp only [World.size_alloc, World.size_setCell]; omega) | (simp only [World.size_alloc, World.size_setCell, World.size_drew]; omega)))⟩
              case measure => simp [intOf]; omega
            · have e1d : decide ((rs m).y < (rs (m + 1)).y) = false := by simpa using e1
              by_cases e2 : (rs (m + 1)).y = (rs m).y
              · have e2' : ((rs (m + 1)).y == (rs m).y) = true := by simpa using e2
                have E2 : Hid _ := e2
                have e4 : (rs (m + 1)).y ≤ (rs m).y ∧ (rs m).y ≤ (rs (m + 1)).y := by omega
                clear e2
                by_cases e3 : (rs m).x1 < (rs (m + 1)).x0
                · have e3d : decide ((rs m).x1 < (rs (m + 1)).x0) = true := by simpa using e3
                  skip
                  have HE : Hid (runErr rs (m + 1) = 0) := by show runErr rs (m + 1) = 0; rw [HX.out, if_neg (by omega)]
                  go_wp2_with (first | (go_at_call 21; refine (In_any _ _ _ _).mono ?_; rintro e w' ⟨rfl, rfl⟩))
                  go_quiet (fail)
                  go_wp2
                  go_roundw
                  case rel => exact ⟨m + 1 + 1, by omega, by go_num, HN.out HE.out, by (repeat' (with_reducible first | exact Below.refl _ _ | refine past_le ?_ ?_ _ | refine Below.alloc ?_ ?_ _ | refine Below.drew ?_ | refine drewN_le ?_ _ | refine Below.setCell ?_ ?_ _ | refine step_le (by assumption) ?_ ?_ | omega | (simp only [World.size_alloc]; omega) | (simp only [World.size_alloc, World.size_setCell]; omega) | (simp only [World.size_alloc, World.size_setCell, World.size_drew]; omega)))⟩
                  case measure => simp [intOf]; omega
                · have e3d : decide ((rs m).x1 < (rs (m + 1)).x0) = false := by simpa using e3
                  skip
                  have HE : Hid (runErr rs (m + 1) = 18) := by show runErr rs (m + 1) = 18; rw [HX.out, if_pos ⟨by omega, by omega⟩]
                  go_wp2_with (first | (go_at_call 21; refine (In_any _ _ _ _).mono ?_; rintro e w' ⟨rfl, rfl⟩))
                  go_quiet (fail)
                  go_wp2
                  go_ret
                  exact ⟨ret_int (by rw [HF.out (by rw [HE.out]; decide), HE.out]), by (repeat' (with_reducible first | exact Below.refl _ _ | refine past_le ?_ ?_ _ | refine Below.alloc ?_ ?_ _ | refine Below.drew ?_ | refine drewN_le ?_ _ | refine Below.setCell ?_ ?_ _ | refine step_le (by assumption) ?_ ?_ | omega | (simp only [World.size_alloc]; omega) | (simp only [World.size_alloc, World.size_setCell]; omega) | (simp only [World.size_alloc, World.size_setCell, World.size_drew]; omega)))⟩
              · have e2' : ((rs (m + 1)).y == (rs m).y) = false := by simpa using e2
                have HE : Hid (runErr rs (m + 1) = 18) := by show runErr rs (m + 1) = 18; rw [HX.out, if_pos ⟨by omega, by omega⟩]
                go_wp2_with (first | (go_at_call 21; refine (In_any _ _ _ _).mono ?_; rintro e w' ⟨rfl, rfl⟩))
                go_quiet (fail)
                go_wp2
                go_ret
                exact ⟨ret_int (by rw [HF.out (by rw [HE.out]; decide), HE.out]), by (repeat' (with_reducible first | exact Below.refl _ _ | refine past_le ?_ ?_ _ | refine Below.alloc ?_ ?_ _ | refine Below.drew ?_ | refine drewN_le ?_ _ | refine Below.setCell ?_ ?_ _ | refine step_le (by assumption) ?_ ?_ | omega | (simp only [World.size_alloc]; omega) | (simp only [World.size_alloc, World.size_setCell]; omega) | (simp only [World.size_alloc, World.size_setCell, World.size_drew]; omega)))⟩
      · have HE : Hid (runErr rs k = 3) := by
          show runErr rs k = 3
          rw [runErr, if_pos]
          simp only [inB_iff] at r
          omega
        by_cases r0 : inB (rs k).y (-8192) 8191 = true
        · by_cases r1 : inB (rs k).x0 (-8192) 8192 = true
          · have r2 : inB (rs k).x1 (-8192) 8192 = false := by simpa [r0, r1] using r
            clear r
            go_wp2_with (first | (go_at_call 21; refine (In_any _ _ _ _).mono ?_; rintro e w' ⟨rfl, rfl⟩))
            go_ret
            exact ⟨ret_int (by rw [HF.out (by rw [HE.out]; decide), HE.out]), by (repeat' (with_reducible first | exact Below.refl _ _ | refine past_le ?_ ?_ _ | refine Below.alloc ?_ ?_ _ | refine Below.drew ?_ | refine drewN_le ?_ _ | refine Below.setCell ?_ ?_ _ | refine step_le (by assumption) ?_ ?_ | omega | (simp only [World.size_alloc]; omega) | (simp only [World.size_alloc, World.size_setCell]; omega) | (simp only [World.size_alloc, World.size_setCell, World.size_drew]; omega)))⟩
          · have r1 : inB (rs k).x0 (-8192) 8192 = false := by simpa using r1
            clear r
            go_wp2_with (first | (go_at_call 21; refine (In_any _ _ _ _).mono ?_; rintro e w' ⟨rfl, rfl⟩))
            go_ret
            exact ⟨ret_int (by rw [HF.out (by rw [HE.out]; decide), HE.out]), by (repeat' (with_reducible first | exact Below.refl _ _ | refine past_le ?_ ?_ _ | refine Below.alloc ?_ ?_ _ | refine Below.drew ?_ | refine drewN_le ?_ _ | refine Below.setCell ?_ ?_ _ | refine step_le (by assumption) ?_ ?_ | omega | (simp only [World.size_alloc]; omega) | (simp only [World.size_alloc, World.size_setCell]; omega) | (simp only [World.size_alloc, World.size_setCell, World.size_drew]; omega)))⟩
        · have r0 : inB (rs k).y (-8192) 8191 = false := by simpa using r0
          clear r
          go_wp2_with (first | (go_at_call 21; refine (In_any _ _ _ _).mono ?_; rintro e w' ⟨rfl, rfl⟩))
          go_ret
          exact ⟨ret_int (by rw [HF.out (by rw [HE.out]; decide), HE.out]), by (repeat' (with_reducible first | exact Below.refl _ _ | refine past_le ?_ ?_ _ | refine Below.alloc ?_ ?_ _ | refine Below.drew ?_ | refine drewN_le ?_ _ | refine Below.setCell ?_ ?_ _ | refine step_le (by assumption) ?_ ?_ | omega | (simp only [World.size_alloc]; omega) | (simp only [World.size_alloc, World.size_setCell]; omega) | (simp only [World.size_alloc, World.size_setCell, World.size_drew]; omega)))⟩
    · have : k = n := by omega
      subst this
      go_wp2
      go_ret
      exact ⟨ret_int hz.symm, hbel⟩
end Go.Proofs.Ytadgoodfhlmlmaa
