/-
  Contract of path.Check.
-/
import Derived.Test.YtoiblpncofbdpaaPathCheck
namespace Go.Proofs.Ytoiblpncofbdpaa
open Go.RowKit
set_option maxHeartbeats 4000000 in
theorem PathCheck_any (A : Option Addr) (n cap : Nat) (f : Nat → Nat → Int) (w : World) (hn : n ≤ cap ∧ cap ≤ 9223372036854775807) (h : RecsAt .i64 w A n 6 f) :
    Calls Try.prog 24 #[.slice A n cap] w fun e w' => e = .returned (.int .i64 (pathE f n)) ∧ Below w.heap.size w w' := by
  by_cases hbig : 1000 < n
  · go_enter Try.func24, Try.ntmps24
    go_wp2
    go_ret
    exact ⟨ret_int (by rw [pathE, if_pos hbig]), by (repeat' (with_reducible first | exact Below.refl _ _ | refine past_le ?_ ?_ _ | refine Below.alloc ?_ ?_ _ | refine Below.drew ?_ | refine drewN_le ?_ _ | refine Below.setCell ?_ ?_ _ | refine step_le (by assumption) ?_ ?_ | omega | (simp only []; omega) | (simp only [World.size_alloc]; omega) | (simp only [World.size_setCell]; omega) | (simp only [World.size_drew]; omega) | (simp only [World.size_alloc, World.size_setCell]; omega) | (simp only [World.size_alloc, World.size_drew]; omega) | (simp only [World.size_setCell, World.size_drew]; omega) | (simp only [World.size_alloc, World.size_setCell, World.size_drew]; omega)))⟩
  go_enter Try.func24, Try.ntmps24
  go_wp2
  go_loopw [11] (fun i wr => ∃ k : Nat, k ≤ n ∧ i = .int .i64 k ∧ firstV (pathErr f) k = 0 ∧ Below w.heap.size w wr) (fun i _ => n - (intOf i).toNat)
  case atStart => exact ⟨0, Nat.zero_le _, rfl, rfl, Below.refl _ _⟩
  case round =>
    obtain ⟨k, hk, rfl, hz, hbel⟩ := hrel
    by_cases hlt : k < n
    · obtain ⟨b, off, rfl, hbs, hc⟩ := h.below hbel (by omega)
      have c0 := hc k hlt 0 (by omega)
      have c1 := hc k hlt 1 (by omega)
      have c2 := hc k hlt 2 (by omega)
      have c3 := hc k hlt 3 (by omega)
      have c4 := hc k hlt 4 (by omega)
      have c5 := hc k hlt 5 (by omega)
      rw [Nat.add_zero] at c0
      have hsz := hbel.size
      have HF : Hid (pathErr f k ≠ 0 → pathE f n = pathErr f k) := fun he => by rw [pathE, if_neg hbig]; exact firstV_first hz he hlt
      have HN : Hid (pathErr f k = 0 → firstV (pathErr f) (k + 1) = 0) := fun he => firstV_next hz he
      clear hz
      by_cases hlo : f k 0 < 1
      · have HE : Hid (pathErr f k = 14) := by show pathErr f k = 14; unfold pathErr segF; rw [if_pos (by omega)]
        go_wp2_with fail
        go_ret
        exact ⟨ret_int (by rw [HF.out (by rw [HE.out]; decide), HE.out]), by (repeat' (with_reducible first | exact Below.refl _ _ | refine past_le ?_ ?_ _ | refine Below.alloc ?_ ?_ _ | refine Below.drew ?_ | refine drewN_le ?_ _ | refine Below.setCell ?_ ?_ _ | refine step_le (by assumption) ?_ ?_ | omega | (simp only []; omega) | (simp only [World.size_alloc]; omega) | (simp only [World.size_setCell]; omega) | (simp only [World.size_drew]; omega) | (simp only [World.size_alloc, World.size_setCell]; omega) | (simp only [World.size_alloc, World.size_drew]; omega) | (simp only [World.size_setCell, World.size_drew]; omega) | (simp only [World.size_alloc, World.size_setCell, World.size_drew]; omega)))⟩
      by_cases hhi : 4 < f k 0
      · have HE : Hid (pathErr f k = 14) := by show pathErr f k = 14; unfold pathErr segF; rw [if_pos (by omega)]
        go_wp2_with fail
        go_ret
        exact ⟨ret_int (by rw [HF.out (by rw [HE.out]; decide), HE.out]), by (repeat' (with_reducible first | exact Below.refl _ _ | refine past_le ?_ ?_ _ | refine Below.alloc ?_ ?_ _ | refine Below.drew ?_ | refine drewN_le ?_ _ | refine Below.setCell ?_ ?_ _ | refine step_le (by assumption) ?_ ?_ | omega | (simp only []; omega) | (simp only [World.size_alloc]; omega) | (simp only [World.size_setCell]; omega) | (simp only [World.size_drew]; omega) | (simp only [World.size_alloc, World.size_setCell]; omega) | (simp only [World.size_alloc, World.size_drew]; omega) | (simp only [World.size_setCell, World.size_drew]; omega) | (simp only [World.size_alloc, World.size_setCell, World.size_drew]; omega)))⟩
      by_cases hk0 : k = 0
      · subst hk0
        simp only [Nat.zero_mul, Nat.add_zero] at c0 c1 c2 c3 c4 c5
        by_cases h1 : f 0 0 = 1
        · have h1d : (f 0 0 != 1) = false := by simpa using h1
          have HE : Hid (pathErr f 0 = segE 1 (f 0 1) (f 0 2) (f 0 3) (f 0 4) (f 0 5)) := by show pathErr f 0 = segE 1 (f 0 1) (f 0 2) (f 0 3) (f 0 4) (f 0 5); unfold pathErr segF; rw [if_neg (by omega), if_neg (by simp [h1]), h1]
          by_cases he : segE 1 (f 0 1) (f 0 2) (f 0 3) (f 0 4) (f 0 5) = 0
          all_goals
            go_wp2_with (first | (go_at_call 58; refine (CheckSeg_any _ _ _ _ _ _ _).mono ?_; rintro e w' ⟨rfl, hb⟩; obtain ⟨hc9, hf9, hz9⟩ := bcell hb; try simp only [World.size_alloc] at hz9 hc9 hf9))
          · go_roundw
            case rel => exact ⟨0 + 1, by omega, by go_num, HN.out (HE.out.trans he), by (repeat' (with_reducible first | exact Below.refl _ _ | refine past_le ?_ ?_ _ | refine Below.alloc ?_ ?_ _ | refine Below.drew ?_ | refine drewN_le ?_ _ | refine Below.setCell ?_ ?_ _ | refine step_le (by assumption) ?_ ?_ | omega | (simp only []; omega) | (simp only [World.size_alloc]; omega) | (simp only [World.size_setCell]; omega) | (simp only [World.size_drew]; omega) | (simp only [World.size_alloc, World.size_setCell]; omega) | (simp only [World.size_alloc, World.size_drew]; omega) | (simp only [World.size_setCell, World.size_drew]; omega) | (simp only [World.size_alloc, World.size_setCell, World.size_drew]; omega)))⟩
            case measure => simp [intOf]; omega
          · go_ret
            exact ⟨ret_int (by rw [HF.out (by rw [HE.out]; exact he), HE.out]), by (repeat' (with_reducible first | exact Below.refl _ _ | refine past_le ?_ ?_ _ | refine Below.alloc ?_ ?_ _ | refine Below.drew ?_ | refine drewN_le ?_ _ | refine Below.setCell ?_ ?_ _ | refine step_le (by assumption) ?_ ?_ | omega | (simp only []; omega) | (simp only [World.size_alloc]; omega) | (simp only [World.size_setCell]; omega) | (simp only [World.size_drew]; omega) | (simp only [World.size_alloc, World.size_setCell]; omega) | (simp only [World.size_alloc, World.size_drew]; omega) | (simp only [World.size_setCell, World.size_drew]; omega) | (simp only [World.size_alloc, World.size_setCell, World.size_drew]; omega)))⟩
        · have h1d : (f 0 0 != 1) = true := by simpa using h1
          have HE : Hid (pathErr f 0 = 18) := by show pathErr f 0 = 18; unfold pathErr segF; rw [if_neg (by omega), if_pos (by simp [h1])]
          go_wp2_with fail
          go_ret
          exact ⟨ret_int (by rw [HF.out (by rw [HE.out]; decide), HE.out]), by (repeat' (with_reducible first | exact Below.refl _ _ | refine past_le ?_ ?_ _ | refine Below.alloc ?_ ?_ _ | refine Below.drew ?_ | refine drewN_le ?_ _ | refine Below.setCell ?_ ?_ _ | refine step_le (by assumption) ?_ ?_ | omega | (simp only []; omega) | (simp only [World.size_alloc]; omega) | (simp only [World.size_setCell]; omega) | (simp only [World.size_drew]; omega) | (simp only [World.size_alloc, World.size_setCell]; omega) | (simp only [World.size_alloc, World.size_drew]; omega) | (simp only [World.size_setCell, World.size_drew]; omega) | (simp only [World.size_alloc, World.size_setCell, World.size_drew]; omega)))⟩
      · obtain ⟨m, rfl⟩ : ∃ m, k = m + 1 := ⟨k - 1, by omega⟩
        have d0 := hc m (by omega) 0 (by omega)
        rw [Nat.add_zero] at d0
        have km : IntKind.i64.wrap (m : Int) = m := IntWalk.i64_in _ (by omega)
        have hmb : 0 ≤ (m : Int) ∧ (m : Int) < (n : Int) := by omega
        have hm0 : ((m : Int) + 1 == 0) = false := by simpa using (by omega : ¬ (m : Int) + 1 = 0)
        by_cases h4 : f m 0 = 4
        · have h4d : (f m 0 == 4) = true := by simpa using h4
          by_cases h1 : f (m + 1) 0 = 1
          · have h1d : (f (m + 1) 0 != 1) = false := by simpa using h1
            have HE : Hid (pathErr f (m + 1) = segE 1 (f (m + 1) 1) (f (m + 1) 2) (f (m + 1) 3) (f (m + 1) 4) (f (m + 1) 5)) := by show pathErr f (m + 1) = segE 1 (f (m + 1) 1) (f (m + 1) 2) (f (m + 1) 3) (f (m + 1) 4) (f (m + 1) 5); unfold pathErr segF; rw [if_neg (by omega), if_neg (by simp [h1]), h1]
            by_cases he : segE 1 (f (m + 1) 1) (f (m + 1) 2) (f (m + 1) 3) (f (m + 1) 4) (f (m + 1) 5) = 0
            all_goals
              go_wp2_with (first | (go_at_call 58; refine (CheckSeg_any _ _ _ _ _ _ _).mono ?_; rintro e w' ⟨rfl, hb⟩; obtain ⟨hc9, hf9, hz9⟩ := bcell hb; try simp only [World.size_alloc] at hz9 hc9 hf9))
            · go_roundw
              case rel => exact ⟨(m + 1) + 1, by omega, by go_num, HN.out (HE.out.trans he), by (repeat' (with_reducible first | exact Below.refl _ _ | refine past_le ?_ ?_ _ | refine Below.alloc ?_ ?_ _ | refine Below.drew ?_ | refine drewN_le ?_ _ | refine Below.setCell ?_ ?_ _ | refine step_le (by assumption) ?_ ?_ | omega | (simp only []; omega) | (simp only [World.size_alloc]; omega) | (simp only [World.size_setCell]; omega) | (simp only [World.size_drew]; omega) | (simp only [World.size_alloc, World.size_setCell]; omega) | (simp only [World.size_alloc, World.size_drew]; omega) | (simp only [World.size_setCell, World.size_drew]; omega) | (simp only [World.size_alloc, World.size_setCell, World.size_drew]; omega)))⟩
              case measure => simp [intOf]; omega
            · go_ret
              exact ⟨ret_int (by rw [HF.out (by rw [HE.out]; exact he), HE.out]), by (repeat' (with_reducible first | exact Below.refl _ _ | refine past_le ?_ ?_ _ | refine Below.alloc ?_ ?_ _ | refine Below.drew ?_ | refine drewN_le ?_ _ | refine Below.setCell ?_ ?_ _ | refine step_le (by assumption) ?_ ?_ | omega | (simp only []; omega) | (simp only [World.size_alloc]; omega) | (simp only [World.size_setCell]; omega) | (simp only [World.size_drew]; omega) | (simp only [World.size_alloc, World.size_setCell]; omega) | (simp only [World.size_alloc, World.size_drew]; omega) | (simp only [World.size_setCell, World.size_drew]; omega) | (simp only [World.size_alloc, World.size_setCell, World.size_drew]; omega)))⟩
          · have h1d : (f (m + 1) 0 != 1) = true := by simpa using h1
            have HE : Hid (pathErr f (m + 1) = 18) := by show pathErr f (m + 1) = 18; unfold pathErr segF; rw [if_neg (by omega), if_pos (by simp [h1, h4])]
            go_wp2_with fail
            go_ret
            exact ⟨ret_int (by rw [HF.out (by rw [HE.out]; decide), HE.out]), by (repeat' (with_reducible first | exact Below.refl _ _ | refine past_le ?_ ?_ _ | refine Below.alloc ?_ ?_ _ | refine Below.drew ?_ | refine drewN_le ?_ _ | refine Below.setCell ?_ ?_ _ | refine step_le (by assumption) ?_ ?_ | omega | (simp only []; omega) | (simp only [World.size_alloc]; omega) | (simp only [World.size_setCell]; omega) | (simp only [World.size_drew]; omega) | (simp only [World.size_alloc, World.size_setCell]; omega) | (simp only [World.size_alloc, World.size_drew]; omega) | (simp only [World.size_setCell, World.size_drew]; omega) | (simp only [World.size_alloc, World.size_setCell, World.size_drew]; omega)))⟩
        · have h4d : (f m 0 == 4) = false := by simpa using h4
          have HE : Hid (pathErr f (m + 1) = segE (f (m + 1) 0) (f (m + 1) 1) (f (m + 1) 2) (f (m + 1) 3) (f (m + 1) 4) (f (m + 1) 5)) := by show pathErr f (m + 1) = segE (f (m + 1) 0) (f (m + 1) 1) (f (m + 1) 2) (f (m + 1) 3) (f (m + 1) 4) (f (m + 1) 5); unfold pathErr segF; rw [if_neg (by omega), if_neg (by simp [h4])]
          by_cases he : segE (f (m + 1) 0) (f (m + 1) 1) (f (m + 1) 2) (f (m + 1) 3) (f (m + 1) 4) (f (m + 1) 5) = 0
          all_goals
            go_wp2_with (first | (go_at_call 58; refine (CheckSeg_any _ _ _ _ _ _ _).mono ?_; rintro e w' ⟨rfl, hb⟩; obtain ⟨hc9, hf9, hz9⟩ := bcell hb; try simp only [World.size_alloc] at hz9 hc9 hf9))
          · go_roundw
            case rel => exact ⟨(m + 1) + 1, by omega, by go_num, HN.out (HE.out.trans he), by (repeat' (with_reducible first | exact Below.refl _ _ | refine past_le ?_ ?_ _ | refine Below.alloc ?_ ?_ _ | refine Below.drew ?_ | refine drewN_le ?_ _ | refine Below.setCell ?_ ?_ _ | refine step_le (by assumption) ?_ ?_ | omega | (simp only []; omega) | (simp only [World.size_alloc]; omega) | (simp only [World.size_setCell]; omega) | (simp only [World.size_drew]; omega) | (simp only [World.size_alloc, World.size_setCell]; omega) | (simp only [World.size_alloc, World.size_drew]; omega) | (simp only [World.size_setCell, World.size_drew]; omega) | (simp only [World.size_alloc, World.size_setCell, World.size_drew]; omega)))⟩
            case measure => simp [intOf]; omega
          · go_ret
            exact ⟨ret_int (by rw [HF.out (by rw [HE.out]; exact he), HE.out]), by (repeat' (with_reducible first | exact Below.refl _ _ | refine past_le ?_ ?_ _ | refine Below.alloc ?_ ?_ _ | refine Below.drew ?_ | refine drewN_le ?_ _ | refine Below.setCell ?_ ?_ _ | refine step_le (by assumption) ?_ ?_ | omega | (simp only []; omega) | (simp only [World.size_alloc]; omega) | (simp only [World.size_setCell]; omega) | (simp only [World.size_drew]; omega) | (simp only [World.size_alloc, World.size_setCell]; omega) | (simp only [World.size_alloc, World.size_drew]; omega) | (simp only [World.size_setCell, World.size_drew]; omega) | (simp only [World.size_alloc, World.size_setCell, World.size_drew]; omega)))⟩
    · have : k = n := by omega
      subst this
      go_wp2
      go_ret
      exact ⟨ret_int (by rw [pathE, if_neg hbig, hz]), hbel⟩
end Go.Proofs.Ytoiblpncofbdpaa
