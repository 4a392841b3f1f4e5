/-
  Contracts of Round, of package num and of the reference.
-/
import Derived.Test.YtadgoodfhlmlmaaFloor
namespace Go.Proofs.Ytadgoodfhlmlmaa
open Go.RowKit

theorem tup2 {a b a' b' : Value} (h : a = a') (k : b = b') : Ending.returned (.tuple #[a, b]) = .returned (.tuple #[a', b']) := by rw [h, k]
/-- What Round and its reference return. -/
def roundV (a b : Int) : Int × Int := if fit a = true ∧ fit b = true then (if b < 1 then (0, 1) else (near a b, 0)) else (0, 3)
set_option maxHeartbeats 400000 in
theorem Round_any (a b : Int) (w : World) :
    Calls Try.prog 37 #[.int .i64 a, .int .i64 b] w fun e w' => e = .returned (.tuple #[.int .i64 (roundV a b).1, .int .i64 (roundV a b).2]) ∧ Below w.heap.size w w' := by
  by_cases hf : fit a = true ∧ fit b = true
  · have hff : (fit a && fit b) = true := by simp [hf]
    have ha' := inB_iff.1 hf.1
    have hb'' := inB_iff.1 hf.2
    by_cases h1 : b < 1
    · have hv : Hid (roundV a b = (0, 1)) := by show roundV a b = _; rw [roundV, if_pos hf, if_pos h1]
      clear hf
      go_enter Try.func37, Try.ntmps37
      go_wp2_with (first | (go_at_call 55; refine (fits2_any a b _ _ (cell_new _ _ _ _ _ rfl) (cell_new _ _ _ _ _ rfl)).mono ?_; rintro e w' ⟨rfl, rfl⟩))
      go_ret2
      exact ⟨tup2 (by rw [hv.out]; rfl) (by rw [hv.out]; rfl), by go_grown⟩
    · have hv : Hid (roundV a b = (near a b, 0)) := by show roundV a b = _; rw [roundV, if_pos hf, if_neg h1]
      clear hf
      go_enter Try.func37, Try.ntmps37
      go_wp2_with (first | (go_at_call 55; refine (fits2_any a b _ _ (cell_new _ _ _ _ _ rfl) (cell_new _ _ _ _ _ rfl)).mono ?_; rintro e w' ⟨rfl, rfl⟩) | (go_at_call 53; refine (Near_any _ _ _ ?_ ?_).mono ?_; omega; omega; rintro e w' ⟨rfl, rfl⟩))
      go_ret2
      exact ⟨tup2 (by rw [hv.out]; rfl) (by rw [hv.out]; rfl), by go_grown⟩
  · have hff : (fit a && fit b) = false := by simpa using hf
    have hv : Hid (roundV a b = (0, 3)) := by show roundV a b = _; rw [roundV, if_neg hf]
    clear hf
    go_enter Try.func37, Try.ntmps37
    go_wp2_with (first | (go_at_call 55; refine (fits2_any a b _ _ (cell_new _ _ _ _ _ rfl) (cell_new _ _ _ _ _ rfl)).mono ?_; rintro e w' ⟨rfl, rfl⟩))
    go_ret2
    exact ⟨tup2 (by rw [hv.out]; rfl) (by rw [hv.out]; rfl), by go_grown⟩
set_option maxHeartbeats 400000 in
theorem RRound_any (a b : Int) (w : World) :
    Calls Try.prog 38 #[.int .i64 a, .int .i64 b] w fun e w' => e = .returned (.tuple #[.int .i64 (roundV a b).1, .int .i64 (roundV a b).2]) ∧ w = w' := by
  by_cases hf : fit a = true ∧ fit b = true
  · have ha' := inB_iff.1 hf.1
    have hb'' := inB_iff.1 hf.2
    by_cases h1 : b < 1
    · have hv : Hid (roundV a b = (0, 1)) := by show roundV a b = _; rw [roundV, if_pos hf, if_pos h1]
      have hfl : floorV a b = (0, 0, 1) := by rw [floorV, if_pos hf, if_pos h1]
      clear hf
      go_enter Try.func38, Try.ntmps38
      go_wp2_with (first | (go_at_call 30; refine (RFloor_any _ _ _).mono ?_; rintro e w' ⟨rfl, rfl⟩))
      go_ret2
      exact ⟨tup2 (by rw [hv.out]; rfl) (by rw [hv.out]; rfl), rfl⟩
    · have hv : Hid (roundV a b = (near a b, 0)) := by show roundV a b = _; rw [roundV, if_pos hf, if_neg h1]
      have hfl : floorV a b = (a / b, a % b, 0) := by rw [floorV, if_pos hf, if_neg h1]
      have hn : Hid _ := near_eq a b (by omega)
      clear hf
      go_enter Try.func38, Try.ntmps38
      go_wp2_with (first | (go_at_call 30; refine (RFloor_any _ _ _).mono ?_; rintro e w' ⟨rfl, rfl⟩) | (go_at_call 54; refine (Down_any _ _ _ ?_ ?_).mono ?_; omega; omega; rintro e w' ⟨rfl, rfl⟩))
      go_ret2
      exact ⟨tup2 (by rw [hv.out]; exact int_eq hn.out) (by rw [hv.out]; rfl), rfl⟩
  · have hv : Hid (roundV a b = (0, 3)) := by show roundV a b = _; rw [roundV, if_neg hf]
    have hfl : floorV a b = (0, 0, 3) := by rw [floorV, if_neg hf]
    clear hf
    go_enter Try.func38, Try.ntmps38
    go_wp2_with (first | (go_at_call 30; refine (RFloor_any _ _ _).mono ?_; rintro e w' ⟨rfl, rfl⟩))
    go_ret2
    exact ⟨tup2 (by rw [hv.out]; rfl) (by rw [hv.out]; rfl), rfl⟩
end Go.Proofs.Ytadgoodfhlmlmaa
