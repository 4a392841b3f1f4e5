/-
  Contracts of package raster.
-/
import Derived.Test.YtmklpphdbmpbbaaIn
import Derived.Test.YtmklpphdbmpbbaaMix2
namespace Go.Proofs.Ytmklpphdbmpbbaa
open Go.RowKit

theorem sized_any (x y : Int) (w : World) :
    Calls Try.prog 49 #[.int .i64 x, .int .i64 y] w fun e w' => e = .returned (.bool (inB x 1 1024 && inB y 1 1024)) ∧ w = w' := by
  by_cases h1 : 1 ≤ x <;> by_cases h2 : x ≤ 1024 <;> by_cases h3 : 1 ≤ y <;> by_cases h4 : y ≤ 1024
  all_goals
    go_enter Try.func49, Try.ntmps49
    go_wp2
    go_ret
    exact ⟨ret_bool (by simp [inB, h1, h2, h3, h4]; try omega), rfl⟩
/-- The error of a raster. -/
def gridE (x y : Int) (n : Nat) : Int := if ¬(inB x 1 1024 = true ∧ inB y 1 1024 = true) then 3 else if (n : Int) ≠ x * y then 4 else 0
theorem mul_1024 {x y : Int} (hx : 1 ≤ x ∧ x ≤ 1024) (hy : 1 ≤ y ∧ y ≤ 1024) : 1 ≤ x * y ∧ x * y ≤ 1048576 := by
  have h1 := Int.mul_le_mul hx.1 hy.1 (by omega) (by omega)
  have h2 := Int.mul_le_mul hx.2 hy.2 (by omega) (by omega)
  omega
set_option maxHeartbeats 1000000 in
theorem gridCheck_any (x y : Int) (A : Option Addr) (n cap : Nat) (w : World) :
    Calls Try.prog 31 #[.agg #[.int .i64 x, .int .i64 y, .slice A n cap]] w fun e w' => e = .returned (.int .i64 (gridE x y n)) ∧ w.alloc (.cells #[.int .i64 x, .int .i64 y, .slice A n cap] 43) = w' := by
  by_cases hs : inB x 1 1024 = true ∧ inB y 1 1024 = true
  · obtain ⟨h1, h2⟩ := hs
    have h1' := inB_iff.1 h1
    have h2' := inB_iff.1 h2
    have hm := mul_1024 h1' h2'
    by_cases hxy : (n : Int) = x * y
    · have hd : ((n : Int) != x * y) = false := by simpa using hxy
      go_enter Try.func31, Try.ntmps31
      go_wp2_with (first | (go_at_call 49; refine (sized_any _ _ _).mono ?_; rintro e w' ⟨rfl, rfl⟩))
      go_ret
      exact ⟨ret_int (by rw [gridE, if_neg (by simp [h1, h2]), if_neg (by simpa using hxy)]), rfl⟩
    · have hd : ((n : Int) != x * y) = true := by simpa using hxy
      go_enter Try.func31, Try.ntmps31
      go_wp2_with (first | (go_at_call 49; refine (sized_any _ _ _).mono ?_; rintro e w' ⟨rfl, rfl⟩))
      go_ret
      exact ⟨ret_int (by rw [gridE, if_neg (by simp [h1, h2]), if_pos (by simpa using hxy)]), rfl⟩
  · have hs' : (inB x 1 1024 && inB y 1 1024) = false := by
      cases h1 : inB x 1 1024 <;> cases h2 : inB y 1 1024 <;> simp_all
    have H : Hid (gridE x y n = 3) := by show gridE x y n = 3; rw [gridE, if_pos hs]
    clear hs
    go_enter Try.func31, Try.ntmps31
    go_wp2_with (first | (go_at_call 49; refine (sized_any _ _ _).mono ?_; rw [hs']; rintro e w' ⟨rfl, rfl⟩))
    go_ret
    exact ⟨ret_int H.out.symm, rfl⟩
end Go.Proofs.Ytmklpphdbmpbbaa
