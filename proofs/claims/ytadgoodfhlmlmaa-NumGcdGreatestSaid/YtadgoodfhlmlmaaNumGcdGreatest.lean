/-
  The walk of the law NumGcdGreatest: Gcd returns the greatest common divisor.
-/
import Derived.Test.YtadgoodfhlmlmaaGcd
namespace Go.Proofs.Ytadgoodfhlmlmaa.numGcdGreatest
open Go.RowKit

set_option maxHeartbeats 800000 in
theorem walk (a b : Int) (w : World) (_w0 : (Lit.int .i64 a).wf = true) (_w1 : (Lit.int .i64 b).wf = true) :
    Calls Try.prog 7 #[.int .i64 a, .int .i64 b] w fun e w' => e = .returned (.bool true) ∧ Below w.heap.size w w' := by
  have hg : ((absN (-12)).gcd (absN 18) : Nat) = 6 := by decide
  by_cases hf : fit a = true ∧ fit b = true
  · obtain ⟨ha, hb⟩ := hf
    have ha' : inB a (-1099511627776) 1099511627776 = true := ha
    have hb' : inB b (-1099511627776) 1099511627776 = true := hb
    go_enter Try.func7, Try.ntmps7
    go_wp2_with fail
    refine (Gcd_any (-12) 18 _ (by decide) (by decide)).mono ?_
    rintro e w1 ⟨rfl, hb1⟩
    go_wp2_with fail
    refine (Gcd_any _ _ _ ha hb).mono ?_
    rintro e w2 ⟨rfl, hb2⟩
    go_wp2_with (first | (go_at_call 21; refine (In_any _ _ _ _).mono ?_; rintro e w' ⟨rfl, rfl⟩) | (go_at_call 28; refine (RGcd_any _ _ _ ha hb).mono ?_; rintro e w' ⟨rfl, rfl⟩))
    all_goals go_ret
    all_goals exact ⟨by simp, hb1.trans (hb2.mono hb1.size)⟩
  · by_cases ha : fit a = true
    · have ha' : inB a (-1099511627776) 1099511627776 = true := ha
      have hb' : inB b (-1099511627776) 1099511627776 = false := by have := fun hb => hf ⟨ha, hb⟩; unfold fit at this; simpa using this
      go_enter Try.func7, Try.ntmps7
      go_wp2_with fail
      refine (Gcd_any (-12) 18 _ (by decide) (by decide)).mono ?_
      rintro e w1 ⟨rfl, hb1⟩
      go_wp2_with fail
      refine (Gcd_no _ _ _ hf).mono ?_
      rintro e w2 ⟨rfl, hb2⟩
      go_wp2_with (first | (go_at_call 21; refine (In_any _ _ _ _).mono ?_; rintro e w' ⟨rfl, rfl⟩))
      all_goals go_ret
      all_goals exact ⟨by simp, hb1.trans (hb2.mono hb1.size)⟩
    · have ha' : inB a (-1099511627776) 1099511627776 = false := by unfold fit at ha; simpa using ha
      go_enter Try.func7, Try.ntmps7
      go_wp2_with fail
      refine (Gcd_any (-12) 18 _ (by decide) (by decide)).mono ?_
      rintro e w1 ⟨rfl, hb1⟩
      go_wp2_with fail
      refine (Gcd_no _ _ _ hf).mono ?_
      rintro e w2 ⟨rfl, hb2⟩
      go_wp2_with (first | (go_at_call 21; refine (In_any _ _ _ _).mono ?_; rintro e w' ⟨rfl, rfl⟩))
      all_goals go_ret
      all_goals exact ⟨by simp, hb1.trans (hb2.mono hb1.size)⟩
end Go.Proofs.Ytadgoodfhlmlmaa.numGcdGreatest
