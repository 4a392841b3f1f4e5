/-
  The walk of the law RegionCheckForm: Check accepts sorted runs of permitted cells that do not touch.
-/
import Derived.Test.YtadgoodfhlmlmaaRegionCheck
namespace Go.Proofs.Ytadgoodfhlmlmaa.regionCheckForm
open Go.RowKit

theorem one_new (w : World) (t : TypeId) (a b c : Int) : RunsAt (w.alloc (.cells #[.int .i64 a, .int .i64 b, .int .i64 c] t)) (some ⟨w.heap.size, 0, none⟩) 1 (fun _ => ⟨a, b, c⟩) := by
  intro _
  refine ⟨w.heap.size, 0, rfl, by simp, fun i hi => ?_⟩
  have : i = 0 := by omega
  subst this
  exact ⟨by simp, by simp, by simp⟩
set_option maxHeartbeats 2000000 in
theorem walk (A : Option Addr) (n cap : Nat) (rs : Nat → Run) (w : World) (hc : n ≤ cap) (hm : cap ≤ maxLen) (hr : RunsAt w A n rs) :
    Calls Try.prog 4 #[.slice A n cap] w fun e w' => e = .returned (.bool true) ∧ Below w.heap.size w w' := by
  unfold maxLen at hm
  have h0 : regV (fun _ => ⟨0, 1, 1⟩) 1 = 4 := by decide
  go_enter Try.func4, Try.ntmps4
  go_wp2_with fail
  refine (RCheck_any _ 1 1 (fun _ => ⟨0, 1, 1⟩) _ (by omega) (one_new _ _ _ _ _)).mono ?_
  rintro e w1 ⟨rfl, hb1⟩
  have b1 : Below w.heap.size w w1 := by (repeat' (with_reducible first | exact Below.refl _ _ | refine past_le ?_ ?_ _ | refine Below.alloc ?_ ?_ _ | refine Below.drew ?_ | refine drewN_le ?_ _ | refine Below.setCell ?_ ?_ _ | refine step_le (by assumption) ?_ ?_ | omega | (simp only [World.size_alloc]; omega) | (simp only [World.size_alloc, World.size_setCell]; omega) | (simp only [World.size_alloc, World.size_setCell, World.size_drew]; omega)))
  go_wp2_with fail
  refine (RCheck_any _ n cap rs _ ⟨hc, hm⟩ (hr.below b1)).mono ?_
  rintro e w2 ⟨rfl, hb2⟩
  have b2 : Below w.heap.size w w2 := b1.trans (hb2.mono b1.size)
  go_wp2_with fail
  refine (RegionCheck_any _ n cap rs _ ⟨hc, hm⟩ (hr.below b2)).mono ?_
  rintro e w3 ⟨rfl, hb3⟩
  go_wp2_with fail
  all_goals go_ret
  all_goals exact ⟨by simp, b2.trans (hb3.mono b2.size)⟩
end Go.Proofs.Ytadgoodfhlmlmaa.regionCheckForm
