/-
  The walk of the law PathCheckFirst: Check returns the first error of the first segment that has one.
-/
import Derived.Test.YtoiblpncofbdpaaPathCheck2
namespace Go.Proofs.Ytoiblpncofbdpaa.pathCheckFirst
open Go.RowKit

def one (_ j : Nat) : Int := if j = 0 then 2 else 0
theorem one_new (w : World) (t : TypeId) : RecsAt .i64 (w.alloc (.cells #[.int .i64 2, .int .i64 0, .int .i64 0, .int .i64 0, .int .i64 0, .int .i64 0] t)) (some ⟨w.heap.size, 0, none⟩) 1 6 one := by
  intro _
  refine ⟨w.heap.size, 0, rfl, by simp, fun i hi j hj => ?_⟩
  have : i = 0 := by omega
  subst this
  match j, hj with
  | 0, _ => simp [one]
  | 1, _ => simp [one]
  | 2, _ => simp [one]
  | 3, _ => simp [one]
  | 4, _ => simp [one]
  | 5, _ => simp [one]
set_option maxHeartbeats 2000000 in
theorem walk (A : Option Addr) (n cap : Nat) (f : Nat → Nat → Int) (w : World) (hc : n ≤ cap) (hm : cap ≤ maxLen) (hr : RecsAt .i64 w A n 6 f) (_hz : RecsIn .i64 n 6 f) :
    Calls Try.prog 5 #[.slice A n cap] w fun e w' => e = .returned (.bool true) ∧ Below w.heap.size w w' := by
  unfold maxLen at hm
  have h0 : pathE one 1 = 18 := by decide
  go_enter Try.func5, Try.ntmps5
  go_wp2_with fail
  refine (PathCheck_any _ 1 1 one _ (by omega) (one_new _ _)).mono ?_
  rintro e w1 ⟨rfl, hb1⟩
  have b1 : Below w.heap.size w w1 := by (repeat' (with_reducible first | exact Below.refl _ _ | refine past_le ?_ ?_ _ | refine Below.alloc ?_ ?_ _ | refine Below.drew ?_ | refine drewN_le ?_ _ | refine Below.setCell ?_ ?_ _ | refine step_le (by assumption) ?_ ?_ | omega | (simp only []; omega) | (simp only [World.size_alloc]; omega) | (simp only [World.size_setCell]; omega) | (simp only [World.size_drew]; omega) | (simp only [World.size_alloc, World.size_setCell]; omega) | (simp only [World.size_alloc, World.size_drew]; omega) | (simp only [World.size_setCell, World.size_drew]; omega) | (simp only [World.size_alloc, World.size_setCell, World.size_drew]; omega)))
  go_wp2_with fail
  refine (PathCheck_any _ n cap f _ ⟨hc, hm⟩ (hr.below b1)).mono ?_
  rintro e w2 ⟨rfl, hb2⟩
  have b2 : Below w.heap.size w w2 := b1.trans (hb2.mono b1.size)
  go_wp2_with fail
  refine (PathCheckR_any _ n cap f _ ⟨hc, hm⟩ (hr.below b2)).mono ?_
  rintro e w3 ⟨rfl, hb3⟩
  go_wp2_with fail
  all_goals go_ret
  all_goals exact ⟨by simp, b2.trans (hb3.mono b2.size)⟩
end Go.Proofs.Ytoiblpncofbdpaa.pathCheckFirst
