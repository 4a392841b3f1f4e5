/-
  fill.cross's comparison.
-/
import Derived.Test.YthbppimjaealnaaCmpI
import Derived.Test.YthbppimjaealnaaWindLaw
import Derived.Test.YthbppimjaealnaaShelf
import Derived.Sort.Grow
import Derived.Shelf.SlSortCmp.NoneTotal
namespace Go.Proofs.Ythbppimjaealnaa
open Go.RowKit Go.Shelf Go.Lib Go.Sort
set_option linter.unusedVariables false
set_option maxRecDepth 20000
theorem cmpC_is (a b : Cr) : cmpC a b = cmpI a.x b.x := rfl
set_option maxHeartbeats 2000000 in
theorem cmp_cross (x y : Cr) (W : World) : Calls Try.prog 63 #[.agg (encC x).toArray, .agg (encC y).toArray] W fun e w' => e = .returned (.int .i64 (cmpC x y)) ∧ ∃ q os', w' = grow (W.drewN q) os' := by
  obtain ⟨a, b⟩ := x
  obtain ⟨d, e⟩ := y
  have hcon := fun W' => compare_exact a d W'
  rw [cmpC_is]
  simp only [encC]
  generalize hr : cmpI a d = r at hcon
  show Calls Try.prog 63 #[.agg #[.int .i64 a, .int .i64 b], .agg #[.int .i64 d, .int .i64 e]] W _
  go_enter Try.func63, Try.ntmps63
  go_wp2_with (go_at_call 64; refine (hcon _).mono ?_; rintro e w' ⟨rfl, rfl⟩)
  go_ret
  exact ⟨rfl, 0, _, by rw [alloc_eq_grow, alloc_eq_grow, grow_grow]; rfl⟩
theorem lt_cmpC (a b : Cr) : (ltOf cmpC a b = false) ↔ b.x ≤ a.x := by
  unfold ltOf cmpC
  rw [decide_eq_false_iff_not]
  split
  · omega
  · split <;> omega
theorem swo_cmpC : SWO (ltOf cmpC) where
  irrefl x := by rw [lt_cmpC]; omega
  trans x y z h1 h2 := by
    rw [← Bool.not_eq_false] at *
    rw [lt_cmpC] at *
    omega
  ntrans x y z h1 h2 := by rw [lt_cmpC] at *; omega
end Go.Proofs.Ythbppimjaealnaa
