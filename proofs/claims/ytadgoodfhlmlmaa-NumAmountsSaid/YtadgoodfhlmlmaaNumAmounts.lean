/-
  The walk of the law NumAmounts: Mul255 and Mix255 are the reference's.
-/
import Derived.Test.YtadgoodfhlmlmaaAmounts
import Derived.OpenShut
namespace Go.Proofs.Ytadgoodfhlmlmaa.numAmounts
open Go.RowKit

set_option maxHeartbeats 800000 in
theorem walk (a b t : Int) (w : World) (w0 : (Lit.int .u8 a).wf = true) (w1 : (Lit.int .u8 b).wf = true) (w2 : (Lit.int .u8 t).wf = true) :
    Calls Try.prog 6 #[.int .u8 a, .int .u8 b, .int .u8 t] w fun e w' => e = .returned (.bool true) ∧ Below w.heap.size w w' := by
  have ha := bounds_u8 w0
  have hb := bounds_u8 w1
  have ht := bounds_u8 w2
  have h0 : near (128 * 128) 255 = 64 := by decide
  have h0' : near 16384 255 = 64 := by decide
  have h0'' : near 25500 255 = 100 := by decide
  have h1 := mul_bd (a := 255 - t) (b := a) (A := 255 - t) (B := 255) ⟨by omega, by omega⟩ ha
  have h2 := mul_bd (a := t) (b := b) (A := t) (B := 255) ⟨by omega, by omega⟩ hb
  have hab := mul_bd ha hb
  have n1 := near_bd (a * b) 255 255 (by omega) (by omega) (by omega)
  have n2 := near_bd ((255 - t) * a + t * b) 255 255 (by omega) (by omega) (by omega)
  go_enter Try.func6, Try.ntmps6
  go_wp2_with (first
    | (go_at_call 23; refine (Mul255_any _ _ _ ?_ ?_).mono ?_; omega; omega; rintro e w' ⟨rfl, rfl⟩)
    | (go_at_call 24; refine (Mix255_any _ _ _ _ ?_ ?_ ?_).mono ?_; omega; omega; omega; rintro e w' ⟨rfl, rfl⟩)
    | (go_at_call 25; refine (RMul_any _ _ _ ?_ ?_).mono ?_; omega; omega; rintro e w' ⟨rfl, rfl⟩)
    | (go_at_call 26; refine (Half_any _ _ _ ?_ ?_).mono ?_; omega; omega; rintro e w' ⟨rfl, rfl⟩))
  all_goals go_ret
  all_goals exact ⟨by simp, Below.refl _ _⟩
end Go.Proofs.Ytadgoodfhlmlmaa.numAmounts
