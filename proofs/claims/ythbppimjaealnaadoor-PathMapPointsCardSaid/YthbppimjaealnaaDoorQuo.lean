/-
  Contracts of Quo and Near of package num.
-/
import Derived.Test.YthbppimjaealnaaDoorProg
import Derived.Test.YthbppimjaealnaaDoorMath
import Derived.WalkKit
import Derived.WalkLawsBesides
import Derived.Handy
namespace Go.Proofs.YthbppimjaealnaaDoor
open Go.RowKit

set_option maxHeartbeats 400000 in
theorem Quo_any (a b : Int) (w : World) (ha : -4611686018427387904 ≤ a ∧ a ≤ 4611686018427387904) (hb : 1 ≤ b ∧ b ≤ 4611686018427387904) :
    Calls Tryd.prog 47 #[.int .i64 a, .int .i64 b] w fun e w' => e = .returned (.int .i64 (a / b)) ∧ w = w' := by
  have hf : Hid _ := tdiv_floor a b hb.1
  have ht := tdiv_abs a b hb.1
  go_enter Tryd.func47, Tryd.ntmps47
  go_wp2
  all_goals go_ret
  · exact ⟨ret_int (by rw [hf.out, if_pos (by assumption)]), rfl⟩
  · exact ⟨ret_int (by rw [hf.out, if_neg (by omega)]), rfl⟩

set_option maxHeartbeats 400000 in
theorem Near_any (a b : Int) (w : World) (ha : -4611686018427387904 ≤ a ∧ a ≤ 4611686018427387904) (hb : 1 ≤ b ∧ b ≤ 4611686018427387904) :
    Calls Tryd.prog 42 #[.int .i64 a, .int .i64 b] w fun e w' => e = .returned (.int .i64 (near a b)) ∧ w = w' := by
  have hm : Hid _ := emod_eq a b
  have hb' := emod_bd a b hb.1
  have hd := ediv_abs a b hb.1
  have he := Int.mul_ediv_add_emod a b
  rw [Int.mul_comm] at he
  go_enter Tryd.func42, Tryd.ntmps42
  go_wp2_with (go_at_call 47; refine (Quo_any _ _ _ ha hb).mono ?_; rintro e w' ⟨rfl, rfl⟩)
  all_goals go_ret
  all_goals refine ⟨ret_int ?_, rfl⟩
  · unfold near; rw [← hm.out, if_pos (by omega)]
  · unfold near; rw [← hm.out, if_neg (by omega)]

end Go.Proofs.YthbppimjaealnaaDoor
