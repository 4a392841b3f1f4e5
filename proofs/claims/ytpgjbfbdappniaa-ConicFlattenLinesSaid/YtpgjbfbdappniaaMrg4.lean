/-
  Merged: XDown, XHalf.
-/
import Derived.WalkKit
import Derived.WalkLawsBesides
import Derived.Handy
import Derived.Test.YtpgjbfbdappniaaProg
import Derived.Test.YtpgjbfbdappniaaMrg3
namespace Go.Proofs.Ytpgjbfbdappniaa
open Go.RowKit

set_option maxHeartbeats 400000 in
theorem Down_any (a b : Int) (w : World) (ha : -4611686018427387904 ≤ a ∧ a ≤ 4611686018427387904) (hb : 1 ≤ b ∧ b ≤ 4611686018427387904) :
    Calls Try.prog 61 #[.int .i64 a, .int .i64 b] w fun e w' => e = .returned (.int .i64 (a / b)) ∧ w = w' := by
  have hm : Hid _ := tmod_floor a b hb.1
  have hs : Hid _ := sub_emod_tdiv a b hb.1
  have hb' := tmod_bd a b hb.1
  go_enter Try.func61, Try.ntmps61
  go_wp2
  all_goals go_ret
  · exact ⟨ret_int (by rw [← hs.out, hm.out, if_pos (by assumption)]), rfl⟩
  · exact ⟨ret_int (by rw [← hs.out, hm.out, if_neg (by omega)]), rfl⟩

end Go.Proofs.Ytpgjbfbdappniaa

namespace Go.Proofs.Ytpgjbfbdappniaa
open Go.RowKit

set_option maxHeartbeats 400000 in
theorem Half_any (a b : Int) (w : World) (ha : -4611686018427387904 ≤ a ∧ a ≤ 4611686018427387904) (hb : 1 ≤ b ∧ b ≤ 4611686018427387904) :
    Calls Try.prog 40 #[.int .i64 a, .int .i64 b] w fun e w' => e = .returned (.int .i64 (near a b)) ∧ w = w' := by
  have hm : Hid _ := emod_eq a b
  have hb' := emod_bd a b hb.1
  have hd := ediv_abs a b hb.1
  have he := Int.mul_ediv_add_emod a b
  rw [Int.mul_comm] at he
  go_enter Try.func40, Try.ntmps40
  go_wp2_with (go_at_call 61; refine (Down_any _ _ _ ha hb).mono ?_; rintro e w' ⟨rfl, rfl⟩)
  all_goals go_ret
  all_goals refine ⟨ret_int ?_, rfl⟩
  · unfold near; rw [← hm.out, if_pos (by omega)]
  · unfold near; rw [← hm.out, if_neg (by omega)]
end Go.Proofs.Ytpgjbfbdappniaa
