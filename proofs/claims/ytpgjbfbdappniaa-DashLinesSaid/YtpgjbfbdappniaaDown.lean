/-
  The contract of the reference's Down.
-/
import Derived.Test.YtpgjbfbdappniaaProg
import Derived.Test.YtpgjbfbdappniaaMrg3
import Derived.WalkKit
import Derived.WalkLawsBesides
import Derived.Handy
namespace Go.Proofs.Ytpgjbfbdappniaa
open Go.RowKit

set_option maxHeartbeats 400000 in
theorem Down_any (a b : Int) (w : World) (ha : -4611686018427387904 ≤ a ∧ a ≤ 4611686018427387904) (hb : 1 ≤ b ∧ b ≤ 4611686018427387904) :
    Calls Try.prog 61 #[.int .i64 a, .int .i64 b] w fun e w' => e = .returned (.int .i64 (a / b)) ∧ w = w' := by
  have hm : Hid _ := tmod_floor a b hb.1
  have hs : Hid _ := sub_emod_tdiv a b hb.1
  have hb' := tmod_bd a b hb.1
  go_enter Try.func61, Try.ntmps61
  go_wp2
  all_goals go_ret
  · exact ⟨ret_int (by rw [← hs.out, hm.out, if_pos (by assumption)]), rfl⟩
  · exact ⟨ret_int (by rw [← hs.out, hm.out, if_neg (by omega)]), rfl⟩

end Go.Proofs.Ytpgjbfbdappniaa
