/-
  The contract of the reference's Half.
-/
import Derived.Test.YtpgjbfbdappniaaDown
namespace Go.Proofs.Ytpgjbfbdappniaa
open Go.RowKit

set_option maxHeartbeats 400000 in
theorem Half_any (a b : Int) (w : World) (ha : -4611686018427387904 ≤ a ∧ a ≤ 4611686018427387904) (hb : 1 ≤ b ∧ b ≤ 4611686018427387904) :
    Calls Try.prog 40 #[.int .i64 a, .int .i64 b] w fun e w' => e = .returned (.int .i64 (near a b)) ∧ w = w' := by
  have hm : Hid _ := emod_eq a b
  have hb' := emod_bd a b hb.1
  have hd := ediv_abs a b hb.1
  have he := Int.mul_ediv_add_emod a b
  rw [Int.mul_comm] at he
  go_enter Try.func40, Try.ntmps40
  go_wp2_with (go_at_call 61; refine (Down_any _ _ _ ha hb).mono ?_; rintro e w' ⟨rfl, rfl⟩)
  all_goals go_ret
  all_goals refine ⟨ret_int ?_, rfl⟩
  · unfold near; rw [← hm.out, if_pos (by omega)]
  · unfold near; rw [← hm.out, if_neg (by omega)]
end Go.Proofs.Ytpgjbfbdappniaa
