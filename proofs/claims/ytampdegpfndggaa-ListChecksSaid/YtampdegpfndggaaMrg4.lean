/-
  Merged: XDown, XMul.
-/
import Derived.WalkKit
import Derived.WalkLawsBesides
import Derived.Handy
import Derived.Test.YtampdegpfndggaaProg
import Derived.Test.YtampdegpfndggaaMrg3
namespace Go.Proofs.Ytampdegpfndggaa
open Go.RowKit

set_option maxHeartbeats 400000 in
theorem Down_any (a b : Int) (w : World) (ha : -4611686018427387904 ≤ a ∧ a ≤ 4611686018427387904) (hb : 1 ≤ b ∧ b ≤ 4611686018427387904) :
    Calls Try.prog 68 #[.int .i64 a, .int .i64 b] w fun e w' => e = .returned (.int .i64 (a / b)) ∧ w = w' := by
  have hm : Hid _ := tmod_floor a b hb.1
  have hs : Hid _ := sub_emod_tdiv a b hb.1
  have hb' := tmod_bd a b hb.1
  go_enter Try.func68, Try.ntmps68
  go_wp2
  all_goals go_ret
  · exact ⟨ret_int (by rw [← hs.out, hm.out, if_pos (by assumption)]), rfl⟩
  · exact ⟨ret_int (by rw [← hs.out, hm.out, if_neg (by omega)]), rfl⟩

end Go.Proofs.Ytampdegpfndggaa

namespace Go.Proofs.Ytampdegpfndggaa
open Go.RowKit

set_option maxHeartbeats 400000 in
theorem Mul255_any (a b : Int) (w : World) (ha : 0 ≤ a ∧ a ≤ 255) (hb : 0 ≤ b ∧ b ≤ 255) :
    Calls Try.prog 154 #[.int .u8 a, .int .u8 b] w fun e w' => e = .returned (.int .u8 (near (a * b) 255)) ∧ w = w' := by
  have hab := mul_bd ha hb
  have hn := near_bd (a * b) 255 255 (by omega) (by omega) (by omega)
  go_enter Try.func154, Try.ntmps154
  go_wp2_with (go_at_call 100; refine (Near_any _ _ _ ?_ ?_).mono ?_; omega; omega; rintro e w' ⟨rfl, rfl⟩)
  go_ret
  exact ⟨rfl, rfl⟩
set_option maxHeartbeats 400000 in
theorem RMul_any (a b : Int) (w : World) (ha : 0 ≤ a ∧ a ≤ 255) (hb : 0 ≤ b ∧ b ≤ 255) :
    Calls Try.prog 98 #[.int .i64 a, .int .i64 b] w fun e w' => e = .returned (.int .i64 (near (a * b) 255)) ∧ w = w' := by
  have hab := mul_bd ha hb
  have h2 : 2 * a * b = 2 * (a * b) := Int.mul_assoc _ _ _
  have hn : Hid _ := near_eq (a * b) 255 (by omega)
  go_enter Try.func98, Try.ntmps98
  go_wp2_with (go_at_call 68; refine (Down_any _ _ _ ?_ ?_).mono ?_; omega; omega; rintro e w' ⟨rfl, rfl⟩)
  go_ret
  exact ⟨ret_int hn.out, rfl⟩
end Go.Proofs.Ytampdegpfndggaa
