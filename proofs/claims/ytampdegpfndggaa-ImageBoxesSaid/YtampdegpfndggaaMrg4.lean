/-
  Merged: XIn, XDown.
-/
import Derived.WalkKit
import Derived.WalkLawsBesides
import Derived.Handy
import Derived.Test.YtampdegpfndggaaProg
import Derived.Test.YtampdegpfndggaaMrg3
namespace Go.Proofs.Ytampdegpfndggaa
open Go.RowKit

theorem In_any (x l h : Int) (w : World) :
    Calls Try.prog 16 #[.int .i64 x, .int .i64 l, .int .i64 h] w fun e w' => e = .returned (.bool (inB x l h)) ∧ w = w' := by
  by_cases h1 : l ≤ x <;> by_cases h2 : x ≤ h
  all_goals
    go_enter Try.func16, Try.ntmps16
    go_wp2
    go_ret
    exact ⟨ret_bool (by simp [inB, h1, h2]), rfl⟩

end Go.Proofs.Ytampdegpfndggaa

namespace Go.Proofs.Ytampdegpfndggaa
open Go.RowKit

set_option maxHeartbeats 400000 in
theorem Down_any (a b : Int) (w : World) (ha : -4611686018427387904 ≤ a ∧ a ≤ 4611686018427387904) (hb : 1 ≤ b ∧ b ≤ 4611686018427387904) :
    Calls Try.prog 68 #[.int .i64 a, .int .i64 b] w fun e w' => e = .returned (.int .i64 (a / b)) ∧ w = w' := by
  have hm : Hid _ := tmod_floor a b hb.1
  have hs : Hid _ := sub_emod_tdiv a b hb.1
  have hb' := tmod_bd a b hb.1
  go_enter Try.func68, Try.ntmps68
  go_wp2
  all_goals go_ret
  · exact ⟨ret_int (by rw [← hs.out, hm.out, if_pos (by assumption)]), rfl⟩
  · exact ⟨ret_int (by rw [← hs.out, hm.out, if_neg (by omega)]), rfl⟩

end Go.Proofs.Ytampdegpfndggaa
