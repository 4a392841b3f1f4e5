/-
  The contract of the reference's Down.
-/
import Derived.Test.YtegpkpilfgohhaaProg
import Derived.Test.YtegpkpilfgohhaaMrg3
import Derived.WalkKit
import Derived.WalkLawsBesides
import Derived.Handy
set_option linter.unusedVariables false
set_option linter.unusedSimpArgs false
set_option linter.unnecessarySimpa false
namespace Go.Proofs.Ytegpkpilfgohhaa
open Go.RowKit
set_option maxHeartbeats 400000 in
theorem z8z (a b:Int) (w:World) (ha:-4611686018427387904≤a∧a≤4611686018427387904) (hb:1≤b∧b≤4611686018427387904) :
    Calls Try.prog 48 #[.int .i64 a,.int .i64 b] w fun e w'=>e=.returned (.int .i64 (a/b))∧w=w':=by
  have hm:Hid _:=z6z a b hb.1
  have hs:Hid _:=z3f a b hb.1
  have hb':=z9v a b hb.1
  go_enter Try.func48,Try.ntmps48
  go_wp2
  all_goals go_ret
  · exact ⟨q4v (by rw [← hs.out,hm.out,if_pos (by assumption)]),rfl⟩
  · exact ⟨q4v (by rw [← hs.out,hm.out,if_neg (by omega)]),rfl⟩
end Go.Proofs.Ytegpkpilfgohhaa
