/-
  Merged: XQuo, XPast, XCmpI.
-/
import Derived.WalkKit
import Derived.WalkLawsBesides
import Derived.Handy
import Derived.BigQuiet
import Derived.Deep.QuietTactic
import Derived.Test.YtegpkpilfgohhaaProg
import Derived.Test.YtegpkpilfgohhaaMrg3
set_option linter.unusedVariables false
set_option linter.unusedSimpArgs false
set_option linter.unnecessarySimpa false
namespace Go.Proofs.Ytegpkpilfgohhaa
open Go.RowKit
set_option maxHeartbeats 400000 in
theorem z9w (a b:Int) (w:World) (ha:-4611686018427387904≤a∧a≤4611686018427387904) (hb:1≤b∧b≤4611686018427387904) :
    Calls Try.prog 71 #[.int .i64 a,.int .i64 b] w fun e w'=>e=.returned (.int .i64 (a/b))∧w=w':=by
  have hf:Hid _:=z0z a b hb.1
  have ht:=z8y a b hb.1
  go_enter Try.func71,Try.ntmps71
  go_wp2
  all_goals go_ret
  · exact ⟨q4v (by rw [hf.out,if_pos (by assumption)]),rfl⟩
  · exact ⟨q4v (by rw [hf.out,if_neg (by omega)]),rfl⟩
end Go.Proofs.Ytegpkpilfgohhaa
namespace Go.Proofs.Ytegpkpilfgohhaa
open Go.RowKit
structure Later (w:World) where
  to:World
  below:Below w.heap.size w to
def past (w:World) (x:Later w):World:=x.to
instance instLater (w:World):Nonempty (Later w):=⟨⟨w,Below.refl _ _⟩⟩
instance instLaterI (w:World):Inhabited (Later w):=⟨⟨w,Below.refl _ _⟩⟩
def z9x (w:World) (b o:Nat):Option Value:=w.cell? ⟨b,o,none⟩
def z71 (w:World) (b o:Nat):Bool:=w.frozen? ⟨b,o,none⟩
theorem z72 (w:World) (x:Later w) (b o:Nat):(past w x).cell? ⟨b,o,none⟩=if b<w.heap.size then w.cell? ⟨b,o,none⟩ else z9x (past w x) b o:=by
  split
  · exact x.below.cell (p:=⟨b,o,none⟩) (by assumption)
  · rfl
theorem z5i (w:World) (x:Later w) (b o:Nat):(past w x).frozen? ⟨b,o,none⟩=if b<w.heap.size then w.frozen? ⟨b,o,none⟩ else z71 (past w x) b o:=by
  split
  · exact x.below.frozen (p:=⟨b,o,none⟩) (by assumption)
  · rfl
theorem z3g (w:World) (c:Array Value) (t:TypeId) (n i:Nat):(w.alloc (.cells c t)).cell? ⟨n,i,none⟩=if n=w.heap.size then c[i]? else w.cell? ⟨n,i,none⟩:=by
  split
  · rename_i h;exact World.cell?_alloc_at c t n i h
  · rename_i h;exact World.cell?_alloc_old (a:=⟨n,i,none⟩) _ _ h
attribute [go_sem] z72 z5i z3g
end Go.Proofs.Ytegpkpilfgohhaa
namespace Go.Proofs.Ytegpkpilfgohhaa
open Go.RowKit
set_option maxRecDepth 20000
def cmpI (a b:Int):Int:=if a<b then -1 else if b<a then 1 else 0
theorem q60 (a:Int) (W:World):Calls Try.prog 60 #[.int .i64 a] W fun e w'=>e=.returned (.bool false)∧W=w':=by
  go_enter Try.func60,Try.ntmps60
  go_wp2
  all_goals go_ret
  all_goals exact ⟨by simp,rfl⟩
set_option maxHeartbeats 1000000 in
theorem z3h (a b:Int) (W:World):Calls Try.prog 43 #[.int .i64 a,.int .i64 b] W fun e w'=>e=.returned (.int .i64 (cmpI a b))∧W=w':=by
  go_enter Try.func43,Try.ntmps43
  by_cases h1:a<b
  · go_wp2_with (first |(go_at_call 60;refine (q60 _ _).mono ?_;rintro e w' ⟨rfl,rfl⟩))
    all_goals go_ret
    all_goals exact ⟨q4v (by unfold cmpI;first |rw [if_pos (by omega)] |simp_all),rfl⟩
  · by_cases h2:b<a
    · go_wp2_with (first |(go_at_call 60;refine (q60 _ _).mono ?_;rintro e w' ⟨rfl,rfl⟩))
      all_goals go_ret
      all_goals exact ⟨q4v (by unfold cmpI;first |rw [if_neg (by omega),if_pos (by omega)] |simp_all),rfl⟩
    · go_wp2_with (first |(go_at_call 60;refine (q60 _ _).mono ?_;rintro e w' ⟨rfl,rfl⟩))
      all_goals go_ret
      all_goals exact ⟨q4v (by unfold cmpI;first |rw [if_neg (by omega),if_neg (by omega)] |simp_all),rfl⟩
end Go.Proofs.Ytegpkpilfgohhaa
