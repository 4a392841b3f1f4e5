/-
  Merged: XIn, XPast, XCoord, XDown, XHalf.
-/
import Derived.WalkKit
import Derived.WalkLawsBesides
import Derived.Handy
import Derived.BigQuiet
import Derived.Deep.QuietTactic
import Derived.Test.YtegpkpilfgohhaaProg
import Derived.Test.YtegpkpilfgohhaaMrg3
set_option linter.unusedVariables false
set_option linter.unusedSimpArgs false
set_option linter.unnecessarySimpa false
namespace Go.Proofs.Ytegpkpilfgohhaa
open Go.RowKit
end Go.Proofs.Ytegpkpilfgohhaa
namespace Go.Proofs.Ytegpkpilfgohhaa
open Go.RowKit
structure Later (w:World) where
  to:World
  below:Below w.heap.size w to
def past (w:World) (x:Later w):World:=x.to
instance instLater (w:World):Nonempty (Later w):=⟨⟨w,Below.refl _ _⟩⟩
instance instLaterI (w:World):Inhabited (Later w):=⟨⟨w,Below.refl _ _⟩⟩
def x08 (w:World) (b o:Nat):Option Value:=w.cell? ⟨b,o,none⟩
def z8r (w:World) (b o:Nat):Bool:=w.frozen? ⟨b,o,none⟩
theorem z8s (w:World) (x:Later w) (b o:Nat):(past w x).cell? ⟨b,o,none⟩=if b<w.heap.size then w.cell? ⟨b,o,none⟩ else x08 (past w x) b o:=by
  split
  · exact x.below.cell (p:=⟨b,o,none⟩) (by assumption)
  · rfl
theorem z54 (w:World) (x:Later w) (b o:Nat):(past w x).frozen? ⟨b,o,none⟩=if b<w.heap.size then w.frozen? ⟨b,o,none⟩ else z8r (past w x) b o:=by
  split
  · exact x.below.frozen (p:=⟨b,o,none⟩) (by assumption)
  · rfl
theorem z31 (w:World) (c:Array Value) (t:TypeId) (n i:Nat):(w.alloc (.cells c t)).cell? ⟨n,i,none⟩=if n=w.heap.size then c[i]? else w.cell? ⟨n,i,none⟩:=by
  split
  · rename_i h;exact World.cell?_alloc_at c t n i h
  · rename_i h;exact World.cell?_alloc_old (a:=⟨n,i,none⟩) _ _ h
attribute [go_sem] z8s z54 z31
end Go.Proofs.Ytegpkpilfgohhaa
namespace Go.Proofs.Ytegpkpilfgohhaa
open Go.RowKit
end Go.Proofs.Ytegpkpilfgohhaa
namespace Go.Proofs.Ytegpkpilfgohhaa
open Go.RowKit
set_option maxHeartbeats 400000 in
theorem z94 (a b:Int) (w:World) (ha:-4611686018427387904≤a∧a≤4611686018427387904) (hb:1≤b∧b≤4611686018427387904) :
    Calls Try.prog 48 #[.int .i64 a,.int .i64 b] w fun e w'=>e=.returned (.int .i64 (a/b))∧w=w':=by
  have hm:Hid _:=z7n a b hb.1
  have hs:Hid _:=z30 a b hb.1
  have hb':=x05 a b hb.1
  go_enter Try.func48,Try.ntmps48
  go_wp2
  all_goals go_ret
  · exact ⟨q39 (by rw [← hs.out,hm.out,if_pos (by assumption)]),rfl⟩
  · exact ⟨q39 (by rw [← hs.out,hm.out,if_neg (by omega)]),rfl⟩
end Go.Proofs.Ytegpkpilfgohhaa
namespace Go.Proofs.Ytegpkpilfgohhaa
open Go.RowKit
set_option maxHeartbeats 400000 in
theorem z95 (a b:Int) (w:World) (ha:-4611686018427387904≤a∧a≤4611686018427387904) (hb:1≤b∧b≤4611686018427387904) :
    Calls Try.prog 33 #[.int .i64 a,.int .i64 b] w fun e w'=>e=.returned (.int .i64 (near a b))∧w=w':=by
  have hm:Hid _:=z6y a b
  have hb':=z6z a b hb.1
  have hd:=q6r a b hb.1
  have he:=Int.mul_ediv_add_emod a b
  rw [Int.mul_comm] at he
  go_enter Try.func33,Try.ntmps33
  go_wp2_with (go_at_call 48;refine (z94 _ _ _ ha hb).mono ?_;rintro e w' ⟨rfl,rfl⟩)
  all_goals go_ret
  all_goals refine ⟨q39 ?_,rfl⟩
  · unfold near;rw [← hm.out,if_pos (by omega)]
  · unfold near;rw [← hm.out,if_neg (by omega)]
end Go.Proofs.Ytegpkpilfgohhaa
