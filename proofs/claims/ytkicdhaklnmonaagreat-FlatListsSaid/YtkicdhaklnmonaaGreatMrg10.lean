/-
  Merged: XRamp, XRRamp.
-/
import Derived.Test.YtkicdhaklnmonaaGreatMrg9
set_option linter.unusedVariables false
set_option linter.unusedSimpArgs false
set_option linter.unnecessarySimpa false
namespace Go.Proofs.YtkicdhaklnmonaaGreat
open Go.RowKit
def StopsAt (w:World) (b off n:Nat) (P:Nat→Int) (V:Nat→Nat→Int):Prop :=
  b<w.heap.size∧∀ i,i<n→w.cell? ⟨b,off+i*9,none⟩=some (.int .i64 (P i))∧∀ j,j<8→w.cell? ⟨b,off+i*9+(j+1),none⟩=some (.int .u8 (V i j))
theorem StopsAt.below {w w':World} {b off n:Nat} {P:Nat→Int} {V:Nat→Nat→Int} (h:StopsAt w b off n P V) (hb:Below w.heap.size w w'):StopsAt w' b off n P V :=
  ⟨Nat.lt_of_lt_of_le h.1 hb.size,fun i hi=>⟨(hb.cell (p:=⟨b,_,none⟩) h.1).trans (h.2 i hi).1,fun j hj=>(hb.cell (p:=⟨b,_,none⟩) h.1).trans ((h.2 i hi).2 j hj)⟩⟩
structure Fill8 (W wr:World) (b k:Nat) (B:Nat→Int):Prop where
  below:Below b W wr
  size:b<wr.heap.size
  cells:∀ o,o<8→wr.cell? ⟨b,o,none⟩=some (.int .u8 (if o<k then B o else 0))
  free:∀ o,wr.frozen? ⟨b,o,none⟩=false
theorem Fill8.later {W wr w':World} {b k:Nat} {B:Nat→Int} (h:Fill8 W wr b k B) (hb:Below wr.heap.size wr w'):Fill8 W w' b k B:=by
  have hs:=h.size
  refine ⟨h.below.trans (hb.mono (by omega)),Nat.lt_of_lt_of_le hs hb.size,fun o ho=>?_,fun o=>?_⟩
  · exact (hb.cell (p:=⟨b,o,none⟩) hs).trans (h.cells o ho)
  · exact (hb.frozen (p:=⟨b,o,none⟩) hs).trans (h.free o)
theorem Fill8.step {W wr:World} {b k:Nat} {B:Nat→Int} (h:Fill8 W wr b k B) (_:k<8):Fill8 W (wr.setCell ⟨b,k,none⟩ (.int .u8 (B k))) b (k+1) B:=by
  refine ⟨h.below.setCell (Nat.le_refl _) _,by rw [World.size_setCell];exact h.size,fun o ho=>?_,fun o=>by rw [World.frozen?_setCell];exact h.free o⟩
  rw [q7b,if_pos rfl]
  by_cases hc:o=k
  · subst hc
    rw [if_pos rfl,h.cells _ ho,if_pos (show o<o+1 by omega)]
    rfl
  · rw [if_neg hc,h.cells o ho]
    by_cases h1:o<k
    · rw [if_pos h1,if_pos (by omega)]
    · rw [if_neg h1,if_neg (by omega)]
end Go.Proofs.YtkicdhaklnmonaaGreat
namespace Go.Proofs.YtkicdhaklnmonaaGreat
open Go.RowKit
end Go.Proofs.YtkicdhaklnmonaaGreat
