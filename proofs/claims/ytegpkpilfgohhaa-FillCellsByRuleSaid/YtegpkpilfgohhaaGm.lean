/-
  The engine: memory that may be written (blocks of the call's own that bear no name, at known places). No program in sight.
-/
import Derived.Test.YtegpkpilfgohhaaFreeze
import Derived.Test.YtegpkpilfgohhaaEk
set_option linter.unusedVariables false
set_option linter.unusedSimpArgs false
set_option linter.unnecessarySimpa false
namespace Go.Proofs.Ytegpkpilfgohhaa
open Go.RowKit
section
variable {w0:World} {G0:Mem} {β:Nm} {hp:List Blk} {G:Mem} {w:World}
end
def RowS (S:Nat→Prop) (G:Mem) (E:TypeId) (sz:Nat) (v:Value) (n:Nat) (xs:List Value):Prop :=
  xs.length=n*sz∧((v=.slice none 0 0∧n=0)∨∃ g cap cur,v=.slice (some ⟨g,0,none⟩) n cap∧S g∧G g=some (.cells cur E (0,0))∧n≤cap∧cap≤maxLen∧cur.size=cap*sz∧cur.toList.take (n*sz)=xs)
theorem RowS.nil (S:Nat→Prop) (G:Mem) (E:TypeId) (sz:Nat):RowS S G E sz (.slice none 0 0) 0 []:=⟨by simp,.inl ⟨rfl,rfl⟩⟩
theorem RowS.of {S S':Nat→Prop} {G G':Mem} {E:TypeId} {sz n:Nat} {v:Value} {xs:List Value} (h:RowS S G E sz v n xs) (hS:∀ b,S b→S' b) (hG:∀ b,q0c v=some b→G' b=G b):RowS S' G' E sz v n xs:=by
  refine ⟨h.1,?_⟩
  rcases h.2 with h |⟨g,cap,cur,rfl,h1,h2,h3⟩
  · exact .inl h
  · exact .inr ⟨g,cap,cur,rfl,hS g h1,by rw [hG g rfl];exact h2,h3⟩
theorem RowS.blk {S:Nat→Prop} {G:Mem} {E:TypeId} {sz n:Nat} {v:Value} {xs:List Value} (h:RowS S G E sz v n xs) {b:Nat} (hb:q0c v=some b):S b∧∃ o,G b=some o:=by
  rcases h.2 with ⟨rfl,_⟩ |⟨g,cap,cur,rfl,h1,h2,h3⟩
  · cases hb
  · simp [q0c] at hb;subst hb;exact ⟨h1,_,h2⟩
theorem RowS.isSl {S:Nat→Prop} {G:Mem} {E:TypeId} {sz n:Nat} {v:Value} {xs:List Value} (h:RowS S G E sz v n xs):∃ A c,v=.slice A n c∧n≤c∧c≤maxLen:=by
  rcases h.2 with ⟨rfl,rfl⟩ |⟨g,cap,cur,rfl,h1,h2,h3,h4,_⟩
  · exact ⟨none,0,rfl,Nat.le_refl _,Nat.zero_le _⟩
  · exact ⟨_,cap,rfl,h3,h4⟩
theorem RowS.flat {S:Nat→Prop} {G:Mem} {E:TypeId} {sz n c:Nat} {A:Option Addr} {xs:List Value} (h:RowS S G E sz (.slice A n c) n xs):FlatM G A xs:=by
  obtain ⟨hlen,h⟩:=h
  rcases h with ⟨h1,h2⟩ |⟨g,cap,cur,h1,h2,h3,h4,h5,h6,h7⟩
  · cases h1;rw [Nat.zero_mul] at hlen;exact .inl ⟨rfl,List.eq_nil_of_length_eq_zero hlen⟩
  · cases h1
    refine .inr ⟨g,0,rfl,fun j u hj=>?_⟩
    unfold Mem.cell?
    simp only [h3,Nat.zero_add]
    rw [← h7] at hj
    rw [List.getElem?_take] at hj
    split at hj
    · simpa using hj
    · cases hj
theorem RowS.cell {S:Nat→Prop} {G:Mem} {E:TypeId} {sz n b o:Nat} {c:Nat} {sp:Option _} {xs:List Value} (h:RowS S G E sz (.slice (some ⟨b,o,sp⟩) n c) n xs) {j:Nat} {u:Value} (hj:xs[j]? = some u):G.cell? ⟨b,o+j,sp⟩=some u:=by
  obtain ⟨hlen,h⟩:=h
  rcases h with ⟨h1,h2⟩ |⟨g,cap,cur,h1,h2,h3,h4,h5,h6,h7⟩
  · cases h1
  · cases h1
    unfold Mem.cell?
    simp only [h3,Nat.zero_add]
    rw [← h7] at hj
    rw [List.getElem?_take] at hj
    split at hj
    · simpa using hj
    · cases hj
structure RowG (S:Nat→Prop) (G:Mem) (v:Value) (S':Nat→Prop) (G':Mem) (v':Value):Prop where
  more:∀ b,S b→S' b
  only:∀ b,S' b→S b∨q0c v'=some b
  rest:∀ b,q0c v≠some b→q0c v'≠some b→G' b=G b
  fresh:∀ b,q0c v'=some b→q0c v≠some b→G b=none
  old:∀ b o,G b=some o→q0c v≠some b→G' b=some o
theorem RowG.row {S S':Nat→Prop} {G G':Mem} {v v':Value} (h:RowG S G v S' G' v') {E:TypeId} {sz n:Nat} {u:Value} {xs:List Value} (hu:RowS S G E sz u n xs) (hne:∀ b,q0c u=some b→q0c v≠some b):RowS S' G' E sz u n xs:=by
  refine hu.of h.more fun b hb=>?_
  obtain ⟨_,o,ho⟩:=hu.blk hb
  rw [h.old b o ho (hne b hb),ho]
end Go.Proofs.Ytegpkpilfgohhaa
