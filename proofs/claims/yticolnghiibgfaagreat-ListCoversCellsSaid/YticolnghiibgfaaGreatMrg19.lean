/-
  Merged: XFreeze, XEk.
-/
import Derived.Test.YticolnghiibgfaaGreatMrg18
import Derived.Test.YticolnghiibgfaaGreatEng2
set_option linter.unusedVariables false
set_option linter.unusedSimpArgs false
set_option linter.unnecessarySimpa false
namespace Go.Proofs.YticolnghiibgfaaGreat
open Go.RowKit
def FlatM (G:Mem) (A:Option Addr) (xs:List Value):Prop:=(A=none∧xs=[])∨∃ b off,A=some ⟨b,off,none⟩∧∀ (j:Nat) u,xs[j]? = some u→G.cell? ⟨b,off+j,none⟩=some u
theorem FlatM.mono {G G':Mem} {A:Option Addr} {xs:List Value} (h:FlatM G A xs) (hle:G.le G'):FlatM G' A xs:=by
  rcases h with h |⟨b,off,h1,h2⟩
  · exact .inl h
  · exact .inr ⟨b,off,h1,fun j u hj=>hle.cell (h2 j u hj)⟩
theorem FlatM.els {G:Mem} {A:Option Addr} {sz n:Nat} {c:Nat→List Value} (h:FlatM G A (q63 c n)) (hl:∀ x,x<n→(c x).length=sz) (hs:0<sz):ElsM G A sz n c:=by
  refine ⟨hl,fun x hx=>?_⟩
  rcases h with ⟨_,h⟩ |⟨b,off,h1,h2⟩
  · have:=q6e hl
    rw [h] at this
    have h1:0<n*sz:=Nat.mul_pos (by omega) hs
    simp at this;omega
  · refine ⟨b,off,h1,fun j v hj=>?_⟩
    have hjl:j<sz:=by have:=(List.getElem?_eq_some_iff.1 hj).1;rw [hl x hx] at this;exact this
    rw [Nat.add_assoc]
    exact h2 _ _ (by rw [z2b hl hx hjl];exact hj)
section
variable {w0:World} {G0:Mem} {β:Nm} {hp:List Blk} {G:Mem} {w:World}
end
end Go.Proofs.YticolnghiibgfaaGreat
namespace Go.Proofs.YticolnghiibgfaaGreat
open Go.RowKit
def psF:List Tmp→List AV→List AV→(List AV→Prop)→Prop
  | [],[],fr,K=>K fr
  | t::ts,a::l,fr,K=>setF fr t a fun fr'=>psF ts l fr' K
  | _,_,_,_=>False
def Mem.put (G:Mem) (D:Nat) (o:Obj):Mem:=fun b=>if b=D then some o else G b
theorem Mem.put_same (G:Mem) (D:Nat) (o:Obj):G.put D o D=some o:=by simp [Mem.put]
theorem Mem.put_ne (G:Mem) {D b:Nat} (o:Obj) (h:b≠D):G.put D o b=G b:=by simp [Mem.put,h]
end Go.Proofs.YticolnghiibgfaaGreat
