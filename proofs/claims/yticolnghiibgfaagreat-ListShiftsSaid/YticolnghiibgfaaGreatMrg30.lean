/-
  Merged: XRMem2, XRListAt, XSliceM.
-/
import Derived.Test.YticolnghiibgfaaGreatMrg29
import Derived.Test.YticolnghiibgfaaGreatMrg14
import Derived.Test.YticolnghiibgfaaGreatMrg18
set_option linter.unusedVariables false
set_option linter.unusedSimpArgs false
set_option linter.unnecessarySimpa false
namespace Go.Proofs.YticolnghiibgfaaGreat
open Go.RowKit
set_option maxRecDepth 20000
section
variable {I:Nat→ItemD} {R:Nat→List Run} {f:Nat→SrcF} {G:Mem} {W H:Int} {SA IA:Option Addr} {m sq n iq:Nat} {x y:Int}
set_option maxHeartbeats 8000000
structure LRef (G:Mem) (I:Nat→ItemD) (f:Nat→SrcF) (n:Nat):Prop where
  kind:∀ k,k<n→(I k).K=0∨(I k).K=1∨(I k).K=2
  src:∀ k,k<n→(I k).K=0→∀ x y:Int,(-8192≤x∧x<8192)→(-8192≤y∧y<8192)→Gives Tryz.prog 89 [q2f (I k),.val (.int .i64 x),.val (.int .i64 y)] G (.tup [q1q (f k x y).1,.val (.int .i64 (f k x y).2)])
end
end Go.Proofs.YticolnghiibgfaaGreat
namespace Go.Proofs.YticolnghiibgfaaGreat
open Go.RowKit
set_option maxRecDepth 20000
section
variable {I:Nat→ItemD} {R:Nat→List Run} {f:Nat→SrcF} {G:Mem} {W H:Int} {SA IA:Option Addr} {m sq n iq:Nat} {x y:Int}
end
end Go.Proofs.YticolnghiibgfaaGreat
namespace Go.Proofs.YticolnghiibgfaaGreat
open Go.RowKit Go.ChangeShapes Go.WideShapes Go.Deep
theorem Gives.worlds {P:Program} {f:FuncId} {args:List AV} {G:Mem} {v:AV} (h:∀ w,G.holds w→Gives P f args (q2k w) v):Gives P f args G v:=fun w vs hG ha=>h w hG w vs (z3v w) ha
def noSl (P:Program):Nat→TypeId→Bool
  | 0,_=>false
  | n+1,t=>match P.underlying t with
    | some (.int _)=>true
    | some .bool=>true
    | some .string=>true
    | some (.struct fs)=>fs.toList.all fun f=>noSl P n f.type
    | some (.array _ e)=>noSl P n e
    | _=>false
theorem Sees.any {P:Program} {w w':World}:∀ (m n:Nat) (t:TypeId) (cs:List Value),noSl P n t=true→Sees P w m t cs→Sees P w' m t cs
  | 0,_,_,_,_,h=>h
  | m+1,0,_,_,hn,_=>by simp [noSl] at hn
  | m+1,n+1,t,cs,hn,h=>by
    unfold Sees at h ⊢
    unfold noSl at hn
    split at h <;> simp_all
    · intro i f hf
      obtain ⟨h1,h2⟩:=Array.getElem?_eq_some_iff.1 hf
      have hq:=hn i h1
      rw [h2] at hq
      exact Sees.any m n _ _ hq (h.2 i f hf)
    · intro i hi
      exact Sees.any m n _ _ hn (h.2 i hi)
def SliceM (P:Program) (G:Mem) (e:TypeId) (A:Option Addr) (n:Nat) (g:Nat→Nat→Value):Prop :=
  (∃ w0 A0,SliceG P w0 e A0 n g)∧(0<n→∃ b off,A=some ⟨b,off,none⟩∧∀ x,x<n→∀ j,j<P.cellsOf e→G.cell? ⟨b,off+x*P.cellsOf e+j,none⟩=some (g x j))
section
variable {P:Program} {w:World} {G G':Mem} {e:TypeId} {A:Option Addr} {n:Nat} {g:Nat→Nat→Value}
theorem SliceM.of (h:SliceG P w e A n g):SliceM P (q2k w) e A n g:=⟨⟨w,A,h⟩,fun h0=>by
  obtain ⟨b,off,h1,h2,h3⟩:=h h0
  exact ⟨b,off,h1,fun x hx j hj=>(h3 x hx).1 j hj⟩⟩
theorem SliceM.mono (h:SliceM P G e A n g) (hle:G.le G'):SliceM P G' e A n g:=⟨h.1,fun h0=>by
  obtain ⟨b,off,h1,h2⟩:=h.2 h0
  exact ⟨b,off,h1,fun x hx j hj=>hle.cell (h2 x hx j hj)⟩⟩
theorem Mem.cell_in {w:World} {a:Addr} {v:Value} (hG:G.holds w) (h:G.cell? a=some v):w.cell? a=some v∧a.block<w.heap.size:=by
  unfold Mem.cell? at h
  unfold World.cell?
  cases hb:G a.block with
  | none=>rw [hb] at h;simp at h
  | some o =>
    have:=hG _ _ hb
    rw [this]
    rw [hb] at h
    exact ⟨h,(Array.getElem?_eq_some_iff.1 this).1⟩
theorem SliceM.at {k:Nat} (h:SliceM P G e A n g) (hk:noSl P k e=true) (hc:0<P.cellsOf e) (hG:G.holds w):SliceG P w e A n g:=fun h0=>by
  obtain ⟨⟨w0,A0,h1⟩,h2⟩:=h
  obtain ⟨b,off,hA,h3⟩:=h2 h0
  obtain ⟨b0,off0,hA0,_,h4⟩:=h1 h0
  refine ⟨b,off,hA,(Mem.cell_in hG (h3 0 h0 0 hc)).2,fun x hx=>⟨fun j hj=>(Mem.cell_in hG (h3 x hx j hj)).1,?_⟩⟩
  obtain ⟨m,hm⟩:=(h4 x hx).2
  exact ⟨m,Sees.any m k _ _ hk hm⟩
theorem SliceM.els (h:SliceM P G e A n g) {sz:Nat} (hs:P.cellsOf e=sz):ElsM G A sz n fun x=>(List.range sz).map (g x):=by
  subst hs
  refine ⟨fun x hx=>by simp,fun x hx=>?_⟩
  obtain ⟨b,off,hA,h3⟩:=h.2 (by omega)
  refine ⟨b,off,hA,fun j v hj=>?_⟩
  have hjl:j<P.cellsOf e:=by have:=(List.getElem?_eq_some_iff.1 hj).1;simpa using this
  rw [h3 x hx j hjl]
  simp [List.getElem?_map,List.getElem?_range hjl] at hj
  rw [hj]
theorem SliceM.copy (h:SliceM P G e A n g) {sz:Nat} (hs:P.cellsOf e=sz) {B:Option Addr} (hB:FlatM G' B (q0o (fun x=>(List.range sz).map (g x)) n)) (hz:0<sz):SliceM P G' e B n g:=by
  subst hs
  refine ⟨h.1,fun h0=>?_⟩
  have hE:=hB.els (sz:=P.cellsOf e) (fun x hx=>by simp) hz
  obtain ⟨b,off,hA,_⟩:=hE.at_ 0 h0
  refine ⟨b,off,hA,fun x hx j hj=>?_⟩
  obtain ⟨b',off',hA',h2⟩:=hE.at_ x hx
  rw [hA] at hA';cases hA'
  exact h2 j _ (by simp [List.getElem?_map,List.getElem?_range hj])
end
end Go.Proofs.YticolnghiibgfaaGreat
