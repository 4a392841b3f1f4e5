/-
  Lines in the memory of a law.
-/
import Derived.Test.YtegpkpilfgohhaaGreatMrg9
import Derived.Test.YtegpkpilfgohhaaGreatMrg4
set_option linter.unusedVariables false
set_option linter.unusedSimpArgs false
set_option linter.unnecessarySimpa false
namespace Go.Proofs.YtegpkpilfgohhaaGreat
open Go.RowKit Go.Deep
set_option maxRecDepth 20000
def slA:Value→Option Addr
  | .slice A _ _=>A
  | _=>none
def slN:Value→Nat
  | .slice _ n _=>n
  | _=>0
def slC:Value→Nat
  | .slice _ _ c=>c
  | _=>0
theorem uPts:Tryz.prog.underlying 33=some (.slice 43):=Tryz.underlying33
theorem cPts:0<Tryz.prog.cellsOf 43:=of_decide_eq_true (by kernel_rfl)
theorem x9y:Tryz.prog.cellsOf 43=2:=by kernel_rfl
theorem v0b:Tryz.prog.cellsOf 37=2:=by kernel_rfl
theorem z6o:flat Tryz.prog 20 43=[.int .i64,.int .i64]:=by kernel_rfl
theorem x1o:q3y Tryz.prog 20 43=true:=by kernel_rfl
theorem z8x:flat Tryz.prog 20 37=[.slice 33,.bool]:=by kernel_rfl
theorem x3e:q3y Tryz.prog 20 37=true:=by kernel_rfl
section
variable {w:World} {A:Option Addr} {n:Nat} {g:Nat→Nat→Value}
theorem x9z {m:Nat} {t e:TypeId} {c:Value} (ht:Tryz.prog.underlying t=some (.slice e)) (h0:0<Tryz.prog.cellsOf e) (h:Sees Tryz.prog w m t [c]) :
    c=.slice (slA c) (slN c) (slC c)∧slN c≤slC c∧slC c≤maxLen∧∃ g,SliceG Tryz.prog w e (slA c) (slN c) g:=by
  obtain ⟨A,n,cap,g,rfl,h1,h2,h3⟩:=z5u ht h0 h
  exact ⟨rfl,h1,h2,g,h3⟩
theorem v0c (h:SliceG Tryz.prog w 43 A n g):ElsM (q8e w) A 2 n (ptC (fun i=>valI (g i 0)) (fun i=>valI (g i 1))):=by
  refine ⟨fun x hx=>rfl,fun x hx=>?_⟩
  obtain ⟨b,off,rfl,_,hc⟩:=h (by omega)
  rw [x9y] at hc
  have h0:=(h.int (j:=0) (k:=.i64) x1o hx (by rw [z6o];rfl)).1
  have h1:=(h.int (j:=1) (k:=.i64) x1o hx (by rw [z6o];rfl)).1
  refine ⟨b,off,rfl,fun j v hj=>?_⟩
  match j,hj with
  | 0,hj =>
    simp at hj;subst hj
    rw [← h0];exact (hc x hx).1 0 (by omega)
  | 1,hj =>
    simp at hj;subst hj
    rw [← h1];exact (hc x hx).1 1 (by omega)
theorem x90 {v:Value} {b:Bool} {m:Nat} (h:Sees Tryz.prog w m 33 [v]):∃ l:LineD,l.cells=[v,.bool b]∧l.n=slN v∧ElsM (q8e w) l.A 2 l.n (ptC l.X l.Y)∧l.n≤l.q∧l.q≤maxLen:=by
  obtain ⟨e,h1,h2,g,hg⟩:=x9z uPts cPts h
  refine ⟨⟨slA v,slN v,slC v,fun i=>valI (g i 0),fun i=>valI (g i 1),b⟩,?_,rfl,v0c hg,h1,h2⟩
  unfold LineD.cells
  dsimp only
  rw [← e]
theorem x9q (h:SliceG Tryz.prog w 37 A n g):∃ L:Nat→LineD,LinesM (q8e w) A n L∧∀ x,x<n→(L x).n=slN (g x 0):=by
  have key:∀ x,x<n→∃ l:LineD,l.cells=[g x 0,g x 1]∧l.n=slN (g x 0)∧ElsM (q8e w) l.A 2 l.n (ptC l.X l.Y)∧l.n≤l.q∧l.q≤maxLen:=fun x hx=>by
    obtain ⟨m,h0⟩:=h.seen (j:=0) x3e hx (by rw [z8x];rfl)
    have h1:=h.bool (j:=1) x3e hx (by rw [z8x];rfl)
    rw [h1]
    exact x90 h0
  haveI:Inhabited LineD:=⟨⟨none,0,0,fun _=>0,fun _=>0,false⟩⟩
  obtain ⟨L,hL⟩:=choose_lt key
  refine ⟨L,⟨⟨fun x hx=>rfl,fun x hx=>?_⟩,fun x hx=>(hL x hx).2.2.1,fun x hx=>(hL x hx).2.2.2⟩,fun x hx=>(hL x hx).2.1⟩
  obtain ⟨b,off,rfl,_,hc⟩:=h (by omega)
  rw [v0b] at hc
  refine ⟨b,off,rfl,fun j v hj=>?_⟩
  rw [(hL x hx).1] at hj
  match j,hj with
  | 0,hj =>
    simp at hj;subst hj
    exact (hc x hx).1 0 (by omega)
  | 1,hj =>
    simp at hj;subst hj
    exact (hc x hx).1 1 (by omega)
end
end Go.Proofs.YtegpkpilfgohhaaGreat
