/-
  Merged: XRuns, XRecs.
-/
import Derived.WalkKit
import Derived.Test.YtegpkpilfgohhaaMrg3
import Derived.Test.YtegpkpilfgohhaaMrg4
set_option linter.unusedVariables false
set_option linter.unusedSimpArgs false
set_option linter.unnecessarySimpa false
namespace Go.Proofs.Ytegpkpilfgohhaa
open Go.RowKit Go.ChangeShapes Go.WideShapes Go.Deep
structure Run where
  y:Int
  x0:Int
  x1:Int
def RunsAt (w:World) (A:Option Addr) (n:Nat) (rs:Nat→Run):Prop :=
  0<n→∃ b off,A=some ⟨b,off,none⟩∧b<w.heap.size∧∀ i,i<n→w.cell? ⟨b,off+i*3,none⟩=some (.int .i64 (rs i).y)∧w.cell? ⟨b,off+i*3+1,none⟩=some (.int .i64 (rs i).x0)∧w.cell? ⟨b,off+i*3+2,none⟩=some (.int .i64 (rs i).x1)
theorem RunsAt.below {w w':World} {A:Option Addr} {n:Nat} {rs:Nat→Run} (h:RunsAt w A n rs) (hb:Below w.heap.size w w'):RunsAt w' A n rs:=by
  intro hn
  obtain ⟨b,off,hA,hlt,hc⟩:=h hn
  refine ⟨b,off,hA,Nat.lt_of_lt_of_le hlt hb.size,fun i hi=>?_⟩
  obtain ⟨h1,h2,h3⟩:=hc i hi
  exact ⟨(hb.cell (p:=⟨b,_,none⟩) hlt).trans h1,(hb.cell (p:=⟨b,_,none⟩) hlt).trans h2,(hb.cell (p:=⟨b,_,none⟩) hlt).trans h3⟩
def x1s (rs:Nat→Run) (k:Nat):Int :=
  if (rs k).y < -8192∨8191<(rs k).y∨(rs k).x0 < -8192∨8192<(rs k).x0∨(rs k).x1 < -8192∨8192<(rs k).x1 then 3
  else if (rs k).x1≤(rs k).x0 then 4
  else if 0<k∧(rs k).y≤(rs (k-1)).y∧((rs k).y<(rs (k-1)).y∨(rs k).x0≤(rs (k-1)).x1) then 18 else 0
def regV (rs:Nat→Run):Nat→Int
  | 0=>0
  | n+1=>if regV rs n≠0 then regV rs n else x1s rs n
section
variable {H:Type} {enc:TypeId × Value→H} {P:Program} {w:World} {base b0:Nat} {spare:Nat→Bool} {held:Bool} {r:Reach} {v:Value} {d:DataW H} {ps:List MemPlace}
theorem z1p {w:World} {a:Addr} {v:Value} (h:w.cell? a=some v):a=⟨a.block,a.off,none⟩∧a.block<w.heap.size:=by
  have hs:=World.cell?_spot h
  refine ⟨by cases a;simp at hs;simp [hs],?_⟩
  rcases Nat.lt_or_ge a.block w.heap.size with h' |h'
  · exact h'
  · unfold World.cell? at h;rw [Array.getElem?_eq_none h'] at h;simp at h
theorem z8q (b off i:Nat):(⟨b,off,none⟩:Addr).add i=⟨b,off+i,none⟩:=by
  unfold Addr.add
  split
  · rename_i h;subst h;rfl
  · rfl
end
end Go.Proofs.Ytegpkpilfgohhaa
namespace Go.Proofs.Ytegpkpilfgohhaa
open Go.RowKit Go.ChangeShapes Go.WideShapes Go.Deep
def RecsAt (i:IntKind) (w:World) (A:Option Addr) (n k:Nat) (f:Nat→Nat→Int):Prop :=
  0<n→∃ b off,A=some ⟨b,off,none⟩∧b<w.heap.size∧∀ x,x<n→∀ j,j<k→w.cell? ⟨b,off+x*k+j,none⟩=some (.int i (f x j))
theorem RecsAt.below {i:IntKind} {w w':World} {A:Option Addr} {n k:Nat} {f:Nat→Nat→Int} (h:RecsAt i w A n k f) (hb:Below w.heap.size w w'):RecsAt i w' A n k f:=by
  intro hn
  obtain ⟨b,off,hA,hlt,hc⟩:=h hn
  exact ⟨b,off,hA,Nat.lt_of_lt_of_le hlt hb.size,fun x hx j hj=>(hb.cell (p:=⟨b,_,none⟩) hlt).trans (hc x hx j hj)⟩
section
variable {H:Type} {enc:TypeId × Value→H} {P:Program} {w:World} {base b0:Nat} {spare:Nat→Bool} {held:Bool} {r:Reach} {v:Value} {d:DataW H} {ps:List MemPlace}
end
end Go.Proofs.Ytegpkpilfgohhaa
