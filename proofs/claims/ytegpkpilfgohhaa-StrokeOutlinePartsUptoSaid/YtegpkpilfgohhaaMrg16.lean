/-
  Merged: XRegM, XRegChk.
-/
import Derived.Test.YtegpkpilfgohhaaMrg8
import Derived.Test.YtegpkpilfgohhaaMrg7
import Derived.Test.YtegpkpilfgohhaaRegLaw
import Derived.Test.YtegpkpilfgohhaaEng2
set_option linter.unusedVariables false
set_option linter.unusedSimpArgs false
set_option linter.unnecessarySimpa false
namespace Go.Proofs.Ytegpkpilfgohhaa
open Go.RowKit
set_option maxRecDepth 20000
def RunsM (G:Mem) (A:Option Addr) (L:List Run):Prop:=∀ (i:Nat) r,L[i]? = some r→∃ b off,A=some ⟨b,off,none⟩∧G.cell? ⟨b,off+i*3,none⟩=some (.int .i64 r.y)∧G.cell? ⟨b,off+i*3+1,none⟩=some (.int .i64 r.x0)∧G.cell? ⟨b,off+i*3+2,none⟩=some (.int .i64 r.x1)
theorem RunsM.mono {G G':Mem} {A:Option Addr} {L:List Run} (h:RunsM G A L) (hle:G.le G'):RunsM G' A L:=fun i r hr=>by
  obtain ⟨b,off,h1,h2,h3,h4⟩:=h i r hr
  exact ⟨b,off,h1,hle.cell h2,hle.cell h3,hle.cell h4⟩
theorem RunsM.nil (G:Mem) (A:Option Addr):RunsM G A []:=fun i r hr=>by simp at hr
theorem RunsM.at_ {G:Mem} {A:Option Addr} {L:List Run} (h:RunsM G A L) {i:Nat} {r:Run} (hi:L[i]? = some r):∃ p:Addr,A=some p∧G.cell? (Addr.add (p.add (i*3)) 0)=some (.int .i64 r.y)∧G.cell? (Addr.add (p.add (i*3)) 1)=some (.int .i64 r.x0)∧G.cell? (Addr.add (p.add (i*3)) 2)=some (.int .i64 r.x1):=by
  obtain ⟨b,off,rfl,h1,h2,h3⟩:=h i r hi
  exact ⟨_,rfl,by rw [q0z,q0z];exact h1,by rw [q0z,q0z];exact h2,by rw [q0z,q0z];exact h3⟩
theorem RunsM.cells {G:Mem} {A:Option Addr} {L:List Run} (h:RunsM G A L) {i:Nat} {r:Run} (hi:L[i]? = some r):∃ p:Addr,A=some p∧∀ K:List Value→Prop,K [.int .i64 r.y,.int .i64 r.x0,.int .i64 r.x1]→OldCells G (p.add (i*3)) 3 K:=by
  obtain ⟨p,rfl,c0,c1,c2⟩:=h.at_ hi
  refine ⟨p,rfl,fun K k=>q50 _ rfl (fun j u hj=>?_) k⟩
  match j,hj with
  | 0,hj=>simp at hj;subst hj;exact c0
  | 1,hj=>simp at hj;subst hj;exact c1
  | 2,hj=>simp at hj;subst hj;exact c2
def nthR (L:List Run) (i:Nat):Run:=(L[i]?).getD ⟨0,0,0⟩
theorem q8p {L:List Run} {i:Nat} {r:Run} (h:L[i]? = some r):nthR L i=r:=by simp [nthR,h]
theorem RunsAt.m {w:World} {A:Option Addr} {n:Nat} {rs:Nat→Run} (h:RunsAt w A n rs):RunsM (q9u w) A (q3a rs n):=by
  intro i r hr
  have hi:i<n:=by have:=(List.getElem?_eq_some_iff.1 hr).1;simpa [q3a] using this
  have e:rs i=r:=by simpa [q3a,List.getElem?_range hi] using hr
  subst e
  obtain ⟨b,off,hA,_,hc⟩:=h (by omega)
  obtain ⟨c0,c1,c2⟩:=hc i hi
  exact ⟨b,off,hA,c0,c1,c2⟩
def errL (L:List Run):Int:=regV (nthR L) L.length
end Go.Proofs.Ytegpkpilfgohhaa
namespace Go.Proofs.Ytegpkpilfgohhaa
open Go.RowKit
set_option maxRecDepth 20000
end Go.Proofs.Ytegpkpilfgohhaa
