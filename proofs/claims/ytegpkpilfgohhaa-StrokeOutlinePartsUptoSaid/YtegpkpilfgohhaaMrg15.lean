/-
  Merged: XPut, XJoined.
-/
import Derived.Test.YtegpkpilfgohhaaMrg7
import Derived.Test.YtegpkpilfgohhaaRegSweep
set_option linter.unusedVariables false
set_option linter.unusedSimpArgs false
set_option linter.unnecessarySimpa false
namespace Go.Proofs.Ytegpkpilfgohhaa
open Go.RowKit
set_option maxRecDepth 20000
end Go.Proofs.Ytegpkpilfgohhaa
namespace Go.Proofs.Ytegpkpilfgohhaa
open Go.RowKit
set_option maxRecDepth 20000
def q24 (L:List Run):List Value:=L.flatMap fun r=>[.int .i64 r.y,.int .i64 r.x0,.int .i64 r.x1]
theorem q6w (K L:List Run):q24 (K++L)=q24 K++q24 L:=by simp [q24]
theorem z3t (r:Run):q24 [r]=[.int .i64 r.y,.int .i64 r.x0,.int .i64 r.x1]:=by simp [q24]
theorem q9r:∀ (L:List Run),(q24 L).length=L.length*3
  | []=>rfl
  | r::L=>by
    have:=q9r L
    show (q24 ([r]++L)).length=_
    rw [q6w,List.length_append,this,z3t];simp;omega
theorem z88 {L:List Run} {i:Nat} {r:Run} (h:L[i]? = some r):(q24 L)[i*3]? = some (.int .i64 r.y)∧(q24 L)[i*3+1]? = some (.int .i64 r.x0)∧(q24 L)[i*3+2]? = some (.int .i64 r.x1):=by
  obtain ⟨h1,rfl⟩:=List.getElem?_eq_some_iff.1 h
  have e:L=L.take i++([L[i]]++L.drop (i+1)):=by simp
  have hl:(q24 (L.take i)).length=i*3:=by rw [q9r,List.length_take];congr 1;omega
  have key:∀ j,j<3→(q24 L)[i*3+j]? = [Value.int .i64 L[i].y,.int .i64 L[i].x0,.int .i64 L[i].x1][j]?:=fun j hj=>by
    conv=>lhs;rw [e,q6w,q6w,z3t]
    rw [List.getElem?_append_right (by omega),hl,show i*3+j-i*3=j by omega,List.getElem?_append_left (by simp;omega)]
  exact ⟨key 0 (by omega),key 1 (by omega),key 2 (by omega)⟩
end Go.Proofs.Ytegpkpilfgohhaa
