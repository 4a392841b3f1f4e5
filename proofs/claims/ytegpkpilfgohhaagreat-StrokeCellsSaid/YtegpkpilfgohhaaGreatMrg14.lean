/-
  Merged: XPut, XJoined.
-/
import Derived.Test.YtegpkpilfgohhaaGreatMrg7
import Derived.Test.YtegpkpilfgohhaaGreatMrg6
set_option linter.unusedVariables false
set_option linter.unusedSimpArgs false
set_option linter.unnecessarySimpa false
namespace Go.Proofs.YtegpkpilfgohhaaGreat
open Go.RowKit
set_option maxRecDepth 20000
end Go.Proofs.YtegpkpilfgohhaaGreat
namespace Go.Proofs.YtegpkpilfgohhaaGreat
open Go.RowKit
set_option maxRecDepth 20000
def q08 (L:List Run):List Value:=L.flatMap fun r=>[.int .i64 r.y,.int .i64 r.x0,.int .i64 r.x1]
theorem q2e (K L:List Run):q08 (K++L)=q08 K++q08 L:=by simp [q08]
theorem q76 (r:Run):q08 [r]=[.int .i64 r.y,.int .i64 r.x0,.int .i64 r.x1]:=by simp [q08]
theorem q2m:∀ (L:List Run),(q08 L).length=L.length*3
  | []=>rfl
  | r::L=>by
    have:=q2m L
    show (q08 ([r]++L)).length=_
    rw [q2e,List.length_append,this,q76];simp;omega
theorem q92 {L:List Run} {i:Nat} {r:Run} (h:L[i]? = some r):(q08 L)[i*3]? = some (.int .i64 r.y)∧(q08 L)[i*3+1]? = some (.int .i64 r.x0)∧(q08 L)[i*3+2]? = some (.int .i64 r.x1):=by
  obtain ⟨h1,rfl⟩:=List.getElem?_eq_some_iff.1 h
  have e:L=L.take i++([L[i]]++L.drop (i+1)):=by simp
  have hl:(q08 (L.take i)).length=i*3:=by rw [q2m,List.length_take];congr 1;omega
  have key:∀ j,j<3→(q08 L)[i*3+j]? = [Value.int .i64 L[i].y,.int .i64 L[i].x0,.int .i64 L[i].x1][j]?:=fun j hj=>by
    conv=>lhs;rw [e,q2e,q2e,q76]
    rw [List.getElem?_append_right (by omega),hl,show i*3+j-i*3=j by omega,List.getElem?_append_left (by simp;omega)]
  exact ⟨key 0 (by omega),key 1 (by omega),key 2 (by omega)⟩
theorem z55 {L:List Run}:∀ v∈q08 L,v.oneCell'=true:=fun v hv=>by
  simp only [q08,List.mem_flatMap,List.mem_cons,List.not_mem_nil,or_false] at hv
  obtain ⟨r,_,rfl |rfl |rfl⟩:=hv <;> rfl
def q8s (L:List Run) (y a b:Int):List Run :=
  match L.getLast? with
  | some r=>if r.y=y∧r.x1=a then L.dropLast++[⟨y,r.x0,b⟩] else L++[⟨y,a,b⟩]
  | none=>[⟨y,a,b⟩]
theorem z8f {y a b:Int}:q8s [] y a b=[⟨y,a,b⟩]:=by simp [q8s]
theorem z56 {L:List Run} {r:Run} {y a b:Int} (h1:r.y=y) (h2:r.x1=a):q8s (L++[r]) y a b=L++[⟨y,r.x0,b⟩]:=by simp [q8s,h1,h2]
theorem z8g {L:List Run} {r:Run} {y a b:Int} (h1:¬ (r.y=y∧r.x1=a)):q8s (L++[r]) y a b=L++[r]++[⟨y,a,b⟩]:=by
  unfold q8s
  have e:(L++[r]).getLast? = some r:=by simp
  rw [e]
  simp only [if_neg h1]
theorem x0r (L:List Run) (y a b:Int):(q8s L y a b).length≤L.length+1:=by
  rcases q6p L with rfl |⟨K,r,rfl⟩
  · simp [z8f]
  · by_cases h:r.y=y∧r.x1=a
    · rw [z56 h.1 h.2];simp
    · rw [z8g h];simp
theorem x5m {L:List Run} {y a b:Int} (hu:upTo L y a) (h:a<b):q8s L y a b=addR L y a b:=by
  rcases q6p L with rfl |⟨K,r,rfl⟩
  · rw [z8f,q6h (by omega)]
  · have hr:=hu r (by simp)
    by_cases h1:r.y=y∧a≤r.x1
    · rw [q5j (by omega) h1.1 h1.2,z56 h1.1 (by omega)]
      have:max r.x1 b=b:=by omega
      rw [this]
    · rw [q4t (by omega) h1,z8g (by omega)]
theorem z8h (K:List Run) (r:Run):(q08 (K++[r]))[K.length*3]? = some (.int .i64 r.y)∧(q08 (K++[r]))[K.length*3+1]? = some (.int .i64 r.x0)∧(q08 (K++[r]))[K.length*3+2]? = some (.int .i64 r.x1) :=
  q92 (by simp)
theorem x0s (K:List Run) (r:Run) (b:Int):(q08 (K++[r])).take (K.length*3+2)++[.int .i64 b]++(q08 (K++[r])).drop (K.length*3+2+1)=q08 (K++[⟨r.y,r.x0,b⟩]):=by
  have hl:=q2m K
  rw [q2e,q2e,q76,q76,List.take_append,List.drop_append,hl]
  rw [List.take_of_length_le (by omega),List.drop_of_length_le (by omega)]
  simp [show K.length*3+2-K.length*3=2 by omega,show K.length*3+2+1-K.length*3=3 by omega]
end Go.Proofs.YtegpkpilfgohhaaGreat
