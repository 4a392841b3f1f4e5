/-
  joined: cells of a row go to the end of a region.
-/
import Derived.Test.YtegpkpilfgohhaaPut
set_option linter.unusedVariables false
set_option linter.unusedSimpArgs false
set_option linter.unnecessarySimpa false
namespace Go.Proofs.Ytegpkpilfgohhaa
open Go.RowKit
set_option maxRecDepth 20000
def q0x (L:List Run):List Value:=L.flatMap fun r=>[.int .i64 r.y,.int .i64 r.x0,.int .i64 r.x1]
theorem q1g (K L:List Run):q0x (K++L)=q0x K++q0x L:=by simp [q0x]
theorem q39 (r:Run):q0x [r]=[.int .i64 r.y,.int .i64 r.x0,.int .i64 r.x1]:=by simp [q0x]
theorem q13:∀ (L:List Run),(q0x L).length=L.length*3
  | []=>rfl
  | r::L=>by
    have:=q13 L
    show (q0x ([r]++L)).length=_
    rw [q1g,List.length_append,this,q39];simp;omega
theorem q82 {L:List Run} {i:Nat} {r:Run} (h:L[i]? = some r):(q0x L)[i*3]? = some (.int .i64 r.y)∧(q0x L)[i*3+1]? = some (.int .i64 r.x0)∧(q0x L)[i*3+2]? = some (.int .i64 r.x1):=by
  obtain ⟨h1,rfl⟩:=List.getElem?_eq_some_iff.1 h
  have e:L=L.take i++([L[i]]++L.drop (i+1)):=by simp
  have hl:(q0x (L.take i)).length=i*3:=by rw [q13,List.length_take];congr 1;omega
  have key:∀ j,j<3→(q0x L)[i*3+j]? = [Value.int .i64 L[i].y,.int .i64 L[i].x0,.int .i64 L[i].x1][j]?:=fun j hj=>by
    conv=>lhs;rw [e,q1g,q1g,q39]
    rw [List.getElem?_append_right (by omega),hl,show i*3+j-i*3=j by omega,List.getElem?_append_left (by simp;omega)]
  exact ⟨key 0 (by omega),key 1 (by omega),key 2 (by omega)⟩
theorem z66 {L:List Run}:∀ v∈q0x L,v.oneCell'=true:=fun v hv=>by
  simp only [q0x,List.mem_flatMap,List.mem_cons,List.not_mem_nil,or_false] at hv
  obtain ⟨r,_,rfl |rfl |rfl⟩:=hv <;> rfl
def q27 (L:List Run) (y a b:Int):List Run :=
  match L.getLast? with
  | some r=>if r.y=y∧r.x1=a then L.dropLast++[⟨y,r.x0,b⟩] else L++[⟨y,a,b⟩]
  | none=>[⟨y,a,b⟩]
theorem q6v {y a b:Int}:q27 [] y a b=[⟨y,a,b⟩]:=by simp [q27]
theorem q5v {L:List Run} {r:Run} {y a b:Int} (h1:r.y=y) (h2:r.x1=a):q27 (L++[r]) y a b=L++[⟨y,r.x0,b⟩]:=by simp [q27,h1,h2]
theorem q5g {L:List Run} {r:Run} {y a b:Int} (h1:¬ (r.y=y∧r.x1=a)):q27 (L++[r]) y a b=L++[r]++[⟨y,a,b⟩]:=by
  unfold q27
  have e:(L++[r]).getLast? = some r:=by simp
  rw [e]
  simp only [if_neg h1]
theorem z8f (L:List Run) (y a b:Int):0<(q27 L y a b).length:=by
  rcases q52 L with rfl |⟨K,r,rfl⟩
  · simp [q6v]
  · by_cases h:r.y=y∧r.x1=a
    · rw [q5v h.1 h.2];simp
    · rw [q5g h];simp
theorem z45 (L:List Run) (y a b:Int):(q27 L y a b).length≤L.length+1:=by
  rcases q52 L with rfl |⟨K,r,rfl⟩
  · simp [q6v]
  · by_cases h:r.y=y∧r.x1=a
    · rw [q5v h.1 h.2];simp
    · rw [q5g h];simp
theorem z8g {L:List Run} {y a b:Int} (hu:upTo L y a) (h:a<b):q27 L y a b=addR L y a b:=by
  rcases q52 L with rfl |⟨K,r,rfl⟩
  · rw [q6v,q95 (by omega)]
  · have hr:=hu r (by simp)
    by_cases h1:r.y=y∧a≤r.x1
    · rw [q8t (by omega) h1.1 h1.2,q5v h1.1 (by omega)]
      have:max r.x1 b=b:=by omega
      rw [this]
    · rw [q70 (by omega) h1,q5g (by omega)]
theorem z29 (K:List Run) (r:Run):(q0x (K++[r]))[K.length*3]? = some (.int .i64 r.y)∧(q0x (K++[r]))[K.length*3+1]? = some (.int .i64 r.x0)∧(q0x (K++[r]))[K.length*3+2]? = some (.int .i64 r.x1) :=
  q82 (by simp)
theorem z46 (K:List Run) (r:Run) (b:Int):(q0x (K++[r])).take (K.length*3+2)++[.int .i64 b]++(q0x (K++[r])).drop (K.length*3+2+1)=q0x (K++[⟨r.y,r.x0,b⟩]):=by
  have hl:=q13 K
  rw [q1g,q1g,q39,q39,List.take_append,List.drop_append,hl]
  rw [List.take_of_length_le (by omega),List.drop_of_length_le (by omega)]
  simp [show K.length*3+2-K.length*3=2 by omega,show K.length*3+2+1-K.length*3=3 by omega]
theorem z98 (K:List Run) (r:Run):(((K++[r]).length:Nat):Int)-1=(K.length:Int):=by simp
theorem z85 {K:List Run} {r:Run} {y a b:Int} (h1:r.y=y) (h2:r.x1=a) :
    Blk.own 60 3 (K++[r]).length ((q0x (K++[r])).take (((((K++[r]).length:Nat):Int)-1).toNat * 3+2)++[.int .i64 b]++(q0x (K++[r])).drop (((((K++[r]).length:Nat):Int)-1).toNat * 3+2+[Value.int .i64 b].length)) =
      .own 60 3 (q27 (K++[r]) y a b).length (q0x (q27 (K++[r]) y a b)):=by
  rw [q5v h1 h2,← h1,z98,Int.toNat_natCast,List.length_singleton,z46 K r b]
  rw [show (K++[(⟨r.y,r.x0,b⟩:Run)]).length=(K++[r]).length by simp]
set_option maxHeartbeats 1000000 in
theorem q4n (L:List Run) (y a b:Int) (G:Mem) (hl:L.length≤1000000000000):q86 Try.prog 51 [.val (.int .i64 y),.val (.int .i64 a),.val (.int .i64 b)] G 60 3 L.length (q0x L) (q27 L y a b).length (q0x (q27 L y a b)):=by
  refine z4o tab_ok Try.func51 (z8f L y a b) fun G' _=>?_
  rcases q52 L with rfl |⟨K,r,rfl⟩
  · simp only [List.length_nil,show q0x []=[] from rfl]
    (repeat ((try (conv=>whnf));(refine stQ ?_)))
    conv=>whnf
    exact ⟨2,rfl,by rw [q6v];rfl⟩
  · obtain ⟨c0,c1,c2⟩:=z29 K r
    have hkl:((K++[r]).length:Int)=K.length+1:=by simp
    have ei:((((K++[r]).length:Nat):Int)-1).toNat=K.length:=by omega
    by_cases h1:r.y=y
    · by_cases h2:r.x1=a
      · (repeat ((try (conv=>whnf));(refine stQ ?_)))
        conv=>whnf
        refine q0n (.int .i64 r.y) (by rw [ei];exact c0) ?_
        (repeat ((try (conv=>whnf));(refine stQ ?_)))
        conv=>whnf
        refine q0n (.int .i64 r.x1) (by rw [ei];exact c2) ?_
        (repeat ((try (conv=>whnf));(refine stQ ?_)))
        conv=>whnf
        refine mustP.mk (by rw [ei,q13];simp;omega) ?_
        (repeat ((try (conv=>whnf));(refine stQ ?_)))
        conv=>whnf
        exact ⟨0,rfl,z85 h1 h2⟩
      · (repeat ((try (conv=>whnf));(refine stQ ?_)))
        conv=>whnf
        refine q0n (.int .i64 r.y) (by rw [ei];exact c0) ?_
        (repeat ((try (conv=>whnf));(refine stQ ?_)))
        conv=>whnf
        refine q0n (.int .i64 r.x1) (by rw [ei];exact c2) ?_
        (repeat ((try (conv=>whnf));(refine stQ ?_)))
        conv=>whnf
        refine ⟨2,rfl,?_⟩
        rw [q5g (by omega),q1g _ [⟨y,a,b⟩],q39]
        rw [show (K++[r]++[(⟨y,a,b⟩:Run)]).length=(K++[r]).length+1 by simp]
        rfl
    · (repeat ((try (conv=>whnf));(refine stQ ?_)))
      conv=>whnf
      refine q0n (.int .i64 r.y) (by rw [ei];exact c0) ?_
      (repeat ((try (conv=>whnf));(refine stQ ?_)))
      conv=>whnf
      refine ⟨2,rfl,?_⟩
      rw [q5g (by omega),q1g _ [⟨y,a,b⟩],q39]
      rw [show (K++[r]++[(⟨y,a,b⟩:Run)]).length=(K++[r]).length+1 by simp]
      rfl
end Go.Proofs.Ytegpkpilfgohhaa
