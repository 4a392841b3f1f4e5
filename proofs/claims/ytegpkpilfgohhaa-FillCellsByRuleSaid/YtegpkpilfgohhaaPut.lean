/-
  put: a number goes into a sorted row, once.
-/
import Derived.Test.YtegpkpilfgohhaaMrg7
import Derived.Test.YtegpkpilfgohhaaMrg6
import Derived.Test.YtegpkpilfgohhaaRegSweep
set_option linter.unusedVariables false
set_option linter.unusedSimpArgs false
set_option linter.unnecessarySimpa false
namespace Go.Proofs.Ytegpkpilfgohhaa
open Go.RowKit
set_option maxRecDepth 20000
def ints (l:List Int):List Value:=l.map (.int .i64)
theorem q31 {l:List Int} {i:Nat} {z:Int} (h:l[i]? = some z):(ints l)[i]? = some (.int .i64 z):=by simp [ints,h]
theorem q6d {l:List Int} {i:Nat} {z:Int} (h:l[i]? = some z):(ints l)[(i:Int).toNat * (⟨.int .i64,1,8,[.int .i64 0]⟩:TI).size]? = some (.int .i64 z):=by
  rw [Int.toNat_natCast,Nat.mul_one];exact q31 h
theorem z26 {l:List Int} {i:Nat} {z:Int} (h:l[i+1]? = some z):(ints l)[((i:Int)+1).toNat * (⟨.int .i64,1,8,[.int .i64 0]⟩:TI).size]? = some (.int .i64 z):=by
  rw [show ((i:Int)+1).toNat=i+1 by omega,Nat.mul_one];exact q31 h
theorem q2u (l:List Int):(ints l).length=l.length:=by simp [ints]
theorem z96 {l:List Int} {x:Int} {i:Nat} (hi:i≤l.length) (a:Value):((((ints l++[a]).take (i+1)++ints (l.drop i)++(ints l++[a]).drop (i+1+(ints (l.drop i)).length)).take i++[.int .i64 x]++((ints l++[a]).take (i+1)++ints (l.drop i)++(ints l++[a]).drop (i+1+(ints (l.drop i)).length)).drop (i+1)))=ints (l.take i++x::l.drop i):=by
  have e1:(ints l++[a]).drop (i+1+(ints (l.drop i)).length)=[]:=by
    apply List.drop_eq_nil_of_le;simp [ints];omega
  rw [e1,List.append_nil]
  have e2:((ints l++[a]).take (i+1)).length=i+1:=by simp [ints];omega
  rw [List.take_append_of_le_length (by omega),List.drop_append_of_le_length (by omega),List.drop_of_length_le (by omega)]
  rw [List.take_take,show min i (i+1)=i by omega,List.take_append_of_le_length (by simp [ints];omega)]
  simp [ints]
theorem z27 {l:List Int} {i j:Nat} {v:Value} {r:List Value} (h:(ints (l.drop i))[j]? = some v):(ints l++r)[(i:Int).toNat * 1+j]? = some v:=by
  have hj:=(List.getElem?_eq_some_iff.1 h).1
  simp only [q2u,List.length_drop] at hj
  rw [List.getElem?_append_left (by simp [q2u];omega)]
  simp only [ints,List.getElem?_map,List.getElem?_drop] at h ⊢
  rw [← h];congr 2;omega
theorem z28 {l:List Int}:∀ v∈ints l,v.oneCell'=true:=fun v hv=>by
  simp only [ints,List.mem_map] at hv
  obtain ⟨z,_,rfl⟩:=hv;rfl
theorem z44 {l:List Int} {i:Nat} {x:Int} (hi:i≤l.length):(i:Int).toNat * 1+[Value.int .i64 x].length≤((ints l++[Value.int .i64 0]).take (((i:Int)+1).toNat * 1)++ints (l.drop i)++(ints l++[Value.int .i64 0]).drop (((i:Int)+1).toNat * 1+(ints (l.drop i)).length)).length:=by
  simp only [List.length_append,List.length_take,List.length_drop,q2u,List.length_singleton];omega
theorem z6c {l:List Int} {i:Nat} {x:Int} (hi:i≤l.length) (hins:ins x l=l.take i++x::l.drop i) :
    Blk.own 3 1 (l.length+1) (((ints l++[Value.int .i64 0]).take (((i:Int)+1).toNat * 1)++ints (l.drop i)++(ints l++[Value.int .i64 0]).drop (((i:Int)+1).toNat * 1+(ints (l.drop i)).length)).take ((i:Int).toNat * 1)++[.int .i64 x]++((ints l++[Value.int .i64 0]).take (((i:Int)+1).toNat * 1)++ints (l.drop i)++(ints l++[Value.int .i64 0]).drop (((i:Int)+1).toNat * 1+(ints (l.drop i)).length)).drop ((i:Int).toNat * 1+[Value.int .i64 x].length)) =
      .own 3 1 (ins x l).length (ints (ins x l)):=by
  rw [show (((i:Int)+1).toNat * 1)=i+1 by omega,show ((i:Int).toNat * 1)=i by omega,List.length_singleton,z96 hi,hins]
  have e:l.length+1=(l.take i++x::l.drop i).length:=by simp;omega
  rw [e]
theorem z97 (x:Int) (l:List Int):0<(ins x l).length:=by
  cases l with
  | nil=>simp [ins]
  | cons a l=>unfold ins;split <;> (try split) <;> simp
set_option maxHeartbeats 1000000 in
theorem z8e (l:List Int) (x:Int) (G:Mem) (hl:l.length≤4000000000):q86 Try.prog 49 [.val (.int .i64 x)] G 3 1 l.length (ints l) (ins x l).length (ints (ins x l)):=by
  refine z4o tab_ok Try.func49 (z97 x l) fun G' _=>?_
  (repeat ((try (conv=>whnf));(refine stQ ?_)))
  conv=>whnf
  refine q00 tab_ok (fun i=>i≤l.length∧∀ (j:Nat) z,j<i→l[j]? = some z→z<x) (fun (i:Nat)=>[(5,.val (.int .i64 i))]) (fun i=>[.own 3 1 l.length (ints l)]) (fun i=>l.length-i) 0 ⟨Nat.zero_le _,fun j z hj=>by omega⟩ ?_ ?_
  · ((refine q0d ?_);(conv=>whnf);(refine q0e (by rfl) (by rfl) flQ ?_))
    exact q0a rfl rfl q0b
  · rintro i ⟨hi,hlt⟩
    rcases Nat.lt_or_ge i l.length with h1 |h1
    · obtain ⟨z,hz⟩:∃ z,l[i]? = some z:=⟨l[i],List.getElem?_eq_getElem h1⟩
      by_cases hzx:z<x
      · (repeat ((try (conv=>whnf));(refine stQ ?_)))
        conv=>whnf
        refine q0n (.int .i64 z) (by rw [Int.toNat_natCast,Nat.mul_one];exact q31 hz) ?_
        (repeat ((try (conv=>whnf));(refine stQ ?_)))
        refine ⟨i+1,⟨by omega,fun j q hj hq=>?_⟩,by omega,?_⟩
        · rcases Nat.lt_or_ge j i with h2 |h2
          · exact hlt j q h2 hq
          · have:j=i:=by omega
            subst this;rw [hz] at hq;cases hq;exact hzx
        · ((refine q0d ?_);(conv=>whnf);(refine q0e (by rfl) (by rfl) flQ ?_))
          exact q0a rfl rfl q0b
      · have hins:=z4m (x:=x) hi hlt (fun q hq=>by rw [hz] at hq;cases hq;exact hzx)
        rw [hz] at hins
        by_cases he:z=x
        · simp only [if_pos he] at hins
          (repeat ((try (conv=>whnf));(refine stQ ?_)))
          conv=>whnf
          refine q0n (.int .i64 z) (by rw [Int.toNat_natCast,Nat.mul_one];exact q31 hz) ?_
          (repeat ((try (conv=>whnf));(refine stQ ?_)))
          conv=>whnf
          refine q0n (.int .i64 z) (by rw [Int.toNat_natCast,Nat.mul_one];exact q31 hz) ?_
          (repeat ((try (conv=>whnf));(refine stQ ?_)))
          conv=>whnf
          exact ⟨0,rfl,by rw [hins];rfl⟩
        · simp only [if_neg he] at hins
          (repeat ((try (conv=>whnf));(refine stQ ?_)))
          conv=>whnf
          refine q0n (.int .i64 z) (by rw [Int.toNat_natCast,Nat.mul_one];exact q31 hz) ?_
          (repeat ((try (conv=>whnf));(refine stQ ?_)))
          conv=>whnf
          refine q0n (.int .i64 z) (by rw [Int.toNat_natCast,Nat.mul_one];exact q31 hz) ?_
          (repeat ((try (conv=>whnf));(refine stQ ?_)))
          conv=>whnf
          refine q5i (ints (l.drop i)) (by simp only [q2u,List.length_drop];omega) (fun j v hj=>z27 hj) ?_
          conv=>whnf
          refine mustP.mk ⟨by simp only [q2u,List.length_drop,List.length_append,List.length_singleton];omega,z28⟩ ?_
          (repeat ((try (conv=>whnf));(refine stQ ?_)))
          conv=>whnf
          refine mustP.mk (z44 (by omega)) ?_
          (repeat ((try (conv=>whnf));(refine stQ ?_)))
          conv=>whnf
          exact ⟨2,rfl,z6c (by omega) hins⟩
    · have hins:=z4m (x:=x) hi hlt (fun q hq=>by rw [List.getElem?_eq_none (by omega)] at hq;cases hq)
      rw [List.getElem?_eq_none (by omega)] at hins
      simp only at hins
      (repeat ((try (conv=>whnf));(refine stQ ?_)))
      conv=>whnf
      refine q5i (ints (l.drop i)) (by simp only [q2u,List.length_drop];omega) (fun j v hj=>z27 hj) ?_
      conv=>whnf
      refine mustP.mk ⟨by simp only [q2u,List.length_drop,List.length_append,List.length_singleton];omega,z28⟩ ?_
      (repeat ((try (conv=>whnf));(refine stQ ?_)))
      conv=>whnf
      refine mustP.mk (z44 (by omega)) ?_
      (repeat ((try (conv=>whnf));(refine stQ ?_)))
      conv=>whnf
      exact ⟨2,rfl,z6c (by omega) (by rw [hins,List.take_of_length_le (by omega),List.drop_of_length_le (by omega)])⟩
end Go.Proofs.Ytegpkpilfgohhaa
