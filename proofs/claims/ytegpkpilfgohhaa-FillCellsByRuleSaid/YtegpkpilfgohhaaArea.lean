/-
  fill.Area2 and the reference's Area2.
-/
import Derived.Test.YtegpkpilfgohhaaLines
set_option linter.unusedVariables false
set_option linter.unusedSimpArgs false
set_option linter.unnecessarySimpa false
namespace Go.Proofs.Ytegpkpilfgohhaa
open Go.RowKit
set_option maxRecDepth 20000
theorem q2i {a b A B:Int} (ha:-A≤a∧a≤A) (hb:-B≤b∧b≤B):-(A*B)≤a*b∧a*b≤A*B:=by
  have h0:0≤A:=by omega
  have h1:0≤B:=by omega
  have e1:=Int.mul_nonneg (show 0≤A-a by omega) (show 0≤B-b by omega)
  have e2:=Int.mul_nonneg (show 0≤A+a by omega) (show 0≤B+b by omega)
  have e3:=Int.mul_nonneg (show 0≤A-a by omega) (show 0≤B+b by omega)
  have e4:=Int.mul_nonneg (show 0≤A+a by omega) (show 0≤B-b by omega)
  simp only [Int.sub_mul,Int.add_mul,Int.mul_sub,Int.mul_add] at e1 e2 e3 e4
  omega
def nx (n i:Nat):Nat:=if i+1=n then 0 else i+1
theorem q4l {n i:Nat} (h:i<n):nx n i<n:=by unfold nx;split <;> omega
theorem z07 {n i:Nat} (h:i<n):Int.tmod ((i:Int)+1) (n:Int)=(nx n i:Nat):=by
  rw [Int.tmod_eq_emod_of_nonneg (by omega)]
  unfold nx
  split
  · rename_i e
    have:((i:Int)+1)=(n:Int):=by omega
    rw [this,Int.emod_self];rfl
  · rw [Int.emod_eq_of_lt (by omega) (by omega)];omega
def x0x (X Y:Nat→Int) (n i:Nat):Int:=X (nx n i)*Y i-X i*Y (nx n i)
def q71 (X Y:Nat→Int) (n:Nat) (s:Int):Nat→Int
  | 0=>s
  | i+1=>IntKind.i64.wrap (q71 X Y n s i+x0x X Y n i)
def q5t (L:Nat→LineD):Nat→Int
  | 0=>0
  | x+1=>q71 (L x).X (L x).Y (L x).n (q5t L x) (L x).n
section
variable {G:Mem} {A:Option Addr} {n c:Nat} {L:Nat→LineD}
theorem z91 {X Y:Nat→Int} {m i:Nat} (h:∀ j,j<m→okXY (X j) (Y j)=true) (hi:i<m) :
    (-1073676289≤X (nx m i)*Y i∧X (nx m i)*Y i≤1073676289)∧(-1073676289≤X i*Y (nx m i)∧X i*Y (nx m i)≤1073676289):=by
  obtain ⟨a1,a2⟩:=q16 (h i hi)
  obtain ⟨b1,b2⟩:=q16 (h _ (q4l hi))
  exact ⟨q2i (A:=32767) (B:=32767) b1 a2,q2i (A:=32767) (B:=32767) a1 b2⟩
set_option maxHeartbeats 8000000 in
theorem z62 (h:LinesM G A n L) (hn:n≤maxLen) (hb:q1v L n=true):Gives Try.prog 20 [.val (.slice A n c)] G (.tup [.val (.int .i64 (q5t L n)),.val (.int .i64 0)]):=by
  have hc:=q4k (c:=c) h hn
  unfold q20 at hc
  rw [hb,if_pos rfl] at hc
  have hok:=q23 hb
  have hn':n≤9223372036854775807:=by unfold maxLen at hn;omega
  refine q1n tab_ok Try.func20 ?_
  (repeat ((try (conv=>whnf));(first |(refine stQ ?_) |(with_reducible first |refine q0f (fun vs w=>by kernel_rfl) (by kernel_rfl) (hc) ?_ |refine q0h (fun vs w=>by kernel_rfl) (by kernel_rfl) (hc) ?_))))
  conv=>whnf
  refine q00 tab_ok (fun x=>x≤n) (fun (x:Nat)=>[(18,.val (.int .i64 x)),(5,.val (.int .i64 (q5t L x)))]) (fun x=>[]) (fun x=>n-x) 0 (Nat.zero_le _) ?_ ?_
  · ((refine q0d ?_);(conv=>whnf);(refine q0e (by rfl) (by rfl) flQ ?_))
    exact q0b
  · rintro x hx
    rcases Nat.lt_or_ge x n with h1 |h1
    · obtain ⟨p,rfl,ca⟩:=h.rows.cells h1
      have hp:=h.pts x h1
      have hcap:=h.cap x h1
      unfold maxLen at hcap
      (repeat ((try (conv=>whnf));(first |(refine ca _ ?_) |(refine stQ ?_))))
      conv=>whnf
      refine q00 tab_ok (fun i=>i≤(L x).n) (fun (i:Nat)=>[(25,.val (.int .i64 i)),(5,.val (.int .i64 (q71 (L x).X (L x).Y (L x).n (q5t L x) i)))]) (fun i=>[.cells 35 [.val (.slice (L x).A (L x).n (L x).q),.val (.bool (L x).cl)]]) (fun i=>(L x).n-i) 0 (Nat.zero_le _) ?_ ?_
      · ((refine q0d ?_);(conv=>whnf);(refine q0e (by rfl) (by rfl) flQ ?_))
        exact q0i (by exact flQ) q0b
      · rintro i hi
        rcases Nat.lt_or_ge i (L x).n with h2 |h2
        · obtain ⟨p2,hp2,cb⟩:=hp.cells h2
          obtain ⟨p3,hp3,cc⟩:=hp.cells (q4l h2)
          rw [hp2] at hp3;cases hp3
          have hm:=z07 h2
          have hm':(Int.tmod ((i:Int)+1) ((L x).n:Int)).toNat=nx (L x).n i:=by rw [hm];omega
          have hlt:=q4l h2
          rw [← hm'] at cc
          have hacc:IntKind.i64.wrap (q71 (L x).X (L x).Y (L x).n (q5t L x) i+((L x).X (Int.tmod ((i:Int)+1) ((L x).n:Int)).toNat * (L x).Y i-(L x).X i*(L x).Y (Int.tmod ((i:Int)+1) ((L x).n:Int)).toNat))=q71 (L x).X (L x).Y (L x).n (q5t L x) (i+1):=by rw [hm'];rfl
          have hbd:=z91 (hok x h1) h2
          rw [← hm'] at hbd
          obtain ⟨b1,b2⟩:=hbd
          rw [hp2]
          generalize hs':q71 (L x).X (L x).Y (L x).n (q5t L x) (i+1)=s' at *
          generalize q71 (L x).X (L x).Y (L x).n (q5t L x) i=s at *
          clear hok hc hp ca h
          (repeat ((try (conv=>whnf));(first |(refine cb _ ?_) |(refine cc _ ?_) |((with_reducible refine mustP.mk ?_ ?_);(· rw [hm];omega)) |(with_reducible refine x0f _ hacc ?_) |(refine stQ ?_))))
          refine ⟨i+1,by omega,by omega,?_⟩
          rw [hs']
          ((refine q0d ?_);(conv=>whnf);(refine q0e (by rfl) (by rfl) flQ ?_))
          exact q0i (by exact flQ) q0b
        · obtain rfl:i=(L x).n:=by omega
          (repeat ((try (conv=>whnf));(refine stQ ?_)))
          refine ⟨x+1,by omega,by omega,?_⟩
          ((refine q0d ?_);(conv=>whnf);(refine q0e (by rfl) (by rfl) flQ ?_))
          exact q0b
    · obtain rfl:x=n:=by omega
      (repeat ((try (conv=>whnf));(refine stQ ?_)))
      exact ⟨rfl,rfl⟩
end
end Go.Proofs.Ytegpkpilfgohhaa
