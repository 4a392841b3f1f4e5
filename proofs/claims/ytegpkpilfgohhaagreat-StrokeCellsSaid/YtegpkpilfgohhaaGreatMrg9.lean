/-
  Merged: XLines, XArea.
-/
import Derived.Test.YtegpkpilfgohhaaGreatMrg8
import Derived.Test.YtegpkpilfgohhaaGreatMrg7
set_option linter.unusedVariables false
set_option linter.unusedSimpArgs false
set_option linter.unnecessarySimpa false
namespace Go.Proofs.YtegpkpilfgohhaaGreat
open Go.RowKit
set_option maxRecDepth 20000
abbrev ptC (X Y:Nat→Int) (i:Nat):List Value:=[.int .i64 (X i),.int .i64 (Y i)]
structure LineD where
  A:Option Addr
  n:Nat
  q:Nat
  X:Nat→Int
  Y:Nat→Int
  cl:Bool
abbrev LineD.cells (l:LineD):List Value:=[.slice l.A l.n l.q,.bool l.cl]
structure LinesM (G:Mem) (A:Option Addr) (n:Nat) (L:Nat→LineD):Prop where
  rows:ElsM G A 2 n fun x=>(L x).cells
  pts:∀ x,x<n→ElsM G (L x).A 2 (L x).n (ptC (L x).X (L x).Y)
  cap:∀ x,x<n→(L x).n≤(L x).q∧(L x).q≤maxLen
theorem LinesM.mono {G G':Mem} {A:Option Addr} {n:Nat} {L:Nat→LineD} (h:LinesM G A n L) (hle:G.le G'):LinesM G' A n L:=⟨h.rows.mono hle,fun x hx=>(h.pts x hx).mono hle,h.cap⟩
def okXY (x y:Int):Bool:=decide ((-32767≤x∧x≤32767)∧(-32767≤y∧y≤32767))
theorem x0i {x y:Int} (h:(-32767≤x∧x≤32767)∧(-32767≤y∧y≤32767)):okXY x y=true:=decide_eq_true h
theorem x22 {x y:Int} (h:¬ ((-32767≤x∧x≤32767)∧(-32767≤y∧y≤32767))):okXY x y=false:=decide_eq_false h
theorem q2u {x y:Int} (h:okXY x y=true):(-32767≤x∧x≤32767)∧(-32767≤y∧y≤32767):=of_decide_eq_true h
def z50 (l:LineD):Bool:=(List.range l.n).all fun i=>okXY (l.X i) (l.Y i)
def q1n (L:Nat→LineD) (n:Nat):Bool:=(List.range n).all fun x=>z50 (L x)
def q16 (L:Nat→LineD) (n:Nat):Int:=if q1n L n=true then 0 else 3
theorem q8p {L:Nat→LineD} {n:Nat} (h:∀ x,x<n→∀ i,i<(L x).n→okXY ((L x).X i) ((L x).Y i)=true):q1n L n=true:=by
  unfold q1n
  rw [List.all_eq_true]
  intro x hx
  unfold z50
  rw [List.all_eq_true]
  exact fun i hi=>h x (List.mem_range.1 hx) i (List.mem_range.1 hi)
theorem z2u {L:Nat→LineD} {n x i:Nat} (hx:x<n) (hi:i<(L x).n) (h:okXY ((L x).X i) ((L x).Y i)=false):q1n L n=false:=by
  unfold q1n
  rw [List.all_eq_false]
  refine ⟨x,List.mem_range.2 hx,?_⟩
  unfold z50
  rw [Bool.not_eq_true,List.all_eq_false]
  exact ⟨i,List.mem_range.2 hi,by rw [h];simp⟩
theorem q2v {L:Nat→LineD} {n:Nat} (h:q1n L n=true):∀ x,x<n→∀ i,i<(L x).n→okXY ((L x).X i) ((L x).Y i)=true:=by
  intro x hx i hi
  cases hk:okXY ((L x).X i) ((L x).Y i) with
  | true=>rfl
  | false=>rw [z2u hx hi hk] at h;cases h
section
variable {G:Mem} {A:Option Addr} {n c:Nat} {L:Nat→LineD}
set_option maxHeartbeats 4000000 in
theorem q4m (h:LinesM G A n L) (hn:n≤maxLen):Gives Tryz.prog 35 [.val (.slice A n c)] G (.val (.int .i64 (q16 L n))):=by
  have hn':n≤9223372036854775807:=by unfold maxLen at hn;omega
  refine q06 tab_ok Tryz.func35 ?_
  (repeat ((try (conv=>whnf));(refine stQ ?_)))
  conv=>whnf
  refine q07 tab_ok (fun x=>x≤n∧∀ y,y<x→∀ i,i<(L y).n→okXY ((L y).X i) ((L y).Y i)=true) (fun (x:Nat)=>[(9,.val (.int .i64 x))]) (fun x=>[]) (fun x=>n-x) 0 ⟨Nat.zero_le _,fun y hy=>by omega⟩ ?_ ?_
  · ((refine q0g ?_);(conv=>whnf);(refine q0h (by rfl) (by rfl) flQ ?_))
    exact q0e
  · rintro x ⟨hx,hall⟩
    rcases Nat.lt_or_ge x n with h1 |h1
    · obtain ⟨p,rfl,ca⟩:=h.rows.cells h1
      have hp:=h.pts x h1
      have hcap:=h.cap x h1
      unfold maxLen at hcap
      (repeat ((try (conv=>whnf));(first |(refine ca _ ?_) |(refine stQ ?_))))
      conv=>whnf
      refine q07 tab_ok (fun i=>i≤(L x).n∧∀ j,j<i→okXY ((L x).X j) ((L x).Y j)=true) (fun (i:Nat)=>[(16,.val (.int .i64 i))]) (fun i=>[.cells 37 [.val (.slice (L x).A (L x).n (L x).q),.val (.bool (L x).cl)]]) (fun i=>(L x).n-i) 0 ⟨Nat.zero_le _,fun j hj=>by omega⟩ ?_ ?_
      · ((refine q0g ?_);(conv=>whnf);(refine q0h (by rfl) (by rfl) flQ ?_))
        exact q0c (by exact flQ) q0e
      · rintro i ⟨hi,hall2⟩
        rcases Nat.lt_or_ge i (L x).n with h2 |h2
        · obtain ⟨p2,hp2,cb⟩:=hp.cells h2
          have no:=fun h=>z2u (L:=L) h1 h2 (x22 h)
          have yes:((-32767≤(L x).X i∧(L x).X i≤32767)∧(-32767≤(L x).Y i∧(L x).Y i≤32767))→∀ j,j<i+1→okXY ((L x).X j) ((L x).Y j)=true:=fun h j hj=>by
            rcases Nat.lt_or_ge j i with h3 |h3
            · exact hall2 j h3
            · obtain rfl:j=i:=by omega
              exact x0i h
          rw [hp2]
          clear hall hall2 hp ca h
          unfold q16
          (repeat' ((try (conv=>whnf));(first |(refine cb _ ?_) |(refine stQ ?_) |(with_reducible first |refine q0f tab_ok Tryz.func51 (fun vs w=>by kernel_rfl) (by rfl) ?_ |refine q7t (fun h0=>?_) (fun h0=>?_)))))
          all_goals first
            | (refine ⟨i+1,⟨by omega,yes (by omega)⟩,by omega,?_⟩
               ((refine q0g ?_);(conv=>whnf);(refine q0h (by rfl) (by rfl) flQ ?_))
               exact q0c (by exact flQ) q0e)
            | exact ⟨by rw [no (by omega)];rfl,rfl⟩
        · obtain rfl:i=(L x).n:=by omega
          (repeat ((try (conv=>whnf));(refine stQ ?_)))
          refine ⟨x+1,⟨by omega,fun y hy=>?_⟩,by omega,?_⟩
          · rcases Nat.lt_or_ge y x with h3 |h3
            · exact hall y h3
            · obtain rfl:y=x:=by omega
              exact hall2
          · ((refine q0g ?_);(conv=>whnf);(refine q0h (by rfl) (by rfl) flQ ?_))
            exact q0e
    · obtain rfl:x=n:=by omega
      (repeat ((try (conv=>whnf));(refine stQ ?_)))
      exact ⟨by unfold q16;rw [q8p hall];rfl,rfl⟩
theorem x0j {x y:Int}:Gives Tryz.prog 25 [.agg [.val (.int .i64 x),.val (.int .i64 y)]] G (.val (.bool (okXY x y))):=by
  refine q06 tab_ok Tryz.func25 ?_
  (repeat' ((try (conv=>whnf));(first |(refine stQ ?_) |(with_reducible first |refine q0f tab_ok Tryz.func24 (fun vs w=>by kernel_rfl) (by rfl) ?_ |refine q7t (fun h0=>?_) (fun h0=>?_)))))
  all_goals ((conv=>whnf);first |exact ⟨by rw [x22 (by omega)],rfl⟩ |exact ⟨by rw [x0i (by omega)],rfl⟩ |exact ⟨by unfold okXY;rw [AV.val.injEq,Value.bool.injEq];apply decide_eq_decide.2;omega,rfl⟩)
set_option maxHeartbeats 4000000 in
theorem q6i (h:LinesM G A n L) (hn:n≤maxLen):Gives Tryz.prog 8 [.val (.slice A n c)] G (.val (.int .i64 (q16 L n))):=by
  have hn':n≤9223372036854775807:=by unfold maxLen at hn;omega
  refine q06 tab_ok Tryz.func8 ?_
  (repeat ((try (conv=>whnf));(refine stQ ?_)))
  conv=>whnf
  refine q07 tab_ok (fun x=>x≤n∧∀ y,y<x→∀ i,i<(L y).n→okXY ((L y).X i) ((L y).Y i)=true) (fun (x:Nat)=>[(7,.val (.int .i64 x))]) (fun x=>[]) (fun x=>n-x) 0 ⟨Nat.zero_le _,fun y hy=>by omega⟩ ?_ ?_
  · ((refine q0g ?_);(conv=>whnf);(refine q0h (by rfl) (by rfl) flQ ?_))
    exact q0e
  · rintro x ⟨hx,hall⟩
    rcases Nat.lt_or_ge x n with h1 |h1
    · obtain ⟨p,rfl,ca⟩:=h.rows.cells h1
      obtain ⟨p0,hp0,c0⟩:=h.rows.cell (x:=x) (j:=0) h1 rfl
      cases hp0
      have hp:=h.pts x h1
      have hcap:=h.cap x h1
      unfold maxLen at hcap
      (repeat ((try (conv=>whnf));(first |(refine q0q _ c0 ?_) |(refine stQ ?_))))
      conv=>whnf
      refine q07 tab_ok (fun i=>i≤(L x).n∧∀ j,j<i→okXY ((L x).X j) ((L x).Y j)=true) (fun (i:Nat)=>[(16,.val (.int .i64 i))]) (fun i=>[]) (fun i=>(L x).n-i) 0 ⟨Nat.zero_le _,fun j hj=>by omega⟩ ?_ ?_
      · ((refine q0g ?_);(conv=>whnf);(refine q0h (by rfl) (by rfl) flQ ?_))
        exact q0e
      · rintro i ⟨hi,hall2⟩
        rcases Nat.lt_or_ge i (L x).n with h2 |h2
        · obtain ⟨p2,hp2,cb⟩:=hp.cells h2
          have hcd:=x0j (G:=G) (x:=(L x).X i) (y:=(L x).Y i)
          rw [hp2] at c0
          rw [hp2]
          unfold q16
          cases hk:okXY ((L x).X i) ((L x).Y i)
          · rw [hk] at hcd
            rw [z2u h1 h2 hk]
            (repeat ((try (conv=>whnf));(first |(refine q0q _ c0 ?_) |(refine cb _ ?_) |(refine stQ ?_) |(with_reducible first |refine q0b (fun vs w=>by kernel_rfl) (by kernel_rfl) (hcd) ?_ |refine q0a (fun vs w=>by kernel_rfl) (by kernel_rfl) (hcd) ?_))))
            exact ⟨rfl,rfl⟩
          · rw [hk] at hcd
            (repeat ((try (conv=>whnf));(first |(refine q0q _ c0 ?_) |(refine cb _ ?_) |(refine stQ ?_) |(with_reducible first |refine q0b (fun vs w=>by kernel_rfl) (by kernel_rfl) (hcd) ?_ |refine q0a (fun vs w=>by kernel_rfl) (by kernel_rfl) (hcd) ?_))))
            refine ⟨i+1,⟨by omega,fun j hj=>?_⟩,by omega,?_⟩
            · rcases Nat.lt_or_ge j i with h3 |h3
              · exact hall2 j h3
              · obtain rfl:j=i:=by omega
                exact hk
            · ((refine q0g ?_);(conv=>whnf);(refine q0h (by rfl) (by rfl) flQ ?_))
              exact q0e
        · obtain rfl:i=(L x).n:=by omega
          (repeat ((try (conv=>whnf));(refine stQ ?_)))
          refine ⟨x+1,⟨by omega,fun y hy=>?_⟩,by omega,?_⟩
          · rcases Nat.lt_or_ge y x with h3 |h3
            · exact hall y h3
            · obtain rfl:y=x:=by omega
              exact hall2
          · ((refine q0g ?_);(conv=>whnf);(refine q0h (by rfl) (by rfl) flQ ?_))
            exact q0e
    · obtain rfl:x=n:=by omega
      (repeat ((try (conv=>whnf));(refine stQ ?_)))
      exact ⟨by unfold q16;rw [q8p hall];rfl,rfl⟩
end
end Go.Proofs.YtegpkpilfgohhaaGreat
namespace Go.Proofs.YtegpkpilfgohhaaGreat
open Go.RowKit
set_option maxRecDepth 20000
theorem q04 {a b A B:Int} (ha:-A≤a∧a≤A) (hb:-B≤b∧b≤B):-(A*B)≤a*b∧a*b≤A*B:=by
  have h0:0≤A:=by omega
  have h1:0≤B:=by omega
  have e1:=Int.mul_nonneg (show 0≤A-a by omega) (show 0≤B-b by omega)
  have e2:=Int.mul_nonneg (show 0≤A+a by omega) (show 0≤B+b by omega)
  have e3:=Int.mul_nonneg (show 0≤A-a by omega) (show 0≤B+b by omega)
  have e4:=Int.mul_nonneg (show 0≤A+a by omega) (show 0≤B-b by omega)
  simp only [Int.sub_mul,Int.add_mul,Int.mul_sub,Int.mul_add] at e1 e2 e3 e4
  omega
def nx (n i:Nat):Nat:=if i+1=n then 0 else i+1
theorem q8q {n i:Nat} (h:i<n):nx n i<n:=by unfold nx;split <;> omega
theorem x0k {n i:Nat} (h:i<n):Int.tmod ((i:Int)+1) (n:Int)=(nx n i:Nat):=by
  rw [Int.tmod_eq_emod_of_nonneg (by omega)]
  unfold nx
  split
  · rename_i e
    have:((i:Int)+1)=(n:Int):=by omega
    rw [this,Int.emod_self];rfl
  · rw [Int.emod_eq_of_lt (by omega) (by omega)];omega
def x95 (X Y:Nat→Int) (n i:Nat):Int:=X (nx n i)*Y i-X i*Y (nx n i)
def q5z (X Y:Nat→Int) (n:Nat) (s:Int):Nat→Int
  | 0=>s
  | i+1=>IntKind.i64.wrap (q5z X Y n s i+x95 X Y n i)
def q3z (L:Nat→LineD):Nat→Int
  | 0=>0
  | x+1=>q5z (L x).X (L x).Y (L x).n (q3z L x) (L x).n
section
variable {G:Mem} {A:Option Addr} {n c:Nat} {L:Nat→LineD}
theorem x23 {X Y:Nat→Int} {m i:Nat} (h:∀ j,j<m→okXY (X j) (Y j)=true) (hi:i<m) :
    (-1073676289≤X (nx m i)*Y i∧X (nx m i)*Y i≤1073676289)∧(-1073676289≤X i*Y (nx m i)∧X i*Y (nx m i)≤1073676289):=by
  obtain ⟨a1,a2⟩:=q2u (h i hi)
  obtain ⟨b1,b2⟩:=q2u (h _ (q8q hi))
  exact ⟨q04 (A:=32767) (B:=32767) b1 a2,q04 (A:=32767) (B:=32767) a1 b2⟩
set_option maxHeartbeats 8000000 in
theorem x3z (h:LinesM G A n L) (hn:n≤maxLen) (hb:q1n L n=true):Gives Tryz.prog 60 [.val (.slice A n c)] G (.tup [.val (.int .i64 (q3z L n)),.val (.int .i64 0)]):=by
  have hc:=q4m (c:=c) h hn
  unfold q16 at hc
  rw [hb,if_pos rfl] at hc
  have hok:=q2v hb
  have hn':n≤9223372036854775807:=by unfold maxLen at hn;omega
  refine q06 tab_ok Tryz.func60 ?_
  (repeat ((try (conv=>whnf));(first |(refine stQ ?_) |(with_reducible first |refine q0b (fun vs w=>by kernel_rfl) (by kernel_rfl) (hc) ?_ |refine q0a (fun vs w=>by kernel_rfl) (by kernel_rfl) (hc) ?_))))
  conv=>whnf
  refine q07 tab_ok (fun x=>x≤n) (fun (x:Nat)=>[(18,.val (.int .i64 x)),(5,.val (.int .i64 (q3z L x)))]) (fun x=>[]) (fun x=>n-x) 0 (Nat.zero_le _) ?_ ?_
  · ((refine q0g ?_);(conv=>whnf);(refine q0h (by rfl) (by rfl) flQ ?_))
    exact q0e
  · rintro x hx
    rcases Nat.lt_or_ge x n with h1 |h1
    · obtain ⟨p,rfl,ca⟩:=h.rows.cells h1
      have hp:=h.pts x h1
      have hcap:=h.cap x h1
      unfold maxLen at hcap
      (repeat ((try (conv=>whnf));(first |(refine ca _ ?_) |(refine stQ ?_))))
      conv=>whnf
      refine q07 tab_ok (fun i=>i≤(L x).n) (fun (i:Nat)=>[(25,.val (.int .i64 i)),(5,.val (.int .i64 (q5z (L x).X (L x).Y (L x).n (q3z L x) i)))]) (fun i=>[.cells 37 [.val (.slice (L x).A (L x).n (L x).q),.val (.bool (L x).cl)]]) (fun i=>(L x).n-i) 0 (Nat.zero_le _) ?_ ?_
      · ((refine q0g ?_);(conv=>whnf);(refine q0h (by rfl) (by rfl) flQ ?_))
        exact q0c (by exact flQ) q0e
      · rintro i hi
        rcases Nat.lt_or_ge i (L x).n with h2 |h2
        · obtain ⟨p2,hp2,cb⟩:=hp.cells h2
          obtain ⟨p3,hp3,cc⟩:=hp.cells (q8q h2)
          rw [hp2] at hp3;cases hp3
          have hm:=x0k h2
          have hm':(Int.tmod ((i:Int)+1) ((L x).n:Int)).toNat=nx (L x).n i:=by rw [hm];omega
          have hlt:=q8q h2
          rw [← hm'] at cc
          have hacc:IntKind.i64.wrap (q5z (L x).X (L x).Y (L x).n (q3z L x) i+((L x).X (Int.tmod ((i:Int)+1) ((L x).n:Int)).toNat * (L x).Y i-(L x).X i*(L x).Y (Int.tmod ((i:Int)+1) ((L x).n:Int)).toNat))=q5z (L x).X (L x).Y (L x).n (q3z L x) (i+1):=by rw [hm'];rfl
          have hbd:=x23 (hok x h1) h2
          rw [← hm'] at hbd
          obtain ⟨b1,b2⟩:=hbd
          rw [hp2]
          generalize hs':q5z (L x).X (L x).Y (L x).n (q3z L x) (i+1)=s' at *
          generalize q5z (L x).X (L x).Y (L x).n (q3z L x) i=s at *
          clear hok hc hp ca h
          (repeat ((try (conv=>whnf));(first |(refine cb _ ?_) |(refine cc _ ?_) |((with_reducible refine mustP.mk ?_ ?_);(· rw [hm];omega)) |(with_reducible refine z9q _ hacc ?_) |(refine stQ ?_))))
          refine ⟨i+1,by omega,by omega,?_⟩
          rw [hs']
          ((refine q0g ?_);(conv=>whnf);(refine q0h (by rfl) (by rfl) flQ ?_))
          exact q0c (by exact flQ) q0e
        · obtain rfl:i=(L x).n:=by omega
          (repeat ((try (conv=>whnf));(refine stQ ?_)))
          refine ⟨x+1,by omega,by omega,?_⟩
          ((refine q0g ?_);(conv=>whnf);(refine q0h (by rfl) (by rfl) flQ ?_))
          exact q0e
    · obtain rfl:x=n:=by omega
      (repeat ((try (conv=>whnf));(refine stQ ?_)))
      exact ⟨rfl,rfl⟩
set_option maxHeartbeats 8000000 in
theorem x12 (h:LinesM G A n L) (hn:n≤maxLen) (hb:q1n L n=true):Gives Tryz.prog 32 [.val (.slice A n c)] G (.val (.int .i64 (q3z L n))):=by
  have hok:=q2v hb
  have hn':n≤9223372036854775807:=by unfold maxLen at hn;omega
  refine q06 tab_ok Tryz.func32 ?_
  (repeat ((try (conv=>whnf));(refine stQ ?_)))
  conv=>whnf
  refine q07 tab_ok (fun x=>x≤n) (fun (x:Nat)=>[(11,.val (.int .i64 x)),(3,.val (.int .i64 (q3z L x)))]) (fun x=>[]) (fun x=>n-x) 0 (Nat.zero_le _) ?_ ?_
  · ((refine q0g ?_);(conv=>whnf);(refine q0h (by rfl) (by rfl) flQ ?_))
    exact q0e
  · rintro x hx
    rcases Nat.lt_or_ge x n with h1 |h1
    · obtain ⟨p,rfl,c0⟩:=h.rows.cell (x:=x) (j:=0) h1 rfl
      have hp:=h.pts x h1
      have hcap:=h.cap x h1
      unfold maxLen at hcap
      (repeat ((try (conv=>whnf));(first |(refine q0q _ c0 ?_) |(refine stQ ?_))))
      conv=>whnf
      refine q07 tab_ok (fun i=>i≤(L x).n) (fun (i:Nat)=>[(6,.val (.int .i64 i)),(3,.val (.int .i64 (q5z (L x).X (L x).Y (L x).n (q3z L x) i)))]) (fun i=>[]) (fun i=>(L x).n-i) 0 (Nat.zero_le _) ?_ ?_
      · ((refine q0g ?_);(conv=>whnf);(refine q0h (by rfl) (by rfl) flQ ?_))
        exact q0e
      · rintro i hi
        rcases Nat.lt_or_ge i (L x).n with h2 |h2
        · obtain ⟨p2,hp2,cb⟩:=hp.cells h2
          obtain ⟨p3,hp3,cc⟩:=hp.cells (show 0<(L x).n by omega)
          rw [hp2] at hp3;cases hp3
          obtain ⟨b1,b2⟩:=x23 (hok x h1) h2
          have hacc:IntKind.i64.wrap (q5z (L x).X (L x).Y (L x).n (q3z L x) i+((L x).X (nx (L x).n i)*(L x).Y i-(L x).X i*(L x).Y (nx (L x).n i)))=q5z (L x).X (L x).Y (L x).n (q3z L x) (i+1):=rfl
          rw [hp2]
          generalize hs':q5z (L x).X (L x).Y (L x).n (q3z L x) (i+1)=s' at *
          generalize q5z (L x).X (L x).Y (L x).n (q3z L x) i=s at *
          rcases Nat.lt_or_ge (i+1) (L x).n with h3 |h3
          · rw [show nx (L x).n i=i+1 by unfold nx;rw [if_neg (by omega)]] at hacc b1 b2
            obtain ⟨p4,hp4,cd⟩:=hp.cells h3
            rw [hp2] at hp4;cases hp4
            have hix:((i:Int)+1).toNat=i+1:=by omega
            rw [← hix] at cd hacc b1 b2
            clear hok hp h
            (repeat ((try (conv=>whnf));(first |(refine cb _ ?_) |(refine cc _ ?_) |(refine cd _ ?_) |(with_reducible refine z9q _ hacc ?_) |(refine s3Q ?_))))
            refine ⟨i+1,by omega,by omega,?_⟩
            rw [hs']
            ((refine q0g ?_);(conv=>whnf);(refine q0h (by rfl) (by rfl) flQ ?_))
            exact q0e
          · rw [show nx (L x).n i=0 by unfold nx;rw [if_pos (by omega)]] at hacc b1 b2
            clear hok hp h
            (repeat ((try (conv=>whnf));(first |(refine cb _ ?_) |(refine cc _ ?_) |(with_reducible refine z9q _ hacc ?_) |(refine s3Q ?_))))
            refine ⟨i+1,by omega,by omega,?_⟩
            rw [hs']
            ((refine q0g ?_);(conv=>whnf);(refine q0h (by rfl) (by rfl) flQ ?_))
            exact q0e
        · obtain rfl:i=(L x).n:=by omega
          (repeat ((try (conv=>whnf));(refine stQ ?_)))
          refine ⟨x+1,by omega,by omega,?_⟩
          ((refine q0g ?_);(conv=>whnf);(refine q0h (by rfl) (by rfl) flQ ?_))
          exact q0e
    · obtain rfl:x=n:=by omega
      (repeat ((try (conv=>whnf));(refine stQ ?_)))
      exact ⟨rfl,rfl⟩
end
end Go.Proofs.YtegpkpilfgohhaaGreat
