/-
  Lines in memory; fill.Check and the reference's LinesCheck.
-/
import Derived.Test.YtegpkpilfgohhaaFreeze
import Derived.Test.YtegpkpilfgohhaaMrg7
set_option linter.unusedVariables false
set_option linter.unusedSimpArgs false
set_option linter.unnecessarySimpa false
namespace Go.Proofs.Ytegpkpilfgohhaa
open Go.RowKit
set_option maxRecDepth 20000
abbrev ptC (X Y:Nat→Int) (i:Nat):List Value:=[.int .i64 (X i),.int .i64 (Y i)]
structure LineD where
  A:Option Addr
  n:Nat
  q:Nat
  X:Nat→Int
  Y:Nat→Int
  cl:Bool
abbrev LineD.cells (l:LineD):List Value:=[.slice l.A l.n l.q,.bool l.cl]
structure LinesM (G:Mem) (A:Option Addr) (n:Nat) (L:Nat→LineD):Prop where
  rows:ElsM G A 2 n fun x=>(L x).cells
  pts:∀ x,x<n→ElsM G (L x).A 2 (L x).n (ptC (L x).X (L x).Y)
  cap:∀ x,x<n→(L x).n≤(L x).q∧(L x).q≤maxLen
theorem LinesM.mono {G G':Mem} {A:Option Addr} {n:Nat} {L:Nat→LineD} (h:LinesM G A n L) (hle:G.le G'):LinesM G' A n L:=⟨h.rows.mono hle,fun x hx=>(h.pts x hx).mono hle,h.cap⟩
def okXY (x y:Int):Bool:=decide ((-32767≤x∧x≤32767)∧(-32767≤y∧y≤32767))
theorem z4q {x y:Int} (h:(-32767≤x∧x≤32767)∧(-32767≤y∧y≤32767)):okXY x y=true:=decide_eq_true h
theorem z6a {x y:Int} (h:¬ ((-32767≤x∧x≤32767)∧(-32767≤y∧y≤32767))):okXY x y=false:=decide_eq_false h
theorem q16 {x y:Int} (h:okXY x y=true):(-32767≤x∧x≤32767)∧(-32767≤y∧y≤32767):=of_decide_eq_true h
def z61 (l:LineD):Bool:=(List.range l.n).all fun i=>okXY (l.X i) (l.Y i)
def q1v (L:Nat→LineD) (n:Nat):Bool:=(List.range n).all fun x=>z61 (L x)
def q20 (L:Nat→LineD) (n:Nat):Int:=if q1v L n=true then 0 else 3
theorem z06 {L:Nat→LineD} {n:Nat} (h:∀ x,x<n→∀ i,i<(L x).n→okXY ((L x).X i) ((L x).Y i)=true):q1v L n=true:=by
  unfold q1v
  rw [List.all_eq_true]
  intro x hx
  unfold z61
  rw [List.all_eq_true]
  exact fun i hi=>h x (List.mem_range.1 hx) i (List.mem_range.1 hi)
theorem q8v {L:Nat→LineD} {n x i:Nat} (hx:x<n) (hi:i<(L x).n) (h:okXY ((L x).X i) ((L x).Y i)=false):q1v L n=false:=by
  unfold q1v
  rw [List.all_eq_false]
  refine ⟨x,List.mem_range.2 hx,?_⟩
  unfold z61
  rw [Bool.not_eq_true,List.all_eq_false]
  exact ⟨i,List.mem_range.2 hi,by rw [h];simp⟩
theorem q23 {L:Nat→LineD} {n:Nat} (h:q1v L n=true):∀ x,x<n→∀ i,i<(L x).n→okXY ((L x).X i) ((L x).Y i)=true:=by
  intro x hx i hi
  cases hk:okXY ((L x).X i) ((L x).Y i) with
  | true=>rfl
  | false=>rw [q8v hx hi hk] at h;cases h
section
variable {G:Mem} {A:Option Addr} {n c:Nat} {L:Nat→LineD}
set_option maxHeartbeats 4000000 in
theorem q4k (h:LinesM G A n L) (hn:n≤maxLen):Gives Try.prog 21 [.val (.slice A n c)] G (.val (.int .i64 (q20 L n))):=by
  have hn':n≤9223372036854775807:=by unfold maxLen at hn;omega
  refine q1n tab_ok Try.func21 ?_
  (repeat ((try (conv=>whnf));(refine stQ ?_)))
  conv=>whnf
  refine q00 tab_ok (fun x=>x≤n∧∀ y,y<x→∀ i,i<(L y).n→okXY ((L y).X i) ((L y).Y i)=true) (fun (x:Nat)=>[(9,.val (.int .i64 x))]) (fun x=>[]) (fun x=>n-x) 0 ⟨Nat.zero_le _,fun y hy=>by omega⟩ ?_ ?_
  · ((refine q0d ?_);(conv=>whnf);(refine q0e (by rfl) (by rfl) flQ ?_))
    exact q0b
  · rintro x ⟨hx,hall⟩
    rcases Nat.lt_or_ge x n with h1 |h1
    · obtain ⟨p,rfl,ca⟩:=h.rows.cells h1
      have hp:=h.pts x h1
      have hcap:=h.cap x h1
      unfold maxLen at hcap
      (repeat ((try (conv=>whnf));(first |(refine ca _ ?_) |(refine stQ ?_))))
      conv=>whnf
      refine q00 tab_ok (fun i=>i≤(L x).n∧∀ j,j<i→okXY ((L x).X j) ((L x).Y j)=true) (fun (i:Nat)=>[(16,.val (.int .i64 i))]) (fun i=>[.cells 35 [.val (.slice (L x).A (L x).n (L x).q),.val (.bool (L x).cl)]]) (fun i=>(L x).n-i) 0 ⟨Nat.zero_le _,fun j hj=>by omega⟩ ?_ ?_
      · ((refine q0d ?_);(conv=>whnf);(refine q0e (by rfl) (by rfl) flQ ?_))
        exact q0i (by exact flQ) q0b
      · rintro i ⟨hi,hall2⟩
        rcases Nat.lt_or_ge i (L x).n with h2 |h2
        · obtain ⟨p2,hp2,cb⟩:=hp.cells h2
          have no:=fun h=>q8v (L:=L) h1 h2 (z6a h)
          have yes:((-32767≤(L x).X i∧(L x).X i≤32767)∧(-32767≤(L x).Y i∧(L x).Y i≤32767))→∀ j,j<i+1→okXY ((L x).X j) ((L x).Y j)=true:=fun h j hj=>by
            rcases Nat.lt_or_ge j i with h3 |h3
            · exact hall2 j h3
            · obtain rfl:j=i:=by omega
              exact z4q h
          rw [hp2]
          clear hall hall2 hp ca h
          unfold q20
          (repeat' ((try (conv=>whnf));(first |(refine cb _ ?_) |(refine stQ ?_) |(with_reducible first |refine q0s tab_ok Try.func40 (fun vs w=>by kernel_rfl) (by rfl) ?_ |refine q3f (fun h0=>?_) (fun h0=>?_)))))
          all_goals first
            | (refine ⟨i+1,⟨by omega,yes (by omega)⟩,by omega,?_⟩
               ((refine q0d ?_);(conv=>whnf);(refine q0e (by rfl) (by rfl) flQ ?_))
               exact q0i (by exact flQ) q0b)
            | exact ⟨by rw [no (by omega)];rfl,rfl⟩
        · obtain rfl:i=(L x).n:=by omega
          (repeat ((try (conv=>whnf));(refine stQ ?_)))
          refine ⟨x+1,⟨by omega,fun y hy=>?_⟩,by omega,?_⟩
          · rcases Nat.lt_or_ge y x with h3 |h3
            · exact hall y h3
            · obtain rfl:y=x:=by omega
              exact hall2
          · ((refine q0d ?_);(conv=>whnf);(refine q0e (by rfl) (by rfl) flQ ?_))
            exact q0b
    · obtain rfl:x=n:=by omega
      (repeat ((try (conv=>whnf));(refine stQ ?_)))
      exact ⟨by unfold q20;rw [z06 hall];rfl,rfl⟩
theorem z4r {x y:Int}:Gives Try.prog 26 [.agg [.val (.int .i64 x),.val (.int .i64 y)]] G (.val (.bool (okXY x y))):=by
  refine q1n tab_ok Try.func26 ?_
  (repeat' ((try (conv=>whnf));(first |(refine stQ ?_) |(with_reducible first |refine q0s tab_ok Try.func31 (fun vs w=>by kernel_rfl) (by rfl) ?_ |refine q3f (fun h0=>?_) (fun h0=>?_)))))
  all_goals ((conv=>whnf);first |exact ⟨by rw [z6a (by omega)],rfl⟩ |exact ⟨by rw [z4q (by omega)],rfl⟩ |exact ⟨by unfold okXY;rw [AV.val.injEq,Value.bool.injEq];apply decide_eq_decide.2;omega,rfl⟩)
set_option maxHeartbeats 4000000 in
theorem q30 (h:LinesM G A n L) (hn:n≤maxLen):Gives Try.prog 8 [.val (.slice A n c)] G (.val (.int .i64 (q20 L n))):=by
  have hn':n≤9223372036854775807:=by unfold maxLen at hn;omega
  refine q1n tab_ok Try.func8 ?_
  (repeat ((try (conv=>whnf));(refine stQ ?_)))
  conv=>whnf
  refine q00 tab_ok (fun x=>x≤n∧∀ y,y<x→∀ i,i<(L y).n→okXY ((L y).X i) ((L y).Y i)=true) (fun (x:Nat)=>[(7,.val (.int .i64 x))]) (fun x=>[]) (fun x=>n-x) 0 ⟨Nat.zero_le _,fun y hy=>by omega⟩ ?_ ?_
  · ((refine q0d ?_);(conv=>whnf);(refine q0e (by rfl) (by rfl) flQ ?_))
    exact q0b
  · rintro x ⟨hx,hall⟩
    rcases Nat.lt_or_ge x n with h1 |h1
    · obtain ⟨p,rfl,ca⟩:=h.rows.cells h1
      obtain ⟨p0,hp0,c0⟩:=h.rows.cell (x:=x) (j:=0) h1 rfl
      cases hp0
      have hp:=h.pts x h1
      have hcap:=h.cap x h1
      unfold maxLen at hcap
      (repeat ((try (conv=>whnf));(first |(refine q07 _ c0 ?_) |(refine stQ ?_))))
      conv=>whnf
      refine q00 tab_ok (fun i=>i≤(L x).n∧∀ j,j<i→okXY ((L x).X j) ((L x).Y j)=true) (fun (i:Nat)=>[(16,.val (.int .i64 i))]) (fun i=>[]) (fun i=>(L x).n-i) 0 ⟨Nat.zero_le _,fun j hj=>by omega⟩ ?_ ?_
      · ((refine q0d ?_);(conv=>whnf);(refine q0e (by rfl) (by rfl) flQ ?_))
        exact q0b
      · rintro i ⟨hi,hall2⟩
        rcases Nat.lt_or_ge i (L x).n with h2 |h2
        · obtain ⟨p2,hp2,cb⟩:=hp.cells h2
          have hcd:=z4r (G:=G) (x:=(L x).X i) (y:=(L x).Y i)
          rw [hp2] at c0
          rw [hp2]
          unfold q20
          cases hk:okXY ((L x).X i) ((L x).Y i)
          · rw [hk] at hcd
            rw [q8v h1 h2 hk]
            (repeat ((try (conv=>whnf));(first |(refine q07 _ c0 ?_) |(refine cb _ ?_) |(refine stQ ?_) |(with_reducible first |refine q0f (fun vs w=>by kernel_rfl) (by kernel_rfl) (hcd) ?_ |refine q0h (fun vs w=>by kernel_rfl) (by kernel_rfl) (hcd) ?_))))
            exact ⟨rfl,rfl⟩
          · rw [hk] at hcd
            (repeat ((try (conv=>whnf));(first |(refine q07 _ c0 ?_) |(refine cb _ ?_) |(refine stQ ?_) |(with_reducible first |refine q0f (fun vs w=>by kernel_rfl) (by kernel_rfl) (hcd) ?_ |refine q0h (fun vs w=>by kernel_rfl) (by kernel_rfl) (hcd) ?_))))
            refine ⟨i+1,⟨by omega,fun j hj=>?_⟩,by omega,?_⟩
            · rcases Nat.lt_or_ge j i with h3 |h3
              · exact hall2 j h3
              · obtain rfl:j=i:=by omega
                exact hk
            · ((refine q0d ?_);(conv=>whnf);(refine q0e (by rfl) (by rfl) flQ ?_))
              exact q0b
        · obtain rfl:i=(L x).n:=by omega
          (repeat ((try (conv=>whnf));(refine stQ ?_)))
          refine ⟨x+1,⟨by omega,fun y hy=>?_⟩,by omega,?_⟩
          · rcases Nat.lt_or_ge y x with h3 |h3
            · exact hall y h3
            · obtain rfl:y=x:=by omega
              exact hall2
          · ((refine q0d ?_);(conv=>whnf);(refine q0e (by rfl) (by rfl) flQ ?_))
            exact q0b
    · obtain rfl:x=n:=by omega
      (repeat ((try (conv=>whnf));(refine stQ ?_)))
      exact ⟨by unfold q20;rw [z06 hall];rfl,rfl⟩
end
end Go.Proofs.Ytegpkpilfgohhaa
