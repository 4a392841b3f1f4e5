/-
  stroke.cleaned and the reference's Sides: points without repetitions.
-/
import Derived.Test.YtegpkpilfgohhaaVecE
import Derived.Test.YtegpkpilfgohhaaMrg13
import Derived.Test.YtegpkpilfgohhaaMrg14
set_option linter.unusedVariables false
set_option linter.unusedSimpArgs false
set_option linter.unnecessarySimpa false
namespace Go.Proofs.Ytegpkpilfgohhaa
open Go.RowKit
set_option maxRecDepth 20000
theorem q17 (l:List (Int × Int)):q0r l=l.flatMap fun p=>[.int .i64 p.1,.int .i64 p.2]:=rfl
theorem q2h (p:Int × Int):(([.int .i64 p.1,.int .i64 p.2]:List Value)).length=2:=rfl
theorem z87 {l:List (Int × Int)} {z:Int} {i:Nat} (hz:z.toNat=i) (h:i<l.length) {K:List Value→Prop} (k:K [.int .i64 (nthP l i).1,.int .i64 (nthP l i).2]):OwnCells (q0r l) (z.toNat * 2) 2 K:=by
  rw [hz];exact z1z q2h (q10 h) K k
theorem z7v {l:List (Int × Int)} {z:Int} {i:Nat} {p:Int × Int} (hz:z.toNat=i) (h:l[i]? = some p) {K:List Value→Prop} (k:K [.int .i64 p.1,.int .i64 p.2]):OwnCells (q0r l) (z.toNat * 2) 2 K:=by
  rw [hz];exact z1z q2h h K k
theorem q4g {l:List (Int × Int)} {z:Int} {i:Nat} (hz:z.toNat=i) (h:i<l.length) {K:List Value→Prop} (k:K [.int .i64 (nthP l i).1,.int .i64 (nthP l i).2]):OwnCells (q0r l) (0+z.toNat * 2) 2 K:=by
  rw [hz,Nat.zero_add];exact z1z q2h (q10 h) K k
section
variable {G:Mem} {A:Option Addr} {n q:Nat} {cl:Bool} {P:Nat→Int × Int}
abbrev q5m (A:Option Addr) (n q:Nat) (cl:Bool):AV:=.agg [.val (.slice A n q),.val (.bool cl)]
set_option maxHeartbeats 16000000 in
theorem z32 (h:ElsM G A 2 n fun i=>[.int .i64 (P i).1,.int .i64 (P i).2]) (hn:n≤2000000) :
    z4b Try.prog 62 [q5m A n q cl] G id 111 2 (q0s P n cl).length (q0r (q0s P n cl)):=by
  refine z10 tab_ok Try.func62 (by kernel_rfl) ?_
  (repeat ((try (conv=>whnf));(refine stQ ?_)))
  conv=>whnf
  refine q1z tab_ok (fun i=>i≤n) (fun (i:Nat)=>[(10,.val (.int .i64 i)),(3,.own 1)]) (fun i=>[.cells 35 [.val (.slice A n q),.val (.bool cl)],.own 111 2 (dedK P i).length (q0r (dedK P i))]) (fun i=>n-i) 0 (Nat.zero_le _) ?_ ?_
  · refine q2o 111 2 ?_
    conv=>whnf
    ((refine q0i ?_);(conv=>whnf);(refine q0m (by rfl) (by rfl) flQ ?_))
    exact q0c (by exact flQ) (q0d rfl rfl q0g)
  · rintro i hi
    rcases Nat.lt_or_ge i n with h1 |h1
    · obtain ⟨p,rfl,ca⟩:=h.cells h1
      have hdl:=q3v P i
      have hstep:dedK P (i+1)=if i=0∨¬ P i=P (i-1) then dedK P i++[P i] else dedK P i:=rfl
      rcases Nat.eq_zero_or_pos i with e |e
      · subst e
        rw [if_pos (.inl rfl)] at hstep
        (repeat ((try (conv=>whnf));(first |(refine ca _ ?_) |(refine stQ ?_))))
        conv=>whnf
        refine ⟨1,by omega,by omega,?_⟩
        rw [hstep]
        refine q0p 5 1 rfl rfl rfl rfl ?_
        conv=>whnf
        ((refine q0i ?_);(conv=>whnf);(refine q0m (by rfl) (by rfl) flQ ?_))
        exact q0c (by exact flQ) (q0d (by simp [dedK]) (by rw [q05];rfl) q0g)
      · obtain ⟨j,rfl⟩:∃ j,i=j+1:=⟨i-1,by omega⟩
        obtain ⟨hl1,hl2⟩:=q9h P j
        have hlast:=q7w hl1
        by_cases hx:P (j+1)=P j
        · rw [if_neg (by simp [hx])] at hstep
          have hx1:(P (j+1)).1=(P j).1:=by rw [hx]
          have hx2:(P (j+1)).2=(P j).2:=by rw [hx]
          (repeat ((try (conv=>whnf));(first |(refine ca _ ?_) |(refine z7v (i:=(dedK P (j+1)).length-1) (by omega) hl1 ?_) |(refine stQ ?_))))
          conv=>whnf
          refine ⟨j+1+1,by omega,by omega,?_⟩
          rw [hstep]
          ((refine q0i ?_);(conv=>whnf);(refine q0m (by rfl) (by rfl) flQ ?_))
          exact q0c (by exact flQ) (q0d rfl rfl q0g)
        · rw [if_pos (.inr (by simpa using hx))] at hstep
          by_cases hx1:(P (j+1)).1=(P j).1
          · have hx2:¬ (P (j+1)).2=(P j).2:=fun e=>hx (Prod.ext hx1 e)
            (repeat ((try (conv=>whnf));(first |(refine ca _ ?_) |(refine z7v (i:=(dedK P (j+1)).length-1) (by omega) hl1 ?_) |(refine stQ ?_))))
            conv=>whnf
            refine ⟨j+1+1,by omega,by omega,?_⟩
            rw [hstep]
            refine q0p 5 1 rfl rfl rfl rfl ?_
            conv=>whnf
            ((refine q0i ?_);(conv=>whnf);(refine q0m (by rfl) (by rfl) flQ ?_))
            exact q0c (by exact flQ) (q0d (by simp) (by rw [q05];rfl) q0g)
          · (repeat ((try (conv=>whnf));(first |(refine ca _ ?_) |(refine z7v (i:=(dedK P (j+1)).length-1) (by omega) hl1 ?_) |(refine stQ ?_))))
            conv=>whnf
            refine ⟨j+1+1,by omega,by omega,?_⟩
            rw [hstep]
            refine q0p 5 1 rfl rfl rfl rfl ?_
            conv=>whnf
            ((refine q0i ?_);(conv=>whnf);(refine q0m (by rfl) (by rfl) flQ ?_))
            exact q0c (by exact flQ) (q0d (by simp) (by rw [q05];rfl) q0g)
    · obtain rfl:i=n:=by omega
      (repeat ((try (conv=>whnf));(refine stQ ?_)))
      conv=>whnf
      have hdl:=q3v P i
      unfold q0s
      generalize hD:dedK P i=D at *
      refine q1z tab_ok (fun m=>m≤D.length∧(cl=true→tlN D m=tlN D D.length)∧(cl=false→m=D.length)) (fun (m:Nat)=>[(3,.vw 1 0 m)]) (fun m=>[.cells 35 [.val (.slice A i q),.val (.bool cl)],.own 111 2 D.length (q0r D)]) (fun m=>m) D.length ⟨Nat.le_refl _,fun _=>rfl,fun _=>rfl⟩ ?_ ?_
      · refine z3r 3 rfl rfl ?_
        conv=>whnf
        ((refine q0i ?_);(conv=>whnf);(refine q0m (by rfl) (by rfl) flQ ?_))
        exact q0c (by exact flQ) (q0d rfl rfl q0g)
      · rintro m ⟨hm1,hm2,hm3⟩
        cases cl
        · obtain rfl:=hm3 rfl
          (repeat ((try (conv=>whnf));(refine stQ ?_)))
          conv=>whnf
          refine ⟨1,D.length,q0r D,rfl,rfl,Nat.le_refl _,?_⟩
          rw [if_neg (by simp),← q33,List.take_length]
        · have ht:=hm2 rfl
          have hfin:tlN D m=m→(if true=true then D.take (tlN D D.length) else D)=D.take m:=fun e=>by rw [if_pos rfl,← ht,e]
          rcases Nat.lt_or_ge 1 m with h2 |h2
          · by_cases hx:nthP D 0=nthP D (m-1)
            · have hx1:(nthP D 0).1=(nthP D (m-1)).1:=by rw [hx]
              have hx2:(nthP D 0).2=(nthP D (m-1)).2:=by rw [hx]
              have hgo:=z8x h2 hx
              (repeat ((try (conv=>whnf));(first |(refine q4g (i:=0) rfl (by omega) ?_) |(refine q4g (i:=m-1) (by omega) (by omega) ?_) |(refine stQ ?_))))
              conv=>whnf
              refine ⟨m-1,⟨by omega,fun _=>hgo ▸ ht,fun e=>by cases e⟩,by omega,?_⟩
              refine z5l 3 (.vw 1 0 (m-1)) rfl (by show AV.vw 1 (0+0) (((m:Int)-1).toNat-0)=_;congr 1;omega) ?_
              conv=>whnf
              ((refine q0i ?_);(conv=>whnf);(refine q0m (by rfl) (by rfl) flQ ?_))
              exact q0c (by exact flQ) (q0d rfl rfl q0g)
            · have hst:=hfin (q8m (.inr hx))
              by_cases hx1:(nthP D 0).1=(nthP D (m-1)).1
              · have hx2:¬ (nthP D 0).2=(nthP D (m-1)).2:=fun e=>hx (Prod.ext hx1 e)
                (repeat ((try (conv=>whnf));(first |(refine q4g (i:=0) rfl (by omega) ?_) |(refine q4g (i:=m-1) (by omega) (by omega) ?_) |(refine stQ ?_))))
                conv=>whnf
                rw [hst]
                have hlm:(D.take m).length=m:=by rw [List.length_take];omega
                refine ⟨1,D.length,q0r D,by rw [hlm],rfl,by omega,?_⟩
                rw [hlm,q17,q17,q5g q2h]
              · (repeat ((try (conv=>whnf));(first |(refine q4g (i:=0) rfl (by omega) ?_) |(refine q4g (i:=m-1) (by omega) (by omega) ?_) |(refine stQ ?_))))
                conv=>whnf
                rw [hst]
                have hlm:(D.take m).length=m:=by rw [List.length_take];omega
                refine ⟨1,D.length,q0r D,by rw [hlm],rfl,by omega,?_⟩
                rw [hlm,q17,q17,q5g q2h]
          · have hst:=hfin (q8m (.inl h2))
            (repeat ((try (conv=>whnf));(refine stQ ?_)))
            conv=>whnf
            rw [hst]
            have hlm:(D.take m).length=m:=by rw [List.length_take];omega
            refine ⟨1,D.length,q0r D,by rw [hlm],rfl,by omega,?_⟩
            rw [hlm,q17,q17,q5g q2h]
set_option maxHeartbeats 16000000 in
theorem z58 (h:ElsM G A 2 n fun i=>[.int .i64 (P i).1,.int .i64 (P i).2]) (hn:n≤2000000) :
    z4b Try.prog 32 [q5m A n q cl] G id 58 2 (q0s P n cl).length (q0r (q0s P n cl)):=by
  refine z10 tab_ok Try.func32 (by kernel_rfl) ?_
  (repeat ((try (conv=>whnf));(refine stQ ?_)))
  conv=>whnf
  refine q1z tab_ok (fun i=>i≤n) (fun (i:Nat)=>[(8,.val (.int .i64 i)),(3,.own 1)]) (fun i=>[.cells 35 [.val (.slice A n q),.val (.bool cl)],.own 58 2 (dedK P i).length (q0r (dedK P i))]) (fun i=>n-i) 0 (Nat.zero_le _) ?_ ?_
  · refine q2o 58 2 ?_
    conv=>whnf
    ((refine q0i ?_);(conv=>whnf);(refine q0m (by rfl) (by rfl) flQ ?_))
    exact q0c (by exact flQ) (q0d rfl rfl q0g)
  · rintro i hi
    rcases Nat.lt_or_ge i n with h1 |h1
    · obtain ⟨p,rfl,ca⟩:=h.cells h1
      have hdl:=q3v P i
      have hstep:dedK P (i+1)=if i=0∨¬ P i=P (i-1) then dedK P i++[P i] else dedK P i:=rfl
      rcases Nat.eq_zero_or_pos i with e |e
      · subst e
        rw [if_pos (.inl rfl)] at hstep
        (repeat ((try (conv=>whnf));(first |(refine ca _ ?_) |(refine stQ ?_))))
        conv=>whnf
        refine ⟨1,by omega,by omega,?_⟩
        rw [hstep]
        refine q0p 3 1 rfl rfl rfl rfl ?_
        conv=>whnf
        ((refine q0i ?_);(conv=>whnf);(refine q0m (by rfl) (by rfl) flQ ?_))
        exact q0c (by exact flQ) (q0d (by simp [dedK]) (by rw [q05];rfl) q0g)
      · obtain ⟨j,rfl⟩:∃ j,i=j+1:=⟨i-1,by omega⟩
        obtain ⟨p',hp',cb'⟩:=h.cells (show j<n by omega)
        cases hp'
        have cb:∀ K:List Value→Prop,K [.int .i64 (P j).1,.int .i64 (P j).2]→OldCells G (p.add ((((j+1:Nat):Int)-1).toNat * 2)) 2 K:=fun K k=>by rw [show (((j+1:Nat):Int)-1).toNat=j by omega];exact cb' K k
        by_cases hx:P (j+1)=P j
        · rw [if_neg (by simp [hx])] at hstep
          have hx1:(P (j+1)).1=(P j).1:=by rw [hx]
          have hx2:(P (j+1)).2=(P j).2:=by rw [hx]
          (repeat ((try (conv=>whnf));(first |(refine ca _ ?_) |(refine cb _ ?_) |(refine stQ ?_))))
          conv=>whnf
          refine ⟨j+1+1,by omega,by omega,?_⟩
          rw [hstep]
          ((refine q0i ?_);(conv=>whnf);(refine q0m (by rfl) (by rfl) flQ ?_))
          exact q0c (by exact flQ) (q0d rfl rfl q0g)
        · rw [if_pos (.inr (by simpa using hx))] at hstep
          by_cases hx1:(P (j+1)).1=(P j).1
          · have hx2:¬ (P (j+1)).2=(P j).2:=fun e=>hx (Prod.ext hx1 e)
            (repeat ((try (conv=>whnf));(first |(refine ca _ ?_) |(refine cb _ ?_) |(refine stQ ?_))))
            conv=>whnf
            refine ⟨j+1+1,by omega,by omega,?_⟩
            rw [hstep]
            refine q0p 3 1 rfl rfl rfl rfl ?_
            conv=>whnf
            ((refine q0i ?_);(conv=>whnf);(refine q0m (by rfl) (by rfl) flQ ?_))
            exact q0c (by exact flQ) (q0d (by simp) (by rw [q05];rfl) q0g)
          · (repeat ((try (conv=>whnf));(first |(refine ca _ ?_) |(refine cb _ ?_) |(refine stQ ?_))))
            conv=>whnf
            refine ⟨j+1+1,by omega,by omega,?_⟩
            rw [hstep]
            refine q0p 3 1 rfl rfl rfl rfl ?_
            conv=>whnf
            ((refine q0i ?_);(conv=>whnf);(refine q0m (by rfl) (by rfl) flQ ?_))
            exact q0c (by exact flQ) (q0d (by simp) (by rw [q05];rfl) q0g)
    · obtain rfl:i=n:=by omega
      (repeat ((try (conv=>whnf));(refine stQ ?_)))
      conv=>whnf
      have hdl:=q3v P i
      unfold q0s
      generalize hD:dedK P i=D at *
      refine q1z tab_ok (fun m=>m≤D.length∧(cl=true→tlN D m=tlN D D.length)∧(cl=false→m=D.length)) (fun (m:Nat)=>[(3,.vw 1 0 m)]) (fun m=>[.cells 35 [.val (.slice A i q),.val (.bool cl)],.own 58 2 D.length (q0r D)]) (fun m=>m) D.length ⟨Nat.le_refl _,fun _=>rfl,fun _=>rfl⟩ ?_ ?_
      · refine z3r 3 rfl rfl ?_
        conv=>whnf
        ((refine q0i ?_);(conv=>whnf);(refine q0m (by rfl) (by rfl) flQ ?_))
        exact q0c (by exact flQ) (q0d rfl rfl q0g)
      · rintro m ⟨hm1,hm2,hm3⟩
        cases cl
        · obtain rfl:=hm3 rfl
          (repeat ((try (conv=>whnf));(refine stQ ?_)))
          conv=>whnf
          refine ⟨1,D.length,q0r D,rfl,rfl,Nat.le_refl _,?_⟩
          rw [if_neg (by simp),← q33,List.take_length]
        · have ht:=hm2 rfl
          have hfin:tlN D m=m→(if true=true then D.take (tlN D D.length) else D)=D.take m:=fun e=>by rw [if_pos rfl,← ht,e]
          rcases Nat.lt_or_ge 1 m with h2 |h2
          · by_cases hx:nthP D 0=nthP D (m-1)
            · have hx1:(nthP D (m-1)).1=(nthP D 0).1:=by rw [hx]
              have hx2:(nthP D (m-1)).2=(nthP D 0).2:=by rw [hx]
              have hgo:=z8x h2 hx
              (repeat ((try (conv=>whnf));(first |(refine q4g (i:=0) rfl (by omega) ?_) |(refine q4g (i:=m-1) (by omega) (by omega) ?_) |(refine stQ ?_))))
              conv=>whnf
              refine ⟨m-1,⟨by omega,fun _=>hgo ▸ ht,fun e=>by cases e⟩,by omega,?_⟩
              refine z5l 3 (.vw 1 0 (m-1)) rfl (by show AV.vw 1 (0+0) (((m:Int)-1).toNat-0)=_;congr 1;omega) ?_
              conv=>whnf
              ((refine q0i ?_);(conv=>whnf);(refine q0m (by rfl) (by rfl) flQ ?_))
              exact q0c (by exact flQ) (q0d rfl rfl q0g)
            · have hst:=hfin (q8m (.inr hx))
              by_cases hx1:(nthP D (m-1)).1=(nthP D 0).1
              · have hx2:¬ (nthP D (m-1)).2=(nthP D 0).2:=fun e=>hx (Prod.ext hx1.symm e.symm)
                (repeat ((try (conv=>whnf));(first |(refine q4g (i:=0) rfl (by omega) ?_) |(refine q4g (i:=m-1) (by omega) (by omega) ?_) |(refine stQ ?_))))
                conv=>whnf
                rw [hst]
                have hlm:(D.take m).length=m:=by rw [List.length_take];omega
                refine ⟨1,D.length,q0r D,by rw [hlm],rfl,by omega,?_⟩
                rw [hlm,q17,q17,q5g q2h]
              · (repeat ((try (conv=>whnf));(first |(refine q4g (i:=0) rfl (by omega) ?_) |(refine q4g (i:=m-1) (by omega) (by omega) ?_) |(refine stQ ?_))))
                conv=>whnf
                rw [hst]
                have hlm:(D.take m).length=m:=by rw [List.length_take];omega
                refine ⟨1,D.length,q0r D,by rw [hlm],rfl,by omega,?_⟩
                rw [hlm,q17,q17,q5g q2h]
          · have hst:=hfin (q8m (.inl h2))
            (repeat ((try (conv=>whnf));(refine stQ ?_)))
            conv=>whnf
            rw [hst]
            have hlm:(D.take m).length=m:=by rw [List.length_take];omega
            refine ⟨1,D.length,q0r D,by rw [hlm],rfl,by omega,?_⟩
            rw [hlm,q17,q17,q5g q2h]
end
end Go.Proofs.Ytegpkpilfgohhaa
