/-
  slices.symMergeCmpFunc over the edges of fill.
-/
import Derived.Test.YtegpkpilfgohhaaGreatMrg22
set_option linter.unusedVariables false
set_option linter.unusedSimpArgs false
set_option linter.unnecessarySimpa false
namespace Go.Proofs.YtegpkpilfgohhaaGreat
open Go.RowKit
set_option maxRecDepth 20000
theorem q4d {r:Int} {K:Int→Prop} (e:0≤r∧r≤18446744073709551615) (h:K r):ArP .u64 r K:=⟨r,by
  show r%18446744073709551616=r
  omega,h⟩
theorem q48 (i j:Nat):((i:Int)+(j:Int)).fdiv (2 ^ min (Int.toNat 1) IntKind.u64.bits)=(((i+j)/2:Nat):Int):=by
  show Int.fdiv _ 2=_
  rw [Int.fdiv_eq_ediv_of_nonneg _ (by omega)];omega
theorem x6c {α:Type} [Inhabited α] {l:List α} {a m b:Nat} (h1:a≤m) (h2:m≤b) (h:¬ (a<m∧m<b)) (t:Nat):gAt l t=rotF l a m b t:=by
  unfold rotF
  (repeat' split) <;> first |rfl |(exfalso;omega) |(congr 1;omega)
def x9v (l:List Edge) (a b:Nat) (xs:List Value):Prop:=∃ l',xs=l'.flatMap encE∧SameIn l l' a b∧srtK Edge.y l' a b
section
variable {G:Mem}
theorem z8u {l:List Edge} {n a m b:Nat} {za zm zb:Int} (hn:l.length=n) (ha:za=a) (hm:zm=m) (hb':zb=b) (ham:a<m) (hmb:m<b) (hb:b≤l.length) (hl:l.length≤4000000) :
    MendsR Tryz.prog 101 [.own 0,.val (.int .i64 za),.val (.int .i64 zm),.val (.int .i64 zb),q2o] G 108 6 n (l.flatMap encE) fun xs=>∃ l',xs=l'.flatMap encE∧l'.Perm l∧∀ t,gAt l' t=rotF l a m b t:=by
  subst hn;subst ha;subst hm;subst hb';exact x1d ham hmb hb hl
set_option maxHeartbeats 64000000 in
theorem q2y:∀ (N:Nat) {l:List Edge} {n a m b:Nat} {za zm zb:Int} {G:Mem},l.length=n→za=a→zm=m→zb=b→b-a≤N→a<m→m<b→b≤l.length→l.length≤4000000→srtK Edge.y l a m→srtK Edge.y l m b →
    MendsR Tryz.prog 94 [.own 0,.val (.int .i64 za),.val (.int .i64 zm),.val (.int .i64 zb),q2o] G 108 6 n (l.flatMap encE) (x9v l a b)
  | 0,l,n,a,m,b,_,_,_,_,_,_,_,_,hN,ham,hmb,hb,hl,hs1,hs2=>by omega
  | N+1,l,_,a,m,b,_,_,_,G,rfl,rfl,rfl,rfl,hN,ham,hmb,hb,hl,hs1,hs2=>by
    refine q77 tab_ok Tryz.func94 fun G' hG=>?_
    by_cases hone:m=a+1
    · subst hone
      obtain ⟨s,g1,g2,g3,g4⟩:=z6e (fun c=>(gAt l c).y<(gAt l a).y) (a+1) (b-(a+1)) fun c c' f1 f2 f3 hq=>by
        have:=hs2 c c' f1 f2 (by omega);omega
      (repeat ((try (conv=>whnf));(refine stQ ?_)))
      conv=>whnf
      refine q2k tab_ok (fun (i j:Nat)=>a+1≤i∧i≤s∧s≤j∧j≤b) (fun i j=>[(10,.val (.int .i64 i)),(11,.val (.int .i64 j))]) (fun i j=>[.own 108 6 l.length (l.flatMap encE)]) (fun i j=>j-i) (a+1) (b) ⟨Nat.le_refl _,by omega,by omega,Nat.le_refl _⟩ ?_ ?_
      · ((refine q0g ?_);(conv=>whnf);(refine q0h (by rfl) (by rfl) flQ ?_))
        exact q0d rfl rfl q0e
      · rintro i j ⟨i1,i2,i3,i4⟩
        rcases Nat.lt_or_ge i j with h1 |h1
        · skip
          have hg:=q7b (G:=G') (gAt l ((i+j)/2)) (gAt l (a))
          have hbd:=z03 (gAt l ((i+j)/2)) (gAt l (a))
          have hng:=q9g (a:=gAt l ((i+j)/2)) (b:=gAt l (a))
          generalize cmpE (gAt l ((i+j)/2)) (gAt l (a))=z at *
          by_cases h3:(gAt l ((i+j)/2)).y<(gAt l (a)).y
          · have hz:=hng.2 h3
            have hcs:(i+j)/2<s:=by
              rcases Nat.lt_or_ge ((i+j)/2) s with h |h
              · exact h
              · exact absurd h3 (g4 _ h (by omega))
            (repeat ((try (conv=>whnf));(first |(refine q1j (i:=(i+j)/2) (by omega) (by omega) _ ?_) |(refine q1j (i:=a) (by omega) (by omega) _ ?_) |(refine q4d (by omega) ?_) |(refine isP.mk _ (q48 _ _) ?_) |(with_reducible refine q24 tab_ok (by kernel_rfl) 9 [] (by decide +kernel) ?_) |(refine stQ ?_) |(with_reducible first |refine q0b (fun vs w=>by kernel_rfl) (by kernel_rfl) (hg) ?_ |refine q0a (fun vs w=>by kernel_rfl) (by kernel_rfl) (hg) ?_))))
            refine ⟨(i+j)/2+1,j,⟨by omega,by omega,by omega,by omega⟩,by omega,?_⟩
            ((refine q0g ?_);(conv=>whnf);(refine q0h (by rfl) (by rfl) flQ ?_))
            exact q0d rfl rfl q0e
          · have hz:¬ z<0:=fun h=>h3 (hng.1 h)
            have hcs:s≤(i+j)/2:=by
              rcases Nat.lt_or_ge ((i+j)/2) s with h |h
              · exact absurd (g3 _ (by omega) h) h3
              · exact h
            (repeat ((try (conv=>whnf));(first |(refine q1j (i:=(i+j)/2) (by omega) (by omega) _ ?_) |(refine q1j (i:=a) (by omega) (by omega) _ ?_) |(refine q4d (by omega) ?_) |(refine isP.mk _ (q48 _ _) ?_) |(with_reducible refine q24 tab_ok (by kernel_rfl) 9 [] (by decide +kernel) ?_) |(refine stQ ?_) |(with_reducible first |refine q0b (fun vs w=>by kernel_rfl) (by kernel_rfl) (hg) ?_ |refine q0a (fun vs w=>by kernel_rfl) (by kernel_rfl) (hg) ?_))))
            refine ⟨i,(i+j)/2,⟨by omega,by omega,by omega,by omega⟩,by omega,?_⟩
            ((refine q0g ?_);(conv=>whnf);(refine q0h (by rfl) (by rfl) flQ ?_))
            exact q0d rfl rfl q0e
        · obtain rfl:i=s:=by omega
          obtain rfl:j=i:=by omega
          (repeat ((try (conv=>whnf));(refine stQ ?_)))
          conv=>whnf
          refine q2k tab_ok (fun (k:Nat) (cur:List Edge)=>a≤k∧k≤j-1∧UpAt l cur a k) (fun k cur=>[(13,.val (.int .i64 k))]) (fun k cur=>[.own 108 6 l.length (cur.flatMap encE)]) (fun k cur=>j-1-k) a l ⟨Nat.le_refl _,by omega,UpAt.start l a⟩ ?_ ?_
          · ((refine q0g ?_);(conv=>whnf);(refine q0h (by rfl) (by rfl) flQ ?_))
            exact q0d rfl rfl q0e
          · rintro k cur ⟨k1,k2,hc⟩
            have hlen:=hc.perm.length_eq
            rcases Nat.lt_or_ge k (j-1) with h2 |h2
            · have hnx:=hc.next k1 (by omega)
              (repeat ((try (conv=>whnf));(first |(refine q1j (i:=k+1) (by omega) (by omega) _ ?_) |(refine q1j (i:=k) (by omega) (by omega) _ ?_) |(with_reducible refine q5g tab_ok (by kernel_rfl) 16 [0] [(8,0),(9,0),(12,0),(13,0),(14,0)] (by decide +kernel) ?_) |(refine stQ ?_))))
              conv=>whnf
              refine mustP.mk (q5q (l:=cur) (i:=k) (by omega) (by omega) rfl) ?_
              (repeat ((try (conv=>whnf));(refine stQ ?_)))
              conv=>whnf
              refine mustP.mk (q5q (l:=cur) (i:=k+1) (by omega) (by omega) (q97 (i:=k) (by omega) (by omega) _)) ?_
              (repeat ((try (conv=>whnf));(refine stQ ?_)))
              refine ⟨k+1,_,⟨by omega,by omega,hnx⟩,by omega,?_⟩
              ((refine q0g ?_);(conv=>whnf);(refine q0h (by rfl) (by rfl) flQ ?_))
              exact z10 (by omega) (by omega) (by omega) (by omega)
            · obtain rfl:k=j-1:=by omega
              have hf:=hc.fin (κ:=Edge.y) (b:=b) ⟨by omega,by omega⟩ hs2 (fun c e1 e2=>g3 c e1 e2) (fun c e1 e2=>g4 c e1 (by omega))
              (repeat ((try (conv=>whnf));(refine stQ ?_)))
              exact ⟨_,rfl,cur,rfl,hf.1,hf.2⟩
    · by_cases htwo:b=m+1
      · subst htwo
        obtain ⟨s,g1,g2,g3,g4⟩:=z6e (fun c=>¬ (gAt l m).y<(gAt l c).y) a (m-a) fun c c' f1 f2 f3 hq=>by
          have:=hs1 c c' f1 f2 (by omega);omega
        (repeat ((try (conv=>whnf));(refine stQ ?_)))
        conv=>whnf
        refine q2k tab_ok (fun (i j:Nat)=>a≤i∧i≤s∧s≤j∧j≤m) (fun i j=>[(14,.val (.int .i64 i)),(15,.val (.int .i64 j))]) (fun i j=>[.own 108 6 l.length (l.flatMap encE)]) (fun i j=>j-i) (a) (m) ⟨Nat.le_refl _,by omega,by omega,Nat.le_refl _⟩ ?_ ?_
        · ((refine q0g ?_);(conv=>whnf);(refine q0h (by rfl) (by rfl) flQ ?_))
          exact q0d rfl rfl q0e
        · rintro i j ⟨i1,i2,i3,i4⟩
          rcases Nat.lt_or_ge i j with h1 |h1
          · skip
            have hg:=q7b (G:=G') (gAt l (m)) (gAt l ((i+j)/2))
            have hbd:=z03 (gAt l (m)) (gAt l ((i+j)/2))
            have hng:=q9g (a:=gAt l (m)) (b:=gAt l ((i+j)/2))
            generalize cmpE (gAt l (m)) (gAt l ((i+j)/2))=z at *
            by_cases h3:(gAt l (m)).y<(gAt l ((i+j)/2)).y
            · have hz:=hng.2 h3
              have hcs:s≤(i+j)/2:=by
                rcases Nat.lt_or_ge ((i+j)/2) s with h |h
                · exact absurd (g3 _ (by omega) h) (fun h=>h h3)
                · exact h
              (repeat ((try (conv=>whnf));(first |(refine q1j (i:=m) (by omega) (by omega) _ ?_) |(refine q1j (i:=(i+j)/2) (by omega) (by omega) _ ?_) |(refine q4d (by omega) ?_) |(refine isP.mk _ (q48 _ _) ?_) |(with_reducible refine q24 tab_ok (by kernel_rfl) 9 [] (by decide +kernel) ?_) |(refine stQ ?_) |(with_reducible first |refine q0b (fun vs w=>by kernel_rfl) (by kernel_rfl) (hg) ?_ |refine q0a (fun vs w=>by kernel_rfl) (by kernel_rfl) (hg) ?_))))
              refine ⟨i,(i+j)/2,⟨by omega,by omega,by omega,by omega⟩,by omega,?_⟩
              ((refine q0g ?_);(conv=>whnf);(refine q0h (by rfl) (by rfl) flQ ?_))
              exact q0d rfl rfl q0e
            · have hz:¬ z<0:=fun h=>h3 (hng.1 h)
              have hcs:(i+j)/2<s:=by
                rcases Nat.lt_or_ge ((i+j)/2) s with h |h
                · exact h
                · exact absurd h3 (g4 _ h (by omega))
              (repeat ((try (conv=>whnf));(first |(refine q1j (i:=m) (by omega) (by omega) _ ?_) |(refine q1j (i:=(i+j)/2) (by omega) (by omega) _ ?_) |(refine q4d (by omega) ?_) |(refine isP.mk _ (q48 _ _) ?_) |(with_reducible refine q24 tab_ok (by kernel_rfl) 9 [] (by decide +kernel) ?_) |(refine stQ ?_) |(with_reducible first |refine q0b (fun vs w=>by kernel_rfl) (by kernel_rfl) (hg) ?_ |refine q0a (fun vs w=>by kernel_rfl) (by kernel_rfl) (hg) ?_))))
              refine ⟨(i+j)/2+1,j,⟨by omega,by omega,by omega,by omega⟩,by omega,?_⟩
              ((refine q0g ?_);(conv=>whnf);(refine q0h (by rfl) (by rfl) flQ ?_))
              exact q0d rfl rfl q0e
          · obtain rfl:i=s:=by omega
            obtain rfl:j=i:=by omega
            (repeat ((try (conv=>whnf));(refine stQ ?_)))
            conv=>whnf
            refine q2k tab_ok (fun (k:Nat) (cur:List Edge)=>j≤k∧k≤m∧DnAt l cur m k) (fun k cur=>[(17,.val (.int .i64 k))]) (fun k cur=>[.own 108 6 l.length (cur.flatMap encE)]) (fun k cur=>k-j) m l ⟨by omega,Nat.le_refl _,DnAt.start l m⟩ ?_ ?_
            · ((refine q0g ?_);(conv=>whnf);(refine q0h (by rfl) (by rfl) flQ ?_))
              exact q0d rfl rfl q0e
            · rintro k cur ⟨k1,k2,hc⟩
              have hlen:=hc.perm.length_eq
              rcases Nat.lt_or_ge j k with h2 |h2
              · have hnx:=hc.next (by omega) k2 (by omega)
                (repeat ((try (conv=>whnf));(first |(refine q1j (i:=k-1) (by omega) (by omega) _ ?_) |(refine q1j (i:=k) (by omega) (by omega) _ ?_) |(with_reducible refine q5g tab_ok (by kernel_rfl) 16 [0] [(8,0),(9,0),(12,0),(13,0),(14,0)] (by decide +kernel) ?_) |(refine stQ ?_))))
                conv=>whnf
                refine mustP.mk (q5q (l:=cur) (i:=k) (by omega) (by omega) rfl) ?_
                (repeat ((try (conv=>whnf));(refine stQ ?_)))
                conv=>whnf
                refine mustP.mk (q5q (l:=cur) (i:=k-1) (by omega) (by omega) (q97 (i:=k) (by omega) (by omega) _)) ?_
                (repeat ((try (conv=>whnf));(refine stQ ?_)))
                refine ⟨k-1,_,⟨by omega,by omega,hnx⟩,by omega,?_⟩
                ((refine q0g ?_);(conv=>whnf);(refine q0h (by rfl) (by rfl) flQ ?_))
                exact z10 (by omega) (by omega) (by omega) (by omega)
              · obtain rfl:k=j:=by omega
                have hf:=hc.fin (κ:=Edge.y) (a:=a) ⟨by omega,by omega⟩ hs1 (fun c e1 e2=>g3 c e1 e2) (fun c e1 e2=>Decidable.not_not.1 (g4 c e1 (by omega)))
                (repeat ((try (conv=>whnf));(refine stQ ?_)))
                exact ⟨_,rfl,cur,rfl,hf.1,hf.2⟩
      · obtain ⟨s,g1,g2,g3,g4⟩:=x9b (κ:=Edge.y) ham hmb hs1 hs2
        obtain ⟨k1,k2,k3,k4⟩:=z4x ham hmb
        have hin:=fun c h h'=>x01 (c:=c) ham hmb h h'
        have hH:∀ l1:List Edge,(∀ t,gAt l1 t=rotF l s m ((a+b)/2+m-s) t)→_:=fun l1=>x9c (κ:=Edge.y) ham hmb hs1 hs2 g1 g2 g3 g4
        unfold symQ at g3 g4
        have hlohi:(a+b)/2<m∧q3v a m b=(a+b)/2+m-b∧q3p a m b=(a+b)/2∨m≤(a+b)/2∧q3v a m b=a∧q3p a m b=m:=by
          unfold q3v q3p
          by_cases e:(a+b)/2<m
          · rw [if_pos e,if_pos e];exact .inl ⟨e,rfl,rfl⟩
          · rw [if_neg e,if_neg e];exact .inr ⟨by omega,rfl,rfl⟩
        generalize q3v a m b=lo at *
        generalize q3p a m b=hi at *
        have hend:(a+b)/2+m-s≤b:=by omega
        rcases hlohi with ⟨e,elo,ehi⟩ |⟨e,elo,ehi⟩
        · skip
          (repeat ((try (conv=>whnf));(first |(refine q4d (by omega) ?_) |(refine isP.mk _ (q48 _ _) ?_) |(refine stQ ?_))))
          conv=>whnf
          refine q2k tab_ok (fun (i j:Nat)=>lo≤i∧i≤s∧s≤j∧j≤hi) (fun i j=>[(20,.val (.int .i64 i)),(21,.val (.int .i64 j))]) (fun i j=>[.own 108 6 l.length (l.flatMap encE)]) (fun i j=>j-i) (lo) (hi) ⟨Nat.le_refl _,by omega,by omega,Nat.le_refl _⟩ ?_ ?_
          · ((refine q0g ?_);(conv=>whnf);(refine q0h (by rfl) (by rfl) flQ ?_))
            exact q0d rfl rfl q0e
          · rintro i j ⟨i1,i2,i3,i4⟩
            rcases Nat.lt_or_ge i j with h1 |h1
            · obtain ⟨j1,j2⟩:=hin ((i+j)/2) (by omega) (by omega)
              have hg:=q7b (G:=G') (gAt l ((a+b)/2+m-1-(i+j)/2)) (gAt l ((i+j)/2))
              have hbd:=z03 (gAt l ((a+b)/2+m-1-(i+j)/2)) (gAt l ((i+j)/2))
              have hng:=q9g (a:=gAt l ((a+b)/2+m-1-(i+j)/2)) (b:=gAt l ((i+j)/2))
              generalize cmpE (gAt l ((a+b)/2+m-1-(i+j)/2)) (gAt l ((i+j)/2))=z at *
              by_cases h3:(gAt l ((a+b)/2+m-1-(i+j)/2)).y<(gAt l ((i+j)/2)).y
              · have hz:=hng.2 h3
                have hcs:s≤(i+j)/2:=by
                  rcases Nat.lt_or_ge ((i+j)/2) s with h |h
                  · exact absurd (g3 _ (by omega) h) (fun h=>h h3)
                  · exact h
                (repeat ((try (conv=>whnf));(first |(refine q1j (i:=(a+b)/2+m-1-(i+j)/2) (by omega) (by omega) _ ?_) |(refine q1j (i:=(i+j)/2) (by omega) (by omega) _ ?_) |(refine q4d (by omega) ?_) |(refine isP.mk _ (q48 _ _) ?_) |(with_reducible refine q24 tab_ok (by kernel_rfl) 11 [] (by decide +kernel) ?_) |(refine stQ ?_) |(with_reducible first |refine q0b (fun vs w=>by kernel_rfl) (by kernel_rfl) (hg) ?_ |refine q0a (fun vs w=>by kernel_rfl) (by kernel_rfl) (hg) ?_))))
                refine ⟨i,(i+j)/2,⟨by omega,by omega,by omega,by omega⟩,by omega,?_⟩
                ((refine q0g ?_);(conv=>whnf);(refine q0h (by rfl) (by rfl) flQ ?_))
                exact q0d rfl rfl q0e
              · have hz:¬ z<0:=fun h=>h3 (hng.1 h)
                have hcs:(i+j)/2<s:=by
                  rcases Nat.lt_or_ge ((i+j)/2) s with h |h
                  · exact h
                  · exact absurd h3 (g4 _ h (by omega))
                (repeat ((try (conv=>whnf));(first |(refine q1j (i:=(a+b)/2+m-1-(i+j)/2) (by omega) (by omega) _ ?_) |(refine q1j (i:=(i+j)/2) (by omega) (by omega) _ ?_) |(refine q4d (by omega) ?_) |(refine isP.mk _ (q48 _ _) ?_) |(with_reducible refine q24 tab_ok (by kernel_rfl) 11 [] (by decide +kernel) ?_) |(refine stQ ?_) |(with_reducible first |refine q0b (fun vs w=>by kernel_rfl) (by kernel_rfl) (hg) ?_ |refine q0a (fun vs w=>by kernel_rfl) (by kernel_rfl) (hg) ?_))))
                refine ⟨(i+j)/2+1,j,⟨by omega,by omega,by omega,by omega⟩,by omega,?_⟩
                ((refine q0g ?_);(conv=>whnf);(refine q0h (by rfl) (by rfl) flQ ?_))
                exact q0d rfl rfl q0e
            · obtain rfl:i=s:=by omega
              obtain rfl:j=i:=by omega
              rcases (show (j<m∧m<(a+b)/2+m-j)∨¬ j<m∨(j<m∧¬ m<(a+b)/2+m-j) by omega) with hr |hr |hr
              · (repeat ((try (conv=>whnf));(refine stQ ?_)))
                conv=>whnf
                refine q1i [.own 0,.val (.int .i64 j),.val (.int .i64 m),.val (.int .i64 (((a+b)/2:Nat)+m-j:Int)),q2o] 0 0 (fun vs w=>by kernel_rfl) (by rfl) rfl (by rfl) rfl (z8u (l:=l) (a:=j) (m:=m) (b:=(a+b)/2+m-j) rfl rfl rfl (by omega) hr.1 hr.2 (by omega) (by omega)) ?_
                rintro _ ⟨l1,rfl,hp1,hat⟩
                have hS1:=(SameIn.of_rot hr.1 hr.2 hp1 hat).wide (show a≤j by omega) hend
                have H:=hH l1 hat
                have hlen1:l1.length=l.length:=hp1.length_eq
                rcases (show (a<j∧j<(a+b)/2)∨¬ a<j∨(a<j∧¬ j<(a+b)/2) by omega) with hL |hL |hL
                · obtain ⟨q1,q2,q3,q4,q5⟩:=H
                  (repeat ((try (conv=>whnf));(refine stQ ?_)))
                  conv=>whnf
                  refine q1i [.own 0,.val (.int .i64 a),.val (.int .i64 j),.val (.int .i64 ((a+b)/2:Nat)),q2o] 0 0 (fun vs w=>by kernel_rfl) (by rfl) rfl (by rfl) rfl (q2y N (l:=l1) (a:=a) (m:=j) (b:=(a+b)/2) hlen1 rfl rfl rfl (by omega) (by omega) (by omega) (by omega) (by omega) q1 q2) ?_
                  rintro _ ⟨l2,rfl,hS2,hs2'⟩
                  have hlen2:l2.length=l.length:=hS2.len.trans hlen1
                  have q3':=q3.congr (l':=l2) fun i e1 e2=>hS2.out i (by omega)
                  have q4':=q4.congr (l':=l2) fun i e1 e2=>hS2.out i (by omega)
                  rcases (show ((a+b)/2<(a+b)/2+m-j∧(a+b)/2+m-j<b)∨¬ (a+b)/2<(a+b)/2+m-j∨((a+b)/2<(a+b)/2+m-j∧¬ (a+b)/2+m-j<b) by omega) with hR |hR |hR
                  · skip
                    (repeat ((try (conv=>whnf));(refine stQ ?_)))
                    conv=>whnf
                    refine q1i [.own 0,.val (.int .i64 ((a+b)/2:Nat)),.val (.int .i64 (((a+b)/2:Nat)+m-j:Int)),.val (.int .i64 b),q2o] 0 0 (fun vs w=>by kernel_rfl) (by rfl) rfl (by rfl) rfl (q2y N (l:=l2) (a:=(a+b)/2) (m:=(a+b)/2+m-j) (b:=b) hlen2 rfl (by omega) rfl (by omega) (by omega) (by omega) (by omega) (by omega) q3' q4') ?_
                    rintro _ ⟨l3,rfl,hS3,hs3⟩
                    (repeat ((try (conv=>whnf));(refine stQ ?_)))
                    exact ⟨_,rfl,l3,rfl,hS1.trans ((hS2.wide (Nat.le_refl _) (by omega)).trans (hS3.wide (by omega) (Nat.le_refl _))),srtK.halves hS2 hS3 hs2' hs3 q5⟩
                  · exfalso;omega
                  · skip
                    have hS3:=SameIn.refl l2 ((a+b)/2) b
                    have hs3:srtK Edge.y l2 ((a+b)/2) b:=q3'.less (Nat.le_refl _) (by omega)
                    (repeat ((try (conv=>whnf));(refine stQ ?_)))
                    exact ⟨_,rfl,l2,rfl,hS1.trans ((hS2.wide (Nat.le_refl _) (by omega)).trans (hS3.wide (by omega) (Nat.le_refl _))),srtK.halves hS2 hS3 hs2' hs3 q5⟩
                · obtain ⟨q1,q2,q3,q4,q5⟩:=H
                  have hS2:=SameIn.refl l1 a ((a+b)/2)
                  have hs2':srtK Edge.y l1 a ((a+b)/2):=q2.less (by omega) (Nat.le_refl _)
                  have hlen2:l1.length=l.length:=hS2.len.trans hlen1
                  have q3':=q3.congr (l':=l1) fun i e1 e2=>hS2.out i (by omega)
                  have q4':=q4.congr (l':=l1) fun i e1 e2=>hS2.out i (by omega)
                  rcases (show ((a+b)/2<(a+b)/2+m-j∧(a+b)/2+m-j<b)∨¬ (a+b)/2<(a+b)/2+m-j∨((a+b)/2<(a+b)/2+m-j∧¬ (a+b)/2+m-j<b) by omega) with hR |hR |hR
                  · exfalso;omega
                  · exfalso;omega
                  · skip
                    have hS3:=SameIn.refl l1 ((a+b)/2) b
                    have hs3:srtK Edge.y l1 ((a+b)/2) b:=q3'.less (Nat.le_refl _) (by omega)
                    (repeat ((try (conv=>whnf));(refine stQ ?_)))
                    exact ⟨_,rfl,l1,rfl,hS1.trans ((hS2.wide (Nat.le_refl _) (by omega)).trans (hS3.wide (by omega) (Nat.le_refl _))),srtK.halves hS2 hS3 hs2' hs3 q5⟩
                · exfalso;omega
              · exfalso;omega
              · have H:=hH l fun t=>x6c (by omega) (by omega) (by omega) t
                have hS1:=SameIn.refl l a b
                have hlen1:l.length=l.length:=rfl
                rcases (show (a<j∧j<(a+b)/2)∨¬ a<j∨(a<j∧¬ j<(a+b)/2) by omega) with hL |hL |hL
                · exfalso;omega
                · exfalso;omega
                · obtain ⟨q1,q2,q3,q4,q5⟩:=H
                  have hS2:=SameIn.refl l a ((a+b)/2)
                  have hs2':srtK Edge.y l a ((a+b)/2):=q1.less (Nat.le_refl _) (by omega)
                  have hlen2:l.length=l.length:=hS2.len.trans hlen1
                  have q3':=q3.congr (l':=l) fun i e1 e2=>hS2.out i (by omega)
                  have q4':=q4.congr (l':=l) fun i e1 e2=>hS2.out i (by omega)
                  rcases (show ((a+b)/2<(a+b)/2+m-j∧(a+b)/2+m-j<b)∨¬ (a+b)/2<(a+b)/2+m-j∨((a+b)/2<(a+b)/2+m-j∧¬ (a+b)/2+m-j<b) by omega) with hR |hR |hR
                  · skip
                    (repeat ((try (conv=>whnf));(refine stQ ?_)))
                    conv=>whnf
                    refine q1i [.own 0,.val (.int .i64 ((a+b)/2:Nat)),.val (.int .i64 (((a+b)/2:Nat)+m-j:Int)),.val (.int .i64 b),q2o] 0 0 (fun vs w=>by kernel_rfl) (by rfl) rfl (by rfl) rfl (q2y N (l:=l) (a:=(a+b)/2) (m:=(a+b)/2+m-j) (b:=b) hlen2 rfl (by omega) rfl (by omega) (by omega) (by omega) (by omega) (by omega) q3' q4') ?_
                    rintro _ ⟨l3,rfl,hS3,hs3⟩
                    (repeat ((try (conv=>whnf));(refine stQ ?_)))
                    exact ⟨_,rfl,l3,rfl,hS1.trans ((hS2.wide (Nat.le_refl _) (by omega)).trans (hS3.wide (by omega) (Nat.le_refl _))),srtK.halves hS2 hS3 hs2' hs3 q5⟩
                  · exfalso;omega
                  · exfalso;omega
        · skip
          (repeat ((try (conv=>whnf));(first |(refine q4d (by omega) ?_) |(refine isP.mk _ (q48 _ _) ?_) |(refine stQ ?_))))
          conv=>whnf
          refine q2k tab_ok (fun (i j:Nat)=>lo≤i∧i≤s∧s≤j∧j≤hi) (fun i j=>[(20,.val (.int .i64 i)),(21,.val (.int .i64 j))]) (fun i j=>[.own 108 6 l.length (l.flatMap encE)]) (fun i j=>j-i) (lo) (hi) ⟨Nat.le_refl _,by omega,by omega,Nat.le_refl _⟩ ?_ ?_
          · ((refine q0g ?_);(conv=>whnf);(refine q0h (by rfl) (by rfl) flQ ?_))
            exact q0d rfl rfl q0e
          · rintro i j ⟨i1,i2,i3,i4⟩
            rcases Nat.lt_or_ge i j with h1 |h1
            · obtain ⟨j1,j2⟩:=hin ((i+j)/2) (by omega) (by omega)
              have hg:=q7b (G:=G') (gAt l ((a+b)/2+m-1-(i+j)/2)) (gAt l ((i+j)/2))
              have hbd:=z03 (gAt l ((a+b)/2+m-1-(i+j)/2)) (gAt l ((i+j)/2))
              have hng:=q9g (a:=gAt l ((a+b)/2+m-1-(i+j)/2)) (b:=gAt l ((i+j)/2))
              generalize cmpE (gAt l ((a+b)/2+m-1-(i+j)/2)) (gAt l ((i+j)/2))=z at *
              by_cases h3:(gAt l ((a+b)/2+m-1-(i+j)/2)).y<(gAt l ((i+j)/2)).y
              · have hz:=hng.2 h3
                have hcs:s≤(i+j)/2:=by
                  rcases Nat.lt_or_ge ((i+j)/2) s with h |h
                  · exact absurd (g3 _ (by omega) h) (fun h=>h h3)
                  · exact h
                (repeat ((try (conv=>whnf));(first |(refine q1j (i:=(a+b)/2+m-1-(i+j)/2) (by omega) (by omega) _ ?_) |(refine q1j (i:=(i+j)/2) (by omega) (by omega) _ ?_) |(refine q4d (by omega) ?_) |(refine isP.mk _ (q48 _ _) ?_) |(with_reducible refine q24 tab_ok (by kernel_rfl) 11 [] (by decide +kernel) ?_) |(refine stQ ?_) |(with_reducible first |refine q0b (fun vs w=>by kernel_rfl) (by kernel_rfl) (hg) ?_ |refine q0a (fun vs w=>by kernel_rfl) (by kernel_rfl) (hg) ?_))))
                refine ⟨i,(i+j)/2,⟨by omega,by omega,by omega,by omega⟩,by omega,?_⟩
                ((refine q0g ?_);(conv=>whnf);(refine q0h (by rfl) (by rfl) flQ ?_))
                exact q0d rfl rfl q0e
              · have hz:¬ z<0:=fun h=>h3 (hng.1 h)
                have hcs:(i+j)/2<s:=by
                  rcases Nat.lt_or_ge ((i+j)/2) s with h |h
                  · exact h
                  · exact absurd h3 (g4 _ h (by omega))
                (repeat ((try (conv=>whnf));(first |(refine q1j (i:=(a+b)/2+m-1-(i+j)/2) (by omega) (by omega) _ ?_) |(refine q1j (i:=(i+j)/2) (by omega) (by omega) _ ?_) |(refine q4d (by omega) ?_) |(refine isP.mk _ (q48 _ _) ?_) |(with_reducible refine q24 tab_ok (by kernel_rfl) 11 [] (by decide +kernel) ?_) |(refine stQ ?_) |(with_reducible first |refine q0b (fun vs w=>by kernel_rfl) (by kernel_rfl) (hg) ?_ |refine q0a (fun vs w=>by kernel_rfl) (by kernel_rfl) (hg) ?_))))
                refine ⟨(i+j)/2+1,j,⟨by omega,by omega,by omega,by omega⟩,by omega,?_⟩
                ((refine q0g ?_);(conv=>whnf);(refine q0h (by rfl) (by rfl) flQ ?_))
                exact q0d rfl rfl q0e
            · obtain rfl:i=s:=by omega
              obtain rfl:j=i:=by omega
              rcases (show (j<m∧m<(a+b)/2+m-j)∨¬ j<m∨(j<m∧¬ m<(a+b)/2+m-j) by omega) with hr |hr |hr
              · (repeat ((try (conv=>whnf));(refine stQ ?_)))
                conv=>whnf
                refine q1i [.own 0,.val (.int .i64 j),.val (.int .i64 m),.val (.int .i64 (((a+b)/2:Nat)+m-j:Int)),q2o] 0 0 (fun vs w=>by kernel_rfl) (by rfl) rfl (by rfl) rfl (z8u (l:=l) (a:=j) (m:=m) (b:=(a+b)/2+m-j) rfl rfl rfl (by omega) hr.1 hr.2 (by omega) (by omega)) ?_
                rintro _ ⟨l1,rfl,hp1,hat⟩
                have hS1:=(SameIn.of_rot hr.1 hr.2 hp1 hat).wide (show a≤j by omega) hend
                have H:=hH l1 hat
                have hlen1:l1.length=l.length:=hp1.length_eq
                rcases (show (a<j∧j<(a+b)/2)∨¬ a<j∨(a<j∧¬ j<(a+b)/2) by omega) with hL |hL |hL
                · obtain ⟨q1,q2,q3,q4,q5⟩:=H
                  (repeat ((try (conv=>whnf));(refine stQ ?_)))
                  conv=>whnf
                  refine q1i [.own 0,.val (.int .i64 a),.val (.int .i64 j),.val (.int .i64 ((a+b)/2:Nat)),q2o] 0 0 (fun vs w=>by kernel_rfl) (by rfl) rfl (by rfl) rfl (q2y N (l:=l1) (a:=a) (m:=j) (b:=(a+b)/2) hlen1 rfl rfl rfl (by omega) (by omega) (by omega) (by omega) (by omega) q1 q2) ?_
                  rintro _ ⟨l2,rfl,hS2,hs2'⟩
                  have hlen2:l2.length=l.length:=hS2.len.trans hlen1
                  have q3':=q3.congr (l':=l2) fun i e1 e2=>hS2.out i (by omega)
                  have q4':=q4.congr (l':=l2) fun i e1 e2=>hS2.out i (by omega)
                  rcases (show ((a+b)/2<(a+b)/2+m-j∧(a+b)/2+m-j<b)∨¬ (a+b)/2<(a+b)/2+m-j∨((a+b)/2<(a+b)/2+m-j∧¬ (a+b)/2+m-j<b) by omega) with hR |hR |hR
                  · skip
                    (repeat ((try (conv=>whnf));(refine stQ ?_)))
                    conv=>whnf
                    refine q1i [.own 0,.val (.int .i64 ((a+b)/2:Nat)),.val (.int .i64 (((a+b)/2:Nat)+m-j:Int)),.val (.int .i64 b),q2o] 0 0 (fun vs w=>by kernel_rfl) (by rfl) rfl (by rfl) rfl (q2y N (l:=l2) (a:=(a+b)/2) (m:=(a+b)/2+m-j) (b:=b) hlen2 rfl (by omega) rfl (by omega) (by omega) (by omega) (by omega) (by omega) q3' q4') ?_
                    rintro _ ⟨l3,rfl,hS3,hs3⟩
                    (repeat ((try (conv=>whnf));(refine stQ ?_)))
                    exact ⟨_,rfl,l3,rfl,hS1.trans ((hS2.wide (Nat.le_refl _) (by omega)).trans (hS3.wide (by omega) (Nat.le_refl _))),srtK.halves hS2 hS3 hs2' hs3 q5⟩
                  · exfalso;omega
                  · exfalso;omega
                · obtain ⟨q1,q2,q3,q4,q5⟩:=H
                  have hS2:=SameIn.refl l1 a ((a+b)/2)
                  have hs2':srtK Edge.y l1 a ((a+b)/2):=q2.less (by omega) (Nat.le_refl _)
                  have hlen2:l1.length=l.length:=hS2.len.trans hlen1
                  have q3':=q3.congr (l':=l1) fun i e1 e2=>hS2.out i (by omega)
                  have q4':=q4.congr (l':=l1) fun i e1 e2=>hS2.out i (by omega)
                  rcases (show ((a+b)/2<(a+b)/2+m-j∧(a+b)/2+m-j<b)∨¬ (a+b)/2<(a+b)/2+m-j∨((a+b)/2<(a+b)/2+m-j∧¬ (a+b)/2+m-j<b) by omega) with hR |hR |hR
                  · skip
                    (repeat ((try (conv=>whnf));(refine stQ ?_)))
                    conv=>whnf
                    refine q1i [.own 0,.val (.int .i64 ((a+b)/2:Nat)),.val (.int .i64 (((a+b)/2:Nat)+m-j:Int)),.val (.int .i64 b),q2o] 0 0 (fun vs w=>by kernel_rfl) (by rfl) rfl (by rfl) rfl (q2y N (l:=l1) (a:=(a+b)/2) (m:=(a+b)/2+m-j) (b:=b) hlen2 rfl (by omega) rfl (by omega) (by omega) (by omega) (by omega) (by omega) q3' q4') ?_
                    rintro _ ⟨l3,rfl,hS3,hs3⟩
                    (repeat ((try (conv=>whnf));(refine stQ ?_)))
                    exact ⟨_,rfl,l3,rfl,hS1.trans ((hS2.wide (Nat.le_refl _) (by omega)).trans (hS3.wide (by omega) (Nat.le_refl _))),srtK.halves hS2 hS3 hs2' hs3 q5⟩
                  · exfalso;omega
                  · skip
                    have hS3:=SameIn.refl l1 ((a+b)/2) b
                    have hs3:srtK Edge.y l1 ((a+b)/2) b:=q3'.less (Nat.le_refl _) (by omega)
                    (repeat ((try (conv=>whnf));(refine stQ ?_)))
                    exact ⟨_,rfl,l1,rfl,hS1.trans ((hS2.wide (Nat.le_refl _) (by omega)).trans (hS3.wide (by omega) (Nat.le_refl _))),srtK.halves hS2 hS3 hs2' hs3 q5⟩
                · exfalso;omega
              · have H:=hH l fun t=>x6c (by omega) (by omega) (by omega) t
                have hS1:=SameIn.refl l a b
                have hlen1:l.length=l.length:=rfl
                rcases (show (a<j∧j<(a+b)/2)∨¬ a<j∨(a<j∧¬ j<(a+b)/2) by omega) with hL |hL |hL
                · obtain ⟨q1,q2,q3,q4,q5⟩:=H
                  (repeat ((try (conv=>whnf));(refine stQ ?_)))
                  conv=>whnf
                  refine q1i [.own 0,.val (.int .i64 a),.val (.int .i64 j),.val (.int .i64 ((a+b)/2:Nat)),q2o] 0 0 (fun vs w=>by kernel_rfl) (by rfl) rfl (by rfl) rfl (q2y N (l:=l) (a:=a) (m:=j) (b:=(a+b)/2) hlen1 rfl rfl rfl (by omega) (by omega) (by omega) (by omega) (by omega) q1 q2) ?_
                  rintro _ ⟨l2,rfl,hS2,hs2'⟩
                  have hlen2:l2.length=l.length:=hS2.len.trans hlen1
                  have q3':=q3.congr (l':=l2) fun i e1 e2=>hS2.out i (by omega)
                  have q4':=q4.congr (l':=l2) fun i e1 e2=>hS2.out i (by omega)
                  rcases (show ((a+b)/2<(a+b)/2+m-j∧(a+b)/2+m-j<b)∨¬ (a+b)/2<(a+b)/2+m-j∨((a+b)/2<(a+b)/2+m-j∧¬ (a+b)/2+m-j<b) by omega) with hR |hR |hR
                  · exfalso;omega
                  · skip
                    have hS3:=SameIn.refl l2 ((a+b)/2) b
                    have hs3:srtK Edge.y l2 ((a+b)/2) b:=q4'.less (by omega) (Nat.le_refl _)
                    (repeat ((try (conv=>whnf));(refine stQ ?_)))
                    exact ⟨_,rfl,l2,rfl,hS1.trans ((hS2.wide (Nat.le_refl _) (by omega)).trans (hS3.wide (by omega) (Nat.le_refl _))),srtK.halves hS2 hS3 hs2' hs3 q5⟩
                  · exfalso;omega
                · exfalso;omega
                · obtain ⟨q1,q2,q3,q4,q5⟩:=H
                  have hS2:=SameIn.refl l a ((a+b)/2)
                  have hs2':srtK Edge.y l a ((a+b)/2):=q1.less (Nat.le_refl _) (by omega)
                  have hlen2:l.length=l.length:=hS2.len.trans hlen1
                  have q3':=q3.congr (l':=l) fun i e1 e2=>hS2.out i (by omega)
                  have q4':=q4.congr (l':=l) fun i e1 e2=>hS2.out i (by omega)
                  rcases (show ((a+b)/2<(a+b)/2+m-j∧(a+b)/2+m-j<b)∨¬ (a+b)/2<(a+b)/2+m-j∨((a+b)/2<(a+b)/2+m-j∧¬ (a+b)/2+m-j<b) by omega) with hR |hR |hR
                  · exfalso;omega
                  · skip
                    have hS3:=SameIn.refl l ((a+b)/2) b
                    have hs3:srtK Edge.y l ((a+b)/2) b:=q4'.less (by omega) (Nat.le_refl _)
                    (repeat ((try (conv=>whnf));(refine stQ ?_)))
                    exact ⟨_,rfl,l,rfl,hS1.trans ((hS2.wide (Nat.le_refl _) (by omega)).trans (hS3.wide (by omega) (Nat.le_refl _))),srtK.halves hS2 hS3 hs2' hs3 q5⟩
                  · exfalso;omega
              · exfalso;omega
end
end Go.Proofs.YtegpkpilfgohhaaGreat
