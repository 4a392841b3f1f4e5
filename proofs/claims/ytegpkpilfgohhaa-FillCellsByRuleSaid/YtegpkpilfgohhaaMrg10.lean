/-
  Merged: XWinding, XFills.
-/
import Derived.Test.YtegpkpilfgohhaaMrg9
import Derived.Test.YtegpkpilfgohhaaSort
import Derived.Test.YtegpkpilfgohhaaMrg7
import Derived.Test.YtegpkpilfgohhaaArea
set_option linter.unusedVariables false
set_option linter.unusedSimpArgs false
set_option linter.unnecessarySimpa false
namespace Go.Proofs.Ytegpkpilfgohhaa
open Go.RowKit Go.Shelf Go.Lib Go.Sort
set_option maxRecDepth 20000
theorem x0j:∀ (x:Cr),∀ v∈encC x,v.oneCell'=true:=fun x v hv=>by
  simp [encC] at hv;rcases hv with rfl |rfl <;> rfl
theorem z76 {x:Int} {l:List Cr} (hs:l.Pairwise fun a b=>ltOf cmpC b a=false) {k:Nat} {q:Cr} (hq:l[k]? = some q) (hx:x<q.x):sumC x l=sumC x (l.take k):=by
  conv=>lhs;rw [← List.take_append_drop k l]
  rw [q2s,q8x (l:=l.drop k),Int.add_zero]
  intro c hc
  obtain ⟨j,hj⟩:=List.mem_iff_getElem?.1 hc
  rw [List.getElem?_drop] at hj
  rcases Nat.eq_zero_or_pos j with h |h
  · subst h
    rw [Nat.add_zero,hq] at hj;cases hj;exact hx
  · have hkl:=(List.getElem?_eq_some_iff.1 hq)
    have hjl:=(List.getElem?_eq_some_iff.1 hj)
    obtain ⟨h1,h2⟩:=hkl
    obtain ⟨h3,h4⟩:=hjl
    have:=List.pairwise_iff_getElem.1 hs k (k+j) h1 h3 (by omega)
    rw [q7f,h2,h4] at this
    omega
section
variable {G:Mem} {A:Option Addr} {n c:Nat} {L:Nat→LineD} {x y:Int}
set_option maxHeartbeats 16000000 in
theorem q78 (h:LinesM G A n L) (hn:n≤maxLen) (hb:q1v L n=true) (hcnt:cntN L n≤1048576) (hx:-8192≤x∧x≤8191) (hy:-8192≤y∧y≤8191):Gives Try.prog 18 [.val (.slice A n c),.val (.int .i64 x),.val (.int .i64 y)] G (.tup [.val (.int .i64 (q2y L x y n)),.val (.int .i64 0)]):=by
  have hc:=q4k (c:=c) h hn
  unfold q20 at hc
  rw [hb,if_pos rfl] at hc
  have he:=q9n (c:=c) h hn hb hcnt
  have hE:=q5e (q23 hb)
  have hsgn:=q3u (y:=y) hE
  have hlen:=q1x (L:=L) n
  have hcl:=q1c y (q0p L n)
  rw [q6r]
  clear h
  generalize q0p L n=E at *
  refine q1n tab_ok Try.func18 ?_
  (repeat ((try (conv=>whnf));(first |(refine stQ ?_) |(with_reducible first |refine q0f (fun vs w=>by kernel_rfl) (by kernel_rfl) (hc) ?_ |refine q0h (fun vs w=>by kernel_rfl) (by kernel_rfl) (hc) ?_))))
  conv=>whnf
  refine q2j (fun vs w=>by kernel_rfl) (.alone fun _=>rfl) (by kernel_rfl) he fun A1 c1 G1 hG1 hc1 hm1 hx1=>?_
  (repeat ((try (conv=>whnf));(first |(refine stQ ?_) |(with_reducible refine q0s tab_ok Try.func39 (fun vs w=>by kernel_rfl) (by rfl) ?_))))
  conv=>whnf
  refine q00 tab_ok (fun k=>k≤E.length) (fun (k:Nat)=>[(10,.val (.int .i64 k)),(5,.own 0)]) (fun k=>[.own 83 2 (q0g y (E.take k)).length ((q0g y (E.take k)).flatMap encC)]) (fun k=>E.length-k) 0 (Nat.zero_le _) ?_ ?_
  · refine q4e 83 2 ?_
    conv=>whnf
    ((refine q0d ?_);(conv=>whnf);(refine q0e (by rfl) (by rfl) flQ ?_))
    exact q0a rfl rfl q0b
  · rintro k hk
    rcases Nat.lt_or_ge k E.length with h1 |h1
    · obtain ⟨r,hr⟩:∃ r,E[k]? = some r:=⟨E[k],List.getElem?_eq_getElem h1⟩
      obtain ⟨p,rfl,ca⟩:=z81 q03 (by omega) hx1 hr
      have hro:=hE r (List.mem_of_getElem? hr)
      have hnext:=q9m (y:=y) hr
      have hcl2:=q1c y (E.take k)
      rw [List.length_take] at hcl2
      have hfst:=fun hm=>q9o (G:=G1) (y:=y) hro hm
      unfold q3b at hnext
      generalize hu':q0g y (E.take (k+1))=u' at *
      generalize q0g y (E.take k)=u at *
      clear he hE hsgn hc
      by_cases hm:r.y≤y∧y<r.e
      · have hf:=hfst hm
        rw [if_pos (decide_eq_true hm)] at hnext
        (repeat ((try (conv=>whnf));(first |(refine ca _ ?_) |(refine stQ ?_) |(with_reducible first |refine q0f (fun vs w=>by kernel_rfl) (by kernel_rfl) (hf) ?_ |refine q0h (fun vs w=>by kernel_rfl) (by kernel_rfl) (hf) ?_))))
        refine ⟨k+1,by omega,by omega,?_⟩
        rw [hu']
        refine q1a 3 0 rfl rfl rfl rfl ?_
        conv=>whnf
        ((refine q0d ?_);(conv=>whnf);(refine q0e (by rfl) (by rfl) flQ ?_))
        exact q0a (by rw [hnext];simp) (by rw [hnext,List.flatMap_append];rfl) q0b
      · rw [if_neg (by rw [decide_eq_false hm];simp),List.append_nil] at hnext
        clear hfst
        (repeat' ((try (conv=>whnf));(first |(refine ca _ ?_) |(refine stQ ?_) |(with_reducible refine q3f (fun h0=>?_) (fun h0=>?_)))))
        all_goals first
          | (exfalso;omega)
          | (refine ⟨k+1,by omega,by omega,?_⟩
             rw [hu',hnext]
             ((refine q0d ?_);(conv=>whnf);(refine q0e (by rfl) (by rfl) flQ ?_))
             exact q0a rfl rfl q0b)
    · obtain rfl:k=E.length:=by omega
      rw [List.take_of_length_le (Nat.le_refl _)]
      generalize q0g y E=C at *
      clear he hc hE
      (repeat ((try (conv=>whnf));(refine stQ ?_)))
      conv=>whnf
      refine q9p Try.sortCr rfl (fun vs w=>by kernel_rfl) Try.isAgg83 Try.sizeOf83 (fun _=>rfl) x0j z4v (fun vs w=>by kernel_rfl) z21 (by exact rfl) (by omega) fun l' hp hs=>?_
      have hpl:=hp.length_eq
      have hsum:=z20 (x:=x) hp
      have hs2:∀ q∈l',q.s=1∨q.s=-1:=fun q hq=>hsgn q (hp.mem_iff.1 hq)
      rw [← hsum]
      (repeat ((try (conv=>whnf));(refine stQ ?_)))
      conv=>whnf
      refine q00 tab_ok (fun k=>k≤l'.length) (fun (k:Nat)=>[(36,.val (.int .i64 k)),(9,.val (.int .i64 (sumC x (l'.take k))))]) (fun k=>[.own 83 2 l'.length (l'.flatMap encC)]) (fun k=>l'.length-k) 0 (Nat.zero_le _) ?_ ?_
      · ((refine q0d ?_);(conv=>whnf);(refine q0e (by rfl) (by rfl) flQ ?_))
        exact q0a rfl rfl q0b
      · rintro k hk
        rcases Nat.lt_or_ge k l'.length with h2 |h2
        · obtain ⟨q,hq⟩:∃ q,l'[k]? = some q:=⟨l'[k],List.getElem?_eq_getElem h2⟩
          have ca:=q7e z4t hq
          have hsb:=q89 (x:=x) (l:=l'.take k) (fun q hq=>hs2 q (List.mem_of_mem_take hq))
          rw [List.length_take] at hsb
          have hqs:=hs2 q (List.mem_of_getElem? hq)
          by_cases hqx:x<q.x
          · rw [z76 hs hq hqx]
            generalize sumC x (l'.take k)=s at *
            clear hs hp hsgn hs2 hsum
            (repeat ((try (conv=>whnf));(first |(refine ca _ ?_) |(refine stQ ?_))))
            exact ⟨rfl,rfl⟩
          · have hnx:sumC x (l'.take (k+1))=sumC x (l'.take k)+q.s:=by
              rw [List.take_add_one,hq,q2s]
              simp only [Option.toList,sumC]
              rw [if_pos (by omega)];omega
            generalize hs':sumC x (l'.take (k+1))=s' at *
            generalize sumC x (l'.take k)=s at *
            subst hnx
            clear hs hp hsgn hs2 hsum
            (repeat ((try (conv=>whnf));(first |(refine ca _ ?_) |(refine stQ ?_))))
            refine ⟨k+1,by omega,by omega,?_⟩
            rw [hs']
            ((refine q0d ?_);(conv=>whnf);(refine q0e (by rfl) (by rfl) flQ ?_))
            exact q0a rfl rfl q0b
        · obtain rfl:k=l'.length:=by omega
          rw [List.take_of_length_le (Nat.le_refl _)]
          (repeat ((try (conv=>whnf));(refine stQ ?_)))
          exact ⟨rfl,rfl⟩
end
end Go.Proofs.Ytegpkpilfgohhaa
namespace Go.Proofs.Ytegpkpilfgohhaa
open Go.RowKit
set_option maxRecDepth 20000
def triL (b0:Nat):Nat→LineD:=fun _=>⟨some ⟨b0,0,none⟩,3,3,fun i=>if i=2 then 4 else 0,fun i=>if i=0 then 0 else 4,false⟩
theorem q8z {G1 G2:Mem} {b0 b1:Nat} (h1:∀ (j:Nat) u,([.int .i64 0,.int .i64 0,.int .i64 0,.int .i64 4,.int .i64 4,.int .i64 4]:List Value)[j]? = some u→G1.cell? ⟨b0,j,none⟩=some u)
    (h2:∀ (j:Nat) u,([.slice (some ⟨b0,0,none⟩) 3 3,.bool false]:List Value)[j]? = some u→G2.cell? ⟨b1,j,none⟩=some u) (hle:G1.le G2):LinesM G2 (some ⟨b1,0,none⟩) 1 (triL b0):=by
  refine ⟨⟨fun x hx=>rfl,fun x hx=>⟨b1,0,rfl,fun j v hj=>?_⟩⟩,fun x hx=>⟨fun i hi=>rfl,fun i hi=>⟨b0,0,rfl,fun j v hj=>?_⟩⟩,fun x hx=>by simp [triL,maxLen]⟩
  · obtain rfl:x=0:=by omega
    simp only [Nat.zero_mul,Nat.zero_add]
    exact h2 j v hj
  · refine hle.cell ?_
    have hi3:i<3:=hi
    match i,hi3,j,hj with
    | 0,_,0,hj=>exact h1 0 v hj
    | 0,_,1,hj=>exact h1 1 v hj
    | 1,_,0,hj=>exact h1 2 v hj
    | 1,_,1,hj=>exact h1 3 v hj
    | 2,_,0,hj=>exact h1 4 v hj
    | 2,_,1,hj=>exact h1 5 v hj
theorem z65 (b0:Nat):q1v (triL b0) 1=true:=by kernel_rfl
theorem x0k (b0:Nat):q2y (triL b0) 0 1 1=1:=by kernel_rfl
theorem x0l (b0:Nat):q2y (triL b0) 1 1 1=0:=by kernel_rfl
theorem x0y (b0:Nat):q5t (triL b0) 1=16:=by kernel_rfl
set_option maxHeartbeats 4000000 in
theorem q9q {G:Mem}:Gives Try.prog 5 [] G (.val (.bool true)):=by
  refine q1n tab_ok Try.func5 ?_
  (repeat ((try (conv=>whnf));(first |(refine stQ ?_) |(with_reducible refine q0s tab_ok Try.func19 (fun vs w=>by kernel_rfl) (by rfl) ?_))))
  conv=>whnf
  refine q5j 0 1 (xs:=[.int .i64 0,.int .i64 0,.int .i64 0,.int .i64 4,.int .i64 4,.int .i64 4]) (fun vs w=>by kernel_rfl) rfl rfl rfl rfl rfl fun b0 G1 hG1 hc1=>?_
  conv=>whnf
  refine q62 1 (xs:=[.slice (some ⟨b0,0,none⟩) 3 3,.bool false]) (fun vs w=>by kernel_rfl) rfl rfl rfl fun b1 G2 hG2 hc2=>?_
  conv=>whnf
  have t1:=q8z hc1 hc2 hG2
  have g1:=q78 (c:=1) (x:=0) (y:=1) t1 (by simp [maxLen]) (z65 b0) (by simp [cntN,triL]) (by omega) (by omega)
  rw [x0k] at g1
  refine q0f (fun vs w=>by kernel_rfl) (by kernel_rfl) g1 ?_
  clear g1 t1 hc1 hc2
  (repeat ((try (conv=>whnf));(first |(refine stQ ?_) |(with_reducible refine q0s tab_ok Try.func19 (fun vs w=>by kernel_rfl) (by rfl) ?_))))
  conv=>whnf
  refine q5j 2 3 (xs:=[.int .i64 0,.int .i64 0,.int .i64 0,.int .i64 4,.int .i64 4,.int .i64 4]) (fun vs w=>by kernel_rfl) rfl rfl rfl rfl rfl fun b2 G3 hG3 hc3=>?_
  conv=>whnf
  refine q62 3 (xs:=[.slice (some ⟨b2,0,none⟩) 3 3,.bool false]) (fun vs w=>by kernel_rfl) rfl rfl rfl fun b3 G4 hG4 hc4=>?_
  conv=>whnf
  have t2:=q8z hc3 hc4 hG4
  have g2:=q78 (c:=1) (x:=1) (y:=1) t2 (by simp [maxLen]) (z65 b2) (by simp [cntN,triL]) (by omega) (by omega)
  rw [x0l] at g2
  refine q0f (fun vs w=>by kernel_rfl) (by kernel_rfl) g2 ?_
  clear g2 t2 hc3 hc4
  (repeat ((try (conv=>whnf));(first |(refine stQ ?_) |(with_reducible refine q0s tab_ok Try.func19 (fun vs w=>by kernel_rfl) (by rfl) ?_))))
  conv=>whnf
  refine q5j 4 5 (xs:=[.int .i64 0,.int .i64 0,.int .i64 0,.int .i64 4,.int .i64 4,.int .i64 4]) (fun vs w=>by kernel_rfl) rfl rfl rfl rfl rfl fun b4 G5 hG5 hc5=>?_
  conv=>whnf
  refine q62 5 (xs:=[.slice (some ⟨b4,0,none⟩) 3 3,.bool false]) (fun vs w=>by kernel_rfl) rfl rfl rfl fun b5 G6 hG6 hc6=>?_
  conv=>whnf
  have t3:=q8z hc5 hc6 hG6
  have g3:=z62 (c:=1) t3 (by simp [maxLen]) (z65 b4)
  rw [x0y] at g3
  refine q0f (fun vs w=>by kernel_rfl) (by kernel_rfl) g3 ?_
  clear g3 t3 hc5 hc6
  (repeat ((try (conv=>whnf));(first |(refine scQ ?_))))
  exact ⟨rfl,rfl⟩
end Go.Proofs.Ytegpkpilfgohhaa
