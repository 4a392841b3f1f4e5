/-
  flat.apart.
-/
import Derived.Test.YtbkhpddodmbdoaaMrg21
set_option linter.unusedVariables false
set_option linter.unusedSimpArgs false
set_option linter.unnecessarySimpa false
namespace Go.Proofs.Ytbkhpddodmbdoaa
open Go.RowKit Go.Shelf Go.Lib Go.Sort
set_option maxRecDepth 20000
theorem z8e (r s:Run) (G:Mem) (b:Bool) (hb:b=true↔(r.y<s.y∨(r.y=s.y∧r.x0<s.x0))):Gives Try.prog 45 [.agg [.val (.int .i64 r.y),.val (.int .i64 r.x0),.val (.int .i64 r.x1)],.agg [.val (.int .i64 s.y),.val (.int .i64 s.x0),.val (.int .i64 s.x1)]] G (.val (.bool b)):=by
  refine q1n tab_ok Try.func45 ?_
  by_cases h1:r.y<s.y
  · obtain rfl:b=true:=by rw [hb];exact .inl h1
    (repeat ((try (conv=>whnf));(refine stQ ?_)))
    exact ⟨rfl,rfl⟩
  · by_cases h2:r.y=s.y
    · by_cases h3:r.x0<s.x0
      · obtain rfl:b=true:=by rw [hb];exact .inr ⟨h2,h3⟩
        (repeat ((try (conv=>whnf));(refine stQ ?_)))
        exact ⟨by simp [h3],rfl⟩
      · obtain rfl:b=false:=by rw [← Bool.not_eq_true,hb];omega
        (repeat ((try (conv=>whnf));(refine stQ ?_)))
        exact ⟨by simp [h3],rfl⟩
    · obtain rfl:b=false:=by rw [← Bool.not_eq_true,hb];omega
      (repeat ((try (conv=>whnf));(refine stQ ?_)))
      exact ⟨rfl,rfl⟩
abbrev pcA (p:PcD):List AV:=[.val (.slice p.A p.L.length p.q),.val (.int .u8 (p.I 0)),.val (.int .u8 (p.I 1)),.val (.int .u8 (p.I 2)),.val (.int .u8 (p.I 3)),.val (.int .u8 (p.I 4)),.val (.int .u8 (p.I 5)),.val (.int .u8 (p.I 6)),.val (.int .u8 (p.I 7))]
section
variable {A:Option Addr} {n c:Nat} {p:Nat→PcD} {G:Mem}
set_option maxHeartbeats 4000000 in
theorem z8x (h:PcsM G A n p) (hn:n≤5000) (hv:∀ i,i<n→ValidL (p i).L) (hne:∀ i,i<n→(p i).L.length≠0):Gives Try.prog 23 [.val (.slice A n c)] G (.val (.int .i64 (q11 (apE p) n))):=by
  refine x14 tab_ok Try.func23 ?_
  conv=>whnf
  (repeat ((try (conv=>whnf));(refine stQ ?_)))
  conv=>whnf
  refine q05 tab_ok (fun i=>i≤n) (fun (i:Nat)=>[(22,.val (.int .i64 i)),(3,.own 1)]) (fun i=>[.muts (fun _=>False),.own 76 4 (allP p i).length ((allP p i).flatMap encQ)]) (fun i=>n-i) 0 (Nat.zero_le _) ?_ ?_
  · refine q3s 76 4 ?_
    conv=>whnf
    ((refine q0h ?_);(conv=>whnf);(refine q0k (by rfl) (by rfl) flQ ?_))
    exact q0w (fun _ h=>h) (q0e rfl rfl q0g)
  · rintro i hi
    rcases Nat.lt_or_ge i n with h1 |h1
    · obtain ⟨a,rfl,ca⟩:=h.cells h1
      have hR:=h.runs i h1
      have hroom:=h.room i h1
      have hlen:=(hv i h1).length
      have hall:(allP p i).length≤i*268451840:=z2v fun k hk=>(hv k (by omega)).length
      (repeat ((try (conv=>whnf));(first |(refine ca _ ?_) |(refine stQ ?_))))
      conv=>whnf
      refine q05 tab_ok (fun k=>k≤(p i).L.length) (fun (k:Nat)=>[(30,.val (.int .i64 k)),(3,.own 1)]) (fun k=>[.muts (fun _=>False),.own 76 4 (allP p i++((p i).L.take k).map fun r=>(r,(i:Int))).length ((allP p i++((p i).L.take k).map fun r=>(r,(i:Int))).flatMap encQ),.cells 29 (pcA (p i))]) (fun k=>(p i).L.length-k) 0 (Nat.zero_le _) ?_ ?_
      · ((refine q0h ?_);(conv=>whnf);(refine q0k (by rfl) (by rfl) flQ ?_))
        exact q0w (fun _ h=>h) (q0e (by simp) (by simp) (q0f (by exact flQ) q0g))
      · rintro k hk
        rcases Nat.lt_or_ge k (p i).L.length with h2 |h2
        · obtain ⟨r,hr⟩:∃ r,(p i).L[k]? = some r:=⟨_,List.getElem?_eq_getElem h2⟩
          obtain ⟨b,hb,cb⟩:=hR.cells hr
          have htk:(p i).L.take (k+1)=(p i).L.take k++[r]:=by rw [List.take_add_one,hr];rfl
          have hlk:(allP p i++((p i).L.take k).map fun r=>(r,(i:Int))).length=(allP p i).length+k:=by simp;omega
          rw [hb]
          (repeat ((try (conv=>whnf));(first |(refine cb _ ?_) |(refine stQ ?_))))
          conv=>whnf
          refine ⟨k+1,by omega,by omega,?_⟩
          refine q0y 5 1 rfl rfl rfl rfl ?_
          conv=>whnf
          ((refine q0h ?_);(conv=>whnf);(refine q0k (by rfl) (by rfl) flQ ?_))
          exact q0w (fun _ h=>h) (q0e (by simp;omega) (by rw [htk];simp [encQ]) (q0f (by exact flQ) q0g))
        · obtain rfl:k=(p i).L.length:=by omega
          (repeat ((try (conv=>whnf));(refine stQ ?_)))
          conv=>whnf
          refine ⟨i+1,by omega,by omega,?_⟩
          ((refine q0h ?_);(conv=>whnf);(refine q0k (by rfl) (by rfl) flQ ?_))
          exact q0w (fun _ h=>h) (q0e (by simp [allP]) (by simp [allP]) q0g)
    · obtain rfl:i=n:=by omega
      clear hi
      have hall:(allP p i).length≤i*268451840:=z2v fun k hk=>(hv k (by omega)).length
      obtain ⟨l,hl⟩:∃ l:List Ow,l.map (fun o=>(o.r,o.p))=allP p i:=x4q _ fun e he=>by
        obtain ⟨k,h2,h3,h4⟩:=mem_allP.1 (show (e.1,e.2)∈allP p i from he)
        have:=(hv k (by omega)).bd h4
        omega
      have hll:(allP p i).length=l.length:=by rw [← hl];simp
      have hend:=fun {S:List Ow} (hp:S.Perm l) (hs:S.Pairwise leO) {j:Nat} (hj:j<i)=>x4a hl hp hs hv hj
      have hfl:(allP p i).flatMap encQ=l.flatMap encO:=by rw [← hl];exact x5p l
      have hpl:∀ o∈l,o.p<i:=fun o ho=>by
        have h1:(o.r,o.p)∈allP p i:=by rw [← hl];exact List.mem_map.2 ⟨o,ho,rfl⟩
        obtain ⟨k,h2,h3,h4⟩:=mem_allP.1 h1
        omega
      rw [hll,hfl]
      rw [hll] at hall
      clear hll hfl hl
      (repeat ((try (conv=>whnf));(refine stQ ?_)))
      conv=>whnf
      refine z2e Try.sortOwned rfl (fun vs w=>by kernel_rfl) Try.isAgg76 Try.sizeOf76 q4c (fun x v hv=>by simp [encO] at hv;rcases hv with rfl |rfl |rfl |rfl <;> rfl) x38 (fun vs w=>by kernel_rfl) x2p (by exact rfl) (by omega) fun S hp hs=>?_
      have hs':S.Pairwise leO:=hs.imp fun h=>lt_cmpO.1 h
      have hSl:=hp.length_eq
      have hpS:∀ o∈S,o.p<i:=fun o ho=>hpl o (hp.mem_iff.1 ho)
      (repeat ((try (conv=>whnf));(refine stQ ?_)))
      conv=>whnf
      refine q05 tab_ok (fun b=>b≤S.length) (fun (b:Nat)=>[(49,.val (.int .i64 b)),(9,.val (.int .i64 (rowS S b))),(10,.own 3)]) (fun b=>[.muts (fun _=>False),.own 76 4 S.length (S.flatMap encO),.own 4 1 i ((tAll i S b).map .bool),.own 76 4 (q50 S b).length ((q50 S b).flatMap encO)]) (fun b=>S.length-b) 0 (Nat.zero_le _) ?_ ?_
      · refine q3s 76 4 ?_
        conv=>whnf
        ((refine q0h ?_);(conv=>whnf);(refine q0k (by rfl) (by rfl) flQ ?_))
        refine q0w (fun _ h=>h) (q0e rfl rfl (q0e rfl ?_ (q0e rfl rfl q0g)))
        exact x2s i
      · rintro b hb
        rcases Nat.lt_or_ge b S.length with h1 |h1
        · obtain ⟨q,hq⟩:∃ q,S[b]? = some q:=⟨_,List.getElem?_eq_getElem h1⟩
          have hst:=x00 hs' hq
          by_cases hy:q.r.y=rowS S b
          · rw [if_neg (by simp [hy])] at hst
            have hlive:(q50 S b).length≤4000000000000:=by have:=x2r S b;omega
            (repeat ((try (conv=>whnf));(first |(refine q6w hq ?_) |(refine stQ ?_))))
            conv=>whnf
            refine z8w (fun vs w=>by kernel_rfl) rfl ?_
            conv=>whnf
            refine z56 hlive fun xs hx1 hx2=>?_
            rw [hst] at hx2 ⊢
            have hlb:=z1i S b
            have hlx:=hx1
            (repeat ((try (conv=>whnf));(refine stQ ?_)))
            conv=>whnf
            refine q05 tab_ok (fun j=>j≤(q1k S b).length) (fun (j:Nat)=>[(68,.val (.int .i64 j))]) (fun j=>[.muts (fun _=>False),.own 76 4 S.length (S.flatMap encO),.own 4 1 i ((marks (tAll i S b) q.p ((q1k S b).take j)).map .bool),.gone,.cells 76 [.val (.int .i64 q.r.y),.val (.int .i64 q.r.x0),.val (.int .i64 q.r.x1),.val (.int .i64 q.p)],.own 76 4 (q50 S b).length xs]) (fun j=>(q1k S b).length-j) 0 (Nat.zero_le _) ?_ ?_
            · ((refine q0h ?_);(conv=>whnf);(refine q0k (by rfl) (by rfl) flQ ?_))
              exact q0w (fun _ h=>h) (q0e rfl rfl (q0e rfl rfl (q0n (q0f (by exact flQ) (q0e rfl rfl q0g)))))
            · rintro j hj
              rcases Nat.lt_or_ge j (q1k S b).length with h2 |h2
              · obtain ⟨x,hx⟩:∃ x,(q1k S b)[j]? = some x:=⟨_,List.getElem?_eq_getElem h2⟩
                have hxp:=x.hp
                have hqp:=q.hp
                have hxi:max x.p q.p<i:=by
                  have g1:=hpS x (z6b (List.mem_of_getElem? hx))
                  have g2:=hpS q (List.mem_of_getElem? hq)
                  omega
                have htk:(q1k S b).take (j+1)=(q1k S b).take j++[x]:=by rw [List.take_add_one,hx];rfl
                (repeat ((try (conv=>whnf));(first |(refine z0d hx2 hx (by simp) ?_) |(refine stQ ?_))))
                conv=>whnf
                have hT:(marks (tAll i S b) q.p ((q1k S b).take j)).length=i:=by rw [z1h,q6x]
                refine ⟨by rw [List.length_map,hT];show (max x.p q.p).toNat * 1+1≤i;omega,?_⟩
                (repeat ((try (conv=>whnf));(refine stQ ?_)))
                conv=>whnf
                refine ⟨j+1,by omega,by omega,?_⟩
                ((refine q0h ?_);(conv=>whnf);(refine q0k (by rfl) (by rfl) flQ ?_))
                refine q0w (fun _ h=>h) (q0e rfl rfl (q0e rfl ?_ (q0n (q0f (by exact flQ) (q0e rfl rfl q0g)))))
                rw [htk,z4a,← z6a _ _ (by rw [hT];omega)]
                show List.take ((max x.p q.p).toNat * 1) _++_++List.drop ((max x.p q.p).toNat * 1+1) _=_
                rw [Nat.mul_one]
              · obtain rfl:j=(q1k S b).length:=by omega
                rw [List.take_length]
                (repeat ((try (conv=>whnf));(refine stQ ?_)))
                conv=>whnf
                refine ⟨⟨rfl,by rw [← hst];exact List.length_filter_le _ _,by show ((q1k S b).length+1)*32≤_;omega⟩,?_⟩
                (repeat ((try (conv=>whnf));(refine stQ ?_)))
                conv=>whnf
                refine ⟨b+1,by omega,by omega,?_⟩
                rw [z58 hq,q99 hq,z59 hq]
                refine q0y 7 3 rfl rfl rfl rfl ?_
                conv=>whnf
                ((refine q0h ?_);(conv=>whnf);(refine q0k (by rfl) (by rfl) flQ ?_))
                exact q0w (fun _ h=>h) (q0e rfl rfl (q0e rfl rfl (q0e (by simp) (by rw [hx2];simp [encO]) q0g)))
          · rw [if_pos (by simpa using hy)] at hst
            (repeat ((try (conv=>whnf));(first |(refine q6w hq ?_) |(refine stQ ?_))))
            conv=>whnf
            refine x02 (fun vs w=>by kernel_rfl) rfl (Nat.zero_le _) ?_
            conv=>whnf
            refine z56 (l:=[]) (by simp) fun xs hx1 hx2=>?_
            rw [hst] at hx2 ⊢
            have hlb:=z1i S b
            have hlx:=hx1
            (repeat ((try (conv=>whnf));(refine stQ ?_)))
            conv=>whnf
            refine q05 tab_ok (fun j=>j≤(q1k S b).length) (fun (j:Nat)=>[(68,.val (.int .i64 j))]) (fun j=>[.muts (fun _=>False),.own 76 4 S.length (S.flatMap encO),.own 4 1 i ((marks (tAll i S b) q.p ((q1k S b).take j)).map .bool),.gone,.cells 76 [.val (.int .i64 q.r.y),.val (.int .i64 q.r.x0),.val (.int .i64 q.r.x1),.val (.int .i64 q.p)],.own 76 4 ([]:List Ow).length xs]) (fun j=>(q1k S b).length-j) 0 (Nat.zero_le _) ?_ ?_
            · ((refine q0h ?_);(conv=>whnf);(refine q0k (by rfl) (by rfl) flQ ?_))
              exact q0w (fun _ h=>h) (q0e rfl rfl (q0e rfl rfl (q0n (q0f (by exact flQ) (q0e rfl rfl q0g)))))
            · rintro j hj
              rcases Nat.lt_or_ge j (q1k S b).length with h2 |h2
              · obtain ⟨x,hx⟩:∃ x,(q1k S b)[j]? = some x:=⟨_,List.getElem?_eq_getElem h2⟩
                have hxp:=x.hp
                have hqp:=q.hp
                have hxi:max x.p q.p<i:=by
                  have g1:=hpS x (z6b (List.mem_of_getElem? hx))
                  have g2:=hpS q (List.mem_of_getElem? hq)
                  omega
                have htk:(q1k S b).take (j+1)=(q1k S b).take j++[x]:=by rw [List.take_add_one,hx];rfl
                (repeat ((try (conv=>whnf));(first |(refine z0d hx2 hx (by simp) ?_) |(refine stQ ?_))))
                conv=>whnf
                have hT:(marks (tAll i S b) q.p ((q1k S b).take j)).length=i:=by rw [z1h,q6x]
                refine ⟨by rw [List.length_map,hT];show (max x.p q.p).toNat * 1+1≤i;omega,?_⟩
                (repeat ((try (conv=>whnf));(refine stQ ?_)))
                conv=>whnf
                refine ⟨j+1,by omega,by omega,?_⟩
                ((refine q0h ?_);(conv=>whnf);(refine q0k (by rfl) (by rfl) flQ ?_))
                refine q0w (fun _ h=>h) (q0e rfl rfl (q0e rfl ?_ (q0n (q0f (by exact flQ) (q0e rfl rfl q0g)))))
                rw [htk,z4a,← z6a _ _ (by rw [hT];omega)]
                show List.take ((max x.p q.p).toNat * 1) _++_++List.drop ((max x.p q.p).toNat * 1+1) _=_
                rw [Nat.mul_one]
              · obtain rfl:j=(q1k S b).length:=by omega
                rw [List.take_length]
                (repeat ((try (conv=>whnf));(refine stQ ?_)))
                conv=>whnf
                refine ⟨⟨rfl,by rw [← hst];exact List.length_filter_le _ _,by show ((q1k S b).length+1)*32≤_;omega⟩,?_⟩
                (repeat ((try (conv=>whnf));(refine stQ ?_)))
                conv=>whnf
                refine ⟨b+1,by omega,by omega,?_⟩
                rw [z58 hq,q99 hq,z59 hq]
                refine q0y 7 3 rfl rfl rfl rfl ?_
                conv=>whnf
                ((refine q0h ?_);(conv=>whnf);(refine q0k (by rfl) (by rfl) flQ ?_))
                exact q0w (fun _ h=>h) (q0e rfl rfl (q0e rfl rfl (q0e (by simp) (by rw [hx2];simp [encO]) q0g)))
        · obtain rfl:b=S.length:=by omega
          have hfin:=fun {j:Nat} (hj:j<i)=>hend hp hs' hj
          generalize hTT:tAll i S S.length=T at hfin
          have hTl:T.length=i:=by rw [← hTT];exact q6x i S _
          clear hTT
          (repeat ((try (conv=>whnf));(refine stQ ?_)))
          conv=>whnf
          refine z02 0 rfl rfl .u8 8 fun bm G1 S1 hbn hSb hSS hG1 hM1=>?_
          conv=>whnf
          (repeat ((try (conv=>whnf));(refine stQ ?_)))
          conv=>whnf
          have hle1:G.le G1:=fun c o hc=>by
            rw [hG1 c (fun e=>by rw [e,hbn] at hc;cases hc)];exact hc
          refine q84 tab_ok (ι:=Nat × Mem) (fun s=>s.1≤i∧q11 (apE p) s.1=0∧G.le s.2∧MapM .u8 8 s.2 bm (q85 p s.1)) (fun s=>match s with |(j,M)=>[(88,.val (.int .i64 j))]) (fun s=>[.muts S1,.gone,.own 4 1 i (T.map .bool),.gone]) (fun s=>s.2) (fun s=>i-s.1) (0,G1) ⟨Nat.zero_le _,rfl,hle1,hM1⟩ ?_ ?_
          · ((refine q0h ?_);(conv=>whnf);(refine q0k (by rfl) (by rfl) flQ ?_))
            exact q0w (fun _ h=>h) (q0n (q0e rfl rfl (q0n q0g)))
          · rintro ⟨j,M⟩ ⟨hj,h0,hle,hM⟩
            dsimp only at hj h0 hle hM ⊢
            have hMp:=h.mono hle
            rcases Nat.lt_or_ge j i with h2 |h2
            · obtain ⟨a,rfl,ca⟩:=hMp.cells h2
              have hfirst:=fun h=>q83 (n:=i) h0 h h2
              by_cases hs1:∃ k,k<j∧q3j (p j).I (p k).I
              · obtain ⟨v,hv⟩:∃ v,atV? (inkC (p j).I) (q85 p j)=some v:=by
                  cases e:atV? (inkC (p j).I) (q85 p j) with
                  | some v=>exact ⟨v,rfl⟩
                  | none =>
                    obtain ⟨k,k1,k2⟩:=hs1
                    exact absurd k2 (seen_none.1 e k k1)
                have htw:twP p j:=by
                  obtain ⟨k,k1,k2⟩:=hs1
                  exact ⟨k,k1,.inl (z4c k2)⟩
                have e7:=z32 htw
                rw [hfirst (by omega),e7]
                (repeat ((try (conv=>whnf));(first |(refine ca _ ?_) |(refine q4w q20 q2o q3u hM (q2p (p j).I) rfl hv ?_) |(refine stQ ?_))))
                conv=>whnf
                exact ⟨rfl,rfl⟩
              · have hn:atV? (inkC (p j).I) (q85 p j)=none:=seen_none.2 fun k hk hs=>hs1 ⟨k,hk,hs⟩
                obtain ⟨t,ht⟩:∃ t,T[j]? = some t:=⟨_,List.getElem?_eq_getElem (by omega)⟩
                have htc:(T.map Value.bool)[j]? = some (.bool t):=by rw [List.getElem?_map,ht];rfl
                have hft:=hfin h2
                rw [ht] at hft
                cases t with
                | true =>
                  have htw:twP p j:=by
                    obtain ⟨k,k1,k2⟩:=hft.1 rfl
                    exact ⟨k,k1,.inr k2⟩
                  have e7:=z32 htw
                  rw [hfirst (by omega),e7]
                  (repeat ((try (conv=>whnf));(first |(refine ca _ ?_) |(refine q7x q20 q2o q3u hM (q2p (p j).I) rfl hn ?_) |(refine q0i (.bool true) (by simpa using htc) ?_) |(refine stQ ?_))))
                  conv=>whnf
                  exact ⟨rfl,rfl⟩
                | false =>
                  have htw:¬ twP p j:=by
                    rintro ⟨k,k1,k2 |k2⟩
                    · exact hs1 ⟨k,k1,z4c k2⟩
                    · have:=hft.2 ⟨k,k1,k2⟩
                      simp at this
                  (repeat ((try (conv=>whnf));(first |(refine ca _ ?_) |(refine q7x q20 q2o q3u hM (q2p (p j).I) rfl hn ?_) |(refine q0i (.bool false) (by simpa using htc) ?_) |(refine stQ ?_))))
                  conv=>whnf
                  refine z2t 0 rfl hSb rfl rfl rfl rfl rfl q20 q2o hM (q2p (p j).I) hn fun G2 hG2 hM2=>?_
                  have hle2:G.le G2:=fun c o hc=>by
                    rw [hG2 c (fun e=>by rw [e,hbn] at hc;cases hc)];exact hle c o hc
                  have hMp2:=h.mono hle2
                  obtain ⟨a1,ha1,c1⟩:=q70 (hne j h2) (hMp2.runs j h2)
                  by_cases hj0:j=0
                  · subst hj0
                    have e0:=z06 htw (fun ho=>by unfold ordP at ho;omega)
                    (repeat ((try (conv=>whnf));(refine stQ ?_)))
                    conv=>whnf
                    refine ⟨(1,G2),⟨by omega,q45 h0 e0,hle2,hM2⟩,by dsimp only;omega,?_⟩
                    ((refine q0h ?_);(conv=>whnf);(refine q0k (by rfl) (by rfl) flQ ?_))
                    exact q0w (fun _ h=>h) (q0n (q0e rfl rfl (q0n q0g)))
                  · obtain ⟨m,rfl⟩:∃ m,j=m+1:=⟨j-1,by omega⟩
                    obtain ⟨a2,ha2,c2⟩:=q70 (hne m (by omega)) (hMp2.runs m (by omega))
                    obtain ⟨a3,ha3,hd⟩:=hMp2.head (show m<i by omega)
                    cases ha3
                    have hix:(((m+1:Nat):Int)-1).toNat=m:=by omega
                    rw [ha2,← hix] at hd
                    have hl1:0<(p (m+1)).L.length:=Nat.pos_of_ne_zero (hne _ h2)
                    have hl2:0<(p m).L.length:=Nat.pos_of_ne_zero (hne _ (by omega))
                    rw [← hix] at hl2
                    have hb:=fun b (h:b=true↔_)=>z8e (q1g (p (m+1)).L) (q1g (p m).L) G2 b h
                    have hod:ordP p (m+1)↔((q1g (p (m+1)).L).y<(q1g (p m).L).y∨((q1g (p (m+1)).L).y=(q1g (p m).L).y∧(q1g (p (m+1)).L).x0<(q1g (p m).L).x0)):=by
                      unfold ordP;rw [Nat.add_sub_cancel];simp
                    rw [ha1]
                    by_cases ho:ordP p (m+1)
                    · have e7:=z9w htw ho
                      have hb1:=hb true (by rw [← hod];simp [ho])
                      have hfst:=hfirst (by omega)
                      rw [e7] at hfst
                      rw [hfst]
                      (repeat ((try (conv=>whnf));(first |(refine c1 _ ?_) |(refine c2 _ ?_) |(refine q0d _ hd ?_) |(refine stQ ?_) |(with_reducible first |refine q0b (fun vs w=>by kernel_rfl) (by kernel_rfl) (hb1) ?_ |refine q0a (fun vs w=>by kernel_rfl) (by kernel_rfl) (hb1) ?_))))
                      conv=>whnf
                      exact ⟨rfl,rfl⟩
                    · have e7:=z06 htw ho
                      have hb1:=hb false (by rw [← hod];simp [ho])
                      (repeat ((try (conv=>whnf));(first |(refine c1 _ ?_) |(refine c2 _ ?_) |(refine q0d _ hd ?_) |(refine stQ ?_) |(with_reducible first |refine q0b (fun vs w=>by kernel_rfl) (by kernel_rfl) (hb1) ?_ |refine q0a (fun vs w=>by kernel_rfl) (by kernel_rfl) (hb1) ?_))))
                      conv=>whnf
                      refine ⟨(m+1+1,G2),⟨by omega,q45 h0 e7,hle2,hM2⟩,by dsimp only;omega,?_⟩
                      ((refine q0h ?_);(conv=>whnf);(refine q0k (by rfl) (by rfl) flQ ?_))
                      exact q0w (fun _ h=>h) (q0n (q0e rfl rfl (q0n q0g)))
            · obtain rfl:j=i:=by omega
              rw [h0]
              (repeat ((try (conv=>whnf));(refine stQ ?_)))
              conv=>whnf
              exact ⟨rfl,rfl⟩
end
end Go.Proofs.Ytbkhpddodmbdoaa
