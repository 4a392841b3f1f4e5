/-
  Merged: XFlatCheck, XJoin, XSomeW.
-/
import Derived.Shelf.SlicesE.Clone
import Derived.Test.YtbkhpddodmbdoaaApart1
import Derived.Test.YtbkhpddodmbdoaaMrg13
import Derived.Test.YtbkhpddodmbdoaaMrg19
import Derived.Test.YtbkhpddodmbdoaaMrg20
import Derived.Test.YtbkhpddodmbdoaaMrg10
import Derived.Test.YtbkhpddodmbdoaaMrg18
set_option linter.unusedVariables false
set_option linter.unusedSimpArgs false
set_option linter.unnecessarySimpa false
namespace Go.Proofs.Ytbkhpddodmbdoaa
open Go.RowKit
set_option maxRecDepth 20000
theorem z8f {w h:Int} {n:Nat} {p:Nat→PcD} (h0:q11 (fun i=>pcE w h (p i)) n=0):∀ i,i<n→ValidL (p i).L∧(p i).L.length≠0∧(∀ r∈(p i).L,¬ outP w h r)∧¬ q19 (p i).I:=fun i hi=>by
  obtain ⟨h1,h2,h3,h4⟩:=z70 (q7y h0 i hi)
  exact ⟨q22 h1,h2,h3,h4⟩
section
variable {A:Option Addr} {n c:Nat} {p:Nat→PcD} {G:Mem} {w h:Int}
set_option maxHeartbeats 4000000 in
theorem q12 (hp:PcsM G A n p) (hm:n≤maxLen):Gives Try.prog 6 [.val (.int .i64 w),.val (.int .i64 h),.val (.slice A n c)] G (.val (.int .i64 (pcsE w h n p))):=by
  unfold maxLen at hm
  have gs:=z2d (w:=w) (h:=h) (G:=G)
  refine q1n tab_ok Try.func6 ?_
  unfold pcsE
  by_cases hz:(1≤w∧w≤256)∧(1≤h∧h≤256)
  · rw [decide_eq_true hz] at gs
    rw [if_neg (fun h=>h hz)]
    by_cases hn:4096<n
    · rw [if_pos hn]
      (repeat ((try (conv=>whnf));(first |(refine stQ ?_) |(with_reducible first |refine q0b (fun vs w=>by kernel_rfl) (by kernel_rfl) (gs) ?_ |refine q0a (fun vs w=>by kernel_rfl) (by kernel_rfl) (gs) ?_))))
      exact ⟨rfl,rfl⟩
    · rw [if_neg hn]
      have ga:=fun hv hne=>z8x (c:=c) hp (by omega) hv hne
      (repeat ((try (conv=>whnf));(first |(refine stQ ?_) |(with_reducible first |refine q0b (fun vs w=>by kernel_rfl) (by kernel_rfl) (gs) ?_ |refine q0a (fun vs w=>by kernel_rfl) (by kernel_rfl) (gs) ?_))))
      conv=>whnf
      refine q05 tab_ok (fun i=>i≤n∧q11 (fun i=>pcE w h (p i)) i=0) (fun (i:Nat)=>[(21,.val (.int .i64 i))]) (fun i=>[]) (fun i=>n-i) 0 ⟨Nat.zero_le _,rfl⟩ ?_ ?_
      · ((refine q0h ?_);(conv=>whnf);(refine q0k (by rfl) (by rfl) flQ ?_))
        exact q0g
      · rintro i ⟨hi,h0⟩
        rcases Nat.lt_or_ge i n with h1 |h1
        · obtain ⟨a,rfl,ca⟩:=hp.cells h1
          have hR:=hp.runs i h1
          have hroom:=hp.room i h1
          have gc:=q5u (c:=(p i).q) hR hroom.1 hroom.2
          have hfirst:pcE w h (p i)≠0→q11 (fun i=>pcE w h (p i)) n=pcE w h (p i):=fun e=>q83 (f:=fun i=>pcE w h (p i)) h0 e h1
          by_cases e1:errL (p i).L=0
          · rw [e1] at gc
            by_cases e2:(p i).L.length=0
            · have e:=z7x (w:=w) (h:=h) e1 e2
              have hf:=hfirst (by omega)
              rw [if_pos (by rw [hf];omega),hf,e]
              (repeat ((try (conv=>whnf));(first |(refine ca _ ?_) |(refine stQ ?_) |(with_reducible first |refine q0b (fun vs w=>by kernel_rfl) (by kernel_rfl) (gc) ?_ |refine q0a (fun vs w=>by kernel_rfl) (by kernel_rfl) (gc) ?_))))
              conv=>whnf
              exact ⟨rfl,rfl⟩
            · have hlen:=(q22 e1).length
              (repeat ((try (conv=>whnf));(first |(refine ca _ ?_) |(refine stQ ?_) |(with_reducible first |refine q0b (fun vs w=>by kernel_rfl) (by kernel_rfl) (gc) ?_ |refine q0a (fun vs w=>by kernel_rfl) (by kernel_rfl) (gc) ?_))))
              conv=>whnf
              refine q05 tab_ok (fun k=>k≤(p i).L.length∧∀ r∈(p i).L.take k,¬ outP w h r) (fun (k:Nat)=>[(38,.val (.int .i64 k))]) (fun k=>[.cells 29 (pcA (p i))]) (fun k=>(p i).L.length-k) 0 ⟨Nat.zero_le _,fun r hr=>by cases hr⟩ ?_ ?_
              · ((refine q0h ?_);(conv=>whnf);(refine q0k (by rfl) (by rfl) flQ ?_))
                exact q0f (by exact flQ) q0g
              · rintro k ⟨hk,hout⟩
                rcases Nat.lt_or_ge k (p i).L.length with h2 |h2
                · obtain ⟨r,hr⟩:∃ r,(p i).L[k]? = some r:=⟨_,List.getElem?_eq_getElem h2⟩
                  obtain ⟨b,hb,cb⟩:=hR.cells hr
                  have hbd:=(q22 e1).bd (List.mem_of_getElem? hr)
                  have htk:(p i).L.take (k+1)=(p i).L.take k++[r]:=by rw [List.take_add_one,hr];rfl
                  rw [hb]
                  have bad:outP w h r→q11 (fun i=>pcE w h (p i)) n=3:=fun ho=>by
                    have e:=z9v (w:=w) (h:=h) e1 e2 ⟨r,List.mem_of_getElem? hr,ho⟩
                    rw [hfirst (by omega),e]
                  by_cases o1:r.y<0
                  · rw [bad (.inl o1),if_pos (by omega)]
                    (repeat ((try (conv=>whnf));(first |(refine cb _ ?_) |(refine stQ ?_))))
                    conv=>whnf
                    exact ⟨rfl,rfl⟩
                  by_cases o2:16*h≤r.y
                  · rw [bad (.inr (.inl o2)),if_pos (by omega)]
                    (repeat ((try (conv=>whnf));(first |(refine cb _ ?_) |(refine stQ ?_))))
                    conv=>whnf
                    exact ⟨rfl,rfl⟩
                  by_cases o3:r.x0<0
                  · rw [bad (.inr (.inr (.inl o3))),if_pos (by omega)]
                    (repeat ((try (conv=>whnf));(first |(refine cb _ ?_) |(refine stQ ?_))))
                    conv=>whnf
                    exact ⟨rfl,rfl⟩
                  by_cases o4:16*w<r.x1
                  · rw [bad (.inr (.inr (.inr o4))),if_pos (by omega)]
                    (repeat ((try (conv=>whnf));(first |(refine cb _ ?_) |(refine stQ ?_))))
                    conv=>whnf
                    exact ⟨rfl,rfl⟩
                  · (repeat ((try (conv=>whnf));(first |(refine cb _ ?_) |(refine stQ ?_))))
                    conv=>whnf
                    refine ⟨k+1,⟨by omega,fun s hs=>?_⟩,by omega,?_⟩
                    · rw [htk,List.mem_append] at hs
                      rcases hs with hs |hs
                      · exact hout s hs
                      · simp at hs;subst hs;unfold outP;omega
                    · ((refine q0h ?_);(conv=>whnf);(refine q0k (by rfl) (by rfl) flQ ?_))
                      exact q0f (by exact flQ) q0g
                · obtain rfl:k=(p i).L.length:=by omega
                  rw [List.take_length] at hout
                  have e3:¬ ∃ r∈(p i).L,outP w h r:=fun ⟨r,h3,h4⟩=>hout r h3 h4
                  by_cases e4:q19 (p i).I
                  · have e:=z7y (w:=w) (h:=h) e1 e2 e3 e4
                    have hf:=hfirst (by omega)
                    rw [if_pos (by rw [hf];omega),hf,e]
                    unfold q19 at e4
                    (repeat ((try (conv=>whnf));(refine stQ ?_)))
                    conv=>whnf
                    exact ⟨rfl,rfl⟩
                  · have e:=z7z (w:=w) (h:=h) e1 e2 e3 e4
                    have hnz:=q4o e4
                    (repeat ((try (conv=>whnf));(first |(with_reducible refine q1j hnz ?_) |(refine stQ ?_))))
                    conv=>whnf
                    refine ⟨i+1,⟨by omega,q45 (f:=fun i=>pcE w h (p i)) h0 e⟩,by omega,?_⟩
                    ((refine q0h ?_);(conv=>whnf);(refine q0k (by rfl) (by rfl) flQ ?_))
                    exact q0g
          · have e:=z9u (w:=w) (h:=h) e1
            have hf:=hfirst (by omega)
            rw [if_pos (by rw [hf,e];exact e1),hf,e]
            (repeat ((try (conv=>whnf));(first |(refine ca _ ?_) |(refine stQ ?_) |(with_reducible first |refine q0b (fun vs w=>by kernel_rfl) (by kernel_rfl) (gc) ?_ |refine q0a (fun vs w=>by kernel_rfl) (by kernel_rfl) (gc) ?_))))
            conv=>whnf
            exact ⟨rfl,rfl⟩
        · obtain rfl:i=n:=by omega
          rw [if_neg (by omega)]
          have ga':=ga (fun k hk=>(z8f h0 k hk).1) (fun k hk=>(z8f h0 k hk).2.1)
          (repeat ((try (conv=>whnf));(first |(refine stQ ?_) |(with_reducible first |refine q0b (fun vs w=>by kernel_rfl) (by kernel_rfl) (ga') ?_ |refine q0a (fun vs w=>by kernel_rfl) (by kernel_rfl) (ga') ?_))))
          conv=>whnf
          exact ⟨rfl,rfl⟩
  · rw [decide_eq_false hz] at gs
    rw [if_pos hz]
    (repeat ((try (conv=>whnf));(first |(refine stQ ?_) |(with_reducible first |refine q0b (fun vs w=>by kernel_rfl) (by kernel_rfl) (gs) ?_ |refine q0a (fun vs w=>by kernel_rfl) (by kernel_rfl) (gs) ?_))))
    exact ⟨rfl,rfl⟩
end
end Go.Proofs.Ytbkhpddodmbdoaa
namespace Go.Proofs.Ytbkhpddodmbdoaa
open Go.RowKit Go.Shelf Go.Lib Go.Sort
set_option maxRecDepth 20000
noncomputable def runI:TypeInfo:=(Try.prog.info? 54).get (by kernel_rfl)
theorem z8y {A:Option Addr} {L:List Run} {c:Nat} {G:Mem} (h:RowM G A (q0o L)) (hl:L.length≤1000000000000) :
    q2j Try.prog 81 [.val (.slice A L.length c)] G id 54 3 L.length (q0o L):=by
  intro w vs hG ha
  simp only [AV.rels,AV.rel] at ha
  obtain ⟨v,ts,hvs,rfl,rfl⟩:=ha
  have e:vs=#[.slice A L.length c]:=Array.toList_inj.1 (by rw [hvs])
  subst e
  rcases h with ⟨rfl,h2⟩ |⟨b,off,rfl,h2⟩
  · have hn:L.length=0:=by have:=q1c L;rw [h2] at this;simp at this;omega
    refine (AnyE.slices_Clone_nil Try.cloneRun L.length c w).mono ?_
    rintro e w' ⟨rfl,rfl⟩
    refine ⟨_,.slice none 0 0,rfl,by simp only [id,AV.rel],?_,Below.refl _ _⟩
    rw [h2,hn]
    exact World.ownsRow_nil _ _ _ _
  · refine (AnyE.slices_Clone Try.cloneRun runI (.agg #[.int .i64 0,.int .i64 0,.int .i64 0]) 3 24 (by kernel_rfl) (by kernel_rfl) (by kernel_rfl) (by kernel_rfl) rfl (by decide) Try.sizeOf54 b off L.length c (q0o L) w (q1c L) (by unfold maxLen;omega) (by omega) (fun j u hj=>?_) z3x).mono ?_
    · exact hG.cell (h2 j u hj)
    · rintro e w' ⟨v',rfl,h3,_,h4⟩
      exact ⟨_,v',rfl,by simp only [id,AV.rel],h3,h4⟩
theorem z93:∀ (L:List Run),(∀ r∈L,(-1152921504606846976≤r.y∧r.y≤1152921504606846976)∧(-1152921504606846976≤r.x0∧r.x0≤1152921504606846976))→∃ l:List BRun,l.map BRun.r=L
  | [],_=>⟨[],rfl⟩
  | r::L,h=>by
    obtain ⟨l,hl⟩:=z93 L fun s hs=>h s (by simp [hs])
    have:=h r (by simp)
    exact ⟨⟨r,this.1,this.2⟩::l,by simp [hl]⟩
theorem x2t (l:List BRun):l.flatMap encB=q0o (l.map BRun.r):=by
  unfold q0o encB;rw [List.flatMap_map]
theorem lt_cmp {a b:BRun}:ltOf cmpB b a=false↔leR a.r b.r:=by
  unfold ltOf cmpB leR orI
  rw [decide_eq_false_iff_not]
  split <;> omega
theorem x49:SWO (ltOf cmpB) where
  irrefl x:=by rw [lt_cmp];unfold leR;omega
  trans x y z h1 h2:=by
    rw [← Bool.not_eq_false] at *
    rw [lt_cmp] at *
    unfold leR at *;omega
  ntrans x y z h1 h2:=by rw [lt_cmp] at *;unfold leR at *;omega
set_option maxHeartbeats 4000000 in
theorem z0a {A:Option Addr} {L:List Run} {c:Nat} {G:Mem} (h:RowM G A (q0o L)) (hb:∀ r∈L,(-1152921504606846976≤r.y∧r.y≤1152921504606846976)∧(-1152921504606846976≤r.x0∧r.x0≤1152921504606846976)) (hl:L.length≤1000000000000) :
    q2j Try.prog 66 [.val (.slice A L.length c)] G id 54 3 (q4v L).length (q0o (q4v L)):=by
  have hc:=z8y (c:=c) h hl
  obtain ⟨l,rfl⟩:=z93 L hb
  rw [← x2t,List.length_map] at hc
  rw [List.length_map] at hl
  refine q1y tab_ok Try.func66 (.alone fun _=>rfl) ?_
  rw [List.length_map]
  (repeat ((try (conv=>whnf));(refine stQ ?_)))
  conv=>whnf
  refine q15 (fun vs w=>by kernel_rfl) (.alone fun _=>rfl) (by kernel_rfl) hc ?_
  (repeat ((try (conv=>whnf));(refine stQ ?_)))
  conv=>whnf
  refine z2e Try.sortRun rfl (fun vs w=>by kernel_rfl) Try.isAgg54 Try.sizeOf54 (fun _=>rfl) (fun x v hv=>by simp [encB] at hv;rcases hv with rfl |rfl |rfl <;> rfl) x49 (fun vs w=>by kernel_rfl) x36 (by exact rfl) (by omega) fun l' hp hs=>?_
  (repeat ((try (conv=>whnf));(refine stQ ?_)))
  conv=>whnf
  have hpl:=hp.length_eq
  refine q33 tab_ok (fun i out=>i≤l'.length∧out=jn [] ((l'.map BRun.r).take i)) (fun (i:Nat) out=>[(12,.val (.int .i64 i))]) (fun i out=>[.own 54 3 l'.length (l'.flatMap encB),.cells 107 [.own 2],.own 54 3 out.length (q0o out)]) (fun i _=>l'.length-i) 0 [] ⟨Nat.zero_le _,rfl⟩ ?_ ?_
  · refine q3s 54 3 ?_
    conv=>whnf
    ((refine q0h ?_);(conv=>whnf);(refine q0k (by rfl) (by rfl) flQ ?_))
    exact q0e rfl rfl (q0f (by exact flQ) (q0e rfl rfl q0g))
  · rintro i out ⟨hi,ho⟩
    rcases Nat.lt_or_ge i l'.length with h1 |h1
    · obtain ⟨q,hq⟩:∃ q,l'[i]? = some q:=⟨l'[i],List.getElem?_eq_getElem h1⟩
      have hqr:(l'.map BRun.r)[i]? = some q.r:=by rw [List.getElem?_map,hq];rfl
      have hst:=z9o hqr
      rw [← ho] at hst
      have hol:out.length≤1000000000000:=by
        have:=z3v ((l'.map BRun.r).take i) []
        rw [← ho,List.length_take,List.length_map] at this
        simp at this;omega
      obtain ⟨c0,c1,c2⟩:=q3q hqr
      rw [← x2t] at c0 c1 c2
      have e3:∀ K:List Value→Prop,K [.int .i64 q.r.y,.int .i64 q.r.x0,.int .i64 q.r.x1]→OwnCells (l'.flatMap encB) ((i:Int).toNat * 3) 3 K:=fun K k=>q3f _ rfl (fun j u hj=>by
        rw [Int.toNat_natCast]
        match j,hj with
        | 0,hj=>simp at hj;subst hj;exact c0
        | 1,hj=>simp at hj;subst hj;exact c1
        | 2,hj=>simp at hj;subst hj;exact c2) k
      have hqy:=q.hy
      have hqx:=q.hx
      generalize hqq:q.r=s at *
      by_cases hx:s.x1≤s.x0
      · rw [q3y hx] at hst
        (repeat ((try (conv=>whnf));(first |(with_reducible refine e3 _ ?_) |(refine stQ ?_) |(with_reducible refine q0c tab_ok Try.func65 (fun vs w=>by kernel_rfl) (by rfl) ?_))))
        conv=>whnf
        refine ⟨i+1,out,⟨by omega,hst.symm⟩,by omega,?_⟩
        ((refine q0h ?_);(conv=>whnf);(refine q0k (by rfl) (by rfl) flQ ?_))
        exact q0e rfl rfl (q0f (by exact flQ) (q0e rfl rfl q0g))
      · rcases q2r out with hout |⟨K,r,hout⟩
        · have hlen:out.length=0:=by rw [hout];rfl
          rw [hout,q2m hx] at hst
          (repeat ((try (conv=>whnf));(first |(with_reducible refine e3 _ ?_) |(refine stQ ?_) |(with_reducible refine q0c tab_ok Try.func65 (fun vs w=>by kernel_rfl) (by rfl) ?_))))
          conv=>whnf
          refine ⟨i+1,[⟨s.y,s.x0,s.x1⟩],⟨by omega,hst.symm⟩,by omega,?_⟩
          refine q0y 5 2 rfl rfl rfl rfl ?_
          conv=>whnf
          ((refine q0h ?_);(conv=>whnf);(refine q0k (by rfl) (by rfl) flQ ?_))
          exact q0e rfl rfl (q0f (by exact flQ) (q0e (by simp only [hlen];rfl) (by rw [hout];rfl) q0g))
        · have hlen:out.length=K.length+1:=by rw [hout];simp
          have hix:(((out.length:Nat):Int)-1).toNat=K.length:=by omega
          obtain ⟨q0,q1,q2⟩:=q4n K r
          rw [← hout,← hix] at q0 q1 q2
          rw [← Nat.add_zero ((((out.length:Nat):Int)-1).toNat * 3)] at q0
          by_cases hj1:r.y=s.y
          · by_cases hj2:s.x0≤r.x1
            · rw [hout,q1r hx hj1 hj2] at hst
              (repeat ((try (conv=>whnf));(first |(with_reducible refine e3 _ ?_) |(refine q0i (.int .i64 r.y) q0 ?_) |(refine q0i (.int .i64 r.x1) q2 ?_) |(refine stQ ?_) |(with_reducible refine q0c tab_ok Try.func65 (fun vs w=>by kernel_rfl) (by rfl) ?_))))
              conv=>whnf
              refine mustP.mk (by rw [hix,q1c,hlen];simp;omega) ?_
              (repeat ((try (conv=>whnf));(first |(with_reducible refine e3 _ ?_) |(refine q0i (.int .i64 r.y) q0 ?_) |(refine q0i (.int .i64 r.x1) q2 ?_) |(refine stQ ?_) |(with_reducible refine q0c tab_ok Try.func65 (fun vs w=>by kernel_rfl) (by rfl) ?_))))
              conv=>whnf
              refine ⟨i+1,K++[⟨s.y,r.x0,max r.x1 s.x1⟩],⟨by omega,hst.symm⟩,by omega,?_⟩
              ((refine q0h ?_);(conv=>whnf);(refine q0k (by rfl) (by rfl) flQ ?_))
              exact q0e rfl rfl (q0f (by exact flQ) (q0e (by rw [hlen];simp) (by rw [hix,hout,← hj1];exact q53 K r _) q0g))
            · rw [hout,q1o hx (fun h=>hj2 h.2)] at hst
              (repeat ((try (conv=>whnf));(first |(with_reducible refine e3 _ ?_) |(refine q0i (.int .i64 r.y) q0 ?_) |(refine q0i (.int .i64 r.x1) q2 ?_) |(refine stQ ?_) |(with_reducible refine q0c tab_ok Try.func65 (fun vs w=>by kernel_rfl) (by rfl) ?_))))
              conv=>whnf
              refine ⟨i+1,K++[r]++[⟨s.y,s.x0,s.x1⟩],⟨by omega,hst.symm⟩,by omega,?_⟩
              refine q0y 5 2 rfl rfl rfl rfl ?_
              conv=>whnf
              ((refine q0h ?_);(conv=>whnf);(refine q0k (by rfl) (by rfl) flQ ?_))
              exact q0e rfl rfl (q0f (by exact flQ) (q0e (by rw [hlen];simp) (by rw [hout,q0x (K++[r])];rfl) q0g))
          · rw [hout,q1o hx (fun h=>hj1 h.1)] at hst
            (repeat ((try (conv=>whnf));(first |(with_reducible refine e3 _ ?_) |(refine q0i (.int .i64 r.y) q0 ?_) |(refine q0i (.int .i64 r.x1) q2 ?_) |(refine stQ ?_) |(with_reducible refine q0c tab_ok Try.func65 (fun vs w=>by kernel_rfl) (by rfl) ?_))))
            conv=>whnf
            refine ⟨i+1,K++[r]++[⟨s.y,s.x0,s.x1⟩],⟨by omega,hst.symm⟩,by omega,?_⟩
            refine q0y 5 2 rfl rfl rfl rfl ?_
            conv=>whnf
            ((refine q0h ?_);(conv=>whnf);(refine q0k (by rfl) (by rfl) flQ ?_))
            exact q0e rfl rfl (q0f (by exact flQ) (q0e (by rw [hlen];simp) (by rw [hout,q0x (K++[r])];rfl) q0g))
    · obtain rfl:i=l'.length:=by omega
      have he:jn [] ((l'.map BRun.r).take l'.length)=q4v (l.map BRun.r):=by
        rw [List.take_of_length_le (by simp)]
        refine z9p (hp.map _) ?_
        rw [List.pairwise_map]
        exact hs.imp fun h=>lt_cmp.1 h
      rw [he] at ho
      subst ho
      (repeat ((try (conv=>whnf));(refine stQ ?_)))
      conv=>whnf
      exact .inl ⟨2,rfl,rfl⟩
end Go.Proofs.Ytbkhpddodmbdoaa
namespace Go.Proofs.Ytbkhpddodmbdoaa
open Go.RowKit
set_option maxRecDepth 20000
set_option maxHeartbeats 4000000 in
theorem z6j {A:Option Addr} {w h:Int} {n c:Nat} {p:Nat→PcD} {G:Mem} (ok:PcsOk w h n p) (e0:pcsE w h n p=0) (hP:PcsM G A n p) :
    q2j Try.prog 51 [.val (.int .i64 w),.val (.int .i64 h),.val (.slice A n c)] G (q34 0) 54 3 (q2k p (fun _=>true) n).length (q0o (q2k p (fun _=>true) n)):=by
  have hn:=ok.few
  have gc:=q12 (c:=c) (w:=w) (h:=h) hP (by unfold maxLen;omega)
  rw [e0] at gc
  refine q1y tab_ok Try.func51 (q00 0) ?_
  (repeat ((try (conv=>whnf));(first |(refine stQ ?_) |(with_reducible first |refine q0b (fun vs w=>by kernel_rfl) (by kernel_rfl) (gc) ?_ |refine q0a (fun vs w=>by kernel_rfl) (by kernel_rfl) (gc) ?_ |refine q0c tab_ok Try.func56 (fun vs w=>by kernel_rfl) (by rfl) ?_))))
  conv=>whnf
  refine q05 tab_ok (fun m=>m≤n) (fun (m:Nat)=>[(10,.val (.int .i64 m)),(5,.own 0)]) (fun m=>[.own 54 3 (catL p (fun _=>true) m).length (q0o (catL p (fun _=>true) m))]) (fun m=>n-m) 0 (Nat.zero_le _) ?_ ?_
  · refine q3s 54 3 ?_
    conv=>whnf
    ((refine q0h ?_);(conv=>whnf);(refine q0k (by rfl) (by rfl) flQ ?_))
    exact q0e rfl rfl q0g
  · rintro m hm
    rcases Nat.lt_or_ge m n with h1 |h1
    · obtain ⟨a,rfl,ca⟩:=hP.cells h1
      have hR:=hP.runs m h1
      have hroom:=hP.room m h1
      have hl1:=ok.cat_len (sel:=fun _=>true) hm
      have hl2:=ok.short h1
      have hcat:catL p (fun _=>true) (m+1)=catL p (fun _=>true) m++(p m).L:=q97 rfl
      (repeat ((try (conv=>whnf));(first |(refine ca _ ?_) |(refine stQ ?_) |(with_reducible refine q0c tab_ok Try.func67 (fun vs w=>by kernel_rfl) (by rfl) ?_))))
      conv=>whnf
      refine hR.src ?_
      (repeat ((try (conv=>whnf));(refine stQ ?_)))
      conv=>whnf
      refine ⟨m+1,by omega,by omega,?_⟩
      rw [hcat]
      refine q0y 3 0 rfl rfl rfl rfl ?_
      conv=>whnf
      ((refine q0h ?_);(conv=>whnf);(refine q0k (by rfl) (by rfl) flQ ?_))
      exact q0e (by rw [List.length_append]) (by rw [q0x]) q0g
    · obtain rfl:m=n:=by omega
      have hl1:=ok.cat_len (sel:=fun _=>true) hm
      (repeat ((try (conv=>whnf));(refine stQ ?_)))
      conv=>whnf
      refine z1a (fun vs w=>by kernel_rfl) (by exact rfl) (by kernel_rfl) fun A1 c1 G1 hG1 hc1 hm1 hx1=>?_
      have mk:=z0a (c:=c1) hx1 (fun r hr=>by
        have:=ok.cat_bd hr
        have:=ok.wd
        have:=ok.ht
        omega) (by omega)
      conv=>whnf
      refine q15 (fun vs w=>by kernel_rfl) (.alone fun _=>rfl) (by kernel_rfl) mk ?_
      (repeat ((try (conv=>whnf));(refine stQ ?_)))
      conv=>whnf
      exact .inl ⟨1,rfl,rfl⟩
theorem z94 {I:Nat→Int} {key:Nat} {K:List AV→Prop} (hk:key<8) (h:K [.val (.int .u8 (I key))]):q8p [AV.val (.int .u8 (I 0)),.val (.int .u8 (I 1)),.val (.int .u8 (I 2)),.val (.int .u8 (I 3)),.val (.int .u8 (I 4)),.val (.int .u8 (I 5)),.val (.int .u8 (I 6)),.val (.int .u8 (I 7))] (0+(key:Int).toNat * 1) fun m=>q8o m 1 K:=by
  rw [Int.toNat_natCast,Nat.mul_one,Nat.zero_add]
  rcases lt8 hk with rfl |rfl |rfl |rfl |rfl |rfl |rfl |rfl <;> exact h
set_option maxHeartbeats 4000000 in
theorem z1j {A:Option Addr} {w h:Int} {n c key:Nat} {least:Int} {p:Nat→PcD} {G:Mem} (ok:PcsOk w h n p) (e0:pcsE w h n p=0) (hP:PcsM G A n p) (hk:key<8) (hl:1≤least∧least≤255) :
    q2j Try.prog 35 [.val (.int .i64 w),.val (.int .i64 h),.val (.slice A n c),.val (.int .i64 key),.val (.int .i64 least)] G (q34 0) 54 3 (q2k p (fun I=>decide (least≤I key)) n).length (q0o (q2k p (fun I=>decide (least≤I key)) n)):=by
  have hn:=ok.few
  have gc:=q12 (c:=c) (w:=w) (h:=h) hP (by unfold maxLen;omega)
  rw [e0] at gc
  refine q1y tab_ok Try.func35 (q00 0) ?_
  (repeat ((try (conv=>whnf));(first |(refine stQ ?_) |(with_reducible first |refine q0b (fun vs w=>by kernel_rfl) (by kernel_rfl) (gc) ?_ |refine q0a (fun vs w=>by kernel_rfl) (by kernel_rfl) (gc) ?_ |refine q0c tab_ok Try.func56 (fun vs w=>by kernel_rfl) (by rfl) ?_))))
  conv=>whnf
  refine q05 tab_ok (fun m=>m≤n) (fun (m:Nat)=>[(10,.val (.int .i64 m)),(5,.own 2)]) (fun m=>[.cells 3 [.val (.int .i64 key)],.cells 3 [.val (.int .i64 least)],.own 54 3 (catL p (fun I=>decide (least≤I key)) m).length (q0o (catL p (fun I=>decide (least≤I key)) m))]) (fun m=>n-m) 0 (Nat.zero_le _) ?_ ?_
  · refine q3s 54 3 ?_
    conv=>whnf
    ((refine q0h ?_);(conv=>whnf);(refine q0k (by rfl) (by rfl) flQ ?_))
    exact q0f (by exact flQ) (q0f (by exact flQ) (q0e rfl rfl q0g))
  · rintro m hm
    rcases Nat.lt_or_ge m n with h1 |h1
    · obtain ⟨a,rfl,ca⟩:=hP.cells h1
      have hR:=hP.runs m h1
      have hroom:=hP.room m h1
      have hl1:=ok.cat_len (sel:=fun I=>decide (least≤I key)) hm
      have hl2:=ok.short h1
      have hby:=hP.ink m h1 key
      by_cases hs:least≤(p m).I key
      · have hcat:catL p (fun I=>decide (least≤I key)) (m+1)=catL p (fun I=>decide (least≤I key)) m++(p m).L:=q97 (decide_eq_true hs)
        (repeat ((try (conv=>whnf));(first |(refine ca _ ?_) |(refine stQ ?_) |(with_reducible refine q0c tab_ok Try.func57 (fun vs w=>by kernel_rfl) (by rfl) ?_))))
        conv=>whnf
        refine z94 hk ?_
        conv=>whnf
        (repeat ((try (conv=>whnf));(refine stQ ?_)))
        conv=>whnf
        refine hR.src ?_
        (repeat ((try (conv=>whnf));(refine stQ ?_)))
        conv=>whnf
        refine ⟨m+1,by omega,by omega,?_⟩
        rw [hcat]
        refine q0y 5 2 rfl rfl rfl rfl ?_
        conv=>whnf
        ((refine q0h ?_);(conv=>whnf);(refine q0k (by rfl) (by rfl) flQ ?_))
        exact q0f (by exact flQ) (q0f (by exact flQ) (q0e (by rw [List.length_append]) (by rw [q0x]) q0g))
      · have hcat:catL p (fun I=>decide (least≤I key)) (m+1)=catL p (fun I=>decide (least≤I key)) m:=z4y (decide_eq_false hs)
        (repeat ((try (conv=>whnf));(first |(refine ca _ ?_) |(refine stQ ?_) |(with_reducible refine q0c tab_ok Try.func57 (fun vs w=>by kernel_rfl) (by rfl) ?_))))
        conv=>whnf
        refine z94 hk ?_
        conv=>whnf
        (repeat ((try (conv=>whnf));(refine stQ ?_)))
        conv=>whnf
        refine ⟨m+1,by omega,by omega,?_⟩
        rw [hcat]
        ((refine q0h ?_);(conv=>whnf);(refine q0k (by rfl) (by rfl) flQ ?_))
        exact q0f (by exact flQ) (q0f (by exact flQ) (q0e rfl rfl q0g))
    · obtain rfl:m=n:=by omega
      have hl1:=ok.cat_len (sel:=fun I=>decide (least≤I key)) hm
      (repeat ((try (conv=>whnf));(refine stQ ?_)))
      conv=>whnf
      refine z1a (fun vs w=>by kernel_rfl) (by exact rfl) (by kernel_rfl) fun A1 c1 G1 hG1 hc1 hm1 hx1=>?_
      have mk:=z0a (c:=c1) hx1 (fun r hr=>by
        have:=ok.cat_bd hr
        have:=ok.wd
        have:=ok.ht
        omega) (by omega)
      conv=>whnf
      refine q15 (fun vs w=>by kernel_rfl) (.alone fun _=>rfl) (by kernel_rfl) mk ?_
      (repeat ((try (conv=>whnf));(refine stQ ?_)))
      conv=>whnf
      exact .inl ⟨3,rfl,rfl⟩
end Go.Proofs.Ytbkhpddodmbdoaa
