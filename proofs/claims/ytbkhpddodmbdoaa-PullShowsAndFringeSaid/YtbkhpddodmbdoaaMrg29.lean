/-
  Merged: XPiecesR, XRunsSl, XPiecesM, XCut.
-/
import Derived.Test.YtbkhpddodmbdoaaMrg21
import Derived.Test.YtbkhpddodmbdoaaMrg22
import Derived.Test.YtbkhpddodmbdoaaMrg28
import Derived.Test.YtbkhpddodmbdoaaCombined
import Derived.Test.YtbkhpddodmbdoaaMrg9
import Derived.Test.YtbkhpddodmbdoaaMrg4
import Derived.Test.YtbkhpddodmbdoaaMrg11
import Derived.Test.YtbkhpddodmbdoaaMrg5
import Derived.Test.YtbkhpddodmbdoaaMrg8
set_option linter.unusedVariables false
set_option linter.unusedSimpArgs false
set_option linter.unnecessarySimpa false
namespace Go.Proofs.Ytbkhpddodmbdoaa
open Go.RowKit
set_option maxRecDepth 20000
theorem x4h {La Lb:List Run} (va:ValidL La) (vb:ValidL Lb):0<(mixR 1 La Lb).length↔z31 La Lb:=by
  obtain ⟨h1,h2⟩:=q44 (c:=1) va vb
  have key:∀ x y,hasR (mixR 1 La Lb) x y↔hasR La x y∧hasR Lb x y:=fun x y=>by
    rw [h2,← hasL_iff,← hasL_iff];simp [opB]
  constructor
  · intro h
    obtain ⟨r,hr⟩:∃ r,r∈mixR 1 La Lb:=List.exists_mem_of_length_pos h
    have:=q2v h1 hr
    have h3:hasR (mixR 1 La Lb) r.x0 r.y:=⟨r,hr,rfl,by omega,by omega⟩
    exact ⟨_,_,(key _ _).1 h3⟩
  · rintro ⟨x,y,h⟩
    obtain ⟨r,hr,_⟩:=(key x y).2 h
    exact List.length_pos_of_mem hr
section
variable {A:Option Addr} {n c:Nat} {p:Nat→PcD} {G:Mem} {w h:Int}
set_option maxHeartbeats 4000000 in
theorem q24 (hp:PcsM G A n p) (hm:n≤maxLen):Gives Try.prog 7 [.val (.int .i64 w),.val (.int .i64 h),.val (.slice A n c)] G (.val (.int .i64 (pcsE w h n p))):=by
  unfold maxLen at hm
  refine q1n tab_ok Try.func7 ?_
  unfold pcsE
  by_cases hz1:1≤w∧w≤256
  rotate_left
  · have g1:=q0l w 1 256 G false ⟨(fun h=>by cases h),fun h=>absurd h hz1⟩
    rw [if_pos (fun h=>hz1 h.1)]
    (repeat ((try (conv=>whnf));(first |(refine stQ ?_) |(with_reducible first |refine q0b (fun vs w=>by kernel_rfl) (by kernel_rfl) (g1) ?_ |refine q0a (fun vs w=>by kernel_rfl) (by kernel_rfl) (g1) ?_))))
    exact ⟨rfl,rfl⟩
  have g1:=q0l w 1 256 G true ⟨fun _=>hz1,fun _=>rfl⟩
  by_cases hz2:1≤h∧h≤256
  rotate_left
  · have g2:=q0l h 1 256 G false ⟨(fun h=>by cases h),fun h=>absurd h hz2⟩
    rw [if_pos (fun h=>hz2 h.2)]
    (repeat ((try (conv=>whnf));(first |(refine stQ ?_) |(with_reducible first |refine q0b (fun vs w=>by kernel_rfl) (by kernel_rfl) (g1) ?_ |refine q0a (fun vs w=>by kernel_rfl) (by kernel_rfl) (g1) ?_ |refine q0b (fun vs w=>by kernel_rfl) (by kernel_rfl) (g2) ?_ |refine q0a (fun vs w=>by kernel_rfl) (by kernel_rfl) (g2) ?_))))
    exact ⟨rfl,rfl⟩
  have g2:=q0l h 1 256 G true ⟨fun _=>hz2,fun _=>rfl⟩
  rw [if_neg (fun h=>h ⟨hz1,hz2⟩)]
  by_cases hn:4096<n
  · rw [if_pos hn]
    (repeat ((try (conv=>whnf));(first |(refine stQ ?_) |(with_reducible first |refine q0b (fun vs w=>by kernel_rfl) (by kernel_rfl) (g1) ?_ |refine q0a (fun vs w=>by kernel_rfl) (by kernel_rfl) (g1) ?_ |refine q0b (fun vs w=>by kernel_rfl) (by kernel_rfl) (g2) ?_ |refine q0a (fun vs w=>by kernel_rfl) (by kernel_rfl) (g2) ?_))))
    exact ⟨rfl,rfl⟩
  rw [if_neg hn]
  (repeat ((try (conv=>whnf));(first |(refine stQ ?_) |(with_reducible first |refine q0b (fun vs w=>by kernel_rfl) (by kernel_rfl) (g1) ?_ |refine q0a (fun vs w=>by kernel_rfl) (by kernel_rfl) (g1) ?_ |refine q0b (fun vs w=>by kernel_rfl) (by kernel_rfl) (g2) ?_ |refine q0a (fun vs w=>by kernel_rfl) (by kernel_rfl) (g2) ?_))))
  conv=>whnf
  refine q05 tab_ok (fun i=>i≤n∧q11 (fun i=>pcE w h (p i)) i=0) (fun (i:Nat)=>[(28,.val (.int .i64 i))]) (fun i=>[]) (fun i=>n-i) 0 ⟨Nat.zero_le _,rfl⟩ ?_ ?_
  · ((refine q0h ?_);(conv=>whnf);(refine q0k (by rfl) (by rfl) flQ ?_))
    exact q0g
  · rintro i ⟨hi,h0⟩
    rcases Nat.lt_or_ge i n with h1 |h1
    · obtain ⟨a,rfl,ch⟩:=hp.head h1
      obtain ⟨a',ha',ci⟩:=hp.inks h1
      cases ha'
      have hR:=hp.runs i h1
      have hroom:=hp.room i h1
      have gc:=q4j (c:=(p i).q) hR hroom.1 hroom.2
      have hfirst:pcE w h (p i)≠0→q11 (fun i=>pcE w h (p i)) n=pcE w h (p i):=fun e=>q83 (f:=fun i=>pcE w h (p i)) h0 e h1
      by_cases e1:errL (p i).L=0
      · rw [e1] at gc
        by_cases e2:(p i).L.length=0
        · have e:=z7x (w:=w) (h:=h) e1 e2
          have hf:=hfirst (by omega)
          rw [if_pos (by rw [hf];omega),hf,e]
          (repeat ((try (conv=>whnf));(first |(refine q0d _ ch ?_) |(refine stQ ?_) |(with_reducible first |refine q0b (fun vs w=>by kernel_rfl) (by kernel_rfl) (gc) ?_ |refine q0a (fun vs w=>by kernel_rfl) (by kernel_rfl) (gc) ?_))))
          conv=>whnf
          exact ⟨rfl,rfl⟩
        · have hlen:=(q22 e1).length
          (repeat ((try (conv=>whnf));(first |(refine q0d _ ch ?_) |(refine stQ ?_) |(with_reducible first |refine q0b (fun vs w=>by kernel_rfl) (by kernel_rfl) (gc) ?_ |refine q0a (fun vs w=>by kernel_rfl) (by kernel_rfl) (gc) ?_))))
          conv=>whnf
          refine q05 tab_ok (fun k=>k≤(p i).L.length∧∀ r∈(p i).L.take k,¬ outP w h r) (fun (k:Nat)=>[(53,.val (.int .i64 k))]) (fun k=>[]) (fun k=>(p i).L.length-k) 0 ⟨Nat.zero_le _,fun r hr=>by cases hr⟩ ?_ ?_
          · ((refine q0h ?_);(conv=>whnf);(refine q0k (by rfl) (by rfl) flQ ?_))
            exact q0g
          · rintro k ⟨hk,hout⟩
            rcases Nat.lt_or_ge k (p i).L.length with h2 |h2
            · obtain ⟨r,hr⟩:∃ r,(p i).L[k]? = some r:=⟨_,List.getElem?_eq_getElem h2⟩
              obtain ⟨b,hb,cb⟩:=hR.cells hr
              have hbd:=(q22 e1).bd (List.mem_of_getElem? hr)
              have htk:(p i).L.take (k+1)=(p i).L.take k++[r]:=by rw [List.take_add_one,hr];rfl
              rw [hb] at ch
              have bad:outP w h r→q11 (fun i=>pcE w h (p i)) n=3:=fun ho=>by
                have e:=z9v (w:=w) (h:=h) e1 e2 ⟨r,List.mem_of_getElem? hr,ho⟩
                rw [hfirst (by omega),e]
              by_cases o1:r.y<0
              · rw [bad (.inl o1),if_pos (by omega)]
                (repeat ((try (conv=>whnf));(first |(refine q0d _ ch ?_) |(refine cb _ ?_) |(refine stQ ?_))))
                conv=>whnf
                exact ⟨rfl,rfl⟩
              by_cases o2:16*h≤r.y
              · rw [bad (.inr (.inl o2)),if_pos (by omega)]
                (repeat ((try (conv=>whnf));(first |(refine q0d _ ch ?_) |(refine cb _ ?_) |(refine stQ ?_))))
                conv=>whnf
                exact ⟨rfl,rfl⟩
              by_cases o3:r.x0<0
              · rw [bad (.inr (.inr (.inl o3))),if_pos (by omega)]
                (repeat ((try (conv=>whnf));(first |(refine q0d _ ch ?_) |(refine cb _ ?_) |(refine stQ ?_))))
                conv=>whnf
                exact ⟨rfl,rfl⟩
              by_cases o4:16*w<r.x1
              · rw [bad (.inr (.inr (.inr o4))),if_pos (by omega)]
                (repeat ((try (conv=>whnf));(first |(refine q0d _ ch ?_) |(refine cb _ ?_) |(refine stQ ?_))))
                conv=>whnf
                exact ⟨rfl,rfl⟩
              · (repeat ((try (conv=>whnf));(first |(refine q0d _ ch ?_) |(refine cb _ ?_) |(refine stQ ?_))))
                conv=>whnf
                refine ⟨k+1,⟨by omega,fun s hs=>?_⟩,by omega,?_⟩
                · rw [htk,List.mem_append] at hs
                  rcases hs with hs |hs
                  · exact hout s hs
                  · simp at hs;subst hs;unfold outP;omega
                · ((refine q0h ?_);(conv=>whnf);(refine q0k (by rfl) (by rfl) flQ ?_))
                  exact q0g
            · obtain rfl:k=(p i).L.length:=by omega
              rw [List.take_length] at hout
              have e3:¬ ∃ r∈(p i).L,outP w h r:=fun ⟨r,h3,h4⟩=>hout r h3 h4
              by_cases e4:q19 (p i).I
              · have e:=z7y (w:=w) (h:=h) e1 e2 e3 e4
                have hf:=hfirst (by omega)
                rw [if_pos (by rw [hf];omega),hf,e]
                unfold q19 at e4
                (repeat ((try (conv=>whnf));(first |(refine ci _ ?_) |(refine stQ ?_))))
                conv=>whnf
                exact ⟨rfl,rfl⟩
              · have e:=z7z (w:=w) (h:=h) e1 e2 e3 e4
                have hnz:=q4o e4
                (repeat ((try (conv=>whnf));(first |(refine ci _ ?_) |(with_reducible refine q1j hnz ?_) |(refine stQ ?_))))
                conv=>whnf
                refine ⟨i+1,⟨by omega,q45 (f:=fun i=>pcE w h (p i)) h0 e⟩,by omega,?_⟩
                ((refine q0h ?_);(conv=>whnf);(refine q0k (by rfl) (by rfl) flQ ?_))
                exact q0g
      · have e:=z9u (w:=w) (h:=h) e1
        have hf:=hfirst (by omega)
        rw [if_pos (by rw [hf,e];exact e1),hf,e]
        (repeat ((try (conv=>whnf));(first |(refine q0d _ ch ?_) |(refine stQ ?_) |(with_reducible first |refine q0b (fun vs w=>by kernel_rfl) (by kernel_rfl) (gc) ?_ |refine q0a (fun vs w=>by kernel_rfl) (by kernel_rfl) (gc) ?_))))
        conv=>whnf
        exact ⟨rfl,rfl⟩
    · obtain rfl:i=n:=by omega
      rw [if_neg (by omega)]
      have hok:=z8f h0
      (repeat ((try (conv=>whnf));(refine stQ ?_)))
      conv=>whnf
      refine q05 tab_ok (fun j=>j≤i∧q11 (apE p) j=0) (fun (j:Nat)=>[(98,.val (.int .i64 j))]) (fun j=>[]) (fun j=>i-j) 0 ⟨Nat.zero_le _,rfl⟩ ?_ ?_
      · ((refine q0h ?_);(conv=>whnf);(refine q0k (by rfl) (by rfl) flQ ?_))
        exact q0g
      · rintro j ⟨hj,g0⟩
        rcases Nat.lt_or_ge j i with h2 |h2
        · have hfirst:=fun h=>q83 (n:=i) g0 h h2
          obtain ⟨a,rfl,cj⟩:=hp.head h2
          obtain ⟨a',ha',ij⟩:=hp.inks h2
          cases ha'
          (repeat ((try (conv=>whnf));(refine stQ ?_)))
          conv=>whnf
          refine q05 tab_ok (fun k=>k≤j∧∀ m,m<k→¬ (q3j (p m).I (p j).I∨z31 (p m).L (p j).L)) (fun (k:Nat)=>[(12,.val (.int .i64 k))]) (fun k=>[]) (fun k=>j-k) 0 ⟨Nat.zero_le _,fun m hm=>by omega⟩ ?_ ?_
          · ((refine q0h ?_);(conv=>whnf);(refine q0k (by rfl) (by rfl) flQ ?_))
            exact q0g
          · rintro k ⟨hk,hno⟩
            rcases Nat.lt_or_ge k j with h3 |h3
            · obtain ⟨a',ha',ck⟩:=hp.head (show k<i by omega)
              cases ha'
              obtain ⟨a',ha',ik⟩:=hp.inks (show k<i by omega)
              cases ha'
              by_cases hs:q3j (p k).I (p j).I
              · have e7:=z32 (p:=p) (i:=j) ⟨k,h3,.inl hs⟩
                rw [hfirst (by omega),e7]
                unfold q3j at hs
                (repeat ((try (conv=>whnf));(first |(refine q0d _ ck ?_) |(refine q0d _ cj ?_) |(refine ik _ ?_) |(refine ij _ ?_) |(refine stQ ?_))))
                conv=>whnf
                exact ⟨rfl,rfl⟩
              · have hns:=z5u hs
                have hmk:=z4x (p k).A (p j).A (p k).L (p j).L (p k).q (p j).q 1 G (hp.runs k (by omega)) (hp.runs j h2) (hok k (by omega)).1 (hok j h2).1
                have hlm:=(x0p (c:=1) (hok k (by omega)).1 (hok j h2).1).length
                have hmt:=x4h (hok k (by omega)).1 (hok j h2).1
                generalize mixR 1 (p k).L (p j).L=M at *
                by_cases hm:z31 (p k).L (p j).L
                · have e7:=z32 (p:=p) (i:=j) ⟨k,h3,.inr hm⟩
                  rw [hfirst (by omega),e7]
                  have hM:=hmt.2 hm
                  (repeat ((try (conv=>whnf));(first |(refine q0d _ ck ?_) |(refine q0d _ cj ?_) |(refine ik _ ?_) |(refine ij _ ?_) |(with_reducible refine q1j hns ?_) |(refine z0w (fun vs w=>by kernel_rfl) (.alone fun _=>rfl) (by kernel_rfl) hmk ?_) |(refine stQ ?_))))
                  conv=>whnf
                  exact ⟨rfl,rfl⟩
                · have hM:M.length=0:=by
                    rcases Nat.eq_zero_or_pos M.length with h |h
                    · exact h
                    · exact absurd (hmt.1 h) hm
                  (repeat ((try (conv=>whnf));(first |(refine q0d _ ck ?_) |(refine q0d _ cj ?_) |(refine ik _ ?_) |(refine ij _ ?_) |(with_reducible refine q1j hns ?_) |(refine z0w (fun vs w=>by kernel_rfl) (.alone fun _=>rfl) (by kernel_rfl) hmk ?_) |(refine stQ ?_))))
                  conv=>whnf
                  refine ⟨k+1,⟨by omega,fun m hm'=>?_⟩,by omega,?_⟩
                  · by_cases e:m=k
                    · subst e
                      exact fun h=>h.elim hs hm
                    · exact hno m (by omega)
                  · ((refine q0h ?_);(conv=>whnf);(refine q0k (by rfl) (by rfl) flQ ?_))
                    exact q0g
            · obtain rfl:k=j:=by omega
              have htw:¬ twP p k:=fun ⟨m,m1,m2⟩=>hno m m1 m2
              by_cases hj0:k=0
              · have e0:=z06 htw (fun ho=>by unfold ordP at ho;omega)
                (repeat ((try (conv=>whnf));(refine stQ ?_)))
                conv=>whnf
                refine ⟨k+1,⟨by omega,q45 g0 e0⟩,by omega,?_⟩
                ((refine q0h ?_);(conv=>whnf);(refine q0k (by rfl) (by rfl) flQ ?_))
                exact q0g
              · obtain ⟨m,rfl⟩:∃ m,k=m+1:=⟨k-1,by omega⟩
                obtain ⟨a3,ha3,hd⟩:=hp.head (show m<i by omega)
                cases ha3
                obtain ⟨a1,ha1,c1⟩:=q70 (hok (m+1) h2).2.1 (hp.runs (m+1) h2)
                obtain ⟨a2,ha2,c2⟩:=q70 (hok m (by omega)).2.1 (hp.runs m (by omega))
                have hl1:0<(p (m+1)).L.length:=Nat.pos_of_ne_zero (hok _ h2).2.1
                have hl2:0<(p m).L.length:=Nat.pos_of_ne_zero (hok _ (by omega)).2.1
                have hod:ordP p (m+1)↔((q1g (p (m+1)).L).y<(q1g (p m).L).y∨((q1g (p (m+1)).L).y=(q1g (p m).L).y∧(q1g (p (m+1)).L).x0<(q1g (p m).L).x0)):=by
                  unfold ordP;rw [Nat.add_sub_cancel];simp
                have hix:(((m+1:Nat):Int)-1).toNat=m:=by omega
                rw [ha1] at cj
                rw [ha2,← hix] at hd
                rw [← hix] at hl2
                by_cases ho:ordP p (m+1)
                · have e7:=z9w htw ho
                  rw [hfirst (by omega),e7]
                  rw [hod] at ho
                  rcases ho with ho |⟨ho1,ho2⟩
                  · (repeat ((try (conv=>whnf));(first |(refine q0d _ cj ?_) |(refine q0d _ hd ?_) |(refine c1 _ ?_) |(refine c2 _ ?_) |(refine s3Q ?_))))
                    conv=>whnf
                    exact ⟨rfl,rfl⟩
                  · (repeat ((try (conv=>whnf));(first |(refine q0d _ cj ?_) |(refine q0d _ hd ?_) |(refine c1 _ ?_) |(refine c2 _ ?_) |(refine s3Q ?_))))
                    conv=>whnf
                    exact ⟨rfl,rfl⟩
                · have e7:=z06 htw ho
                  rw [hod] at ho
                  have hnext:q11 (apE p) (m+1+1)=0:=q45 g0 e7
                  by_cases ho1:(q1g (p (m+1)).L).y=(q1g (p m).L).y
                  · (repeat ((try (conv=>whnf));(first |(refine q0d _ cj ?_) |(refine q0d _ hd ?_) |(refine c1 _ ?_) |(refine c2 _ ?_) |(refine s3Q ?_))))
                    conv=>whnf
                    refine ⟨m+1+1,⟨by omega,hnext⟩,by omega,?_⟩
                    ((refine q0h ?_);(conv=>whnf);(refine q0k (by rfl) (by rfl) flQ ?_))
                    exact q0g
                  · (repeat ((try (conv=>whnf));(first |(refine q0d _ cj ?_) |(refine q0d _ hd ?_) |(refine c1 _ ?_) |(refine c2 _ ?_) |(refine s3Q ?_))))
                    conv=>whnf
                    refine ⟨m+1+1,⟨by omega,hnext⟩,by omega,?_⟩
                    ((refine q0h ?_);(conv=>whnf);(refine q0k (by rfl) (by rfl) flQ ?_))
                    exact q0g
        · obtain rfl:j=i:=by omega
          rw [g0]
          (repeat ((try (conv=>whnf));(refine stQ ?_)))
          conv=>whnf
          exact ⟨rfl,rfl⟩
end
end Go.Proofs.Ytbkhpddodmbdoaa
namespace Go.Proofs.Ytbkhpddodmbdoaa
open Go.RowKit
set_option maxRecDepth 20000
section
variable {w:World} {A:Option Addr} {n:Nat}
theorem x5s {g:Nat→Nat→Value} (h:SliceG Try.prog w 54 A n g):RunsM (q8n w) A (q2s (fun x=>⟨valI (g x 0),valI (g x 1),valI (g x 2)⟩) n):=by
  have e3:Try.prog.cellsOf 54=3:=by kernel_rfl
  have ef:flat Try.prog 20 54=[.int .i64,.int .i64,.int .i64]:=by kernel_rfl
  intro i r hr
  have hi:i<n:=by have:=(List.getElem?_eq_some_iff.1 hr).1;simpa [q2s] using this
  have e:(⟨valI (g i 0),valI (g i 1),valI (g i 2)⟩:Run)=r:=by simpa [q2s,List.getElem?_range hi] using hr
  subst e
  have h0:=(h.int (j:=0) (k:=.i64) (by kernel_rfl) hi (by rw [ef];rfl)).1
  have h1:=(h.int (j:=1) (k:=.i64) (by kernel_rfl) hi (by rw [ef];rfl)).1
  have h2:=(h.int (j:=2) (k:=.i64) (by kernel_rfl) hi (by rw [ef];rfl)).1
  obtain ⟨b,off,hA,_,hc⟩:=h (by omega)
  rw [e3] at hc
  dsimp only
  rw [← h0,← h1,← h2]
  exact ⟨b,off,hA,(hc i hi).1 0 (by omega),(hc i hi).1 1 (by omega),(hc i hi).1 2 (by omega)⟩
end
end Go.Proofs.Ytbkhpddodmbdoaa
namespace Go.Proofs.Ytbkhpddodmbdoaa
open Go.RowKit Go.Deep
set_option maxRecDepth 20000
theorem q3m:flat Try.prog 20 29=[.slice 25,.int .u8,.int .u8,.int .u8,.int .u8,.int .u8,.int .u8,.int .u8,.int .u8]:=by kernel_rfl
theorem q4y:q4i Try.prog 20 29=true:=by kernel_rfl
theorem x5t:Try.prog.cellsOf 29=9:=by kernel_rfl
theorem x51:Try.prog.underlying 25=some (.slice 54):=Try.underlying25
theorem x52:0<Try.prog.cellsOf 54:=of_decide_eq_true (by kernel_rfl)
theorem q87 {z:Int} (h:(Lit.int .u8 z).wf=true):0≤z∧z≤255:=by
  simp [Lit.wf,IntKind.min,IntKind.max,IntKind.signed,IntKind.bits] at h
  omega
section
variable {w:World} {A:Option Addr} {n:Nat} {g:Nat→Nat→Value}
theorem x5i (h:SliceG Try.prog w 29 A n g) {x:Nat} (hx:x<n):∃ p:PcD,pcC p=[g x 0,g x 1,g x 2,g x 3,g x 4,g x 5,g x 6,g x 7,g x 8]∧RunsM (q8n w) p.A p.L∧(p.L.length≤p.q∧p.q≤maxLen)∧∀ j,0≤p.I j∧p.I j≤255:=by
  obtain ⟨m,h0⟩:=h.seen (j:=0) q4y hx (by rw [q3m];rfl)
  obtain ⟨B,k,c,gr,e0,r1,r2,hs⟩:=z3s x51 x52 h0
  have e1:=(h.int (j:=1) (k:=.u8) q4y hx (by rw [q3m];rfl))
  have e2:=(h.int (j:=2) (k:=.u8) q4y hx (by rw [q3m];rfl))
  have e3:=(h.int (j:=3) (k:=.u8) q4y hx (by rw [q3m];rfl))
  have e4:=(h.int (j:=4) (k:=.u8) q4y hx (by rw [q3m];rfl))
  have e5:=(h.int (j:=5) (k:=.u8) q4y hx (by rw [q3m];rfl))
  have e6:=(h.int (j:=6) (k:=.u8) q4y hx (by rw [q3m];rfl))
  have e7:=(h.int (j:=7) (k:=.u8) q4y hx (by rw [q3m];rfl))
  have e8:=(h.int (j:=8) (k:=.u8) q4y hx (by rw [q3m];rfl))
  have hR:=x5s hs
  refine ⟨⟨q2s (fun x=>⟨valI (gr x 0),valI (gr x 1),valI (gr x 2)⟩) k,B,c,fun j=>if j<8 then valI (g x (j+1)) else 0⟩,?_,hR,⟨by rw [z05];exact r1,r2⟩,fun j=>?_⟩
  · simp only [pcC,inkC,z05]
    rw [e0]
    simp [e1.1.symm,e2.1.symm,e3.1.symm,e4.1.symm,e5.1.symm,e6.1.symm,e7.1.symm,e8.1.symm]
  · dsimp only
    by_cases hj:j<8
    · rw [if_pos hj]
      match j,hj with
      | 0,_=>exact q87 e1.2
      | 1,_=>exact q87 e2.2
      | 2,_=>exact q87 e3.2
      | 3,_=>exact q87 e4.2
      | 4,_=>exact q87 e5.2
      | 5,_=>exact q87 e6.2
      | 6,_=>exact q87 e7.2
      | 7,_=>exact q87 e8.2
    · rw [if_neg hj];omega
theorem x53 (h:SliceG Try.prog w 29 A n g):∃ p:Nat→PcD,PcsM (q8n w) A n p:=by
  obtain ⟨p,hp⟩:=choose_lt (fun x hx=>x5i h hx)
  refine ⟨p,⟨⟨fun x hx=>rfl,fun x hx=>?_⟩,fun i hi=>(hp i hi).2.1,fun i hi=>(hp i hi).2.2.1,fun i hi=>(hp i hi).2.2.2⟩⟩
  obtain ⟨b,off,rfl,_,hc⟩:=h (by omega)
  rw [x5t] at hc
  refine ⟨b,off,rfl,fun j v hj=>?_⟩
  rw [(hp x hx).1] at hj
  match j,hj with
  | 0,hj=>simp at hj;subst hj;exact (hc x hx).1 0 (by omega)
  | 1,hj=>simp at hj;subst hj;exact (hc x hx).1 1 (by omega)
  | 2,hj=>simp at hj;subst hj;exact (hc x hx).1 2 (by omega)
  | 3,hj=>simp at hj;subst hj;exact (hc x hx).1 3 (by omega)
  | 4,hj=>simp at hj;subst hj;exact (hc x hx).1 4 (by omega)
  | 5,hj=>simp at hj;subst hj;exact (hc x hx).1 5 (by omega)
  | 6,hj=>simp at hj;subst hj;exact (hc x hx).1 6 (by omega)
  | 7,hj=>simp at hj;subst hj;exact (hc x hx).1 7 (by omega)
  | 8,hj=>simp at hj;subst hj;exact (hc x hx).1 8 (by omega)
end
end Go.Proofs.Ytbkhpddodmbdoaa
namespace Go.Proofs.Ytbkhpddodmbdoaa
open Go.RowKit
set_option maxRecDepth 20000
theorem q6e (x lo hi:Int) (h:-1000000≤lo∧lo≤hi∧hi≤1000000):∃ s:Int,(lo≤s∧s≤hi)∧∀ G,Gives Try.prog 10 [.val (.int .i64 x),.val (.int .i64 lo),.val (.int .i64 hi)] G (.val (.int .i64 s)):=by
  have h1:=Int.tmod_lt_of_pos x (show (0:Int)<hi-lo+1 by omega)
  have h2:-(hi-lo+1)<x.tmod (hi-lo+1):=Int.lt_tmod_of_pos x (by omega)
  have h3:=Int.tmod_lt_of_pos (x.tmod (hi-lo+1)+(hi-lo+1)) (show (0:Int)<hi-lo+1 by omega)
  have h4:0≤(x.tmod (hi-lo+1)+(hi-lo+1)).tmod (hi-lo+1):=Int.tmod_nonneg _ (by omega)
  refine ⟨lo+(x.tmod (hi-lo+1)+(hi-lo+1)).tmod (hi-lo+1),by omega,fun G=>?_⟩
  refine q1n tab_ok Try.func10 ?_
  (repeat ((try (conv=>whnf));(refine stQ ?_)))
  exact ⟨rfl,rfl⟩
end Go.Proofs.Ytbkhpddodmbdoaa
