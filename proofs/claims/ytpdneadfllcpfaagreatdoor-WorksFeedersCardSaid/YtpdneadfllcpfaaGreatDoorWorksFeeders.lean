/-
  WorksFeeders: the law's walk.
-/
import Derived.Test.YtpdneadfllcpfaaGreatDoorFeedM
set_option linter.unusedVariables false
set_option linter.unusedSimpArgs false
set_option linter.unnecessarySimpa false
namespace Go.Proofs.YtpdneadfllcpfaaGreatDoor.worksFeeders
open Go.RowKit Go.Deep
set_option maxRecDepth 20000
section
variable {G:Mem} {A:Option Addr} {n c:Nat} {d:Nat→ShD} {ups copies:Int} {num:Bool}
def z2e (d:Nat→ShD) (i k:Nat):Prop:=∃ x,x<k∧¬ (0≤(d i).st x∧(d i).st x≤2)
set_option maxHeartbeats 16000000 in
theorem body (hl:ShM G A n d) (hc:n≤c∧c≤maxLen) :
    q3f Tryz.prog tab 0 Tryz.f3 [.val (.slice A n c),.val (.int .i64 ups),.val (.int .i64 copies),.val (.bool num)] [] G fun v _ _=>v=.val (.bool true):=by
  have ho:=q97 (G:=G)
  have hnm:n≤9223372036854775807:=Nat.le_trans hc.1 hc.2
  by_cases h:(1≤ups∧ups≤2)∧1≤copies∧copies≤512
  · by_cases hn:1≤n∧n≤8
    · by_cases hb:badS n d
      · have hf:=z2w (num:=num) hl h hn hc hb
        (repeat ((try (conv=>whnf));(first |(refine stQ ?_) |(with_reducible first |refine q0m (fun vs w=>by kernel_rfl) (by kernel_rfl) (ho) ?_ |refine q0h (fun vs w=>by kernel_rfl) (by kernel_rfl) (ho) ?_ |refine q0m (fun vs w=>by kernel_rfl) (by kernel_rfl) (hf) ?_ |refine q0h (fun vs w=>by kernel_rfl) (by kernel_rfl) (hf) ?_ |refine q0v tab_ok Tryz.func6 (fun vs w=>by kernel_rfl) (by rfl) ?_))))
        conv=>whnf
        refine q8t tab_ok (fun (i:Nat) (f:Int)=>i≤n∧((f=0∧∀ x,x<i→¬ z2e d x (d x).n)∨f=14)) (fun i f=>[(12,.val (.int .i64 i)),(11,.val (.int .i64 f))]) (fun _ _=>[]) (fun i _=>n-i) 0 0 ⟨Nat.zero_le _,.inl ⟨rfl,fun x hx=>absurd hx (Nat.not_lt_zero _)⟩⟩ ?_ ?_
        · ((refine q0p ?_);(conv=>whnf);(refine q0x (by rfl) (by rfl) flQ ?_))
          exact q0l
        · rintro i f ⟨hi,hf2⟩
          rcases hf2 with ⟨rfl,hg⟩ |rfl
          · rcases Nat.lt_or_ge i n with h1 |h1
            · obtain ⟨pa,rfl,ca⟩:=hl.rows.cells h1
              obtain ⟨r1,r2⟩:=hl.room i h1
              have r3:(d i).n≤9223372036854775807:=Nat.le_trans r1 r2
              (repeat ((try (conv=>whnf));(first |(refine ca _ ?_) |(refine stQ ?_))))
              conv=>whnf
              refine q8t tab_ok (fun (k:Nat) (f:Int)=>k≤(d i).n∧((f=0∧¬ z2e d i k)∨f=14)) (fun k f=>[(13,.val (.int .i64 k)),(11,.val (.int .i64 f))]) (fun _ _=>[]) (fun k _=>(d i).n-k) 0 0 ⟨Nat.zero_le _,.inl ⟨rfl,fun ⟨x,hx,_⟩=>absurd hx (Nat.not_lt_zero _)⟩⟩ ?_ ?_
              · ((refine q0p ?_);(conv=>whnf);(refine q0x (by rfl) (by rfl) flQ ?_))
                exact q0l
              · rintro k f ⟨hk,hf3⟩
                rcases hf3 with ⟨rfl,hg2⟩ |rfl
                · rcases Nat.lt_or_ge k (d i).n with h2 |h2
                  · obtain ⟨pe,he,c1⟩:=(hl.els i h1).cell (j:=1) h2 rfl
                    rw [he] at ca
                    by_cases s1:0≤(d i).st k
                    · by_cases s2:(d i).st k≤2
                      · (repeat ((try (conv=>whnf));(first |(refine ca _ ?_) |(refine q1s _ c1 ?_) |(refine stQ ?_) |(with_reducible refine q0v tab_ok Tryz.func6 (fun vs w=>by kernel_rfl) (by rfl) ?_))))
                        conv=>whnf
                        refine ⟨k+1,0,⟨by omega,.inl ⟨rfl,fun ⟨x,hx,hs⟩=>?_⟩⟩,by omega,?_⟩
                        · rcases Nat.lt_or_ge x k with h5 |h5
                          · exact hg2 ⟨x,h5,hs⟩
                          · obtain rfl:x=k:=by omega
                            exact hs ⟨s1,s2⟩
                        · ((refine q0p ?_);(conv=>whnf);(refine q0x (by rfl) (by rfl) flQ ?_))
                          exact q0l
                      · (repeat ((try (conv=>whnf));(first |(refine ca _ ?_) |(refine q1s _ c1 ?_) |(refine stQ ?_) |(with_reducible refine q0v tab_ok Tryz.func6 (fun vs w=>by kernel_rfl) (by rfl) ?_))))
                        conv=>whnf
                        refine ⟨k+1,14,⟨by omega,.inr rfl⟩,by omega,?_⟩
                        ((refine q0p ?_);(conv=>whnf);(refine q0x (by rfl) (by rfl) flQ ?_))
                        exact q0l
                    · (repeat ((try (conv=>whnf));(first |(refine ca _ ?_) |(refine q1s _ c1 ?_) |(refine stQ ?_) |(with_reducible refine q0v tab_ok Tryz.func6 (fun vs w=>by kernel_rfl) (by rfl) ?_))))
                      conv=>whnf
                      refine ⟨k+1,14,⟨by omega,.inr rfl⟩,by omega,?_⟩
                      ((refine q0p ?_);(conv=>whnf);(refine q0x (by rfl) (by rfl) flQ ?_))
                      exact q0l
                  · obtain rfl:k=(d i).n:=by omega
                    (repeat ((try (conv=>whnf));(first |(refine ca _ ?_) |(refine stQ ?_))))
                    conv=>whnf
                    refine ⟨i+1,0,⟨by omega,.inl ⟨rfl,fun x hx=>?_⟩⟩,by omega,?_⟩
                    · rcases Nat.lt_or_ge x i with h5 |h5
                      · exact hg x h5
                      · obtain rfl:x=i:=by omega
                        exact hg2
                    · ((refine q0p ?_);(conv=>whnf);(refine q0x (by rfl) (by rfl) flQ ?_))
                      exact q0l
                · by_cases h2:k<(d i).n
                  · (repeat ((try (conv=>whnf));(first |(refine ca _ ?_) |(refine stQ ?_))))
                    conv=>whnf
                    refine ⟨i+1,14,⟨by omega,.inr rfl⟩,by omega,?_⟩
                    ((refine q0p ?_);(conv=>whnf);(refine q0x (by rfl) (by rfl) flQ ?_))
                    exact q0l
                  · (repeat ((try (conv=>whnf));(first |(refine ca _ ?_) |(refine stQ ?_))))
                    conv=>whnf
                    refine ⟨i+1,14,⟨by omega,.inr rfl⟩,by omega,?_⟩
                    ((refine q0p ?_);(conv=>whnf);(refine q0x (by rfl) (by rfl) flQ ?_))
                    exact q0l
            · exfalso
              obtain ⟨i',hi',k',hk',hs'⟩:=hb
              exact hg i' (by omega) ⟨k',hk',hs'⟩
          · by_cases h1:i<n
            · (repeat ((try (conv=>whnf));(refine stQ ?_)))
              conv=>whnf
              try simp
            · (repeat ((try (conv=>whnf));(refine stQ ?_)))
              conv=>whnf
              try simp
      · have hgood:∀ i,i<n→∀ k,k<(d i).n→0≤(d i).st k∧(d i).st k≤2:=fun i hi k hk=>Classical.byContradiction fun hs=>hb ⟨i,hi,k,hk,hs⟩
        have hmk:=q7t (num:=num) hl h hn hc hb
        (repeat ((try (conv=>whnf));(first |(refine stQ ?_) |(with_reducible first |refine q0m (fun vs w=>by kernel_rfl) (by kernel_rfl) (ho) ?_ |refine q0h (fun vs w=>by kernel_rfl) (by kernel_rfl) (ho) ?_))))
        conv=>whnf
        refine q5e (fun vs w=>by kernel_rfl) (by rfl) hmk ?_
        rintro wrap k0 xs M Q cq M2 hM ⟨rfl,rfl,B,rfl,hinv⟩ hM2 hnc hcm hF
        have hl2:=hl.mono (Mem.le_trans hM hM2)
        have hQ:=hF.els (sz:=1) (fun _ _=>rfl) (by omega)
        (repeat ((try (conv=>whnf));(first |(refine stQ ?_) |(with_reducible refine q0v tab_ok Tryz.func6 (fun vs w=>by kernel_rfl) (by rfl) ?_))))
        conv=>whnf
        refine q2f tab_ok (fun (i:Nat)=>i≤k0) (fun i=>[(12,.val (.int .i64 i)),(11,.val (.int .i64 0))]) (fun _=>[]) (fun i=>k0-i) 0 (Nat.zero_le _) ?_ ?_
        · ((refine q0p ?_);(conv=>whnf);(refine q0x (by rfl) (by rfl) flQ ?_))
          exact q0l
        · intro i hi
          rcases Nat.lt_or_ge i k0 with h1 |h1
          · obtain ⟨pa,rfl,ca⟩:=hl2.rows.cells h1
            obtain ⟨r1,r2⟩:=hl2.room i h1
            have r3:(d i).n≤9223372036854775807:=Nat.le_trans r1 r2
            (repeat ((try (conv=>whnf));(first |(refine ca _ ?_) |(refine stQ ?_))))
            conv=>whnf
            refine q2f tab_ok (fun (k:Nat)=>k≤(d i).n) (fun k=>[(13,.val (.int .i64 k)),(11,.val (.int .i64 0))]) (fun _=>[]) (fun k=>(d i).n-k) 0 (Nat.zero_le _) ?_ ?_
            · ((refine q0p ?_);(conv=>whnf);(refine q0x (by rfl) (by rfl) flQ ?_))
              exact q0l
            · intro k hk
              rcases Nat.lt_or_ge k (d i).n with h2 |h2
              · obtain ⟨pe,he,c1⟩:=(hl2.els i h1).cell (j:=1) h2 rfl
                rw [he] at ca
                obtain ⟨s1,s2⟩:=hgood i h1 k h2
                (repeat ((try (conv=>whnf));(first |(refine ca _ ?_) |(refine q1s _ c1 ?_) |(refine stQ ?_) |(with_reducible refine q0v tab_ok Tryz.func6 (fun vs w=>by kernel_rfl) (by rfl) ?_))))
                conv=>whnf
                refine ⟨k+1,by omega,by omega,?_⟩
                ((refine q0p ?_);(conv=>whnf);(refine q0x (by rfl) (by rfl) flQ ?_))
                exact q0l
              · obtain rfl:k=(d i).n:=by omega
                (repeat ((try (conv=>whnf));(first |(refine ca _ ?_) |(refine stQ ?_))))
                conv=>whnf
                refine ⟨i+1,by omega,by omega,?_⟩
                ((refine q0p ?_);(conv=>whnf);(refine q0x (by rfl) (by rfl) flQ ?_))
                exact q0l
          · obtain rfl:i=k0:=by omega
            (repeat ((try (conv=>whnf));(refine stQ ?_)))
            conv=>whnf
            refine q2f tab_ok (fun (x:Nat)=>x≤i) (fun x=>[(97,.val (.int .i64 x))]) (fun _=>[]) (fun x=>i-x) 0 (Nat.zero_le _) ?_ ?_
            · ((refine q0p ?_);(conv=>whnf);(refine q0x (by rfl) (by rfl) flQ ?_))
              exact q0l
            · intro x hx
              rcases Nat.lt_or_ge x i with h1 |h1
              · obtain ⟨pa,rfl,ca⟩:=hl2.rows.cells h1
                obtain ⟨pq,rfl,cq2⟩:=hQ.cells h1
                dsimp only [outC,plS] at cq2
                obtain ⟨r1,r2⟩:=hl2.room x h1
                have r3:(d x).n≤9223372036854775807:=Nat.le_trans r1 r2
                obtain ⟨hP,hPl,hPc⟩:=hinv.rows x h1
                dsimp only [plS] at hP hPl hPc
                have hP:=hP.mono hM2
                have hfin:=q28 (c:=copies.toNat) (u:=ups.toNat) (num:=num) (S:=(d x).st) (d x).n
                (repeat ((try (conv=>whnf));(first |(refine ca _ ?_) |(refine stQ ?_))))
                conv=>whnf
                refine q2f tab_ok (fun (k:Nat)=>k≤(d x).n) (fun k=>[(105,.val (.int .i64 k)),(15,.val (.int .i64 (q1z copies.toNat ups.toNat num (d x).st k).length))]) (fun _=>[]) (fun k=>(d x).n-k) 0 (Nat.zero_le _) ?_ ?_
                · ((refine q0p ?_);(conv=>whnf);(refine q0x (by rfl) (by rfl) flQ ?_))
                  exact q0l
                · intro k hk
                  rcases Nat.lt_or_ge k (d x).n with h2 |h2
                  · obtain ⟨pe,he,c1⟩:=(hl2.els x h1).cell (j:=1) h2 rfl
                    rw [he] at ca
                    have step:q1z copies.toNat ups.toNat num (d x).st (k+1)=q3j copies.toNat ups.toNat num (q1z copies.toNat ups.toNat num (d x).st k) ((d x).st k):=rfl
                    have hmono:=q7p (c:=copies.toNat) (u:=ups.toNat) (num:=num) (S:=(d x).st) (k:=k+1) ((d x).n-(k+1))
                    rw [show k+1+((d x).n-(k+1))=(d x).n by omega] at hmono
                    have hfl:=q28 (c:=copies.toNat) (u:=ups.toNat) (num:=num) (S:=(d x).st) k
                    generalize q1z copies.toNat ups.toNat num (d x).st k=acc at *
                    by_cases s1:(d x).st k=1
                    · rw [q3j,if_pos s1] at step
                      (repeat ((try (conv=>whnf));(first |(refine ca _ ?_) |(refine q1s _ c1 ?_) |(refine stQ ?_))))
                      conv=>whnf
                      refine ⟨k+1,by omega,by omega,?_⟩
                      rw [step]
                      ((refine q0p ?_);(conv=>whnf);(refine q0x (by rfl) (by rfl) flQ ?_))
                      exact q0l
                    · rw [q3j,if_neg s1] at step
                      (repeat ((try (conv=>whnf));(first |(refine ca _ ?_) |(refine q1s _ c1 ?_) |(refine stQ ?_))))
                      conv=>whnf
                      refine q2f tab_ok (fun u=>u≤ups.toNat) (fun (u:Nat)=>[(17,.val (.int .i64 u)),(15,.val (.int .i64 (q0r copies.toNat num (decide ((d x).st k=2)) acc u).length))]) (fun _=>[]) (fun u=>ups.toNat-u) 0 (Nat.zero_le _) ?_ ?_
                      · ((refine q0p ?_);(conv=>whnf);(refine q0x (by rfl) (by rfl) flQ ?_))
                        exact q0l
                      · intro u hu
                        have hfu:=q4a (num:=num) (sp:=decide ((d x).st k=2)) hfl u
                        have hful:=fun hx=>q48 (c:=copies.toNat) (num:=num) (sp:=decide ((d x).st k=2)) (a:=acc) (n:=u) hx (ups.toNat-u)
                        rw [show u+(ups.toNat-u)=ups.toNat by omega] at hful
                        have stepu:q0r copies.toNat num (decide ((d x).st k=2)) acc (u+1)=if (q0r copies.toNat num (decide ((d x).st k=2)) acc u).length<copies.toNat then q0r copies.toNat num (decide ((d x).st k=2)) acc u++[((if num=true then ((q0r copies.toNat num (decide ((d x).st k=2)) acc u).length:Int)+1 else 0),decide ((d x).st k=2))] else q0r copies.toNat num (decide ((d x).st k=2)) acc u:=rfl
                        have hpre:u<ups.toNat→q0r copies.toNat num (decide ((d x).st k=2)) acc (u+1) <+: q0r copies.toNat num (decide ((d x).st k=2)) acc ups.toNat:=fun hlt=>by
                          have:=q47 (c:=copies.toNat) (num:=num) (sp:=decide ((d x).st k=2)) (a:=acc) (n:=u+1) (ups.toNat-(u+1))
                          rwa [show u+1+(ups.toNat-(u+1))=ups.toNat by omega] at this
                        have hlast:u=ups.toNat→q0r copies.toNat num (decide ((d x).st k=2)) acc u=q0r copies.toNat num (decide ((d x).st k=2)) acc ups.toNat:=fun e=>by rw [e]
                        generalize q0r copies.toNat num (decide ((d x).st k=2)) acc u=cur at *
                        rcases Nat.lt_or_ge u ups.toNat with h3 |h3
                        · by_cases hfull:cur.length<copies.toNat
                          · rw [if_pos hfull] at stepu
                            have hp2:=(hpre h3).trans (by rw [step] at hmono;exact hmono)
                            rw [stepu] at hp2
                            have hget:=z3i hp2 (i:=cur.length) (x:=((if num=true then (cur.length:Int)+1 else 0),decide ((d x).st k=2))) (by simp)
                            have hlt:=(List.getElem?_eq_some_iff.1 hget).1
                            obtain ⟨a,ha,cP⟩:=q95 hP hget
                            rw [ha] at cq2
                            cases num <;>
                            · simp only [if_true,if_false,Bool.false_eq_true] at cP stepu
                              (repeat ((try (conv=>whnf));(first |(refine ca _ ?_) |(refine q1s _ c1 ?_) |(refine cq2 _ ?_) |(refine cP _ ?_) |(refine stQ ?_))))
                              conv=>whnf
                              rw [beq_self_eq_true]
                              (repeat ((try (conv=>whnf));(refine stQ ?_)))
                              conv=>whnf
                              refine ⟨u+1,by omega,by omega,?_⟩
                              rw [stepu,List.length_append,List.length_singleton]
                              ((refine q0p ?_);(conv=>whnf);(refine q0x (by rfl) (by rfl) flQ ?_))
                              exact q0l
                          · rw [hful hfull] at step
                            (repeat ((try (conv=>whnf));(refine stQ ?_)))
                            conv=>whnf
                            refine ⟨k+1,by omega,by omega,?_⟩
                            rw [step]
                            ((refine q0p ?_);(conv=>whnf);(refine q0x (by rfl) (by rfl) flQ ?_))
                            exact q0l
                        · have e:u=ups.toNat:=by omega
                          rw [← hlast e] at step
                          by_cases hfull:cur.length<copies.toNat
                          all_goals
                            (repeat ((try (conv=>whnf));(refine stQ ?_)))
                            conv=>whnf
                            refine ⟨k+1,by omega,by omega,?_⟩
                            rw [step]
                            ((refine q0p ?_);(conv=>whnf);(refine q0x (by rfl) (by rfl) flQ ?_))
                            exact q0l
                  · obtain rfl:k=(d x).n:=by omega
                    (repeat ((try (conv=>whnf));(first |(refine cq2 _ ?_) |(refine stQ ?_))))
                    conv=>whnf
                    refine ⟨x+1,by omega,by omega,?_⟩
                    ((refine q0p ?_);(conv=>whnf);(refine q0x (by rfl) (by rfl) flQ ?_))
                    exact q0l
              · obtain rfl:x=i:=by omega
                (repeat ((try (conv=>whnf));(refine stQ ?_)))
                conv=>whnf
                try simp
    · have hf:=z2v (num:=num) (A:=A) (c:=c) (G:=G) h hn hnm
      by_cases hn1:1≤n
      all_goals
        (repeat ((try (conv=>whnf));(first |(refine stQ ?_) |(with_reducible first |refine q0m (fun vs w=>by kernel_rfl) (by kernel_rfl) (ho) ?_ |refine q0h (fun vs w=>by kernel_rfl) (by kernel_rfl) (ho) ?_ |refine q0m (fun vs w=>by kernel_rfl) (by kernel_rfl) (hf) ?_ |refine q0h (fun vs w=>by kernel_rfl) (by kernel_rfl) (hf) ?_ |refine q0v tab_ok Tryz.func6 (fun vs w=>by kernel_rfl) (by rfl) ?_))))
        conv=>whnf
        refine q2n tab_ok ?_
        (repeat ((try (conv=>whnf));(refine stQ ?_)))
        conv=>whnf
        try simp
  · have hf:=z2u (num:=num) (A:=A) (n:=n) (c:=c) (G:=G) h
    rcases Nat.eq_zero_or_pos n with hn0 |hn0
    all_goals
      by_cases h1:1≤ups
      · by_cases h2:ups≤2
        · by_cases h3:1≤copies
          all_goals
            (repeat ((try (conv=>whnf));(first |(refine stQ ?_) |(with_reducible first |refine q0m (fun vs w=>by kernel_rfl) (by kernel_rfl) (ho) ?_ |refine q0h (fun vs w=>by kernel_rfl) (by kernel_rfl) (ho) ?_ |refine q0m (fun vs w=>by kernel_rfl) (by kernel_rfl) (hf) ?_ |refine q0h (fun vs w=>by kernel_rfl) (by kernel_rfl) (hf) ?_ |refine q0v tab_ok Tryz.func6 (fun vs w=>by kernel_rfl) (by rfl) ?_))))
            conv=>whnf
            refine q2n tab_ok ?_
            (repeat ((try (conv=>whnf));(refine stQ ?_)))
            conv=>whnf
            try simp
        · (repeat ((try (conv=>whnf));(first |(refine stQ ?_) |(with_reducible first |refine q0m (fun vs w=>by kernel_rfl) (by kernel_rfl) (ho) ?_ |refine q0h (fun vs w=>by kernel_rfl) (by kernel_rfl) (ho) ?_ |refine q0m (fun vs w=>by kernel_rfl) (by kernel_rfl) (hf) ?_ |refine q0h (fun vs w=>by kernel_rfl) (by kernel_rfl) (hf) ?_ |refine q0v tab_ok Tryz.func6 (fun vs w=>by kernel_rfl) (by rfl) ?_))))
          conv=>whnf
          refine q2n tab_ok ?_
          (repeat ((try (conv=>whnf));(refine stQ ?_)))
          conv=>whnf
          try simp
      · (repeat ((try (conv=>whnf));(first |(refine stQ ?_) |(with_reducible first |refine q0m (fun vs w=>by kernel_rfl) (by kernel_rfl) (ho) ?_ |refine q0h (fun vs w=>by kernel_rfl) (by kernel_rfl) (ho) ?_ |refine q0m (fun vs w=>by kernel_rfl) (by kernel_rfl) (hf) ?_ |refine q0h (fun vs w=>by kernel_rfl) (by kernel_rfl) (hf) ?_ |refine q0v tab_ok Tryz.func6 (fun vs w=>by kernel_rfl) (by rfl) ?_))))
        conv=>whnf
        refine q2n tab_ok ?_
        (repeat ((try (conv=>whnf));(refine stQ ?_)))
        conv=>whnf
        try simp
end
theorem walk (A0:Option Addr) (n0:Nat) (q0:Nat) (g0:Nat→Nat→Value) (a1:Int) (a2:Int) (a3:Bool) (w:World) (c0:n0≤q0) (m0:q0≤maxLen) (s0:SliceG Tryz.prog w 29 A0 n0 g0) (w1:(Lit.int .i64 a1).wf=true) (w2:(Lit.int .i64 a2).wf=true) :
    Calls Tryz.prog 3 #[.slice A0 n0 q0,.int .i64 a1,.int .i64 a2,.bool a3] w fun e w'=>e=.returned (.bool true)∧Below w.heap.size w w':=by
  obtain ⟨d,hl⟩:=z2x s0
  have h:=body (ups:=a1) (copies:=a2) (num:=a3) hl ⟨c0,m0⟩
  exact z3j tab_ok Tryz.func3 (q5r [.slice A0 n0 q0,.int .i64 a1,.int .i64 a2,.bool a3]) h
end Go.Proofs.YtpdneadfllcpfaaGreatDoor.worksFeeders
