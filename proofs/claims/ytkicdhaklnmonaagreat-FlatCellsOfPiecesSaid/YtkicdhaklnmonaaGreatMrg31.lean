/-
  Merged: XGatW, XArg3.
-/
import Derived.Test.YtkicdhaklnmonaaGreatMrg20
import Derived.Test.YtkicdhaklnmonaaGreatMrg19
import Derived.Test.YtkicdhaklnmonaaGreatMrg17
import Derived.Test.YtkicdhaklnmonaaGreatMrg18
import Derived.Test.YtkicdhaklnmonaaGreatMrg30
import Derived.Test.YtkicdhaklnmonaaGreatMrg14
set_option linter.unusedVariables false
set_option linter.unusedSimpArgs false
set_option linter.unnecessarySimpa false
namespace Go.Proofs.YtkicdhaklnmonaaGreat
open Go.RowKit
set_option maxRecDepth 20000
def ofR (c:Nat→List Int) (W N:Nat) (wrap:AV→AV) (n:Nat) (xs:List Value) (G1:Mem):Prop :=
  wrap=z56 0∧n=(gat c W N).length∧∃ B,xs=q0r (fun k=>pcC (gatP (gat c W N) B k)) n∧∀ k p,(gat c W N)[k]? = some p→(gatP (gat c W N) B k).L=p.2∧(gatP (gat c W N) B k).L.length≤(gatP (gat c W N) B k).q∧(gatP (gat c W N) B k).q≤maxLen∧RunsM G1 (gatP (gat c W N) B k).A (gatP (gat c W N) B k).L
theorem GatM.pieceF {G0:Mem} {E:TypeId} {bm:Nat} {S:Nat→Prop} {M:Mem} {gs:List Pc} {B:Nat→Value} (h:GatM G0 E bm S M gs B) {k:Nat} {p:Pc} (hk:gs[k]? = some p):RunsM (M.minus G0) (gatP gs B k).A (gatP gs B k).L:=by
  have hL:(gatP gs B k).L=p.2:=by simp [gatP,hk]
  have hr:RowS S (M.minus G0) E 3 (B k) p.2.length (q0q p.2):=(h.rows k p hk).of (fun _ h=>h) fun b hb=>Mem.minus_at (h.free k b (List.getElem?_eq_some_iff.1 hk).1 hb).1
  obtain ⟨A,c,e,h1,h2⟩:=hr.isSl
  have eA:(gatP gs B k).A=A:=by simp [gatP,e,slA]
  rw [hL,eA]
  rw [e] at hr
  have hF:=hr.flat
  intro i r hi
  obtain ⟨q0,q1,q2⟩:=q3k hi
  rcases hF with ⟨_,h0⟩ |⟨b,off,rfl,h3⟩
  · rw [h0] at q0;simp at q0
  · exact ⟨b,off,rfl,by simpa using h3 _ _ q0,by simpa [Nat.add_assoc] using h3 _ _ q1,by simpa [Nat.add_assoc] using h3 _ _ q2⟩
set_option maxHeartbeats 4000000 in
theorem x40 {A:Option Addr} {w h W N c:Nat} {J:Nat→Nat→Int} {G:Mem} (hw:1≤w∧w≤256) (hh:1≤h∧h≤256) (hW:W=16*w) (hN:N=16*h*W) (hN4:N≤4096) (hc:N≤c∧c≤maxLen) (hE:ElsM G A 8 N fun i=>inkC (J i)) :
    MakesX Tryz.prog 15 [.val (.int .i64 w),.val (.int .i64 h),.val (.slice A N c)] G 35 9 (fun wrap n xs G1=>ofR (fun i=>vecI (J i)) W N wrap n xs (G1.minus G)):=by
  have gs:∀ G,Gives Tryz.prog 35 [.val (.int .i64 w),.val (.int .i64 h)] G (.val (.bool true)):=fun G=>by
    have h1:=z0t (w:=(w:Int)) (h:=(h:Int)) (G:=G)
    rwa [decide_eq_true (by omega)] at h1
  have hW0:0<W:=by omega
  unfold maxLen at hc
  have eN:(256:Int)*(w:Int)*(h:Int)=(N:Int):=by
    rw [hN,hW];push_cast
    rw [show (16:Int)*h*(16*w)=256*w*h by
      rw [Int.mul_comm 16 (h:Int),Int.mul_assoc,← Int.mul_assoc 16 16,Int.mul_comm (h:Int)];rfl]
  refine z6b tab_ok Tryz.func15 ?_
  have gs0:=gs G
  (repeat ((try (conv=>whnf));(first |(refine stQ ?_) |(with_reducible first |refine q0e (fun vs w=>by kernel_rfl) (by kernel_rfl) (gs0) ?_ |refine q0d (fun vs w=>by kernel_rfl) (by kernel_rfl) (gs0) ?_ |refine q0g tab_ok Tryz.func36 (fun vs w=>by kernel_rfl) (by rfl) ?_))))
  conv=>whnf
  refine z24 0 rfl rfl .u8 8 fun bm G1 S1 hbn hSb hSS hG1 hM1=>?_
  conv=>whnf
  (repeat ((try (conv=>whnf));(refine stQ ?_)))
  conv=>whnf
  have hle1:G.le G1:=fun b o hb=>by
    rw [hG1 b (fun e=>by rw [e,hbn] at hb;cases hb)];exact hb
  have hg0:GatM G 78 bm S1 G1 (gat (fun i=>vecI (J i)) W 0) (fun _=>.slice none 0 0) :=
    ⟨hle1,fun k p hk=>by simp [gat] at hk,fun k l b hk=>by simp [gat] at hk,fun k b hk=>by simp [gat] at hk,hM1,hSb,hbn⟩
  refine q64 tab_ok (ι:=Nat × GSt) (fun s=>s.1≤16*h∧GatM G 78 bm s.2.S s.2.M (gat (fun i=>vecI (J i)) W (s.1*W)) s.2.B) (fun s=>match s with |(y,_)=>[(24,.val (.int .i64 y))])
    (fun s=>[.muts s.2.S,.cells 103 [.val (.map (some bm)),.own 2,.own 3,.val (.bool false)],.own 106 1 (gat (fun i=>vecI (J i)) W (s.1*W)).length (q0r (fun k=>[s.2.B k]) (gat (fun i=>vecI (J i)) W (s.1*W)).length),.own 33 8 (gat (fun i=>vecI (J i)) W (s.1*W)).length (q0r (fun k=>inkC (keyI (gat (fun i=>vecI (J i)) W (s.1*W)) k)) (gat (fun i=>vecI (J i)) W (s.1*W)).length)])
    (fun s=>s.2.M) (fun s=>16*h-s.1) (0,⟨S1,fun _=>.slice none 0 0,G1⟩) ⟨Nat.zero_le _,by rw [Nat.zero_mul];exact hg0⟩ ?_ ?_
  · refine q4b 106 1 ?_
    conv=>whnf
    refine q4b 33 8 ?_
    conv=>whnf
    ((refine q0h ?_);(conv=>whnf);(refine q0k (by rfl) (by rfl) flQ ?_))
    exact q0o (fun _ h=>h) (q0a (by exact flQ) (q0c (by simp [gat]) (by simp [gat,q0r]) (q0c (by simp [gat]) (by simp [gat,q0r]) q0f)))
  · rintro ⟨y,st⟩ ⟨hy,hg⟩
    dsimp only at hy hg ⊢
    rcases Nat.lt_or_ge y (16*h) with h1 |h1
    · have e1:(y:Int)*16*(w:Int)=((y*W:Nat):Int):=by rw [hW];push_cast;rw [Int.mul_assoc]
      have e2:((y:Int)+1)*16*(w:Int)=((y*W+W:Nat):Int):=by rw [hW];push_cast;rw [Int.mul_assoc,Int.add_mul,Int.one_mul]
      have hyW:y*W+W≤N:=by
        rw [hN]
        have:=Nat.mul_le_mul_right W (show y+1≤16*h by omega)
        rw [Nat.add_mul,Nat.one_mul] at this;exact this
      (repeat ((try (conv=>whnf));(first |(refine stQ ?_) |(with_reducible refine q0g tab_ok Tryz.func37 (fun vs w=>by kernel_rfl) (by rfl) ?_))))
      conv=>whnf
      generalize hA2:(if c=((y:Int)*16*(w:Int)).toNat then A else _)=A2
      generalize hn2:(((y:Int)+1)*16*(w:Int)).toNat-((y:Int)*16*(w:Int)).toNat=n2
      obtain rfl:n2=W:=by omega
      have hE2:ElsM G A2 8 n2 fun x=>inkC (J (y*n2+x)):=by
        have h3:=hE.drop (k:=y*n2) (by omega)
        rw [← hA2,if_neg (by omega),e1]
        exact h3.less (by omega)
      clear hA2 hn2
      generalize hc2:c-((y:Int)*16*(w:Int)).toNat=c2
      clear hc2
      refine q64 tab_ok (ι:=Nat × GSt) (fun s=>s.1≤n2∧GatM G 78 bm s.2.S s.2.M (gat (fun i=>vecI (J i)) n2 (y*n2+s.1)) s.2.B) (fun s=>match s with |(x,_)=>[(6,.val (.int .i64 x))])
        (fun s=>[.muts s.2.S,.cells 103 [.val (.map (some bm)),.own 4,.own 5,.val (.bool false)],.gone,.gone,.own 106 1 (gat (fun i=>vecI (J i)) n2 (y*n2+s.1)).length (q0r (fun k=>[s.2.B k]) (gat (fun i=>vecI (J i)) n2 (y*n2+s.1)).length),.own 33 8 (gat (fun i=>vecI (J i)) n2 (y*n2+s.1)).length (q0r (fun k=>inkC (keyI (gat (fun i=>vecI (J i)) n2 (y*n2+s.1)) k)) (gat (fun i=>vecI (J i)) n2 (y*n2+s.1)).length)])
        (fun s=>s.2.M) (fun s=>n2-s.1) (0,st) ⟨Nat.zero_le _,hg⟩ ?_ ?_
      · refine z6p 2 rfl ?_
        conv=>whnf
        refine z6p 3 rfl ?_
        conv=>whnf
        ((refine q0h ?_);(conv=>whnf);(refine q0k (by rfl) (by rfl) flQ ?_))
        exact q0o (fun _ h=>h) (q0a (by exact flQ) (q0j (q0j (q0c rfl rfl (q0c rfl rfl q0f)))))
      · rintro ⟨x,st⟩ ⟨hx,hg⟩
        dsimp only at hx hg ⊢
        have hE3:=hE2.mono hg.le
        rcases Nat.lt_or_ge x n2 with h2 |h2
        · obtain ⟨a,rfl,cx⟩:=hE3.cells h2
          (repeat ((try (conv=>whnf));(refine stQ ?_)))
          conv=>whnf
          refine q0w tab_ok (fun k=>x+1+k≤n2∧∀ j,j≤k→vecI (J (y*n2+x+j))=vecI (J (y*n2+x))) (fun (k:Nat)=>[(7,.val (.int .i64 ((x+1+k:Nat):Int)))]) (fun k=>[.muts st.S,.cells 103 [.val (.map (some bm)),.own 4,.own 5,.val (.bool false)],.gone,.gone,.own 106 1 (gat (fun i=>vecI (J i)) n2 (y*n2+x)).length (q0r (fun k=>[st.B k]) (gat (fun i=>vecI (J i)) n2 (y*n2+x)).length),.own 33 8 (gat (fun i=>vecI (J i)) n2 (y*n2+x)).length (q0r (fun k=>inkC (keyI (gat (fun i=>vecI (J i)) n2 (y*n2+x)) k)) (gat (fun i=>vecI (J i)) n2 (y*n2+x)).length)]) (fun k=>n2-k) 0 ⟨by omega,fun j hj=>by rw [show j=0 by omega];rfl⟩ ?_ ?_
          · ((refine q0h ?_);(conv=>whnf);(refine q0k (by rfl) (by rfl) flQ ?_))
            exact q0o (fun _ h=>h) (q0a (by exact flQ) (q0j (q0j (q0c rfl rfl (q0c rfl rfl q0f)))))
          · rintro k ⟨hk,hl⟩
            have hxl:y*n2+x<N:=by omega
            have hg3:=q8i (fun i=>vecI (J i)) hW0 (y*n2+x)
            have e3:(y*n2+x)/n2=y:=by rw [Nat.add_comm,Nat.add_mul_div_right _ _ hW0,Nat.div_eq_of_lt h2,Nat.zero_add]
            have e4:(y*n2+x)%n2=x:=by rw [Nat.add_comm,Nat.add_mul_mod_self_right,Nat.mod_eq_of_lt h2]
            rw [e3,e4] at hg3
            have hnext:gadd (gat (fun i=>vecI (J i)) n2 (y*n2+x)) (vecI (J (y*n2+x))) y x ((x+1+k:Nat):Int)=gat (fun i=>vecI (J i)) n2 (y*n2+(x+1+k)):=by
              have h:=z67 (c:=fun i=>vecI (J i)) hW0 (i:=y*n2+x) k hl (by rw [e4];omega)
              rw [e3,e4,show y*n2+x+(k+1)=y*n2+(x+1+k) by omega] at h
              rw [show ((x+1+k:Nat):Int)=(x:Int)+((k+1:Nat):Int) by omega]
              exact h
            rcases Nat.lt_or_ge (x+1+k) n2 with h3 |h3
            · have ce:=(hE3.cells h3)
              obtain ⟨a',ha',ce⟩:=ce
              cases ha'
              by_cases hs:q3g (J (y*n2+(x+1+k))) (J (y*n2+x))
              · have hs':=hs
                unfold q3g at hs
                (repeat ((try (conv=>whnf));(first |(refine ce _ ?_) |(refine cx _ ?_) |(refine stQ ?_))))
                conv=>whnf
                refine ⟨k+1,⟨by omega,fun j hj=>?_⟩,by omega,?_⟩
                · rcases Nat.lt_or_ge j (k+1) with h5 |h5
                  · exact hl j (by omega)
                  · rw [show j=k+1 by omega,show y*n2+x+(k+1)=y*n2+(x+1+k) by omega]
                    exact vecI_same.2 hs'
                · ((refine q0h ?_);(conv=>whnf);(refine q0k (by rfl) (by rfl) flQ ?_))
                  exact q0o (fun _ h=>h) (q0a (by exact flQ) (q0j (q0j (q0c rfl rfl (q0c rfl rfl q0f)))))
              · have hns:=z22 hs
                clear hs
                generalize hJ:J (y*n2+x)=I at *
                generalize hgs:gat (fun i=>vecI (J i)) n2 (y*n2+x)=gs at *
                have hfew:=hg3.few
                by_cases hz:q2x I
                · have ea:gadd gs (vecI I) y x ((x+1+k:Nat):Int)=gs:=by unfold gadd;rw [if_pos (vecI_zero.2 hz)]
                  unfold q2x at hz
                  (repeat ((try (conv=>whnf));(first |(refine ce _ ?_) |(with_reducible refine q03 hns ?_) |(refine cx _ ?_) |(refine stQ ?_) |(with_reducible first |refine q0g tab_ok Tryz.func51 (fun vs w=>by kernel_rfl) (by rfl) ?_ |refine q0g tab_ok Tryz.func73 (fun vs w=>by kernel_rfl) (by rfl) ?_))))
                  conv=>whnf
                  refine ⟨(x+1+k,st),⟨by omega,by dsimp only;rw [← hnext,ea];exact hg⟩,by dsimp only;omega,?_⟩
                  dsimp only
                  rw [← hnext,ea]
                  ((refine q0h ?_);(conv=>whnf);(refine q0k (by rfl) (by rfl) flQ ?_))
                  exact q0o (fun _ h=>h) (q0a (by exact flQ) (q0j (q0j (q0c rfl rfl (q0c rfl rfl q0f)))))
                · have hnz:=q63 hz
                  by_cases hq:gidx (vecI I) gs<gs.length
                  · obtain ⟨L,hL⟩:=q5l hq
                    have ea:gadd gs (vecI I) y x ((x+1+k:Nat):Int)=gs.set (gidx (vecI I) gs) (vecI I,addR L y x ((x+1+k:Nat):Int)):=by unfold gadd;rw [if_neg (fun h=>hz (vecI_zero.1 h)),q6q hL]
                    have hv:=q5b 0 gs (vecI I)
                    rw [if_pos hq,Nat.zero_add] at hv
                    generalize gidx (vecI I) gs=q at *
                    have hr:=hg.rows q _ hL
                    have hLn:=(hg3.keys _ (List.mem_of_getElem? hL)).2
                    rcases q3p L with rfl |⟨K,r,rfl⟩
                    · exact absurd rfl hLn
                    have hKl:=(hg3.runs _ (List.mem_of_getElem? hL)).1
                    obtain ⟨g,cg,hB,hcg,hcm,hSg,m0,m2⟩:=hr.last
                    have hr1:RowS st.S st.M 78 3 (.slice (some ⟨g,0,none⟩) (K.length+1) cg) (K.length+1) (q0q (K++[r])):=by
                      rw [← hB];simpa using hr
                    have hpq:=q5n (B:=st.B) hq
                    rw [hB] at hpq
                    have hzK:((((K.length+1:Nat):Int))-1).toNat=K.length:=by omega
                    rw [← hzK] at m0 m2
                    have hKl2:K.length+1≤y*n2+x:=by simpa using hKl
                    by_cases hj:r.y=y∧(x:Int)≤r.x1
                    · rw [q19 (by omega) hj.1 hj.2] at ea
                      (repeat ((try (conv=>whnf));(first |(refine ce _ ?_) |(with_reducible refine q03 hns ?_) |(refine cx _ ?_) |(with_reducible refine q03 hnz ?_) |(refine q2j q1l q1e q12 hg.map (q1f I) rfl hv ?_) |(refine q0l _ hpq ?_) |(refine q0b _ m0 ?_) |(refine q0b _ m2 ?_) |(refine stQ ?_) |(with_reducible first |refine q0g tab_ok Tryz.func51 (fun vs w=>by kernel_rfl) (by rfl) ?_ |refine q0g tab_ok Tryz.func73 (fun vs w=>by kernel_rfl) (by rfl) ?_))))
                      conv=>whnf
                      have hx:AV.val (.pointer (some (Addr.add (Addr.add ⟨g,0,none⟩ (((((K.length+1:Nat):Int))-1).toNat * 3)) 2)))=.val (.pointer (some ⟨g,0+((((K.length+1:Nat):Int))-1).toNat * 3+2,none⟩)):=by rw [q0m,q0m]
                      refine q82 tab_ok 0 (by exact rfl) (Eq.trans (by exact rfl) hx) ?_
                      conv=>whnf
                      refine ⟨78,3,K.length+1,cg,q0q (K++[r]),hr1,by rw [q1o,List.length_append];show (0+((((K.length+1:Nat):Int))-1).toNat * 3+2)+1≤(K.length+1)*3;omega,fun M2 hM2 hr2=>?_⟩
                      have hr4:RowS st.S M2 78 3 (.slice (some ⟨g,0,none⟩) (K.length+1) cg) (K.length+1) ((q0q (K++[r])).take (0+((((K.length+1:Nat):Int))-1).toNat * 3+2)++[.int .i64 (max r.x1 ((x+1+k:Nat):Int))]++(q0q (K++[r])).drop (0+((((K.length+1:Nat):Int))-1).toNat * 3+2+1)):=hr2
                      rw [hzK,Nat.zero_add,z0d] at hr4
                      have hr3:RowS st.S M2 78 3 (st.B q) (K++([⟨(y:Int),r.x0,max r.x1 ((x+1+k:Nat):Int)⟩]:List Run)).length (q0q (K++([⟨(y:Int),r.x0,max r.x1 ((x+1+k:Nat):Int)⟩]:List Run))):=by
                        rw [← hj.1,hB,List.length_append]
                        exact hr4
                      have hg4:=hg.put hL (by rw [hB];rfl) hM2 hr3
                      conv=>whnf
                      (repeat ((try (conv=>whnf));(refine stQ ?_)))
                      conv=>whnf
                      refine ⟨(x+1+k,⟨st.S,st.B,M2⟩),⟨by omega,by dsimp only;rw [← hnext,ea];exact hg4⟩,by dsimp only;omega,?_⟩
                      dsimp only
                      rw [← hnext,ea,q3s hL]
                      ((refine q0h ?_);(conv=>whnf);(refine q0k (by rfl) (by rfl) flQ ?_))
                      exact q0o (fun _ h=>h) (q0a (by exact flQ) (q0j (q0j (q0c (by simp) (by simp) (q0c (by simp) (by simp) q0f)))))
                    · rw [q21 (by omega) hj] at ea
                      by_cases h5:r.y=y
                      · have h6:¬ (x:Int)≤r.x1:=fun h=>hj ⟨h5,h⟩
                        (repeat ((try (conv=>whnf));(first |(refine ce _ ?_) |(with_reducible refine q03 hns ?_) |(refine cx _ ?_) |(with_reducible refine q03 hnz ?_) |(refine q2j q1l q1e q12 hg.map (q1f I) rfl hv ?_) |(refine q0l _ hpq ?_) |(refine q0b _ m0 ?_) |(refine q0b _ m2 ?_) |(refine stQ ?_) |(with_reducible first |refine q0g tab_ok Tryz.func51 (fun vs w=>by kernel_rfl) (by rfl) ?_ |refine q0g tab_ok Tryz.func73 (fun vs w=>by kernel_rfl) (by rfl) ?_))))
                        conv=>whnf
                        refine q1x tab_ok 0 (by exact rfl) (by exact rfl) ?_
                        conv=>whnf
                        refine ⟨K.length+1,_,hr1,show (K.length+1+1)*24≤140737488355328 by omega,fun v2 S2 M2 hG2 hr2=>?_⟩
                        obtain ⟨A2,c4,rfl,_,_⟩:=hr2.isSl
                        have hg4:=hg.app (r:=⟨(y:Int),(x:Int),((x+1+k:Nat):Int)⟩) hL (by rw [hB];exact hG2) (by rw [q3r,List.length_append];exact hr2)
                        conv=>whnf
                        (repeat ((try (conv=>whnf));(refine stQ ?_)))
                        conv=>whnf
                        refine q31 (q1m hq).1 (q1m hq).2 ?_
                        conv=>whnf
                        (repeat ((try (conv=>whnf));(refine stQ ?_)))
                        conv=>whnf
                        refine ⟨(x+1+k,⟨S2,_,M2⟩),⟨by omega,by dsimp only;rw [← hnext,ea];exact hg4⟩,by dsimp only;omega,?_⟩
                        dsimp only
                        rw [← hnext,ea,q3s hL]
                        ((refine q0h ?_);(conv=>whnf);(refine q0k (by rfl) (by rfl) flQ ?_))
                        exact q0o (fun _ h=>h) (q0a (by exact flQ) (q0j (q0j (q0c (by simp) (by simp) (q0c (by simp) (by simp) q0f)))))
                      · skip
                        (repeat ((try (conv=>whnf));(first |(refine ce _ ?_) |(with_reducible refine q03 hns ?_) |(refine cx _ ?_) |(with_reducible refine q03 hnz ?_) |(refine q2j q1l q1e q12 hg.map (q1f I) rfl hv ?_) |(refine q0l _ hpq ?_) |(refine q0b _ m0 ?_) |(refine q0b _ m2 ?_) |(refine stQ ?_) |(with_reducible first |refine q0g tab_ok Tryz.func51 (fun vs w=>by kernel_rfl) (by rfl) ?_ |refine q0g tab_ok Tryz.func73 (fun vs w=>by kernel_rfl) (by rfl) ?_))))
                        conv=>whnf
                        refine q1x tab_ok 0 (by exact rfl) (by exact rfl) ?_
                        conv=>whnf
                        refine ⟨K.length+1,_,hr1,show (K.length+1+1)*24≤140737488355328 by omega,fun v2 S2 M2 hG2 hr2=>?_⟩
                        obtain ⟨A2,c4,rfl,_,_⟩:=hr2.isSl
                        have hg4:=hg.app (r:=⟨(y:Int),(x:Int),((x+1+k:Nat):Int)⟩) hL (by rw [hB];exact hG2) (by rw [q3r,List.length_append];exact hr2)
                        conv=>whnf
                        (repeat ((try (conv=>whnf));(refine stQ ?_)))
                        conv=>whnf
                        refine q31 (q1m hq).1 (q1m hq).2 ?_
                        conv=>whnf
                        (repeat ((try (conv=>whnf));(refine stQ ?_)))
                        conv=>whnf
                        refine ⟨(x+1+k,⟨S2,_,M2⟩),⟨by omega,by dsimp only;rw [← hnext,ea];exact hg4⟩,by dsimp only;omega,?_⟩
                        dsimp only
                        rw [← hnext,ea,q3s hL]
                        ((refine q0h ?_);(conv=>whnf);(refine q0k (by rfl) (by rfl) flQ ?_))
                        exact q0o (fun _ h=>h) (q0a (by exact flQ) (q0j (q0j (q0c (by simp) (by simp) (q0c (by simp) (by simp) q0f)))))
                  · have hq2:gidx (vecI I) gs=gs.length:=by have:=q62 (vecI I) gs;omega
                    have ea:gadd gs (vecI I) y x ((x+1+k:Nat):Int)=gs++[(vecI I,[⟨(y:Int),(x:Int),((x+1+k:Nat):Int)⟩])]:=by unfold gadd;rw [if_neg (fun h=>hz (vecI_zero.1 h)),q6r hq2]
                    have hn:=q5b 0 gs (vecI I)
                    rw [if_neg hq] at hn
                    (repeat ((try (conv=>whnf));(first |(refine ce _ ?_) |(with_reducible refine q03 hns ?_) |(refine cx _ ?_) |(with_reducible refine q03 hnz ?_) |(refine q59 q1l q1e q12 hg.map (q1f I) rfl hn ?_) |(refine stQ ?_) |(with_reducible first |refine q0g tab_ok Tryz.func51 (fun vs w=>by kernel_rfl) (by rfl) ?_ |refine q0g tab_ok Tryz.func73 (fun vs w=>by kernel_rfl) (by rfl) ?_))))
                    conv=>whnf
                    refine q9o 0 rfl hg.mapS rfl rfl rfl rfl rfl q1l q1e hg.map (q1f I) hn fun G2 hG2 hM2=>?_
                    have hg4:=hg.key (v:=vecI I) hG2 hM2
                    conv=>whnf
                    (repeat ((try (conv=>whnf));(first |(with_reducible refine q8c tab_ok (by kernel_rfl) 19 [1,4,5] [(5,1),(12,1)] (by decide +kernel) ?_) |(refine stQ ?_))))
                    conv=>whnf
                    obtain ⟨A0,c0,hn0⟩:∃ A0 c0,(Value.slice none 0 0)=.slice A0 0 c0:=⟨none,0,rfl⟩
                    rw [z0c]
                    have hpn:(q0r (fun j=>[putV st.B gs.length (.slice none 0 0) j]) (gs.length+1))[gs.length*1+0]? = some (.slice A0 0 c0):=by rw [q5n (by omega),q1u,hn0]
                    (repeat ((try (conv=>whnf));(first |(refine q0l _ hpn ?_) |(refine stQ ?_) |(with_reducible refine q0g tab_ok Tryz.func73 (fun vs w=>by kernel_rfl) (by rfl) ?_))))
                    conv=>whnf
                    refine q1x tab_ok 0 (by exact rfl) (by exact rfl) ?_
                    conv=>whnf
                    have hnil:RowS st.S G2 78 3 (.slice A0 0 c0) 0 (q0q []):=by rw [← hn0];exact RowS.nil _ _ _ _
                    refine ⟨0,_,hnil,show (0+1)*24≤140737488355328 by omega,fun v2 S2 M2 hG3 hr2=>?_⟩
                    obtain ⟨A2,c4,rfl,_,_⟩:=hr2.isSl
                    have hLq:(gs++[(vecI I,([]:List Run))])[gs.length]? = some (vecI I,[]):=by simp
                    have hg5:=hg4.app (r:=⟨(y:Int),(x:Int),((x+1+k:Nat):Int)⟩) hLq (by rw [q1u,hn0];exact hG3) (by rw [q3r];exact hr2)
                    rw [show (gs++[(vecI I,([]:List Run))]).set gs.length (vecI I,[]++[⟨(y:Int),(x:Int),((x+1+k:Nat):Int)⟩])=gs++[(vecI I,[⟨(y:Int),(x:Int),((x+1+k:Nat):Int)⟩])] by simp] at hg5
                    conv=>whnf
                    (repeat ((try (conv=>whnf));(refine stQ ?_)))
                    conv=>whnf
                    refine q31 (q1m (show gs.length<gs.length+1 by omega)).1 (q1m (show gs.length<gs.length+1 by omega)).2 ?_
                    conv=>whnf
                    (repeat ((try (conv=>whnf));(refine stQ ?_)))
                    conv=>whnf
                    refine ⟨(x+1+k,⟨S2,_,M2⟩),⟨by omega,by dsimp only;rw [← hnext,ea];exact hg5⟩,by dsimp only;omega,?_⟩
                    dsimp only
                    rw [← hnext,ea]
                    refine q1t 8 4 rfl rfl rfl rfl ?_
                    conv=>whnf
                    refine q1t 10 5 rfl rfl rfl rfl ?_
                    conv=>whnf
                    ((refine q0h ?_);(conv=>whnf);(refine q0k (by rfl) (by rfl) flQ ?_))
                    exact q0o (fun _ h=>h) (q0a (by exact flQ) (q0j (q0j (q0c (by simp) (by simp) (q0c (by simp) (by rw [List.length_append];exact z1z rfl) q0f)))))
            · have h4:x+1+k=n2:=by omega
              generalize hJ:J (y*n2+x)=I at *
              generalize hgs:gat (fun i=>vecI (J i)) n2 (y*n2+x)=gs at *
              have hfew:=hg3.few
              by_cases hz:q2x I
              · have ea:gadd gs (vecI I) y x ((x+1+k:Nat):Int)=gs:=by unfold gadd;rw [if_pos (vecI_zero.2 hz)]
                unfold q2x at hz
                (repeat ((try (conv=>whnf));(first |(refine cx _ ?_) |(refine stQ ?_) |(with_reducible first |refine q0g tab_ok Tryz.func51 (fun vs w=>by kernel_rfl) (by rfl) ?_ |refine q0g tab_ok Tryz.func73 (fun vs w=>by kernel_rfl) (by rfl) ?_))))
                conv=>whnf
                refine ⟨(x+1+k,st),⟨by omega,by dsimp only;rw [← hnext,ea];exact hg⟩,by dsimp only;omega,?_⟩
                dsimp only
                rw [← hnext,ea]
                ((refine q0h ?_);(conv=>whnf);(refine q0k (by rfl) (by rfl) flQ ?_))
                exact q0o (fun _ h=>h) (q0a (by exact flQ) (q0j (q0j (q0c rfl rfl (q0c rfl rfl q0f)))))
              · have hnz:=q63 hz
                by_cases hq:gidx (vecI I) gs<gs.length
                · obtain ⟨L,hL⟩:=q5l hq
                  have ea:gadd gs (vecI I) y x ((x+1+k:Nat):Int)=gs.set (gidx (vecI I) gs) (vecI I,addR L y x ((x+1+k:Nat):Int)):=by unfold gadd;rw [if_neg (fun h=>hz (vecI_zero.1 h)),q6q hL]
                  have hv:=q5b 0 gs (vecI I)
                  rw [if_pos hq,Nat.zero_add] at hv
                  generalize gidx (vecI I) gs=q at *
                  have hr:=hg.rows q _ hL
                  have hLn:=(hg3.keys _ (List.mem_of_getElem? hL)).2
                  rcases q3p L with rfl |⟨K,r,rfl⟩
                  · exact absurd rfl hLn
                  have hKl:=(hg3.runs _ (List.mem_of_getElem? hL)).1
                  obtain ⟨g,cg,hB,hcg,hcm,hSg,m0,m2⟩:=hr.last
                  have hr1:RowS st.S st.M 78 3 (.slice (some ⟨g,0,none⟩) (K.length+1) cg) (K.length+1) (q0q (K++[r])):=by
                    rw [← hB];simpa using hr
                  have hpq:=q5n (B:=st.B) hq
                  rw [hB] at hpq
                  have hzK:((((K.length+1:Nat):Int))-1).toNat=K.length:=by omega
                  rw [← hzK] at m0 m2
                  have hKl2:K.length+1≤y*n2+x:=by simpa using hKl
                  by_cases hj:r.y=y∧(x:Int)≤r.x1
                  · rw [q19 (by omega) hj.1 hj.2] at ea
                    (repeat ((try (conv=>whnf));(first |(refine cx _ ?_) |(with_reducible refine q03 hnz ?_) |(refine q2j q1l q1e q12 hg.map (q1f I) rfl hv ?_) |(refine q0l _ hpq ?_) |(refine q0b _ m0 ?_) |(refine q0b _ m2 ?_) |(refine stQ ?_) |(with_reducible first |refine q0g tab_ok Tryz.func51 (fun vs w=>by kernel_rfl) (by rfl) ?_ |refine q0g tab_ok Tryz.func73 (fun vs w=>by kernel_rfl) (by rfl) ?_))))
                    conv=>whnf
                    have hx:AV.val (.pointer (some (Addr.add (Addr.add ⟨g,0,none⟩ (((((K.length+1:Nat):Int))-1).toNat * 3)) 2)))=.val (.pointer (some ⟨g,0+((((K.length+1:Nat):Int))-1).toNat * 3+2,none⟩)):=by rw [q0m,q0m]
                    refine q82 tab_ok 0 (by exact rfl) (Eq.trans (by exact rfl) hx) ?_
                    conv=>whnf
                    refine ⟨78,3,K.length+1,cg,q0q (K++[r]),hr1,by rw [q1o,List.length_append];show (0+((((K.length+1:Nat):Int))-1).toNat * 3+2)+1≤(K.length+1)*3;omega,fun M2 hM2 hr2=>?_⟩
                    have hr4:RowS st.S M2 78 3 (.slice (some ⟨g,0,none⟩) (K.length+1) cg) (K.length+1) ((q0q (K++[r])).take (0+((((K.length+1:Nat):Int))-1).toNat * 3+2)++[.int .i64 (max r.x1 ((x+1+k:Nat):Int))]++(q0q (K++[r])).drop (0+((((K.length+1:Nat):Int))-1).toNat * 3+2+1)):=hr2
                    rw [hzK,Nat.zero_add,z0d] at hr4
                    have hr3:RowS st.S M2 78 3 (st.B q) (K++([⟨(y:Int),r.x0,max r.x1 ((x+1+k:Nat):Int)⟩]:List Run)).length (q0q (K++([⟨(y:Int),r.x0,max r.x1 ((x+1+k:Nat):Int)⟩]:List Run))):=by
                      rw [← hj.1,hB,List.length_append]
                      exact hr4
                    have hg4:=hg.put hL (by rw [hB];rfl) hM2 hr3
                    conv=>whnf
                    (repeat ((try (conv=>whnf));(refine stQ ?_)))
                    conv=>whnf
                    refine ⟨(x+1+k,⟨st.S,st.B,M2⟩),⟨by omega,by dsimp only;rw [← hnext,ea];exact hg4⟩,by dsimp only;omega,?_⟩
                    dsimp only
                    rw [← hnext,ea,q3s hL]
                    ((refine q0h ?_);(conv=>whnf);(refine q0k (by rfl) (by rfl) flQ ?_))
                    exact q0o (fun _ h=>h) (q0a (by exact flQ) (q0j (q0j (q0c (by simp) (by simp) (q0c (by simp) (by simp) q0f)))))
                  · rw [q21 (by omega) hj] at ea
                    by_cases h5:r.y=y
                    · have h6:¬ (x:Int)≤r.x1:=fun h=>hj ⟨h5,h⟩
                      (repeat ((try (conv=>whnf));(first |(refine cx _ ?_) |(with_reducible refine q03 hnz ?_) |(refine q2j q1l q1e q12 hg.map (q1f I) rfl hv ?_) |(refine q0l _ hpq ?_) |(refine q0b _ m0 ?_) |(refine q0b _ m2 ?_) |(refine stQ ?_) |(with_reducible first |refine q0g tab_ok Tryz.func51 (fun vs w=>by kernel_rfl) (by rfl) ?_ |refine q0g tab_ok Tryz.func73 (fun vs w=>by kernel_rfl) (by rfl) ?_))))
                      conv=>whnf
                      refine q1x tab_ok 0 (by exact rfl) (by exact rfl) ?_
                      conv=>whnf
                      refine ⟨K.length+1,_,hr1,show (K.length+1+1)*24≤140737488355328 by omega,fun v2 S2 M2 hG2 hr2=>?_⟩
                      obtain ⟨A2,c4,rfl,_,_⟩:=hr2.isSl
                      have hg4:=hg.app (r:=⟨(y:Int),(x:Int),((x+1+k:Nat):Int)⟩) hL (by rw [hB];exact hG2) (by rw [q3r,List.length_append];exact hr2)
                      conv=>whnf
                      (repeat ((try (conv=>whnf));(refine stQ ?_)))
                      conv=>whnf
                      refine q31 (q1m hq).1 (q1m hq).2 ?_
                      conv=>whnf
                      (repeat ((try (conv=>whnf));(refine stQ ?_)))
                      conv=>whnf
                      refine ⟨(x+1+k,⟨S2,_,M2⟩),⟨by omega,by dsimp only;rw [← hnext,ea];exact hg4⟩,by dsimp only;omega,?_⟩
                      dsimp only
                      rw [← hnext,ea,q3s hL]
                      ((refine q0h ?_);(conv=>whnf);(refine q0k (by rfl) (by rfl) flQ ?_))
                      exact q0o (fun _ h=>h) (q0a (by exact flQ) (q0j (q0j (q0c (by simp) (by simp) (q0c (by simp) (by simp) q0f)))))
                    · skip
                      (repeat ((try (conv=>whnf));(first |(refine cx _ ?_) |(with_reducible refine q03 hnz ?_) |(refine q2j q1l q1e q12 hg.map (q1f I) rfl hv ?_) |(refine q0l _ hpq ?_) |(refine q0b _ m0 ?_) |(refine q0b _ m2 ?_) |(refine stQ ?_) |(with_reducible first |refine q0g tab_ok Tryz.func51 (fun vs w=>by kernel_rfl) (by rfl) ?_ |refine q0g tab_ok Tryz.func73 (fun vs w=>by kernel_rfl) (by rfl) ?_))))
                      conv=>whnf
                      refine q1x tab_ok 0 (by exact rfl) (by exact rfl) ?_
                      conv=>whnf
                      refine ⟨K.length+1,_,hr1,show (K.length+1+1)*24≤140737488355328 by omega,fun v2 S2 M2 hG2 hr2=>?_⟩
                      obtain ⟨A2,c4,rfl,_,_⟩:=hr2.isSl
                      have hg4:=hg.app (r:=⟨(y:Int),(x:Int),((x+1+k:Nat):Int)⟩) hL (by rw [hB];exact hG2) (by rw [q3r,List.length_append];exact hr2)
                      conv=>whnf
                      (repeat ((try (conv=>whnf));(refine stQ ?_)))
                      conv=>whnf
                      refine q31 (q1m hq).1 (q1m hq).2 ?_
                      conv=>whnf
                      (repeat ((try (conv=>whnf));(refine stQ ?_)))
                      conv=>whnf
                      refine ⟨(x+1+k,⟨S2,_,M2⟩),⟨by omega,by dsimp only;rw [← hnext,ea];exact hg4⟩,by dsimp only;omega,?_⟩
                      dsimp only
                      rw [← hnext,ea,q3s hL]
                      ((refine q0h ?_);(conv=>whnf);(refine q0k (by rfl) (by rfl) flQ ?_))
                      exact q0o (fun _ h=>h) (q0a (by exact flQ) (q0j (q0j (q0c (by simp) (by simp) (q0c (by simp) (by simp) q0f)))))
                · have hq2:gidx (vecI I) gs=gs.length:=by have:=q62 (vecI I) gs;omega
                  have ea:gadd gs (vecI I) y x ((x+1+k:Nat):Int)=gs++[(vecI I,[⟨(y:Int),(x:Int),((x+1+k:Nat):Int)⟩])]:=by unfold gadd;rw [if_neg (fun h=>hz (vecI_zero.1 h)),q6r hq2]
                  have hn:=q5b 0 gs (vecI I)
                  rw [if_neg hq] at hn
                  (repeat ((try (conv=>whnf));(first |(refine cx _ ?_) |(with_reducible refine q03 hnz ?_) |(refine q59 q1l q1e q12 hg.map (q1f I) rfl hn ?_) |(refine stQ ?_) |(with_reducible first |refine q0g tab_ok Tryz.func51 (fun vs w=>by kernel_rfl) (by rfl) ?_ |refine q0g tab_ok Tryz.func73 (fun vs w=>by kernel_rfl) (by rfl) ?_))))
                  conv=>whnf
                  refine q9o 0 rfl hg.mapS rfl rfl rfl rfl rfl q1l q1e hg.map (q1f I) hn fun G2 hG2 hM2=>?_
                  have hg4:=hg.key (v:=vecI I) hG2 hM2
                  conv=>whnf
                  (repeat ((try (conv=>whnf));(first |(with_reducible refine q8c tab_ok (by kernel_rfl) 19 [1,4,5] [(5,1),(12,1)] (by decide +kernel) ?_) |(refine stQ ?_))))
                  conv=>whnf
                  obtain ⟨A0,c0,hn0⟩:∃ A0 c0,(Value.slice none 0 0)=.slice A0 0 c0:=⟨none,0,rfl⟩
                  rw [z0c]
                  have hpn:(q0r (fun j=>[putV st.B gs.length (.slice none 0 0) j]) (gs.length+1))[gs.length*1+0]? = some (.slice A0 0 c0):=by rw [q5n (by omega),q1u,hn0]
                  (repeat ((try (conv=>whnf));(first |(refine q0l _ hpn ?_) |(refine stQ ?_) |(with_reducible refine q0g tab_ok Tryz.func73 (fun vs w=>by kernel_rfl) (by rfl) ?_))))
                  conv=>whnf
                  refine q1x tab_ok 0 (by exact rfl) (by exact rfl) ?_
                  conv=>whnf
                  have hnil:RowS st.S G2 78 3 (.slice A0 0 c0) 0 (q0q []):=by rw [← hn0];exact RowS.nil _ _ _ _
                  refine ⟨0,_,hnil,show (0+1)*24≤140737488355328 by omega,fun v2 S2 M2 hG3 hr2=>?_⟩
                  obtain ⟨A2,c4,rfl,_,_⟩:=hr2.isSl
                  have hLq:(gs++[(vecI I,([]:List Run))])[gs.length]? = some (vecI I,[]):=by simp
                  have hg5:=hg4.app (r:=⟨(y:Int),(x:Int),((x+1+k:Nat):Int)⟩) hLq (by rw [q1u,hn0];exact hG3) (by rw [q3r];exact hr2)
                  rw [show (gs++[(vecI I,([]:List Run))]).set gs.length (vecI I,[]++[⟨(y:Int),(x:Int),((x+1+k:Nat):Int)⟩])=gs++[(vecI I,[⟨(y:Int),(x:Int),((x+1+k:Nat):Int)⟩])] by simp] at hg5
                  conv=>whnf
                  (repeat ((try (conv=>whnf));(refine stQ ?_)))
                  conv=>whnf
                  refine q31 (q1m (show gs.length<gs.length+1 by omega)).1 (q1m (show gs.length<gs.length+1 by omega)).2 ?_
                  conv=>whnf
                  (repeat ((try (conv=>whnf));(refine stQ ?_)))
                  conv=>whnf
                  refine ⟨(x+1+k,⟨S2,_,M2⟩),⟨by omega,by dsimp only;rw [← hnext,ea];exact hg5⟩,by dsimp only;omega,?_⟩
                  dsimp only
                  rw [← hnext,ea]
                  refine q1t 8 4 rfl rfl rfl rfl ?_
                  conv=>whnf
                  refine q1t 10 5 rfl rfl rfl rfl ?_
                  conv=>whnf
                  ((refine q0h ?_);(conv=>whnf);(refine q0k (by rfl) (by rfl) flQ ?_))
                  exact q0o (fun _ h=>h) (q0a (by exact flQ) (q0j (q0j (q0c (by simp) (by simp) (q0c (by simp) (by rw [List.length_append];exact z1z rfl) q0f)))))
        · obtain rfl:x=n2:=by omega
          (repeat ((try (conv=>whnf));(refine stQ ?_)))
          conv=>whnf
          have ey:y*x+x=(y+1)*x:=by rw [Nat.add_mul,Nat.one_mul]
          rw [ey] at hg
          refine ⟨(y+1,st),⟨by omega,hg⟩,by dsimp only;omega,?_⟩
          dsimp only
          rw [ey]
          refine q1t 4 2 rfl rfl rfl rfl ?_
          conv=>whnf
          refine q1t 5 3 rfl rfl rfl rfl ?_
          conv=>whnf
          ((refine q0h ?_);(conv=>whnf);(refine q0k (by rfl) (by rfl) flQ ?_))
          exact q0o (fun _ h=>h) (q0a (by exact flQ) (q0c rfl rfl (q0c rfl rfl q0f)))
    · obtain rfl:y=16*h:=by omega
      rw [← hN] at hg ⊢
      have hgN:=q8i (fun i=>vecI (J i)) hW0 N
      have hfew:=hgN.few
      generalize hgs:gat (fun i=>vecI (J i)) W N=gs at *
      (repeat ((try (conv=>whnf));(first |(refine stQ ?_) |(with_reducible refine q0g tab_ok Tryz.func38 (fun vs w=>by kernel_rfl) (by rfl) ?_))))
      conv=>whnf
      have hp:=fun {k:Nat} (hk:k<gs.length)=>hg.piece (List.getElem?_eq_getElem hk)
      refine q0w tab_ok (fun k=>k≤gs.length) (fun (k:Nat)=>[(16,.val (.int .i64 k)),(4,.own 4)]) (fun k=>[.muts st.S,.cells 103 [.val (.map (some bm)),.own 2,.own 3,.val (.bool false)],.own 106 1 gs.length (q0r (fun k=>[st.B k]) gs.length),.own 33 8 gs.length (q0r (fun k=>inkC (keyI gs k)) gs.length),.own 35 9 k (q0r (fun k=>pcC (gatP gs st.B k)) k)]) (fun k=>gs.length-k) 0 (Nat.zero_le _) ?_ ?_
      · refine q4b 35 9 ?_
        conv=>whnf
        ((refine q0h ?_);(conv=>whnf);(refine q0k (by rfl) (by rfl) flQ ?_))
        exact q0o (fun _ h=>h) (q0a (by exact flQ) (q0c rfl rfl (q0c rfl rfl (q0c rfl rfl q0f))))
      · rintro k hk
        rcases Nat.lt_or_ge k gs.length with h1 |h1
        · obtain ⟨q0,q1,q2,q3,q4⟩:=hp h1
          have cI:∀ K:List Value→Prop,K [.int .u8 (keyI gs k 0),.int .u8 (keyI gs k 1),.int .u8 (keyI gs k 2),.int .u8 (keyI gs k 3),.int .u8 (keyI gs k 4),.int .u8 (keyI gs k 5),.int .u8 (keyI gs k 6),.int .u8 (keyI gs k 7)]→OwnCells (q0r (fun k=>inkC (keyI gs k)) gs.length) (k*8) 8 K:=fun K hK=>q05 (inkC (keyI gs k)) rfl (fun j v hj=>by
            rw [q44 (sz:=8) (fun _ _=>rfl) h1 (by have:=(List.getElem?_eq_some_iff.1 hj).1;exact this)];exact hj) hK
          have cB:=q5n (B:=st.B) h1
          rw [q1] at cB
          (repeat ((try (conv=>whnf));(first |(refine cI _ ?_) |(refine q0l _ cB ?_) |(refine stQ ?_))))
          conv=>whnf
          refine ⟨k+1,by omega,by omega,?_⟩
          refine q1t 7 4 rfl rfl rfl rfl ?_
          conv=>whnf
          ((refine q0h ?_);(conv=>whnf);(refine q0k (by rfl) (by rfl) flQ ?_))
          exact q0o (fun _ h=>h) (q0a (by exact flQ) (q0c rfl rfl (q0c rfl rfl (q0c rfl (by rw [q0r,pcC,← q1];rfl) q0f))))
        · obtain rfl:k=gs.length:=by omega
          (repeat ((try (conv=>whnf));(refine stQ ?_)))
          conv=>whnf
          refine ⟨z56 0,4,gs.length,_,q73 0,rfl,rfl,?_⟩
          unfold ofR
          rw [hgs]
          refine ⟨rfl,rfl,st.B,rfl,fun k p hk=>?_⟩
          obtain ⟨q0,q1,q2,q3,q4⟩:=hg.piece hk
          exact ⟨q0,q2,q3,hg.pieceF hk⟩
theorem ofR.mono {c:Nat→List Int} {W N:Nat} {wrap:AV→AV} {n:Nat} {xs:List Value} {G G':Mem} (h:ofR c W N wrap n xs G) (hG:G.le G'):ofR c W N wrap n xs G':=by
  obtain ⟨h1,h2,B,h3,h4⟩:=h
  exact ⟨h1,h2,B,h3,fun k p hk=>⟨(h4 k p hk).1,(h4 k p hk).2.1,(h4 k p hk).2.2.1,(h4 k p hk).2.2.2.mono hG⟩⟩
theorem z84 {A:Option Addr} {w h W N c:Nat} {J:Nat→Nat→Int} {G:Mem} (hw:1≤w∧w≤256) (hh:1≤h∧h≤256) (hW:W=16*w) (hN:N=16*h*W) (hN4:N≤4096) (hc:N≤c∧c≤maxLen) (hE:ElsM G A 8 N fun i=>inkC (J i)) :
    MakesX Tryz.prog 15 [.val (.int .i64 w),.val (.int .i64 h),.val (.slice A N c)] G 35 9 (ofR (fun i=>vecI (J i)) W N) :=
  (x40 hw hh hW hN hN4 hc hE).weaken fun _ _ _ _ h=>h.mono Mem.minus_le
end Go.Proofs.YtkicdhaklnmonaaGreat
namespace Go.Proofs.YtkicdhaklnmonaaGreat
open Go.RowKit
end Go.Proofs.YtkicdhaklnmonaaGreat
