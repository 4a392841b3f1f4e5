/-
  ListClips: the law's walk.
-/
import Derived.Test.YticolnghiibgfaaGreatMrg35
import Derived.Test.YticolnghiibgfaaGreatMrg26
set_option linter.unusedVariables false
set_option linter.unusedSimpArgs false
set_option linter.unnecessarySimpa false
namespace Go.Proofs.YticolnghiibgfaaGreat.listClips
open Go.RowKit Go.Deep
set_option maxRecDepth 20000
section
variable {W H x y:Int} {A B RA:Option Addr} {m sq n iq rc:Nat} {gs:Nat→Nat→Value} {w:World} {d:LisD} {L:List Run}
set_option maxHeartbeats 16000000 in
theorem body (hm:m≤sq∧sq≤maxLen) (hn:n≤iq∧iq≤maxLen) (hs:SliceG Tryz.prog w 9 A m gs) (hl:LisM (q2x w) B n m d) (hr:RunsM (q2x w) RA L) (hrc:L.length≤rc∧rc≤maxLen) :
    q5g Tryz.prog tab 0 Tryz.f8 [q2s W H A m sq B n iq,.val (.slice RA L.length rc),.val (.int .i64 x),.val (.int .i64 y)] [] (q2x w) fun v _ _=>v=.val (.bool true):=by
  have hL:=x3u (G:=q2x w)
  obtain ⟨RB,rd,hR,hd,hd',s1⟩:=x3n hr hrc.1 hrc.2
  generalize L.take 60=M at *
  obtain ⟨n',iq',hcut,hn1,hn2,hn3⟩:∃ n' iq',((n≤12∧n'=n∧iq'=iq)∨(12<n∧n'=12∧iq'=iq))∧n'≤n∧n'≤iq'∧iq'≤maxLen:=by
    by_cases h:n≤12
    · exact ⟨n,iq,.inl ⟨h,rfl,rfl⟩,Nat.le_refl _,hn.1,hn.2⟩
    · exact ⟨12,iq,.inr ⟨by omega,rfl,rfl⟩,by omega,by omega,hn.2⟩
  have hl:=LisM.less hl hn1
  obtain ⟨h1,h2,h3⟩:=q9g (W:=W) (H:=H) (p:=d.p) (R:=d.R) (f:=d.f) hm ⟨hn2,hn3⟩ (v3l hs) hl.items (fun hm8 x hx=>hl.ite hm8 hx)
  have hS:=SliceM.of hs
  have hbound:m≤8→m≤1000000:=fun h=>by omega
  by_cases he:lisE W H m (fun x=>valS (gs x 0)) n' d.I d.p=0
  · have ok:=h3 he
    rw [he] at h1 h2
    have hrows:=hl.rows ok.few he
    have g3:=RCheck_gives hR hd hd'
    by_cases hre:errL M=0
    · have vM:=q73 hre
      have hck:=x6f (R:=d.R) (gr:=d.gr) (gs:=d.gs) (gp:=d.gp) (gf:=d.gf) h1 hR vM hd hd' hS hl.items hl.adr (by have:=ok.few;omega) (by have:=ok.len;omega) hl.item hrows (fun x hx hK=>⟨rfl,(ok.ok.reg x hx hK).2.2⟩)
      rw [hre] at g3
      rcases hcut with ⟨h12,hn',hq'⟩ |⟨h12,hn',hq'⟩
      · subst hn';subst hq'
        (repeat ((try (conv=>whnf));(first |(refine stQ ?_) |(with_reducible first |refine q0c (fun vs w=>by kernel_rfl) (by kernel_rfl) (hL) ?_ |refine q0a (fun vs w=>by kernel_rfl) (by kernel_rfl) (hL) ?_ |refine q0c (fun vs w=>by kernel_rfl) (by kernel_rfl) (s1) ?_ |refine q0a (fun vs w=>by kernel_rfl) (by kernel_rfl) (s1) ?_))))
        conv=>whnf
        refine z28 (fun vs w=>by kernel_rfl) (by rfl) hck ?_
        rintro wrap k xs G1 A1 cap G2 hG1 ⟨SA',sq',J,hkn,rfl,rfl,hq1,hq2,hS1,hJ⟩ hG2 hnc hcm hF
        subst hkn
        have hle:=Mem.le_trans hG1 hG2
        have hI:=z5l (hF.els (sz:=34) (fun _ _=>rfl) (by omega))
        obtain ⟨kc,ok2,hreg⟩:=x4r hl ok he vM hG2 hJ hS1 hI ⟨hq1,hq2⟩ ⟨hnc,hcm⟩
        have hl2:=hl.mono hle
        have hB2:=h2.mono hle
        have hR2:=hR.mono hle
        have okl:=(q9g (W:=W) (H:=H) (p:=d.p) (R:=d.R) (f:=d.f) hm ⟨hn2,hn3⟩ (z80 (hS.mono hle)) hl2.items (fun hm8 x hx=>hl2.ite hm8 hx)).2.2 he
        conv=>whnf
        (repeat ((try (conv=>whnf));(first |(refine stQ ?_) |(with_reducible first |refine q0c (fun vs w=>by kernel_rfl) (by kernel_rfl) (hB2) ?_ |refine q0a (fun vs w=>by kernel_rfl) (by kernel_rfl) (hB2) ?_ |refine q0c (fun vs w=>by kernel_rfl) (by kernel_rfl) (g3.mono hle) ?_ |refine q0a (fun vs w=>by kernel_rfl) (by kernel_rfl) (g3.mono hle) ?_))))
        conv=>whnf
        obtain ⟨x',hx',gx⟩:=z45 x 0 (16*W-1) (by have:=ok.wd;omega)
        obtain ⟨y',hy',gy⟩:=z45 y 0 (16*H-1) (by have:=ok.ht;omega)
        have okw:=ok.wd
        have okh:=ok.ht
        (repeat ((try (conv=>whnf));(first |(refine stQ ?_) |(with_reducible first |refine q0c (fun vs w=>by kernel_rfl) (by kernel_rfl) (gx _) ?_ |refine q0a (fun vs w=>by kernel_rfl) (by kernel_rfl) (gx _) ?_ |refine q0c (fun vs w=>by kernel_rfl) (by kernel_rfl) (gy _) ?_ |refine q0a (fun vs w=>by kernel_rfl) (by kernel_rfl) (gy _) ?_))))
        conv=>whnf
        have hHas:=q8w RB M rd x' y' G2 hR2 (by have:=vM.length;omega)
        have kA:=x2s kc hI (by have:=ok.len;omega) ok.few okw okh ok2.ok (x:=x') (y:=y') (by omega) (by omega)
        have kR:=z27 (W:=W) (H:=H) (SA:=A) (m:=m) (sq:=sq) (iq:=iq') (x:=x') (y:=y') hl2.items (by have:=ok.len;omega) ok.few okl.ok okl.ref (by omega) (by omega)
        have hval:q3z J d.f (fun x=>mixR 1 (d.R x) M) k m x' y'=if hasL M x' y'=true then q3z d.I d.f d.R k m x' y' else fun _=>0:=by
          by_cases hh:hasL M x' y'=true
          · rw [if_pos hh]
            exact x2y ok.ok (fun z hz=>(hreg z hz).1) fun z hz _=>by rw [z20 (hreg z hz).2.1 vM,hh,Bool.and_true]
          · have hf:hasL M x' y'=false:=by simpa using hh
            rw [if_neg hh]
            exact x2z ok.ok (fun z hz=>(hreg z hz).1) fun z hz _=>by rw [z20 (hreg z hz).2.1 vM,hf,Bool.and_false]
        rw [hval] at kA
        clear hval
        generalize q3z d.I d.f d.R k m x' y'=V at *
        refine q8u tab_ok (ι:=CopyT) (fun t=>t.k≤k∧G2.le t.M) (fun t=>[(99,.val (.int .i64 t.k))]) (fun t=>[.cells 25 [.val (.int .i64 W),.val (.int .i64 H),.val (.slice A m sq),.val (.slice B k iq')],.gone,.cells 25 [.val (.int .i64 W),.val (.int .i64 H),.val (.slice SA' m sq'),.val (.slice A1 k cap)]]) (fun t=>t.M) (fun t=>k-t.k) ⟨0,J,G2⟩ ?_ ?_ ?_
        · exact ⟨Nat.zero_le _,Mem.le_refl _⟩
        · dsimp only
          ((refine q0g ?_);(conv=>whnf);(refine q0k (by rfl) (by rfl) flQ ?_))
          exact q0b (by exact flQ) (q08 (q0b (by exact flQ) q0e))
        · rintro ⟨i,J',N⟩ ⟨hi,hN⟩
          dsimp only at hi hN ⊢
          rcases Nat.lt_or_ge i k with hik |hik
          · obtain ⟨pJ,hpJ,cJ⟩:=(hI.mono hN) i hik
            obtain ⟨pI,hpI,cI⟩:=(hl2.items.mono hN) i hik
            have c1J:=q7z (j:=1) cJ rfl
            have c1I:=q7z (j:=1) cI rfl
            subst hpJ
            subst hpI
            obtain ⟨si,vi,ri,li⟩:=hreg i hik
            have sm:=z1u (G:=N) si
            have hrun:=z44 (hl2.item i hik).run.2.2
            have hlen:(d.R i).length=(d.I i).rn:=q4j _ _
            have hmk:=z1r (d.I i).RA RB (d.R i) M (d.I i).rq rd 1 N (RunsM.mono hrun hN) (hR2.mono hN) vi vM
            rw [hlen] at hmk
            have hcp:(mixR 1 (d.R i) M).length≤1000000000:=z21 (z2u vi vM)
            (repeat ((try (conv=>whnf));(first |(with_reducible refine q2u tab_ok (by kernel_rfl) 27 [] (by decide +kernel) ?_) |(refine cJ _ ?_) |(refine cI _ ?_) |(refine q0d _ c1J ?_) |(refine q0d _ c1I ?_) |(refine stQ ?_) |(with_reducible first |refine q0c (fun vs w=>by kernel_rfl) (by kernel_rfl) (sm) ?_ |refine q0a (fun vs w=>by kernel_rfl) (by kernel_rfl) (sm) ?_))))
            conv=>whnf
            refine z3q (fun vs w=>by kernel_rfl) (.alone fun _=>rfl) (by rfl) hmk ?_
            (repeat ((try (conv=>whnf));(first |(refine q0d _ c1J ?_) |(refine stQ ?_))))
            conv=>whnf
            refine z7x (fun vs w=>by kernel_rfl) (by rfl) fun A3 c3 G3 hG3 hc3 hm3 hx3=>?_
            conv=>whnf
            have hD:RunsM G3 A3 (mixR 1 (d.R i) M):=by
              rcases hx3 with ⟨_,h⟩ |⟨b,off,rfl,h⟩
              · have hl0:(mixR 1 (d.R i) M).length=0:=by
                  have:=q1x (mixR 1 (d.R i) M);rw [h] at this;simp at this;omega
                rw [List.eq_nil_of_length_eq_zero hl0];exact RunsM.nil _ _
              · intro j r hr
                obtain ⟨h1,h2,h3⟩:=q5e hr
                exact ⟨b,off,rfl,h _ _ h1,by rw [Nat.add_assoc];exact h _ _ h2,by rw [Nat.add_assoc];exact h _ _ h3⟩
            have hsame:=z1q (J i).RA A3 _ (J i).rq c3 G3 ((ri.mono hN).mono hG3) hD (by omega)
            rw [← li] at hsame
            rw [← li]
            (repeat ((try (conv=>whnf));(first |(refine stQ ?_) |(with_reducible first |refine q0c (fun vs w=>by kernel_rfl) (by kernel_rfl) (hsame) ?_ |refine q0a (fun vs w=>by kernel_rfl) (by kernel_rfl) (hsame) ?_))))
            conv=>whnf
            refine ⟨⟨i+1,J',G3⟩,⟨by show i+1≤k;omega,Mem.le_trans hN hG3⟩,by show k-(i+1)<k-i;omega,?_⟩
            dsimp only
            ((refine q0g ?_);(conv=>whnf);(refine q0k (by rfl) (by rfl) flQ ?_))
            exact q0b (by exact flQ) (q08 (q0b (by exact flQ) q0e))
          · have hik2:i=k:=by omega
            subst hik2
            have kA:=kA.mono hN
            have kR:=kR.mono hN
            have hHas:=hHas.mono hN
            cases hh:hasL M x' y'
            · rw [hh] at hHas kA
              rw [if_neg (by decide)] at kA
              (repeat ((try (conv=>whnf));(first |(refine stQ ?_) |(with_reducible first |refine q0c (fun vs w=>by kernel_rfl) (by kernel_rfl) (hHas) ?_ |refine q0a (fun vs w=>by kernel_rfl) (by kernel_rfl) (hHas) ?_ |refine q0c (fun vs w=>by kernel_rfl) (by kernel_rfl) (kA) ?_ |refine q0a (fun vs w=>by kernel_rfl) (by kernel_rfl) (kA) ?_ |refine q0c (fun vs w=>by kernel_rfl) (by kernel_rfl) (kR) ?_ |refine q0a (fun vs w=>by kernel_rfl) (by kernel_rfl) (kR) ?_))))
              conv=>whnf
              try simp
            · rw [hh] at hHas kA
              rw [if_pos rfl] at kA
              (repeat ((try (conv=>whnf));(first |(refine stQ ?_) |(with_reducible first |refine q0c (fun vs w=>by kernel_rfl) (by kernel_rfl) (hHas) ?_ |refine q0a (fun vs w=>by kernel_rfl) (by kernel_rfl) (hHas) ?_ |refine q0c (fun vs w=>by kernel_rfl) (by kernel_rfl) (kA) ?_ |refine q0a (fun vs w=>by kernel_rfl) (by kernel_rfl) (kA) ?_ |refine q0c (fun vs w=>by kernel_rfl) (by kernel_rfl) (kR) ?_ |refine q0a (fun vs w=>by kernel_rfl) (by kernel_rfl) (kR) ?_))))
              conv=>whnf
              try simp
      · subst hq'
        (repeat ((try (conv=>whnf));(first |(refine stQ ?_) |(with_reducible first |refine q0c (fun vs w=>by kernel_rfl) (by kernel_rfl) (hL) ?_ |refine q0a (fun vs w=>by kernel_rfl) (by kernel_rfl) (hL) ?_ |refine q0c (fun vs w=>by kernel_rfl) (by kernel_rfl) (s1) ?_ |refine q0a (fun vs w=>by kernel_rfl) (by kernel_rfl) (s1) ?_))))
        conv=>whnf
        rw [cutA]
        conv=>whnf
        rw [show (12:Int).toNat-((0:Nat):Int).toNat=n' by rw [hn'];rfl,show iq'-((0:Nat):Int).toNat=iq' from rfl]
        refine z28 (fun vs w=>by kernel_rfl) (by rfl) hck ?_
        rintro wrap k xs G1 A1 cap G2 hG1 ⟨SA',sq',J,hkn,rfl,rfl,hq1,hq2,hS1,hJ⟩ hG2 hnc hcm hF
        subst hkn
        have hle:=Mem.le_trans hG1 hG2
        have hI:=z5l (hF.els (sz:=34) (fun _ _=>rfl) (by omega))
        obtain ⟨kc,ok2,hreg⟩:=x4r hl ok he vM hG2 hJ hS1 hI ⟨hq1,hq2⟩ ⟨hnc,hcm⟩
        have hl2:=hl.mono hle
        have hB2:=h2.mono hle
        have hR2:=hR.mono hle
        have okl:=(q9g (W:=W) (H:=H) (p:=d.p) (R:=d.R) (f:=d.f) hm ⟨hn2,hn3⟩ (z80 (hS.mono hle)) hl2.items (fun hm8 x hx=>hl2.ite hm8 hx)).2.2 he
        conv=>whnf
        (repeat ((try (conv=>whnf));(first |(refine stQ ?_) |(with_reducible first |refine q0c (fun vs w=>by kernel_rfl) (by kernel_rfl) (hB2) ?_ |refine q0a (fun vs w=>by kernel_rfl) (by kernel_rfl) (hB2) ?_ |refine q0c (fun vs w=>by kernel_rfl) (by kernel_rfl) (g3.mono hle) ?_ |refine q0a (fun vs w=>by kernel_rfl) (by kernel_rfl) (g3.mono hle) ?_))))
        conv=>whnf
        obtain ⟨x',hx',gx⟩:=z45 x 0 (16*W-1) (by have:=ok.wd;omega)
        obtain ⟨y',hy',gy⟩:=z45 y 0 (16*H-1) (by have:=ok.ht;omega)
        have okw:=ok.wd
        have okh:=ok.ht
        (repeat ((try (conv=>whnf));(first |(refine stQ ?_) |(with_reducible first |refine q0c (fun vs w=>by kernel_rfl) (by kernel_rfl) (gx _) ?_ |refine q0a (fun vs w=>by kernel_rfl) (by kernel_rfl) (gx _) ?_ |refine q0c (fun vs w=>by kernel_rfl) (by kernel_rfl) (gy _) ?_ |refine q0a (fun vs w=>by kernel_rfl) (by kernel_rfl) (gy _) ?_))))
        conv=>whnf
        have hHas:=q8w RB M rd x' y' G2 hR2 (by have:=vM.length;omega)
        have kA:=x2s kc hI (by have:=ok.len;omega) ok.few okw okh ok2.ok (x:=x') (y:=y') (by omega) (by omega)
        have kR:=z27 (W:=W) (H:=H) (SA:=A) (m:=m) (sq:=sq) (iq:=iq') (x:=x') (y:=y') hl2.items (by have:=ok.len;omega) ok.few okl.ok okl.ref (by omega) (by omega)
        have hval:q3z J d.f (fun x=>mixR 1 (d.R x) M) k m x' y'=if hasL M x' y'=true then q3z d.I d.f d.R k m x' y' else fun _=>0:=by
          by_cases hh:hasL M x' y'=true
          · rw [if_pos hh]
            exact x2y ok.ok (fun z hz=>(hreg z hz).1) fun z hz _=>by rw [z20 (hreg z hz).2.1 vM,hh,Bool.and_true]
          · have hf:hasL M x' y'=false:=by simpa using hh
            rw [if_neg hh]
            exact x2z ok.ok (fun z hz=>(hreg z hz).1) fun z hz _=>by rw [z20 (hreg z hz).2.1 vM,hf,Bool.and_false]
        rw [hval] at kA
        clear hval
        generalize q3z d.I d.f d.R k m x' y'=V at *
        refine q8u tab_ok (ι:=CopyT) (fun t=>t.k≤k∧G2.le t.M) (fun t=>[(99,.val (.int .i64 t.k))]) (fun t=>[.cells 25 [.val (.int .i64 W),.val (.int .i64 H),.val (.slice A m sq),.val (.slice B k iq')],.gone,.cells 25 [.val (.int .i64 W),.val (.int .i64 H),.val (.slice SA' m sq'),.val (.slice A1 k cap)]]) (fun t=>t.M) (fun t=>k-t.k) ⟨0,J,G2⟩ ?_ ?_ ?_
        · exact ⟨Nat.zero_le _,Mem.le_refl _⟩
        · dsimp only
          ((refine q0g ?_);(conv=>whnf);(refine q0k (by rfl) (by rfl) flQ ?_))
          exact q0b (by exact flQ) (q08 (q0b (by exact flQ) q0e))
        · rintro ⟨i,J',N⟩ ⟨hi,hN⟩
          dsimp only at hi hN ⊢
          rcases Nat.lt_or_ge i k with hik |hik
          · obtain ⟨pJ,hpJ,cJ⟩:=(hI.mono hN) i hik
            obtain ⟨pI,hpI,cI⟩:=(hl2.items.mono hN) i hik
            have c1J:=q7z (j:=1) cJ rfl
            have c1I:=q7z (j:=1) cI rfl
            subst hpJ
            subst hpI
            obtain ⟨si,vi,ri,li⟩:=hreg i hik
            have sm:=z1u (G:=N) si
            have hrun:=z44 (hl2.item i hik).run.2.2
            have hlen:(d.R i).length=(d.I i).rn:=q4j _ _
            have hmk:=z1r (d.I i).RA RB (d.R i) M (d.I i).rq rd 1 N (RunsM.mono hrun hN) (hR2.mono hN) vi vM
            rw [hlen] at hmk
            have hcp:(mixR 1 (d.R i) M).length≤1000000000:=z21 (z2u vi vM)
            (repeat ((try (conv=>whnf));(first |(with_reducible refine q2u tab_ok (by kernel_rfl) 27 [] (by decide +kernel) ?_) |(refine cJ _ ?_) |(refine cI _ ?_) |(refine q0d _ c1J ?_) |(refine q0d _ c1I ?_) |(refine stQ ?_) |(with_reducible first |refine q0c (fun vs w=>by kernel_rfl) (by kernel_rfl) (sm) ?_ |refine q0a (fun vs w=>by kernel_rfl) (by kernel_rfl) (sm) ?_))))
            conv=>whnf
            refine z3q (fun vs w=>by kernel_rfl) (.alone fun _=>rfl) (by rfl) hmk ?_
            (repeat ((try (conv=>whnf));(first |(refine q0d _ c1J ?_) |(refine stQ ?_))))
            conv=>whnf
            refine z7x (fun vs w=>by kernel_rfl) (by rfl) fun A3 c3 G3 hG3 hc3 hm3 hx3=>?_
            conv=>whnf
            have hD:RunsM G3 A3 (mixR 1 (d.R i) M):=by
              rcases hx3 with ⟨_,h⟩ |⟨b,off,rfl,h⟩
              · have hl0:(mixR 1 (d.R i) M).length=0:=by
                  have:=q1x (mixR 1 (d.R i) M);rw [h] at this;simp at this;omega
                rw [List.eq_nil_of_length_eq_zero hl0];exact RunsM.nil _ _
              · intro j r hr
                obtain ⟨h1,h2,h3⟩:=q5e hr
                exact ⟨b,off,rfl,h _ _ h1,by rw [Nat.add_assoc];exact h _ _ h2,by rw [Nat.add_assoc];exact h _ _ h3⟩
            have hsame:=z1q (J i).RA A3 _ (J i).rq c3 G3 ((ri.mono hN).mono hG3) hD (by omega)
            rw [← li] at hsame
            rw [← li]
            (repeat ((try (conv=>whnf));(first |(refine stQ ?_) |(with_reducible first |refine q0c (fun vs w=>by kernel_rfl) (by kernel_rfl) (hsame) ?_ |refine q0a (fun vs w=>by kernel_rfl) (by kernel_rfl) (hsame) ?_))))
            conv=>whnf
            refine ⟨⟨i+1,J',G3⟩,⟨by show i+1≤k;omega,Mem.le_trans hN hG3⟩,by show k-(i+1)<k-i;omega,?_⟩
            dsimp only
            ((refine q0g ?_);(conv=>whnf);(refine q0k (by rfl) (by rfl) flQ ?_))
            exact q0b (by exact flQ) (q08 (q0b (by exact flQ) q0e))
          · have hik2:i=k:=by omega
            subst hik2
            have kA:=kA.mono hN
            have kR:=kR.mono hN
            have hHas:=hHas.mono hN
            cases hh:hasL M x' y'
            · rw [hh] at hHas kA
              rw [if_neg (by decide)] at kA
              (repeat ((try (conv=>whnf));(first |(refine stQ ?_) |(with_reducible first |refine q0c (fun vs w=>by kernel_rfl) (by kernel_rfl) (hHas) ?_ |refine q0a (fun vs w=>by kernel_rfl) (by kernel_rfl) (hHas) ?_ |refine q0c (fun vs w=>by kernel_rfl) (by kernel_rfl) (kA) ?_ |refine q0a (fun vs w=>by kernel_rfl) (by kernel_rfl) (kA) ?_ |refine q0c (fun vs w=>by kernel_rfl) (by kernel_rfl) (kR) ?_ |refine q0a (fun vs w=>by kernel_rfl) (by kernel_rfl) (kR) ?_))))
              conv=>whnf
              try simp
            · rw [hh] at hHas kA
              rw [if_pos rfl] at kA
              (repeat ((try (conv=>whnf));(first |(refine stQ ?_) |(with_reducible first |refine q0c (fun vs w=>by kernel_rfl) (by kernel_rfl) (hHas) ?_ |refine q0a (fun vs w=>by kernel_rfl) (by kernel_rfl) (hHas) ?_ |refine q0c (fun vs w=>by kernel_rfl) (by kernel_rfl) (kA) ?_ |refine q0a (fun vs w=>by kernel_rfl) (by kernel_rfl) (kA) ?_ |refine q0c (fun vs w=>by kernel_rfl) (by kernel_rfl) (kR) ?_ |refine q0a (fun vs w=>by kernel_rfl) (by kernel_rfl) (kR) ?_))))
              conv=>whnf
              try simp
    · have c1:=v07 h1 (Check_gives hR hd hd') hre
      rcases hcut with ⟨h12,rfl,rfl⟩ |⟨h12,rfl,rfl⟩
      · (repeat ((try (conv=>whnf));(first |(refine stQ ?_) |(with_reducible first |refine q0c (fun vs w=>by kernel_rfl) (by kernel_rfl) (hL) ?_ |refine q0a (fun vs w=>by kernel_rfl) (by kernel_rfl) (hL) ?_ |refine q0c (fun vs w=>by kernel_rfl) (by kernel_rfl) (s1) ?_ |refine q0a (fun vs w=>by kernel_rfl) (by kernel_rfl) (s1) ?_ |refine q0c (fun vs w=>by kernel_rfl) (by kernel_rfl) (c1) ?_ |refine q0a (fun vs w=>by kernel_rfl) (by kernel_rfl) (c1) ?_ |refine q0c (fun vs w=>by kernel_rfl) (by kernel_rfl) (h2) ?_ |refine q0a (fun vs w=>by kernel_rfl) (by kernel_rfl) (h2) ?_ |refine q0c (fun vs w=>by kernel_rfl) (by kernel_rfl) (g3) ?_ |refine q0a (fun vs w=>by kernel_rfl) (by kernel_rfl) (g3) ?_ |refine q0c (fun vs w=>by kernel_rfl) (by kernel_rfl) (q5f) ?_ |refine q0a (fun vs w=>by kernel_rfl) (by kernel_rfl) (q5f) ?_))))
        conv=>whnf
        try simp
      · (repeat ((try (conv=>whnf));(first |(refine stQ ?_) |(with_reducible first |refine q0c (fun vs w=>by kernel_rfl) (by kernel_rfl) (hL) ?_ |refine q0a (fun vs w=>by kernel_rfl) (by kernel_rfl) (hL) ?_ |refine q0c (fun vs w=>by kernel_rfl) (by kernel_rfl) (s1) ?_ |refine q0a (fun vs w=>by kernel_rfl) (by kernel_rfl) (s1) ?_))))
        conv=>whnf
        rw [cutA]
        (repeat ((try (conv=>whnf));(first |(refine q0c (fun vs w=>by kernel_rfl) (by kernel_rfl) c1 ?_) |(refine q0c (fun vs w=>by kernel_rfl) (by kernel_rfl) h2 ?_) |(refine stQ ?_) |(with_reducible first |refine q0c (fun vs w=>by kernel_rfl) (by kernel_rfl) (g3) ?_ |refine q0a (fun vs w=>by kernel_rfl) (by kernel_rfl) (g3) ?_ |refine q0c (fun vs w=>by kernel_rfl) (by kernel_rfl) (q5f) ?_ |refine q0a (fun vs w=>by kernel_rfl) (by kernel_rfl) (q5f) ?_))))
        conv=>whnf
        try simp
  · have c1:=v06 (rb:=.slice RB M.length rd) h1 he
    rcases hcut with ⟨h12,rfl,rfl⟩ |⟨h12,rfl,rfl⟩
    · (repeat ((try (conv=>whnf));(first |(refine stQ ?_) |(with_reducible first |refine q0c (fun vs w=>by kernel_rfl) (by kernel_rfl) (hL) ?_ |refine q0a (fun vs w=>by kernel_rfl) (by kernel_rfl) (hL) ?_ |refine q0c (fun vs w=>by kernel_rfl) (by kernel_rfl) (s1) ?_ |refine q0a (fun vs w=>by kernel_rfl) (by kernel_rfl) (s1) ?_ |refine q0c (fun vs w=>by kernel_rfl) (by kernel_rfl) (c1) ?_ |refine q0a (fun vs w=>by kernel_rfl) (by kernel_rfl) (c1) ?_ |refine q0c (fun vs w=>by kernel_rfl) (by kernel_rfl) (h2) ?_ |refine q0a (fun vs w=>by kernel_rfl) (by kernel_rfl) (h2) ?_ |refine q0c (fun vs w=>by kernel_rfl) (by kernel_rfl) (q5f) ?_ |refine q0a (fun vs w=>by kernel_rfl) (by kernel_rfl) (q5f) ?_))))
      conv=>whnf
      try simp
    · (repeat ((try (conv=>whnf));(first |(refine stQ ?_) |(with_reducible first |refine q0c (fun vs w=>by kernel_rfl) (by kernel_rfl) (hL) ?_ |refine q0a (fun vs w=>by kernel_rfl) (by kernel_rfl) (hL) ?_ |refine q0c (fun vs w=>by kernel_rfl) (by kernel_rfl) (s1) ?_ |refine q0a (fun vs w=>by kernel_rfl) (by kernel_rfl) (s1) ?_))))
      conv=>whnf
      rw [cutA]
      (repeat ((try (conv=>whnf));(first |(refine q0c (fun vs w=>by kernel_rfl) (by kernel_rfl) c1 ?_) |(refine q0c (fun vs w=>by kernel_rfl) (by kernel_rfl) h2 ?_) |(refine stQ ?_) |(with_reducible first |refine q0c (fun vs w=>by kernel_rfl) (by kernel_rfl) (q5f) ?_ |refine q0a (fun vs w=>by kernel_rfl) (by kernel_rfl) (q5f) ?_))))
      conv=>whnf
      try simp
end
theorem walk (a0x0:Int) (a0x1:Int) (A0x2:Option Addr) (n0x2:Nat) (q0x2:Nat) (g0x2:Nat→Nat→Value) (A0x3:Option Addr) (n0x3:Nat) (q0x3:Nat) (g0x3:Nat→Nat→Value) (A1:Option Addr) (n1:Nat) (cap1:Nat) (rs1:Nat→Run) (a2:Int) (a3:Int) (w:World) (w0x0:(Lit.int .i64 a0x0).wf=true) (w0x1:(Lit.int .i64 a0x1).wf=true) (c0x2:n0x2≤q0x2) (m0x2:q0x2≤maxLen) (s0x2:SliceG Tryz.prog w 9 A0x2 n0x2 g0x2) (c0x3:n0x3≤q0x3) (m0x3:q0x3≤maxLen) (s0x3:SliceG Tryz.prog w 56 A0x3 n0x3 g0x3) (c1:n1≤cap1) (m1:cap1≤maxLen) (w1:RunsAt w A1 n1 rs1) (w2:(Lit.int .i64 a2).wf=true) (w3:(Lit.int .i64 a3).wf=true) :
    Calls Tryz.prog 8 #[.agg #[.int .i64 a0x0,.int .i64 a0x1,.slice A0x2 n0x2 q0x2,.slice A0x3 n0x3 q0x3],.slice A1 n1 cap1,.int .i64 a2,.int .i64 a3] w fun e w'=>e=.returned (.bool true)∧Below w.heap.size w w':=by
  obtain ⟨d,hl,_⟩:=v33 s0x3 n0x2
  have h:=body (W:=a0x0) (H:=a0x1) (x:=a2) (y:=a3) (rc:=cap1) ⟨c0x2,m0x2⟩ ⟨c0x3,m0x3⟩ s0x2 hl w1.m (by rw [q4j];exact ⟨c1,m1⟩)
  rw [q4j] at h
  refine v2f tab_ok Tryz.func8 ?_ h
  rw [AV.rels]
  refine ⟨_,_,rfl,?_,q5v [.slice A1 n1 cap1,.int .i64 a2,.int .i64 a3]⟩
  rw [AV.rel]
  exact ⟨_,rfl,q5v (β:=noName) [.int .i64 a0x0,.int .i64 a0x1,.slice A0x2 n0x2 q0x2,.slice A0x3 n0x3 q0x3]⟩
end Go.Proofs.YticolnghiibgfaaGreat.listClips
