/-
  ListBrackets: the law's walk.
-/
import Derived.Test.YticolnghiibgfaaGreatMrg35
import Derived.Test.YticolnghiibgfaaGreatMrg25
set_option linter.unusedVariables false
set_option linter.unusedSimpArgs false
set_option linter.unnecessarySimpa false
namespace Go.Proofs.YticolnghiibgfaaGreat.listBrackets
open Go.RowKit Go.Deep
set_option maxRecDepth 20000
def inkF (l:List Int) (j:Nat):Int:=l.getD j 0
theorem x8v (g:ItemD):∃ cs,Value.agg ⟨g.cells⟩=.agg cs∧AV.rels noName (g.cells.map .val) cs.toList:=⟨_,rfl,q45 (β:=noName) g.cells⟩
section
variable {W H i j:Int} {A B:Option Addr} {m sq n iq:Nat} {gs:Nat→Nat→Value} {w:World} {d:LisD} {g:ItemD} {gr g1 gp gf:Nat→Nat→Value}
set_option maxHeartbeats 16000000 in
theorem body (hm:m≤sq∧sq≤maxLen) (hn:n≤iq∧iq≤maxLen) (hs:SliceG Tryz.prog w 9 A m gs) (hl:LisM (q16 w) B n m d) (hg:ItemG (q16 w) g gr g1 gp gf) :
    q32 Tryz.prog tab 0 Tryz.f6 [q2h W H A m sq B n iq,.val (.int .i64 i),.val (.int .i64 j),q3x g] [] (q16 w) fun v _ _=>v=.val (.bool true):=by
  have hL:=x1v (G:=q16 w)
  obtain ⟨n',iq',hcut,hn1,hn2,hn3⟩:∃ n' iq',((n≤12∧n'=n∧iq'=iq)∨(12<n∧n'=12∧iq'=iq))∧n'≤n∧n'≤iq'∧iq'≤maxLen:=by
    by_cases h:n≤12
    · exact ⟨n,iq,.inl ⟨h,rfl,rfl⟩,Nat.le_refl _,hn.1,hn.2⟩
    · exact ⟨12,iq,.inr ⟨by omega,rfl,rfl⟩,by omega,by omega,hn.2⟩
  have hl:=LisM.less hl hn1
  obtain ⟨h1,h2,h3⟩:=z1o (W:=W) (H:=H) (p:=d.p) (R:=d.R) (f:=d.f) hm ⟨hn2,hn3⟩ (v08 hs) hl.items (fun hm8 x hx=>hl.ite hm8 hx)
  have hS:=SliceM.of hs
  by_cases he:lisE W H m (fun x=>valS (gs x 0)) n' d.I d.p=0
  · have ok:=h3 he
    rw [he] at h1 h2
    have hlen:=ok.len
    by_cases hr:i<0∨i > j∨j > n'
    · have c1:=x1x (n:=n') (g:=g) h1 (by omega) hr
      have hr':i<0∨(¬ i<0∧i > j)∨(¬ i<0∧¬ i > j∧j > n'):=by omega
      rcases hcut with ⟨h12,rfl,rfl⟩ |⟨h12,rfl,rfl⟩
      · rcases hr' with r1 |⟨r1,r2⟩ |⟨r1,r2,r3⟩ <;>
        · (repeat ((try (conv=>whnf));(first |(refine stQ ?_) |(with_reducible first |refine q0b (fun vs w=>by kernel_rfl) (by kernel_rfl) (hL) ?_ |refine q0a (fun vs w=>by kernel_rfl) (by kernel_rfl) (hL) ?_ |refine q0b (fun vs w=>by kernel_rfl) (by kernel_rfl) (c1) ?_ |refine q0a (fun vs w=>by kernel_rfl) (by kernel_rfl) (c1) ?_ |refine q0b (fun vs w=>by kernel_rfl) (by kernel_rfl) (h2) ?_ |refine q0a (fun vs w=>by kernel_rfl) (by kernel_rfl) (h2) ?_ |refine q0b (fun vs w=>by kernel_rfl) (by kernel_rfl) (q1z) ?_ |refine q0a (fun vs w=>by kernel_rfl) (by kernel_rfl) (q1z) ?_))))
          conv=>whnf
          try simp
      · rcases hr' with r1 |⟨r1,r2⟩ |⟨r1,r2,r3⟩ <;>
        · (repeat ((try (conv=>whnf));(first |(refine stQ ?_) |(with_reducible first |refine q0b (fun vs w=>by kernel_rfl) (by kernel_rfl) (hL) ?_ |refine q0a (fun vs w=>by kernel_rfl) (by kernel_rfl) (hL) ?_))))
          conv=>whnf
          rw [cutA]
          (repeat ((try (conv=>whnf));(first |(refine q0b (fun vs w=>by kernel_rfl) (by kernel_rfl) c1 ?_) |(refine q0b (fun vs w=>by kernel_rfl) (by kernel_rfl) h2 ?_) |(refine stQ ?_) |(with_reducible first |refine q0b (fun vs w=>by kernel_rfl) (by kernel_rfl) (q1z) ?_ |refine q0a (fun vs w=>by kernel_rfl) (by kernel_rfl) (q1z) ?_))))
          conv=>whnf
          try simp
    · by_cases hk:g.K≠1
      · have c1:=x01 (i:=i) (j:=j) h1 (by omega) (by omega) (by omega) hk
        rcases hcut with ⟨h12,rfl,rfl⟩ |⟨h12,rfl,rfl⟩
        · (repeat ((try (conv=>whnf));(first |(refine stQ ?_) |(with_reducible first |refine q0b (fun vs w=>by kernel_rfl) (by kernel_rfl) (hL) ?_ |refine q0a (fun vs w=>by kernel_rfl) (by kernel_rfl) (hL) ?_ |refine q0b (fun vs w=>by kernel_rfl) (by kernel_rfl) (c1) ?_ |refine q0a (fun vs w=>by kernel_rfl) (by kernel_rfl) (c1) ?_ |refine q0b (fun vs w=>by kernel_rfl) (by kernel_rfl) (h2) ?_ |refine q0a (fun vs w=>by kernel_rfl) (by kernel_rfl) (h2) ?_ |refine q0b (fun vs w=>by kernel_rfl) (by kernel_rfl) (q1z) ?_ |refine q0a (fun vs w=>by kernel_rfl) (by kernel_rfl) (q1z) ?_))))
          conv=>whnf
          try simp
        · (repeat ((try (conv=>whnf));(first |(refine stQ ?_) |(with_reducible first |refine q0b (fun vs w=>by kernel_rfl) (by kernel_rfl) (hL) ?_ |refine q0a (fun vs w=>by kernel_rfl) (by kernel_rfl) (hL) ?_))))
          conv=>whnf
          rw [cutA]
          (repeat ((try (conv=>whnf));(first |(refine q0b (fun vs w=>by kernel_rfl) (by kernel_rfl) c1 ?_) |(refine q0b (fun vs w=>by kernel_rfl) (by kernel_rfl) h2 ?_) |(refine stQ ?_) |(with_reducible first |refine q0b (fun vs w=>by kernel_rfl) (by kernel_rfl) (q1z) ?_ |refine q0a (fun vs w=>by kernel_rfl) (by kernel_rfl) (q1z) ?_))))
          conv=>whnf
          try simp
      · have hk:g.K=1:=by omega
        obtain ⟨a,rfl⟩:∃ a:Nat,i=a:=⟨i.toNat,by omega⟩
        obtain ⟨b,rfl⟩:∃ b:Nat,j=b:=⟨j.toNat,by omega⟩
        have hij:a≤b:=by omega
        have hj:b≤n':=by omega
        obtain ⟨pg,fg,hgi⟩:=x6x ok.few hg
        obtain ⟨pe,fe,hei⟩:=x6x ok.few (x8u w (q16 w))
        have hb:=z8p hl ok he h1 hS hij hj hk hgi hei
        have hw:=v0o hm hl ok.few hS hij hj hgi hei (W:=W) (H:=H)
        have facts:=x1y hl hij hj hgi hei (W:=W) (H:=H) (S:=fun x=>valS (gs x 0)) (m:=m)
        have hE0:ElsM (q16 w) B 34 n' fun x=>(d.I x).cells:=x6y hl
        generalize hq:lisE W H m (fun x=>valS (gs x 0)) (n'+2) (brX d.I a b g endI) (brX d.p a b pg pe)=q at hb hw facts
        have hE:n'≤12:=by omega
        rcases hcut with ⟨h12,hn',hq'⟩ |⟨h12,hn',hq'⟩
        · subst hn';subst hq'
          (repeat ((try (conv=>whnf));(first |(refine stQ ?_) |(with_reducible first |refine q0b (fun vs w=>by kernel_rfl) (by kernel_rfl) (hL) ?_ |refine q0a (fun vs w=>by kernel_rfl) (by kernel_rfl) (hL) ?_))))
          conv=>whnf
          refine z23 (fun vs w=>by kernel_rfl) (by rfl) hb ?_
          intro v G2 hG2 hu hv
          have hB2:=h2.mono hG2
          have hE:=(hE0.mono hG2)
          have s0:=((hE.cut (i:=0) (k:=a) (Nat.zero_le _) hn2 (by omega)).congr (d:=fun x=>(d.I x).cells) fun x _=>by rw [Nat.zero_add]).srcV (by decide) fun x _=>q2x _
          have s2:=((hE.cut (i:=a) (k:=b-a) (by omega) hn2 (by omega))).srcV (by decide) fun x _=>q2x _
          have s4:=((hE.cut (i:=b) (k:=n'-b) (by omega) hn2 (by omega))).srcV (by decide) fun x _=>q2x _
          by_cases h0:q=0
          · obtain ⟨SA',sq',J,A',cap,rfl,hI,hc1,hJ⟩:=hv.2 h0
            conv=>whnf
            (repeat ((try (conv=>whnf));(first |(refine s0 _ ?_) |(refine s2 _ ?_) |(refine s4 _ ?_) |(refine stQ ?_) |(with_reducible first |refine q0b (fun vs w=>by kernel_rfl) (by kernel_rfl) (hB2) ?_ |refine q0a (fun vs w=>by kernel_rfl) (by kernel_rfl) (hB2) ?_))))
            conv=>whnf
            have hXs:=(q5k (J:=d.I) (g:=g) hij hj).symm
            refine q7m (k:=9) (E:=56) (sz:=34) (n:=n'+2) (xs:=q0p (fun x=>(brX d.I a b g endI x).cells) (n'+2)) (pre:=[.int .i64 W,.int .i64 H,.slice A m sq]) (v:=.val (.int .i64 q)) (fun vs w=>by kernel_rfl) rfl ?_ ?_ ?_
            · show Blk.own _ _ _ _=_
              refine z6a (by omega) ?_
              rw [← q9j,← q5k hij hj];rfl
            · intro A3 c3 G3 hG3 hn3' hm3 hF3
              exact (hw A3 c3 G3 (Mem.le_trans hG2 hG3) hn3' hm3 hF3).1
            · rw [h0]
              have hfac:=facts G2 hG2 J hJ h0
              (repeat ((try (conv=>whnf));(refine stQ ?_)))
              conv=>whnf
              refine q05 tab_ok (fun k=>k≤n'+2) (fun (k:Nat)=>[(127,.val (.int .i64 k))]) (fun _=>[.cells 25 [.val (.int .i64 W),.val (.int .i64 H),.val (.slice A m sq),.val (.slice B n' iq')],.gone,.cells 25 [.val (.int .i64 W),.val (.int .i64 H),.val (.slice SA' m sq'),.val (.slice A' (n'+2) cap)],.gone,.gone,.gone,.gone,.gone,.gone,.own 56 34 (n'+2) (q0p (fun x=>(brX d.I a b g endI x).cells) (n'+2))]) (fun k=>n'+2-k) 0 (Nat.zero_le _) ?_ ?_
              · ((refine q0h ?_);(conv=>whnf);(refine q0k (by rfl) (by rfl) flQ ?_))
                exact q0c (by exact flQ) (q00 (q0c (by exact flQ) (q00 (q00 (q00 (q00 (q00 (q00 (q0i (by omega) (by rw [← q9j,← q5k hij hj];rfl) q0f)))))))))
              · intro k hk
                rcases Nat.lt_or_ge k (n'+2) with hkn |hkn
                · obtain ⟨f1,f2,f3⟩:=hfac k hkn
                  have sm:=z0u (G:=G2) f1
                  obtain ⟨pJ,hpJ,cJ⟩:=hI k hkn
                  have cI:=q7c (I:=brX d.I a b g endI) hkn (o:=0) (c:=34) (by omega) rfl
                  have c1J:=q9c (j:=1) cJ rfl
                  have c1I:=q7c (I:=brX d.I a b g endI) hkn (o:=1) (c:=1) (by omega) rfl
                  have c3I:=q7c (I:=brX d.I a b g endI) hkn (o:=3) (c:=8) (by omega) rfl
                  have c3J:=x2w cJ f2
                  subst hpJ
                  dsimp only
                  (repeat ((try (conv=>whnf));(first |(refine cJ _ ?_) |(refine cI _ ?_) |(refine q0d _ c1J ?_) |(refine c1I _ ?_) |(refine c3I _ ?_) |(refine c3J _ ?_) |(refine stQ ?_) |(with_reducible first |refine q0b (fun vs w=>by kernel_rfl) (by kernel_rfl) (sm) ?_ |refine q0a (fun vs w=>by kernel_rfl) (by kernel_rfl) (sm) ?_ |refine q0b (fun vs w=>by kernel_rfl) (by kernel_rfl) (f3) ?_ |refine q0a (fun vs w=>by kernel_rfl) (by kernel_rfl) (f3) ?_))))
                  conv=>whnf
                  refine ⟨k+1,by omega,by omega,?_⟩
                  ((refine q0h ?_);(conv=>whnf);(refine q0k (by rfl) (by rfl) flQ ?_))
                  exact q0c (by exact flQ) (q00 (q0c (by exact flQ) (q00 (q00 (q00 (q00 (q00 (q00 (q0i rfl rfl q0f)))))))))
                · have hk2:k=n'+2:=by omega
                  subst hk2
                  dsimp only
                  (repeat ((try (conv=>whnf));(refine stQ ?_)))
                  conv=>whnf
                  try simp
          · have hv1:=hv.1 h0
            subst hv1
            conv=>whnf
            (repeat ((try (conv=>whnf));(first |(refine s0 _ ?_) |(refine s2 _ ?_) |(refine s4 _ ?_) |(refine stQ ?_) |(with_reducible first |refine q0b (fun vs w=>by kernel_rfl) (by kernel_rfl) (hB2) ?_ |refine q0a (fun vs w=>by kernel_rfl) (by kernel_rfl) (hB2) ?_))))
            conv=>whnf
            refine q7m (k:=9) (E:=56) (sz:=34) (n:=n'+2) (xs:=q0p (fun x=>(brX d.I a b g endI x).cells) (n'+2)) (pre:=[.int .i64 W,.int .i64 H,.slice A m sq]) (v:=.val (.int .i64 q)) (fun vs w=>by kernel_rfl) rfl ?_ ?_ ?_
            · show Blk.own _ _ _ _=_
              refine z6a (by omega) ?_
              rw [← q9j,← q5k hij hj];rfl
            · intro A3 c3 G3 hG3 hn3' hm3 hF3
              exact (hw A3 c3 G3 (Mem.le_trans hG2 hG3) hn3' hm3 hF3).1
            · (repeat ((try (conv=>whnf));(first |(refine stQ ?_) |(with_reducible first |refine q0b (fun vs w=>by kernel_rfl) (by kernel_rfl) (q1z) ?_ |refine q0a (fun vs w=>by kernel_rfl) (by kernel_rfl) (q1z) ?_))))
              conv=>whnf
              try simp
        · subst hq'
          (repeat ((try (conv=>whnf));(first |(refine stQ ?_) |(with_reducible first |refine q0b (fun vs w=>by kernel_rfl) (by kernel_rfl) (hL) ?_ |refine q0a (fun vs w=>by kernel_rfl) (by kernel_rfl) (hL) ?_))))
          conv=>whnf
          rw [cutA]
          conv=>whnf
          rw [show (12:Int).toNat-((0:Nat):Int).toNat=n' by rw [hn'];rfl,show iq'-((0:Nat):Int).toNat=iq' from rfl]
          refine z23 (fun vs w=>by kernel_rfl) (by rfl) hb ?_
          intro v G2 hG2 hu hv
          have hB2:=h2.mono hG2
          have hE:=(hE0.mono hG2)
          have s0:=((hE.cut (i:=0) (k:=a) (Nat.zero_le _) hn2 (by omega)).congr (d:=fun x=>(d.I x).cells) fun x _=>by rw [Nat.zero_add]).srcV (by decide) fun x _=>q2x _
          have s2:=((hE.cut (i:=a) (k:=b-a) (by omega) hn2 (by omega))).srcV (by decide) fun x _=>q2x _
          have s4:=((hE.cut (i:=b) (k:=n'-b) (by omega) hn2 (by omega))).srcV (by decide) fun x _=>q2x _
          by_cases h0:q=0
          · obtain ⟨SA',sq',J,A',cap,rfl,hI,hc1,hJ⟩:=hv.2 h0
            conv=>whnf
            (repeat ((try (conv=>whnf));(first |(refine s0 _ ?_) |(refine s2 _ ?_) |(refine s4 _ ?_) |(refine stQ ?_) |(with_reducible first |refine q0b (fun vs w=>by kernel_rfl) (by kernel_rfl) (hB2) ?_ |refine q0a (fun vs w=>by kernel_rfl) (by kernel_rfl) (hB2) ?_))))
            conv=>whnf
            have hXs:=(q5k (J:=d.I) (g:=g) hij hj).symm
            refine q7m (k:=9) (E:=56) (sz:=34) (n:=n'+2) (xs:=q0p (fun x=>(brX d.I a b g endI x).cells) (n'+2)) (pre:=[.int .i64 W,.int .i64 H,.slice A m sq]) (v:=.val (.int .i64 q)) (fun vs w=>by kernel_rfl) rfl ?_ ?_ ?_
            · show Blk.own _ _ _ _=_
              refine z6a (by omega) ?_
              rw [← q9j,← q5k hij hj];rfl
            · intro A3 c3 G3 hG3 hn3' hm3 hF3
              exact (hw A3 c3 G3 (Mem.le_trans hG2 hG3) hn3' hm3 hF3).1
            · rw [h0]
              have hfac:=facts G2 hG2 J hJ h0
              (repeat ((try (conv=>whnf));(refine stQ ?_)))
              conv=>whnf
              refine q05 tab_ok (fun k=>k≤n'+2) (fun (k:Nat)=>[(127,.val (.int .i64 k))]) (fun _=>[.cells 25 [.val (.int .i64 W),.val (.int .i64 H),.val (.slice A m sq),.val (.slice B n' iq')],.gone,.cells 25 [.val (.int .i64 W),.val (.int .i64 H),.val (.slice SA' m sq'),.val (.slice A' (n'+2) cap)],.gone,.gone,.gone,.gone,.gone,.gone,.own 56 34 (n'+2) (q0p (fun x=>(brX d.I a b g endI x).cells) (n'+2))]) (fun k=>n'+2-k) 0 (Nat.zero_le _) ?_ ?_
              · ((refine q0h ?_);(conv=>whnf);(refine q0k (by rfl) (by rfl) flQ ?_))
                exact q0c (by exact flQ) (q00 (q0c (by exact flQ) (q00 (q00 (q00 (q00 (q00 (q00 (q0i (by omega) (by rw [← q9j,← q5k hij hj];rfl) q0f)))))))))
              · intro k hk
                rcases Nat.lt_or_ge k (n'+2) with hkn |hkn
                · obtain ⟨f1,f2,f3⟩:=hfac k hkn
                  have sm:=z0u (G:=G2) f1
                  obtain ⟨pJ,hpJ,cJ⟩:=hI k hkn
                  have cI:=q7c (I:=brX d.I a b g endI) hkn (o:=0) (c:=34) (by omega) rfl
                  have c1J:=q9c (j:=1) cJ rfl
                  have c1I:=q7c (I:=brX d.I a b g endI) hkn (o:=1) (c:=1) (by omega) rfl
                  have c3I:=q7c (I:=brX d.I a b g endI) hkn (o:=3) (c:=8) (by omega) rfl
                  have c3J:=x2w cJ f2
                  subst hpJ
                  dsimp only
                  (repeat ((try (conv=>whnf));(first |(refine cJ _ ?_) |(refine cI _ ?_) |(refine q0d _ c1J ?_) |(refine c1I _ ?_) |(refine c3I _ ?_) |(refine c3J _ ?_) |(refine stQ ?_) |(with_reducible first |refine q0b (fun vs w=>by kernel_rfl) (by kernel_rfl) (sm) ?_ |refine q0a (fun vs w=>by kernel_rfl) (by kernel_rfl) (sm) ?_ |refine q0b (fun vs w=>by kernel_rfl) (by kernel_rfl) (f3) ?_ |refine q0a (fun vs w=>by kernel_rfl) (by kernel_rfl) (f3) ?_))))
                  conv=>whnf
                  refine ⟨k+1,by omega,by omega,?_⟩
                  ((refine q0h ?_);(conv=>whnf);(refine q0k (by rfl) (by rfl) flQ ?_))
                  exact q0c (by exact flQ) (q00 (q0c (by exact flQ) (q00 (q00 (q00 (q00 (q00 (q00 (q0i rfl rfl q0f)))))))))
                · have hk2:k=n'+2:=by omega
                  subst hk2
                  dsimp only
                  (repeat ((try (conv=>whnf));(refine stQ ?_)))
                  conv=>whnf
                  try simp
          · have hv1:=hv.1 h0
            subst hv1
            conv=>whnf
            (repeat ((try (conv=>whnf));(first |(refine s0 _ ?_) |(refine s2 _ ?_) |(refine s4 _ ?_) |(refine stQ ?_) |(with_reducible first |refine q0b (fun vs w=>by kernel_rfl) (by kernel_rfl) (hB2) ?_ |refine q0a (fun vs w=>by kernel_rfl) (by kernel_rfl) (hB2) ?_))))
            conv=>whnf
            refine q7m (k:=9) (E:=56) (sz:=34) (n:=n'+2) (xs:=q0p (fun x=>(brX d.I a b g endI x).cells) (n'+2)) (pre:=[.int .i64 W,.int .i64 H,.slice A m sq]) (v:=.val (.int .i64 q)) (fun vs w=>by kernel_rfl) rfl ?_ ?_ ?_
            · show Blk.own _ _ _ _=_
              refine z6a (by omega) ?_
              rw [← q9j,← q5k hij hj];rfl
            · intro A3 c3 G3 hG3 hn3' hm3 hF3
              exact (hw A3 c3 G3 (Mem.le_trans hG2 hG3) hn3' hm3 hF3).1
            · (repeat ((try (conv=>whnf));(first |(refine stQ ?_) |(with_reducible first |refine q0b (fun vs w=>by kernel_rfl) (by kernel_rfl) (q1z) ?_ |refine q0a (fun vs w=>by kernel_rfl) (by kernel_rfl) (q1z) ?_))))
              conv=>whnf
              try simp
  · have c1:=x1w (i:=i) (j:=j) (g:=g) h1 he
    rcases hcut with ⟨h12,rfl,rfl⟩ |⟨h12,rfl,rfl⟩
    · (repeat ((try (conv=>whnf));(first |(refine stQ ?_) |(with_reducible first |refine q0b (fun vs w=>by kernel_rfl) (by kernel_rfl) (hL) ?_ |refine q0a (fun vs w=>by kernel_rfl) (by kernel_rfl) (hL) ?_ |refine q0b (fun vs w=>by kernel_rfl) (by kernel_rfl) (c1) ?_ |refine q0a (fun vs w=>by kernel_rfl) (by kernel_rfl) (c1) ?_ |refine q0b (fun vs w=>by kernel_rfl) (by kernel_rfl) (h2) ?_ |refine q0a (fun vs w=>by kernel_rfl) (by kernel_rfl) (h2) ?_ |refine q0b (fun vs w=>by kernel_rfl) (by kernel_rfl) (q1z) ?_ |refine q0a (fun vs w=>by kernel_rfl) (by kernel_rfl) (q1z) ?_))))
      conv=>whnf
      try simp
    · (repeat ((try (conv=>whnf));(first |(refine stQ ?_) |(with_reducible first |refine q0b (fun vs w=>by kernel_rfl) (by kernel_rfl) (hL) ?_ |refine q0a (fun vs w=>by kernel_rfl) (by kernel_rfl) (hL) ?_))))
      conv=>whnf
      rw [cutA]
      (repeat ((try (conv=>whnf));(first |(refine q0b (fun vs w=>by kernel_rfl) (by kernel_rfl) c1 ?_) |(refine q0b (fun vs w=>by kernel_rfl) (by kernel_rfl) h2 ?_) |(refine stQ ?_) |(with_reducible first |refine q0b (fun vs w=>by kernel_rfl) (by kernel_rfl) (q1z) ?_ |refine q0a (fun vs w=>by kernel_rfl) (by kernel_rfl) (q1z) ?_))))
      conv=>whnf
      try simp
end
theorem walk (a0x0:Int) (a0x1:Int) (A0x2:Option Addr) (n0x2:Nat) (q0x2:Nat) (g0x2:Nat→Nat→Value) (A0x3:Option Addr) (n0x3:Nat) (q0x3:Nat) (g0x3:Nat→Nat→Value) (a1:Int) (a2:Int) (a3x0:Int) (A3x1:Option Addr) (n3x1:Nat) (q3x1:Nat) (g3x1:Nat→Nat→Value) (a3x2:Int) (a3x3:Int) (a3x4:Int) (a3x5:Int) (a3x6:Int) (a3x7:Int) (a3x8:Int) (a3x9:Int) (a3x10:Int) (a3x11:Int) (a3x12:Int) (a3x13:Int) (a3x14:Int) (a3x15:Int) (A3x16:Option Addr) (n3x16:Nat) (q3x16:Nat) (g3x16:Nat→Nat→Value) (a3x17:Int) (a3x18:Int) (A3x19:Option Addr) (n3x19:Nat) (q3x19:Nat) (g3x19:Nat→Nat→Value) (A3x20:Option Addr) (n3x20:Nat) (q3x20:Nat) (g3x20:Nat→Nat→Value) (a3x21:Int) (a3x22:Int) (a3x23:Int) (a3x24:Int) (a3x25:Int) (a3x26:Int) (a3x27:Bool) (a3x28:Bool) (a3x29:Int) (a3x30:Int) (a3x31:Bool) (a3x32:Bool) (a3x33:Bool) (w:World) (w0x0:(Lit.int .i64 a0x0).wf=true) (w0x1:(Lit.int .i64 a0x1).wf=true) (c0x2:n0x2≤q0x2) (m0x2:q0x2≤maxLen) (s0x2:SliceG Tryz.prog w 9 A0x2 n0x2 g0x2) (c0x3:n0x3≤q0x3) (m0x3:q0x3≤maxLen) (s0x3:SliceG Tryz.prog w 56 A0x3 n0x3 g0x3) (w1:(Lit.int .i64 a1).wf=true) (w2:(Lit.int .i64 a2).wf=true) (w3x0:(Lit.int .i64 a3x0).wf=true) (c3x1:n3x1≤q3x1) (m3x1:q3x1≤maxLen) (s3x1:SliceG Tryz.prog w 87 A3x1 n3x1 g3x1) (w3x2:(Lit.int .i64 a3x2).wf=true) (w3x3:(Lit.int .u8 a3x3).wf=true) (w3x4:(Lit.int .u8 a3x4).wf=true) (w3x5:(Lit.int .u8 a3x5).wf=true) (w3x6:(Lit.int .u8 a3x6).wf=true) (w3x7:(Lit.int .u8 a3x7).wf=true) (w3x8:(Lit.int .u8 a3x8).wf=true) (w3x9:(Lit.int .u8 a3x9).wf=true) (w3x10:(Lit.int .u8 a3x10).wf=true) (w3x11:(Lit.int .i64 a3x11).wf=true) (w3x12:(Lit.int .i64 a3x12).wf=true) (w3x13:(Lit.int .i64 a3x13).wf=true) (w3x14:(Lit.int .i64 a3x14).wf=true) (w3x15:(Lit.int .i64 a3x15).wf=true) (c3x16:n3x16≤q3x16) (m3x16:q3x16≤maxLen) (s3x16:SliceG Tryz.prog w 119 A3x16 n3x16 g3x16) (w3x17:(Lit.int .i64 a3x17).wf=true) (w3x18:(Lit.int .i64 a3x18).wf=true) (c3x19:n3x19≤q3x19) (m3x19:q3x19≤maxLen) (s3x19:SliceG Tryz.prog w 28 A3x19 n3x19 g3x19) (c3x20:n3x20≤q3x20) (m3x20:q3x20≤maxLen) (s3x20:SliceG Tryz.prog w 5 A3x20 n3x20 g3x20) (w3x21:(Lit.int .i64 a3x21).wf=true) (w3x22:(Lit.int .i64 a3x22).wf=true) (w3x23:(Lit.int .i64 a3x23).wf=true) (w3x24:(Lit.int .i64 a3x24).wf=true) (w3x25:(Lit.int .i64 a3x25).wf=true) (w3x26:(Lit.int .i64 a3x26).wf=true) (w3x29:(Lit.int .u8 a3x29).wf=true) (w3x30:(Lit.int .i64 a3x30).wf=true) :
    Calls Tryz.prog 6 #[.agg #[.int .i64 a0x0,.int .i64 a0x1,.slice A0x2 n0x2 q0x2,.slice A0x3 n0x3 q0x3],.int .i64 a1,.int .i64 a2,.agg #[.int .i64 a3x0,.slice A3x1 n3x1 q3x1,.int .i64 a3x2,.int .u8 a3x3,.int .u8 a3x4,.int .u8 a3x5,.int .u8 a3x6,.int .u8 a3x7,.int .u8 a3x8,.int .u8 a3x9,.int .u8 a3x10,.int .i64 a3x11,.int .i64 a3x12,.int .i64 a3x13,.int .i64 a3x14,.int .i64 a3x15,.slice A3x16 n3x16 q3x16,.int .i64 a3x17,.int .i64 a3x18,.slice A3x19 n3x19 q3x19,.slice A3x20 n3x20 q3x20,.int .i64 a3x21,.int .i64 a3x22,.int .i64 a3x23,.int .i64 a3x24,.int .i64 a3x25,.int .i64 a3x26,.bool a3x27,.bool a3x28,.int .u8 a3x29,.int .i64 a3x30,.bool a3x31,.bool a3x32,.bool a3x33]] w fun e w'=>e=.returned (.bool true)∧Below w.heap.size w w':=by
  obtain ⟨d,hl,_⟩:=v1t s0x3 n0x2
  have hg:ItemG (q16 w) ⟨a3x0,A3x1,n3x1,q3x1,a3x2,inkF [a3x3,a3x4,a3x5,a3x6,a3x7,a3x8,a3x9,a3x10],a3x11,a3x12,a3x13,a3x14,a3x15,A3x16,n3x16,q3x16,a3x17,a3x18,A3x19,n3x19,q3x19,A3x20,n3x20,q3x20,a3x21,a3x22,a3x23,a3x24,a3x25,a3x26,a3x27,a3x28,a3x29,a3x30,a3x31,a3x32,a3x33⟩ g3x1 g3x16 g3x19 g3x20:=by
    refine ⟨⟨c3x1,m3x1,SliceM.of s3x1⟩,⟨⟨c3x16,m3x16,SliceM.of s3x16⟩,⟨c3x19,m3x19,SliceM.of s3x19⟩,⟨c3x20,m3x20,SliceM.of s3x20⟩,fun j hj=>?_⟩,q22 w3x29⟩
    match j,hj with
    | 0,_=>exact q22 w3x3
    | 1,_=>exact q22 w3x4
    | 2,_=>exact q22 w3x5
    | 3,_=>exact q22 w3x6
    | 4,_=>exact q22 w3x7
    | 5,_=>exact q22 w3x8
    | 6,_=>exact q22 w3x9
    | 7,_=>exact q22 w3x10
  have h:=body (W:=a0x0) (H:=a0x1) (i:=a1) (j:=a2) ⟨c0x2,m0x2⟩ ⟨c0x3,m0x3⟩ s0x2 hl hg
  refine x93 tab_ok Tryz.func6 ?_ h
  rw [AV.rels]
  refine ⟨_,_,rfl,?_,?_⟩
  · rw [AV.rel]
    exact ⟨_,rfl,q45 (β:=noName) [.int .i64 a0x0,.int .i64 a0x1,.slice A0x2 n0x2 q0x2,.slice A0x3 n0x3 q0x3]⟩
  · rw [AV.rels]
    refine ⟨_,_,rfl,by rw [AV.rel],?_⟩
    rw [AV.rels]
    refine ⟨_,_,rfl,by rw [AV.rel],?_⟩
    rw [AV.rels]
    refine ⟨_,_,rfl,?_,by rw [AV.rels]⟩
    rw [AV.rel]
    exact x8v ⟨a3x0,A3x1,n3x1,q3x1,a3x2,inkF [a3x3,a3x4,a3x5,a3x6,a3x7,a3x8,a3x9,a3x10],a3x11,a3x12,a3x13,a3x14,a3x15,A3x16,n3x16,q3x16,a3x17,a3x18,A3x19,n3x19,q3x19,A3x20,n3x20,q3x20,a3x21,a3x22,a3x23,a3x24,a3x25,a3x26,a3x27,a3x28,a3x29,a3x30,a3x31,a3x32,a3x33⟩
end Go.Proofs.YticolnghiibgfaaGreat.listBrackets
