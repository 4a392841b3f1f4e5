/-
  ListShifts: the law's walk.
-/
import Derived.Test.YticolnghiibgfaaGreatMrg35
import Derived.Test.YticolnghiibgfaaGreatMrg25
set_option linter.unusedVariables false
set_option linter.unusedSimpArgs false
set_option linter.unnecessarySimpa false
namespace Go.Proofs.YticolnghiibgfaaGreat.listShifts
open Go.RowKit Go.Deep
set_option maxRecDepth 20000
structure WantInv (dx dy:Int) (d:LisD) (n:Nat) (G:Mem) (t:CopyT):Prop where
  le:t.k≤n
  sub:G.le t.M
  all:∀ x,x<t.k→∃ RA rq,t.J x=setR (mvI dx dy (d.I x)) RA (shL dx dy (d.R x)).length rq∧(shL dx dy (d.R x)).length≤rq∧rq≤maxLen∧RunsM t.M RA (shL dx dy (d.R x))
theorem WantInv.step {dx dy:Int} {d:LisD} {n k:Nat} {G M M1:Mem} {J J1:Nat→ItemD} {RA:Option Addr} {rq:Nat} (h:WantInv dx dy d n G ⟨k,J,M⟩) (hk:k<n) (hM:M.le M1) (hJ:J1=setJ J k (setR (mvI dx dy (d.I k)) RA (shL dx dy (d.R k)).length rq)) (h1:(shL dx dy (d.R k)).length≤rq) (h2:rq≤maxLen) (hF:FlatM M1 RA (q1u (shL dx dy (d.R k)))) :
    WantInv dx dy d n G ⟨k+1,J1,M1⟩∧q0o (fun x=>(J1 x).cells) (k+1)=q0o (fun x=>(J x).cells) k++(setR (mvI dx dy (d.I k)) RA (shL dx dy (d.R k)).length rq).cells:=by
  subst hJ
  obtain ⟨g1,g2,g3⟩:=h
  dsimp only at g1 g2 g3
  refine ⟨⟨by show k+1≤n;omega,Mem.le_trans g2 hM,fun x hx=>?_⟩,?_⟩
  · have hx:x<k+1:=hx
    dsimp only
    by_cases e:x=k
    · subst e
      rw [q2x]
      refine ⟨RA,rq,rfl,h1,h2,?_⟩
      rcases hF with ⟨_,h⟩ |⟨b,off,rfl,h⟩
      · have hl0:(shL dx dy (d.R x)).length=0:=by
          have:=q3w (shL dx dy (d.R x));rw [h] at this;simp at this;omega
        rw [List.eq_nil_of_length_eq_zero hl0];exact RunsM.nil _ _
      · intro j r hr
        obtain ⟨h1,h2,h3⟩:=q6b hr
        exact ⟨b,off,rfl,h _ _ h1,by rw [Nat.add_assoc];exact h _ _ h2,by rw [Nat.add_assoc];exact h _ _ h3⟩
    · rw [q1y e]
      obtain ⟨RA2,rq2,z1,z2,z3,z4⟩:=g3 x (by omega)
      exact ⟨RA2,rq2,z1,z2,z3,z4.mono hM⟩
  · rw [q0o,q2x]
    congr 1
    exact q42 fun y hy=>by rw [q1y (by omega)]
section
variable {W H dx dy:Int} {A B:Option Addr} {m sq n iq:Nat} {gs:Nat→Nat→Value} {w:World} {d:LisD}
set_option maxHeartbeats 16000000 in
theorem body (hm:m≤sq∧sq≤maxLen) (hn:n≤iq∧iq≤maxLen) (hs:SliceG Tryz.prog w 9 A m gs) (hl:LisM (q2k w) B n m d) :
    q4d Tryz.prog tab 0 Tryz.f7 [q2i W H A m sq B n iq,.val (.int .i64 dx),.val (.int .i64 dy)] [] (q2k w) fun v _ _=>v=.val (.bool true):=by
  have hL:=x19 (G:=q2k w)
  obtain ⟨n',iq',hcut,hn1,hn2,hn3⟩:∃ n' iq',((n≤12∧n'=n∧iq'=iq)∨(12<n∧n'=12∧iq'=iq))∧n'≤n∧n'≤iq'∧iq'≤maxLen:=by
    by_cases h:n≤12
    · exact ⟨n,iq,.inl ⟨h,rfl,rfl⟩,Nat.le_refl _,hn.1,hn.2⟩
    · exact ⟨12,iq,.inr ⟨by omega,rfl,rfl⟩,by omega,by omega,hn.2⟩
  have hl:=LisM.less hl hn1
  obtain ⟨h1,h2,h3⟩:=z6a (W:=W) (H:=H) (p:=d.p) (R:=d.R) (f:=d.f) hm ⟨hn2,hn3⟩ (v1i hs) hl.items (fun hm8 x hx=>hl.ite hm8 hx)
  have hS:=SliceM.of hs
  by_cases he:lisE W H m (fun x=>valS (gs x 0)) n' d.I d.p=0
  · have ok:=h3 he
    rw [he] at h1 h2
    have hlen:=ok.len
    by_cases hr:(-8192≤dx∧dx≤8192)∧-8192≤dy∧dy≤8192
    · obtain ⟨sE,f',hms⟩:=v1r (dx:=dx) (dy:=dy) hl ok.few
      have hb:=x2b hl ok he h1 hS hr.1 hr.2 hms
      have hrc:=hl.rows ok.few he
      have vR:∀ x,x<n'→ValidL (d.R x):=fun x hx=>by
        by_cases h0:(d.I x).K=0
        · exact (ok.ok.reg x hx h0).2.2
        · obtain ⟨z1,_⟩:=z8j (z1v he x hx) h0
          have hR0:d.R x=[]:=by unfold LisD.R;rw [z1];rfl
          rw [hR0];exact q9j (by decide)
      have hwant:=fun (J:Nat→ItemD) (G2 M G3:Mem) (A3:Option Addr) (c3:Nat) (hG:(q2k w).le G2) (hw:WantInv dx dy d n' G2 ⟨n',J,M⟩) (hM:M.le G3) (h1:n'≤c3) (h2:c3≤maxLen) (hF:FlatM G3 A3 (q0o (fun x=>(J x).cells) n')) =>
        (z4b (W:=W) (H:=H) (dx:=dx) (dy:=dy) hl ok.few hms hm ⟨h1,h2⟩ (hS.mono (Mem.le_trans hG (Mem.le_trans hw.sub hM))) (z0g (hF.els (fun _ _=>rfl) (by omega))) fun x hx=>by
          obtain ⟨RA,rq,hj,g1,g2,g3⟩:=hw.all x hx
          dsimp only at hj g3
          have hi:=((hl.item x hx).mono (Mem.le_trans hG (Mem.le_trans hw.sub hM))).src
          rw [hj]
          exact ⟨⟨RA,rq,_,_,_,_,_,_,rfl⟩,g3.mono hM,g1,g2,⟨hi.stop,hi.pix,hi.soft,hi.ink⟩⟩).2
      generalize hq:z6d dx dy W H m n' (fun x=>valS (gs x 0)) d sE=q at hb hwant
      have hE:n'≤12:=by omega
      rcases hcut with ⟨h12,hn',hq'⟩ |⟨h12,hn',hq'⟩
      case' inl =>
        subst hn';subst hq'
        (repeat ((try (conv=>whnf));(first |(refine stQ ?_) |(with_reducible first |refine q0b (fun vs w=>by kernel_rfl) (by kernel_rfl) (hL) ?_ |refine q0a (fun vs w=>by kernel_rfl) (by kernel_rfl) (hL) ?_))))
        conv=>whnf
      case' inr =>
        subst hq'
        (repeat ((try (conv=>whnf));(first |(refine stQ ?_) |(with_reducible first |refine q0b (fun vs w=>by kernel_rfl) (by kernel_rfl) (hL) ?_ |refine q0a (fun vs w=>by kernel_rfl) (by kernel_rfl) (hL) ?_))))
        conv=>whnf
        rw [cutA]
        conv=>whnf
        rw [show (12:Int).toNat-((0:Nat):Int).toNat=n' by rw [hn'];rfl,show iq'-((0:Nat):Int).toNat=iq' from rfl]
      all_goals
        refine x1f (fun vs w=>by kernel_rfl) (by rfl) hb ?_
        intro v G2 hG2 hu hv
        obtain ⟨va,vb,c1,c2,c3,d1,d2,d3,e,rfl,hv1,hv2⟩:∃ va vb c1 c2 c3 d1 d2 d3 e,v=.tup [q2i va vb c1 c2 c3 d1 d2 d3,.val (.int .i64 e)]∧(q≠0→va=0∧vb=0∧c1=none∧c2=0∧c3=0∧d1=none∧d2=0∧d3=0∧e=10) ∧
            (q=0→∃ J,W=va∧H=vb∧n'=d2∧0=e∧ItemsM G2 d1 n' J∧∀ x,x<n'→MvI dx dy (d.I x) (d.R x) (J x)∧RunsM G2 (J x).RA (shL dx dy (d.R x))):=by
          by_cases h0:q=0
          · obtain ⟨SA',sq',J,A',cap,rfl,z1,z2,z3⟩:=hv.2 h0
            exact ⟨_,_,_,_,_,_,_,_,_,rfl,fun e=>absurd h0 e,fun _=>⟨J,rfl,rfl,rfl,rfl,z1,z3⟩⟩
          · rw [hv.1 h0]
            exact ⟨_,_,_,_,_,_,_,_,_,rfl,fun _=>⟨rfl,rfl,rfl,rfl,rfl,rfl,rfl,rfl,rfl⟩,fun e=>absurd e h0⟩
        have hB2:=h2.mono hG2
        have hl2:=hl.mono hG2
        clear hv hu
        conv=>whnf
        (repeat ((try (conv=>whnf));(first |(refine stQ ?_) |(with_reducible first |refine q0b (fun vs w=>by kernel_rfl) (by kernel_rfl) (hB2) ?_ |refine q0a (fun vs w=>by kernel_rfl) (by kernel_rfl) (hB2) ?_ |refine q0f tab_ok Tryz.func12 (fun vs w=>by kernel_rfl) (by rfl) ?_))))
        conv=>whnf
        refine q91 tab_ok (ι:=CopyT) (fun t=>WantInv dx dy d n' G2 t) (fun t=>[(59,.val (.int .i64 t.k))]) (fun t=>[.cells 25 [.val (.int .i64 W),.val (.int .i64 H),.val (.slice A m sq),.val (.slice B n' iq')],.cells 25 [.val (.int .i64 va),.val (.int .i64 vb),.val (.slice c1 c2 c3),.val (.slice d1 d2 d3)],.cells 25 [.val (.int .i64 W),.val (.int .i64 H),.val (.slice A m sq),.own 3],.own 56 34 t.k (q0o (fun x=>(t.J x).cells) t.k)]) (fun t=>t.M) (fun t=>n'-t.k) ⟨0,d.I,G2⟩ ?_ ?_ ?_
        · exact ⟨Nat.zero_le _,Mem.le_refl _,fun x hx=>absurd hx (Nat.not_lt_zero _)⟩
        · refine z5i 56 34 ?_
          conv=>whnf
          dsimp only
          ((refine q0h ?_);(conv=>whnf);(refine q0j (by rfl) (by rfl) flQ ?_))
          exact q0c (by exact flQ) (q0c (by exact flQ) (q0c (by exact flQ) (q0i rfl rfl q0e)))
        · rintro ⟨k,J,M⟩ hinv
          have hk:=hinv.le
          have hsub:=hinv.sub
          dsimp only at hk hsub ⊢
          rcases Nat.lt_or_ge k n' with hkn |hkn
          · obtain ⟨pI,hpI,cI⟩:=(hl2.items.mono hsub) k hkn
            subst hpI
            have hi:=(hl2.item k hkn).mono hsub
            have hlen1:(d.R k).length=(d.I k).rn:=q6s _ _
            have hrun:=z7c hi.run.2.2
            have hmk:=z8x (dx:=dx) (dy:=dy) (L:=d.R k) hrun (by rw [hlen1];exact hi.run.1) hi.run.2.1 (vR k hkn) (by omega) (by omega)
            rw [hlen1] at hmk
            have hmv:=x2a (G:=M) (i:=d.I k) hr.1 hr.2
            (repeat ((try (conv=>whnf));(first |(refine cI _ ?_) |(refine stQ ?_))))
            conv=>whnf
            refine z2j (fun vs w=>by kernel_rfl) (.alone fun _=>rfl) (by rfl) hmk ?_
            (repeat ((try (conv=>whnf));(first |(refine stQ ?_) |(with_reducible first |refine q0b (fun vs w=>by kernel_rfl) (by kernel_rfl) (hmv) ?_ |refine q0a (fun vs w=>by kernel_rfl) (by kernel_rfl) (hmv) ?_))))
            conv=>whnf
            refine x4f tab_ok 6 5 rfl rfl rfl rfl rfl rfl fun A2 q2 M1 z1 z2 z3 z4=>?_
            (repeat ((try (conv=>whnf));(refine stQ ?_)))
            conv=>whnf
            obtain ⟨st1,st2⟩:=hinv.step hkn z1 rfl z2 z3 z4
            refine ⟨⟨k+1,_,M1⟩,st1,by show n'-(k+1)<n'-k;omega,?_⟩
            dsimp only
            refine q8s 7 3 rfl rfl rfl rfl ?_
            conv=>whnf
            ((refine q0h ?_);(conv=>whnf);(refine q0j (by rfl) (by rfl) flQ ?_))
            exact q0c (by exact flQ) (q0c (by exact flQ) (q0c (by exact flQ) (q0i rfl (by rw [st2];rfl) q0e)))
          · have hkn2:k=n':=by omega
            subst hkn2
            have hwc:=fun (A3:Option Addr) (c3:Nat) (G3:Mem) (g1:M.le G3) (g2:k≤c3) (g3:c3≤maxLen) (g4:FlatM G3 A3 (q0o (fun x=>(J x).cells) k))=>hwant J G2 M G3 A3 c3 hG2 hinv g1 g2 g3 g4
            (repeat ((try (conv=>whnf));(refine stQ ?_)))
            conv=>whnf
            refine z6c (k:=3) (pre:=[.int .i64 W,.int .i64 H,.slice A m sq]) (fun vs w=>by kernel_rfl) rfl (by exact rfl) fun A3 q3 G3 hG3 hc1 hc2 hF=>?_
            conv=>whnf
            have hwc:=hwc A3 q3 G3 hG3 hc1 hc2 hF
            refine q0b (fun vs w=>by kernel_rfl) (by kernel_rfl) hwc ?_
            by_cases h0:q=0
            · obtain ⟨JJ,rfl,rfl,rfl,rfl,z1,z2⟩:=hv2 h0
              rw [h0]
              (repeat ((try (conv=>whnf));(refine stQ ?_)))
              conv=>whnf
              have hI3:=z0g (hF.els (sz:=34) (fun _ _=>rfl) (by omega))
              have hIJ:=z1.mono (Mem.le_trans hsub hG3)
              have hle:=Mem.le_trans hsub hG3
              refine q02 tab_ok (fun i=>i≤k) (fun (i:Nat)=>[(86,.any),(126,.val (.int .i64 i))]) (fun _=>[.cells 25 [.val (.int .i64 W),.val (.int .i64 H),.val (.slice A m sq),.val (.slice B k iq')],.cells 25 [.val (.int .i64 W),.val (.int .i64 H),.val (.slice c1 c2 c3),.val (.slice d1 k d3)],.cells 25 [.val (.int .i64 W),.val (.int .i64 H),.val (.slice A m sq),.val (.slice A3 k q3)]]) (fun i=>k-i) 0 (Nat.zero_le _) ?_ ?_
              · ((refine q0h ?_);(conv=>whnf);(refine q0j (by rfl) (by rfl) flQ ?_))
                exact q0c (by exact flQ) (q0c (by exact flQ) (q0c (by exact flQ) q0e))
              · intro i hi
                rcases Nat.lt_or_ge i k with hik |hik
                · obtain ⟨pJ,hpJ,cJ⟩:=hIJ i hik
                  obtain ⟨p3,hp3,c3'⟩:=hI3 i hik
                  subst hpJ
                  subst hp3
                  obtain ⟨⟨RA,rq,A',q',B',pq',C',sq',ej⟩,rj⟩:=z2 i hik
                  obtain ⟨RA3,rq3,e3,g1,g2,g3⟩:=hinv.all i hik
                  dsimp only at e3 g3
                  rw [ej] at cJ rj
                  rw [e3] at c3'
                  have hsr:=z66 RA RA3 _ rq rq3 G3 (rj.mono hle) (g3.mono hG3) (by have:=z1w dx dy (d.R i);have:=(vR i hik).length;omega)
                  have hsm:=z7e (G:=G3) (i:=setR (mvI dx dy (d.I i)) RA3 (shL dx dy (d.R i)).length rq3) (j:=setR (setC (mvI dx dy (d.I i)) RA rq A' q' B' pq' C' sq') RA (shL dx dy (d.R i)).length rq) ⟨rfl,rfl,rfl,rfl,rfl,rfl⟩
                  clear g3 rj ej e3
                  generalize mvI dx dy (d.I i)=mi at *
                  generalize (shL dx dy (d.R i)).length=ln at *
                  obtain ⟨iK,i1,i2,i3,ik,iI,ifx,ify,itx,ity,ir,i4,i5,i6,iW,iH,i7,i8,i9,i10,i11,i12,ia,ib,ic,id',ie,if',is,it,ial,ibl,iov,iiso,ikn⟩:=mi
                  dsimp only [ItemD.cells,setR,setC,q5i] at cJ c3' hsm
                  (repeat ((try (conv=>whnf));(first |(refine cJ _ ?_) |(refine c3' _ ?_) |(refine s3Q ?_) |(with_reducible first |refine q0b (fun vs w=>by kernel_rfl) (by kernel_rfl) (hsm) ?_ |refine q0a (fun vs w=>by kernel_rfl) (by kernel_rfl) (hsm) ?_ |refine q0b (fun vs w=>by kernel_rfl) (by kernel_rfl) (hsr) ?_ |refine q0a (fun vs w=>by kernel_rfl) (by kernel_rfl) (hsr) ?_))))
                  conv=>whnf
                  refine ⟨i+1,by omega,by omega,?_⟩
                  ((refine q0h ?_);(conv=>whnf);(refine q0j (by rfl) (by rfl) flQ ?_))
                  exact q0c (by exact flQ) (q0c (by exact flQ) (q0c (by exact flQ) q0e))
                · have hik2:i=k:=by omega
                  subst hik2
                  (repeat ((try (conv=>whnf));(refine stQ ?_)))
                  conv=>whnf
                  try simp
            · obtain ⟨rfl,rfl,rfl,rfl,rfl,rfl,rfl,rfl,rfl⟩:=hv1 h0
              (repeat ((try (conv=>whnf));(first |(refine stQ ?_) |(with_reducible first |refine q0b (fun vs w=>by kernel_rfl) (by kernel_rfl) (q2e) ?_ |refine q0a (fun vs w=>by kernel_rfl) (by kernel_rfl) (q2e) ?_))))
              conv=>whnf
              try simp
    · have c1:=x4x h1 hr
      by_cases hx:-8192≤dx∧dx≤8192
      · rcases hcut with ⟨h12,rfl,rfl⟩ |⟨h12,rfl,rfl⟩
        · by_cases hy:-8192≤dy
          all_goals
            (repeat ((try (conv=>whnf));(first |(refine stQ ?_) |(with_reducible first |refine q0b (fun vs w=>by kernel_rfl) (by kernel_rfl) (hL) ?_ |refine q0a (fun vs w=>by kernel_rfl) (by kernel_rfl) (hL) ?_ |refine q0b (fun vs w=>by kernel_rfl) (by kernel_rfl) (c1) ?_ |refine q0a (fun vs w=>by kernel_rfl) (by kernel_rfl) (c1) ?_ |refine q0b (fun vs w=>by kernel_rfl) (by kernel_rfl) (h2) ?_ |refine q0a (fun vs w=>by kernel_rfl) (by kernel_rfl) (h2) ?_ |refine q0b (fun vs w=>by kernel_rfl) (by kernel_rfl) (q2e) ?_ |refine q0a (fun vs w=>by kernel_rfl) (by kernel_rfl) (q2e) ?_ |refine q0f tab_ok Tryz.func12 (fun vs w=>by kernel_rfl) (by rfl) ?_))))
            conv=>whnf
            try simp
        · by_cases hy:-8192≤dy
          all_goals
            (repeat ((try (conv=>whnf));(first |(refine stQ ?_) |(with_reducible first |refine q0b (fun vs w=>by kernel_rfl) (by kernel_rfl) (hL) ?_ |refine q0a (fun vs w=>by kernel_rfl) (by kernel_rfl) (hL) ?_))))
            conv=>whnf
            rw [cutA]
            (repeat ((try (conv=>whnf));(first |(refine q0b (fun vs w=>by kernel_rfl) (by kernel_rfl) c1 ?_) |(refine q0b (fun vs w=>by kernel_rfl) (by kernel_rfl) h2 ?_) |(refine stQ ?_) |(with_reducible first |refine q0b (fun vs w=>by kernel_rfl) (by kernel_rfl) (q2e) ?_ |refine q0a (fun vs w=>by kernel_rfl) (by kernel_rfl) (q2e) ?_ |refine q0f tab_ok Tryz.func12 (fun vs w=>by kernel_rfl) (by rfl) ?_))))
            conv=>whnf
            try simp
      · rcases hcut with ⟨h12,rfl,rfl⟩ |⟨h12,rfl,rfl⟩
        · by_cases hy:-8192≤dx
          all_goals
            (repeat ((try (conv=>whnf));(first |(refine stQ ?_) |(with_reducible first |refine q0b (fun vs w=>by kernel_rfl) (by kernel_rfl) (hL) ?_ |refine q0a (fun vs w=>by kernel_rfl) (by kernel_rfl) (hL) ?_ |refine q0b (fun vs w=>by kernel_rfl) (by kernel_rfl) (c1) ?_ |refine q0a (fun vs w=>by kernel_rfl) (by kernel_rfl) (c1) ?_ |refine q0b (fun vs w=>by kernel_rfl) (by kernel_rfl) (h2) ?_ |refine q0a (fun vs w=>by kernel_rfl) (by kernel_rfl) (h2) ?_ |refine q0b (fun vs w=>by kernel_rfl) (by kernel_rfl) (q2e) ?_ |refine q0a (fun vs w=>by kernel_rfl) (by kernel_rfl) (q2e) ?_ |refine q0f tab_ok Tryz.func12 (fun vs w=>by kernel_rfl) (by rfl) ?_))))
            conv=>whnf
            try simp
        · by_cases hy:-8192≤dx
          all_goals
            (repeat ((try (conv=>whnf));(first |(refine stQ ?_) |(with_reducible first |refine q0b (fun vs w=>by kernel_rfl) (by kernel_rfl) (hL) ?_ |refine q0a (fun vs w=>by kernel_rfl) (by kernel_rfl) (hL) ?_))))
            conv=>whnf
            rw [cutA]
            (repeat ((try (conv=>whnf));(first |(refine q0b (fun vs w=>by kernel_rfl) (by kernel_rfl) c1 ?_) |(refine q0b (fun vs w=>by kernel_rfl) (by kernel_rfl) h2 ?_) |(refine stQ ?_) |(with_reducible first |refine q0b (fun vs w=>by kernel_rfl) (by kernel_rfl) (q2e) ?_ |refine q0a (fun vs w=>by kernel_rfl) (by kernel_rfl) (q2e) ?_ |refine q0f tab_ok Tryz.func12 (fun vs w=>by kernel_rfl) (by rfl) ?_))))
            conv=>whnf
            try simp
  · have c1:=x4w (dx:=dx) (dy:=dy) h1 he
    rcases hcut with ⟨h12,rfl,rfl⟩ |⟨h12,rfl,rfl⟩
    · (repeat ((try (conv=>whnf));(first |(refine stQ ?_) |(with_reducible first |refine q0b (fun vs w=>by kernel_rfl) (by kernel_rfl) (hL) ?_ |refine q0a (fun vs w=>by kernel_rfl) (by kernel_rfl) (hL) ?_ |refine q0b (fun vs w=>by kernel_rfl) (by kernel_rfl) (c1) ?_ |refine q0a (fun vs w=>by kernel_rfl) (by kernel_rfl) (c1) ?_ |refine q0b (fun vs w=>by kernel_rfl) (by kernel_rfl) (h2) ?_ |refine q0a (fun vs w=>by kernel_rfl) (by kernel_rfl) (h2) ?_ |refine q0b (fun vs w=>by kernel_rfl) (by kernel_rfl) (q2e) ?_ |refine q0a (fun vs w=>by kernel_rfl) (by kernel_rfl) (q2e) ?_))))
      conv=>whnf
      try simp
    · (repeat ((try (conv=>whnf));(first |(refine stQ ?_) |(with_reducible first |refine q0b (fun vs w=>by kernel_rfl) (by kernel_rfl) (hL) ?_ |refine q0a (fun vs w=>by kernel_rfl) (by kernel_rfl) (hL) ?_))))
      conv=>whnf
      rw [cutA]
      (repeat ((try (conv=>whnf));(first |(refine q0b (fun vs w=>by kernel_rfl) (by kernel_rfl) c1 ?_) |(refine q0b (fun vs w=>by kernel_rfl) (by kernel_rfl) h2 ?_) |(refine stQ ?_) |(with_reducible first |refine q0b (fun vs w=>by kernel_rfl) (by kernel_rfl) (q2e) ?_ |refine q0a (fun vs w=>by kernel_rfl) (by kernel_rfl) (q2e) ?_))))
      conv=>whnf
      try simp
end
theorem walk (a0x0:Int) (a0x1:Int) (A0x2:Option Addr) (n0x2:Nat) (q0x2:Nat) (g0x2:Nat→Nat→Value) (A0x3:Option Addr) (n0x3:Nat) (q0x3:Nat) (g0x3:Nat→Nat→Value) (a1:Int) (a2:Int) (w:World) (w0x0:(Lit.int .i64 a0x0).wf=true) (w0x1:(Lit.int .i64 a0x1).wf=true) (c0x2:n0x2≤q0x2) (m0x2:q0x2≤maxLen) (s0x2:SliceG Tryz.prog w 9 A0x2 n0x2 g0x2) (c0x3:n0x3≤q0x3) (m0x3:q0x3≤maxLen) (s0x3:SliceG Tryz.prog w 56 A0x3 n0x3 g0x3) (w1:(Lit.int .i64 a1).wf=true) (w2:(Lit.int .i64 a2).wf=true) :
    Calls Tryz.prog 7 #[.agg #[.int .i64 a0x0,.int .i64 a0x1,.slice A0x2 n0x2 q0x2,.slice A0x3 n0x3 q0x3],.int .i64 a1,.int .i64 a2] w fun e w'=>e=.returned (.bool true)∧Below w.heap.size w w':=by
  obtain ⟨d,hl,_⟩:=v13 s0x3 n0x2
  have h:=body (W:=a0x0) (H:=a0x1) (dx:=a1) (dy:=a2) ⟨c0x2,m0x2⟩ ⟨c0x3,m0x3⟩ s0x2 hl
  refine v0f tab_ok Tryz.func7 ?_ h
  rw [AV.rels]
  refine ⟨_,_,rfl,?_,q48 [.int .i64 a1,.int .i64 a2]⟩
  rw [AV.rel]
  exact ⟨_,rfl,q48 (β:=noName) [.int .i64 a0x0,.int .i64 a0x1,.slice A0x2 n0x2 q0x2,.slice A0x3 n0x3 q0x3]⟩
end Go.Proofs.YticolnghiibgfaaGreat.listShifts
