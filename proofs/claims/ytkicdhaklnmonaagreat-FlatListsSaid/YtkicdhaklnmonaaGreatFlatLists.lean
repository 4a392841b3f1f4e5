/-
  FlatLists: the law's walk.
-/
import Derived.Test.YtkicdhaklnmonaaGreatMrg34
import Derived.Test.YtkicdhaklnmonaaGreatMrg36
import Derived.Test.YtkicdhaklnmonaaGreatMrg35
import Derived.Test.YtkicdhaklnmonaaGreatMrg12
set_option linter.unusedVariables false
set_option linter.unusedSimpArgs false
set_option linter.unnecessarySimpa false
namespace Go.Proofs.YtkicdhaklnmonaaGreat.flatLists
open Go.RowKit Go.Deep
set_option maxRecDepth 20000
theorem z48 {w h:Int} {n:Nat} {p:Nat→PcD} (hb:¬ ((1≤w∧w≤256)∧(1≤h∧h≤256))):pcsE w h n p≠0:=by
  unfold pcsE
  rw [if_pos hb];omega
theorem _root_.Go.Proofs.YtkicdhaklnmonaaGreat.FlInv.step2 {p:Nat→PcD} {n k:Nat} {G M:Mem} {J J1:Nat→ItemD} {RA:Option Addr} {rq:Nat} (h:FlInv p n G ⟨k,J,M⟩) (hk:k<n) (hJ:J1=setJ J k (solI (p k).I RA (p k).L.length rq)) (h1:(p k).L.length≤rq) (h2:rq≤maxLen) (hF:RunsM M RA (p k).L) :
    FlInv p n G ⟨k+1,J1,M⟩∧q0q (fun x=>(J1 x).cells) (k+1)=q0q (fun x=>(J x).cells) k++(solI (p k).I RA (p k).L.length rq).cells:=by
  subst hJ
  obtain ⟨g1,g2,g3⟩:=h
  dsimp only at g1 g2 g3
  refine ⟨⟨by show k+1≤n;omega,g2,fun x hx=>?_⟩,?_⟩
  · have hx:x<k+1:=hx
    dsimp only
    by_cases e:x=k
    · subst e
      rw [z35]
      exact ⟨RA,rq,rfl,h1,h2,hF⟩
    · rw [z36 e]
      exact g3 x (by omega)
  · rw [q0q,z35]
    congr 1
    exact q3u fun y hy=>by rw [z36 (by omega)]
theorem _root_.Go.Proofs.YtkicdhaklnmonaaGreat.FlInv.base {p:Nat→PcD} {n:Nat} {G G1:Mem} {t:CopyT} (h:FlInv p n G1 t) (hG:G.le G1):FlInv p n G t:=⟨h.le,Mem.le_trans hG h.sub,h.all⟩
set_option maxHeartbeats 8000000 in
theorem body {A SA:Option Addr} {n c m sq:Nat} {p:Nat→PcD} {w h:Int} {wd:World} {S:Nat→Nat→Value} {G:Mem} (hP:PcsM G A n p) (hn:n≤c) (hc:c≤maxLen) (hm:m≤sq∧sq≤maxLen) (hS:SliceM Tryz.prog G 9 SA m S) (hm16:m*16≤140737488355328) :
    q32 Tryz.prog tab 0 Tryz.f5 [.val (.int .i64 w),.val (.int .i64 h),.val (.slice SA m sq),.val (.slice A n c)] [] G fun v _ _=>v=.val (.bool true):=by
  have hnm:n≤maxLen:=Nat.le_trans hn hc
  obtain ⟨w2,hw2,cw0⟩:=x34 w 1 2 (by omega)
  obtain ⟨h2,hh2,ch0⟩:=x34 h 1 2 (by omega)
  have cw:=cw0 G
  have ch:=ch0 G
  by_cases bw:1≤w∧w≤256
  · by_cases bh:1≤h∧h≤256
    · have iw:=q3n w 1 256 G true (⟨fun _=>bw,fun _=>rfl⟩)
      have ih:=q3n h 1 256 G true (⟨fun _=>bh,fun _=>rfl⟩)
      by_cases h0:pcsE w2 h2 n p=0
      · have ok:=z4w h0
        have hfew:=ok.few
        obtain ⟨E,hE⟩:=x95 (w:=w2) (h:=h2) (m:=m) (S:=S) (G:=G) hP.ink
        by_cases hE0:E=0
        · subst hE0
          have m1:=x2x (sq:=sq) (c:=c) ok h0 hP hn hc hS hm16 (fun SA' sq' B q G' J g1 g2 g3 g4 g5 g6 g7=>(hE SA' sq' B q G' J g1 g2 g3 g4 g5 g6 g7).1)
          (repeat ((try (conv=>whnf));(first |(refine stQ ?_) |(with_reducible first |refine q0e (fun vs w=>by kernel_rfl) (by kernel_rfl) (q2a _) ?_ |refine q0d (fun vs w=>by kernel_rfl) (by kernel_rfl) (q2a _) ?_ |refine q0e (fun vs w=>by kernel_rfl) (by kernel_rfl) (iw) ?_ |refine q0d (fun vs w=>by kernel_rfl) (by kernel_rfl) (iw) ?_ |refine q0e (fun vs w=>by kernel_rfl) (by kernel_rfl) (ih) ?_ |refine q0d (fun vs w=>by kernel_rfl) (by kernel_rfl) (ih) ?_ |refine q0e (fun vs w=>by kernel_rfl) (by kernel_rfl) (cw) ?_ |refine q0d (fun vs w=>by kernel_rfl) (by kernel_rfl) (cw) ?_ |refine q0e (fun vs w=>by kernel_rfl) (by kernel_rfl) (ch) ?_ |refine q0d (fun vs w=>by kernel_rfl) (by kernel_rfl) (ch) ?_))))
          conv=>whnf
          refine z14 (fun vs w=>by kernel_rfl) (by kernel_rfl) m1 fun wr k2 xs2 G2 A2 c2 G3 hG2 hR2 hG3 hc2 hm2 hF2=>?_
          obtain ⟨SA2,sq2,J2,rfl,rfl,rfl,hq1,hq2,hS2,hinv2⟩:=hR2
          have hle3:=Mem.le_trans hG2 hG3
          have hP3:=hP.mono hle3
          have m2:=q38 (w:=w2) (h:=h2) (c:=c) hP3 hnm
          rw [h0] at m2
          (repeat ((try (conv=>whnf));(first |(refine stQ ?_) |(with_reducible first |refine q0e (fun vs w=>by kernel_rfl) (by kernel_rfl) (m2) ?_ |refine q0d (fun vs w=>by kernel_rfl) (by kernel_rfl) (m2) ?_))))
          conv=>whnf
          refine q43 tab_ok (ι:=CopyT) (fun t=>FlInv p k2 G3 t) (fun t=>[(46,.val (.int .i64 t.k))]) (fun t=>[.gone,.cells 49 [.val (.int .i64 w2),.val (.int .i64 h2),.val (.slice SA2 m sq2),.val (.slice A2 k2 c2)],.cells 49 [.val (.int .i64 w2),.val (.int .i64 h2),.val (.slice SA m sq),.own 3],.own 63 34 t.k (q0q (fun x=>(t.J x).cells) t.k)]) (fun t=>t.M) (fun t=>k2-t.k) ⟨0,fun _=>solI (fun _=>0) none 0 0,G3⟩ ⟨Nat.zero_le _,Mem.le_refl _,fun x hx=>absurd hx (Nat.not_lt_zero _)⟩ ?_ ?_
          · refine q3z 63 34 ?_
            conv=>whnf
            dsimp only
            ((refine q0g ?_);(conv=>whnf);(refine q0k (by rfl) (by rfl) flQ ?_))
            exact q0j (q0a (by exact flQ) (q0a (by exact flQ) (q0c rfl rfl q0f)))
          · rintro ⟨k,J,M⟩ hinv
            have hk:=hinv.le
            have hsub:=hinv.sub
            dsimp only at hk hsub ⊢
            rcases Nat.lt_or_ge k k2 with h1 |h1
            · have hP4:=hP3.mono hsub
              obtain ⟨a,ea,ch⟩:=hP4.head h1
              subst ea
              obtain ⟨a',ha',ci⟩:=hP4.inks h1
              cases ha'
              (repeat ((try (conv=>whnf));(first |(refine q0b _ ch ?_) |(refine ci _ ?_) |(refine stQ ?_))))
              conv=>whnf
              obtain ⟨st1,st2⟩:=hinv.step2 h1 (RA:=(p k).A) (rq:=(p k).q) rfl (hP4.room k h1).1 (hP4.room k h1).2 (hP4.runs k h1)
              refine ⟨⟨k+1,_,M⟩,st1,by show k2-(k+1)<k2-k;omega,?_⟩
              dsimp only
              refine q1y 5 3 rfl rfl rfl rfl ?_
              conv=>whnf
              ((refine q0g ?_);(conv=>whnf);(refine q0k (by rfl) (by rfl) flQ ?_))
              exact q0j (q0a (by exact flQ) (q0a (by exact flQ) (q0c rfl (by rw [st2]) q0f)))
            · obtain rfl:k=k2:=by omega
              (repeat ((try (conv=>whnf));(refine stQ ?_)))
              conv=>whnf
              refine z6v (k:=3) (pre:=[.int .i64 w2,.int .i64 h2,.slice SA m sq]) (fun vs w=>by kernel_rfl) rfl (by exact rfl) fun A3 q3 G4 hG4 g1 g2 g3=>?_
              conv=>whnf
              have hw:=(hE SA sq A3 q3 G4 J hm.1 hm.2 g1 g2 (hS.mono (Mem.le_trans hle3 (Mem.le_trans hsub hG4))) ((hinv.mono hG4).base hle3) (q6j (g3.els (sz:=34) (fun _ _=>rfl) (by omega)))).2
              refine q0e (fun vs w=>by kernel_rfl) (by kernel_rfl) hw ?_
              (repeat ((try (conv=>whnf));(refine stQ ?_)))
              conv=>whnf
              have hI2:=(q6j (hF2.els (sz:=34) (fun _ _=>rfl) (by omega))).mono (Mem.le_trans hsub hG4)
              have hP5:=hP3.mono (Mem.le_trans hsub hG4)
              refine q0w tab_ok (fun y=>y≤k) (fun (y:Nat)=>[(110,.val (.int .i64 y))]) (fun _=>[.gone,.cells 49 [.val (.int .i64 w2),.val (.int .i64 h2),.val (.slice SA2 m sq2),.val (.slice A2 k c2)],.cells 49 [.val (.int .i64 w2),.val (.int .i64 h2),.val (.slice SA m sq),.val (.slice A3 k q3)],.gone]) (fun y=>k-y) 0 (Nat.zero_le _) ?_ ?_
              · ((refine q0g ?_);(conv=>whnf);(refine q0k (by rfl) (by rfl) flQ ?_))
                exact q0j (q0a (by exact flQ) (q0a (by exact flQ) (q0j q0f)))
              · intro y hy
                rcases Nat.lt_or_ge y k with hyk |hyk
                · obtain ⟨pJ,hpJ,cJ⟩:=hI2 y hyk
                  subst hpJ
                  obtain ⟨RA,rq,e3,g4,g5,g6⟩:=hinv2.all y hyk
                  dsimp only at e3 g6
                  rw [e3] at cJ
                  obtain ⟨a,ea,ch⟩:=hP5.head hyk
                  subst ea
                  obtain ⟨a',ha',ci⟩:=hP5.inks hyk
                  cases ha'
                  have hsh:=ok.short hyk
                  have hsr:=z7d RA (p y).A (p y).L rq (p y).q G4 (g6.mono (Mem.le_trans hG3 (Mem.le_trans hsub hG4))) (hP5.runs y hyk) (by omega)
                  have hsm:=z7s (G:=G4) (i:=solI (fun _=>0) none 0 0) (j:=solI (p y).I RA (p y).L.length rq) ⟨rfl,rfl,rfl,rfl,rfl,rfl⟩
                  dsimp only [ItemD.cells,solI,q7f] at cJ hsm
                  clear e3 g6
                  generalize (p y).L.length=ln at *
                  generalize (p y).I=I0 at *
                  (repeat ((try (conv=>whnf));(first |(refine cJ _ ?_) |(refine q0b _ ch ?_) |(refine ci _ ?_) |(refine s3Q ?_) |(with_reducible first |refine q0e (fun vs w=>by kernel_rfl) (by kernel_rfl) (hsm) ?_ |refine q0d (fun vs w=>by kernel_rfl) (by kernel_rfl) (hsm) ?_ |refine q0e (fun vs w=>by kernel_rfl) (by kernel_rfl) (hsr) ?_ |refine q0d (fun vs w=>by kernel_rfl) (by kernel_rfl) (hsr) ?_))))
                  conv=>whnf
                  refine ⟨y+1,by omega,by omega,?_⟩
                  ((refine q0g ?_);(conv=>whnf);(refine q0k (by rfl) (by rfl) flQ ?_))
                  exact q0j (q0a (by exact flQ) (q0a (by exact flQ) (q0j q0f)))
                · obtain rfl:y=k:=by omega
                  (repeat ((try (conv=>whnf));(refine stQ ?_)))
                  conv=>whnf
                  try simp
        · have m1:=x5l (sq:=sq) (c:=c) ok h0 hP hn hc hS hm16 hE0 (fun SA' sq' B q G' J g1 g2 g3 g4 g5 g6 g7=>(hE SA' sq' B q G' J g1 g2 g3 g4 g5 g6 g7).1)
          have m2:=q38 (w:=w2) (h:=h2) (c:=c) hP hnm
          rw [h0] at m2
          (repeat ((try (conv=>whnf));(first |(refine stQ ?_) |(with_reducible first |refine q0e (fun vs w=>by kernel_rfl) (by kernel_rfl) (q2a _) ?_ |refine q0d (fun vs w=>by kernel_rfl) (by kernel_rfl) (q2a _) ?_ |refine q0e (fun vs w=>by kernel_rfl) (by kernel_rfl) (iw) ?_ |refine q0d (fun vs w=>by kernel_rfl) (by kernel_rfl) (iw) ?_ |refine q0e (fun vs w=>by kernel_rfl) (by kernel_rfl) (ih) ?_ |refine q0d (fun vs w=>by kernel_rfl) (by kernel_rfl) (ih) ?_ |refine q0e (fun vs w=>by kernel_rfl) (by kernel_rfl) (cw) ?_ |refine q0d (fun vs w=>by kernel_rfl) (by kernel_rfl) (cw) ?_ |refine q0e (fun vs w=>by kernel_rfl) (by kernel_rfl) (ch) ?_ |refine q0d (fun vs w=>by kernel_rfl) (by kernel_rfl) (ch) ?_ |refine q0e (fun vs w=>by kernel_rfl) (by kernel_rfl) (m1) ?_ |refine q0d (fun vs w=>by kernel_rfl) (by kernel_rfl) (m1) ?_ |refine q0e (fun vs w=>by kernel_rfl) (by kernel_rfl) (m2) ?_ |refine q0d (fun vs w=>by kernel_rfl) (by kernel_rfl) (m2) ?_))))
          conv=>whnf
          refine q43 tab_ok (ι:=CopyT) (fun t=>FlInv p n G t) (fun t=>[(46,.val (.int .i64 t.k))]) (fun t=>[.cells 49 [.val (.int .i64 0),.val (.int .i64 0),.val (.slice none 0 0),.val (.slice none 0 0)],.cells 49 [.val (.int .i64 w2),.val (.int .i64 h2),.val (.slice SA m sq),.own 2],.own 63 34 t.k (q0q (fun x=>(t.J x).cells) t.k)]) (fun t=>t.M) (fun t=>n-t.k) ⟨0,fun _=>solI (fun _=>0) none 0 0,G⟩ ⟨Nat.zero_le _,Mem.le_refl _,fun x hx=>absurd hx (Nat.not_lt_zero _)⟩ ?_ ?_
          · refine q3z 63 34 ?_
            conv=>whnf
            dsimp only
            ((refine q0g ?_);(conv=>whnf);(refine q0k (by rfl) (by rfl) flQ ?_))
            exact q0a (by exact flQ) (q0a (by exact flQ) (q0c rfl rfl q0f))
          · rintro ⟨k,J,M⟩ hinv
            have hk:=hinv.le
            have hsub:=hinv.sub
            dsimp only at hk hsub ⊢
            rcases Nat.lt_or_ge k n with h1 |h1
            · have hP4:=hP.mono hsub
              obtain ⟨a,ea,ch⟩:=hP4.head h1
              subst ea
              obtain ⟨a',ha',ci⟩:=hP4.inks h1
              cases ha'
              (repeat ((try (conv=>whnf));(first |(refine q0b _ ch ?_) |(refine ci _ ?_) |(refine stQ ?_))))
              conv=>whnf
              obtain ⟨st1,st2⟩:=hinv.step2 h1 (RA:=(p k).A) (rq:=(p k).q) rfl (hP4.room k h1).1 (hP4.room k h1).2 (hP4.runs k h1)
              refine ⟨⟨k+1,_,M⟩,st1,by show n-(k+1)<n-k;omega,?_⟩
              dsimp only
              refine q1y 4 2 rfl rfl rfl rfl ?_
              conv=>whnf
              ((refine q0g ?_);(conv=>whnf);(refine q0k (by rfl) (by rfl) flQ ?_))
              exact q0a (by exact flQ) (q0a (by exact flQ) (q0c rfl (by rw [st2]) q0f))
            · obtain rfl:k=n:=by omega
              (repeat ((try (conv=>whnf));(refine stQ ?_)))
              conv=>whnf
              refine z6v (k:=2) (pre:=[.int .i64 w2,.int .i64 h2,.slice SA m sq]) (fun vs w=>by kernel_rfl) rfl (by exact rfl) fun A3 q3 G4 hG4 g1 g2 g3=>?_
              conv=>whnf
              have hw:=(hE SA sq A3 q3 G4 J hm.1 hm.2 g1 g2 (hS.mono (Mem.le_trans (Mem.le_refl _) (Mem.le_trans hsub hG4))) ((hinv.mono hG4).base (Mem.le_refl _)) (q6j (g3.els (sz:=34) (fun _ _=>rfl) (by omega)))).2
              refine q0e (fun vs w=>by kernel_rfl) (by kernel_rfl) hw ?_
              (repeat ((try (conv=>whnf));(first |(refine stQ ?_) |(with_reducible first |refine q0e (fun vs w=>by kernel_rfl) (by kernel_rfl) (q3x) ?_ |refine q0d (fun vs w=>by kernel_rfl) (by kernel_rfl) (q3x) ?_))))
              conv=>whnf
              try simp
      · have he:pcsE w2 h2 n p≠0:=h0
        have m1:=q82 (w:=w2) (h:=h2) (c:=c) (SA:=SA) (m:=m) (sq:=sq) hP hnm he
        have m2:=q38 (w:=w2) (h:=h2) (c:=c) hP hnm
        generalize pcsE w2 h2 n p=e at *
        (repeat ((try (conv=>whnf));(first |(refine stQ ?_) |(with_reducible first |refine q0e (fun vs w=>by kernel_rfl) (by kernel_rfl) (q2a _) ?_ |refine q0d (fun vs w=>by kernel_rfl) (by kernel_rfl) (q2a _) ?_ |refine q0e (fun vs w=>by kernel_rfl) (by kernel_rfl) (iw) ?_ |refine q0d (fun vs w=>by kernel_rfl) (by kernel_rfl) (iw) ?_ |refine q0e (fun vs w=>by kernel_rfl) (by kernel_rfl) (ih) ?_ |refine q0d (fun vs w=>by kernel_rfl) (by kernel_rfl) (ih) ?_ |refine q0e (fun vs w=>by kernel_rfl) (by kernel_rfl) (cw) ?_ |refine q0d (fun vs w=>by kernel_rfl) (by kernel_rfl) (cw) ?_ |refine q0e (fun vs w=>by kernel_rfl) (by kernel_rfl) (ch) ?_ |refine q0d (fun vs w=>by kernel_rfl) (by kernel_rfl) (ch) ?_ |refine q0e (fun vs w=>by kernel_rfl) (by kernel_rfl) (m1) ?_ |refine q0d (fun vs w=>by kernel_rfl) (by kernel_rfl) (m1) ?_ |refine q0e (fun vs w=>by kernel_rfl) (by kernel_rfl) (m2) ?_ |refine q0d (fun vs w=>by kernel_rfl) (by kernel_rfl) (m2) ?_ |refine q0e (fun vs w=>by kernel_rfl) (by kernel_rfl) (q3x) ?_ |refine q0d (fun vs w=>by kernel_rfl) (by kernel_rfl) (q3x) ?_))))
        conv=>whnf
        try simp
    · have iw:=q3n w 1 256 G true (⟨fun _=>bw,fun _=>rfl⟩)
      have ih:=q3n h 1 256 G false (⟨(fun h=>by cases h),fun h=>absurd h bh⟩)
      have he:pcsE w2 h n p≠0:=z48 (by omega)
      have m1:=q82 (w:=w2) (h:=h) (c:=c) (SA:=SA) (m:=m) (sq:=sq) hP hnm he
      have m2:=q38 (w:=w2) (h:=h) (c:=c) hP hnm
      generalize pcsE w2 h n p=e at *
      (repeat ((try (conv=>whnf));(first |(refine stQ ?_) |(with_reducible first |refine q0e (fun vs w=>by kernel_rfl) (by kernel_rfl) (q2a _) ?_ |refine q0d (fun vs w=>by kernel_rfl) (by kernel_rfl) (q2a _) ?_ |refine q0e (fun vs w=>by kernel_rfl) (by kernel_rfl) (iw) ?_ |refine q0d (fun vs w=>by kernel_rfl) (by kernel_rfl) (iw) ?_ |refine q0e (fun vs w=>by kernel_rfl) (by kernel_rfl) (ih) ?_ |refine q0d (fun vs w=>by kernel_rfl) (by kernel_rfl) (ih) ?_ |refine q0e (fun vs w=>by kernel_rfl) (by kernel_rfl) (cw) ?_ |refine q0d (fun vs w=>by kernel_rfl) (by kernel_rfl) (cw) ?_ |refine q0e (fun vs w=>by kernel_rfl) (by kernel_rfl) (ch) ?_ |refine q0d (fun vs w=>by kernel_rfl) (by kernel_rfl) (ch) ?_ |refine q0e (fun vs w=>by kernel_rfl) (by kernel_rfl) (m1) ?_ |refine q0d (fun vs w=>by kernel_rfl) (by kernel_rfl) (m1) ?_ |refine q0e (fun vs w=>by kernel_rfl) (by kernel_rfl) (m2) ?_ |refine q0d (fun vs w=>by kernel_rfl) (by kernel_rfl) (m2) ?_ |refine q0e (fun vs w=>by kernel_rfl) (by kernel_rfl) (q3x) ?_ |refine q0d (fun vs w=>by kernel_rfl) (by kernel_rfl) (q3x) ?_))))
      conv=>whnf
      try simp
  · by_cases bh:1≤h∧h≤256
    · have iw:=q3n w 1 256 G false (⟨(fun h=>by cases h),fun h=>absurd h bw⟩)
      have ih:=q3n h 1 256 G true (⟨fun _=>bh,fun _=>rfl⟩)
      have he:pcsE w h2 n p≠0:=z48 (by omega)
      have m1:=q82 (w:=w) (h:=h2) (c:=c) (SA:=SA) (m:=m) (sq:=sq) hP hnm he
      have m2:=q38 (w:=w) (h:=h2) (c:=c) hP hnm
      generalize pcsE w h2 n p=e at *
      (repeat ((try (conv=>whnf));(first |(refine stQ ?_) |(with_reducible first |refine q0e (fun vs w=>by kernel_rfl) (by kernel_rfl) (q2a _) ?_ |refine q0d (fun vs w=>by kernel_rfl) (by kernel_rfl) (q2a _) ?_ |refine q0e (fun vs w=>by kernel_rfl) (by kernel_rfl) (iw) ?_ |refine q0d (fun vs w=>by kernel_rfl) (by kernel_rfl) (iw) ?_ |refine q0e (fun vs w=>by kernel_rfl) (by kernel_rfl) (ih) ?_ |refine q0d (fun vs w=>by kernel_rfl) (by kernel_rfl) (ih) ?_ |refine q0e (fun vs w=>by kernel_rfl) (by kernel_rfl) (cw) ?_ |refine q0d (fun vs w=>by kernel_rfl) (by kernel_rfl) (cw) ?_ |refine q0e (fun vs w=>by kernel_rfl) (by kernel_rfl) (ch) ?_ |refine q0d (fun vs w=>by kernel_rfl) (by kernel_rfl) (ch) ?_ |refine q0e (fun vs w=>by kernel_rfl) (by kernel_rfl) (m1) ?_ |refine q0d (fun vs w=>by kernel_rfl) (by kernel_rfl) (m1) ?_ |refine q0e (fun vs w=>by kernel_rfl) (by kernel_rfl) (m2) ?_ |refine q0d (fun vs w=>by kernel_rfl) (by kernel_rfl) (m2) ?_ |refine q0e (fun vs w=>by kernel_rfl) (by kernel_rfl) (q3x) ?_ |refine q0d (fun vs w=>by kernel_rfl) (by kernel_rfl) (q3x) ?_))))
      conv=>whnf
      try simp
    · have iw:=q3n w 1 256 G false (⟨(fun h=>by cases h),fun h=>absurd h bw⟩)
      have ih:=q3n h 1 256 G false (⟨(fun h=>by cases h),fun h=>absurd h bh⟩)
      have he:pcsE w h n p≠0:=z48 (by omega)
      have m1:=q82 (w:=w) (h:=h) (c:=c) (SA:=SA) (m:=m) (sq:=sq) hP hnm he
      have m2:=q38 (w:=w) (h:=h) (c:=c) hP hnm
      generalize pcsE w h n p=e at *
      (repeat ((try (conv=>whnf));(first |(refine stQ ?_) |(with_reducible first |refine q0e (fun vs w=>by kernel_rfl) (by kernel_rfl) (q2a _) ?_ |refine q0d (fun vs w=>by kernel_rfl) (by kernel_rfl) (q2a _) ?_ |refine q0e (fun vs w=>by kernel_rfl) (by kernel_rfl) (iw) ?_ |refine q0d (fun vs w=>by kernel_rfl) (by kernel_rfl) (iw) ?_ |refine q0e (fun vs w=>by kernel_rfl) (by kernel_rfl) (ih) ?_ |refine q0d (fun vs w=>by kernel_rfl) (by kernel_rfl) (ih) ?_ |refine q0e (fun vs w=>by kernel_rfl) (by kernel_rfl) (cw) ?_ |refine q0d (fun vs w=>by kernel_rfl) (by kernel_rfl) (cw) ?_ |refine q0e (fun vs w=>by kernel_rfl) (by kernel_rfl) (ch) ?_ |refine q0d (fun vs w=>by kernel_rfl) (by kernel_rfl) (ch) ?_ |refine q0e (fun vs w=>by kernel_rfl) (by kernel_rfl) (m1) ?_ |refine q0d (fun vs w=>by kernel_rfl) (by kernel_rfl) (m1) ?_ |refine q0e (fun vs w=>by kernel_rfl) (by kernel_rfl) (m2) ?_ |refine q0d (fun vs w=>by kernel_rfl) (by kernel_rfl) (m2) ?_ |refine q0e (fun vs w=>by kernel_rfl) (by kernel_rfl) (q3x) ?_ |refine q0d (fun vs w=>by kernel_rfl) (by kernel_rfl) (q3x) ?_))))
      conv=>whnf
      try simp
theorem walk (a0:Int) (a1:Int) (A2:Option Addr) (n2:Nat) (q2:Nat) (g2:Nat→Nat→Value) (A3:Option Addr) (n3:Nat) (q3:Nat) (g3:Nat→Nat→Value) (w:World) (w0:(Lit.int .i64 a0).wf=true) (w1:(Lit.int .i64 a1).wf=true) (c2:n2≤q2) (m2:q2≤maxLen) (s2:SliceG Tryz.prog w 9 A2 n2 g2) (c3:n3≤q3) (m3:q3≤maxLen) (s3:SliceG Tryz.prog w 35 A3 n3 g3) (z2:n2*Tryz.prog.bytesOf 9≤reachBytes) :
    Calls Tryz.prog 5 #[.int .i64 a0,.int .i64 a1,.slice A2 n2 q2,.slice A3 n3 q3] w fun e w'=>e=.returned (.bool true)∧Below w.heap.size w w':=by
  have e16:Tryz.prog.bytesOf 9=16:=by kernel_rfl
  rw [e16] at z2
  have hr:=reachBytes_lt
  obtain ⟨p,hp⟩:=v20 s3
  exact v1a tab_ok Tryz.func5 (z2i [.int .i64 a0,.int .i64 a1,.slice A2 n2 q2,.slice A3 n3 q3]) (body (wd:=w) hp c3 m3 ⟨c2,m2⟩ (SliceM.of s2) (by omega))
end Go.Proofs.YtkicdhaklnmonaaGreat.flatLists
