/-
  Merged: XLendL, XLisC, XBrack2, XFList, XSolChk, XInG, XPiecesR, XPiecesM, XArgL.
-/
import Derived.Test.YtkicdhaklnmonaaGreatMrg14
import Derived.Test.YtkicdhaklnmonaaGreatMrg35
import Derived.Test.YtkicdhaklnmonaaGreatMrg34
import Derived.Test.YtkicdhaklnmonaaGreatMrg33
import Derived.Test.YtkicdhaklnmonaaGreatMrg19
import Derived.Test.YtkicdhaklnmonaaGreatMrg21
import Derived.Test.YtkicdhaklnmonaaGreatMrg25
import Derived.Test.YtkicdhaklnmonaaGreatMrg22
import Derived.Test.YtkicdhaklnmonaaGreatMrg23
import Derived.Test.YtkicdhaklnmonaaGreatMrg13
import Derived.Test.YtkicdhaklnmonaaGreatEng2
import Derived.Test.YtkicdhaklnmonaaGreatMrg16
import Derived.Test.YtkicdhaklnmonaaGreatMrg26
import Derived.Test.YtkicdhaklnmonaaGreatMrg6
set_option linter.unusedVariables false
set_option linter.unusedSimpArgs false
set_option linter.unnecessarySimpa false
namespace Go.Proofs.YtkicdhaklnmonaaGreat
open Go.RowKit
theorem z4l {P:Program} {f:FuncId} (hen:∀ vs w,(callFunc f vs).run P w=.ok (.enter f vs) w) {k:Nat} {pre:List Value} {l:List AV} {hp:List Blk} {G:Mem} {K:AV→List Blk→Mem→Prop} {E:TypeId} {sz n:Nat} {xs:List Value} {v:AV} (hl:l=pre.map .val++[.own k]) (hk:nthB hp k=.own E sz n xs)
    (hc:∀ A cap G',G.le G'→n≤cap→cap≤maxLen→FlatM G' A xs→Gives P f [.agg ((pre++[Value.slice A n cap]).map .val)] G' v) (h:K v hp G):CallP P f [.agg l] hp G K:=by
  subst hl
  refine ⟨hen,fun w0 G0 β w vs hr ha=>?_⟩
  simp only [AV.rels,AV.rel] at ha
  obtain ⟨v1,ts1,hvs,⟨cs,rfl,hcs⟩,rfl⟩:=ha
  obtain ⟨zs,y,h1,h2,hv⟩:=q5w hcs
  have hz:=q07 h2
  simp only [AV.rel] at hv
  obtain ⟨x,hx1,hx2⟩:=hr.blk k y hv.1
  have hkx:=q0p hk rfl
  rw [hkx] at hx1;cases hx1
  obtain ⟨⟨hlen,hown⟩,hfree⟩:=hx2
  have fin:∀ A cap G',G'.holds w→y=.slice A n cap→Gives P f [.agg ((pre++[Value.slice A n cap]).map .val)] G' v→Calls P f vs w fun e w'=>∃ (y:Value) (β':Nm) (v:AV) (hp':List Blk) (G':Mem),e=.returned y∧β.le β'∧HR w0 G0 β' hp' G' w'∧v.rel β' y∧K v hp' G':=fun A cap G' hG' hy hg=>by
    refine (hg w vs hG' ?_).mono ?_
    · simp only [AV.rels,AV.rel]
      refine ⟨_,[],hvs,⟨cs,rfl,?_⟩,rfl⟩
      rw [h1,hz,hy]
      exact AV.rels_vals (pre++[Value.slice A n cap])
    · rintro e w' ⟨z,rfl,h2,h3⟩
      exact ⟨z,β,v,hp,G,rfl,Nm.le_refl _,hr.step h3,AV.rel_mono (q3s β) _ _ h2,h⟩
  rcases hown with ⟨rfl,h5⟩ |⟨g,cap,cur,rfl,h5,h6,h7,h8,h9,h10⟩
  · refine fin none 0 G hr.hold (by rw [h5]) (hc none 0 G (Mem.le_refl _) (by omega) (Nat.zero_le _) (.inl ⟨rfl,by rw [h5] at hlen;simpa using hlen⟩))
  · have hcell:∀ (j:Nat) u,xs[j]? = some u→(G.and w g).cell? ⟨g,0+j,none⟩=some u:=fun j u hj=>by
      have h11:(G.and w g) g=some (.cells cur E (0,0)):=by simp [Mem.and,h6]
      unfold Mem.cell?
      rw [Nat.zero_add,h11]
      rw [← h10] at hj
      rw [List.getElem?_take] at hj
      split at hj
      · simpa using hj
      · cases hj
    exact fin (some ⟨g,0,none⟩) cap (G.and w g) (Mem.and_holds hr.hold g) rfl (hc (some ⟨g,0,none⟩) cap (G.and w g) (Mem.le_and hr.hold g) h7 h8 (.inr ⟨g,0,rfl,hcell⟩))
end Go.Proofs.YtkicdhaklnmonaaGreat
namespace Go.Proofs.YtkicdhaklnmonaaGreat
open Go.RowKit Go.Deep
set_option maxRecDepth 20000
end Go.Proofs.YtkicdhaklnmonaaGreat
namespace Go.Proofs.YtkicdhaklnmonaaGreat
open Go.RowKit Go.Deep
set_option maxRecDepth 20000
section
variable {G:Mem} {W H er:Int} {SA IA:Option Addr} {m sq n iq:Nat} {i j:Int} {g:ItemD}
end
section
variable {G:Mem} {W H:Int} {A B:Option Addr} {m sq n iq i j:Nat} {S:Nat→Nat→Value} {d:LisD} {g:ItemD} {pg pe:Int × Int} {Rg Re:List Run} {fg fe:SrcF}
end
end Go.Proofs.YtkicdhaklnmonaaGreat
namespace Go.Proofs.YtkicdhaklnmonaaGreat
open Go.RowKit Go.Deep
set_option maxRecDepth 20000
set_option maxHeartbeats 1000000 in
theorem z16 {A:Option Addr} {n c:Nat} {cell:Nat→List Value} {G:Mem} (h:ElsM G A 1 n cell) (ho:∀ x,x<n→∀ v∈cell x,v.oneCell'=true) (hb:n*16≤140737488355328) :
    q5k Tryz.prog 39 [.val (.slice A n c)] G id 9 1 n (q0q cell n):=by
  refine q5x tab_ok Tryz.func39 (.alone fun _=>rfl) ?_
  have hs:=h.srcV (by decide) ho
  cases A with
  | none =>
    have h0:=v1x h
    subst h0
    (repeat ((try (conv=>whnf));(first |(refine q77 (show Option.isNone (none:Option Addr)=true from rfl) ?_) |(refine stQ ?_))))
    exact .inr (.inl ⟨rfl,rfl,rfl⟩)
  | some p =>
    (repeat ((try (conv=>whnf));(first |(refine q1l (show Option.isNone (some p)=false from rfl) ?_) |(refine hs _ ?_) |(refine stQ ?_))))
    exact .inl ⟨1,rfl,rfl⟩
abbrev solI (I:Nat→Int) (RA:Option Addr) (rn rq:Nat):ItemD:=⟨0,RA,rn,rq,0,I,0,0,0,0,0,none,0,0,0,0,none,0,0,none,0,0,0,0,0,0,0,0,false,false,255,0,false,false,false⟩
structure FlInv (p:Nat→PcD) (n:Nat) (G:Mem) (t:CopyT):Prop where
  le:t.k≤n
  sub:G.le t.M
  all:∀ x,x<t.k→∃ RA rq,t.J x=solI (p x).I RA (p x).L.length rq∧(p x).L.length≤rq∧rq≤maxLen∧RunsM t.M RA (p x).L
theorem FlInv.step {p:Nat→PcD} {n k:Nat} {G M M1:Mem} {J J1:Nat→ItemD} {RA:Option Addr} {rq:Nat} (h:FlInv p n G ⟨k,J,M⟩) (hk:k<n) (hM:M.le M1) (hJ:J1=setJ J k (solI (p k).I RA (p k).L.length rq)) (h1:(p k).L.length≤rq) (h2:rq≤maxLen) (hF:FlatM M1 RA (q0r (p k).L)) :
    FlInv p n G ⟨k+1,J1,M1⟩∧q0q (fun x=>(J1 x).cells) (k+1)=q0q (fun x=>(J x).cells) k++(solI (p k).I RA (p k).L.length rq).cells:=by
  subst hJ
  obtain ⟨g1,g2,g3⟩:=h
  dsimp only at g1 g2 g3
  refine ⟨⟨by show k+1≤n;omega,Mem.le_trans g2 hM,fun x hx=>?_⟩,?_⟩
  · have hx:x<k+1:=hx
    dsimp only
    by_cases e:x=k
    · subst e
      rw [z35]
      refine ⟨RA,rq,rfl,h1,h2,?_⟩
      rcases hF with ⟨_,h⟩ |⟨b,off,rfl,h⟩
      · have hl0:(p x).L.length=0:=by
          have:=q1h (p x).L;rw [h] at this;simp at this;omega
        rw [List.eq_nil_of_length_eq_zero hl0];exact RunsM.nil _ _
      · intro j r hr
        obtain ⟨h1,h2,h3⟩:=q24 hr
        exact ⟨b,off,rfl,h _ _ h1,by rw [Nat.add_assoc];exact h _ _ h2,by rw [Nat.add_assoc];exact h _ _ h3⟩
    · rw [z36 e]
      obtain ⟨RA2,rq2,z1,z2,z3,z4⟩:=g3 x (by omega)
      exact ⟨RA2,rq2,z1,z2,z3,z4.mono hM⟩
  · rw [q0q,z35]
    congr 1
    exact q3u fun y hy=>by rw [z36 (by omega)]
theorem FlInv.mono {p:Nat→PcD} {n k:Nat} {G M M1:Mem} {J:Nat→ItemD} (h:FlInv p n G ⟨k,J,M⟩) (hM:M.le M1):FlInv p n G ⟨k,J,M1⟩ :=
  ⟨h.le,Mem.le_trans h.sub hM,fun x hx=>by
    obtain ⟨RA,rq,z1,z2,z3,z4⟩:=h.all x hx
    exact ⟨RA,rq,z1,z2,z3,z4.mono hM⟩⟩
section
variable {A SA:Option Addr} {w h:Int} {m sq n c:Nat} {p:Nat→PcD} {G:Mem} {S:Nat→Nat→Value}
set_option maxHeartbeats 16000000 in
theorem x2x (ok:PcsOk w h n p) (e0:pcsE w h n p=0) (hP:PcsM G A n p) (hn:n≤c) (hc:c≤maxLen) (hS:SliceM Tryz.prog G 9 SA m S) (hm:m*16≤140737488355328)
    (hk2:∀ SA' sq' B q G' J,m≤sq'→sq'≤maxLen→n≤q→q≤maxLen→SliceM Tryz.prog G' 9 SA' m S→FlInv p n G ⟨n,J,G'⟩→ItemsM G' B n J→Gives Tryz.prog 41 [q5o w h SA' m sq' B n q] G' (.val (.int .i64 0))) :
    MakesX Tryz.prog 18 [.val (.int .i64 w),.val (.int .i64 h),.val (.slice SA m sq),.val (.slice A n c)] G 63 34 fun wrap k xs G'=>∃ (SA':Option Addr) (sq':Nat) (J:Nat→ItemD),k=n∧wrap=lisP w h SA' m sq' 0∧xs=q0q (fun x=>(J x).cells) n∧m≤sq'∧sq'≤maxLen∧SliceM Tryz.prog G' 9 SA' m S∧FlInv p n G ⟨n,J,G'⟩:=by
  refine x7d tab_ok Tryz.func18 (by kernel_rfl) ?_
  have gc:=q7d (c:=c) (w:=w) (h:=h) hP (Nat.le_trans hn hc)
  rw [e0] at gc
  have hfew:=ok.few
  have hc1:=z16 (c:=sq) (hS.els (by kernel_rfl)) (x17 hS) hm
  (repeat ((try (conv=>whnf));(first |(refine stQ ?_) |(with_reducible first |refine q0e (fun vs w=>by kernel_rfl) (by kernel_rfl) (gc) ?_ |refine q0d (fun vs w=>by kernel_rfl) (by kernel_rfl) (gc) ?_))))
  conv=>whnf
  refine q7c (fun vs w=>by kernel_rfl) (.alone fun _=>rfl) (by rfl) hc1 fun SA' sq' G1 hG1 hq1 hq2 hF1=>?_
  have hS1:=(hS.mono hG1).froz (by kernel_rfl) (by omega) hF1
  (repeat ((try (conv=>whnf));(refine stQ ?_)))
  conv=>whnf
  refine q43 tab_ok (ι:=CopyT) (fun t=>FlInv p n G t∧G1.le t.M) (fun t=>[(30,.val (.int .i64 t.k))]) (fun t=>[.cells 49 [.val (.int .i64 0),.val (.int .i64 0),.val (.slice none 0 0),.val (.slice none 0 0)],.cells 49 [.val (.int .i64 w),.val (.int .i64 h),.val (.slice SA' m sq'),.own 2],.own 63 34 t.k (q0q (fun x=>(t.J x).cells) t.k)]) (fun t=>t.M) (fun t=>n-t.k) ⟨0,fun _=>solI (fun _=>0) none 0 0,G1⟩ ⟨⟨Nat.zero_le _,hG1,fun x hx=>absurd hx (Nat.not_lt_zero _)⟩,Mem.le_refl _⟩ ?_ ?_
  · refine q3z 63 34 ?_
    conv=>whnf
    dsimp only
    ((refine q0g ?_);(conv=>whnf);(refine q0k (by rfl) (by rfl) flQ ?_))
    exact q0a (by exact flQ) (q0a (by exact flQ) (q0c rfl rfl q0f))
  · rintro ⟨k,J,M⟩ ⟨hinv,hM⟩
    have hk:=hinv.le
    have hsub:=hinv.sub
    dsimp only at hk hsub hM ⊢
    rcases Nat.lt_or_ge k n with h1 |h1
    · have hP3:=hP.mono hsub
      obtain ⟨a,rfl,ca⟩:=hP3.cells h1
      have hsh:=ok.short h1
      have hmk:=z3f (c:=(p k).q) (hP3.runs k h1) (by omega)
      (repeat ((try (conv=>whnf));(first |(refine ca _ ?_) |(refine stQ ?_))))
      conv=>whnf
      refine q68 (fun vs w=>by kernel_rfl) (.alone fun _=>rfl) (by rfl) hmk ?_
      (repeat ((try (conv=>whnf));(refine stQ ?_)))
      conv=>whnf
      refine z6b tab_ok 5 4 rfl rfl rfl rfl rfl rfl fun A2 q2 M1 z1 z2 z3 z4=>?_
      (repeat ((try (conv=>whnf));(refine stQ ?_)))
      conv=>whnf
      obtain ⟨st1,st2⟩:=hinv.step h1 z1 rfl z2 z3 z4
      refine ⟨⟨k+1,_,M1⟩,⟨st1,Mem.le_trans hM z1⟩,by show n-(k+1)<n-k;omega,?_⟩
      dsimp only
      refine q1y 6 2 rfl rfl rfl rfl ?_
      conv=>whnf
      ((refine q0g ?_);(conv=>whnf);(refine q0k (by rfl) (by rfl) flQ ?_))
      exact q0a (by exact flQ) (q0a (by exact flQ) (q0c rfl (by rw [st2]) q0f))
    · obtain rfl:k=n:=by omega
      have hchk:∀ B q G',M.le G'→k≤q→q≤maxLen→FlatM G' B (q0q (fun x=>(J x).cells) k)→Gives Tryz.prog 41 [q5o w h SA' m sq' B k q] G' (.val (.int .i64 0)):=fun B q G' g1 g2 g3 g4 =>
        hk2 SA' sq' B q G' J hq1 hq2 g2 g3 (hS1.mono (Mem.le_trans hM g1)) (hinv.mono g1) (q6j (g4.els (sz:=34) (fun _ _=>rfl) (by omega)))
      (repeat ((try (conv=>whnf));(refine stQ ?_)))
      conv=>whnf
      refine z4l (pre:=[.int .i64 w,.int .i64 h,.slice SA' m sq']) (v:=.val (.int .i64 0)) (fun vs w=>by kernel_rfl) rfl (by exact rfl) (fun B q G' g1 g2 g3 g4=>hchk B q G' g1 g2 g3 g4) ?_
      (repeat ((try (conv=>whnf));(refine stQ ?_)))
      conv=>whnf
      exact ⟨lisP w h SA' m sq' 0,2,k,_,x5k _ _ _ _ _ _,rfl,rfl,SA',sq',J,rfl,rfl,rfl,hq1,hq2,hS1.mono hM,hinv⟩
set_option maxHeartbeats 16000000 in
theorem x5l {er:Int} (ok:PcsOk w h n p) (e0:pcsE w h n p=0) (hP:PcsM G A n p) (hn:n≤c) (hc:c≤maxLen) (hS:SliceM Tryz.prog G 9 SA m S) (hm:m*16≤140737488355328) (her:er≠0)
    (hk2:∀ SA' sq' B q G' J,m≤sq'→sq'≤maxLen→n≤q→q≤maxLen→SliceM Tryz.prog G' 9 SA' m S→FlInv p n G ⟨n,J,G'⟩→ItemsM G' B n J→Gives Tryz.prog 41 [q5o w h SA' m sq' B n q] G' (.val (.int .i64 er))) :
    Gives Tryz.prog 18 [.val (.int .i64 w),.val (.int .i64 h),.val (.slice SA m sq),.val (.slice A n c)] G (.tup [z7r,.val (.int .i64 er)]):=by
  refine q01 tab_ok Tryz.func18 ?_
  have gc:=q7d (c:=c) (w:=w) (h:=h) hP (Nat.le_trans hn hc)
  rw [e0] at gc
  have hfew:=ok.few
  have hc1:=z16 (c:=sq) (hS.els (by kernel_rfl)) (x17 hS) hm
  (repeat ((try (conv=>whnf));(first |(refine stQ ?_) |(with_reducible first |refine q0e (fun vs w=>by kernel_rfl) (by kernel_rfl) (gc) ?_ |refine q0d (fun vs w=>by kernel_rfl) (by kernel_rfl) (gc) ?_))))
  conv=>whnf
  refine q7c (fun vs w=>by kernel_rfl) (.alone fun _=>rfl) (by rfl) hc1 fun SA' sq' G1 hG1 hq1 hq2 hF1=>?_
  have hS1:=(hS.mono hG1).froz (by kernel_rfl) (by omega) hF1
  (repeat ((try (conv=>whnf));(refine stQ ?_)))
  conv=>whnf
  refine q43 tab_ok (ι:=CopyT) (fun t=>FlInv p n G t∧G1.le t.M) (fun t=>[(30,.val (.int .i64 t.k))]) (fun t=>[.cells 49 [.val (.int .i64 0),.val (.int .i64 0),.val (.slice none 0 0),.val (.slice none 0 0)],.cells 49 [.val (.int .i64 w),.val (.int .i64 h),.val (.slice SA' m sq'),.own 2],.own 63 34 t.k (q0q (fun x=>(t.J x).cells) t.k)]) (fun t=>t.M) (fun t=>n-t.k) ⟨0,fun _=>solI (fun _=>0) none 0 0,G1⟩ ⟨⟨Nat.zero_le _,hG1,fun x hx=>absurd hx (Nat.not_lt_zero _)⟩,Mem.le_refl _⟩ ?_ ?_
  · refine q3z 63 34 ?_
    conv=>whnf
    dsimp only
    ((refine q0g ?_);(conv=>whnf);(refine q0k (by rfl) (by rfl) flQ ?_))
    exact q0a (by exact flQ) (q0a (by exact flQ) (q0c rfl rfl q0f))
  · rintro ⟨k,J,M⟩ ⟨hinv,hM⟩
    have hk:=hinv.le
    have hsub:=hinv.sub
    dsimp only at hk hsub hM ⊢
    rcases Nat.lt_or_ge k n with h1 |h1
    · have hP3:=hP.mono hsub
      obtain ⟨a,rfl,ca⟩:=hP3.cells h1
      have hsh:=ok.short h1
      have hmk:=z3f (c:=(p k).q) (hP3.runs k h1) (by omega)
      (repeat ((try (conv=>whnf));(first |(refine ca _ ?_) |(refine stQ ?_))))
      conv=>whnf
      refine q68 (fun vs w=>by kernel_rfl) (.alone fun _=>rfl) (by rfl) hmk ?_
      (repeat ((try (conv=>whnf));(refine stQ ?_)))
      conv=>whnf
      refine z6b tab_ok 5 4 rfl rfl rfl rfl rfl rfl fun A2 q2 M1 z1 z2 z3 z4=>?_
      (repeat ((try (conv=>whnf));(refine stQ ?_)))
      conv=>whnf
      obtain ⟨st1,st2⟩:=hinv.step h1 z1 rfl z2 z3 z4
      refine ⟨⟨k+1,_,M1⟩,⟨st1,Mem.le_trans hM z1⟩,by show n-(k+1)<n-k;omega,?_⟩
      dsimp only
      refine q1y 6 2 rfl rfl rfl rfl ?_
      conv=>whnf
      ((refine q0g ?_);(conv=>whnf);(refine q0k (by rfl) (by rfl) flQ ?_))
      exact q0a (by exact flQ) (q0a (by exact flQ) (q0c rfl (by rw [st2]) q0f))
    · obtain rfl:k=n:=by omega
      have hchk:∀ B q G',M.le G'→k≤q→q≤maxLen→FlatM G' B (q0q (fun x=>(J x).cells) k)→Gives Tryz.prog 41 [q5o w h SA' m sq' B k q] G' (.val (.int .i64 er)):=fun B q G' g1 g2 g3 g4 =>
        hk2 SA' sq' B q G' J hq1 hq2 g2 g3 (hS1.mono (Mem.le_trans hM g1)) (hinv.mono g1) (q6j (g4.els (sz:=34) (fun _ _=>rfl) (by omega)))
      (repeat ((try (conv=>whnf));(refine stQ ?_)))
      conv=>whnf
      refine z4l (pre:=[.int .i64 w,.int .i64 h,.slice SA' m sq']) (v:=.val (.int .i64 er)) (fun vs w=>by kernel_rfl) rfl (by exact rfl) (fun B q G' g1 g2 g3 g4=>hchk B q G' g1 g2 g3 g4) ?_
      (repeat ((try (conv=>whnf));(refine stQ ?_)))
      conv=>whnf
      exact ⟨rfl,rfl⟩
theorem q82 (hP:PcsM G A n p) (hn:n≤maxLen) (he:pcsE w h n p≠0) :
    Gives Tryz.prog 18 [.val (.int .i64 w),.val (.int .i64 h),.val (.slice SA m sq),.val (.slice A n c)] G (.tup [z7r,.val (.int .i64 (pcsE w h n p))]):=by
  have gc:=q7d (c:=c) (w:=w) (h:=h) hP hn
  generalize pcsE w h n p=e at *
  refine q01 tab_ok Tryz.func18 ?_
  (repeat ((try (conv=>whnf));(first |(refine stQ ?_) |(with_reducible first |refine q0e (fun vs w=>by kernel_rfl) (by kernel_rfl) (gc) ?_ |refine q0d (fun vs w=>by kernel_rfl) (by kernel_rfl) (gc) ?_))))
  exact ⟨rfl,rfl⟩
end
end Go.Proofs.YtkicdhaklnmonaaGreat
namespace Go.Proofs.YtkicdhaklnmonaaGreat
open Go.RowKit Go.Deep
set_option maxRecDepth 20000
abbrev sEr (I:Nat→Int) (m:Nat):Int:=srcM 0 true true (inkZ (I 0) (I 1) (I 2) (I 3) (I 4) (I 5) (I 6) (I 7)) (fewB I m) true true 0 0
section
variable {F:Mem} {I:Nat→Int} {m:Nat}
set_option maxHeartbeats 4000000 in
theorem x5m (hm:1≤m∧m≤8):Gives Tryz.prog 76 [srcA 0 I 0 0 0 0 0 (.slice none 0 0) 0 0 (.slice none 0 0) (.slice none 0 0) 0 0 0 0 0 0 false false,.val (.int .i64 m)] F (.val (.int .i64 (sEr I m))):=by
  have gz:=q9p (k:=0) (I:=I) (fx:=0) (fy:=0) (tx:=0) (ty:=0) (r:=0) (A:=none) (n:=0) (q:=0) (W:=0) (H:=0) (B:=none) (pn:=0) (pq:=0) (C:=none) (sn:=0) (sq:=0) (a:=0) (b:=0) (c:=0) (d:=0) (e:=0) (f:=0) (s:=false) (t:=false) (G:=F)
  have gp:=q8m (W:=0) (H:=0) (B:=none) (pn:=0) (pq:=0) (C:=none) (sn:=0) (sq:=0) (a:=0) (b:=0) (c:=0) (d:=0) (e:=0) (f:=0) (s:=false) (t:=false) (G:=F)
  have gw:=z6i (I:=I) (G:=F) hm
  rw [show q5n 0 0 0 0 0 0=true from rfl] at gz
  rw [show q1v 0 0 0 0 0 0 0 0 0 0 false false=true from rfl] at gp
  refine q01 tab_ok Tryz.func76 ?_
  unfold sEr
  generalize fewB I m=fw at *
  cases fw
  · (repeat ((try (conv=>whnf));(first |(refine stQ ?_) |(with_reducible first |refine q0e (fun vs w=>by kernel_rfl) (by kernel_rfl) (gz) ?_ |refine q0d (fun vs w=>by kernel_rfl) (by kernel_rfl) (gz) ?_ |refine q0e (fun vs w=>by kernel_rfl) (by kernel_rfl) (gp) ?_ |refine q0d (fun vs w=>by kernel_rfl) (by kernel_rfl) (gp) ?_ |refine q0e (fun vs w=>by kernel_rfl) (by kernel_rfl) (gw) ?_ |refine q0d (fun vs w=>by kernel_rfl) (by kernel_rfl) (gw) ?_))))
    exact ⟨rfl,rfl⟩
  · (repeat ((try (conv=>whnf));(first |(refine stQ ?_) |(with_reducible first |refine q0e (fun vs w=>by kernel_rfl) (by kernel_rfl) (gz) ?_ |refine q0d (fun vs w=>by kernel_rfl) (by kernel_rfl) (gz) ?_ |refine q0e (fun vs w=>by kernel_rfl) (by kernel_rfl) (gp) ?_ |refine q0d (fun vs w=>by kernel_rfl) (by kernel_rfl) (gp) ?_ |refine q0e (fun vs w=>by kernel_rfl) (by kernel_rfl) (gw) ?_ |refine q0d (fun vs w=>by kernel_rfl) (by kernel_rfl) (gw) ?_))))
    exact ⟨rfl,rfl⟩
set_option maxHeartbeats 4000000 in
theorem x71 (hm:1≤m∧m≤8) (hI:∀ j,j<8→0≤I j):Gives Tryz.prog 56 [srcA 0 I 0 0 0 0 0 (.slice none 0 0) 0 0 (.slice none 0 0) (.slice none 0 0) 0 0 0 0 0 0 false false,.val (.int .i64 m)] F (.val (.int .i64 (sEr I m))):=by
  have gw:=x2n (I:=I) (G:=F) hm hI
  refine q01 tab_ok Tryz.func56 ?_
  unfold sEr
  generalize fewB I m=fw at *
  cases fw
  · (repeat ((try (conv=>whnf));(first |(refine stQ ?_) |(with_reducible first |refine q0i tab_ok Tryz.func77 (fun vs w=>by kernel_rfl) (by rfl) ?_ |refine q0e (fun vs w=>by kernel_rfl) (by kernel_rfl) (gw) ?_ |refine q0d (fun vs w=>by kernel_rfl) (by kernel_rfl) (gw) ?_))))
    exact ⟨rfl,rfl⟩
  · (repeat ((try (conv=>whnf));(first |(refine stQ ?_) |(with_reducible first |refine q0i tab_ok Tryz.func77 (fun vs w=>by kernel_rfl) (by rfl) ?_ |refine q0e (fun vs w=>by kernel_rfl) (by kernel_rfl) (gw) ?_ |refine q0d (fun vs w=>by kernel_rfl) (by kernel_rfl) (gw) ?_))))
    exact ⟨rfl,rfl⟩
end
theorem x95 {w h:Int} {m n:Nat} {p:Nat→PcD} {S:Nat→Nat→Value} {G:Mem} (hI:∀ k,k<n→∀ j,0≤(p k).I j∧(p k).I j≤255) :
    ∃ E:Int,∀ SA sq B q G' J,m≤sq→sq≤maxLen→n≤q→q≤maxLen→SliceM Tryz.prog G' 9 SA m S→FlInv p n G ⟨n,J,G'⟩→ItemsM G' B n J →
      Gives Tryz.prog 41 [q5o w h SA m sq B n q] G' (.val (.int .i64 E))∧Gives Tryz.prog 19 [q5o w h SA m sq B n q] G' (.val (.int .i64 E)):=by
  refine ⟨q6b w h m (fun x=>valS (S x 0)) n (fun _=>0) fun x o=>q4e 0 (p x).L.length (solI (p x).I none (p x).L.length 0).nos 255 0 false false false o (errL (p x).L) (sEr (p x).I m),fun SA sq B q G' J0 h1 h2 h3 h4 hS hv hJ0=>?_⟩
  obtain ⟨J,hJ,hv1,hvE⟩:∃ J:Nat→ItemD,ItemsM G' B n J∧(∀ x,x<n→∃ RA rq,J x=solI (p x).I RA (p x).L.length rq∧(p x).L.length≤rq∧rq≤maxLen∧RunsM G' RA (p x).L)∧∀ x,∃ RA rq,J x=solI (p x).I RA (p x).L.length rq:=by
    refine ⟨fun x=>if x<n then J0 x else solI (p x).I none (p x).L.length 0,fun x hx=>?_,fun x hx=>?_,fun x=>?_⟩
    · dsimp only;rw [if_pos hx];exact hJ0 x hx
    · dsimp only;rw [if_pos hx];exact hv.all x hx
    · by_cases hx:x<n
      · obtain ⟨RA,rq,z1,_⟩:=hv.all x hx
        exact ⟨RA,rq,by dsimp only;rw [if_pos hx];exact z1⟩
      · exact ⟨none,0,by dsimp only;rw [if_neg hx]⟩
  have m1:∀ z,z≤maxLen→z≤9223372036854775807:=fun z hz=>hz
  have eK:(fun x=>(J x).K)=fun _=>(0:Int):=funext fun x=>by obtain ⟨RA,rq,z⟩:=hvE x;rw [z]
  have eE:(fun x o=>q4e (J x).K (J x).rn (J x).nos (J x).al (J x).bl (J x).ov (J x).iso (J x).kn o (errL (p x).L) (sEr (p x).I m))=fun x o=>q4e 0 (p x).L.length (solI (p x).I none (p x).L.length 0).nos 255 0 false false false o (errL (p x).L) (sEr (p x).I m):=funext fun x=>by obtain ⟨RA,rq,z⟩:=hvE x;rw [z];rfl
  have hD:=z9e (I:=J) (rE:=fun x=>errL (p x).L) (sE:=fun x=>sEr (p x).I m) (n:=n)
  constructor
  · have:=z02 (W:=w) (H:=h) (iq:=q) (sq:=sq) (x35 hS) hJ h1 (fun hm x hx o ho1 ho2=>?_) hD (m1 _ (Nat.le_trans h3 h4)) (m1 _ (Nat.le_trans h1 h2))
    · rw [eE,eK] at this;exact this
    · obtain ⟨RA,rq,z1,z2,z3,z4⟩:=hv1 x hx
      have g:=q4f (i:=solI (p x).I RA (p x).L.length rq) (o:=o) (_root_.Go.Proofs.YtkicdhaklnmonaaGreat.Check_gives z4 z2 z3) (x5m (I:=(p x).I) hm)
      rw [z1];exact g
  · have:=z9j (W:=w) (H:=h) (iq:=q) (sq:=sq) (x35 hS) hJ h1 (fun hm x hx o ho1 ho2=>?_) hD (m1 _ (Nat.le_trans h3 h4)) (m1 _ (Nat.le_trans h1 h2))
    · rw [eE,eK] at this;exact this
    · obtain ⟨RA,rq,z1,z2,z3,z4⟩:=hv1 x hx
      have g:=z6l (i:=solI (p x).I RA (p x).L.length rq) (o:=o) (show (0:Int)≤255 by omega) ⟨ho1,ho2⟩ (_root_.Go.Proofs.YtkicdhaklnmonaaGreat.RCheck_gives z4 z2 z3) (x71 (I:=(p x).I) hm fun j _=>(hI x hx j).1)
      rw [z1];exact g
end Go.Proofs.YtkicdhaklnmonaaGreat
namespace Go.Proofs.YtkicdhaklnmonaaGreat
open Go.RowKit
set_option maxRecDepth 20000
theorem q3n (x a b:Int) (G:Mem) (v:Bool) (hv:v=true↔a≤x∧x≤b):Gives Tryz.prog 11 [.val (.int .i64 x),.val (.int .i64 a),.val (.int .i64 b)] G (.val (.bool v)):=by
  have hv':v=decide (a≤x∧x≤b):=by
    cases v
    · exact (decide_eq_false fun h=>by simpa using hv.2 h).symm
    · exact (decide_eq_true (hv.1 rfl)).symm
  rw [hv']
  refine q01 tab_ok Tryz.func11 ?_
  by_cases h1:a≤x
  · (repeat ((try (conv=>whnf));(refine stQ ?_)))
    exact ⟨by simp [h1],rfl⟩
  · (repeat ((try (conv=>whnf));(refine stQ ?_)))
    exact ⟨by simp [h1],rfl⟩
end Go.Proofs.YtkicdhaklnmonaaGreat
namespace Go.Proofs.YtkicdhaklnmonaaGreat
open Go.RowKit
set_option maxRecDepth 20000
theorem x96 {La Lb:List Run} (va:ValidL La) (vb:ValidL Lb):0<(mixR 1 La Lb).length↔z3y La Lb:=by
  obtain ⟨h1,h2⟩:=q88 (c:=1) va vb
  have key:∀ x y,hasR (mixR 1 La Lb) x y↔hasR La x y∧hasR Lb x y:=fun x y=>by
    rw [h2,← hasL_iff,← hasL_iff];simp [opB]
  constructor
  · intro h
    obtain ⟨r,hr⟩:∃ r,r∈mixR 1 La Lb:=List.exists_mem_of_length_pos h
    have:=q56 h1 hr
    have h3:hasR (mixR 1 La Lb) r.x0 r.y:=⟨r,hr,rfl,by omega,by omega⟩
    exact ⟨_,_,(key _ _).1 h3⟩
  · rintro ⟨x,y,h⟩
    obtain ⟨r,hr,_⟩:=(key x y).2 h
    exact List.length_pos_of_mem hr
section
variable {A:Option Addr} {n c:Nat} {p:Nat→PcD} {G:Mem} {w h:Int}
set_option maxHeartbeats 4000000 in
theorem q38 (hp:PcsM G A n p) (hm:n≤maxLen):Gives Tryz.prog 10 [.val (.int .i64 w),.val (.int .i64 h),.val (.slice A n c)] G (.val (.int .i64 (pcsE w h n p))):=by
  unfold maxLen at hm
  refine q01 tab_ok Tryz.func10 ?_
  unfold pcsE
  by_cases hz1:1≤w∧w≤256
  rotate_left
  · have g1:=q3n w 1 256 G false ⟨(fun h=>by cases h),fun h=>absurd h hz1⟩
    rw [if_pos (fun h=>hz1 h.1)]
    (repeat ((try (conv=>whnf));(first |(refine stQ ?_) |(with_reducible first |refine q0e (fun vs w=>by kernel_rfl) (by kernel_rfl) (g1) ?_ |refine q0d (fun vs w=>by kernel_rfl) (by kernel_rfl) (g1) ?_))))
    exact ⟨rfl,rfl⟩
  have g1:=q3n w 1 256 G true ⟨fun _=>hz1,fun _=>rfl⟩
  by_cases hz2:1≤h∧h≤256
  rotate_left
  · have g2:=q3n h 1 256 G false ⟨(fun h=>by cases h),fun h=>absurd h hz2⟩
    rw [if_pos (fun h=>hz2 h.2)]
    (repeat ((try (conv=>whnf));(first |(refine stQ ?_) |(with_reducible first |refine q0e (fun vs w=>by kernel_rfl) (by kernel_rfl) (g1) ?_ |refine q0d (fun vs w=>by kernel_rfl) (by kernel_rfl) (g1) ?_ |refine q0e (fun vs w=>by kernel_rfl) (by kernel_rfl) (g2) ?_ |refine q0d (fun vs w=>by kernel_rfl) (by kernel_rfl) (g2) ?_))))
    exact ⟨rfl,rfl⟩
  have g2:=q3n h 1 256 G true ⟨fun _=>hz2,fun _=>rfl⟩
  rw [if_neg (fun h=>h ⟨hz1,hz2⟩)]
  by_cases hn:4096<n
  · rw [if_pos hn]
    (repeat ((try (conv=>whnf));(first |(refine stQ ?_) |(with_reducible first |refine q0e (fun vs w=>by kernel_rfl) (by kernel_rfl) (g1) ?_ |refine q0d (fun vs w=>by kernel_rfl) (by kernel_rfl) (g1) ?_ |refine q0e (fun vs w=>by kernel_rfl) (by kernel_rfl) (g2) ?_ |refine q0d (fun vs w=>by kernel_rfl) (by kernel_rfl) (g2) ?_))))
    exact ⟨rfl,rfl⟩
  rw [if_neg hn]
  (repeat ((try (conv=>whnf));(first |(refine stQ ?_) |(with_reducible first |refine q0e (fun vs w=>by kernel_rfl) (by kernel_rfl) (g1) ?_ |refine q0d (fun vs w=>by kernel_rfl) (by kernel_rfl) (g1) ?_ |refine q0e (fun vs w=>by kernel_rfl) (by kernel_rfl) (g2) ?_ |refine q0d (fun vs w=>by kernel_rfl) (by kernel_rfl) (g2) ?_))))
  conv=>whnf
  refine q0w tab_ok (fun i=>i≤n∧q1w (fun i=>pcE w h (p i)) i=0) (fun (i:Nat)=>[(28,.val (.int .i64 i))]) (fun i=>[]) (fun i=>n-i) 0 ⟨Nat.zero_le _,rfl⟩ ?_ ?_
  · ((refine q0g ?_);(conv=>whnf);(refine q0k (by rfl) (by rfl) flQ ?_))
    exact q0f
  · rintro i ⟨hi,h0⟩
    rcases Nat.lt_or_ge i n with h1 |h1
    · obtain ⟨a,rfl,ch⟩:=hp.head h1
      obtain ⟨a',ha',ci⟩:=hp.inks h1
      cases ha'
      have hR:=hp.runs i h1
      have hroom:=hp.room i h1
      have gc:=RCheck_gives (c:=(p i).q) hR hroom.1 hroom.2
      have hfirst:pcE w h (p i)≠0→q1w (fun i=>pcE w h (p i)) n=pcE w h (p i):=fun e=>z0a (f:=fun i=>pcE w h (p i)) h0 e h1
      by_cases e1:errL (p i).L=0
      · rw [e1] at gc
        by_cases e2:(p i).L.length=0
        · have e:=x05 (w:=w) (h:=h) e1 e2
          have hf:=hfirst (by omega)
          rw [if_pos (by rw [hf];omega),hf,e]
          (repeat ((try (conv=>whnf));(first |(refine q0b _ ch ?_) |(refine stQ ?_) |(with_reducible first |refine q0e (fun vs w=>by kernel_rfl) (by kernel_rfl) (gc) ?_ |refine q0d (fun vs w=>by kernel_rfl) (by kernel_rfl) (gc) ?_))))
          conv=>whnf
          exact ⟨rfl,rfl⟩
        · have hlen:=(q6z e1).length
          (repeat ((try (conv=>whnf));(first |(refine q0b _ ch ?_) |(refine stQ ?_) |(with_reducible first |refine q0e (fun vs w=>by kernel_rfl) (by kernel_rfl) (gc) ?_ |refine q0d (fun vs w=>by kernel_rfl) (by kernel_rfl) (gc) ?_))))
          conv=>whnf
          refine q0w tab_ok (fun k=>k≤(p i).L.length∧∀ r∈(p i).L.take k,¬ outP w h r) (fun (k:Nat)=>[(53,.val (.int .i64 k))]) (fun k=>[]) (fun k=>(p i).L.length-k) 0 ⟨Nat.zero_le _,fun r hr=>by cases hr⟩ ?_ ?_
          · ((refine q0g ?_);(conv=>whnf);(refine q0k (by rfl) (by rfl) flQ ?_))
            exact q0f
          · rintro k ⟨hk,hout⟩
            rcases Nat.lt_or_ge k (p i).L.length with h2 |h2
            · obtain ⟨r,hr⟩:∃ r,(p i).L[k]? = some r:=⟨_,List.getElem?_eq_getElem h2⟩
              obtain ⟨b,hb,cb⟩:=hR.cells hr
              have hbd:=(q6z e1).bd (List.mem_of_getElem? hr)
              have htk:(p i).L.take (k+1)=(p i).L.take k++[r]:=by rw [List.take_add_one,hr];rfl
              rw [hb] at ch
              have bad:outP w h r→q1w (fun i=>pcE w h (p i)) n=3:=fun ho=>by
                have e:=x3v (w:=w) (h:=h) e1 e2 ⟨r,List.mem_of_getElem? hr,ho⟩
                rw [hfirst (by omega),e]
              by_cases o1:r.y<0
              · rw [bad (.inl o1),if_pos (by omega)]
                (repeat ((try (conv=>whnf));(first |(refine q0b _ ch ?_) |(refine cb _ ?_) |(refine stQ ?_))))
                conv=>whnf
                exact ⟨rfl,rfl⟩
              by_cases o2:16*h≤r.y
              · rw [bad (.inr (.inl o2)),if_pos (by omega)]
                (repeat ((try (conv=>whnf));(first |(refine q0b _ ch ?_) |(refine cb _ ?_) |(refine stQ ?_))))
                conv=>whnf
                exact ⟨rfl,rfl⟩
              by_cases o3:r.x0<0
              · rw [bad (.inr (.inr (.inl o3))),if_pos (by omega)]
                (repeat ((try (conv=>whnf));(first |(refine q0b _ ch ?_) |(refine cb _ ?_) |(refine stQ ?_))))
                conv=>whnf
                exact ⟨rfl,rfl⟩
              by_cases o4:16*w<r.x1
              · rw [bad (.inr (.inr (.inr o4))),if_pos (by omega)]
                (repeat ((try (conv=>whnf));(first |(refine q0b _ ch ?_) |(refine cb _ ?_) |(refine stQ ?_))))
                conv=>whnf
                exact ⟨rfl,rfl⟩
              · (repeat ((try (conv=>whnf));(first |(refine q0b _ ch ?_) |(refine cb _ ?_) |(refine stQ ?_))))
                conv=>whnf
                refine ⟨k+1,⟨by omega,fun s hs=>?_⟩,by omega,?_⟩
                · rw [htk,List.mem_append] at hs
                  rcases hs with hs |hs
                  · exact hout s hs
                  · simp at hs;subst hs;unfold outP;omega
                · ((refine q0g ?_);(conv=>whnf);(refine q0k (by rfl) (by rfl) flQ ?_))
                  exact q0f
            · obtain rfl:k=(p i).L.length:=by omega
              rw [List.take_length] at hout
              have e3:¬ ∃ r∈(p i).L,outP w h r:=fun ⟨r,h3,h4⟩=>hout r h3 h4
              by_cases e4:q3j (p i).I
              · have e:=x06 (w:=w) (h:=h) e1 e2 e3 e4
                have hf:=hfirst (by omega)
                rw [if_pos (by rw [hf];omega),hf,e]
                unfold q3j at e4
                (repeat ((try (conv=>whnf));(first |(refine ci _ ?_) |(refine stQ ?_))))
                conv=>whnf
                exact ⟨rfl,rfl⟩
              · have e:=z57 (w:=w) (h:=h) e1 e2 e3 e4
                have hnz:=z0b e4
                (repeat ((try (conv=>whnf));(first |(refine ci _ ?_) |(with_reducible refine q1l hnz ?_) |(refine stQ ?_))))
                conv=>whnf
                refine ⟨i+1,⟨by omega,q5h (f:=fun i=>pcE w h (p i)) h0 e⟩,by omega,?_⟩
                ((refine q0g ?_);(conv=>whnf);(refine q0k (by rfl) (by rfl) flQ ?_))
                exact q0f
      · have e:=x3u (w:=w) (h:=h) e1
        have hf:=hfirst (by omega)
        rw [if_pos (by rw [hf,e];exact e1),hf,e]
        (repeat ((try (conv=>whnf));(first |(refine q0b _ ch ?_) |(refine stQ ?_) |(with_reducible first |refine q0e (fun vs w=>by kernel_rfl) (by kernel_rfl) (gc) ?_ |refine q0d (fun vs w=>by kernel_rfl) (by kernel_rfl) (gc) ?_))))
        conv=>whnf
        exact ⟨rfl,rfl⟩
    · obtain rfl:i=n:=by omega
      rw [if_neg (by omega)]
      have hok:=x1j h0
      (repeat ((try (conv=>whnf));(refine stQ ?_)))
      conv=>whnf
      refine q0w tab_ok (fun j=>j≤i∧q1w (apE p) j=0) (fun (j:Nat)=>[(98,.val (.int .i64 j))]) (fun j=>[]) (fun j=>i-j) 0 ⟨Nat.zero_le _,rfl⟩ ?_ ?_
      · ((refine q0g ?_);(conv=>whnf);(refine q0k (by rfl) (by rfl) flQ ?_))
        exact q0f
      · rintro j ⟨hj,g0⟩
        rcases Nat.lt_or_ge j i with h2 |h2
        · have hfirst:=fun h=>z0a (n:=i) g0 h h2
          obtain ⟨a,rfl,cj⟩:=hp.head h2
          obtain ⟨a',ha',ij⟩:=hp.inks h2
          cases ha'
          (repeat ((try (conv=>whnf));(refine stQ ?_)))
          conv=>whnf
          refine q0w tab_ok (fun k=>k≤j∧∀ m,m<k→¬ (q3q (p m).I (p j).I∨z3y (p m).L (p j).L)) (fun (k:Nat)=>[(12,.val (.int .i64 k))]) (fun k=>[]) (fun k=>j-k) 0 ⟨Nat.zero_le _,fun m hm=>by omega⟩ ?_ ?_
          · ((refine q0g ?_);(conv=>whnf);(refine q0k (by rfl) (by rfl) flQ ?_))
            exact q0f
          · rintro k ⟨hk,hno⟩
            rcases Nat.lt_or_ge k j with h3 |h3
            · obtain ⟨a',ha',ck⟩:=hp.head (show k<i by omega)
              cases ha'
              obtain ⟨a',ha',ik⟩:=hp.inks (show k<i by omega)
              cases ha'
              by_cases hs:q3q (p k).I (p j).I
              · have e7:=z58 (p:=p) (i:=j) ⟨k,h3,.inl hs⟩
                rw [hfirst (by omega),e7]
                unfold q3q at hs
                (repeat ((try (conv=>whnf));(first |(refine q0b _ ck ?_) |(refine q0b _ cj ?_) |(refine ik _ ?_) |(refine ij _ ?_) |(refine stQ ?_))))
                conv=>whnf
                exact ⟨rfl,rfl⟩
              · have hns:=z8t hs
                have hmk:=z7e (p k).A (p j).A (p k).L (p j).L (p k).q (p j).q 1 G (hp.runs k (by omega)) (hp.runs j h2) (hok k (by omega)).1 (hok j h2).1
                have hlm:=(x4w (c:=1) (hok k (by omega)).1 (hok j h2).1).length
                have hmt:=x96 (hok k (by omega)).1 (hok j h2).1
                generalize mixR 1 (p k).L (p j).L=M at *
                by_cases hm:z3y (p k).L (p j).L
                · have e7:=z58 (p:=p) (i:=j) ⟨k,h3,.inr hm⟩
                  rw [hfirst (by omega),e7]
                  have hM:=hmt.2 hm
                  (repeat ((try (conv=>whnf));(first |(refine q0b _ ck ?_) |(refine q0b _ cj ?_) |(refine ik _ ?_) |(refine ij _ ?_) |(with_reducible refine q1l hns ?_) |(refine q68 (fun vs w=>by kernel_rfl) (.alone fun _=>rfl) (by kernel_rfl) hmk ?_) |(refine stQ ?_))))
                  conv=>whnf
                  exact ⟨rfl,rfl⟩
                · have hM:M.length=0:=by
                    rcases Nat.eq_zero_or_pos M.length with h |h
                    · exact h
                    · exact absurd (hmt.1 h) hm
                  (repeat ((try (conv=>whnf));(first |(refine q0b _ ck ?_) |(refine q0b _ cj ?_) |(refine ik _ ?_) |(refine ij _ ?_) |(with_reducible refine q1l hns ?_) |(refine q68 (fun vs w=>by kernel_rfl) (.alone fun _=>rfl) (by kernel_rfl) hmk ?_) |(refine stQ ?_))))
                  conv=>whnf
                  refine ⟨k+1,⟨by omega,fun m hm'=>?_⟩,by omega,?_⟩
                  · by_cases e:m=k
                    · subst e
                      exact fun h=>h.elim hs hm
                    · exact hno m (by omega)
                  · ((refine q0g ?_);(conv=>whnf);(refine q0k (by rfl) (by rfl) flQ ?_))
                    exact q0f
            · obtain rfl:k=j:=by omega
              have htw:¬ twP p k:=fun ⟨m,m1,m2⟩=>hno m m1 m2
              by_cases hj0:k=0
              · have e0:=z0z htw (fun ho=>by unfold ordP at ho;omega)
                (repeat ((try (conv=>whnf));(refine stQ ?_)))
                conv=>whnf
                refine ⟨k+1,⟨by omega,q5h g0 e0⟩,by omega,?_⟩
                ((refine q0g ?_);(conv=>whnf);(refine q0k (by rfl) (by rfl) flQ ?_))
                exact q0f
              · obtain ⟨m,rfl⟩:∃ m,k=m+1:=⟨k-1,by omega⟩
                obtain ⟨a3,ha3,hd⟩:=hp.head (show m<i by omega)
                cases ha3
                obtain ⟨a1,ha1,c1⟩:=q80 (hok (m+1) h2).2.1 (hp.runs (m+1) h2)
                obtain ⟨a2,ha2,c2⟩:=q80 (hok m (by omega)).2.1 (hp.runs m (by omega))
                have hl1:0<(p (m+1)).L.length:=Nat.pos_of_ne_zero (hok _ h2).2.1
                have hl2:0<(p m).L.length:=Nat.pos_of_ne_zero (hok _ (by omega)).2.1
                have hod:ordP p (m+1)↔((q1c (p (m+1)).L).y<(q1c (p m).L).y∨((q1c (p (m+1)).L).y=(q1c (p m).L).y∧(q1c (p (m+1)).L).x0<(q1c (p m).L).x0)):=by
                  unfold ordP;rw [Nat.add_sub_cancel];simp
                have hix:(((m+1:Nat):Int)-1).toNat=m:=by omega
                rw [ha1] at cj
                rw [ha2,← hix] at hd
                rw [← hix] at hl2
                by_cases ho:ordP p (m+1)
                · have e7:=x3w htw ho
                  rw [hfirst (by omega),e7]
                  rw [hod] at ho
                  rcases ho with ho |⟨ho1,ho2⟩
                  · (repeat ((try (conv=>whnf));(first |(refine q0b _ cj ?_) |(refine q0b _ hd ?_) |(refine c1 _ ?_) |(refine c2 _ ?_) |(refine s3Q ?_))))
                    conv=>whnf
                    exact ⟨rfl,rfl⟩
                  · (repeat ((try (conv=>whnf));(first |(refine q0b _ cj ?_) |(refine q0b _ hd ?_) |(refine c1 _ ?_) |(refine c2 _ ?_) |(refine s3Q ?_))))
                    conv=>whnf
                    exact ⟨rfl,rfl⟩
                · have e7:=z0z htw ho
                  rw [hod] at ho
                  have hnext:q1w (apE p) (m+1+1)=0:=q5h g0 e7
                  by_cases ho1:(q1c (p (m+1)).L).y=(q1c (p m).L).y
                  · (repeat ((try (conv=>whnf));(first |(refine q0b _ cj ?_) |(refine q0b _ hd ?_) |(refine c1 _ ?_) |(refine c2 _ ?_) |(refine s3Q ?_))))
                    conv=>whnf
                    refine ⟨m+1+1,⟨by omega,hnext⟩,by omega,?_⟩
                    ((refine q0g ?_);(conv=>whnf);(refine q0k (by rfl) (by rfl) flQ ?_))
                    exact q0f
                  · (repeat ((try (conv=>whnf));(first |(refine q0b _ cj ?_) |(refine q0b _ hd ?_) |(refine c1 _ ?_) |(refine c2 _ ?_) |(refine s3Q ?_))))
                    conv=>whnf
                    refine ⟨m+1+1,⟨by omega,hnext⟩,by omega,?_⟩
                    ((refine q0g ?_);(conv=>whnf);(refine q0k (by rfl) (by rfl) flQ ?_))
                    exact q0f
        · obtain rfl:j=i:=by omega
          rw [g0]
          (repeat ((try (conv=>whnf));(refine stQ ?_)))
          conv=>whnf
          exact ⟨rfl,rfl⟩
end
end Go.Proofs.YtkicdhaklnmonaaGreat
namespace Go.Proofs.YtkicdhaklnmonaaGreat
open Go.RowKit Go.Deep
set_option maxRecDepth 20000
theorem q3r:flat Tryz.prog 20 35=[.slice 24,.int .u8,.int .u8,.int .u8,.int .u8,.int .u8,.int .u8,.int .u8,.int .u8]:=by kernel_rfl
theorem q5c:q4w Tryz.prog 20 35=true:=by kernel_rfl
theorem v2m:Tryz.prog.cellsOf 35=9:=by kernel_rfl
theorem v2y:Tryz.prog.underlying 24=some (.slice 78):=Tryz.underlying24
theorem v2z:0<Tryz.prog.cellsOf 78:=of_decide_eq_true (by kernel_rfl)
theorem z0k {z:Int} (h:(Lit.int .u8 z).wf=true):0≤z∧z≤255:=by
  simp [Lit.wf,IntKind.min,IntKind.max,IntKind.signed,IntKind.bits] at h
  omega
section
variable {w:World} {A:Option Addr} {n:Nat} {g:Nat→Nat→Value}
theorem v1y (h:SliceG Tryz.prog w 35 A n g) {x:Nat} (hx:x<n):∃ p:PcD,pcC p=[g x 0,g x 1,g x 2,g x 3,g x 4,g x 5,g x 6,g x 7,g x 8]∧RunsM (q64 w) p.A p.L∧(p.L.length≤p.q∧p.q≤maxLen)∧∀ j,0≤p.I j∧p.I j≤255:=by
  obtain ⟨m,h0⟩:=h.seen (j:=0) q5c hx (by rw [q3r];rfl)
  obtain ⟨B,k,c,gr,e0,r1,r2,hs⟩:=z51 v2y v2z h0
  have e1:=(h.int (j:=1) (k:=.u8) q5c hx (by rw [q3r];rfl))
  have e2:=(h.int (j:=2) (k:=.u8) q5c hx (by rw [q3r];rfl))
  have e3:=(h.int (j:=3) (k:=.u8) q5c hx (by rw [q3r];rfl))
  have e4:=(h.int (j:=4) (k:=.u8) q5c hx (by rw [q3r];rfl))
  have e5:=(h.int (j:=5) (k:=.u8) q5c hx (by rw [q3r];rfl))
  have e6:=(h.int (j:=6) (k:=.u8) q5c hx (by rw [q3r];rfl))
  have e7:=(h.int (j:=7) (k:=.u8) q5c hx (by rw [q3r];rfl))
  have e8:=(h.int (j:=8) (k:=.u8) q5c hx (by rw [q3r];rfl))
  have hR:=v2g hs
  refine ⟨⟨q2h (fun x=>⟨valI (gr x 0),valI (gr x 1),valI (gr x 2)⟩) k,B,c,fun j=>if j<8 then valI (g x (j+1)) else 0⟩,?_,hR,⟨by rw [z2w];exact r1,r2⟩,fun j=>?_⟩
  · simp only [pcC,inkC,z2w]
    rw [e0]
    simp [e1.1.symm,e2.1.symm,e3.1.symm,e4.1.symm,e5.1.symm,e6.1.symm,e7.1.symm,e8.1.symm]
  · dsimp only
    by_cases hj:j<8
    · rw [if_pos hj]
      match j,hj with
      | 0,_=>exact z0k e1.2
      | 1,_=>exact z0k e2.2
      | 2,_=>exact z0k e3.2
      | 3,_=>exact z0k e4.2
      | 4,_=>exact z0k e5.2
      | 5,_=>exact z0k e6.2
      | 6,_=>exact z0k e7.2
      | 7,_=>exact z0k e8.2
    · rw [if_neg hj];omega
theorem v20 (h:SliceG Tryz.prog w 35 A n g):∃ p:Nat→PcD,PcsM (q64 w) A n p:=by
  obtain ⟨p,hp⟩:=choose_lt (fun x hx=>v1y h hx)
  refine ⟨p,⟨⟨fun x hx=>rfl,fun x hx=>?_⟩,fun i hi=>(hp i hi).2.1,fun i hi=>(hp i hi).2.2.1,fun i hi=>(hp i hi).2.2.2⟩⟩
  obtain ⟨b,off,rfl,_,hc⟩:=h (by omega)
  rw [v2m] at hc
  refine ⟨b,off,rfl,fun j v hj=>?_⟩
  rw [(hp x hx).1] at hj
  match j,hj with
  | 0,hj=>simp at hj;subst hj;exact (hc x hx).1 0 (by omega)
  | 1,hj=>simp at hj;subst hj;exact (hc x hx).1 1 (by omega)
  | 2,hj=>simp at hj;subst hj;exact (hc x hx).1 2 (by omega)
  | 3,hj=>simp at hj;subst hj;exact (hc x hx).1 3 (by omega)
  | 4,hj=>simp at hj;subst hj;exact (hc x hx).1 4 (by omega)
  | 5,hj=>simp at hj;subst hj;exact (hc x hx).1 5 (by omega)
  | 6,hj=>simp at hj;subst hj;exact (hc x hx).1 6 (by omega)
  | 7,hj=>simp at hj;subst hj;exact (hc x hx).1 7 (by omega)
  | 8,hj=>simp at hj;subst hj;exact (hc x hx).1 8 (by omega)
end
end Go.Proofs.YtkicdhaklnmonaaGreat
namespace Go.Proofs.YtkicdhaklnmonaaGreat
open Go.RowKit
theorem z6v {P:Program} {f:FuncId} (hen:∀ vs w,(callFunc f vs).run P w=.ok (.enter f vs) w) {k:Nat} {pre:List Value} {hp:List Blk} {G:Mem} {K:AV→List Blk→Mem→Prop} {E:TypeId} {sz n:Nat} {xs:List Value} {l:List AV} (hl:l=pre.map .val++[.own k]) (hk:nthB hp k=.own E sz n xs)
    (h:∀ A cap G',G.le G'→n≤cap→cap≤maxLen→FlatM G' A xs→z6a k (.slice A n cap) hp fun hp1=>setF hp1 k .gone fun hp2=>CallP P f [.agg ((pre++[Value.slice A n cap]).map .val)] hp2 G' K):CallP P f [.agg l] hp G K:=by
  subst hl
  refine ⟨hen,fun w0 G0 β w vs hr ha=>?_⟩
  simp only [AV.rels,AV.rel] at ha
  obtain ⟨v1,ts1,hvs,⟨cs,rfl,hcs⟩,rfl⟩:=ha
  obtain ⟨zs,z,h1,h2,h3⟩:=q5w hcs
  simp only [AV.rel] at h3
  have hv:=h3.1
  obtain ⟨A,cap,G',rfl,hle,hnc,hcm,hF,hr'⟩:=hr.freeze hv hk
  have h0:=h A cap G' hle hnc hcm hF
  rw [z2y,q09] at h0
  have hr2:=hr'.plug hv
  have e:(hp.set k .gone).map (Blk.plug k (.slice A n cap))=(hp.map (Blk.plug k (.slice A n cap))).set k .gone:=by
    rw [List.map_set];rfl
  rw [e] at hr2
  refine h0.calls w0 G0 β w vs hr2 ?_
  simp only [AV.rels,AV.rel]
  refine ⟨_,[],hvs,⟨cs,rfl,?_⟩,rfl⟩
  have hz:=q07 h2
  rw [h1,hz]
  exact AV.rels_vals (pre++[Value.slice A n cap])
end Go.Proofs.YtkicdhaklnmonaaGreat
