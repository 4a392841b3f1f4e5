/-
  Merged: XArg, XHpm, XTrim, XClean.
-/
import Derived.Test.YtegpkpilfgohhaaGreatMrg7
import Derived.Test.YtegpkpilfgohhaaGreatGm
import Derived.Test.YtegpkpilfgohhaaGreatMrg10
import Derived.Test.YtegpkpilfgohhaaGreatMrg12
set_option linter.unusedVariables false
set_option linter.unusedSimpArgs false
set_option linter.unnecessarySimpa false
namespace Go.Proofs.YtegpkpilfgohhaaGreat
open Go.RowKit
def RowM (G:Mem) (A:Option Addr) (xs:List Value):Prop:=(A=none∧xs=[])∨∃ b off,A=some ⟨b,off,none⟩∧∀ (j:Nat) u,xs[j]? = some u→G.cell? ⟨b,off+j,none⟩=some u
theorem RowM.mono {G G':Mem} {A:Option Addr} {xs:List Value} (h:RowM G A xs) (hle:G.le G'):RowM G' A xs:=by
  rcases h with h |⟨b,off,h1,h2⟩
  · exact .inl h
  · exact .inr ⟨b,off,h1,fun j u hj=>hle.cell (h2 j u hj)⟩
theorem x5l {P:Program} {f:FuncId} (hen:∀ vs w,(callFunc f vs).run P w=.ok (.enter f vs) w) {k:Nat} {post:List AV} {hp:List Blk} {G:Mem} {K:AV→List Blk→Mem→Prop} {E:TypeId} {sz n:Nat} {xs:List Value} (hk:nthB hp k=.own E sz n xs) (hu:AV.unders 0 post=true)
    (h:∀ A cap G',G.le G'→n≤cap→cap≤maxLen→RowM G' A xs→setF hp k .gone fun hp'=>CallP P f (.val (.slice A n cap)::post) hp' G' K):CallP P f (.own k::post) hp G K:=by
  refine ⟨hen,fun w0 G0 β w vs hr ha=>?_⟩
  have ha':=ha
  simp only [AV.rels] at ha
  obtain ⟨v,ts,hvs,hv,hts⟩:=ha
  simp only [AV.rel] at hv
  obtain ⟨x,hx1,hx2⟩:=hr.blk k v hv.1
  have hkx:=q0x hk rfl
  rw [hkx] at hx1;cases hx1
  obtain ⟨⟨hlen,hown⟩,hfree⟩:=hx2
  rcases hown with ⟨rfl,h5⟩ |⟨g,cap,cur,rfl,h5,h6,h7,h8,h9,h10⟩
  · have h0:=h none 0 G (Mem.le_refl _) (by omega) (Nat.zero_le _) (.inl ⟨rfl,by rw [h5] at hlen;simpa using hlen⟩)
    rw [q1c] at h0
    subst h5
    refine h0.calls w0 G0 β w vs (hr.forget k) ?_
    simp only [AV.rels,AV.rel]
    exact ⟨_,ts,hvs,rfl,hts⟩
  · have hcell:∀ (j:Nat) u,xs[j]? = some u→(G.and w g).cell? ⟨g,0+j,none⟩=some u:=fun j u hj=>by
      have h11:(G.and w g) g=some (.cells cur E (0,0)):=by simp [Mem.and,h6]
      unfold Mem.cell?
      rw [Nat.zero_add,h11]
      rw [← h10] at hj
      rw [List.getElem?_take] at hj
      split at hj
      · simpa using hj
      · cases hj
    have h0:=h (some ⟨g,0,none⟩) cap (G.and w g) (Mem.le_and hr.hold g) h7 h8 (.inr ⟨g,0,rfl,hcell⟩)
    rw [q1c] at h0
    have hf:=hr.forget k
    have hbig:=(hr.lt hv.1 hkx rfl (b:=g) rfl).1
    refine h0.calls w0 G0 β w vs ⟨hf.below,Mem.and_holds hr.hold g,Mem.le_trans hr.sub (Mem.le_and hr.hold g),fun b o hb=>?_,fun j z hj=>?_,hf.inj,hf.wrt⟩ ?_
    · unfold Mem.and at hb
      split at hb
      · rename_i e1;subst e1
        exact .inr h5
      · exact hr.grow b o hb
    · obtain ⟨x,hx1,hx2⟩:=hf.blk j z hj
      refine ⟨x,hx1,?_⟩
      have hne:∀ b,x.live=true→q0i z=some b→b≠g:=fun b hl hb e=>by
        subst e
        by_cases hjk:j=k
        · subst hjk
          rw [List.getElem?_set] at hx1
          simp [(List.getElem?_eq_some_iff.1 hkx).1] at hx1
          subst hx1;simp [Blk.live] at hl
        · have hx3:hp[j]? = some x:=by rw [List.getElem?_set,if_neg (fun e=>hjk e.symm)] at hx1;exact hx1
          exact hr.inj j k z _ x _ b hjk hj hv.1 hx3 hkx hl rfl hb rfl
      cases x with
      | gone=>trivial
      | muts S=>exact hx2.elim
      | cells t l =>
        obtain ⟨b,c,q1,q2,q3,q4,q5⟩:=hx2
        refine ⟨b,c,q1,q2,?_,q4,q5⟩
        have:=hne b rfl (by rw [q1];rfl)
        simp [Mem.and,this,q3]
      | own e sz' n' xs' =>
        obtain ⟨q1,q2⟩:=hx2
        refine ⟨q1,fun b hb=>?_⟩
        have:=hne b rfl hb
        simp [Mem.and,this,q2 b hb]
      | lp i fr st p =>
        obtain ⟨q1,q2,q3,q4⟩:=hx2
        refine ⟨q1,q2,?_,q4⟩
        have:=hne i.l rfl (by rw [q1];rfl)
        simp [Mem.and,this,q3]
      | mp f ks vs =>
        obtain ⟨b,ys,q1,q2,q3,q4⟩:=hx2
        refine ⟨b,ys,q1,q2,?_,q4⟩
        have:=hne b rfl (by rw [q1];rfl)
        simp [Mem.and,this,q3]
    · simp only [AV.rels,AV.rel]
      exact ⟨_,ts,hvs,rfl,hts⟩
theorem q3h {P:Program} {T:Tab} (hT:TOk P T) {n0:Nat} {b:Code} {fr:List AV} {hp:List Blk} {G:Mem} {Q:Post} {ι:Type} (inv:ι→Prop) (S:ι→List (Nat × AV)) (H:ι→List Blk) (M:ι→Mem) (μ:ι→Nat) (i0:ι) (h0:inv i0)
    (start:Le n0 fr hp G (q4w b fr (S i0)) (H i0) (M i0))
    (round:∀ i,inv i→q9u (q3l b []) fun ws=>q7z ws 0 fr fun fr1=>q6n fr1 (S i) fun fr2=>q9r P T n0 b fr2 (H i) (M i) fun e fr' hp' G'=>match e with
      | .normal=>∃ i',inv i'∧μ i'<μ i∧Le n0 fr' hp' G' (q4w b fr (S i')) (H i') (M i')
      | e=>Q e fr' hp' G'):LoopP P n0 b fr hp G Q:=by
  refine z4n hT inv (fun i=>q4w b fr (S i)) H M μ ⟨i0,h0,start⟩ fun i hi=>?_
  have h:=round i hi
  rw [q7e,q6m,q5x] at h
  exact h
end Go.Proofs.YtegpkpilfgohhaaGreat
namespace Go.Proofs.YtegpkpilfgohhaaGreat
theorem q0p {n:Nat} {S S':Nat→Prop} {l m:List Blk} (hS:∀ b,S' b→S b) (h:hpLe n l m):hpLe n (.muts S::l) (.muts S'::m):=⟨hS,h⟩
end Go.Proofs.YtegpkpilfgohhaaGreat
namespace Go.Proofs.YtegpkpilfgohhaaGreat
open Go.RowKit
theorem z1p {P:Program} {f:FuncId} {args:List AV} {hp:List Blk} {G:Mem} {K:AV→List Blk→Mem→Prop} {n0:Nat} (hn:hp.length=n0)
    (h:CallP P f args hp G fun v hp' G'=>∃ v1 hp1 G1,Le n0 [v] hp' G' [v1] hp1 G1∧K v1 hp1 G1):CallP P f args hp G K:=by
  subst hn
  refine ⟨h.enters,fun w0 G0 β w vs hr ha=>(h.calls w0 G0 β w vs hr ha).mono ?_⟩
  rintro e w' ⟨y,β',v,hp',G',rfl,h1,h2,h3,v1,hp1,G1,hle,hK⟩
  obtain ⟨β'',g1,g2,g3⟩:=hle.out w0 G0 β β' w' [y] (Nm.below_of hr) h1 h2 (by simp only [AV.rels];exact ⟨y,[],rfl,h3,rfl⟩)
  simp only [AV.rels] at g3
  obtain ⟨z,zs,g4,g5,g6⟩:=g3
  cases g4
  exact ⟨y,β'',v1,hp1,G1,rfl,g1,g2,g5,hK⟩
theorem x7g {n0 q:Nat} {hp hp':List Blk} {G G':Mem} {fr':List AV} {E:TypeId} {sz n:Nat} {xs:List Value} (hq:nthB hp q=.own E sz n xs) (h:Le n0 [.vw q 0 n] hp G fr' hp' G'):Le n0 [.own q] hp G fr' hp' G':=by
  refine ⟨fun w0 G0 β0 β w ys h0 h1 hr hf=>h.out w0 G0 β0 β w ys h0 h1 hr ?_⟩
  simp only [AV.rels,AV.rel] at hf ⊢
  obtain ⟨y,zs,rfl,⟨hy,_⟩,rfl⟩:=hf
  refine ⟨y,[],rfl,?_,rfl⟩
  obtain ⟨x,hx1,hx2⟩:=hr.blk q y hy
  rw [q0x hq rfl] at hx1;cases hx1
  rcases hx2.1.2 with ⟨rfl,rfl⟩ |⟨g,cap,cur,rfl,_,_,h8,_⟩
  · exact ⟨none,0,rfl,Nat.le_refl _,⟨fun _=>rfl,fun _=>⟨0,hy⟩⟩,fun h=>by omega⟩
  · exact ⟨_,cap,rfl,h8,⟨(fun h=>by cases h),fun _=>⟨n,hy⟩⟩,fun _=>⟨_,g,hy,rfl,rfl⟩⟩
theorem HR.trim {w0:World} {G0:Mem} {β:Nm} {hp:List Blk} {G:Mem} {w:World} (hr:HR w0 G0 β hp G w) {k N n m c:Nat} {E:TypeId} {sz:Nat} {xs:List Value} {A:Option Addr} (hk:nthB hp k=.own E sz N xs) (hβ:β k=some (.slice A m c)) (hn:n≤N) :
    HR w0 G0 (β.put hp.length (.slice A n c)) (hp.set k .gone++[.own E sz n (xs.take (n*sz))]) G w:=by
  have hkx:=q0x hk rfl
  obtain ⟨x1,hx1,hx2⟩:=hr.blk k _ hβ
  rw [hkx] at hx1;cases hx1
  obtain rfl:=z31 hx2.1
  have eb:q0i (.slice A n c)=q0i (.slice A m c):=by cases A <;> rfl
  refine hr.moveName hβ hkx rfl (w':=w) ⟨rfl,rfl,rfl,Nat.le_refl _,fun _ _ _=>rfl⟩ (fun b hb=>.inr (by rw [← eb];exact hb)) rfl ⟨q89 hx2.1 hn,fun g hg=>hx2.2 g (by rw [← eb];exact hg)⟩
section
variable {α:Type} {enc:α→List Value} {k:Nat}
theorem q74 (hk:∀ x,(enc x).length=k):∀ (l:List α) (i:Nat) (x:α),i<l.length→(l.flatMap enc).take (i*k)++enc x++(l.flatMap enc).drop (i*k+k)=(l.set i x).flatMap enc
  | [],i,x,h=>by simp at h
  | a::l,0,x,_=>by
    simp only [List.flatMap_cons,Nat.zero_mul,List.take_zero,List.nil_append,Nat.zero_add,List.set_cons_zero]
    rw [List.drop_left' (hk a)]
  | a::l,i+1,x,h=>by
    have e:(i+1)*k=k+i*k:=by rw [Nat.add_mul];omega
    simp only [List.flatMap_cons,List.set_cons_succ]
    rw [e,Nat.add_assoc,← hk a,List.take_length_add_append,List.drop_length_add_append,hk a]
    have:=q74 hk l i x (by simpa using h)
    rw [← this];simp [List.append_assoc]
theorem q50 (hk:∀ x,(enc x).length=k):∀ (l:List α) (i:Nat),(l.flatMap enc).take (i*k)=(l.take i).flatMap enc
  | l,0=>by simp
  | [],i+1=>by simp
  | a::l,i+1=>by
    have e:(i+1)*k=k+i*k:=by rw [Nat.add_mul];omega
    simp only [List.flatMap_cons,List.take_succ_cons]
    rw [e,← hk a,List.take_length_add_append,hk a,q50 hk l i]
end
end Go.Proofs.YtegpkpilfgohhaaGreat
namespace Go.Proofs.YtegpkpilfgohhaaGreat
open Go.RowKit
set_option maxRecDepth 20000
theorem q2q (l:List (Int × Int)):q0s l=l.flatMap fun p=>[.int .i64 p.1,.int .i64 p.2]:=rfl
theorem q26 (p:Int × Int):(([.int .i64 p.1,.int .i64 p.2]:List Value)).length=2:=rfl
theorem x0q {l:List (Int × Int)} {z:Int} {i:Nat} (hz:z.toNat=i) (h:i<l.length) {K:List Value→Prop} (k:K [.int .i64 (nthP l i).1,.int .i64 (nthP l i).2]):OwnCells (q0s l) (z.toNat * 2) 2 K:=by
  rw [hz];exact q64 q26 (q1h h) K k
theorem x30 {l:List (Int × Int)} {z:Int} {i:Nat} {p:Int × Int} (hz:z.toNat=i) (h:l[i]? = some p) {K:List Value→Prop} (k:K [.int .i64 p.1,.int .i64 p.2]):OwnCells (q0s l) (z.toNat * 2) 2 K:=by
  rw [hz];exact q64 q26 h K k
theorem q6a {l:List (Int × Int)} {z:Int} {i:Nat} (hz:z.toNat=i) (h:i<l.length) {K:List Value→Prop} (k:K [.int .i64 (nthP l i).1,.int .i64 (nthP l i).2]):OwnCells (q0s l) (0+z.toNat * 2) 2 K:=by
  rw [hz,Nat.zero_add];exact q64 q26 (q1h h) K k
section
variable {G:Mem} {A:Option Addr} {n q:Nat} {cl:Bool} {P:Nat→Int × Int}
abbrev z1q (A:Option Addr) (n q:Nat) (cl:Bool):AV:=.agg [.val (.slice A n q),.val (.bool cl)]
set_option maxHeartbeats 16000000 in
theorem z82 (h:ElsM G A 2 n fun i=>[.int .i64 (P i).1,.int .i64 (P i).2]) (hn:n≤2000000) :
    q57 Tryz.prog 52 [z1q A n q cl] G id 95 2 (q0v P n cl).length (q0s (q0v P n cl)):=by
  refine z54 tab_ok Tryz.func52 (by kernel_rfl) ?_
  (repeat ((try (conv=>whnf));(refine stQ ?_)))
  conv=>whnf
  refine q07 tab_ok (fun i=>i≤n) (fun (i:Nat)=>[(10,.val (.int .i64 i)),(3,.own 1)]) (fun i=>[.cells 37 [.val (.slice A n q),.val (.bool cl)],.own 95 2 (dedK P i).length (q0s (dedK P i))]) (fun i=>n-i) 0 (Nat.zero_le _) ?_ ?_
  · refine q15 95 2 ?_
    conv=>whnf
    ((refine q0g ?_);(conv=>whnf);(refine q0h (by rfl) (by rfl) flQ ?_))
    exact q0c (by exact flQ) (q0d rfl rfl q0e)
  · rintro i hi
    rcases Nat.lt_or_ge i n with h1 |h1
    · obtain ⟨p,rfl,ca⟩:=h.cells h1
      have hdl:=q44 P i
      have hstep:dedK P (i+1)=if i=0∨¬ P i=P (i-1) then dedK P i++[P i] else dedK P i:=rfl
      rcases Nat.eq_zero_or_pos i with e |e
      · subst e
        rw [if_pos (.inl rfl)] at hstep
        (repeat ((try (conv=>whnf));(first |(refine ca _ ?_) |(refine stQ ?_))))
        conv=>whnf
        refine ⟨1,by omega,by omega,?_⟩
        rw [hstep]
        refine q0k 5 1 rfl rfl rfl rfl ?_
        conv=>whnf
        ((refine q0g ?_);(conv=>whnf);(refine q0h (by rfl) (by rfl) flQ ?_))
        exact q0c (by exact flQ) (q0d (by simp [dedK]) (by rw [q03];rfl) q0e)
      · obtain ⟨j,rfl⟩:∃ j,i=j+1:=⟨i-1,by omega⟩
        obtain ⟨hl1,hl2⟩:=z2s P j
        have hlast:=z0s hl1
        by_cases hx:P (j+1)=P j
        · rw [if_neg (by simp [hx])] at hstep
          have hx1:(P (j+1)).1=(P j).1:=by rw [hx]
          have hx2:(P (j+1)).2=(P j).2:=by rw [hx]
          (repeat ((try (conv=>whnf));(first |(refine ca _ ?_) |(refine x30 (i:=(dedK P (j+1)).length-1) (by omega) hl1 ?_) |(refine stQ ?_))))
          conv=>whnf
          refine ⟨j+1+1,by omega,by omega,?_⟩
          rw [hstep]
          ((refine q0g ?_);(conv=>whnf);(refine q0h (by rfl) (by rfl) flQ ?_))
          exact q0c (by exact flQ) (q0d rfl rfl q0e)
        · rw [if_pos (.inr (by simpa using hx))] at hstep
          by_cases hx1:(P (j+1)).1=(P j).1
          · have hx2:¬ (P (j+1)).2=(P j).2:=fun e=>hx (Prod.ext hx1 e)
            (repeat ((try (conv=>whnf));(first |(refine ca _ ?_) |(refine x30 (i:=(dedK P (j+1)).length-1) (by omega) hl1 ?_) |(refine stQ ?_))))
            conv=>whnf
            refine ⟨j+1+1,by omega,by omega,?_⟩
            rw [hstep]
            refine q0k 5 1 rfl rfl rfl rfl ?_
            conv=>whnf
            ((refine q0g ?_);(conv=>whnf);(refine q0h (by rfl) (by rfl) flQ ?_))
            exact q0c (by exact flQ) (q0d (by simp) (by rw [q03];rfl) q0e)
          · (repeat ((try (conv=>whnf));(first |(refine ca _ ?_) |(refine x30 (i:=(dedK P (j+1)).length-1) (by omega) hl1 ?_) |(refine stQ ?_))))
            conv=>whnf
            refine ⟨j+1+1,by omega,by omega,?_⟩
            rw [hstep]
            refine q0k 5 1 rfl rfl rfl rfl ?_
            conv=>whnf
            ((refine q0g ?_);(conv=>whnf);(refine q0h (by rfl) (by rfl) flQ ?_))
            exact q0c (by exact flQ) (q0d (by simp) (by rw [q03];rfl) q0e)
    · obtain rfl:i=n:=by omega
      (repeat ((try (conv=>whnf));(refine stQ ?_)))
      conv=>whnf
      have hdl:=q44 P i
      unfold q0v
      generalize hD:dedK P i=D at *
      refine q07 tab_ok (fun m=>m≤D.length∧(cl=true→tlN D m=tlN D D.length)∧(cl=false→m=D.length)) (fun (m:Nat)=>[(3,.vw 1 0 m)]) (fun m=>[.cells 37 [.val (.slice A i q),.val (.bool cl)],.own 95 2 D.length (q0s D)]) (fun m=>m) D.length ⟨Nat.le_refl _,fun _=>rfl,fun _=>rfl⟩ ?_ ?_
      · refine z8e 3 rfl rfl ?_
        conv=>whnf
        ((refine q0g ?_);(conv=>whnf);(refine q0h (by rfl) (by rfl) flQ ?_))
        exact q0c (by exact flQ) (q0d rfl rfl q0e)
      · rintro m ⟨hm1,hm2,hm3⟩
        cases cl
        · obtain rfl:=hm3 rfl
          (repeat ((try (conv=>whnf));(refine stQ ?_)))
          conv=>whnf
          refine ⟨1,D.length,q0s D,rfl,rfl,Nat.le_refl _,?_⟩
          rw [if_neg (by simp),← q5m,List.take_length]
        · have ht:=hm2 rfl
          have hfin:tlN D m=m→(if true=true then D.take (tlN D D.length) else D)=D.take m:=fun e=>by rw [if_pos rfl,← ht,e]
          rcases Nat.lt_or_ge 1 m with h2 |h2
          · by_cases hx:nthP D 0=nthP D (m-1)
            · have hx1:(nthP D 0).1=(nthP D (m-1)).1:=by rw [hx]
              have hx2:(nthP D 0).2=(nthP D (m-1)).2:=by rw [hx]
              have hgo:=x5g h2 hx
              (repeat ((try (conv=>whnf));(first |(refine q6a (i:=0) rfl (by omega) ?_) |(refine q6a (i:=m-1) (by omega) (by omega) ?_) |(refine stQ ?_))))
              conv=>whnf
              refine ⟨m-1,⟨by omega,fun _=>hgo ▸ ht,fun e=>by cases e⟩,by omega,?_⟩
              refine x0p 3 (.vw 1 0 (m-1)) rfl (by show AV.vw 1 (0+0) (((m:Int)-1).toNat-0)=_;congr 1;omega) ?_
              conv=>whnf
              ((refine q0g ?_);(conv=>whnf);(refine q0h (by rfl) (by rfl) flQ ?_))
              exact q0c (by exact flQ) (q0d rfl rfl q0e)
            · have hst:=hfin (z1l (.inr hx))
              by_cases hx1:(nthP D 0).1=(nthP D (m-1)).1
              · have hx2:¬ (nthP D 0).2=(nthP D (m-1)).2:=fun e=>hx (Prod.ext hx1 e)
                (repeat ((try (conv=>whnf));(first |(refine q6a (i:=0) rfl (by omega) ?_) |(refine q6a (i:=m-1) (by omega) (by omega) ?_) |(refine stQ ?_))))
                conv=>whnf
                rw [hst]
                have hlm:(D.take m).length=m:=by rw [List.length_take];omega
                refine ⟨1,D.length,q0s D,by rw [hlm],rfl,by omega,?_⟩
                rw [hlm,q2q,q2q,q50 q26]
              · (repeat ((try (conv=>whnf));(first |(refine q6a (i:=0) rfl (by omega) ?_) |(refine q6a (i:=m-1) (by omega) (by omega) ?_) |(refine stQ ?_))))
                conv=>whnf
                rw [hst]
                have hlm:(D.take m).length=m:=by rw [List.length_take];omega
                refine ⟨1,D.length,q0s D,by rw [hlm],rfl,by omega,?_⟩
                rw [hlm,q2q,q2q,q50 q26]
          · have hst:=hfin (z1l (.inl h2))
            (repeat ((try (conv=>whnf));(refine stQ ?_)))
            conv=>whnf
            rw [hst]
            have hlm:(D.take m).length=m:=by rw [List.length_take];omega
            refine ⟨1,D.length,q0s D,by rw [hlm],rfl,by omega,?_⟩
            rw [hlm,q2q,q2q,q50 q26]
set_option maxHeartbeats 16000000 in
theorem x14 (h:ElsM G A 2 n fun i=>[.int .i64 (P i).1,.int .i64 (P i).2]) (hn:n≤2000000) :
    q57 Tryz.prog 26 [z1q A n q cl] G id 43 2 (q0v P n cl).length (q0s (q0v P n cl)):=by
  refine z54 tab_ok Tryz.func26 (by kernel_rfl) ?_
  (repeat ((try (conv=>whnf));(refine stQ ?_)))
  conv=>whnf
  refine q07 tab_ok (fun i=>i≤n) (fun (i:Nat)=>[(8,.val (.int .i64 i)),(3,.own 1)]) (fun i=>[.cells 37 [.val (.slice A n q),.val (.bool cl)],.own 43 2 (dedK P i).length (q0s (dedK P i))]) (fun i=>n-i) 0 (Nat.zero_le _) ?_ ?_
  · refine q15 43 2 ?_
    conv=>whnf
    ((refine q0g ?_);(conv=>whnf);(refine q0h (by rfl) (by rfl) flQ ?_))
    exact q0c (by exact flQ) (q0d rfl rfl q0e)
  · rintro i hi
    rcases Nat.lt_or_ge i n with h1 |h1
    · obtain ⟨p,rfl,ca⟩:=h.cells h1
      have hdl:=q44 P i
      have hstep:dedK P (i+1)=if i=0∨¬ P i=P (i-1) then dedK P i++[P i] else dedK P i:=rfl
      rcases Nat.eq_zero_or_pos i with e |e
      · subst e
        rw [if_pos (.inl rfl)] at hstep
        (repeat ((try (conv=>whnf));(first |(refine ca _ ?_) |(refine stQ ?_))))
        conv=>whnf
        refine ⟨1,by omega,by omega,?_⟩
        rw [hstep]
        refine q0k 3 1 rfl rfl rfl rfl ?_
        conv=>whnf
        ((refine q0g ?_);(conv=>whnf);(refine q0h (by rfl) (by rfl) flQ ?_))
        exact q0c (by exact flQ) (q0d (by simp [dedK]) (by rw [q03];rfl) q0e)
      · obtain ⟨j,rfl⟩:∃ j,i=j+1:=⟨i-1,by omega⟩
        obtain ⟨p',hp',cb'⟩:=h.cells (show j<n by omega)
        cases hp'
        have cb:∀ K:List Value→Prop,K [.int .i64 (P j).1,.int .i64 (P j).2]→OldCells G (p.add ((((j+1:Nat):Int)-1).toNat * 2)) 2 K:=fun K k=>by rw [show (((j+1:Nat):Int)-1).toNat=j by omega];exact cb' K k
        by_cases hx:P (j+1)=P j
        · rw [if_neg (by simp [hx])] at hstep
          have hx1:(P (j+1)).1=(P j).1:=by rw [hx]
          have hx2:(P (j+1)).2=(P j).2:=by rw [hx]
          (repeat ((try (conv=>whnf));(first |(refine ca _ ?_) |(refine cb _ ?_) |(refine stQ ?_))))
          conv=>whnf
          refine ⟨j+1+1,by omega,by omega,?_⟩
          rw [hstep]
          ((refine q0g ?_);(conv=>whnf);(refine q0h (by rfl) (by rfl) flQ ?_))
          exact q0c (by exact flQ) (q0d rfl rfl q0e)
        · rw [if_pos (.inr (by simpa using hx))] at hstep
          by_cases hx1:(P (j+1)).1=(P j).1
          · have hx2:¬ (P (j+1)).2=(P j).2:=fun e=>hx (Prod.ext hx1 e)
            (repeat ((try (conv=>whnf));(first |(refine ca _ ?_) |(refine cb _ ?_) |(refine stQ ?_))))
            conv=>whnf
            refine ⟨j+1+1,by omega,by omega,?_⟩
            rw [hstep]
            refine q0k 3 1 rfl rfl rfl rfl ?_
            conv=>whnf
            ((refine q0g ?_);(conv=>whnf);(refine q0h (by rfl) (by rfl) flQ ?_))
            exact q0c (by exact flQ) (q0d (by simp) (by rw [q03];rfl) q0e)
          · (repeat ((try (conv=>whnf));(first |(refine ca _ ?_) |(refine cb _ ?_) |(refine stQ ?_))))
            conv=>whnf
            refine ⟨j+1+1,by omega,by omega,?_⟩
            rw [hstep]
            refine q0k 3 1 rfl rfl rfl rfl ?_
            conv=>whnf
            ((refine q0g ?_);(conv=>whnf);(refine q0h (by rfl) (by rfl) flQ ?_))
            exact q0c (by exact flQ) (q0d (by simp) (by rw [q03];rfl) q0e)
    · obtain rfl:i=n:=by omega
      (repeat ((try (conv=>whnf));(refine stQ ?_)))
      conv=>whnf
      have hdl:=q44 P i
      unfold q0v
      generalize hD:dedK P i=D at *
      refine q07 tab_ok (fun m=>m≤D.length∧(cl=true→tlN D m=tlN D D.length)∧(cl=false→m=D.length)) (fun (m:Nat)=>[(3,.vw 1 0 m)]) (fun m=>[.cells 37 [.val (.slice A i q),.val (.bool cl)],.own 43 2 D.length (q0s D)]) (fun m=>m) D.length ⟨Nat.le_refl _,fun _=>rfl,fun _=>rfl⟩ ?_ ?_
      · refine z8e 3 rfl rfl ?_
        conv=>whnf
        ((refine q0g ?_);(conv=>whnf);(refine q0h (by rfl) (by rfl) flQ ?_))
        exact q0c (by exact flQ) (q0d rfl rfl q0e)
      · rintro m ⟨hm1,hm2,hm3⟩
        cases cl
        · obtain rfl:=hm3 rfl
          (repeat ((try (conv=>whnf));(refine stQ ?_)))
          conv=>whnf
          refine ⟨1,D.length,q0s D,rfl,rfl,Nat.le_refl _,?_⟩
          rw [if_neg (by simp),← q5m,List.take_length]
        · have ht:=hm2 rfl
          have hfin:tlN D m=m→(if true=true then D.take (tlN D D.length) else D)=D.take m:=fun e=>by rw [if_pos rfl,← ht,e]
          rcases Nat.lt_or_ge 1 m with h2 |h2
          · by_cases hx:nthP D 0=nthP D (m-1)
            · have hx1:(nthP D (m-1)).1=(nthP D 0).1:=by rw [hx]
              have hx2:(nthP D (m-1)).2=(nthP D 0).2:=by rw [hx]
              have hgo:=x5g h2 hx
              (repeat ((try (conv=>whnf));(first |(refine q6a (i:=0) rfl (by omega) ?_) |(refine q6a (i:=m-1) (by omega) (by omega) ?_) |(refine stQ ?_))))
              conv=>whnf
              refine ⟨m-1,⟨by omega,fun _=>hgo ▸ ht,fun e=>by cases e⟩,by omega,?_⟩
              refine x0p 3 (.vw 1 0 (m-1)) rfl (by show AV.vw 1 (0+0) (((m:Int)-1).toNat-0)=_;congr 1;omega) ?_
              conv=>whnf
              ((refine q0g ?_);(conv=>whnf);(refine q0h (by rfl) (by rfl) flQ ?_))
              exact q0c (by exact flQ) (q0d rfl rfl q0e)
            · have hst:=hfin (z1l (.inr hx))
              by_cases hx1:(nthP D (m-1)).1=(nthP D 0).1
              · have hx2:¬ (nthP D (m-1)).2=(nthP D 0).2:=fun e=>hx (Prod.ext hx1.symm e.symm)
                (repeat ((try (conv=>whnf));(first |(refine q6a (i:=0) rfl (by omega) ?_) |(refine q6a (i:=m-1) (by omega) (by omega) ?_) |(refine stQ ?_))))
                conv=>whnf
                rw [hst]
                have hlm:(D.take m).length=m:=by rw [List.length_take];omega
                refine ⟨1,D.length,q0s D,by rw [hlm],rfl,by omega,?_⟩
                rw [hlm,q2q,q2q,q50 q26]
              · (repeat ((try (conv=>whnf));(first |(refine q6a (i:=0) rfl (by omega) ?_) |(refine q6a (i:=m-1) (by omega) (by omega) ?_) |(refine stQ ?_))))
                conv=>whnf
                rw [hst]
                have hlm:(D.take m).length=m:=by rw [List.length_take];omega
                refine ⟨1,D.length,q0s D,by rw [hlm],rfl,by omega,?_⟩
                rw [hlm,q2q,q2q,q50 q26]
          · have hst:=hfin (z1l (.inl h2))
            (repeat ((try (conv=>whnf));(refine stQ ?_)))
            conv=>whnf
            rw [hst]
            have hlm:(D.take m).length=m:=by rw [List.length_take];omega
            refine ⟨1,D.length,q0s D,by rw [hlm],rfl,by omega,?_⟩
            rw [hlm,q2q,q2q,q50 q26]
end
end Go.Proofs.YtegpkpilfgohhaaGreat
