/-
  flat.Pieces of a valid list.
-/
import Derived.Test.YtkicdhaklnmonaaGreatMrg30
import Derived.Test.YtkicdhaklnmonaaGreatMrg31
import Derived.Test.YtkicdhaklnmonaaGreatMrg15
import Derived.Test.YtkicdhaklnmonaaGreatMrg24
import Derived.Test.YtkicdhaklnmonaaGreatMrg18
set_option linter.unusedVariables false
set_option linter.unusedSimpArgs false
set_option linter.unnecessarySimpa false
namespace Go.Proofs.YtkicdhaklnmonaaGreat
open Go.RowKit
set_option maxRecDepth 20000
theorem q54 {P:Program} {t:TypeId} (q:Nat) {op:Op} {fr:List AV} {hp:List Blk} {G:Mem} {K:AV→List Blk→Mem→Prop} {S:Nat→Prop} (hS:nthB hp q=.muts S) (hop:op=.makeMap t none) (kd:IntKind) (m:Nat)
    (h:∀ b G',G b=none→(∀ c,c≠b→G' c=G c)→MapM kd m G' b []→setF hp q (.muts fun c=>S c∨c=b) fun hp'=>K (.val (.map (some b))) hp' G'):OpP P op fr hp G K:=by
  refine ⟨fun o ho=>OpS.of_run fun w0 G0 β a w hr hf=>?_⟩
  have ho:o.op=.makeMap t none:=ho.trans hop
  have hmS:=q3v hS
  have hGn:G w.heap.size=none:=q2k hr.hold (Nat.le_refl _)
  have h0:=h w.heap.size (G.put w.heap.size (.map #[] 0)) hGn (fun c hc=>Mem.put_ne _ _ hc) ⟨by rw [Mem.put_same];rfl,fun e he=>by cases he⟩
  rw [q09] at h0
  have hb:Below w.heap.size w (w.alloc (.map #[] 0)):=(Below.refl _ _).alloc (Nat.le_refl _) _
  have hr1:=hr.newG (Nat.le_refl _) hb (heap_alloc_new w (.map #[] 0))
  have hr2:=hr1.moreS hmS hr.below.size (by have:=(Array.getElem?_eq_some_iff.1 (heap_alloc_new w (.map #[] 0))).1;exact this) (Mem.le.none hr.sub hGn)
  refine ⟨_,.map (some w.heap.size),_,β,_,_,_,?_,.inl rfl,Nm.le_refl _,hr2,by simp only [AV.rel],h0⟩
  simp [execOp,ho,Instr.makeMap,newObj,Sem.run,World.alloc,Result.andThen,-World.alloc_eq]
theorem PageM.mono {I:Nat→ItemD} {f:Nat→SrcF} {F F':Mem} {v:Value} {ms:List Tr} (h:PageM I f F v ms) (hF:F.le F'):PageM I f F' v ms:=by
  obtain ⟨b,hd,A,c,vs,h1,h2,h3,h4,h5,h6,h7,h8⟩:=h
  exact ⟨b,hd,A,c,vs,h1,hF _ _ h2,h3,h4,h5,h6,h7.mono hF,h8.mono hF⟩
theorem v2w {I:Nat→ItemD} {f:Nat→SrcF} {R:Nat→List Run} {n m W y:Nat} {J:Nat→Nat→Int} (hW:0<W) (hJ:J=fun i=>q4i I f R n m ((i%W:Nat):Int) ((i/W:Nat):Int)) :
    (inL W fun (j:Nat)=>rowI m (evL (q0u I f R ((0:Int)+(j:Int)) (y:Int)) false q3g (q7k I n) q3g))=q0q (fun x=>inkC (J (y*W+x))) W:=by
  apply List.ext_getElem?
  intro k
  by_cases hk:k<W*8
  · obtain ⟨i,o,ho,rfl⟩:∃ i o,o<8∧k=i*8+o:=⟨k/8,k%8,by omega,by omega⟩
    have hi:i<W:=by omega
    have e1:(y*W+i)%W=i:=by rw [Nat.add_comm,Nat.add_mul_mod_self_right,Nat.mod_eq_of_lt hi]
    have e2:(y*W+i)/W=y:=by rw [Nat.add_comm,Nat.add_mul_div_right _ _ hW,Nat.div_eq_of_lt hi,Nat.zero_add]
    rw [q9c hi ho,q41 (sz:=8) (fun _ _=>rfl) hi ho,hJ]
    dsimp only
    rw [e1,e2,Int.zero_add]
    unfold q4i
    match o,ho with
    | 0,_=>rfl
    | 1,_=>rfl
    | 2,_=>rfl
    | 3,_=>rfl
    | 4,_=>rfl
    | 5,_=>rfl
    | 6,_=>rfl
    | 7,_=>rfl
  · rw [List.getElem?_eq_none (by rw [q63];omega),List.getElem?_eq_none (by rw [q2l (sz:=8) (fun _ _=>rfl)];omega)]
theorem x13 {J:Nat→Nat→Int} {W y x:Nat} (h:x<W) (K:List Value→Prop) (hK:K [.int .u8 (J (y*W+x) 0),.int .u8 (J (y*W+x) 1),.int .u8 (J (y*W+x) 2),.int .u8 (J (y*W+x) 3),.int .u8 (J (y*W+x) 4),.int .u8 (J (y*W+x) 5),.int .u8 (J (y*W+x) 6),.int .u8 (J (y*W+x) 7)]):OwnCells (q0q (fun x=>inkC (J (y*W+x))) W) (x*8) 8 K :=
  q08 (inkC (J (y*W+x))) rfl (fun j v hj=>by
    have hj8:j<8:=by have:=(List.getElem?_eq_some_iff.1 hj).1;exact this
    rw [q41 (sz:=8) (fun _ _=>rfl) h hj8];exact hj) hK
theorem q19 {P:Program} {f:FuncId} (hen:∀ vs w,(callFunc f vs).run P w=.ok (.enter f vs) w) (m:Nat) {α:Type} (c:α→List Value) {Q:α→Mem→Prop} {S:Nat→Prop} {F:Mem} {R:Value→Mem→Prop} {args:List AV} {hp:List Blk} {G:Mem} {K:AV→List Blk→Mem→Prop} (hS:nthB hp m=.muts S) (hu:AV.unders 0 args=true) (hF:F.le G) (hd:∀ b,S b→F b=none)
    (hc:GivesM P f args F R) (hR:∀ y F',R y F'→∃ x,y=.agg (c x).toArray∧Q x F') (h:∀ x F' G',F.le F'→F'.le G'→G.le G'→(∀ b,S b→F' b=none)→(∀ b,S b→G' b=G b)→Q x F'→K (.agg ((c x).map .val)) hp G'):CallP P f args hp G K:=by
  have hmS:=q3v hS
  refine ⟨hen,fun w0 G0 β w vs hr ha=>(hc w vs (fun b o hb=>hr.hold b o (hF b o hb)) (q2r hu ha)).mono ?_⟩
  rintro e w' ⟨y,F',rfl,h3,hle,hh,hg,hR1⟩
  obtain ⟨hr',hF'⟩:=hr.over h3 hF hh hg
  obtain ⟨x,rfl,hQ⟩:=hR y F' hR1
  have hSF:∀ b,S b→F' b=none:=fun b hb=>by
    cases e:F' b with
    | none=>rfl
    | some o =>
      rcases hg b o e with h6 |h6
      · rw [hd b hb] at h6;cases h6
      · have:=(hr.wrt m S hmS b hb).2.1;omega
  refine ⟨_,β,.agg ((c x).map .val),hp,_,rfl,Nm.le_refl _,hr',?_,h x F' _ hle hF' (Mem.le_over _ _) hSF (fun b hb=>?_) hQ⟩
  · simp only [AV.rel]
    exact ⟨_,rfl,AV.rels_vals (c x)⟩
  unfold Mem.over
  cases hG:G b with
  | none=>exact hSF b hb
  | some q=>rfl
theorem z05 {G G1:Mem} {b:Nat} (hb:G b=none) (h:∀ c,c≠b→G1 c=G c):G.le G1:=fun c o hc=>by
  rw [h c (fun e=>by rw [e,hb] at hc;cases hc)];exact hc
theorem q9v {G:Mem} {b:Nat} (hb:G b=none):∀ c,(False∨c=b)→G c=none:=fun c hc=>hc.elim False.elim (fun e=>by rw [e];exact hb)
theorem gatA {F' G1 G':Mem} {E:TypeId} {bm:Nat} (h2:F'.le G') (h4:∀ b,(False∨b=bm)→F' b=none) (h5:∀ b,(False∨b=bm)→G' b=G1 b) (hM:MapM .u8 8 G1 bm []):GatM F' E bm (fun c=>False∨c=bm) G' [] (fun _=>.slice none 0 0) :=
  ⟨h2,fun k p hk=>by simp at hk,fun k l b hk=>by simp at hk,fun k b hk=>by simp at hk,hM.of (h5 bm (.inr rfl)),.inr rfl,h4 bm (.inr rfl)⟩
theorem gatB {F' G1 G':Mem} {E:TypeId} {bm:Nat} (h2:F'.le G') (hb:G' bm=none) (h:∀ c,c≠bm→G1 c=G' c) (hM:MapM .u8 8 G1 bm []):GatM F' E bm (fun c=>False∨c=bm) G1 [] (fun _=>.slice none 0 0) :=
  ⟨Mem.le_trans h2 (z05 hb h),fun k p hk=>by simp at hk,fun k l b hk=>by simp at hk,fun k b hk=>by simp at hk,hM,.inr rfl,Mem.le.none h2 hb⟩
theorem x14 {n0:Nat} {ops:List Oper} {fr fr0:List AV} {S:List (Nat × AV)} {hp hp':List Blk} {G G':Mem} (h:q7z (q9i ops []) fun ws=>q6f ws 0 fr0 fun f2=>q5g f2 S fun f3=>Le n0 fr hp G f3 hp' G'):Le n0 fr hp G (z0x (z3o (q9i ops []) 0 fr0) S) hp' G':=by
  rwa [q5y,q4z,q39] at h
structure PSt where
  bm:Nat
  pb:Nat
  F:Mem
  st:GSt
set_option maxHeartbeats 16000000 in
theorem x15 {I:Nat→ItemD} {f:Nat→SrcF} {R:Nat→List Run} {G:Mem} {w h W N:Nat} {SA IA:Option Addr} {m sq n iq:Nat} (hC:Gives Tryz.prog 41 [q5o w h SA m sq IA n iq] G (.val (.int .i64 0))) (hI:ItemsM G IA n I) (hn:n≤1000000) (hm:1≤m∧m≤8) (hL:LOk G I f R n)
    (hw:1≤w∧w≤256) (hh:1≤h∧h≤256) (hW:W=16*w) (hN:N=16*h*W) (hN4:N≤4096) :
    MakesX Tryz.prog 24 [q5o w h SA m sq IA n iq] G 35 9 (ofR (fun i=>vecI (q4i I f R n m ((i%W:Nat):Int) ((i/W:Nat):Int))) W N):=by
  have hW0:0<W:=by omega
  have hof:=x5f (W:=(w:Int)) (H:=(h:Int)) (SA:=SA) (m:=m) (sq:=sq) (iq:=iq) hI hn hL
  refine x42 tab_ok Tryz.func24 ?_
  (repeat ((try (conv=>whnf));(first |(refine x5h ?_) |(refine stQ ?_) |(with_reducible first |refine q0e (fun vs w=>by kernel_rfl) (by kernel_rfl) (hC) ?_ |refine q0d (fun vs w=>by kernel_rfl) (by kernel_rfl) (hC) ?_))))
  refine ⟨?_⟩
  refine x7w (n0:=2) rfl (ι:=PSt) (fun s=>G.le s.F∧GatM s.F 78 s.bm s.st.S s.st.M [] s.st.B∧PageM I f s.F (ptrV s.pb) (q7k I n)) (fun s=>[(5,.ptr 4 0),(6,.ptr 5 0)])
    (fun s=>[.muts s.st.S,.cells 49 [.val (.int .i64 w),.val (.int .i64 h),.val (.slice SA m sq),.val (.slice IA n iq)],.gone,.gone,.cells 103 [.val (.map (some s.bm)),.val (.slice none 0 0),.val (.slice none 0 0),.val (.bool false)],.cells 94 [.val (ptrV s.pb),.val (.int .i64 m)]])
    (fun s=>s.st.M) ?_ ?_
  · refine x5g tab_ok (by kernel_rfl) (by decide +kernel) ?_
    (repeat ((try (conv=>whnf));(first |(refine And.intro ?_ ?_) |(refine q19 (fun vs w=>by kernel_rfl) 0 (fun pb=>[ptrV pb,.int .i64 m]) (by exact rfl) (by exact rfl) (Mem.le_refl _) (fun b hb=>hb.elim) hof (fun y F' h=>h) fun pb F' G' hF1 hF2 hF3 hF4 hF5 hF6=>?_) |(refine q19 (fun vs w=>by kernel_rfl) 0 (fun pb=>[ptrV pb,.int .i64 m]) (by exact rfl) (by exact rfl) (z05 hbn hG1) (q9v hbn) hof (fun y F' h=>h) fun pb F' G' hF1 hF2 hF3 hF4 hF5 hF6=>?_) |(refine q54 0 (by exact rfl) (by exact rfl) .u8 8 fun bm G1 hbn hG1 hM1=>?_) |(refine stQ ?_) |(with_reducible refine q0i tab_ok Tryz.func36 (fun vs w=>by kernel_rfl) (by rfl) ?_))))
    all_goals (try (repeat ((try (conv=>whnf));(first |(refine And.intro ?_ ?_) |(refine q19 (fun vs w=>by kernel_rfl) 0 (fun pb=>[ptrV pb,.int .i64 m]) (by exact rfl) (by exact rfl) (Mem.le_refl _) (fun b hb=>hb.elim) hof (fun y F' h=>h) fun pb F' G' hF1 hF2 hF3 hF4 hF5 hF6=>?_) |(refine q19 (fun vs w=>by kernel_rfl) 0 (fun pb=>[ptrV pb,.int .i64 m]) (by exact rfl) (by exact rfl) (z05 hbn hG1) (q9v hbn) hof (fun y F' h=>h) fun pb F' G' hF1 hF2 hF3 hF4 hF5 hF6=>?_) |(refine q54 0 (by exact rfl) (by exact rfl) .u8 8 fun bm G1 hbn hG1 hM1=>?_) |(refine stQ ?_) |(with_reducible refine q0i tab_ok Tryz.func36 (fun vs w=>by kernel_rfl) (by rfl) ?_)))))
    all_goals (try (repeat ((try (conv=>whnf));(first |(refine And.intro ?_ ?_) |(refine q19 (fun vs w=>by kernel_rfl) 0 (fun pb=>[ptrV pb,.int .i64 m]) (by exact rfl) (by exact rfl) (Mem.le_refl _) (fun b hb=>hb.elim) hof (fun y F' h=>h) fun pb F' G' hF1 hF2 hF3 hF4 hF5 hF6=>?_) |(refine q19 (fun vs w=>by kernel_rfl) 0 (fun pb=>[ptrV pb,.int .i64 m]) (by exact rfl) (by exact rfl) (z05 hbn hG1) (q9v hbn) hof (fun y F' h=>h) fun pb F' G' hF1 hF2 hF3 hF4 hF5 hF6=>?_) |(refine q54 0 (by exact rfl) (by exact rfl) .u8 8 fun bm G1 hbn hG1 hM1=>?_) |(refine stQ ?_) |(with_reducible refine q0i tab_ok Tryz.func36 (fun vs w=>by kernel_rfl) (by rfl) ?_)))))
    all_goals (try (repeat ((try (conv=>whnf));(first |(refine And.intro ?_ ?_) |(refine q19 (fun vs w=>by kernel_rfl) 0 (fun pb=>[ptrV pb,.int .i64 m]) (by exact rfl) (by exact rfl) (Mem.le_refl _) (fun b hb=>hb.elim) hof (fun y F' h=>h) fun pb F' G' hF1 hF2 hF3 hF4 hF5 hF6=>?_) |(refine q19 (fun vs w=>by kernel_rfl) 0 (fun pb=>[ptrV pb,.int .i64 m]) (by exact rfl) (by exact rfl) (z05 hbn hG1) (q9v hbn) hof (fun y F' h=>h) fun pb F' G' hF1 hF2 hF3 hF4 hF5 hF6=>?_) |(refine q54 0 (by exact rfl) (by exact rfl) .u8 8 fun bm G1 hbn hG1 hM1=>?_) |(refine stQ ?_) |(with_reducible refine q0i tab_ok Tryz.func36 (fun vs w=>by kernel_rfl) (by rfl) ?_)))))
    all_goals (try (repeat ((try (conv=>whnf));(first |(refine And.intro ?_ ?_) |(refine q19 (fun vs w=>by kernel_rfl) 0 (fun pb=>[ptrV pb,.int .i64 m]) (by exact rfl) (by exact rfl) (Mem.le_refl _) (fun b hb=>hb.elim) hof (fun y F' h=>h) fun pb F' G' hF1 hF2 hF3 hF4 hF5 hF6=>?_) |(refine q19 (fun vs w=>by kernel_rfl) 0 (fun pb=>[ptrV pb,.int .i64 m]) (by exact rfl) (by exact rfl) (z05 hbn hG1) (q9v hbn) hof (fun y F' h=>h) fun pb F' G' hF1 hF2 hF3 hF4 hF5 hF6=>?_) |(refine q54 0 (by exact rfl) (by exact rfl) .u8 8 fun bm G1 hbn hG1 hM1=>?_) |(refine stQ ?_) |(with_reducible refine q0i tab_ok Tryz.func36 (fun vs w=>by kernel_rfl) (by rfl) ?_)))))
    all_goals (conv=>whnf)
    all_goals first
      | refine ⟨⟨bm,pb,F',⟨_,_,G'⟩⟩,⟨hF1,gatA hF2 hF4 hF5 hM1,hF6⟩,?_⟩
      | refine ⟨⟨bm,pb,F',⟨_,_,G1⟩⟩,⟨hF1,gatB hF2 hbn hG1 hM1,hF6⟩,?_⟩
    all_goals (conv=>whnf)
    all_goals first
      | (refine z9r 2 rfl ?_;(conv=>whnf);refine z9r 3 rfl ?_;(conv=>whnf);(refine x14 ?_);(conv=>whnf);(refine q0k (by rfl) (by rfl) (by exact flQ) ?_);exact q0y (fun _ h=>h) (q0a (by exact flQ) (q0j (q0j (q0a (by exact flQ) (q0a (by exact flQ) q0f))))))
      | (refine z9r 3 rfl ?_;(conv=>whnf);refine z9r 2 rfl ?_;(conv=>whnf);(refine x14 ?_);(conv=>whnf);(refine q0k (by rfl) (by rfl) (by exact flQ) ?_);exact q0y (fun _ h=>h) (q0a (by exact flQ) (q0j (q0j (q0a (by exact flQ) (q0a (by exact flQ) q0f))))))
  · rintro ⟨bm,pb,F,st⟩ ⟨hF,hg,hP⟩
    dsimp only at hF hg hP ⊢
    conv=>whnf
    (repeat ((try (conv=>whnf));(refine stQ ?_)))
    conv=>whnf
    obtain ⟨J,hJdef⟩:∃ J:Nat→Nat→Int,J=fun i=>q4i I f R n m ((i%W:Nat):Int) ((i/W:Nat):Int):=⟨_,rfl⟩
    have eJ:(fun i=>vecI (q4i I f R n m ((i%W:Nat):Int) ((i/W:Nat):Int)))=fun i=>vecI (J i):=by rw [hJdef]
    rw [eJ]
    have hg0:GatM F 78 bm st.S st.M (gat (fun i=>vecI (J i)) W (0*W)) st.B:=by rw [Nat.zero_mul];simpa [gat] using hg
    refine q43 tab_ok (ι:=Nat × GSt) (fun s=>s.1≤16*h∧GatM F 78 bm s.2.S s.2.M (gat (fun i=>vecI (J i)) W (s.1*W)) s.2.B) (fun s=>match s with |(y,_)=>[(19,.val (.int .i64 y))])
      (fun s=>[.muts s.2.S,.cells 49 [.val (.int .i64 w),.val (.int .i64 h),.val (.slice SA m sq),.val (.slice IA n iq)],.gone,.gone,.cells 103 [.val (.map (some bm)),.own 6,.own 7,.val (.bool false)],.cells 94 [.val (ptrV pb),.val (.int .i64 m)],.own 106 1 (gat (fun i=>vecI (J i)) W (s.1*W)).length (q0q (fun k=>[s.2.B k]) (gat (fun i=>vecI (J i)) W (s.1*W)).length),.own 33 8 (gat (fun i=>vecI (J i)) W (s.1*W)).length (q0q (fun k=>inkC (keyI (gat (fun i=>vecI (J i)) W (s.1*W)) k)) (gat (fun i=>vecI (J i)) W (s.1*W)).length)])
      (fun s=>s.2.M) (fun s=>16*h-s.1) (0,st) ⟨Nat.zero_le _,hg0⟩ ?_ ?_
    · refine q3z 106 1 ?_
      conv=>whnf
      refine q3z 33 8 ?_
      conv=>whnf
      ((refine q0g ?_);(conv=>whnf);(refine q0k (by rfl) (by rfl) flQ ?_))
      exact q0y (fun _ h=>h) (q0a (by exact flQ) (q0j (q0j (q0a (by exact flQ) (q0a (by exact flQ) (q0c (by simp [gat]) (by simp [gat,q0q]) (q0c (by simp [gat]) (by simp [gat,q0q]) q0f)))))))
    · rintro ⟨y,st⟩ ⟨hy,hg⟩
      dsimp only at hy hg ⊢
      rcases Nat.lt_or_ge y (16*h) with h1 |h1
      · have hyW:y*W+W≤N:=by
          rw [hN]
          have:=Nat.mul_le_mul_right W (show y+1≤16*h by omega)
          rw [Nat.add_mul,Nat.one_mul] at this;exact this
        have hP1:PageM I f st.M (ptrV pb) (q7k I n):=hP.mono hg.le
        have hA1:AllL (fun i=>RegOk st.M I R i∧ItOk I f i) (GrOk I) (q7k I n):=AllL.mono (fun i h=>⟨(h.1.mono hF).mono hg.le,h.2⟩) (fun i h=>h) _ hL.all
        have hrow:=x7v (m:=m) (x0:=0) (x1:=16*(w:Int)) (y:=(y:Int)) (n:=W) hP1 hW0 (by omega) (by omega) (by omega) hm hA1
        rw [v2w hW0 hJdef] at hrow
        (repeat ((try (conv=>whnf));(refine stQ ?_)))
        conv=>whnf
        refine z0p (fun vs w=>by kernel_rfl) (.alone fun _=>rfl) (by rfl) hrow ?_
        conv=>whnf
        (repeat ((try (conv=>whnf));(first |(refine stQ ?_) |(with_reducible refine q0i tab_ok Tryz.func37 (fun vs w=>by kernel_rfl) (by rfl) ?_))))
        conv=>whnf
        refine q43 tab_ok (ι:=Nat × GSt) (fun s=>s.1≤W∧GatM F 78 bm s.2.S s.2.M (gat (fun i=>vecI (J i)) W (y*W+s.1)) s.2.B) (fun s=>match s with |(x,_)=>[(6,.val (.int .i64 x))])
          (fun s=>[.muts s.2.S,.cells 49 [.val (.int .i64 w),.val (.int .i64 h),.val (.slice SA m sq),.val (.slice IA n iq)],.gone,.gone,.cells 103 [.val (.map (some bm)),.own 9,.own 10,.val (.bool false)],.cells 94 [.val (ptrV pb),.val (.int .i64 m)],.gone,.gone,.own 33 8 W (q0q (fun x=>inkC (J (y*W+x))) W),.own 106 1 (gat (fun i=>vecI (J i)) W (y*W+s.1)).length (q0q (fun k=>[s.2.B k]) (gat (fun i=>vecI (J i)) W (y*W+s.1)).length),.own 33 8 (gat (fun i=>vecI (J i)) W (y*W+s.1)).length (q0q (fun k=>inkC (keyI (gat (fun i=>vecI (J i)) W (y*W+s.1)) k)) (gat (fun i=>vecI (J i)) W (y*W+s.1)).length)])
          (fun s=>s.2.M) (fun s=>W-s.1) (0,st) ⟨Nat.zero_le _,hg⟩ ?_ ?_
        · refine x7x 6 rfl ?_
          conv=>whnf
          refine x7x 7 rfl ?_
          conv=>whnf
          ((refine q0g ?_);(conv=>whnf);(refine q0k (by rfl) (by rfl) flQ ?_))
          exact q0y (fun _ h=>h) (q0a (by exact flQ) (q0j (q0j (q0a (by exact flQ) (q0a (by exact flQ) (q0j (q0j (q0c rfl rfl (q0c rfl rfl (q0c rfl rfl q0f))))))))))
        · rintro ⟨x,st⟩ ⟨hx,hg⟩
          dsimp only at hx hg ⊢
          rcases Nat.lt_or_ge x W with h2 |h2
          · have cx:=x13 (J:=J) (y:=y) h2
            (repeat ((try (conv=>whnf));(refine stQ ?_)))
            conv=>whnf
            refine q0w tab_ok (fun k=>x+1+k≤W∧∀ j,j≤k→vecI (J (y*W+x+j))=vecI (J (y*W+x))) (fun (k:Nat)=>[(7,.val (.int .i64 ((x+1+k:Nat):Int)))]) (fun k=>[.muts st.S,.cells 49 [.val (.int .i64 w),.val (.int .i64 h),.val (.slice SA m sq),.val (.slice IA n iq)],.gone,.gone,.cells 103 [.val (.map (some bm)),.own 9,.own 10,.val (.bool false)],.cells 94 [.val (ptrV pb),.val (.int .i64 m)],.gone,.gone,.own 33 8 W (q0q (fun x=>inkC (J (y*W+x))) W),.own 106 1 (gat (fun i=>vecI (J i)) W (y*W+x)).length (q0q (fun k=>[st.B k]) (gat (fun i=>vecI (J i)) W (y*W+x)).length),.own 33 8 (gat (fun i=>vecI (J i)) W (y*W+x)).length (q0q (fun k=>inkC (keyI (gat (fun i=>vecI (J i)) W (y*W+x)) k)) (gat (fun i=>vecI (J i)) W (y*W+x)).length)]) (fun k=>W-k) 0 ⟨by omega,fun j hj=>by rw [show j=0 by omega];rfl⟩ ?_ ?_
            · ((refine q0g ?_);(conv=>whnf);(refine q0k (by rfl) (by rfl) flQ ?_))
              exact q0y (fun _ h=>h) (q0a (by exact flQ) (q0j (q0j (q0a (by exact flQ) (q0a (by exact flQ) (q0j (q0j (q0c rfl rfl (q0c rfl rfl (q0c rfl rfl q0f))))))))))
            · rintro k ⟨hk,hl⟩
              have hxl:y*W+x<N:=by omega
              have hg3:=z54 (fun i=>vecI (J i)) hW0 (y*W+x)
              have e3:(y*W+x)/W=y:=by rw [Nat.add_comm,Nat.add_mul_div_right _ _ hW0,Nat.div_eq_of_lt h2,Nat.zero_add]
              have e4:(y*W+x)%W=x:=by rw [Nat.add_comm,Nat.add_mul_mod_self_right,Nat.mod_eq_of_lt h2]
              rw [e3,e4] at hg3
              have hnext:gadd (gat (fun i=>vecI (J i)) W (y*W+x)) (vecI (J (y*W+x))) y x ((x+1+k:Nat):Int)=gat (fun i=>vecI (J i)) W (y*W+(x+1+k)):=by
                have h:=x3t (c:=fun i=>vecI (J i)) hW0 (i:=y*W+x) k hl (by rw [e4];omega)
                rw [e3,e4,show y*W+x+(k+1)=y*W+(x+1+k) by omega] at h
                rw [show ((x+1+k:Nat):Int)=(x:Int)+((k+1:Nat):Int) by omega]
                exact h
              rcases Nat.lt_or_ge (x+1+k) W with h3 |h3
              · have ce:=x13 (J:=J) (y:=y) h3
                by_cases hs:q3q (J (y*W+(x+1+k))) (J (y*W+x))
                · have hs':=hs
                  unfold q3q at hs
                  (repeat ((try (conv=>whnf));(first |(refine ce _ ?_) |(refine cx _ ?_) |(refine stQ ?_))))
                  conv=>whnf
                  refine ⟨k+1,⟨by omega,fun j hj=>?_⟩,by omega,?_⟩
                  · rcases Nat.lt_or_ge j (k+1) with h5 |h5
                    · exact hl j (by omega)
                    · rw [show j=k+1 by omega,show y*W+x+(k+1)=y*W+(x+1+k) by omega]
                      exact vecI_same.2 hs'
                  · ((refine q0g ?_);(conv=>whnf);(refine q0k (by rfl) (by rfl) flQ ?_))
                    exact q0y (fun _ h=>h) (q0a (by exact flQ) (q0j (q0j (q0a (by exact flQ) (q0a (by exact flQ) (q0j (q0j (q0c rfl rfl (q0c rfl rfl (q0c rfl rfl q0f))))))))))
                · have hns:=z8t hs
                  clear hs
                  generalize hJ:J (y*W+x)=I at *
                  generalize hgs:gat (fun i=>vecI (J i)) W (y*W+x)=gs at *
                  have hfew:=hg3.few
                  by_cases hz:q3j I
                  · have ea:gadd gs (vecI I) y x ((x+1+k:Nat):Int)=gs:=by unfold gadd;rw [if_pos (vecI_zero.2 hz)]
                    unfold q3j at hz
                    (repeat ((try (conv=>whnf));(first |(refine ce _ ?_) |(with_reducible refine q1l hns ?_) |(refine cx _ ?_) |(refine stQ ?_) |(with_reducible first |refine q0i tab_ok Tryz.func51 (fun vs w=>by kernel_rfl) (by rfl) ?_ |refine q0i tab_ok Tryz.func73 (fun vs w=>by kernel_rfl) (by rfl) ?_))))
                    conv=>whnf
                    refine ⟨(x+1+k,st),⟨by omega,by dsimp only;rw [← hnext,ea];exact hg⟩,by dsimp only;omega,?_⟩
                    dsimp only
                    rw [← hnext,ea]
                    ((refine q0g ?_);(conv=>whnf);(refine q0k (by rfl) (by rfl) flQ ?_))
                    exact q0y (fun _ h=>h) (q0a (by exact flQ) (q0j (q0j (q0a (by exact flQ) (q0a (by exact flQ) (q0j (q0j (q0c rfl rfl (q0c rfl rfl (q0c rfl rfl q0f))))))))))
                  · have hnz:=z0b hz
                    by_cases hq:gidx (vecI I) gs<gs.length
                    · obtain ⟨L,hL⟩:=z3x hq
                      have ea:gadd gs (vecI I) y x ((x+1+k:Nat):Int)=gs.set (gidx (vecI I) gs) (vecI I,addR L y x ((x+1+k:Nat):Int)):=by unfold gadd;rw [if_neg (fun h=>hz (vecI_zero.1 h)),z1u hL]
                      have hv:=q9o 0 gs (vecI I)
                      rw [if_pos hq,Nat.zero_add] at hv
                      generalize gidx (vecI I) gs=q at *
                      have hr:=hg.rows q _ hL
                      have hLn:=(hg3.keys _ (List.mem_of_getElem? hL)).2
                      rcases q36 L with rfl |⟨K,r,rfl⟩
                      · exact absurd rfl hLn
                      have hKl:=(hg3.runs _ (List.mem_of_getElem? hL)).1
                      obtain ⟨g,cg,hB,hcg,hcm,hSg,m0,m2⟩:=hr.last
                      have hr1:RowS st.S st.M 78 3 (.slice (some ⟨g,0,none⟩) (K.length+1) cg) (K.length+1) (q0r (K++[r])):=by
                        rw [← hB];simpa using hr
                      have hpq:=z00 (B:=st.B) hq
                      rw [hB] at hpq
                      have hzK:((((K.length+1:Nat):Int))-1).toNat=K.length:=by omega
                      rw [← hzK] at m0 m2
                      have hKl2:K.length+1≤y*W+x:=by simpa using hKl
                      by_cases hj:r.y=y∧(x:Int)≤r.x1
                      · rw [q2g (by omega) hj.1 hj.2] at ea
                        (repeat ((try (conv=>whnf));(first |(refine ce _ ?_) |(with_reducible refine q1l hns ?_) |(refine cx _ ?_) |(with_reducible refine q1l hnz ?_) |(refine q48 q2y q2i q31 hg.map (q2j I) rfl hv ?_) |(refine q0l _ hpq ?_) |(refine q0b _ m0 ?_) |(refine q0b _ m2 ?_) |(refine stQ ?_) |(with_reducible first |refine q0i tab_ok Tryz.func51 (fun vs w=>by kernel_rfl) (by rfl) ?_ |refine q0i tab_ok Tryz.func73 (fun vs w=>by kernel_rfl) (by rfl) ?_))))
                        conv=>whnf
                        have hx:AV.val (.pointer (some (Addr.add (Addr.add ⟨g,0,none⟩ (((((K.length+1:Nat):Int))-1).toNat * 3)) 2)))=.val (.pointer (some ⟨g,0+((((K.length+1:Nat):Int))-1).toNat * 3+2,none⟩)):=by rw [q0m,q0m]
                        refine z6c tab_ok 0 (by exact rfl) (Eq.trans (by exact rfl) hx) ?_
                        conv=>whnf
                        refine ⟨78,3,K.length+1,cg,q0r (K++[r]),hr1,by rw [q1h,List.length_append];show (0+((((K.length+1:Nat):Int))-1).toNat * 3+2)+1≤(K.length+1)*3;omega,fun M2 hM2 hr2=>?_⟩
                        have hr4:RowS st.S M2 78 3 (.slice (some ⟨g,0,none⟩) (K.length+1) cg) (K.length+1) ((q0r (K++[r])).take (0+((((K.length+1:Nat):Int))-1).toNat * 3+2)++[.int .i64 (max r.x1 ((x+1+k:Nat):Int))]++(q0r (K++[r])).drop (0+((((K.length+1:Nat):Int))-1).toNat * 3+2+1)):=hr2
                        rw [hzK,Nat.zero_add,z85] at hr4
                        have hr3:RowS st.S M2 78 3 (st.B q) (K++([⟨(y:Int),r.x0,max r.x1 ((x+1+k:Nat):Int)⟩]:List Run)).length (q0r (K++([⟨(y:Int),r.x0,max r.x1 ((x+1+k:Nat):Int)⟩]:List Run))):=by
                          rw [← hj.1,hB,List.length_append]
                          exact hr4
                        have hg4:=hg.put hL (by rw [hB];rfl) hM2 hr3
                        conv=>whnf
                        (repeat ((try (conv=>whnf));(refine stQ ?_)))
                        conv=>whnf
                        refine ⟨(x+1+k,⟨st.S,st.B,M2⟩),⟨by omega,by dsimp only;rw [← hnext,ea];exact hg4⟩,by dsimp only;omega,?_⟩
                        dsimp only
                        rw [← hnext,ea,q7v hL]
                        ((refine q0g ?_);(conv=>whnf);(refine q0k (by rfl) (by rfl) flQ ?_))
                        exact q0y (fun _ h=>h) (q0a (by exact flQ) (q0j (q0j (q0a (by exact flQ) (q0a (by exact flQ) (q0j (q0j (q0c rfl rfl (q0c (by simp) (by simp) (q0c (by simp) (by simp) q0f))))))))))
                      · rw [q3l (by omega) hj] at ea
                        by_cases h5:r.y=y
                        · have h6:¬ (x:Int)≤r.x1:=fun h=>hj ⟨h5,h⟩
                          (repeat ((try (conv=>whnf));(first |(refine ce _ ?_) |(with_reducible refine q1l hns ?_) |(refine cx _ ?_) |(with_reducible refine q1l hnz ?_) |(refine q48 q2y q2i q31 hg.map (q2j I) rfl hv ?_) |(refine q0l _ hpq ?_) |(refine q0b _ m0 ?_) |(refine q0b _ m2 ?_) |(refine stQ ?_) |(with_reducible first |refine q0i tab_ok Tryz.func51 (fun vs w=>by kernel_rfl) (by rfl) ?_ |refine q0i tab_ok Tryz.func73 (fun vs w=>by kernel_rfl) (by rfl) ?_))))
                          conv=>whnf
                          refine q3d tab_ok 0 (by exact rfl) (by exact rfl) ?_
                          conv=>whnf
                          refine ⟨K.length+1,_,hr1,show (K.length+1+1)*24≤140737488355328 by omega,fun v2 S2 M2 hG2 hr2=>?_⟩
                          obtain ⟨A2,c4,rfl,_,_⟩:=hr2.isSl
                          have hg4:=hg.app (r:=⟨(y:Int),(x:Int),((x+1+k:Nat):Int)⟩) hL (by rw [hB];exact hG2) (by rw [q7u,List.length_append];exact hr2)
                          conv=>whnf
                          (repeat ((try (conv=>whnf));(refine stQ ?_)))
                          conv=>whnf
                          refine q9a (q3m hq).1 (q3m hq).2 ?_
                          conv=>whnf
                          (repeat ((try (conv=>whnf));(refine stQ ?_)))
                          conv=>whnf
                          refine ⟨(x+1+k,⟨S2,_,M2⟩),⟨by omega,by dsimp only;rw [← hnext,ea];exact hg4⟩,by dsimp only;omega,?_⟩
                          dsimp only
                          rw [← hnext,ea,q7v hL]
                          ((refine q0g ?_);(conv=>whnf);(refine q0k (by rfl) (by rfl) flQ ?_))
                          exact q0y (fun _ h=>h) (q0a (by exact flQ) (q0j (q0j (q0a (by exact flQ) (q0a (by exact flQ) (q0j (q0j (q0c rfl rfl (q0c (by simp) (by simp) (q0c (by simp) (by simp) q0f))))))))))
                        · skip
                          (repeat ((try (conv=>whnf));(first |(refine ce _ ?_) |(with_reducible refine q1l hns ?_) |(refine cx _ ?_) |(with_reducible refine q1l hnz ?_) |(refine q48 q2y q2i q31 hg.map (q2j I) rfl hv ?_) |(refine q0l _ hpq ?_) |(refine q0b _ m0 ?_) |(refine q0b _ m2 ?_) |(refine stQ ?_) |(with_reducible first |refine q0i tab_ok Tryz.func51 (fun vs w=>by kernel_rfl) (by rfl) ?_ |refine q0i tab_ok Tryz.func73 (fun vs w=>by kernel_rfl) (by rfl) ?_))))
                          conv=>whnf
                          refine q3d tab_ok 0 (by exact rfl) (by exact rfl) ?_
                          conv=>whnf
                          refine ⟨K.length+1,_,hr1,show (K.length+1+1)*24≤140737488355328 by omega,fun v2 S2 M2 hG2 hr2=>?_⟩
                          obtain ⟨A2,c4,rfl,_,_⟩:=hr2.isSl
                          have hg4:=hg.app (r:=⟨(y:Int),(x:Int),((x+1+k:Nat):Int)⟩) hL (by rw [hB];exact hG2) (by rw [q7u,List.length_append];exact hr2)
                          conv=>whnf
                          (repeat ((try (conv=>whnf));(refine stQ ?_)))
                          conv=>whnf
                          refine q9a (q3m hq).1 (q3m hq).2 ?_
                          conv=>whnf
                          (repeat ((try (conv=>whnf));(refine stQ ?_)))
                          conv=>whnf
                          refine ⟨(x+1+k,⟨S2,_,M2⟩),⟨by omega,by dsimp only;rw [← hnext,ea];exact hg4⟩,by dsimp only;omega,?_⟩
                          dsimp only
                          rw [← hnext,ea,q7v hL]
                          ((refine q0g ?_);(conv=>whnf);(refine q0k (by rfl) (by rfl) flQ ?_))
                          exact q0y (fun _ h=>h) (q0a (by exact flQ) (q0j (q0j (q0a (by exact flQ) (q0a (by exact flQ) (q0j (q0j (q0c rfl rfl (q0c (by simp) (by simp) (q0c (by simp) (by simp) q0f))))))))))
                    · have hq2:gidx (vecI I) gs=gs.length:=by have:=z3w (vecI I) gs;omega
                      have ea:gadd gs (vecI I) y x ((x+1+k:Nat):Int)=gs++[(vecI I,[⟨(y:Int),(x:Int),((x+1+k:Nat):Int)⟩])]:=by unfold gadd;rw [if_neg (fun h=>hz (vecI_zero.1 h)),z1v hq2]
                      have hn:=q9o 0 gs (vecI I)
                      rw [if_neg hq] at hn
                      (repeat ((try (conv=>whnf));(first |(refine ce _ ?_) |(with_reducible refine q1l hns ?_) |(refine cx _ ?_) |(with_reducible refine q1l hnz ?_) |(refine q8z q2y q2i q31 hg.map (q2j I) rfl hn ?_) |(refine stQ ?_) |(with_reducible first |refine q0i tab_ok Tryz.func51 (fun vs w=>by kernel_rfl) (by rfl) ?_ |refine q0i tab_ok Tryz.func73 (fun vs w=>by kernel_rfl) (by rfl) ?_))))
                      conv=>whnf
                      refine z4y 0 rfl hg.mapS rfl rfl rfl rfl rfl q2y q2i hg.map (q2j I) hn fun G2 hG2 hM2=>?_
                      have hg4:=hg.key (v:=vecI I) hG2 hM2
                      conv=>whnf
                      (repeat ((try (conv=>whnf));(first |(with_reducible refine z2l tab_ok (by kernel_rfl) 19 [4,9,10] [(5,4),(12,4)] (by decide +kernel) ?_) |(refine stQ ?_))))
                      conv=>whnf
                      obtain ⟨A0,c0,hn0⟩:∃ A0 c0,(Value.slice none 0 0)=.slice A0 0 c0:=⟨none,0,rfl⟩
                      rw [z84]
                      have hpn:(q0q (fun j=>[putV st.B gs.length (.slice none 0 0) j]) (gs.length+1))[gs.length*1+0]? = some (.slice A0 0 c0):=by rw [z00 (by omega),q14,hn0]
                      (repeat ((try (conv=>whnf));(first |(refine q0l _ hpn ?_) |(refine stQ ?_) |(with_reducible refine q0i tab_ok Tryz.func73 (fun vs w=>by kernel_rfl) (by rfl) ?_))))
                      conv=>whnf
                      refine q3d tab_ok 0 (by exact rfl) (by exact rfl) ?_
                      conv=>whnf
                      have hnil:RowS st.S G2 78 3 (.slice A0 0 c0) 0 (q0r []):=by rw [← hn0];exact RowS.nil _ _ _ _
                      refine ⟨0,_,hnil,show (0+1)*24≤140737488355328 by omega,fun v2 S2 M2 hG3 hr2=>?_⟩
                      obtain ⟨A2,c4,rfl,_,_⟩:=hr2.isSl
                      have hLq:(gs++[(vecI I,([]:List Run))])[gs.length]? = some (vecI I,[]):=by simp
                      have hg5:=hg4.app (r:=⟨(y:Int),(x:Int),((x+1+k:Nat):Int)⟩) hLq (by rw [q14,hn0];exact hG3) (by rw [q7u];exact hr2)
                      rw [show (gs++[(vecI I,([]:List Run))]).set gs.length (vecI I,[]++[⟨(y:Int),(x:Int),((x+1+k:Nat):Int)⟩])=gs++[(vecI I,[⟨(y:Int),(x:Int),((x+1+k:Nat):Int)⟩])] by simp] at hg5
                      conv=>whnf
                      (repeat ((try (conv=>whnf));(refine stQ ?_)))
                      conv=>whnf
                      refine q9a (q3m (show gs.length<gs.length+1 by omega)).1 (q3m (show gs.length<gs.length+1 by omega)).2 ?_
                      conv=>whnf
                      (repeat ((try (conv=>whnf));(refine stQ ?_)))
                      conv=>whnf
                      refine ⟨(x+1+k,⟨S2,_,M2⟩),⟨by omega,by dsimp only;rw [← hnext,ea];exact hg5⟩,by dsimp only;omega,?_⟩
                      dsimp only
                      rw [← hnext,ea]
                      refine q1y 13 9 rfl rfl rfl rfl ?_
                      conv=>whnf
                      refine q1y 15 10 rfl rfl rfl rfl ?_
                      conv=>whnf
                      ((refine q0g ?_);(conv=>whnf);(refine q0k (by rfl) (by rfl) flQ ?_))
                      exact q0y (fun _ h=>h) (q0a (by exact flQ) (q0j (q0j (q0a (by exact flQ) (q0a (by exact flQ) (q0j (q0j (q0c rfl rfl (q0c (by simp) (by simp) (q0c (by simp) (by rw [List.length_append];exact x1k rfl) q0f))))))))))
              · have h4:x+1+k=W:=by omega
                generalize hJ:J (y*W+x)=I at *
                generalize hgs:gat (fun i=>vecI (J i)) W (y*W+x)=gs at *
                have hfew:=hg3.few
                by_cases hz:q3j I
                · have ea:gadd gs (vecI I) y x ((x+1+k:Nat):Int)=gs:=by unfold gadd;rw [if_pos (vecI_zero.2 hz)]
                  unfold q3j at hz
                  (repeat ((try (conv=>whnf));(first |(refine cx _ ?_) |(refine stQ ?_) |(with_reducible first |refine q0i tab_ok Tryz.func51 (fun vs w=>by kernel_rfl) (by rfl) ?_ |refine q0i tab_ok Tryz.func73 (fun vs w=>by kernel_rfl) (by rfl) ?_))))
                  conv=>whnf
                  refine ⟨(x+1+k,st),⟨by omega,by dsimp only;rw [← hnext,ea];exact hg⟩,by dsimp only;omega,?_⟩
                  dsimp only
                  rw [← hnext,ea]
                  ((refine q0g ?_);(conv=>whnf);(refine q0k (by rfl) (by rfl) flQ ?_))
                  exact q0y (fun _ h=>h) (q0a (by exact flQ) (q0j (q0j (q0a (by exact flQ) (q0a (by exact flQ) (q0j (q0j (q0c rfl rfl (q0c rfl rfl (q0c rfl rfl q0f))))))))))
                · have hnz:=z0b hz
                  by_cases hq:gidx (vecI I) gs<gs.length
                  · obtain ⟨L,hL⟩:=z3x hq
                    have ea:gadd gs (vecI I) y x ((x+1+k:Nat):Int)=gs.set (gidx (vecI I) gs) (vecI I,addR L y x ((x+1+k:Nat):Int)):=by unfold gadd;rw [if_neg (fun h=>hz (vecI_zero.1 h)),z1u hL]
                    have hv:=q9o 0 gs (vecI I)
                    rw [if_pos hq,Nat.zero_add] at hv
                    generalize gidx (vecI I) gs=q at *
                    have hr:=hg.rows q _ hL
                    have hLn:=(hg3.keys _ (List.mem_of_getElem? hL)).2
                    rcases q36 L with rfl |⟨K,r,rfl⟩
                    · exact absurd rfl hLn
                    have hKl:=(hg3.runs _ (List.mem_of_getElem? hL)).1
                    obtain ⟨g,cg,hB,hcg,hcm,hSg,m0,m2⟩:=hr.last
                    have hr1:RowS st.S st.M 78 3 (.slice (some ⟨g,0,none⟩) (K.length+1) cg) (K.length+1) (q0r (K++[r])):=by
                      rw [← hB];simpa using hr
                    have hpq:=z00 (B:=st.B) hq
                    rw [hB] at hpq
                    have hzK:((((K.length+1:Nat):Int))-1).toNat=K.length:=by omega
                    rw [← hzK] at m0 m2
                    have hKl2:K.length+1≤y*W+x:=by simpa using hKl
                    by_cases hj:r.y=y∧(x:Int)≤r.x1
                    · rw [q2g (by omega) hj.1 hj.2] at ea
                      (repeat ((try (conv=>whnf));(first |(refine cx _ ?_) |(with_reducible refine q1l hnz ?_) |(refine q48 q2y q2i q31 hg.map (q2j I) rfl hv ?_) |(refine q0l _ hpq ?_) |(refine q0b _ m0 ?_) |(refine q0b _ m2 ?_) |(refine stQ ?_) |(with_reducible first |refine q0i tab_ok Tryz.func51 (fun vs w=>by kernel_rfl) (by rfl) ?_ |refine q0i tab_ok Tryz.func73 (fun vs w=>by kernel_rfl) (by rfl) ?_))))
                      conv=>whnf
                      have hx:AV.val (.pointer (some (Addr.add (Addr.add ⟨g,0,none⟩ (((((K.length+1:Nat):Int))-1).toNat * 3)) 2)))=.val (.pointer (some ⟨g,0+((((K.length+1:Nat):Int))-1).toNat * 3+2,none⟩)):=by rw [q0m,q0m]
                      refine z6c tab_ok 0 (by exact rfl) (Eq.trans (by exact rfl) hx) ?_
                      conv=>whnf
                      refine ⟨78,3,K.length+1,cg,q0r (K++[r]),hr1,by rw [q1h,List.length_append];show (0+((((K.length+1:Nat):Int))-1).toNat * 3+2)+1≤(K.length+1)*3;omega,fun M2 hM2 hr2=>?_⟩
                      have hr4:RowS st.S M2 78 3 (.slice (some ⟨g,0,none⟩) (K.length+1) cg) (K.length+1) ((q0r (K++[r])).take (0+((((K.length+1:Nat):Int))-1).toNat * 3+2)++[.int .i64 (max r.x1 ((x+1+k:Nat):Int))]++(q0r (K++[r])).drop (0+((((K.length+1:Nat):Int))-1).toNat * 3+2+1)):=hr2
                      rw [hzK,Nat.zero_add,z85] at hr4
                      have hr3:RowS st.S M2 78 3 (st.B q) (K++([⟨(y:Int),r.x0,max r.x1 ((x+1+k:Nat):Int)⟩]:List Run)).length (q0r (K++([⟨(y:Int),r.x0,max r.x1 ((x+1+k:Nat):Int)⟩]:List Run))):=by
                        rw [← hj.1,hB,List.length_append]
                        exact hr4
                      have hg4:=hg.put hL (by rw [hB];rfl) hM2 hr3
                      conv=>whnf
                      (repeat ((try (conv=>whnf));(refine stQ ?_)))
                      conv=>whnf
                      refine ⟨(x+1+k,⟨st.S,st.B,M2⟩),⟨by omega,by dsimp only;rw [← hnext,ea];exact hg4⟩,by dsimp only;omega,?_⟩
                      dsimp only
                      rw [← hnext,ea,q7v hL]
                      ((refine q0g ?_);(conv=>whnf);(refine q0k (by rfl) (by rfl) flQ ?_))
                      exact q0y (fun _ h=>h) (q0a (by exact flQ) (q0j (q0j (q0a (by exact flQ) (q0a (by exact flQ) (q0j (q0j (q0c rfl rfl (q0c (by simp) (by simp) (q0c (by simp) (by simp) q0f))))))))))
                    · rw [q3l (by omega) hj] at ea
                      by_cases h5:r.y=y
                      · have h6:¬ (x:Int)≤r.x1:=fun h=>hj ⟨h5,h⟩
                        (repeat ((try (conv=>whnf));(first |(refine cx _ ?_) |(with_reducible refine q1l hnz ?_) |(refine q48 q2y q2i q31 hg.map (q2j I) rfl hv ?_) |(refine q0l _ hpq ?_) |(refine q0b _ m0 ?_) |(refine q0b _ m2 ?_) |(refine stQ ?_) |(with_reducible first |refine q0i tab_ok Tryz.func51 (fun vs w=>by kernel_rfl) (by rfl) ?_ |refine q0i tab_ok Tryz.func73 (fun vs w=>by kernel_rfl) (by rfl) ?_))))
                        conv=>whnf
                        refine q3d tab_ok 0 (by exact rfl) (by exact rfl) ?_
                        conv=>whnf
                        refine ⟨K.length+1,_,hr1,show (K.length+1+1)*24≤140737488355328 by omega,fun v2 S2 M2 hG2 hr2=>?_⟩
                        obtain ⟨A2,c4,rfl,_,_⟩:=hr2.isSl
                        have hg4:=hg.app (r:=⟨(y:Int),(x:Int),((x+1+k:Nat):Int)⟩) hL (by rw [hB];exact hG2) (by rw [q7u,List.length_append];exact hr2)
                        conv=>whnf
                        (repeat ((try (conv=>whnf));(refine stQ ?_)))
                        conv=>whnf
                        refine q9a (q3m hq).1 (q3m hq).2 ?_
                        conv=>whnf
                        (repeat ((try (conv=>whnf));(refine stQ ?_)))
                        conv=>whnf
                        refine ⟨(x+1+k,⟨S2,_,M2⟩),⟨by omega,by dsimp only;rw [← hnext,ea];exact hg4⟩,by dsimp only;omega,?_⟩
                        dsimp only
                        rw [← hnext,ea,q7v hL]
                        ((refine q0g ?_);(conv=>whnf);(refine q0k (by rfl) (by rfl) flQ ?_))
                        exact q0y (fun _ h=>h) (q0a (by exact flQ) (q0j (q0j (q0a (by exact flQ) (q0a (by exact flQ) (q0j (q0j (q0c rfl rfl (q0c (by simp) (by simp) (q0c (by simp) (by simp) q0f))))))))))
                      · skip
                        (repeat ((try (conv=>whnf));(first |(refine cx _ ?_) |(with_reducible refine q1l hnz ?_) |(refine q48 q2y q2i q31 hg.map (q2j I) rfl hv ?_) |(refine q0l _ hpq ?_) |(refine q0b _ m0 ?_) |(refine q0b _ m2 ?_) |(refine stQ ?_) |(with_reducible first |refine q0i tab_ok Tryz.func51 (fun vs w=>by kernel_rfl) (by rfl) ?_ |refine q0i tab_ok Tryz.func73 (fun vs w=>by kernel_rfl) (by rfl) ?_))))
                        conv=>whnf
                        refine q3d tab_ok 0 (by exact rfl) (by exact rfl) ?_
                        conv=>whnf
                        refine ⟨K.length+1,_,hr1,show (K.length+1+1)*24≤140737488355328 by omega,fun v2 S2 M2 hG2 hr2=>?_⟩
                        obtain ⟨A2,c4,rfl,_,_⟩:=hr2.isSl
                        have hg4:=hg.app (r:=⟨(y:Int),(x:Int),((x+1+k:Nat):Int)⟩) hL (by rw [hB];exact hG2) (by rw [q7u,List.length_append];exact hr2)
                        conv=>whnf
                        (repeat ((try (conv=>whnf));(refine stQ ?_)))
                        conv=>whnf
                        refine q9a (q3m hq).1 (q3m hq).2 ?_
                        conv=>whnf
                        (repeat ((try (conv=>whnf));(refine stQ ?_)))
                        conv=>whnf
                        refine ⟨(x+1+k,⟨S2,_,M2⟩),⟨by omega,by dsimp only;rw [← hnext,ea];exact hg4⟩,by dsimp only;omega,?_⟩
                        dsimp only
                        rw [← hnext,ea,q7v hL]
                        ((refine q0g ?_);(conv=>whnf);(refine q0k (by rfl) (by rfl) flQ ?_))
                        exact q0y (fun _ h=>h) (q0a (by exact flQ) (q0j (q0j (q0a (by exact flQ) (q0a (by exact flQ) (q0j (q0j (q0c rfl rfl (q0c (by simp) (by simp) (q0c (by simp) (by simp) q0f))))))))))
                  · have hq2:gidx (vecI I) gs=gs.length:=by have:=z3w (vecI I) gs;omega
                    have ea:gadd gs (vecI I) y x ((x+1+k:Nat):Int)=gs++[(vecI I,[⟨(y:Int),(x:Int),((x+1+k:Nat):Int)⟩])]:=by unfold gadd;rw [if_neg (fun h=>hz (vecI_zero.1 h)),z1v hq2]
                    have hn:=q9o 0 gs (vecI I)
                    rw [if_neg hq] at hn
                    (repeat ((try (conv=>whnf));(first |(refine cx _ ?_) |(with_reducible refine q1l hnz ?_) |(refine q8z q2y q2i q31 hg.map (q2j I) rfl hn ?_) |(refine stQ ?_) |(with_reducible first |refine q0i tab_ok Tryz.func51 (fun vs w=>by kernel_rfl) (by rfl) ?_ |refine q0i tab_ok Tryz.func73 (fun vs w=>by kernel_rfl) (by rfl) ?_))))
                    conv=>whnf
                    refine z4y 0 rfl hg.mapS rfl rfl rfl rfl rfl q2y q2i hg.map (q2j I) hn fun G2 hG2 hM2=>?_
                    have hg4:=hg.key (v:=vecI I) hG2 hM2
                    conv=>whnf
                    (repeat ((try (conv=>whnf));(first |(with_reducible refine z2l tab_ok (by kernel_rfl) 19 [4,9,10] [(5,4),(12,4)] (by decide +kernel) ?_) |(refine stQ ?_))))
                    conv=>whnf
                    obtain ⟨A0,c0,hn0⟩:∃ A0 c0,(Value.slice none 0 0)=.slice A0 0 c0:=⟨none,0,rfl⟩
                    rw [z84]
                    have hpn:(q0q (fun j=>[putV st.B gs.length (.slice none 0 0) j]) (gs.length+1))[gs.length*1+0]? = some (.slice A0 0 c0):=by rw [z00 (by omega),q14,hn0]
                    (repeat ((try (conv=>whnf));(first |(refine q0l _ hpn ?_) |(refine stQ ?_) |(with_reducible refine q0i tab_ok Tryz.func73 (fun vs w=>by kernel_rfl) (by rfl) ?_))))
                    conv=>whnf
                    refine q3d tab_ok 0 (by exact rfl) (by exact rfl) ?_
                    conv=>whnf
                    have hnil:RowS st.S G2 78 3 (.slice A0 0 c0) 0 (q0r []):=by rw [← hn0];exact RowS.nil _ _ _ _
                    refine ⟨0,_,hnil,show (0+1)*24≤140737488355328 by omega,fun v2 S2 M2 hG3 hr2=>?_⟩
                    obtain ⟨A2,c4,rfl,_,_⟩:=hr2.isSl
                    have hLq:(gs++[(vecI I,([]:List Run))])[gs.length]? = some (vecI I,[]):=by simp
                    have hg5:=hg4.app (r:=⟨(y:Int),(x:Int),((x+1+k:Nat):Int)⟩) hLq (by rw [q14,hn0];exact hG3) (by rw [q7u];exact hr2)
                    rw [show (gs++[(vecI I,([]:List Run))]).set gs.length (vecI I,[]++[⟨(y:Int),(x:Int),((x+1+k:Nat):Int)⟩])=gs++[(vecI I,[⟨(y:Int),(x:Int),((x+1+k:Nat):Int)⟩])] by simp] at hg5
                    conv=>whnf
                    (repeat ((try (conv=>whnf));(refine stQ ?_)))
                    conv=>whnf
                    refine q9a (q3m (show gs.length<gs.length+1 by omega)).1 (q3m (show gs.length<gs.length+1 by omega)).2 ?_
                    conv=>whnf
                    (repeat ((try (conv=>whnf));(refine stQ ?_)))
                    conv=>whnf
                    refine ⟨(x+1+k,⟨S2,_,M2⟩),⟨by omega,by dsimp only;rw [← hnext,ea];exact hg5⟩,by dsimp only;omega,?_⟩
                    dsimp only
                    rw [← hnext,ea]
                    refine q1y 13 9 rfl rfl rfl rfl ?_
                    conv=>whnf
                    refine q1y 15 10 rfl rfl rfl rfl ?_
                    conv=>whnf
                    ((refine q0g ?_);(conv=>whnf);(refine q0k (by rfl) (by rfl) flQ ?_))
                    exact q0y (fun _ h=>h) (q0a (by exact flQ) (q0j (q0j (q0a (by exact flQ) (q0a (by exact flQ) (q0j (q0j (q0c rfl rfl (q0c (by simp) (by simp) (q0c (by simp) (by rw [List.length_append];exact x1k rfl) q0f))))))))))
          · obtain rfl:x=W:=by omega
            (repeat ((try (conv=>whnf));(refine stQ ?_)))
            conv=>whnf
            have ey:y*x+x=(y+1)*x:=by rw [Nat.add_mul,Nat.one_mul]
            rw [ey] at hg
            refine ⟨(y+1,st),⟨by omega,hg⟩,by dsimp only;omega,?_⟩
            dsimp only
            rw [ey]
            refine q1y 9 6 rfl rfl rfl rfl ?_
            conv=>whnf
            refine q1y 10 7 rfl rfl rfl rfl ?_
            conv=>whnf
            ((refine q0g ?_);(conv=>whnf);(refine q0k (by rfl) (by rfl) flQ ?_))
            exact q0y (fun _ h=>h) (q0a (by exact flQ) (q0j (q0j (q0a (by exact flQ) (q0a (by exact flQ) (q0c rfl rfl (q0c rfl rfl q0f)))))))
      · obtain rfl:y=16*h:=by omega
        rw [← hN] at hg ⊢
        have hgN:=z54 (fun i=>vecI (J i)) hW0 N
        have hfew:=hgN.few
        generalize hgs:gat (fun i=>vecI (J i)) W N=gs at *
        (repeat ((try (conv=>whnf));(first |(refine stQ ?_) |(with_reducible refine q0i tab_ok Tryz.func38 (fun vs w=>by kernel_rfl) (by rfl) ?_))))
        conv=>whnf
        have hp:=fun {k:Nat} (hk:k<gs.length)=>hg.piece (List.getElem?_eq_getElem hk)
        refine q0w tab_ok (fun k=>k≤gs.length) (fun (k:Nat)=>[(16,.val (.int .i64 k)),(4,.own 8)]) (fun k=>[.muts st.S,.cells 49 [.val (.int .i64 w),.val (.int .i64 h),.val (.slice SA m sq),.val (.slice IA n iq)],.gone,.gone,.cells 103 [.val (.map (some bm)),.own 6,.own 7,.val (.bool false)],.cells 94 [.val (ptrV pb),.val (.int .i64 m)],.own 106 1 gs.length (q0q (fun k=>[st.B k]) gs.length),.own 33 8 gs.length (q0q (fun k=>inkC (keyI gs k)) gs.length),.own 35 9 k (q0q (fun k=>pcC (gatP gs st.B k)) k)]) (fun k=>gs.length-k) 0 (Nat.zero_le _) ?_ ?_
        · refine q3z 35 9 ?_
          conv=>whnf
          ((refine q0g ?_);(conv=>whnf);(refine q0k (by rfl) (by rfl) flQ ?_))
          exact q0y (fun _ h=>h) (q0a (by exact flQ) (q0j (q0j (q0a (by exact flQ) (q0a (by exact flQ) (q0c rfl rfl (q0c rfl rfl (q0c rfl rfl q0f))))))))
        · rintro k hk
          rcases Nat.lt_or_ge k gs.length with h1 |h1
          · obtain ⟨q0,q1,q2,q3,q4⟩:=hp h1
            have cI:∀ K:List Value→Prop,K [.int .u8 (keyI gs k 0),.int .u8 (keyI gs k 1),.int .u8 (keyI gs k 2),.int .u8 (keyI gs k 3),.int .u8 (keyI gs k 4),.int .u8 (keyI gs k 5),.int .u8 (keyI gs k 6),.int .u8 (keyI gs k 7)]→OwnCells (q0q (fun k=>inkC (keyI gs k)) gs.length) (k*8) 8 K:=fun K hK=>q08 (inkC (keyI gs k)) rfl (fun j v hj=>by
              rw [q41 (sz:=8) (fun _ _=>rfl) h1 (by have:=(List.getElem?_eq_some_iff.1 hj).1;exact this)];exact hj) hK
            have cB:=z00 (B:=st.B) h1
            rw [q1] at cB
            (repeat ((try (conv=>whnf));(first |(refine cI _ ?_) |(refine q0l _ cB ?_) |(refine stQ ?_))))
            conv=>whnf
            refine ⟨k+1,by omega,by omega,?_⟩
            refine q1y 11 8 rfl rfl rfl rfl ?_
            conv=>whnf
            ((refine q0g ?_);(conv=>whnf);(refine q0k (by rfl) (by rfl) flQ ?_))
            exact q0y (fun _ h=>h) (q0a (by exact flQ) (q0j (q0j (q0a (by exact flQ) (q0a (by exact flQ) (q0c rfl rfl (q0c rfl rfl (q0c rfl (by rw [q0q,pcC,← q1];rfl) q0f))))))))
          · obtain rfl:k=gs.length:=by omega
            (repeat ((try (conv=>whnf));(refine stQ ?_)))
            conv=>whnf
            refine ⟨z9s 0,8,gs.length,_,z0t 0,rfl,rfl,?_⟩
            unfold ofR
            rw [hgs]
            refine ⟨rfl,rfl,st.B,rfl,fun k p hk=>?_⟩
            obtain ⟨q0,q1,q2,q3,q4⟩:=hg.piece hk
            exact ⟨q0,q2,q3,q4⟩
end Go.Proofs.YtkicdhaklnmonaaGreat
