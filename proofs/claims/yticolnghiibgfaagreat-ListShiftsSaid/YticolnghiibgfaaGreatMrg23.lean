/-
  Merged: XArg, XTrim, XTree.
-/
import Derived.Test.YticolnghiibgfaaGreatMrg17
import Derived.Test.YticolnghiibgfaaGreatGm
import Derived.Test.YticolnghiibgfaaGreatMrg22
import Derived.Test.YticolnghiibgfaaGreatChain
set_option linter.unusedVariables false
set_option linter.unusedSimpArgs false
set_option linter.unnecessarySimpa false
namespace Go.Proofs.YticolnghiibgfaaGreat
open Go.RowKit
def RowM (G:Mem) (A:Option Addr) (xs:List Value):Prop:=(A=none∧xs=[])∨∃ b off,A=some ⟨b,off,none⟩∧∀ (j:Nat) u,xs[j]? = some u→G.cell? ⟨b,off+j,none⟩=some u
theorem RowM.mono {G G':Mem} {A:Option Addr} {xs:List Value} (h:RowM G A xs) (hle:G.le G'):RowM G' A xs:=by
  rcases h with h |⟨b,off,h1,h2⟩
  · exact .inl h
  · exact .inr ⟨b,off,h1,fun j u hj=>hle.cell (h2 j u hj)⟩
theorem q91 {P:Program} {T:Tab} (hT:TOk P T) {n0:Nat} {b:Code} {fr:List AV} {hp:List Blk} {G:Mem} {Q:Post} {ι:Type} (inv:ι→Prop) (S:ι→List (Nat × AV)) (H:ι→List Blk) (M:ι→Mem) (μ:ι→Nat) (i0:ι) (h0:inv i0)
    (start:Le n0 fr hp G (q5n b fr (S i0)) (H i0) (M i0))
    (round:∀ i,inv i→z1j (q3n b []) fun ws=>q85 ws 0 fr fun fr1=>q62 fr1 (S i) fun fr2=>z1a P T n0 b fr2 (H i) (M i) fun e fr' hp' G'=>match e with
      | .normal=>∃ i',inv i'∧μ i'<μ i∧Le n0 fr' hp' G' (q5n b fr (S i')) (H i') (M i')
      | e=>Q e fr' hp' G'):LoopP P n0 b fr hp G Q:=by
  refine z4j hT inv (fun i=>q5n b fr (S i)) H M μ ⟨i0,h0,start⟩ fun i hi=>?_
  have h:=round i hi
  rw [q86,q7v,q6g] at h
  exact h
end Go.Proofs.YticolnghiibgfaaGreat
namespace Go.Proofs.YticolnghiibgfaaGreat
open Go.RowKit
theorem q92 {n:Nat} {S S':Nat→Prop} {l m:List Blk} (hS:∀ b,S' b→S b) (h:hpLe n l m):hpLe n (.muts S::l) (.muts S'::m):=⟨hS,h⟩
theorem z53 {P:Program} {f:FuncId} {args:List AV} {hp:List Blk} {G:Mem} {K:AV→List Blk→Mem→Prop} {n0:Nat} (hn:hp.length=n0)
    (h:CallP P f args hp G fun v hp' G'=>∃ v1 hp1 G1,Le n0 [v] hp' G' [v1] hp1 G1∧K v1 hp1 G1):CallP P f args hp G K:=by
  subst hn
  refine ⟨h.enters,fun w0 G0 β w vs hr ha=>(h.calls w0 G0 β w vs hr ha).mono ?_⟩
  rintro e w' ⟨y,β',v,hp',G',rfl,h1,h2,h3,v1,hp1,G1,hle,hK⟩
  obtain ⟨β'',g1,g2,g3⟩:=hle.out w0 G0 β β' w' [y] (Nm.below_of hr) h1 h2 (by simp only [AV.rels];exact ⟨y,[],rfl,h3,rfl⟩)
  simp only [AV.rels] at g3
  obtain ⟨z,zs,g4,g5,g6⟩:=g3
  cases g4
  exact ⟨y,β'',v1,hp1,G1,rfl,g1,g2,g5,hK⟩
section
variable {α:Type} {enc:α→List Value} {k:Nat}
end
end Go.Proofs.YticolnghiibgfaaGreat
namespace Go.Proofs.YticolnghiibgfaaGreat
open Go.RowKit
set_option maxRecDepth 20000
def q5j (k:Nat) (kind:Int):List (Nat × List Tr)→List (Nat × List Tr)
  | []=>[]
  | (i,ms)::r=>if kind=0 then (i,ms++[.fill k])::r else if kind=1 then (k,[])::(i,ms)::r else match r with
    | []=>[(i,ms)]
    | (j,ms')::r'=>(j,ms'++[.group i ms])::r'
def zst (K:Nat→Int):Nat→List (Nat × List Tr)
  | 0=>[(0,[])]
  | k+1=>q5j k (K k) (zst K k)
structure TS where
  k:Nat
  S:Nat→Prop
  M:Mem
  F:Mem
  es:List Ent
  ov:Value
structure TInv (I:Nat→ItemD) (f:Nat→SrcF) (G:Mem) (n pb:Nat) (t:TS):Prop where
  le:t.k≤n
  st:StackI I f t.S t.M t.F t.es
  opn:OpenI t.S t.M t.es t.ov
  link:linkL none t.es
  z:zst (fun x=>(I x).K) t.k=t.es.map fun e=>(e.i,e.ms)
  cnt:∀ e∈t.es,e.full.length≤t.k
  len:t.es.length≤t.k+1
  pos:t.es≠[]
  last:∀ q,t.es.getLast? = some q→q.b=pb
  GF:G.le t.F
theorem ItemsM.mono {G G':Mem} {A:Option Addr} {n:Nat} {I:Nat→ItemD} (h:ItemsM G A n I) (hG:G.le G'):ItemsM G' A n I:=fun x hx=>by
  obtain ⟨p,rfl,hp⟩:=h x hx
  refine ⟨p,rfl,fun K hK=>?_⟩
  obtain ⟨vs,⟨h1,h2⟩,rfl⟩:=hp (fun vs=>vs=(I x).cells) rfl
  exact ⟨(I x).cells,⟨h1,fun j u hj=>hG.cell (h2 j u hj)⟩,hK⟩
abbrev x00:List Value:=[.int .i64 0,.slice none 0 0,.int .i64 0,.int .u8 0,.int .u8 0,.int .u8 0,.int .u8 0,.int .u8 0,.int .u8 0,.int .u8 0,.int .u8 0,.int .i64 0,.int .i64 0,.int .i64 0,.int .i64 0,.int .i64 0,.slice none 0 0,.int .i64 0,.int .i64 0,.slice none 0 0,.slice none 0 0,.int .i64 0,.int .i64 0,.int .i64 0,.int .i64 0,.int .i64 0,.int .i64 0,.bool false,.bool false,.int .u8 0,.int .i64 0,.bool false,.bool false,.bool false,.int .i64 (-1),.nilFunc]
set_option maxHeartbeats 8000000 in
theorem x1z {I:Nat→ItemD} {f:Nat→SrcF} {G:Mem} {W H:Int} {SA IA:Option Addr} {m sq n iq:Nat} (hI:ItemsM G IA n I) (hn:n≤1000000)
    (hs:∀ k,k<n→(I k).K=0→GivesM Tryz.prog 77 [q2f (I k)] G fun v F=>IsSrc F v (f k)) (hb:∀ k,k<n→(I k).K=0∨(I k).K=1→0≤(I k).bl∧(I k).bl≤11)
    (hd:∀ k,k<n→(I k).K≠0→(I k).K≠1→2≤(zst (fun x=>(I x).K) k).length) (he:(zst (fun x=>(I x).K) n).length=1) :
    GivesM Tryz.prog 53 [q2i W H SA m sq IA n iq] G fun v F=>∃ ms,(zst (fun x=>(I x).K) n).map (·.2)=[ms]∧x4k I f F v ms:=by
  refine x6h tab_ok Tryz.func53 ?_
  (repeat ((try (conv=>whnf));(first |(with_reducible first |refine z4p 0 true (e:=q1h) ?_ |refine q9c tab_ok 0 true ?_) |(refine stQ ?_))))
  conv=>whnf
  intro pb Mp hpb _ hMp
  conv=>whnf
  (repeat ((try (conv=>whnf));(first |(with_reducible refine q9c tab_ok 0 true ?_) |(refine stQ ?_))))
  conv=>whnf
  intro ob Mo hob hobS hMo
  conv=>whnf
  have hne:ob≠pb:=fun e=>hobS (.inr e)
  (repeat ((try (conv=>whnf));(refine stQ ?_)))
  conv=>whnf
  rw [hMp] at hMo hob
  rw [hMo]
  have hobG:G ob=none:=by rw [Mem.put_ne _ _ hne] at hob;exact hob
  have hle:G.le ((G.put pb (.cells (x00++[Value.slice none 0 0]).toArray q1h (0,0))).put ob (.cells [ptrV pb].toArray q1l (0,0))):=fun b o hbo=>by
    rw [Mem.put_ne _ _ (fun e=>by rw [e,hobG] at hbo;cases hbo),Mem.put_ne _ _ (fun e=>by rw [e,hpb] at hbo;cases hbo)];exact hbo
  refine q91 tab_ok (ι:=TS) (TInv I f G n pb) (fun t=>[(16,.val (.int .i64 t.k)),(4,.val t.ov)]) (fun t=>[.muts t.S,.cells 25 [.val (.int .i64 W),.val (.int .i64 H),.val (.slice SA m sq),.val (.slice IA n iq)]]) (fun t=>t.M) (fun t=>n-t.k)
    ⟨0,moreS true (moreS true (fun _=>False) pb) ob,(G.put pb (.cells (x00++[Value.slice none 0 0]).toArray q1h (0,0))).put ob (.cells [ptrV pb].toArray q1l (0,0)),G,[⟨pb,0,x00,.slice none 0 0,[],[],[],true⟩],.slice (some ⟨ob,0,none⟩) 1 1⟩ ?_ ?_ ?_
  · refine ⟨Nat.zero_le _,⟨hle,fun b hb=>?_,fun e he=>?_,fun e he=>?_,by simp,fun e he=>?_,⟨rfl,rfl⟩⟩,⟨rfl,.inr ⟨ob,1,_,rfl,.inr rfl,Mem.put_same _ _ _,Nat.le_refl _,by decide,rfl,rfl⟩⟩,⟨rfl,trivial⟩,rfl,fun e he=>?_,by simp,by simp,fun q hq=>by simp at hq;rw [← hq],Mem.le_refl _⟩
    · rcases hb with (hb |rfl) |rfl
      · exact hb.elim
      · exact hpb
      · exact hobG
    · simp at he;subst he
      exact ⟨.inl (.inr rfl),by dsimp only;rw [Mem.put_ne _ _ (Ne.symm hne),Mem.put_same],rfl⟩
    · simp at he;subst he;exact RowS.nil _ _ _ _
    · simp at he;subst he;exact NodesM.nil
    · simp at he;subst he;exact Nat.le_refl _
  · ((refine q0h ?_);(conv=>whnf);(refine q0j (by rfl) (by rfl) flQ ?_))
    exact q92 (fun _ h=>h) (q0c (by exact flQ) q0e)
  · rintro ⟨k,S,M,F,es,ov⟩ hT
    have hkn:k≤n:=hT.le
    obtain ⟨e0,r,rfl⟩:∃ e0 r,es=e0::r:=by
      cases es with
      | nil=>exact absurd rfl hT.pos
      | cons e0 r=>exact ⟨e0,r,rfl⟩
    dsimp only
    rcases Nat.lt_or_ge k n with h2 |h2
    · obtain ⟨ip,rfl,hit⟩:=hI.mono (Mem.le_trans hT.GF hT.st.fm) k h2
      have hst:=hT.st
      have hopn:=hT.opn
      dsimp only at hst hopn
      obtain ⟨he1,he2,he3⟩:=hst.blk e0 (by simp)
      have hrow:=hst.row e0 (by simp)
      obtain ⟨og,oc,rfl,hoc⟩:∃ g c,ov=.slice (some ⟨g,0,none⟩) (r.length+1) c∧r.length+1≤c∧c≤maxLen:=by
        rcases hopn.2 with ⟨_,h0⟩ |⟨g,cap,cur,h3,_,_,h4,h5,_⟩
        · simp at h0
        · exact ⟨g,cap,h3,h4,h5⟩
      have hix:(((r.length+1:Nat):Int)-1).toNat * 1=r.length:=by omega
      have hotop:M.cell? (Addr.add ⟨og,0,none⟩ ((((r.length+1:Nat):Int)-1).toNat * 1))=some (ptrV e0.b):=by
        rw [hix,q0k]
        refine RowS.cell (n:=r.length+1) (c:=oc) hopn (j:=r.length) ?_
        rw [List.map_cons,List.reverse_cons,List.getElem?_append_right (by simp)];simp
      have c36:M.cell? ⟨e0.b,36,none⟩=some e0.s:=by
        unfold Mem.cell?
        simp only [he2]
        simp [List.getElem?_append_right,he3]
      have hlr:=hT.len
      simp only [List.length_cons] at hlr
      by_cases hk0:(I k).K=0
      · (repeat ((try (conv=>whnf));(first |(refine hit _ ?_) |(refine q0d _ hotop ?_) |(refine q0d _ c36 ?_) |((refine q4p (by rfl) ?_ ?_);(· first |exact Mem.le_refl _ |assumption)) |(with_reducible refine z0f tab_ok (by kernel_rfl) [0,1,2,3,4,5,6,7,8,10,11] [9,12,13,14,15,16] [17,18,19,20] (by decide +kernel) ?_) |(refine stQ ?_))))
        conv=>whnf
        have hGF:=hT.GF
        dsimp only at hGF
        refine q9d (fun vs w=>by kernel_rfl) 0 rfl (by rfl) hst.fm hst.fs ((hs k h2 hk0).mono hGF fun y A B hAB h=>h.mono hAB) fun sv F1 M1 hF1 hFM1 hM1 hS1 hSM1 hsv=>?_
        obtain ⟨sid,sp,rfl,hsv1,hsv2⟩:=id hsv
        conv=>whnf
        (repeat ((try (conv=>whnf));(first |((refine q4p (by rfl) ?_ ?_);(· first |exact Mem.le_refl _ |assumption)) |(refine stQ ?_))))
        conv=>whnf
        refine q9d (fun vs w=>by kernel_rfl) 0 rfl (by rfl) hFM1 hS1 (z36 (hb k h2 (.inl hk0))) fun mv F2 M2 hF2 hFM2 hM2 hS2 hSM2 hmv=>?_
        obtain ⟨mp,mp2,rfl,hmv1,hmv2⟩:=id hmv
        conv=>whnf
        have hM02:=Mem.le_trans hM1 hM2
        (repeat ((try (conv=>whnf));(first |((refine q4p (by rfl) ?_ ?_);(· first |exact Mem.le_refl _ |assumption)) |(with_reducible refine z4p 0 false (e:=q9f) ?_) |(refine stQ ?_))))
        conv=>whnf
        intro bf M3 hbf hbfS hM3
        replace hM3:M3=M2.put bf (.cells ((I k).cells++[Value.int .i64 k,Value.func (.func sid) #[] #[.pointer (some ⟨sp,0,none⟩)],Value.func (.func 107) #[] #[.pointer (some ⟨mp,0,none⟩)]]).toArray q9f (0,0)):=hM3
        have hM23:M2.le M3:=fun b o ho=>by rw [hM3,Mem.put_ne _ _ (fun e=>by rw [e,hbf] at ho;cases ho)];exact ho
        have hM03:=Mem.le_trans hM02 hM23
        conv=>whnf
        (repeat ((try (conv=>whnf));(first |((refine q4p (by rfl) ?_ ?_);(· first |exact Mem.le_refl _ |assumption)) |(refine stQ ?_))))
        conv=>whnf
        obtain ⟨F3,hF3⟩:∃ F3,F3=F2.put bf (.cells ((I k).cells++[Value.int .i64 k,Value.func (.func sid) #[] #[.pointer (some ⟨sp,0,none⟩)],Value.func (.func 107) #[] #[.pointer (some ⟨mp,0,none⟩)]]).toArray q9f (0,0)):=⟨_,rfl⟩
        have hF2b:F2 bf=none:=Mem.le.none hFM2 hbf
        have hF23:F2.le F3:=fun b o ho=>by rw [hF3,Mem.put_ne _ _ (fun e=>by rw [e,hF2b] at ho;cases ho)];exact ho
        have hFM3:F3.le M3:=fun b o ho=>by
          rw [hF3] at ho
          by_cases e:b=bf
          · subst e;rw [Mem.put_same] at ho;rw [hM3,Mem.put_same];exact ho
          · rw [Mem.put_ne _ _ e] at ho;exact hM23 _ _ (hFM2 _ _ ho)
        have hSb:∀ b,S b→b≠bf:=fun b hb e=>by subst e;exact hbfS hb
        have hS3:∀ b,S b→F3 b=none:=fun b hb=>by rw [hF3,Mem.put_ne _ _ (hSb b hb)];exact hS2 b hb
        have hSM3:∀ b,S b→M3 b=M b:=fun b hb=>by rw [hM3,Mem.put_ne _ _ (hSb b hb),hSM2 b hb,hSM1 b hb]
        have hF03:F.le F3:=Mem.le_trans hF1 (Mem.le_trans hF2 hF23)
        have hst3:=hst.grow (S':=S) (fun _ h=>h) hSM3 hF03 hFM3 hS3
        have hop3:=OpenI.grow (S':=S) hopn (fun _ h=>h) hSM3
        have hnode:NodeM I f F3 (.iface z0u (ptrV bf)) (.fill k):=.fill k bf _ _ (by rw [hF3,Mem.put_same]) (hsv.mono (Mem.le_trans hF2 hF23)) (hmv.mono hF23)
        have hnodes:=(hst3.nodes e0 (by simp)).snoc hnode
        have hfl:e0.full=e0.vs:=hT.link.1
        have hcn:=hT.cnt e0 (by simp)
        dsimp only at hcn
        refine z0e tab_ok 0 (by exact rfl) (by exact rfl) ?_
        conv=>whnf
        refine ⟨e0.full.length,e0.full,hst3.row e0 (by simp),show (e0.full.length+1)*16≤140737488355328 by omega,fun s' S4 M4 hG4 hr4=>?_⟩
        obtain ⟨A',c',rfl,_,_⟩:=hr4.isSl
        have hr4':RowS S4 M4 q5x 1 (.slice A' (e0.full.length+1) c') (e0.full++[Value.iface z0u (ptrV bf)]).length (e0.full++[Value.iface z0u (ptrV bf)]):=by
          rw [List.length_append];exact hr4
        obtain ⟨hst5,hop5,_,hMe,hSe⟩:=hst3.top hG4 hr4' hnodes
        have hop5:=hop5 _ _ _ hop3
        conv=>whnf
        (repeat ((try (conv=>whnf));(refine stQ ?_)))
        conv=>whnf
        refine z5w tab_ok 0 (by exact rfl) (by exact rfl) hMe ?_
        conv=>whnf
        refine ⟨hSe,by simp [he3],fun M5 hM5=>?_⟩
        have ecs:((e0.hd++[e0.s]).toArray.toList.take 36++[Value.slice A' (e0.full.length+1) c']++(e0.hd++[e0.s]).toArray.toList.drop (36+1))=e0.hd++[Value.slice A' (e0.full.length+1) c']:=by
          have e1:(e0.hd++[e0.s]).take 36=e0.hd:=by rw [← he3];exact List.take_left
          have e2:(e0.hd++[e0.s]).drop (36+1)=[]:=List.drop_eq_nil_of_le (by simp [he3])
          simp only [e1,e2,List.append_nil]
        replace hM5:M5=M4.put e0.b (.cells (e0.hd++[Value.slice A' (e0.full.length+1) c']).toArray q1h (0,0)):=hM5.trans (by rw [← ecs];rfl)
        rw [← hM5] at hst5 hop5
        conv=>whnf
        (repeat ((try (conv=>whnf));(refine stQ ?_)))
        conv=>whnf
        refine ⟨⟨k+1,S4,_,F3,_::r,.slice (some ⟨og,0,none⟩) (r.length+1) oc⟩,⟨by dsimp only;omega,hst5,?_,?_,?_,?_,?_,by simp,?_,?_⟩,by dsimp only;omega,?_⟩
        · show OpenI _ _ _ _
          unfold OpenI;simpa using hop5
        · exact ⟨by rw [hfl],hT.link.2⟩
        · have hz:=hT.z
          dsimp only at hz ⊢
          show q5j k (I k).K (zst _ k)=_
          rw [hz,hk0]
          simp [q5j]
        · intro e he
          dsimp only at he ⊢
          rcases List.mem_cons.1 he with rfl |he
          · dsimp only;rw [List.length_append];simp;omega
          · have:=hT.cnt e (List.mem_cons_of_mem _ he)
            dsimp only at this;omega
        · dsimp only;simp only [List.length_cons];omega
        · intro q hq
          dsimp only at hq
          have hl:=hT.last
          dsimp only at hl
          cases r with
          | nil =>
            simp at hq
            rw [← hq];exact hl e0 rfl
          | cons e' r' =>
            rw [List.getLast?_cons_cons] at hq
            exact hl q (by rw [List.getLast?_cons_cons];exact hq)
        · exact Mem.le_trans hGF hF03
        · ((refine q0h ?_);(conv=>whnf);(refine q0j (by rfl) (by rfl) flQ ?_))
          exact q92 (fun _ h=>h) (q0c (by exact flQ) q0e)
      · by_cases hk1:(I k).K=1
        · (repeat ((try (conv=>whnf));(first |(refine hit _ ?_) |(refine q0d _ hotop ?_) |((refine q4p (by rfl) ?_ ?_);(· first |exact Mem.le_refl _ |assumption)) |(with_reducible refine z0f tab_ok (by kernel_rfl) [0,1,2,3] [4,5] [6,7] (by decide +kernel) ?_) |(refine stQ ?_))))
          conv=>whnf
          have hGF:=hT.GF
          dsimp only at hGF
          have hfl:e0.full=e0.vs:=hT.link.1
          have hcn:=hT.cnt e0 (by simp)
          dsimp only at hcn
          refine q9d (fun vs w=>by kernel_rfl) 0 rfl (by rfl) hst.fm hst.fs (z36 (hb k h2 (.inr hk1))) fun mv F2 M2 hF2 hFM2 hM2 hS2 hSM2 hmv=>?_
          obtain ⟨mp,mp2,rfl,hmv1,hmv2⟩:=id hmv
          conv=>whnf
          (repeat ((try (conv=>whnf));(first |((refine q4p (by rfl) ?_ ?_);(· first |exact Mem.le_refl _ |assumption)) |(with_reducible refine z4p 0 true (e:=q1h) ?_) |(refine stQ ?_))))
          conv=>whnf
          intro bg M3 hbg hbgS hM3
          replace hM3:M3=M2.put bg (.cells ((I k).cells++[Value.int .i64 k,Value.func (.func 107) #[] #[.pointer (some ⟨mp,0,none⟩)]]++[Value.slice none 0 0]).toArray q1h (0,0)):=hM3
          have hM23:M2.le M3:=fun b o ho=>by rw [hM3,Mem.put_ne _ _ (fun e=>by rw [e,hbg] at ho;cases ho)];exact ho
          have hSb:∀ b,S b→b≠bg:=fun b hb e=>by subst e;exact hbgS hb
          have hSM3:∀ b,S b→M3 b=M b:=fun b hb=>by rw [hM3,Mem.put_ne _ _ (hSb b hb),hSM2 b hb]
          have hS3:∀ b,moreS true S bg b→F2 b=none:=by
            rintro b (hb |rfl)
            · exact hS2 b hb
            · exact Mem.le.none hFM2 hbg
          have hst3:=hst.grow (S':=moreS true S bg) (fun _ h=>.inl h) hSM3 hF2 (Mem.le_trans hFM2 hM23) hS3
          have hop3:=OpenI.grow (S':=moreS true S bg) hopn (fun _ h=>.inl h) hSM3
          have hMg:M3 bg=some (.cells ((I k).cells++[Value.int .i64 k,Value.func (.func 107) #[] #[.pointer (some ⟨mp,0,none⟩)]]++[Value.slice none 0 0]).toArray q1h (0,0)):=by rw [hM3,Mem.put_same]
          have c36':M3.cell? ⟨e0.b,36,none⟩=some e0.s:=by
            have h9:=(hst3.blk e0 (by simp)).2.1
            unfold Mem.cell?
            simp only [h9]
            simp [List.getElem?_append_right,he3]
          clear hM3
          conv=>whnf
          (repeat ((try (conv=>whnf));(first |(refine q0d _ c36' ?_) |(refine stQ ?_))))
          conv=>whnf
          refine z0e tab_ok 0 (by exact rfl) (by exact rfl) ?_
          conv=>whnf
          refine ⟨e0.full.length,e0.full,hst3.row e0 (by simp),show (e0.full.length+1)*16≤140737488355328 by omega,fun s' S4 M4 hG4 hr4=>?_⟩
          obtain ⟨A',c',rfl,_,_⟩:=hr4.isSl
          have hr4':RowS S4 M4 q5x 1 (.slice A' (e0.full.length+1) c') (e0.full++[Value.iface q1l (ptrV bg)]).length (e0.full++[Value.iface q1l (ptrV bg)]):=by
            rw [List.length_append];exact hr4
          obtain ⟨hst5,hop5,hkeep,hMe,hSe⟩:=hst3.top hG4 hr4' (hst3.nodes e0 (by simp))
          have hop5:=hop5 _ _ _ hop3
          have hMg5:=hkeep bg _ (fun e=>hSb _ he1 e.symm) hMg
          conv=>whnf
          (repeat ((try (conv=>whnf));(refine stQ ?_)))
          conv=>whnf
          refine z5w tab_ok 0 (by exact rfl) (by exact rfl) hMe ?_
          conv=>whnf
          refine ⟨hSe,by simp [he3],fun M5 hM5=>?_⟩
          have ecs:((e0.hd++[e0.s]).toArray.toList.take 36++[Value.slice A' (e0.full.length+1) c']++(e0.hd++[e0.s]).toArray.toList.drop (36+1))=e0.hd++[Value.slice A' (e0.full.length+1) c']:=by
            have e1:(e0.hd++[e0.s]).take 36=e0.hd:=by rw [← he3];exact List.take_left
            have e2:(e0.hd++[e0.s]).drop (36+1)=[]:=List.drop_eq_nil_of_le (by simp [he3])
            simp only [e1,e2,List.append_nil]
          replace hM5:M5=M4.put e0.b (.cells (e0.hd++[Value.slice A' (e0.full.length+1) c']).toArray q1h (0,0)):=hM5.trans (by rw [← ecs];rfl)
          rw [← hM5] at hst5 hop5 hMg5
          conv=>whnf
          (repeat ((try (conv=>whnf));(refine stQ ?_)))
          conv=>whnf
          refine z0e tab_ok 0 (by exact rfl) (by exact rfl) ?_
          conv=>whnf
          refine ⟨r.length+1,_,hop5,show (r.length+1+1)*8≤140737488355328 by omega,fun ov' S6 M6 hG6 hr6=>?_⟩
          obtain ⟨A6,c6,rfl,_,_⟩:=hr6.isSl
          have hst7:=hst5.opened hop5 hG6
          have hMg7:=hG6.old bg _ hMg5 (q4b hop5 hMg5 z86)
          have hst8:=hst7.push (e:=⟨bg,k,(I k).cells++[Value.int .i64 k,Value.func (.func 107) #[] #[.pointer (some ⟨mp,0,none⟩)]],.slice none 0 0,[],[],[],false⟩) (by simp) (hG6.more _ (hG4.more _ (.inr rfl))) hMg7 (fun q hq=>by
            rcases List.mem_cons.1 hq with rfl |hq
            · exact fun e=>hSb _ he1 e.symm
            · exact fun e=>hSb _ (hst.blk q (List.mem_cons_of_mem _ hq)).1 e.symm) rfl rfl rfl rfl rfl rfl hmv
          conv=>whnf
          (repeat ((try (conv=>whnf));(refine stQ ?_)))
          conv=>whnf
          refine ⟨⟨k+1,S6,M6,F2,_::_::r,.slice A6 (r.length+1+1) c6⟩,⟨by dsimp only;omega,hst8,?_,?_,?_,?_,?_,by simp,?_,?_⟩,by dsimp only;omega,?_⟩
          · show OpenI _ _ _ _
            unfold OpenI;simpa using hr6
          · exact ⟨rfl,by rw [hfl],hT.link.2⟩
          · have hz:=hT.z
            dsimp only at hz ⊢
            show q5j k (I k).K (zst _ k)=_
            rw [hz,hk1]
            simp [q5j]
          · intro e he
            dsimp only at he ⊢
            rcases List.mem_cons.1 he with rfl |he
            · simp
            rcases List.mem_cons.1 he with rfl |he
            · dsimp only;rw [List.length_append];simp;omega
            · have:=hT.cnt e (List.mem_cons_of_mem _ he)
              dsimp only at this;omega
          · dsimp only;simp only [List.length_cons];omega
          · intro q hq
            dsimp only at hq
            have hl:=hT.last
            dsimp only at hl
            rw [List.getLast?_cons_cons] at hq
            cases r with
            | nil =>
              simp at hq
              rw [← hq];exact hl e0 rfl
            | cons e' r' =>
              rw [List.getLast?_cons_cons] at hq
              exact hl q (by rw [List.getLast?_cons_cons];exact hq)
          · exact Mem.le_trans hGF hF2
          · ((refine q0h ?_);(conv=>whnf);(refine q0j (by rfl) (by rfl) flQ ?_))
            exact q92 (fun _ h=>h) (q0c (by exact flQ) q0e)
        · have h2l:=hd k h2 hk0 hk1
          have hz:=hT.z
          dsimp only at hz
          rw [hz] at h2l
          obtain ⟨e1,r',rfl⟩:∃ e1 r',r=e1::r':=by
            cases r with
            | nil=>simp at h2l
            | cons e1 r'=>exact ⟨e1,r',rfl⟩
          have hlk:=hT.link
          dsimp only at hlk
          (repeat ((try (conv=>whnf));(first |(refine hit _ ?_) |(refine q0d _ hotop ?_) |(refine stQ ?_))))
          conv=>whnf
          have hlen2:(((e1::r').length+1:Nat):Int)=(r'.length:Int)+2:=by simp [List.length_cons];omega
          obtain ⟨hst9,hle9⟩:=hst.pop hlk
          have hop9:=OpenI.pop (c:=oc) (A:=some ⟨og,0,none⟩) (by simpa using hopn) hst (ms:=e1.ms++[.group e0.i e0.ms])
          have hov:(Value.slice (if oc=((0:Nat):Int).toNat then some (⟨og,0,none⟩:Addr) else Option.map (fun (x:Addr)=>x.add (((0:Nat):Int).toNat * 1)) (some (⟨og,0,none⟩:Addr))) (((((e1::r').length+1:Nat):Int)-1).toNat-((0:Nat):Int).toNat) (oc-((0:Nat):Int).toNat))=.slice (some ⟨og,0,none⟩) (r'.length+1) oc:=by
            have h1:((((e1::r').length+1:Nat):Int)-1).toNat-((0:Nat):Int).toNat=r'.length+1:=by rw [hlen2];simp;omega
            rw [h1]
            simp [q0k]
          refine ⟨⟨k+1,_,M,_,_::r',Value.slice (if oc=((0:Nat):Int).toNat then some (⟨og,0,none⟩:Addr) else Option.map (fun (x:Addr)=>x.add (((0:Nat):Int).toNat * 1)) (some (⟨og,0,none⟩:Addr))) (((((e1::r').length+1:Nat):Int)-1).toNat-((0:Nat):Int).toNat) (oc-((0:Nat):Int).toNat)⟩,⟨by dsimp only;omega,hst9,?_,hlk.pop,?_,?_,?_,by simp,?_,?_⟩,by dsimp only;omega,?_⟩
          · show OpenI _ _ _ _
            rw [hov];exact hop9
          · dsimp only
            show q5j k (I k).K (zst _ k)=_
            rw [hz]
            simp [q5j,hk0,hk1]
          · intro e he
            dsimp only at he ⊢
            rcases List.mem_cons.1 he with rfl |he
            · have:=hT.cnt e1 (by simp)
              dsimp only at this ⊢;omega
            · have:=hT.cnt e (by simp [he])
              dsimp only at this;omega
          · dsimp only;simp only [List.length_cons] at hlr ⊢;omega
          · intro q hq
            dsimp only at hq
            have hl:=hT.last
            dsimp only at hl
            rw [List.getLast?_cons_cons] at hl
            cases r' with
            | nil =>
              simp at hq
              rw [← hq];exact hl e1 rfl
            | cons e' r'' =>
              rw [List.getLast?_cons_cons] at hq
              exact hl q (by rw [List.getLast?_cons_cons];exact hq)
          · have:=hT.GF
            exact Mem.le_trans this hle9
          · ((refine q0h ?_);(conv=>whnf);(refine q0j (by rfl) (by rfl) flQ ?_))
            exact q92 (fun _ h=>h.1) (q0c (by exact flQ) q0e)
    · obtain rfl:k=n:=by omega
      have hz:=hT.z
      dsimp only at hz
      have hr0:r=[]:=by
        have:=he
        rw [hz] at this
        simpa using this
      subst hr0
      have hst:=hT.st
      dsimp only at hst
      obtain ⟨he1,he2,he3⟩:=hst.blk e0 (by simp)
      have hrow:=hst.row e0 (by simp)
      have hln:=hT.link
      have hbp:e0.b=pb:=hT.last e0 rfl
      obtain ⟨hpg,h33⟩:e0.pg=true∧e0.hd[33]? = some (.bool false):=by
        have h0:=hst.pgs
        rw [pgL] at h0;exact h0
      obtain ⟨A,c,hsv,hnc,hcm⟩:=hrow.isSl
      have hfv:e0.full=e0.vs:=hln.1
      subst hbp
      (repeat ((try (conv=>whnf));(refine stQ ?_)))
      conv=>whnf
      refine ⟨_,rfl,e0.ms,?_,e0.b,e0.hd,A,c,e0.full,rfl,by rw [he2,hsv],he3,h33,hnc,hcm,?_,?_⟩
      · rw [hz];rfl
      · rw [hsv] at hrow;exact hrow.flat
      · rw [hfv];exact (hst.nodes e0 (by simp)).mono hst.fm
end Go.Proofs.YticolnghiibgfaaGreat
