/-
  Merged: XTree, XTreeLaw, XRegions, XAreaR, XMeasures.
-/
import Derived.Test.YtkicdhaklnmonaaGreatMrg26
import Derived.Test.YtkicdhaklnmonaaGreatMrg18
import Derived.Test.YtkicdhaklnmonaaGreatMrg19
import Derived.Test.YtkicdhaklnmonaaGreatMrg13
import Derived.Test.YtkicdhaklnmonaaGreatMrg14
set_option linter.unusedVariables false
set_option linter.unusedSimpArgs false
set_option linter.unnecessarySimpa false
namespace Go.Proofs.YtkicdhaklnmonaaGreat
open Go.RowKit
set_option maxRecDepth 20000
def q74 (k:Nat) (kind:Int):List (Nat × List Tr)→List (Nat × List Tr)
  | []=>[]
  | (i,ms)::r=>if kind=0 then (i,ms++[.fill k])::r else if kind=1 then (k,[])::(i,ms)::r else match r with
    | []=>[(i,ms)]
    | (j,ms')::r'=>(j,ms'++[.group i ms])::r'
def zst (K:Nat→Int):Nat→List (Nat × List Tr)
  | 0=>[(0,[])]
  | k+1=>q74 k (K k) (zst K k)
structure TS where
  k:Nat
  S:Nat→Prop
  M:Mem
  F:Mem
  es:List Ent
  ov:Value
structure TInv (I:Nat→ItemD) (f:Nat→SrcF) (G:Mem) (n pb:Nat) (t:TS):Prop where
  le:t.k≤n
  st:StackI I f t.S t.M t.F t.es
  opn:OpenI t.S t.M t.es t.ov
  link:linkL none t.es
  z:zst (fun x=>(I x).K) t.k=t.es.map fun e=>(e.i,e.ms)
  cnt:∀ e∈t.es,e.full.length≤t.k
  len:t.es.length≤t.k+1
  pos:t.es≠[]
  last:∀ q,t.es.getLast? = some q→q.b=pb
  GF:G.le t.F
theorem ItemsM.mono {G G':Mem} {A:Option Addr} {n:Nat} {I:Nat→ItemD} (h:ItemsM G A n I) (hG:G.le G'):ItemsM G' A n I:=fun x hx=>by
  obtain ⟨p,rfl,hp⟩:=h x hx
  refine ⟨p,rfl,fun K hK=>?_⟩
  obtain ⟨vs,⟨h1,h2⟩,rfl⟩:=hp (fun vs=>vs=(I x).cells) rfl
  exact ⟨(I x).cells,⟨h1,fun j u hj=>hG.cell (h2 j u hj)⟩,hK⟩
abbrev x1s:List Value:=[.int .i64 0,.slice none 0 0,.int .i64 0,.int .u8 0,.int .u8 0,.int .u8 0,.int .u8 0,.int .u8 0,.int .u8 0,.int .u8 0,.int .u8 0,.int .i64 0,.int .i64 0,.int .i64 0,.int .i64 0,.int .i64 0,.slice none 0 0,.int .i64 0,.int .i64 0,.slice none 0 0,.slice none 0 0,.int .i64 0,.int .i64 0,.int .i64 0,.int .i64 0,.int .i64 0,.int .i64 0,.bool false,.bool false,.int .u8 0,.int .i64 0,.bool false,.bool false,.bool false,.int .i64 (-1),.nilFunc]
set_option maxHeartbeats 8000000 in
theorem x2o {I:Nat→ItemD} {f:Nat→SrcF} {G:Mem} {W H:Int} {SA IA:Option Addr} {m sq n iq:Nat} (hI:ItemsM G IA n I) (hn:n≤1000000)
    (hs:∀ k,k<n→(I k).K=0→GivesM Tryz.prog 82 [q61 (I k)] G fun v F=>IsSrc F v (f k)) (hb:∀ k,k<n→(I k).K=0∨(I k).K=1→0≤(I k).bl∧(I k).bl≤11)
    (hd:∀ k,k<n→(I k).K≠0→(I k).K≠1→2≤(zst (fun x=>(I x).K) k).length) (he:(zst (fun x=>(I x).K) n).length=1) :
    GivesM Tryz.prog 60 [q5o W H SA m sq IA n iq] G fun v F=>∃ ms,(zst (fun x=>(I x).K) n).map (·.2)=[ms]∧PageM I f F v ms:=by
  refine x7h tab_ok Tryz.func60 ?_
  (repeat ((try (conv=>whnf));(first |(with_reducible first |refine z40 0 true (e:=q1j) ?_ |refine q9q tab_ok 0 true ?_) |(refine stQ ?_))))
  conv=>whnf
  intro pb Mp hpb _ hMp
  conv=>whnf
  (repeat ((try (conv=>whnf));(first |(with_reducible refine q9q tab_ok 0 true ?_) |(refine stQ ?_))))
  conv=>whnf
  intro ob Mo hob hobS hMo
  conv=>whnf
  have hne:ob≠pb:=fun e=>hobS (.inr e)
  (repeat ((try (conv=>whnf));(refine stQ ?_)))
  conv=>whnf
  rw [hMp] at hMo hob
  rw [hMo]
  have hobG:G ob=none:=by rw [Mem.put_ne _ _ hne] at hob;exact hob
  have hle:G.le ((G.put pb (.cells (x1s++[Value.slice none 0 0]).toArray q1j (0,0))).put ob (.cells [ptrV pb].toArray q1p (0,0))):=fun b o hbo=>by
    rw [Mem.put_ne _ _ (fun e=>by rw [e,hobG] at hbo;cases hbo),Mem.put_ne _ _ (fun e=>by rw [e,hpb] at hbo;cases hbo)];exact hbo
  refine q43 tab_ok (ι:=TS) (TInv I f G n pb) (fun t=>[(16,.val (.int .i64 t.k)),(4,.val t.ov)]) (fun t=>[.muts t.S,.cells 49 [.val (.int .i64 W),.val (.int .i64 H),.val (.slice SA m sq),.val (.slice IA n iq)]]) (fun t=>t.M) (fun t=>n-t.k)
    ⟨0,moreS true (moreS true (fun _=>False) pb) ob,(G.put pb (.cells (x1s++[Value.slice none 0 0]).toArray q1j (0,0))).put ob (.cells [ptrV pb].toArray q1p (0,0)),G,[⟨pb,0,x1s,.slice none 0 0,[],[],[],true⟩],.slice (some ⟨ob,0,none⟩) 1 1⟩ ?_ ?_ ?_
  · refine ⟨Nat.zero_le _,⟨hle,fun b hb=>?_,fun e he=>?_,fun e he=>?_,by simp,fun e he=>?_,⟨rfl,rfl⟩⟩,⟨rfl,.inr ⟨ob,1,_,rfl,.inr rfl,Mem.put_same _ _ _,Nat.le_refl _,by decide,rfl,rfl⟩⟩,⟨rfl,trivial⟩,rfl,fun e he=>?_,by simp,by simp,fun q hq=>by simp at hq;rw [← hq],Mem.le_refl _⟩
    · rcases hb with (hb |rfl) |rfl
      · exact hb.elim
      · exact hpb
      · exact hobG
    · simp at he;subst he
      exact ⟨.inl (.inr rfl),by dsimp only;rw [Mem.put_ne _ _ (Ne.symm hne),Mem.put_same],rfl⟩
    · simp at he;subst he;exact RowS.nil _ _ _ _
    · simp at he;subst he;exact NodesM.nil
    · simp at he;subst he;exact Nat.le_refl _
  · ((refine q0g ?_);(conv=>whnf);(refine q0k (by rfl) (by rfl) flQ ?_))
    exact q0y (fun _ h=>h) (q0a (by exact flQ) q0f)
  · rintro ⟨k,S,M,F,es,ov⟩ hT
    have hkn:k≤n:=hT.le
    obtain ⟨e0,r,rfl⟩:∃ e0 r,es=e0::r:=by
      cases es with
      | nil=>exact absurd rfl hT.pos
      | cons e0 r=>exact ⟨e0,r,rfl⟩
    dsimp only
    rcases Nat.lt_or_ge k n with h2 |h2
    · obtain ⟨ip,rfl,hit⟩:=hI.mono (Mem.le_trans hT.GF hT.st.fm) k h2
      have hst:=hT.st
      have hopn:=hT.opn
      dsimp only at hst hopn
      obtain ⟨he1,he2,he3⟩:=hst.blk e0 (by simp)
      have hrow:=hst.row e0 (by simp)
      obtain ⟨og,oc,rfl,hoc⟩:∃ g c,ov=.slice (some ⟨g,0,none⟩) (r.length+1) c∧r.length+1≤c∧c≤maxLen:=by
        rcases hopn.2 with ⟨_,h0⟩ |⟨g,cap,cur,h3,_,_,h4,h5,_⟩
        · simp at h0
        · exact ⟨g,cap,h3,h4,h5⟩
      have hix:(((r.length+1:Nat):Int)-1).toNat * 1=r.length:=by omega
      have hotop:M.cell? (Addr.add ⟨og,0,none⟩ ((((r.length+1:Nat):Int)-1).toNat * 1))=some (ptrV e0.b):=by
        rw [hix,q0m]
        refine RowS.cell (n:=r.length+1) (c:=oc) hopn (j:=r.length) ?_
        rw [List.map_cons,List.reverse_cons,List.getElem?_append_right (by simp)];simp
      have c36:M.cell? ⟨e0.b,36,none⟩=some e0.s:=by
        unfold Mem.cell?
        simp only [he2]
        simp [List.getElem?_append_right,he3]
      have hlr:=hT.len
      simp only [List.length_cons] at hlr
      by_cases hk0:(I k).K=0
      · (repeat ((try (conv=>whnf));(first |(refine hit _ ?_) |(refine q0b _ hotop ?_) |(refine q0b _ c36 ?_) |((refine q44 (by rfl) ?_ ?_);(· first |exact Mem.le_refl _ |assumption)) |(with_reducible refine z0u tab_ok (by kernel_rfl) [0,1,2,3,4,5,6,7,8,10,11] [9,12,13,14,15,16] [17,18,19,20] (by decide +kernel) ?_) |(refine stQ ?_))))
        conv=>whnf
        have hGF:=hT.GF
        dsimp only at hGF
        refine q9r (fun vs w=>by kernel_rfl) 0 rfl (by rfl) hst.fm hst.fs ((hs k h2 hk0).mono hGF fun y A B hAB h=>h.mono hAB) fun sv F1 M1 hF1 hFM1 hM1 hS1 hSM1 hsv=>?_
        obtain ⟨sid,sp,rfl,hsv1,hsv2⟩:=id hsv
        conv=>whnf
        (repeat ((try (conv=>whnf));(first |((refine q44 (by rfl) ?_ ?_);(· first |exact Mem.le_refl _ |assumption)) |(refine stQ ?_))))
        conv=>whnf
        refine q9r (fun vs w=>by kernel_rfl) 0 rfl (by rfl) hFM1 hS1 (z4i (hb k h2 (.inl hk0))) fun mv F2 M2 hF2 hFM2 hM2 hS2 hSM2 hmv=>?_
        obtain ⟨mp,mp2,rfl,hmv1,hmv2⟩:=id hmv
        conv=>whnf
        have hM02:=Mem.le_trans hM1 hM2
        (repeat ((try (conv=>whnf));(first |((refine q44 (by rfl) ?_ ?_);(· first |exact Mem.le_refl _ |assumption)) |(with_reducible refine z40 0 false (e:=q9s) ?_) |(refine stQ ?_))))
        conv=>whnf
        intro bf M3 hbf hbfS hM3
        replace hM3:M3=M2.put bf (.cells ((I k).cells++[Value.int .i64 k,Value.func (.func sid) #[] #[.pointer (some ⟨sp,0,none⟩)],Value.func (.func 109) #[] #[.pointer (some ⟨mp,0,none⟩)]]).toArray q9s (0,0)):=hM3
        have hM23:M2.le M3:=fun b o ho=>by rw [hM3,Mem.put_ne _ _ (fun e=>by rw [e,hbf] at ho;cases ho)];exact ho
        have hM03:=Mem.le_trans hM02 hM23
        conv=>whnf
        (repeat ((try (conv=>whnf));(first |((refine q44 (by rfl) ?_ ?_);(· first |exact Mem.le_refl _ |assumption)) |(refine stQ ?_))))
        conv=>whnf
        obtain ⟨F3,hF3⟩:∃ F3,F3=F2.put bf (.cells ((I k).cells++[Value.int .i64 k,Value.func (.func sid) #[] #[.pointer (some ⟨sp,0,none⟩)],Value.func (.func 109) #[] #[.pointer (some ⟨mp,0,none⟩)]]).toArray q9s (0,0)):=⟨_,rfl⟩
        have hF2b:F2 bf=none:=Mem.le.none hFM2 hbf
        have hF23:F2.le F3:=fun b o ho=>by rw [hF3,Mem.put_ne _ _ (fun e=>by rw [e,hF2b] at ho;cases ho)];exact ho
        have hFM3:F3.le M3:=fun b o ho=>by
          rw [hF3] at ho
          by_cases e:b=bf
          · subst e;rw [Mem.put_same] at ho;rw [hM3,Mem.put_same];exact ho
          · rw [Mem.put_ne _ _ e] at ho;exact hM23 _ _ (hFM2 _ _ ho)
        have hSb:∀ b,S b→b≠bf:=fun b hb e=>by subst e;exact hbfS hb
        have hS3:∀ b,S b→F3 b=none:=fun b hb=>by rw [hF3,Mem.put_ne _ _ (hSb b hb)];exact hS2 b hb
        have hSM3:∀ b,S b→M3 b=M b:=fun b hb=>by rw [hM3,Mem.put_ne _ _ (hSb b hb),hSM2 b hb,hSM1 b hb]
        have hF03:F.le F3:=Mem.le_trans hF1 (Mem.le_trans hF2 hF23)
        have hst3:=hst.grow (S':=S) (fun _ h=>h) hSM3 hF03 hFM3 hS3
        have hop3:=OpenI.grow (S':=S) hopn (fun _ h=>h) hSM3
        have hnode:NodeM I f F3 (.iface z03 (ptrV bf)) (.fill k):=.fill k bf _ _ (by rw [hF3,Mem.put_same]) (hsv.mono (Mem.le_trans hF2 hF23)) (hmv.mono hF23)
        have hnodes:=(hst3.nodes e0 (by simp)).snoc hnode
        have hfl:e0.full=e0.vs:=hT.link.1
        have hcn:=hT.cnt e0 (by simp)
        dsimp only at hcn
        refine q3d tab_ok 0 (by exact rfl) (by exact rfl) ?_
        conv=>whnf
        refine ⟨e0.full.length,e0.full,hst3.row e0 (by simp),show (e0.full.length+1)*16≤140737488355328 by omega,fun s' S4 M4 hG4 hr4=>?_⟩
        obtain ⟨A',c',rfl,_,_⟩:=hr4.isSl
        have hr4':RowS S4 M4 q6p 1 (.slice A' (e0.full.length+1) c') (e0.full++[Value.iface z03 (ptrV bf)]).length (e0.full++[Value.iface z03 (ptrV bf)]):=by
          rw [List.length_append];exact hr4
        obtain ⟨hst5,hop5,_,hMe,hSe⟩:=hst3.top hG4 hr4' hnodes
        have hop5:=hop5 _ _ _ hop3
        conv=>whnf
        (repeat ((try (conv=>whnf));(refine stQ ?_)))
        conv=>whnf
        refine z6h tab_ok 0 (by exact rfl) (by exact rfl) hMe ?_
        conv=>whnf
        refine ⟨hSe,by simp [he3],fun M5 hM5=>?_⟩
        have ecs:((e0.hd++[e0.s]).toArray.toList.take 36++[Value.slice A' (e0.full.length+1) c']++(e0.hd++[e0.s]).toArray.toList.drop (36+1))=e0.hd++[Value.slice A' (e0.full.length+1) c']:=by
          have e1:(e0.hd++[e0.s]).take 36=e0.hd:=by rw [← he3];exact List.take_left
          have e2:(e0.hd++[e0.s]).drop (36+1)=[]:=List.drop_eq_nil_of_le (by simp [he3])
          simp only [e1,e2,List.append_nil]
        replace hM5:M5=M4.put e0.b (.cells (e0.hd++[Value.slice A' (e0.full.length+1) c']).toArray q1j (0,0)):=hM5.trans (by rw [← ecs];rfl)
        rw [← hM5] at hst5 hop5
        conv=>whnf
        (repeat ((try (conv=>whnf));(refine stQ ?_)))
        conv=>whnf
        refine ⟨⟨k+1,S4,_,F3,_::r,.slice (some ⟨og,0,none⟩) (r.length+1) oc⟩,⟨by dsimp only;omega,hst5,?_,?_,?_,?_,?_,by simp,?_,?_⟩,by dsimp only;omega,?_⟩
        · show OpenI _ _ _ _
          unfold OpenI;simpa using hop5
        · exact ⟨by rw [hfl],hT.link.2⟩
        · have hz:=hT.z
          dsimp only at hz ⊢
          show q74 k (I k).K (zst _ k)=_
          rw [hz,hk0]
          simp [q74]
        · intro e he
          dsimp only at he ⊢
          rcases List.mem_cons.1 he with rfl |he
          · dsimp only;rw [List.length_append];simp;omega
          · have:=hT.cnt e (List.mem_cons_of_mem _ he)
            dsimp only at this;omega
        · dsimp only;simp only [List.length_cons];omega
        · intro q hq
          dsimp only at hq
          have hl:=hT.last
          dsimp only at hl
          cases r with
          | nil =>
            simp at hq
            rw [← hq];exact hl e0 rfl
          | cons e' r' =>
            rw [List.getLast?_cons_cons] at hq
            exact hl q (by rw [List.getLast?_cons_cons];exact hq)
        · exact Mem.le_trans hGF hF03
        · ((refine q0g ?_);(conv=>whnf);(refine q0k (by rfl) (by rfl) flQ ?_))
          exact q0y (fun _ h=>h) (q0a (by exact flQ) q0f)
      · by_cases hk1:(I k).K=1
        · (repeat ((try (conv=>whnf));(first |(refine hit _ ?_) |(refine q0b _ hotop ?_) |((refine q44 (by rfl) ?_ ?_);(· first |exact Mem.le_refl _ |assumption)) |(with_reducible refine z0u tab_ok (by kernel_rfl) [0,1,2,3] [4,5] [6,7] (by decide +kernel) ?_) |(refine stQ ?_))))
          conv=>whnf
          have hGF:=hT.GF
          dsimp only at hGF
          have hfl:e0.full=e0.vs:=hT.link.1
          have hcn:=hT.cnt e0 (by simp)
          dsimp only at hcn
          refine q9r (fun vs w=>by kernel_rfl) 0 rfl (by rfl) hst.fm hst.fs (z4i (hb k h2 (.inr hk1))) fun mv F2 M2 hF2 hFM2 hM2 hS2 hSM2 hmv=>?_
          obtain ⟨mp,mp2,rfl,hmv1,hmv2⟩:=id hmv
          conv=>whnf
          (repeat ((try (conv=>whnf));(first |((refine q44 (by rfl) ?_ ?_);(· first |exact Mem.le_refl _ |assumption)) |(with_reducible refine z40 0 true (e:=q1j) ?_) |(refine stQ ?_))))
          conv=>whnf
          intro bg M3 hbg hbgS hM3
          replace hM3:M3=M2.put bg (.cells ((I k).cells++[Value.int .i64 k,Value.func (.func 109) #[] #[.pointer (some ⟨mp,0,none⟩)]]++[Value.slice none 0 0]).toArray q1j (0,0)):=hM3
          have hM23:M2.le M3:=fun b o ho=>by rw [hM3,Mem.put_ne _ _ (fun e=>by rw [e,hbg] at ho;cases ho)];exact ho
          have hSb:∀ b,S b→b≠bg:=fun b hb e=>by subst e;exact hbgS hb
          have hSM3:∀ b,S b→M3 b=M b:=fun b hb=>by rw [hM3,Mem.put_ne _ _ (hSb b hb),hSM2 b hb]
          have hS3:∀ b,moreS true S bg b→F2 b=none:=by
            rintro b (hb |rfl)
            · exact hS2 b hb
            · exact Mem.le.none hFM2 hbg
          have hst3:=hst.grow (S':=moreS true S bg) (fun _ h=>.inl h) hSM3 hF2 (Mem.le_trans hFM2 hM23) hS3
          have hop3:=OpenI.grow (S':=moreS true S bg) hopn (fun _ h=>.inl h) hSM3
          have hMg:M3 bg=some (.cells ((I k).cells++[Value.int .i64 k,Value.func (.func 109) #[] #[.pointer (some ⟨mp,0,none⟩)]]++[Value.slice none 0 0]).toArray q1j (0,0)):=by rw [hM3,Mem.put_same]
          have c36':M3.cell? ⟨e0.b,36,none⟩=some e0.s:=by
            have h9:=(hst3.blk e0 (by simp)).2.1
            unfold Mem.cell?
            simp only [h9]
            simp [List.getElem?_append_right,he3]
          clear hM3
          conv=>whnf
          (repeat ((try (conv=>whnf));(first |(refine q0b _ c36' ?_) |(refine stQ ?_))))
          conv=>whnf
          refine q3d tab_ok 0 (by exact rfl) (by exact rfl) ?_
          conv=>whnf
          refine ⟨e0.full.length,e0.full,hst3.row e0 (by simp),show (e0.full.length+1)*16≤140737488355328 by omega,fun s' S4 M4 hG4 hr4=>?_⟩
          obtain ⟨A',c',rfl,_,_⟩:=hr4.isSl
          have hr4':RowS S4 M4 q6p 1 (.slice A' (e0.full.length+1) c') (e0.full++[Value.iface q1p (ptrV bg)]).length (e0.full++[Value.iface q1p (ptrV bg)]):=by
            rw [List.length_append];exact hr4
          obtain ⟨hst5,hop5,hkeep,hMe,hSe⟩:=hst3.top hG4 hr4' (hst3.nodes e0 (by simp))
          have hop5:=hop5 _ _ _ hop3
          have hMg5:=hkeep bg _ (fun e=>hSb _ he1 e.symm) hMg
          conv=>whnf
          (repeat ((try (conv=>whnf));(refine stQ ?_)))
          conv=>whnf
          refine z6h tab_ok 0 (by exact rfl) (by exact rfl) hMe ?_
          conv=>whnf
          refine ⟨hSe,by simp [he3],fun M5 hM5=>?_⟩
          have ecs:((e0.hd++[e0.s]).toArray.toList.take 36++[Value.slice A' (e0.full.length+1) c']++(e0.hd++[e0.s]).toArray.toList.drop (36+1))=e0.hd++[Value.slice A' (e0.full.length+1) c']:=by
            have e1:(e0.hd++[e0.s]).take 36=e0.hd:=by rw [← he3];exact List.take_left
            have e2:(e0.hd++[e0.s]).drop (36+1)=[]:=List.drop_eq_nil_of_le (by simp [he3])
            simp only [e1,e2,List.append_nil]
          replace hM5:M5=M4.put e0.b (.cells (e0.hd++[Value.slice A' (e0.full.length+1) c']).toArray q1j (0,0)):=hM5.trans (by rw [← ecs];rfl)
          rw [← hM5] at hst5 hop5 hMg5
          conv=>whnf
          (repeat ((try (conv=>whnf));(refine stQ ?_)))
          conv=>whnf
          refine q3d tab_ok 0 (by exact rfl) (by exact rfl) ?_
          conv=>whnf
          refine ⟨r.length+1,_,hop5,show (r.length+1+1)*8≤140737488355328 by omega,fun ov' S6 M6 hG6 hr6=>?_⟩
          obtain ⟨A6,c6,rfl,_,_⟩:=hr6.isSl
          have hst7:=hst5.opened hop5 hG6
          have hMg7:=hG6.old bg _ hMg5 (q4g hop5 hMg5 z9u)
          have hst8:=hst7.push (e:=⟨bg,k,(I k).cells++[Value.int .i64 k,Value.func (.func 109) #[] #[.pointer (some ⟨mp,0,none⟩)]],.slice none 0 0,[],[],[],false⟩) (by simp) (hG6.more _ (hG4.more _ (.inr rfl))) hMg7 (fun q hq=>by
            rcases List.mem_cons.1 hq with rfl |hq
            · exact fun e=>hSb _ he1 e.symm
            · exact fun e=>hSb _ (hst.blk q (List.mem_cons_of_mem _ hq)).1 e.symm) rfl rfl rfl rfl rfl rfl hmv
          conv=>whnf
          (repeat ((try (conv=>whnf));(refine stQ ?_)))
          conv=>whnf
          refine ⟨⟨k+1,S6,M6,F2,_::_::r,.slice A6 (r.length+1+1) c6⟩,⟨by dsimp only;omega,hst8,?_,?_,?_,?_,?_,by simp,?_,?_⟩,by dsimp only;omega,?_⟩
          · show OpenI _ _ _ _
            unfold OpenI;simpa using hr6
          · exact ⟨rfl,by rw [hfl],hT.link.2⟩
          · have hz:=hT.z
            dsimp only at hz ⊢
            show q74 k (I k).K (zst _ k)=_
            rw [hz,hk1]
            simp [q74]
          · intro e he
            dsimp only at he ⊢
            rcases List.mem_cons.1 he with rfl |he
            · simp
            rcases List.mem_cons.1 he with rfl |he
            · dsimp only;rw [List.length_append];simp;omega
            · have:=hT.cnt e (List.mem_cons_of_mem _ he)
              dsimp only at this;omega
          · dsimp only;simp only [List.length_cons];omega
          · intro q hq
            dsimp only at hq
            have hl:=hT.last
            dsimp only at hl
            rw [List.getLast?_cons_cons] at hq
            cases r with
            | nil =>
              simp at hq
              rw [← hq];exact hl e0 rfl
            | cons e' r' =>
              rw [List.getLast?_cons_cons] at hq
              exact hl q (by rw [List.getLast?_cons_cons];exact hq)
          · exact Mem.le_trans hGF hF2
          · ((refine q0g ?_);(conv=>whnf);(refine q0k (by rfl) (by rfl) flQ ?_))
            exact q0y (fun _ h=>h) (q0a (by exact flQ) q0f)
        · have h2l:=hd k h2 hk0 hk1
          have hz:=hT.z
          dsimp only at hz
          rw [hz] at h2l
          obtain ⟨e1,r',rfl⟩:∃ e1 r',r=e1::r':=by
            cases r with
            | nil=>simp at h2l
            | cons e1 r'=>exact ⟨e1,r',rfl⟩
          have hlk:=hT.link
          dsimp only at hlk
          (repeat ((try (conv=>whnf));(first |(refine hit _ ?_) |(refine q0b _ hotop ?_) |(refine stQ ?_))))
          conv=>whnf
          have hlen2:(((e1::r').length+1:Nat):Int)=(r'.length:Int)+2:=by simp [List.length_cons];omega
          obtain ⟨hst9,hle9⟩:=hst.pop hlk
          have hop9:=OpenI.pop (c:=oc) (A:=some ⟨og,0,none⟩) (by simpa using hopn) hst (ms:=e1.ms++[.group e0.i e0.ms])
          have hov:(Value.slice (if oc=((0:Nat):Int).toNat then some (⟨og,0,none⟩:Addr) else Option.map (fun (x:Addr)=>x.add (((0:Nat):Int).toNat * 1)) (some (⟨og,0,none⟩:Addr))) (((((e1::r').length+1:Nat):Int)-1).toNat-((0:Nat):Int).toNat) (oc-((0:Nat):Int).toNat))=.slice (some ⟨og,0,none⟩) (r'.length+1) oc:=by
            have h1:((((e1::r').length+1:Nat):Int)-1).toNat-((0:Nat):Int).toNat=r'.length+1:=by rw [hlen2];simp;omega
            rw [h1]
            simp [q0m]
          refine ⟨⟨k+1,_,M,_,_::r',Value.slice (if oc=((0:Nat):Int).toNat then some (⟨og,0,none⟩:Addr) else Option.map (fun (x:Addr)=>x.add (((0:Nat):Int).toNat * 1)) (some (⟨og,0,none⟩:Addr))) (((((e1::r').length+1:Nat):Int)-1).toNat-((0:Nat):Int).toNat) (oc-((0:Nat):Int).toNat)⟩,⟨by dsimp only;omega,hst9,?_,hlk.pop,?_,?_,?_,by simp,?_,?_⟩,by dsimp only;omega,?_⟩
          · show OpenI _ _ _ _
            rw [hov];exact hop9
          · dsimp only
            show q74 k (I k).K (zst _ k)=_
            rw [hz]
            simp [q74,hk0,hk1]
          · intro e he
            dsimp only at he ⊢
            rcases List.mem_cons.1 he with rfl |he
            · have:=hT.cnt e1 (by simp)
              dsimp only at this ⊢;omega
            · have:=hT.cnt e (by simp [he])
              dsimp only at this;omega
          · dsimp only;simp only [List.length_cons] at hlr ⊢;omega
          · intro q hq
            dsimp only at hq
            have hl:=hT.last
            dsimp only at hl
            rw [List.getLast?_cons_cons] at hl
            cases r' with
            | nil =>
              simp at hq
              rw [← hq];exact hl e1 rfl
            | cons e' r'' =>
              rw [List.getLast?_cons_cons] at hq
              exact hl q (by rw [List.getLast?_cons_cons];exact hq)
          · have:=hT.GF
            exact Mem.le_trans this hle9
          · ((refine q0g ?_);(conv=>whnf);(refine q0k (by rfl) (by rfl) flQ ?_))
            exact q0y (fun _ h=>h.1) (q0a (by exact flQ) q0f)
    · obtain rfl:k=n:=by omega
      have hz:=hT.z
      dsimp only at hz
      have hr0:r=[]:=by
        have:=he
        rw [hz] at this
        simpa using this
      subst hr0
      have hst:=hT.st
      dsimp only at hst
      obtain ⟨he1,he2,he3⟩:=hst.blk e0 (by simp)
      have hrow:=hst.row e0 (by simp)
      have hln:=hT.link
      have hbp:e0.b=pb:=hT.last e0 rfl
      obtain ⟨hpg,h33⟩:e0.pg=true∧e0.hd[33]? = some (.bool false):=by
        have h0:=hst.pgs
        rw [pgL] at h0;exact h0
      obtain ⟨A,c,hsv,hnc,hcm⟩:=hrow.isSl
      have hfv:e0.full=e0.vs:=hln.1
      subst hbp
      (repeat ((try (conv=>whnf));(refine stQ ?_)))
      conv=>whnf
      refine ⟨_,rfl,e0.ms,?_,e0.b,e0.hd,A,c,e0.full,rfl,by rw [he2,hsv],he3,h33,hnc,hcm,?_,?_⟩
      · rw [hz];rfl
      · rw [hsv] at hrow;exact hrow.flat
      · rw [hfv];exact (hst.nodes e0 (by simp)).mono hst.fm
end Go.Proofs.YtkicdhaklnmonaaGreat
namespace Go.Proofs.YtkicdhaklnmonaaGreat
abbrev St:=Nat→Int
structure CellX where
  cov:Nat→Bool
  fill:Nat→St→St
  kn:Nat→Bool
  start:Nat→St→St
  grp:Nat→St→St→St
mutual
def covT (X:CellX):Tr→Bool
  | .fill i=>X.cov i
  | .group _ ms=>covL X ms
def covL (X:CellX):List Tr→Bool
  | []=>false
  | t::ts=>covT X t||covL X ts
end
mutual
def evT (X:CellX):Tr→St→St
  | .fill i,b=>X.fill i b
  | .group i ms,b=>X.grp i b (evL X (X.kn i) (X.start i b) ms (X.start i b))
def evL (X:CellX) (kn:Bool) (b0:St):List Tr→St→St
  | [],now=>now
  | t::ts,now=>evL X kn b0 ts (if covT X t=true then evT X t (if kn=true then b0 else now) else now)
end
inductive SpanL (K:Nat→Int):List Tr→Nat→Nat→Prop
  | nil (i:Nat):SpanL K [] i i
  | fill (i:Nat) (ts:List Tr) (j:Nat) (h:K i=0) (h2:SpanL K ts (i+1) j):SpanL K (.fill i::ts) i j
  | group (i:Nat) (ms:List Tr) (e:Nat) (ts:List Tr) (j:Nat) (h:K i=1) (h1:SpanL K ms (i+1) e) (h0:K e≠0) (h3:K e≠1) (h2:SpanL K ts (e+1) j):SpanL K (.group i ms::ts) i j
theorem SpanL.fillR {K:Nat→Int} {ms:List Tr} {i k:Nat} (h:SpanL K ms i k) (hk:K k=0):SpanL K (ms++[.fill k]) i (k+1):=by
  induction h with
  | nil i=>exact .fill i [] _ hk (.nil _)
  | fill i ts j h h2 ih=>exact .fill i _ _ h (ih hk)
  | group i ms e ts j h h1 h0 h3 h2 ih1 ih2=>exact .group i ms e _ _ h h1 h0 h3 (ih2 hk)
theorem SpanL.groupR {K:Nat→Int} {ms ms':List Tr} {i g k:Nat} (h:SpanL K ms i g) (hg:K g=1) (hms:SpanL K ms' (g+1) k) (h0:K k≠0) (h1:K k≠1):SpanL K (ms++[.group g ms']) i (k+1):=by
  induction h with
  | nil i=>exact .group i ms' k [] _ hg hms h0 h1 (.nil _)
  | fill i ts j h h2 ih=>exact .fill i _ _ h (ih hg hms)
  | group i ms e ts j h h1 h0 h3 h2 ih1 ih2=>exact .group i ms e _ _ h h1 h0 h3 (ih2 hg hms)
theorem SpanL.le {K:Nat→Int} {ms:List Tr} {i j:Nat} (h:SpanL K ms i j):i≤j:=by
  induction h with
  | nil i=>exact Nat.le_refl _
  | fill i ts j h h2 ih=>omega
  | group i ms e ts j h h1 h0 h3 h2 ih1 ih2=>omega
def z6o (K:Nat→Int):Nat→List (Nat × List Tr)→Prop
  | _,[]=>False
  | k,[(_,ms)]=>SpanL K ms 0 k
  | k,(i,ms)::q::r=>K i=1∧SpanL K ms (i+1) k∧z6o K i (q::r)
theorem x7q {K:Nat→Int} {n:Nat} (hd:∀ k,k<n→K k≠0→K k≠1→2≤(zst K k).length):∀ k,k≤n→z6o K k (zst K k)
  | 0,_=>.nil 0
  | k+1,hk=>by
    have ih:=x7q hd k (by omega)
    have hdk:=hd k (by omega)
    show z6o K (k+1) (q74 k (K k) (zst K k))
    generalize zst K k=s at *
    match s,ih with
    | [(i,ms)],ih =>
      have ih:SpanL K ms 0 k:=ih
      unfold q74
      dsimp only
      by_cases h0:K k=0
      · rw [if_pos h0];exact ih.fillR h0
      · rw [if_neg h0]
        by_cases h1:K k=1
        · rw [if_pos h1];exact ⟨h1,.nil _,ih⟩
        · have:=hdk h0 h1;simp at this
    | (i,ms)::(j,ms')::r,ih =>
      obtain ⟨g1,g2,g3⟩:K i=1∧SpanL K ms (i+1) k∧z6o K i ((j,ms')::r):=ih
      unfold q74
      dsimp only
      by_cases h0:K k=0
      · rw [if_pos h0];exact ⟨g1,g2.fillR h0,g3⟩
      · rw [if_neg h0]
        by_cases h1:K k=1
        · rw [if_pos h1];exact ⟨h1,.nil _,g1,g2,g3⟩
        · rw [if_neg h1]
          match r,g3 with
          | [],g3=>exact SpanL.groupR g3 g1 g2 h0 h1
          | q::r,g3 =>
            obtain ⟨k1,k2,k3⟩:K j=1∧SpanL K ms' (j+1) i∧z6o K j (q::r):=g3
            exact ⟨k1,SpanL.groupR k2 g1 g2 h0 h1,k3⟩
theorem x9w {K:Nat→Int} {n:Nat} (hd:∀ k,k<n→K k≠0→K k≠1→2≤(zst K k).length) {ms:List Tr} (h:(zst K n).map (·.2)=[ms]):SpanL K ms 0 n:=by
  have:=x7q hd n (Nat.le_refl _)
  generalize zst K n=s at *
  match s,h with
  | [(i,m)],h =>
    simp at h
    subst h;exact this
end Go.Proofs.YtkicdhaklnmonaaGreat
namespace Go.Proofs.YtkicdhaklnmonaaGreat
open Go.RowKit
set_option maxRecDepth 20000
def q5b (x0 x1 y:Int) (n:Nat):List Run:=(List.range n).map fun (i:Nat)=>⟨y+i,x0,x1⟩
theorem RunsM.take {G:Mem} {A:Option Addr} {L:List Run} (h:RunsM G A L) (n:Nat):RunsM G A (L.take n):=fun i r hr=>by
  rw [List.getElem?_take] at hr
  split at hr
  · exact h i r hr
  · cases hr
end Go.Proofs.YtkicdhaklnmonaaGreat
namespace Go.Proofs.YtkicdhaklnmonaaGreat
open Go.RowKit
set_option maxRecDepth 20000
section
variable {A:Option Addr} {L:List Run} {c:Nat} {G:Mem} {x y:Int}
def q4h:List Run→Int
  | []=>0
  | r::l=>(r.x1-r.x0)+q4h l
theorem z28:∀ (K L:List Run),q4h (K++L)=q4h K+q4h L
  | [],L=>by simp [q4h]
  | r::K,L=>by simp only [List.cons_append,q4h,z28 K L];omega
theorem x5a {i:Nat} {r:Run} (h:L[i]? = some r):q4h (L.take (i+1))=q4h (L.take i)+(r.x1-r.x0):=by
  rw [List.take_add_one,h,z28];simp [q4h]
theorem x1t:∀ {L:List Run},(∀ r∈L,0≤r.x1-r.x0∧r.x1-r.x0≤16384)→0≤q4h L∧q4h L≤16384*(L.length:Int)
  | [],_=>by simp [q4h]
  | r::l,h=>by
    have h1:=h r (by simp)
    have h2:=x1t (L:=l) (fun q hq=>h q (by simp [hq]))
    simp only [q4h,List.length_cons];omega
theorem v1g (v:ValidL L) (i:Nat):0≤q4h (L.take i)∧q4h (L.take i)≤16384*268451840:=by
  have h1:=x1t (L:=L.take i) (fun r hr=>by have:=v.bd (List.mem_of_mem_take hr);omega)
  have h2:=v.length
  have h3:(L.take i).length≤L.length:=by rw [List.length_take];omega
  omega
set_option maxHeartbeats 2000000 in
theorem x2p (hR:RunsM G A L) (v:ValidL L):Gives Tryz.prog 26 [.val (.slice A L.length c)] G (.val (.int .i64 (q4h L))):=by
  have hll:=v.length
  refine q01 tab_ok Tryz.func26 ?_
  (repeat ((try (conv=>whnf));(refine stQ ?_)))
  conv=>whnf
  refine q0w tab_ok (fun i=>i≤L.length) (fun (i:Nat)=>[(7,.val (.int .i64 i)),(3,.val (.int .i64 (q4h (L.take i))))]) (fun i=>[]) (fun i=>L.length-i) 0 (Nat.zero_le _) ?_ ?_
  · ((refine q0g ?_);(conv=>whnf);(refine q0k (by rfl) (by rfl) flQ ?_))
    exact q0f
  · rintro i hi
    have hab:=v1g v i
    rcases Nat.lt_or_ge i L.length with h1 |h1
    · obtain ⟨r,hr⟩:∃ r,L[i]? = some r:=⟨L[i],List.getElem?_eq_getElem h1⟩
      obtain ⟨p,rfl,q0,q1,q2⟩:=hR.at_ hr
      have hb:=v.bd (List.mem_of_getElem? hr)
      have htk:=x5a hr
      (repeat ((try (conv=>whnf));(first |(refine q0b _ q1 ?_) |(refine q0b _ q2 ?_) |(refine stQ ?_))))
      refine ⟨i+1,by omega,by omega,?_⟩
      rw [htk]
      ((refine q0g ?_);(conv=>whnf);(refine q0k (by rfl) (by rfl) flQ ?_))
      exact q0f
    · obtain rfl:i=L.length:=by omega
      (repeat ((try (conv=>whnf));(refine stQ ?_)))
      exact ⟨by rw [List.take_length],rfl⟩
end
end Go.Proofs.YtkicdhaklnmonaaGreat
namespace Go.Proofs.YtkicdhaklnmonaaGreat
open Go.RowKit
set_option maxRecDepth 20000
def bef (x y:Int) (r:Run):Bool:=decide (r.y<y∨(r.y=y∧r.x1≤x))
def cmpI (x y:Int) (r:Run):Int:=if bef x y r=true then -1 else 1
def cntB (x y:Int) (L:List Run):Nat:=(L.takeWhile (bef x y)).length
theorem z6p (x y:Int) (L:List Run):cntB x y L≤L.length:=by unfold cntB;exact (List.takeWhile_sublist _).length_le
theorem x1u {x y:Int}:∀ {L:List Run} {i:Nat} {r:Run},i<cntB x y L→L[i]? = some r→bef x y r=true
  | [],_,_,h,_=>by simp [cntB] at h
  | a::l,i,r,h,hr=>by
    unfold cntB at h
    rw [List.takeWhile_cons] at h
    split at h
    · rename_i ha
      cases i with
      | zero=>simp at hr;subst hr;exact ha
      | succ i=>exact x1u (L:=l) (i:=i) (by simpa [cntB] using h) (by simpa using hr)
    · simp at h
theorem x1v {x y:Int}:∀ {L:List Run} {r:Run},L[cntB x y L]? = some r→bef x y r=false
  | [],_,hr=>by simp at hr
  | a::l,r,hr=>by
    by_cases ha:bef x y a=true
    · have e:cntB x y (a::l)=cntB x y l+1:=by unfold cntB;rw [List.takeWhile_cons,if_pos ha];simp
      rw [e] at hr
      exact x1v (L:=l) (by simpa using hr)
    · have e:cntB x y (a::l)=0:=by unfold cntB;rw [List.takeWhile_cons,if_neg ha];rfl
      rw [e] at hr
      simp at hr;subst hr
      simpa using ha
theorem z29 {x y:Int} {L:List Run} (v:ValidL L) {i:Nat} {r:Run} (h:cntB x y L≤i) (hr:L[i]? = some r):bef x y r=false:=by
  rcases Nat.lt_or_ge (cntB x y L) i with h1 |h1
  · have hl:=(List.getElem?_eq_some_iff.1 hr).1
    have hq:L[cntB x y L]? = some (L[cntB x y L]'(by omega)):=List.getElem?_eq_getElem (by omega)
    have h2:=x1v hq
    have h3:=q9m v.ok h1 hq hr
    have h4:=v.bd (List.mem_of_getElem? hr)
    simp only [bef,decide_eq_false_iff_not] at h2 ⊢
    omega
  · have:i=cntB x y L:=by omega
    subst this;exact x1v hr
abbrev runA (r:Run):AV:=.agg [.val (.int .i64 r.y),.val (.int .i64 r.x0),.val (.int .i64 r.x1)]
theorem v2h (n:Int) (h:0≤n∧n≤9223372036854775807):IntKind.u64.wrap n=n:=by rw [IntKind.wrap_u64];omega
section
variable {A:Option Addr} {L:List Run} {c:Nat} {G:Mem} {x y:Int}
theorem x9x (z:Int):z.fdiv (2 ^ min (Int.toNat 1) IntKind.u64.bits)=z/2:=by
  rw [show ((2:Int) ^ min (Int.toNat 1) IntKind.u64.bits)=2 by decide]
  rw [Int.fdiv_eq_ediv_of_nonneg _ (by omega)]
theorem x9y {r:Run}:cmpI x y r<0↔bef x y r=true:=by unfold cmpI;split <;> simp_all
theorem v1h {r:Run}:cmpI x y r≠0:=by unfold cmpI;split <;> omega
/-! ### Bounds -/
end
end Go.Proofs.YtkicdhaklnmonaaGreat
