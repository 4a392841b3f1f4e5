/-
  The reference's Filled.
-/
import Derived.Test.YtegpkpilfgohhaaFilRow
import Derived.Test.YtegpkpilfgohhaaMrg16
import Derived.Test.YtegpkpilfgohhaaArg
import Derived.Test.YtegpkpilfgohhaaFreeze
set_option linter.unusedVariables false
set_option linter.unusedSimpArgs false
set_option linter.unnecessarySimpa false
namespace Go.Proofs.Ytegpkpilfgohhaa
open Go.RowKit
set_option maxRecDepth 20000
theorem RunsM.flatF {G:Mem} {A:Option Addr} {L:List Run} (h:RunsM G A L) (hne:L≠[]):∃ p:Addr,A=some p∧∀ K:List Value→Prop,K (q0x L)→OldCells G p (L.length*3) K:=by
  cases L with
  | nil=>exact absurd rfl hne
  | cons r l =>
    obtain ⟨b,off,rfl,_⟩:=h 0 r (by simp)
    refine ⟨_,rfl,fun K k=>q3w _ (q13 _) (fun j u hj=>?_) k⟩
    have hlt:=(List.getElem?_eq_some_iff.1 hj).1
    rw [q13] at hlt
    obtain ⟨q,hq⟩:∃ q,(r::l)[j/3]? = some q:=⟨_,List.getElem?_eq_getElem (by omega)⟩
    obtain ⟨b',off',he,c0,c1,c2⟩:=h (j/3) q hq
    cases he
    obtain ⟨d0,d1,d2⟩:=q82 hq
    rw [q0r]
    have hm:j%3=0∨j%3=1∨j%3=2:=by omega
    rcases hm with h0 |h0 |h0
    · have e:j/3*3=j:=by omega
      rw [e] at c0 d0;rw [hj] at d0;cases d0;exact c0
    · have e:j/3*3+1=j:=by omega
      rw [Nat.add_assoc,e] at c1;rw [e] at d1;rw [hj] at d1;cases d1;exact c1
    · have e:j/3*3+2=j:=by omega
      rw [Nat.add_assoc,e] at c2;rw [e] at d2;rw [hj] at d2;cases d2;exact c2
theorem RunsM.srcF {G:Mem} {A:Option Addr} {L:List Run} (h:RunsM G A L) {K:Nat→List Value→Prop} (k:K L.length (q0x L)):SrcV G A L.length 3 K:=by
  refine ⟨q0x L,q13 L,fun hn=>?_,z66,k⟩
  obtain ⟨p,h1,h2⟩:=h.flatF (by intro e;subst e;simp at hn)
  obtain ⟨vs,⟨h3,h4⟩,h5⟩:=h2 (fun vs=>vs=q0x L) rfl
  exact ⟨p,h1,h5 ▸ h4⟩
theorem z6h {Y:Nat→Int} {s:Int} (hs:-32767≤s∧s≤32767):∀ {i:Nat},(∀ j,j<i→-32767≤Y j∧Y j≤32767)→-32767≤lowL Y s i∧lowL Y s i≤32767
  | 0,_=>hs
  | i+1,h=>by
    have h1:=z6h hs (i:=i) (fun j hj=>h j (by omega))
    have h2:=h i (by omega)
    rw [lowL];omega
theorem z5b {Y:Nat→Int} {s:Int} (hs:-32767≤s∧s≤32767):∀ {i:Nat},(∀ j,j<i→-32767≤Y j∧Y j≤32767)→-32767≤q3z Y s i∧q3z Y s i≤32767
  | 0,_=>hs
  | i+1,h=>by
    have h1:=z5b hs (i:=i) (fun j hj=>h j (by omega))
    have h2:=h i (by omega)
    rw [q3z];omega
theorem z19 {L:Nat→LineD}:∀ {n:Nat},(∀ x,x<n→∀ i,i<(L x).n→okXY ((L x).X i) ((L x).Y i)=true)→(-32767≤lowN L n∧lowN L n≤32767)∧(-32767≤q1y L n∧q1y L n≤32767)
  | 0,_=>by rw [lowN,q1y];omega
  | n+1,h=>by
    obtain ⟨h1,h2⟩:=z19 (L:=L) (n:=n) (fun x hx=>h x (by omega))
    rw [lowN,q1y]
    exact ⟨z6h h1 fun j hj=>(q16 (h n (by omega) j hj)).2,z5b h2 fun j hj=>(q16 (h n (by omega) j hj)).2⟩
section
variable {G:Mem} {A:Option Addr} {n c:Nat} {L:Nat→LineD} {odd:Bool}
set_option maxHeartbeats 16000000 in
theorem z5c (h:LinesM G A n L) (hn:n≤maxLen) (hb:q1v L n=true) (hcnt:cntN L n≤39) :
    q6o Try.prog 10 [.val (.slice A n c),.val (.bool odd)] G id 60 3 (fil (selB odd) (q0p L n) (lowN L n) (q1y L n)).length (q0x (fil (selB odd) (q0p L n) (lowN L n) (q1y L n))):=by
  have hok:=q23 hb
  have hn':n≤9223372036854775807:=by unfold maxLen at hn;omega
  obtain ⟨hlo,hhi⟩:=z19 hok
  have hel:=q1x (L:=L) n
  refine q4r tab_ok Try.func10 (.alone fun _=>rfl) ?_
  (repeat ((try (conv=>whnf));(refine stQ ?_)))
  conv=>whnf
  refine q00 tab_ok (fun k=>k≤n) (fun (k:Nat)=>[(13,.val (.int .i64 k)),(5,.val (.int .i64 (lowN L k))),(6,.val (.int .i64 (q1y L k)))]) (fun k=>[]) (fun k=>n-k) 0 (Nat.zero_le _) ?_ ?_
  · ((refine q0d ?_);(conv=>whnf);(refine q0e (by rfl) (by rfl) flQ ?_))
    exact q0b
  · rintro k hk
    rcases Nat.lt_or_ge k n with h1 |h1
    · obtain ⟨p,rfl,c0⟩:=h.rows.cell (x:=k) (j:=0) h1 rfl
      have hp:=h.pts k h1
      have hcap:=h.cap k h1
      unfold maxLen at hcap
      (repeat ((try (conv=>whnf));(first |(refine q07 _ c0 ?_) |(refine stQ ?_))))
      conv=>whnf
      refine q00 tab_ok (fun i=>i≤(L k).n) (fun (i:Nat)=>[(22,.val (.int .i64 i)),(5,.val (.int .i64 (lowL (L k).Y (lowN L k) i))),(6,.val (.int .i64 (q3z (L k).Y (q1y L k) i)))]) (fun i=>[]) (fun i=>(L k).n-i) 0 (Nat.zero_le _) ?_ ?_
      · ((refine q0d ?_);(conv=>whnf);(refine q0e (by rfl) (by rfl) flQ ?_))
        exact q0b
      · rintro i hi
        rcases Nat.lt_or_ge i (L k).n with h2 |h2
        · obtain ⟨p2,hp2,c1⟩:=hp.cell (x:=i) (j:=1) h2 rfl
          rw [hp2] at c0
          have e1:lowL (L k).Y (lowN L k) (i+1)=min (lowL (L k).Y (lowN L k) i) ((L k).Y i):=rfl
          have e2:q3z (L k).Y (q1y L k) (i+1)=max (q3z (L k).Y (q1y L k) i) ((L k).Y i):=rfl
          rw [hp2]
          (repeat ((try (conv=>whnf));(first |(refine q07 _ c0 ?_) |(refine q07 _ c1 ?_) |(refine stQ ?_))))
          conv=>whnf
          refine ⟨i+1,by omega,by omega,?_⟩
          rw [e1,e2]
          ((refine q0d ?_);(conv=>whnf);(refine q0e (by rfl) (by rfl) flQ ?_))
          exact q0b
        · obtain rfl:i=(L k).n:=by omega
          (repeat ((try (conv=>whnf));(refine stQ ?_)))
          refine ⟨k+1,by omega,by omega,?_⟩
          ((refine q0d ?_);(conv=>whnf);(refine q0e (by rfl) (by rfl) flQ ?_))
          exact q0b
    · obtain rfl:k=n:=by omega
      have hrow:=fun y hy G' (hG:G.le G')=>z1j (y:=y) (odd:=odd) (c:=c) (h.mono hG) hn hb (by omega) hy
      have hfl:=fun d=>(q54 (sel:=selB odd) (E:=q0p L k) (y0:=max (lowN L k) (-8192)) d).2.1
      unfold fil
      generalize lowN L k=lo at *
      generalize q1y L k=hi at *
      generalize q0p L k=E at *
      (repeat ((try (conv=>whnf));(refine stQ ?_)))
      conv=>whnf
      refine z75 tab_ok (ι:=Nat × Mem) (fun s=>s.1≤(min hi 8192-max lo (-8192)).toNat∧G.le s.2) (fun s=>[(10,.val (.int .i64 (max lo (-8192)+s.1))),(9,.own 0)]) (fun s=>[.own 60 3 (filN (selB odd) E (max lo (-8192)) s.1).length (q0x (filN (selB odd) E (max lo (-8192)) s.1))]) (fun s=>s.2) (fun s=>(min hi 8192-max lo (-8192)).toNat-s.1) (0,G) ⟨Nat.zero_le _,Mem.le_refl _⟩ ?_ ?_
      · refine q4e 60 3 ?_
        conv=>whnf
        ((refine q0d ?_);(conv=>whnf);(refine q0e (by rfl) (by rfl) flQ ?_))
        exact q0a rfl rfl q0b
      · rintro ⟨d,M⟩ ⟨hd,hM⟩
        dsimp only at hd hM ⊢
        rcases Nat.lt_or_ge d (min hi 8192-max lo (-8192)).toNat with h2 |h2
        · have hr:=hrow (max lo (-8192)+d) (by omega) M hM
          have hfd:=hfl d
          have hrl:=(z6e (sel:=selB odd) (C:=q0g (max lo (-8192)+d) E) (y:=max lo (-8192)+d)).2.1
          have hcl:=q1c (max lo (-8192)+d) E
          have hmul:=Nat.mul_le_mul (show d≤16384 by omega) (show E.length≤39 by omega)
          (repeat ((try (conv=>whnf));(refine stQ ?_)))
          conv=>whnf
          refine q2j (fun vs w=>by kernel_rfl) (.alone fun _=>rfl) (by kernel_rfl) hr fun A1 c1 G1 hG1 hc1 hm1 hx1=>?_
          have hrm:=RunsM.frozen hx1
          (repeat ((try (conv=>whnf));(first |(refine hrm.srcF ?_) |(refine stQ ?_))))
          conv=>whnf
          refine ⟨(d+1,G1),⟨by dsimp only;omega,Mem.le_trans hM hG1⟩,by dsimp only;omega,?_⟩
          dsimp only
          refine q1a 1 0 rfl rfl rfl rfl ?_
          conv=>whnf
          ((refine q0d ?_);(conv=>whnf);(refine q0e (by rfl) (by rfl) flQ ?_))
          exact q0a (by rw [filN,List.length_append]) (by rw [filN,q1g]) q0b
        · obtain rfl:d=(min hi 8192-max lo (-8192)).toNat:=by omega
          (repeat ((try (conv=>whnf));(refine stQ ?_)))
          exact .inl ⟨0,rfl,rfl⟩
end
end Go.Proofs.Ytegpkpilfgohhaa
