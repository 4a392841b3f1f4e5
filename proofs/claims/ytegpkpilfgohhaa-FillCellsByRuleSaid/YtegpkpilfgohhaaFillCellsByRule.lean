/-
  FillCellsByRule: the law's walk.
-/
import Derived.Test.YtegpkpilfgohhaaMrg10
import Derived.Test.YtegpkpilfgohhaaMrg15
import Derived.Test.YtegpkpilfgohhaaFilled
import Derived.Test.YtegpkpilfgohhaaMrg17
set_option linter.unusedVariables false
set_option linter.unusedSimpArgs false
set_option linter.unnecessarySimpa false
namespace Go.Proofs.Ytegpkpilfgohhaa.fillCellsByRule
open Go.RowKit
set_option maxRecDepth 20000
set_option maxHeartbeats 8000000 in
theorem body {A:Option Addr} {n q:Nat} {G:Mem} {L:Nat→LineD} {rule:Int} (hL:LinesM G A n L) (hn:n≤q∧q≤maxLen) :
    q40 Try.prog tab 0 Try.f3 [.val (.slice A n q),.val (.int .i64 rule)] [] G fun v _ _=>v=.val (.bool true):=by
  have hn1:n≤maxLen:=Nat.le_trans hn.1 hn.2
  have hfw:=z8k (c:=q) hL hn1
  (repeat ((try (conv=>whnf));(first |(refine stQ ?_) |(with_reducible first |refine q0f (fun vs w=>by kernel_rfl) (by kernel_rfl) (q9q) ?_ |refine q0h (fun vs w=>by kernel_rfl) (by kernel_rfl) (q9q) ?_))))
  conv=>whnf
  refine q2j (fun vs w=>by kernel_rfl) (.alone fun _=>rfl) (by kernel_rfl) hfw fun B c1 G1 hG1 hc1 hm1 hx1=>?_
  have hl:=z8j hL hG1 hx1
  have hcnt:cntN (fewL L) (min n 4)≤32:=Nat.le_trans (z6i _) (by omega)
  have hk4:min n 4≤4:=Nat.min_le_right _ _
  clear hx1 hL hfw
  generalize min n 4=k at *
  generalize fewL L=M at *
  have hkm:k≤maxLen:=by unfold maxLen;omega
  have hc:=q30 (c:=c1) hl hkm
  unfold q20 at hc
  by_cases hok:q1v M k=true∧(rule=0∨rule=1)
  · obtain ⟨hb,hr⟩:=hok
    rw [hb,if_pos rfl] at hc
    obtain ⟨odd,ho⟩:∃ odd:Bool,rule=if odd=true then 1 else 0:=by
      rcases hr with rfl |rfl
      · exact ⟨false,rfl⟩
      · exact ⟨true,rfl⟩
    have hF:=z68 (c:=c1) hl hkm hb (by omega) ho
    have hfd:=fun y0=>q54 (sel:=selB odd) (E:=q0p M k) (y0:=y0)
    have hel:=q1x (L:=M) k
    have hlb:=z19 (q23 hb)
    have hR:=fun G' (hG:G1.le G')=>z5c (odd:=odd) (c:=c1) (hl.mono hG) hkm hb (by omega)
    have hlen:(fil (selB odd) (q0p M k) (lowN M k) (q1y M k)).length≤1000000:=by
      unfold fil
      have h1:=(hfd (max (lowN M k) (-8192)) (min (q1y M k) 8192-max (lowN M k) (-8192)).toNat).2.1
      have h2:=Nat.mul_le_mul (show (min (q1y M k) 8192-max (lowN M k) (-8192)).toNat≤16384 by omega) (show (q0p M k).length≤32 by omega)
      omega
    generalize fil (selB odd) (q0p M k) (lowN M k) (q1y M k)=R at *
    cases odd
    · rw [if_neg (by simp)] at ho
      subst ho
      (repeat ((try (conv=>whnf));(refine stQ ?_)))
      conv=>whnf
      refine q2j (fun vs w=>by kernel_rfl) (q43 0) (by kernel_rfl) hF fun A2 c2 G2 hG2 hc2 hm2 hx2=>?_
      have r2:=RunsM.frozen hx2
      have hc':=q30 (c:=c1) (hl.mono hG2) hkm
      unfold q20 at hc'
      rw [hb,if_pos rfl] at hc'
      have hR':=hR G2 hG2
      (repeat ((try (conv=>whnf));(first |(refine stQ ?_) |(with_reducible first |refine q0f (fun vs w=>by kernel_rfl) (by kernel_rfl) (hc') ?_ |refine q0h (fun vs w=>by kernel_rfl) (by kernel_rfl) (hc') ?_))))
      conv=>whnf
      refine q2j (fun vs w=>by kernel_rfl) (.alone fun _=>rfl) (by kernel_rfl) hR' fun A3 c3 G3 hG3 hc3 hm3 hx3=>?_
      have hs:=q7i A2 A3 R c2 c3 G3 (r2.mono hG3) (RunsM.frozen hx3) (by omega)
      (repeat ((try (conv=>whnf));(first |(refine stQ ?_) |(with_reducible first |refine q0f (fun vs w=>by kernel_rfl) (by kernel_rfl) (hs) ?_ |refine q0h (fun vs w=>by kernel_rfl) (by kernel_rfl) (hs) ?_))))
      conv=>whnf
      try simp
    · rw [if_pos rfl] at ho
      subst ho
      (repeat ((try (conv=>whnf));(refine stQ ?_)))
      conv=>whnf
      refine q2j (fun vs w=>by kernel_rfl) (q43 0) (by kernel_rfl) hF fun A2 c2 G2 hG2 hc2 hm2 hx2=>?_
      have r2:=RunsM.frozen hx2
      have hc':=q30 (c:=c1) (hl.mono hG2) hkm
      unfold q20 at hc'
      rw [hb,if_pos rfl] at hc'
      have hR':=hR G2 hG2
      (repeat ((try (conv=>whnf));(first |(refine stQ ?_) |(with_reducible first |refine q0f (fun vs w=>by kernel_rfl) (by kernel_rfl) (hc') ?_ |refine q0h (fun vs w=>by kernel_rfl) (by kernel_rfl) (hc') ?_))))
      conv=>whnf
      refine q2j (fun vs w=>by kernel_rfl) (.alone fun _=>rfl) (by kernel_rfl) hR' fun A3 c3 G3 hG3 hc3 hm3 hx3=>?_
      have hs:=q7i A2 A3 R c2 c3 G3 (r2.mono hG3) (RunsM.frozen hx3) (by omega)
      (repeat ((try (conv=>whnf));(first |(refine stQ ?_) |(with_reducible first |refine q0f (fun vs w=>by kernel_rfl) (by kernel_rfl) (hs) ?_ |refine q0h (fun vs w=>by kernel_rfl) (by kernel_rfl) (hs) ?_))))
      conv=>whnf
      try simp
  · have hF:=z9a (c:=c1) hl hkm hok
    cases hb:q1v M k
    · rw [hb,if_neg (by simp)] at hc hF
      (repeat' ((try (conv=>whnf));(first |(refine stQ ?_) |(with_reducible first |refine q0f (fun vs w=>by kernel_rfl) (by kernel_rfl) (hF) ?_ |refine q0h (fun vs w=>by kernel_rfl) (by kernel_rfl) (hF) ?_ |refine q0f (fun vs w=>by kernel_rfl) (by kernel_rfl) (hc) ?_ |refine q0h (fun vs w=>by kernel_rfl) (by kernel_rfl) (hc) ?_ |refine q3f (fun h0=>?_) (fun h0=>?_)))))
      all_goals first |(exfalso;omega;done) |((conv=>whnf);trivial) |((conv=>whnf);simp;done)
    · rw [hb,if_pos rfl] at hc hF
      have h0:¬ rule=0:=fun e=>hok ⟨hb,.inl e⟩
      have h1:¬ rule=1:=fun e=>hok ⟨hb,.inr e⟩
      (repeat ((try (conv=>whnf));(first |(refine stQ ?_) |(with_reducible first |refine q0f (fun vs w=>by kernel_rfl) (by kernel_rfl) (hF) ?_ |refine q0h (fun vs w=>by kernel_rfl) (by kernel_rfl) (hF) ?_ |refine q0f (fun vs w=>by kernel_rfl) (by kernel_rfl) (hc) ?_ |refine q0h (fun vs w=>by kernel_rfl) (by kernel_rfl) (hc) ?_))))
      first |((conv=>whnf);trivial) |((conv=>whnf);simp;done)
theorem walk (A0:Option Addr) (n0:Nat) (q0:Nat) (g0:Nat→Nat→Value) (a1:Int) (w:World) (c0:n0≤q0) (m0:q0≤maxLen) (s0:SliceG Try.prog w 35 A0 n0 g0) (w1:(Lit.int .i64 a1).wf=true) :
    Calls Try.prog 3 #[.slice A0 n0 q0,.int .i64 a1] w fun e w'=>e=.returned (.bool true)∧Below w.heap.size w w':=by
  obtain ⟨L,hL,hLn⟩:=x0d s0
  refine z90 tab_ok Try.func3 ?_ (body (rule:=a1) hL ⟨c0,m0⟩)
  · exact q8n (β:=noName) [.slice A0 n0 q0,.int .i64 a1]
end Go.Proofs.Ytegpkpilfgohhaa.fillCellsByRule
