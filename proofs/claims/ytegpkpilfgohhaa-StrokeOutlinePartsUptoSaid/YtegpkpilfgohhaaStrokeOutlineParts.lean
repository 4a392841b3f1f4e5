/-
  StrokeOutlineParts: the law's walk (the second form: the bulk is bounded).
-/
import Derived.Test.YtegpkpilfgohhaaMrg23
import Derived.Test.YtegpkpilfgohhaaOri
import Derived.Test.YtegpkpilfgohhaaMrg24
set_option linter.unusedVariables false
set_option linter.unusedSimpArgs false
set_option linter.unnecessarySimpa false
namespace Go.Proofs.Ytegpkpilfgohhaa.strokeOutlineParts
open Go.RowKit
set_option maxRecDepth 20000
theorem OutF.lns {M:Mem} {A:Option Addr} {B:Nat→Value} {ps:List (List (Int × Int))} (h:OutF M A B (ps.map orP)):∃ b q,LnsM M A ps.length (fun k=>orP (nthL ps k)) (fun _=>true) b q:=by
  have hl:(ps.map orP).length=ps.length:=by simp
  have hr:=h.row.els (sz:=2) (fun _ _=>rfl) (by omega)
  rw [hl] at hr
  refine ⟨fun k=>match B k with | .slice A _ _=>A |_=>none,fun k=>match B k with | .slice _ _ c=>c |_=>0,⟨hr.congr fun k hk=>?_,fun k hk=>?_⟩⟩
  · obtain ⟨A',c',e',_⟩:=h.pts k (by omega)
    rw [z5s hk] at e'
    rw [e']
  · obtain ⟨A',c',e',h',_⟩:=h.pts k (by omega)
    rw [z5s hk] at e' h'
    rw [e'];exact h'
section
variable {G:Mem} {A:Option Addr} {n q:Nat} {cl:Bool} {P:Nat→Int × Int} {s:Sty}
set_option maxHeartbeats 8000000 in
theorem body (h:ElsM G A 2 n fun i=>[.int .i64 (P i).1,.int .i64 (P i).2]) (hq:n≤q∧q≤maxLen) (hn:n≤1048576) :
    q3y Try.prog tab 0 Try.f4 [q5m A n q cl,styA s] [] G fun v _ _=>v=.val (.bool true):=by
  have hst:=fun G=>z35 (G:=G)
  have hsc:=fun G=>z5p (G:=G) (s:=s)
  by_cases he:styE s=0
  · rw [he] at hsc
    cases hb:q13 (lnOf A n q cl P) 1
    · have h1:=z70 (cl:=cl) (s:=s) h hq he hb
      (repeat ((try (conv=>whnf));(first |(refine stQ ?_) |(with_reducible first |refine q0b (fun vs w=>by kernel_rfl) (by kernel_rfl) ((hst G)) ?_ |refine q0a (fun vs w=>by kernel_rfl) (by kernel_rfl) ((hst G)) ?_ |refine q0b (fun vs w=>by kernel_rfl) (by kernel_rfl) ((hsc G)) ?_ |refine q0a (fun vs w=>by kernel_rfl) (by kernel_rfl) ((hsc G)) ?_ |refine q0b (fun vs w=>by kernel_rfl) (by kernel_rfl) (h1) ?_ |refine q0a (fun vs w=>by kernel_rfl) (by kernel_rfl) (h1) ?_))))
      conv=>whnf
      refine q3w 2 (xs:=[.slice A n q,.bool cl]) (fun vs w=>by kernel_rfl) rfl rfl rfl fun b G1 hG1 hc1=>?_
      conv=>whnf
      have hL:=q22 (c:=1) (q60 hG1 hc1 h hq) (by unfold maxLen;omega)
      rw [show q1p (lnOf A n q cl P) 1=3 by unfold q1p;rw [hb];rfl] at hL
      (repeat ((try (conv=>whnf));(first |(refine stQ ?_) |(with_reducible first |refine q0b (fun vs w=>by kernel_rfl) (by kernel_rfl) (hL) ?_ |refine q0a (fun vs w=>by kernel_rfl) (by kernel_rfl) (hL) ?_))))
      conv=>whnf
      simp
    · (repeat ((try (conv=>whnf));(first |(refine stQ ?_) |(with_reducible first |refine q0b (fun vs w=>by kernel_rfl) (by kernel_rfl) ((hst G)) ?_ |refine q0a (fun vs w=>by kernel_rfl) (by kernel_rfl) ((hst G)) ?_ |refine q0b (fun vs w=>by kernel_rfl) (by kernel_rfl) ((hsc G)) ?_ |refine q0a (fun vs w=>by kernel_rfl) (by kernel_rfl) ((hsc G)) ?_))))
      conv=>whnf
      refine q14 (fun vs w=>by kernel_rfl) (by rfl) (q8v (cl:=cl) (s:=s) h hq (by omega) he hb rfl rfl) fun v G1 hG1 hu hv=>?_
      have hok:=z67 hb
      have hR:=fun G' (hle:G.le G')=>z2s (q:=q) (cl:=cl) (h.mono hle) (by omega) hok (z66 he)
      have hsh:∀ r∈q1c s (nthP (q0s P n cl)) (q0s P n cl).length cl,r.length≤4:=q73
      have hlen:=z2u (s:=s) (P:=nthP (q0s P n cl)) (n:=(q0s P n cl).length) (cl:=cl)
      have hdn:=z2v (s:=s) (P:=nthP (q0s P n cl)) (n:=(q0s P n cl).length) (cl:=cl)
      have hsl:=q51 P n cl
      generalize q1c s (nthP (q0s P n cl)) (q0s P n cl).length cl=ps at *
      generalize q1l s (nthP (q0s P n cl)) (q0s P n cl).length cl=ds at *
      rcases hv with ⟨hpb,rfl⟩ |⟨hpb,A1,c1,B1,d1,Bv,rfl,hpc,hcm,hO,hD⟩
      · (repeat ((try (conv=>whnf));(first |(refine stQ ?_) |(with_reducible first |refine q0b (fun vs w=>by kernel_rfl) (by kernel_rfl) ((hsc G1)) ?_ |refine q0a (fun vs w=>by kernel_rfl) (by kernel_rfl) ((hsc G1)) ?_))))
        conv=>whnf
        refine q3w 2 (xs:=[.slice A n q,.bool cl]) (fun vs w=>by kernel_rfl) rfl rfl rfl fun b G2 hG2 hc2=>?_
        conv=>whnf
        have hL:=q22 (c:=1) (q60 (Mem.le_trans hG1 hG2) hc2 h hq) (by unfold maxLen;omega)
        rw [show q1p (lnOf A n q cl P) 1=0 by unfold q1p;rw [hb];rfl] at hL
        (repeat ((try (conv=>whnf));(first |(refine stQ ?_) |(with_reducible first |refine q0b (fun vs w=>by kernel_rfl) (by kernel_rfl) (hL) ?_ |refine q0a (fun vs w=>by kernel_rfl) (by kernel_rfl) (hL) ?_))))
        conv=>whnf
        refine q14 (fun vs w=>by kernel_rfl) (by rfl) (hR G2 (Mem.le_trans hG1 hG2)) fun v2 G3 hG3 hu2 hv2=>?_
        obtain ⟨A2,c2,B2,d2,a2,rfl,hpc2,hF2,hP2,hD2⟩:=hv2
        have hl8:∀ k,k<ps.length→(nthL ps k).length≤8:=fun k hk=>by have:=hsh _ (List.mem_of_getElem? (q11 hk));omega
        (repeat ((try (conv=>whnf));(refine stQ ?_)))
        conv=>whnf
        have hb2:q13 (fun k=>lnV (.slice (a2 k) (nthL ps k).length (nthL ps k).length) (nthL ps k)) ps.length=false:=by rw [q7i (fun k=>.slice (a2 k) (nthL ps k).length (nthL ps k).length)];exact hpb
        have hE:=z5r (c:=c2) (z18 hF2 hP2 hl8) (by unfold maxLen;omega) hb2
        (repeat ((try (conv=>whnf));(first |(refine stQ ?_) |(with_reducible first |refine q0b (fun vs w=>by kernel_rfl) (by kernel_rfl) (hE) ?_ |refine q0a (fun vs w=>by kernel_rfl) (by kernel_rfl) (hE) ?_))))
        conv=>whnf
        simp
      · (repeat ((try (conv=>whnf));(first |(refine stQ ?_) |(with_reducible first |refine q0b (fun vs w=>by kernel_rfl) (by kernel_rfl) ((hsc G1)) ?_ |refine q0a (fun vs w=>by kernel_rfl) (by kernel_rfl) ((hsc G1)) ?_))))
        conv=>whnf
        refine q3w 2 (xs:=[.slice A n q,.bool cl]) (fun vs w=>by kernel_rfl) rfl rfl rfl fun b G2 hG2 hc2=>?_
        conv=>whnf
        have hL:=q22 (c:=1) (q60 (Mem.le_trans hG1 hG2) hc2 h hq) (by unfold maxLen;omega)
        rw [show q1p (lnOf A n q cl P) 1=0 by unfold q1p;rw [hb];rfl] at hL
        (repeat ((try (conv=>whnf));(first |(refine stQ ?_) |(with_reducible first |refine q0b (fun vs w=>by kernel_rfl) (by kernel_rfl) (hL) ?_ |refine q0a (fun vs w=>by kernel_rfl) (by kernel_rfl) (hL) ?_))))
        conv=>whnf
        refine q14 (fun vs w=>by kernel_rfl) (by rfl) (hR G2 (Mem.le_trans hG1 hG2)) fun v2 G3 hG3 hu2 hv2=>?_
        obtain ⟨A2,c2,B2,d2,a2,rfl,hpc2,hF2,hP2,hD2⟩:=hv2
        have hl8:∀ k,k<ps.length→(nthL ps k).length≤8:=fun k hk=>by have:=hsh _ (List.mem_of_getElem? (q11 hk));omega
        (repeat ((try (conv=>whnf));(refine stQ ?_)))
        conv=>whnf
        refine z5k (fun vs w=>by kernel_rfl) (z0j 0) (by rfl) (z2w (c:=c2) hpc2 hF2 hP2 hl8 hpb (by omega)) fun A3 n3 c3 G4 hG4 hn3 hc3 hR3=>?_
        obtain ⟨rfl,b3,q3,hLn⟩:=hR3
        obtain ⟨b4,q4,hLm⟩:=OutF.lns (hO.mono (Mem.le_trans hG2 (Mem.le_trans hG3 hG4)))
        have hS1:=z17 (c:=c1) (d:=c3) hLm hLn (by omega) (fun i hi=>by unfold orP;have:=hl8 i hi;split <;> simp <;> omega)
        have hS2:=q4k (c:=d1) (d:=d2) (hD.mono (Mem.le_trans hG2 (Mem.le_trans hG3 hG4))) (hD2.mono hG4) (by omega)
        (repeat ((try (conv=>whnf));(first |(refine stQ ?_) |(with_reducible first |refine q0b (fun vs w=>by kernel_rfl) (by kernel_rfl) (hS1) ?_ |refine q0a (fun vs w=>by kernel_rfl) (by kernel_rfl) (hS1) ?_ |refine q0b (fun vs w=>by kernel_rfl) (by kernel_rfl) (hS2) ?_ |refine q0a (fun vs w=>by kernel_rfl) (by kernel_rfl) (hS2) ?_))))
        conv=>whnf
  · have h1:=z6b (A:=A) (n:=n) (q:=q) (cl:=cl) (G:=G) he
    (repeat ((try (conv=>whnf));(first |(refine stQ ?_) |(with_reducible first |refine q0b (fun vs w=>by kernel_rfl) (by kernel_rfl) ((hst G)) ?_ |refine q0a (fun vs w=>by kernel_rfl) (by kernel_rfl) ((hst G)) ?_ |refine q0b (fun vs w=>by kernel_rfl) (by kernel_rfl) ((hsc G)) ?_ |refine q0a (fun vs w=>by kernel_rfl) (by kernel_rfl) ((hsc G)) ?_ |refine q0b (fun vs w=>by kernel_rfl) (by kernel_rfl) (h1) ?_ |refine q0a (fun vs w=>by kernel_rfl) (by kernel_rfl) (h1) ?_))))
    conv=>whnf
    simp
end
theorem walk (A0x0:Option Addr) (n0x0:Nat) (q0x0:Nat) (g0x0:Nat→Nat→Value) (a0x1:Bool) (a1x0:Int) (a1x1:Int) (a1x2:Int) (a1x3:Int) (w:World) (c0x0:n0x0≤q0x0) (m0x0:q0x0≤maxLen) (s0x0:SliceG Try.prog w 58 A0x0 n0x0 g0x0) (w1x0:(Lit.int .i64 a1x0).wf=true) (w1x1:(Lit.int .i64 a1x1).wf=true) (w1x2:(Lit.int .i64 a1x2).wf=true) (w1x3:(Lit.int .i64 a1x3).wf=true) (u0:n0x0≤1048576) :
    Calls Try.prog 4 #[.agg #[.slice A0x0 n0x0 q0x0,.bool a0x1],.agg #[.int .i64 a1x0,.int .i64 a1x1,.int .i64 a1x2,.int .i64 a1x3]] w fun e w'=>e=.returned (.bool true)∧Below w.heap.size w w':=by
  have hp:=x0w s0x0
  refine x1e tab_ok Try.func4 ?_ (body (cl:=a0x1) (P:=fun i=>(valI (g0x0 i 0),valI (g0x0 i 1))) (s:=⟨a1x0,a1x1,a1x2,a1x3⟩) (x0w s0x0) ⟨c0x0,m0x0⟩ u0)
  rw [AV.rels]
  refine ⟨_,_,rfl,?_,?_⟩
  · rw [AV.rel]
    exact ⟨_,rfl,q4w (β:=noName) [.slice A0x0 n0x0 q0x0,.bool a0x1]⟩
  · rw [AV.rels]
    refine ⟨_,_,rfl,?_,q4w []⟩
    rw [AV.rel]
    exact ⟨_,rfl,q4w (β:=noName) [.int .i64 a1x0,.int .i64 a1x1,.int .i64 a1x2,.int .i64 a1x3]⟩
end Go.Proofs.Ytegpkpilfgohhaa.strokeOutlineParts
