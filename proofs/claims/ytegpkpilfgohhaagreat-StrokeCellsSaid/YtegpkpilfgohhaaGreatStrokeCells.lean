/-
  StrokeCells: the law's walk.
-/
import Derived.Test.YtegpkpilfgohhaaGreatMrg20
import Derived.Test.YtegpkpilfgohhaaGreatStrokeW
import Derived.Test.YtegpkpilfgohhaaGreatMrg26
import Derived.Test.YtegpkpilfgohhaaGreatMrg15
import Derived.Test.YtegpkpilfgohhaaGreatMrg27
import Derived.Test.YtegpkpilfgohhaaGreatChainL
import Derived.Test.YtegpkpilfgohhaaGreatLinesM
set_option linter.unusedVariables false
set_option linter.unusedSimpArgs false
set_option linter.unnecessarySimpa false
namespace Go.Proofs.YtegpkpilfgohhaaGreat.strokeCells
open Go.RowKit
set_option maxRecDepth 20000
theorem z8y (s:Sty) (L:Nat→LineD):∀ k,∃ x0,x0≤k∧z11 s L x0∧(x0=k∨q3u (psL s (L x0))=false)
  | 0=>⟨0,Nat.le_refl _,(fun x hx=>absurd hx (Nat.not_lt_zero x)),.inl rfl⟩
  | k+1=>by
    obtain ⟨x0,h1,h2,h3⟩:=z8y s L k
    rcases h3 with rfl |h3
    · cases hb:q3u (psL s (L x0)) with
      | false=>exact ⟨x0,by omega,h2,.inr hb⟩
      | true =>
        refine ⟨x0+1,Nat.le_refl _,fun x hx=>?_,.inl rfl⟩
        rcases Nat.lt_or_ge x x0 with h |h
        · exact h2 x h
        · obtain rfl:x=x0:=by omega
          exact hb
    · exact ⟨x0,by omega,h2,.inr h3⟩
noncomputable def refP (s:Sty) (L:Nat→LineD):Nat→List (List (Int × Int))
  | 0=>[]
  | n+1=>refP s L n++(psL s (L n)).map orP
def refD (s:Sty) (L:Nat→LineD):Nat→List (Int × Int)
  | 0=>[]
  | n+1=>refD s L n++dsL s (L n)
theorem x77 {G:Mem} {A:Option Addr} {K:Nat→List Value→Prop} (k:K 0 []):SrcV G A 0 2 K:=⟨[],rfl,fun h=>absurd rfl h,by simp,k⟩
theorem x1p {rs:Nat→Run} {n:Nat} (v:Valid rs n):∀ k,k≤n→regV rs k=0
  | 0,_=>rfl
  | k+1,hk=>by
    have h:=x1p v k (by omega)
    have hb:=v.bd k (by omega)
    have hr:q52 rs k=0:=by
      unfold q52
      rw [if_neg (by omega),if_neg (by omega),if_neg]
      rintro ⟨h1,h2,h3⟩
      have:=v.lt (k-1) k (by omega) (by omega)
      omega
    unfold regV
    rw [if_neg (by omega)]
    exact hr
theorem x78 {L:List Run} (v:ValidL L):errL L=0:=x1p v L.length (Nat.le_refl _)
theorem z14 {s:Sty} {L:Nat→LineD}:∀ n,(∀ x,x<n→(L x).n≤8)→(refP s L n).length≤n*18
  | 0,_=>Nat.zero_le _
  | n+1,h=>by
    have h1:=z14 (s:=s) (L:=L) n fun x hx=>h x (by omega)
    have h3:=z04 (s:=s) (h n (by omega))
    rw [refP,List.length_append,List.length_map];omega
theorem z15 {s:Sty} {L:Nat→LineD}:∀ n,(∀ x,x<n→(L x).n≤8)→(refD s L n).length≤n*10
  | 0,_=>Nat.zero_le _
  | n+1,h=>by
    have h1:=z15 (s:=s) (L:=L) n fun x hx=>h x (by omega)
    have h3:=z05 (s:=s) (h n (by omega))
    rw [refD,List.length_append];omega
theorem x6o {ps qs:List (List (Int × Int))} {ds es:List (Int × Int)} {w u v:Int}:q8v (ps++qs) (ds++es) w u v↔q8v ps ds w u v∨q8v qs es w u v:=by
  unfold q8v
  constructor
  · rintro (⟨p,hp,h⟩ |⟨c,hc,h⟩)
    · rcases List.mem_append.1 hp with hp |hp
      · exact .inl (.inl ⟨p,hp,h⟩)
      · exact .inr (.inl ⟨p,hp,h⟩)
    · rcases List.mem_append.1 hc with hc |hc
      · exact .inl (.inr ⟨c,hc,h⟩)
      · exact .inr (.inr ⟨c,hc,h⟩)
  · rintro ((⟨p,hp,h⟩ |⟨c,hc,h⟩) |(⟨p,hp,h⟩ |⟨c,hc,h⟩))
    · exact .inl ⟨p,List.mem_append_left _ hp,h⟩
    · exact .inr ⟨c,List.mem_append_left _ hc,h⟩
    · exact .inl ⟨p,List.mem_append_right _ hp,h⟩
    · exact .inr ⟨c,List.mem_append_right _ hc,h⟩
theorem x1q {s:Sty} {L:Nat→LineD} {u v:Int} (hw:1≤s.w∧s.w≤1024):∀ n,hasR (stkR s L n) u v↔q28 u v∧q8v (refP s L n) (refD s L n) s.w u v
  | 0=>⟨fun h=>absurd h q3a,fun ⟨_,h⟩=>by
    rcases h with ⟨p,hp,_⟩ |⟨p,hp,_⟩ <;> cases hp⟩
  | n+1=>by
    rw [stkR,q20,x1q hw n,x58 hw,refP,refD,x6o]
    constructor
    · rintro (⟨h1,h2⟩ |⟨h1,h2⟩)
      · exact ⟨h1,.inl h2⟩
      · exact ⟨h1,.inr h2⟩
    · rintro ⟨h1,h2 |h2⟩
      · exact .inl ⟨h1,h2⟩
      · exact .inr ⟨h1,h2⟩
theorem x1r {s:Sty} {L:Nat→LineD}:∀ n,z11 s L n→∀ q∈refP s L n,q1n (lnPt q) 1=true∧q.length≤4
  | 0,_,q,h=>by cases h
  | n+1,ha,q,h=>by
    rw [refP,List.mem_append] at h
    rcases h with h |h
    · exact x1r n (fun x hx=>ha x (by omega)) q h
    · obtain ⟨p,hp,rfl⟩:=List.mem_map.1 h
      refine ⟨x8j ?_,by rw [z3u];exact q78 p hp⟩
      obtain ⟨k,hk⟩:=List.getElem?_of_mem hp
      have hk2:=(List.getElem?_eq_some_iff.1 hk).1
      rw [q1m hk2] at hk
      cases hk
      rw [← z9i (.slice none 0 0)]
      exact q95 (ha n (by omega)) hk2 _
theorem x3f {s:Sty} {L:Nat→LineD}:∀ n,(∀ x,x<n→∀ i,i<(L x).n→okP (xyL (L x) i))→∀ q∈refD s L n,okP q
  | 0,_,q,h=>by cases h
  | n+1,ha,q,h=>by
    rw [refD,List.mem_append] at h
    rcases h with h |h
    · exact x3f n (fun x hx=>ha x (by omega)) q h
    · exact x6h (ha n (by omega)) q h
section
variable {G:Mem} {A:Option Addr} {n q:Nat} {L:Nat→LineD} {s:Sty} {x y:Int}
set_option maxHeartbeats 16000000 in
theorem body (hL:LinesM G A n L) (hn:n≤q∧q≤maxLen) :
    q4f Tryz.prog tab 0 Tryz.f3 [.val (.slice A n q),styA s,.val (.int .i64 x),.val (.int .i64 y)] [] G fun v _ _=>v=.val (.bool true):=by
  have hst:=fun G=>z85 (G:=G)
  have hsc:=fun G=>x0y (G:=G) (s:=s)
  have hn1:n≤maxLen:=Nat.le_trans hn.1 hn.2
  have hfw:=x6l (c:=q) hL hn1
  (repeat ((try (conv=>whnf));(first |(refine stQ ?_) |(with_reducible first |refine q0b (fun vs w=>by kernel_rfl) (by kernel_rfl) ((hst G)) ?_ |refine q0a (fun vs w=>by kernel_rfl) (by kernel_rfl) ((hst G)) ?_))))
  conv=>whnf
  refine q5l (fun vs w=>by kernel_rfl) (.alone fun _=>rfl) (by kernel_rfl) hfw fun B c1 G1 hG1 hc1 hm1 hx1=>?_
  have hl:=x6k hL hG1 hx1
  have hk4:min n 4≤4:=Nat.min_le_right _ _
  have h8:∀ x,x<min n 4→(fewL L x).n≤8:=fun x hx=>Nat.min_le_right _ _
  clear hx1 hL hfw
  generalize min n 4=k at *
  generalize fewL L=M at *
  have hkm:k≤maxLen:=by unfold maxLen;omega
  have hLc:=fun G2 (h:G1.le G2)=>q6i (c:=c1) (hl.mono h) hkm
  by_cases he:styE s=0
  · rw [he] at hsc
    cases hb:q1n M k
    · have h1:=x6i (c:=c1) (s:=s) hl hkm he hb
      rw [show q16 M k=3 by unfold q16;rw [hb];rfl] at hLc
      have hLc1:=hLc G1 (Mem.le_refl _)
      rcases Nat.eq_zero_or_pos k with h0 |h0
      all_goals (
        (repeat ((try (conv=>whnf));(first |(with_reducible refine q01 tab_ok ?_) |(refine stQ ?_) |(with_reducible first |refine q0b (fun vs w=>by kernel_rfl) (by kernel_rfl) (h1) ?_ |refine q0a (fun vs w=>by kernel_rfl) (by kernel_rfl) (h1) ?_ |refine q0b (fun vs w=>by kernel_rfl) (by kernel_rfl) ((hsc G1)) ?_ |refine q0a (fun vs w=>by kernel_rfl) (by kernel_rfl) ((hsc G1)) ?_ |refine q0b (fun vs w=>by kernel_rfl) (by kernel_rfl) (hLc1) ?_ |refine q0a (fun vs w=>by kernel_rfl) (by kernel_rfl) (hLc1) ?_))))
        conv=>whnf
        simp)
    · rw [show q16 M k=0 by unfold q16;rw [hb];rfl] at hLc
      have h1:=x1j (c:=c1) (s:=s) hl (by omega) h8 he hb
      (repeat ((try (conv=>whnf));(refine stQ ?_)))
      conv=>whnf
      refine q2d (fun vs w=>by kernel_rfl) (by rfl) h1 fun v G2 hG2 hu hv=>?_
      obtain ⟨x0,g1,g2,g3⟩:=z8y s M k
      obtain ⟨RA,rl,rc,ee,rfl,hyes,hno⟩:∃ RA rl rc ee,v=.tup [.val (.slice RA rl rc),.val (.int .i64 ee)]∧(x0=k→ee=0∧rl=(q38 (stkR s M k)).length∧RunsM G2 RA (q38 (stkR s M k))∧rl≤rc∧rc≤maxLen)∧(x0≠k→ee=10∧rl=0):=by
        rcases hv with ⟨ha,A',c',rfl,h3,h4,h5⟩ |⟨ha,rfl⟩
        · refine ⟨_,_,_,_,rfl,fun _=>⟨rfl,rfl,h3,h4,h5⟩,fun hx=>?_⟩
          rcases g3 with g3 |g3
          · exact absurd g3 hx
          · rw [ha x0 (by omega)] at g3;cases g3
        · refine ⟨_,_,_,_,rfl,fun hx=>absurd (hx ▸ g2) ha,fun _=>⟨rfl,rfl⟩⟩
      have hLc2:=hLc G2 hG2
      (repeat ((try (conv=>whnf));(first |(refine stQ ?_) |(with_reducible first |refine q0b (fun vs w=>by kernel_rfl) (by kernel_rfl) ((hsc G2)) ?_ |refine q0a (fun vs w=>by kernel_rfl) (by kernel_rfl) ((hsc G2)) ?_ |refine q0b (fun vs w=>by kernel_rfl) (by kernel_rfl) (hLc2) ?_ |refine q0a (fun vs w=>by kernel_rfl) (by kernel_rfl) (hLc2) ?_))))
      conv=>whnf
      refine q3h tab_ok (ι:=Nat × Mem × (Nat→Value)) (fun t=>t.1≤k∧t.1≤x0+1∧G2.le t.2.1∧OutP t.2.1 t.2.2 (refP s M (min t.1 x0))) (fun t=>[(14,.val (.int .i64 t.1)),(11,.val (.int .i64 (if t.1=x0+1 then 10 else 0))),(12,.own 1),(13,.own 2)])
        (fun t=>[styB s,.own 37 2 (refP s M (min t.1 x0)).length (rowV t.2.2 (refP s M (min t.1 x0))),.own 43 2 (refD s M t.1).length (q0s (refD s M t.1))]) (fun t=>t.2.1) (fun t=>k-t.1) (0,G2,fun _=>.slice none 0 0) ⟨Nat.zero_le _,Nat.zero_le _,Mem.le_refl _,by dsimp only;rw [Nat.zero_min];exact fun k hk=>absurd hk (Nat.not_lt_zero k)⟩ ?_ ?_
      · refine q15 37 2 ?_
        conv=>whnf
        refine q15 43 2 ?_
        conv=>whnf
        dsimp only
        rw [Nat.zero_min,if_neg (by omega)]
        ((refine q0g ?_);(conv=>whnf);(refine q0h (by rfl) (by rfl) flQ ?_))
        exact q0c (by exact flQ) (q0d rfl rfl (q0d rfl rfl q0e))
      · rintro ⟨i,M1,Bv⟩ ⟨hi,hi0,hM1,hP⟩
        dsimp only at hi hi0 hM1 hP ⊢
        rcases (show (i<x0∧i<k)∨(i=x0∧i=k)∨(i=x0∧i<k)∨i=x0+1 by omega) with ⟨i1,i2⟩ |⟨i1,i2⟩ |⟨i1,i2⟩ |i1
        · rw [if_neg (by omega)]
          obtain ⟨p,rfl,z0⟩:=(hl.mono (Mem.le_trans hG2 hM1)).rows.cells i2
          have z1:=fun (K:List Value→Prop) (k:K [.slice (M i).A (M i).n (M i).q,.bool (M i).cl])=>z0 K k
          have ho:q3u (psL s (M i))=true:=g2 i i1
          have hsh:=q78 (s:=s) (l:=M i)
          have hcnt:=z04 (s:=s) (h8 i i2)
          have hdnt:=z05 (s:=s) (h8 i i2)
          have hrP:refP s M (min (i+1) x0)=refP s M (min i x0)++(psL s (M i)).map orP:=by rw [show min (i+1) x0=i+1 by omega,show min i x0=i by omega];rfl
          have hrD:refD s M (i+1)=refD s M i++dsL s (M i):=rfl
          have hlP:=z14 (s:=s) (L:=M) (min i x0) fun y hy=>h8 y (by omega)
          have hlD:=z15 (s:=s) (L:=M) i fun y hy=>h8 y (by omega)
          have hR:=z0y (q:=(M i).q) (cl:=(M i).cl) (P:=xyL (M i)) ((hl.mono (Mem.le_trans hG2 hM1)).pts i i2) (by have:=h8 i i2;omega) (fun j hj=>q2u (q2v hb i i2 j hj)) (q6t he)
          change q4y _ _ _ _ (OutR (psL s (M i)) (dsL s (M i))) at hR
          generalize psL s (M i)=ps at *
          generalize dsL s (M i)=ds at *
          generalize refP s M (min i x0)=qs at *
          generalize refD s M i=es at *
          (repeat ((try (conv=>whnf));(first |(with_reducible refine z3c tab_ok (by kernel_rfl) [0,1,2,3,4] [] [5,6,8,7,9,10] [8] (by decide +kernel) ?_) |((refine q0n (by rfl) ?_ ?_);(· first |exact Mem.le_refl _ |assumption)) |(refine z1 _ ?_) |(refine stQ ?_))))
          conv=>whnf
          refine q2d (fun vs w=>by kernel_rfl) (by rfl) hR fun v3 G3 hG3 hu3 hv3=>?_
          obtain ⟨A3,c3,B3,d3,a3,rfl,hpc3,hF3,hP3,hD3⟩:=hv3
          (repeat ((try (conv=>whnf));(first |((refine q0n (by rfl) ?_ ?_);(· first |exact Mem.le_refl _ |assumption)) |(refine stQ ?_))))
          conv=>whnf
          refine x0o (fun vs w=>by kernel_rfl) (z38 0) (by rfl) (z7h (c:=c3) hpc3 hF3 hP3 (fun k hk=>by have:=hsh _ (List.mem_of_getElem? (q1m hk));omega) ho (by omega)) fun A4 n4 c4 G4 hG4 hn4 hc4 hR4=>?_
          obtain ⟨rfl,V4,hV4⟩:=hR4
          have hpl:(ps.map orP).length=ps.length:=by simp
          have hsrc:=fun K k=>hV4.srcE (K:=K) k
          rw [hpl] at hsrc
          (repeat ((try (conv=>whnf));(first |(refine hsrc _ ?_) |(refine (hD3.mono hG4).srcE ?_) |(refine stQ ?_))))
          conv=>whnf
          refine ⟨(i+1,G4,appV Bv V4 qs.length),⟨by dsimp only;omega,by dsimp only;omega,Mem.le_trans hM1 (Mem.le_trans hG3 hG4),by dsimp only;rw [hrP];exact hP.app (Mem.le_trans hG3 hG4) hV4.p⟩,by dsimp only;omega,?_⟩
          dsimp only
          rw [if_neg (by omega),hrP,hrD]
          refine q0k 3 1 rfl rfl rfl rfl ?_
          conv=>whnf
          refine q0k 4 2 rfl rfl rfl rfl ?_
          conv=>whnf
          ((refine q0g ?_);(conv=>whnf);(refine q0h (by rfl) (by rfl) flQ ?_))
          exact q0c (by exact flQ) (q0d (by simp) (x76 Bv V4 qs (ps.map orP)).symm (q0d (by simp) (q03 es ds).symm q0e))
        · rw [if_neg (by omega)]
          obtain ⟨rfl,hrl,hRm,hrl2,hrc⟩:=hyes (by omega)
          have hRv:=x6b (z13 (s:=s) (L:=M) k)
          have hRl:=Nat.le_trans (x4a (stkR s M k)) (z12 (s:=s) (L:=M) k h8)
          have hRC:=x0t (c:=rc) (hRm.mono hM1) (by omega) hrc
          rw [x78 hRv,← hrl] at hRC
          obtain ⟨cx,hcx,hcxG⟩:=z3x x (-8192) 8191 (by omega)
          obtain ⟨cy,hcy,hcyG⟩:=z3x y (-8192) 8191 (by omega)
          (repeat ((try (conv=>whnf));(first |(refine stQ ?_) |(with_reducible first |refine q0b (fun vs w=>by kernel_rfl) (by kernel_rfl) (hRC) ?_ |refine q0a (fun vs w=>by kernel_rfl) (by kernel_rfl) (hRC) ?_ |refine q0b (fun vs w=>by kernel_rfl) (by kernel_rfl) ((hcxG M1)) ?_ |refine q0a (fun vs w=>by kernel_rfl) (by kernel_rfl) ((hcxG M1)) ?_ |refine q0b (fun vs w=>by kernel_rfl) (by kernel_rfl) ((hcyG M1)) ?_ |refine q0a (fun vs w=>by kernel_rfl) (by kernel_rfl) ((hcyG M1)) ?_))))
          conv=>whnf
          refine z3b 1 rfl rfl fun PA pc M2 hM2 hpn hpm hpF=>?_
          conv=>whnf
          refine z3b 2 rfl rfl fun DA dc M3 hM3 hdn hdm hdF=>?_
          conv=>whnf
          have hO:OutF M3 PA Bv (refP s M (min i x0)):=⟨hpF.mono hM3,hP.mono (Mem.le_trans hM2 hM3)⟩
          have hDP:PtsM M3 DA (refD s M i):=q5p hdF
          obtain ⟨dx,hdx,hdxG⟩:=z3x x (0-s.w) s.w (by have:=(q6t he).w;omega)
          obtain ⟨dy,hdy,hdyG⟩:=z3x y (0-s.w) s.w (by have:=(q6t he).w;omega)
          have hw:=(q6t he).w
          have hl3:=hl.mono (Mem.le_trans hG2 (Mem.le_trans hM1 (Mem.le_trans hM2 hM3)))
          have hM3':G2.le M3:=Mem.le_trans hM1 (Mem.le_trans hM2 hM3)
          refine q2k tab_ok (fun (a:Nat) (sp:List (Int × Int))=>a≤k∧(∀ q∈sp,(-40000≤q.1∧q.1≤40000)∧(-40000≤q.2∧q.2≤40000))∧sp.length≤1+8*a) (fun a sp=>[(97,.val (.int .i64 a)),(17,.own 4),(94,.any)])
            (fun a sp=>[styB s,.gone,.gone,.gone,.own 43 2 sp.length (q0s sp)]) (fun a sp=>k-a) 0 [(cx,cy)] ⟨Nat.zero_le _,(fun q hq=>by rw [List.mem_singleton] at hq;subst hq;dsimp only;omega),by simp⟩ ?_ ?_
          · refine x9o 3 2 1 rfl (by omega) ?_ rfl
            conv=>whnf
            refine mustP.mk (by unfold maxLen;omega) ?_
            conv=>whnf
            ((refine q0g ?_);(conv=>whnf);(refine q0h (by rfl) (by rfl) flQ ?_))
            exact q0c (by exact flQ) (q0j (q0j (q0j (q0d rfl rfl q0e))))
          · rintro a sp ⟨ha,hsp,hspl⟩
            rcases Nat.lt_or_ge a k with a1 |a1
            · have hP8:=h8 a a1
              have hPt:=hl3.pts a a1
              have hok:=q2v hb a a1
              obtain ⟨p,rfl,z0⟩:=hl3.rows.cell (x:=a) (j:=0) a1 rfl
              (repeat ((try (conv=>whnf));(first |(refine q0q _ z0 ?_) |(refine stQ ?_))))
              conv=>whnf
              refine q2k tab_ok (fun (j:Nat) (sp:List (Int × Int))=>j≤(M a).n∧(∀ q∈sp,(-40000≤q.1∧q.1≤40000)∧(-40000≤q.2∧q.2≤40000))∧sp.length≤1+8*a+j) (fun j sp=>[(106,.val (.int .i64 j)),(17,.own 4)])
                (fun j sp=>[styB s,.gone,.gone,.gone,.own 43 2 sp.length (q0s sp)]) (fun j sp=>(M a).n-j) 0 sp ⟨Nat.zero_le _,hsp,hspl⟩ ?_ ?_
              · ((refine q0g ?_);(conv=>whnf);(refine q0h (by rfl) (by rfl) flQ ?_))
                exact q0c (by exact flQ) (q0j (q0j (q0j (q0d rfl rfl q0e))))
              · clear hsp hspl
                rintro j sp ⟨hj,hsp,hspl⟩
                rcases Nat.lt_or_ge j (M a).n with j1 |j1
                · obtain ⟨pp,epp,w0⟩:=hPt.cells j1
                  have w1:=fun (K:List Value→Prop) (k:K [.int .i64 ((M a).X j),.int .i64 ((M a).Y j)])=>w0 K k
                  have hxy:=q2u (hok j j1)
                  rw [epp] at z0
                  generalize (M a).X j=px at *
                  generalize (M a).Y j=py at *
                  (repeat ((try (conv=>whnf));(first |(refine q0q _ z0 ?_) |(refine w1 _ ?_) |(refine stQ ?_) |(with_reducible first |refine q0b (fun vs w=>by kernel_rfl) (by kernel_rfl) ((hdxG M3)) ?_ |refine q0a (fun vs w=>by kernel_rfl) (by kernel_rfl) ((hdxG M3)) ?_ |refine q0b (fun vs w=>by kernel_rfl) (by kernel_rfl) ((hdyG M3)) ?_ |refine q0a (fun vs w=>by kernel_rfl) (by kernel_rfl) ((hdyG M3)) ?_))))
                  conv=>whnf
                  refine ⟨j+1,sp++[(px+dx,py+dy)],⟨by omega,fun q hq=>?_,by rw [List.length_append,List.length_singleton];omega⟩,by omega,?_⟩
                  · rw [List.mem_append,List.mem_singleton] at hq
                    rcases hq with hq |rfl
                    · exact hsp q hq
                    · dsimp only;omega
                  refine q0k 7 4 rfl rfl rfl rfl ?_
                  conv=>whnf
                  ((refine q0g ?_);(conv=>whnf);(refine q0h (by rfl) (by rfl) flQ ?_))
                  exact q0c (by exact flQ) (q0j (q0j (q0j (q0d (by simp) (q03 sp [(px+dx,py+dy)]).symm q0e))))
                · obtain rfl:j=(M a).n:=by omega
                  (repeat ((try (conv=>whnf));(refine stQ ?_)))
                  conv=>whnf
                  refine ⟨a+1,sp,⟨by omega,hsp,by omega⟩,by omega,?_⟩
                  ((refine q0g ?_);(conv=>whnf);(refine q0h (by rfl) (by rfl) flQ ?_))
                  exact q0c (by exact flQ) (q0j (q0j (q0j (q0d rfl rfl q0e))))
            · obtain rfl:a=k:=by omega
              (repeat ((try (conv=>whnf));(refine stQ ?_)))
              conv=>whnf
              have hall:∀ u v,q28 u v→hasL (q38 (stkR s M a)) u v=(inPs (refP s M (min i x0)) u v||inDs (refD s M i) s.w u v):=fun u v hp=>by
                rw [show min i x0=a by omega,show i=a by omega,Bool.eq_iff_iff,hasL_iff,x6j,(x1c fun r hr=>(z13 (s:=s) (L:=M) a r hr).2.1).2,x1q hw]
                exact ⟨fun h=>h.2,fun h=>⟨hp,h⟩⟩
              have hIn:=fun u v (hp:q28 u v)=>z7g (c:=pc) (d:=dc) (w:=s.w) (x:=u) (y:=v) hO hDP ⟨hpn,hpm⟩ (fun q hq=>(x1r (s:=s) (L:=M) (min i x0) (fun y hy=>g2 y (by omega)) q hq).1) (fun q hq=>(x1r (s:=s) (L:=M) (min i x0) (fun y hy=>g2 y (by omega)) q hq).2) (x3f (s:=s) (L:=M) i fun y hy j hj=>q2u (q2v hb y (by omega) j hj)) (by have:=z14 (s:=s) (L:=M) (min i x0) fun y hy=>h8 y (by omega);omega) (by have:=z15 (s:=s) (L:=M) i fun y hy=>h8 y (by omega);omega) hw hp.1 hp.2
              have hHas:=fun u v=>x5p RA (q38 (stkR s M a)) rc u v M3 (hRm.mono hM3') (by omega)
              rw [← hrl] at hHas
              refine q07 tab_ok (fun j=>j≤sp.length) (fun (j:Nat)=>[(145,.val (.int .i64 j))]) (fun j=>[styB s,.gone,.gone,.gone,.own 43 2 sp.length (q0s sp)]) (fun j=>sp.length-j) 0 (Nat.zero_le _) ?_ ?_
              · ((refine q0g ?_);(conv=>whnf);(refine q0h (by rfl) (by rfl) flQ ?_))
                exact q0c (by exact flQ) (q0j (q0j (q0j (q0d rfl rfl q0e))))
              · rintro j hj
                rcases Nat.lt_or_ge j sp.length with j1 |j1
                · have hq:=hsp _ (List.mem_of_getElem? (q1h j1))
                  have c0:=fun (K:List Value→Prop) (k':K [.int .i64 (nthP sp j).1,.int .i64 (nthP sp j).2])=>x0q (l:=sp) (z:=(j:Int)) (i:=j) (by omega) j1 (K:=K) k'
                  generalize nthP sp j=qq at *
                  (repeat ((try (conv=>whnf));(first |(refine c0 _ ?_) |(refine stQ ?_))))
                  conv=>whnf
                  refine q07 tab_ok (fun t=>t≤9) (fun (t:Nat)=>[(23,.val (.int .i64 t))]) (fun t=>[styB s,.gone,.gone,.gone,.own 43 2 sp.length (q0s sp),ptBk qq]) (fun t=>9-t) 0 (Nat.zero_le _) ?_ ?_
                  · ((refine q0g ?_);(conv=>whnf);(refine q0h (by rfl) (by rfl) flQ ?_))
                    exact q0c (by exact flQ) (q0j (q0j (q0j (q0d rfl rfl (q0c (by exact flQ) q0e)))))
                  · rintro t ht
                    rcases Nat.lt_or_ge t 9 with t1 |t1
                    · have b1:=Int.tmod_lt_of_pos (t:Int) (show (0:Int)<3 by omega)
                      have b2:0≤(t:Int).tmod 3:=Int.tmod_nonneg _ (by omega)
                      have b3:(t:Int).tdiv 3=(t:Int)/3:=Int.tdiv_eq_ediv_of_nonneg (by omega)
                      have hPm:=x2d (G:=M3) (x:=qq.1+(t:Int).tmod 3-1) (y:=qq.2+(t:Int).tdiv 3-1)
                      by_cases hp:q28 (qq.1+(t:Int).tmod 3-1) (qq.2+(t:Int).tdiv 3-1)
                      · have hI:=hIn _ _ hp
                        have hH:=hHas (qq.1+(t:Int).tmod 3-1) (qq.2+(t:Int).tdiv 3-1)
                        rw [hall _ _ hp] at hH
                        rw [decide_eq_true hp] at hPm
                        generalize (inPs (refP s M (min i x0)) (qq.1+(t:Int).tmod 3-1) (qq.2+(t:Int).tdiv 3-1)||inDs (refD s M i) s.w (qq.1+(t:Int).tmod 3-1) (qq.2+(t:Int).tdiv 3-1))=bb at *
                        cases bb
                        · (repeat ((try (conv=>whnf));(first |(with_reducible refine z74 (by kernel_rfl) ?_) |(refine stQ ?_) |(with_reducible first |refine q0b (fun vs w=>by kernel_rfl) (by kernel_rfl) (hPm) ?_ |refine q0a (fun vs w=>by kernel_rfl) (by kernel_rfl) (hPm) ?_ |refine q0b (fun vs w=>by kernel_rfl) (by kernel_rfl) (hI) ?_ |refine q0a (fun vs w=>by kernel_rfl) (by kernel_rfl) (hI) ?_ |refine q0b (fun vs w=>by kernel_rfl) (by kernel_rfl) (hH) ?_ |refine q0a (fun vs w=>by kernel_rfl) (by kernel_rfl) (hH) ?_))))
                          conv=>whnf
                          refine ⟨t+1,by omega,by omega,?_⟩
                          ((refine q0g ?_);(conv=>whnf);(refine q0h (by rfl) (by rfl) flQ ?_))
                          exact q0c (by exact flQ) (q0j (q0j (q0j (q0d rfl rfl (q0c (by exact flQ) q0e)))))
                        · (repeat ((try (conv=>whnf));(first |(with_reducible refine z74 (by kernel_rfl) ?_) |(refine stQ ?_) |(with_reducible first |refine q0b (fun vs w=>by kernel_rfl) (by kernel_rfl) (hPm) ?_ |refine q0a (fun vs w=>by kernel_rfl) (by kernel_rfl) (hPm) ?_ |refine q0b (fun vs w=>by kernel_rfl) (by kernel_rfl) (hI) ?_ |refine q0a (fun vs w=>by kernel_rfl) (by kernel_rfl) (hI) ?_ |refine q0b (fun vs w=>by kernel_rfl) (by kernel_rfl) (hH) ?_ |refine q0a (fun vs w=>by kernel_rfl) (by kernel_rfl) (hH) ?_))))
                          conv=>whnf
                          refine ⟨t+1,by omega,by omega,?_⟩
                          ((refine q0g ?_);(conv=>whnf);(refine q0h (by rfl) (by rfl) flQ ?_))
                          exact q0c (by exact flQ) (q0j (q0j (q0j (q0d rfl rfl (q0c (by exact flQ) q0e)))))
                      · rw [decide_eq_false hp] at hPm
                        (repeat ((try (conv=>whnf));(first |(refine stQ ?_) |(with_reducible first |refine q0b (fun vs w=>by kernel_rfl) (by kernel_rfl) (hPm) ?_ |refine q0a (fun vs w=>by kernel_rfl) (by kernel_rfl) (hPm) ?_))))
                        conv=>whnf
                        refine ⟨t+1,by omega,by omega,?_⟩
                        ((refine q0g ?_);(conv=>whnf);(refine q0h (by rfl) (by rfl) flQ ?_))
                        exact q0c (by exact flQ) (q0j (q0j (q0j (q0d rfl rfl (q0c (by exact flQ) q0e)))))
                    · obtain rfl:t=9:=by omega
                      (repeat ((try (conv=>whnf));(refine stQ ?_)))
                      conv=>whnf
                      refine ⟨j+1,by omega,by omega,?_⟩
                      ((refine q0g ?_);(conv=>whnf);(refine q0h (by rfl) (by rfl) flQ ?_))
                      exact q0c (by exact flQ) (q0j (q0j (q0j (q0d rfl rfl q0e))))
                · obtain rfl:j=sp.length:=by omega
                  (repeat ((try (conv=>whnf));(refine stQ ?_)))
                  conv=>whnf
        · rw [if_neg (by omega)]
          obtain ⟨p,rfl,z0⟩:=(hl.mono (Mem.le_trans hG2 hM1)).rows.cells i2
          have z1:=fun (K:List Value→Prop) (k:K [.slice (M i).A (M i).n (M i).q,.bool (M i).cl])=>z0 K k
          have ho:q3u (psL s (M i))=false:=by rcases g3 with g3 |g3;(omega);(rw [i1];exact g3)
          have hsh:=q78 (s:=s) (l:=M i)
          have hcnt:=z04 (s:=s) (h8 i i2)
          have hdnt:=z05 (s:=s) (h8 i i2)
          have hrP:refP s M (min (i+1) x0)=refP s M (min i x0):=by rw [show min (i+1) x0=min i x0 by omega]
          have hrD:refD s M (i+1)=refD s M i++dsL s (M i):=rfl
          have hlP:=z14 (s:=s) (L:=M) (min i x0) fun y hy=>h8 y (by omega)
          have hlD:=z15 (s:=s) (L:=M) i fun y hy=>h8 y (by omega)
          have hR:=z0y (q:=(M i).q) (cl:=(M i).cl) (P:=xyL (M i)) ((hl.mono (Mem.le_trans hG2 hM1)).pts i i2) (by have:=h8 i i2;omega) (fun j hj=>q2u (q2v hb i i2 j hj)) (q6t he)
          change q4y _ _ _ _ (OutR (psL s (M i)) (dsL s (M i))) at hR
          generalize psL s (M i)=ps at *
          generalize dsL s (M i)=ds at *
          generalize refP s M (min i x0)=qs at *
          generalize refD s M i=es at *
          (repeat ((try (conv=>whnf));(first |(with_reducible refine z3c tab_ok (by kernel_rfl) [0,1,2,3,4] [] [5,6,8,7,9,10] [8] (by decide +kernel) ?_) |((refine q0n (by rfl) ?_ ?_);(· first |exact Mem.le_refl _ |assumption)) |(refine z1 _ ?_) |(refine stQ ?_))))
          conv=>whnf
          refine q2d (fun vs w=>by kernel_rfl) (by rfl) hR fun v3 G3 hG3 hu3 hv3=>?_
          obtain ⟨A3,c3,B3,d3,a3,rfl,hpc3,hF3,hP3,hD3⟩:=hv3
          (repeat ((try (conv=>whnf));(first |((refine q0n (by rfl) ?_ ?_);(· first |exact Mem.le_refl _ |assumption)) |(refine stQ ?_))))
          conv=>whnf
          have hb2:q1n (fun k=>lnV (.slice (a3 k) (nthL ps k).length (nthL ps k).length) (nthL ps k)) ps.length=false:=by rw [q93 (fun k=>.slice (a3 k) (nthL ps k).length (nthL ps k).length)];exact ho
          have hE:=x1k (c:=c3) (z6l hF3 hP3 (fun k hk=>by have:=hsh _ (List.mem_of_getElem? (q1m hk));omega)) (by unfold maxLen;omega) hb2
          (repeat ((try (conv=>whnf));(first |(refine x77 ?_) |(refine hD3.srcE ?_) |(refine stQ ?_) |(with_reducible first |refine q0b (fun vs w=>by kernel_rfl) (by kernel_rfl) (hE) ?_ |refine q0a (fun vs w=>by kernel_rfl) (by kernel_rfl) (hE) ?_))))
          conv=>whnf
          refine ⟨(i+1,G3,Bv),⟨by dsimp only;omega,by dsimp only;omega,Mem.le_trans hM1 hG3,by dsimp only;rw [hrP];exact hP.mono hG3⟩,by dsimp only;omega,?_⟩
          dsimp only
          rw [if_pos (by omega),hrP,hrD]
          refine q0k 3 1 rfl rfl rfl rfl ?_
          conv=>whnf
          refine q0k 4 2 rfl rfl rfl rfl ?_
          conv=>whnf
          ((refine q0g ?_);(conv=>whnf);(refine q0h (by rfl) (by rfl) flQ ?_))
          exact q0c (by exact flQ) (q0d rfl (by simp) (q0d (by simp) (q03 es ds).symm q0e))
        · rw [if_pos i1]
          obtain ⟨rfl,rfl⟩:=hno (by omega)
          rcases (show i<k∨i=k by omega) with i2 |i2
          all_goals (
            (repeat ((try (conv=>whnf));(refine stQ ?_)))
            conv=>whnf
            simp)
  · have h1:=x4f (A:=B) (n:=k) (c:=c1) (G:=G1) he
    rcases Nat.eq_zero_or_pos k with h0 |h0
    all_goals (
      (repeat ((try (conv=>whnf));(first |(with_reducible refine q01 tab_ok ?_) |(refine stQ ?_) |(with_reducible first |refine q0b (fun vs w=>by kernel_rfl) (by kernel_rfl) (h1) ?_ |refine q0a (fun vs w=>by kernel_rfl) (by kernel_rfl) (h1) ?_ |refine q0b (fun vs w=>by kernel_rfl) (by kernel_rfl) ((hsc G1)) ?_ |refine q0a (fun vs w=>by kernel_rfl) (by kernel_rfl) ((hsc G1)) ?_))))
      conv=>whnf
      simp)
end
theorem walk (A0:Option Addr) (n0:Nat) (q0:Nat) (g0:Nat→Nat→Value) (a1x0:Int) (a1x1:Int) (a1x2:Int) (a1x3:Int) (a2:Int) (a3:Int) (w:World) (c0:n0≤q0) (m0:q0≤maxLen) (s0:SliceG Tryz.prog w 37 A0 n0 g0) (w1x0:(Lit.int .i64 a1x0).wf=true) (w1x1:(Lit.int .i64 a1x1).wf=true) (w1x2:(Lit.int .i64 a1x2).wf=true) (w1x3:(Lit.int .i64 a1x3).wf=true) (w2:(Lit.int .i64 a2).wf=true) (w3:(Lit.int .i64 a3).wf=true) :
    Calls Tryz.prog 3 #[.slice A0 n0 q0,.agg #[.int .i64 a1x0,.int .i64 a1x1,.int .i64 a1x2,.int .i64 a1x3],.int .i64 a2,.int .i64 a3] w fun e w'=>e=.returned (.bool true)∧Below w.heap.size w w':=by
  obtain ⟨L,hL,_⟩:=x9q s0
  refine x81 tab_ok Tryz.func3 ?_ (body (s:=⟨a1x0,a1x1,a1x2,a1x3⟩) (x:=a2) (y:=a3) hL ⟨c0,m0⟩)
  rw [AV.rels]
  refine ⟨_,_,rfl,by rw [AV.rel],?_⟩
  rw [AV.rels]
  refine ⟨_,_,rfl,?_,q9a (β:=noName) [.int .i64 a2,.int .i64 a3]⟩
  rw [AV.rel]
  exact ⟨_,rfl,q9a (β:=noName) [.int .i64 a1x0,.int .i64 a1x1,.int .i64 a1x2,.int .i64 a1x3]⟩
end Go.Proofs.YtegpkpilfgohhaaGreat.strokeCells
