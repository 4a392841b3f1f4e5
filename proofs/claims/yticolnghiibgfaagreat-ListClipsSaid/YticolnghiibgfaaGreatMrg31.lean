/-
  Merged: XRMem2, XRListAt, XSliceM.
-/
import Derived.Test.YticolnghiibgfaaGreatMrg30
import Derived.Test.YticolnghiibgfaaGreatMrg15
import Derived.Test.YticolnghiibgfaaGreatMrg19
set_option linter.unusedVariables false
set_option linter.unusedSimpArgs false
set_option linter.unnecessarySimpa false
namespace Go.Proofs.YticolnghiibgfaaGreat
open Go.RowKit
set_option maxRecDepth 20000
section
variable {I:Nat→ItemD} {R:Nat→List Run} {f:Nat→SrcF} {G:Mem} {W H:Int} {SA IA:Option Addr} {m sq n iq:Nat} {x y:Int}
set_option maxHeartbeats 8000000
theorem x2t (hI:ItemsM G IA n I) (hn:n≤1000000) {i:Nat} (hi:i<n) (h0:(I i).K=0) (hit:ItOk I f i) (hx:-8192≤x∧x<8192) (hy:-8192≤y∧y<8192)
    (hs:Gives Tryz.prog 89 [q3c (I i),.val (.int .i64 x),.val (.int .i64 y)] G (.tup [q1z (f i x y).1,.val (.int .i64 (f i x y).2)])) {b:St} (hb:q0s b) {nx:Int} :
    Gives Tryz.prog 58 [q2s W H SA m sq IA n iq,.val (.int .i64 i),.val (.int .i64 nx),stA b,.val (.int .i64 x),.val (.int .i64 y)] G (stA (q3i (I i).bl (I i).al (I i).ov (f i x y) b)):=by
  obtain ⟨hal,hbl,hsb⟩:=hit
  obtain ⟨hI8,hso⟩:=hsb x y hx hy
  obtain ⟨p,hpA,hc⟩:=hI i hi
  obtain ⟨P,hP⟩:∃ P,P=q3i (I i).bl (I i).al (I i).ov (f i x y) b:=⟨_,rfl⟩
  rw [← hP]
  unfold q3i at hP
  generalize (f i x y).1=V at *
  generalize (f i x y).2=so at *
  have hmul:=z7s (G:=G) hso hal
  have hqb:=z02 hso hal
  have hw:IntKind.i64.wrap (I i).al=(I i).al:=IntWalk.i64_in _ (by omega)
  generalize qE so (I i).al=q at *
  rw [hpA]
  refine q0r tab_ok Tryz.func58 ?_
  by_cases hq0:q=0
  · rw [if_pos hq0] at hP
    have hpg:=q6j (ov:=(I i).ov) (I:=fun _=>0) (G:=G) hbl hb (fun _ _=>⟨Int.le_refl _,show (0:Int)≤255 by omega⟩) hqb
    rw [← hP] at hpg
    (repeat ((try (conv=>whnf));(first |(refine hc _ ?_) |(refine s3Q ?_) |(with_reducible first |refine q0c (fun vs w=>by kernel_rfl) (by kernel_rfl) (hs) ?_ |refine q0a (fun vs w=>by kernel_rfl) (by kernel_rfl) (hs) ?_ |refine q0c (fun vs w=>by kernel_rfl) (by kernel_rfl) (hmul) ?_ |refine q0a (fun vs w=>by kernel_rfl) (by kernel_rfl) (hmul) ?_ |refine q0c (fun vs w=>by kernel_rfl) (by kernel_rfl) (hpg) ?_ |refine q0a (fun vs w=>by kernel_rfl) (by kernel_rfl) (hpg) ?_))))
    conv=>whnf
    exact ⟨rfl,rfl⟩
  · rw [if_neg hq0] at hP
    have hpg:=q6j (ov:=(I i).ov) (I:=V) (G:=G) hbl hb hI8 hqb
    rw [← hP] at hpg
    (repeat ((try (conv=>whnf));(first |(refine hc _ ?_) |(refine s3Q ?_) |(with_reducible first |refine q0c (fun vs w=>by kernel_rfl) (by kernel_rfl) (hs) ?_ |refine q0a (fun vs w=>by kernel_rfl) (by kernel_rfl) (hs) ?_ |refine q0c (fun vs w=>by kernel_rfl) (by kernel_rfl) (hmul) ?_ |refine q0a (fun vs w=>by kernel_rfl) (by kernel_rfl) (hmul) ?_ |refine q0c (fun vs w=>by kernel_rfl) (by kernel_rfl) (hpg) ?_ |refine q0a (fun vs w=>by kernel_rfl) (by kernel_rfl) (hpg) ?_))))
    conv=>whnf
    exact ⟨rfl,rfl⟩
theorem x0j (hI:ItemsM G IA n I) (hn:n≤1000000) {i e:Nat} (hi:i<n) (hie:i<e) (hen:e<n) (h1:(I i).K=1) (hg:GrOk I i) {ms:List Tr}
    (hM:∀ b,q0s b→Gives Tryz.prog 38 [q2s W H SA m sq IA n iq,.val (.int .i64 ((i+1:Nat):Int)),.val (.int .i64 (e:Int)),.val (.bool (I i).kn),stA b,.val (.int .i64 x),.val (.int .i64 y)] G (stA (evL (q0n I f R x y) (I i).kn b ms b)))
    (hev:∀ b,q0s b→q0s (evL (q0n I f R x y) (I i).kn b ms b)) {b:St} (hb:q0s b) :
    Gives Tryz.prog 58 [q2s W H SA m sq IA n iq,.val (.int .i64 i),.val (.int .i64 ((e+1:Nat):Int)),stA b,.val (.int .i64 x),.val (.int .i64 y)] G (stA (evT (q0n I f R x y) (.group i ms) b)):=by
  obtain ⟨hal,hbl⟩:=hg
  obtain ⟨p,rfl,hc⟩:=hI i hi
  rw [show ((i+1:Nat):Int)=(i:Int)+1 by omega,show (e:Int)=((e+1:Nat):Int)-1 by omega] at hM
  have hw:IntKind.i64.wrap (I i).al=(I i).al:=IntWalk.i64_in _ (by omega)
  refine q0r tab_ok Tryz.func58 ?_
  cases hiso:(I i).iso with
  | false =>
    have hP:evT (q0n I f R x y) (.group i ms) b=betw b (evL (q0n I f R x y) (I i).kn b ms b) (I i).al:=by
      rw [evT];simp [q0n,grpS,hiso]
    have hm1:=hM b hb
    have hE:=hev b hb
    have hmx:=x3j (G:=G) hb hE hal
    rw [← hP] at hmx
    generalize evT (q0n I f R x y) (.group i ms) b=P at *
    generalize evL (q0n I f R x y) (I i).kn b ms b=E at *
    (repeat ((try (conv=>whnf));(first |(refine hc _ ?_) |(refine s3Q ?_) |(with_reducible first |refine q0c (fun vs w=>by kernel_rfl) (by kernel_rfl) (hm1) ?_ |refine q0a (fun vs w=>by kernel_rfl) (by kernel_rfl) (hm1) ?_ |refine q0c (fun vs w=>by kernel_rfl) (by kernel_rfl) (hmx) ?_ |refine q0a (fun vs w=>by kernel_rfl) (by kernel_rfl) (hmx) ?_))))
    conv=>whnf
    exact ⟨rfl,rfl⟩
  | true =>
    have hm1:=hM q1h q6t
    have hE:=hev q1h q6t
    have hP:evT (q0n I f R x y) (.group i ms) b=pnt (I i).bl b (if qE (evL (q0n I f R x y) (I i).kn q1h ms q1h 0) (I i).al=0 then fun _=>0 else inkI (evL (q0n I f R x y) (I i).kn q1h ms q1h)) (qE (evL (q0n I f R x y) (I i).kn q1h ms q1h 0) (I i).al) false:=by
      have hst:(q0n I f R x y).start i b=q1h:=by simp [q0n,hiso]
      rw [evT,hst]
      show grpS (I i).iso (I i).bl (I i).al b (evL (q0n I f R x y) (I i).kn q1h ms q1h)=_
      unfold grpS;rw [hiso];simp
    generalize evT (q0n I f R x y) (.group i ms) b=P at *
    generalize evL (q0n I f R x y) (I i).kn q1h ms q1h=E at *
    change Gives _ _ [_,_,_,_,.agg [.val (.int .u8 0),.val (.int .u8 0),.val (.int .u8 0),.val (.int .u8 0),.val (.int .u8 0),.val (.int .u8 0),.val (.int .u8 0),.val (.int .u8 0),.val (.int .u8 0)],_,_] _ _ at hm1
    have hmul:=z7s (G:=G) (hE 0 (by omega)) hal
    have hE0:=hE 0 (by omega)
    have hqb:=z02 hE0 hal
    generalize qE (E 0) (I i).al=q at *
    by_cases hq0:q=0
    · rw [if_pos hq0] at hP
      have hpg:=q6j (ov:=false) (I:=fun _=>0) (G:=G) hbl hb (fun _ _=>⟨Int.le_refl _,show (0:Int)≤255 by omega⟩) hqb
      rw [← hP] at hpg
      (repeat ((try (conv=>whnf));(first |(refine hc _ ?_) |(refine s3Q ?_) |(with_reducible first |refine q0c (fun vs w=>by kernel_rfl) (by kernel_rfl) (hm1) ?_ |refine q0a (fun vs w=>by kernel_rfl) (by kernel_rfl) (hm1) ?_ |refine q0c (fun vs w=>by kernel_rfl) (by kernel_rfl) (hmul) ?_ |refine q0a (fun vs w=>by kernel_rfl) (by kernel_rfl) (hmul) ?_ |refine q0c (fun vs w=>by kernel_rfl) (by kernel_rfl) (hpg) ?_ |refine q0a (fun vs w=>by kernel_rfl) (by kernel_rfl) (hpg) ?_))))
      conv=>whnf
      exact ⟨rfl,rfl⟩
    · rw [if_neg hq0] at hP
      have hpg:=q6j (ov:=false) (I:=inkI E) (G:=G) hbl hb (z42 hE) hqb
      rw [← hP] at hpg
      change Gives _ _ [_,.agg [.val (.int .u8 (E 1)),.val (.int .u8 (E 2)),.val (.int .u8 (E 3)),.val (.int .u8 (E 4)),.val (.int .u8 (E 5)),.val (.int .u8 (E 6)),.val (.int .u8 (E 7)),.val (.int .u8 (E 8))],_,_,_] _ _ at hpg
      (repeat ((try (conv=>whnf));(first |(refine hc _ ?_) |(refine s3Q ?_) |(with_reducible first |refine q0c (fun vs w=>by kernel_rfl) (by kernel_rfl) (hm1) ?_ |refine q0a (fun vs w=>by kernel_rfl) (by kernel_rfl) (hm1) ?_ |refine q0c (fun vs w=>by kernel_rfl) (by kernel_rfl) (hmul) ?_ |refine q0a (fun vs w=>by kernel_rfl) (by kernel_rfl) (hmul) ?_ |refine q0c (fun vs w=>by kernel_rfl) (by kernel_rfl) (hpg) ?_ |refine q0a (fun vs w=>by kernel_rfl) (by kernel_rfl) (hpg) ?_))))
      conv=>whnf
      exact ⟨rfl,rfl⟩
structure LRef (G:Mem) (I:Nat→ItemD) (f:Nat→SrcF) (n:Nat):Prop where
  kind:∀ k,k<n→(I k).K=0∨(I k).K=1∨(I k).K=2
  src:∀ k,k<n→(I k).K=0→∀ x y:Int,(-8192≤x∧x<8192)→(-8192≤y∧y<8192)→Gives Tryz.prog 89 [q3c (I k),.val (.int .i64 x),.val (.int .i64 y)] G (.tup [q1z (f k x y).1,.val (.int .i64 (f k x y).2)])
set_option maxHeartbeats 16000000 in
theorem x2u (hI:ItemsM G IA n I) (hn:n≤1000000) (hL:LOk G I f R n) (hF:LRef G I f n) (hx:-8192≤x∧x<8192) (hy:-8192≤y∧y<8192):∀ (s:Nat) (ms:List Tr) (i j:Nat),SizeOf.sizeOf ms≤s→SpanL (fun k=>(I k).K) ms i j→j≤n→∀ (kn:Bool) (b:St),q0s b →
    Gives Tryz.prog 38 [q2s W H SA m sq IA n iq,.val (.int .i64 i),.val (.int .i64 j),.val (.bool kn),stA b,.val (.int .i64 x),.val (.int .i64 y)] G (stA (evL (q0n I f R x y) kn b ms b))
  | 0,ms,i,j,hs,_,_,_,_,_=>by cases ms <;> simp at hs
  | s+1,ms,i,j,hs,hsp,hj,kn,b,hb=>by
    have hrec:=fun (_:True)=>x2u hI hn hL hF hx hy s
    have hij:=hsp.le
    have hbd:∀ (ms:List Tr) (i:Nat),SpanL (fun k=>(I k).K) ms i j→∀ kn b0 now,q0s b0→q0s now→q0s (evL (q0n I f R x y) kn b0 ms now):=fun ms i h kn b0 now h0 h1 =>
      z0g hx hy (fun k hk=>hL.it k (by omega) hk.1) (fun k hk=>hL.gr k (by omega) hk.1) ms h.all kn b0 now h0 h1
    refine q0r tab_ok Tryz.func38 ?_
    (repeat ((try (conv=>whnf));(refine stQ ?_)))
    conv=>whnf
    refine q65 tab_ok (fun (k:Nat) (S:St)=>i≤k∧k≤j∧q0s S∧∃ ts,SpanL (fun k=>(I k).K) ts k j∧SizeOf.sizeOf ts≤s+1∧evL (q0n I f R x y) kn b ts S=evL (q0n I f R x y) kn b ms b) (fun (k:Nat) S=>[(1,.val (.int .i64 k))]) (fun k S=>[.cells 25 [.val (.int .i64 W),.val (.int .i64 H),.val (.slice SA m sq),.val (.slice IA n iq)],.cells 84 [.val (.int .u8 (b 0)),.val (.int .u8 (b 1)),.val (.int .u8 (b 2)),.val (.int .u8 (b 3)),.val (.int .u8 (b 4)),.val (.int .u8 (b 5)),.val (.int .u8 (b 6)),.val (.int .u8 (b 7)),.val (.int .u8 (b 8))],.cells 84 [.val (.int .u8 0),.val (.int .u8 0),.val (.int .u8 0),.val (.int .u8 0),.val (.int .u8 0),.val (.int .u8 0),.val (.int .u8 0),.val (.int .u8 0),.val (.int .u8 0)],.cells 84 [.val (.int .u8 (S 0)),.val (.int .u8 (S 1)),.val (.int .u8 (S 2)),.val (.int .u8 (S 3)),.val (.int .u8 (S 4)),.val (.int .u8 (S 5)),.val (.int .u8 (S 6)),.val (.int .u8 (S 7)),.val (.int .u8 (S 8))]]) (fun k S=>j-k) i b ⟨Nat.le_refl _,hij,hb,ms,hsp,hs,rfl⟩ ?_ ?_
    · ((refine q0g ?_);(conv=>whnf);(refine q0k (by rfl) (by rfl) flQ ?_))
      exact q0b (by exact flQ) (q0b (by exact flQ) (q0b (by exact flQ) (q0b (by exact flQ) q0e)))
    · rintro k S ⟨hk1,hk2,hS,ts,hts,hsz,hev⟩
      cases hts with
      | nil =>
        rw [evL] at hev
        (repeat ((try (conv=>whnf));(refine stQ ?_)))
        conv=>whnf
        rw [← hev]
        exact ⟨rfl,rfl⟩
      | fill _ ts' _ hf h2 =>
        have l2:=h2.le
        obtain ⟨p,rfl,hc⟩:=hI k (by omega)
        have hcv:=z7t (W:=W) (H:=H) (SA:=SA) (m:=m) (sq:=sq) (iq:=iq) (x:=x) (y:=y) hI hn hL.reg (i:=k) (j:=k+1) (by omega) (by omega)
        rw [show k+1-k=1 by omega,show cvB I R x y k 1=hasL (R k) x y by simp [cvB,hf]] at hcv
        rw [evL,covT,evT] at hev
        have hm1:=fun (U:St) (hU:q0s U)=>x2t (W:=W) (H:=H) (SA:=SA) (m:=m) (sq:=sq) (iq:=iq) (nx:=((k+1:Nat):Int)) hI hn (i:=k) (by omega) hf (hL.it k (by omega) hf) hx hy (hF.src k (by omega) hf x y hx hy) hU
        rw [show ((k+1:Nat):Int)=(k:Int)+1 by omega] at hcv hm1
        cases hb1:hasL (R k) x y with
        | false =>
          rw [hb1] at hcv
          have hbc:(q0n I f R x y).cov k=false:=hb1
          simp only [hbc,Bool.false_eq_true,if_false] at hev
          (repeat ((try (conv=>whnf));(first |(refine hc _ ?_) |(refine s3Q ?_) |(with_reducible first |refine q0c (fun vs w=>by kernel_rfl) (by kernel_rfl) (hcv) ?_ |refine q0a (fun vs w=>by kernel_rfl) (by kernel_rfl) (hcv) ?_))))
          conv=>whnf
          refine ⟨k+1,S,⟨by omega,l2,hS,ts',h2,by simp at hsz;omega,hev⟩,by omega,?_⟩
          ((refine q0g ?_);(conv=>whnf);(refine q0k (by rfl) (by rfl) flQ ?_))
          exact q0b (by exact flQ) (q0b (by exact flQ) (q0b (by exact flQ) (q0b (by exact flQ) q0e)))
        | true =>
          rw [hb1] at hcv
          have hbc:(q0n I f R x y).cov k=true:=hb1
          simp only [hbc,if_true] at hev
          cases kn with
          | false =>
            simp only [Bool.false_eq_true,if_false] at hev
            have hmm:=hm1 S hS
            have hP2:q0s (q3i (I k).bl (I k).al (I k).ov (f k x y) S):=z58 ((hL.it k (by omega) hf).2.2 x y hx hy).1 ((hL.it k (by omega) hf).2.2 x y hx hy).2 (hL.it k (by omega) hf).1 hS
            rw [show (q0n I f R x y).fill k S=q3i (I k).bl (I k).al (I k).ov (f k x y) S from rfl] at hev
            generalize q3i (I k).bl (I k).al (I k).ov (f k x y) S=P at *
            (repeat ((try (conv=>whnf));(first |(refine hc _ ?_) |(refine s3Q ?_) |(with_reducible first |refine q0c (fun vs w=>by kernel_rfl) (by kernel_rfl) (hcv) ?_ |refine q0a (fun vs w=>by kernel_rfl) (by kernel_rfl) (hcv) ?_ |refine q0c (fun vs w=>by kernel_rfl) (by kernel_rfl) (hmm) ?_ |refine q0a (fun vs w=>by kernel_rfl) (by kernel_rfl) (hmm) ?_))))
            conv=>whnf
            refine ⟨k+1,P,⟨by omega,l2,hP2,ts',h2,by simp at hsz;omega,hev⟩,by omega,?_⟩
            ((refine q0g ?_);(conv=>whnf);(refine q0k (by rfl) (by rfl) flQ ?_))
            exact q0b (by exact flQ) (q0b (by exact flQ) (q0b (by exact flQ) (q0b (by exact flQ) q0e)))
          | true =>
            simp only [if_true] at hev
            have hmm:=hm1 b hb
            have hP2:q0s (q3i (I k).bl (I k).al (I k).ov (f k x y) b):=z58 ((hL.it k (by omega) hf).2.2 x y hx hy).1 ((hL.it k (by omega) hf).2.2 x y hx hy).2 (hL.it k (by omega) hf).1 hb
            rw [show (q0n I f R x y).fill k b=q3i (I k).bl (I k).al (I k).ov (f k x y) b from rfl] at hev
            generalize q3i (I k).bl (I k).al (I k).ov (f k x y) b=P at *
            (repeat ((try (conv=>whnf));(first |(refine hc _ ?_) |(refine s3Q ?_) |(with_reducible first |refine q0c (fun vs w=>by kernel_rfl) (by kernel_rfl) (hcv) ?_ |refine q0a (fun vs w=>by kernel_rfl) (by kernel_rfl) (hcv) ?_ |refine q0c (fun vs w=>by kernel_rfl) (by kernel_rfl) (hmm) ?_ |refine q0a (fun vs w=>by kernel_rfl) (by kernel_rfl) (hmm) ?_))))
            conv=>whnf
            refine ⟨k+1,P,⟨by omega,l2,hP2,ts',h2,by simp at hsz;omega,hev⟩,by omega,?_⟩
            ((refine q0g ?_);(conv=>whnf);(refine q0k (by rfl) (by rfl) flQ ?_))
            exact q0b (by exact flQ) (q0b (by exact flQ) (q0b (by exact flQ) (q0b (by exact flQ) q0e)))
      | group _ ms' e ts' _ hf h3 h4 h5 h6 =>
        have l1:=h3.le
        have l2:=h6.le
        obtain ⟨p,rfl,hc⟩:=hI k (by omega)
        have hen:=z7r (W:=W) (H:=H) (SA:=SA) (m:=m) (sq:=sq) (iq:=iq) hI hn hF.kind _ k e ms' (Nat.le_refl _) h3 (by omega) h4 h5
        have hcv:=z7t (W:=W) (H:=H) (SA:=SA) (m:=m) (sq:=sq) (iq:=iq) (x:=x) (y:=y) hI hn hL.reg (i:=k) (j:=e+1) (by omega) (by omega)
        rw [show cvB I R x y k (e+1-k)=covL (q0n I f R x y) [.group k ms'] from SpanL.cov (.group k ms' e [] (e+1) hf h3 h4 h5 (.nil _)),covL,covL,Bool.or_false] at hcv
        rw [evL] at hev
        have hbd2:∀ U,q0s U→q0s (evL (q0n I f R x y) (I k).kn U ms' U):=fun U hU=>z0g hx hy (fun k hk=>hL.it k (by omega) hk.1) (fun k hk=>hL.gr k (by omega) hk.1) ms' h3.all _ U U hU hU
        have hm1:=fun (U:St) (hU:q0s U)=>x0j (W:=W) (H:=H) (SA:=SA) (m:=m) (sq:=sq) (iq:=iq) hI hn (i:=k) (e:=e) (by omega) (by omega) (by omega) hf (hL.gr k (by omega) hf) (fun b hb=>hrec trivial ms' (k+1) e (by simp at hsz;omega) h3 (by omega) (I k).kn b hb) hbd2 hU
        have hPb:∀ U,q0s U→q0s (evT (q0n I f R x y) (.group k ms') U):=fun U hU=>x8n (p:=fun k=>(I k).K=0∧k<e+1) (q:=fun k=>(I k).K=1∧k<e+1) hx hy (fun k hk=>hL.it k (by omega) hk.1) (fun k hk=>hL.gr k (by omega) hk.1) (.group k ms') (by
          have:=(SpanL.group k ms' e [] (e+1) hf h3 h4 h5 (.nil _)).all
          rw [AllL] at this;exact this.1) U hU
        rw [show ((e+1:Nat):Int)=(e:Int)+1 by omega] at hcv hm1
        cases hb1:covT (q0n I f R x y) (.group k ms') with
        | false =>
          rw [hb1] at hcv hev
          simp only [Bool.false_eq_true,if_false] at hev
          (repeat ((try (conv=>whnf));(first |(refine hc _ ?_) |(refine s3Q ?_) |(with_reducible first |refine q0c (fun vs w=>by kernel_rfl) (by kernel_rfl) (hen) ?_ |refine q0a (fun vs w=>by kernel_rfl) (by kernel_rfl) (hen) ?_ |refine q0c (fun vs w=>by kernel_rfl) (by kernel_rfl) (hcv) ?_ |refine q0a (fun vs w=>by kernel_rfl) (by kernel_rfl) (hcv) ?_))))
          conv=>whnf
          refine ⟨e+1,S,⟨by omega,l2,hS,ts',h6,by simp at hsz;omega,hev⟩,by omega,?_⟩
          ((refine q0g ?_);(conv=>whnf);(refine q0k (by rfl) (by rfl) flQ ?_))
          exact q0b (by exact flQ) (q0b (by exact flQ) (q0b (by exact flQ) (q0b (by exact flQ) q0e)))
        | true =>
          rw [hb1] at hcv hev
          simp only [if_true] at hev
          cases kn with
          | false =>
            simp only [Bool.false_eq_true,if_false] at hev
            have hmm:=hm1 S hS
            have hP2:=hPb S hS
            generalize evT (q0n I f R x y) (.group k ms') S=P at *
            (repeat ((try (conv=>whnf));(first |(refine hc _ ?_) |(refine s3Q ?_) |(with_reducible first |refine q0c (fun vs w=>by kernel_rfl) (by kernel_rfl) (hen) ?_ |refine q0a (fun vs w=>by kernel_rfl) (by kernel_rfl) (hen) ?_ |refine q0c (fun vs w=>by kernel_rfl) (by kernel_rfl) (hcv) ?_ |refine q0a (fun vs w=>by kernel_rfl) (by kernel_rfl) (hcv) ?_ |refine q0c (fun vs w=>by kernel_rfl) (by kernel_rfl) (hmm) ?_ |refine q0a (fun vs w=>by kernel_rfl) (by kernel_rfl) (hmm) ?_))))
            conv=>whnf
            refine ⟨e+1,P,⟨by omega,l2,hP2,ts',h6,by simp at hsz;omega,hev⟩,by omega,?_⟩
            ((refine q0g ?_);(conv=>whnf);(refine q0k (by rfl) (by rfl) flQ ?_))
            exact q0b (by exact flQ) (q0b (by exact flQ) (q0b (by exact flQ) (q0b (by exact flQ) q0e)))
          | true =>
            simp only [if_true] at hev
            have hmm:=hm1 b hb
            have hP2:=hPb b hb
            generalize evT (q0n I f R x y) (.group k ms') b=P at *
            (repeat ((try (conv=>whnf));(first |(refine hc _ ?_) |(refine s3Q ?_) |(with_reducible first |refine q0c (fun vs w=>by kernel_rfl) (by kernel_rfl) (hen) ?_ |refine q0a (fun vs w=>by kernel_rfl) (by kernel_rfl) (hen) ?_ |refine q0c (fun vs w=>by kernel_rfl) (by kernel_rfl) (hcv) ?_ |refine q0a (fun vs w=>by kernel_rfl) (by kernel_rfl) (hcv) ?_ |refine q0c (fun vs w=>by kernel_rfl) (by kernel_rfl) (hmm) ?_ |refine q0a (fun vs w=>by kernel_rfl) (by kernel_rfl) (hmm) ?_))))
            conv=>whnf
            refine ⟨e+1,P,⟨by omega,l2,hP2,ts',h6,by simp at hsz;omega,hev⟩,by omega,?_⟩
            ((refine q0g ?_);(conv=>whnf);(refine q0k (by rfl) (by rfl) flQ ?_))
            exact q0b (by exact flQ) (q0b (by exact flQ) (q0b (by exact flQ) (q0b (by exact flQ) q0e)))
end
end Go.Proofs.YticolnghiibgfaaGreat
namespace Go.Proofs.YticolnghiibgfaaGreat
open Go.RowKit
set_option maxRecDepth 20000
section
variable {I:Nat→ItemD} {R:Nat→List Run} {f:Nat→SrcF} {G:Mem} {W H:Int} {SA IA:Option Addr} {m sq n iq:Nat} {x y:Int}
set_option maxHeartbeats 16000000 in
theorem z27 (hI:ItemsM G IA n I) (hn:n≤1000000) (hm:1≤m∧m≤8) (hL:LOk G I f R n) (hF:LRef G I f n) (hx:-8192≤x∧x<8192) (hy:-8192≤y∧y<8192) :
    Gives Tryz.prog 13 [q2s W H SA m sq IA n iq,.val (.int .i64 x),.val (.int .i64 y)] G (inA (q3z I f R n m x y)):=by
  have hM:=x2u (W:=W) (H:=H) (SA:=SA) (m:=m) (sq:=sq) (iq:=iq) hI hn hL hF hx hy _ (q43 I n) 0 n (Nat.le_refl _) hL.span (Nat.le_refl _) false q2g z95
  change Gives _ _ [_,.val (.int .i64 0),_,_,.agg [.val (.int .u8 255),.val (.int .u8 0),.val (.int .u8 0),.val (.int .u8 0),.val (.int .u8 0),.val (.int .u8 0),.val (.int .u8 0),.val (.int .u8 0),.val (.int .u8 0)],_,_] _ _ at hM
  have hlst:q3z I f R n m x y=rowI m (evL (q0n I f R x y) false q2g (q43 I n) q2g):=rfl
  rw [hlst]
  generalize evL (q0n I f R x y) false q2g (q43 I n) q2g=E at *
  clear hlst
  refine q0r tab_ok Tryz.func13 ?_
  have:m=1∨m=2∨m=3∨m=4∨m=5∨m=6∨m=7∨m=8:=by omega
  rcases this with rfl |rfl |rfl |rfl |rfl |rfl |rfl |rfl
  all_goals ((repeat ((try (conv=>whnf));(first |(refine scQ ?_) |(with_reducible first |refine q0c (fun vs w=>by kernel_rfl) (by kernel_rfl) (hM) ?_ |refine q0a (fun vs w=>by kernel_rfl) (by kernel_rfl) (hM) ?_))));exact ⟨rfl,rfl⟩)
end
end Go.Proofs.YticolnghiibgfaaGreat
namespace Go.Proofs.YticolnghiibgfaaGreat
open Go.RowKit Go.ChangeShapes Go.WideShapes Go.Deep
theorem Gives.worlds {P:Program} {f:FuncId} {args:List AV} {G:Mem} {v:AV} (h:∀ w,G.holds w→Gives P f args (q2x w) v):Gives P f args G v:=fun w vs hG ha=>h w hG w vs (z49 w) ha
def noSl (P:Program):Nat→TypeId→Bool
  | 0,_=>false
  | n+1,t=>match P.underlying t with
    | some (.int _)=>true
    | some .bool=>true
    | some .string=>true
    | some (.struct fs)=>fs.toList.all fun f=>noSl P n f.type
    | some (.array _ e)=>noSl P n e
    | _=>false
theorem Sees.any {P:Program} {w w':World}:∀ (m n:Nat) (t:TypeId) (cs:List Value),noSl P n t=true→Sees P w m t cs→Sees P w' m t cs
  | 0,_,_,_,_,h=>h
  | m+1,0,_,_,hn,_=>by simp [noSl] at hn
  | m+1,n+1,t,cs,hn,h=>by
    unfold Sees at h ⊢
    unfold noSl at hn
    split at h <;> simp_all
    · intro i f hf
      obtain ⟨h1,h2⟩:=Array.getElem?_eq_some_iff.1 hf
      have hq:=hn i h1
      rw [h2] at hq
      exact Sees.any m n _ _ hq (h.2 i f hf)
    · intro i hi
      exact Sees.any m n _ _ hn (h.2 i hi)
def SliceM (P:Program) (G:Mem) (e:TypeId) (A:Option Addr) (n:Nat) (g:Nat→Nat→Value):Prop :=
  (∃ w0 A0,SliceG P w0 e A0 n g)∧(0<n→∃ b off,A=some ⟨b,off,none⟩∧∀ x,x<n→∀ j,j<P.cellsOf e→G.cell? ⟨b,off+x*P.cellsOf e+j,none⟩=some (g x j))
section
variable {P:Program} {w:World} {G G':Mem} {e:TypeId} {A:Option Addr} {n:Nat} {g:Nat→Nat→Value}
theorem SliceM.of (h:SliceG P w e A n g):SliceM P (q2x w) e A n g:=⟨⟨w,A,h⟩,fun h0=>by
  obtain ⟨b,off,h1,h2,h3⟩:=h h0
  exact ⟨b,off,h1,fun x hx j hj=>(h3 x hx).1 j hj⟩⟩
theorem SliceM.mono (h:SliceM P G e A n g) (hle:G.le G'):SliceM P G' e A n g:=⟨h.1,fun h0=>by
  obtain ⟨b,off,h1,h2⟩:=h.2 h0
  exact ⟨b,off,h1,fun x hx j hj=>hle.cell (h2 x hx j hj)⟩⟩
theorem Mem.cell_in {w:World} {a:Addr} {v:Value} (hG:G.holds w) (h:G.cell? a=some v):w.cell? a=some v∧a.block<w.heap.size:=by
  unfold Mem.cell? at h
  unfold World.cell?
  cases hb:G a.block with
  | none=>rw [hb] at h;simp at h
  | some o =>
    have:=hG _ _ hb
    rw [this]
    rw [hb] at h
    exact ⟨h,(Array.getElem?_eq_some_iff.1 this).1⟩
theorem SliceM.at {k:Nat} (h:SliceM P G e A n g) (hk:noSl P k e=true) (hc:0<P.cellsOf e) (hG:G.holds w):SliceG P w e A n g:=fun h0=>by
  obtain ⟨⟨w0,A0,h1⟩,h2⟩:=h
  obtain ⟨b,off,hA,h3⟩:=h2 h0
  obtain ⟨b0,off0,hA0,_,h4⟩:=h1 h0
  refine ⟨b,off,hA,(Mem.cell_in hG (h3 0 h0 0 hc)).2,fun x hx=>⟨fun j hj=>(Mem.cell_in hG (h3 x hx j hj)).1,?_⟩⟩
  obtain ⟨m,hm⟩:=(h4 x hx).2
  exact ⟨m,Sees.any m k _ _ hk hm⟩
theorem SliceM.els (h:SliceM P G e A n g) {sz:Nat} (hs:P.cellsOf e=sz):ElsM G A sz n fun x=>(List.range sz).map (g x):=by
  subst hs
  refine ⟨fun x hx=>by simp,fun x hx=>?_⟩
  obtain ⟨b,off,hA,h3⟩:=h.2 (by omega)
  refine ⟨b,off,hA,fun j v hj=>?_⟩
  have hjl:j<P.cellsOf e:=by have:=(List.getElem?_eq_some_iff.1 hj).1;simpa using this
  rw [h3 x hx j hjl]
  simp [List.getElem?_map,List.getElem?_range hjl] at hj
  rw [hj]
theorem SliceM.copy (h:SliceM P G e A n g) {sz:Nat} (hs:P.cellsOf e=sz) {B:Option Addr} (hB:FlatM G' B (q00 (fun x=>(List.range sz).map (g x)) n)) (hz:0<sz):SliceM P G' e B n g:=by
  subst hs
  refine ⟨h.1,fun h0=>?_⟩
  have hE:=hB.els (sz:=P.cellsOf e) (fun x hx=>by simp) hz
  obtain ⟨b,off,hA,_⟩:=hE.at_ 0 h0
  refine ⟨b,off,hA,fun x hx j hj=>?_⟩
  obtain ⟨b',off',hA',h2⟩:=hE.at_ x hx
  rw [hA] at hA';cases hA'
  exact h2 j _ (by simp [List.getElem?_map,List.getElem?_range hj])
end
end Go.Proofs.YticolnghiibgfaaGreat
