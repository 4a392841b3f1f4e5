/-
  Merged: XRMem2, XRListAt, XSliceM, XSrcMem.
-/
import Derived.Test.YticolnghiibgfaaGreatMrg30
import Derived.Test.YticolnghiibgfaaGreatMrg15
import Derived.Test.YticolnghiibgfaaGreatMrg19
set_option linter.unusedVariables false
set_option linter.unusedSimpArgs false
set_option linter.unnecessarySimpa false
namespace Go.Proofs.YticolnghiibgfaaGreat
open Go.RowKit
set_option maxRecDepth 20000
section
variable {I:Nat→ItemD} {R:Nat→List Run} {f:Nat→SrcF} {G:Mem} {W H:Int} {SA IA:Option Addr} {m sq n iq:Nat} {x y:Int}
set_option maxHeartbeats 8000000
theorem x0d (hI:ItemsM G IA n I) (hn:n≤1000000) {i:Nat} (hi:i<n) (h0:(I i).K=0) (hit:ItOk I f i) (hx:-8192≤x∧x<8192) (hy:-8192≤y∧y<8192)
    (hs:Gives Tryz.prog 89 [q2t (I i),.val (.int .i64 x),.val (.int .i64 y)] G (.tup [q1o (f i x y).1,.val (.int .i64 (f i x y).2)])) {b:St} (hb:q0s b) {nx:Int} :
    Gives Tryz.prog 58 [q08 W H SA m sq IA n iq,.val (.int .i64 i),.val (.int .i64 nx),stA b,.val (.int .i64 x),.val (.int .i64 y)] G (stA (q29 (I i).bl (I i).al (I i).ov (f i x y) b)):=by
  obtain ⟨hal,hbl,hsb⟩:=hit
  obtain ⟨hI8,hso⟩:=hsb x y hx hy
  obtain ⟨p,hpA,hc⟩:=hI i hi
  obtain ⟨P,hP⟩:∃ P,P=q29 (I i).bl (I i).al (I i).ov (f i x y) b:=⟨_,rfl⟩
  rw [← hP]
  unfold q29 at hP
  generalize (f i x y).1=V at *
  generalize (f i x y).2=so at *
  have hmul:=z5t (G:=G) hso hal
  have hqb:=q9p hso hal
  have hw:IntKind.i64.wrap (I i).al=(I i).al:=IntWalk.i64_in _ (by omega)
  generalize qE so (I i).al=q at *
  rw [hpA]
  refine q0o tab_ok Tryz.func58 ?_
  by_cases hq0:q=0
  · rw [if_pos hq0] at hP
    have hpg:=q5k (ov:=(I i).ov) (I:=fun _=>0) (G:=G) hbl hb (fun _ _=>⟨Int.le_refl _,show (0:Int)≤255 by omega⟩) hqb
    rw [← hP] at hpg
    (repeat ((try (conv=>whnf));(first |(refine hc _ ?_) |(refine s3Q ?_) |(with_reducible first |refine q0b (fun vs w=>by kernel_rfl) (by kernel_rfl) (hs) ?_ |refine q0a (fun vs w=>by kernel_rfl) (by kernel_rfl) (hs) ?_ |refine q0b (fun vs w=>by kernel_rfl) (by kernel_rfl) (hmul) ?_ |refine q0a (fun vs w=>by kernel_rfl) (by kernel_rfl) (hmul) ?_ |refine q0b (fun vs w=>by kernel_rfl) (by kernel_rfl) (hpg) ?_ |refine q0a (fun vs w=>by kernel_rfl) (by kernel_rfl) (hpg) ?_))))
    conv=>whnf
    exact ⟨rfl,rfl⟩
  · rw [if_neg hq0] at hP
    have hpg:=q5k (ov:=(I i).ov) (I:=V) (G:=G) hbl hb hI8 hqb
    rw [← hP] at hpg
    (repeat ((try (conv=>whnf));(first |(refine hc _ ?_) |(refine s3Q ?_) |(with_reducible first |refine q0b (fun vs w=>by kernel_rfl) (by kernel_rfl) (hs) ?_ |refine q0a (fun vs w=>by kernel_rfl) (by kernel_rfl) (hs) ?_ |refine q0b (fun vs w=>by kernel_rfl) (by kernel_rfl) (hmul) ?_ |refine q0a (fun vs w=>by kernel_rfl) (by kernel_rfl) (hmul) ?_ |refine q0b (fun vs w=>by kernel_rfl) (by kernel_rfl) (hpg) ?_ |refine q0a (fun vs w=>by kernel_rfl) (by kernel_rfl) (hpg) ?_))))
    conv=>whnf
    exact ⟨rfl,rfl⟩
theorem z78 (hI:ItemsM G IA n I) (hn:n≤1000000) {i e:Nat} (hi:i<n) (hie:i<e) (hen:e<n) (h1:(I i).K=1) (hg:GrOk I i) {ms:List Tr}
    (hM:∀ b,q0s b→Gives Tryz.prog 38 [q08 W H SA m sq IA n iq,.val (.int .i64 ((i+1:Nat):Int)),.val (.int .i64 (e:Int)),.val (.bool (I i).kn),stA b,.val (.int .i64 x),.val (.int .i64 y)] G (stA (evL (q0l I f R x y) (I i).kn b ms b)))
    (hev:∀ b,q0s b→q0s (evL (q0l I f R x y) (I i).kn b ms b)) {b:St} (hb:q0s b) :
    Gives Tryz.prog 58 [q08 W H SA m sq IA n iq,.val (.int .i64 i),.val (.int .i64 ((e+1:Nat):Int)),stA b,.val (.int .i64 x),.val (.int .i64 y)] G (stA (evT (q0l I f R x y) (.group i ms) b)):=by
  obtain ⟨hal,hbl⟩:=hg
  obtain ⟨p,rfl,hc⟩:=hI i hi
  rw [show ((i+1:Nat):Int)=(i:Int)+1 by omega,show (e:Int)=((e+1:Nat):Int)-1 by omega] at hM
  have hw:IntKind.i64.wrap (I i).al=(I i).al:=IntWalk.i64_in _ (by omega)
  refine q0o tab_ok Tryz.func58 ?_
  cases hiso:(I i).iso with
  | false =>
    have hP:evT (q0l I f R x y) (.group i ms) b=betw b (evL (q0l I f R x y) (I i).kn b ms b) (I i).al:=by
      rw [evT];simp [q0l,grpS,hiso]
    have hm1:=hM b hb
    have hE:=hev b hb
    have hmx:=x03 (G:=G) hb hE hal
    rw [← hP] at hmx
    generalize evT (q0l I f R x y) (.group i ms) b=P at *
    generalize evL (q0l I f R x y) (I i).kn b ms b=E at *
    (repeat ((try (conv=>whnf));(first |(refine hc _ ?_) |(refine s3Q ?_) |(with_reducible first |refine q0b (fun vs w=>by kernel_rfl) (by kernel_rfl) (hm1) ?_ |refine q0a (fun vs w=>by kernel_rfl) (by kernel_rfl) (hm1) ?_ |refine q0b (fun vs w=>by kernel_rfl) (by kernel_rfl) (hmx) ?_ |refine q0a (fun vs w=>by kernel_rfl) (by kernel_rfl) (hmx) ?_))))
    conv=>whnf
    exact ⟨rfl,rfl⟩
  | true =>
    have hm1:=hM q1b q5p
    have hE:=hev q1b q5p
    have hP:evT (q0l I f R x y) (.group i ms) b=pnt (I i).bl b (if qE (evL (q0l I f R x y) (I i).kn q1b ms q1b 0) (I i).al=0 then fun _=>0 else inkI (evL (q0l I f R x y) (I i).kn q1b ms q1b)) (qE (evL (q0l I f R x y) (I i).kn q1b ms q1b 0) (I i).al) false:=by
      have hst:(q0l I f R x y).start i b=q1b:=by simp [q0l,hiso]
      rw [evT,hst]
      show grpS (I i).iso (I i).bl (I i).al b (evL (q0l I f R x y) (I i).kn q1b ms q1b)=_
      unfold grpS;rw [hiso];simp
    generalize evT (q0l I f R x y) (.group i ms) b=P at *
    generalize evL (q0l I f R x y) (I i).kn q1b ms q1b=E at *
    change Gives _ _ [_,_,_,_,.agg [.val (.int .u8 0),.val (.int .u8 0),.val (.int .u8 0),.val (.int .u8 0),.val (.int .u8 0),.val (.int .u8 0),.val (.int .u8 0),.val (.int .u8 0),.val (.int .u8 0)],_,_] _ _ at hm1
    have hmul:=z5t (G:=G) (hE 0 (by omega)) hal
    have hE0:=hE 0 (by omega)
    have hqb:=q9p hE0 hal
    generalize qE (E 0) (I i).al=q at *
    by_cases hq0:q=0
    · rw [if_pos hq0] at hP
      have hpg:=q5k (ov:=false) (I:=fun _=>0) (G:=G) hbl hb (fun _ _=>⟨Int.le_refl _,show (0:Int)≤255 by omega⟩) hqb
      rw [← hP] at hpg
      (repeat ((try (conv=>whnf));(first |(refine hc _ ?_) |(refine s3Q ?_) |(with_reducible first |refine q0b (fun vs w=>by kernel_rfl) (by kernel_rfl) (hm1) ?_ |refine q0a (fun vs w=>by kernel_rfl) (by kernel_rfl) (hm1) ?_ |refine q0b (fun vs w=>by kernel_rfl) (by kernel_rfl) (hmul) ?_ |refine q0a (fun vs w=>by kernel_rfl) (by kernel_rfl) (hmul) ?_ |refine q0b (fun vs w=>by kernel_rfl) (by kernel_rfl) (hpg) ?_ |refine q0a (fun vs w=>by kernel_rfl) (by kernel_rfl) (hpg) ?_))))
      conv=>whnf
      exact ⟨rfl,rfl⟩
    · rw [if_neg hq0] at hP
      have hpg:=q5k (ov:=false) (I:=inkI E) (G:=G) hbl hb (z29 hE) hqb
      rw [← hP] at hpg
      change Gives _ _ [_,.agg [.val (.int .u8 (E 1)),.val (.int .u8 (E 2)),.val (.int .u8 (E 3)),.val (.int .u8 (E 4)),.val (.int .u8 (E 5)),.val (.int .u8 (E 6)),.val (.int .u8 (E 7)),.val (.int .u8 (E 8))],_,_,_] _ _ at hpg
      (repeat ((try (conv=>whnf));(first |(refine hc _ ?_) |(refine s3Q ?_) |(with_reducible first |refine q0b (fun vs w=>by kernel_rfl) (by kernel_rfl) (hm1) ?_ |refine q0a (fun vs w=>by kernel_rfl) (by kernel_rfl) (hm1) ?_ |refine q0b (fun vs w=>by kernel_rfl) (by kernel_rfl) (hmul) ?_ |refine q0a (fun vs w=>by kernel_rfl) (by kernel_rfl) (hmul) ?_ |refine q0b (fun vs w=>by kernel_rfl) (by kernel_rfl) (hpg) ?_ |refine q0a (fun vs w=>by kernel_rfl) (by kernel_rfl) (hpg) ?_))))
      conv=>whnf
      exact ⟨rfl,rfl⟩
structure LRef (G:Mem) (I:Nat→ItemD) (f:Nat→SrcF) (n:Nat):Prop where
  kind:∀ k,k<n→(I k).K=0∨(I k).K=1∨(I k).K=2
  src:∀ k,k<n→(I k).K=0→∀ x y:Int,(-8192≤x∧x<8192)→(-8192≤y∧y<8192)→Gives Tryz.prog 89 [q2t (I k),.val (.int .i64 x),.val (.int .i64 y)] G (.tup [q1o (f k x y).1,.val (.int .i64 (f k x y).2)])
set_option maxHeartbeats 16000000 in
theorem x0e (hI:ItemsM G IA n I) (hn:n≤1000000) (hL:LOk G I f R n) (hF:LRef G I f n) (hx:-8192≤x∧x<8192) (hy:-8192≤y∧y<8192):∀ (s:Nat) (ms:List Tr) (i j:Nat),SizeOf.sizeOf ms≤s→SpanL (fun k=>(I k).K) ms i j→j≤n→∀ (kn:Bool) (b:St),q0s b →
    Gives Tryz.prog 38 [q08 W H SA m sq IA n iq,.val (.int .i64 i),.val (.int .i64 j),.val (.bool kn),stA b,.val (.int .i64 x),.val (.int .i64 y)] G (stA (evL (q0l I f R x y) kn b ms b))
  | 0,ms,i,j,hs,_,_,_,_,_=>by cases ms <;> simp at hs
  | s+1,ms,i,j,hs,hsp,hj,kn,b,hb=>by
    have hrec:=fun (_:True)=>x0e hI hn hL hF hx hy s
    have hij:=hsp.le
    have hbd:∀ (ms:List Tr) (i:Nat),SpanL (fun k=>(I k).K) ms i j→∀ kn b0 now,q0s b0→q0s now→q0s (evL (q0l I f R x y) kn b0 ms now):=fun ms i h kn b0 now h0 h1 =>
      q86 hx hy (fun k hk=>hL.it k (by omega) hk.1) (fun k hk=>hL.gr k (by omega) hk.1) ms h.all kn b0 now h0 h1
    refine q0o tab_ok Tryz.func38 ?_
    (repeat ((try (conv=>whnf));(refine stQ ?_)))
    conv=>whnf
    refine z2a tab_ok (fun (k:Nat) (S:St)=>i≤k∧k≤j∧q0s S∧∃ ts,SpanL (fun k=>(I k).K) ts k j∧SizeOf.sizeOf ts≤s+1∧evL (q0l I f R x y) kn b ts S=evL (q0l I f R x y) kn b ms b) (fun (k:Nat) S=>[(1,.val (.int .i64 k))]) (fun k S=>[.cells 25 [.val (.int .i64 W),.val (.int .i64 H),.val (.slice SA m sq),.val (.slice IA n iq)],.cells 84 [.val (.int .u8 (b 0)),.val (.int .u8 (b 1)),.val (.int .u8 (b 2)),.val (.int .u8 (b 3)),.val (.int .u8 (b 4)),.val (.int .u8 (b 5)),.val (.int .u8 (b 6)),.val (.int .u8 (b 7)),.val (.int .u8 (b 8))],.cells 84 [.val (.int .u8 0),.val (.int .u8 0),.val (.int .u8 0),.val (.int .u8 0),.val (.int .u8 0),.val (.int .u8 0),.val (.int .u8 0),.val (.int .u8 0),.val (.int .u8 0)],.cells 84 [.val (.int .u8 (S 0)),.val (.int .u8 (S 1)),.val (.int .u8 (S 2)),.val (.int .u8 (S 3)),.val (.int .u8 (S 4)),.val (.int .u8 (S 5)),.val (.int .u8 (S 6)),.val (.int .u8 (S 7)),.val (.int .u8 (S 8))]]) (fun k S=>j-k) i b ⟨Nat.le_refl _,hij,hb,ms,hsp,hs,rfl⟩ ?_ ?_
    · ((refine q0g ?_);(conv=>whnf);(refine q0j (by rfl) (by rfl) flQ ?_))
      exact q0c (by exact flQ) (q0c (by exact flQ) (q0c (by exact flQ) (q0c (by exact flQ) q0e)))
    · rintro k S ⟨hk1,hk2,hS,ts,hts,hsz,hev⟩
      cases hts with
      | nil =>
        rw [evL] at hev
        (repeat ((try (conv=>whnf));(refine stQ ?_)))
        conv=>whnf
        rw [← hev]
        exact ⟨rfl,rfl⟩
      | fill _ ts' _ hf h2 =>
        have l2:=h2.le
        obtain ⟨p,rfl,hc⟩:=hI k (by omega)
        have hcv:=z1c (W:=W) (H:=H) (SA:=SA) (m:=m) (sq:=sq) (iq:=iq) (x:=x) (y:=y) hI hn hL.reg (i:=k) (j:=k+1) (by omega) (by omega)
        rw [show k+1-k=1 by omega,show cvB I R x y k 1=hasL (R k) x y by simp [cvB,hf]] at hcv
        rw [evL,covT,evT] at hev
        have hm1:=fun (U:St) (hU:q0s U)=>x0d (W:=W) (H:=H) (SA:=SA) (m:=m) (sq:=sq) (iq:=iq) (nx:=((k+1:Nat):Int)) hI hn (i:=k) (by omega) hf (hL.it k (by omega) hf) hx hy (hF.src k (by omega) hf x y hx hy) hU
        rw [show ((k+1:Nat):Int)=(k:Int)+1 by omega] at hcv hm1
        cases hb1:hasL (R k) x y with
        | false =>
          rw [hb1] at hcv
          have hbc:(q0l I f R x y).cov k=false:=hb1
          simp only [hbc,Bool.false_eq_true,if_false] at hev
          (repeat ((try (conv=>whnf));(first |(refine hc _ ?_) |(refine s3Q ?_) |(with_reducible first |refine q0b (fun vs w=>by kernel_rfl) (by kernel_rfl) (hcv) ?_ |refine q0a (fun vs w=>by kernel_rfl) (by kernel_rfl) (hcv) ?_))))
          conv=>whnf
          refine ⟨k+1,S,⟨by omega,l2,hS,ts',h2,by simp at hsz;omega,hev⟩,by omega,?_⟩
          ((refine q0g ?_);(conv=>whnf);(refine q0j (by rfl) (by rfl) flQ ?_))
          exact q0c (by exact flQ) (q0c (by exact flQ) (q0c (by exact flQ) (q0c (by exact flQ) q0e)))
        | true =>
          rw [hb1] at hcv
          have hbc:(q0l I f R x y).cov k=true:=hb1
          simp only [hbc,if_true] at hev
          cases kn with
          | false =>
            simp only [Bool.false_eq_true,if_false] at hev
            have hmm:=hm1 S hS
            have hP2:q0s (q29 (I k).bl (I k).al (I k).ov (f k x y) S):=z4b ((hL.it k (by omega) hf).2.2 x y hx hy).1 ((hL.it k (by omega) hf).2.2 x y hx hy).2 (hL.it k (by omega) hf).1 hS
            rw [show (q0l I f R x y).fill k S=q29 (I k).bl (I k).al (I k).ov (f k x y) S from rfl] at hev
            generalize q29 (I k).bl (I k).al (I k).ov (f k x y) S=P at *
            (repeat ((try (conv=>whnf));(first |(refine hc _ ?_) |(refine s3Q ?_) |(with_reducible first |refine q0b (fun vs w=>by kernel_rfl) (by kernel_rfl) (hcv) ?_ |refine q0a (fun vs w=>by kernel_rfl) (by kernel_rfl) (hcv) ?_ |refine q0b (fun vs w=>by kernel_rfl) (by kernel_rfl) (hmm) ?_ |refine q0a (fun vs w=>by kernel_rfl) (by kernel_rfl) (hmm) ?_))))
            conv=>whnf
            refine ⟨k+1,P,⟨by omega,l2,hP2,ts',h2,by simp at hsz;omega,hev⟩,by omega,?_⟩
            ((refine q0g ?_);(conv=>whnf);(refine q0j (by rfl) (by rfl) flQ ?_))
            exact q0c (by exact flQ) (q0c (by exact flQ) (q0c (by exact flQ) (q0c (by exact flQ) q0e)))
          | true =>
            simp only [if_true] at hev
            have hmm:=hm1 b hb
            have hP2:q0s (q29 (I k).bl (I k).al (I k).ov (f k x y) b):=z4b ((hL.it k (by omega) hf).2.2 x y hx hy).1 ((hL.it k (by omega) hf).2.2 x y hx hy).2 (hL.it k (by omega) hf).1 hb
            rw [show (q0l I f R x y).fill k b=q29 (I k).bl (I k).al (I k).ov (f k x y) b from rfl] at hev
            generalize q29 (I k).bl (I k).al (I k).ov (f k x y) b=P at *
            (repeat ((try (conv=>whnf));(first |(refine hc _ ?_) |(refine s3Q ?_) |(with_reducible first |refine q0b (fun vs w=>by kernel_rfl) (by kernel_rfl) (hcv) ?_ |refine q0a (fun vs w=>by kernel_rfl) (by kernel_rfl) (hcv) ?_ |refine q0b (fun vs w=>by kernel_rfl) (by kernel_rfl) (hmm) ?_ |refine q0a (fun vs w=>by kernel_rfl) (by kernel_rfl) (hmm) ?_))))
            conv=>whnf
            refine ⟨k+1,P,⟨by omega,l2,hP2,ts',h2,by simp at hsz;omega,hev⟩,by omega,?_⟩
            ((refine q0g ?_);(conv=>whnf);(refine q0j (by rfl) (by rfl) flQ ?_))
            exact q0c (by exact flQ) (q0c (by exact flQ) (q0c (by exact flQ) (q0c (by exact flQ) q0e)))
      | group _ ms' e ts' _ hf h3 h4 h5 h6 =>
        have l1:=h3.le
        have l2:=h6.le
        obtain ⟨p,rfl,hc⟩:=hI k (by omega)
        have hen:=z1b (W:=W) (H:=H) (SA:=SA) (m:=m) (sq:=sq) (iq:=iq) hI hn hF.kind _ k e ms' (Nat.le_refl _) h3 (by omega) h4 h5
        have hcv:=z1c (W:=W) (H:=H) (SA:=SA) (m:=m) (sq:=sq) (iq:=iq) (x:=x) (y:=y) hI hn hL.reg (i:=k) (j:=e+1) (by omega) (by omega)
        rw [show cvB I R x y k (e+1-k)=covL (q0l I f R x y) [.group k ms'] from SpanL.cov (.group k ms' e [] (e+1) hf h3 h4 h5 (.nil _)),covL,covL,Bool.or_false] at hcv
        rw [evL] at hev
        have hbd2:∀ U,q0s U→q0s (evL (q0l I f R x y) (I k).kn U ms' U):=fun U hU=>q86 hx hy (fun k hk=>hL.it k (by omega) hk.1) (fun k hk=>hL.gr k (by omega) hk.1) ms' h3.all _ U U hU hU
        have hm1:=fun (U:St) (hU:q0s U)=>z78 (W:=W) (H:=H) (SA:=SA) (m:=m) (sq:=sq) (iq:=iq) hI hn (i:=k) (e:=e) (by omega) (by omega) (by omega) hf (hL.gr k (by omega) hf) (fun b hb=>hrec trivial ms' (k+1) e (by simp at hsz;omega) h3 (by omega) (I k).kn b hb) hbd2 hU
        have hPb:∀ U,q0s U→q0s (evT (q0l I f R x y) (.group k ms') U):=fun U hU=>x5y (p:=fun k=>(I k).K=0∧k<e+1) (q:=fun k=>(I k).K=1∧k<e+1) hx hy (fun k hk=>hL.it k (by omega) hk.1) (fun k hk=>hL.gr k (by omega) hk.1) (.group k ms') (by
          have:=(SpanL.group k ms' e [] (e+1) hf h3 h4 h5 (.nil _)).all
          rw [AllL] at this;exact this.1) U hU
        rw [show ((e+1:Nat):Int)=(e:Int)+1 by omega] at hcv hm1
        cases hb1:covT (q0l I f R x y) (.group k ms') with
        | false =>
          rw [hb1] at hcv hev
          simp only [Bool.false_eq_true,if_false] at hev
          (repeat ((try (conv=>whnf));(first |(refine hc _ ?_) |(refine s3Q ?_) |(with_reducible first |refine q0b (fun vs w=>by kernel_rfl) (by kernel_rfl) (hen) ?_ |refine q0a (fun vs w=>by kernel_rfl) (by kernel_rfl) (hen) ?_ |refine q0b (fun vs w=>by kernel_rfl) (by kernel_rfl) (hcv) ?_ |refine q0a (fun vs w=>by kernel_rfl) (by kernel_rfl) (hcv) ?_))))
          conv=>whnf
          refine ⟨e+1,S,⟨by omega,l2,hS,ts',h6,by simp at hsz;omega,hev⟩,by omega,?_⟩
          ((refine q0g ?_);(conv=>whnf);(refine q0j (by rfl) (by rfl) flQ ?_))
          exact q0c (by exact flQ) (q0c (by exact flQ) (q0c (by exact flQ) (q0c (by exact flQ) q0e)))
        | true =>
          rw [hb1] at hcv hev
          simp only [if_true] at hev
          cases kn with
          | false =>
            simp only [Bool.false_eq_true,if_false] at hev
            have hmm:=hm1 S hS
            have hP2:=hPb S hS
            generalize evT (q0l I f R x y) (.group k ms') S=P at *
            (repeat ((try (conv=>whnf));(first |(refine hc _ ?_) |(refine s3Q ?_) |(with_reducible first |refine q0b (fun vs w=>by kernel_rfl) (by kernel_rfl) (hen) ?_ |refine q0a (fun vs w=>by kernel_rfl) (by kernel_rfl) (hen) ?_ |refine q0b (fun vs w=>by kernel_rfl) (by kernel_rfl) (hcv) ?_ |refine q0a (fun vs w=>by kernel_rfl) (by kernel_rfl) (hcv) ?_ |refine q0b (fun vs w=>by kernel_rfl) (by kernel_rfl) (hmm) ?_ |refine q0a (fun vs w=>by kernel_rfl) (by kernel_rfl) (hmm) ?_))))
            conv=>whnf
            refine ⟨e+1,P,⟨by omega,l2,hP2,ts',h6,by simp at hsz;omega,hev⟩,by omega,?_⟩
            ((refine q0g ?_);(conv=>whnf);(refine q0j (by rfl) (by rfl) flQ ?_))
            exact q0c (by exact flQ) (q0c (by exact flQ) (q0c (by exact flQ) (q0c (by exact flQ) q0e)))
          | true =>
            simp only [if_true] at hev
            have hmm:=hm1 b hb
            have hP2:=hPb b hb
            generalize evT (q0l I f R x y) (.group k ms') b=P at *
            (repeat ((try (conv=>whnf));(first |(refine hc _ ?_) |(refine s3Q ?_) |(with_reducible first |refine q0b (fun vs w=>by kernel_rfl) (by kernel_rfl) (hen) ?_ |refine q0a (fun vs w=>by kernel_rfl) (by kernel_rfl) (hen) ?_ |refine q0b (fun vs w=>by kernel_rfl) (by kernel_rfl) (hcv) ?_ |refine q0a (fun vs w=>by kernel_rfl) (by kernel_rfl) (hcv) ?_ |refine q0b (fun vs w=>by kernel_rfl) (by kernel_rfl) (hmm) ?_ |refine q0a (fun vs w=>by kernel_rfl) (by kernel_rfl) (hmm) ?_))))
            conv=>whnf
            refine ⟨e+1,P,⟨by omega,l2,hP2,ts',h6,by simp at hsz;omega,hev⟩,by omega,?_⟩
            ((refine q0g ?_);(conv=>whnf);(refine q0j (by rfl) (by rfl) flQ ?_))
            exact q0c (by exact flQ) (q0c (by exact flQ) (q0c (by exact flQ) (q0c (by exact flQ) q0e)))
end
end Go.Proofs.YticolnghiibgfaaGreat
namespace Go.Proofs.YticolnghiibgfaaGreat
open Go.RowKit
set_option maxRecDepth 20000
section
variable {I:Nat→ItemD} {R:Nat→List Run} {f:Nat→SrcF} {G:Mem} {W H:Int} {SA IA:Option Addr} {m sq n iq:Nat} {x y:Int}
set_option maxHeartbeats 16000000 in
theorem z1i (hI:ItemsM G IA n I) (hn:n≤1000000) (hm:1≤m∧m≤8) (hL:LOk G I f R n) (hF:LRef G I f n) (hx:-8192≤x∧x<8192) (hy:-8192≤y∧y<8192) :
    Gives Tryz.prog 13 [q08 W H SA m sq IA n iq,.val (.int .i64 x),.val (.int .i64 y)] G (inA (q67 I f R n m x y)):=by
  have hM:=x0e (W:=W) (H:=H) (SA:=SA) (m:=m) (sq:=sq) (iq:=iq) hI hn hL hF hx hy _ (q6k I n) 0 n (Nat.le_refl _) hL.span (Nat.le_refl _) false q19 z7y
  change Gives _ _ [_,.val (.int .i64 0),_,_,.agg [.val (.int .u8 255),.val (.int .u8 0),.val (.int .u8 0),.val (.int .u8 0),.val (.int .u8 0),.val (.int .u8 0),.val (.int .u8 0),.val (.int .u8 0),.val (.int .u8 0)],_,_] _ _ at hM
  have hlst:q67 I f R n m x y=rowI m (evL (q0l I f R x y) false q19 (q6k I n) q19):=rfl
  rw [hlst]
  generalize evL (q0l I f R x y) false q19 (q6k I n) q19=E at *
  clear hlst
  refine q0o tab_ok Tryz.func13 ?_
  have:m=1∨m=2∨m=3∨m=4∨m=5∨m=6∨m=7∨m=8:=by omega
  rcases this with rfl |rfl |rfl |rfl |rfl |rfl |rfl |rfl
  all_goals ((repeat ((try (conv=>whnf));(first |(refine scQ ?_) |(with_reducible first |refine q0b (fun vs w=>by kernel_rfl) (by kernel_rfl) (hM) ?_ |refine q0a (fun vs w=>by kernel_rfl) (by kernel_rfl) (hM) ?_))));exact ⟨rfl,rfl⟩)
end
end Go.Proofs.YticolnghiibgfaaGreat
namespace Go.Proofs.YticolnghiibgfaaGreat
open Go.RowKit Go.ChangeShapes Go.WideShapes Go.Deep
theorem Gives.worlds {P:Program} {f:FuncId} {args:List AV} {G:Mem} {v:AV} (h:∀ w,G.holds w→Gives P f args (q1s w) v):Gives P f args G v:=fun w vs hG ha=>h w hG w vs (z3d w) ha
def noSl (P:Program):Nat→TypeId→Bool
  | 0,_=>false
  | n+1,t=>match P.underlying t with
    | some (.int _)=>true
    | some .bool=>true
    | some .string=>true
    | some (.struct fs)=>fs.toList.all fun f=>noSl P n f.type
    | some (.array _ e)=>noSl P n e
    | _=>false
theorem Sees.any {P:Program} {w w':World}:∀ (m n:Nat) (t:TypeId) (cs:List Value),noSl P n t=true→Sees P w m t cs→Sees P w' m t cs
  | 0,_,_,_,_,h=>h
  | m+1,0,_,_,hn,_=>by simp [noSl] at hn
  | m+1,n+1,t,cs,hn,h=>by
    unfold Sees at h ⊢
    unfold noSl at hn
    split at h <;> simp_all
    · intro i f hf
      obtain ⟨h1,h2⟩:=Array.getElem?_eq_some_iff.1 hf
      have hq:=hn i h1
      rw [h2] at hq
      exact Sees.any m n _ _ hq (h.2 i f hf)
    · intro i hi
      exact Sees.any m n _ _ hn (h.2 i hi)
def SliceM (P:Program) (G:Mem) (e:TypeId) (A:Option Addr) (n:Nat) (g:Nat→Nat→Value):Prop :=
  (∃ w0 A0,SliceG P w0 e A0 n g)∧(0<n→∃ b off,A=some ⟨b,off,none⟩∧∀ x,x<n→∀ j,j<P.cellsOf e→G.cell? ⟨b,off+x*P.cellsOf e+j,none⟩=some (g x j))
section
variable {P:Program} {w:World} {G G':Mem} {e:TypeId} {A:Option Addr} {n:Nat} {g:Nat→Nat→Value}
theorem SliceM.of (h:SliceG P w e A n g):SliceM P (q1s w) e A n g:=⟨⟨w,A,h⟩,fun h0=>by
  obtain ⟨b,off,h1,h2,h3⟩:=h h0
  exact ⟨b,off,h1,fun x hx j hj=>(h3 x hx).1 j hj⟩⟩
theorem SliceM.mono (h:SliceM P G e A n g) (hle:G.le G'):SliceM P G' e A n g:=⟨h.1,fun h0=>by
  obtain ⟨b,off,h1,h2⟩:=h.2 h0
  exact ⟨b,off,h1,fun x hx j hj=>hle.cell (h2 x hx j hj)⟩⟩
theorem Mem.cell_in {w:World} {a:Addr} {v:Value} (hG:G.holds w) (h:G.cell? a=some v):w.cell? a=some v∧a.block<w.heap.size:=by
  unfold Mem.cell? at h
  unfold World.cell?
  cases hb:G a.block with
  | none=>rw [hb] at h;simp at h
  | some o =>
    have:=hG _ _ hb
    rw [this]
    rw [hb] at h
    exact ⟨h,(Array.getElem?_eq_some_iff.1 this).1⟩
theorem SliceM.at {k:Nat} (h:SliceM P G e A n g) (hk:noSl P k e=true) (hc:0<P.cellsOf e) (hG:G.holds w):SliceG P w e A n g:=fun h0=>by
  obtain ⟨⟨w0,A0,h1⟩,h2⟩:=h
  obtain ⟨b,off,hA,h3⟩:=h2 h0
  obtain ⟨b0,off0,hA0,_,h4⟩:=h1 h0
  refine ⟨b,off,hA,(Mem.cell_in hG (h3 0 h0 0 hc)).2,fun x hx=>⟨fun j hj=>(Mem.cell_in hG (h3 x hx j hj)).1,?_⟩⟩
  obtain ⟨m,hm⟩:=(h4 x hx).2
  exact ⟨m,Sees.any m k _ _ hk hm⟩
theorem SliceM.els (h:SliceM P G e A n g) {sz:Nat} (hs:P.cellsOf e=sz):ElsM G A sz n fun x=>(List.range sz).map (g x):=by
  subst hs
  refine ⟨fun x hx=>by simp,fun x hx=>?_⟩
  obtain ⟨b,off,hA,h3⟩:=h.2 (by omega)
  refine ⟨b,off,hA,fun j v hj=>?_⟩
  have hjl:j<P.cellsOf e:=by have:=(List.getElem?_eq_some_iff.1 hj).1;simpa using this
  rw [h3 x hx j hjl]
  simp [List.getElem?_map,List.getElem?_range hjl] at hj
  rw [hj]
theorem SliceM.copy (h:SliceM P G e A n g) {sz:Nat} (hs:P.cellsOf e=sz) {B:Option Addr} (hB:FlatM G' B (q63 (fun x=>(List.range sz).map (g x)) n)) (hz:0<sz):SliceM P G' e B n g:=by
  subst hs
  refine ⟨h.1,fun h0=>?_⟩
  have hE:=hB.els (sz:=P.cellsOf e) (fun x hx=>by simp) hz
  obtain ⟨b,off,hA,_⟩:=hE.at_ 0 h0
  refine ⟨b,off,hA,fun x hx j hj=>?_⟩
  obtain ⟨b',off',hA',h2⟩:=hE.at_ x hx
  rw [hA] at hA';cases hA'
  exact h2 j _ (by simp [List.getElem?_map,List.getElem?_range hj])
end
end Go.Proofs.YticolnghiibgfaaGreat
namespace Go.Proofs.YticolnghiibgfaaGreat
open Go.RowKit Go.Proofs.YticolnghiibgfaaGreat.gradientRamps Go.Proofs.YticolnghiibgfaaGreat.gradientPlaces Go.Proofs.YticolnghiibgfaaGreat.imageCells
set_option maxRecDepth 20000
theorem x78 {n:Nat} {P:Nat→Int} {V:Nat→Nat→Int} {t:Int} {j:Nat} (hn:1≤n) (hV:∀ i,i<n→0≤V i j∧V i j≤255):0≤q59 n P V t j∧q59 n P V t j≤255:=by
  unfold q59
  cases hk:q3o P t n with
  | zero=>rw [if_pos rfl];exact hV 0 (by omega)
  | succ k =>
    obtain ⟨hkn,hle,hno⟩:=z04 hk
    rw [if_neg (by omega),Nat.add_sub_cancel]
    split
    · exact hV k hkn
    · rename_i h
      have hk1:k+1<n:=by
        rcases Nat.lt_or_ge (k+1) n with h1 |h1
        · exact h1
        · exact absurd (.inl (by omega)) h
      have h2:=hno (k+1) (by omega) hk1
      have h3:=z43 (p:=P (k+1)-t) (q:=t-P k) (by omega) (by omega) (hV k hkn) (hV (k+1) hk1) (by omega)
      rw [Int.mul_comm (V k j),Int.mul_comm (V (k+1) j),show P (k+1)-P k=(P (k+1)-t)+(t-P k) by omega]
      exact h3
structure SrcG (G:Mem) (i:ItemD) (gs gp gf:Nat→Nat→Value):Prop where
  stop:i.n≤i.q∧i.q≤maxLen∧SliceM Tryz.prog G 119 i.A i.n gs
  pix:i.pn≤i.pq∧i.pq≤maxLen∧SliceM Tryz.prog G 28 i.B i.pn gp
  soft:i.sn≤i.sq∧i.sq≤maxLen∧SliceM Tryz.prog G 5 i.C i.sn gf
  ink:∀ j,j<8→0≤i.I j∧i.I j≤255
structure ItemG (G:Mem) (i:ItemD) (gr gs gp gf:Nat→Nat→Value):Prop where
  run:i.rn≤i.rq∧i.rq≤maxLen∧SliceM Tryz.prog G 87 i.RA i.rn gr
  src:SrcG G i gs gp gf
  al:0≤i.al∧i.al≤255
abbrev setS (i:ItemD) (A:Option Addr) (q:Nat) (B:Option Addr) (pq:Nat) (C:Option Addr) (sq:Nat):ItemD:=⟨i.K,i.RA,i.rn,i.rq,i.k,i.I,i.fx,i.fy,i.tx,i.ty,i.r,A,i.n,q,i.W,i.H,B,i.pn,pq,C,i.sn,sq,i.a,i.b,i.c,i.d,i.e,i.f,i.s,i.t,i.al,i.bl,i.ov,i.iso,i.kn⟩
theorem q8f {G:Mem} {w:World} {A:Option Addr} {n:Nat} {g:Nat→Nat→Value} (h:SliceM Tryz.prog G 119 A n g) (hG:G.holds w):SliceG Tryz.prog w 119 A n g:=h.at (k:=20) (by kernel_rfl) (of_decide_eq_true (by kernel_rfl)) hG
theorem x52 {G:Mem} {w:World} {A:Option Addr} {n:Nat} {g:Nat→Nat→Value} (h:SliceM Tryz.prog G 28 A n g) (hG:G.holds w):SliceG Tryz.prog w 28 A n g:=h.at (k:=20) (by kernel_rfl) (of_decide_eq_true (by kernel_rfl)) hG
theorem v0v {G:Mem} {A B:Option Addr} {n m:Nat} {g h:Nat→Nat→Value} (h1:SliceM Tryz.prog G 28 A n g) (h2:SliceM Tryz.prog G 5 B m h):Pics G A n (fun x j=>valI (g x j)) B m (fun x=>valI (h x 0)):=by
  have e8:Tryz.prog.cellsOf 28=8:=by kernel_rfl
  have e1:Tryz.prog.cellsOf 5=1:=by kernel_rfl
  obtain ⟨⟨w1,A1,s1⟩,h1⟩:=h1
  obtain ⟨⟨w2,A2,s2⟩,h2⟩:=h2
  rw [e8] at h1
  rw [e1] at h2
  refine ⟨fun x hx=>?_,fun x hx=>?_⟩
  · obtain ⟨b,off,hA,hc⟩:=h1 (by omega)
    refine ⟨b,off,hA,fun j hj=>?_⟩
    rw [← (s1.int (by kernel_rfl) hx (z6l hj)).1];exact hc x hx j hj
  · obtain ⟨b,off,hA,hc⟩:=h2 (by omega)
    refine ⟨b,off,hA,?_⟩
    have:=hc x hx 0 (by omega)
    rw [Nat.mul_one,Nat.add_zero] at this
    rw [← (s2.int (j:=0) (k:=.u8) (by kernel_rfl) hx (by kernel_rfl)).1];exact this
theorem x92 {G:Mem} {A:Option Addr} {n:Nat} {g:Nat→Nat→Value} (h:SliceM Tryz.prog G 87 A n g):RunsM G A (q2i (fun x=>⟨valI (g x 0),valI (g x 1),valI (g x 2)⟩) n):=by
  have e3:Tryz.prog.cellsOf 87=3:=by kernel_rfl
  have ef:flat Tryz.prog 20 87=[.int .i64,.int .i64,.int .i64]:=by kernel_rfl
  obtain ⟨⟨w1,A1,s1⟩,h1⟩:=h
  rw [e3] at h1
  intro i r hr
  have hi:i<n:=by have:=(List.getElem?_eq_some_iff.1 hr).1;simpa [q2i] using this
  obtain ⟨b,off,hA,hc⟩:=h1 (by omega)
  have hr2:r=⟨valI (g i 0),valI (g i 1),valI (g i 2)⟩:=by
    simp [q2i,List.getElem?_range hi] at hr;exact hr.symm
  subst hr2
  refine ⟨b,off,hA,?_,?_,?_⟩
  · rw [← (s1.int (j:=0) (k:=.i64) (by kernel_rfl) hi (by rw [ef];rfl)).1];exact hc i hi 0 (by omega)
  · rw [← (s1.int (j:=1) (k:=.i64) (by kernel_rfl) hi (by rw [ef];rfl)).1];exact hc i hi 1 (by omega)
  · rw [← (s1.int (j:=2) (k:=.i64) (by kernel_rfl) hi (by rw [ef];rfl)).1];exact hc i hi 2 (by omega)
section
variable {w:World} {A:Option Addr} {n:Nat} {g:Nat→Nat→Value}
theorem x53 (h:SliceG Tryz.prog w 56 A n g) {x:Nat} (hx:x<n):∃ gr gs gp gf,ItemG (q1s w) (q4t (g x)) gr gs gp gf:=by
  obtain ⟨m1,h1⟩:=h.seen (j:=1) q04 hx (by rw [q0v];rfl)
  obtain ⟨m16,h16⟩:=h.seen (j:=16) q04 hx (by rw [q0v];rfl)
  obtain ⟨m19,h19⟩:=h.seen (j:=19) q04 hx (by rw [q0v];rfl)
  obtain ⟨m20,h20⟩:=h.seen (j:=20) q04 hx (by rw [q0v];rfl)
  obtain ⟨a1,a2,gr,a3⟩:=(q4f uRun cRun h1).2
  obtain ⟨b1,b2,gs,b3⟩:=(q4f x8w x8x h16).2
  obtain ⟨c1,c2,gp,c3⟩:=(q4f x8y x8z h19).2
  obtain ⟨d1,d2,gf,d3⟩:=(q4f x5j x5k h20).2
  refine ⟨gr,gs,gp,gf,⟨a1,a2,SliceM.of a3⟩,⟨⟨b1,b2,SliceM.of b3⟩,⟨c1,c2,SliceM.of c3⟩,⟨d1,d2,SliceM.of d3⟩,fun j hj=>?_⟩,?_⟩
  · refine q8c (h.int (j:=j+3) (k:=.u8) q04 hx ?_).2
    rw [q0v]
    match j,hj with
    | 0,_=>rfl
    | 1,_=>rfl
    | 2,_=>rfl
    | 3,_=>rfl
    | 4,_=>rfl
    | 5,_=>rfl
    | 6,_=>rfl
    | 7,_=>rfl
  · exact q8c (h.int (j:=29) (k:=.u8) q04 hx (by rw [q0v];rfl)).2
end
section
variable {G:Mem} {A:Option Addr} {n:Nat} {g:Nat→Nat→Value}
structure SrcBoth (M:Mem) (i:ItemD) (fi:SrcF):Prop where
  prog:GivesM Tryz.prog 77 [q2t i] M fun v F=>IsSrc F v fi
  ref:∀ x y:Int,(-8192≤x∧x<8192)→(-8192≤y∧y<8192)→Gives Tryz.prog 89 [q2t i,.val (.int .i64 x),.val (.int .i64 y)] M (.tup [q1o (fi x y).1,.val (.int .i64 (fi x y).2)])
  bd:∀ x y:Int,(-8192≤x∧x<8192)→(-8192≤y∧y<8192)→q81 (fi x y).1∧0≤(fi x y).2∧(fi x y).2≤255
theorem x54 {i:ItemD} (h:∀ j,j<8→0≤i.I j∧i.I j≤255) (hk:i.k=0) (G:Mem) (A:Option Addr) (q:Nat) (B:Option Addr) (pq:Nat) (C:Option Addr) (sq:Nat):SrcBoth G (setS i A q B pq C sq) fun _ _=>(i.I,255):=by
  refine ⟨?_,fun x y _ _=>?_,fun x y _ _=>⟨h,show (0:Int)≤255 by omega,Int.le_refl _⟩⟩
  · have:=q6u (I:=i.I) (fx:=i.fx) (fy:=i.fy) (tx:=i.tx) (ty:=i.ty) (r:=i.r) (A:=A) (n:=i.n) (q:=q) (W:=i.W) (H:=i.H) (B:=B) (pn:=i.pn) (pq:=pq) (C:=C) (sn:=i.sn) (sq:=sq) (a:=i.a) (b:=i.b) (c:=i.c) (d:=i.d) (e:=i.e) (f:=i.f) (s:=i.s) (t:=i.t) (G:=G)
    rw [← hk] at this;exact this
  · have:=z6m (I:=i.I) (fx:=i.fx) (fy:=i.fy) (tx:=i.tx) (ty:=i.ty) (r:=i.r) (A:=A) (n:=i.n) (q:=q) (W:=i.W) (H:=i.H) (B:=B) (pn:=i.pn) (pq:=pq) (C:=C) (sn:=i.sn) (sq:=sq) (a:=i.a) (b:=i.b) (c:=i.c) (d:=i.d) (e:=i.e) (f:=i.f) (s:=i.s) (t:=i.t) (x:=x) (y:=y) (G:=G)
    rw [← hk] at this;exact this
set_option maxHeartbeats 8000000 in
theorem x79 {i:ItemD} {g:Nat→Nat→Value} (hs0:∃ w0 A0,SliceG Tryz.prog w0 119 A0 i.n g) (hk:i.k=1∨i.k=2) {z:Bool} (he:q2p i.k z i.fx i.fy i.tx i.ty i.r (q1e (fun x=>valI (g x 0)) i.n)=0) :
    ∃ fi,∀ (G:Mem) (A:Option Addr) (q:Nat) (B:Option Addr) (pq:Nat) (C:Option Addr) (sq:Nat),SliceM Tryz.prog G 119 A i.n g→SrcBoth G (setS i A q B pq C sq) fi:=by
  have hst:=(z9o he (x:=0) (y:=0) (by omega) (by omega)).2
  have hn:=(q4y hst).1
  have hp:=fun (x y:Int) (hx:-8192≤x∧x<8192) (hy:-8192≤y∧y<8192)=>(z9o he hx hy).1
  have hv:=fun (x y:Int)=>x5e (k:=i.k) (fx:=i.fx) (fy:=i.fy) (tx:=i.tx) (ty:=i.ty) (r:=i.r) (x:=x) (y:=y)
  obtain ⟨w0,A0,hs0⟩:=hs0
  obtain ⟨_,_,_,_,hbd⟩:=z15 hs0 (by omega)
  have hb:=fun (x y:Int) j (hj:j<8)=>x78 (P:=fun x=>valI (g x 0)) (V:=fun x j=>valI (g x (j+1))) (t:=q4a i.k i.fx i.fy i.tx i.ty i.r x y) (j:=j) hn.1 fun k hk=>hbd k hk j hj
  refine ⟨fun x y=>(q59 i.n (fun x=>valI (g x 0)) (fun x j=>valI (g x (j+1))) (q4a i.k i.fx i.fy i.tx i.ty i.r x y),255),fun G A q B pq C sq hs=>?_⟩
  have hpl:=fun (x y:Int) (hx:-8192≤x∧x<8192) (hy:-8192≤y∧y<8192) (G:Mem)=>x02 (I:=i.I) (st:=.slice A i.n q) (W:=i.W) (H:=i.H) (px:=.slice B i.pn pq) (sf:=.slice C i.sn sq) (a:=i.a) (b:=i.b) (c:=i.c) (d:=i.d) (e:=i.e) (f:=i.f) (s:=i.s) (t:=i.t) (G:=G) (hp x y hx hy)
  have hrl:=fun (x y:Int) (hx:-8192≤x∧x<8192) (hy:-8192≤y∧y<8192) (G:Mem)=>z9n (I:=i.I) (st:=.slice A i.n q) (W:=i.W) (H:=i.H) (px:=.slice B i.pn pq) (sf:=.slice C i.sn sq) (a:=i.a) (b:=i.b) (c:=i.c) (d:=i.d) (e:=i.e) (f:=i.f) (s:=i.s) (t:=i.t) (G:=G) (hp x y hx hy)
  have hr1:=fun (x y:Int)=>Gives.worlds fun w hw=>x3a (q:=q) (q8f hs hw) hst (hv x y)
  have hr2:=fun (x y:Int)=>Gives.worlds fun w hw=>x00 (cap:=q) (q8f hs hw) hst (hv x y)
  obtain ⟨V,hV⟩:∃ V:Int→Int→Nat→Int,∀ x y,q59 i.n (fun x=>valI (g x 0)) (fun x j=>valI (g x (j+1))) (q4a i.k i.fx i.fy i.tx i.ty i.r x y)=V x y:=⟨_,fun _ _=>rfl⟩
  obtain ⟨Q,hQ⟩:∃ Q:Int→Int→Int,∀ x y,q4a i.k i.fx i.fy i.tx i.ty i.r x y=Q x y:=⟨_,fun _ _=>rfl⟩
  simp only [hV] at hr1 hr2 hb ⊢
  simp only [hQ] at hr1 hr2 hpl hrl
  clear hV hQ hv hp hbd
  refine ⟨?_,fun x y hx hy=>?_,fun x y _ _=>⟨fun j hj=>hb x y j hj,show (0:Int)≤255 by omega,Int.le_refl _⟩⟩
  · exact z76 (k:=i.k) (I:=i.I) (fx:=i.fx) (fy:=i.fy) (tx:=i.tx) (ty:=i.ty) (r:=i.r) (A:=A) (n:=i.n) (q:=q) (W:=i.W) (H:=i.H) (B:=B) (pn:=i.pn) (pq:=pq) (C:=C) (sn:=i.sn) (sq:=sq) (a:=i.a) (b:=i.b) (c:=i.c) (d:=i.d) (e:=i.e) (f:=i.f) (s:=i.s) (t:=i.t) (V:=V) hk fun x y hx hy=>⟨Q x y,fun G' hG=>hpl x y hx hy G',fun G' hG=>(hr1 x y).mono hG⟩
  · exact z75 (k:=i.k) (I:=i.I) (fx:=i.fx) (fy:=i.fy) (tx:=i.tx) (ty:=i.ty) (r:=i.r) (A:=A) (n:=i.n) (q:=q) (W:=i.W) (H:=i.H) (B:=B) (pn:=i.pn) (pq:=pq) (C:=C) (sn:=i.sn) (sq:=sq) (a:=i.a) (b:=i.b) (c:=i.c) (d:=i.d) (e:=i.e) (f:=i.f) (s:=i.s) (t:=i.t) (V:=V x y) (p:=Q x y) hk (hrl x y hx hy _) (hr2 x y)
set_option maxHeartbeats 8000000 in
theorem x55 {i:ItemD} {g1 g2:Nat→Nat→Value} (h1:∃ w0 A0,SliceG Tryz.prog w0 28 A0 i.pn g1) (h2:∃ w0 A0,SliceG Tryz.prog w0 5 A0 i.sn g2) (hk:i.k=3) {l:Int} (he:imgE i.W i.H i.pn i.sn l=0) :
    ∃ fi,∀ (G:Mem) (A:Option Addr) (q:Nat) (B:Option Addr) (pq:Nat) (C:Option Addr) (sq:Nat),SliceM Tryz.prog G 28 B i.pn g1→SliceM Tryz.prog G 5 C i.sn g2→SrcBoth G (setS i A q B pq C sq) fi:=by
  have ho:=(x11 he).1
  obtain ⟨w1,A1,k1⟩:=h1
  obtain ⟨w2,A2,k2⟩:=h2
  have hpx:∀ x j,x<i.pn→j<8→0≤valI (g1 x j)∧valI (g1 x j)≤255:=fun x j hx hj=>q8c (k1.int (by kernel_rfl) hx (z6l hj)).2
  have key:∀ x y:Int,∃ v:(Nat→Int) × Int,(-8192≤x∧x<8192)→(-8192≤y∧y<8192)→((0≤v.2∧v.2≤255)∧∀ j,j<8→0≤v.1 j∧v.1 j≤255)∧∀ (G:Mem) (B C:Option Addr) (pq sq:Nat),Pics G B i.pn (fun x j=>valI (g1 x j)) C i.sn (fun x=>valI (g2 x 0))→Gives Tryz.prog 102 [pntA i.W i.H (.slice B i.pn pq) (.slice C i.sn sq) i.a i.b i.c i.d i.e i.f i.s i.t (invL i.a i.b i.c i.d i.e i.f),.val (.int .i64 x),.val (.int .i64 y)] G (.tup [q1o v.1,.val (.int .u8 v.2)]) ∧
      Gives Tryz.prog 117 [imgA i.W i.H (.slice B i.pn pq) (.slice C i.sn sq) i.a i.b i.c i.d i.e i.f i.s i.t,.val (.int .i64 x),.val (.int .i64 y)] G (.tup [q1o v.1,.val (.int .i64 v.2)]):=fun x y=>by
    by_cases hu:(-8192≤x∧x<8192)∧(-8192≤y∧y<8192)
    · obtain ⟨R,so,a1,a2⟩:=x7y (a:=i.a) (b:=i.b) (c:=i.c) (d:=i.d) (e:=i.e) (f:=i.f) (s:=i.s) (r:=i.t) (P:=fun x j=>valI (g1 x j)) (S:=fun x=>valI (g2 x 0)) ho hpx (x9p k2) hu.1 hu.2
      exact ⟨(R,so),fun _ _=>⟨a1,a2⟩⟩
    · exact ⟨(fun _=>0,0),fun hx hy=>absurd ⟨hx,hy⟩ hu⟩
  have hF0:=fun x y=>Classical.choose_spec (key x y)
  generalize hFe:(fun x y=>Classical.choose (key x y))=F
  have hF:∀ x y:Int,(-8192≤x∧x<8192)→(-8192≤y∧y<8192)→((0≤(F x y).2∧(F x y).2≤255)∧∀ j,j<8→0≤(F x y).1 j∧(F x y).1 j≤255)∧∀ (G:Mem) (B C:Option Addr) (pq sq:Nat),Pics G B i.pn (fun x j=>valI (g1 x j)) C i.sn (fun x=>valI (g2 x 0))→Gives Tryz.prog 102 [pntA i.W i.H (.slice B i.pn pq) (.slice C i.sn sq) i.a i.b i.c i.d i.e i.f i.s i.t (invL i.a i.b i.c i.d i.e i.f),.val (.int .i64 x),.val (.int .i64 y)] G (.tup [q1o (F x y).1,.val (.int .u8 (F x y).2)]) ∧
      Gives Tryz.prog 117 [imgA i.W i.H (.slice B i.pn pq) (.slice C i.sn sq) i.a i.b i.c i.d i.e i.f i.s i.t,.val (.int .i64 x),.val (.int .i64 y)] G (.tup [q1o (F x y).1,.val (.int .i64 (F x y).2)]):=fun x y=>by
    rw [← hFe];exact hF0 x y
  clear hFe hF0 key
  refine ⟨fun x y=>(if (F x y).2=0 then fun _=>0 else (F x y).1,(F x y).2),fun G A q B pq C sq m1 m2=>?_⟩
  have hP:=v0v m1 m2
  refine ⟨?_,fun x y hx hy=>?_,fun x y hx hy=>⟨fun j hj=>?_,(hF x y hx hy).1.1⟩⟩
  · have:=z6o (I:=i.I) (fx:=i.fx) (fy:=i.fy) (tx:=i.tx) (ty:=i.ty) (r:=i.r) (A:=A) (n:=i.n) (q:=q) (W:=i.W) (H:=i.H) (B:=B) (pn:=i.pn) (pq:=pq) (C:=C) (sn:=i.sn) (sq:=sq) (a:=i.a) (b:=i.b) (c:=i.c) (d:=i.d) (e:=i.e) (f:=i.f) (s:=i.s) (t:=i.t) (G:=G) (R:=fun x y=>(F x y).1) (so:=fun x y=>(F x y).2) fun x y hx hy G' hG=>((hF x y hx hy).2 G B C pq sq hP).1.mono hG
    rw [← hk] at this;exact this
  · have:=z6n (I:=i.I) (fx:=i.fx) (fy:=i.fy) (tx:=i.tx) (ty:=i.ty) (r:=i.r) (A:=A) (n:=i.n) (q:=q) (W:=i.W) (H:=i.H) (B:=B) (pn:=i.pn) (pq:=pq) (C:=C) (sn:=i.sn) (sq:=sq) (a:=i.a) (b:=i.b) (c:=i.c) (d:=i.d) (e:=i.e) (f:=i.f) (s:=i.s) (t:=i.t) ((hF x y hx hy).2 G B C pq sq hP).2
    rw [← hk] at this
    dsimp only
    by_cases h0:(F x y).2=0
    · rw [if_pos h0] at this ⊢;exact this
    · rw [if_neg h0] at this ⊢;exact this
  · dsimp only
    split
    · exact ⟨Int.le_refl _,show (0:Int)≤255 by omega⟩
    · exact (hF x y hx hy).1.2 j hj
theorem v0w {i:ItemD} {gs g1 g2:Nat→Nat→Value} (h:∀ j,j<8→0≤i.I j∧i.I j≤255) (hs:∃ w0 A0,SliceG Tryz.prog w0 119 A0 i.n gs) (h1:∃ w0 A0,SliceG Tryz.prog w0 28 A0 i.pn g1) (h2:∃ w0 A0,SliceG Tryz.prog w0 5 A0 i.sn g2) {z p ii fw sg pg zz:Bool} {l:Int}
    (he:srcM i.k z p ii fw sg pg (q2p i.k zz i.fx i.fy i.tx i.ty i.r (q1e (fun x=>valI (gs x 0)) i.n)) (imgE i.W i.H i.pn i.sn l)=0) :
    ∃ fi,∀ (G:Mem) (A:Option Addr) (q:Nat) (B:Option Addr) (pq:Nat) (C:Option Addr) (sq:Nat),SrcG G (setS i A q B pq C sq) gs g1 g2→SrcBoth G (setS i A q B pq C sq) fi:=by
  unfold srcM at he
  split at he
  · exact ⟨_,fun G A q B pq C sq _=>x54 h ‹_› G A q B pq C sq⟩
  · split at he
    · split at he
      · obtain ⟨fi,hf⟩:=x79 hs ‹_› ‹_›
        exact ⟨fi,fun G A q B pq C sq k=>hf G A q B pq C sq k.stop.2.2⟩
      · exact absurd he ‹_›
    · split at he
      · split at he
        · split at he
          · obtain ⟨fi,hf⟩:=x55 h1 h2 ‹_› ‹_›
            exact ⟨fi,fun G A q B pq C sq k=>hf G A q B pq C sq k.pix.2.2 k.soft.2.2⟩
          · exact absurd he ‹_›
        · omega
      · omega
end
end Go.Proofs.YticolnghiibgfaaGreat
