/-
  Merged: XPlaces, XInvE, XImages, XSample, XImageE, XListS.
-/
import Derived.Test.YticolnghiibgfaaGreatMrg14
import Derived.Test.YticolnghiibgfaaGreatMrg12
import Derived.Test.YticolnghiibgfaaGreatMrg13
set_option linter.unusedVariables false
set_option linter.unusedSimpArgs false
set_option linter.unnecessarySimpa false
namespace Go.Proofs.YticolnghiibgfaaGreat.gradientPlaces
open Go.RowKit Go.Proofs.YticolnghiibgfaaGreat.gradientRamps
set_option maxRecDepth 20000
theorem x6c {k:Int} {I:Nat→Int} {fx fy tx ty r:Int} {st:Value} {W H:Int} {px sf:Value} {a b c d e f:Int} {s t:Bool} {β:Nm} (vs:List Value)
    (h:AV.rels β [srcA k I fx fy tx ty r st W H px sf a b c d e f s t] vs):vs=[.agg #[.int .i64 k,.int .u8 (I 0),.int .u8 (I 1),.int .u8 (I 2),.int .u8 (I 3),.int .u8 (I 4),.int .u8 (I 5),.int .u8 (I 6),.int .u8 (I 7),.int .i64 fx,.int .i64 fy,.int .i64 tx,.int .i64 ty,.int .i64 r,st,.int .i64 W,.int .i64 H,px,sf,.int .i64 a,.int .i64 b,.int .i64 c,.int .i64 d,.int .i64 e,.int .i64 f,.bool s,.bool t]]:=by
  unfold srcA at h
  simp only [AV.rels] at h
  obtain ⟨y,zs,rfl,h2,rfl⟩:=h
  rw [AV.rel] at h2
  obtain ⟨cs,rfl,h3⟩:=h2
  have:=q06 (m:=[.int .i64 k,.int .u8 (I 0),.int .u8 (I 1),.int .u8 (I 2),.int .u8 (I 3),.int .u8 (I 4),.int .u8 (I 5),.int .u8 (I 6),.int .u8 (I 7),.int .i64 fx,.int .i64 fy,.int .i64 tx,.int .i64 ty,.int .i64 r,st,.int .i64 W,.int .i64 H,px,sf,.int .i64 a,.int .i64 b,.int .i64 c,.int .i64 d,.int .i64 e,.int .i64 f,.bool s,.bool t]) h3
  rw [show cs=([.int .i64 k,.int .u8 (I 0),.int .u8 (I 1),.int .u8 (I 2),.int .u8 (I 3),.int .u8 (I 4),.int .u8 (I 5),.int .u8 (I 6),.int .u8 (I 7),.int .i64 fx,.int .i64 fy,.int .i64 tx,.int .i64 ty,.int .i64 r,st,.int .i64 W,.int .i64 H,px,sf,.int .i64 a,.int .i64 b,.int .i64 c,.int .i64 d,.int .i64 e,.int .i64 f,.bool s,.bool t]).toArray by rw [← this]]
theorem Check_gives {k:Int} {I:Nat→Int} {fx fy tx ty r:Int} {A:Option Addr} {n q:Nat} {g:Nat→Nat→Value} {W H:Int} {B:Option Addr} {pn pq:Nat} {C:Option Addr} {sn sq:Nat} {a b c d e f:Int} {s t:Bool} {w:World} (hn:n≤q∧q≤9223372036854775807) (h:SliceG Tryz.prog w 119 A n g) :
    Gives Tryz.prog 98 [srcA k I fx fy tx ty r (.slice A n q) W H (.slice B pn pq) (.slice C sn sq) a b c d e f s t] (q2k w) (.val (.int .i64 (q2s k (inkZ (I 0) (I 1) (I 2) (I 3) (I 4) (I 5) (I 6) (I 7)&&q1d W H pn sn a b c d e f s t) fx fy tx ty r (q1g (fun x=>valI (g x 0)) n)))) :=
  Gives.of_callsA (fun vs h=>x6c vs h) (by rw [AV.rel]) fun w' hw=>x31 k (I 0) (I 1) (I 2) (I 3) (I 4) (I 5) (I 6) (I 7) fx fy tx ty r A n q g W H B C pn pq sn sq a b c d e f s t w' hn (h.holds hw)
theorem RCheck_gives {k:Int} {I:Nat→Int} {fx fy tx ty r:Int} {A:Option Addr} {n q:Nat} {g:Nat→Nat→Value} {W H:Int} {B:Option Addr} {pn pq:Nat} {C:Option Addr} {sn sq:Nat} {a b c d e f:Int} {s t:Bool} {w:World} (hn:n≤q∧q≤9223372036854775807) (h:SliceG Tryz.prog w 119 A n g) :
    Gives Tryz.prog 88 [srcA k I fx fy tx ty r (.slice A n q) W H (.slice B pn pq) (.slice C sn sq) a b c d e f s t] (q2k w) (.val (.int .i64 (q2s k (inkZ (I 0) (I 1) (I 2) (I 3) (I 4) (I 5) (I 6) (I 7)&&q1d W H pn sn a b c d e f s t) fx fy tx ty r (q1g (fun x=>valI (g x 0)) n)))) :=
  Gives.of_callsA (fun vs h=>x6c vs h) (by rw [AV.rel]) fun w' hw=>x1q k (I 0) (I 1) (I 2) (I 3) (I 4) (I 5) (I 6) (I 7) fx fy tx ty r A n q g W H B C pn pq sn sq a b c d e f s t w' hn (h.holds hw)
theorem x0k {k:Int} {z:Bool} {fx fy tx ty r st x y:Int} (h:q2s k z fx fy tx ty r st=0) (hx:-8192≤x∧x<8192) (hy:-8192≤y∧y<8192):InPlace k fx fy tx ty r x y∧st=0:=by
  unfold q2s at h
  split at h
  · rename_i h1
    split at h
    · omega
    · split at h
      · omega
      · split at h
        · omega
        · split at h
          · omega
          · rename_i h2 h3
            simp only [not_or,Bool.not_eq_false] at h2
            obtain ⟨a1,a2⟩:=h2
            simp only [ptB,Bool.and_eq_true] at a1 a2
            exact ⟨⟨.inl h1,inB_iff.1 a1.1,inB_iff.1 a1.2,fun _=>inB_iff.1 a2.1,fun _=>inB_iff.1 a2.2,fun _=>by omega,fun e=>by omega,hx,hy⟩,h⟩
  · split at h
    · rename_i h1
      split at h
      · omega
      · split at h
        · omega
        · split at h
          · omega
          · rename_i h2
            simp only [not_or,Bool.not_eq_false] at h2
            obtain ⟨a1,a2,a3⟩:=h2
            simp only [ptB,Bool.and_eq_true] at a1
            exact ⟨⟨.inr h1,inB_iff.1 a1.1,inB_iff.1 a1.2,fun e=>by omega,fun e=>by omega,fun e=>by omega,fun _=>by omega,hx,hy⟩,h⟩
    · omega
section
variable {k:Int} {I:Nat→Int} {fx fy tx ty r:Int} {A:Option Addr} {n q:Nat} {g:Nat→Nat→Value} {W H:Int} {B:Option Addr} {pn pq:Nat} {C:Option Addr} {sn sq:Nat} {a b c d e f:Int} {s t:Bool} {w:World} {e0:Int} {x y:Int}
theorem x4b {t':Int} (h:SliceG Tryz.prog w 119 A n g) (he:q1g (fun x=>valI (g x 0)) n=0) (ht:0≤t'∧t'≤65536) :
    Gives Tryz.prog 131 [.val (.slice A n q),.val (.int .i64 t')] (q2k w) (inks (q6k n (fun x=>valI (g x 0)) (fun x j=>valI (g x (j+1))) t')):=by
  refine Gives.of_callsA x9e (x0i _) fun w' hw=>?_
  obtain ⟨b,off,rfl,h1,h2⟩:=z2p (h.holds hw) (by have:=(q5a he).1;omega)
  exact (z98 b off n q _ _ _ t' w' (q5a he).1 ht (q5a he).2 h2 h1 fun j hj=>rfl).1
theorem x6d:0≤q4l k fx fy tx ty r x y∧q4l k fx fy tx ty r x y≤65536:=by
  unfold q4l;generalize (if k=1 then _ else _:Int)=z;omega
end
end Go.Proofs.YticolnghiibgfaaGreat.gradientPlaces
namespace Go.Proofs.YticolnghiibgfaaGreat
open Go.RowKit
set_option maxRecDepth 20000
def matA (V:Nat→Int):AV:=.agg [.val (.int .i64 (V 0)),.val (.int .i64 (V 1)),.val (.int .i64 (V 2)),.val (.int .i64 (V 3)),.val (.int .i64 (V 4)),.val (.int .i64 (V 5))]
theorem x6e {a b c d e f:Int} {β:Nm} (vs:List Value) (h:AV.rels β [.agg [.val (.int .i64 a),.val (.int .i64 b),.val (.int .i64 c),.val (.int .i64 d),.val (.int .i64 e),.val (.int .i64 f)]] vs) :
    vs=[.agg #[.int .i64 a,.int .i64 b,.int .i64 c,.int .i64 d,.int .i64 e,.int .i64 f]]:=by
  simp only [AV.rels] at h
  obtain ⟨y,zs,rfl,h2,rfl⟩:=h
  rw [AV.rel] at h2
  obtain ⟨cs,rfl,h3⟩:=h2
  have:=q06 (m:=[.int .i64 a,.int .i64 b,.int .i64 c,.int .i64 d,.int .i64 e,.int .i64 f]) h3
  rw [show cs=([.int .i64 a,.int .i64 b,.int .i64 c,.int .i64 d,.int .i64 e,.int .i64 f]:List Value).toArray by rw [← this]]
theorem z75 {β:Nm} (V:Nat→Int):(AV.tup [matA V,.val (.int .i64 (V 6))]).rel β (q5p V):=by
  have h:(matA V).rel β (.agg #[.int .i64 (V 0),.int .i64 (V 1),.int .i64 (V 2),.int .i64 (V 3),.int .i64 (V 4),.int .i64 (V 5)]):=by
    unfold matA;rw [AV.rel]
    exact ⟨_,rfl,q48 (β:=β) [.int .i64 (V 0),.int .i64 (V 1),.int .i64 (V 2),.int .i64 (V 3),.int .i64 (V 4),.int .i64 (V 5)]⟩
  unfold q5p
  simp only [AV.rel,AV.rels]
  exact ⟨_,rfl,_,_,rfl,h,_,[],rfl,rfl,rfl⟩
theorem x0l {a b c d e f:Int} {G:Mem}:Gives Tryz.prog 128 [.agg [.val (.int .i64 a),.val (.int .i64 b),.val (.int .i64 c),.val (.int .i64 d),.val (.int .i64 e),.val (.int .i64 f)]] G (.tup [matA (invL a b c d e f),.val (.int .i64 (invL a b c d e f 6))]) :=
  Gives.of_callsA (fun vs h=>x6e vs h) (z75 _) fun w' _=>z1o a b c d e f w'
theorem z1y {a b c d e f:Int} {G:Mem}:Gives Tryz.prog 114 [.agg [.val (.int .i64 a),.val (.int .i64 b),.val (.int .i64 c),.val (.int .i64 d),.val (.int .i64 e),.val (.int .i64 f)]] G (.tup [matA (invL a b c d e f),.val (.int .i64 (invL a b c d e f 6))]) :=
  Gives.of_callsA (fun vs h=>x6e vs h) (z75 _) fun w' _=>z0b a b c d e f w'
end Go.Proofs.YticolnghiibgfaaGreat
namespace Go.Proofs.YticolnghiibgfaaGreat
open Go.RowKit
set_option maxRecDepth 20000
end Go.Proofs.YticolnghiibgfaaGreat
namespace Go.Proofs.YticolnghiibgfaaGreat
open Go.RowKit
set_option maxRecDepth 20000
abbrev imgA (W H:Int) (px sf:Value) (a b c d e f:Int) (s r:Bool):AV :=
  .agg [.val (.int .i64 W),.val (.int .i64 H),.val px,.val sf,.val (.int .i64 a),.val (.int .i64 b),.val (.int .i64 c),.val (.int .i64 d),.val (.int .i64 e),.val (.int .i64 f),.val (.bool s),.val (.bool r)]
structure Pics (G:Mem) (A:Option Addr) (n:Nat) (P:Nat→Nat→Int) (B:Option Addr) (m:Nat) (S:Nat→Int):Prop where
  pix:∀ x,x<n→∃ b off,A=some ⟨b,off,none⟩∧∀ j,j<8→G.cell? ⟨b,off+x*8+j,none⟩=some (.int .u8 (P x j))
  soft:∀ x,x<m→∃ b off,B=some ⟨b,off,none⟩∧G.cell? ⟨b,off+x,none⟩=some (.int .u8 (S x))
def q15 (r:Bool) (u W:Int):Int:=if r then u-u/W*W else u
def q2t (r:Bool) (W H u v:Int):Prop:=(0≤q15 r u W∧q15 r u W<W)∧(0≤q15 r v H∧q15 r v H<H)
instance {r W H u v}:Decidable (q2t r W H u v):=by unfold q2t;infer_instance
def atI (r:Bool) (W H u v:Int):Nat:=(q15 r v H*W+q15 r u W).toNat
def q8m (r:Bool) (W H u v:Int) (P:Nat→Nat→Int) (j:Nat):Int:=if q2t r W H u v then P (atI r W H u v) j else 0
def q5h (r:Bool) (W H u v:Int) (m:Nat) (S:Nat→Int):Int:=if q2t r W H u v then (if m=0 then 255 else S (atI r W H u v)) else 0
theorem z5t {W H u v:Int} (hW:1≤W) (hH:1≤H):q2t true W H u v:=by
  have h1:=Int.mul_ediv_add_emod u W
  have h2:=Int.mul_ediv_add_emod v H
  have h3:=Int.emod_nonneg u (show W≠0 by omega)
  have h4:=Int.emod_nonneg v (show H≠0 by omega)
  have h5:=Int.emod_lt_of_pos u (show 0<W by omega)
  have h6:=Int.emod_lt_of_pos v (show 0<H by omega)
  have h7:u/W*W=W*(u/W):=Int.mul_comm _ _
  have h8:v/H*H=H*(v/H):=Int.mul_comm _ _
  unfold q2t q15
  simp only [if_true]
  omega
theorem z3m {r:Bool} {W H u v:Int} (h:q2t r W H u v):0≤q15 r v H*W+q15 r u W∧q15 r v H*W+q15 r u W<W*H:=by
  obtain ⟨⟨h1,h2⟩,h3,h4⟩:=h
  have h5:=Int.mul_nonneg h3 (show 0≤W by omega)
  have h6:q15 r v H*W≤(H-1)*W:=Int.mul_le_mul_of_nonneg_right (by omega) (by omega)
  have h7:(H-1)*W=W*H-W:=by rw [Int.sub_mul,Int.one_mul,Int.mul_comm]
  omega
theorem z1q (u:Int) {W:Int} (h:1≤W):0≤u-u/W*W∧u-u/W*W<W:=by
  have h1:=Int.mul_ediv_add_emod u W
  have h3:=Int.emod_nonneg u (show W≠0 by omega)
  have h5:=Int.emod_lt_of_pos u (show 0<W by omega)
  have h7:u/W*W=W*(u/W):=Int.mul_comm _ _
  omega
theorem q6n {G:Mem} {A:Option Addr} {n:Nat} {P:Nat→Nat→Int} {B:Option Addr} {m:Nat} {S:Nat→Int} (h:Pics G A n P B m S) {x:Nat} (hx:x<n) :
    ∃ b off,A=some ⟨b,off,none⟩∧∀ K:List Value→Prop,K [.int .u8 (P x 0),.int .u8 (P x 1),.int .u8 (P x 2),.int .u8 (P x 3),.int .u8 (P x 4),.int .u8 (P x 5),.int .u8 (P x 6),.int .u8 (P x 7)]→OldCells G (Addr.add ⟨b,off,none⟩ (x*8)) 8 K:=by
  obtain ⟨b,off,hA,hc⟩:=h.pix x hx
  refine ⟨b,off,hA,fun K k=>q1e _ rfl (fun j u hj=>?_) k⟩
  rw [q0k]
  have hj':j<8:=by have:=(List.getElem?_eq_some_iff.1 hj).1;simpa using this
  have h1:=hc j hj'
  show G.cell? (Addr.add _ _)=_
  rw [q0k,h1,← hj]
  match j,hj' with
  | 0,_=>rfl
  | 1,_=>rfl
  | 2,_=>rfl
  | 3,_=>rfl
  | 4,_=>rfl
  | 5,_=>rfl
  | 6,_=>rfl
  | 7,_=>rfl
structure ImgOk (W H:Int) (n m:Nat):Prop where
  w:1≤W∧W≤256
  h:1≤H∧H≤256
  n:(n:Int)=W*H
  m:m=0∨(m:Int)=W*H
def q1q (B:Nat→Int):AV:=.agg [.val (.int .u8 (B 0)),.val (.int .u8 (B 1)),.val (.int .u8 (B 2)),.val (.int .u8 (B 3)),.val (.int .u8 (B 4)),.val (.int .u8 (B 5)),.val (.int .u8 (B 6)),.val (.int .u8 (B 7))]
theorem z1r {r:Bool} {W H u v:Int} {P:Nat→Nat→Int} (h:q2t r W H u v):q8m r W H u v P=P (atI r W H u v):=funext fun j=>if_pos h
theorem z76 {r:Bool} {W H u v:Int} {P:Nat→Nat→Int} (h:¬ q2t r W H u v):q8m r W H u v P=fun _=>0:=funext fun j=>if_neg h
section
variable {W H:Int} {A B:Option Addr} {n p m q:Nat} {P:Nat→Nat→Int} {S:Nat→Int} {a b c d e f:Int} {s r:Bool} {u v:Int} {G:Mem}
set_option maxHeartbeats 2000000 in
theorem z2t (ho:ImgOk W H n m) (hp:Pics G A n P B m S) (hu:-1152921504606846976≤u∧u≤1152921504606846976) (hv:-1152921504606846976≤v∧v≤1152921504606846976) :
    Gives Tryz.prog 130 [imgA W H (.slice A n p) (.slice B m q) a b c d e f s r,.val (.int .i64 u),.val (.int .i64 v)] G (.tup [q1q (q8m r W H u v P),.val (.int .u8 (q5h r W H u v m S))]):=by
  refine q0w tab_ok Tryz.func130 ?_
  obtain ⟨hw,hh,hn,hm⟩:=ho
  have hmul:=z0p hw hh
  cases r
  · by_cases hi:q2t false W H u v
    · skip
      have hat:=z3m hi
      obtain ⟨b1,o1,rfl,hc1⟩:=q6n hp (x:=atI false W H u v) (by unfold atI;omega)
      rw [z1r hi,q5h,if_pos hi]
      have hi':=hi
      simp only [q2t,q15] at hi'
      simp only [Bool.false_eq_true,if_false] at hi'
      simp only [q15,Bool.false_eq_true,if_false] at hat
      have hvw:=Int.mul_nonneg hi'.2.1 (show 0≤W by omega)
      rcases Nat.eq_zero_or_pos m with hm0 |hm0
      · subst hm0
        (repeat ((try (conv=>whnf));(refine stQ ?_)))
        conv=>whnf
        refine hc1 _ ?_
        (repeat ((try (conv=>whnf));(refine stQ ?_)))
        exact ⟨rfl,rfl⟩
      · obtain ⟨b2,o2,rfl,hc2⟩:=hp.soft (atI false W H u v) (by unfold atI;simp only [q15,Bool.false_eq_true,if_false];omega)
        rw [if_neg (by omega)]
        (repeat ((try (conv=>whnf));(refine stQ ?_)))
        conv=>whnf
        refine hc1 _ ?_
        (repeat ((try (conv=>whnf));(refine stQ ?_)))
        conv=>whnf
        refine q0d _ (by rw [q0k];show G.cell? ⟨b2,o2+_*1,none⟩=_;rw [Nat.mul_one];exact hc2) ?_
        (repeat ((try (conv=>whnf));(refine stQ ?_)))
        exact ⟨rfl,rfl⟩
    · rw [z76 hi,q5h,if_neg hi]
      simp only [q2t,q15,Bool.false_eq_true,if_false] at hi
      by_cases h1:u<0
      · (repeat ((try (conv=>whnf));(refine stQ ?_)))
        exact ⟨rfl,rfl⟩
      by_cases h2:v<0
      · (repeat ((try (conv=>whnf));(refine stQ ?_)))
        exact ⟨rfl,rfl⟩
      by_cases h3:W≤u
      · (repeat ((try (conv=>whnf));(refine stQ ?_)))
        exact ⟨rfl,rfl⟩
      · (repeat ((try (conv=>whnf));(refine stQ ?_)))
        exact ⟨rfl,rfl⟩
  · have hi:q2t true W H u v:=z5t hw.1 hh.1
    have hq1:=z2s (a:=u) (b:=W) (G:=G) (by omega) (by omega)
    have hq2:=z2s (a:=v) (b:=H) (G:=G) (by omega) (by omega)
    have hb1:=z1q u hw.1
    have hb2:=z1q v hh.1
    · skip
      have hat:=z3m hi
      obtain ⟨b1,o1,rfl,hc1⟩:=q6n hp (x:=atI true W H u v) (by unfold atI;omega)
      rw [z1r hi,q5h,if_pos hi]
      have hi':=hi
      simp only [q2t,q15] at hi'
      simp only [if_true] at hi'
      simp only [q15,if_true] at hat
      have hvw:=Int.mul_nonneg hi'.2.1 (show 0≤W by omega)
      rcases Nat.eq_zero_or_pos m with hm0 |hm0
      · subst hm0
        (repeat ((try (conv=>whnf));(first |(refine stQ ?_) |(with_reducible first |refine q0b (fun vs w=>by kernel_rfl) (by kernel_rfl) (hq1) ?_ |refine q0a (fun vs w=>by kernel_rfl) (by kernel_rfl) (hq1) ?_ |refine q0b (fun vs w=>by kernel_rfl) (by kernel_rfl) (hq2) ?_ |refine q0a (fun vs w=>by kernel_rfl) (by kernel_rfl) (hq2) ?_))))
        conv=>whnf
        refine hc1 _ ?_
        (repeat ((try (conv=>whnf));(first |(refine stQ ?_) |(with_reducible first |refine q0b (fun vs w=>by kernel_rfl) (by kernel_rfl) (hq1) ?_ |refine q0a (fun vs w=>by kernel_rfl) (by kernel_rfl) (hq1) ?_ |refine q0b (fun vs w=>by kernel_rfl) (by kernel_rfl) (hq2) ?_ |refine q0a (fun vs w=>by kernel_rfl) (by kernel_rfl) (hq2) ?_))))
        exact ⟨rfl,rfl⟩
      · obtain ⟨b2,o2,rfl,hc2⟩:=hp.soft (atI true W H u v) (by unfold atI;simp only [q15,if_true];omega)
        rw [if_neg (by omega)]
        (repeat ((try (conv=>whnf));(first |(refine stQ ?_) |(with_reducible first |refine q0b (fun vs w=>by kernel_rfl) (by kernel_rfl) (hq1) ?_ |refine q0a (fun vs w=>by kernel_rfl) (by kernel_rfl) (hq1) ?_ |refine q0b (fun vs w=>by kernel_rfl) (by kernel_rfl) (hq2) ?_ |refine q0a (fun vs w=>by kernel_rfl) (by kernel_rfl) (hq2) ?_))))
        conv=>whnf
        refine hc1 _ ?_
        (repeat ((try (conv=>whnf));(first |(refine stQ ?_) |(with_reducible first |refine q0b (fun vs w=>by kernel_rfl) (by kernel_rfl) (hq1) ?_ |refine q0a (fun vs w=>by kernel_rfl) (by kernel_rfl) (hq1) ?_ |refine q0b (fun vs w=>by kernel_rfl) (by kernel_rfl) (hq2) ?_ |refine q0a (fun vs w=>by kernel_rfl) (by kernel_rfl) (hq2) ?_))))
        conv=>whnf
        refine q0d _ (by rw [q0k];show G.cell? ⟨b2,o2+_*1,none⟩=_;rw [Nat.mul_one];exact hc2) ?_
        (repeat ((try (conv=>whnf));(first |(refine stQ ?_) |(with_reducible first |refine q0b (fun vs w=>by kernel_rfl) (by kernel_rfl) (hq1) ?_ |refine q0a (fun vs w=>by kernel_rfl) (by kernel_rfl) (hq1) ?_ |refine q0b (fun vs w=>by kernel_rfl) (by kernel_rfl) (hq2) ?_ |refine q0a (fun vs w=>by kernel_rfl) (by kernel_rfl) (hq2) ?_))))
        exact ⟨rfl,rfl⟩
set_option maxHeartbeats 2000000 in
theorem z1z (ho:ImgOk W H n m) (hp:Pics G A n P B m S) (hu:-1152921504606846976≤u∧u≤1152921504606846976) (hv:-1152921504606846976≤v∧v≤1152921504606846976) (hs:∀ x,x<m→0≤S x∧S x≤255) :
    Gives Tryz.prog 139 [imgA W H (.slice A n p) (.slice B m q) a b c d e f s r,.val (.int .i64 u),.val (.int .i64 v)] G (.tup [q1q (q8m r W H u v P),.val (.int .i64 (q5h r W H u v m S))]):=by
  refine q0w tab_ok Tryz.func139 ?_
  obtain ⟨hw,hh,hn,hm⟩:=ho
  have hmul:=z0p hw hh
  cases r
  · by_cases hi:q2t false W H u v
    · skip
      have hat:=z3m hi
      obtain ⟨b1,o1,rfl,hc1⟩:=q6n hp (x:=atI false W H u v) (by unfold atI;omega)
      rw [z1r hi,q5h,if_pos hi]
      have hi':=hi
      simp only [q2t,q15] at hi'
      simp only [Bool.false_eq_true,if_false] at hi'
      simp only [q15,Bool.false_eq_true,if_false] at hat
      have hvw:=Int.mul_nonneg hi'.2.1 (show 0≤W by omega)
      rcases Nat.eq_zero_or_pos m with hm0 |hm0
      · subst hm0
        (repeat ((try (conv=>whnf));(first |(refine stQ ?_) |(with_reducible refine q0f tab_ok Tryz.func12 (fun vs w=>by kernel_rfl) (by rfl) ?_))))
        conv=>whnf
        refine hc1 _ ?_
        (repeat ((try (conv=>whnf));(first |(refine stQ ?_) |(with_reducible refine q0f tab_ok Tryz.func12 (fun vs w=>by kernel_rfl) (by rfl) ?_))))
        exact ⟨rfl,rfl⟩
      · have hs2:=hs (atI false W H u v) (by unfold atI;simp only [q15,Bool.false_eq_true,if_false];omega)
        obtain ⟨b2,o2,rfl,hc2⟩:=hp.soft (atI false W H u v) (by unfold atI;simp only [q15,Bool.false_eq_true,if_false];omega)
        rw [if_neg (by omega)]
        (repeat ((try (conv=>whnf));(first |(refine stQ ?_) |(with_reducible refine q0f tab_ok Tryz.func12 (fun vs w=>by kernel_rfl) (by rfl) ?_))))
        conv=>whnf
        refine hc1 _ ?_
        (repeat ((try (conv=>whnf));(first |(refine stQ ?_) |(with_reducible refine q0f tab_ok Tryz.func12 (fun vs w=>by kernel_rfl) (by rfl) ?_))))
        conv=>whnf
        refine q0d _ (by rw [q0k];show G.cell? ⟨b2,o2+_*1,none⟩=_;rw [Nat.mul_one];exact hc2) ?_
        (repeat ((try (conv=>whnf));(first |(refine stQ ?_) |(with_reducible refine q0f tab_ok Tryz.func12 (fun vs w=>by kernel_rfl) (by rfl) ?_))))
        exact ⟨rfl,rfl⟩
    · rw [z76 hi,q5h,if_neg hi]
      simp only [q2t,q15,Bool.false_eq_true,if_false] at hi
      by_cases h1:u<0
      · (repeat ((try (conv=>whnf));(first |(refine stQ ?_) |(with_reducible refine q0f tab_ok Tryz.func12 (fun vs w=>by kernel_rfl) (by rfl) ?_))))
        exact ⟨rfl,rfl⟩
      by_cases h2:W≤u
      · (repeat ((try (conv=>whnf));(first |(refine stQ ?_) |(with_reducible refine q0f tab_ok Tryz.func12 (fun vs w=>by kernel_rfl) (by rfl) ?_))))
        exact ⟨rfl,rfl⟩
      by_cases h3:v<0
      · (repeat ((try (conv=>whnf));(first |(refine stQ ?_) |(with_reducible refine q0f tab_ok Tryz.func12 (fun vs w=>by kernel_rfl) (by rfl) ?_))))
        exact ⟨rfl,rfl⟩
      · (repeat ((try (conv=>whnf));(first |(refine stQ ?_) |(with_reducible refine q0f tab_ok Tryz.func12 (fun vs w=>by kernel_rfl) (by rfl) ?_))))
        exact ⟨rfl,rfl⟩
  · have hi:q2t true W H u v:=z5t hw.1 hh.1
    have hq1:=q37 (a:=u) (b:=W) (G:=G) (by omega) (by omega)
    have hq2:=q37 (a:=v) (b:=H) (G:=G) (by omega) (by omega)
    have hb1:=z1q u hw.1
    have hb2:=z1q v hh.1
    · skip
      have hat:=z3m hi
      obtain ⟨b1,o1,rfl,hc1⟩:=q6n hp (x:=atI true W H u v) (by unfold atI;omega)
      rw [z1r hi,q5h,if_pos hi]
      have hi':=hi
      simp only [q2t,q15] at hi'
      simp only [if_true] at hi'
      simp only [q15,if_true] at hat
      have hvw:=Int.mul_nonneg hi'.2.1 (show 0≤W by omega)
      rcases Nat.eq_zero_or_pos m with hm0 |hm0
      · subst hm0
        (repeat ((try (conv=>whnf));(first |(refine stQ ?_) |(with_reducible first |refine q0f tab_ok Tryz.func12 (fun vs w=>by kernel_rfl) (by rfl) ?_ |refine q0b (fun vs w=>by kernel_rfl) (by kernel_rfl) (hq1) ?_ |refine q0a (fun vs w=>by kernel_rfl) (by kernel_rfl) (hq1) ?_ |refine q0b (fun vs w=>by kernel_rfl) (by kernel_rfl) (hq2) ?_ |refine q0a (fun vs w=>by kernel_rfl) (by kernel_rfl) (hq2) ?_))))
        conv=>whnf
        refine hc1 _ ?_
        (repeat ((try (conv=>whnf));(first |(refine stQ ?_) |(with_reducible first |refine q0f tab_ok Tryz.func12 (fun vs w=>by kernel_rfl) (by rfl) ?_ |refine q0b (fun vs w=>by kernel_rfl) (by kernel_rfl) (hq1) ?_ |refine q0a (fun vs w=>by kernel_rfl) (by kernel_rfl) (hq1) ?_ |refine q0b (fun vs w=>by kernel_rfl) (by kernel_rfl) (hq2) ?_ |refine q0a (fun vs w=>by kernel_rfl) (by kernel_rfl) (hq2) ?_))))
        exact ⟨rfl,rfl⟩
      · have hs2:=hs (atI true W H u v) (by unfold atI;simp only [q15,if_true];omega)
        obtain ⟨b2,o2,rfl,hc2⟩:=hp.soft (atI true W H u v) (by unfold atI;simp only [q15,if_true];omega)
        rw [if_neg (by omega)]
        (repeat ((try (conv=>whnf));(first |(refine stQ ?_) |(with_reducible first |refine q0f tab_ok Tryz.func12 (fun vs w=>by kernel_rfl) (by rfl) ?_ |refine q0b (fun vs w=>by kernel_rfl) (by kernel_rfl) (hq1) ?_ |refine q0a (fun vs w=>by kernel_rfl) (by kernel_rfl) (hq1) ?_ |refine q0b (fun vs w=>by kernel_rfl) (by kernel_rfl) (hq2) ?_ |refine q0a (fun vs w=>by kernel_rfl) (by kernel_rfl) (hq2) ?_))))
        conv=>whnf
        refine hc1 _ ?_
        (repeat ((try (conv=>whnf));(first |(refine stQ ?_) |(with_reducible first |refine q0f tab_ok Tryz.func12 (fun vs w=>by kernel_rfl) (by rfl) ?_ |refine q0b (fun vs w=>by kernel_rfl) (by kernel_rfl) (hq1) ?_ |refine q0a (fun vs w=>by kernel_rfl) (by kernel_rfl) (hq1) ?_ |refine q0b (fun vs w=>by kernel_rfl) (by kernel_rfl) (hq2) ?_ |refine q0a (fun vs w=>by kernel_rfl) (by kernel_rfl) (hq2) ?_))))
        conv=>whnf
        refine q0d _ (by rw [q0k];show G.cell? ⟨b2,o2+_*1,none⟩=_;rw [Nat.mul_one];exact hc2) ?_
        (repeat ((try (conv=>whnf));(first |(refine stQ ?_) |(with_reducible first |refine q0f tab_ok Tryz.func12 (fun vs w=>by kernel_rfl) (by rfl) ?_ |refine q0b (fun vs w=>by kernel_rfl) (by kernel_rfl) (hq1) ?_ |refine q0a (fun vs w=>by kernel_rfl) (by kernel_rfl) (hq1) ?_ |refine q0b (fun vs w=>by kernel_rfl) (by kernel_rfl) (hq2) ?_ |refine q0a (fun vs w=>by kernel_rfl) (by kernel_rfl) (hq2) ?_))))
        exact ⟨rfl,rfl⟩
end
end Go.Proofs.YticolnghiibgfaaGreat
namespace Go.Proofs.YticolnghiibgfaaGreat
open Go.RowKit
set_option maxRecDepth 20000
abbrev ink0:AV:=.agg [.val (.int .u8 0),.val (.int .u8 0),.val (.int .u8 0),.val (.int .u8 0),.val (.int .u8 0),.val (.int .u8 0),.val (.int .u8 0),.val (.int .u8 0)]
section
variable {W H:Int} {A B:Option Addr} {n p m q:Nat} {a b c d e f:Int} {s r:Bool} {u v:Int} {w:World} {g h:Nat→Nat→Value}
theorem x0m {β:Nm} (vs:List Value) (h:AV.rels β [imgA W H (.slice A n p) (.slice B m q) a b c d e f s r] vs):vs=[.agg #[.int .i64 W,.int .i64 H,.slice A n p,.slice B m q,.int .i64 a,.int .i64 b,.int .i64 c,.int .i64 d,.int .i64 e,.int .i64 f,.bool s,.bool r]]:=by
  simp only [AV.rels] at h
  obtain ⟨y,zs,rfl,h2,rfl⟩:=h
  rw [AV.rel] at h2
  obtain ⟨cs,rfl,h3⟩:=h2
  have:=q06 (m:=[.int .i64 W,.int .i64 H,.slice A n p,.slice B m q,.int .i64 a,.int .i64 b,.int .i64 c,.int .i64 d,.int .i64 e,.int .i64 f,.bool s,.bool r]) h3
  rw [show cs=([.int .i64 W,.int .i64 H,.slice A n p,.slice B m q,.int .i64 a,.int .i64 b,.int .i64 c,.int .i64 d,.int .i64 e,.int .i64 f,.bool s,.bool r]:List Value).toArray by rw [← this]]
theorem x0n {G:Mem}:Gives Tryz.prog 99 [imgA W H (.slice A n p) (.slice B m q) a b c d e f s r] G (.val (.int .i64 (imgE W H n m (invL a b c d e f 6)))) :=
  Gives.of_callsA (fun vs h=>x0m vs h) (by rw [AV.rel]) fun w' _=>x0d W H A B n p m q a b c d e f s r w'
theorem z8n {G:Mem}:Gives Tryz.prog 87 [imgA W H (.slice A n p) (.slice B m q) a b c d e f s r] G (.val (.int .i64 (imgE W H n m (invL a b c d e f 6)))) :=
  Gives.of_callsA (fun vs h=>x0m vs h) (by rw [AV.rel]) fun w' _=>z8m W H A B n p m q a b c d e f s r w'
theorem x23 {l:Int} (h:imgE W H n m l=0):ImgOk W H n m∧l=0:=by
  unfold imgE at h
  split at h
  · omega
  · rename_i h1
    split at h
    · omega
    · rename_i h2
      refine ⟨⟨by omega,by omega,?_,?_⟩,h⟩
      · simp_all
      · by_cases hm:m=0
        · exact .inl hm
        · right;simp_all
theorem q38:flat Tryz.prog 20 28=[.int .u8,.int .u8,.int .u8,.int .u8,.int .u8,.int .u8,.int .u8,.int .u8]:=by kernel_rfl
theorem z3n {j:Nat} (hj:j<8):(flat Tryz.prog 20 28)[j]? = some (.int .u8):=by
  rw [q38]
  match j,hj with
  | 0,_=>rfl
  | 1,_=>rfl
  | 2,_=>rfl
  | 3,_=>rfl
  | 4,_=>rfl
  | 5,_=>rfl
  | 6,_=>rfl
  | 7,_=>rfl
theorem q8u {z:Int} (h:(Lit.int .u8 z).wf=true):0≤z∧z≤255:=by
  simp [Lit.wf,IntKind.min,IntKind.max,IntKind.signed,IntKind.bits] at h
  omega
theorem v0h (h2:SliceG Tryz.prog w 5 B m h):∀ x,x<m→0≤valI (h x 0)∧valI (h x 0)≤255:=fun x hx=>q8u (h2.int (j:=0) (by kernel_rfl) hx (by kernel_rfl)).2
theorem x0o {S:Nat→Int} (ho:ImgOk W H n m) (hs:∀ x,x<m→0≤S x∧S x≤255):0≤q5h r W H u v m S∧q5h r W H u v m S≤255:=by
  obtain ⟨hw,hh,hn,hm⟩:=ho
  unfold q5h
  split
  · rename_i hi
    have:=z3m hi
    split
    · omega
    · refine hs _ ?_
      unfold atI;omega
  · omega
end
end Go.Proofs.YticolnghiibgfaaGreat
namespace Go.Proofs.YticolnghiibgfaaGreat
open Go.RowKit
set_option maxRecDepth 20000
def q29 (fx fy tx ty r:Int) (n:Nat):Bool:=(fx==0&&fy==0)&&(tx==0&&ty==0)&&r==0&&n==0
section
variable {k:Int} {I:Nat→Int} {fx fy tx ty r:Int} {A:Option Addr} {n q:Nat} {W H:Int} {B:Option Addr} {pn pq:Nat} {C:Option Addr} {sn sq:Nat} {a b c d e f:Int} {s t:Bool} {G:Mem}
set_option maxHeartbeats 2000000 in
theorem q9b:Gives Tryz.prog 95 [srcA k I fx fy tx ty r (.slice A n q) W H (.slice B pn pq) (.slice C sn sq) a b c d e f s t] G (.val (.bool (q29 fx fy tx ty r n))):=by
  refine q0w tab_ok Tryz.func95 ?_
  (repeat' ((try (conv=>whnf));(first |(refine stQ ?_) |(with_reducible refine q03 (fun h0=>?_) (fun h0=>?_)))))
  all_goals ((conv=>whnf);exact ⟨by first |(simp_all [q29];done) |(rw [AV.val.injEq,Value.bool.injEq,Bool.eq_iff_iff];simp_all [q29]),rfl⟩)
set_option maxHeartbeats 2000000 in
theorem q79:Gives Tryz.prog 96 [imgA W H (.slice B pn pq) (.slice C sn sq) a b c d e f s t] G (.val (.bool (q1d W H pn sn a b c d e f s t))):=by
  refine q0w tab_ok Tryz.func96 ?_
  cases s <;> cases t
  all_goals ((repeat' ((try (conv=>whnf));(first |(refine stQ ?_) |(with_reducible refine q03 (fun h0=>?_) (fun h0=>?_))))))
  all_goals ((conv=>whnf);exact ⟨by first |(simp_all [q1d];done) |(rw [AV.val.injEq,Value.bool.injEq,Bool.eq_iff_iff];simp_all [q1d]),rfl⟩)
end
end Go.Proofs.YticolnghiibgfaaGreat
