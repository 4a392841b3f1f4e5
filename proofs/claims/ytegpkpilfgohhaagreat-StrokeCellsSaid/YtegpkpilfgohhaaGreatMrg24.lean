/-
  Merged: XPairE, XFillE, XRWind, XFilRow.
-/
import Derived.Test.YtegpkpilfgohhaaGreatEng2
import Derived.Test.YtegpkpilfgohhaaGreatScanE
import Derived.Test.YtegpkpilfgohhaaGreatMrg21
import Derived.Test.YtegpkpilfgohhaaGreatMrg20
import Derived.Test.YtegpkpilfgohhaaGreatMrg7
import Derived.Test.YtegpkpilfgohhaaGreatMrg5
import Derived.Test.YtegpkpilfgohhaaGreatMrg22
set_option linter.unusedVariables false
set_option linter.unusedSimpArgs false
set_option linter.unnecessarySimpa false
namespace Go.Proofs.YtegpkpilfgohhaaGreat
open Go.RowKit
def x8m (e:Int) (a:AV):AV:=.tup [a,.val (.int .i64 e)]
theorem z0h (e:Int):Wraps (x8m e):=.pair (.val (.int .i64 e)) (fun _=>rfl) rfl
end Go.Proofs.YtegpkpilfgohhaaGreat
namespace Go.Proofs.YtegpkpilfgohhaaGreat
open Go.RowKit
set_option maxRecDepth 20000
theorem x72:∀ m:Fin 2001,bits .and .i64 ((m.val:Int)-1000) 1=((m.val:Int)-1000)%2:=by decide +kernel
theorem x73 {k:Int} (h:-1000≤k∧k≤1000):bits .and .i64 k 1=k%2:=by
  have:=x72 ⟨(k+1000).toNat,by omega⟩
  rw [show (((k+1000).toNat:Nat):Int)-1000=k by omega] at this
  exact this
section
variable {G:Mem} {A:Option Addr} {n c:Nat} {L:Nat→LineD}
set_option maxHeartbeats 2000000 in
theorem z87 (k:Int):Gives Tryz.prog 38 [.val (.int .i64 k)] G (.val (.bool (selB false k))):=by
  refine q06 tab_ok Tryz.func38 ?_
  (repeat ((try (conv=>whnf));(refine stQ ?_)))
  exact ⟨rfl,rfl⟩
set_option maxHeartbeats 2000000 in
theorem z88 {k:Int} (hk:-1000≤k∧k≤1000):Gives Tryz.prog 39 [.val (.int .i64 k)] G (.val (.bool (selB true k))):=by
  refine q06 tab_ok Tryz.func39 ?_
  have hb:=x73 hk
  unfold selB
  rw [if_pos rfl]
  rcases (show k%2=0∨k%2=1 by omega) with e |e
  · rw [e] at hb ⊢
    (repeat ((try (conv=>whnf));(first |(refine isP.mk _ hb ?_) |(refine stQ ?_))))
    exact ⟨rfl,rfl⟩
  · rw [e] at hb ⊢
    (repeat ((try (conv=>whnf));(first |(refine isP.mk _ hb ?_) |(refine stQ ?_))))
    exact ⟨rfl,rfl⟩
set_option maxHeartbeats 8000000 in
theorem x4d (h:LinesM G A n L) (hn:n≤maxLen) (hb:q1n L n=true) (hcnt:cntN L n≤39) {odd:Bool} {rule:Int} (hr:rule=if odd=true then 1 else 0) :
    q57 Tryz.prog 21 [.val (.slice A n c),.val (.int .i64 rule)] G (x8m 0) 74 3 (fil (selB odd) (q1t L n) (lowN L n) (q6e L n)).length (q08 (fil (selB odd) (q1t L n) (lowN L n) (q6e L n))):=by
  have hc:=q4m (c:=c) h hn
  unfold q16 at hc
  rw [hb,if_pos rfl] at hc
  have he:=x19 (c:=c) h hn hb (by omega)
  have hE:=z24 (q2v hb)
  have hel:=q41 (L:=L) n
  have hin:=z29 (L:=L) (n:=n)
  generalize q1t L n=E at *
  generalize lowN L n=lo at *
  generalize q6e L n=hi at *
  clear h
  cases odd
  · rw [if_neg (by simp)] at hr
    subst hr
    refine q9b tab_ok Tryz.func21 (z0h 0) ?_
    (repeat ((try (conv=>whnf));(first |(refine stQ ?_) |(with_reducible first |refine q0b (fun vs w=>by kernel_rfl) (by kernel_rfl) (hc) ?_ |refine q0a (fun vs w=>by kernel_rfl) (by kernel_rfl) (hc) ?_))))
    conv=>whnf
    refine z0c (fun vs w=>by kernel_rfl) (.alone fun _=>rfl) (by kernel_rfl) he ?_
    (repeat ((try (conv=>whnf));(refine stQ ?_)))
    conv=>whnf
    refine z8v (odd:=false) (fun vs w=>by kernel_rfl) (fun k G' _ _=>z87 k) hE (by omega) fun R h1 h2 h3=>?_
    obtain rfl:R=fil (selB false) E lo hi:=z3l h1 (q83 _).1 fun u v=>(h2 u v).trans (z7d hin u v).symm
    (repeat ((try (conv=>whnf));(refine stQ ?_)))
    conv=>whnf
    exact .inl ⟨1,rfl,rfl⟩
  · rw [if_pos rfl] at hr
    subst hr
    refine q9b tab_ok Tryz.func21 (z0h 0) ?_
    (repeat ((try (conv=>whnf));(first |(refine stQ ?_) |(with_reducible first |refine q0b (fun vs w=>by kernel_rfl) (by kernel_rfl) (hc) ?_ |refine q0a (fun vs w=>by kernel_rfl) (by kernel_rfl) (hc) ?_))))
    conv=>whnf
    refine z0c (fun vs w=>by kernel_rfl) (.alone fun _=>rfl) (by kernel_rfl) he ?_
    (repeat ((try (conv=>whnf));(refine stQ ?_)))
    conv=>whnf
    refine z8v (odd:=true) (fun vs w=>by kernel_rfl) (fun k G' e1 e2=>z88 ⟨e1,e2⟩) hE (by omega) fun R h1 h2 h3=>?_
    obtain rfl:R=fil (selB true) E lo hi:=z3l h1 (q83 _).1 fun u v=>(h2 u v).trans (z7d hin u v).symm
    (repeat ((try (conv=>whnf));(refine stQ ?_)))
    conv=>whnf
    exact .inl ⟨1,rfl,rfl⟩
end
end Go.Proofs.YtegpkpilfgohhaaGreat
namespace Go.Proofs.YtegpkpilfgohhaaGreat
open Go.RowKit
set_option maxRecDepth 20000
def crW (ax ay bx by_ y:Int):Int:=if by_<ay then (if by_≤y∧y<ay then -1 else 0) else (if ay≤y∧y<by_ then 1 else 0)
def crN (ax ay bx by_ y:Int):Int:=if by_<ay then (if by_≤y∧y<ay then 2*bx*(ay-by_)+(ax-bx)*(2*y+1-2*by_) else 0) else (if ay≤y∧y<by_ then 2*ax*(by_-ay)+(bx-ax)*(2*y+1-2*ay) else 0)
def crD (ax ay bx by_ y:Int):Int:=if by_<ay then (if by_≤y∧y<ay then ay-by_ else 1) else (if ay≤y∧y<by_ then by_-ay else 1)
section
variable {ax ay bx by_ x y:Int}
theorem x9m (ha:okXY ax ay=true) (hb:okXY bx by_=true):z6d ax ay bx by_ x y=if ¬ crW ax ay bx by_ y=0∧crN ax ay bx by_ y≤(2*x+1)*crD ax ay bx by_ y then crW ax ay bx by_ y else 0:=by
  have hok:=z8m ha hb
  unfold z6d crW crN crD
  unfold q40 at hok ⊢
  by_cases h:by_<ay
  · simp only [if_pos h] at hok ⊢
    have hf:=x00 (x:=x) (y:=y) (hok _ (List.mem_singleton.2 rfl))
    simp only [q0z,q69,List.append_nil,decide_eq_true_eq]
    by_cases hm:by_≤y∧y<ay
    · simp only [if_pos hm]
      simp only [sumC,Int.add_zero]
      by_cases hle:q68 ⟨bx,by_,ay,ax-bx,ay-by_,-1⟩ y≤x
      · rw [if_pos hle,if_pos ⟨by omega,hf.1 hle⟩]
      · rw [if_neg hle,if_neg (fun hh=>hle (hf.2 hh.2))]
    · simp only [if_neg hm]
      simp [sumC]
  · simp only [if_neg h] at hok ⊢
    by_cases h2:ay<by_
    · simp only [if_pos h2] at hok ⊢
      have hf:=x00 (x:=x) (y:=y) (hok _ (List.mem_singleton.2 rfl))
      simp only [q0z,q69,List.append_nil,decide_eq_true_eq]
      by_cases hm:ay≤y∧y<by_
      · simp only [if_pos hm]
        simp only [sumC,Int.add_zero]
        by_cases hle:q68 ⟨ax,ay,by_,bx-ax,by_-ay,1⟩ y≤x
        · rw [if_pos hle,if_pos ⟨by omega,hf.1 hle⟩]
        · rw [if_neg hle,if_neg (fun hh=>hle (hf.2 hh.2))]
      · simp only [if_neg hm]
        simp [sumC]
    · have hm:¬ (ay≤y∧y<by_):=by omega
      simp only [if_neg h2,if_neg hm]
      simp [q0z,sumC]
theorem v0a (ha:okXY ax ay=true) (hb:okXY bx by_=true) (hy:-8192≤y∧y≤8191):(-1≤crW ax ay bx by_ y∧crW ax ay bx by_ y≤1)∧(1≤crD ax ay bx by_ y∧crD ax ay bx by_ y≤65534):=by
  obtain ⟨a1,a2⟩:=q2u ha
  obtain ⟨b1,b2⟩:=q2u hb
  unfold crW crD
  split
  · split <;> omega
  · split <;> omega
set_option maxHeartbeats 4000000 in
theorem z89 {G:Mem} (ha:okXY ax ay=true) (hb:okXY bx by_=true) (hy:-8192≤y∧y≤8191):Gives Tryz.prog 50 [.agg [.val (.int .i64 ax),.val (.int .i64 ay)],.agg [.val (.int .i64 bx),.val (.int .i64 by_)],.val (.int .i64 y)] G
    (.tup [.val (.int .i64 (crW ax ay bx by_ y)),.val (.int .i64 (crN ax ay bx by_ y)),.val (.int .i64 (crD ax ay bx by_ y))]):=by
  obtain ⟨a1,a2⟩:=q2u ha
  obtain ⟨b1,b2⟩:=q2u hb
  unfold crW crN crD
  refine q06 tab_ok Tryz.func50 ?_
  by_cases h:by_<ay
  · rw [if_pos h,if_pos h,if_pos h]
    have e1:=q04 (a:=2*bx) (b:=ay-by_) (A:=65534) (B:=65534) (by omega) (by omega)
    have e2:=q04 (a:=ax-bx) (b:=2*y+1-2*by_) (A:=65534) (B:=131072) (by omega) (by omega)
    by_cases hm:by_≤y∧y<ay
    · rw [if_pos hm,if_pos hm,if_pos hm]
      (repeat ((try (conv=>whnf));(refine stQ ?_)))
      exact ⟨rfl,rfl⟩
    · rw [if_neg hm,if_neg hm,if_neg hm]
      (repeat' ((try (conv=>whnf));(first |(refine stQ ?_) |(with_reducible refine q7t (fun h0=>?_) (fun h0=>?_)))))
      all_goals first |exact ⟨rfl,rfl⟩ |(exfalso;omega)
  · rw [if_neg h,if_neg h,if_neg h]
    have e1:=q04 (a:=2*ax) (b:=by_-ay) (A:=65534) (B:=65534) (by omega) (by omega)
    have e2:=q04 (a:=bx-ax) (b:=2*y+1-2*ay) (A:=65534) (B:=131072) (by omega) (by omega)
    by_cases hm:ay≤y∧y<by_
    · rw [if_pos hm,if_pos hm,if_pos hm]
      (repeat ((try (conv=>whnf));(refine stQ ?_)))
      exact ⟨rfl,rfl⟩
    · rw [if_neg hm,if_neg hm,if_neg hm]
      (repeat' ((try (conv=>whnf));(first |(refine stQ ?_) |(with_reducible refine q7t (fun h0=>?_) (fun h0=>?_)))))
      all_goals first |exact ⟨rfl,rfl⟩ |(exfalso;omega)
end
section
variable {G:Mem} {A:Option Addr} {n c:Nat} {L:Nat→LineD} {x y:Int}
set_option maxHeartbeats 8000000 in
theorem z7f (h:LinesM G A n L) (hn:n≤maxLen) (hb:q1n L n=true) (hcnt:cntN L n≤1048576) (hx:-8192≤x∧x≤8191) (hy:-8192≤y∧y≤8191):Gives Tryz.prog 33 [.val (.slice A n c),.val (.int .i64 x),.val (.int .i64 y)] G (.val (.int .i64 (q3o L x y n))):=by
  have hok:=q2v hb
  have hn':n≤9223372036854775807:=by unfold maxLen at hn;omega
  refine q06 tab_ok Tryz.func33 ?_
  (repeat ((try (conv=>whnf));(refine stQ ?_)))
  conv=>whnf
  refine q07 tab_ok (fun k=>k≤n) (fun (k:Nat)=>[(16,.val (.int .i64 k)),(7,.val (.int .i64 (q3o L x y k)))]) (fun k=>[]) (fun k=>n-k) 0 (Nat.zero_le _) ?_ ?_
  · ((refine q0g ?_);(conv=>whnf);(refine q0h (by rfl) (by rfl) flQ ?_))
    exact q0e
  · rintro k hk
    rcases Nat.lt_or_ge k n with h1 |h1
    · obtain ⟨p,rfl,c0⟩:=h.rows.cell (x:=k) (j:=0) h1 rfl
      have hp:=h.pts k h1
      have hcap:=h.cap k h1
      unfold maxLen at hcap
      (repeat ((try (conv=>whnf));(first |(refine q0q _ c0 ?_) |(refine stQ ?_))))
      conv=>whnf
      refine q07 tab_ok (fun i=>i≤(L k).n) (fun (i:Nat)=>[(26,.val (.int .i64 i)),(7,.val (.int .i64 (q6d (L k).X (L k).Y (L k).n x y (q3o L x y k) i)))]) (fun i=>[]) (fun i=>(L k).n-i) 0 (Nat.zero_le _) ?_ ?_
      · ((refine q0g ?_);(conv=>whnf);(refine q0h (by rfl) (by rfl) flQ ?_))
        exact q0e
      · rintro i hi
        rcases Nat.lt_or_ge i (L k).n with h2 |h2
        · obtain ⟨p2,hp2,cb⟩:=hp.cells h2
          obtain ⟨p3,hp3,cc⟩:=hp.cells (q8q h2)
          rw [hp2] at hp3;cases hp3
          have hm:=x0k h2
          have hm':(Int.tmod ((i:Int)+1) ((L k).n:Int)).toNat=nx (L k).n i:=by rw [hm];omega
          have hlt:=q8q h2
          have k1:=hok k h1 i h2
          have k2:=hok k h1 _ hlt
          have hstep:q6d (L k).X (L k).Y (L k).n x y (q3o L x y k) (i+1)=q6d (L k).X (L k).Y (L k).n x y (q3o L x y k) i+z6d ((L k).X i) ((L k).Y i) ((L k).X (nx (L k).n i)) ((L k).Y (nx (L k).n i)) x y:=rfl
          have hbd:=x7p (x:=x) (y:=y) hok h1 hi
          rw [x9m k1 k2] at hstep
          have hcb:=v0a (y:=y) k1 k2 hy
          have hcg:=z89 (G:=G) (y:=y) k1 k2 hy
          rw [← hm'] at cc hstep hcb hcg
          rw [hp2]
          generalize hs':q6d (L k).X (L k).Y (L k).n x y (q3o L x y k) (i+1)=s' at *
          generalize q6d (L k).X (L k).Y (L k).n x y (q3o L x y k) i=s at *
          generalize crW _ _ _ _ y=wy at *
          generalize crN _ _ _ _ y=nu at *
          generalize crD _ _ _ _ y=de at *
          obtain ⟨c1,c2⟩:=hcb
          have hpr:=q04 (a:=2*x+1) (b:=de) (A:=16385) (B:=65534) (by omega) (by omega)
          clear hok hp h k1 k2
          by_cases hw:wy=0
          · rw [if_neg (fun hh=>hh.1 hw),Int.add_zero] at hstep
            (repeat ((try (conv=>whnf));(first |(refine cb _ ?_) |(refine cc _ ?_) |((with_reducible refine mustP.mk ?_ ?_);(· rw [hm];omega)) |(refine stQ ?_) |(with_reducible first |refine q0b (fun vs w=>by kernel_rfl) (by kernel_rfl) (hcg) ?_ |refine q0a (fun vs w=>by kernel_rfl) (by kernel_rfl) (hcg) ?_))))
            refine ⟨i+1,by omega,by omega,?_⟩
            rw [hs',hstep]
            ((refine q0g ?_);(conv=>whnf);(refine q0h (by rfl) (by rfl) flQ ?_))
            exact q0e
          · by_cases hle:nu≤(2*x+1)*de
            · rw [if_pos ⟨hw,hle⟩] at hstep
              (repeat ((try (conv=>whnf));(first |(refine cb _ ?_) |(refine cc _ ?_) |((with_reducible refine mustP.mk ?_ ?_);(· rw [hm];omega)) |(refine stQ ?_) |(with_reducible first |refine q0b (fun vs w=>by kernel_rfl) (by kernel_rfl) (hcg) ?_ |refine q0a (fun vs w=>by kernel_rfl) (by kernel_rfl) (hcg) ?_))))
              refine ⟨i+1,by omega,by omega,?_⟩
              rw [hs',hstep]
              ((refine q0g ?_);(conv=>whnf);(refine q0h (by rfl) (by rfl) flQ ?_))
              exact q0e
            · rw [if_neg (fun hh=>hle hh.2),Int.add_zero] at hstep
              (repeat ((try (conv=>whnf));(first |(refine cb _ ?_) |(refine cc _ ?_) |((with_reducible refine mustP.mk ?_ ?_);(· rw [hm];omega)) |(refine stQ ?_) |(with_reducible first |refine q0b (fun vs w=>by kernel_rfl) (by kernel_rfl) (hcg) ?_ |refine q0a (fun vs w=>by kernel_rfl) (by kernel_rfl) (hcg) ?_))))
              refine ⟨i+1,by omega,by omega,?_⟩
              rw [hs',hstep]
              ((refine q0g ?_);(conv=>whnf);(refine q0h (by rfl) (by rfl) flQ ?_))
              exact q0e
        · obtain rfl:i=(L k).n:=by omega
          (repeat ((try (conv=>whnf));(refine stQ ?_)))
          refine ⟨k+1,by omega,by omega,?_⟩
          ((refine q0g ?_);(conv=>whnf);(refine q0h (by rfl) (by rfl) flQ ?_))
          exact q0e
    · obtain rfl:k=n:=by omega
      (repeat ((try (conv=>whnf));(refine stQ ?_)))
      exact ⟨rfl,rfl⟩
end
end Go.Proofs.YtegpkpilfgohhaaGreat
namespace Go.Proofs.YtegpkpilfgohhaaGreat
open Go.RowKit
set_option maxRecDepth 20000
section
variable {ax ay bx by_ y:Int}
end
section
variable {G:Mem} {A:Option Addr} {n c:Nat} {L:Nat→LineD} {y:Int} {odd:Bool}
end
end Go.Proofs.YtegpkpilfgohhaaGreat
