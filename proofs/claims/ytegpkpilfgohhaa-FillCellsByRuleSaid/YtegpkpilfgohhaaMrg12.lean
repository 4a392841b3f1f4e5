/-
  Merged: XInsE, XSymE.
-/
import Derived.Test.YtegpkpilfgohhaaMrg11
set_option linter.unusedVariables false
set_option linter.unusedSimpArgs false
set_option linter.unnecessarySimpa false
namespace Go.Proofs.Ytegpkpilfgohhaa
open Go.RowKit
set_option maxRecDepth 20000
def cmpE (a b:Edge):Int:=if a.y<b.y then -1 else if b.y<a.y then 1 else 0
theorem q6a {a b:Edge}:cmpE a b<0↔a.y<b.y:=by unfold cmpE;split <;> (try split) <;> omega
theorem q7g (a b:Edge):-1≤cmpE a b∧cmpE a b≤1:=by unfold cmpE;split <;> (try split) <;> omega
abbrev z9j (r:Edge):AV:=.agg [.val (.int .i64 r.x),.val (.int .i64 r.y),.val (.int .i64 r.e),.val (.int .i64 r.dx),.val (.int .i64 r.dy),.val (.int .i64 r.s)]
section
variable {G:Mem}
set_option maxHeartbeats 2000000 in
theorem q4m (a b:Edge):Gives Try.prog 42 [z9j a,z9j b] G (.val (.int .i64 (cmpE a b))):=by
  refine q1n tab_ok Try.func42 ?_
  unfold cmpE
  by_cases h1:a.y<b.y
  · rw [if_pos h1]
    (repeat ((try (conv=>whnf));(first |(refine stQ ?_) |(with_reducible first |refine q0s tab_ok Try.func43 (fun vs w=>by kernel_rfl) (by rfl) ?_ |refine q0s tab_ok Try.func60 (fun vs w=>by kernel_rfl) (by rfl) ?_))))
    exact ⟨rfl,rfl⟩
  · rw [if_neg h1]
    by_cases h2:b.y<a.y
    · rw [if_pos h2]
      (repeat ((try (conv=>whnf));(first |(refine stQ ?_) |(with_reducible first |refine q0s tab_ok Try.func43 (fun vs w=>by kernel_rfl) (by rfl) ?_ |refine q0s tab_ok Try.func60 (fun vs w=>by kernel_rfl) (by rfl) ?_))))
      exact ⟨rfl,rfl⟩
    · rw [if_neg h2]
      (repeat ((try (conv=>whnf));(first |(refine stQ ?_) |(with_reducible first |refine q0s tab_ok Try.func43 (fun vs w=>by kernel_rfl) (by rfl) ?_ |refine q0s tab_ok Try.func60 (fun vs w=>by kernel_rfl) (by rfl) ?_))))
      exact ⟨rfl,rfl⟩
theorem q74 {l:List Edge} {zi zj:Int} {i j:Nat} (hi:zi.toNat=i) (hj:zj.toNat=j) (h1:i<l.length) (h2:j<l.length) {e:TypeId} {n:Nat} :
    hpLe 1 [.own e 6 n (((l.flatMap encE).take (zi.toNat * 6)++encE (gAt l j)++(l.flatMap encE).drop (zi.toNat * 6+6)).take (zj.toNat * 6)++encE (gAt l i)++((l.flatMap encE).take (zi.toNat * 6)++encE (gAt l j)++(l.flatMap encE).drop (zi.toNat * 6+6)).drop (zj.toNat * 6+6))] [.own e 6 n ((swp l i j).flatMap encE)] :=
  q0a rfl (z24 hi hj h1 h2) q0b
set_option maxHeartbeats 8000000 in
theorem z1h {l:List Edge} {a b:Nat} (hab:a≤b) (hb:b≤l.length) (hl:l.length≤4000000) :
    MendsR Try.prog 74 [.own 0,.val (.int .i64 a),.val (.int .i64 b),q1j] G 86 6 l.length (l.flatMap encE) fun xs=>∃ l',xs=l'.flatMap encE∧SameIn l l' a b∧srtK Edge.y l' a b:=by
  refine q5f tab_ok Try.func74 fun G' hG=>?_
  (repeat ((try (conv=>whnf));(refine stQ ?_)))
  conv=>whnf
  refine q2h tab_ok (fun (i:Nat) (cur:List Edge)=>i≤b-a∧SameIn l cur a b∧srtK Edge.y cur a (a+1+i)) (fun i cur=>[(8,.val (.int .i64 ((a+1+i:Nat):Int)))]) (fun i cur=>[.own 86 6 l.length (cur.flatMap encE)]) (fun i cur=>b-a-i) 0 l ⟨Nat.zero_le _,SameIn.refl _ _ _,srtK.one (by omega)⟩ ?_ ?_
  · ((refine q0d ?_);(conv=>whnf);(refine q0e (by rfl) (by rfl) flQ ?_))
    exact q0a rfl rfl q0b
  · rintro i cur ⟨hi,hc,hs⟩
    have hlen:=hc.len
    rcases Nat.lt_or_ge (a+1+i) b with h1 |h1
    · (repeat ((try (conv=>whnf));(refine stQ ?_)))
      conv=>whnf
      refine q2h tab_ok (fun (j:Nat) (c2:List Edge)=>InsAt Edge.y cur c2 a (a+1+i) j) (fun j c2=>[(9,.val (.int .i64 j))]) (fun j c2=>[.own 86 6 l.length (c2.flatMap encE)]) (fun j c2=>j) (a+1+i) cur (InsAt.start hs (by omega)) ?_ ?_
      · ((refine q0d ?_);(conv=>whnf);(refine q0e (by rfl) (by rfl) flQ ?_))
        exact q0a rfl rfl q0b
      · rintro j c2 hj
        have hlen2:=hj.same.len
        have hle:=hj.le
        rcases Nat.lt_or_ge a j with h2 |h2
        · have hg:=q4m (G:=G') (gAt c2 j) (gAt c2 (j-1))
          have hbd:=q7g (gAt c2 j) (gAt c2 (j-1))
          have hng:=q6a (a:=gAt c2 j) (b:=gAt c2 (j-1))
          generalize cmpE (gAt c2 j) (gAt c2 (j-1))=z at *
          by_cases h3:(gAt c2 j).y<(gAt c2 (j-1)).y
          · have hz:=hng.2 h3
            have hnx:=hj.next (by omega) h2 h3
            (repeat ((try (conv=>whnf));(first |(refine q0z (i:=j) (by omega) (by omega) _ ?_) |(refine q0z (i:=j-1) (by omega) (by omega) _ ?_) |(with_reducible first |refine q1m tab_ok (by kernel_rfl) 14 [] (by decide +kernel) ?_ |refine q35 tab_ok (by kernel_rfl) 16 [0] [(8,0),(9,0),(12,0),(13,0),(14,0)] (by decide +kernel) ?_) |(refine stQ ?_) |(with_reducible first |refine q0f (fun vs w=>by kernel_rfl) (by kernel_rfl) (hg) ?_ |refine q0h (fun vs w=>by kernel_rfl) (by kernel_rfl) (hg) ?_))))
            conv=>whnf
            refine mustP.mk (q3l (l:=c2) (i:=j) (by omega) (by omega) rfl) ?_
            (repeat ((try (conv=>whnf));(refine stQ ?_)))
            conv=>whnf
            refine mustP.mk (q3l (l:=c2) (i:=j-1) (by omega) (by omega) (q6t (i:=j) (by omega) (by omega) _)) ?_
            (repeat ((try (conv=>whnf));(refine stQ ?_)))
            refine ⟨j-1,_,hnx,by omega,?_⟩
            ((refine q0d ?_);(conv=>whnf);(refine q0e (by rfl) (by rfl) flQ ?_))
            exact q74 (by omega) (by omega) (by omega) (by omega)
          · have hz:¬ z<0:=fun h=>h3 (hng.1 h)
            have hfin:=hj.fin (.inr (by omega))
            (repeat ((try (conv=>whnf));(first |(refine q0z (i:=j) (by omega) (by omega) _ ?_) |(refine q0z (i:=j-1) (by omega) (by omega) _ ?_) |(with_reducible first |refine q1m tab_ok (by kernel_rfl) 14 [] (by decide +kernel) ?_ |refine q35 tab_ok (by kernel_rfl) 16 [0] [(8,0),(9,0),(12,0),(13,0),(14,0)] (by decide +kernel) ?_) |(refine stQ ?_) |(with_reducible first |refine q0f (fun vs w=>by kernel_rfl) (by kernel_rfl) (hg) ?_ |refine q0h (fun vs w=>by kernel_rfl) (by kernel_rfl) (hg) ?_))))
            refine ⟨i+1,c2,⟨by omega,hc.trans (hj.same.wide (Nat.le_refl _) (by omega)),hfin⟩,by omega,?_⟩
            ((refine q0d ?_);(conv=>whnf);(refine q0e (by rfl) (by rfl) flQ ?_))
            exact q0a rfl rfl q0b
        · have hfin:=hj.fin (.inl (by omega))
          (repeat ((try (conv=>whnf));(first |(with_reducible refine q1m tab_ok (by kernel_rfl) 14 [] (by decide +kernel) ?_) |(refine stQ ?_))))
          refine ⟨i+1,c2,⟨by omega,hc.trans (hj.same.wide (Nat.le_refl _) (by omega)),hfin⟩,by omega,?_⟩
          ((refine q0d ?_);(conv=>whnf);(refine q0e (by rfl) (by rfl) flQ ?_))
          exact q0a rfl rfl q0b
    · (repeat ((try (conv=>whnf));(refine stQ ?_)))
      exact ⟨_,rfl,cur,rfl,hc,hs.less (Nat.le_refl _) (by omega)⟩
end
end Go.Proofs.Ytegpkpilfgohhaa
namespace Go.Proofs.Ytegpkpilfgohhaa
open Go.RowKit
set_option maxRecDepth 20000
section
variable {G:Mem}
theorem q6b {l:List Edge} {a b c:Nat} {za zb zc:Int} (ha:za=a) (hb':zb=b) (hc:zc=c) (hab:a+c≤b) (hb:b+c≤l.length) (hl:l.length≤4000000) :
    MendsR Try.prog 99 [.own 0,.val (.int .i64 za),.val (.int .i64 zb),.val (.int .i64 zc),q1j] G 86 6 l.length (l.flatMap encE) fun xs=>∃ l',xs=l'.flatMap encE∧RngAt l l' a b c:=by
  subst ha;subst hb';subst hc;exact z1g hab hb hl
set_option maxHeartbeats 8000000 in
theorem z42 {l:List Edge} {a m b:Nat} (ham:a<m) (hmb:m<b) (hb:b≤l.length) (hl:l.length≤4000000) :
    MendsR Try.prog 93 [.own 0,.val (.int .i64 a),.val (.int .i64 m),.val (.int .i64 b),q1j] G 86 6 l.length (l.flatMap encE) fun xs=>∃ l',xs=l'.flatMap encE∧l'.Perm l∧∀ t,gAt l' t=rotF l a m b t:=by
  refine q5f tab_ok Try.func93 fun G' hG=>?_
  (repeat ((try (conv=>whnf));(refine stQ ?_)))
  conv=>whnf
  refine q8u tab_ok (fun (i j:Nat) (cur:List Edge)=>RotAt l cur a m b i j) (fun i j cur=>[(10,.val (.int .i64 i)),(11,.val (.int .i64 j))]) (fun i j cur=>[.own 86 6 l.length (cur.flatMap encE)]) (fun i j cur=>i+j) (m-a) (b-m) l (RotAt.start l ham hmb) ?_ ?_
  · ((refine q0d ?_);(conv=>whnf);(refine q0e (by rfl) (by rfl) flQ ?_))
    exact q0a rfl rfl q0b
  · rintro i j cur hc
    have hlen:=hc.perm.length_eq
    obtain ⟨p1,p2,p3,p4⟩:=hc.pos
    rcases Nat.lt_trichotomy i j with e |e |e
    · (repeat ((try (conv=>whnf));(refine stQ ?_)))
      conv=>whnf
      refine q0y [.own 0,.val (.int .i64 (m-i:Int)),.val (.int .i64 (m+j-i:Int)),.val (.int .i64 i),q1j] 0 0 (fun vs w=>by kernel_rfl) (by rfl) rfl (by rfl) (by rw [← hlen];rfl) (q6b (l:=cur) (a:=m-i) (b:=m+j-i) (c:=i) (by omega) (by omega) rfl (by omega) (by omega) (by omega)) ?_
      rintro _ ⟨c2,rfl,hr⟩
      have hnx:=hc.right e hr
      (repeat ((try (conv=>whnf));(refine stQ ?_)))
      refine ⟨i,j-i,c2,hnx,by omega,?_⟩
      rw [hlen]
      ((refine q0d ?_);(conv=>whnf);(refine q0e (by rfl) (by rfl) flQ ?_))
      exact q0a rfl rfl q0b
    · subst e
      (repeat ((try (conv=>whnf));(refine stQ ?_)))
      conv=>whnf
      refine q0y [.own 0,.val (.int .i64 (m-i:Int)),.val (.int .i64 m),.val (.int .i64 i),q1j] 0 0 (fun vs w=>by kernel_rfl) (by rfl) rfl (by rfl) (by rw [← hlen];rfl) (q6b (l:=cur) (a:=m-i) (b:=m) (c:=i) (by omega) rfl rfl (by omega) (by omega) (by omega)) ?_
      rintro _ ⟨c2,rfl,hr⟩
      have hnx:=hc.fin hr
      (repeat ((try (conv=>whnf));(refine stQ ?_)))
      rw [hlen]
      exact ⟨_,rfl,c2,rfl,hr.perm.trans hc.perm,hnx⟩
    · (repeat ((try (conv=>whnf));(refine stQ ?_)))
      conv=>whnf
      refine q0y [.own 0,.val (.int .i64 (m-i:Int)),.val (.int .i64 m),.val (.int .i64 j),q1j] 0 0 (fun vs w=>by kernel_rfl) (by rfl) rfl (by rfl) (by rw [← hlen];rfl) (q6b (l:=cur) (a:=m-i) (b:=m) (c:=j) (by omega) rfl rfl (by omega) (by omega) (by omega)) ?_
      rintro _ ⟨c2,rfl,hr⟩
      have hnx:=hc.left e hr
      (repeat ((try (conv=>whnf));(refine stQ ?_)))
      refine ⟨i-j,j,c2,hnx,by omega,?_⟩
      rw [hlen]
      ((refine q0d ?_);(conv=>whnf);(refine q0e (by rfl) (by rfl) flQ ?_))
      exact q0a rfl rfl q0b
end
end Go.Proofs.Ytegpkpilfgohhaa
