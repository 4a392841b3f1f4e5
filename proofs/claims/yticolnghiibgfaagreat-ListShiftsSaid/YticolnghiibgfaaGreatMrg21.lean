/-
  Merged: XListN, XListI, XListL.
-/
import Derived.Test.YticolnghiibgfaaGreatEng2
import Derived.Test.YticolnghiibgfaaGreatMrg17
import Derived.Test.YticolnghiibgfaaGreatMrg14
import Derived.Test.YticolnghiibgfaaGreatMrg20
set_option linter.unusedVariables false
set_option linter.unusedSimpArgs false
set_option linter.unnecessarySimpa false
namespace Go.Proofs.YticolnghiibgfaaGreat
open Go.RowKit
set_option maxRecDepth 20000
def chB (s:ByteArray) (i:Nat):UInt8:=(s[i]?).getD 0
theorem z63 {s:ByteArray} {i:Nat} (h:i<s.size):s[i]? = some (chB s i):=by
  unfold chB
  rw [getElem?_pos s i h];rfl
def chI (s:ByteArray) (i:Nat):Int:=(chB s i).toNat
theorem x0v (s:ByteArray) (i:Nat):0≤chI s i∧chI s i≤255:=by
  unfold chI
  have:=(chB s i).toNat_lt
  omega
def chOk (s:ByteArray) (i:Nat):Bool:=decide ((97≤chI s i∧chI s i≤122)∨(0<i∧(chI s i=45∨(48≤chI s i∧chI s i≤57))))
def q6r (s:ByteArray):Bool:=decide (1≤s.size∧s.size≤16)&&(List.range s.size).all (chOk s)
theorem z4q {s:ByteArray} {i:Nat} (h:i<s.size) (k:chOk s i=false):q6r s=false:=by
  unfold q6r
  rw [show (List.range s.size).all (chOk s)=false from ?_,Bool.and_false]
  rw [List.all_eq_false]
  exact ⟨i,List.mem_range.2 h,by simp [k]⟩
theorem z8a {s:ByteArray} (h:1≤s.size∧s.size≤16) (k:∀ i,i<s.size→chOk s i=true):q6r s=true:=by
  unfold q6r
  rw [decide_eq_true h,List.all_eq_true.2 fun i hi=>k i (List.mem_range.1 hi)];rfl
theorem z5x {s:ByteArray} (h:¬ (1≤s.size∧s.size≤16)):q6r s=false:=by
  unfold q6r
  rw [decide_eq_false h];rfl
theorem z64 {s:ByteArray} {i:Nat} (h:¬ ((97≤chI s i∧chI s i≤122)∨(0<i∧(chI s i=45∨(48≤chI s i∧chI s i≤57))))):chOk s i=false:=decide_eq_false h
theorem z4r {s:ByteArray} {i:Nat} (h:(97≤chI s i∧chI s i≤122)∨(0<i∧(chI s i=45∨(48≤chI s i∧chI s i≤57)))):chOk s i=true:=decide_eq_true h
section
variable {s:ByteArray} {G:Mem}
set_option maxHeartbeats 2000000 in
theorem x0w:Gives Tryz.prog 50 [.val (.string s)] G (.val (.bool (q6r s))):=by
  refine q0w tab_ok Tryz.func50 ?_
  by_cases hs:1≤s.size∧s.size≤16
  · obtain ⟨s1,s2⟩:=hs
    (repeat ((try (conv=>whnf));(refine stQ ?_)))
    conv=>whnf
    refine q02 tab_ok (fun i=>i≤s.size∧∀ j,j<i→chOk s j=true) (fun (i:Nat)=>[(16,.val (.int .i64 i))]) (fun i=>[]) (fun i=>s.size-i) 0 ⟨Nat.zero_le _,fun j hj=>by omega⟩ ?_ ?_
    · ((refine q0h ?_);(conv=>whnf);(refine q0j (by rfl) (by rfl) flQ ?_))
      exact q0e
    · rintro i ⟨hi,hall⟩
      rcases Nat.lt_or_ge i s.size with h1 |h1
      · have hb:=x0v s i
        have hg:=z63 h1
        have no:=fun h=>z4q h1 (z64 h)
        have yes:((97≤chI s i∧chI s i≤122)∨(0<i∧(chI s i=45∨(48≤chI s i∧chI s i≤57))))→∀ j,j<i+1→chOk s j=true:=fun h j hj=>by
          rcases Nat.lt_or_ge j i with h2 |h2
          · exact hall j h2
          · obtain rfl:j=i:=by omega
            exact z4r h
        simp only [chI] at hb no yes
        (repeat' ((try (conv=>whnf));(first |(refine ⟨chB s i,hg,?_⟩) |(refine stQ ?_) |(with_reducible refine q03 (fun h0=>?_) (fun h0=>?_)))))
        all_goals first
          | (refine ⟨i+1,⟨by omega,yes (by omega)⟩,by omega,?_⟩
             ((refine q0h ?_);(conv=>whnf);(refine q0j (by rfl) (by rfl) flQ ?_))
             exact q0e)
          | exact ⟨by rw [no (by omega)],rfl⟩
      · obtain rfl:i=s.size:=by omega
        (repeat ((try (conv=>whnf));(refine stQ ?_)))
        exact ⟨by rw [z8a ⟨s1,s2⟩ hall],rfl⟩
  · rw [z5x hs]
    by_cases s1:s.size<1
    · (repeat ((try (conv=>whnf));(refine stQ ?_)))
      exact ⟨rfl,rfl⟩
    · (repeat ((try (conv=>whnf));(refine stQ ?_)))
      exact ⟨rfl,rfl⟩
set_option maxHeartbeats 2000000 in
theorem x4h:Gives Tryz.prog 36 [.val (.string s)] G (.val (.bool (q6r s))):=by
  refine q0w tab_ok Tryz.func36 ?_
  by_cases hs:1≤s.size∧s.size≤16
  · obtain ⟨s1,s2⟩:=hs
    have hb0:=x0v s 0
    have hg0:s[(0:Int).toNat]? = some (chB s 0):=z63 (by omega)
    by_cases c0:97≤chI s 0∧chI s 0≤122
    · have y0:=z4r (s:=s) (i:=0) (.inl c0)
      obtain ⟨c1,c2⟩:=c0
      simp only [chI] at hb0 c1 c2
      (repeat ((try (conv=>whnf));(first |(refine ⟨chB s 0,hg0,?_⟩) |(refine stQ ?_))))
      conv=>whnf
      refine q02 tab_ok (fun i=>1≤i∧i≤s.size∧∀ j,j<i→chOk s j=true) (fun (i:Nat)=>[(3,.val (.int .i64 i))]) (fun i=>[]) (fun i=>s.size-i) 1 ⟨Nat.le_refl _,s1,fun j hj=>(show j=0 by omega) ▸ y0⟩ ?_ ?_
      · ((refine q0h ?_);(conv=>whnf);(refine q0j (by rfl) (by rfl) flQ ?_))
        exact q0e
      · rintro i ⟨hi1,hi,hall⟩
        rcases Nat.lt_or_ge i s.size with h1 |h1
        · have hb:=x0v s i
          have hg:=z63 h1
          have no:=fun h=>z4q h1 (z64 h)
          have yes:((97≤chI s i∧chI s i≤122)∨(0<i∧(chI s i=45∨(48≤chI s i∧chI s i≤57))))→∀ j,j<i+1→chOk s j=true:=fun h j hj=>by
            rcases Nat.lt_or_ge j i with h2 |h2
            · exact hall j h2
            · obtain rfl:j=i:=by omega
              exact z4r h
          simp only [chI] at hb no yes
          (repeat' ((try (conv=>whnf));(first |(refine ⟨chB s i,hg,?_⟩) |(refine stQ ?_) |(with_reducible refine q03 (fun h0=>?_) (fun h0=>?_)))))
          all_goals first
            | (refine ⟨i+1,⟨by omega,by omega,yes (by omega)⟩,by omega,?_⟩
               ((refine q0h ?_);(conv=>whnf);(refine q0j (by rfl) (by rfl) flQ ?_))
               exact q0e)
            | exact ⟨by rw [no (by omega)],rfl⟩
        · obtain rfl:i=s.size:=by omega
          (repeat ((try (conv=>whnf));(refine stQ ?_)))
          exact ⟨by rw [z8a ⟨s1,s2⟩ hall],rfl⟩
    · have n0:=z4q (s:=s) (i:=0) (by omega) (z64 (by omega))
      rw [n0]
      simp only [chI] at hb0 c0
      (repeat' ((try (conv=>whnf));(first |(refine ⟨chB s 0,hg0,?_⟩) |(refine stQ ?_) |(with_reducible refine q03 (fun h0=>?_) (fun h0=>?_)))))
      all_goals exact ⟨rfl,rfl⟩
  · rw [z5x hs]
    by_cases s1:s.size<1
    · (repeat ((try (conv=>whnf));(refine stQ ?_)))
      exact ⟨rfl,rfl⟩
    · (repeat ((try (conv=>whnf));(refine stQ ?_)))
      exact ⟨rfl,rfl⟩
end
end Go.Proofs.YticolnghiibgfaaGreat
namespace Go.Proofs.YticolnghiibgfaaGreat
open Go.RowKit
set_option maxRecDepth 20000
structure ItemD where
  K:Int
  RA:Option Addr
  rn:Nat
  rq:Nat
  k:Int
  I:Nat→Int
  fx:Int
  fy:Int
  tx:Int
  ty:Int
  r:Int
  A:Option Addr
  n:Nat
  q:Nat
  W:Int
  H:Int
  B:Option Addr
  pn:Nat
  pq:Nat
  C:Option Addr
  sn:Nat
  sq:Nat
  a:Int
  b:Int
  c:Int
  d:Int
  e:Int
  f:Int
  s:Bool
  t:Bool
  al:Int
  bl:Int
  ov:Bool
  iso:Bool
  kn:Bool
abbrev q2f (i:ItemD):AV:=srcA i.k i.I i.fx i.fy i.tx i.ty i.r (.slice i.A i.n i.q) i.W i.H (.slice i.B i.pn i.pq) (.slice i.C i.sn i.sq) i.a i.b i.c i.d i.e i.f i.s i.t
abbrev q5i (i:ItemD):AV:=.agg [.val (.int .i64 i.K),.val (.slice i.RA i.rn i.rq),.val (.int .i64 i.k),.val (.int .u8 (i.I 0)),.val (.int .u8 (i.I 1)),.val (.int .u8 (i.I 2)),.val (.int .u8 (i.I 3)),.val (.int .u8 (i.I 4)),.val (.int .u8 (i.I 5)),.val (.int .u8 (i.I 6)),.val (.int .u8 (i.I 7)),.val (.int .i64 i.fx),.val (.int .i64 i.fy),.val (.int .i64 i.tx),.val (.int .i64 i.ty),.val (.int .i64 i.r),.val (.slice i.A i.n i.q),.val (.int .i64 i.W),.val (.int .i64 i.H),.val (.slice i.B i.pn i.pq),.val (.slice i.C i.sn i.sq),.val (.int .i64 i.a),.val (.int .i64 i.b),.val (.int .i64 i.c),.val (.int .i64 i.d),.val (.int .i64 i.e),.val (.int .i64 i.f),.val (.bool i.s),.val (.bool i.t),.val (.int .u8 i.al),.val (.int .i64 i.bl),.val (.bool i.ov),.val (.bool i.iso),.val (.bool i.kn)]
abbrev ItemD.cells (i:ItemD):List Value:=[.int .i64 i.K,.slice i.RA i.rn i.rq,.int .i64 i.k,.int .u8 (i.I 0),.int .u8 (i.I 1),.int .u8 (i.I 2),.int .u8 (i.I 3),.int .u8 (i.I 4),.int .u8 (i.I 5),.int .u8 (i.I 6),.int .u8 (i.I 7),.int .i64 i.fx,.int .i64 i.fy,.int .i64 i.tx,.int .i64 i.ty,.int .i64 i.r,.slice i.A i.n i.q,.int .i64 i.W,.int .i64 i.H,.slice i.B i.pn i.pq,.slice i.C i.sn i.sq,.int .i64 i.a,.int .i64 i.b,.int .i64 i.c,.int .i64 i.d,.int .i64 i.e,.int .i64 i.f,.bool i.s,.bool i.t,.int .u8 i.al,.int .i64 i.bl,.bool i.ov,.bool i.iso,.bool i.kn]
def nosB (k:Int) (i z p:Bool):Bool:=decide (k=0)&&i&&z&&p
def ItemD.nos (i:ItemD):Bool:=nosB i.k (inkZ (i.I 0) (i.I 1) (i.I 2) (i.I 3) (i.I 4) (i.I 5) (i.I 6) (i.I 7)) (q29 i.fx i.fy i.tx i.ty i.r i.n) (q1d i.W i.H i.pn i.sn i.a i.b i.c i.d i.e i.f i.s i.t)
def q2h (K:Int) (rn:Nat) (nos:Bool) (al bl:Int) (ov iso kn:Bool) (o rE sE:Int):Int :=
  if K<0∨2<K then 14
  else if (K=0∧(iso=true∨kn=true))∨(K=1∧(0<rn∨ov=true∨nos=false))∨(K=2∧(0<rn∨ov=true∨nos=false∨iso=true∨kn=true∨¬ al=0∨¬ bl=0)) then 4
  else if K=2∧o=0 then 18
  else if K=1∧16≤o then 15
  else if bl<0∨12≤bl∨(K=1∧iso=false∧¬ bl=0) then 1
  else if ¬ K=0 then 0
  else if ¬ rE=0 then rE else sE
section
variable {k:Int} {I:Nat→Int} {fx fy tx ty r:Int} {A:Option Addr} {n q:Nat} {W H:Int} {B:Option Addr} {pn pq:Nat} {C:Option Addr} {sn sq:Nat} {a b c d e f:Int} {s t:Bool} {G:Mem}
set_option maxHeartbeats 4000000 in
theorem z5y:Gives Tryz.prog 75 [srcA k I fx fy tx ty r (.slice A n q) W H (.slice B pn pq) (.slice C sn sq) a b c d e f s t] G (.val (.bool (nosB k (inkZ (I 0) (I 1) (I 2) (I 3) (I 4) (I 5) (I 6) (I 7)) (q29 fx fy tx ty r n) (q1d W H pn sn a b c d e f s t)))):=by
  have gz:=q9b (k:=k) (I:=I) (fx:=fx) (fy:=fy) (tx:=tx) (ty:=ty) (r:=r) (A:=A) (n:=n) (q:=q) (W:=W) (H:=H) (B:=B) (pn:=pn) (pq:=pq) (C:=C) (sn:=sn) (sq:=sq) (a:=a) (b:=b) (c:=c) (d:=d) (e:=e) (f:=f) (s:=s) (t:=t) (G:=G)
  have gp:=q79 (W:=W) (H:=H) (B:=B) (pn:=pn) (pq:=pq) (C:=C) (sn:=sn) (sq:=sq) (a:=a) (b:=b) (c:=c) (d:=d) (e:=e) (f:=f) (s:=s) (t:=t) (G:=G)
  have gi:=q9w (I:=I)
  refine q0w tab_ok Tryz.func75 ?_
  generalize q29 fx fy tx ty r n=z at *
  generalize q1d W H pn sn a b c d e f s t=p at *
  generalize inkZ (I 0) (I 1) (I 2) (I 3) (I 4) (I 5) (I 6) (I 7)=i at *
  unfold nosB
  by_cases k0:k=0
  · subst k0
    cases i
    · clear gz gp
      (repeat' ((try (conv=>whnf));(first |(refine stQ ?_) |(with_reducible refine q03 (fun h0=>?_) (fun h0=>?_)))))
      all_goals first |exact ⟨rfl,rfl⟩ |exact absurd (gi.2 ⟨by assumption,by assumption,by assumption,by assumption,by assumption,by assumption,by assumption,by assumption⟩) (by simp)
    · obtain ⟨e0,e1,e2,e3,e4,e5,e6,e7⟩:=gi.1 rfl
      cases z <;> cases p <;> ((repeat ((try (conv=>whnf));(first |(refine stQ ?_) |(with_reducible first |refine q0b (fun vs w=>by kernel_rfl) (by kernel_rfl) (gz) ?_ |refine q0a (fun vs w=>by kernel_rfl) (by kernel_rfl) (gz) ?_ |refine q0b (fun vs w=>by kernel_rfl) (by kernel_rfl) (gp) ?_ |refine q0a (fun vs w=>by kernel_rfl) (by kernel_rfl) (gp) ?_))))) <;> exact ⟨rfl,rfl⟩
  · (repeat ((try (conv=>whnf));(refine stQ ?_)))
    exact ⟨by rw [decide_eq_false k0];rfl,rfl⟩
theorem z2y:Gives Tryz.prog 85 [imgA W H (.slice B pn pq) (.slice C sn sq) a b c d e f s t] G (.val (.bool (q1d W H pn sn a b c d e f s t))) :=
  Gives.of_callsA (fun vs h=>x0m vs h) (by rw [AV.rel]) fun w' _=>q5g W H B C pn pq sn sq a b c d e f s t w'
set_option maxHeartbeats 4000000 in
theorem z4s:Gives Tryz.prog 56 [srcA k I fx fy tx ty r (.slice A n q) W H (.slice B pn pq) (.slice C sn sq) a b c d e f s t] G (.val (.bool (nosB k (inkZ (I 0) (I 1) (I 2) (I 3) (I 4) (I 5) (I 6) (I 7)) (q29 fx fy tx ty r n) (q1d W H pn sn a b c d e f s t)))):=by
  have gp:=z2y (W:=W) (H:=H) (B:=B) (pn:=pn) (pq:=pq) (C:=C) (sn:=sn) (sq:=sq) (a:=a) (b:=b) (c:=c) (d:=d) (e:=e) (f:=f) (s:=s) (t:=t) (G:=G)
  have gi:=q9w (I:=I)
  have gz:=x0p (fx:=fx) (fy:=fy) (tx:=tx) (ty:=ty) (r:=r) (n:=n)
  refine q0w tab_ok Tryz.func56 ?_
  generalize q29 fx fy tx ty r n=z at *
  generalize q1d W H pn sn a b c d e f s t=p at *
  generalize inkZ (I 0) (I 1) (I 2) (I 3) (I 4) (I 5) (I 6) (I 7)=i at *
  unfold nosB
  by_cases k0:k=0
  · subst k0
    cases i
    · clear gz gp
      (repeat' ((try (conv=>whnf));(first |(refine stQ ?_) |(with_reducible refine q03 (fun h0=>?_) (fun h0=>?_)))))
      all_goals first |exact ⟨rfl,rfl⟩ |exact absurd (gi.2 ⟨by assumption,by assumption,by assumption,by assumption,by assumption,by assumption,by assumption,by assumption⟩) (by simp)
    · obtain ⟨e0,e1,e2,e3,e4,e5,e6,e7⟩:=gi.1 rfl
      cases z
      · clear gi gp
        (repeat' ((try (conv=>whnf));(first |(refine stQ ?_) |(with_reducible refine q03 (fun h0=>?_) (fun h0=>?_)))))
        all_goals first |exact ⟨rfl,rfl⟩ |exact absurd (gz.2 ⟨by assumption,by assumption,by assumption,by assumption,by assumption,by omega⟩) (by simp)
      · obtain ⟨z0,z1,z2,z3,z4,z5⟩:=gz.1 rfl
        cases p <;> ((repeat ((try (conv=>whnf));(first |(refine stQ ?_) |(with_reducible first |refine q0b (fun vs w=>by kernel_rfl) (by kernel_rfl) (gp) ?_ |refine q0a (fun vs w=>by kernel_rfl) (by kernel_rfl) (gp) ?_))))) <;> exact ⟨rfl,rfl⟩
  · (repeat ((try (conv=>whnf));(refine stQ ?_)))
    exact ⟨by rw [decide_eq_false k0];rfl,rfl⟩
end
section
variable {i:ItemD} {G:Mem} {o rE sE:Int} {m:Nat}
theorem x6j:Gives Tryz.prog 75 [q2f i] G (.val (.bool i.nos)):=z5y
theorem x4i:Gives Tryz.prog 56 [q2f i] G (.val (.bool i.nos)):=z4s
set_option maxHeartbeats 16000000 in
theorem q4a (hR:Gives Tryz.prog 45 [.val (.slice i.RA i.rn i.rq)] G (.val (.int .i64 rE))) (hS:Gives Tryz.prog 76 [q2f i,.val (.int .i64 m)] G (.val (.int .i64 sE))) :
    Gives Tryz.prog 52 [q5i i,.val (.int .i64 m),.val (.int .i64 o)] G (.val (.int .i64 (q2h i.K i.rn i.nos i.al i.bl i.ov i.iso i.kn o rE sE))):=by
  have gn:=x6j (i:=i) (G:=G)
  unfold ItemD.nos at gn ⊢
  obtain ⟨K,RA,rn,rq,k,I,fx,fy,tx,ty,r,A,n,q,W,H,B,pn,pq,C,sn,sq,a,b,c,d,e,f,s,t,al,bl,ov,iso,kn⟩:=i
  simp only [q5i,q2f] at hS gn ⊢
  dsimp only at *
  refine q0w tab_ok Tryz.func52 ?_
  generalize nosB k (inkZ (I 0) (I 1) (I 2) (I 3) (I 4) (I 5) (I 6) (I 7)) (q29 fx fy tx ty r n) (q1d W H pn sn a b c d e f s t)=z at *
  by_cases k0:K=0
  · subst k0
    clear gn
    cases iso <;> cases kn <;> ((repeat' ((try (conv=>whnf));(first |(refine stQ ?_) |(with_reducible first |refine q0b (fun vs w=>by kernel_rfl) (by kernel_rfl) (hR) ?_ |refine q0a (fun vs w=>by kernel_rfl) (by kernel_rfl) (hR) ?_ |refine q0b (fun vs w=>by kernel_rfl) (by kernel_rfl) (hS) ?_ |refine q0a (fun vs w=>by kernel_rfl) (by kernel_rfl) (hS) ?_ |refine q03 (fun h0=>?_) (fun h0=>?_)))))) <;> exact ⟨by first |rfl |(rw [AV.val.injEq,Value.int.injEq];exact ⟨rfl,by (try dsimp only at *);unfold q2h;simp <;> (repeat' split) <;> omega⟩),rfl⟩
  clear hR hS
  by_cases k1:K=1
  · subst k1
    cases z <;> cases iso <;> cases ov <;> ((repeat' ((try (conv=>whnf));(first |(refine stQ ?_) |(with_reducible first |refine q0b (fun vs w=>by kernel_rfl) (by kernel_rfl) (gn) ?_ |refine q0a (fun vs w=>by kernel_rfl) (by kernel_rfl) (gn) ?_ |refine q03 (fun h0=>?_) (fun h0=>?_)))))) <;> exact ⟨by first |rfl |(rw [AV.val.injEq,Value.int.injEq];exact ⟨rfl,by (try dsimp only at *);unfold q2h;simp <;> (repeat' split) <;> omega⟩),rfl⟩
  by_cases k2:K=2
  · subst k2
    cases z <;> cases iso <;> cases kn <;> cases ov <;> ((repeat' ((try (conv=>whnf));(first |(refine stQ ?_) |(with_reducible first |refine q0b (fun vs w=>by kernel_rfl) (by kernel_rfl) (gn) ?_ |refine q0a (fun vs w=>by kernel_rfl) (by kernel_rfl) (gn) ?_ |refine q03 (fun h0=>?_) (fun h0=>?_)))))) <;> exact ⟨by first |rfl |(rw [AV.val.injEq,Value.int.injEq];exact ⟨rfl,by (try dsimp only at *);unfold q2h;simp <;> (repeat' split) <;> omega⟩),rfl⟩
  · clear gn
    ((repeat' ((try (conv=>whnf));(first |(refine stQ ?_) |(with_reducible refine q03 (fun h0=>?_) (fun h0=>?_)))))) <;> exact ⟨by rw [AV.val.injEq,Value.int.injEq];exact ⟨rfl,by (try dsimp only at *);unfold q2h;rw [if_pos (by omega)]⟩,rfl⟩
set_option maxHeartbeats 16000000 in
theorem z5z (hal:0≤i.al) (ho:0≤o∧o≤16) (hR:Gives Tryz.prog 29 [.val (.slice i.RA i.rn i.rq)] G (.val (.int .i64 rE))) (hS:Gives Tryz.prog 57 [q2f i,.val (.int .i64 m)] G (.val (.int .i64 sE))) :
    Gives Tryz.prog 37 [q5i i,.val (.int .i64 m),.val (.int .i64 o)] G (.val (.int .i64 (q2h i.K i.rn i.nos i.al i.bl i.ov i.iso i.kn o rE sE))):=by
  have gn:=x4i (i:=i) (G:=G)
  unfold ItemD.nos at gn ⊢
  obtain ⟨K,RA,rn,rq,k,I,fx,fy,tx,ty,r,A,n,q,W,H,B,pn,pq,C,sn,sq,a,b,c,d,e,f,s,t,al,bl,ov,iso,kn⟩:=i
  simp only [q5i,q2f] at hS gn ⊢
  dsimp only at *
  refine q0w tab_ok Tryz.func37 ?_
  generalize nosB k (inkZ (I 0) (I 1) (I 2) (I 3) (I 4) (I 5) (I 6) (I 7)) (q29 fx fy tx ty r n) (q1d W H pn sn a b c d e f s t)=z at *
  by_cases k0:K=0
  · subst k0
    clear gn
    cases iso <;> cases kn <;> ((repeat' ((try (conv=>whnf));(first |(refine stQ ?_) |(with_reducible first |refine q0f tab_ok Tryz.func12 (fun vs w=>by kernel_rfl) (by rfl) ?_ |refine q0b (fun vs w=>by kernel_rfl) (by kernel_rfl) (hR) ?_ |refine q0a (fun vs w=>by kernel_rfl) (by kernel_rfl) (hR) ?_ |refine q0b (fun vs w=>by kernel_rfl) (by kernel_rfl) (hS) ?_ |refine q0a (fun vs w=>by kernel_rfl) (by kernel_rfl) (hS) ?_ |refine q03 (fun h0=>?_) (fun h0=>?_)))))) <;> exact ⟨by first |rfl |(rw [AV.val.injEq,Value.int.injEq];exact ⟨rfl,by (try dsimp only at *);unfold q2h;simp <;> (repeat' split) <;> omega⟩),rfl⟩
  clear hR hS
  by_cases k1:K=1
  · subst k1
    cases z <;> cases iso <;> cases ov <;> ((repeat' ((try (conv=>whnf));(first |(refine stQ ?_) |(with_reducible first |refine q0f tab_ok Tryz.func12 (fun vs w=>by kernel_rfl) (by rfl) ?_ |refine q0b (fun vs w=>by kernel_rfl) (by kernel_rfl) (gn) ?_ |refine q0a (fun vs w=>by kernel_rfl) (by kernel_rfl) (gn) ?_ |refine q03 (fun h0=>?_) (fun h0=>?_)))))) <;> exact ⟨by first |rfl |(rw [AV.val.injEq,Value.int.injEq];exact ⟨rfl,by (try dsimp only at *);unfold q2h;simp <;> (repeat' split) <;> omega⟩),rfl⟩
  by_cases k2:K=2
  · subst k2
    cases z <;> cases iso <;> cases kn <;> cases ov <;> ((repeat' ((try (conv=>whnf));(first |(refine stQ ?_) |(with_reducible first |refine q0f tab_ok Tryz.func12 (fun vs w=>by kernel_rfl) (by rfl) ?_ |refine q0b (fun vs w=>by kernel_rfl) (by kernel_rfl) (gn) ?_ |refine q0a (fun vs w=>by kernel_rfl) (by kernel_rfl) (gn) ?_ |refine q03 (fun h0=>?_) (fun h0=>?_)))))) <;> exact ⟨by first |rfl |(rw [AV.val.injEq,Value.int.injEq];exact ⟨rfl,by (try dsimp only at *);unfold q2h;simp <;> (repeat' split) <;> omega⟩),rfl⟩
  · clear gn
    ((repeat' ((try (conv=>whnf));(first |(refine stQ ?_) |(with_reducible first |refine q0f tab_ok Tryz.func12 (fun vs w=>by kernel_rfl) (by rfl) ?_ |refine q03 (fun h0=>?_) (fun h0=>?_)))))) <;> exact ⟨by rw [AV.val.injEq,Value.int.injEq];exact ⟨rfl,by (try dsimp only at *);unfold q2h;rw [if_pos (by omega)]⟩,rfl⟩
end
end Go.Proofs.YticolnghiibgfaaGreat
namespace Go.Proofs.YticolnghiibgfaaGreat
open Go.RowKit
set_option maxRecDepth 20000
def q1z (e:Nat→Int):Nat→Int
  | 0=>0
  | n+1=>if q1z e n=0 then e n else q1z e n
theorem q8n {e:Nat→Int} {k:Nat} (h0:q1z e k=0) (h:e k=0):q1z e (k+1)=0:=by
  simp [q1z,h0,h]
theorem q7m {e:Nat→Int} {k:Nat} (h0:q1z e k=0) (h:¬ e k=0):∀ {n:Nat},k<n→q1z e n=e k:=by
  intro n hn
  induction n with
  | zero=>omega
  | succ n ih =>
    rcases Nat.lt_or_ge k n with h1 |h1
    · have:=ih h1
      simp only [q1z,this]
      rw [if_neg h]
    · obtain rfl:k=n:=by omega
      simp only [q1z,h0];rfl
def StrM (G:Mem) (A:Option Addr) (n:Nat) (S:Nat→ByteArray):Prop:=∀ x,x<n→∃ p:Addr,A=some p∧∀ K:List Value→Prop,K [.string (S x)]→OldCells G (p.add (x*1)) 1 K
def ItemsM (G:Mem) (A:Option Addr) (n:Nat) (I:Nat→ItemD):Prop:=∀ x,x<n→∃ p:Addr,A=some p∧∀ K:List Value→Prop,K (I x).cells→OldCells G (p.add (x*34)) 34 K
def q7n (a b:ByteArray):Bool:=a.toList==b.toList
theorem x4j (a b:ByteArray):q7n a b=q7n b a:=by
  unfold q7n
  rw [Bool.eq_iff_iff,beq_iff_eq,beq_iff_eq]
  exact eq_comm
def strB (S:Nat→ByteArray) (n:Nat) (s:ByteArray):Bool:=(List.range n).any fun k=>q7n (S k) s
theorem x0x {S:Nat→ByteArray} {n k:Nat} {s:ByteArray} (h:k<n) (e:q7n (S k) s=true):strB S n s=true:=by
  unfold strB
  rw [List.any_eq_true]
  exact ⟨k,List.mem_range.2 h,e⟩
theorem x24 {S:Nat→ByteArray} {n:Nat} {s:ByteArray} (h:∀ k,k<n→q7n (S k) s=false):strB S n s=false:=by
  unfold strB
  rw [List.any_eq_false]
  intro k hk
  rw [h k (List.mem_range.1 hk)];simp
def q3y (S:Nat→ByteArray) (i:Nat):Int:=if q6r (S i)=true then (if strB S i (S i)=true then 7 else 0) else 6
def q0x (K:Nat→Int):Nat→Int
  | 0=>0
  | n+1=>q0x K n+(if K n=1 then 1 else if K n=2 then -1 else 0)
def q3e (W H:Int) (m:Nat) (S:Nat→ByteArray) (n:Nat) (K:Nat→Int) (E:Nat→Int→Int):Int :=
  if W<1∨256<W∨H<1∨256<H then 3 else if m<1∨8<m then 2 else if ¬ q1z (q3y S) m=0 then q1z (q3y S) m else if 5000<n then 2
  else if ¬ q1z (fun x=>E x (q0x K x)) n=0 then q1z (fun x=>E x (q0x K x)) n else if 0<q0x K n then 18 else 0
abbrev q2i (W H:Int) (SA:Option Addr) (m sq:Nat) (IA:Option Addr) (n iq:Nat):AV:=.agg [.val (.int .i64 W),.val (.int .i64 H),.val (.slice SA m sq),.val (.slice IA n iq)]
theorem x0y {G:Mem} {a:Addr} {n:Nat} {vs:List Value} (ca:∀ K:List Value→Prop,K vs→OldCells G a n K) {j:Nat} {v:Value} (hj:vs[j]? = some v):G.cell? (a.add j)=some v:=by
  obtain ⟨us,hc,hk⟩:=ca (fun us=>us=vs) rfl
  subst hk
  exact hc.2 j v hj
theorem cut0 {c k:Nat} {A:Option Addr}:(if c=(0:Int).toNat then A else A.map fun x=>x.add ((0:Int).toNat * k))=A:=by
  split
  · rfl
  · cases A with
    | none=>rfl
    | some p=>simp [Addr.add]
section
variable {G:Mem} {A:Option Addr} {n c:Nat} {S:Nat→ByteArray} {s:ByteArray}
set_option maxHeartbeats 4000000 in
theorem z65 (hS:StrM G A n S) (hn:n≤5000):Gives Tryz.prog 51 [.val (.slice A n c),.val (.string s)] G (.val (.bool (strB S n s))):=by
  refine q0w tab_ok Tryz.func51 ?_
  (repeat ((try (conv=>whnf));(first |(refine stQ ?_) |(with_reducible refine q0f tab_ok Tryz.func74 (fun vs w=>by kernel_rfl) (by rfl) ?_))))
  conv=>whnf
  refine q02 tab_ok (fun i=>i≤n∧∀ k,k<i→q7n (S k) s=false) (fun (i:Nat)=>[(8,.val (.int .i64 i))]) (fun i=>[]) (fun i=>n-i) 0 ⟨Nat.zero_le _,fun k hk=>by omega⟩ ?_ ?_
  · ((refine q0h ?_);(conv=>whnf);(refine q0j (by rfl) (by rfl) flQ ?_))
    exact q0e
  · rintro i ⟨hi,hall⟩
    rcases Nat.lt_or_ge i n with h1 |h1
    · obtain ⟨p,rfl,ca⟩:=hS i h1
      have hsw:=x4j (S i) s
      cases hq:q7n (S i) s
      · have hq':(s.toList==(S i).toList)=false:=by rw [← hq,hsw];rfl
        (repeat ((try (conv=>whnf));(first |(refine ca _ ?_) |(refine stQ ?_))))
        refine ⟨i+1,⟨by omega,fun k hk=>?_⟩,by omega,?_⟩
        · rcases Nat.lt_or_ge k i with h2 |h2
          · exact hall k h2
          · obtain rfl:k=i:=by omega
            exact hq
        · ((refine q0h ?_);(conv=>whnf);(refine q0j (by rfl) (by rfl) flQ ?_))
          exact q0e
      · have hq':(s.toList==(S i).toList)=true:=by rw [← hq,hsw];rfl
        (repeat ((try (conv=>whnf));(first |(refine ca _ ?_) |(refine stQ ?_))))
        exact ⟨by rw [x0x h1 hq];first |rfl |(rw [decide_eq_true (by omega)]),rfl⟩
    · obtain rfl:i=n:=by omega
      (repeat ((try (conv=>whnf));(refine stQ ?_)))
      exact ⟨by rw [x24 hall];first |rfl |(rw [decide_eq_false (by omega)]),rfl⟩
end
section
variable {G:Mem} {W H:Int} {SA:Option Addr} {m sq:Nat} {IA:Option Addr} {n iq:Nat} {S:Nat→ByteArray} {I:Nat→ItemD} {E:Nat→Int→Int}
structure DepthOk (K:Nat→Int) (E:Nat→Int→Int) (n:Nat):Prop where
  up:∀ x o,x<n→E x o=0→K x=1→o<16
  dn:∀ x o,x<n→E x o=0→K x=2→¬ o=0
theorem StrM.le {A:Option Addr} {n k:Nat} (h:StrM G A n S) (hk:k≤n):StrM G A k S:=fun x hx=>h x (by omega)
set_option maxHeartbeats 16000000 in
theorem q7b (hS:StrM G SA m S) (hI:ItemsM G IA n I) (hsq:m≤sq) (hE:(1≤m∧m≤8)→∀ x,x<n→∀ o,0≤o→o≤16→Gives Tryz.prog 52 [q5i (I x),.val (.int .i64 m),.val (.int .i64 o)] G (.val (.int .i64 (E x o))))
    (hD:DepthOk (fun x=>(I x).K) E n) (hn:n≤9223372036854775807) (hm:m≤9223372036854775807) :
    Gives Tryz.prog 33 [q2i W H SA m sq IA n iq] G (.val (.int .i64 (q3e W H m S n (fun x=>(I x).K) E))):=by
  refine q0w tab_ok Tryz.func33 ?_
  by_cases w0:W<1∨256<W∨H<1∨256<H
  · unfold q3e;rw [if_pos w0]
    clear hE
    (repeat' ((try (conv=>whnf));(first |(refine stQ ?_) |(with_reducible refine q03 (fun h0=>?_) (fun h0=>?_)))))
    all_goals exact ⟨rfl,rfl⟩
  by_cases m0:m<1∨8<m
  · unfold q3e;rw [if_neg w0,if_pos m0]
    clear hE
    (repeat' ((try (conv=>whnf));(first |(refine stQ ?_) |(with_reducible refine q03 (fun h0=>?_) (fun h0=>?_)))))
    all_goals exact ⟨rfl,rfl⟩
  have hE:=hE (by omega)
  have hv:q3e W H m S n (fun x=>(I x).K) E=if ¬ q1z (q3y S) m=0 then q1z (q3y S) m else if 5000<n then 2 else if ¬ q1z (fun x=>E x (q0x (fun x=>(I x).K) x)) n=0 then q1z (fun x=>E x (q0x (fun x=>(I x).K) x)) n else if 0<q0x (fun x=>(I x).K) n then 18 else 0:=by
    unfold q3e;rw [if_neg w0,if_neg m0]
  generalize q3e W H m S n (fun x=>(I x).K) E=V at *
  (repeat ((try (conv=>whnf));(refine stQ ?_)))
  conv=>whnf
  refine q02 tab_ok (fun i=>i≤m∧q1z (q3y S) i=0) (fun (i:Nat)=>[(40,.val (.int .i64 i))]) (fun i=>[.cells 25 [.val (.int .i64 W),.val (.int .i64 H),.val (.slice SA m sq),.val (.slice IA n iq)]]) (fun i=>m-i) 0 ⟨Nat.zero_le _,rfl⟩ ?_ ?_
  · ((refine q0h ?_);(conv=>whnf);(refine q0j (by rfl) (by rfl) flQ ?_))
    exact q0c (by exact flQ) q0e
  · rintro i ⟨hi,h0⟩
    rcases Nat.lt_or_ge i m with h1 |h1
    · obtain ⟨p,rfl,ca⟩:=hS i h1
      have gn:=x0w (s:=S i) (G:=G)
      have gc:∀ A' n' c',A'=some p∧n'=i→Gives Tryz.prog 51 [.val (.slice A' n' c'),.val (.string (S i))] G (.val (.bool (strB S i (S i)))):=by
        rintro A' n' c' ⟨rfl,rfl⟩
        exact z65 (hS.le (by omega)) (by omega)
      have first:¬ q3y S i=0→V=q3y S i:=fun h=>by
        have:=q7m h0 h h1
        rw [hv,this,if_pos h]
      have next:=fun h=>q8n (e:=q3y S) (k:=i) h0 h
      unfold q3y at first
      clear hE
      cases hb:q6r (S i)
      · rw [hb] at gn first
        rw [first (by simp)]
        (repeat ((try (conv=>whnf));(first |(refine ca _ ?_) |(refine stQ ?_) |(with_reducible first |refine q0b (fun vs w=>by kernel_rfl) (by kernel_rfl) (gn) ?_ |refine q0a (fun vs w=>by kernel_rfl) (by kernel_rfl) (gn) ?_))))
        exact ⟨rfl,rfl⟩
      · rw [hb] at gn first
        cases hc:strB S i (S i)
        · rw [hc] at gc
          have nx:=next (by unfold q3y;rw [hb,hc];rfl)
          (repeat ((try (conv=>whnf));(first |(refine ca _ ?_) |(with_reducible refine q0b (fun vs w=>by kernel_rfl) (by kernel_rfl) (gc _ _ _ ⟨cut0,by simp⟩) ?_) |(refine stQ ?_) |(with_reducible first |refine q0b (fun vs w=>by kernel_rfl) (by kernel_rfl) (gn) ?_ |refine q0a (fun vs w=>by kernel_rfl) (by kernel_rfl) (gn) ?_))))
          refine ⟨i+1,⟨by omega,nx⟩,by omega,?_⟩
          ((refine q0h ?_);(conv=>whnf);(refine q0j (by rfl) (by rfl) flQ ?_))
          exact q0c (by exact flQ) q0e
        · rw [hc] at gc first
          rw [first (by simp)]
          (repeat ((try (conv=>whnf));(first |(refine ca _ ?_) |(with_reducible refine q0b (fun vs w=>by kernel_rfl) (by kernel_rfl) (gc _ _ _ ⟨cut0,by simp⟩) ?_) |(refine stQ ?_) |(with_reducible first |refine q0b (fun vs w=>by kernel_rfl) (by kernel_rfl) (gn) ?_ |refine q0a (fun vs w=>by kernel_rfl) (by kernel_rfl) (gn) ?_))))
          exact ⟨rfl,rfl⟩
    · obtain rfl:i=m:=by omega
      by_cases n0:5000<n
      · rw [show V=2 by rw [hv,if_neg (by simp [h0]),if_pos n0]]
        (repeat ((try (conv=>whnf));(refine stQ ?_)))
        exact ⟨rfl,rfl⟩
      rw [if_neg (by simp [h0]),if_neg n0] at hv
      (repeat ((try (conv=>whnf));(refine stQ ?_)))
      conv=>whnf
      refine q02 tab_ok (fun k=>k≤n∧q1z (fun x=>E x (q0x (fun x=>(I x).K) x)) k=0∧0≤q0x (fun x=>(I x).K) k∧q0x (fun x=>(I x).K) k≤16) (fun (k:Nat)=>[(62,.val (.int .i64 k)),(5,.val (.int .i64 (q0x (fun x=>(I x).K) k)))]) (fun k=>[.cells 25 [.val (.int .i64 W),.val (.int .i64 H),.val (.slice SA i sq),.val (.slice IA n iq)]]) (fun k=>n-k) 0 ⟨Nat.zero_le _,rfl,by simp [q0x],by simp [q0x]⟩ ?_ ?_
      · ((refine q0h ?_);(conv=>whnf);(refine q0j (by rfl) (by rfl) flQ ?_))
        exact q0c (by exact flQ) q0e
      · rintro k ⟨hk,hs,hd1,hd2⟩
        rcases Nat.lt_or_ge k n with h2 |h2
        · obtain ⟨p,rfl,ca⟩:=hI k h2
          have gi:=hE k h2 (q0x (fun x=>(I x).K) k) hd1 hd2
          have first:¬ E k (q0x (fun x=>(I x).K) k)=0→V=E k (q0x (fun x=>(I x).K) k):=fun h=>by
            have:=q7m (e:=fun x=>E x (q0x (fun x=>(I x).K) x)) hs h h2
            rw [hv,this,if_pos h]
          have next:=fun h=>q8n (e:=fun x=>E x (q0x (fun x=>(I x).K) x)) (k:=k) hs h
          have up:=hD.up k (q0x (fun x=>(I x).K) k) h2
          have dn:=hD.dn k (q0x (fun x=>(I x).K) k) h2
          have hdd:q0x (fun x=>(I x).K) (k+1)=q0x (fun x=>(I x).K) k+(if (I k).K=1 then 1 else if (I k).K=2 then -1 else 0):=rfl
          generalize hgo:q0x (fun x=>(I x).K) (k+1)=o' at *
          generalize q0x (fun x=>(I x).K) k=o at *
          (try dsimp only at next);(try dsimp only at up);(try dsimp only at dn)
          generalize E k o=e at *
          clear hE hD hI hS
          by_cases e0:e=0
          · subst e0
            by_cases K1:(I k).K=1
            · rw [if_pos K1] at hdd
              have:=up rfl K1
              (repeat ((try (conv=>whnf));(first |(refine ca _ ?_) |(refine stQ ?_) |(with_reducible first |refine q0b (fun vs w=>by kernel_rfl) (by kernel_rfl) (gi) ?_ |refine q0a (fun vs w=>by kernel_rfl) (by kernel_rfl) (gi) ?_))))
              refine ⟨k+1,⟨by omega,next rfl,by rw [hgo];omega,by rw [hgo];omega⟩,by omega,?_⟩
              rw [hgo]
              ((refine q0h ?_);(conv=>whnf);(refine q0j (by rfl) (by rfl) flQ ?_))
              exact q0c (by exact flQ) q0e
            by_cases K2:(I k).K=2
            · rw [if_neg K1,if_pos K2] at hdd
              have:=dn rfl K2
              (repeat ((try (conv=>whnf));(first |(refine ca _ ?_) |(refine stQ ?_) |(with_reducible first |refine q0b (fun vs w=>by kernel_rfl) (by kernel_rfl) (gi) ?_ |refine q0a (fun vs w=>by kernel_rfl) (by kernel_rfl) (gi) ?_))))
              refine ⟨k+1,⟨by omega,next rfl,by rw [hgo];omega,by rw [hgo];omega⟩,by omega,?_⟩
              rw [hgo]
              ((refine q0h ?_);(conv=>whnf);(refine q0j (by rfl) (by rfl) flQ ?_))
              exact q0c (by exact flQ) q0e
            · rw [if_neg K1,if_neg K2] at hdd
              (repeat ((try (conv=>whnf));(first |(refine ca _ ?_) |(refine stQ ?_) |(with_reducible first |refine q0b (fun vs w=>by kernel_rfl) (by kernel_rfl) (gi) ?_ |refine q0a (fun vs w=>by kernel_rfl) (by kernel_rfl) (gi) ?_))))
              refine ⟨k+1,⟨by omega,next rfl,by rw [hgo];omega,by rw [hgo];omega⟩,by omega,?_⟩
              rw [hgo]
              ((refine q0h ?_);(conv=>whnf);(refine q0j (by rfl) (by rfl) flQ ?_))
              exact q0c (by exact flQ) q0e
          · rw [first e0]
            (repeat ((try (conv=>whnf));(first |(refine ca _ ?_) |(refine stQ ?_) |(with_reducible first |refine q0b (fun vs w=>by kernel_rfl) (by kernel_rfl) (gi) ?_ |refine q0a (fun vs w=>by kernel_rfl) (by kernel_rfl) (gi) ?_))))
            exact ⟨rfl,rfl⟩
        · obtain rfl:k=n:=by omega
          rw [if_neg (by simp [hs])] at hv
          clear hE hD hI hS
          generalize q0x (fun x=>(I x).K) k=o at *
          by_cases o0:0<o
          · rw [if_pos o0] at hv
            rw [hv]
            (repeat ((try (conv=>whnf));(refine stQ ?_)))
            exact ⟨rfl,rfl⟩
          · rw [if_neg o0] at hv
            rw [hv]
            (repeat ((try (conv=>whnf));(refine stQ ?_)))
            exact ⟨rfl,rfl⟩
set_option maxHeartbeats 16000000 in
theorem z11 (hS:StrM G SA m S) (hI:ItemsM G IA n I) (hsq:m≤sq) (hE:(1≤m∧m≤8)→∀ x,x<n→∀ o,0≤o→o≤16→Gives Tryz.prog 37 [q5i (I x),.val (.int .i64 m),.val (.int .i64 o)] G (.val (.int .i64 (E x o))))
    (hD:DepthOk (fun x=>(I x).K) E n) (hn:n≤9223372036854775807) (hm:m≤9223372036854775807) :
    Gives Tryz.prog 11 [q2i W H SA m sq IA n iq] G (.val (.int .i64 (q3e W H m S n (fun x=>(I x).K) E))):=by
  refine q0w tab_ok Tryz.func11 ?_
  by_cases w0:W<1∨256<W∨H<1∨256<H
  · unfold q3e;rw [if_pos w0]
    clear hE
    (repeat' ((try (conv=>whnf));(first |(refine stQ ?_) |(with_reducible first |refine q0f tab_ok Tryz.func12 (fun vs w=>by kernel_rfl) (by rfl) ?_ |refine q03 (fun h0=>?_) (fun h0=>?_)))))
    all_goals exact ⟨rfl,rfl⟩
  by_cases m0:m<1∨8<m
  · unfold q3e;rw [if_neg w0,if_pos m0]
    clear hE
    (repeat' ((try (conv=>whnf));(first |(refine stQ ?_) |(with_reducible first |refine q0f tab_ok Tryz.func12 (fun vs w=>by kernel_rfl) (by rfl) ?_ |refine q03 (fun h0=>?_) (fun h0=>?_)))))
    all_goals exact ⟨rfl,rfl⟩
  have hE:=hE (by omega)
  have hv:q3e W H m S n (fun x=>(I x).K) E=if ¬ q1z (q3y S) m=0 then q1z (q3y S) m else if 5000<n then 2 else if ¬ q1z (fun x=>E x (q0x (fun x=>(I x).K) x)) n=0 then q1z (fun x=>E x (q0x (fun x=>(I x).K) x)) n else if 0<q0x (fun x=>(I x).K) n then 18 else 0:=by
    unfold q3e;rw [if_neg w0,if_neg m0]
  generalize q3e W H m S n (fun x=>(I x).K) E=V at *
  (repeat ((try (conv=>whnf));(first |(refine stQ ?_) |(with_reducible refine q0f tab_ok Tryz.func12 (fun vs w=>by kernel_rfl) (by rfl) ?_))))
  conv=>whnf
  refine q02 tab_ok (fun i=>i≤m∧q1z (q3y S) i=0) (fun (i:Nat)=>[(26,.val (.int .i64 i))]) (fun i=>[.cells 25 [.val (.int .i64 W),.val (.int .i64 H),.val (.slice SA m sq),.val (.slice IA n iq)]]) (fun i=>m-i) 0 ⟨Nat.zero_le _,rfl⟩ ?_ ?_
  · ((refine q0h ?_);(conv=>whnf);(refine q0j (by rfl) (by rfl) flQ ?_))
    exact q0c (by exact flQ) q0e
  · rintro i ⟨hi,h0⟩
    rcases Nat.lt_or_ge i m with h1 |h1
    · obtain ⟨p,rfl,ca⟩:=hS i h1
      have gn:=x4h (s:=S i) (G:=G)
      have first:¬ q3y S i=0→V=q3y S i:=fun h=>by
        have:=q7m h0 h h1
        rw [hv,this,if_pos h]
      have next:=fun h=>q8n (e:=q3y S) (k:=i) h0 h
      unfold q3y at first
      clear hE
      cases hb:q6r (S i)
      · rw [hb] at gn first
        rw [first (by simp)]
        (repeat ((try (conv=>whnf));(first |(refine ca _ ?_) |(refine stQ ?_) |(with_reducible first |refine q0b (fun vs w=>by kernel_rfl) (by kernel_rfl) (gn) ?_ |refine q0a (fun vs w=>by kernel_rfl) (by kernel_rfl) (gn) ?_))))
        exact ⟨rfl,rfl⟩
      · rw [hb] at gn first
        (repeat ((try (conv=>whnf));(first |(refine ca _ ?_) |(refine stQ ?_) |(with_reducible first |refine q0b (fun vs w=>by kernel_rfl) (by kernel_rfl) (gn) ?_ |refine q0a (fun vs w=>by kernel_rfl) (by kernel_rfl) (gn) ?_))))
        conv=>whnf
        refine q02 tab_ok (fun k=>k≤i∧∀ j,j<k→q7n (S j) (S i)=false) (fun (k:Nat)=>[(4,.val (.int .i64 k))]) (fun k=>[.cells 25 [.val (.int .i64 W),.val (.int .i64 H),.val (.slice (some p) m sq),.val (.slice IA n iq)]]) (fun k=>i-k) 0 ⟨Nat.zero_le _,fun j hj=>by omega⟩ ?_ ?_
        · ((refine q0h ?_);(conv=>whnf);(refine q0j (by rfl) (by rfl) flQ ?_))
          exact q0c (by exact flQ) q0e
        · rintro k ⟨hk,hall⟩
          rcases Nat.lt_or_ge k i with h2 |h2
          · obtain ⟨p',he,cb⟩:=hS k (by omega)
            cases he
            cases hq:q7n (S k) (S i)
            · have hq':((S k).toList==(S i).toList)=false:=by rw [← hq];rfl
              (repeat ((try (conv=>whnf));(first |(refine ca _ ?_) |(refine cb _ ?_) |(refine stQ ?_))))
              refine ⟨k+1,⟨by omega,fun j hj=>?_⟩,by omega,?_⟩
              · rcases Nat.lt_or_ge j k with h3 |h3
                · exact hall j h3
                · obtain rfl:j=k:=by omega
                  exact hq
              · ((refine q0h ?_);(conv=>whnf);(refine q0j (by rfl) (by rfl) flQ ?_))
                exact q0c (by exact flQ) q0e
            · have hq':((S k).toList==(S i).toList)=true:=by rw [← hq];rfl
              rw [x0x h2 hq] at first
              rw [first (by simp)]
              (repeat ((try (conv=>whnf));(first |(refine ca _ ?_) |(refine cb _ ?_) |(refine stQ ?_))))
              exact ⟨rfl,rfl⟩
          · obtain rfl:k=i:=by omega
            have nx:=next (by unfold q3y;rw [hb,x24 hall];rfl)
            (repeat ((try (conv=>whnf));(refine stQ ?_)))
            refine ⟨k+1,⟨by omega,nx⟩,by omega,?_⟩
            ((refine q0h ?_);(conv=>whnf);(refine q0j (by rfl) (by rfl) flQ ?_))
            exact q0c (by exact flQ) q0e
    · obtain rfl:i=m:=by omega
      by_cases n0:5000<n
      · rw [show V=2 by rw [hv,if_neg (by simp [h0]),if_pos n0]]
        (repeat ((try (conv=>whnf));(refine stQ ?_)))
        exact ⟨rfl,rfl⟩
      rw [if_neg (by simp [h0]),if_neg n0] at hv
      (repeat ((try (conv=>whnf));(refine stQ ?_)))
      conv=>whnf
      refine q02 tab_ok (fun k=>k≤n∧q1z (fun x=>E x (q0x (fun x=>(I x).K) x)) k=0∧0≤q0x (fun x=>(I x).K) k∧q0x (fun x=>(I x).K) k≤16) (fun (k:Nat)=>[(60,.val (.int .i64 k)),(5,.val (.int .i64 (q0x (fun x=>(I x).K) k)))]) (fun k=>[.cells 25 [.val (.int .i64 W),.val (.int .i64 H),.val (.slice SA i sq),.val (.slice IA n iq)]]) (fun k=>n-k) 0 ⟨Nat.zero_le _,rfl,by simp [q0x],by simp [q0x]⟩ ?_ ?_
      · ((refine q0h ?_);(conv=>whnf);(refine q0j (by rfl) (by rfl) flQ ?_))
        exact q0c (by exact flQ) q0e
      · rintro k ⟨hk,hs,hd1,hd2⟩
        rcases Nat.lt_or_ge k n with h2 |h2
        · obtain ⟨p,rfl,ca⟩:=hI k h2
          have c0:G.cell? (Addr.add (p.add (k*34)) 0)=some (.int .i64 (I k).K):=x0y ca rfl
          have gi:=hE k h2 (q0x (fun x=>(I x).K) k) hd1 hd2
          have first:¬ E k (q0x (fun x=>(I x).K) k)=0→V=E k (q0x (fun x=>(I x).K) k):=fun h=>by
            have:=q7m (e:=fun x=>E x (q0x (fun x=>(I x).K) x)) hs h h2
            rw [hv,this,if_pos h]
          have next:=fun h=>q8n (e:=fun x=>E x (q0x (fun x=>(I x).K) x)) (k:=k) hs h
          have up:=hD.up k (q0x (fun x=>(I x).K) k) h2
          have dn:=hD.dn k (q0x (fun x=>(I x).K) k) h2
          have hdd:q0x (fun x=>(I x).K) (k+1)=q0x (fun x=>(I x).K) k+(if (I k).K=1 then 1 else if (I k).K=2 then -1 else 0):=rfl
          generalize hgo:q0x (fun x=>(I x).K) (k+1)=o' at *
          generalize q0x (fun x=>(I x).K) k=o at *
          (try dsimp only at next);(try dsimp only at up);(try dsimp only at dn)
          generalize E k o=e at *
          clear hE hD hI hS
          by_cases e0:e=0
          · subst e0
            by_cases K1:(I k).K=1
            · rw [if_pos K1] at hdd
              have:=up rfl K1
              (repeat ((try (conv=>whnf));(first |(refine ca _ ?_) |(refine q0d _ c0 ?_) |(refine stQ ?_) |(with_reducible first |refine q0b (fun vs w=>by kernel_rfl) (by kernel_rfl) (gi) ?_ |refine q0a (fun vs w=>by kernel_rfl) (by kernel_rfl) (gi) ?_))))
              refine ⟨k+1,⟨by omega,next rfl,by rw [hgo];omega,by rw [hgo];omega⟩,by omega,?_⟩
              rw [hgo]
              ((refine q0h ?_);(conv=>whnf);(refine q0j (by rfl) (by rfl) flQ ?_))
              exact q0c (by exact flQ) q0e
            by_cases K2:(I k).K=2
            · rw [if_neg K1,if_pos K2] at hdd
              have:=dn rfl K2
              (repeat ((try (conv=>whnf));(first |(refine ca _ ?_) |(refine q0d _ c0 ?_) |(refine stQ ?_) |(with_reducible first |refine q0b (fun vs w=>by kernel_rfl) (by kernel_rfl) (gi) ?_ |refine q0a (fun vs w=>by kernel_rfl) (by kernel_rfl) (gi) ?_))))
              refine ⟨k+1,⟨by omega,next rfl,by rw [hgo];omega,by rw [hgo];omega⟩,by omega,?_⟩
              rw [hgo]
              ((refine q0h ?_);(conv=>whnf);(refine q0j (by rfl) (by rfl) flQ ?_))
              exact q0c (by exact flQ) q0e
            · rw [if_neg K1,if_neg K2] at hdd
              (repeat ((try (conv=>whnf));(first |(refine ca _ ?_) |(refine q0d _ c0 ?_) |(refine stQ ?_) |(with_reducible first |refine q0b (fun vs w=>by kernel_rfl) (by kernel_rfl) (gi) ?_ |refine q0a (fun vs w=>by kernel_rfl) (by kernel_rfl) (gi) ?_))))
              refine ⟨k+1,⟨by omega,next rfl,by rw [hgo];omega,by rw [hgo];omega⟩,by omega,?_⟩
              rw [hgo]
              ((refine q0h ?_);(conv=>whnf);(refine q0j (by rfl) (by rfl) flQ ?_))
              exact q0c (by exact flQ) q0e
          · rw [first e0]
            (repeat ((try (conv=>whnf));(first |(refine ca _ ?_) |(refine q0d _ c0 ?_) |(refine stQ ?_) |(with_reducible first |refine q0b (fun vs w=>by kernel_rfl) (by kernel_rfl) (gi) ?_ |refine q0a (fun vs w=>by kernel_rfl) (by kernel_rfl) (gi) ?_))))
            exact ⟨rfl,rfl⟩
        · obtain rfl:k=n:=by omega
          rw [if_neg (by simp [hs])] at hv
          clear hE hD hI hS
          generalize q0x (fun x=>(I x).K) k=o at *
          by_cases o0:0<o
          · rw [if_pos o0] at hv
            rw [hv]
            (repeat ((try (conv=>whnf));(refine stQ ?_)))
            exact ⟨rfl,rfl⟩
          · rw [if_neg o0] at hv
            rw [hv]
            (repeat ((try (conv=>whnf));(refine stQ ?_)))
            exact ⟨rfl,rfl⟩
end
end Go.Proofs.YticolnghiibgfaaGreat
