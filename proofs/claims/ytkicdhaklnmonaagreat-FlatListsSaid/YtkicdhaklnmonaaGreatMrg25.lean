/-
  Merged: XListK, XListN, XListI, XListL.
-/
import Derived.Test.YtkicdhaklnmonaaGreatMrg23
import Derived.Test.YtkicdhaklnmonaaGreatEng2
import Derived.Test.YtkicdhaklnmonaaGreatMrg13
set_option linter.unusedVariables false
set_option linter.unusedSimpArgs false
set_option linter.unnecessarySimpa false
namespace Go.Proofs.YtkicdhaklnmonaaGreat
open Go.RowKit
set_option maxRecDepth 20000
def fewB (I:Nat→Int) (m:Nat):Bool:=(List.range 8).all fun j=>decide (j<m∨I j=0)
theorem x9t {I:Nat→Int} {m:Nat} (h:∀ j,j<8→m≤j→I j=0):fewB I m=true:=by
  unfold fewB
  rw [List.all_eq_true]
  intro j hj
  have h8:=List.mem_range.1 hj
  rcases Nat.lt_or_ge j m with h1 |h1
  · exact decide_eq_true (.inl h1)
  · exact decide_eq_true (.inr (h j h8 h1))
theorem z87 {I:Nat→Int} {m:Nat} (h0:0<m∨I 0=0) (h1:1<m∨I 1=0) (h2:2<m∨I 2=0) (h3:3<m∨I 3=0) (h4:4<m∨I 4=0) (h5:5<m∨I 5=0) (h6:6<m∨I 6=0) (h7:7<m∨I 7=0):fewB I m=true:=by
  refine x9t fun j hj hm=>?_
  obtain rfl |rfl |rfl |rfl |rfl |rfl |rfl |rfl:j=0∨j=1∨j=2∨j=3∨j=4∨j=5∨j=6∨j=7:=by omega
  all_goals omega
theorem q20 {I:Nat→Int} {m:Nat} (j:Nat) (h:j<8) (h1:m≤j) (h2:¬ I j=0):fewB I m=false:=by
  unfold fewB
  rw [List.all_eq_false]
  exact ⟨j,List.mem_range.2 h,by rw [decide_eq_true_eq];omega⟩
def srcM (k:Int) (z p i fw sg pg:Bool) (gE iE:Int):Int :=
  if k=0 then (if z=true∧p=true∧fw=true then 0 else 4) else if k=1∨k=2 then (if gE=0 then (if sg=true then 0 else 4) else gE) else if k=3 then (if z=true∧i=true then (if iE=0 then (if pg=true then 0 else 4) else iE) else 4) else 14
section
variable {k:Int} {I:Nat→Int} {fx fy tx ty r:Int} {A:Option Addr} {n q:Nat} {W H:Int} {B:Option Addr} {pn pq:Nat} {C:Option Addr} {sn sq:Nat} {a b c d e f:Int} {s t:Bool} {G:Mem} {gE iE:Int} {T:Nat→Int} {D D':Nat→Nat→Int} {m:Nat}
set_option maxHeartbeats 4000000 in
theorem z6i (hm:1≤m∧m≤8):Gives Tryz.prog 96 [.agg [.val (.int .u8 (I 0)),.val (.int .u8 (I 1)),.val (.int .u8 (I 2)),.val (.int .u8 (I 3)),.val (.int .u8 (I 4)),.val (.int .u8 (I 5)),.val (.int .u8 (I 6)),.val (.int .u8 (I 7))],.val (.int .i64 m)] G (.val (.bool (fewB I m))):=by
  refine q01 tab_ok Tryz.func96 ?_
  obtain rfl |rfl |rfl |rfl |rfl |rfl |rfl |rfl:m=1∨m=2∨m=3∨m=4∨m=5∨m=6∨m=7∨m=8:=by omega
  all_goals
    (repeat' ((try (conv=>whnf));(first |(with_reducible refine z5s tab_ok ?_) |(refine stQ ?_) |(with_reducible refine q1g (fun h0=>?_) (fun h0=>?_)))))
    all_goals first
      | exact ⟨by rw [z87 (by omega) (by omega) (by omega) (by omega) (by omega) (by omega) (by omega) (by omega)];try rfl,rfl⟩
      | exact ⟨by rw [q20 0 (by omega) (by omega) (by assumption)];try rfl,rfl⟩
      | exact ⟨by rw [q20 1 (by omega) (by omega) (by assumption)];try rfl,rfl⟩
      | exact ⟨by rw [q20 2 (by omega) (by omega) (by assumption)];try rfl,rfl⟩
      | exact ⟨by rw [q20 3 (by omega) (by omega) (by assumption)];try rfl,rfl⟩
      | exact ⟨by rw [q20 4 (by omega) (by omega) (by assumption)];try rfl,rfl⟩
      | exact ⟨by rw [q20 5 (by omega) (by omega) (by assumption)];try rfl,rfl⟩
      | exact ⟨by rw [q20 6 (by omega) (by omega) (by assumption)];try rfl,rfl⟩
      | exact ⟨by rw [q20 7 (by omega) (by omega) (by assumption)];try rfl,rfl⟩
set_option maxHeartbeats 4000000 in
theorem x2n (hm:1≤m∧m≤8) (hI:∀ j,j<8→0≤I j):Gives Tryz.prog 78 [.agg [.val (.int .u8 (I 0)),.val (.int .u8 (I 1)),.val (.int .u8 (I 2)),.val (.int .u8 (I 3)),.val (.int .u8 (I 4)),.val (.int .u8 (I 5)),.val (.int .u8 (I 6)),.val (.int .u8 (I 7))],.val (.int .i64 m)] G (.val (.bool (!fewB I m))):=by
  have p0:=hI 0 (by omega)
  have p1:=hI 1 (by omega)
  have p2:=hI 2 (by omega)
  have p3:=hI 3 (by omega)
  have p4:=hI 4 (by omega)
  have p5:=hI 5 (by omega)
  have p6:=hI 6 (by omega)
  have p7:=hI 7 (by omega)
  refine q01 tab_ok Tryz.func78 ?_
  obtain rfl |rfl |rfl |rfl |rfl |rfl |rfl |rfl:m=1∨m=2∨m=3∨m=4∨m=5∨m=6∨m=7∨m=8:=by omega
  all_goals
    (repeat' ((try (conv=>whnf));(first |(with_reducible refine z5s tab_ok ?_) |(refine stQ ?_) |(with_reducible refine q1g (fun h0=>?_) (fun h0=>?_)))))
    all_goals first
      | exact ⟨by rw [z87 (by omega) (by omega) (by omega) (by omega) (by omega) (by omega) (by omega) (by omega)];try rfl,rfl⟩
      | exact ⟨by rw [q20 0 (by omega) (by omega) (by omega)];try rfl,rfl⟩
      | exact ⟨by rw [q20 1 (by omega) (by omega) (by omega)];try rfl,rfl⟩
      | exact ⟨by rw [q20 2 (by omega) (by omega) (by omega)];try rfl,rfl⟩
      | exact ⟨by rw [q20 3 (by omega) (by omega) (by omega)];try rfl,rfl⟩
      | exact ⟨by rw [q20 4 (by omega) (by omega) (by omega)];try rfl,rfl⟩
      | exact ⟨by rw [q20 5 (by omega) (by omega) (by omega)];try rfl,rfl⟩
      | exact ⟨by rw [q20 6 (by omega) (by omega) (by omega)];try rfl,rfl⟩
      | exact ⟨by rw [q20 7 (by omega) (by omega) (by omega)];try rfl,rfl⟩
end
end Go.Proofs.YtkicdhaklnmonaaGreat
namespace Go.Proofs.YtkicdhaklnmonaaGreat
open Go.RowKit
set_option maxRecDepth 20000
def chB (s:ByteArray) (i:Nat):UInt8:=(s[i]?).getD 0
theorem z7h {s:ByteArray} {i:Nat} (h:i<s.size):s[i]? = some (chB s i):=by
  unfold chB
  rw [getElem?_pos s i h];rfl
def chI (s:ByteArray) (i:Nat):Int:=(chB s i).toNat
theorem x1m (s:ByteArray) (i:Nat):0≤chI s i∧chI s i≤255:=by
  unfold chI
  have:=(chB s i).toNat_lt
  omega
def chOk (s:ByteArray) (i:Nat):Bool:=decide ((97≤chI s i∧chI s i≤122)∨(0<i∧(chI s i=45∨(48≤chI s i∧chI s i≤57))))
def q7e (s:ByteArray):Bool:=decide (1≤s.size∧s.size≤16)&&(List.range s.size).all (chOk s)
theorem z42 {s:ByteArray} {i:Nat} (h:i<s.size) (k:chOk s i=false):q7e s=false:=by
  unfold q7e
  rw [show (List.range s.size).all (chOk s)=false from ?_,Bool.and_false]
  rw [List.all_eq_false]
  exact ⟨i,List.mem_range.2 h,by simp [k]⟩
theorem z88 {s:ByteArray} (h:1≤s.size∧s.size≤16) (k:∀ i,i<s.size→chOk s i=true):q7e s=true:=by
  unfold q7e
  rw [decide_eq_true h,List.all_eq_true.2 fun i hi=>k i (List.mem_range.1 hi)];rfl
theorem z6j {s:ByteArray} (h:¬ (1≤s.size∧s.size≤16)):q7e s=false:=by
  unfold q7e
  rw [decide_eq_false h];rfl
theorem z7i {s:ByteArray} {i:Nat} (h:¬ ((97≤chI s i∧chI s i≤122)∨(0<i∧(chI s i=45∨(48≤chI s i∧chI s i≤57))))):chOk s i=false:=decide_eq_false h
theorem z43 {s:ByteArray} {i:Nat} (h:(97≤chI s i∧chI s i≤122)∨(0<i∧(chI s i=45∨(48≤chI s i∧chI s i≤57)))):chOk s i=true:=decide_eq_true h
section
variable {s:ByteArray} {G:Mem}
set_option maxHeartbeats 2000000 in
theorem x1n:Gives Tryz.prog 52 [.val (.string s)] G (.val (.bool (q7e s))):=by
  refine q01 tab_ok Tryz.func52 ?_
  by_cases hs:1≤s.size∧s.size≤16
  · obtain ⟨s1,s2⟩:=hs
    (repeat ((try (conv=>whnf));(refine stQ ?_)))
    conv=>whnf
    refine q0w tab_ok (fun i=>i≤s.size∧∀ j,j<i→chOk s j=true) (fun (i:Nat)=>[(16,.val (.int .i64 i))]) (fun i=>[]) (fun i=>s.size-i) 0 ⟨Nat.zero_le _,fun j hj=>by omega⟩ ?_ ?_
    · ((refine q0g ?_);(conv=>whnf);(refine q0k (by rfl) (by rfl) flQ ?_))
      exact q0f
    · rintro i ⟨hi,hall⟩
      rcases Nat.lt_or_ge i s.size with h1 |h1
      · have hb:=x1m s i
        have hg:=z7h h1
        have no:=fun h=>z42 h1 (z7i h)
        have yes:((97≤chI s i∧chI s i≤122)∨(0<i∧(chI s i=45∨(48≤chI s i∧chI s i≤57))))→∀ j,j<i+1→chOk s j=true:=fun h j hj=>by
          rcases Nat.lt_or_ge j i with h2 |h2
          · exact hall j h2
          · obtain rfl:j=i:=by omega
            exact z43 h
        simp only [chI] at hb no yes
        (repeat' ((try (conv=>whnf));(first |(refine ⟨chB s i,hg,?_⟩) |(refine stQ ?_) |(with_reducible refine q1g (fun h0=>?_) (fun h0=>?_)))))
        all_goals first
          | (refine ⟨i+1,⟨by omega,yes (by omega)⟩,by omega,?_⟩
             ((refine q0g ?_);(conv=>whnf);(refine q0k (by rfl) (by rfl) flQ ?_))
             exact q0f)
          | exact ⟨by rw [no (by omega)],rfl⟩
      · obtain rfl:i=s.size:=by omega
        (repeat ((try (conv=>whnf));(refine stQ ?_)))
        exact ⟨by rw [z88 ⟨s1,s2⟩ hall],rfl⟩
  · rw [z6j hs]
    by_cases s1:s.size<1
    · (repeat ((try (conv=>whnf));(refine stQ ?_)))
      exact ⟨rfl,rfl⟩
    · (repeat ((try (conv=>whnf));(refine stQ ?_)))
      exact ⟨rfl,rfl⟩
set_option maxHeartbeats 2000000 in
theorem x45:Gives Tryz.prog 42 [.val (.string s)] G (.val (.bool (q7e s))):=by
  refine q01 tab_ok Tryz.func42 ?_
  by_cases hs:1≤s.size∧s.size≤16
  · obtain ⟨s1,s2⟩:=hs
    have hb0:=x1m s 0
    have hg0:s[(0:Int).toNat]? = some (chB s 0):=z7h (by omega)
    by_cases c0:97≤chI s 0∧chI s 0≤122
    · have y0:=z43 (s:=s) (i:=0) (.inl c0)
      obtain ⟨c1,c2⟩:=c0
      simp only [chI] at hb0 c1 c2
      (repeat ((try (conv=>whnf));(first |(refine ⟨chB s 0,hg0,?_⟩) |(refine stQ ?_))))
      conv=>whnf
      refine q0w tab_ok (fun i=>1≤i∧i≤s.size∧∀ j,j<i→chOk s j=true) (fun (i:Nat)=>[(3,.val (.int .i64 i))]) (fun i=>[]) (fun i=>s.size-i) 1 ⟨Nat.le_refl _,s1,fun j hj=>(show j=0 by omega) ▸ y0⟩ ?_ ?_
      · ((refine q0g ?_);(conv=>whnf);(refine q0k (by rfl) (by rfl) flQ ?_))
        exact q0f
      · rintro i ⟨hi1,hi,hall⟩
        rcases Nat.lt_or_ge i s.size with h1 |h1
        · have hb:=x1m s i
          have hg:=z7h h1
          have no:=fun h=>z42 h1 (z7i h)
          have yes:((97≤chI s i∧chI s i≤122)∨(0<i∧(chI s i=45∨(48≤chI s i∧chI s i≤57))))→∀ j,j<i+1→chOk s j=true:=fun h j hj=>by
            rcases Nat.lt_or_ge j i with h2 |h2
            · exact hall j h2
            · obtain rfl:j=i:=by omega
              exact z43 h
          simp only [chI] at hb no yes
          (repeat' ((try (conv=>whnf));(first |(refine ⟨chB s i,hg,?_⟩) |(refine stQ ?_) |(with_reducible refine q1g (fun h0=>?_) (fun h0=>?_)))))
          all_goals first
            | (refine ⟨i+1,⟨by omega,by omega,yes (by omega)⟩,by omega,?_⟩
               ((refine q0g ?_);(conv=>whnf);(refine q0k (by rfl) (by rfl) flQ ?_))
               exact q0f)
            | exact ⟨by rw [no (by omega)],rfl⟩
        · obtain rfl:i=s.size:=by omega
          (repeat ((try (conv=>whnf));(refine stQ ?_)))
          exact ⟨by rw [z88 ⟨s1,s2⟩ hall],rfl⟩
    · have n0:=z42 (s:=s) (i:=0) (by omega) (z7i (by omega))
      rw [n0]
      simp only [chI] at hb0 c0
      (repeat' ((try (conv=>whnf));(first |(refine ⟨chB s 0,hg0,?_⟩) |(refine stQ ?_) |(with_reducible refine q1g (fun h0=>?_) (fun h0=>?_)))))
      all_goals exact ⟨rfl,rfl⟩
  · rw [z6j hs]
    by_cases s1:s.size<1
    · (repeat ((try (conv=>whnf));(refine stQ ?_)))
      exact ⟨rfl,rfl⟩
    · (repeat ((try (conv=>whnf));(refine stQ ?_)))
      exact ⟨rfl,rfl⟩
end
end Go.Proofs.YtkicdhaklnmonaaGreat
namespace Go.Proofs.YtkicdhaklnmonaaGreat
open Go.RowKit
set_option maxRecDepth 20000
structure ItemD where
  K:Int
  RA:Option Addr
  rn:Nat
  rq:Nat
  k:Int
  I:Nat→Int
  fx:Int
  fy:Int
  tx:Int
  ty:Int
  r:Int
  A:Option Addr
  n:Nat
  q:Nat
  W:Int
  H:Int
  B:Option Addr
  pn:Nat
  pq:Nat
  C:Option Addr
  sn:Nat
  sq:Nat
  a:Int
  b:Int
  c:Int
  d:Int
  e:Int
  f:Int
  s:Bool
  t:Bool
  al:Int
  bl:Int
  ov:Bool
  iso:Bool
  kn:Bool
abbrev q61 (i:ItemD):AV:=srcA i.k i.I i.fx i.fy i.tx i.ty i.r (.slice i.A i.n i.q) i.W i.H (.slice i.B i.pn i.pq) (.slice i.C i.sn i.sq) i.a i.b i.c i.d i.e i.f i.s i.t
abbrev q7f (i:ItemD):AV:=.agg [.val (.int .i64 i.K),.val (.slice i.RA i.rn i.rq),.val (.int .i64 i.k),.val (.int .u8 (i.I 0)),.val (.int .u8 (i.I 1)),.val (.int .u8 (i.I 2)),.val (.int .u8 (i.I 3)),.val (.int .u8 (i.I 4)),.val (.int .u8 (i.I 5)),.val (.int .u8 (i.I 6)),.val (.int .u8 (i.I 7)),.val (.int .i64 i.fx),.val (.int .i64 i.fy),.val (.int .i64 i.tx),.val (.int .i64 i.ty),.val (.int .i64 i.r),.val (.slice i.A i.n i.q),.val (.int .i64 i.W),.val (.int .i64 i.H),.val (.slice i.B i.pn i.pq),.val (.slice i.C i.sn i.sq),.val (.int .i64 i.a),.val (.int .i64 i.b),.val (.int .i64 i.c),.val (.int .i64 i.d),.val (.int .i64 i.e),.val (.int .i64 i.f),.val (.bool i.s),.val (.bool i.t),.val (.int .u8 i.al),.val (.int .i64 i.bl),.val (.bool i.ov),.val (.bool i.iso),.val (.bool i.kn)]
abbrev ItemD.cells (i:ItemD):List Value:=[.int .i64 i.K,.slice i.RA i.rn i.rq,.int .i64 i.k,.int .u8 (i.I 0),.int .u8 (i.I 1),.int .u8 (i.I 2),.int .u8 (i.I 3),.int .u8 (i.I 4),.int .u8 (i.I 5),.int .u8 (i.I 6),.int .u8 (i.I 7),.int .i64 i.fx,.int .i64 i.fy,.int .i64 i.tx,.int .i64 i.ty,.int .i64 i.r,.slice i.A i.n i.q,.int .i64 i.W,.int .i64 i.H,.slice i.B i.pn i.pq,.slice i.C i.sn i.sq,.int .i64 i.a,.int .i64 i.b,.int .i64 i.c,.int .i64 i.d,.int .i64 i.e,.int .i64 i.f,.bool i.s,.bool i.t,.int .u8 i.al,.int .i64 i.bl,.bool i.ov,.bool i.iso,.bool i.kn]
def nosB (k:Int) (i z p:Bool):Bool:=decide (k=0)&&i&&z&&p
def ItemD.nos (i:ItemD):Bool:=nosB i.k (inkZ (i.I 0) (i.I 1) (i.I 2) (i.I 3) (i.I 4) (i.I 5) (i.I 6) (i.I 7)) (q5n i.fx i.fy i.tx i.ty i.r i.n) (q1v i.W i.H i.pn i.sn i.a i.b i.c i.d i.e i.f i.s i.t)
def q4e (K:Int) (rn:Nat) (nos:Bool) (al bl:Int) (ov iso kn:Bool) (o rE sE:Int):Int :=
  if K<0∨2<K then 14
  else if (K=0∧(iso=true∨kn=true))∨(K=1∧(0<rn∨ov=true∨nos=false))∨(K=2∧(0<rn∨ov=true∨nos=false∨iso=true∨kn=true∨¬ al=0∨¬ bl=0)) then 4
  else if K=2∧o=0 then 18
  else if K=1∧16≤o then 15
  else if bl<0∨12≤bl∨(K=1∧iso=false∧¬ bl=0) then 1
  else if ¬ K=0 then 0
  else if ¬ rE=0 then rE else sE
section
variable {k:Int} {I:Nat→Int} {fx fy tx ty r:Int} {A:Option Addr} {n q:Nat} {W H:Int} {B:Option Addr} {pn pq:Nat} {C:Option Addr} {sn sq:Nat} {a b c d e f:Int} {s t:Bool} {G:Mem}
set_option maxHeartbeats 4000000 in
theorem z6k:Gives Tryz.prog 75 [srcA k I fx fy tx ty r (.slice A n q) W H (.slice B pn pq) (.slice C sn sq) a b c d e f s t] G (.val (.bool (nosB k (inkZ (I 0) (I 1) (I 2) (I 3) (I 4) (I 5) (I 6) (I 7)) (q5n fx fy tx ty r n) (q1v W H pn sn a b c d e f s t)))):=by
  have gz:=q9p (k:=k) (I:=I) (fx:=fx) (fy:=fy) (tx:=tx) (ty:=ty) (r:=r) (A:=A) (n:=n) (q:=q) (W:=W) (H:=H) (B:=B) (pn:=pn) (pq:=pq) (C:=C) (sn:=sn) (sq:=sq) (a:=a) (b:=b) (c:=c) (d:=d) (e:=e) (f:=f) (s:=s) (t:=t) (G:=G)
  have gp:=q8m (W:=W) (H:=H) (B:=B) (pn:=pn) (pq:=pq) (C:=C) (sn:=sn) (sq:=sq) (a:=a) (b:=b) (c:=c) (d:=d) (e:=e) (f:=f) (s:=s) (t:=t) (G:=G)
  have gi:=z86 (I:=I)
  refine q01 tab_ok Tryz.func75 ?_
  generalize q5n fx fy tx ty r n=z at *
  generalize q1v W H pn sn a b c d e f s t=p at *
  generalize inkZ (I 0) (I 1) (I 2) (I 3) (I 4) (I 5) (I 6) (I 7)=i at *
  unfold nosB
  by_cases k0:k=0
  · subst k0
    cases i
    · clear gz gp
      (repeat' ((try (conv=>whnf));(first |(refine stQ ?_) |(with_reducible refine q1g (fun h0=>?_) (fun h0=>?_)))))
      all_goals first |exact ⟨rfl,rfl⟩ |exact absurd (gi.2 ⟨by assumption,by assumption,by assumption,by assumption,by assumption,by assumption,by assumption,by assumption⟩) (by simp)
    · obtain ⟨e0,e1,e2,e3,e4,e5,e6,e7⟩:=gi.1 rfl
      cases z <;> cases p <;> ((repeat ((try (conv=>whnf));(first |(refine stQ ?_) |(with_reducible first |refine q0e (fun vs w=>by kernel_rfl) (by kernel_rfl) (gz) ?_ |refine q0d (fun vs w=>by kernel_rfl) (by kernel_rfl) (gz) ?_ |refine q0e (fun vs w=>by kernel_rfl) (by kernel_rfl) (gp) ?_ |refine q0d (fun vs w=>by kernel_rfl) (by kernel_rfl) (gp) ?_))))) <;> exact ⟨rfl,rfl⟩
  · (repeat ((try (conv=>whnf));(refine stQ ?_)))
    exact ⟨by rw [decide_eq_false k0];rfl,rfl⟩
theorem x1o:Gives Tryz.prog 77 [imgA W H (.slice B pn pq) (.slice C sn sq) a b c d e f s t] G (.val (.bool (q1v W H pn sn a b c d e f s t))) :=
  Gives.of_callsA (fun vs h=>v2f vs h) (by rw [AV.rel]) fun w' _=>q59 W H B C pn pq sn sq a b c d e f s t w'
set_option maxHeartbeats 4000000 in
theorem z44:Gives Tryz.prog 55 [srcA k I fx fy tx ty r (.slice A n q) W H (.slice B pn pq) (.slice C sn sq) a b c d e f s t] G (.val (.bool (nosB k (inkZ (I 0) (I 1) (I 2) (I 3) (I 4) (I 5) (I 6) (I 7)) (q5n fx fy tx ty r n) (q1v W H pn sn a b c d e f s t)))):=by
  have gp:=x1o (W:=W) (H:=H) (B:=B) (pn:=pn) (pq:=pq) (C:=C) (sn:=sn) (sq:=sq) (a:=a) (b:=b) (c:=c) (d:=d) (e:=e) (f:=f) (s:=s) (t:=t) (G:=G)
  have gi:=z86 (I:=I)
  have gz:=x9r (fx:=fx) (fy:=fy) (tx:=tx) (ty:=ty) (r:=r) (n:=n)
  refine q01 tab_ok Tryz.func55 ?_
  generalize q5n fx fy tx ty r n=z at *
  generalize q1v W H pn sn a b c d e f s t=p at *
  generalize inkZ (I 0) (I 1) (I 2) (I 3) (I 4) (I 5) (I 6) (I 7)=i at *
  unfold nosB
  by_cases k0:k=0
  · subst k0
    cases i
    · clear gz gp
      (repeat' ((try (conv=>whnf));(first |(refine stQ ?_) |(with_reducible refine q1g (fun h0=>?_) (fun h0=>?_)))))
      all_goals first |exact ⟨rfl,rfl⟩ |exact absurd (gi.2 ⟨by assumption,by assumption,by assumption,by assumption,by assumption,by assumption,by assumption,by assumption⟩) (by simp)
    · obtain ⟨e0,e1,e2,e3,e4,e5,e6,e7⟩:=gi.1 rfl
      cases z
      · clear gi gp
        (repeat' ((try (conv=>whnf));(first |(refine stQ ?_) |(with_reducible refine q1g (fun h0=>?_) (fun h0=>?_)))))
        all_goals first |exact ⟨rfl,rfl⟩ |exact absurd (gz.2 ⟨by assumption,by assumption,by assumption,by assumption,by assumption,by omega⟩) (by simp)
      · obtain ⟨z0,z1,z2,z3,z4,z5⟩:=gz.1 rfl
        cases p <;> ((repeat ((try (conv=>whnf));(first |(refine stQ ?_) |(with_reducible first |refine q0e (fun vs w=>by kernel_rfl) (by kernel_rfl) (gp) ?_ |refine q0d (fun vs w=>by kernel_rfl) (by kernel_rfl) (gp) ?_))))) <;> exact ⟨rfl,rfl⟩
  · (repeat ((try (conv=>whnf));(refine stQ ?_)))
    exact ⟨by rw [decide_eq_false k0];rfl,rfl⟩
end
section
variable {i:ItemD} {G:Mem} {o rE sE:Int} {m:Nat}
theorem x7j:Gives Tryz.prog 75 [q61 i] G (.val (.bool i.nos)):=z6k
theorem x46:Gives Tryz.prog 55 [q61 i] G (.val (.bool i.nos)):=z44
set_option maxHeartbeats 16000000 in
theorem q4f (hR:Gives Tryz.prog 48 [.val (.slice i.RA i.rn i.rq)] G (.val (.int .i64 rE))) (hS:Gives Tryz.prog 76 [q61 i,.val (.int .i64 m)] G (.val (.int .i64 sE))) :
    Gives Tryz.prog 54 [q7f i,.val (.int .i64 m),.val (.int .i64 o)] G (.val (.int .i64 (q4e i.K i.rn i.nos i.al i.bl i.ov i.iso i.kn o rE sE))):=by
  have gn:=x7j (i:=i) (G:=G)
  unfold ItemD.nos at gn ⊢
  obtain ⟨K,RA,rn,rq,k,I,fx,fy,tx,ty,r,A,n,q,W,H,B,pn,pq,C,sn,sq,a,b,c,d,e,f,s,t,al,bl,ov,iso,kn⟩:=i
  simp only [q7f,q61] at hS gn ⊢
  dsimp only at *
  refine q01 tab_ok Tryz.func54 ?_
  generalize nosB k (inkZ (I 0) (I 1) (I 2) (I 3) (I 4) (I 5) (I 6) (I 7)) (q5n fx fy tx ty r n) (q1v W H pn sn a b c d e f s t)=z at *
  by_cases k0:K=0
  · subst k0
    clear gn
    cases iso <;> cases kn <;> ((repeat' ((try (conv=>whnf));(first |(refine stQ ?_) |(with_reducible first |refine q0e (fun vs w=>by kernel_rfl) (by kernel_rfl) (hR) ?_ |refine q0d (fun vs w=>by kernel_rfl) (by kernel_rfl) (hR) ?_ |refine q0e (fun vs w=>by kernel_rfl) (by kernel_rfl) (hS) ?_ |refine q0d (fun vs w=>by kernel_rfl) (by kernel_rfl) (hS) ?_ |refine q1g (fun h0=>?_) (fun h0=>?_)))))) <;> exact ⟨by first |rfl |(rw [AV.val.injEq,Value.int.injEq];exact ⟨rfl,by (try dsimp only at *);unfold q4e;simp <;> (repeat' split) <;> omega⟩),rfl⟩
  clear hR hS
  by_cases k1:K=1
  · subst k1
    cases z <;> cases iso <;> cases ov <;> ((repeat' ((try (conv=>whnf));(first |(refine stQ ?_) |(with_reducible first |refine q0e (fun vs w=>by kernel_rfl) (by kernel_rfl) (gn) ?_ |refine q0d (fun vs w=>by kernel_rfl) (by kernel_rfl) (gn) ?_ |refine q1g (fun h0=>?_) (fun h0=>?_)))))) <;> exact ⟨by first |rfl |(rw [AV.val.injEq,Value.int.injEq];exact ⟨rfl,by (try dsimp only at *);unfold q4e;simp <;> (repeat' split) <;> omega⟩),rfl⟩
  by_cases k2:K=2
  · subst k2
    cases z <;> cases iso <;> cases kn <;> cases ov <;> ((repeat' ((try (conv=>whnf));(first |(refine stQ ?_) |(with_reducible first |refine q0e (fun vs w=>by kernel_rfl) (by kernel_rfl) (gn) ?_ |refine q0d (fun vs w=>by kernel_rfl) (by kernel_rfl) (gn) ?_ |refine q1g (fun h0=>?_) (fun h0=>?_)))))) <;> exact ⟨by first |rfl |(rw [AV.val.injEq,Value.int.injEq];exact ⟨rfl,by (try dsimp only at *);unfold q4e;simp <;> (repeat' split) <;> omega⟩),rfl⟩
  · clear gn
    ((repeat' ((try (conv=>whnf));(first |(refine stQ ?_) |(with_reducible refine q1g (fun h0=>?_) (fun h0=>?_)))))) <;> exact ⟨by rw [AV.val.injEq,Value.int.injEq];exact ⟨rfl,by (try dsimp only at *);unfold q4e;rw [if_pos (by omega)]⟩,rfl⟩
set_option maxHeartbeats 16000000 in
theorem z6l (hal:0≤i.al) (ho:0≤o∧o≤16) (hR:Gives Tryz.prog 31 [.val (.slice i.RA i.rn i.rq)] G (.val (.int .i64 rE))) (hS:Gives Tryz.prog 56 [q61 i,.val (.int .i64 m)] G (.val (.int .i64 sE))) :
    Gives Tryz.prog 43 [q7f i,.val (.int .i64 m),.val (.int .i64 o)] G (.val (.int .i64 (q4e i.K i.rn i.nos i.al i.bl i.ov i.iso i.kn o rE sE))):=by
  have gn:=x46 (i:=i) (G:=G)
  unfold ItemD.nos at gn ⊢
  obtain ⟨K,RA,rn,rq,k,I,fx,fy,tx,ty,r,A,n,q,W,H,B,pn,pq,C,sn,sq,a,b,c,d,e,f,s,t,al,bl,ov,iso,kn⟩:=i
  simp only [q7f,q61] at hS gn ⊢
  dsimp only at *
  refine q01 tab_ok Tryz.func43 ?_
  generalize nosB k (inkZ (I 0) (I 1) (I 2) (I 3) (I 4) (I 5) (I 6) (I 7)) (q5n fx fy tx ty r n) (q1v W H pn sn a b c d e f s t)=z at *
  by_cases k0:K=0
  · subst k0
    clear gn
    cases iso <;> cases kn <;> ((repeat' ((try (conv=>whnf));(first |(refine stQ ?_) |(with_reducible first |refine q0i tab_ok Tryz.func11 (fun vs w=>by kernel_rfl) (by rfl) ?_ |refine q0e (fun vs w=>by kernel_rfl) (by kernel_rfl) (hR) ?_ |refine q0d (fun vs w=>by kernel_rfl) (by kernel_rfl) (hR) ?_ |refine q0e (fun vs w=>by kernel_rfl) (by kernel_rfl) (hS) ?_ |refine q0d (fun vs w=>by kernel_rfl) (by kernel_rfl) (hS) ?_ |refine q1g (fun h0=>?_) (fun h0=>?_)))))) <;> exact ⟨by first |rfl |(rw [AV.val.injEq,Value.int.injEq];exact ⟨rfl,by (try dsimp only at *);unfold q4e;simp <;> (repeat' split) <;> omega⟩),rfl⟩
  clear hR hS
  by_cases k1:K=1
  · subst k1
    cases z <;> cases iso <;> cases ov <;> ((repeat' ((try (conv=>whnf));(first |(refine stQ ?_) |(with_reducible first |refine q0i tab_ok Tryz.func11 (fun vs w=>by kernel_rfl) (by rfl) ?_ |refine q0e (fun vs w=>by kernel_rfl) (by kernel_rfl) (gn) ?_ |refine q0d (fun vs w=>by kernel_rfl) (by kernel_rfl) (gn) ?_ |refine q1g (fun h0=>?_) (fun h0=>?_)))))) <;> exact ⟨by first |rfl |(rw [AV.val.injEq,Value.int.injEq];exact ⟨rfl,by (try dsimp only at *);unfold q4e;simp <;> (repeat' split) <;> omega⟩),rfl⟩
  by_cases k2:K=2
  · subst k2
    cases z <;> cases iso <;> cases kn <;> cases ov <;> ((repeat' ((try (conv=>whnf));(first |(refine stQ ?_) |(with_reducible first |refine q0i tab_ok Tryz.func11 (fun vs w=>by kernel_rfl) (by rfl) ?_ |refine q0e (fun vs w=>by kernel_rfl) (by kernel_rfl) (gn) ?_ |refine q0d (fun vs w=>by kernel_rfl) (by kernel_rfl) (gn) ?_ |refine q1g (fun h0=>?_) (fun h0=>?_)))))) <;> exact ⟨by first |rfl |(rw [AV.val.injEq,Value.int.injEq];exact ⟨rfl,by (try dsimp only at *);unfold q4e;simp <;> (repeat' split) <;> omega⟩),rfl⟩
  · clear gn
    ((repeat' ((try (conv=>whnf));(first |(refine stQ ?_) |(with_reducible first |refine q0i tab_ok Tryz.func11 (fun vs w=>by kernel_rfl) (by rfl) ?_ |refine q1g (fun h0=>?_) (fun h0=>?_)))))) <;> exact ⟨by rw [AV.val.injEq,Value.int.injEq];exact ⟨rfl,by (try dsimp only at *);unfold q4e;rw [if_pos (by omega)]⟩,rfl⟩
end
end Go.Proofs.YtkicdhaklnmonaaGreat
namespace Go.Proofs.YtkicdhaklnmonaaGreat
open Go.RowKit
set_option maxRecDepth 20000
def q2n (e:Nat→Int):Nat→Int
  | 0=>0
  | n+1=>if q2n e n=0 then e n else q2n e n
theorem q81 {e:Nat→Int} {k:Nat} (h0:q2n e k=0) (h:e k=0):q2n e (k+1)=0:=by
  simp [q2n,h0,h]
theorem q72 {e:Nat→Int} {k:Nat} (h0:q2n e k=0) (h:¬ e k=0):∀ {n:Nat},k<n→q2n e n=e k:=by
  intro n hn
  induction n with
  | zero=>omega
  | succ n ih =>
    rcases Nat.lt_or_ge k n with h1 |h1
    · have:=ih h1
      simp only [q2n,this]
      rw [if_neg h]
    · obtain rfl:k=n:=by omega
      simp only [q2n,h0];rfl
def StrM (G:Mem) (A:Option Addr) (n:Nat) (S:Nat→ByteArray):Prop:=∀ x,x<n→∃ p:Addr,A=some p∧∀ K:List Value→Prop,K [.string (S x)]→OldCells G (p.add (x*1)) 1 K
def ItemsM (G:Mem) (A:Option Addr) (n:Nat) (I:Nat→ItemD):Prop:=∀ x,x<n→∃ p:Addr,A=some p∧∀ K:List Value→Prop,K (I x).cells→OldCells G (p.add (x*34)) 34 K
def q73 (a b:ByteArray):Bool:=a.toList==b.toList
theorem x47 (a b:ByteArray):q73 a b=q73 b a:=by
  unfold q73
  rw [Bool.eq_iff_iff,beq_iff_eq,beq_iff_eq]
  exact eq_comm
def strB (S:Nat→ByteArray) (n:Nat) (s:ByteArray):Bool:=(List.range n).any fun k=>q73 (S k) s
theorem x1p {S:Nat→ByteArray} {n k:Nat} {s:ByteArray} (h:k<n) (e:q73 (S k) s=true):strB S n s=true:=by
  unfold strB
  rw [List.any_eq_true]
  exact ⟨k,List.mem_range.2 h,e⟩
theorem x30 {S:Nat→ByteArray} {n:Nat} {s:ByteArray} (h:∀ k,k<n→q73 (S k) s=false):strB S n s=false:=by
  unfold strB
  rw [List.any_eq_false]
  intro k hk
  rw [h k (List.mem_range.1 hk)];simp
def q34 (S:Nat→ByteArray) (i:Nat):Int:=if q7e (S i)=true then (if strB S i (S i)=true then 7 else 0) else 6
def q04 (K:Nat→Int):Nat→Int
  | 0=>0
  | n+1=>q04 K n+(if K n=1 then 1 else if K n=2 then -1 else 0)
def q6b (W H:Int) (m:Nat) (S:Nat→ByteArray) (n:Nat) (K:Nat→Int) (E:Nat→Int→Int):Int :=
  if W<1∨256<W∨H<1∨256<H then 3 else if m<1∨8<m then 2 else if ¬ q2n (q34 S) m=0 then q2n (q34 S) m else if 5000<n then 2
  else if ¬ q2n (fun x=>E x (q04 K x)) n=0 then q2n (fun x=>E x (q04 K x)) n else if 0<q04 K n then 18 else 0
abbrev q5o (W H:Int) (SA:Option Addr) (m sq:Nat) (IA:Option Addr) (n iq:Nat):AV:=.agg [.val (.int .i64 W),.val (.int .i64 H),.val (.slice SA m sq),.val (.slice IA n iq)]
theorem x1q {G:Mem} {a:Addr} {n:Nat} {vs:List Value} (ca:∀ K:List Value→Prop,K vs→OldCells G a n K) {j:Nat} {v:Value} (hj:vs[j]? = some v):G.cell? (a.add j)=some v:=by
  obtain ⟨us,hc,hk⟩:=ca (fun us=>us=vs) rfl
  subst hk
  exact hc.2 j v hj
theorem cut0 {c k:Nat} {A:Option Addr}:(if c=(0:Int).toNat then A else A.map fun x=>x.add ((0:Int).toNat * k))=A:=by
  split
  · rfl
  · cases A with
    | none=>rfl
    | some p=>simp [Addr.add]
section
variable {G:Mem} {A:Option Addr} {n c:Nat} {S:Nat→ByteArray} {s:ByteArray}
set_option maxHeartbeats 4000000 in
theorem z7j (hS:StrM G A n S) (hn:n≤5000):Gives Tryz.prog 53 [.val (.slice A n c),.val (.string s)] G (.val (.bool (strB S n s))):=by
  refine q01 tab_ok Tryz.func53 ?_
  (repeat ((try (conv=>whnf));(first |(refine stQ ?_) |(with_reducible refine q0i tab_ok Tryz.func74 (fun vs w=>by kernel_rfl) (by rfl) ?_))))
  conv=>whnf
  refine q0w tab_ok (fun i=>i≤n∧∀ k,k<i→q73 (S k) s=false) (fun (i:Nat)=>[(8,.val (.int .i64 i))]) (fun i=>[]) (fun i=>n-i) 0 ⟨Nat.zero_le _,fun k hk=>by omega⟩ ?_ ?_
  · ((refine q0g ?_);(conv=>whnf);(refine q0k (by rfl) (by rfl) flQ ?_))
    exact q0f
  · rintro i ⟨hi,hall⟩
    rcases Nat.lt_or_ge i n with h1 |h1
    · obtain ⟨p,rfl,ca⟩:=hS i h1
      have hsw:=x47 (S i) s
      cases hq:q73 (S i) s
      · have hq':(s.toList==(S i).toList)=false:=by rw [← hq,hsw];rfl
        (repeat ((try (conv=>whnf));(first |(refine ca _ ?_) |(refine stQ ?_))))
        refine ⟨i+1,⟨by omega,fun k hk=>?_⟩,by omega,?_⟩
        · rcases Nat.lt_or_ge k i with h2 |h2
          · exact hall k h2
          · obtain rfl:k=i:=by omega
            exact hq
        · ((refine q0g ?_);(conv=>whnf);(refine q0k (by rfl) (by rfl) flQ ?_))
          exact q0f
      · have hq':(s.toList==(S i).toList)=true:=by rw [← hq,hsw];rfl
        (repeat ((try (conv=>whnf));(first |(refine ca _ ?_) |(refine stQ ?_))))
        exact ⟨by rw [x1p h1 hq];first |rfl |(rw [decide_eq_true (by omega)]),rfl⟩
    · obtain rfl:i=n:=by omega
      (repeat ((try (conv=>whnf));(refine stQ ?_)))
      exact ⟨by rw [x30 hall];first |rfl |(rw [decide_eq_false (by omega)]),rfl⟩
end
section
variable {G:Mem} {W H:Int} {SA:Option Addr} {m sq:Nat} {IA:Option Addr} {n iq:Nat} {S:Nat→ByteArray} {I:Nat→ItemD} {E:Nat→Int→Int}
structure DepthOk (K:Nat→Int) (E:Nat→Int→Int) (n:Nat):Prop where
  up:∀ x o,x<n→E x o=0→K x=1→o<16
  dn:∀ x o,x<n→E x o=0→K x=2→¬ o=0
theorem StrM.le {A:Option Addr} {n k:Nat} (h:StrM G A n S) (hk:k≤n):StrM G A k S:=fun x hx=>h x (by omega)
set_option maxHeartbeats 16000000 in
theorem z02 (hS:StrM G SA m S) (hI:ItemsM G IA n I) (hsq:m≤sq) (hE:(1≤m∧m≤8)→∀ x,x<n→∀ o,0≤o→o≤16→Gives Tryz.prog 54 [q7f (I x),.val (.int .i64 m),.val (.int .i64 o)] G (.val (.int .i64 (E x o))))
    (hD:DepthOk (fun x=>(I x).K) E n) (hn:n≤9223372036854775807) (hm:m≤9223372036854775807) :
    Gives Tryz.prog 41 [q5o W H SA m sq IA n iq] G (.val (.int .i64 (q6b W H m S n (fun x=>(I x).K) E))):=by
  refine q01 tab_ok Tryz.func41 ?_
  by_cases w0:W<1∨256<W∨H<1∨256<H
  · unfold q6b;rw [if_pos w0]
    clear hE
    (repeat' ((try (conv=>whnf));(first |(refine stQ ?_) |(with_reducible refine q1g (fun h0=>?_) (fun h0=>?_)))))
    all_goals exact ⟨rfl,rfl⟩
  by_cases m0:m<1∨8<m
  · unfold q6b;rw [if_neg w0,if_pos m0]
    clear hE
    (repeat' ((try (conv=>whnf));(first |(refine stQ ?_) |(with_reducible refine q1g (fun h0=>?_) (fun h0=>?_)))))
    all_goals exact ⟨rfl,rfl⟩
  have hE:=hE (by omega)
  have hv:q6b W H m S n (fun x=>(I x).K) E=if ¬ q2n (q34 S) m=0 then q2n (q34 S) m else if 5000<n then 2 else if ¬ q2n (fun x=>E x (q04 (fun x=>(I x).K) x)) n=0 then q2n (fun x=>E x (q04 (fun x=>(I x).K) x)) n else if 0<q04 (fun x=>(I x).K) n then 18 else 0:=by
    unfold q6b;rw [if_neg w0,if_neg m0]
  generalize q6b W H m S n (fun x=>(I x).K) E=V at *
  (repeat ((try (conv=>whnf));(refine stQ ?_)))
  conv=>whnf
  refine q0w tab_ok (fun i=>i≤m∧q2n (q34 S) i=0) (fun (i:Nat)=>[(40,.val (.int .i64 i))]) (fun i=>[.cells 49 [.val (.int .i64 W),.val (.int .i64 H),.val (.slice SA m sq),.val (.slice IA n iq)]]) (fun i=>m-i) 0 ⟨Nat.zero_le _,rfl⟩ ?_ ?_
  · ((refine q0g ?_);(conv=>whnf);(refine q0k (by rfl) (by rfl) flQ ?_))
    exact q0a (by exact flQ) q0f
  · rintro i ⟨hi,h0⟩
    rcases Nat.lt_or_ge i m with h1 |h1
    · obtain ⟨p,rfl,ca⟩:=hS i h1
      have gn:=x1n (s:=S i) (G:=G)
      have gc:∀ A' n' c',A'=some p∧n'=i→Gives Tryz.prog 53 [.val (.slice A' n' c'),.val (.string (S i))] G (.val (.bool (strB S i (S i)))):=by
        rintro A' n' c' ⟨rfl,rfl⟩
        exact z7j (hS.le (by omega)) (by omega)
      have first:¬ q34 S i=0→V=q34 S i:=fun h=>by
        have:=q72 h0 h h1
        rw [hv,this,if_pos h]
      have next:=fun h=>q81 (e:=q34 S) (k:=i) h0 h
      unfold q34 at first
      clear hE
      cases hb:q7e (S i)
      · rw [hb] at gn first
        rw [first (by simp)]
        (repeat ((try (conv=>whnf));(first |(refine ca _ ?_) |(refine stQ ?_) |(with_reducible first |refine q0e (fun vs w=>by kernel_rfl) (by kernel_rfl) (gn) ?_ |refine q0d (fun vs w=>by kernel_rfl) (by kernel_rfl) (gn) ?_))))
        exact ⟨rfl,rfl⟩
      · rw [hb] at gn first
        cases hc:strB S i (S i)
        · rw [hc] at gc
          have nx:=next (by unfold q34;rw [hb,hc];rfl)
          (repeat ((try (conv=>whnf));(first |(refine ca _ ?_) |(with_reducible refine q0e (fun vs w=>by kernel_rfl) (by kernel_rfl) (gc _ _ _ ⟨cut0,by simp⟩) ?_) |(refine stQ ?_) |(with_reducible first |refine q0e (fun vs w=>by kernel_rfl) (by kernel_rfl) (gn) ?_ |refine q0d (fun vs w=>by kernel_rfl) (by kernel_rfl) (gn) ?_))))
          refine ⟨i+1,⟨by omega,nx⟩,by omega,?_⟩
          ((refine q0g ?_);(conv=>whnf);(refine q0k (by rfl) (by rfl) flQ ?_))
          exact q0a (by exact flQ) q0f
        · rw [hc] at gc first
          rw [first (by simp)]
          (repeat ((try (conv=>whnf));(first |(refine ca _ ?_) |(with_reducible refine q0e (fun vs w=>by kernel_rfl) (by kernel_rfl) (gc _ _ _ ⟨cut0,by simp⟩) ?_) |(refine stQ ?_) |(with_reducible first |refine q0e (fun vs w=>by kernel_rfl) (by kernel_rfl) (gn) ?_ |refine q0d (fun vs w=>by kernel_rfl) (by kernel_rfl) (gn) ?_))))
          exact ⟨rfl,rfl⟩
    · obtain rfl:i=m:=by omega
      by_cases n0:5000<n
      · rw [show V=2 by rw [hv,if_neg (by simp [h0]),if_pos n0]]
        (repeat ((try (conv=>whnf));(refine stQ ?_)))
        exact ⟨rfl,rfl⟩
      rw [if_neg (by simp [h0]),if_neg n0] at hv
      (repeat ((try (conv=>whnf));(refine stQ ?_)))
      conv=>whnf
      refine q0w tab_ok (fun k=>k≤n∧q2n (fun x=>E x (q04 (fun x=>(I x).K) x)) k=0∧0≤q04 (fun x=>(I x).K) k∧q04 (fun x=>(I x).K) k≤16) (fun (k:Nat)=>[(62,.val (.int .i64 k)),(5,.val (.int .i64 (q04 (fun x=>(I x).K) k)))]) (fun k=>[.cells 49 [.val (.int .i64 W),.val (.int .i64 H),.val (.slice SA i sq),.val (.slice IA n iq)]]) (fun k=>n-k) 0 ⟨Nat.zero_le _,rfl,by simp [q04],by simp [q04]⟩ ?_ ?_
      · ((refine q0g ?_);(conv=>whnf);(refine q0k (by rfl) (by rfl) flQ ?_))
        exact q0a (by exact flQ) q0f
      · rintro k ⟨hk,hs,hd1,hd2⟩
        rcases Nat.lt_or_ge k n with h2 |h2
        · obtain ⟨p,rfl,ca⟩:=hI k h2
          have gi:=hE k h2 (q04 (fun x=>(I x).K) k) hd1 hd2
          have first:¬ E k (q04 (fun x=>(I x).K) k)=0→V=E k (q04 (fun x=>(I x).K) k):=fun h=>by
            have:=q72 (e:=fun x=>E x (q04 (fun x=>(I x).K) x)) hs h h2
            rw [hv,this,if_pos h]
          have next:=fun h=>q81 (e:=fun x=>E x (q04 (fun x=>(I x).K) x)) (k:=k) hs h
          have up:=hD.up k (q04 (fun x=>(I x).K) k) h2
          have dn:=hD.dn k (q04 (fun x=>(I x).K) k) h2
          have hdd:q04 (fun x=>(I x).K) (k+1)=q04 (fun x=>(I x).K) k+(if (I k).K=1 then 1 else if (I k).K=2 then -1 else 0):=rfl
          generalize hgo:q04 (fun x=>(I x).K) (k+1)=o' at *
          generalize q04 (fun x=>(I x).K) k=o at *
          (try dsimp only at next);(try dsimp only at up);(try dsimp only at dn)
          generalize E k o=e at *
          clear hE hD hI hS
          by_cases e0:e=0
          · subst e0
            by_cases K1:(I k).K=1
            · rw [if_pos K1] at hdd
              have:=up rfl K1
              (repeat ((try (conv=>whnf));(first |(refine ca _ ?_) |(refine stQ ?_) |(with_reducible first |refine q0e (fun vs w=>by kernel_rfl) (by kernel_rfl) (gi) ?_ |refine q0d (fun vs w=>by kernel_rfl) (by kernel_rfl) (gi) ?_))))
              refine ⟨k+1,⟨by omega,next rfl,by rw [hgo];omega,by rw [hgo];omega⟩,by omega,?_⟩
              rw [hgo]
              ((refine q0g ?_);(conv=>whnf);(refine q0k (by rfl) (by rfl) flQ ?_))
              exact q0a (by exact flQ) q0f
            by_cases K2:(I k).K=2
            · rw [if_neg K1,if_pos K2] at hdd
              have:=dn rfl K2
              (repeat ((try (conv=>whnf));(first |(refine ca _ ?_) |(refine stQ ?_) |(with_reducible first |refine q0e (fun vs w=>by kernel_rfl) (by kernel_rfl) (gi) ?_ |refine q0d (fun vs w=>by kernel_rfl) (by kernel_rfl) (gi) ?_))))
              refine ⟨k+1,⟨by omega,next rfl,by rw [hgo];omega,by rw [hgo];omega⟩,by omega,?_⟩
              rw [hgo]
              ((refine q0g ?_);(conv=>whnf);(refine q0k (by rfl) (by rfl) flQ ?_))
              exact q0a (by exact flQ) q0f
            · rw [if_neg K1,if_neg K2] at hdd
              (repeat ((try (conv=>whnf));(first |(refine ca _ ?_) |(refine stQ ?_) |(with_reducible first |refine q0e (fun vs w=>by kernel_rfl) (by kernel_rfl) (gi) ?_ |refine q0d (fun vs w=>by kernel_rfl) (by kernel_rfl) (gi) ?_))))
              refine ⟨k+1,⟨by omega,next rfl,by rw [hgo];omega,by rw [hgo];omega⟩,by omega,?_⟩
              rw [hgo]
              ((refine q0g ?_);(conv=>whnf);(refine q0k (by rfl) (by rfl) flQ ?_))
              exact q0a (by exact flQ) q0f
          · rw [first e0]
            (repeat ((try (conv=>whnf));(first |(refine ca _ ?_) |(refine stQ ?_) |(with_reducible first |refine q0e (fun vs w=>by kernel_rfl) (by kernel_rfl) (gi) ?_ |refine q0d (fun vs w=>by kernel_rfl) (by kernel_rfl) (gi) ?_))))
            exact ⟨rfl,rfl⟩
        · obtain rfl:k=n:=by omega
          rw [if_neg (by simp [hs])] at hv
          clear hE hD hI hS
          generalize q04 (fun x=>(I x).K) k=o at *
          by_cases o0:0<o
          · rw [if_pos o0] at hv
            rw [hv]
            (repeat ((try (conv=>whnf));(refine stQ ?_)))
            exact ⟨rfl,rfl⟩
          · rw [if_neg o0] at hv
            rw [hv]
            (repeat ((try (conv=>whnf));(refine stQ ?_)))
            exact ⟨rfl,rfl⟩
set_option maxHeartbeats 16000000 in
theorem z9j (hS:StrM G SA m S) (hI:ItemsM G IA n I) (hsq:m≤sq) (hE:(1≤m∧m≤8)→∀ x,x<n→∀ o,0≤o→o≤16→Gives Tryz.prog 43 [q7f (I x),.val (.int .i64 m),.val (.int .i64 o)] G (.val (.int .i64 (E x o))))
    (hD:DepthOk (fun x=>(I x).K) E n) (hn:n≤9223372036854775807) (hm:m≤9223372036854775807) :
    Gives Tryz.prog 19 [q5o W H SA m sq IA n iq] G (.val (.int .i64 (q6b W H m S n (fun x=>(I x).K) E))):=by
  refine q01 tab_ok Tryz.func19 ?_
  by_cases w0:W<1∨256<W∨H<1∨256<H
  · unfold q6b;rw [if_pos w0]
    clear hE
    (repeat' ((try (conv=>whnf));(first |(refine stQ ?_) |(with_reducible first |refine q0i tab_ok Tryz.func11 (fun vs w=>by kernel_rfl) (by rfl) ?_ |refine q1g (fun h0=>?_) (fun h0=>?_)))))
    all_goals exact ⟨rfl,rfl⟩
  by_cases m0:m<1∨8<m
  · unfold q6b;rw [if_neg w0,if_pos m0]
    clear hE
    (repeat' ((try (conv=>whnf));(first |(refine stQ ?_) |(with_reducible first |refine q0i tab_ok Tryz.func11 (fun vs w=>by kernel_rfl) (by rfl) ?_ |refine q1g (fun h0=>?_) (fun h0=>?_)))))
    all_goals exact ⟨rfl,rfl⟩
  have hE:=hE (by omega)
  have hv:q6b W H m S n (fun x=>(I x).K) E=if ¬ q2n (q34 S) m=0 then q2n (q34 S) m else if 5000<n then 2 else if ¬ q2n (fun x=>E x (q04 (fun x=>(I x).K) x)) n=0 then q2n (fun x=>E x (q04 (fun x=>(I x).K) x)) n else if 0<q04 (fun x=>(I x).K) n then 18 else 0:=by
    unfold q6b;rw [if_neg w0,if_neg m0]
  generalize q6b W H m S n (fun x=>(I x).K) E=V at *
  (repeat ((try (conv=>whnf));(first |(refine stQ ?_) |(with_reducible refine q0i tab_ok Tryz.func11 (fun vs w=>by kernel_rfl) (by rfl) ?_))))
  conv=>whnf
  refine q0w tab_ok (fun i=>i≤m∧q2n (q34 S) i=0) (fun (i:Nat)=>[(26,.val (.int .i64 i))]) (fun i=>[.cells 49 [.val (.int .i64 W),.val (.int .i64 H),.val (.slice SA m sq),.val (.slice IA n iq)]]) (fun i=>m-i) 0 ⟨Nat.zero_le _,rfl⟩ ?_ ?_
  · ((refine q0g ?_);(conv=>whnf);(refine q0k (by rfl) (by rfl) flQ ?_))
    exact q0a (by exact flQ) q0f
  · rintro i ⟨hi,h0⟩
    rcases Nat.lt_or_ge i m with h1 |h1
    · obtain ⟨p,rfl,ca⟩:=hS i h1
      have gn:=x45 (s:=S i) (G:=G)
      have first:¬ q34 S i=0→V=q34 S i:=fun h=>by
        have:=q72 h0 h h1
        rw [hv,this,if_pos h]
      have next:=fun h=>q81 (e:=q34 S) (k:=i) h0 h
      unfold q34 at first
      clear hE
      cases hb:q7e (S i)
      · rw [hb] at gn first
        rw [first (by simp)]
        (repeat ((try (conv=>whnf));(first |(refine ca _ ?_) |(refine stQ ?_) |(with_reducible first |refine q0e (fun vs w=>by kernel_rfl) (by kernel_rfl) (gn) ?_ |refine q0d (fun vs w=>by kernel_rfl) (by kernel_rfl) (gn) ?_))))
        exact ⟨rfl,rfl⟩
      · rw [hb] at gn first
        (repeat ((try (conv=>whnf));(first |(refine ca _ ?_) |(refine stQ ?_) |(with_reducible first |refine q0e (fun vs w=>by kernel_rfl) (by kernel_rfl) (gn) ?_ |refine q0d (fun vs w=>by kernel_rfl) (by kernel_rfl) (gn) ?_))))
        conv=>whnf
        refine q0w tab_ok (fun k=>k≤i∧∀ j,j<k→q73 (S j) (S i)=false) (fun (k:Nat)=>[(4,.val (.int .i64 k))]) (fun k=>[.cells 49 [.val (.int .i64 W),.val (.int .i64 H),.val (.slice (some p) m sq),.val (.slice IA n iq)]]) (fun k=>i-k) 0 ⟨Nat.zero_le _,fun j hj=>by omega⟩ ?_ ?_
        · ((refine q0g ?_);(conv=>whnf);(refine q0k (by rfl) (by rfl) flQ ?_))
          exact q0a (by exact flQ) q0f
        · rintro k ⟨hk,hall⟩
          rcases Nat.lt_or_ge k i with h2 |h2
          · obtain ⟨p',he,cb⟩:=hS k (by omega)
            cases he
            cases hq:q73 (S k) (S i)
            · have hq':((S k).toList==(S i).toList)=false:=by rw [← hq];rfl
              (repeat ((try (conv=>whnf));(first |(refine ca _ ?_) |(refine cb _ ?_) |(refine stQ ?_))))
              refine ⟨k+1,⟨by omega,fun j hj=>?_⟩,by omega,?_⟩
              · rcases Nat.lt_or_ge j k with h3 |h3
                · exact hall j h3
                · obtain rfl:j=k:=by omega
                  exact hq
              · ((refine q0g ?_);(conv=>whnf);(refine q0k (by rfl) (by rfl) flQ ?_))
                exact q0a (by exact flQ) q0f
            · have hq':((S k).toList==(S i).toList)=true:=by rw [← hq];rfl
              rw [x1p h2 hq] at first
              rw [first (by simp)]
              (repeat ((try (conv=>whnf));(first |(refine ca _ ?_) |(refine cb _ ?_) |(refine stQ ?_))))
              exact ⟨rfl,rfl⟩
          · obtain rfl:k=i:=by omega
            have nx:=next (by unfold q34;rw [hb,x30 hall];rfl)
            (repeat ((try (conv=>whnf));(refine stQ ?_)))
            refine ⟨k+1,⟨by omega,nx⟩,by omega,?_⟩
            ((refine q0g ?_);(conv=>whnf);(refine q0k (by rfl) (by rfl) flQ ?_))
            exact q0a (by exact flQ) q0f
    · obtain rfl:i=m:=by omega
      by_cases n0:5000<n
      · rw [show V=2 by rw [hv,if_neg (by simp [h0]),if_pos n0]]
        (repeat ((try (conv=>whnf));(refine stQ ?_)))
        exact ⟨rfl,rfl⟩
      rw [if_neg (by simp [h0]),if_neg n0] at hv
      (repeat ((try (conv=>whnf));(refine stQ ?_)))
      conv=>whnf
      refine q0w tab_ok (fun k=>k≤n∧q2n (fun x=>E x (q04 (fun x=>(I x).K) x)) k=0∧0≤q04 (fun x=>(I x).K) k∧q04 (fun x=>(I x).K) k≤16) (fun (k:Nat)=>[(60,.val (.int .i64 k)),(5,.val (.int .i64 (q04 (fun x=>(I x).K) k)))]) (fun k=>[.cells 49 [.val (.int .i64 W),.val (.int .i64 H),.val (.slice SA i sq),.val (.slice IA n iq)]]) (fun k=>n-k) 0 ⟨Nat.zero_le _,rfl,by simp [q04],by simp [q04]⟩ ?_ ?_
      · ((refine q0g ?_);(conv=>whnf);(refine q0k (by rfl) (by rfl) flQ ?_))
        exact q0a (by exact flQ) q0f
      · rintro k ⟨hk,hs,hd1,hd2⟩
        rcases Nat.lt_or_ge k n with h2 |h2
        · obtain ⟨p,rfl,ca⟩:=hI k h2
          have c0:G.cell? (Addr.add (p.add (k*34)) 0)=some (.int .i64 (I k).K):=x1q ca rfl
          have gi:=hE k h2 (q04 (fun x=>(I x).K) k) hd1 hd2
          have first:¬ E k (q04 (fun x=>(I x).K) k)=0→V=E k (q04 (fun x=>(I x).K) k):=fun h=>by
            have:=q72 (e:=fun x=>E x (q04 (fun x=>(I x).K) x)) hs h h2
            rw [hv,this,if_pos h]
          have next:=fun h=>q81 (e:=fun x=>E x (q04 (fun x=>(I x).K) x)) (k:=k) hs h
          have up:=hD.up k (q04 (fun x=>(I x).K) k) h2
          have dn:=hD.dn k (q04 (fun x=>(I x).K) k) h2
          have hdd:q04 (fun x=>(I x).K) (k+1)=q04 (fun x=>(I x).K) k+(if (I k).K=1 then 1 else if (I k).K=2 then -1 else 0):=rfl
          generalize hgo:q04 (fun x=>(I x).K) (k+1)=o' at *
          generalize q04 (fun x=>(I x).K) k=o at *
          (try dsimp only at next);(try dsimp only at up);(try dsimp only at dn)
          generalize E k o=e at *
          clear hE hD hI hS
          by_cases e0:e=0
          · subst e0
            by_cases K1:(I k).K=1
            · rw [if_pos K1] at hdd
              have:=up rfl K1
              (repeat ((try (conv=>whnf));(first |(refine ca _ ?_) |(refine q0b _ c0 ?_) |(refine stQ ?_) |(with_reducible first |refine q0e (fun vs w=>by kernel_rfl) (by kernel_rfl) (gi) ?_ |refine q0d (fun vs w=>by kernel_rfl) (by kernel_rfl) (gi) ?_))))
              refine ⟨k+1,⟨by omega,next rfl,by rw [hgo];omega,by rw [hgo];omega⟩,by omega,?_⟩
              rw [hgo]
              ((refine q0g ?_);(conv=>whnf);(refine q0k (by rfl) (by rfl) flQ ?_))
              exact q0a (by exact flQ) q0f
            by_cases K2:(I k).K=2
            · rw [if_neg K1,if_pos K2] at hdd
              have:=dn rfl K2
              (repeat ((try (conv=>whnf));(first |(refine ca _ ?_) |(refine q0b _ c0 ?_) |(refine stQ ?_) |(with_reducible first |refine q0e (fun vs w=>by kernel_rfl) (by kernel_rfl) (gi) ?_ |refine q0d (fun vs w=>by kernel_rfl) (by kernel_rfl) (gi) ?_))))
              refine ⟨k+1,⟨by omega,next rfl,by rw [hgo];omega,by rw [hgo];omega⟩,by omega,?_⟩
              rw [hgo]
              ((refine q0g ?_);(conv=>whnf);(refine q0k (by rfl) (by rfl) flQ ?_))
              exact q0a (by exact flQ) q0f
            · rw [if_neg K1,if_neg K2] at hdd
              (repeat ((try (conv=>whnf));(first |(refine ca _ ?_) |(refine q0b _ c0 ?_) |(refine stQ ?_) |(with_reducible first |refine q0e (fun vs w=>by kernel_rfl) (by kernel_rfl) (gi) ?_ |refine q0d (fun vs w=>by kernel_rfl) (by kernel_rfl) (gi) ?_))))
              refine ⟨k+1,⟨by omega,next rfl,by rw [hgo];omega,by rw [hgo];omega⟩,by omega,?_⟩
              rw [hgo]
              ((refine q0g ?_);(conv=>whnf);(refine q0k (by rfl) (by rfl) flQ ?_))
              exact q0a (by exact flQ) q0f
          · rw [first e0]
            (repeat ((try (conv=>whnf));(first |(refine ca _ ?_) |(refine q0b _ c0 ?_) |(refine stQ ?_) |(with_reducible first |refine q0e (fun vs w=>by kernel_rfl) (by kernel_rfl) (gi) ?_ |refine q0d (fun vs w=>by kernel_rfl) (by kernel_rfl) (gi) ?_))))
            exact ⟨rfl,rfl⟩
        · obtain rfl:k=n:=by omega
          rw [if_neg (by simp [hs])] at hv
          clear hE hD hI hS
          generalize q04 (fun x=>(I x).K) k=o at *
          by_cases o0:0<o
          · rw [if_pos o0] at hv
            rw [hv]
            (repeat ((try (conv=>whnf));(refine stQ ?_)))
            exact ⟨rfl,rfl⟩
          · rw [if_neg o0] at hv
            rw [hv]
            (repeat ((try (conv=>whnf));(refine stQ ?_)))
            exact ⟨rfl,rfl⟩
end
end Go.Proofs.YtkicdhaklnmonaaGreat
