/-
  Merged: XListK, XListN, XListI, XListL.
-/
import Derived.Test.YtkicdhaklnmonaaGreatMrg23
import Derived.Test.YtkicdhaklnmonaaGreatEng2
import Derived.Test.YtkicdhaklnmonaaGreatMrg13
set_option linter.unusedVariables false
set_option linter.unusedSimpArgs false
set_option linter.unnecessarySimpa false
namespace Go.Proofs.YtkicdhaklnmonaaGreat
open Go.RowKit
set_option maxRecDepth 20000
def fewB (I:Nat→Int) (m:Nat):Bool:=(List.range 8).all fun j=>decide (j<m∨I j=0)
theorem x9h {I:Nat→Int} {m:Nat} (h:∀ j,j<8→m≤j→I j=0):fewB I m=true:=by
  unfold fewB
  rw [List.all_eq_true]
  intro j hj
  have h8:=List.mem_range.1 hj
  rcases Nat.lt_or_ge j m with h1 |h1
  · exact decide_eq_true (.inl h1)
  · exact decide_eq_true (.inr (h j h8 h1))
theorem x60 {I:Nat→Int} {m:Nat} (h0:0<m∨I 0=0) (h1:1<m∨I 1=0) (h2:2<m∨I 2=0) (h3:3<m∨I 3=0) (h4:4<m∨I 4=0) (h5:5<m∨I 5=0) (h6:6<m∨I 6=0) (h7:7<m∨I 7=0):fewB I m=true:=by
  refine x9h fun j hj hm=>?_
  obtain rfl |rfl |rfl |rfl |rfl |rfl |rfl |rfl:j=0∨j=1∨j=2∨j=3∨j=4∨j=5∨j=6∨j=7:=by omega
  all_goals omega
theorem q66 {I:Nat→Int} {m:Nat} (j:Nat) (h:j<8) (h1:m≤j) (h2:¬ I j=0):fewB I m=false:=by
  unfold fewB
  rw [List.all_eq_false]
  exact ⟨j,List.mem_range.2 h,by rw [decide_eq_true_eq];omega⟩
section
variable {k:Int} {I:Nat→Int} {fx fy tx ty r:Int} {A:Option Addr} {n q:Nat} {W H:Int} {B:Option Addr} {pn pq:Nat} {C:Option Addr} {sn sq:Nat} {a b c d e f:Int} {s t:Bool} {G:Mem} {gE iE:Int} {T:Nat→Int} {D D':Nat→Nat→Int} {m:Nat}
set_option maxHeartbeats 4000000 in
theorem x4n (hm:1≤m∧m≤8):Gives Tryz.prog 96 [.agg [.val (.int .u8 (I 0)),.val (.int .u8 (I 1)),.val (.int .u8 (I 2)),.val (.int .u8 (I 3)),.val (.int .u8 (I 4)),.val (.int .u8 (I 5)),.val (.int .u8 (I 6)),.val (.int .u8 (I 7))],.val (.int .i64 m)] G (.val (.bool (fewB I m))):=by
  refine q07 tab_ok Tryz.func96 ?_
  obtain rfl |rfl |rfl |rfl |rfl |rfl |rfl |rfl:m=1∨m=2∨m=3∨m=4∨m=5∨m=6∨m=7∨m=8:=by omega
  all_goals
    (repeat' ((try (conv=>whnf));(first |(with_reducible refine x3v tab_ok ?_) |(refine stQ ?_) |(with_reducible refine q3h (fun h0=>?_) (fun h0=>?_)))))
    all_goals first
      | exact ⟨by rw [x60 (by omega) (by omega) (by omega) (by omega) (by omega) (by omega) (by omega) (by omega)];try rfl,rfl⟩
      | exact ⟨by rw [q66 0 (by omega) (by omega) (by assumption)];try rfl,rfl⟩
      | exact ⟨by rw [q66 1 (by omega) (by omega) (by assumption)];try rfl,rfl⟩
      | exact ⟨by rw [q66 2 (by omega) (by omega) (by assumption)];try rfl,rfl⟩
      | exact ⟨by rw [q66 3 (by omega) (by omega) (by assumption)];try rfl,rfl⟩
      | exact ⟨by rw [q66 4 (by omega) (by omega) (by assumption)];try rfl,rfl⟩
      | exact ⟨by rw [q66 5 (by omega) (by omega) (by assumption)];try rfl,rfl⟩
      | exact ⟨by rw [q66 6 (by omega) (by omega) (by assumption)];try rfl,rfl⟩
      | exact ⟨by rw [q66 7 (by omega) (by omega) (by assumption)];try rfl,rfl⟩
end
end Go.Proofs.YtkicdhaklnmonaaGreat
namespace Go.Proofs.YtkicdhaklnmonaaGreat
open Go.RowKit
set_option maxRecDepth 20000
def chB (s:ByteArray) (i:Nat):UInt8:=(s[i]?).getD 0
theorem v05 {s:ByteArray} {i:Nat} (h:i<s.size):s[i]? = some (chB s i):=by
  unfold chB
  rw [getElem?_pos s i h];rfl
def chI (s:ByteArray) (i:Nat):Int:=(chB s i).toNat
theorem v18 (s:ByteArray) (i:Nat):0≤chI s i∧chI s i≤255:=by
  unfold chI
  have:=(chB s i).toNat_lt
  omega
def chOk (s:ByteArray) (i:Nat):Bool:=decide ((97≤chI s i∧chI s i≤122)∨(0<i∧(chI s i=45∨(48≤chI s i∧chI s i≤57))))
def q84 (s:ByteArray):Bool:=decide (1≤s.size∧s.size≤16)&&(List.range s.size).all (chOk s)
theorem x9i {s:ByteArray} {i:Nat} (h:i<s.size) (k:chOk s i=false):q84 s=false:=by
  unfold q84
  rw [show (List.range s.size).all (chOk s)=false from ?_,Bool.and_false]
  rw [List.all_eq_false]
  exact ⟨i,List.mem_range.2 h,by simp [k]⟩
theorem x61 {s:ByteArray} (h:1≤s.size∧s.size≤16) (k:∀ i,i<s.size→chOk s i=true):q84 s=true:=by
  unfold q84
  rw [decide_eq_true h,List.all_eq_true.2 fun i hi=>k i (List.mem_range.1 hi)];rfl
theorem x4o {s:ByteArray} (h:¬ (1≤s.size∧s.size≤16)):q84 s=false:=by
  unfold q84
  rw [decide_eq_false h];rfl
theorem v06 {s:ByteArray} {i:Nat} (h:¬ ((97≤chI s i∧chI s i≤122)∨(0<i∧(chI s i=45∨(48≤chI s i∧chI s i≤57))))):chOk s i=false:=decide_eq_false h
theorem x9j {s:ByteArray} {i:Nat} (h:(97≤chI s i∧chI s i≤122)∨(0<i∧(chI s i=45∨(48≤chI s i∧chI s i≤57)))):chOk s i=true:=decide_eq_true h
section
variable {s:ByteArray} {G:Mem}
set_option maxHeartbeats 2000000 in
theorem x1b:Gives Tryz.prog 52 [.val (.string s)] G (.val (.bool (q84 s))):=by
  refine q07 tab_ok Tryz.func52 ?_
  by_cases hs:1≤s.size∧s.size≤16
  · obtain ⟨s1,s2⟩:=hs
    (repeat ((try (conv=>whnf));(refine stQ ?_)))
    conv=>whnf
    refine q0w tab_ok (fun i=>i≤s.size∧∀ j,j<i→chOk s j=true) (fun (i:Nat)=>[(16,.val (.int .i64 i))]) (fun i=>[]) (fun i=>s.size-i) 0 ⟨Nat.zero_le _,fun j hj=>by omega⟩ ?_ ?_
    · ((refine q0h ?_);(conv=>whnf);(refine q0k (by rfl) (by rfl) flQ ?_))
      exact q0f
    · rintro i ⟨hi,hall⟩
      rcases Nat.lt_or_ge i s.size with h1 |h1
      · have hb:=v18 s i
        have hg:=v05 h1
        have no:=fun h=>x9i h1 (v06 h)
        have yes:((97≤chI s i∧chI s i≤122)∨(0<i∧(chI s i=45∨(48≤chI s i∧chI s i≤57))))→∀ j,j<i+1→chOk s j=true:=fun h j hj=>by
          rcases Nat.lt_or_ge j i with h2 |h2
          · exact hall j h2
          · obtain rfl:j=i:=by omega
            exact x9j h
        simp only [chI] at hb no yes
        (repeat' ((try (conv=>whnf));(first |(refine ⟨chB s i,hg,?_⟩) |(refine stQ ?_) |(with_reducible refine q3h (fun h0=>?_) (fun h0=>?_)))))
        all_goals first
          | (refine ⟨i+1,⟨by omega,yes (by omega)⟩,by omega,?_⟩
             ((refine q0h ?_);(conv=>whnf);(refine q0k (by rfl) (by rfl) flQ ?_))
             exact q0f)
          | exact ⟨by rw [no (by omega)],rfl⟩
      · obtain rfl:i=s.size:=by omega
        (repeat ((try (conv=>whnf));(refine stQ ?_)))
        exact ⟨by rw [x61 ⟨s1,s2⟩ hall],rfl⟩
  · rw [x4o hs]
    by_cases s1:s.size<1
    · (repeat ((try (conv=>whnf));(refine stQ ?_)))
      exact ⟨rfl,rfl⟩
    · (repeat ((try (conv=>whnf));(refine stQ ?_)))
      exact ⟨rfl,rfl⟩
end
end Go.Proofs.YtkicdhaklnmonaaGreat
namespace Go.Proofs.YtkicdhaklnmonaaGreat
open Go.RowKit
set_option maxRecDepth 20000
structure ItemD where
  K:Int
  RA:Option Addr
  rn:Nat
  rq:Nat
  k:Int
  I:Nat→Int
  fx:Int
  fy:Int
  tx:Int
  ty:Int
  r:Int
  A:Option Addr
  n:Nat
  q:Nat
  W:Int
  H:Int
  B:Option Addr
  pn:Nat
  pq:Nat
  C:Option Addr
  sn:Nat
  sq:Nat
  a:Int
  b:Int
  c:Int
  d:Int
  e:Int
  f:Int
  s:Bool
  t:Bool
  al:Int
  bl:Int
  ov:Bool
  iso:Bool
  kn:Bool
abbrev z02 (i:ItemD):AV:=srcA i.k i.I i.fx i.fy i.tx i.ty i.r (.slice i.A i.n i.q) i.W i.H (.slice i.B i.pn i.pq) (.slice i.C i.sn i.sq) i.a i.b i.c i.d i.e i.f i.s i.t
abbrev z9j (i:ItemD):AV:=.agg [.val (.int .i64 i.K),.val (.slice i.RA i.rn i.rq),.val (.int .i64 i.k),.val (.int .u8 (i.I 0)),.val (.int .u8 (i.I 1)),.val (.int .u8 (i.I 2)),.val (.int .u8 (i.I 3)),.val (.int .u8 (i.I 4)),.val (.int .u8 (i.I 5)),.val (.int .u8 (i.I 6)),.val (.int .u8 (i.I 7)),.val (.int .i64 i.fx),.val (.int .i64 i.fy),.val (.int .i64 i.tx),.val (.int .i64 i.ty),.val (.int .i64 i.r),.val (.slice i.A i.n i.q),.val (.int .i64 i.W),.val (.int .i64 i.H),.val (.slice i.B i.pn i.pq),.val (.slice i.C i.sn i.sq),.val (.int .i64 i.a),.val (.int .i64 i.b),.val (.int .i64 i.c),.val (.int .i64 i.d),.val (.int .i64 i.e),.val (.int .i64 i.f),.val (.bool i.s),.val (.bool i.t),.val (.int .u8 i.al),.val (.int .i64 i.bl),.val (.bool i.ov),.val (.bool i.iso),.val (.bool i.kn)]
abbrev ItemD.cells (i:ItemD):List Value:=[.int .i64 i.K,.slice i.RA i.rn i.rq,.int .i64 i.k,.int .u8 (i.I 0),.int .u8 (i.I 1),.int .u8 (i.I 2),.int .u8 (i.I 3),.int .u8 (i.I 4),.int .u8 (i.I 5),.int .u8 (i.I 6),.int .u8 (i.I 7),.int .i64 i.fx,.int .i64 i.fy,.int .i64 i.tx,.int .i64 i.ty,.int .i64 i.r,.slice i.A i.n i.q,.int .i64 i.W,.int .i64 i.H,.slice i.B i.pn i.pq,.slice i.C i.sn i.sq,.int .i64 i.a,.int .i64 i.b,.int .i64 i.c,.int .i64 i.d,.int .i64 i.e,.int .i64 i.f,.bool i.s,.bool i.t,.int .u8 i.al,.int .i64 i.bl,.bool i.ov,.bool i.iso,.bool i.kn]
def nosB (k:Int) (i z p:Bool):Bool:=decide (k=0)&&i&&z&&p
def ItemD.nos (i:ItemD):Bool:=nosB i.k (inkZ (i.I 0) (i.I 1) (i.I 2) (i.I 3) (i.I 4) (i.I 5) (i.I 6) (i.I 7)) (z0e i.fx i.fy i.tx i.ty i.r i.n) (q2l i.W i.H i.pn i.sn i.a i.b i.c i.d i.e i.f i.s i.t)
def q85 (K:Int) (rn:Nat) (nos:Bool) (al bl:Int) (ov iso kn:Bool) (o rE sE:Int):Int :=
  if K<0∨2<K then 14
  else if (K=0∧(iso=true∨kn=true))∨(K=1∧(0<rn∨ov=true∨nos=false))∨(K=2∧(0<rn∨ov=true∨nos=false∨iso=true∨kn=true∨¬ al=0∨¬ bl=0)) then 4
  else if K=2∧o=0 then 18
  else if K=1∧16≤o then 15
  else if bl<0∨12≤bl∨(K=1∧iso=false∧¬ bl=0) then 1
  else if ¬ K=0 then 0
  else if ¬ rE=0 then rE else sE
section
variable {k:Int} {I:Nat→Int} {fx fy tx ty r:Int} {A:Option Addr} {n q:Nat} {W H:Int} {B:Option Addr} {pn pq:Nat} {C:Option Addr} {sn sq:Nat} {a b c d e f:Int} {s t:Bool} {G:Mem}
set_option maxHeartbeats 4000000 in
theorem z6f:Gives Tryz.prog 75 [srcA k I fx fy tx ty r (.slice A n q) W H (.slice B pn pq) (.slice C sn sq) a b c d e f s t] G (.val (.bool (nosB k (inkZ (I 0) (I 1) (I 2) (I 3) (I 4) (I 5) (I 6) (I 7)) (z0e fx fy tx ty r n) (q2l W H pn sn a b c d e f s t)))):=by
  have gz:=z29 (k:=k) (I:=I) (fx:=fx) (fy:=fy) (tx:=tx) (ty:=ty) (r:=r) (A:=A) (n:=n) (q:=q) (W:=W) (H:=H) (B:=B) (pn:=pn) (pq:=pq) (C:=C) (sn:=sn) (sq:=sq) (a:=a) (b:=b) (c:=c) (d:=d) (e:=e) (f:=f) (s:=s) (t:=t) (G:=G)
  have gp:=z15 (W:=W) (H:=H) (B:=B) (pn:=pn) (pq:=pq) (C:=C) (sn:=sn) (sq:=sq) (a:=a) (b:=b) (c:=c) (d:=d) (e:=e) (f:=f) (s:=s) (t:=t) (G:=G)
  have gi:=x6w (I:=I)
  refine q07 tab_ok Tryz.func75 ?_
  generalize z0e fx fy tx ty r n=z at *
  generalize q2l W H pn sn a b c d e f s t=p at *
  generalize inkZ (I 0) (I 1) (I 2) (I 3) (I 4) (I 5) (I 6) (I 7)=i at *
  unfold nosB
  by_cases k0:k=0
  · subst k0
    cases i
    · clear gz gp
      (repeat' ((try (conv=>whnf));(first |(refine stQ ?_) |(with_reducible refine q3h (fun h0=>?_) (fun h0=>?_)))))
      all_goals first |exact ⟨rfl,rfl⟩ |exact absurd (gi.2 ⟨by assumption,by assumption,by assumption,by assumption,by assumption,by assumption,by assumption,by assumption⟩) (by simp)
    · obtain ⟨e0,e1,e2,e3,e4,e5,e6,e7⟩:=gi.1 rfl
      cases z <;> cases p <;> ((repeat ((try (conv=>whnf));(first |(refine stQ ?_) |(with_reducible first |refine q0e (fun vs w=>by kernel_rfl) (by kernel_rfl) (gz) ?_ |refine q0d (fun vs w=>by kernel_rfl) (by kernel_rfl) (gz) ?_ |refine q0e (fun vs w=>by kernel_rfl) (by kernel_rfl) (gp) ?_ |refine q0d (fun vs w=>by kernel_rfl) (by kernel_rfl) (gp) ?_))))) <;> exact ⟨rfl,rfl⟩
  · (repeat ((try (conv=>whnf));(refine stQ ?_)))
    exact ⟨by rw [decide_eq_false k0];rfl,rfl⟩
end
section
variable {i:ItemD} {G:Mem} {o rE sE:Int} {m:Nat}
theorem x62:Gives Tryz.prog 75 [z02 i] G (.val (.bool i.nos)):=z6f
set_option maxHeartbeats 16000000 in
theorem q5s (hR:Gives Tryz.prog 48 [.val (.slice i.RA i.rn i.rq)] G (.val (.int .i64 rE))) (hS:Gives Tryz.prog 76 [z02 i,.val (.int .i64 m)] G (.val (.int .i64 sE))) :
    Gives Tryz.prog 54 [z9j i,.val (.int .i64 m),.val (.int .i64 o)] G (.val (.int .i64 (q85 i.K i.rn i.nos i.al i.bl i.ov i.iso i.kn o rE sE))):=by
  have gn:=x62 (i:=i) (G:=G)
  unfold ItemD.nos at gn ⊢
  obtain ⟨K,RA,rn,rq,k,I,fx,fy,tx,ty,r,A,n,q,W,H,B,pn,pq,C,sn,sq,a,b,c,d,e,f,s,t,al,bl,ov,iso,kn⟩:=i
  simp only [z9j,z02] at hS gn ⊢
  dsimp only at *
  refine q07 tab_ok Tryz.func54 ?_
  generalize nosB k (inkZ (I 0) (I 1) (I 2) (I 3) (I 4) (I 5) (I 6) (I 7)) (z0e fx fy tx ty r n) (q2l W H pn sn a b c d e f s t)=z at *
  by_cases k0:K=0
  · subst k0
    clear gn
    cases iso <;> cases kn <;> ((repeat' ((try (conv=>whnf));(first |(refine stQ ?_) |(with_reducible first |refine q0e (fun vs w=>by kernel_rfl) (by kernel_rfl) (hR) ?_ |refine q0d (fun vs w=>by kernel_rfl) (by kernel_rfl) (hR) ?_ |refine q0e (fun vs w=>by kernel_rfl) (by kernel_rfl) (hS) ?_ |refine q0d (fun vs w=>by kernel_rfl) (by kernel_rfl) (hS) ?_ |refine q3h (fun h0=>?_) (fun h0=>?_)))))) <;> exact ⟨by first |rfl |(rw [AV.val.injEq,Value.int.injEq];exact ⟨rfl,by (try dsimp only at *);unfold q85;simp <;> (repeat' split) <;> omega⟩),rfl⟩
  clear hR hS
  by_cases k1:K=1
  · subst k1
    cases z <;> cases iso <;> cases ov <;> ((repeat' ((try (conv=>whnf));(first |(refine stQ ?_) |(with_reducible first |refine q0e (fun vs w=>by kernel_rfl) (by kernel_rfl) (gn) ?_ |refine q0d (fun vs w=>by kernel_rfl) (by kernel_rfl) (gn) ?_ |refine q3h (fun h0=>?_) (fun h0=>?_)))))) <;> exact ⟨by first |rfl |(rw [AV.val.injEq,Value.int.injEq];exact ⟨rfl,by (try dsimp only at *);unfold q85;simp <;> (repeat' split) <;> omega⟩),rfl⟩
  by_cases k2:K=2
  · subst k2
    cases z <;> cases iso <;> cases kn <;> cases ov <;> ((repeat' ((try (conv=>whnf));(first |(refine stQ ?_) |(with_reducible first |refine q0e (fun vs w=>by kernel_rfl) (by kernel_rfl) (gn) ?_ |refine q0d (fun vs w=>by kernel_rfl) (by kernel_rfl) (gn) ?_ |refine q3h (fun h0=>?_) (fun h0=>?_)))))) <;> exact ⟨by first |rfl |(rw [AV.val.injEq,Value.int.injEq];exact ⟨rfl,by (try dsimp only at *);unfold q85;simp <;> (repeat' split) <;> omega⟩),rfl⟩
  · clear gn
    ((repeat' ((try (conv=>whnf));(first |(refine stQ ?_) |(with_reducible refine q3h (fun h0=>?_) (fun h0=>?_)))))) <;> exact ⟨by rw [AV.val.injEq,Value.int.injEq];exact ⟨rfl,by (try dsimp only at *);unfold q85;rw [if_pos (by omega)]⟩,rfl⟩
end
end Go.Proofs.YtkicdhaklnmonaaGreat
namespace Go.Proofs.YtkicdhaklnmonaaGreat
open Go.RowKit
set_option maxRecDepth 20000
def q3v (e:Nat→Int):Nat→Int
  | 0=>0
  | n+1=>if q3v e n=0 then e n else q3v e n
theorem z6g {e:Nat→Int} {k:Nat} (h0:q3v e k=0) (h:e k=0):q3v e (k+1)=0:=by
  simp [q3v,h0,h]
theorem z4j {e:Nat→Int} {k:Nat} (h0:q3v e k=0) (h:¬ e k=0):∀ {n:Nat},k<n→q3v e n=e k:=by
  intro n hn
  induction n with
  | zero=>omega
  | succ n ih =>
    rcases Nat.lt_or_ge k n with h1 |h1
    · have:=ih h1
      simp only [q3v,this]
      rw [if_neg h]
    · obtain rfl:k=n:=by omega
      simp only [q3v,h0];rfl
def StrM (G:Mem) (A:Option Addr) (n:Nat) (S:Nat→ByteArray):Prop:=∀ x,x<n→∃ p:Addr,A=some p∧∀ K:List Value→Prop,K [.string (S x)]→OldCells G (p.add (x*1)) 1 K
def ItemsM (G:Mem) (A:Option Addr) (n:Nat) (I:Nat→ItemD):Prop:=∀ x,x<n→∃ p:Addr,A=some p∧∀ K:List Value→Prop,K (I x).cells→OldCells G (p.add (x*34)) 34 K
def z0g (a b:ByteArray):Bool:=a.toList==b.toList
theorem x4p (a b:ByteArray):z0g a b=z0g b a:=by
  unfold z0g
  rw [Bool.eq_iff_iff,beq_iff_eq,beq_iff_eq]
  exact eq_comm
def strB (S:Nat→ByteArray) (n:Nat) (s:ByteArray):Bool:=(List.range n).any fun k=>z0g (S k) s
theorem x9k {S:Nat→ByteArray} {n k:Nat} {s:ByteArray} (h:k<n) (e:z0g (S k) s=true):strB S n s=true:=by
  unfold strB
  rw [List.any_eq_true]
  exact ⟨k,List.mem_range.2 h,e⟩
theorem v07 {S:Nat→ByteArray} {n:Nat} {s:ByteArray} (h:∀ k,k<n→z0g (S k) s=false):strB S n s=false:=by
  unfold strB
  rw [List.any_eq_false]
  intro k hk
  rw [h k (List.mem_range.1 hk)];simp
def q74 (S:Nat→ByteArray) (i:Nat):Int:=if q84 (S i)=true then (if strB S i (S i)=true then 7 else 0) else 6
def q15 (K:Nat→Int):Nat→Int
  | 0=>0
  | n+1=>q15 K n+(if K n=1 then 1 else if K n=2 then -1 else 0)
def z33 (W H:Int) (m:Nat) (S:Nat→ByteArray) (n:Nat) (K:Nat→Int) (E:Nat→Int→Int):Int :=
  if W<1∨256<W∨H<1∨256<H then 3 else if m<1∨8<m then 2 else if ¬ q3v (q74 S) m=0 then q3v (q74 S) m else if 5000<n then 2
  else if ¬ q3v (fun x=>E x (q15 K x)) n=0 then q3v (fun x=>E x (q15 K x)) n else if 0<q15 K n then 18 else 0
abbrev z10 (W H:Int) (SA:Option Addr) (m sq:Nat) (IA:Option Addr) (n iq:Nat):AV:=.agg [.val (.int .i64 W),.val (.int .i64 H),.val (.slice SA m sq),.val (.slice IA n iq)]
theorem x9l {G:Mem} {a:Addr} {n:Nat} {vs:List Value} (ca:∀ K:List Value→Prop,K vs→OldCells G a n K) {j:Nat} {v:Value} (hj:vs[j]? = some v):G.cell? (a.add j)=some v:=by
  obtain ⟨us,hc,hk⟩:=ca (fun us=>us=vs) rfl
  subst hk
  exact hc.2 j v hj
theorem cut0 {c k:Nat} {A:Option Addr}:(if c=(0:Int).toNat then A else A.map fun x=>x.add ((0:Int).toNat * k))=A:=by
  split
  · rfl
  · cases A with
    | none=>rfl
    | some p=>simp [Addr.add]
section
variable {G:Mem} {A:Option Addr} {n c:Nat} {S:Nat→ByteArray} {s:ByteArray}
set_option maxHeartbeats 4000000 in
theorem z7f (hS:StrM G A n S) (hn:n≤5000):Gives Tryz.prog 53 [.val (.slice A n c),.val (.string s)] G (.val (.bool (strB S n s))):=by
  refine q07 tab_ok Tryz.func53 ?_
  (repeat ((try (conv=>whnf));(first |(refine stQ ?_) |(with_reducible refine q0g tab_ok Tryz.func74 (fun vs w=>by kernel_rfl) (by rfl) ?_))))
  conv=>whnf
  refine q0w tab_ok (fun i=>i≤n∧∀ k,k<i→z0g (S k) s=false) (fun (i:Nat)=>[(8,.val (.int .i64 i))]) (fun i=>[]) (fun i=>n-i) 0 ⟨Nat.zero_le _,fun k hk=>by omega⟩ ?_ ?_
  · ((refine q0h ?_);(conv=>whnf);(refine q0k (by rfl) (by rfl) flQ ?_))
    exact q0f
  · rintro i ⟨hi,hall⟩
    rcases Nat.lt_or_ge i n with h1 |h1
    · obtain ⟨p,rfl,ca⟩:=hS i h1
      have hsw:=x4p (S i) s
      cases hq:z0g (S i) s
      · have hq':(s.toList==(S i).toList)=false:=by rw [← hq,hsw];rfl
        (repeat ((try (conv=>whnf));(first |(refine ca _ ?_) |(refine stQ ?_))))
        refine ⟨i+1,⟨by omega,fun k hk=>?_⟩,by omega,?_⟩
        · rcases Nat.lt_or_ge k i with h2 |h2
          · exact hall k h2
          · obtain rfl:k=i:=by omega
            exact hq
        · ((refine q0h ?_);(conv=>whnf);(refine q0k (by rfl) (by rfl) flQ ?_))
          exact q0f
      · have hq':(s.toList==(S i).toList)=true:=by rw [← hq,hsw];rfl
        (repeat ((try (conv=>whnf));(first |(refine ca _ ?_) |(refine stQ ?_))))
        exact ⟨by rw [x9k h1 hq];first |rfl |(rw [decide_eq_true (by omega)]),rfl⟩
    · obtain rfl:i=n:=by omega
      (repeat ((try (conv=>whnf));(refine stQ ?_)))
      exact ⟨by rw [v07 hall];first |rfl |(rw [decide_eq_false (by omega)]),rfl⟩
end
section
variable {G:Mem} {W H:Int} {SA:Option Addr} {m sq:Nat} {IA:Option Addr} {n iq:Nat} {S:Nat→ByteArray} {I:Nat→ItemD} {E:Nat→Int→Int}
structure DepthOk (K:Nat→Int) (E:Nat→Int→Int) (n:Nat):Prop where
  up:∀ x o,x<n→E x o=0→K x=1→o<16
  dn:∀ x o,x<n→E x o=0→K x=2→¬ o=0
theorem StrM.le {A:Option Addr} {n k:Nat} (h:StrM G A n S) (hk:k≤n):StrM G A k S:=fun x hx=>h x (by omega)
set_option maxHeartbeats 16000000 in
theorem z7g (hS:StrM G SA m S) (hI:ItemsM G IA n I) (hsq:m≤sq) (hE:(1≤m∧m≤8)→∀ x,x<n→∀ o,0≤o→o≤16→Gives Tryz.prog 54 [z9j (I x),.val (.int .i64 m),.val (.int .i64 o)] G (.val (.int .i64 (E x o))))
    (hD:DepthOk (fun x=>(I x).K) E n) (hn:n≤9223372036854775807) (hm:m≤9223372036854775807) :
    Gives Tryz.prog 41 [z10 W H SA m sq IA n iq] G (.val (.int .i64 (z33 W H m S n (fun x=>(I x).K) E))):=by
  refine q07 tab_ok Tryz.func41 ?_
  by_cases w0:W<1∨256<W∨H<1∨256<H
  · unfold z33;rw [if_pos w0]
    clear hE
    (repeat' ((try (conv=>whnf));(first |(refine stQ ?_) |(with_reducible refine q3h (fun h0=>?_) (fun h0=>?_)))))
    all_goals exact ⟨rfl,rfl⟩
  by_cases m0:m<1∨8<m
  · unfold z33;rw [if_neg w0,if_pos m0]
    clear hE
    (repeat' ((try (conv=>whnf));(first |(refine stQ ?_) |(with_reducible refine q3h (fun h0=>?_) (fun h0=>?_)))))
    all_goals exact ⟨rfl,rfl⟩
  have hE:=hE (by omega)
  have hv:z33 W H m S n (fun x=>(I x).K) E=if ¬ q3v (q74 S) m=0 then q3v (q74 S) m else if 5000<n then 2 else if ¬ q3v (fun x=>E x (q15 (fun x=>(I x).K) x)) n=0 then q3v (fun x=>E x (q15 (fun x=>(I x).K) x)) n else if 0<q15 (fun x=>(I x).K) n then 18 else 0:=by
    unfold z33;rw [if_neg w0,if_neg m0]
  generalize z33 W H m S n (fun x=>(I x).K) E=V at *
  (repeat ((try (conv=>whnf));(refine stQ ?_)))
  conv=>whnf
  refine q0w tab_ok (fun i=>i≤m∧q3v (q74 S) i=0) (fun (i:Nat)=>[(40,.val (.int .i64 i))]) (fun i=>[.cells 49 [.val (.int .i64 W),.val (.int .i64 H),.val (.slice SA m sq),.val (.slice IA n iq)]]) (fun i=>m-i) 0 ⟨Nat.zero_le _,rfl⟩ ?_ ?_
  · ((refine q0h ?_);(conv=>whnf);(refine q0k (by rfl) (by rfl) flQ ?_))
    exact q0a (by exact flQ) q0f
  · rintro i ⟨hi,h0⟩
    rcases Nat.lt_or_ge i m with h1 |h1
    · obtain ⟨p,rfl,ca⟩:=hS i h1
      have gn:=x1b (s:=S i) (G:=G)
      have gc:∀ A' n' c',A'=some p∧n'=i→Gives Tryz.prog 53 [.val (.slice A' n' c'),.val (.string (S i))] G (.val (.bool (strB S i (S i)))):=by
        rintro A' n' c' ⟨rfl,rfl⟩
        exact z7f (hS.le (by omega)) (by omega)
      have first:¬ q74 S i=0→V=q74 S i:=fun h=>by
        have:=z4j h0 h h1
        rw [hv,this,if_pos h]
      have next:=fun h=>z6g (e:=q74 S) (k:=i) h0 h
      unfold q74 at first
      clear hE
      cases hb:q84 (S i)
      · rw [hb] at gn first
        rw [first (by simp)]
        (repeat ((try (conv=>whnf));(first |(refine ca _ ?_) |(refine stQ ?_) |(with_reducible first |refine q0e (fun vs w=>by kernel_rfl) (by kernel_rfl) (gn) ?_ |refine q0d (fun vs w=>by kernel_rfl) (by kernel_rfl) (gn) ?_))))
        exact ⟨rfl,rfl⟩
      · rw [hb] at gn first
        cases hc:strB S i (S i)
        · rw [hc] at gc
          have nx:=next (by unfold q74;rw [hb,hc];rfl)
          (repeat ((try (conv=>whnf));(first |(refine ca _ ?_) |(with_reducible refine q0e (fun vs w=>by kernel_rfl) (by kernel_rfl) (gc _ _ _ ⟨cut0,by simp⟩) ?_) |(refine stQ ?_) |(with_reducible first |refine q0e (fun vs w=>by kernel_rfl) (by kernel_rfl) (gn) ?_ |refine q0d (fun vs w=>by kernel_rfl) (by kernel_rfl) (gn) ?_))))
          refine ⟨i+1,⟨by omega,nx⟩,by omega,?_⟩
          ((refine q0h ?_);(conv=>whnf);(refine q0k (by rfl) (by rfl) flQ ?_))
          exact q0a (by exact flQ) q0f
        · rw [hc] at gc first
          rw [first (by simp)]
          (repeat ((try (conv=>whnf));(first |(refine ca _ ?_) |(with_reducible refine q0e (fun vs w=>by kernel_rfl) (by kernel_rfl) (gc _ _ _ ⟨cut0,by simp⟩) ?_) |(refine stQ ?_) |(with_reducible first |refine q0e (fun vs w=>by kernel_rfl) (by kernel_rfl) (gn) ?_ |refine q0d (fun vs w=>by kernel_rfl) (by kernel_rfl) (gn) ?_))))
          exact ⟨rfl,rfl⟩
    · obtain rfl:i=m:=by omega
      by_cases n0:5000<n
      · rw [show V=2 by rw [hv,if_neg (by simp [h0]),if_pos n0]]
        (repeat ((try (conv=>whnf));(refine stQ ?_)))
        exact ⟨rfl,rfl⟩
      rw [if_neg (by simp [h0]),if_neg n0] at hv
      (repeat ((try (conv=>whnf));(refine stQ ?_)))
      conv=>whnf
      refine q0w tab_ok (fun k=>k≤n∧q3v (fun x=>E x (q15 (fun x=>(I x).K) x)) k=0∧0≤q15 (fun x=>(I x).K) k∧q15 (fun x=>(I x).K) k≤16) (fun (k:Nat)=>[(62,.val (.int .i64 k)),(5,.val (.int .i64 (q15 (fun x=>(I x).K) k)))]) (fun k=>[.cells 49 [.val (.int .i64 W),.val (.int .i64 H),.val (.slice SA i sq),.val (.slice IA n iq)]]) (fun k=>n-k) 0 ⟨Nat.zero_le _,rfl,by simp [q15],by simp [q15]⟩ ?_ ?_
      · ((refine q0h ?_);(conv=>whnf);(refine q0k (by rfl) (by rfl) flQ ?_))
        exact q0a (by exact flQ) q0f
      · rintro k ⟨hk,hs,hd1,hd2⟩
        rcases Nat.lt_or_ge k n with h2 |h2
        · obtain ⟨p,rfl,ca⟩:=hI k h2
          have gi:=hE k h2 (q15 (fun x=>(I x).K) k) hd1 hd2
          have first:¬ E k (q15 (fun x=>(I x).K) k)=0→V=E k (q15 (fun x=>(I x).K) k):=fun h=>by
            have:=z4j (e:=fun x=>E x (q15 (fun x=>(I x).K) x)) hs h h2
            rw [hv,this,if_pos h]
          have next:=fun h=>z6g (e:=fun x=>E x (q15 (fun x=>(I x).K) x)) (k:=k) hs h
          have up:=hD.up k (q15 (fun x=>(I x).K) k) h2
          have dn:=hD.dn k (q15 (fun x=>(I x).K) k) h2
          have hdd:q15 (fun x=>(I x).K) (k+1)=q15 (fun x=>(I x).K) k+(if (I k).K=1 then 1 else if (I k).K=2 then -1 else 0):=rfl
          generalize hgo:q15 (fun x=>(I x).K) (k+1)=o' at *
          generalize q15 (fun x=>(I x).K) k=o at *
          (try dsimp only at next);(try dsimp only at up);(try dsimp only at dn)
          generalize E k o=e at *
          clear hE hD hI hS
          by_cases e0:e=0
          · subst e0
            by_cases K1:(I k).K=1
            · rw [if_pos K1] at hdd
              have:=up rfl K1
              (repeat ((try (conv=>whnf));(first |(refine ca _ ?_) |(refine stQ ?_) |(with_reducible first |refine q0e (fun vs w=>by kernel_rfl) (by kernel_rfl) (gi) ?_ |refine q0d (fun vs w=>by kernel_rfl) (by kernel_rfl) (gi) ?_))))
              refine ⟨k+1,⟨by omega,next rfl,by rw [hgo];omega,by rw [hgo];omega⟩,by omega,?_⟩
              rw [hgo]
              ((refine q0h ?_);(conv=>whnf);(refine q0k (by rfl) (by rfl) flQ ?_))
              exact q0a (by exact flQ) q0f
            by_cases K2:(I k).K=2
            · rw [if_neg K1,if_pos K2] at hdd
              have:=dn rfl K2
              (repeat ((try (conv=>whnf));(first |(refine ca _ ?_) |(refine stQ ?_) |(with_reducible first |refine q0e (fun vs w=>by kernel_rfl) (by kernel_rfl) (gi) ?_ |refine q0d (fun vs w=>by kernel_rfl) (by kernel_rfl) (gi) ?_))))
              refine ⟨k+1,⟨by omega,next rfl,by rw [hgo];omega,by rw [hgo];omega⟩,by omega,?_⟩
              rw [hgo]
              ((refine q0h ?_);(conv=>whnf);(refine q0k (by rfl) (by rfl) flQ ?_))
              exact q0a (by exact flQ) q0f
            · rw [if_neg K1,if_neg K2] at hdd
              (repeat ((try (conv=>whnf));(first |(refine ca _ ?_) |(refine stQ ?_) |(with_reducible first |refine q0e (fun vs w=>by kernel_rfl) (by kernel_rfl) (gi) ?_ |refine q0d (fun vs w=>by kernel_rfl) (by kernel_rfl) (gi) ?_))))
              refine ⟨k+1,⟨by omega,next rfl,by rw [hgo];omega,by rw [hgo];omega⟩,by omega,?_⟩
              rw [hgo]
              ((refine q0h ?_);(conv=>whnf);(refine q0k (by rfl) (by rfl) flQ ?_))
              exact q0a (by exact flQ) q0f
          · rw [first e0]
            (repeat ((try (conv=>whnf));(first |(refine ca _ ?_) |(refine stQ ?_) |(with_reducible first |refine q0e (fun vs w=>by kernel_rfl) (by kernel_rfl) (gi) ?_ |refine q0d (fun vs w=>by kernel_rfl) (by kernel_rfl) (gi) ?_))))
            exact ⟨rfl,rfl⟩
        · obtain rfl:k=n:=by omega
          rw [if_neg (by simp [hs])] at hv
          clear hE hD hI hS
          generalize q15 (fun x=>(I x).K) k=o at *
          by_cases o0:0<o
          · rw [if_pos o0] at hv
            rw [hv]
            (repeat ((try (conv=>whnf));(refine stQ ?_)))
            exact ⟨rfl,rfl⟩
          · rw [if_neg o0] at hv
            rw [hv]
            (repeat ((try (conv=>whnf));(refine stQ ?_)))
            exact ⟨rfl,rfl⟩
end
end Go.Proofs.YtkicdhaklnmonaaGreat
