/-
  Merged: XRegOps, XClip, XClipLaw, XZeros, XGrow, XConcat, XGivesV, XStand, XBracket, XCut, XTiny, XListH.
-/
import Derived.Test.YtkicdhaklnmonaaGreatMrg19
import Derived.Test.YtkicdhaklnmonaaGreatCombine
import Derived.Test.YtkicdhaklnmonaaGreatMrg16
import Derived.Test.YtkicdhaklnmonaaGreatMrg34
import Derived.Test.YtkicdhaklnmonaaGreatMrg32
import Derived.Test.YtkicdhaklnmonaaGreatMrg14
import Derived.Test.YtkicdhaklnmonaaGreatMrg13
import Derived.Test.YtkicdhaklnmonaaGreatMrg20
import Derived.Test.YtkicdhaklnmonaaGreatMrg25
import Derived.Test.YtkicdhaklnmonaaGreatMrg33
set_option linter.unusedVariables false
set_option linter.unusedSimpArgs false
set_option linter.unnecessarySimpa false
namespace Go.Proofs.YtkicdhaklnmonaaGreat
open Go.RowKit
set_option maxRecDepth 20000
section
variable {A B:Option Addr} {La Lb:List Run} {c d:Nat} {G:Mem}
end
end Go.Proofs.YtkicdhaklnmonaaGreat
namespace Go.Proofs.YtkicdhaklnmonaaGreat
open Go.RowKit Go.Deep
set_option maxRecDepth 20000
abbrev lisW (W H:Int) (SA:Option Addr) (m sq:Nat) (a:AV):AV:=.agg [.val (.int .i64 W),.val (.int .i64 H),.val (.slice SA m sq),a]
abbrev lisP (W H:Int) (SA:Option Addr) (m sq:Nat) (e:Int) (a:AV):AV:=.tup [lisW W H SA m sq a,.val (.int .i64 e)]
theorem x5k (W H:Int) (SA:Option Addr) (m sq:Nat) (e:Int):Wraps (lisP W H SA m sq e):=.lastPair [.val (.int .i64 W),.val (.int .i64 H),.val (.slice SA m sq)] (.val (.int .i64 e)) (fun _=>rfl) rfl rfl
abbrev z7r:AV:=.agg [.val (.int .i64 0),.val (.int .i64 0),.val (.slice none 0 0),.val (.slice none 0 0)]
section
variable {G:Mem} {W H er:Int} {SA IA RB:Option Addr} {m sq n iq rd:Nat} {S:Nat→Nat→Value} {I:Nat→ItemD} {gr gs gp gf:Nat→Nat→Nat→Value} {L:List Run}
end
end Go.Proofs.YtkicdhaklnmonaaGreat
namespace Go.Proofs.YtkicdhaklnmonaaGreat
open Go.RowKit Go.Deep
section
variable {X Y:CellX} {p q:Nat→Prop}
end
structure SameI (i j:ItemD):Prop where
  K:j.K=i.K
  al:j.al=i.al
  bl:j.bl=i.bl
  ov:j.ov=i.ov
  iso:j.iso=i.iso
  kn:j.kn=i.kn
section
variable {I J:Nat→ItemD} {f:Nat→SrcF} {R R':Nat→List Run} {n m:Nat} {x y:Int} {G G':Mem}
end
end Go.Proofs.YtkicdhaklnmonaaGreat
namespace Go.Proofs.YtkicdhaklnmonaaGreat
open Go.RowKit
end Go.Proofs.YtkicdhaklnmonaaGreat
namespace Go.Proofs.YtkicdhaklnmonaaGreat
open Go.RowKit
set_option maxRecDepth 20000
end Go.Proofs.YtkicdhaklnmonaaGreat
namespace Go.Proofs.YtkicdhaklnmonaaGreat
open Go.RowKit
set_option maxRecDepth 20000
theorem ElsM.cut {G:Mem} {A:Option Addr} {n cap i k:Nat} {c:Nat→List Value} (h:ElsM G A 34 n c) (hi:i≤n) (hn:n≤cap) (hk:i+k≤n):ElsM G (if cap=((i:Nat):Int).toNat then A else A.map fun x=>x.add (((i:Nat):Int).toNat * 34)) 34 k fun x=>c (i+x):=by
  rw [Int.toNat_natCast]
  split
  · have:k=0:=by omega
    subst this
    exact .none
  · exact (h.drop hi).less (by omega)
end Go.Proofs.YtkicdhaklnmonaaGreat
namespace Go.Proofs.YtkicdhaklnmonaaGreat
open Go.RowKit
end Go.Proofs.YtkicdhaklnmonaaGreat
namespace Go.Proofs.YtkicdhaklnmonaaGreat
open Go.RowKit
section
variable {α:Type} {enc:α→List Value} {k:Nat}
end
end Go.Proofs.YtkicdhaklnmonaaGreat
namespace Go.Proofs.YtkicdhaklnmonaaGreat
open Go.RowKit Go.Deep
set_option maxRecDepth 20000
section
variable {G:Mem} {W H er:Int} {SA IA:Option Addr} {m sq n iq i j:Nat} {S:Nat→Nat→Value} {I:Nat→ItemD} {gr gs gp gf:Nat→Nat→Nat→Value} {g:ItemD} {K:AV→List Blk→Mem→Prop}
end
end Go.Proofs.YtkicdhaklnmonaaGreat
namespace Go.Proofs.YtkicdhaklnmonaaGreat
open Go.RowKit
set_option maxRecDepth 20000
theorem x34 (x lo hi:Int) (h:-1000000≤lo∧lo≤hi∧hi≤1000000):∃ s:Int,(lo≤s∧s≤hi)∧∀ G,Gives Tryz.prog 14 [.val (.int .i64 x),.val (.int .i64 lo),.val (.int .i64 hi)] G (.val (.int .i64 s)):=by
  have h1:=Int.tmod_lt_of_pos x (show (0:Int)<hi-lo+1 by omega)
  have h2:-(hi-lo+1)<x.tmod (hi-lo+1):=Int.lt_tmod_of_pos x (by omega)
  have h3:=Int.tmod_lt_of_pos (x.tmod (hi-lo+1)+(hi-lo+1)) (show (0:Int)<hi-lo+1 by omega)
  have h4:0≤(x.tmod (hi-lo+1)+(hi-lo+1)).tmod (hi-lo+1):=Int.tmod_nonneg _ (by omega)
  refine ⟨lo+(x.tmod (hi-lo+1)+(hi-lo+1)).tmod (hi-lo+1),by omega,fun G=>?_⟩
  refine q01 tab_ok Tryz.func14 ?_
  (repeat ((try (conv=>whnf));(refine stQ ?_)))
  exact ⟨rfl,rfl⟩
end Go.Proofs.YtkicdhaklnmonaaGreat
namespace Go.Proofs.YtkicdhaklnmonaaGreat
open Go.RowKit
set_option maxRecDepth 20000
theorem SliceG.less {P:Program} {w:World} {e:TypeId} {A:Option Addr} {n m:Nat} {g:Nat→Nat→Value} (h:SliceG P w e A n g) (hm:m≤n):SliceG P w e A m g:=fun h0=>by
  obtain ⟨b,off,h1,h2,h3⟩:=h (by omega)
  exact ⟨b,off,h1,h2,fun x hx=>h3 x (by omega)⟩
end Go.Proofs.YtkicdhaklnmonaaGreat
namespace Go.Proofs.YtkicdhaklnmonaaGreat
open Go.RowKit Go.Deep
set_option maxRecDepth 20000
theorem q3x {G:Mem}:Gives Tryz.prog 20 [z7r] G (.val (.bool true)):=by
  refine q01 tab_ok Tryz.func20 ?_
  (repeat ((try (conv=>whnf));(refine stQ ?_)))
  exact ⟨rfl,rfl⟩
set_option maxHeartbeats 4000000 in
theorem z7s {G:Mem} {i j:ItemD} (h:SameI i j):Gives Tryz.prog 21 [q7f j,q7f i] G (.val (.bool true)):=by
  obtain ⟨K,RA,rn,rq,k,I,fx,fy,tx,ty,r,A,n,q,W,H,B,pn,pq,C,sn,sq,a,b,c,d,e,f,s,t,al,bl,ov,iso,kn⟩:=i
  obtain ⟨K',RA',rn',rq',k',I',fx',fy',tx',ty',r',A',n',q',W',H',B',pn',pq',C',sn',sq',a',b',c',d',e',f',s',t',al',bl',ov',iso',kn'⟩:=j
  obtain ⟨h1,h2,h3,h4,h5,h6⟩:=h
  dsimp only at h1 h2 h3 h4 h5 h6
  subst h1;subst h2;subst h3;subst h4;subst h5;subst h6
  refine q01 tab_ok Tryz.func21 ?_
  simp only [q7f]
  cases ov' <;> cases iso' <;> cases kn' <;> ((repeat ((try (conv=>whnf));(first |(with_reducible refine q95 (by kernel_rfl) ?_) |(refine stQ ?_))))) <;> exact ⟨rfl,rfl⟩
structure LisD where
  I:Nat→ItemD
  gr:Nat→Nat→Nat→Value
  gs:Nat→Nat→Nat→Value
  gp:Nat→Nat→Nat→Value
  gf:Nat→Nat→Nat→Value
  sE:Nat→Int
  f:Nat→SrcF
def LisD.R (d:LisD) (x:Nat):List Run:=q2h (fun j=>⟨valI (d.gr x j 0),valI (d.gr x j 1),valI (d.gr x j 2)⟩) (d.I x).rn
def LisD.p (d:LisD) (x:Nat):Int × Int:=(errL (d.R x),d.sE x)
section
variable {G:Mem} {B:Option Addr} {n m:Nat} {d:LisD}
theorem x35 {A:Option Addr} {g:Nat→Nat→Value} (h:SliceM Tryz.prog G 9 A n g):StrM G A n (fun x=>valS (g x 0)):=by
  have e1:Tryz.prog.cellsOf 9=1:=by kernel_rfl
  have ef:flat Tryz.prog 20 9=[.string]:=by kernel_rfl
  intro x hx
  obtain ⟨⟨w0,A0,h0⟩,h1⟩:=h
  obtain ⟨s,hs,_⟩:=h0.seen (j:=0) (by kernel_rfl) hx (by rw [ef];rfl)
  obtain ⟨b,off,rfl,hc⟩:=h1 (by omega)
  rw [e1] at hc
  refine ⟨⟨b,off,none⟩,rfl,fun K k=>?_⟩
  refine q10 _ rfl (fun j u hj=>?_) k
  rw [q0m,q0m]
  match j,hj with
  | 0,hj =>
    simp at hj
    rw [← hj,hc x hx 0 (by omega),hs]
    rfl
end
end Go.Proofs.YtkicdhaklnmonaaGreat
