/-
  Merged: XGradientRamps, XRootE, XPlace, XPlaces, XInvE, XImages, XSample, XImageE, XListS.
-/
import Derived.Test.YtkicdhaklnmonaaGreatMrg21
import Derived.Test.YtkicdhaklnmonaaGreatMrg11
import Derived.Test.YtkicdhaklnmonaaGreatMrg9
import Derived.Test.YtkicdhaklnmonaaGreatMrg13
import Derived.Test.YtkicdhaklnmonaaGreatMrg5
import Derived.Test.YtkicdhaklnmonaaGreatMrg12
set_option linter.unusedVariables false
set_option linter.unusedSimpArgs false
set_option linter.unnecessarySimpa false
namespace Go.Proofs.YtkicdhaklnmonaaGreat.gradientRamps
open Go.RowKit
set_option maxRecDepth 20000
def inks (B:Nat→Int):AV:=.agg [.val (.int .u8 (B 0)),.val (.int .u8 (B 1)),.val (.int .u8 (B 2)),.val (.int .u8 (B 3)),.val (.int .u8 (B 4)),.val (.int .u8 (B 5)),.val (.int .u8 (B 6)),.val (.int .u8 (B 7))]
end Go.Proofs.YtkicdhaklnmonaaGreat.gradientRamps
namespace Go.Proofs.YtkicdhaklnmonaaGreat
open Go.RowKit
set_option maxRecDepth 20000
end Go.Proofs.YtkicdhaklnmonaaGreat
namespace Go.Proofs.YtkicdhaklnmonaaGreat
open Go.RowKit
set_option maxRecDepth 20000
abbrev srcA (k:Int) (I:Nat→Int) (fx fy tx ty r:Int) (st:Value) (W H:Int) (px sf:Value) (a b c d e f:Int) (s t:Bool):AV :=
  .agg [.val (.int .i64 k),.val (.int .u8 (I 0)),.val (.int .u8 (I 1)),.val (.int .u8 (I 2)),.val (.int .u8 (I 3)),.val (.int .u8 (I 4)),.val (.int .u8 (I 5)),.val (.int .u8 (I 6)),.val (.int .u8 (I 7)),.val (.int .i64 fx),.val (.int .i64 fy),.val (.int .i64 tx),.val (.int .i64 ty),.val (.int .i64 r),.val st,.val (.int .i64 W),.val (.int .i64 H),.val px,.val sf,.val (.int .i64 a),.val (.int .i64 b),.val (.int .i64 c),.val (.int .i64 d),.val (.int .i64 e),.val (.int .i64 f),.val (.bool s),.val (.bool t)]
end Go.Proofs.YtkicdhaklnmonaaGreat
namespace Go.Proofs.YtkicdhaklnmonaaGreat.gradientPlaces
open Go.RowKit Go.Proofs.YtkicdhaklnmonaaGreat.gradientRamps
set_option maxRecDepth 20000
theorem x7e {k:Int} {I:Nat→Int} {fx fy tx ty r:Int} {st:Value} {W H:Int} {px sf:Value} {a b c d e f:Int} {s t:Bool} {β:Nm} (vs:List Value)
    (h:AV.rels β [srcA k I fx fy tx ty r st W H px sf a b c d e f s t] vs):vs=[.agg #[.int .i64 k,.int .u8 (I 0),.int .u8 (I 1),.int .u8 (I 2),.int .u8 (I 3),.int .u8 (I 4),.int .u8 (I 5),.int .u8 (I 6),.int .u8 (I 7),.int .i64 fx,.int .i64 fy,.int .i64 tx,.int .i64 ty,.int .i64 r,st,.int .i64 W,.int .i64 H,px,sf,.int .i64 a,.int .i64 b,.int .i64 c,.int .i64 d,.int .i64 e,.int .i64 f,.bool s,.bool t]]:=by
  unfold srcA at h
  simp only [AV.rels] at h
  obtain ⟨y,zs,rfl,h2,rfl⟩:=h
  rw [AV.rel] at h2
  obtain ⟨cs,rfl,h3⟩:=h2
  have:=q07 (m:=[.int .i64 k,.int .u8 (I 0),.int .u8 (I 1),.int .u8 (I 2),.int .u8 (I 3),.int .u8 (I 4),.int .u8 (I 5),.int .u8 (I 6),.int .u8 (I 7),.int .i64 fx,.int .i64 fy,.int .i64 tx,.int .i64 ty,.int .i64 r,st,.int .i64 W,.int .i64 H,px,sf,.int .i64 a,.int .i64 b,.int .i64 c,.int .i64 d,.int .i64 e,.int .i64 f,.bool s,.bool t]) h3
  rw [show cs=([.int .i64 k,.int .u8 (I 0),.int .u8 (I 1),.int .u8 (I 2),.int .u8 (I 3),.int .u8 (I 4),.int .u8 (I 5),.int .u8 (I 6),.int .u8 (I 7),.int .i64 fx,.int .i64 fy,.int .i64 tx,.int .i64 ty,.int .i64 r,st,.int .i64 W,.int .i64 H,px,sf,.int .i64 a,.int .i64 b,.int .i64 c,.int .i64 d,.int .i64 e,.int .i64 f,.bool s,.bool t]).toArray by rw [← this]]
theorem Check_gives {k:Int} {I:Nat→Int} {fx fy tx ty r:Int} {A:Option Addr} {n q:Nat} {g:Nat→Nat→Value} {W H:Int} {B:Option Addr} {pn pq:Nat} {C:Option Addr} {sn sq:Nat} {a b c d e f:Int} {s t:Bool} {w:World} (hn:n≤q∧q≤9223372036854775807) (h:SliceG Tryz.prog w 141 A n g) :
    Gives Tryz.prog 97 [srcA k I fx fy tx ty r (.slice A n q) W H (.slice B pn pq) (.slice C sn sq) a b c d e f s t] (q64 w) (.val (.int .i64 (q4q k (inkZ (I 0) (I 1) (I 2) (I 3) (I 4) (I 5) (I 6) (I 7)&&q1v W H pn sn a b c d e f s t) fx fy tx ty r (q1u (fun x=>valI (g x 0)) n)))) :=
  Gives.of_callsA (fun vs h=>x7e vs h) (by rw [AV.rel]) fun w' hw=>x4v k (I 0) (I 1) (I 2) (I 3) (I 4) (I 5) (I 6) (I 7) fx fy tx ty r A n q g W H B C pn pq sn sq a b c d e f s t w' hn (h.holds hw)
theorem RCheck_gives {k:Int} {I:Nat→Int} {fx fy tx ty r:Int} {A:Option Addr} {n q:Nat} {g:Nat→Nat→Value} {W H:Int} {B:Option Addr} {pn pq:Nat} {C:Option Addr} {sn sq:Nat} {a b c d e f:Int} {s t:Bool} {w:World} (hn:n≤q∧q≤9223372036854775807) (h:SliceG Tryz.prog w 141 A n g) :
    Gives Tryz.prog 80 [srcA k I fx fy tx ty r (.slice A n q) W H (.slice B pn pq) (.slice C sn sq) a b c d e f s t] (q64 w) (.val (.int .i64 (q4q k (inkZ (I 0) (I 1) (I 2) (I 3) (I 4) (I 5) (I 6) (I 7)&&q1v W H pn sn a b c d e f s t) fx fy tx ty r (q1u (fun x=>valI (g x 0)) n)))) :=
  Gives.of_callsA (fun vs h=>x7e vs h) (by rw [AV.rel]) fun w' hw=>x2i k (I 0) (I 1) (I 2) (I 3) (I 4) (I 5) (I 6) (I 7) fx fy tx ty r A n q g W H B C pn pq sn sq a b c d e f s t w' hn (h.holds hw)
section
variable {k:Int} {I:Nat→Int} {fx fy tx ty r:Int} {A:Option Addr} {n q:Nat} {g:Nat→Nat→Value} {W H:Int} {B:Option Addr} {pn pq:Nat} {C:Option Addr} {sn sq:Nat} {a b c d e f:Int} {s t:Bool} {w:World} {e0:Int} {x y:Int}
end
end Go.Proofs.YtkicdhaklnmonaaGreat.gradientPlaces
namespace Go.Proofs.YtkicdhaklnmonaaGreat
open Go.RowKit
set_option maxRecDepth 20000
end Go.Proofs.YtkicdhaklnmonaaGreat
namespace Go.Proofs.YtkicdhaklnmonaaGreat
open Go.RowKit
set_option maxRecDepth 20000
end Go.Proofs.YtkicdhaklnmonaaGreat
namespace Go.Proofs.YtkicdhaklnmonaaGreat
open Go.RowKit
set_option maxRecDepth 20000
abbrev imgA (W H:Int) (px sf:Value) (a b c d e f:Int) (s r:Bool):AV :=
  .agg [.val (.int .i64 W),.val (.int .i64 H),.val px,.val sf,.val (.int .i64 a),.val (.int .i64 b),.val (.int .i64 c),.val (.int .i64 d),.val (.int .i64 e),.val (.int .i64 f),.val (.bool s),.val (.bool r)]
def z9t (r:Bool) (u W:Int):Int:=if r then u-u/W*W else u
def x7f (r:Bool) (W H u v:Int):Prop:=(0≤z9t r u W∧z9t r u W<W)∧(0≤z9t r v H∧z9t r v H<H)
instance {r W H u v}:Decidable (x7f r W H u v):=by unfold x7f;infer_instance
def v2u (B:Nat→Int):AV:=.agg [.val (.int .u8 (B 0)),.val (.int .u8 (B 1)),.val (.int .u8 (B 2)),.val (.int .u8 (B 3)),.val (.int .u8 (B 4)),.val (.int .u8 (B 5)),.val (.int .u8 (B 6)),.val (.int .u8 (B 7))]
section
variable {W H:Int} {A B:Option Addr} {n p m q:Nat} {P:Nat→Nat→Int} {S:Nat→Int} {a b c d e f:Int} {s r:Bool} {u v:Int} {G:Mem}
end
end Go.Proofs.YtkicdhaklnmonaaGreat
namespace Go.Proofs.YtkicdhaklnmonaaGreat
open Go.RowKit
set_option maxRecDepth 20000
section
variable {W H:Int} {A B:Option Addr} {n p m q:Nat} {a b c d e f:Int} {s r:Bool} {u v:Int} {w:World} {g h:Nat→Nat→Value}
theorem v2f {β:Nm} (vs:List Value) (h:AV.rels β [imgA W H (.slice A n p) (.slice B m q) a b c d e f s r] vs):vs=[.agg #[.int .i64 W,.int .i64 H,.slice A n p,.slice B m q,.int .i64 a,.int .i64 b,.int .i64 c,.int .i64 d,.int .i64 e,.int .i64 f,.bool s,.bool r]]:=by
  simp only [AV.rels] at h
  obtain ⟨y,zs,rfl,h2,rfl⟩:=h
  rw [AV.rel] at h2
  obtain ⟨cs,rfl,h3⟩:=h2
  have:=q07 (m:=[.int .i64 W,.int .i64 H,.slice A n p,.slice B m q,.int .i64 a,.int .i64 b,.int .i64 c,.int .i64 d,.int .i64 e,.int .i64 f,.bool s,.bool r]) h3
  rw [show cs=([.int .i64 W,.int .i64 H,.slice A n p,.slice B m q,.int .i64 a,.int .i64 b,.int .i64 c,.int .i64 d,.int .i64 e,.int .i64 f,.bool s,.bool r]:List Value).toArray by rw [← this]]
end
end Go.Proofs.YtkicdhaklnmonaaGreat
namespace Go.Proofs.YtkicdhaklnmonaaGreat
open Go.RowKit
set_option maxRecDepth 20000
def q5n (fx fy tx ty r:Int) (n:Nat):Bool:=(fx==0&&fy==0)&&(tx==0&&ty==0)&&r==0&&n==0
section
variable {k:Int} {I:Nat→Int} {fx fy tx ty r:Int} {A:Option Addr} {n q:Nat} {W H:Int} {B:Option Addr} {pn pq:Nat} {C:Option Addr} {sn sq:Nat} {a b c d e f:Int} {s t:Bool} {G:Mem}
set_option maxHeartbeats 2000000 in
theorem q9p:Gives Tryz.prog 94 [srcA k I fx fy tx ty r (.slice A n q) W H (.slice B pn pq) (.slice C sn sq) a b c d e f s t] G (.val (.bool (q5n fx fy tx ty r n))):=by
  refine q01 tab_ok Tryz.func94 ?_
  (repeat' ((try (conv=>whnf));(first |(refine stQ ?_) |(with_reducible refine q1g (fun h0=>?_) (fun h0=>?_)))))
  all_goals ((conv=>whnf);exact ⟨by first |(simp_all [q5n];done) |(rw [AV.val.injEq,Value.bool.injEq,Bool.eq_iff_iff];simp_all [q5n]),rfl⟩)
set_option maxHeartbeats 2000000 in
theorem q8m:Gives Tryz.prog 95 [imgA W H (.slice B pn pq) (.slice C sn sq) a b c d e f s t] G (.val (.bool (q1v W H pn sn a b c d e f s t))):=by
  refine q01 tab_ok Tryz.func95 ?_
  cases s <;> cases t
  all_goals ((repeat' ((try (conv=>whnf));(first |(refine stQ ?_) |(with_reducible refine q1g (fun h0=>?_) (fun h0=>?_))))))
  all_goals ((conv=>whnf);exact ⟨by first |(simp_all [q1v];done) |(rw [AV.val.injEq,Value.bool.injEq,Bool.eq_iff_iff];simp_all [q1v]),rfl⟩)
end
end Go.Proofs.YtkicdhaklnmonaaGreat
