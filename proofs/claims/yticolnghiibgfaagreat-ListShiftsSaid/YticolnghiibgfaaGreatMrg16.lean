/-
  Merged: XListC, XListR, XCells, XSmooth, XRSmooth.
-/
import Derived.Test.YticolnghiibgfaaGreatMrg15
import Derived.Test.YticolnghiibgfaaGreatMrg3
set_option linter.unusedVariables false
set_option linter.unusedSimpArgs false
set_option linter.unnecessarySimpa false
namespace Go.Proofs.YticolnghiibgfaaGreat
open Go.RowKit
set_option maxRecDepth 20000
def x9f (G:Mem) (A:Option Addr) (n:Nat) (T:Nat→Int) (C:Nat→Nat→Int):Prop:=∀ x,x<n→∃ p:Addr,A=some p∧∀ K:List Value→Prop,K [.int .i64 (T x),.int .u8 (C x 0),.int .u8 (C x 1),.int .u8 (C x 2),.int .u8 (C x 3),.int .u8 (C x 4),.int .u8 (C x 5),.int .u8 (C x 6),.int .u8 (C x 7)]→OldCells G (p.add (x*9)) 9 K
def PixM (G:Mem) (A:Option Addr) (n:Nat) (C:Nat→Nat→Int):Prop:=∀ x,x<n→∃ p:Addr,A=some p∧∀ K:List Value→Prop,K [.int .u8 (C x 0),.int .u8 (C x 1),.int .u8 (C x 2),.int .u8 (C x 3),.int .u8 (C x 4),.int .u8 (C x 5),.int .u8 (C x 6),.int .u8 (C x 7)]→OldCells G (p.add (x*8)) 8 K
theorem q9w {I:Nat→Int}:inkZ (I 0) (I 1) (I 2) (I 3) (I 4) (I 5) (I 6) (I 7)=true↔(I 0=0∧I 1=0∧I 2=0∧I 3=0∧I 4=0∧I 5=0∧I 6=0∧I 7=0):=by
  simp [inkZ,and_assoc]
section
variable {k:Int} {I:Nat→Int} {fx fy tx ty r:Int} {A:Option Addr} {n q:Nat} {W H:Int} {B:Option Addr} {pn pq:Nat} {C:Option Addr} {sn sq:Nat} {a b c d e f:Int} {s t:Bool} {G:Mem} {gE iE:Int} {T:Nat→Int} {D D':Nat→Nat→Int}
end
end Go.Proofs.YticolnghiibgfaaGreat
namespace Go.Proofs.YticolnghiibgfaaGreat
open Go.RowKit
set_option maxRecDepth 20000
def x9g (G:Mem) (A:Option Addr) (n:Nat) (C:Nat→Nat→Int):Prop:=∀ x,x<n→∃ p:Addr,A=some p∧∀ K:List Value→Prop,K [.int .u8 (C x 0),.int .u8 (C x 1),.int .u8 (C x 2),.int .u8 (C x 3),.int .u8 (C x 4),.int .u8 (C x 5),.int .u8 (C x 6),.int .u8 (C x 7)]→OldCells G (Addr.add (p.add (x*9)) 1) 8 K
theorem x0p {fx fy tx ty r:Int} {n:Nat}:q29 fx fy tx ty r n=true↔(fx=0∧fy=0∧tx=0∧ty=0∧r=0∧n=0):=by
  simp [q29,and_assoc]
section
variable {k:Int} {I:Nat→Int} {fx fy tx ty r:Int} {A:Option Addr} {n q:Nat} {W H:Int} {B:Option Addr} {pn pq:Nat} {C:Option Addr} {sn sq:Nat} {a b c d e f:Int} {s t:Bool} {G:Mem} {gE iE:Int} {D D':Nat→Nat→Int}
end
end Go.Proofs.YticolnghiibgfaaGreat
namespace Go.Proofs.YticolnghiibgfaaGreat
open Go.RowKit
set_option maxRecDepth 20000
theorem x6f {a b c d e f:Int}:(∀ i,i<4→-1048576≤six a b c d e f i∧six a b c d e f i≤1048576)∧(∀ i,i<6→-268435456≤six a b c d e f i∧six a b c d e f i≤268435456):=by
  unfold six
  split
  · rename_i h
    obtain ⟨h1,h2,h3,h4,h5,h6⟩:=q68 h
    refine ⟨fun i hi=>?_,fun i hi=>?_⟩
    · match i,hi with
      | 0,_=>exact h1
      | 1,_=>exact h2
      | 2,_=>exact h3
      | 3,_=>exact h4
    · match i,hi with
      | 0,_=>simp only;omega
      | 1,_=>simp only;omega
      | 2,_=>simp only;omega
      | 3,_=>simp only;omega
      | 4,_=>exact h5
      | 5,_=>exact h6
  · refine ⟨fun i hi=>?_,fun i hi=>?_⟩
    · have:i≠6:=by omega
      simp [this]
    · have:i≠6:=by omega
      simp [this]
theorem z3o {a b c d e f:Int}:(∀ i,i<4→-1048576≤invL a b c d e f i∧invL a b c d e f i≤1048576)∧(∀ i,i<6→-268435456≤invL a b c d e f i∧invL a b c d e f i≤268435456):=by
  unfold invL
  split
  · split
    · refine ⟨fun i hi=>?_,fun i hi=>?_⟩
      · have:i≠6:=by omega
        simp [this]
      · have:i≠6:=by omega
        simp [this]
    · split
      · exact x6f
      · exact x6f
  · refine ⟨fun i hi=>?_,fun i hi=>?_⟩
    · have:i≠6:=by omega
      simp [this]
    · have:i≠6:=by omega
      simp [this]
abbrev pntA (W H:Int) (px sf:Value) (a b c d e f:Int) (s r:Bool) (V:Nat→Int):AV :=
  .agg [.val (.int .i64 W),.val (.int .i64 H),.val px,.val sf,.val (.int .i64 a),.val (.int .i64 b),.val (.int .i64 c),.val (.int .i64 d),.val (.int .i64 e),.val (.int .i64 f),.val (.bool s),.val (.bool r),.val (.int .i64 (V 0)),.val (.int .i64 (V 1)),.val (.int .i64 (V 2)),.val (.int .i64 (V 3)),.val (.int .i64 (V 4)),.val (.int .i64 (V 5))]
section
variable {W H:Int} {A B:Option Addr} {n p m q:Nat} {a b c d e f:Int} {s r:Bool} {u v:Int} {G:Mem}
set_option maxHeartbeats 2000000 in
theorem x8m:Gives Tryz.prog 101 [imgA W H (.slice A n p) (.slice B m q) a b c d e f s r] G (pntA W H (.slice A n p) (.slice B m q) a b c d e f s r (invL a b c d e f)):=by
  have hi:=x0l (a:=a) (b:=b) (c:=c) (d:=d) (e:=e) (f:=f) (G:=G)
  refine q0w tab_ok Tryz.func101 ?_
  (repeat ((try (conv=>whnf));(first |(refine stQ ?_) |(with_reducible first |refine q0b (fun vs w=>by kernel_rfl) (by kernel_rfl) (hi) ?_ |refine q0a (fun vs w=>by kernel_rfl) (by kernel_rfl) (hi) ?_))))
  exact ⟨rfl,rfl⟩
def atS (V:Nat→Int) (x y:Int):Int:=V 0*(2*x+1)+V 2*(2*y+1)+2*V 4
def atT (V:Nat→Int) (x y:Int):Int:=V 1*(2*x+1)+V 3*(2*y+1)+2*V 5
theorem z5u (z:Int):z.fdiv (2 ^ min (Int.toNat 13) IntKind.i64.bits)=z/8192:=by
  rw [show ((2:Int) ^ min (Int.toNat 13) IntKind.i64.bits)=8192 by decide]
  rw [Int.fdiv_eq_ediv_of_nonneg _ (by omega)]
theorem z0r {V:Nat→Int} {x y:Int} (h4:∀ i,i<4→-1048576≤V i∧V i≤1048576) (h6:∀ i,i<6→-268435456≤V i∧V i≤268435456) (hx:-8192≤x∧x<8192) (hy:-8192≤y∧y<8192) :
    ((-17179869184≤V 0*(2*x+1)∧V 0*(2*x+1)≤17179869184)∧(-17179869184≤V 2*(2*y+1)∧V 2*(2*y+1)≤17179869184)) ∧
    ((-17179869184≤V 1*(2*x+1)∧V 1*(2*x+1)≤17179869184)∧(-17179869184≤V 3*(2*y+1)∧V 3*(2*y+1)≤17179869184)):=by
  have p1:=q3i (a:=V 0) (b:=2*x+1) (A:=1048576) (B:=16384) (h4 0 (by omega)) (by omega)
  have p2:=q3i (a:=V 2) (b:=2*y+1) (A:=1048576) (B:=16384) (h4 2 (by omega)) (by omega)
  have p3:=q3i (a:=V 1) (b:=2*x+1) (A:=1048576) (B:=16384) (h4 1 (by omega)) (by omega)
  have p4:=q3i (a:=V 3) (b:=2*y+1) (A:=1048576) (B:=16384) (h4 3 (by omega)) (by omega)
  omega
set_option maxHeartbeats 2000000 in
theorem x8n {V:Nat→Int} {x y:Int} {I:Nat→Int} {al:Int} (h4:∀ i,i<4→-1048576≤V i∧V i≤1048576) (h6:∀ i,i<6→-268435456≤V i∧V i≤268435456) (hx:-8192≤x∧x<8192) (hy:-8192≤y∧y<8192)
    (hs:Gives Tryz.prog 130 [imgA W H (.slice A n p) (.slice B m q) a b c d e f false r,.val (.int .i64 (atS V x y/8192)),.val (.int .i64 (atT V x y/8192))] G (.tup [q1q I,.val (.int .u8 al)])) :
    Gives Tryz.prog 102 [pntA W H (.slice A n p) (.slice B m q) a b c d e f false r V,.val (.int .i64 x),.val (.int .i64 y)] G (.tup [q1q I,.val (.int .u8 al)]):=by
  obtain ⟨⟨b1,b2⟩,b3,b4⟩:=z0r h4 h6 hx hy
  have b5:=h6 4 (by omega)
  have b6:=h6 5 (by omega)
  unfold atS atT at hs
  refine q0w tab_ok Tryz.func102 ?_
  (repeat ((try (conv=>whnf));(refine stQ ?_)))
  conv=>whnf
  refine isP.mk _ (z5u _) ?_
  (repeat ((try (conv=>whnf));(refine stQ ?_)))
  conv=>whnf
  refine isP.mk _ (z5u _) ?_
  (repeat ((try (conv=>whnf));(first |(refine stQ ?_) |(with_reducible first |refine q0b (fun vs w=>by kernel_rfl) (by kernel_rfl) (hs) ?_ |refine q0a (fun vs w=>by kernel_rfl) (by kernel_rfl) (hs) ?_))))
  exact ⟨rfl,rfl⟩
end
end Go.Proofs.YticolnghiibgfaaGreat
namespace Go.Proofs.YticolnghiibgfaaGreat
open Go.RowKit
set_option maxRecDepth 20000
theorem x9h (z:Int) (h:-1152921504606846976≤z*8192∧z*8192≤1152921504606846976):IntKind.i64.wrap (z*2 ^ min (Int.toNat 13) IntKind.i64.bits)=z*8192:=by
  rw [show ((2:Int) ^ min (Int.toNat 13) IntKind.i64.bits)=8192 by decide]
  exact IntWalk.i64_in _ (by omega)
section
variable {W H:Int} {A B:Option Addr} {n p m q:Nat} {a b c d e f:Int} {s r:Bool} {G:Mem}
set_option maxHeartbeats 8000000 in
theorem x0q {V:Nat→Int} {I:Nat→Nat→Int} {S:Nat→Int} {x y u v α β w0 w1 w2 w3 t0 t1 t2 t3:Int} {Z Y:Nat→Nat→Int} {so:Int} {O R:Nat→Int} (hx:x=4096+8192*u+α) (hy:y=4096+8192*v+β) (hα:0≤α∧α<8192) (hβ:0≤β∧β<8192) (hu:-1073741824≤u∧u≤1073741824) (hv:-1073741824≤v∧v≤1073741824)
    (hw0:IntKind.i64.wrap ((8192-α)*(8192-β))=w0) (hw1:IntKind.i64.wrap (α*(8192-β))=w1) (hw2:IntKind.i64.wrap ((8192-α)*β)=w2) (hw3:IntKind.i64.wrap (α*β)=w3)
    (ht0:IntKind.i64.wrap (w0*S 0)=t0) (ht1:IntKind.i64.wrap (w1*S 1)=t1) (ht2:IntKind.i64.wrap (w2*S 2)=t2) (ht3:IntKind.i64.wrap (w3*S 3)=t3)
    (hz0:∀ j,j<8→IntKind.i64.wrap (t0*I 0 j)=Z 0 j) (hz1:∀ j,j<8→IntKind.i64.wrap (t1*I 1 j)=Z 1 j) (hz2:∀ j,j<8→IntKind.i64.wrap (t2*I 2 j)=Z 2 j) (hz3:∀ j,j<8→IntKind.i64.wrap (t3*I 3 j)=Z 3 j)
    (hb0:0≤t0∧t0≤17112760320) (hb1:0≤t1∧t1≤17112760320) (hb2:0≤t2∧t2≤17112760320) (hb3:0≤t3∧t3≤17112760320)
    (hS:∀ k,k<4→IntKind.i64.wrap (S k)=S k) (hI:∀ k j,k<4∧j<8→IntKind.i64.wrap (I k j)=I k j)
    (hY0:∀ j,j<8→IntKind.i64.wrap (0+Z 0 j)=Y 0 j) (hY1:∀ j,j<8→IntKind.i64.wrap (Y 0 j+Z 1 j)=Y 1 j) (hY2:∀ j,j<8→IntKind.i64.wrap (Y 1 j+Z 2 j)=Y 2 j) (hY3:∀ j,j<8→IntKind.i64.wrap (Y 2 j+Z 3 j)=Y 3 j)
    (hso:IntKind.u8.wrap so=so) (hO:∀ j,j<8→IntKind.u8.wrap (O j)=O j) (hR0:so=0→R=fun _=>0) (hR1:so≠0→R=O)
    (hN:Gives Tryz.prog 110 [.val (.int .i64 (0+t0+t1+t2+t3)),.val (.int .i64 67108864)] G (.val (.int .i64 so)))
    (hP:so≠0→∀ j,j<8→Gives Tryz.prog 110 [.val (.int .i64 (Y 3 j)),.val (.int .i64 (0+t0+t1+t2+t3))] G (.val (.int .i64 (O j))))
    (hs0:Gives Tryz.prog 130 [imgA W H (.slice A n p) (.slice B m q) a b c d e f s r,.val (.int .i64 (u+0)),.val (.int .i64 (v+0))] G (.tup [q1q (I 0),.val (.int .u8 (S 0))]))
    (hs1:Gives Tryz.prog 130 [imgA W H (.slice A n p) (.slice B m q) a b c d e f s r,.val (.int .i64 (u+1)),.val (.int .i64 (v+0))] G (.tup [q1q (I 1),.val (.int .u8 (S 1))]))
    (hs2:Gives Tryz.prog 130 [imgA W H (.slice A n p) (.slice B m q) a b c d e f s r,.val (.int .i64 (u+0)),.val (.int .i64 (v+1))] G (.tup [q1q (I 2),.val (.int .u8 (S 2))]))
    (hs3:Gives Tryz.prog 130 [imgA W H (.slice A n p) (.slice B m q) a b c d e f s r,.val (.int .i64 (u+1)),.val (.int .i64 (v+1))] G (.tup [q1q (I 3),.val (.int .u8 (S 3))])) :
    Gives Tryz.prog 129 [pntA W H (.slice A n p) (.slice B m q) a b c d e f s r V,.val (.int .i64 x),.val (.int .i64 y)] G (.tup [q1q R,.val (.int .u8 so)]):=by
  have e1:x-4096-u*8192=α:=by omega
  have e2:y-4096-v*8192=β:=by omega
  refine q0w tab_ok Tryz.func129 ?_
  (repeat ((try (conv=>whnf));(refine stQ ?_)))
  conv=>whnf
  refine isP.mk u (by rw [z5u];omega) ?_
  (repeat ((try (conv=>whnf));(refine stQ ?_)))
  conv=>whnf
  refine isP.mk v (by rw [z5u];omega) ?_
  (repeat ((try (conv=>whnf));(refine stQ ?_)))
  conv=>whnf
  refine q0y _ (x9h u (by omega)) ?_
  (repeat ((try (conv=>whnf));(refine stQ ?_)))
  conv=>whnf
  refine q0y _ (x9h v (by omega)) ?_
  (repeat ((try (conv=>whnf));(refine stQ ?_)))
  conv=>whnf
  refine q0y w0 (by rw [e1,e2];exact hw0) ?_
  (repeat ((try (conv=>whnf));(refine stQ ?_)))
  conv=>whnf
  refine q0y w1 (by rw [e1,e2];exact hw1) ?_
  (repeat ((try (conv=>whnf));(refine stQ ?_)))
  conv=>whnf
  refine q0y w2 (by rw [e1,e2];exact hw2) ?_
  (repeat ((try (conv=>whnf));(refine stQ ?_)))
  conv=>whnf
  refine q0y w3 (by rw [e1,e2];exact hw3) ?_
  (repeat ((try (conv=>whnf));(refine stQ ?_)))
  conv=>whnf
  refine q6f tab_ok ?_
  (repeat ((try (conv=>whnf));(first |((with_reducible refine q0y _ ht0 ?_)) |((with_reducible refine q0y _ ht1 ?_)) |((with_reducible refine q0y _ ht2 ?_)) |((with_reducible refine q0y _ ht3 ?_)) |(with_reducible first |refine q0y _ (hz0 _ (by decide)) ?_ |refine q0y _ (hz1 _ (by decide)) ?_ |refine q0y _ (hz2 _ (by decide)) ?_ |refine q0y _ (hz3 _ (by decide)) ?_ |refine q0y _ (hY0 _ (by decide)) ?_ |refine q0y _ (hY1 _ (by decide)) ?_ |refine q0y _ (hY2 _ (by decide)) ?_ |refine q0y _ (hY3 _ (by decide)) ?_ |refine q0y _ (hS _ (by decide)) ?_ |refine q0y _ (hI _ _ (by decide)) ?_) |(refine scQ ?_) |(with_reducible first |refine q0b (fun vs w=>by kernel_rfl) (by kernel_rfl) (hs0) ?_ |refine q0a (fun vs w=>by kernel_rfl) (by kernel_rfl) (hs0) ?_ |refine q0b (fun vs w=>by kernel_rfl) (by kernel_rfl) (hs1) ?_ |refine q0a (fun vs w=>by kernel_rfl) (by kernel_rfl) (hs1) ?_ |refine q0b (fun vs w=>by kernel_rfl) (by kernel_rfl) (hs2) ?_ |refine q0a (fun vs w=>by kernel_rfl) (by kernel_rfl) (hs2) ?_ |refine q0b (fun vs w=>by kernel_rfl) (by kernel_rfl) (hs3) ?_ |refine q0a (fun vs w=>by kernel_rfl) (by kernel_rfl) (hs3) ?_))))
  conv=>whnf
  (repeat ((try (conv=>whnf));(first |(with_reducible refine q0y _ hso ?_) |(refine scQ ?_) |(with_reducible first |refine q0b (fun vs w=>by kernel_rfl) (by kernel_rfl) (hN) ?_ |refine q0a (fun vs w=>by kernel_rfl) (by kernel_rfl) (hN) ?_))))
  conv=>whnf
  refine q03 (fun h0=>?_) (fun h0=>?_)
  · (repeat ((try (conv=>whnf));(first |(refine scQ ?_) |(with_reducible first |refine q0b (fun vs w=>by kernel_rfl) (by kernel_rfl) (hN) ?_ |refine q0a (fun vs w=>by kernel_rfl) (by kernel_rfl) (hN) ?_))))
    rw [hR0 h0,h0]
    exact ⟨rfl,rfl⟩
  · have hP:=hP h0
    (repeat ((try (conv=>whnf));(first |(with_reducible refine q0y _ (hO _ (by decide)) ?_) |(refine scQ ?_) |(with_reducible first |refine q0b (fun vs w=>by kernel_rfl) (by kernel_rfl) (hP _ (by decide)) ?_ |refine q0a (fun vs w=>by kernel_rfl) (by kernel_rfl) (hP _ (by decide)) ?_))))
    rw [hR1 h0]
    exact ⟨rfl,rfl⟩
end
end Go.Proofs.YticolnghiibgfaaGreat
namespace Go.Proofs.YticolnghiibgfaaGreat
open Go.RowKit
set_option maxRecDepth 20000
theorem z5v {a b:Int} {G:Mem} (ha:-4611686018427387904≤a∧a≤4611686018427387904) (hb:1≤b∧b≤4611686018427387904):Gives Tryz.prog 121 [.val (.int .i64 a),.val (.int .i64 b)] G (.val (.int .i64 (near a b))) :=
  Gives.of_calls (args:=[.int .i64 a,.int .i64 b]) fun w _=>(z4n a b w ha hb).mono fun _ _ h=>⟨h.1,h.2 ▸ Below.refl _ _⟩
section
variable {W H:Int} {A B:Option Addr} {n p m q:Nat} {a b c d e f:Int} {s r:Bool} {G:Mem}
set_option maxHeartbeats 8000000 in
theorem x4c {I:Nat→Nat→Int} {S:Nat→Int} {u v α β w0 w1 w2 w3 t0 t1 t2 t3:Int} {Z Y:Nat→Nat→Int} {so:Int} {O R:Nat→Int} {X Y':Int} (hX:-8192≤X∧X<8192) (hY':-8192≤Y'∧Y'<8192) (hx:atS (invL a b c d e f) X Y'=4096+8192*u+α) (hy:atT (invL a b c d e f) X Y'=4096+8192*v+β) (hα:0≤α∧α<8192) (hβ:0≤β∧β<8192) (hu:-1073741824≤u∧u≤1073741824) (hv:-1073741824≤v∧v≤1073741824)
    (hw0:IntKind.i64.wrap ((8192-α)*(8192-β))=w0) (hw1:IntKind.i64.wrap (α*(8192-β))=w1) (hw2:IntKind.i64.wrap ((8192-α)*β)=w2) (hw3:IntKind.i64.wrap (α*β)=w3)
    (ht0:IntKind.i64.wrap (w0*S 0)=t0) (ht1:IntKind.i64.wrap (w1*S 1)=t1) (ht2:IntKind.i64.wrap (w2*S 2)=t2) (ht3:IntKind.i64.wrap (w3*S 3)=t3)
    (hz0:∀ j,j<8→IntKind.i64.wrap (t0*I 0 j)=Z 0 j) (hz1:∀ j,j<8→IntKind.i64.wrap (t1*I 1 j)=Z 1 j) (hz2:∀ j,j<8→IntKind.i64.wrap (t2*I 2 j)=Z 2 j) (hz3:∀ j,j<8→IntKind.i64.wrap (t3*I 3 j)=Z 3 j)
    (hb0:0≤t0∧t0≤17112760320) (hb1:0≤t1∧t1≤17112760320) (hb2:0≤t2∧t2≤17112760320) (hb3:0≤t3∧t3≤17112760320)
    (hS:∀ k,k<4→IntKind.i64.wrap (S k)=S k) (hI:∀ k j,k<4∧j<8→IntKind.i64.wrap (I k j)=I k j)
    (hY0:∀ j,j<8→IntKind.i64.wrap (0+Z 0 j)=Y 0 j) (hY1:∀ j,j<8→IntKind.i64.wrap (Y 0 j+Z 1 j)=Y 1 j) (hY2:∀ j,j<8→IntKind.i64.wrap (Y 1 j+Z 2 j)=Y 2 j) (hY3:∀ j,j<8→IntKind.i64.wrap (Y 2 j+Z 3 j)=Y 3 j)
    (hso:IntKind.u8.wrap so=so) (hO:∀ j,j<8→IntKind.u8.wrap (O j)=O j) (hR0:so=0→R=fun _=>0) (hR1:so≠0→R=O)
    (hN:Gives Tryz.prog 121 [.val (.int .i64 (0+t0+t1+t2+t3)),.val (.int .i64 67108864)] G (.val (.int .i64 so)))
    (hP:so≠0→∀ j,j<8→Gives Tryz.prog 121 [.val (.int .i64 (Y 3 j)),.val (.int .i64 (0+t0+t1+t2+t3))] G (.val (.int .i64 (O j))))
    (hs0:Gives Tryz.prog 139 [imgA W H (.slice A n p) (.slice B m q) a b c d e f true r,.val (.int .i64 (u+0)),.val (.int .i64 (v+0))] G (.tup [q1q (I 0),.val (.int .i64 (S 0))]))
    (hs1:Gives Tryz.prog 139 [imgA W H (.slice A n p) (.slice B m q) a b c d e f true r,.val (.int .i64 (u+1)),.val (.int .i64 (v+0))] G (.tup [q1q (I 1),.val (.int .i64 (S 1))]))
    (hs2:Gives Tryz.prog 139 [imgA W H (.slice A n p) (.slice B m q) a b c d e f true r,.val (.int .i64 (u+0)),.val (.int .i64 (v+1))] G (.tup [q1q (I 2),.val (.int .i64 (S 2))]))
    (hs3:Gives Tryz.prog 139 [imgA W H (.slice A n p) (.slice B m q) a b c d e f true r,.val (.int .i64 (u+1)),.val (.int .i64 (v+1))] G (.tup [q1q (I 3),.val (.int .i64 (S 3))])) :
    Gives Tryz.prog 117 [imgA W H (.slice A n p) (.slice B m q) a b c d e f true r,.val (.int .i64 X),.val (.int .i64 Y')] G (.tup [q1q R,.val (.int .i64 so)]):=by
  obtain ⟨h4,h6⟩:=z3o (a:=a) (b:=b) (c:=c) (d:=d) (e:=e) (f:=f)
  obtain ⟨⟨b1,b2⟩,b3,b4⟩:=z0r h4 h6 hX hY'
  have b5:=h6 4 (by omega)
  have b6:=h6 5 (by omega)
  clear h4 h6
  have hi:=z1y (a:=a) (b:=b) (c:=c) (d:=d) (e:=e) (f:=f) (G:=G)
  generalize invL a b c d e f=V at *
  unfold atS at hx
  unfold atT at hy
  have hd1:=q37 (a:=V 0*(2*X+1)+V 2*(2*Y'+1)+2*V 4-4096) (b:=8192) (G:=G) (by omega) (by omega)
  have hd2:=q37 (a:=V 1*(2*X+1)+V 3*(2*Y'+1)+2*V 5-4096) (b:=8192) (G:=G) (by omega) (by omega)
  rw [show (V 0*(2*X+1)+V 2*(2*Y'+1)+2*V 4-4096)/8192=u by omega] at hd1
  rw [show (V 1*(2*X+1)+V 3*(2*Y'+1)+2*V 5-4096)/8192=v by omega] at hd2
  refine q0w tab_ok Tryz.func117 ?_
  (repeat ((try (conv=>whnf));(first |(refine stQ ?_) |(with_reducible first |refine q0b (fun vs w=>by kernel_rfl) (by kernel_rfl) (hi) ?_ |refine q0a (fun vs w=>by kernel_rfl) (by kernel_rfl) (hi) ?_ |refine q0b (fun vs w=>by kernel_rfl) (by kernel_rfl) (hd1) ?_ |refine q0a (fun vs w=>by kernel_rfl) (by kernel_rfl) (hd1) ?_ |refine q0b (fun vs w=>by kernel_rfl) (by kernel_rfl) (hd2) ?_ |refine q0a (fun vs w=>by kernel_rfl) (by kernel_rfl) (hd2) ?_))))
  have e1:(V 0*(2*X+1)+V 2*(2*Y'+1)+2*V 4-4096-8192*u)=α:=by omega
  have e2:(V 1*(2*X+1)+V 3*(2*Y'+1)+2*V 5-4096-8192*v)=β:=by omega
  have k0:IntKind.i64.wrap ((8192-(V 0*(2*X+1)+V 2*(2*Y'+1)+2*V 4-4096-8192*u))*(8192-(V 1*(2*X+1)+V 3*(2*Y'+1)+2*V 5-4096-8192*v)))=w0:=by rw [e1,e2];exact hw0
  have k1:IntKind.i64.wrap ((V 0*(2*X+1)+V 2*(2*Y'+1)+2*V 4-4096-8192*u)*(8192-(V 1*(2*X+1)+V 3*(2*Y'+1)+2*V 5-4096-8192*v)))=w1:=by rw [e1,e2];exact hw1
  have k2:IntKind.i64.wrap ((8192-(V 0*(2*X+1)+V 2*(2*Y'+1)+2*V 4-4096-8192*u))*(V 1*(2*X+1)+V 3*(2*Y'+1)+2*V 5-4096-8192*v))=w2:=by rw [e1,e2];exact hw2
  have k3:IntKind.i64.wrap ((V 0*(2*X+1)+V 2*(2*Y'+1)+2*V 4-4096-8192*u)*(V 1*(2*X+1)+V 3*(2*Y'+1)+2*V 5-4096-8192*v))=w3:=by rw [e1,e2];exact hw3
  have qa0:IntKind.i64.wrap (u+Int.tmod 0 2)=u+0:=by rw [show Int.tmod 0 2=0 by decide];exact IntWalk.i64_in _ (by omega)
  have qb0:IntKind.i64.wrap (v+Int.tdiv 0 2)=v+0:=by rw [show Int.tdiv 0 2=0 by decide];exact IntWalk.i64_in _ (by omega)
  have qa1:IntKind.i64.wrap (u+Int.tmod (0+1) 2)=u+1:=by rw [show Int.tmod (0+1) 2=1 by decide];exact IntWalk.i64_in _ (by omega)
  have qb1:IntKind.i64.wrap (v+Int.tdiv (0+1) 2)=v+0:=by rw [show Int.tdiv (0+1) 2=0 by decide];exact IntWalk.i64_in _ (by omega)
  have qa2:IntKind.i64.wrap (u+Int.tmod (0+1+1) 2)=u+0:=by rw [show Int.tmod (0+1+1) 2=0 by decide];exact IntWalk.i64_in _ (by omega)
  have qb2:IntKind.i64.wrap (v+Int.tdiv (0+1+1) 2)=v+1:=by rw [show Int.tdiv (0+1+1) 2=1 by decide];exact IntWalk.i64_in _ (by omega)
  have qa3:IntKind.i64.wrap (u+Int.tmod (0+1+1+1) 2)=u+1:=by rw [show Int.tmod (0+1+1+1) 2=1 by decide];exact IntWalk.i64_in _ (by omega)
  have qb3:IntKind.i64.wrap (v+Int.tdiv (0+1+1+1) 2)=v+1:=by rw [show Int.tdiv (0+1+1+1) 2=1 by decide];exact IntWalk.i64_in _ (by omega)
  (repeat ((try (conv=>whnf));(refine stQ ?_)))
  conv=>whnf
  refine q6f tab_ok ?_
  (repeat ((try (conv=>whnf));(first |(with_reducible first |refine q0y _ qa0 ?_ |refine q0y _ qa1 ?_ |refine q0y _ qa2 ?_ |refine q0y _ qa3 ?_ |refine q0y _ qb0 ?_ |refine q0y _ qb1 ?_ |refine q0y _ qb2 ?_ |refine q0y _ qb3 ?_ |refine q0y _ k0 ?_ |refine q0y _ k1 ?_ |refine q0y _ k2 ?_ |refine q0y _ k3 ?_ |refine q0y _ ht0 ?_ |refine q0y _ ht1 ?_ |refine q0y _ ht2 ?_ |refine q0y _ ht3 ?_ |refine q0y _ (hz0 _ (by decide)) ?_ |refine q0y _ (hz1 _ (by decide)) ?_ |refine q0y _ (hz2 _ (by decide)) ?_ |refine q0y _ (hz3 _ (by decide)) ?_ |refine q0y _ (hY0 _ (by decide)) ?_ |refine q0y _ (hY1 _ (by decide)) ?_ |refine q0y _ (hY2 _ (by decide)) ?_ |refine q0y _ (hY3 _ (by decide)) ?_ |refine q0y _ (hI _ _ (by decide)) ?_) |(refine scQ ?_) |(with_reducible first |refine q0b (fun vs w=>by kernel_rfl) (by kernel_rfl) (hs0) ?_ |refine q0a (fun vs w=>by kernel_rfl) (by kernel_rfl) (hs0) ?_ |refine q0b (fun vs w=>by kernel_rfl) (by kernel_rfl) (hs1) ?_ |refine q0a (fun vs w=>by kernel_rfl) (by kernel_rfl) (hs1) ?_ |refine q0b (fun vs w=>by kernel_rfl) (by kernel_rfl) (hs2) ?_ |refine q0a (fun vs w=>by kernel_rfl) (by kernel_rfl) (hs2) ?_ |refine q0b (fun vs w=>by kernel_rfl) (by kernel_rfl) (hs3) ?_ |refine q0a (fun vs w=>by kernel_rfl) (by kernel_rfl) (hs3) ?_))))
  (repeat ((try (conv=>whnf));(first |(refine scQ ?_) |(with_reducible first |refine q0b (fun vs w=>by kernel_rfl) (by kernel_rfl) (hN) ?_ |refine q0a (fun vs w=>by kernel_rfl) (by kernel_rfl) (hN) ?_))))
  conv=>whnf
  refine q03 (fun h0=>?_) (fun h0=>?_)
  · (repeat ((try (conv=>whnf));(first |(refine scQ ?_) |(with_reducible first |refine q0b (fun vs w=>by kernel_rfl) (by kernel_rfl) (hN) ?_ |refine q0a (fun vs w=>by kernel_rfl) (by kernel_rfl) (hN) ?_))))
    rw [hR0 h0,h0]
    exact ⟨rfl,rfl⟩
  · have hP:=hP h0
    (repeat ((try (conv=>whnf));(first |(with_reducible refine q0y _ (hO _ (by decide)) ?_) |(refine scQ ?_) |(with_reducible first |refine q0b (fun vs w=>by kernel_rfl) (by kernel_rfl) (hP _ (by decide)) ?_ |refine q0a (fun vs w=>by kernel_rfl) (by kernel_rfl) (hP _ (by decide)) ?_))))
    rw [hR1 h0]
    exact ⟨rfl,rfl⟩
end
end Go.Proofs.YticolnghiibgfaaGreat
