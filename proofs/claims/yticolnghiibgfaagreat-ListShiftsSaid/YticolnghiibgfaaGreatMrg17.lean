/-
  Merged: XSmoothBoth, XImageBoth, XListX, XEz, XRow.
-/
import Derived.Test.YticolnghiibgfaaGreatMrg16
import Derived.Test.YticolnghiibgfaaGreatMrg15
import Derived.Test.YticolnghiibgfaaGreatEng2
set_option linter.unusedVariables false
set_option linter.unusedSimpArgs false
set_option linter.unnecessarySimpa false
namespace Go.Proofs.YticolnghiibgfaaGreat
open Go.RowKit
set_option maxRecDepth 20000
theorem w_bd {a b:Int} (ha:0≤a∧a≤8192) (hb:0≤b∧b≤8192):0≤a*b∧a*b≤67108864:=by
  have h1:=Int.mul_nonneg ha.1 hb.1
  have h2:a*b≤8192*8192:=Int.mul_le_mul ha.2 hb.2 hb.1 (by omega)
  omega
theorem v1x (α β:Int):(8192-α)*(8192-β)+α*(8192-β)+(8192-α)*β+α*β=67108864:=by
  have h1:(8192-α)*(8192-β)+α*(8192-β)=8192*(8192-β):=by rw [← Int.add_mul];congr 1;omega
  have h2:(8192-α)*β+α*β=8192*β:=by rw [← Int.add_mul];congr 1;omega
  omega
theorem t_bd {w s:Int} (hw:0≤w∧w≤67108864) (hs:0≤s∧s≤255):0≤w*s∧w*s≤255*w:=by
  have h1:=Int.mul_nonneg hw.1 hs.1
  have h2:w*s≤w*255:=Int.mul_le_mul_of_nonneg_left hs.2 hw.1
  omega
theorem z_bd {t i:Int} (ht:0≤t) (hi:0≤i∧i≤255):0≤t * i∧t * i≤255*t:=by
  have h1:=Int.mul_nonneg ht hi.1
  have h2:t * i≤t * 255:=Int.mul_le_mul_of_nonneg_left hi.2 ht
  omega
theorem q59 {x:Int} (h:0≤x∧x≤255):IntKind.u8.wrap x=x∧IntKind.i64.wrap x=x :=
  ⟨IntWalk.u8_in _ h,IntWalk.i64_in _ (by omega)⟩
section
variable {W H:Int} {A B:Option Addr} {n p m q:Nat} {P:Nat→Nat→Int} {S:Nat→Int} {a b c d e f:Int} {r:Bool} {G:Mem} {X Y:Int}
theorem x0r (ho:ImgOk W H n m) (hpx:∀ x j,x<n→j<8→0≤P x j∧P x j≤255) {u v:Int} {j:Nat} (hj:j<8):0≤q8m r W H u v P j∧q8m r W H u v P j≤255:=by
  unfold q8m
  split
  · rename_i hi
    have:=z3m hi
    have hn:=ho.n
    refine hpx _ j ?_ hj
    unfold atI;omega
  · omega
def quP (r:Bool) (W H u v:Int) (P:Nat→Nat→Int) (k j:Nat):Int:=q8m r W H (u+(k%2:Nat)) (v+(k/2:Nat)) P j
def quS (r:Bool) (W H u v:Int) (m:Nat) (S:Nat→Int) (k:Nat):Int:=q5h r W H (u+(k%2:Nat)) (v+(k/2:Nat)) m S
set_option maxHeartbeats 4000000 in
theorem x4d {m:Nat} {S:Nat→Int} {P:Nat→Nat→Int} (ho:ImgOk W H n m) (hpx:∀ x j,x<n→j<8→0≤P x j∧P x j≤255) (hs:∀ x,x<m→0≤S x∧S x≤255) (hX:-8192≤X∧X<8192) (hY:-8192≤Y∧Y<8192) :
    ∃ R so,((0≤so∧so≤255)∧∀ j,j<8→0≤R j∧R j≤255)∧∀ (G:Mem) (A B:Option Addr) (p q:Nat),Pics G A n P B m S→Gives Tryz.prog 129 [pntA W H (.slice A n p) (.slice B m q) a b c d e f true r (invL a b c d e f),.val (.int .i64 (atS (invL a b c d e f) X Y)),.val (.int .i64 (atT (invL a b c d e f) X Y))] G (.tup [q1q R,.val (.int .u8 so)]) ∧
      Gives Tryz.prog 117 [imgA W H (.slice A n p) (.slice B m q) a b c d e f true r,.val (.int .i64 X),.val (.int .i64 Y)] G (.tup [q1q R,.val (.int .i64 so)]):=by
  obtain ⟨h4,h6⟩:=z3o (a:=a) (b:=b) (c:=c) (d:=d) (e:=e) (f:=f)
  obtain ⟨⟨b1,b2⟩,b3,b4⟩:=z0r h4 h6 hX hY
  have b5:=h6 4 (by omega)
  have b6:=h6 5 (by omega)
  have eS:atS (invL a b c d e f) X Y=4096+8192*((atS (invL a b c d e f) X Y-4096)/8192)+(atS (invL a b c d e f) X Y-4096)%8192:=by omega
  have eT:atT (invL a b c d e f) X Y=4096+8192*((atT (invL a b c d e f) X Y-4096)/8192)+(atT (invL a b c d e f) X Y-4096)%8192:=by omega
  have bS:-17179869184-17179869184-536870912≤atS (invL a b c d e f) X Y∧atS (invL a b c d e f) X Y≤17179869184+17179869184+536870912:=by unfold atS;omega
  have bT:-17179869184-17179869184-536870912≤atT (invL a b c d e f) X Y∧atT (invL a b c d e f) X Y≤17179869184+17179869184+536870912:=by unfold atT;omega
  obtain ⟨u,hu0⟩:∃ u,u=(atS (invL a b c d e f) X Y-4096)/8192:=⟨_,rfl⟩
  obtain ⟨v,hv0⟩:∃ v,v=(atT (invL a b c d e f) X Y-4096)/8192:=⟨_,rfl⟩
  obtain ⟨α,hα0⟩:∃ α,α=(atS (invL a b c d e f) X Y-4096)%8192:=⟨_,rfl⟩
  obtain ⟨β,hβ0⟩:∃ β,β=(atT (invL a b c d e f) X Y-4096)%8192:=⟨_,rfl⟩
  rw [← hu0,← hα0] at eS
  rw [← hv0,← hβ0] at eT
  have hα:0≤α∧α<8192:=by omega
  have hβ:0≤β∧β<8192:=by omega
  have hu:-1073741824≤u∧u≤1073741824:=by omega
  have hv:-1073741824≤v∧v≤1073741824:=by omega
  clear hu0 hv0 hα0 hβ0 bS bT b1 b2 b3 b4 b5 b6 h4 h6
  have hm:=v1x α β
  have k0:=w_bd (a:=8192-α) (b:=8192-β) (by omega) (by omega)
  have k1:=w_bd (a:=α) (b:=8192-β) (by omega) (by omega)
  have k2:=w_bd (a:=8192-α) (b:=β) (by omega) (by omega)
  have k3:=w_bd (a:=α) (b:=β) (by omega) (by omega)
  have g0:IntKind.i64.wrap ((8192-α)*(8192-β))=(8192-α)*(8192-β):=IntWalk.i64_in _ (by omega)
  have g1:IntKind.i64.wrap (α*(8192-β))=α*(8192-β):=IntWalk.i64_in _ (by omega)
  have g2:IntKind.i64.wrap ((8192-α)*β)=(8192-α)*β:=IntWalk.i64_in _ (by omega)
  have g3:IntKind.i64.wrap (α*β)=α*β:=IntWalk.i64_in _ (by omega)
  generalize hw0:(8192-α)*(8192-β)=w0 at *
  generalize hw1:α*(8192-β)=w1 at *
  generalize hw2:(8192-α)*β=w2 at *
  generalize hw3:α*β=w3 at *
  have sb:∀ k,0≤quS r W H u v m S k∧quS r W H u v m S k≤255:=fun k=>x0o ho hs
  have pb:∀ k j,j<8→0≤quP r W H u v P k j∧quP r W H u v P k j≤255:=fun k j hj=>x0r ho hpx hj
  have l0:=t_bd k0 (sb 0)
  have l1:=t_bd k1 (sb 1)
  have l2:=t_bd k2 (sb 2)
  have l3:=t_bd k3 (sb 3)
  obtain ⟨t0,ht0⟩:∃ t,t=w0*quS r W H u v m S 0:=⟨_,rfl⟩
  obtain ⟨t1,ht1⟩:∃ t,t=w1*quS r W H u v m S 1:=⟨_,rfl⟩
  obtain ⟨t2,ht2⟩:∃ t,t=w2*quS r W H u v m S 2:=⟨_,rfl⟩
  obtain ⟨t3,ht3⟩:∃ t,t=w3*quS r W H u v m S 3:=⟨_,rfl⟩
  rw [← ht0] at l0
  rw [← ht1] at l1
  rw [← ht2] at l2
  rw [← ht3] at l3
  have q0:IntKind.i64.wrap (w0*quS r W H u v m S 0)=t0:=by rw [← ht0];exact IntWalk.i64_in _ (by omega)
  have q1:IntKind.i64.wrap (w1*quS r W H u v m S 1)=t1:=by rw [← ht1];exact IntWalk.i64_in _ (by omega)
  have q2:IntKind.i64.wrap (w2*quS r W H u v m S 2)=t2:=by rw [← ht2];exact IntWalk.i64_in _ (by omega)
  have q3:IntKind.i64.wrap (w3*quS r W H u v m S 3)=t3:=by rw [← ht3];exact IntWalk.i64_in _ (by omega)
  clear ht0 ht1 ht2 ht3 g0 g1 g2 g3
  have z0:=fun j (hj:j<8)=>z_bd l0.1 (pb 0 j hj)
  have z1:=fun j (hj:j<8)=>z_bd l1.1 (pb 1 j hj)
  have z2:=fun j (hj:j<8)=>z_bd l2.1 (pb 2 j hj)
  have z3:=fun j (hj:j<8)=>z_bd l3.1 (pb 3 j hj)
  obtain ⟨so,hso⟩:∃ so,so=near (0+t0+t1+t2+t3) 67108864:=⟨_,rfl⟩
  have bso:0≤so∧so≤255:=by rw [hso];exact q2b _ _ 255 (by omega) (by omega) (by omega)
  have hall:so≠0→1≤0+t0+t1+t2+t3:=fun h=>by
    rcases Int.lt_or_le (0+t0+t1+t2+t3) 1 with h1 |h1
    · have h2:0+t0+t1+t2+t3=0:=by omega
      rw [h2] at hso
      exact absurd (hso.trans (by decide)) h
    · exact h1
  let Z:Nat→Nat→Int:=fun k j=>(match k with |0=>t0 |1=>t1 |2=>t2 |_=>t3)*quP r W H u v P k j
  let Y':Nat→Nat→Int:=fun k j=>match k with
    | 0=>0+t0*quP r W H u v P 0 j
    | 1=>0+t0*quP r W H u v P 0 j+t1*quP r W H u v P 1 j
    | 2=>0+t0*quP r W H u v P 0 j+t1*quP r W H u v P 1 j+t2*quP r W H u v P 2 j
    | _=>0+t0*quP r W H u v P 0 j+t1*quP r W H u v P 1 j+t2*quP r W H u v P 2 j+t3*quP r W H u v P 3 j
  let O:Nat→Int:=fun j=>if so=0 then 0 else near (Y' 3 j) (0+t0+t1+t2+t3)
  let R:Nat→Int:=if so=0 then fun _=>0 else O
  have bO:∀ j,j<8→0≤O j∧O j≤255:=fun j hj=>by
    show 0≤(if so=0 then 0 else near (Y' 3 j) (0+t0+t1+t2+t3))∧(if so=0 then 0 else near (Y' 3 j) (0+t0+t1+t2+t3))≤255
    split
    · omega
    · rename_i h
      have c0:=z0 j hj
      have c1:=z1 j hj
      have c2:=z2 j hj
      have c3:=z3 j hj
      exact q2b _ _ 255 (hall h) (by show 0≤0+t0*quP r W H u v P 0 j+t1*quP r W H u v P 1 j+t2*quP r W H u v P 2 j+t3*quP r W H u v P 3 j;omega) (by show 0+t0*quP r W H u v P 0 j+t1*quP r W H u v P 1 j+t2*quP r W H u v P 2 j+t3*quP r W H u v P 3 j≤_;omega)
  have hz:∀ (k:Nat) j,j<8→IntKind.i64.wrap (Z k j)=Z k j:=fun k j hj=>by
    have c0:=z0 j hj
    have c1:=z1 j hj
    have c2:=z2 j hj
    have key:∀ t,0≤t→t≤17112760320→IntKind.i64.wrap (t * quP r W H u v P k j)=t * quP r W H u v P k j:=fun t h1 h2=>by
      have:=z_bd h1 (pb k j hj)
      exact IntWalk.i64_in _ (by omega)
    match k with
    | 0=>exact key t0 l0.1 (by omega)
    | 1=>exact key t1 l1.1 (by omega)
    | 2=>exact key t2 l2.1 (by omega)
    | k+3=>exact key t3 l3.1 (by omega)
  have ys:∀ j,j<8→IntKind.i64.wrap (0+Z 0 j)=Y' 0 j∧IntKind.i64.wrap (Y' 0 j+Z 1 j)=Y' 1 j∧IntKind.i64.wrap (Y' 1 j+Z 2 j)=Y' 2 j∧IntKind.i64.wrap (Y' 2 j+Z 3 j)=Y' 3 j∧(0≤Y' 3 j∧Y' 3 j≤17451644813280):=fun j hj=>by
    have c0:=z0 j hj
    have c1:=z1 j hj
    have c2:=z2 j hj
    have c3:=z3 j hj
    refine ⟨IntWalk.i64_in _ ?_,IntWalk.i64_in _ ?_,IntWalk.i64_in _ ?_,IntWalk.i64_in _ ?_,?_⟩
    · show _≤0+t0*quP r W H u v P 0 j∧0+t0*quP r W H u v P 0 j≤_;omega
    · show _≤0+t0*quP r W H u v P 0 j+t1*quP r W H u v P 1 j∧0+t0*quP r W H u v P 0 j+t1*quP r W H u v P 1 j≤_;omega
    · show _≤0+t0*quP r W H u v P 0 j+t1*quP r W H u v P 1 j+t2*quP r W H u v P 2 j∧0+t0*quP r W H u v P 0 j+t1*quP r W H u v P 1 j+t2*quP r W H u v P 2 j≤_;omega
    · show _≤0+t0*quP r W H u v P 0 j+t1*quP r W H u v P 1 j+t2*quP r W H u v P 2 j+t3*quP r W H u v P 3 j∧0+t0*quP r W H u v P 0 j+t1*quP r W H u v P 1 j+t2*quP r W H u v P 2 j+t3*quP r W H u v P 3 j≤_;omega
    · show 0≤0+t0*quP r W H u v P 0 j+t1*quP r W H u v P 1 j+t2*quP r W H u v P 2 j+t3*quP r W H u v P 3 j∧0+t0*quP r W H u v P 0 j+t1*quP r W H u v P 1 j+t2*quP r W H u v P 2 j+t3*quP r W H u v P 3 j≤17451644813280;omega
  have hR0:so=0→R=fun _=>0:=fun h=>if_pos h
  have hR1:so≠0→R=O:=fun h=>if_neg h
  have hOo:so≠0→∀ j,O j=near (Y' 3 j) (0+t0+t1+t2+t3):=fun h j=>if_neg h
  have wI:∀ k j,k<4∧j<8→IntKind.i64.wrap (quP r W H u v P k j)=quP r W H u v P k j:=fun k j h=>(q59 (pb k j h.2)).2
  have wS:∀ k,k<4→IntKind.i64.wrap (quS r W H u v m S k)=quS r W H u v m S k:=fun k _=>(q59 (sb k)).2
  have bR:∀ j,j<8→0≤R j∧R j≤255:=fun j hj=>by
    by_cases h:so=0
    · rw [hR0 h];exact ⟨Int.le_refl _,show (0:Int)≤255 by omega⟩
    · rw [hR1 h];exact bO j hj
  refine ⟨R,so,⟨bso,bR⟩,fun G A B p q hp=>?_⟩
  have smp:=fun k=>z2t (a:=a) (b:=b) (c:=c) (d:=d) (e:=e) (f:=f) (s:=true) (r:=r) (p:=p) (q:=q) ho hp (u:=u+(k%2:Nat)) (v:=v+(k/2:Nat))
  have rsm:=fun k=>z1z (a:=a) (b:=b) (c:=c) (d:=d) (e:=e) (f:=f) (s:=true) (r:=r) (p:=p) (q:=q) ho hp (u:=u+(k%2:Nat)) (v:=v+(k/2:Nat))
  refine ⟨?_,?_⟩
  · exact x0q (I:=quP r W H u v P) (S:=quS r W H u v m S) (Z:=Z) (Y:=Y') (O:=O) (R:=R) eS eT hα hβ hu hv (by rw [hw0];exact IntWalk.i64_in _ (by omega)) (by rw [hw1];exact IntWalk.i64_in _ (by omega)) (by rw [hw2];exact IntWalk.i64_in _ (by omega)) (by rw [hw3];exact IntWalk.i64_in _ (by omega)) q0 q1 q2 q3
      (fun j hj=>hz 0 j hj) (fun j hj=>hz 1 j hj) (fun j hj=>hz 2 j hj) (fun j hj=>hz 3 j hj) (by omega) (by omega) (by omega) (by omega) wS wI (fun j hj=>(ys j hj).1) (fun j hj=>(ys j hj).2.1) (fun j hj=>(ys j hj).2.2.1) (fun j hj=>(ys j hj).2.2.2.1)
      (q59 bso).1 (fun j hj=>(q59 (bO j hj)).1) hR0 hR1 (by rw [hso];exact z5q (by omega) (by omega)) (fun h j hj=>by rw [hOo h];have:=(ys j hj).2.2.2.2;have:=hall h;exact z5q (by omega) (by omega))
      (smp 0 (by omega) (by omega)) (smp 1 (by omega) (by omega)) (smp 2 (by omega) (by omega)) (smp 3 (by omega) (by omega))
  · exact x4c (I:=quP r W H u v P) (S:=quS r W H u v m S) (Z:=Z) (Y:=Y') (O:=O) (R:=R) hX hY eS eT hα hβ hu hv (by rw [hw0];exact IntWalk.i64_in _ (by omega)) (by rw [hw1];exact IntWalk.i64_in _ (by omega)) (by rw [hw2];exact IntWalk.i64_in _ (by omega)) (by rw [hw3];exact IntWalk.i64_in _ (by omega)) q0 q1 q2 q3
      (fun j hj=>hz 0 j hj) (fun j hj=>hz 1 j hj) (fun j hj=>hz 2 j hj) (fun j hj=>hz 3 j hj) (by omega) (by omega) (by omega) (by omega) wS wI (fun j hj=>(ys j hj).1) (fun j hj=>(ys j hj).2.1) (fun j hj=>(ys j hj).2.2.1) (fun j hj=>(ys j hj).2.2.2.1)
      (q59 bso).1 (fun j hj=>(q59 (bO j hj)).1) hR0 hR1 (by rw [hso];exact z5v (by omega) (by omega)) (fun h j hj=>by rw [hOo h];have:=(ys j hj).2.2.2.2;have:=hall h;exact z5v (by omega) (by omega))
      (rsm 0 (by omega) (by omega) hs) (rsm 1 (by omega) (by omega) hs) (rsm 2 (by omega) (by omega) hs) (rsm 3 (by omega) (by omega) hs)
end
end Go.Proofs.YticolnghiibgfaaGreat
namespace Go.Proofs.YticolnghiibgfaaGreat.imageCells
open Go.RowKit
set_option maxRecDepth 20000
section
variable {W H:Int} {A B:Option Addr} {n p m q:Nat} {a b c d e f:Int} {s r:Bool} {x y:Int} {w:World} {g h:Nat→Nat→Value}
set_option maxHeartbeats 2000000 in
theorem x4e {G:Mem} {V:Nat→Int} {I:Nat→Int} {al:Int} (h4:∀ i,i<4→-1048576≤V i∧V i≤1048576) (h6:∀ i,i<6→-268435456≤V i∧V i≤268435456) (hx:-8192≤x∧x<8192) (hy:-8192≤y∧y<8192)
    (hs:Gives Tryz.prog 129 [pntA W H (.slice A n p) (.slice B m q) a b c d e f true r V,.val (.int .i64 (atS V x y)),.val (.int .i64 (atT V x y))] G (.tup [q1q I,.val (.int .u8 al)])) :
    Gives Tryz.prog 102 [pntA W H (.slice A n p) (.slice B m q) a b c d e f true r V,.val (.int .i64 x),.val (.int .i64 y)] G (.tup [q1q I,.val (.int .u8 al)]):=by
  obtain ⟨⟨b1,b2⟩,b3,b4⟩:=z0r h4 h6 hx hy
  have b5:=h6 4 (by omega)
  have b6:=h6 5 (by omega)
  unfold atS atT at hs
  refine q0w tab_ok Tryz.func102 ?_
  (repeat ((try (conv=>whnf));(first |(refine stQ ?_) |(with_reducible first |refine q0b (fun vs w=>by kernel_rfl) (by kernel_rfl) (hs) ?_ |refine q0a (fun vs w=>by kernel_rfl) (by kernel_rfl) (hs) ?_))))
  exact ⟨rfl,rfl⟩
set_option maxHeartbeats 2000000 in
theorem x8o {G:Mem} {I:Nat→Int} {al:Int} (hx:-8192≤x∧x<8192) (hy:-8192≤y∧y<8192)
    (hs:Gives Tryz.prog 139 [imgA W H (.slice A n p) (.slice B m q) a b c d e f false r,.val (.int .i64 (atS (invL a b c d e f) x y/8192)),.val (.int .i64 (atT (invL a b c d e f) x y/8192))] G (.tup [q1q I,.val (.int .i64 al)])) :
    Gives Tryz.prog 117 [imgA W H (.slice A n p) (.slice B m q) a b c d e f false r,.val (.int .i64 x),.val (.int .i64 y)] G (.tup [q1q I,.val (.int .i64 al)]):=by
  obtain ⟨h4,h6⟩:=z3o (a:=a) (b:=b) (c:=c) (d:=d) (e:=e) (f:=f)
  obtain ⟨⟨b1,b2⟩,b3,b4⟩:=z0r h4 h6 hx hy
  have b5:=h6 4 (by omega)
  have b6:=h6 5 (by omega)
  clear h4 h6
  have hi:=z1y (a:=a) (b:=b) (c:=c) (d:=d) (e:=e) (f:=f) (G:=G)
  generalize invL a b c d e f=V at *
  unfold atS atT at hs
  have hd1:=q37 (a:=V 0*(2*x+1)+V 2*(2*y+1)+2*V 4) (b:=8192) (G:=G) (by omega) (by omega)
  have hd2:=q37 (a:=V 1*(2*x+1)+V 3*(2*y+1)+2*V 5) (b:=8192) (G:=G) (by omega) (by omega)
  refine q0w tab_ok Tryz.func117 ?_
  (repeat ((try (conv=>whnf));(first |(refine stQ ?_) |(with_reducible first |refine q0b (fun vs w=>by kernel_rfl) (by kernel_rfl) (hi) ?_ |refine q0a (fun vs w=>by kernel_rfl) (by kernel_rfl) (hi) ?_ |refine q0b (fun vs w=>by kernel_rfl) (by kernel_rfl) (hd1) ?_ |refine q0a (fun vs w=>by kernel_rfl) (by kernel_rfl) (hd1) ?_ |refine q0b (fun vs w=>by kernel_rfl) (by kernel_rfl) (hd2) ?_ |refine q0a (fun vs w=>by kernel_rfl) (by kernel_rfl) (hd2) ?_ |refine q0b (fun vs w=>by kernel_rfl) (by kernel_rfl) (hs) ?_ |refine q0a (fun vs w=>by kernel_rfl) (by kernel_rfl) (hs) ?_))))
  exact ⟨rfl,rfl⟩
theorem x0s {P:Nat→Nat→Int} {S:Nat→Int} (ho:ImgOk W H n m) (hpx:∀ x j,x<n→j<8→0≤P x j∧P x j≤255) (hs:∀ x,x<m→0≤S x∧S x≤255) (hX:-8192≤x∧x<8192) (hY:-8192≤y∧y<8192) :
    ∃ R so,((0≤so∧so≤255)∧∀ j,j<8→0≤R j∧R j≤255)∧∀ (G:Mem) (A B:Option Addr) (p q:Nat),Pics G A n P B m S→Gives Tryz.prog 102 [pntA W H (.slice A n p) (.slice B m q) a b c d e f s r (invL a b c d e f),.val (.int .i64 x),.val (.int .i64 y)] G (.tup [q1q R,.val (.int .u8 so)]) ∧
      Gives Tryz.prog 117 [imgA W H (.slice A n p) (.slice B m q) a b c d e f s r,.val (.int .i64 x),.val (.int .i64 y)] G (.tup [q1q R,.val (.int .i64 so)]):=by
  obtain ⟨h4,h6⟩:=z3o (a:=a) (b:=b) (c:=c) (d:=d) (e:=e) (f:=f)
  obtain ⟨⟨b1,b2⟩,b3,b4⟩:=z0r h4 h6 hX hY
  have b5:=h6 4 (by omega)
  have b6:=h6 5 (by omega)
  cases s
  · have bS:-34896609280≤atS (invL a b c d e f) x y∧atS (invL a b c d e f) x y≤34896609280:=by unfold atS;omega
    have bT:-34896609280≤atT (invL a b c d e f) x y∧atT (invL a b c d e f) x y≤34896609280:=by unfold atT;omega
    refine ⟨fun j=>q8m r W H (atS (invL a b c d e f) x y/8192) (atT (invL a b c d e f) x y/8192) P j,q5h r W H (atS (invL a b c d e f) x y/8192) (atT (invL a b c d e f) x y/8192) m S,⟨x0o ho hs,fun j hj=>x0r ho hpx hj⟩,fun G A B p q hp=>?_⟩
    have h1:=z2t (a:=a) (b:=b) (c:=c) (d:=d) (e:=e) (f:=f) (s:=false) (r:=r) (p:=p) (q:=q) ho hp (u:=atS (invL a b c d e f) x y/8192) (v:=atT (invL a b c d e f) x y/8192) (by omega) (by omega)
    have h2:=z1z (a:=a) (b:=b) (c:=c) (d:=d) (e:=e) (f:=f) (s:=false) (r:=r) (p:=p) (q:=q) ho hp (u:=atS (invL a b c d e f) x y/8192) (v:=atT (invL a b c d e f) x y/8192) (by omega) (by omega) hs
    exact ⟨x8n h4 h6 hX hY h1,x8o hX hY h2⟩
  · obtain ⟨R,so,h1,h2⟩:=x4d (a:=a) (b:=b) (c:=c) (d:=d) (e:=e) (f:=f) (r:=r) ho hpx hs hX hY
    exact ⟨R,so,h1,fun G A B p q hp=>⟨x4e h4 h6 hX hY (h2 G A B p q hp).1,(h2 G A B p q hp).2⟩⟩
theorem both {G:Mem} {P:Nat→Nat→Int} {S:Nat→Int} (ho:ImgOk W H n m) (hp:Pics G A n P B m S) (hpx:∀ x j,x<n→j<8→0≤P x j∧P x j≤255) (hs:∀ x,x<m→0≤S x∧S x≤255) (hX:-8192≤x∧x<8192) (hY:-8192≤y∧y<8192) :
    ∃ R so,Gives Tryz.prog 102 [pntA W H (.slice A n p) (.slice B m q) a b c d e f s r (invL a b c d e f),.val (.int .i64 x),.val (.int .i64 y)] G (.tup [q1q R,.val (.int .u8 so)]) ∧
      Gives Tryz.prog 117 [imgA W H (.slice A n p) (.slice B m q) a b c d e f s r,.val (.int .i64 x),.val (.int .i64 y)] G (.tup [q1q R,.val (.int .i64 so)])∧(0≤so∧so≤255)∧∀ j,j<8→0≤R j∧R j≤255:=by
  obtain ⟨R,so,h1,h2⟩:=x0s (a:=a) (b:=b) (c:=c) (d:=d) (e:=e) (f:=f) (s:=s) (r:=r) ho hpx hs hX hY
  obtain ⟨h3,h4⟩:=h2 G A B p q hp
  exact ⟨R,so,h3,h4,h1⟩
end
end Go.Proofs.YticolnghiibgfaaGreat.imageCells
namespace Go.Proofs.YticolnghiibgfaaGreat
open Go.RowKit Go.Proofs.YticolnghiibgfaaGreat.gradientRamps Go.Proofs.YticolnghiibgfaaGreat.gradientPlaces Go.Proofs.YticolnghiibgfaaGreat.imageCells
set_option maxRecDepth 20000
theorem q1r:flat Tryz.prog 20 119=[.int .i64,.int .u8,.int .u8,.int .u8,.int .u8,.int .u8,.int .u8,.int .u8,.int .u8]:=by kernel_rfl
section
variable {w:World} {A:Option Addr} {n:Nat} {g:Nat→Nat→Value}
theorem v1g (h:SliceG Tryz.prog w 119 A n g):x9f (q2k w) A n (fun x=>valI (g x 0)) (fun x j=>valI (g x (j+1))):=by
  have e9:Tryz.prog.cellsOf 119=9:=by kernel_rfl
  intro x hx
  obtain ⟨b,off,rfl,_,hc⟩:=h (by omega)
  rw [e9] at hc
  refine ⟨⟨b,off,none⟩,rfl,fun K k=>q1e _ rfl (fun j u hj=>?_) k⟩
  rw [q0k,q0k]
  match j,hj with
  | 0,hj=>simp at hj;subst hj;rw [← (h.int (j:=0) (by kernel_rfl) hx (by rw [q1r];rfl)).1];exact (hc x hx).1 0 (by omega)
  | 1,hj=>simp at hj;subst hj;rw [← (h.int (j:=1) (by kernel_rfl) hx (by rw [q1r];rfl)).1];exact (hc x hx).1 1 (by omega)
  | 2,hj=>simp at hj;subst hj;rw [← (h.int (j:=2) (by kernel_rfl) hx (by rw [q1r];rfl)).1];exact (hc x hx).1 2 (by omega)
  | 3,hj=>simp at hj;subst hj;rw [← (h.int (j:=3) (by kernel_rfl) hx (by rw [q1r];rfl)).1];exact (hc x hx).1 3 (by omega)
  | 4,hj=>simp at hj;subst hj;rw [← (h.int (j:=4) (by kernel_rfl) hx (by rw [q1r];rfl)).1];exact (hc x hx).1 4 (by omega)
  | 5,hj=>simp at hj;subst hj;rw [← (h.int (j:=5) (by kernel_rfl) hx (by rw [q1r];rfl)).1];exact (hc x hx).1 5 (by omega)
  | 6,hj=>simp at hj;subst hj;rw [← (h.int (j:=6) (by kernel_rfl) hx (by rw [q1r];rfl)).1];exact (hc x hx).1 6 (by omega)
  | 7,hj=>simp at hj;subst hj;rw [← (h.int (j:=7) (by kernel_rfl) hx (by rw [q1r];rfl)).1];exact (hc x hx).1 7 (by omega)
  | 8,hj=>simp at hj;subst hj;rw [← (h.int (j:=8) (by kernel_rfl) hx (by rw [q1r];rfl)).1];exact (hc x hx).1 8 (by omega)
theorem v1h (h:SliceG Tryz.prog w 119 A n g):x9g (q2k w) A n (fun x j=>valI (g x (j+1))):=by
  have e9:Tryz.prog.cellsOf 119=9:=by kernel_rfl
  intro x hx
  obtain ⟨b,off,rfl,_,hc⟩:=h (by omega)
  rw [e9] at hc
  refine ⟨⟨b,off,none⟩,rfl,fun K k=>q1e _ rfl (fun j u hj=>?_) k⟩
  rw [q0k,q0k,q0k,Nat.add_assoc,Nat.add_comm 1 j]
  match j,hj with
  | 0,hj=>simp at hj;subst hj;rw [← (h.int (j:=1) (by kernel_rfl) hx (by rw [q1r];rfl)).1];exact (hc x hx).1 1 (by omega)
  | 1,hj=>simp at hj;subst hj;rw [← (h.int (j:=2) (by kernel_rfl) hx (by rw [q1r];rfl)).1];exact (hc x hx).1 2 (by omega)
  | 2,hj=>simp at hj;subst hj;rw [← (h.int (j:=3) (by kernel_rfl) hx (by rw [q1r];rfl)).1];exact (hc x hx).1 3 (by omega)
  | 3,hj=>simp at hj;subst hj;rw [← (h.int (j:=4) (by kernel_rfl) hx (by rw [q1r];rfl)).1];exact (hc x hx).1 4 (by omega)
  | 4,hj=>simp at hj;subst hj;rw [← (h.int (j:=5) (by kernel_rfl) hx (by rw [q1r];rfl)).1];exact (hc x hx).1 5 (by omega)
  | 5,hj=>simp at hj;subst hj;rw [← (h.int (j:=6) (by kernel_rfl) hx (by rw [q1r];rfl)).1];exact (hc x hx).1 6 (by omega)
  | 6,hj=>simp at hj;subst hj;rw [← (h.int (j:=7) (by kernel_rfl) hx (by rw [q1r];rfl)).1];exact (hc x hx).1 7 (by omega)
  | 7,hj=>simp at hj;subst hj;rw [← (h.int (j:=8) (by kernel_rfl) hx (by rw [q1r];rfl)).1];exact (hc x hx).1 8 (by omega)
theorem x9i (h:SliceG Tryz.prog w 28 A n g):PixM (q2k w) A n (fun x j=>valI (g x j)):=by
  have e8:Tryz.prog.cellsOf 28=8:=by kernel_rfl
  intro x hx
  obtain ⟨b,off,rfl,_,hc⟩:=h (by omega)
  rw [e8] at hc
  refine ⟨⟨b,off,none⟩,rfl,fun K k=>q1e _ rfl (fun j u hj=>?_) k⟩
  rw [q0k,q0k]
  match j,hj with
  | 0,hj=>simp at hj;subst hj;rw [← (h.int (j:=0) (by kernel_rfl) hx (by rw [q38];rfl)).1];exact (hc x hx).1 0 (by omega)
  | 1,hj=>simp at hj;subst hj;rw [← (h.int (j:=1) (by kernel_rfl) hx (by rw [q38];rfl)).1];exact (hc x hx).1 1 (by omega)
  | 2,hj=>simp at hj;subst hj;rw [← (h.int (j:=2) (by kernel_rfl) hx (by rw [q38];rfl)).1];exact (hc x hx).1 2 (by omega)
  | 3,hj=>simp at hj;subst hj;rw [← (h.int (j:=3) (by kernel_rfl) hx (by rw [q38];rfl)).1];exact (hc x hx).1 3 (by omega)
  | 4,hj=>simp at hj;subst hj;rw [← (h.int (j:=4) (by kernel_rfl) hx (by rw [q38];rfl)).1];exact (hc x hx).1 4 (by omega)
  | 5,hj=>simp at hj;subst hj;rw [← (h.int (j:=5) (by kernel_rfl) hx (by rw [q38];rfl)).1];exact (hc x hx).1 5 (by omega)
  | 6,hj=>simp at hj;subst hj;rw [← (h.int (j:=6) (by kernel_rfl) hx (by rw [q38];rfl)).1];exact (hc x hx).1 6 (by omega)
  | 7,hj=>simp at hj;subst hj;rw [← (h.int (j:=7) (by kernel_rfl) hx (by rw [q38];rfl)).1];exact (hc x hx).1 7 (by omega)
end
section
variable {k:Int} {I:Nat→Int} {fx fy tx ty r:Int} {A:Option Addr} {n q:Nat} {W H:Int} {B:Option Addr} {pn pq:Nat} {C:Option Addr} {sn sq:Nat} {a b c d e f:Int} {s t:Bool} {G:Mem} {er x y:Int}
set_option maxHeartbeats 4000000
theorem z60:Gives Tryz.prog 89 [srcA 0 I fx fy tx ty r (.slice A n q) W H (.slice B pn pq) (.slice C sn sq) a b c d e f s t,.val (.int .i64 x),.val (.int .i64 y)] G (.tup [q1q I,.val (.int .i64 255)]):=by
  refine q0w tab_ok Tryz.func89 ?_
  (repeat ((try (conv=>whnf));(refine stQ ?_)))
  exact ⟨rfl,rfl⟩
theorem z8o {V:Nat→Int} {p:Int} (hk:k=1∨k=2)
    (hp:Gives Tryz.prog 119 [srcA k I fx fy tx ty r (.slice A n q) W H (.slice B pn pq) (.slice C sn sq) a b c d e f s t,.val (.int .i64 x),.val (.int .i64 y)] G (.val (.int .i64 p))) (hr:Gives Tryz.prog 118 [.val (.slice A n q),.val (.int .i64 p)] G (inks V)) :
    Gives Tryz.prog 89 [srcA k I fx fy tx ty r (.slice A n q) W H (.slice B pn pq) (.slice C sn sq) a b c d e f s t,.val (.int .i64 x),.val (.int .i64 y)] G (.tup [inks V,.val (.int .i64 255)]):=by
  refine q0w tab_ok Tryz.func89 ?_
  rcases hk with rfl |rfl
  · (repeat ((try (conv=>whnf));(first |(refine stQ ?_) |(with_reducible first |refine q0b (fun vs w=>by kernel_rfl) (by kernel_rfl) (hp) ?_ |refine q0a (fun vs w=>by kernel_rfl) (by kernel_rfl) (hp) ?_ |refine q0b (fun vs w=>by kernel_rfl) (by kernel_rfl) (hr) ?_ |refine q0a (fun vs w=>by kernel_rfl) (by kernel_rfl) (hr) ?_))))
    exact ⟨rfl,rfl⟩
  · (repeat ((try (conv=>whnf));(first |(refine stQ ?_) |(with_reducible first |refine q0b (fun vs w=>by kernel_rfl) (by kernel_rfl) (hp) ?_ |refine q0a (fun vs w=>by kernel_rfl) (by kernel_rfl) (hp) ?_ |refine q0b (fun vs w=>by kernel_rfl) (by kernel_rfl) (hr) ?_ |refine q0a (fun vs w=>by kernel_rfl) (by kernel_rfl) (hr) ?_))))
    exact ⟨rfl,rfl⟩
theorem z61 {R:Nat→Int} {so:Int}
    (hA:Gives Tryz.prog 117 [imgA W H (.slice B pn pq) (.slice C sn sq) a b c d e f s t,.val (.int .i64 x),.val (.int .i64 y)] G (.tup [q1q R,.val (.int .i64 so)])) :
    Gives Tryz.prog 89 [srcA 3 I fx fy tx ty r (.slice A n q) W H (.slice B pn pq) (.slice C sn sq) a b c d e f s t,.val (.int .i64 x),.val (.int .i64 y)] G (.tup [if so=0 then ink0 else q1q R,.val (.int .i64 so)]):=by
  refine q0w tab_ok Tryz.func89 ?_
  by_cases h0:so=0
  · subst h0
    rw [if_pos rfl]
    (repeat ((try (conv=>whnf));(first |(refine stQ ?_) |(with_reducible first |refine q0b (fun vs w=>by kernel_rfl) (by kernel_rfl) (hA) ?_ |refine q0a (fun vs w=>by kernel_rfl) (by kernel_rfl) (hA) ?_))))
    exact ⟨rfl,rfl⟩
  · rw [if_neg h0]
    (repeat ((try (conv=>whnf));(first |(refine stQ ?_) |(with_reducible first |refine q0b (fun vs w=>by kernel_rfl) (by kernel_rfl) (hA) ?_ |refine q0a (fun vs w=>by kernel_rfl) (by kernel_rfl) (hA) ?_))))
    exact ⟨rfl,rfl⟩
end
end Go.Proofs.YticolnghiibgfaaGreat
namespace Go.Proofs.YticolnghiibgfaaGreat
open Go.RowKit
theorem x6g {P:Program} {T:Tab} (hT:TOk P T) {n0:Nat} {b:Code} {fr:List AV} {hp:List Blk} {G:Mem} {Q:Post} {ι κ:Type} (inv:ι→κ→Prop) (S:ι→κ→List (Nat × AV)) (H:ι→κ→List Blk) (μ:ι→κ→Nat) (i0:ι) (k0:κ) (h0:inv i0 k0)
    (start:Le n0 fr hp G (q5n b fr (S i0 k0)) (H i0 k0) G)
    (round:∀ i k,inv i k→z1j (q3n b []) fun ws=>q85 ws 0 fr fun fr1=>q62 fr1 (S i k) fun fr2=>z1a P T n0 b fr2 (H i k) G fun e fr' hp' G'=>match e with
      | .normal=>∃ i' k',inv i' k'∧μ i' k'<μ i k∧Le n0 fr' hp' G' (q5n b fr (S i' k')) (H i' k') G
      | e=>Q e fr' hp' G'):LoopP P n0 b fr hp G Q:=by
  refine z4j hT (fun i:ι × κ=>inv i.1 i.2) (fun i=>q5n b fr (S i.1 i.2)) (fun i=>H i.1 i.2) (fun _=>G) (fun i=>μ i.1 i.2) ⟨(i0,k0),h0,start⟩ fun i hi=>?_
  have h:=round i.1 i.2 hi
  rw [q86,q7v,q6g] at h
  refine cast (congrArg _ ?_) h
  funext e fr' hp' G'
  cases e with
  | normal=>exact propext ⟨fun ⟨i',k',h1,h2,h3⟩=>⟨(i',k'),h1,h2,h3⟩,fun ⟨p,h1,h2,h3⟩=>⟨p.1,p.2,h1,h2,h3⟩⟩
  | _=>rfl
def q6o (w:World) (o:Option Nat):Mem:=fun b=>if o=some b then none else w.heap[b]?
end Go.Proofs.YticolnghiibgfaaGreat
namespace Go.Proofs.YticolnghiibgfaaGreat
open Go.RowKit
def q0o (c:Nat→List Value):Nat→List Value
  | 0=>[]
  | n+1=>q0o c n++c n
theorem q2u {c:Nat→List Value} {sz:Nat}:∀ {n:Nat},(∀ x,x<n→(c x).length=sz)→(q0o c n).length=n*sz
  | 0,_=>by simp [q0o]
  | n+1,h=>by
    rw [q0o,List.length_append,q2u (n:=n) (fun x hx=>h x (by omega)),h n (by omega),Nat.add_mul,Nat.one_mul]
theorem q39 {c:Nat→List Value} {sz:Nat}:∀ {n:Nat},(∀ x,x<n→(c x).length=sz)→∀ {x j:Nat},x<n→j<sz→(q0o c n)[x*sz+j]? = (c x)[j]?
  | 0,_,_,_,hx,_=>by omega
  | n+1,h,x,j,hx,hj=>by
    have hl:=q2u (n:=n) (fun x hx=>h x (by omega))
    rw [q0o]
    rcases Nat.lt_or_ge x n with h1 |h1
    · have:x*sz+j<n*sz:=by
        have:=Nat.mul_le_mul_right sz (show x+1≤n by omega)
        rw [Nat.add_mul,Nat.one_mul] at this;omega
      rw [List.getElem?_append_left (by omega)]
      exact q39 (fun x hx=>h x (by omega)) h1 hj
    · obtain rfl:x=n:=by omega
      rw [List.getElem?_append_right (by omega),hl]
      congr 1;omega
theorem q42 {c d:Nat→List Value}:∀ {n:Nat},(∀ x,x<n→c x=d x)→q0o c n=q0o d n
  | 0,_=>rfl
  | n+1,h=>by rw [q0o,q0o,q42 (n:=n) (fun x hx=>h x (by omega)),h n (by omega)]
theorem q7z (c:Nat→List Value) (m:Nat):∀ (n:Nat),q0o c (m+n)=q0o c m++q0o (fun x=>c (m+x)) n
  | 0=>by simp [q0o]
  | n+1=>by rw [← Nat.add_assoc,q0o,q7z c m n,q0o,List.append_assoc]
theorem z77 {c:Nat→List Value}:∀ {n:Nat},(∀ x,x<n→∀ v∈c x,v.oneCell'=true)→∀ v∈q0o c n,v.oneCell'=true
  | 0,_,v,hv=>by simp [q0o] at hv
  | n+1,h,v,hv=>by
    rw [q0o,List.mem_append] at hv
    rcases hv with hv |hv
    · exact z77 (n:=n) (fun x hx=>h x (by omega)) v hv
    · exact h n (by omega) v hv
structure ElsM (G:Mem) (A:Option Addr) (sz n:Nat) (c:Nat→List Value):Prop where
  len:∀ x,x<n→(c x).length=sz
  at_:∀ x,x<n→∃ b off,A=some ⟨b,off,none⟩∧∀ j v,(c x)[j]? = some v→G.cell? ⟨b,off+x*sz+j,none⟩=some v
section
variable {G G':Mem} {A:Option Addr} {sz n:Nat} {c d:Nat→List Value}
theorem ElsM.mono (h:ElsM G A sz n c) (hle:G.le G'):ElsM G' A sz n c:=⟨h.len,fun x hx=>by
  obtain ⟨b,off,h1,h2⟩:=h.at_ x hx
  exact ⟨b,off,h1,fun j v hj=>hle.cell (h2 j v hj)⟩⟩
theorem ElsM.less (h:ElsM G A sz n c) {k:Nat} (hk:k≤n):ElsM G A sz k c:=⟨fun x hx=>h.len x (by omega),fun x hx=>h.at_ x (by omega)⟩
theorem ElsM.congr (h:ElsM G A sz n c) (e:∀ x,x<n→c x=d x):ElsM G A sz n d :=
  ⟨fun x hx=>by rw [← e x hx];exact h.len x hx,fun x hx=>by rw [← e x hx];exact h.at_ x hx⟩
theorem ElsM.none:ElsM G A sz 0 c:=⟨fun x hx=>by omega,fun x hx=>by omega⟩
theorem ElsM.drop (h:ElsM G A sz n c) {k:Nat} (hk:k≤n):ElsM G (A.map fun p=>p.add (k*sz)) sz (n-k) (fun x=>c (k+x)) :=
  ⟨fun x hx=>h.len _ (by omega),fun x hx=>by
    obtain ⟨b,off,rfl,h2⟩:=h.at_ (k+x) (by omega)
    refine ⟨b,off+k*sz,by simp [q0k],fun j v hj=>?_⟩
    have:=h2 j v hj
    rwa [show off+k*sz+x*sz+j=off+(k+x)*sz+j by rw [Nat.add_mul];omega]⟩
theorem ElsM.cells (h:ElsM G A sz n c) {x:Nat} (hx:x<n):∃ p:Addr,A=some p∧∀ K:List Value→Prop,K (c x)→OldCells G (p.add (x*sz)) sz K:=by
  obtain ⟨b,off,rfl,h2⟩:=h.at_ x hx
  refine ⟨_,rfl,fun K k=>q1e _ (h.len x hx) (fun j u hj=>?_) k⟩
  rw [q0k,q0k]
  exact h2 j u hj
theorem ElsM.cell (h:ElsM G A sz n c) {x j:Nat} {v:Value} (hx:x<n) (hj:(c x)[j]? = some v):∃ p:Addr,A=some p∧G.cell? (Addr.add (p.add (x*sz)) j)=some v:=by
  obtain ⟨b,off,rfl,h2⟩:=h.at_ x hx
  exact ⟨_,rfl,by rw [q0k,q0k];exact h2 j v hj⟩
theorem ElsM.frozen (hl:∀ x,x<n→(c x).length=sz) (h:q0o c n=[]∨∃ b,A=some ⟨b,0,Option.none⟩∧∀ (j:Nat) u,(q0o c n)[j]? = some u→G.cell? ⟨b,j,Option.none⟩=some u) (hA:0<sz):ElsM G A sz n c:=by
  refine ⟨hl,fun x hx=>?_⟩
  rcases h with h |⟨b,rfl,h⟩
  · have:=q2u hl
    rw [h] at this
    have h1:0<n*sz:=Nat.mul_pos (by omega) hA
    simp at this;omega
  · refine ⟨b,0,rfl,fun j v hj=>?_⟩
    have hjl:j<sz:=by have:=(List.getElem?_eq_some_iff.1 hj).1;rw [hl x hx] at this;exact this
    rw [Nat.zero_add]
    exact h _ _ (by rw [q39 hl hx hjl];exact hj)
end
end Go.Proofs.YticolnghiibgfaaGreat
