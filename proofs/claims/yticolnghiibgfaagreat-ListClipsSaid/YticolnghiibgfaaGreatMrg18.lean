/-
  Merged: XSmoothBoth, XImageBoth, XListX, XEz, XRow.
-/
import Derived.Test.YticolnghiibgfaaGreatMrg17
import Derived.Test.YticolnghiibgfaaGreatMrg16
import Derived.Test.YticolnghiibgfaaGreatEng2
set_option linter.unusedVariables false
set_option linter.unusedSimpArgs false
set_option linter.unnecessarySimpa false
namespace Go.Proofs.YticolnghiibgfaaGreat
open Go.RowKit
set_option maxRecDepth 20000
theorem w_bd {a b:Int} (ha:0≤a∧a≤8192) (hb:0≤b∧b≤8192):0≤a*b∧a*b≤67108864:=by
  have h1:=Int.mul_nonneg ha.1 hb.1
  have h2:a*b≤8192*8192:=Int.mul_le_mul ha.2 hb.2 hb.1 (by omega)
  omega
theorem v3w (α β:Int):(8192-α)*(8192-β)+α*(8192-β)+(8192-α)*β+α*β=67108864:=by
  have h1:(8192-α)*(8192-β)+α*(8192-β)=8192*(8192-β):=by rw [← Int.add_mul];congr 1;omega
  have h2:(8192-α)*β+α*β=8192*β:=by rw [← Int.add_mul];congr 1;omega
  omega
theorem t_bd {w s:Int} (hw:0≤w∧w≤67108864) (hs:0≤s∧s≤255):0≤w*s∧w*s≤255*w:=by
  have h1:=Int.mul_nonneg hw.1 hs.1
  have h2:w*s≤w*255:=Int.mul_le_mul_of_nonneg_left hs.2 hw.1
  omega
theorem z_bd {t i:Int} (ht:0≤t) (hi:0≤i∧i≤255):0≤t * i∧t * i≤255*t:=by
  have h1:=Int.mul_nonneg ht hi.1
  have h2:t * i≤t * 255:=Int.mul_le_mul_of_nonneg_left hi.2 ht
  omega
theorem q64 {x:Int} (h:0≤x∧x≤255):IntKind.u8.wrap x=x∧IntKind.i64.wrap x=x :=
  ⟨IntWalk.u8_in _ h,IntWalk.i64_in _ (by omega)⟩
section
variable {W H:Int} {A B:Option Addr} {n p m q:Nat} {P:Nat→Nat→Int} {S:Nat→Int} {a b c d e f:Int} {r:Bool} {G:Mem} {X Y:Int}
theorem x19 (ho:ImgOk W H n m) (hpx:∀ x j,x<n→j<8→0≤P x j∧P x j≤255) {u v:Int} {j:Nat} (hj:j<8):0≤q9e r W H u v P j∧q9e r W H u v P j≤255:=by
  unfold q9e
  split
  · rename_i hi
    have:=z4x hi
    have hn:=ho.n
    refine hpx _ j ?_ hj
    unfold atI;omega
  · omega
def quP (r:Bool) (W H u v:Int) (P:Nat→Nat→Int) (k j:Nat):Int:=q9e r W H (u+(k%2:Nat)) (v+(k/2:Nat)) P j
def quS (r:Bool) (W H u v:Int) (m:Nat) (S:Nat→Int) (k:Nat):Int:=q54 r W H (u+(k%2:Nat)) (v+(k/2:Nat)) m S
set_option maxHeartbeats 4000000 in
theorem x5v {m:Nat} {S:Nat→Int} {P:Nat→Nat→Int} (ho:ImgOk W H n m) (hpx:∀ x j,x<n→j<8→0≤P x j∧P x j≤255) (hs:∀ x,x<m→0≤S x∧S x≤255) (hX:-8192≤X∧X<8192) (hY:-8192≤Y∧Y<8192) :
    ∃ R so,((0≤so∧so≤255)∧∀ j,j<8→0≤R j∧R j≤255)∧∀ (G:Mem) (A B:Option Addr) (p q:Nat),Pics G A n P B m S→Gives Tryz.prog 129 [pntA W H (.slice A n p) (.slice B m q) a b c d e f true r (invL a b c d e f),.val (.int .i64 (atS (invL a b c d e f) X Y)),.val (.int .i64 (atT (invL a b c d e f) X Y))] G (.tup [q1z R,.val (.int .u8 so)]) ∧
      Gives Tryz.prog 117 [imgA W H (.slice A n p) (.slice B m q) a b c d e f true r,.val (.int .i64 X),.val (.int .i64 Y)] G (.tup [q1z R,.val (.int .i64 so)]):=by
  obtain ⟨h4,h6⟩:=z4z (a:=a) (b:=b) (c:=c) (d:=d) (e:=e) (f:=f)
  obtain ⟨⟨b1,b2⟩,b3,b4⟩:=z1n h4 h6 hX hY
  have b5:=h6 4 (by omega)
  have b6:=h6 5 (by omega)
  have eS:atS (invL a b c d e f) X Y=4096+8192*((atS (invL a b c d e f) X Y-4096)/8192)+(atS (invL a b c d e f) X Y-4096)%8192:=by omega
  have eT:atT (invL a b c d e f) X Y=4096+8192*((atT (invL a b c d e f) X Y-4096)/8192)+(atT (invL a b c d e f) X Y-4096)%8192:=by omega
  have bS:-17179869184-17179869184-536870912≤atS (invL a b c d e f) X Y∧atS (invL a b c d e f) X Y≤17179869184+17179869184+536870912:=by unfold atS;omega
  have bT:-17179869184-17179869184-536870912≤atT (invL a b c d e f) X Y∧atT (invL a b c d e f) X Y≤17179869184+17179869184+536870912:=by unfold atT;omega
  obtain ⟨u,hu0⟩:∃ u,u=(atS (invL a b c d e f) X Y-4096)/8192:=⟨_,rfl⟩
  obtain ⟨v,hv0⟩:∃ v,v=(atT (invL a b c d e f) X Y-4096)/8192:=⟨_,rfl⟩
  obtain ⟨α,hα0⟩:∃ α,α=(atS (invL a b c d e f) X Y-4096)%8192:=⟨_,rfl⟩
  obtain ⟨β,hβ0⟩:∃ β,β=(atT (invL a b c d e f) X Y-4096)%8192:=⟨_,rfl⟩
  rw [← hu0,← hα0] at eS
  rw [← hv0,← hβ0] at eT
  have hα:0≤α∧α<8192:=by omega
  have hβ:0≤β∧β<8192:=by omega
  have hu:-1073741824≤u∧u≤1073741824:=by omega
  have hv:-1073741824≤v∧v≤1073741824:=by omega
  clear hu0 hv0 hα0 hβ0 bS bT b1 b2 b3 b4 b5 b6 h4 h6
  have hm:=v3w α β
  have k0:=w_bd (a:=8192-α) (b:=8192-β) (by omega) (by omega)
  have k1:=w_bd (a:=α) (b:=8192-β) (by omega) (by omega)
  have k2:=w_bd (a:=8192-α) (b:=β) (by omega) (by omega)
  have k3:=w_bd (a:=α) (b:=β) (by omega) (by omega)
  have g0:IntKind.i64.wrap ((8192-α)*(8192-β))=(8192-α)*(8192-β):=IntWalk.i64_in _ (by omega)
  have g1:IntKind.i64.wrap (α*(8192-β))=α*(8192-β):=IntWalk.i64_in _ (by omega)
  have g2:IntKind.i64.wrap ((8192-α)*β)=(8192-α)*β:=IntWalk.i64_in _ (by omega)
  have g3:IntKind.i64.wrap (α*β)=α*β:=IntWalk.i64_in _ (by omega)
  generalize hw0:(8192-α)*(8192-β)=w0 at *
  generalize hw1:α*(8192-β)=w1 at *
  generalize hw2:(8192-α)*β=w2 at *
  generalize hw3:α*β=w3 at *
  have sb:∀ k,0≤quS r W H u v m S k∧quS r W H u v m S k≤255:=fun k=>x16 ho hs
  have pb:∀ k j,j<8→0≤quP r W H u v P k j∧quP r W H u v P k j≤255:=fun k j hj=>x19 ho hpx hj
  have l0:=t_bd k0 (sb 0)
  have l1:=t_bd k1 (sb 1)
  have l2:=t_bd k2 (sb 2)
  have l3:=t_bd k3 (sb 3)
  obtain ⟨t0,ht0⟩:∃ t,t=w0*quS r W H u v m S 0:=⟨_,rfl⟩
  obtain ⟨t1,ht1⟩:∃ t,t=w1*quS r W H u v m S 1:=⟨_,rfl⟩
  obtain ⟨t2,ht2⟩:∃ t,t=w2*quS r W H u v m S 2:=⟨_,rfl⟩
  obtain ⟨t3,ht3⟩:∃ t,t=w3*quS r W H u v m S 3:=⟨_,rfl⟩
  rw [← ht0] at l0
  rw [← ht1] at l1
  rw [← ht2] at l2
  rw [← ht3] at l3
  have q0:IntKind.i64.wrap (w0*quS r W H u v m S 0)=t0:=by rw [← ht0];exact IntWalk.i64_in _ (by omega)
  have q1:IntKind.i64.wrap (w1*quS r W H u v m S 1)=t1:=by rw [← ht1];exact IntWalk.i64_in _ (by omega)
  have q2:IntKind.i64.wrap (w2*quS r W H u v m S 2)=t2:=by rw [← ht2];exact IntWalk.i64_in _ (by omega)
  have q3:IntKind.i64.wrap (w3*quS r W H u v m S 3)=t3:=by rw [← ht3];exact IntWalk.i64_in _ (by omega)
  clear ht0 ht1 ht2 ht3 g0 g1 g2 g3
  have z0:=fun j (hj:j<8)=>z_bd l0.1 (pb 0 j hj)
  have z1:=fun j (hj:j<8)=>z_bd l1.1 (pb 1 j hj)
  have z2:=fun j (hj:j<8)=>z_bd l2.1 (pb 2 j hj)
  have z3:=fun j (hj:j<8)=>z_bd l3.1 (pb 3 j hj)
  obtain ⟨so,hso⟩:∃ so,so=near (0+t0+t1+t2+t3) 67108864:=⟨_,rfl⟩
  have bso:0≤so∧so≤255:=by rw [hso];exact q14 _ _ 255 (by omega) (by omega) (by omega)
  have hall:so≠0→1≤0+t0+t1+t2+t3:=fun h=>by
    rcases Int.lt_or_le (0+t0+t1+t2+t3) 1 with h1 |h1
    · have h2:0+t0+t1+t2+t3=0:=by omega
      rw [h2] at hso
      exact absurd (hso.trans (by decide)) h
    · exact h1
  let Z:Nat→Nat→Int:=fun k j=>(match k with |0=>t0 |1=>t1 |2=>t2 |_=>t3)*quP r W H u v P k j
  let Y':Nat→Nat→Int:=fun k j=>match k with
    | 0=>0+t0*quP r W H u v P 0 j
    | 1=>0+t0*quP r W H u v P 0 j+t1*quP r W H u v P 1 j
    | 2=>0+t0*quP r W H u v P 0 j+t1*quP r W H u v P 1 j+t2*quP r W H u v P 2 j
    | _=>0+t0*quP r W H u v P 0 j+t1*quP r W H u v P 1 j+t2*quP r W H u v P 2 j+t3*quP r W H u v P 3 j
  let O:Nat→Int:=fun j=>if so=0 then 0 else near (Y' 3 j) (0+t0+t1+t2+t3)
  let R:Nat→Int:=if so=0 then fun _=>0 else O
  have bO:∀ j,j<8→0≤O j∧O j≤255:=fun j hj=>by
    show 0≤(if so=0 then 0 else near (Y' 3 j) (0+t0+t1+t2+t3))∧(if so=0 then 0 else near (Y' 3 j) (0+t0+t1+t2+t3))≤255
    split
    · omega
    · rename_i h
      have c0:=z0 j hj
      have c1:=z1 j hj
      have c2:=z2 j hj
      have c3:=z3 j hj
      exact q14 _ _ 255 (hall h) (by show 0≤0+t0*quP r W H u v P 0 j+t1*quP r W H u v P 1 j+t2*quP r W H u v P 2 j+t3*quP r W H u v P 3 j;omega) (by show 0+t0*quP r W H u v P 0 j+t1*quP r W H u v P 1 j+t2*quP r W H u v P 2 j+t3*quP r W H u v P 3 j≤_;omega)
  have hz:∀ (k:Nat) j,j<8→IntKind.i64.wrap (Z k j)=Z k j:=fun k j hj=>by
    have c0:=z0 j hj
    have c1:=z1 j hj
    have c2:=z2 j hj
    have key:∀ t,0≤t→t≤17112760320→IntKind.i64.wrap (t * quP r W H u v P k j)=t * quP r W H u v P k j:=fun t h1 h2=>by
      have:=z_bd h1 (pb k j hj)
      exact IntWalk.i64_in _ (by omega)
    match k with
    | 0=>exact key t0 l0.1 (by omega)
    | 1=>exact key t1 l1.1 (by omega)
    | 2=>exact key t2 l2.1 (by omega)
    | k+3=>exact key t3 l3.1 (by omega)
  have ys:∀ j,j<8→IntKind.i64.wrap (0+Z 0 j)=Y' 0 j∧IntKind.i64.wrap (Y' 0 j+Z 1 j)=Y' 1 j∧IntKind.i64.wrap (Y' 1 j+Z 2 j)=Y' 2 j∧IntKind.i64.wrap (Y' 2 j+Z 3 j)=Y' 3 j∧(0≤Y' 3 j∧Y' 3 j≤17451644813280):=fun j hj=>by
    have c0:=z0 j hj
    have c1:=z1 j hj
    have c2:=z2 j hj
    have c3:=z3 j hj
    refine ⟨IntWalk.i64_in _ ?_,IntWalk.i64_in _ ?_,IntWalk.i64_in _ ?_,IntWalk.i64_in _ ?_,?_⟩
    · show _≤0+t0*quP r W H u v P 0 j∧0+t0*quP r W H u v P 0 j≤_;omega
    · show _≤0+t0*quP r W H u v P 0 j+t1*quP r W H u v P 1 j∧0+t0*quP r W H u v P 0 j+t1*quP r W H u v P 1 j≤_;omega
    · show _≤0+t0*quP r W H u v P 0 j+t1*quP r W H u v P 1 j+t2*quP r W H u v P 2 j∧0+t0*quP r W H u v P 0 j+t1*quP r W H u v P 1 j+t2*quP r W H u v P 2 j≤_;omega
    · show _≤0+t0*quP r W H u v P 0 j+t1*quP r W H u v P 1 j+t2*quP r W H u v P 2 j+t3*quP r W H u v P 3 j∧0+t0*quP r W H u v P 0 j+t1*quP r W H u v P 1 j+t2*quP r W H u v P 2 j+t3*quP r W H u v P 3 j≤_;omega
    · show 0≤0+t0*quP r W H u v P 0 j+t1*quP r W H u v P 1 j+t2*quP r W H u v P 2 j+t3*quP r W H u v P 3 j∧0+t0*quP r W H u v P 0 j+t1*quP r W H u v P 1 j+t2*quP r W H u v P 2 j+t3*quP r W H u v P 3 j≤17451644813280;omega
  have hR0:so=0→R=fun _=>0:=fun h=>if_pos h
  have hR1:so≠0→R=O:=fun h=>if_neg h
  have hOo:so≠0→∀ j,O j=near (Y' 3 j) (0+t0+t1+t2+t3):=fun h j=>if_neg h
  have wI:∀ k j,k<4∧j<8→IntKind.i64.wrap (quP r W H u v P k j)=quP r W H u v P k j:=fun k j h=>(q64 (pb k j h.2)).2
  have wS:∀ k,k<4→IntKind.i64.wrap (quS r W H u v m S k)=quS r W H u v m S k:=fun k _=>(q64 (sb k)).2
  have bR:∀ j,j<8→0≤R j∧R j≤255:=fun j hj=>by
    by_cases h:so=0
    · rw [hR0 h];exact ⟨Int.le_refl _,show (0:Int)≤255 by omega⟩
    · rw [hR1 h];exact bO j hj
  refine ⟨R,so,⟨bso,bR⟩,fun G A B p q hp=>?_⟩
  have smp:=fun k=>z32 (a:=a) (b:=b) (c:=c) (d:=d) (e:=e) (f:=f) (s:=true) (r:=r) (p:=p) (q:=q) ho hp (u:=u+(k%2:Nat)) (v:=v+(k/2:Nat))
  have rsm:=fun k=>z24 (a:=a) (b:=b) (c:=c) (d:=d) (e:=e) (f:=f) (s:=true) (r:=r) (p:=p) (q:=q) ho hp (u:=u+(k%2:Nat)) (v:=v+(k/2:Nat))
  refine ⟨?_,?_⟩
  · exact x18 (I:=quP r W H u v P) (S:=quS r W H u v m S) (Z:=Z) (Y:=Y') (O:=O) (R:=R) eS eT hα hβ hu hv (by rw [hw0];exact IntWalk.i64_in _ (by omega)) (by rw [hw1];exact IntWalk.i64_in _ (by omega)) (by rw [hw2];exact IntWalk.i64_in _ (by omega)) (by rw [hw3];exact IntWalk.i64_in _ (by omega)) q0 q1 q2 q3
      (fun j hj=>hz 0 j hj) (fun j hj=>hz 1 j hj) (fun j hj=>hz 2 j hj) (fun j hj=>hz 3 j hj) (by omega) (by omega) (by omega) (by omega) wS wI (fun j hj=>(ys j hj).1) (fun j hj=>(ys j hj).2.1) (fun j hj=>(ys j hj).2.2.1) (fun j hj=>(ys j hj).2.2.2.1)
      (q64 bso).1 (fun j hj=>(q64 (bO j hj)).1) hR0 hR1 (by rw [hso];exact z66 (by omega) (by omega)) (fun h j hj=>by rw [hOo h];have:=(ys j hj).2.2.2.2;have:=hall h;exact z66 (by omega) (by omega))
      (smp 0 (by omega) (by omega)) (smp 1 (by omega) (by omega)) (smp 2 (by omega) (by omega)) (smp 3 (by omega) (by omega))
  · exact x5u (I:=quP r W H u v P) (S:=quS r W H u v m S) (Z:=Z) (Y:=Y') (O:=O) (R:=R) hX hY eS eT hα hβ hu hv (by rw [hw0];exact IntWalk.i64_in _ (by omega)) (by rw [hw1];exact IntWalk.i64_in _ (by omega)) (by rw [hw2];exact IntWalk.i64_in _ (by omega)) (by rw [hw3];exact IntWalk.i64_in _ (by omega)) q0 q1 q2 q3
      (fun j hj=>hz 0 j hj) (fun j hj=>hz 1 j hj) (fun j hj=>hz 2 j hj) (fun j hj=>hz 3 j hj) (by omega) (by omega) (by omega) (by omega) wS wI (fun j hj=>(ys j hj).1) (fun j hj=>(ys j hj).2.1) (fun j hj=>(ys j hj).2.2.1) (fun j hj=>(ys j hj).2.2.2.1)
      (q64 bso).1 (fun j hj=>(q64 (bO j hj)).1) hR0 hR1 (by rw [hso];exact z7b (by omega) (by omega)) (fun h j hj=>by rw [hOo h];have:=(ys j hj).2.2.2.2;have:=hall h;exact z7b (by omega) (by omega))
      (rsm 0 (by omega) (by omega) hs) (rsm 1 (by omega) (by omega) hs) (rsm 2 (by omega) (by omega) hs) (rsm 3 (by omega) (by omega) hs)
end
end Go.Proofs.YticolnghiibgfaaGreat
namespace Go.Proofs.YticolnghiibgfaaGreat.imageCells
open Go.RowKit
set_option maxRecDepth 20000
section
variable {W H:Int} {A B:Option Addr} {n p m q:Nat} {a b c d e f:Int} {s r:Bool} {x y:Int} {w:World} {g h:Nat→Nat→Value}
set_option maxHeartbeats 2000000 in
theorem x5w {G:Mem} {V:Nat→Int} {I:Nat→Int} {al:Int} (h4:∀ i,i<4→-1048576≤V i∧V i≤1048576) (h6:∀ i,i<6→-268435456≤V i∧V i≤268435456) (hx:-8192≤x∧x<8192) (hy:-8192≤y∧y<8192)
    (hs:Gives Tryz.prog 129 [pntA W H (.slice A n p) (.slice B m q) a b c d e f true r V,.val (.int .i64 (atS V x y)),.val (.int .i64 (atT V x y))] G (.tup [q1z I,.val (.int .u8 al)])) :
    Gives Tryz.prog 102 [pntA W H (.slice A n p) (.slice B m q) a b c d e f true r V,.val (.int .i64 x),.val (.int .i64 y)] G (.tup [q1z I,.val (.int .u8 al)]):=by
  obtain ⟨⟨b1,b2⟩,b3,b4⟩:=z1n h4 h6 hx hy
  have b5:=h6 4 (by omega)
  have b6:=h6 5 (by omega)
  unfold atS atT at hs
  refine q0r tab_ok Tryz.func102 ?_
  (repeat ((try (conv=>whnf));(first |(refine stQ ?_) |(with_reducible first |refine q0c (fun vs w=>by kernel_rfl) (by kernel_rfl) (hs) ?_ |refine q0a (fun vs w=>by kernel_rfl) (by kernel_rfl) (hs) ?_))))
  exact ⟨rfl,rfl⟩
set_option maxHeartbeats 2000000 in
theorem v0l {G:Mem} {I:Nat→Int} {al:Int} (hx:-8192≤x∧x<8192) (hy:-8192≤y∧y<8192)
    (hs:Gives Tryz.prog 139 [imgA W H (.slice A n p) (.slice B m q) a b c d e f false r,.val (.int .i64 (atS (invL a b c d e f) x y/8192)),.val (.int .i64 (atT (invL a b c d e f) x y/8192))] G (.tup [q1z I,.val (.int .i64 al)])) :
    Gives Tryz.prog 117 [imgA W H (.slice A n p) (.slice B m q) a b c d e f false r,.val (.int .i64 x),.val (.int .i64 y)] G (.tup [q1z I,.val (.int .i64 al)]):=by
  obtain ⟨h4,h6⟩:=z4z (a:=a) (b:=b) (c:=c) (d:=d) (e:=e) (f:=f)
  obtain ⟨⟨b1,b2⟩,b3,b4⟩:=z1n h4 h6 hx hy
  have b5:=h6 4 (by omega)
  have b6:=h6 5 (by omega)
  clear h4 h6
  have hi:=z23 (a:=a) (b:=b) (c:=c) (d:=d) (e:=e) (f:=f) (G:=G)
  generalize invL a b c d e f=V at *
  unfold atS atT at hs
  have hd1:=q4u (a:=V 0*(2*x+1)+V 2*(2*y+1)+2*V 4) (b:=8192) (G:=G) (by omega) (by omega)
  have hd2:=q4u (a:=V 1*(2*x+1)+V 3*(2*y+1)+2*V 5) (b:=8192) (G:=G) (by omega) (by omega)
  refine q0r tab_ok Tryz.func117 ?_
  (repeat ((try (conv=>whnf));(first |(refine stQ ?_) |(with_reducible first |refine q0c (fun vs w=>by kernel_rfl) (by kernel_rfl) (hi) ?_ |refine q0a (fun vs w=>by kernel_rfl) (by kernel_rfl) (hi) ?_ |refine q0c (fun vs w=>by kernel_rfl) (by kernel_rfl) (hd1) ?_ |refine q0a (fun vs w=>by kernel_rfl) (by kernel_rfl) (hd1) ?_ |refine q0c (fun vs w=>by kernel_rfl) (by kernel_rfl) (hd2) ?_ |refine q0a (fun vs w=>by kernel_rfl) (by kernel_rfl) (hd2) ?_ |refine q0c (fun vs w=>by kernel_rfl) (by kernel_rfl) (hs) ?_ |refine q0a (fun vs w=>by kernel_rfl) (by kernel_rfl) (hs) ?_))))
  exact ⟨rfl,rfl⟩
theorem v0m {P:Nat→Nat→Int} {S:Nat→Int} (ho:ImgOk W H n m) (hpx:∀ x j,x<n→j<8→0≤P x j∧P x j≤255) (hs:∀ x,x<m→0≤S x∧S x≤255) (hX:-8192≤x∧x<8192) (hY:-8192≤y∧y<8192) :
    ∃ R so,((0≤so∧so≤255)∧∀ j,j<8→0≤R j∧R j≤255)∧∀ (G:Mem) (A B:Option Addr) (p q:Nat),Pics G A n P B m S→Gives Tryz.prog 102 [pntA W H (.slice A n p) (.slice B m q) a b c d e f s r (invL a b c d e f),.val (.int .i64 x),.val (.int .i64 y)] G (.tup [q1z R,.val (.int .u8 so)]) ∧
      Gives Tryz.prog 117 [imgA W H (.slice A n p) (.slice B m q) a b c d e f s r,.val (.int .i64 x),.val (.int .i64 y)] G (.tup [q1z R,.val (.int .i64 so)]):=by
  obtain ⟨h4,h6⟩:=z4z (a:=a) (b:=b) (c:=c) (d:=d) (e:=e) (f:=f)
  obtain ⟨⟨b1,b2⟩,b3,b4⟩:=z1n h4 h6 hX hY
  have b5:=h6 4 (by omega)
  have b6:=h6 5 (by omega)
  cases s
  · have bS:-34896609280≤atS (invL a b c d e f) x y∧atS (invL a b c d e f) x y≤34896609280:=by unfold atS;omega
    have bT:-34896609280≤atT (invL a b c d e f) x y∧atT (invL a b c d e f) x y≤34896609280:=by unfold atT;omega
    refine ⟨fun j=>q9e r W H (atS (invL a b c d e f) x y/8192) (atT (invL a b c d e f) x y/8192) P j,q54 r W H (atS (invL a b c d e f) x y/8192) (atT (invL a b c d e f) x y/8192) m S,⟨x16 ho hs,fun j hj=>x19 ho hpx hj⟩,fun G A B p q hp=>?_⟩
    have h1:=z32 (a:=a) (b:=b) (c:=c) (d:=d) (e:=e) (f:=f) (s:=false) (r:=r) (p:=p) (q:=q) ho hp (u:=atS (invL a b c d e f) x y/8192) (v:=atT (invL a b c d e f) x y/8192) (by omega) (by omega)
    have h2:=z24 (a:=a) (b:=b) (c:=c) (d:=d) (e:=e) (f:=f) (s:=false) (r:=r) (p:=p) (q:=q) ho hp (u:=atS (invL a b c d e f) x y/8192) (v:=atT (invL a b c d e f) x y/8192) (by omega) (by omega) hs
    exact ⟨v0k h4 h6 hX hY h1,v0l hX hY h2⟩
  · obtain ⟨R,so,h1,h2⟩:=x5v (a:=a) (b:=b) (c:=c) (d:=d) (e:=e) (f:=f) (r:=r) ho hpx hs hX hY
    exact ⟨R,so,h1,fun G A B p q hp=>⟨x5w h4 h6 hX hY (h2 G A B p q hp).1,(h2 G A B p q hp).2⟩⟩
end
end Go.Proofs.YticolnghiibgfaaGreat.imageCells
namespace Go.Proofs.YticolnghiibgfaaGreat
open Go.RowKit Go.Proofs.YticolnghiibgfaaGreat.gradientRamps Go.Proofs.YticolnghiibgfaaGreat.gradientPlaces Go.Proofs.YticolnghiibgfaaGreat.imageCells
set_option maxRecDepth 20000
theorem q1w:flat Tryz.prog 20 119=[.int .i64,.int .u8,.int .u8,.int .u8,.int .u8,.int .u8,.int .u8,.int .u8,.int .u8]:=by kernel_rfl
section
variable {w:World} {A:Option Addr} {n:Nat} {g:Nat→Nat→Value}
theorem v3j (h:SliceG Tryz.prog w 119 A n g):v1l (q2x w) A n (fun x=>valI (g x 0)) (fun x j=>valI (g x (j+1))):=by
  have e9:Tryz.prog.cellsOf 119=9:=by kernel_rfl
  intro x hx
  obtain ⟨b,off,rfl,_,hc⟩:=h (by omega)
  rw [e9] at hc
  refine ⟨⟨b,off,none⟩,rfl,fun K k=>q1j _ rfl (fun j u hj=>?_) k⟩
  rw [q0m,q0m]
  match j,hj with
  | 0,hj=>simp at hj;subst hj;rw [← (h.int (j:=0) (by kernel_rfl) hx (by rw [q1w];rfl)).1];exact (hc x hx).1 0 (by omega)
  | 1,hj=>simp at hj;subst hj;rw [← (h.int (j:=1) (by kernel_rfl) hx (by rw [q1w];rfl)).1];exact (hc x hx).1 1 (by omega)
  | 2,hj=>simp at hj;subst hj;rw [← (h.int (j:=2) (by kernel_rfl) hx (by rw [q1w];rfl)).1];exact (hc x hx).1 2 (by omega)
  | 3,hj=>simp at hj;subst hj;rw [← (h.int (j:=3) (by kernel_rfl) hx (by rw [q1w];rfl)).1];exact (hc x hx).1 3 (by omega)
  | 4,hj=>simp at hj;subst hj;rw [← (h.int (j:=4) (by kernel_rfl) hx (by rw [q1w];rfl)).1];exact (hc x hx).1 4 (by omega)
  | 5,hj=>simp at hj;subst hj;rw [← (h.int (j:=5) (by kernel_rfl) hx (by rw [q1w];rfl)).1];exact (hc x hx).1 5 (by omega)
  | 6,hj=>simp at hj;subst hj;rw [← (h.int (j:=6) (by kernel_rfl) hx (by rw [q1w];rfl)).1];exact (hc x hx).1 6 (by omega)
  | 7,hj=>simp at hj;subst hj;rw [← (h.int (j:=7) (by kernel_rfl) hx (by rw [q1w];rfl)).1];exact (hc x hx).1 7 (by omega)
  | 8,hj=>simp at hj;subst hj;rw [← (h.int (j:=8) (by kernel_rfl) hx (by rw [q1w];rfl)).1];exact (hc x hx).1 8 (by omega)
theorem v3k (h:SliceG Tryz.prog w 119 A n g):v1m (q2x w) A n (fun x j=>valI (g x (j+1))):=by
  have e9:Tryz.prog.cellsOf 119=9:=by kernel_rfl
  intro x hx
  obtain ⟨b,off,rfl,_,hc⟩:=h (by omega)
  rw [e9] at hc
  refine ⟨⟨b,off,none⟩,rfl,fun K k=>q1j _ rfl (fun j u hj=>?_) k⟩
  rw [q0m,q0m,q0m,Nat.add_assoc,Nat.add_comm 1 j]
  match j,hj with
  | 0,hj=>simp at hj;subst hj;rw [← (h.int (j:=1) (by kernel_rfl) hx (by rw [q1w];rfl)).1];exact (hc x hx).1 1 (by omega)
  | 1,hj=>simp at hj;subst hj;rw [← (h.int (j:=2) (by kernel_rfl) hx (by rw [q1w];rfl)).1];exact (hc x hx).1 2 (by omega)
  | 2,hj=>simp at hj;subst hj;rw [← (h.int (j:=3) (by kernel_rfl) hx (by rw [q1w];rfl)).1];exact (hc x hx).1 3 (by omega)
  | 3,hj=>simp at hj;subst hj;rw [← (h.int (j:=4) (by kernel_rfl) hx (by rw [q1w];rfl)).1];exact (hc x hx).1 4 (by omega)
  | 4,hj=>simp at hj;subst hj;rw [← (h.int (j:=5) (by kernel_rfl) hx (by rw [q1w];rfl)).1];exact (hc x hx).1 5 (by omega)
  | 5,hj=>simp at hj;subst hj;rw [← (h.int (j:=6) (by kernel_rfl) hx (by rw [q1w];rfl)).1];exact (hc x hx).1 6 (by omega)
  | 6,hj=>simp at hj;subst hj;rw [← (h.int (j:=7) (by kernel_rfl) hx (by rw [q1w];rfl)).1];exact (hc x hx).1 7 (by omega)
  | 7,hj=>simp at hj;subst hj;rw [← (h.int (j:=8) (by kernel_rfl) hx (by rw [q1w];rfl)).1];exact (hc x hx).1 8 (by omega)
theorem v1o (h:SliceG Tryz.prog w 28 A n g):PixM (q2x w) A n (fun x j=>valI (g x j)):=by
  have e8:Tryz.prog.cellsOf 28=8:=by kernel_rfl
  intro x hx
  obtain ⟨b,off,rfl,_,hc⟩:=h (by omega)
  rw [e8] at hc
  refine ⟨⟨b,off,none⟩,rfl,fun K k=>q1j _ rfl (fun j u hj=>?_) k⟩
  rw [q0m,q0m]
  match j,hj with
  | 0,hj=>simp at hj;subst hj;rw [← (h.int (j:=0) (by kernel_rfl) hx (by rw [q4v];rfl)).1];exact (hc x hx).1 0 (by omega)
  | 1,hj=>simp at hj;subst hj;rw [← (h.int (j:=1) (by kernel_rfl) hx (by rw [q4v];rfl)).1];exact (hc x hx).1 1 (by omega)
  | 2,hj=>simp at hj;subst hj;rw [← (h.int (j:=2) (by kernel_rfl) hx (by rw [q4v];rfl)).1];exact (hc x hx).1 2 (by omega)
  | 3,hj=>simp at hj;subst hj;rw [← (h.int (j:=3) (by kernel_rfl) hx (by rw [q4v];rfl)).1];exact (hc x hx).1 3 (by omega)
  | 4,hj=>simp at hj;subst hj;rw [← (h.int (j:=4) (by kernel_rfl) hx (by rw [q4v];rfl)).1];exact (hc x hx).1 4 (by omega)
  | 5,hj=>simp at hj;subst hj;rw [← (h.int (j:=5) (by kernel_rfl) hx (by rw [q4v];rfl)).1];exact (hc x hx).1 5 (by omega)
  | 6,hj=>simp at hj;subst hj;rw [← (h.int (j:=6) (by kernel_rfl) hx (by rw [q4v];rfl)).1];exact (hc x hx).1 6 (by omega)
  | 7,hj=>simp at hj;subst hj;rw [← (h.int (j:=7) (by kernel_rfl) hx (by rw [q4v];rfl)).1];exact (hc x hx).1 7 (by omega)
end
section
variable {k:Int} {I:Nat→Int} {fx fy tx ty r:Int} {A:Option Addr} {n q:Nat} {W H:Int} {B:Option Addr} {pn pq:Nat} {C:Option Addr} {sn sq:Nat} {a b c d e f:Int} {s t:Bool} {G:Mem} {er x y:Int}
set_option maxHeartbeats 4000000
theorem z8n:Gives Tryz.prog 89 [srcA 0 I fx fy tx ty r (.slice A n q) W H (.slice B pn pq) (.slice C sn sq) a b c d e f s t,.val (.int .i64 x),.val (.int .i64 y)] G (.tup [q1z I,.val (.int .i64 255)]):=by
  refine q0r tab_ok Tryz.func89 ?_
  (repeat ((try (conv=>whnf));(refine stQ ?_)))
  exact ⟨rfl,rfl⟩
theorem x0f {V:Nat→Int} {p:Int} (hk:k=1∨k=2)
    (hp:Gives Tryz.prog 119 [srcA k I fx fy tx ty r (.slice A n q) W H (.slice B pn pq) (.slice C sn sq) a b c d e f s t,.val (.int .i64 x),.val (.int .i64 y)] G (.val (.int .i64 p))) (hr:Gives Tryz.prog 118 [.val (.slice A n q),.val (.int .i64 p)] G (inks V)) :
    Gives Tryz.prog 89 [srcA k I fx fy tx ty r (.slice A n q) W H (.slice B pn pq) (.slice C sn sq) a b c d e f s t,.val (.int .i64 x),.val (.int .i64 y)] G (.tup [inks V,.val (.int .i64 255)]):=by
  refine q0r tab_ok Tryz.func89 ?_
  rcases hk with rfl |rfl
  · (repeat ((try (conv=>whnf));(first |(refine stQ ?_) |(with_reducible first |refine q0c (fun vs w=>by kernel_rfl) (by kernel_rfl) (hp) ?_ |refine q0a (fun vs w=>by kernel_rfl) (by kernel_rfl) (hp) ?_ |refine q0c (fun vs w=>by kernel_rfl) (by kernel_rfl) (hr) ?_ |refine q0a (fun vs w=>by kernel_rfl) (by kernel_rfl) (hr) ?_))))
    exact ⟨rfl,rfl⟩
  · (repeat ((try (conv=>whnf));(first |(refine stQ ?_) |(with_reducible first |refine q0c (fun vs w=>by kernel_rfl) (by kernel_rfl) (hp) ?_ |refine q0a (fun vs w=>by kernel_rfl) (by kernel_rfl) (hp) ?_ |refine q0c (fun vs w=>by kernel_rfl) (by kernel_rfl) (hr) ?_ |refine q0a (fun vs w=>by kernel_rfl) (by kernel_rfl) (hr) ?_))))
    exact ⟨rfl,rfl⟩
theorem z8o {R:Nat→Int} {so:Int}
    (hA:Gives Tryz.prog 117 [imgA W H (.slice B pn pq) (.slice C sn sq) a b c d e f s t,.val (.int .i64 x),.val (.int .i64 y)] G (.tup [q1z R,.val (.int .i64 so)])) :
    Gives Tryz.prog 89 [srcA 3 I fx fy tx ty r (.slice A n q) W H (.slice B pn pq) (.slice C sn sq) a b c d e f s t,.val (.int .i64 x),.val (.int .i64 y)] G (.tup [if so=0 then ink0 else q1z R,.val (.int .i64 so)]):=by
  refine q0r tab_ok Tryz.func89 ?_
  by_cases h0:so=0
  · subst h0
    rw [if_pos rfl]
    (repeat ((try (conv=>whnf));(first |(refine stQ ?_) |(with_reducible first |refine q0c (fun vs w=>by kernel_rfl) (by kernel_rfl) (hA) ?_ |refine q0a (fun vs w=>by kernel_rfl) (by kernel_rfl) (hA) ?_))))
    exact ⟨rfl,rfl⟩
  · rw [if_neg h0]
    (repeat ((try (conv=>whnf));(first |(refine stQ ?_) |(with_reducible first |refine q0c (fun vs w=>by kernel_rfl) (by kernel_rfl) (hA) ?_ |refine q0a (fun vs w=>by kernel_rfl) (by kernel_rfl) (hA) ?_))))
    exact ⟨rfl,rfl⟩
end
end Go.Proofs.YticolnghiibgfaaGreat
namespace Go.Proofs.YticolnghiibgfaaGreat
open Go.RowKit
theorem q65 {P:Program} {T:Tab} (hT:TOk P T) {n0:Nat} {b:Code} {fr:List AV} {hp:List Blk} {G:Mem} {Q:Post} {ι κ:Type} (inv:ι→κ→Prop) (S:ι→κ→List (Nat × AV)) (H:ι→κ→List Blk) (μ:ι→κ→Nat) (i0:ι) (k0:κ) (h0:inv i0 k0)
    (start:Le n0 fr hp G (q6b b fr (S i0 k0)) (H i0 k0) G)
    (round:∀ i k,inv i k→z2c (q4a b []) fun ws=>q91 ws 0 fr fun fr1=>q7q fr1 (S i k) fun fr2=>z16 P T n0 b fr2 (H i k) G fun e fr' hp' G'=>match e with
      | .normal=>∃ i' k',inv i' k'∧μ i' k'<μ i k∧Le n0 fr' hp' G' (q6b b fr (S i' k')) (H i' k') G
      | e=>Q e fr' hp' G'):LoopP P n0 b fr hp G Q:=by
  refine z5u hT (fun i:ι × κ=>inv i.1 i.2) (fun i=>q6b b fr (S i.1 i.2)) (fun i=>H i.1 i.2) (fun _=>G) (fun i=>μ i.1 i.2) ⟨(i0,k0),h0,start⟩ fun i hi=>?_
  have h:=round i.1 i.2 hi
  rw [q92,q8o,q7c] at h
  refine cast (congrArg _ ?_) h
  funext e fr' hp' G'
  cases e with
  | normal=>exact propext ⟨fun ⟨i',k',h1,h2,h3⟩=>⟨(i',k'),h1,h2,h3⟩,fun ⟨p,h1,h2,h3⟩=>⟨p.1,p.2,h1,h2,h3⟩⟩
  | _=>rfl
def q3k (w:World) (o:Option Nat):Mem:=fun b=>if o=some b then none else w.heap[b]?
theorem x2a {P:Program} {T:Tab} (hT:TOk P T) {f:FuncId} {fn:Func} (hfn:P.funcs[f]? = some fn) {post:List AV} {G:Mem} {E:TypeId} {sz n:Nat} {xs:List Value} {n':Nat} {xs':List Value} (hn':0<n')
    (h:∀ G',G.le G'→q5g P T 1 fn (.own 0::post) [.own E sz n xs] G' fun v hp' _=>∃ k,v=.own k∧nthB hp' k=.own E sz n' xs'):z4m P f post G E sz n xs n' xs':=by
  intro base w v ts hG hown hbase hfree hts
  have hle:G.le (q3k w (q0i v)):=fun b o hb=>by
    unfold q3k
    by_cases h1:q0i v=some b
    · rw [hfree b h1] at hb;cases hb
    · rw [if_neg h1];exact hG b o hb
  have hmb:∀ b o,q3k w (q0i v) b=some o→w.heap[b]? = some o:=fun b o hb=>by
    unfold q3k at hb
    split at hb
    · cases hb
    · exact hb
  have hsl:=q2a hown
  have hw0:Below base {w with heap:=w.heap.extract 0 base} w:=by
    refine ⟨rfl,rfl,rfl,?_,fun k hk=>?_⟩
    · simp;omega
    · show w.heap[k]? = (w.heap.extract 0 base)[k]?
      rw [Array.getElem?_extract];simp;intro h;omega
  have hsz:({w with heap:=w.heap.extract 0 base}:World).heap.size=base:=by
    show (w.heap.extract 0 base).size=base
    simp;omega
  have hr:HR {w with heap:=w.heap.extract 0 base} (q3k w (q0i v)) (fun k=>if k=0 then some v else none) [.own E sz n xs] (q3k w (q0i v)) w:=by
    refine ⟨by rw [hsz];exact hw0,hmb,Mem.le_refl _,fun b o hb=>.inl hb,fun k y hk=>?_,fun k k' y y' x x' b hne hk hk'=>?_,fun k S hk=>(by cases k <;> simp at hk)⟩
    · by_cases h0:k=0
      · subst h0
        simp at hk;subst hk
        refine ⟨_,rfl,?_⟩
        rw [hsz]
        refine ⟨hown,fun g hg=>?_⟩
        unfold q3k;rw [if_pos hg]
      · simp [h0] at hk
    · by_cases h0:k=0
      · have:k'≠0:=by omega
        simp [this] at hk'
      · simp [h0] at hk
  refine (q6n hT hfn (hp:=[.own E sz n xs]) (h _ hle) (.inr fun _ _ _ _ _ h=>h) _ _ _ w (v::ts).toArray hr ?_).mono ?_
  · simp only [AV.rels]
    refine ⟨v,ts,rfl,?_,AV.rels_mono (q4r _) _ _ hts⟩
    simp only [AV.rel];exact ⟨by simp,hsl⟩
  · rintro e w' ⟨y,β',v',hp',G',rfl,h1,h2,h3,k,rfl,hk⟩
    simp only [AV.rel] at h3
    obtain ⟨x,hx1,hx2⟩:=h2.blk k y h3.1
    rw [q0w hk rfl] at hx1;cases hx1
    rw [hsz] at hx2
    have hold:∀ b,b<w.heap.size→q0i v≠some b→w'.heap[b]? = w.heap[b]?∧∃ o,G' b=some o:=fun b hb hne=>by
      have h4:q3k w (q0i v) b=some w.heap[b]:=by unfold q3k;rw [if_neg hne];exact Array.getElem?_eq_getElem hb
      have h5:=h2.sub b _ h4
      exact ⟨by rw [h2.hold b _ h5,Array.getElem?_eq_getElem hb],_,h5⟩
    have hat:∀ b,q0i y=some b→w.heap.size≤b∨q0i v=some b:=fun b hb=>by
      by_cases h4:w.heap.size≤b
      · exact .inl h4
      · right
        apply Classical.byContradiction
        intro hne
        obtain ⟨_,o,h5⟩:=hold b (by omega) hne
        rw [hx2.2 b hb] at h5;cases h5
    refine ⟨y,rfl,hx2.1,⟨h2.below.os,h2.below.tape,h2.below.output,?_,fun b hb hne=>(hold b hb (fun e=>hne e.symm)).1⟩,hat⟩
    rcases Nat.eq_zero_or_pos w.heap.size with h0 |h0
    · omega
    · by_cases h4:q0i v=some (w.heap.size-1)
      · rcases hx2.1.2 with ⟨_,h5⟩ |⟨g,cap,cur,rfl,h5,h6,_⟩
        · omega
        · have h7:=(Array.getElem?_eq_some_iff.1 h6).1
          rcases hat g rfl with h8 |h8
          · omega
          · rw [h4] at h8;cases h8;omega
      · have h5:=(hold (w.heap.size-1) (by omega) h4).1
        rw [Array.getElem?_eq_getElem (show w.heap.size-1<w.heap.size by omega)] at h5
        have:=(Array.getElem?_eq_some_iff.1 h5).1
        omega
theorem q38 {P:Program} {f:FuncId} (hen:∀ vs w,(callFunc f vs).run P w=.ok (.enter f vs) w) {k:Nat} {post:List AV} {hp:List Blk} {G:Mem} {K:AV→List Blk→Mem→Prop} {E:TypeId} {sz n:Nat} {xs:List Value} {n':Nat} {xs':List Value}
    (hk:nthB hp k=.own E sz n xs) (hu:AV.unders 0 post=true) (hc:z4m P f post G E sz n xs n' xs') (h:setF hp k .gone fun hp1=>lenF hp1 fun q=>catF hp1 [.own E sz n' xs'] fun hp'=>K (.own q) hp' G):CallP P f (.own k::post) hp G K:=by
  rw [q1r] at h
  have h0:=q1t h
  rw [q1b] at h0
  refine ⟨hen,fun w0 G0 β w vs hr ha=>?_⟩
  simp only [AV.rels] at ha
  obtain ⟨v,ts,hvs,hv,hts⟩:=ha
  have e:vs=(v::ts).toArray:=by rw [← hvs]
  subst e
  simp only [AV.rel] at hv
  obtain ⟨x,hx1,hx2⟩:=hr.blk k v hv.1
  rw [q0w hk rfl] at hx1;cases hx1
  refine (hc w0.heap.size w v ts hr.hold hx2.1 hr.below.size hx2.2 (q3d hu hts)).mono ?_
  rintro e w' ⟨y,rfl,h1,h2,h3⟩
  have hlen:(hp.set k .gone).length=hp.length:=by simp
  rw [hlen] at h0
  refine ⟨y,_,_,_,G,rfl,Nm.le_put y (hr.fresh (Nat.le_refl _)),hr.moveName hv.1 (q0w hk rfl) rfl h2 h3 rfl (u:=.own E sz n' xs') ⟨h1,fun g hg=>?_⟩,by simp only [AV.rel];exact ⟨Nm.put_same _ _ _,q2a h1⟩,h0⟩
  rcases h3 g hg with h7 |h7
  · exact q29 hr.hold h7
  · exact hx2.2 g h7
theorem q6p {P:Program} {f:FuncId} {k:Nat} {post:List AV} {hp0:List Blk} {G:Mem} {K:Blk→Prop} {E:TypeId} {sz n:Nat} {xs:List Value} {n':Nat} {xs':List Value} (hk:nthB hp0 k=.own E sz n xs) (he:∀ vs w,(callFunc f vs).run P w=.ok (.enter f vs) w) (hu:AV.unders 0 post=true) (hc:z4m P f post G E sz n xs n' xs') (h:K (.own E sz n' xs')):TakeP P f k post hp0 G K :=
  .mk E sz n xs n' xs' hk he hu hc h
end Go.Proofs.YticolnghiibgfaaGreat
namespace Go.Proofs.YticolnghiibgfaaGreat
open Go.RowKit
def q00 (c:Nat→List Value):Nat→List Value
  | 0=>[]
  | n+1=>q00 c n++c n
theorem q28 {c:Nat→List Value} {sz:Nat}:∀ {n:Nat},(∀ x,x<n→(c x).length=sz)→(q00 c n).length=n*sz
  | 0,_=>by simp [q00]
  | n+1,h=>by
    rw [q00,List.length_append,q28 (n:=n) (fun x hx=>h x (by omega)),h n (by omega),Nat.add_mul,Nat.one_mul]
theorem q3x {c:Nat→List Value} {sz:Nat}:∀ {n:Nat},(∀ x,x<n→(c x).length=sz)→∀ {x j:Nat},x<n→j<sz→(q00 c n)[x*sz+j]? = (c x)[j]?
  | 0,_,_,_,hx,_=>by omega
  | n+1,h,x,j,hx,hj=>by
    have hl:=q28 (n:=n) (fun x hx=>h x (by omega))
    rw [q00]
    rcases Nat.lt_or_ge x n with h1 |h1
    · have:x*sz+j<n*sz:=by
        have:=Nat.mul_le_mul_right sz (show x+1≤n by omega)
        rw [Nat.add_mul,Nat.one_mul] at this;omega
      rw [List.getElem?_append_left (by omega)]
      exact q3x (fun x hx=>h x (by omega)) h1 hj
    · obtain rfl:x=n:=by omega
      rw [List.getElem?_append_right (by omega),hl]
      congr 1;omega
theorem q8a {c d:Nat→List Value}:∀ {n:Nat},(∀ x,x<n→c x=d x)→q00 c n=q00 d n
  | 0,_=>rfl
  | n+1,h=>by rw [q00,q00,q8a (n:=n) (fun x hx=>h x (by omega)),h n (by omega)]
theorem q8r (c:Nat→List Value) (m:Nat):∀ (n:Nat),q00 c (m+n)=q00 c m++q00 (fun x=>c (m+x)) n
  | 0=>by simp [q00]
  | n+1=>by rw [← Nat.add_assoc,q00,q8r c m n,q00,List.append_assoc]
theorem z9u {c:Nat→List Value}:∀ {n:Nat},(∀ x,x<n→∀ v∈c x,v.oneCell'=true)→∀ v∈q00 c n,v.oneCell'=true
  | 0,_,v,hv=>by simp [q00] at hv
  | n+1,h,v,hv=>by
    rw [q00,List.mem_append] at hv
    rcases hv with hv |hv
    · exact z9u (n:=n) (fun x hx=>h x (by omega)) v hv
    · exact h n (by omega) v hv
structure ElsM (G:Mem) (A:Option Addr) (sz n:Nat) (c:Nat→List Value):Prop where
  len:∀ x,x<n→(c x).length=sz
  at_:∀ x,x<n→∃ b off,A=some ⟨b,off,none⟩∧∀ j v,(c x)[j]? = some v→G.cell? ⟨b,off+x*sz+j,none⟩=some v
section
variable {G G':Mem} {A:Option Addr} {sz n:Nat} {c d:Nat→List Value}
theorem ElsM.mono (h:ElsM G A sz n c) (hle:G.le G'):ElsM G' A sz n c:=⟨h.len,fun x hx=>by
  obtain ⟨b,off,h1,h2⟩:=h.at_ x hx
  exact ⟨b,off,h1,fun j v hj=>hle.cell (h2 j v hj)⟩⟩
theorem ElsM.less (h:ElsM G A sz n c) {k:Nat} (hk:k≤n):ElsM G A sz k c:=⟨fun x hx=>h.len x (by omega),fun x hx=>h.at_ x (by omega)⟩
theorem ElsM.congr (h:ElsM G A sz n c) (e:∀ x,x<n→c x=d x):ElsM G A sz n d :=
  ⟨fun x hx=>by rw [← e x hx];exact h.len x hx,fun x hx=>by rw [← e x hx];exact h.at_ x hx⟩
theorem ElsM.none:ElsM G A sz 0 c:=⟨fun x hx=>by omega,fun x hx=>by omega⟩
theorem ElsM.drop (h:ElsM G A sz n c) {k:Nat} (hk:k≤n):ElsM G (A.map fun p=>p.add (k*sz)) sz (n-k) (fun x=>c (k+x)) :=
  ⟨fun x hx=>h.len _ (by omega),fun x hx=>by
    obtain ⟨b,off,rfl,h2⟩:=h.at_ (k+x) (by omega)
    refine ⟨b,off+k*sz,by simp [q0m],fun j v hj=>?_⟩
    have:=h2 j v hj
    rwa [show off+k*sz+x*sz+j=off+(k+x)*sz+j by rw [Nat.add_mul];omega]⟩
theorem ElsM.cells (h:ElsM G A sz n c) {x:Nat} (hx:x<n):∃ p:Addr,A=some p∧∀ K:List Value→Prop,K (c x)→OldCells G (p.add (x*sz)) sz K:=by
  obtain ⟨b,off,rfl,h2⟩:=h.at_ x hx
  refine ⟨_,rfl,fun K k=>q1j _ (h.len x hx) (fun j u hj=>?_) k⟩
  rw [q0m,q0m]
  exact h2 j u hj
theorem ElsM.cell (h:ElsM G A sz n c) {x j:Nat} {v:Value} (hx:x<n) (hj:(c x)[j]? = some v):∃ p:Addr,A=some p∧G.cell? (Addr.add (p.add (x*sz)) j)=some v:=by
  obtain ⟨b,off,rfl,h2⟩:=h.at_ x hx
  exact ⟨_,rfl,by rw [q0m,q0m];exact h2 j v hj⟩
theorem ElsM.frozen (hl:∀ x,x<n→(c x).length=sz) (h:q00 c n=[]∨∃ b,A=some ⟨b,0,Option.none⟩∧∀ (j:Nat) u,(q00 c n)[j]? = some u→G.cell? ⟨b,j,Option.none⟩=some u) (hA:0<sz):ElsM G A sz n c:=by
  refine ⟨hl,fun x hx=>?_⟩
  rcases h with h |⟨b,rfl,h⟩
  · have:=q28 hl
    rw [h] at this
    have h1:0<n*sz:=Nat.mul_pos (by omega) hA
    simp at this;omega
  · refine ⟨b,0,rfl,fun j v hj=>?_⟩
    have hjl:j<sz:=by have:=(List.getElem?_eq_some_iff.1 hj).1;rw [hl x hx] at this;exact this
    rw [Nat.zero_add]
    exact h _ _ (by rw [q3x hl hx hjl];exact hj)
end
end Go.Proofs.YticolnghiibgfaaGreat
