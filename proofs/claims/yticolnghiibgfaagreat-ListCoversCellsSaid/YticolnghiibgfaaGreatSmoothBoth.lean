/-
  ImageCells: the mixtures of the program and of the reference are the same.
-/
import Derived.Test.YticolnghiibgfaaGreatMrg17
set_option linter.unusedVariables false
set_option linter.unusedSimpArgs false
set_option linter.unnecessarySimpa false
namespace Go.Proofs.YticolnghiibgfaaGreat
open Go.RowKit
set_option maxRecDepth 20000
theorem w_bd {a b:Int} (ha:0≤a∧a≤8192) (hb:0≤b∧b≤8192):0≤a*b∧a*b≤67108864:=by
  have h1:=Int.mul_nonneg ha.1 hb.1
  have h2:a*b≤8192*8192:=Int.mul_le_mul ha.2 hb.2 hb.1 (by omega)
  omega
theorem v06 (α β:Int):(8192-α)*(8192-β)+α*(8192-β)+(8192-α)*β+α*β=67108864:=by
  have h1:(8192-α)*(8192-β)+α*(8192-β)=8192*(8192-β):=by rw [← Int.add_mul];congr 1;omega
  have h2:(8192-α)*β+α*β=8192*β:=by rw [← Int.add_mul];congr 1;omega
  omega
theorem t_bd {w s:Int} (hw:0≤w∧w≤67108864) (hs:0≤s∧s≤255):0≤w*s∧w*s≤255*w:=by
  have h1:=Int.mul_nonneg hw.1 hs.1
  have h2:w*s≤w*255:=Int.mul_le_mul_of_nonneg_left hs.2 hw.1
  omega
theorem z_bd {t i:Int} (ht:0≤t) (hi:0≤i∧i≤255):0≤t * i∧t * i≤255*t:=by
  have h1:=Int.mul_nonneg ht hi.1
  have h2:t * i≤t * 255:=Int.mul_le_mul_of_nonneg_left hi.2 ht
  omega
theorem q5y {x:Int} (h:0≤x∧x≤255):IntKind.u8.wrap x=x∧IntKind.i64.wrap x=x :=
  ⟨IntWalk.u8_in _ h,IntWalk.i64_in _ (by omega)⟩
section
variable {W H:Int} {A B:Option Addr} {n p m q:Nat} {P:Nat→Nat→Int} {S:Nat→Int} {a b c d e f:Int} {r:Bool} {G:Mem} {X Y:Int}
theorem z9v (ho:ImgOk W H n m) (hpx:∀ x j,x<n→j<8→0≤P x j∧P x j≤255) {u v:Int} {j:Nat} (hj:j<8):0≤q74 r W H u v P j∧q74 r W H u v P j≤255:=by
  unfold q74
  split
  · rename_i hi
    have:=z25 hi
    have hn:=ho.n
    refine hpx _ j ?_ hj
    unfold atI;omega
  · omega
def quP (r:Bool) (W H u v:Int) (P:Nat→Nat→Int) (k j:Nat):Int:=q74 r W H (u+(k%2:Nat)) (v+(k/2:Nat)) P j
def quS (r:Bool) (W H u v:Int) (m:Nat) (S:Nat→Int) (k:Nat):Int:=q47 r W H (u+(k%2:Nat)) (v+(k/2:Nat)) m S
set_option maxHeartbeats 4000000 in
theorem x3c {m:Nat} {S:Nat→Int} {P:Nat→Nat→Int} (ho:ImgOk W H n m) (hpx:∀ x j,x<n→j<8→0≤P x j∧P x j≤255) (hs:∀ x,x<m→0≤S x∧S x≤255) (hX:-8192≤X∧X<8192) (hY:-8192≤Y∧Y<8192) :
    ∃ R so,((0≤so∧so≤255)∧∀ j,j<8→0≤R j∧R j≤255)∧∀ (G:Mem) (A B:Option Addr) (p q:Nat),Pics G A n P B m S→Gives Tryz.prog 129 [pntA W H (.slice A n p) (.slice B m q) a b c d e f true r (invL a b c d e f),.val (.int .i64 (atS (invL a b c d e f) X Y)),.val (.int .i64 (atT (invL a b c d e f) X Y))] G (.tup [q1o R,.val (.int .u8 so)]) ∧
      Gives Tryz.prog 117 [imgA W H (.slice A n p) (.slice B m q) a b c d e f true r,.val (.int .i64 X),.val (.int .i64 Y)] G (.tup [q1o R,.val (.int .i64 so)]):=by
  obtain ⟨h4,h6⟩:=z26 (a:=a) (b:=b) (c:=c) (d:=d) (e:=e) (f:=f)
  obtain ⟨⟨b1,b2⟩,b3,b4⟩:=q99 h4 h6 hX hY
  have b5:=h6 4 (by omega)
  have b6:=h6 5 (by omega)
  have eS:atS (invL a b c d e f) X Y=4096+8192*((atS (invL a b c d e f) X Y-4096)/8192)+(atS (invL a b c d e f) X Y-4096)%8192:=by omega
  have eT:atT (invL a b c d e f) X Y=4096+8192*((atT (invL a b c d e f) X Y-4096)/8192)+(atT (invL a b c d e f) X Y-4096)%8192:=by omega
  have bS:-17179869184-17179869184-536870912≤atS (invL a b c d e f) X Y∧atS (invL a b c d e f) X Y≤17179869184+17179869184+536870912:=by unfold atS;omega
  have bT:-17179869184-17179869184-536870912≤atT (invL a b c d e f) X Y∧atT (invL a b c d e f) X Y≤17179869184+17179869184+536870912:=by unfold atT;omega
  obtain ⟨u,hu0⟩:∃ u,u=(atS (invL a b c d e f) X Y-4096)/8192:=⟨_,rfl⟩
  obtain ⟨v,hv0⟩:∃ v,v=(atT (invL a b c d e f) X Y-4096)/8192:=⟨_,rfl⟩
  obtain ⟨α,hα0⟩:∃ α,α=(atS (invL a b c d e f) X Y-4096)%8192:=⟨_,rfl⟩
  obtain ⟨β,hβ0⟩:∃ β,β=(atT (invL a b c d e f) X Y-4096)%8192:=⟨_,rfl⟩
  rw [← hu0,← hα0] at eS
  rw [← hv0,← hβ0] at eT
  have hα:0≤α∧α<8192:=by omega
  have hβ:0≤β∧β<8192:=by omega
  have hu:-1073741824≤u∧u≤1073741824:=by omega
  have hv:-1073741824≤v∧v≤1073741824:=by omega
  clear hu0 hv0 hα0 hβ0 bS bT b1 b2 b3 b4 b5 b6 h4 h6
  have hm:=v06 α β
  have k0:=w_bd (a:=8192-α) (b:=8192-β) (by omega) (by omega)
  have k1:=w_bd (a:=α) (b:=8192-β) (by omega) (by omega)
  have k2:=w_bd (a:=8192-α) (b:=β) (by omega) (by omega)
  have k3:=w_bd (a:=α) (b:=β) (by omega) (by omega)
  have g0:IntKind.i64.wrap ((8192-α)*(8192-β))=(8192-α)*(8192-β):=IntWalk.i64_in _ (by omega)
  have g1:IntKind.i64.wrap (α*(8192-β))=α*(8192-β):=IntWalk.i64_in _ (by omega)
  have g2:IntKind.i64.wrap ((8192-α)*β)=(8192-α)*β:=IntWalk.i64_in _ (by omega)
  have g3:IntKind.i64.wrap (α*β)=α*β:=IntWalk.i64_in _ (by omega)
  generalize hw0:(8192-α)*(8192-β)=w0 at *
  generalize hw1:α*(8192-β)=w1 at *
  generalize hw2:(8192-α)*β=w2 at *
  generalize hw3:α*β=w3 at *
  have sb:∀ k,0≤quS r W H u v m S k∧quS r W H u v m S k≤255:=fun k=>z9s ho hs
  have pb:∀ k j,j<8→0≤quP r W H u v P k j∧quP r W H u v P k j≤255:=fun k j hj=>z9v ho hpx hj
  have l0:=t_bd k0 (sb 0)
  have l1:=t_bd k1 (sb 1)
  have l2:=t_bd k2 (sb 2)
  have l3:=t_bd k3 (sb 3)
  obtain ⟨t0,ht0⟩:∃ t,t=w0*quS r W H u v m S 0:=⟨_,rfl⟩
  obtain ⟨t1,ht1⟩:∃ t,t=w1*quS r W H u v m S 1:=⟨_,rfl⟩
  obtain ⟨t2,ht2⟩:∃ t,t=w2*quS r W H u v m S 2:=⟨_,rfl⟩
  obtain ⟨t3,ht3⟩:∃ t,t=w3*quS r W H u v m S 3:=⟨_,rfl⟩
  rw [← ht0] at l0
  rw [← ht1] at l1
  rw [← ht2] at l2
  rw [← ht3] at l3
  have q0:IntKind.i64.wrap (w0*quS r W H u v m S 0)=t0:=by rw [← ht0];exact IntWalk.i64_in _ (by omega)
  have q1:IntKind.i64.wrap (w1*quS r W H u v m S 1)=t1:=by rw [← ht1];exact IntWalk.i64_in _ (by omega)
  have q2:IntKind.i64.wrap (w2*quS r W H u v m S 2)=t2:=by rw [← ht2];exact IntWalk.i64_in _ (by omega)
  have q3:IntKind.i64.wrap (w3*quS r W H u v m S 3)=t3:=by rw [← ht3];exact IntWalk.i64_in _ (by omega)
  clear ht0 ht1 ht2 ht3 g0 g1 g2 g3
  have z0:=fun j (hj:j<8)=>z_bd l0.1 (pb 0 j hj)
  have z1:=fun j (hj:j<8)=>z_bd l1.1 (pb 1 j hj)
  have z2:=fun j (hj:j<8)=>z_bd l2.1 (pb 2 j hj)
  have z3:=fun j (hj:j<8)=>z_bd l3.1 (pb 3 j hj)
  obtain ⟨so,hso⟩:∃ so,so=near (0+t0+t1+t2+t3) 67108864:=⟨_,rfl⟩
  have bso:0≤so∧so≤255:=by rw [hso];exact q1v _ _ 255 (by omega) (by omega) (by omega)
  have hall:so≠0→1≤0+t0+t1+t2+t3:=fun h=>by
    rcases Int.lt_or_le (0+t0+t1+t2+t3) 1 with h1 |h1
    · have h2:0+t0+t1+t2+t3=0:=by omega
      rw [h2] at hso
      exact absurd (hso.trans (by decide)) h
    · exact h1
  let Z:Nat→Nat→Int:=fun k j=>(match k with |0=>t0 |1=>t1 |2=>t2 |_=>t3)*quP r W H u v P k j
  let Y':Nat→Nat→Int:=fun k j=>match k with
    | 0=>0+t0*quP r W H u v P 0 j
    | 1=>0+t0*quP r W H u v P 0 j+t1*quP r W H u v P 1 j
    | 2=>0+t0*quP r W H u v P 0 j+t1*quP r W H u v P 1 j+t2*quP r W H u v P 2 j
    | _=>0+t0*quP r W H u v P 0 j+t1*quP r W H u v P 1 j+t2*quP r W H u v P 2 j+t3*quP r W H u v P 3 j
  let O:Nat→Int:=fun j=>if so=0 then 0 else near (Y' 3 j) (0+t0+t1+t2+t3)
  let R:Nat→Int:=if so=0 then fun _=>0 else O
  have bO:∀ j,j<8→0≤O j∧O j≤255:=fun j hj=>by
    show 0≤(if so=0 then 0 else near (Y' 3 j) (0+t0+t1+t2+t3))∧(if so=0 then 0 else near (Y' 3 j) (0+t0+t1+t2+t3))≤255
    split
    · omega
    · rename_i h
      have c0:=z0 j hj
      have c1:=z1 j hj
      have c2:=z2 j hj
      have c3:=z3 j hj
      exact q1v _ _ 255 (hall h) (by show 0≤0+t0*quP r W H u v P 0 j+t1*quP r W H u v P 1 j+t2*quP r W H u v P 2 j+t3*quP r W H u v P 3 j;omega) (by show 0+t0*quP r W H u v P 0 j+t1*quP r W H u v P 1 j+t2*quP r W H u v P 2 j+t3*quP r W H u v P 3 j≤_;omega)
  have hz:∀ (k:Nat) j,j<8→IntKind.i64.wrap (Z k j)=Z k j:=fun k j hj=>by
    have c0:=z0 j hj
    have c1:=z1 j hj
    have c2:=z2 j hj
    have key:∀ t,0≤t→t≤17112760320→IntKind.i64.wrap (t * quP r W H u v P k j)=t * quP r W H u v P k j:=fun t h1 h2=>by
      have:=z_bd h1 (pb k j hj)
      exact IntWalk.i64_in _ (by omega)
    match k with
    | 0=>exact key t0 l0.1 (by omega)
    | 1=>exact key t1 l1.1 (by omega)
    | 2=>exact key t2 l2.1 (by omega)
    | k+3=>exact key t3 l3.1 (by omega)
  have ys:∀ j,j<8→IntKind.i64.wrap (0+Z 0 j)=Y' 0 j∧IntKind.i64.wrap (Y' 0 j+Z 1 j)=Y' 1 j∧IntKind.i64.wrap (Y' 1 j+Z 2 j)=Y' 2 j∧IntKind.i64.wrap (Y' 2 j+Z 3 j)=Y' 3 j∧(0≤Y' 3 j∧Y' 3 j≤17451644813280):=fun j hj=>by
    have c0:=z0 j hj
    have c1:=z1 j hj
    have c2:=z2 j hj
    have c3:=z3 j hj
    refine ⟨IntWalk.i64_in _ ?_,IntWalk.i64_in _ ?_,IntWalk.i64_in _ ?_,IntWalk.i64_in _ ?_,?_⟩
    · show _≤0+t0*quP r W H u v P 0 j∧0+t0*quP r W H u v P 0 j≤_;omega
    · show _≤0+t0*quP r W H u v P 0 j+t1*quP r W H u v P 1 j∧0+t0*quP r W H u v P 0 j+t1*quP r W H u v P 1 j≤_;omega
    · show _≤0+t0*quP r W H u v P 0 j+t1*quP r W H u v P 1 j+t2*quP r W H u v P 2 j∧0+t0*quP r W H u v P 0 j+t1*quP r W H u v P 1 j+t2*quP r W H u v P 2 j≤_;omega
    · show _≤0+t0*quP r W H u v P 0 j+t1*quP r W H u v P 1 j+t2*quP r W H u v P 2 j+t3*quP r W H u v P 3 j∧0+t0*quP r W H u v P 0 j+t1*quP r W H u v P 1 j+t2*quP r W H u v P 2 j+t3*quP r W H u v P 3 j≤_;omega
    · show 0≤0+t0*quP r W H u v P 0 j+t1*quP r W H u v P 1 j+t2*quP r W H u v P 2 j+t3*quP r W H u v P 3 j∧0+t0*quP r W H u v P 0 j+t1*quP r W H u v P 1 j+t2*quP r W H u v P 2 j+t3*quP r W H u v P 3 j≤17451644813280;omega
  have hR0:so=0→R=fun _=>0:=fun h=>if_pos h
  have hR1:so≠0→R=O:=fun h=>if_neg h
  have hOo:so≠0→∀ j,O j=near (Y' 3 j) (0+t0+t1+t2+t3):=fun h j=>if_neg h
  have wI:∀ k j,k<4∧j<8→IntKind.i64.wrap (quP r W H u v P k j)=quP r W H u v P k j:=fun k j h=>(q5y (pb k j h.2)).2
  have wS:∀ k,k<4→IntKind.i64.wrap (quS r W H u v m S k)=quS r W H u v m S k:=fun k _=>(q5y (sb k)).2
  have bR:∀ j,j<8→0≤R j∧R j≤255:=fun j hj=>by
    by_cases h:so=0
    · rw [hR0 h];exact ⟨Int.le_refl _,show (0:Int)≤255 by omega⟩
    · rw [hR1 h];exact bO j hj
  refine ⟨R,so,⟨bso,bR⟩,fun G A B p q hp=>?_⟩
  have smp:=fun k=>z19 (a:=a) (b:=b) (c:=c) (d:=d) (e:=e) (f:=f) (s:=true) (r:=r) (p:=p) (q:=q) ho hp (u:=u+(k%2:Nat)) (v:=v+(k/2:Nat))
  have rsm:=fun k=>z1f (a:=a) (b:=b) (c:=c) (d:=d) (e:=e) (f:=f) (s:=true) (r:=r) (p:=p) (q:=q) ho hp (u:=u+(k%2:Nat)) (v:=v+(k/2:Nat))
  refine ⟨?_,?_⟩
  · exact z9u (I:=quP r W H u v P) (S:=quS r W H u v m S) (Z:=Z) (Y:=Y') (O:=O) (R:=R) eS eT hα hβ hu hv (by rw [hw0];exact IntWalk.i64_in _ (by omega)) (by rw [hw1];exact IntWalk.i64_in _ (by omega)) (by rw [hw2];exact IntWalk.i64_in _ (by omega)) (by rw [hw3];exact IntWalk.i64_in _ (by omega)) q0 q1 q2 q3
      (fun j hj=>hz 0 j hj) (fun j hj=>hz 1 j hj) (fun j hj=>hz 2 j hj) (fun j hj=>hz 3 j hj) (by omega) (by omega) (by omega) (by omega) wS wI (fun j hj=>(ys j hj).1) (fun j hj=>(ys j hj).2.1) (fun j hj=>(ys j hj).2.2.1) (fun j hj=>(ys j hj).2.2.2.1)
      (q5y bso).1 (fun j hj=>(q5y (bO j hj)).1) hR0 hR1 (by rw [hso];exact z49 (by omega) (by omega)) (fun h j hj=>by rw [hOo h];have:=(ys j hj).2.2.2.2;have:=hall h;exact z49 (by omega) (by omega))
      (smp 0 (by omega) (by omega)) (smp 1 (by omega) (by omega)) (smp 2 (by omega) (by omega)) (smp 3 (by omega) (by omega))
  · exact x3b (I:=quP r W H u v P) (S:=quS r W H u v m S) (Z:=Z) (Y:=Y') (O:=O) (R:=R) hX hY eS eT hα hβ hu hv (by rw [hw0];exact IntWalk.i64_in _ (by omega)) (by rw [hw1];exact IntWalk.i64_in _ (by omega)) (by rw [hw2];exact IntWalk.i64_in _ (by omega)) (by rw [hw3];exact IntWalk.i64_in _ (by omega)) q0 q1 q2 q3
      (fun j hj=>hz 0 j hj) (fun j hj=>hz 1 j hj) (fun j hj=>hz 2 j hj) (fun j hj=>hz 3 j hj) (by omega) (by omega) (by omega) (by omega) wS wI (fun j hj=>(ys j hj).1) (fun j hj=>(ys j hj).2.1) (fun j hj=>(ys j hj).2.2.1) (fun j hj=>(ys j hj).2.2.2.1)
      (q5y bso).1 (fun j hj=>(q5y (bO j hj)).1) hR0 hR1 (by rw [hso];exact z5e (by omega) (by omega)) (fun h j hj=>by rw [hOo h];have:=(ys j hj).2.2.2.2;have:=hall h;exact z5e (by omega) (by omega))
      (rsm 0 (by omega) (by omega) hs) (rsm 1 (by omega) (by omega) hs) (rsm 2 (by omega) (by omega) hs) (rsm 3 (by omega) (by omega) hs)
end
end Go.Proofs.YticolnghiibgfaaGreat
