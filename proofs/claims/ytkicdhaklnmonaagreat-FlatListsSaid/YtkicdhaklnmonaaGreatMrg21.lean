/-
  Merged: XPcBack, XPullLaw, XPullI, XSomeW, XNumE, XGradients.
-/
import Derived.Test.YtkicdhaklnmonaaGreatMrg14
import Derived.Test.YtkicdhaklnmonaaGreatMrg16
import Derived.Test.YtkicdhaklnmonaaGreatMrg20
import Derived.Test.YtkicdhaklnmonaaGreatMrg19
import Derived.Test.YtkicdhaklnmonaaGreatMrg17
import Derived.Test.YtkicdhaklnmonaaGreatMrg13
import Derived.Test.YtkicdhaklnmonaaGreatMrg5
set_option linter.unusedVariables false
set_option linter.unusedSimpArgs false
set_option linter.unnecessarySimpa false
namespace Go.Proofs.YtkicdhaklnmonaaGreat
open Go.RowKit
section
variable {c:Nat→List Int} {W:Nat}
end
theorem PcsOk.first {w h:Int} {n:Nat} {p:Nat→PcD} (ok:PcsOk w h n p):∀ (d i:Nat),i+d<n→(q1c (p i).L).y<(q1c (p (i+d)).L).y∨((q1c (p i).L).y=(q1c (p (i+d)).L).y∧(q1c (p i).L).x0≤(q1c (p (i+d)).L).x0)
  | 0,i,_=>.inr ⟨rfl,Int.le_refl _⟩
  | d+1,i,hd=>by
    have ih:=ok.first d i (by omega)
    have h1:=(ok.two (i+(d+1)) hd).2
    unfold ordP at h1
    rw [show i+(d+1)-1=i+d by omega] at h1
    omega
end Go.Proofs.YtkicdhaklnmonaaGreat
namespace Go.Proofs.YtkicdhaklnmonaaGreat
open Go.RowKit
theorem cell_in {w h:Int} {W N:Nat} (hw:0<w) (hW:(W:Int)=16*w) (hN:(N:Int)=(16*h)*(16*w)) {j:Nat} (hj:j<N):(((j%W:Nat):Int)<16*w)∧((j/W:Nat):Int)<16*h:=by
  have hW0:0<W:=by omega
  refine ⟨by have:=Nat.mod_lt j hW0;omega,?_⟩
  have e:=Nat.div_add_mod j W
  rcases Int.lt_or_le ((j/W:Nat):Int) (16*h) with h1 |h1
  · exact h1
  · exfalso
    have h2:(16*h)*W≤((j/W:Nat):Int)*W:=Int.mul_le_mul_of_nonneg_right h1 (by omega)
    have h3:((j/W:Nat):Int)*W=((W*(j/W):Nat):Int):=by rw [Int.natCast_mul,Int.mul_comm]
    rw [h3,hW,← hN] at h2
    omega
end Go.Proofs.YtkicdhaklnmonaaGreat
namespace Go.Proofs.YtkicdhaklnmonaaGreat
open Go.RowKit
theorem lt8 {k:Nat} (h:k<8):k=0∨k=1∨k=2∨k=3∨k=4∨k=5∨k=6∨k=7:=by omega
end Go.Proofs.YtkicdhaklnmonaaGreat
namespace Go.Proofs.YtkicdhaklnmonaaGreat
open Go.RowKit
set_option maxRecDepth 20000
set_option maxHeartbeats 4000000 in
theorem z9i {A:Option Addr} {w h:Int} {n c:Nat} {p:Nat→PcD} {G:Mem} (ok:PcsOk w h n p) (e0:pcsE w h n p=0) (hP:PcsM G A n p) :
    q5k Tryz.prog 8 [.val (.int .i64 w),.val (.int .i64 h),.val (.slice A n c)] G (z9s 0) 78 3 (z30 p (fun _=>true) n).length (q0r (z30 p (fun _=>true) n)):=by
  have hn:=ok.few
  have gc:=q7d (c:=c) (w:=w) (h:=h) hP (by unfold maxLen;omega)
  rw [e0] at gc
  refine q5x tab_ok Tryz.func8 (z0t 0) ?_
  (repeat ((try (conv=>whnf));(first |(refine stQ ?_) |(with_reducible first |refine q0e (fun vs w=>by kernel_rfl) (by kernel_rfl) (gc) ?_ |refine q0d (fun vs w=>by kernel_rfl) (by kernel_rfl) (gc) ?_ |refine q0i tab_ok Tryz.func28 (fun vs w=>by kernel_rfl) (by rfl) ?_))))
  conv=>whnf
  refine q0w tab_ok (fun m=>m≤n) (fun (m:Nat)=>[(10,.val (.int .i64 m)),(5,.own 0)]) (fun m=>[.own 78 3 (catL p (fun _=>true) m).length (q0r (catL p (fun _=>true) m))]) (fun m=>n-m) 0 (Nat.zero_le _) ?_ ?_
  · refine q3z 78 3 ?_
    conv=>whnf
    ((refine q0g ?_);(conv=>whnf);(refine q0k (by rfl) (by rfl) flQ ?_))
    exact q0c rfl rfl q0f
  · rintro m hm
    rcases Nat.lt_or_ge m n with h1 |h1
    · obtain ⟨a,rfl,ca⟩:=hP.cells h1
      have hR:=hP.runs m h1
      have hroom:=hP.room m h1
      have hl1:=ok.cat_len (sel:=fun _=>true) hm
      have hl2:=ok.short h1
      have hcat:catL p (fun _=>true) (m+1)=catL p (fun _=>true) m++(p m).L:=z4x rfl
      (repeat ((try (conv=>whnf));(first |(refine ca _ ?_) |(refine stQ ?_) |(with_reducible refine q0i tab_ok Tryz.func29 (fun vs w=>by kernel_rfl) (by rfl) ?_))))
      conv=>whnf
      refine hR.src ?_
      (repeat ((try (conv=>whnf));(refine stQ ?_)))
      conv=>whnf
      refine ⟨m+1,by omega,by omega,?_⟩
      rw [hcat]
      refine q1y 3 0 rfl rfl rfl rfl ?_
      conv=>whnf
      ((refine q0g ?_);(conv=>whnf);(refine q0k (by rfl) (by rfl) flQ ?_))
      exact q0c (by rw [List.length_append]) (by rw [q1m]) q0f
    · obtain rfl:m=n:=by omega
      have hl1:=ok.cat_len (sel:=fun _=>true) hm
      (repeat ((try (conv=>whnf));(refine stQ ?_)))
      conv=>whnf
      refine x62 (fun vs w=>by kernel_rfl) (by exact rfl) (by kernel_rfl) fun A1 c1 G1 hG1 hc1 hm1 hx1=>?_
      have mk:=x41 (c:=c1) hx1 (fun r hr=>by
        have:=ok.cat_bd hr
        have:=ok.wd
        have:=ok.ht
        omega) (by omega)
      conv=>whnf
      refine z0p (fun vs w=>by kernel_rfl) (.alone fun _=>rfl) (by kernel_rfl) mk ?_
      (repeat ((try (conv=>whnf));(refine stQ ?_)))
      conv=>whnf
      exact .inl ⟨1,rfl,rfl⟩
end Go.Proofs.YtkicdhaklnmonaaGreat
namespace Go.Proofs.YtkicdhaklnmonaaGreat
open Go.RowKit
set_option maxRecDepth 20000
end Go.Proofs.YtkicdhaklnmonaaGreat
namespace Go.Proofs.YtkicdhaklnmonaaGreat
open Go.RowKit
set_option maxRecDepth 20000
end Go.Proofs.YtkicdhaklnmonaaGreat
