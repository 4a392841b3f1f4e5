/-
  region.combine.
-/
import Derived.Test.YtbkhpddodmbdoaaMrg12
set_option linter.unusedVariables false
set_option linter.unusedSimpArgs false
set_option linter.unnecessarySimpa false
namespace Go.Proofs.Ytbkhpddodmbdoaa
open Go.RowKit
set_option maxRecDepth 20000
structure EdM (G:Mem) (X:Option Addr) (c:Nat) (L:List Run) (o:Int) (i N:Nat):Prop where
  le:i≤2*L.length
  len:N=2*L.length-i
  cap:N≤c
  at_:∀ t,i+t<2*L.length→∃ b off,X=some ⟨b,off,none⟩∧G.cell? ⟨b,off+t * 3,none⟩=some (.int .i64 (eY (nthR L) (i+t)))∧G.cell? ⟨b,off+t * 3+1,none⟩=some (.int .i64 (eX (nthR L) (i+t)))∧G.cell? ⟨b,off+t * 3+2,none⟩=some (.int .i64 o)
theorem EdM.frozen {G:Mem} {A:Option Addr} {c:Nat} {L:List Run} {o:Int} (hc:2*L.length≤c) (h:q3e L o=[]∨∃ b,A=some ⟨b,0,none⟩∧∀ (j:Nat) u,(q3e L o)[j]? = some u→G.cell? ⟨b,j,none⟩=some u):EdM G A c L o 0 (2*L.length) :=
  ⟨Nat.zero_le _,rfl,hc,fun t ht=>by
    rw [Nat.zero_add] at ht
    obtain ⟨c0,c1,c2⟩:=x2d (o:=o) ht
    rcases h with h |⟨b,rfl,h⟩
    · rw [h] at c0;simp at c0
    · refine ⟨b,0,rfl,?_⟩
      rw [Nat.zero_add,Nat.zero_add]
      exact ⟨h _ _ c0,h _ _ c1,h _ _ c2⟩⟩
theorem EdM.mono {G G':Mem} {X:Option Addr} {c:Nat} {L:List Run} {o:Int} {i N:Nat} (h:EdM G X c L o i N) (hle:G.le G'):EdM G' X c L o i N :=
  ⟨h.le,h.len,h.cap,fun t ht=>by
    obtain ⟨b,off,h1,h2,h3,h4⟩:=h.at_ t ht
    exact ⟨b,off,h1,hle.cell h2,hle.cell h3,hle.cell h4⟩⟩
theorem EdM.first {G:Mem} {X:Option Addr} {c:Nat} {L:List Run} {o:Int} {i N:Nat} (h:EdM G X c L o i N) (hi:i<2*L.length):∃ p:Addr,X=some p∧G.cell? (Addr.add (p.add ((0:Int).toNat * 3)) 0)=some (.int .i64 (eY (nthR L) i))∧G.cell? (Addr.add (p.add ((0:Int).toNat * 3)) 1)=some (.int .i64 (eX (nthR L) i)) ∧
    (∀ K:List Value→Prop,K [.int .i64 (eY (nthR L) i),.int .i64 (eX (nthR L) i),.int .i64 o]→OldCells G (p.add ((0:Int).toNat * 3)) 3 K):=by
  obtain ⟨b,off,rfl,c0,c1,c2⟩:=h.at_ 0 (by omega)
  have e:(⟨b,off,none⟩:Addr).add ((0:Int).toNat * 3)=⟨b,off,none⟩:=by rw [q0t];simp
  rw [Nat.zero_mul,Nat.add_zero] at c0 c1 c2
  refine ⟨_,rfl,?_,?_,fun K k=>q41 _ rfl (fun j u hj=>?_) k⟩
  · rw [e,q0t];exact c0
  · rw [e,q0t];exact c1
  · rw [e,q0t]
    match j,hj with
    | 0,hj=>simp at hj;subst hj;exact c0
    | 1,hj=>simp at hj;subst hj;exact c1
    | 2,hj=>simp at hj;subst hj;exact c2
theorem EdM.next {G:Mem} {X:Option Addr} {c:Nat} {L:List Run} {o:Int} {i N:Nat} (h:EdM G X c L o i N) (hi:i<2*L.length):EdM G (if c=(1:Int).toNat then X else X.map (·.add ((1:Int).toNat * 3))) (c-(1:Int).toNat) L o (i+1) ((N:Int).toNat-(1:Int).toNat):=by
  have h1:=h.len
  have h2:=h.cap
  refine ⟨hi,by omega,by omega,fun t ht=>?_⟩
  rw [if_neg (by omega)]
  obtain ⟨b,off,rfl,c0,c1,c2⟩:=h.at_ (t+1) (by omega)
  refine ⟨b,off+3,by simp [q0t],?_⟩
  rw [show off+3+t * 3=off+(t+1)*3 by omega,show i+1+t=i+(t+1) by omega]
  exact ⟨c0,c1,c2⟩
structure SwS where
  i:Nat
  j:Nat
  N:Nat
  M:Nat
  X:Option Addr
  Y:Option Addr
  c:Nat
  d:Nat
  fy:Int
  fx:Int
  fw:Int
  opn:Bool
  out:List Run
theorem e_bd {L:List Run} (h:ValidL L) {e:Nat} (he:e<2*L.length):(-8192≤eY (nthR L) e∧eY (nthR L) e≤8191)∧(-8192≤eX (nthR L) e∧eX (nthR L) e≤8192):=by
  have:=Valid.bd h (e/2) (by omega)
  unfold eY eX
  split <;> omega
theorem or_le {a b c d:Int}:orI (a-c) (b-d)≤0↔q09 a b c d:=by
  unfold orI q09
  split <;> omega
theorem x46 {a b c d:Int} (h:¬ q09 a b c d):q09 c d a b:=by unfold q09 at *;omega
theorem q1f (i:Nat):(!decide (i%2=1))=decide ((i+1)%2=1):=by
  rcases Nat.mod_two_eq_zero_or_one i with h |h
  · simp [h,show (i+1)%2=1 by omega]
  · simp [h,show (i+1)%2=0 by omega]
theorem q5x (k:Int) (i j:Nat):opB k (!decide (i%2=1)) (decide (j%2=1))=(decide (0<i+1+j)&&opB k (decide ((i+1)%2=1)) (decide (j%2=1))):=by
  rw [q1f];simp [show 0<i+1+j by omega]
theorem q5y (k:Int) (i j:Nat):opB k (decide (i%2=1)) (!decide (j%2=1))=(decide (0<i+(j+1))&&opB k (decide (i%2=1)) (decide ((j+1)%2=1))):=by
  rw [q1f];simp [show 0<i+(j+1) by omega]
theorem z10 {op:Bool→Bool→Bool} {ra rb:Nat→Run} {n m i j i' j':Nat} {gy gx:Int} {a b:Bool} {out o:List Run} (h:Sweep op ra rb n m i' j' gy gx (if 0<i+j∧op a b=true then o else out)) (ho:(decide (0<i+j)&&op a b)=false):Sweep op ra rb n m i' j' gy gx out:=by
  rw [if_neg (by simp at ho;intro h;exact absurd h.2 (by rw [ho h.1];simp))] at h;exact h
theorem q94 {op:Bool→Bool→Bool} {ra rb:Nat→Run} {n m i j i' j':Nat} {gy gx:Int} {a b:Bool} {out o:List Run} (h:Sweep op ra rb n m i' j' gy gx (if 0<i+j∧op a b=true then o else out)) (ho:(decide (0<i+j)&&op a b)=true):Sweep op ra rb n m i' j' gy gx o:=by
  rw [if_pos (by simpa using ho)] at h;exact h
set_option maxHeartbeats 8000000 in
theorem z6i (f:FuncId) (k:Int) (hen:∀ vs w,(callFunc f vs).run Try.prog w=.ok (.enter f vs) w) (hf:∀ (p q:Bool) (G:Mem),Gives Try.prog f [.val (.bool p),.val (.bool q)] G (.val (.bool (opB k p q))))
    (A B:Option Addr) (La Lb:List Run) (c d:Nat) (G:Mem) (hA:RunsM G A La) (hB:RunsM G B Lb) (va:ValidL La) (vb:ValidL Lb):q2j Try.prog 70 [.val (.slice A La.length c),.val (.slice B Lb.length d),.val (.func (.func f) #[] #[])] G id 54 3 (mixR k La Lb).length (q0o (mixR k La Lb)):=by
  have hla:=va.length
  have hlb:=vb.length
  refine q1y tab_ok Try.func70 (.alone fun _=>rfl) ?_
  (repeat ((try (conv=>whnf));(refine stQ ?_)))
  conv=>whnf
  refine q04 (fun vs w=>by kernel_rfl) (.alone fun _=>rfl) (by kernel_rfl) (z2c A La c 0 G hA (by omega)) fun X1 c1 G1 hG1 hc1 hm1 hx1=>?_
  have hX:=EdM.frozen hc1 hx1
  (repeat ((try (conv=>whnf));(refine stQ ?_)))
  conv=>whnf
  refine q04 (fun vs w=>by kernel_rfl) (.alone fun _=>rfl) (by kernel_rfl) (z2c B Lb d 1 G1 (hB.mono hG1) (by omega)) fun X2 c2 G2 hG2 hc2 hm2 hx2=>?_
  have hY:=EdM.frozen hc2 hx2
  replace hX:=hX.mono hG2
  clear hx1 hx2
  (repeat ((try (conv=>whnf));(refine stQ ?_)))
  conv=>whnf
  refine q05 (ι:=SwS) tab_ok (fun s=>Sweep (opB k) (nthR La) (nthR Lb) La.length Lb.length s.i s.j s.fy s.fx s.out∧EdM G2 s.X s.c La 0 s.i s.N∧EdM G2 s.Y s.d Lb 1 s.j s.M∧s.opn=(decide (0<s.i+s.j)&&opB k (decide (s.i%2=1)) (decide (s.j%2=1))))
    (fun s=>[(7,.val (.slice s.X s.N s.c)),(8,.val (.slice s.Y s.M s.d)),(12,.val (.bool s.opn))])
    (fun s=>[.cells 132 [.val (.bool (decide (s.i%2=1))),.val (.bool (decide (s.j%2=1)))],.cells 107 [.own 3],.cells 134 [.val (.int .i64 s.fy),.val (.int .i64 s.fx),.val (.int .i64 s.fw)],.own 54 3 s.out.length (q0o s.out)])
    (fun s=>s.N+s.M) ⟨0,0,2*La.length,2*Lb.length,X1,X2,c1,c2,0,0,0,false,[]⟩ ⟨Sweep.start _ _ _ _ _ _ _,hX,hY,rfl⟩ ?_ ?_
  · refine q3s 54 3 ?_
    conv=>whnf
    ((refine q0h ?_);(conv=>whnf);(refine q0k (by rfl) (by rfl) flQ ?_))
    exact q0f (by exact flQ) (q0f (by exact flQ) (q0f (by exact flQ) (q0e rfl rfl q0g)))
  · rintro s ⟨hs,hX,hY,ho⟩
    have hN:=hX.len
    have hM:=hY.len
    have hcX:=hX.cap
    have hcY:=hY.cap
    have hsl:=hs.len
    have hsi:=hs.hi
    have hsj:=hs.hj
    by_cases hi:s.i<2*La.length
    · obtain ⟨pa,hXe,pa0,pa1,paK⟩:=hX.first hi
      have ba:=e_bd va hi
      by_cases hj:s.j<2*Lb.length
      · obtain ⟨pb,hYe,pb0,pb1,pbK⟩:=hY.first hj
        have bb:=e_bd vb hj
        by_cases hle:q09 (eY (nthR La) s.i) (eX (nthR La) s.i) (eY (nthR Lb) s.j) (eX (nthR Lb) s.j)
        · have hst:=hs.stepA (q5v k) va vb hi (fun _=>hle)
          have hor:=or_le.2 hle
          rw [hXe] at hX
          rw [hYe] at hY
          rw [hXe,hYe]
          cases hopn:s.opn
          · have hst':=z10 hst (ho.symm.trans hopn)
            (repeat ((try (conv=>whnf));(first |(with_reducible first |refine q0d _ pa0 ?_ |refine q0d _ pa1 ?_ |refine q0d _ pb0 ?_ |refine q0d _ pb1 ?_ |refine paK _ ?_ |refine q0a hen (by kernel_rfl) (hf _ _ _) ?_) |(refine q08 (by exact rfl) ?_) |(refine stQ ?_) |(with_reducible refine q0c tab_ok Try.func65 (fun vs w=>by kernel_rfl) (by rfl) ?_))))
            conv=>whnf
            refine ⟨⟨s.i+1,s.j,((s.N:Int).toNat-(1:Int).toNat),s.M,(if s.c=(1:Int).toNat then some pa else (some pa).map (·.add ((1:Int).toNat * 3))),some pb,(s.c-(1:Int).toNat),s.d,eY (nthR La) s.i,eX (nthR La) s.i,0,opB k (!decide (s.i%2=1)) (decide (s.j%2=1)),s.out⟩,⟨hst',hX.next hi,hY,q5x _ _ _⟩,by simp only;omega,?_⟩
            ((refine q0h ?_);(conv=>whnf);(refine q0k (by rfl) (by rfl) flQ ?_))
            exact q0f (q07 (q1q (q1f _)) rfl (by exact flQ)) (q0f (by exact flQ) (q0f (by exact flQ) (q0e rfl rfl q0g)))
          · have hst':=q94 hst (ho.symm.trans hopn)
            by_cases hx:eX (nthR La) s.i≤s.fx
            · rw [q3y hx] at hst'
              (repeat ((try (conv=>whnf));(first |(with_reducible first |refine q0d _ pa0 ?_ |refine q0d _ pa1 ?_ |refine q0d _ pb0 ?_ |refine q0d _ pb1 ?_ |refine paK _ ?_ |refine q0a hen (by kernel_rfl) (hf _ _ _) ?_) |(refine q08 (by exact rfl) ?_) |(refine stQ ?_) |(with_reducible refine q0c tab_ok Try.func65 (fun vs w=>by kernel_rfl) (by rfl) ?_))))
              conv=>whnf
              refine ⟨⟨s.i+1,s.j,((s.N:Int).toNat-(1:Int).toNat),s.M,(if s.c=(1:Int).toNat then some pa else (some pa).map (·.add ((1:Int).toNat * 3))),some pb,(s.c-(1:Int).toNat),s.d,eY (nthR La) s.i,eX (nthR La) s.i,0,opB k (!decide (s.i%2=1)) (decide (s.j%2=1)),s.out⟩,⟨hst',hX.next hi,hY,q5x _ _ _⟩,by simp only;omega,?_⟩
              ((refine q0h ?_);(conv=>whnf);(refine q0k (by rfl) (by rfl) flQ ?_))
              exact q0f (q07 (q1q (q1f _)) rfl (by exact flQ)) (q0f (by exact flQ) (q0f (by exact flQ) (q0e rfl rfl q0g)))
            · rcases q2r s.out with hout |⟨K,r,hout⟩
              · have hlen:s.out.length=0:=by rw [hout];rfl
                rw [hout,q2m hx] at hst'
                (repeat ((try (conv=>whnf));(first |(with_reducible first |refine q0d _ pa0 ?_ |refine q0d _ pa1 ?_ |refine q0d _ pb0 ?_ |refine q0d _ pb1 ?_ |refine paK _ ?_ |refine q0a hen (by kernel_rfl) (hf _ _ _) ?_) |(refine q08 (by exact rfl) ?_) |(refine stQ ?_) |(with_reducible refine q0c tab_ok Try.func65 (fun vs w=>by kernel_rfl) (by rfl) ?_))))
                conv=>whnf
                refine ⟨⟨s.i+1,s.j,((s.N:Int).toNat-(1:Int).toNat),s.M,(if s.c=(1:Int).toNat then some pa else (some pa).map (·.add ((1:Int).toNat * 3))),some pb,(s.c-(1:Int).toNat),s.d,eY (nthR La) s.i,eX (nthR La) s.i,0,opB k (!decide (s.i%2=1)) (decide (s.j%2=1)),[⟨s.fy,s.fx,eX (nthR La) s.i⟩]⟩,⟨hst',hX.next hi,hY,q5x _ _ _⟩,by simp only;omega,?_⟩
                first |(refine q0y 7 3 rfl rfl rfl rfl ?_) |(refine q0y 6 3 rfl rfl rfl rfl ?_)
                conv=>whnf
                ((refine q0h ?_);(conv=>whnf);(refine q0k (by rfl) (by rfl) flQ ?_))
                exact q0f (q07 (q1q (q1f _)) rfl (by exact flQ)) (q0f (by exact flQ) (q0f (by exact flQ) (q0e (by simp only [hlen];rfl) (by rw [hout];rfl) q0g)))
              · have hlen:s.out.length=K.length+1:=by rw [hout];simp
                have hix:(((s.out.length:Nat):Int)-1).toNat=K.length:=by omega
                obtain ⟨q0,q1,q2⟩:=q4n K r
                rw [← hout,← hix] at q0 q1 q2
                rw [← Nat.add_zero ((((s.out.length:Nat):Int)-1).toNat * 3)] at q0
                by_cases hj1:r.y=s.fy
                · by_cases hj2:s.fx≤r.x1
                  · rw [hout,q1r hx hj1 hj2] at hst'
                    (repeat ((try (conv=>whnf));(first |(refine q0i (.int .i64 r.y) q0 ?_) |(refine q0i (.int .i64 r.x1) q2 ?_) |(with_reducible first |refine q0d _ pa0 ?_ |refine q0d _ pa1 ?_ |refine q0d _ pb0 ?_ |refine q0d _ pb1 ?_ |refine paK _ ?_ |refine q0a hen (by kernel_rfl) (hf _ _ _) ?_) |(refine q08 (by exact rfl) ?_) |(refine stQ ?_) |(with_reducible refine q0c tab_ok Try.func65 (fun vs w=>by kernel_rfl) (by rfl) ?_))))
                    conv=>whnf
                    refine mustP.mk (by rw [hix,q1c,hlen];simp;omega) ?_
                    (repeat ((try (conv=>whnf));(first |(refine q0i (.int .i64 r.y) q0 ?_) |(refine q0i (.int .i64 r.x1) q2 ?_) |(with_reducible first |refine q0d _ pa0 ?_ |refine q0d _ pa1 ?_ |refine q0d _ pb0 ?_ |refine q0d _ pb1 ?_ |refine paK _ ?_ |refine q0a hen (by kernel_rfl) (hf _ _ _) ?_) |(refine q08 (by exact rfl) ?_) |(refine stQ ?_) |(with_reducible refine q0c tab_ok Try.func65 (fun vs w=>by kernel_rfl) (by rfl) ?_))))
                    conv=>whnf
                    refine ⟨⟨s.i+1,s.j,((s.N:Int).toNat-(1:Int).toNat),s.M,(if s.c=(1:Int).toNat then some pa else (some pa).map (·.add ((1:Int).toNat * 3))),some pb,(s.c-(1:Int).toNat),s.d,eY (nthR La) s.i,eX (nthR La) s.i,0,opB k (!decide (s.i%2=1)) (decide (s.j%2=1)),(K++[⟨s.fy,r.x0,max r.x1 (eX (nthR La) s.i)⟩])⟩,⟨hst',hX.next hi,hY,q5x _ _ _⟩,by simp only;omega,?_⟩
                    ((refine q0h ?_);(conv=>whnf);(refine q0k (by rfl) (by rfl) flQ ?_))
                    exact q0f (q07 (q1q (q1f _)) rfl (by exact flQ)) (q0f (by exact flQ) (q0f (by exact flQ) (q0e (by rw [hlen];simp) (by rw [hix,hout,← hj1];exact q53 K r _) q0g)))
                  · rw [hout,q1o hx (fun h=>hj2 h.2)] at hst'
                    (repeat ((try (conv=>whnf));(first |(refine q0i (.int .i64 r.y) q0 ?_) |(refine q0i (.int .i64 r.x1) q2 ?_) |(with_reducible first |refine q0d _ pa0 ?_ |refine q0d _ pa1 ?_ |refine q0d _ pb0 ?_ |refine q0d _ pb1 ?_ |refine paK _ ?_ |refine q0a hen (by kernel_rfl) (hf _ _ _) ?_) |(refine q08 (by exact rfl) ?_) |(refine stQ ?_) |(with_reducible refine q0c tab_ok Try.func65 (fun vs w=>by kernel_rfl) (by rfl) ?_))))
                    conv=>whnf
                    refine ⟨⟨s.i+1,s.j,((s.N:Int).toNat-(1:Int).toNat),s.M,(if s.c=(1:Int).toNat then some pa else (some pa).map (·.add ((1:Int).toNat * 3))),some pb,(s.c-(1:Int).toNat),s.d,eY (nthR La) s.i,eX (nthR La) s.i,0,opB k (!decide (s.i%2=1)) (decide (s.j%2=1)),(K++[r]++[⟨s.fy,s.fx,eX (nthR La) s.i⟩])⟩,⟨hst',hX.next hi,hY,q5x _ _ _⟩,by simp only;omega,?_⟩
                    first |(refine q0y 7 3 rfl rfl rfl rfl ?_) |(refine q0y 6 3 rfl rfl rfl rfl ?_)
                    conv=>whnf
                    ((refine q0h ?_);(conv=>whnf);(refine q0k (by rfl) (by rfl) flQ ?_))
                    exact q0f (q07 (q1q (q1f _)) rfl (by exact flQ)) (q0f (by exact flQ) (q0f (by exact flQ) (q0e (by rw [hlen];simp) (by rw [hout,q0x (K++[r])];rfl) q0g)))
                · rw [hout,q1o hx (fun h=>hj1 h.1)] at hst'
                  (repeat ((try (conv=>whnf));(first |(refine q0i (.int .i64 r.y) q0 ?_) |(refine q0i (.int .i64 r.x1) q2 ?_) |(with_reducible first |refine q0d _ pa0 ?_ |refine q0d _ pa1 ?_ |refine q0d _ pb0 ?_ |refine q0d _ pb1 ?_ |refine paK _ ?_ |refine q0a hen (by kernel_rfl) (hf _ _ _) ?_) |(refine q08 (by exact rfl) ?_) |(refine stQ ?_) |(with_reducible refine q0c tab_ok Try.func65 (fun vs w=>by kernel_rfl) (by rfl) ?_))))
                  conv=>whnf
                  refine ⟨⟨s.i+1,s.j,((s.N:Int).toNat-(1:Int).toNat),s.M,(if s.c=(1:Int).toNat then some pa else (some pa).map (·.add ((1:Int).toNat * 3))),some pb,(s.c-(1:Int).toNat),s.d,eY (nthR La) s.i,eX (nthR La) s.i,0,opB k (!decide (s.i%2=1)) (decide (s.j%2=1)),(K++[r]++[⟨s.fy,s.fx,eX (nthR La) s.i⟩])⟩,⟨hst',hX.next hi,hY,q5x _ _ _⟩,by simp only;omega,?_⟩
                  first |(refine q0y 7 3 rfl rfl rfl rfl ?_) |(refine q0y 6 3 rfl rfl rfl rfl ?_)
                  conv=>whnf
                  ((refine q0h ?_);(conv=>whnf);(refine q0k (by rfl) (by rfl) flQ ?_))
                  exact q0f (q07 (q1q (q1f _)) rfl (by exact flQ)) (q0f (by exact flQ) (q0f (by exact flQ) (q0e (by rw [hlen];simp) (by rw [hout,q0x (K++[r])];rfl) q0g)))
        · have hst:=hs.stepB (q5v k) va vb hj (fun _=>x46 hle)
          have hor:=Int.not_le.1 fun h=>hle (or_le.1 h)
          rw [hXe] at hX
          rw [hYe] at hY
          rw [hXe,hYe]
          cases hopn:s.opn
          · have hst':=z10 hst (ho.symm.trans hopn)
            (repeat ((try (conv=>whnf));(first |(with_reducible first |refine q0d _ pa0 ?_ |refine q0d _ pa1 ?_ |refine q0d _ pb0 ?_ |refine q0d _ pb1 ?_ |refine pbK _ ?_ |refine q0a hen (by kernel_rfl) (hf _ _ _) ?_) |(refine q08 (by exact rfl) ?_) |(refine stQ ?_) |(with_reducible refine q0c tab_ok Try.func65 (fun vs w=>by kernel_rfl) (by rfl) ?_))))
            conv=>whnf
            refine ⟨⟨s.i,s.j+1,s.N,((s.M:Int).toNat-(1:Int).toNat),some pa,(if s.d=(1:Int).toNat then some pb else (some pb).map (·.add ((1:Int).toNat * 3))),s.c,(s.d-(1:Int).toNat),eY (nthR Lb) s.j,eX (nthR Lb) s.j,1,opB k (decide (s.i%2=1)) (!decide (s.j%2=1)),s.out⟩,⟨hst',hX,hY.next hj,q5y _ _ _⟩,by simp only;omega,?_⟩
            ((refine q0h ?_);(conv=>whnf);(refine q0k (by rfl) (by rfl) flQ ?_))
            exact q0f (q1z (q07 (q1q (q1f _)) rfl q1e)) (q0f (by exact flQ) (q0f (by exact flQ) (q0e rfl rfl q0g)))
          · have hst':=q94 hst (ho.symm.trans hopn)
            by_cases hx:eX (nthR Lb) s.j≤s.fx
            · rw [q3y hx] at hst'
              (repeat ((try (conv=>whnf));(first |(with_reducible first |refine q0d _ pa0 ?_ |refine q0d _ pa1 ?_ |refine q0d _ pb0 ?_ |refine q0d _ pb1 ?_ |refine pbK _ ?_ |refine q0a hen (by kernel_rfl) (hf _ _ _) ?_) |(refine q08 (by exact rfl) ?_) |(refine stQ ?_) |(with_reducible refine q0c tab_ok Try.func65 (fun vs w=>by kernel_rfl) (by rfl) ?_))))
              conv=>whnf
              refine ⟨⟨s.i,s.j+1,s.N,((s.M:Int).toNat-(1:Int).toNat),some pa,(if s.d=(1:Int).toNat then some pb else (some pb).map (·.add ((1:Int).toNat * 3))),s.c,(s.d-(1:Int).toNat),eY (nthR Lb) s.j,eX (nthR Lb) s.j,1,opB k (decide (s.i%2=1)) (!decide (s.j%2=1)),s.out⟩,⟨hst',hX,hY.next hj,q5y _ _ _⟩,by simp only;omega,?_⟩
              ((refine q0h ?_);(conv=>whnf);(refine q0k (by rfl) (by rfl) flQ ?_))
              exact q0f (q1z (q07 (q1q (q1f _)) rfl q1e)) (q0f (by exact flQ) (q0f (by exact flQ) (q0e rfl rfl q0g)))
            · rcases q2r s.out with hout |⟨K,r,hout⟩
              · have hlen:s.out.length=0:=by rw [hout];rfl
                rw [hout,q2m hx] at hst'
                (repeat ((try (conv=>whnf));(first |(with_reducible first |refine q0d _ pa0 ?_ |refine q0d _ pa1 ?_ |refine q0d _ pb0 ?_ |refine q0d _ pb1 ?_ |refine pbK _ ?_ |refine q0a hen (by kernel_rfl) (hf _ _ _) ?_) |(refine q08 (by exact rfl) ?_) |(refine stQ ?_) |(with_reducible refine q0c tab_ok Try.func65 (fun vs w=>by kernel_rfl) (by rfl) ?_))))
                conv=>whnf
                refine ⟨⟨s.i,s.j+1,s.N,((s.M:Int).toNat-(1:Int).toNat),some pa,(if s.d=(1:Int).toNat then some pb else (some pb).map (·.add ((1:Int).toNat * 3))),s.c,(s.d-(1:Int).toNat),eY (nthR Lb) s.j,eX (nthR Lb) s.j,1,opB k (decide (s.i%2=1)) (!decide (s.j%2=1)),[⟨s.fy,s.fx,eX (nthR Lb) s.j⟩]⟩,⟨hst',hX,hY.next hj,q5y _ _ _⟩,by simp only;omega,?_⟩
                first |(refine q0y 7 3 rfl rfl rfl rfl ?_) |(refine q0y 6 3 rfl rfl rfl rfl ?_)
                conv=>whnf
                ((refine q0h ?_);(conv=>whnf);(refine q0k (by rfl) (by rfl) flQ ?_))
                exact q0f (q1z (q07 (q1q (q1f _)) rfl q1e)) (q0f (by exact flQ) (q0f (by exact flQ) (q0e (by simp only [hlen];rfl) (by rw [hout];rfl) q0g)))
              · have hlen:s.out.length=K.length+1:=by rw [hout];simp
                have hix:(((s.out.length:Nat):Int)-1).toNat=K.length:=by omega
                obtain ⟨q0,q1,q2⟩:=q4n K r
                rw [← hout,← hix] at q0 q1 q2
                rw [← Nat.add_zero ((((s.out.length:Nat):Int)-1).toNat * 3)] at q0
                by_cases hj1:r.y=s.fy
                · by_cases hj2:s.fx≤r.x1
                  · rw [hout,q1r hx hj1 hj2] at hst'
                    (repeat ((try (conv=>whnf));(first |(refine q0i (.int .i64 r.y) q0 ?_) |(refine q0i (.int .i64 r.x1) q2 ?_) |(with_reducible first |refine q0d _ pa0 ?_ |refine q0d _ pa1 ?_ |refine q0d _ pb0 ?_ |refine q0d _ pb1 ?_ |refine pbK _ ?_ |refine q0a hen (by kernel_rfl) (hf _ _ _) ?_) |(refine q08 (by exact rfl) ?_) |(refine stQ ?_) |(with_reducible refine q0c tab_ok Try.func65 (fun vs w=>by kernel_rfl) (by rfl) ?_))))
                    conv=>whnf
                    refine mustP.mk (by rw [hix,q1c,hlen];simp;omega) ?_
                    (repeat ((try (conv=>whnf));(first |(refine q0i (.int .i64 r.y) q0 ?_) |(refine q0i (.int .i64 r.x1) q2 ?_) |(with_reducible first |refine q0d _ pa0 ?_ |refine q0d _ pa1 ?_ |refine q0d _ pb0 ?_ |refine q0d _ pb1 ?_ |refine pbK _ ?_ |refine q0a hen (by kernel_rfl) (hf _ _ _) ?_) |(refine q08 (by exact rfl) ?_) |(refine stQ ?_) |(with_reducible refine q0c tab_ok Try.func65 (fun vs w=>by kernel_rfl) (by rfl) ?_))))
                    conv=>whnf
                    refine ⟨⟨s.i,s.j+1,s.N,((s.M:Int).toNat-(1:Int).toNat),some pa,(if s.d=(1:Int).toNat then some pb else (some pb).map (·.add ((1:Int).toNat * 3))),s.c,(s.d-(1:Int).toNat),eY (nthR Lb) s.j,eX (nthR Lb) s.j,1,opB k (decide (s.i%2=1)) (!decide (s.j%2=1)),(K++[⟨s.fy,r.x0,max r.x1 (eX (nthR Lb) s.j)⟩])⟩,⟨hst',hX,hY.next hj,q5y _ _ _⟩,by simp only;omega,?_⟩
                    ((refine q0h ?_);(conv=>whnf);(refine q0k (by rfl) (by rfl) flQ ?_))
                    exact q0f (q1z (q07 (q1q (q1f _)) rfl q1e)) (q0f (by exact flQ) (q0f (by exact flQ) (q0e (by rw [hlen];simp) (by rw [hix,hout,← hj1];exact q53 K r _) q0g)))
                  · rw [hout,q1o hx (fun h=>hj2 h.2)] at hst'
                    (repeat ((try (conv=>whnf));(first |(refine q0i (.int .i64 r.y) q0 ?_) |(refine q0i (.int .i64 r.x1) q2 ?_) |(with_reducible first |refine q0d _ pa0 ?_ |refine q0d _ pa1 ?_ |refine q0d _ pb0 ?_ |refine q0d _ pb1 ?_ |refine pbK _ ?_ |refine q0a hen (by kernel_rfl) (hf _ _ _) ?_) |(refine q08 (by exact rfl) ?_) |(refine stQ ?_) |(with_reducible refine q0c tab_ok Try.func65 (fun vs w=>by kernel_rfl) (by rfl) ?_))))
                    conv=>whnf
                    refine ⟨⟨s.i,s.j+1,s.N,((s.M:Int).toNat-(1:Int).toNat),some pa,(if s.d=(1:Int).toNat then some pb else (some pb).map (·.add ((1:Int).toNat * 3))),s.c,(s.d-(1:Int).toNat),eY (nthR Lb) s.j,eX (nthR Lb) s.j,1,opB k (decide (s.i%2=1)) (!decide (s.j%2=1)),(K++[r]++[⟨s.fy,s.fx,eX (nthR Lb) s.j⟩])⟩,⟨hst',hX,hY.next hj,q5y _ _ _⟩,by simp only;omega,?_⟩
                    first |(refine q0y 7 3 rfl rfl rfl rfl ?_) |(refine q0y 6 3 rfl rfl rfl rfl ?_)
                    conv=>whnf
                    ((refine q0h ?_);(conv=>whnf);(refine q0k (by rfl) (by rfl) flQ ?_))
                    exact q0f (q1z (q07 (q1q (q1f _)) rfl q1e)) (q0f (by exact flQ) (q0f (by exact flQ) (q0e (by rw [hlen];simp) (by rw [hout,q0x (K++[r])];rfl) q0g)))
                · rw [hout,q1o hx (fun h=>hj1 h.1)] at hst'
                  (repeat ((try (conv=>whnf));(first |(refine q0i (.int .i64 r.y) q0 ?_) |(refine q0i (.int .i64 r.x1) q2 ?_) |(with_reducible first |refine q0d _ pa0 ?_ |refine q0d _ pa1 ?_ |refine q0d _ pb0 ?_ |refine q0d _ pb1 ?_ |refine pbK _ ?_ |refine q0a hen (by kernel_rfl) (hf _ _ _) ?_) |(refine q08 (by exact rfl) ?_) |(refine stQ ?_) |(with_reducible refine q0c tab_ok Try.func65 (fun vs w=>by kernel_rfl) (by rfl) ?_))))
                  conv=>whnf
                  refine ⟨⟨s.i,s.j+1,s.N,((s.M:Int).toNat-(1:Int).toNat),some pa,(if s.d=(1:Int).toNat then some pb else (some pb).map (·.add ((1:Int).toNat * 3))),s.c,(s.d-(1:Int).toNat),eY (nthR Lb) s.j,eX (nthR Lb) s.j,1,opB k (decide (s.i%2=1)) (!decide (s.j%2=1)),(K++[r]++[⟨s.fy,s.fx,eX (nthR Lb) s.j⟩])⟩,⟨hst',hX,hY.next hj,q5y _ _ _⟩,by simp only;omega,?_⟩
                  first |(refine q0y 7 3 rfl rfl rfl rfl ?_) |(refine q0y 6 3 rfl rfl rfl rfl ?_)
                  conv=>whnf
                  ((refine q0h ?_);(conv=>whnf);(refine q0k (by rfl) (by rfl) flQ ?_))
                  exact q0f (q1z (q07 (q1q (q1f _)) rfl q1e)) (q0f (by exact flQ) (q0f (by exact flQ) (q0e (by rw [hlen];simp) (by rw [hout,q0x (K++[r])];rfl) q0g)))
      · have hst:=hs.stepA (q5v k) va vb hi (fun h=>absurd h hj)
        rw [hXe] at hX
        rw [hXe]
        cases hopn:s.opn
        · have hst':=z10 hst (ho.symm.trans hopn)
          (repeat ((try (conv=>whnf));(first |(with_reducible first |refine paK _ ?_ |refine q0a hen (by kernel_rfl) (hf _ _ _) ?_) |(refine q08 (by exact rfl) ?_) |(refine stQ ?_) |(with_reducible refine q0c tab_ok Try.func65 (fun vs w=>by kernel_rfl) (by rfl) ?_))))
          conv=>whnf
          refine ⟨⟨s.i+1,s.j,((s.N:Int).toNat-(1:Int).toNat),s.M,(if s.c=(1:Int).toNat then some pa else (some pa).map (·.add ((1:Int).toNat * 3))),s.Y,(s.c-(1:Int).toNat),s.d,eY (nthR La) s.i,eX (nthR La) s.i,0,opB k (!decide (s.i%2=1)) (decide (s.j%2=1)),s.out⟩,⟨hst',hX.next hi,hY,q5x _ _ _⟩,by simp only;omega,?_⟩
          ((refine q0h ?_);(conv=>whnf);(refine q0k (by rfl) (by rfl) flQ ?_))
          exact q0f (q07 (q1q (q1f _)) rfl (by exact flQ)) (q0f (by exact flQ) (q0f (by exact flQ) (q0e rfl rfl q0g)))
        · have hst':=q94 hst (ho.symm.trans hopn)
          by_cases hx:eX (nthR La) s.i≤s.fx
          · rw [q3y hx] at hst'
            (repeat ((try (conv=>whnf));(first |(with_reducible first |refine paK _ ?_ |refine q0a hen (by kernel_rfl) (hf _ _ _) ?_) |(refine q08 (by exact rfl) ?_) |(refine stQ ?_) |(with_reducible refine q0c tab_ok Try.func65 (fun vs w=>by kernel_rfl) (by rfl) ?_))))
            conv=>whnf
            refine ⟨⟨s.i+1,s.j,((s.N:Int).toNat-(1:Int).toNat),s.M,(if s.c=(1:Int).toNat then some pa else (some pa).map (·.add ((1:Int).toNat * 3))),s.Y,(s.c-(1:Int).toNat),s.d,eY (nthR La) s.i,eX (nthR La) s.i,0,opB k (!decide (s.i%2=1)) (decide (s.j%2=1)),s.out⟩,⟨hst',hX.next hi,hY,q5x _ _ _⟩,by simp only;omega,?_⟩
            ((refine q0h ?_);(conv=>whnf);(refine q0k (by rfl) (by rfl) flQ ?_))
            exact q0f (q07 (q1q (q1f _)) rfl (by exact flQ)) (q0f (by exact flQ) (q0f (by exact flQ) (q0e rfl rfl q0g)))
          · rcases q2r s.out with hout |⟨K,r,hout⟩
            · have hlen:s.out.length=0:=by rw [hout];rfl
              rw [hout,q2m hx] at hst'
              (repeat ((try (conv=>whnf));(first |(with_reducible first |refine paK _ ?_ |refine q0a hen (by kernel_rfl) (hf _ _ _) ?_) |(refine q08 (by exact rfl) ?_) |(refine stQ ?_) |(with_reducible refine q0c tab_ok Try.func65 (fun vs w=>by kernel_rfl) (by rfl) ?_))))
              conv=>whnf
              refine ⟨⟨s.i+1,s.j,((s.N:Int).toNat-(1:Int).toNat),s.M,(if s.c=(1:Int).toNat then some pa else (some pa).map (·.add ((1:Int).toNat * 3))),s.Y,(s.c-(1:Int).toNat),s.d,eY (nthR La) s.i,eX (nthR La) s.i,0,opB k (!decide (s.i%2=1)) (decide (s.j%2=1)),[⟨s.fy,s.fx,eX (nthR La) s.i⟩]⟩,⟨hst',hX.next hi,hY,q5x _ _ _⟩,by simp only;omega,?_⟩
              first |(refine q0y 7 3 rfl rfl rfl rfl ?_) |(refine q0y 6 3 rfl rfl rfl rfl ?_)
              conv=>whnf
              ((refine q0h ?_);(conv=>whnf);(refine q0k (by rfl) (by rfl) flQ ?_))
              exact q0f (q07 (q1q (q1f _)) rfl (by exact flQ)) (q0f (by exact flQ) (q0f (by exact flQ) (q0e (by simp only [hlen];rfl) (by rw [hout];rfl) q0g)))
            · have hlen:s.out.length=K.length+1:=by rw [hout];simp
              have hix:(((s.out.length:Nat):Int)-1).toNat=K.length:=by omega
              obtain ⟨q0,q1,q2⟩:=q4n K r
              rw [← hout,← hix] at q0 q1 q2
              rw [← Nat.add_zero ((((s.out.length:Nat):Int)-1).toNat * 3)] at q0
              by_cases hj1:r.y=s.fy
              · by_cases hj2:s.fx≤r.x1
                · rw [hout,q1r hx hj1 hj2] at hst'
                  (repeat ((try (conv=>whnf));(first |(refine q0i (.int .i64 r.y) q0 ?_) |(refine q0i (.int .i64 r.x1) q2 ?_) |(with_reducible first |refine paK _ ?_ |refine q0a hen (by kernel_rfl) (hf _ _ _) ?_) |(refine q08 (by exact rfl) ?_) |(refine stQ ?_) |(with_reducible refine q0c tab_ok Try.func65 (fun vs w=>by kernel_rfl) (by rfl) ?_))))
                  conv=>whnf
                  refine mustP.mk (by rw [hix,q1c,hlen];simp;omega) ?_
                  (repeat ((try (conv=>whnf));(first |(refine q0i (.int .i64 r.y) q0 ?_) |(refine q0i (.int .i64 r.x1) q2 ?_) |(with_reducible first |refine paK _ ?_ |refine q0a hen (by kernel_rfl) (hf _ _ _) ?_) |(refine q08 (by exact rfl) ?_) |(refine stQ ?_) |(with_reducible refine q0c tab_ok Try.func65 (fun vs w=>by kernel_rfl) (by rfl) ?_))))
                  conv=>whnf
                  refine ⟨⟨s.i+1,s.j,((s.N:Int).toNat-(1:Int).toNat),s.M,(if s.c=(1:Int).toNat then some pa else (some pa).map (·.add ((1:Int).toNat * 3))),s.Y,(s.c-(1:Int).toNat),s.d,eY (nthR La) s.i,eX (nthR La) s.i,0,opB k (!decide (s.i%2=1)) (decide (s.j%2=1)),(K++[⟨s.fy,r.x0,max r.x1 (eX (nthR La) s.i)⟩])⟩,⟨hst',hX.next hi,hY,q5x _ _ _⟩,by simp only;omega,?_⟩
                  ((refine q0h ?_);(conv=>whnf);(refine q0k (by rfl) (by rfl) flQ ?_))
                  exact q0f (q07 (q1q (q1f _)) rfl (by exact flQ)) (q0f (by exact flQ) (q0f (by exact flQ) (q0e (by rw [hlen];simp) (by rw [hix,hout,← hj1];exact q53 K r _) q0g)))
                · rw [hout,q1o hx (fun h=>hj2 h.2)] at hst'
                  (repeat ((try (conv=>whnf));(first |(refine q0i (.int .i64 r.y) q0 ?_) |(refine q0i (.int .i64 r.x1) q2 ?_) |(with_reducible first |refine paK _ ?_ |refine q0a hen (by kernel_rfl) (hf _ _ _) ?_) |(refine q08 (by exact rfl) ?_) |(refine stQ ?_) |(with_reducible refine q0c tab_ok Try.func65 (fun vs w=>by kernel_rfl) (by rfl) ?_))))
                  conv=>whnf
                  refine ⟨⟨s.i+1,s.j,((s.N:Int).toNat-(1:Int).toNat),s.M,(if s.c=(1:Int).toNat then some pa else (some pa).map (·.add ((1:Int).toNat * 3))),s.Y,(s.c-(1:Int).toNat),s.d,eY (nthR La) s.i,eX (nthR La) s.i,0,opB k (!decide (s.i%2=1)) (decide (s.j%2=1)),(K++[r]++[⟨s.fy,s.fx,eX (nthR La) s.i⟩])⟩,⟨hst',hX.next hi,hY,q5x _ _ _⟩,by simp only;omega,?_⟩
                  first |(refine q0y 7 3 rfl rfl rfl rfl ?_) |(refine q0y 6 3 rfl rfl rfl rfl ?_)
                  conv=>whnf
                  ((refine q0h ?_);(conv=>whnf);(refine q0k (by rfl) (by rfl) flQ ?_))
                  exact q0f (q07 (q1q (q1f _)) rfl (by exact flQ)) (q0f (by exact flQ) (q0f (by exact flQ) (q0e (by rw [hlen];simp) (by rw [hout,q0x (K++[r])];rfl) q0g)))
              · rw [hout,q1o hx (fun h=>hj1 h.1)] at hst'
                (repeat ((try (conv=>whnf));(first |(refine q0i (.int .i64 r.y) q0 ?_) |(refine q0i (.int .i64 r.x1) q2 ?_) |(with_reducible first |refine paK _ ?_ |refine q0a hen (by kernel_rfl) (hf _ _ _) ?_) |(refine q08 (by exact rfl) ?_) |(refine stQ ?_) |(with_reducible refine q0c tab_ok Try.func65 (fun vs w=>by kernel_rfl) (by rfl) ?_))))
                conv=>whnf
                refine ⟨⟨s.i+1,s.j,((s.N:Int).toNat-(1:Int).toNat),s.M,(if s.c=(1:Int).toNat then some pa else (some pa).map (·.add ((1:Int).toNat * 3))),s.Y,(s.c-(1:Int).toNat),s.d,eY (nthR La) s.i,eX (nthR La) s.i,0,opB k (!decide (s.i%2=1)) (decide (s.j%2=1)),(K++[r]++[⟨s.fy,s.fx,eX (nthR La) s.i⟩])⟩,⟨hst',hX.next hi,hY,q5x _ _ _⟩,by simp only;omega,?_⟩
                first |(refine q0y 7 3 rfl rfl rfl rfl ?_) |(refine q0y 6 3 rfl rfl rfl rfl ?_)
                conv=>whnf
                ((refine q0h ?_);(conv=>whnf);(refine q0k (by rfl) (by rfl) flQ ?_))
                exact q0f (q07 (q1q (q1f _)) rfl (by exact flQ)) (q0f (by exact flQ) (q0f (by exact flQ) (q0e (by rw [hlen];simp) (by rw [hout,q0x (K++[r])];rfl) q0g)))
    · by_cases hj:s.j<2*Lb.length
      · obtain ⟨pb,hYe,pb0,pb1,pbK⟩:=hY.first hj
        have bb:=e_bd vb hj
        have hst:=hs.stepB (q5v k) va vb hj (fun h=>absurd h hi)
        rw [hYe] at hY
        rw [hYe]
        cases hopn:s.opn
        · have hst':=z10 hst (ho.symm.trans hopn)
          (repeat ((try (conv=>whnf));(first |(with_reducible first |refine pbK _ ?_ |refine q0a hen (by kernel_rfl) (hf _ _ _) ?_) |(refine q08 (by exact rfl) ?_) |(refine stQ ?_) |(with_reducible refine q0c tab_ok Try.func65 (fun vs w=>by kernel_rfl) (by rfl) ?_))))
          conv=>whnf
          refine ⟨⟨s.i,s.j+1,s.N,((s.M:Int).toNat-(1:Int).toNat),s.X,(if s.d=(1:Int).toNat then some pb else (some pb).map (·.add ((1:Int).toNat * 3))),s.c,(s.d-(1:Int).toNat),eY (nthR Lb) s.j,eX (nthR Lb) s.j,1,opB k (decide (s.i%2=1)) (!decide (s.j%2=1)),s.out⟩,⟨hst',hX,hY.next hj,q5y _ _ _⟩,by simp only;omega,?_⟩
          ((refine q0h ?_);(conv=>whnf);(refine q0k (by rfl) (by rfl) flQ ?_))
          exact q0f (q1z (q07 (q1q (q1f _)) rfl q1e)) (q0f (by exact flQ) (q0f (by exact flQ) (q0e rfl rfl q0g)))
        · have hst':=q94 hst (ho.symm.trans hopn)
          by_cases hx:eX (nthR Lb) s.j≤s.fx
          · rw [q3y hx] at hst'
            (repeat ((try (conv=>whnf));(first |(with_reducible first |refine pbK _ ?_ |refine q0a hen (by kernel_rfl) (hf _ _ _) ?_) |(refine q08 (by exact rfl) ?_) |(refine stQ ?_) |(with_reducible refine q0c tab_ok Try.func65 (fun vs w=>by kernel_rfl) (by rfl) ?_))))
            conv=>whnf
            refine ⟨⟨s.i,s.j+1,s.N,((s.M:Int).toNat-(1:Int).toNat),s.X,(if s.d=(1:Int).toNat then some pb else (some pb).map (·.add ((1:Int).toNat * 3))),s.c,(s.d-(1:Int).toNat),eY (nthR Lb) s.j,eX (nthR Lb) s.j,1,opB k (decide (s.i%2=1)) (!decide (s.j%2=1)),s.out⟩,⟨hst',hX,hY.next hj,q5y _ _ _⟩,by simp only;omega,?_⟩
            ((refine q0h ?_);(conv=>whnf);(refine q0k (by rfl) (by rfl) flQ ?_))
            exact q0f (q1z (q07 (q1q (q1f _)) rfl q1e)) (q0f (by exact flQ) (q0f (by exact flQ) (q0e rfl rfl q0g)))
          · rcases q2r s.out with hout |⟨K,r,hout⟩
            · have hlen:s.out.length=0:=by rw [hout];rfl
              rw [hout,q2m hx] at hst'
              (repeat ((try (conv=>whnf));(first |(with_reducible first |refine pbK _ ?_ |refine q0a hen (by kernel_rfl) (hf _ _ _) ?_) |(refine q08 (by exact rfl) ?_) |(refine stQ ?_) |(with_reducible refine q0c tab_ok Try.func65 (fun vs w=>by kernel_rfl) (by rfl) ?_))))
              conv=>whnf
              refine ⟨⟨s.i,s.j+1,s.N,((s.M:Int).toNat-(1:Int).toNat),s.X,(if s.d=(1:Int).toNat then some pb else (some pb).map (·.add ((1:Int).toNat * 3))),s.c,(s.d-(1:Int).toNat),eY (nthR Lb) s.j,eX (nthR Lb) s.j,1,opB k (decide (s.i%2=1)) (!decide (s.j%2=1)),[⟨s.fy,s.fx,eX (nthR Lb) s.j⟩]⟩,⟨hst',hX,hY.next hj,q5y _ _ _⟩,by simp only;omega,?_⟩
              first |(refine q0y 7 3 rfl rfl rfl rfl ?_) |(refine q0y 6 3 rfl rfl rfl rfl ?_)
              conv=>whnf
              ((refine q0h ?_);(conv=>whnf);(refine q0k (by rfl) (by rfl) flQ ?_))
              exact q0f (q1z (q07 (q1q (q1f _)) rfl q1e)) (q0f (by exact flQ) (q0f (by exact flQ) (q0e (by simp only [hlen];rfl) (by rw [hout];rfl) q0g)))
            · have hlen:s.out.length=K.length+1:=by rw [hout];simp
              have hix:(((s.out.length:Nat):Int)-1).toNat=K.length:=by omega
              obtain ⟨q0,q1,q2⟩:=q4n K r
              rw [← hout,← hix] at q0 q1 q2
              rw [← Nat.add_zero ((((s.out.length:Nat):Int)-1).toNat * 3)] at q0
              by_cases hj1:r.y=s.fy
              · by_cases hj2:s.fx≤r.x1
                · rw [hout,q1r hx hj1 hj2] at hst'
                  (repeat ((try (conv=>whnf));(first |(refine q0i (.int .i64 r.y) q0 ?_) |(refine q0i (.int .i64 r.x1) q2 ?_) |(with_reducible first |refine pbK _ ?_ |refine q0a hen (by kernel_rfl) (hf _ _ _) ?_) |(refine q08 (by exact rfl) ?_) |(refine stQ ?_) |(with_reducible refine q0c tab_ok Try.func65 (fun vs w=>by kernel_rfl) (by rfl) ?_))))
                  conv=>whnf
                  refine mustP.mk (by rw [hix,q1c,hlen];simp;omega) ?_
                  (repeat ((try (conv=>whnf));(first |(refine q0i (.int .i64 r.y) q0 ?_) |(refine q0i (.int .i64 r.x1) q2 ?_) |(with_reducible first |refine pbK _ ?_ |refine q0a hen (by kernel_rfl) (hf _ _ _) ?_) |(refine q08 (by exact rfl) ?_) |(refine stQ ?_) |(with_reducible refine q0c tab_ok Try.func65 (fun vs w=>by kernel_rfl) (by rfl) ?_))))
                  conv=>whnf
                  refine ⟨⟨s.i,s.j+1,s.N,((s.M:Int).toNat-(1:Int).toNat),s.X,(if s.d=(1:Int).toNat then some pb else (some pb).map (·.add ((1:Int).toNat * 3))),s.c,(s.d-(1:Int).toNat),eY (nthR Lb) s.j,eX (nthR Lb) s.j,1,opB k (decide (s.i%2=1)) (!decide (s.j%2=1)),(K++[⟨s.fy,r.x0,max r.x1 (eX (nthR Lb) s.j)⟩])⟩,⟨hst',hX,hY.next hj,q5y _ _ _⟩,by simp only;omega,?_⟩
                  ((refine q0h ?_);(conv=>whnf);(refine q0k (by rfl) (by rfl) flQ ?_))
                  exact q0f (q1z (q07 (q1q (q1f _)) rfl q1e)) (q0f (by exact flQ) (q0f (by exact flQ) (q0e (by rw [hlen];simp) (by rw [hix,hout,← hj1];exact q53 K r _) q0g)))
                · rw [hout,q1o hx (fun h=>hj2 h.2)] at hst'
                  (repeat ((try (conv=>whnf));(first |(refine q0i (.int .i64 r.y) q0 ?_) |(refine q0i (.int .i64 r.x1) q2 ?_) |(with_reducible first |refine pbK _ ?_ |refine q0a hen (by kernel_rfl) (hf _ _ _) ?_) |(refine q08 (by exact rfl) ?_) |(refine stQ ?_) |(with_reducible refine q0c tab_ok Try.func65 (fun vs w=>by kernel_rfl) (by rfl) ?_))))
                  conv=>whnf
                  refine ⟨⟨s.i,s.j+1,s.N,((s.M:Int).toNat-(1:Int).toNat),s.X,(if s.d=(1:Int).toNat then some pb else (some pb).map (·.add ((1:Int).toNat * 3))),s.c,(s.d-(1:Int).toNat),eY (nthR Lb) s.j,eX (nthR Lb) s.j,1,opB k (decide (s.i%2=1)) (!decide (s.j%2=1)),(K++[r]++[⟨s.fy,s.fx,eX (nthR Lb) s.j⟩])⟩,⟨hst',hX,hY.next hj,q5y _ _ _⟩,by simp only;omega,?_⟩
                  first |(refine q0y 7 3 rfl rfl rfl rfl ?_) |(refine q0y 6 3 rfl rfl rfl rfl ?_)
                  conv=>whnf
                  ((refine q0h ?_);(conv=>whnf);(refine q0k (by rfl) (by rfl) flQ ?_))
                  exact q0f (q1z (q07 (q1q (q1f _)) rfl q1e)) (q0f (by exact flQ) (q0f (by exact flQ) (q0e (by rw [hlen];simp) (by rw [hout,q0x (K++[r])];rfl) q0g)))
              · rw [hout,q1o hx (fun h=>hj1 h.1)] at hst'
                (repeat ((try (conv=>whnf));(first |(refine q0i (.int .i64 r.y) q0 ?_) |(refine q0i (.int .i64 r.x1) q2 ?_) |(with_reducible first |refine pbK _ ?_ |refine q0a hen (by kernel_rfl) (hf _ _ _) ?_) |(refine q08 (by exact rfl) ?_) |(refine stQ ?_) |(with_reducible refine q0c tab_ok Try.func65 (fun vs w=>by kernel_rfl) (by rfl) ?_))))
                conv=>whnf
                refine ⟨⟨s.i,s.j+1,s.N,((s.M:Int).toNat-(1:Int).toNat),s.X,(if s.d=(1:Int).toNat then some pb else (some pb).map (·.add ((1:Int).toNat * 3))),s.c,(s.d-(1:Int).toNat),eY (nthR Lb) s.j,eX (nthR Lb) s.j,1,opB k (decide (s.i%2=1)) (!decide (s.j%2=1)),(K++[r]++[⟨s.fy,s.fx,eX (nthR Lb) s.j⟩])⟩,⟨hst',hX,hY.next hj,q5y _ _ _⟩,by simp only;omega,?_⟩
                first |(refine q0y 7 3 rfl rfl rfl rfl ?_) |(refine q0y 6 3 rfl rfl rfl rfl ?_)
                conv=>whnf
                ((refine q0h ?_);(conv=>whnf);(refine q0k (by rfl) (by rfl) flQ ?_))
                exact q0f (q1z (q07 (q1q (q1f _)) rfl q1e)) (q0f (by exact flQ) (q0f (by exact flQ) (q0e (by rw [hlen];simp) (by rw [hout,q0x (K++[r])];rfl) q0g)))
      · have e1:s.i=2*La.length:=by omega
        have e2:s.j=2*Lb.length:=by omega
        rw [e1,e2] at hs
        obtain ⟨d1,d2⟩:=hs.done (q5v k) va vb
        have hmix:=z9t (c:=k) va vb d1 (fun x y=>by rw [d2,q4a,q4a])
        (repeat ((try (conv=>whnf));(refine stQ ?_)))
        exact .inl ⟨3,rfl,by rw [← hmix];rfl⟩
end Go.Proofs.Ytbkhpddodmbdoaa
