/-
  The reference's FilledRow.
-/
import Derived.Test.YtegpkpilfgohhaaFilRef
import Derived.Test.YtegpkpilfgohhaaMrg15
import Derived.Test.YtegpkpilfgohhaaDown
import Derived.Test.YtegpkpilfgohhaaMrg9
set_option linter.unusedVariables false
set_option linter.unusedSimpArgs false
set_option linter.unnecessarySimpa false
namespace Go.Proofs.Ytegpkpilfgohhaa
open Go.RowKit
set_option maxRecDepth 20000
theorem z5l {a b:Int} {G:Mem} (ha:-4611686018427387904≤a∧a≤4611686018427387904) (hb:1≤b∧b≤4611686018427387904):Gives Try.prog 48 [.val (.int .i64 a),.val (.int .i64 b)] G (.val (.int .i64 (a/b))) :=
  Gives.of_calls (args:=[.int .i64 a,.int .i64 b]) fun w _=>(z8z a b w ha hb).mono fun _ _ h=>⟨h.1,h.2 ▸ Below.refl _ _⟩
section
variable {ax ay bx by_ y:Int}
theorem z9b (ha:okXY ax ay=true) (hb:okXY bx by_=true):q0g y (q3a ax ay bx by_)=if crW ax ay bx by_ y=0 then [] else [⟨-((crD ax ay bx by_ y-crN ax ay bx by_ y)/(2*crD ax ay bx by_ y)),crW ax ay bx by_ y⟩]:=by
  have key:∀ (x0 d dx y0:Int),-(-(2*d*x0+dx*(2*(y-y0)+1)-d)/(2*d))=-((d-(2*x0*d+dx*(2*y+1-2*y0)))/(2*d)):=fun x0 d dx y0=>by
    have e1:2*d*x0=2*x0*d:=by rw [Int.mul_assoc,Int.mul_comm d,← Int.mul_assoc]
    have e2:2*(y-y0)+1=2*y+1-2*y0:=by omega
    rw [e1,e2]
    congr 2;omega
  unfold q3a crW crN crD
  by_cases h:by_<ay
  · simp only [if_pos h]
    by_cases hm:by_≤y∧y<ay
    · simp only [if_pos hm,q0g,q3b,List.append_nil,decide_eq_true_eq,q3k,numE]
      rw [if_neg (by omega),key]
    · simp only [if_neg hm,q0g,q3b,List.append_nil,decide_eq_true_eq];simp
  · simp only [if_neg h]
    by_cases h2:ay<by_
    · simp only [if_pos h2]
      by_cases hm:ay≤y∧y<by_
      · simp only [if_pos hm,q0g,q3b,List.append_nil,decide_eq_true_eq,q3k,numE]
        rw [if_neg (by omega),key]
      · simp only [if_neg hm,q0g,q3b,List.append_nil,decide_eq_true_eq];simp
    · have hm:¬ (ay≤y∧y<by_):=by omega
      simp only [if_neg h2,if_neg hm];simp [q0g]
theorem x0p (ha:okXY ax ay=true) (hb:okXY bx by_=true) (hy:-8192≤y∧y≤8191):-20000000000≤crN ax ay bx by_ y∧crN ax ay bx by_ y≤20000000000:=by
  obtain ⟨a1,a2⟩:=q16 ha
  obtain ⟨b1,b2⟩:=q16 hb
  have e1:=q2i (a:=2*bx) (b:=ay-by_) (A:=65534) (B:=65534) (by omega) (by omega)
  have e2:=q2i (a:=ax-bx) (b:=2*y+1-2*by_) (A:=65534) (B:=131072) (by omega) (by omega)
  have e3:=q2i (a:=2*ax) (b:=by_-ay) (A:=65534) (B:=65534) (by omega) (by omega)
  have e4:=q2i (a:=bx-ax) (b:=2*y+1-2*ay) (A:=65534) (B:=131072) (by omega) (by omega)
  unfold crN
  split <;> split <;> omega
end
theorem x0q {a b:Int} (hb:0<b) (ha:-100000000000≤a∧a≤100000000000):-100000000000≤a/b∧a/b≤100000000000:=by
  constructor
  · rw [Int.le_ediv_iff_mul_le hb]
    have:-100000000000*b≤-100000000000*1:=by
      have:=Int.mul_le_mul_of_nonneg_left (show (1:Int)≤b by omega) (show (0:Int)≤100000000000 by omega)
      omega
    omega
  · have:a/b<100000000001:=by
      rw [Int.ediv_lt_iff_lt_mul hb]
      have:=Int.mul_le_mul_of_nonneg_left (show (1:Int)≤b by omega) (show (0:Int)≤100000000001 by omega)
      omega
    omega
theorem z9c (n:Int):Int.tmod n 2=0↔n%2=0 :=
  ⟨fun h=>Int.emod_eq_zero_of_dvd (Int.dvd_of_tmod_eq_zero h),fun h=>Int.tmod_eq_zero_of_dvd (Int.dvd_of_emod_eq_zero h)⟩
section
variable {G:Mem} {A:Option Addr} {n c:Nat} {L:Nat→LineD} {y:Int} {odd:Bool}
set_option maxHeartbeats 16000000 in
theorem z1j (h:LinesM G A n L) (hn:n≤maxLen) (hb:q1v L n=true) (hcnt:cntN L n≤1000) (hy:-8192≤y∧y≤8191) :
    q6o Try.prog 27 [.val (.slice A n c),.val (.bool odd),.val (.int .i64 y)] G id 60 3 (filR (selB odd) (q0g y (q0p L n)) y).length (q0x (filR (selB odd) (q0g y (q0p L n)) y)):=by
  have hok:=q23 hb
  have hn':n≤9223372036854775807:=by unfold maxLen at hn;omega
  refine q4r tab_ok Try.func27 (.alone fun _=>rfl) ?_
  (repeat ((try (conv=>whnf));(refine stQ ?_)))
  conv=>whnf
  refine q00 tab_ok (fun k=>k≤n) (fun (k:Nat)=>[(20,.val (.int .i64 k)),(7,.own 0)]) (fun k=>[.own 3 1 (q0w (q0g y (q0p L k))).length (ints (q0w (q0g y (q0p L k))))]) (fun k=>n-k) 0 (Nat.zero_le _) ?_ ?_
  · refine q4e 3 1 ?_
    conv=>whnf
    ((refine q0d ?_);(conv=>whnf);(refine q0e (by rfl) (by rfl) flQ ?_))
    exact q0a rfl rfl q0b
  · rintro k hk
    rcases Nat.lt_or_ge k n with h1 |h1
    · obtain ⟨p,rfl,c0⟩:=h.rows.cell (x:=k) (j:=0) h1 rfl
      have hp:=h.pts k h1
      have hcap:=h.cap k h1
      unfold maxLen at hcap
      (repeat ((try (conv=>whnf));(first |(refine q07 _ c0 ?_) |(refine stQ ?_))))
      conv=>whnf
      refine q00 tab_ok (fun i=>i≤(L k).n) (fun (i:Nat)=>[(30,.val (.int .i64 i)),(7,.own 0)]) (fun i=>[.own 3 1 (q0w (q0g y (upE L k i))).length (ints (q0w (q0g y (upE L k i))))]) (fun i=>(L k).n-i) 0 (Nat.zero_le _) ?_ ?_
      · ((refine q0d ?_);(conv=>whnf);(refine q0e (by rfl) (by rfl) flQ ?_))
        exact q0a (by simp [upE,q1e]) (by simp [upE,q1e]) q0b
      · rintro i hi
        rcases Nat.lt_or_ge i (L k).n with h2 |h2
        · obtain ⟨p2,hp2,cb⟩:=hp.cells h2
          obtain ⟨p3,hp3,cc⟩:=hp.cells (q4l h2)
          rw [hp2] at hp3;cases hp3
          have hm:=z07 h2
          have hm':(Int.tmod ((i:Int)+1) ((L k).n:Int)).toNat=nx (L k).n i:=by rw [hm];omega
          have hlt:=q4l h2
          have k1:=hok k h1 i h2
          have k2:=hok k h1 _ hlt
          have hbd:=z74 (L:=L) h1 hi
          have hpl:=(q3m (q0g y (upE L k i))).2.1
          have hcl:=q1c y (upE L k i)
          have hstep:q0g y (upE L k (i+1))=_:=(congrArg (q0g y) (z4u (L:=L) (x:=k) (i:=i))).trans (q2b y _ _)
          rw [z9b k1 k2] at hstep
          have hcb:=z9m (y:=y) k1 k2 hy
          have hnb:=x0p (y:=y) k1 k2 hy
          have hcg:=q79 (G:=G) (y:=y) k1 k2 hy
          rw [← hm'] at cc hstep hcb hcg hnb
          rw [hp2]
          generalize hs':q0g y (upE L k (i+1))=s' at *
          generalize q0g y (upE L k i)=s at *
          generalize crW _ _ _ _ y=wy at *
          generalize crN _ _ _ _ y=nu at *
          generalize crD _ _ _ _ y=de at *
          obtain ⟨c1,c2⟩:=hcb
          have hdg:=z5l (a:=de-nu) (b:=2*de) (G:=G) (by omega) (by omega)
          have hdb:=x0q (a:=de-nu) (b:=2*de) (by omega) (by omega)
          generalize (de-nu)/(2*de)=q at *
          clear hok hp h k1 k2
          by_cases hw:wy=0
          · rw [if_pos hw,List.append_nil] at hstep
            (repeat ((try (conv=>whnf));(first |(refine cb _ ?_) |(refine cc _ ?_) |((with_reducible refine mustP.mk ?_ ?_);(· rw [hm];omega)) |(refine stQ ?_) |(with_reducible first |refine q0f (fun vs w=>by kernel_rfl) (by kernel_rfl) (hcg) ?_ |refine q0h (fun vs w=>by kernel_rfl) (by kernel_rfl) (hcg) ?_))))
            refine ⟨i+1,by omega,by omega,?_⟩
            rw [hs',hstep]
            ((refine q0d ?_);(conv=>whnf);(refine q0e (by rfl) (by rfl) flQ ?_))
            exact q0a rfl rfl q0b
          · rw [if_neg hw] at hstep
            (repeat ((try (conv=>whnf));(first |(refine cb _ ?_) |(refine cc _ ?_) |((with_reducible refine mustP.mk ?_ ?_);(· rw [hm];omega)) |(refine stQ ?_) |(with_reducible first |refine q0f (fun vs w=>by kernel_rfl) (by kernel_rfl) (hcg) ?_ |refine q0h (fun vs w=>by kernel_rfl) (by kernel_rfl) (hcg) ?_ |refine q0f (fun vs w=>by kernel_rfl) (by kernel_rfl) (hdg) ?_ |refine q0h (fun vs w=>by kernel_rfl) (by kernel_rfl) (hdg) ?_))))
            conv=>whnf
            refine q61 (fun vs w=>by kernel_rfl) (by rfl) (by kernel_rfl) (z8e (q0w s) (max (-8192) (min 8192 (0-q))) _ (by omega)) ?_
            have hpn:q0w s'=ins (max (-8192) (min 8192 (0-q))) (q0w s):=by rw [hstep,z8i];unfold q2f;rw [Int.zero_sub]
            (repeat ((try (conv=>whnf));(refine stQ ?_)))
            conv=>whnf
            refine ⟨i+1,by omega,by omega,?_⟩
            rw [hs',hpn]
            refine q1a 1 0 rfl rfl rfl rfl ?_
            conv=>whnf
            ((refine q0d ?_);(conv=>whnf);(refine q0e (by rfl) (by rfl) flQ ?_))
            exact q0a rfl rfl q0b
        · obtain rfl:i=(L k).n:=by omega
          (repeat ((try (conv=>whnf));(refine stQ ?_)))
          refine ⟨k+1,by omega,by omega,?_⟩
          ((refine q0d ?_);(conv=>whnf);(refine q0e (by rfl) (by rfl) flQ ?_))
          exact q0a rfl rfl q0b
    · obtain rfl:k=n:=by omega
      (repeat ((try (conv=>whnf));(refine stQ ?_)))
      conv=>whnf
      have hpl:=(q3m (q0g y (q0p L k))).2.1
      have hsrt:=(q3m (q0g y (q0p L k))).1
      have hcl:=q1c y (q0p L k)
      have hel:=q1x (L:=L) k
      have hrl:=q64 (selB odd) (q0g y (q0p L k)) y (q0w (q0g y (q0p L k)))
      have hsg:=q3u (y:=y) (q5e hok)
      have hrange:∀ j,j<(q0w (q0g y (q0p L k))).length→-8192≤nthI (q0w (q0g y (q0p L k))) j∧nthI (q0w (q0g y (q0p L k))) j≤8192:=fun j hj=>by
        obtain ⟨d,_,e⟩:=((q3m (q0g y (q0p L k))).2.2 _).1 (q6e hj)
        rw [e];unfold q2f;omega
      have hW:=fun x hx=>z18 (G:=G) (c:=c) (x:=x) (y:=y) h hn hb (by omega) hx hy
      simp only [q6r] at hW
      unfold filR
      generalize q0g y (q0p L k)=C at *
      generalize q0w C=xs at *
      refine q00 tab_ok (fun j=>j≤xs.length-1) (fun (j:Nat)=>[(16,.val (.int .i64 j)),(15,.own 1)]) (fun j=>[.own 3 1 xs.length (ints xs),.own 60 3 (rowK (selB odd) C y xs j).length (q0x (rowK (selB odd) C y xs j))]) (fun j=>xs.length-j) 0 (Nat.zero_le _) ?_ ?_
      · refine q4e 60 3 ?_
        conv=>whnf
        ((refine q0d ?_);(conv=>whnf);(refine q0e (by rfl) (by rfl) flQ ?_))
        exact q0a rfl rfl (q0a rfl rfl q0b)
      · rintro j hj
        rcases Nat.lt_or_ge (j+1) xs.length with h2 |h2
        · have hx0:=q4x (show j<xs.length by omega)
          have hx1:=q4x h2
          have hlt:=z17 hsrt (show j<j+1 by omega) h2
          have hr0:=hrange j (by omega)
          have hr1:=hrange (j+1) h2
          have hw:=hW (nthI xs j) (by omega)
          have hrj:=hrl j
          have hnx:rowK (selB odd) C y xs (j+1)=if selB odd (sumC (nthI xs j) C)=true then q27 (rowK (selB odd) C y xs j) y (nthI xs j) (nthI xs (j+1)) else rowK (selB odd) C y xs j:=rfl
          have hsb:=q89 (x:=nthI xs j) hsg
          generalize hr':rowK (selB odd) C y xs (j+1)=r' at *
          generalize rowK (selB odd) C y xs j=r at *
          generalize sumC (nthI xs j) C=z at *
          generalize nthI xs j=x0 at *
          generalize nthI xs (j+1)=x1 at *
          clear hW hrange hsg h hok
          have htm:=z9c z
          unfold selB at hnx
          cases odd
          · by_cases hz:z=0
            · subst hz
              rw [if_neg (by simp)] at hnx
              (repeat ((try (conv=>whnf));(first |(with_reducible refine q0n (.int .i64 x0) (q6d hx0) ?_) |(refine stQ ?_) |(with_reducible first |refine q0f (fun vs w=>by kernel_rfl) (by kernel_rfl) (hw) ?_ |refine q0h (fun vs w=>by kernel_rfl) (by kernel_rfl) (hw) ?_))))
              conv=>whnf
              refine ⟨j+1,by omega,by omega,?_⟩
              rw [hr',hnx]
              ((refine q0d ?_);(conv=>whnf);(refine q0e (by rfl) (by rfl) flQ ?_))
              exact q0a rfl rfl (q0a rfl rfl q0b)
            · rw [if_pos (by simp [hz])] at hnx
              (repeat ((try (conv=>whnf));(first |(with_reducible first |refine q1m tab_ok (by kernel_rfl) 11 [] (by decide +kernel) ?_ |refine q0n (.int .i64 x0) (q6d hx0) ?_ |refine q0n (.int .i64 x1) (z26 hx1) ?_) |(refine stQ ?_) |(with_reducible first |refine q0f (fun vs w=>by kernel_rfl) (by kernel_rfl) (hw) ?_ |refine q0h (fun vs w=>by kernel_rfl) (by kernel_rfl) (hw) ?_ |refine q61 (fun vs w=>by kernel_rfl) (by kernel_rfl) (by kernel_rfl) (q4n r y x0 x1 _ (by omega)) ?_ |refine z4p (by kernel_rfl) (fun vs w=>by kernel_rfl) (by kernel_rfl) (q4n r y x0 x1 _ (by omega)) ?_))))
              conv=>whnf
              refine ⟨j+1,by omega,by omega,?_⟩
              rw [hr',hnx]
              refine q1a 2 1 rfl rfl rfl rfl ?_
              conv=>whnf
              ((refine q0d ?_);(conv=>whnf);(refine q0e (by rfl) (by rfl) flQ ?_))
              exact q0a rfl rfl (q0a rfl rfl q0b)
          · by_cases hz:z%2=0
            · have ht:=htm.2 hz
              rw [if_neg (by simp [hz])] at hnx
              by_cases hz0:z=0
              · subst hz0
                (repeat ((try (conv=>whnf));(first |(with_reducible refine q0n (.int .i64 x0) (q6d hx0) ?_) |(refine stQ ?_) |(with_reducible first |refine q0f (fun vs w=>by kernel_rfl) (by kernel_rfl) (hw) ?_ |refine q0h (fun vs w=>by kernel_rfl) (by kernel_rfl) (hw) ?_))))
                conv=>whnf
                refine ⟨j+1,by omega,by omega,?_⟩
                rw [hr',hnx]
                ((refine q0d ?_);(conv=>whnf);(refine q0e (by rfl) (by rfl) flQ ?_))
                exact q0a rfl rfl (q0a rfl rfl q0b)
              · (repeat ((try (conv=>whnf));(first |(with_reducible refine q0n (.int .i64 x0) (q6d hx0) ?_) |(refine stQ ?_) |(with_reducible first |refine q0f (fun vs w=>by kernel_rfl) (by kernel_rfl) (hw) ?_ |refine q0h (fun vs w=>by kernel_rfl) (by kernel_rfl) (hw) ?_))))
                conv=>whnf
                refine ⟨j+1,by omega,by omega,?_⟩
                rw [hr',hnx]
                ((refine q0d ?_);(conv=>whnf);(refine q0e (by rfl) (by rfl) flQ ?_))
                exact q0a rfl rfl (q0a rfl rfl q0b)
            · have ht:¬ Int.tmod z 2=0:=fun h=>hz (htm.1 h)
              rw [if_pos (by simp [hz])] at hnx
              (repeat ((try (conv=>whnf));(first |(with_reducible first |refine q1m tab_ok (by kernel_rfl) 11 [] (by decide +kernel) ?_ |refine q0n (.int .i64 x0) (q6d hx0) ?_ |refine q0n (.int .i64 x1) (z26 hx1) ?_) |(refine stQ ?_) |(with_reducible first |refine q0f (fun vs w=>by kernel_rfl) (by kernel_rfl) (hw) ?_ |refine q0h (fun vs w=>by kernel_rfl) (by kernel_rfl) (hw) ?_ |refine q61 (fun vs w=>by kernel_rfl) (by kernel_rfl) (by kernel_rfl) (q4n r y x0 x1 _ (by omega)) ?_ |refine z4p (by kernel_rfl) (fun vs w=>by kernel_rfl) (by kernel_rfl) (q4n r y x0 x1 _ (by omega)) ?_))))
              conv=>whnf
              refine ⟨j+1,by omega,by omega,?_⟩
              rw [hr',hnx]
              refine q1a 2 1 rfl rfl rfl rfl ?_
              conv=>whnf
              ((refine q0d ?_);(conv=>whnf);(refine q0e (by rfl) (by rfl) flQ ?_))
              exact q0a rfl rfl (q0a rfl rfl q0b)
        · obtain rfl:j=xs.length-1:=by omega
          (repeat ((try (conv=>whnf));(refine stQ ?_)))
          exact .inl ⟨1,rfl,rfl⟩
end
end Go.Proofs.Ytegpkpilfgohhaa
