/-
  FlatInkRegions: the law's walk.
-/
import Derived.Test.YtkicdhaklnmonaaGreatMrg34
import Derived.Test.YtkicdhaklnmonaaGreatMrg16
import Derived.Test.YtkicdhaklnmonaaGreatMrg13
import Derived.Test.YtkicdhaklnmonaaGreatMrg17
set_option linter.unusedVariables false
set_option linter.unusedSimpArgs false
set_option linter.unnecessarySimpa false
namespace Go.Proofs.YtkicdhaklnmonaaGreat.flatInkRegions
open Go.RowKit
set_option maxRecDepth 20000
theorem less {w h:Int} {n i:Nat} {p:Nat→PcD} (ok:PcsOk w h n p) (hi:i≤n):PcsOk w h i p:=⟨ok.wd,ok.ht,Nat.le_trans hi ok.few,fun j hj=>ok.one j (by omega),fun j hj=>ok.two j (by omega)⟩
theorem step {w h:Int} {n i:Nat} {p:Nat→PcD} {sel:(Nat→Int)→Bool} (ok:PcsOk w h n p) (hi:i<n) (hs:sel (p i).I=true):mixR 0 (q0z p sel i) (p i).L=q0z p sel (i+1):=by
  have o1:=less ok (Nat.le_of_lt hi)
  have o2:=less ok (show i+1≤n by omega)
  have vb:ValidL (p i).L:=q3a (ok.one i hi).1
  have m:=q7j (c:=0) (o1.some_valid (sel:=sel)).1 vb
  refine z0l m.1 (o2.some_ok (sel:=sel)).1 fun x y=>?_
  rw [m.2,o2.some_ok.2]
  have e:∀ p q:Bool,opB 0 p q=(p||q):=fun p q=>rfl
  rw [e,Bool.or_eq_true,hasL_iff,hasL_iff,o1.some_ok.2]
  constructor
  · rintro (⟨k,h1,h2⟩ |h)
    · exact ⟨k,by omega,h2⟩
    · exact ⟨i,by omega,hs,h⟩
  · rintro ⟨k,h1,h2,h3⟩
    by_cases hk:k=i
    · subst hk;exact .inr h3
    · exact .inl ⟨k,by omega,h2,h3⟩
theorem stay {i:Nat} {p:Nat→PcD} {sel:(Nat→Int)→Bool} (hs:sel (p i).I=false):q0z p sel (i+1)=q0z p sel i:=by unfold q0z;rw [z3m hs]
theorem none_ {p:Nat→PcD} {sel:(Nat→Int)→Bool}:q0z p sel 0=[]:=by
  have:q8o ([]:List Run)=[]:=z4i (M:=[]) (by simp [okR]) fun u v=>Iff.rfl
  exact this
structure ASt where
  i:Nat
  A:Option Addr
  a:Nat
  k:Nat
  B:Option Addr
  b:Nat
  l:Nat
  M:Mem
theorem z1p {G:Mem} {A:Option Addr} {n i kn:Nat} {p:Nat→PcD} (h:PcsM G A n p) (hi:i<n) (hk:kn<8):∃ a:Addr,A=some a∧G.cell? (Addr.add (Addr.add (a.add (i*9)) 1) (kn*1))=some (.int .u8 ((p i).I kn)):=by
  obtain ⟨a,rfl,e⟩:=h.rows.cell (x:=i) (j:=1+kn) (v:=.int .u8 ((p i).I kn)) hi (by rcases lt8 hk with rfl |rfl |rfl |rfl |rfl |rfl |rfl |rfl <;> rfl)
  refine ⟨a,rfl,?_⟩
  rw [Nat.mul_one,show Addr.add (Addr.add (a.add (i*9)) 1) kn=Addr.add (a.add (i*9)) (1+kn) by simp [Addr.add,Nat.add_assoc]]
  exact e
set_option maxHeartbeats 8000000 in
theorem body {A:Option Addr} {n c:Nat} {p:Nat→PcD} {w h key least:Int} {G:Mem} (hp:PcsM G A n p) (hn:n≤c) (hc:c≤maxLen) :
    q39 Tryz.prog tab 0 Tryz.f3 [.val (.int .i64 w),.val (.int .i64 h),.val (.slice A n c),.val (.int .i64 key),.val (.int .i64 least)] [] G fun v _ _=>v=.val (.bool true):=by
  by_cases h12:n≤12
  · have hnm:n≤maxLen:=Nat.le_trans hn hc
    (repeat ((try (conv=>whnf));(first |(refine stQ ?_) |(with_reducible first |refine q0e (fun vs w=>by kernel_rfl) (by kernel_rfl) (q7y _) ?_ |refine q0g (fun vs w=>by kernel_rfl) (by kernel_rfl) (q7y _) ?_))))
    conv=>whnf
    by_cases h0:pcsE w h n p=0
    · have ok:=z1i h0
      have hfew:=ok.few
      have m1:=q8e (c:=c) ok h0 hp
      refine q1p (fun vs w=>by kernel_rfl) (q3w 0) (by kernel_rfl) m1 fun A1 c1 G1 hG1 hc1 hm1 hx1=>?_
      have hR1:=RunsM.frozen hx1
      have hp1:=hp.mono hG1
      by_cases hin:(0≤key∧key≤7)∧1≤least∧least≤255
      · obtain ⟨kn,rfl⟩:∃ k:Nat,key=k:=⟨key.toNat,by omega⟩
        have hkn:kn<8:=by omega
        have m2:=z8g (c:=c) (key:=kn) (least:=least) ok h0 hp1 hkn hin.2
        (repeat ((try (conv=>whnf));(refine stQ ?_)))
        conv=>whnf
        refine q1p (fun vs w=>by kernel_rfl) (q3w 0) (by kernel_rfl) m2 fun A2 c2 G2 hG2 hc2 hm2 hx2=>?_
        have hR2:=RunsM.frozen hx2
        have hp2:=hp1.mono hG2
        have m3:=q36 (w:=w) (h:=h) (c:=c) hp2 hnm
        rw [h0] at m3
        have ik:=q2z (kn:Int) 0 7 G2 true ⟨fun _=>hin.1,fun _=>rfl⟩
        have il:=q2z least 1 255 G2 true ⟨fun _=>hin.2,fun _=>rfl⟩
        (repeat ((try (conv=>whnf));(first |(refine q0e (fun vs w=>by kernel_rfl) (by kernel_rfl) m3 ?_) |(refine stQ ?_) |(with_reducible first |refine q0e (fun vs w=>by kernel_rfl) (by kernel_rfl) (ik) ?_ |refine q0g (fun vs w=>by kernel_rfl) (by kernel_rfl) (ik) ?_ |refine q0e (fun vs w=>by kernel_rfl) (by kernel_rfl) (il) ?_ |refine q0g (fun vs w=>by kernel_rfl) (by kernel_rfl) (il) ?_))))
        conv=>whnf
        refine q3u tab_ok (ι:=ASt) (fun s=>s.i≤n∧G2.le s.M∧s.k=(q0z p (fun _=>true) s.i).length∧RunsM s.M s.A (q0z p (fun _=>true) s.i)∧s.l=(q0z p (fun I=>decide (least≤I kn)) s.i).length∧RunsM s.M s.B (q0z p (fun I=>decide (least≤I kn)) s.i)) (fun s=>[(73,.val (.int .i64 s.i)),(16,.val (.slice s.A s.k s.a)),(17,.val (.slice s.B s.l s.b))]) (fun s=>[]) (fun s=>s.M) (fun s=>n-s.i) ⟨0,none,0,0,none,0,0,G2⟩ ⟨Nat.zero_le _,Mem.le_refl _,by rw [none_];rfl,by rw [none_];intro j r hj;simp at hj,by rw [none_];rfl,by rw [none_];intro j r hj;simp at hj⟩ ?_ ?_
        · ((refine q0f ?_);(conv=>whnf);(refine q0j (by rfl) (by rfl) flQ ?_))
          exact q0d
        · rintro ⟨x,A3,c3,l3,B3,d3,e3,M⟩ ⟨hx,hM,hl3,hRa,hl4,hRb⟩
          dsimp only at hx hM hl3 hRa hl4 hRb ⊢
          subst hl3 hl4
          rcases Nat.lt_or_ge x n with h1 |h1
          · have hp3:=hp2.mono hM
            have o1:=less ok (Nat.le_of_lt h1)
            have vb:ValidL (p x).L:=q3a (ok.one x h1).1
            have mc:=q2c A3 (p x).A (q0z p (fun _=>true) x) (p x).L c3 (p x).q 0 M hRa (hp3.runs x h1) o1.some_valid.1 vb
            rw [step ok h1 rfl] at mc
            obtain ⟨a,ha,ch⟩:=hp3.head h1
            subst ha
            obtain ⟨a',ha',ci⟩:=z1p hp3 h1 hkn
            cases ha'
            have hby:=hp3.ink x h1 kn
            (repeat ((try (conv=>whnf));(first |(refine q0b _ ch ?_) |(refine stQ ?_))))
            conv=>whnf
            refine q1p (fun vs w=>by kernel_rfl) (.alone fun _=>rfl) (by kernel_rfl) mc fun A5 c5 M5 hM5 hc5 hm5 hx5=>?_
            have hR5:=RunsM.frozen hx5
            have hp5:=hp3.mono hM5
            obtain ⟨a',ha',ci5⟩:=z1p hp5 h1 hkn
            cases ha'
            obtain ⟨a',ha',ch5⟩:=hp5.head h1
            cases ha'
            by_cases hs:least≤(p x).I kn
            · have mb:=q2c B3 (p x).A (q0z p (fun I=>decide (least≤I kn)) x) (p x).L d3 (p x).q 0 M5 (hRb.mono hM5) (hp5.runs x h1) o1.some_valid.1 vb
              rw [step ok h1 (decide_eq_true hs)] at mb
              generalize (p x).I kn=I0 at *
              (repeat ((try (conv=>whnf));(first |(refine q0b _ ci5 ?_) |(refine q0b _ ch5 ?_) |(refine stQ ?_))))
              conv=>whnf
              refine q1p (fun vs w=>by kernel_rfl) (.alone fun _=>rfl) (by kernel_rfl) mb fun A6 c6 M6 hM6 hc6 hm6 hx6=>?_
              have hR6:=RunsM.frozen hx6
              (repeat ((try (conv=>whnf));(refine stQ ?_)))
              conv=>whnf
              refine ⟨⟨x+1,A5,c5,(q0z p (fun _=>true) (x+1)).length,A6,c6,(q0z p (fun I=>decide (least≤I kn)) (x+1)).length,M6⟩,⟨h1,Mem.le_trans hM (Mem.le_trans hM5 hM6),rfl,hR5.mono hM6,rfl,hR6⟩,by dsimp only;omega,?_⟩
              dsimp only
              ((refine q0f ?_);(conv=>whnf);(refine q0j (by rfl) (by rfl) flQ ?_))
              exact q0d
            · have hst:q0z p (fun I=>decide (least≤I kn)) (x+1)=q0z p (fun I=>decide (least≤I kn)) x:=stay (decide_eq_false hs)
              generalize (p x).I kn=I0 at *
              (repeat ((try (conv=>whnf));(first |(refine q0b _ ci5 ?_) |(refine q0b _ ch5 ?_) |(refine stQ ?_))))
              conv=>whnf
              refine ⟨⟨x+1,A5,c5,(q0z p (fun _=>true) (x+1)).length,B3,d3,(q0z p (fun I=>decide (least≤I kn)) (x+1)).length,M5⟩,⟨h1,Mem.le_trans hM hM5,rfl,hR5,rfl,by rw [hst];exact hRb.mono hM5⟩,by dsimp only;omega,?_⟩
              dsimp only
              rw [hst]
              ((refine q0f ?_);(conv=>whnf);(refine q0j (by rfl) (by rfl) flQ ?_))
              exact q0d
          · obtain rfl:x=n:=by omega
            have hv1:=(ok.some_valid (sel:=(fun _=>true))).2
            have s1:=q2s A1 A3 (q0z p (fun _=>true) x) c1 c3 M (hR1.mono (Mem.le_trans hG2 hM)) hRa (by omega)
            have hv2:=(ok.some_valid (sel:=(fun I=>decide (least≤I kn)))).2
            have s2:=q2s A2 B3 (q0z p (fun I=>decide (least≤I kn)) x) c2 d3 M (hR2.mono hM) hRb (by omega)
            (repeat ((try (conv=>whnf));(first |(refine stQ ?_) |(with_reducible first |refine q0e (fun vs w=>by kernel_rfl) (by kernel_rfl) (s1) ?_ |refine q0g (fun vs w=>by kernel_rfl) (by kernel_rfl) (s1) ?_ |refine q0e (fun vs w=>by kernel_rfl) (by kernel_rfl) (s2) ?_ |refine q0g (fun vs w=>by kernel_rfl) (by kernel_rfl) (s2) ?_))))
            conv=>whnf
            try simp
      · have m2:=x1a (c:=c) (key:=key) (least:=least) hp1 hnm h0 hin
        have m3:=q36 (w:=w) (h:=h) (c:=c) hp1 hnm
        rw [h0] at m3
        (repeat ((try (conv=>whnf));(first |(refine q0e (fun vs w=>by kernel_rfl) (by kernel_rfl) m2 ?_) |(refine q0e (fun vs w=>by kernel_rfl) (by kernel_rfl) m3 ?_) |(refine stQ ?_))))
        conv=>whnf
        by_cases hk7:0≤key∧key≤7
        · have ik:=q2z key 0 7 G1 true ⟨fun _=>hk7,fun _=>rfl⟩
          have il:=q2z least 1 255 G1 false ⟨(fun h=>by cases h),fun h=>absurd ⟨hk7,h⟩ hin⟩
          (repeat ((try (conv=>whnf));(first |(refine stQ ?_) |(with_reducible first |refine q0e (fun vs w=>by kernel_rfl) (by kernel_rfl) (ik) ?_ |refine q0g (fun vs w=>by kernel_rfl) (by kernel_rfl) (ik) ?_ |refine q0e (fun vs w=>by kernel_rfl) (by kernel_rfl) (il) ?_ |refine q0g (fun vs w=>by kernel_rfl) (by kernel_rfl) (il) ?_))))
          conv=>whnf
          refine q3u tab_ok (ι:=ASt) (fun s=>s.i≤n∧G1.le s.M∧s.k=(q0z p (fun _=>true) s.i).length∧RunsM s.M s.A (q0z p (fun _=>true) s.i)∧s.l=0∧s.b=0∧s.B=none) (fun s=>[(73,.val (.int .i64 s.i)),(16,.val (.slice s.A s.k s.a)),(17,.val (.slice s.B s.l s.b))]) (fun s=>[]) (fun s=>s.M) (fun s=>n-s.i) ⟨0,none,0,0,none,0,0,G1⟩ ⟨Nat.zero_le _,Mem.le_refl _,by rw [none_];rfl,by rw [none_];intro j r hj;simp at hj,rfl,rfl,rfl⟩ ?_ ?_
          · ((refine q0f ?_);(conv=>whnf);(refine q0j (by rfl) (by rfl) flQ ?_))
            exact q0d
          · rintro ⟨x,A3,c3,l3,B3,d3,e3,M⟩ ⟨hx,hM,hl3,hRa,hl4,hd4,hB4⟩
            dsimp only at hx hM hl3 hRa hl4 hd4 hB4 ⊢
            subst hl3 hl4 hd4 hB4
            rcases Nat.lt_or_ge x n with h1 |h1
            · have hp3:=hp1.mono hM
              have o1:=less ok (Nat.le_of_lt h1)
              have vb:ValidL (p x).L:=q3a (ok.one x h1).1
              have mc:=q2c A3 (p x).A (q0z p (fun _=>true) x) (p x).L c3 (p x).q 0 M hRa (hp3.runs x h1) o1.some_valid.1 vb
              rw [step ok h1 rfl] at mc
              obtain ⟨a,ha,ch⟩:=hp3.head h1
              subst ha
              (repeat ((try (conv=>whnf));(first |(refine q0b _ ch ?_) |(refine stQ ?_))))
              conv=>whnf
              refine q1p (fun vs w=>by kernel_rfl) (.alone fun _=>rfl) (by kernel_rfl) mc fun A5 c5 M5 hM5 hc5 hm5 hx5=>?_
              have hR5:=RunsM.frozen hx5
              (repeat ((try (conv=>whnf));(refine stQ ?_)))
              conv=>whnf
              refine ⟨⟨x+1,A5,c5,(q0z p (fun _=>true) (x+1)).length,none,0,0,M5⟩,⟨h1,Mem.le_trans hM hM5,rfl,hR5,rfl,rfl,rfl⟩,by dsimp only;omega,?_⟩
              dsimp only
              ((refine q0f ?_);(conv=>whnf);(refine q0j (by rfl) (by rfl) flQ ?_))
              exact q0d
            · obtain rfl:x=n:=by omega
              have hv1:=(ok.some_valid (sel:=(fun _=>true))).2
              have s1:=q2s A1 A3 (q0z p (fun _=>true) x) c1 c3 M (hR1.mono hM) hRa (by omega)
              (repeat ((try (conv=>whnf));(first |(refine stQ ?_) |(with_reducible first |refine q0e (fun vs w=>by kernel_rfl) (by kernel_rfl) (s1) ?_ |refine q0g (fun vs w=>by kernel_rfl) (by kernel_rfl) (s1) ?_))))
              conv=>whnf
              try simp
        · have ik:=q2z key 0 7 G1 false ⟨(fun h=>by cases h),fun h=>absurd h hk7⟩
          (repeat ((try (conv=>whnf));(first |(refine stQ ?_) |(with_reducible first |refine q0e (fun vs w=>by kernel_rfl) (by kernel_rfl) (ik) ?_ |refine q0g (fun vs w=>by kernel_rfl) (by kernel_rfl) (ik) ?_))))
          conv=>whnf
          refine q3u tab_ok (ι:=ASt) (fun s=>s.i≤n∧G1.le s.M∧s.k=(q0z p (fun _=>true) s.i).length∧RunsM s.M s.A (q0z p (fun _=>true) s.i)∧s.l=0∧s.b=0∧s.B=none) (fun s=>[(73,.val (.int .i64 s.i)),(16,.val (.slice s.A s.k s.a)),(17,.val (.slice s.B s.l s.b))]) (fun s=>[]) (fun s=>s.M) (fun s=>n-s.i) ⟨0,none,0,0,none,0,0,G1⟩ ⟨Nat.zero_le _,Mem.le_refl _,by rw [none_];rfl,by rw [none_];intro j r hj;simp at hj,rfl,rfl,rfl⟩ ?_ ?_
          · ((refine q0f ?_);(conv=>whnf);(refine q0j (by rfl) (by rfl) flQ ?_))
            exact q0d
          · rintro ⟨x,A3,c3,l3,B3,d3,e3,M⟩ ⟨hx,hM,hl3,hRa,hl4,hd4,hB4⟩
            dsimp only at hx hM hl3 hRa hl4 hd4 hB4 ⊢
            subst hl3 hl4 hd4 hB4
            rcases Nat.lt_or_ge x n with h1 |h1
            · have hp3:=hp1.mono hM
              have o1:=less ok (Nat.le_of_lt h1)
              have vb:ValidL (p x).L:=q3a (ok.one x h1).1
              have mc:=q2c A3 (p x).A (q0z p (fun _=>true) x) (p x).L c3 (p x).q 0 M hRa (hp3.runs x h1) o1.some_valid.1 vb
              rw [step ok h1 rfl] at mc
              obtain ⟨a,ha,ch⟩:=hp3.head h1
              subst ha
              (repeat ((try (conv=>whnf));(first |(refine q0b _ ch ?_) |(refine stQ ?_))))
              conv=>whnf
              refine q1p (fun vs w=>by kernel_rfl) (.alone fun _=>rfl) (by kernel_rfl) mc fun A5 c5 M5 hM5 hc5 hm5 hx5=>?_
              have hR5:=RunsM.frozen hx5
              (repeat ((try (conv=>whnf));(refine stQ ?_)))
              conv=>whnf
              refine ⟨⟨x+1,A5,c5,(q0z p (fun _=>true) (x+1)).length,none,0,0,M5⟩,⟨h1,Mem.le_trans hM hM5,rfl,hR5,rfl,rfl,rfl⟩,by dsimp only;omega,?_⟩
              dsimp only
              ((refine q0f ?_);(conv=>whnf);(refine q0j (by rfl) (by rfl) flQ ?_))
              exact q0d
            · obtain rfl:x=n:=by omega
              have hv1:=(ok.some_valid (sel:=(fun _=>true))).2
              have s1:=q2s A1 A3 (q0z p (fun _=>true) x) c1 c3 M (hR1.mono hM) hRa (by omega)
              (repeat ((try (conv=>whnf));(first |(refine stQ ?_) |(with_reducible first |refine q0e (fun vs w=>by kernel_rfl) (by kernel_rfl) (s1) ?_ |refine q0g (fun vs w=>by kernel_rfl) (by kernel_rfl) (s1) ?_))))
              conv=>whnf
              try simp
    · have m1:=z37 (c:=c) hp hnm h0
      have m2:=x09 (c:=c) (key:=key) (least:=least) hp hnm h0
      have m3:=q36 (w:=w) (h:=h) (c:=c) hp hnm
      generalize pcsE w h n p=e at *
      (repeat ((try (conv=>whnf));(first |(refine q0e (fun vs w=>by kernel_rfl) (by kernel_rfl) m1 ?_) |(refine q0e (fun vs w=>by kernel_rfl) (by kernel_rfl) m2 ?_) |(refine q0e (fun vs w=>by kernel_rfl) (by kernel_rfl) m3 ?_) |(refine stQ ?_))))
      conv=>whnf
      try simp
  · have hnm:12≤maxLen:=by unfold maxLen;omega
    have hc2:=hc
    unfold maxLen at hc2
    (repeat ((try (conv=>whnf));(first |(refine stQ ?_) |(with_reducible first |refine q0e (fun vs w=>by kernel_rfl) (by kernel_rfl) (q7y _) ?_ |refine q0g (fun vs w=>by kernel_rfl) (by kernel_rfl) (q7y _) ?_))))
    conv=>whnf
    generalize hA2:(if c=((0:Nat):Int).toNat then A else _)=A2
    obtain rfl:A2=A:=by
      rw [← hA2,if_neg (show ¬ c=((0:Nat):Int).toNat from fun h=>by have h':c=0:=h;omega)]
      cases A with
      | none=>rfl
      | some a=>simp [Addr.add]
    replace hp:=hp.less (show 12≤n by omega)
    clear hA2
    by_cases h0:pcsE w h 12 p=0
    · have ok:=z1i h0
      have hfew:=ok.few
      have m1:=q8e (c:=c) ok h0 hp
      refine q1p (fun vs w=>by kernel_rfl) (q3w 0) (by kernel_rfl) m1 fun A1 c1 G1 hG1 hc1 hm1 hx1=>?_
      have hR1:=RunsM.frozen hx1
      have hp1:=hp.mono hG1
      by_cases hin:(0≤key∧key≤7)∧1≤least∧least≤255
      · obtain ⟨kn,rfl⟩:∃ k:Nat,key=k:=⟨key.toNat,by omega⟩
        have hkn:kn<8:=by omega
        have m2:=z8g (c:=c) (key:=kn) (least:=least) ok h0 hp1 hkn hin.2
        (repeat ((try (conv=>whnf));(refine stQ ?_)))
        conv=>whnf
        refine q1p (fun vs w=>by kernel_rfl) (q3w 0) (by kernel_rfl) m2 fun A2 c2 G2 hG2 hc2 hm2 hx2=>?_
        have hR2:=RunsM.frozen hx2
        have hp2:=hp1.mono hG2
        have m3:=q36 (w:=w) (h:=h) (c:=c) hp2 hnm
        rw [h0] at m3
        have ik:=q2z (kn:Int) 0 7 G2 true ⟨fun _=>hin.1,fun _=>rfl⟩
        have il:=q2z least 1 255 G2 true ⟨fun _=>hin.2,fun _=>rfl⟩
        (repeat ((try (conv=>whnf));(first |(refine q0e (fun vs w=>by kernel_rfl) (by kernel_rfl) m3 ?_) |(refine stQ ?_) |(with_reducible first |refine q0e (fun vs w=>by kernel_rfl) (by kernel_rfl) (ik) ?_ |refine q0g (fun vs w=>by kernel_rfl) (by kernel_rfl) (ik) ?_ |refine q0e (fun vs w=>by kernel_rfl) (by kernel_rfl) (il) ?_ |refine q0g (fun vs w=>by kernel_rfl) (by kernel_rfl) (il) ?_))))
        conv=>whnf
        refine q3u tab_ok (ι:=ASt) (fun s=>s.i≤12∧G2.le s.M∧s.k=(q0z p (fun _=>true) s.i).length∧RunsM s.M s.A (q0z p (fun _=>true) s.i)∧s.l=(q0z p (fun I=>decide (least≤I kn)) s.i).length∧RunsM s.M s.B (q0z p (fun I=>decide (least≤I kn)) s.i)) (fun s=>[(73,.val (.int .i64 s.i)),(16,.val (.slice s.A s.k s.a)),(17,.val (.slice s.B s.l s.b))]) (fun s=>[]) (fun s=>s.M) (fun s=>12-s.i) ⟨0,none,0,0,none,0,0,G2⟩ ⟨Nat.zero_le _,Mem.le_refl _,by rw [none_];rfl,by rw [none_];intro j r hj;simp at hj,by rw [none_];rfl,by rw [none_];intro j r hj;simp at hj⟩ ?_ ?_
        · ((refine q0f ?_);(conv=>whnf);(refine q0j (by rfl) (by rfl) flQ ?_))
          exact q0d
        · rintro ⟨x,A3,c3,l3,B3,d3,e3,M⟩ ⟨hx,hM,hl3,hRa,hl4,hRb⟩
          dsimp only at hx hM hl3 hRa hl4 hRb ⊢
          subst hl3 hl4
          rcases Nat.lt_or_ge x 12 with h1 |h1
          · have hp3:=hp2.mono hM
            have o1:=less ok (Nat.le_of_lt h1)
            have vb:ValidL (p x).L:=q3a (ok.one x h1).1
            have mc:=q2c A3 (p x).A (q0z p (fun _=>true) x) (p x).L c3 (p x).q 0 M hRa (hp3.runs x h1) o1.some_valid.1 vb
            rw [step ok h1 rfl] at mc
            obtain ⟨a,ha,ch⟩:=hp3.head h1
            subst ha
            obtain ⟨a',ha',ci⟩:=z1p hp3 h1 hkn
            cases ha'
            have hby:=hp3.ink x h1 kn
            (repeat ((try (conv=>whnf));(first |(refine q0b _ ch ?_) |(refine stQ ?_))))
            conv=>whnf
            refine q1p (fun vs w=>by kernel_rfl) (.alone fun _=>rfl) (by kernel_rfl) mc fun A5 c5 M5 hM5 hc5 hm5 hx5=>?_
            have hR5:=RunsM.frozen hx5
            have hp5:=hp3.mono hM5
            obtain ⟨a',ha',ci5⟩:=z1p hp5 h1 hkn
            cases ha'
            obtain ⟨a',ha',ch5⟩:=hp5.head h1
            cases ha'
            by_cases hs:least≤(p x).I kn
            · have mb:=q2c B3 (p x).A (q0z p (fun I=>decide (least≤I kn)) x) (p x).L d3 (p x).q 0 M5 (hRb.mono hM5) (hp5.runs x h1) o1.some_valid.1 vb
              rw [step ok h1 (decide_eq_true hs)] at mb
              generalize (p x).I kn=I0 at *
              (repeat ((try (conv=>whnf));(first |(refine q0b _ ci5 ?_) |(refine q0b _ ch5 ?_) |(refine stQ ?_))))
              conv=>whnf
              refine q1p (fun vs w=>by kernel_rfl) (.alone fun _=>rfl) (by kernel_rfl) mb fun A6 c6 M6 hM6 hc6 hm6 hx6=>?_
              have hR6:=RunsM.frozen hx6
              (repeat ((try (conv=>whnf));(refine stQ ?_)))
              conv=>whnf
              refine ⟨⟨x+1,A5,c5,(q0z p (fun _=>true) (x+1)).length,A6,c6,(q0z p (fun I=>decide (least≤I kn)) (x+1)).length,M6⟩,⟨h1,Mem.le_trans hM (Mem.le_trans hM5 hM6),rfl,hR5.mono hM6,rfl,hR6⟩,by dsimp only;omega,?_⟩
              dsimp only
              ((refine q0f ?_);(conv=>whnf);(refine q0j (by rfl) (by rfl) flQ ?_))
              exact q0d
            · have hst:q0z p (fun I=>decide (least≤I kn)) (x+1)=q0z p (fun I=>decide (least≤I kn)) x:=stay (decide_eq_false hs)
              generalize (p x).I kn=I0 at *
              (repeat ((try (conv=>whnf));(first |(refine q0b _ ci5 ?_) |(refine q0b _ ch5 ?_) |(refine stQ ?_))))
              conv=>whnf
              refine ⟨⟨x+1,A5,c5,(q0z p (fun _=>true) (x+1)).length,B3,d3,(q0z p (fun I=>decide (least≤I kn)) (x+1)).length,M5⟩,⟨h1,Mem.le_trans hM hM5,rfl,hR5,rfl,by rw [hst];exact hRb.mono hM5⟩,by dsimp only;omega,?_⟩
              dsimp only
              rw [hst]
              ((refine q0f ?_);(conv=>whnf);(refine q0j (by rfl) (by rfl) flQ ?_))
              exact q0d
          · obtain rfl:x=12:=by omega
            have hv1:=(ok.some_valid (sel:=(fun _=>true))).2
            have s1:=q2s A1 A3 (q0z p (fun _=>true) 12) c1 c3 M (hR1.mono (Mem.le_trans hG2 hM)) hRa (by omega)
            have hv2:=(ok.some_valid (sel:=(fun I=>decide (least≤I kn)))).2
            have s2:=q2s A2 B3 (q0z p (fun I=>decide (least≤I kn)) 12) c2 d3 M (hR2.mono hM) hRb (by omega)
            (repeat ((try (conv=>whnf));(first |(refine stQ ?_) |(with_reducible first |refine q0e (fun vs w=>by kernel_rfl) (by kernel_rfl) (s1) ?_ |refine q0g (fun vs w=>by kernel_rfl) (by kernel_rfl) (s1) ?_ |refine q0e (fun vs w=>by kernel_rfl) (by kernel_rfl) (s2) ?_ |refine q0g (fun vs w=>by kernel_rfl) (by kernel_rfl) (s2) ?_))))
            conv=>whnf
            try simp
      · have m2:=x1a (c:=c) (key:=key) (least:=least) hp1 hnm h0 hin
        have m3:=q36 (w:=w) (h:=h) (c:=c) hp1 hnm
        rw [h0] at m3
        (repeat ((try (conv=>whnf));(first |(refine q0e (fun vs w=>by kernel_rfl) (by kernel_rfl) m2 ?_) |(refine q0e (fun vs w=>by kernel_rfl) (by kernel_rfl) m3 ?_) |(refine stQ ?_))))
        conv=>whnf
        by_cases hk7:0≤key∧key≤7
        · have ik:=q2z key 0 7 G1 true ⟨fun _=>hk7,fun _=>rfl⟩
          have il:=q2z least 1 255 G1 false ⟨(fun h=>by cases h),fun h=>absurd ⟨hk7,h⟩ hin⟩
          (repeat ((try (conv=>whnf));(first |(refine stQ ?_) |(with_reducible first |refine q0e (fun vs w=>by kernel_rfl) (by kernel_rfl) (ik) ?_ |refine q0g (fun vs w=>by kernel_rfl) (by kernel_rfl) (ik) ?_ |refine q0e (fun vs w=>by kernel_rfl) (by kernel_rfl) (il) ?_ |refine q0g (fun vs w=>by kernel_rfl) (by kernel_rfl) (il) ?_))))
          conv=>whnf
          refine q3u tab_ok (ι:=ASt) (fun s=>s.i≤12∧G1.le s.M∧s.k=(q0z p (fun _=>true) s.i).length∧RunsM s.M s.A (q0z p (fun _=>true) s.i)∧s.l=0∧s.b=0∧s.B=none) (fun s=>[(73,.val (.int .i64 s.i)),(16,.val (.slice s.A s.k s.a)),(17,.val (.slice s.B s.l s.b))]) (fun s=>[]) (fun s=>s.M) (fun s=>12-s.i) ⟨0,none,0,0,none,0,0,G1⟩ ⟨Nat.zero_le _,Mem.le_refl _,by rw [none_];rfl,by rw [none_];intro j r hj;simp at hj,rfl,rfl,rfl⟩ ?_ ?_
          · ((refine q0f ?_);(conv=>whnf);(refine q0j (by rfl) (by rfl) flQ ?_))
            exact q0d
          · rintro ⟨x,A3,c3,l3,B3,d3,e3,M⟩ ⟨hx,hM,hl3,hRa,hl4,hd4,hB4⟩
            dsimp only at hx hM hl3 hRa hl4 hd4 hB4 ⊢
            subst hl3 hl4 hd4 hB4
            rcases Nat.lt_or_ge x 12 with h1 |h1
            · have hp3:=hp1.mono hM
              have o1:=less ok (Nat.le_of_lt h1)
              have vb:ValidL (p x).L:=q3a (ok.one x h1).1
              have mc:=q2c A3 (p x).A (q0z p (fun _=>true) x) (p x).L c3 (p x).q 0 M hRa (hp3.runs x h1) o1.some_valid.1 vb
              rw [step ok h1 rfl] at mc
              obtain ⟨a,ha,ch⟩:=hp3.head h1
              subst ha
              (repeat ((try (conv=>whnf));(first |(refine q0b _ ch ?_) |(refine stQ ?_))))
              conv=>whnf
              refine q1p (fun vs w=>by kernel_rfl) (.alone fun _=>rfl) (by kernel_rfl) mc fun A5 c5 M5 hM5 hc5 hm5 hx5=>?_
              have hR5:=RunsM.frozen hx5
              (repeat ((try (conv=>whnf));(refine stQ ?_)))
              conv=>whnf
              refine ⟨⟨x+1,A5,c5,(q0z p (fun _=>true) (x+1)).length,none,0,0,M5⟩,⟨h1,Mem.le_trans hM hM5,rfl,hR5,rfl,rfl,rfl⟩,by dsimp only;omega,?_⟩
              dsimp only
              ((refine q0f ?_);(conv=>whnf);(refine q0j (by rfl) (by rfl) flQ ?_))
              exact q0d
            · obtain rfl:x=12:=by omega
              have hv1:=(ok.some_valid (sel:=(fun _=>true))).2
              have s1:=q2s A1 A3 (q0z p (fun _=>true) 12) c1 c3 M (hR1.mono hM) hRa (by omega)
              (repeat ((try (conv=>whnf));(first |(refine stQ ?_) |(with_reducible first |refine q0e (fun vs w=>by kernel_rfl) (by kernel_rfl) (s1) ?_ |refine q0g (fun vs w=>by kernel_rfl) (by kernel_rfl) (s1) ?_))))
              conv=>whnf
              try simp
        · have ik:=q2z key 0 7 G1 false ⟨(fun h=>by cases h),fun h=>absurd h hk7⟩
          (repeat ((try (conv=>whnf));(first |(refine stQ ?_) |(with_reducible first |refine q0e (fun vs w=>by kernel_rfl) (by kernel_rfl) (ik) ?_ |refine q0g (fun vs w=>by kernel_rfl) (by kernel_rfl) (ik) ?_))))
          conv=>whnf
          refine q3u tab_ok (ι:=ASt) (fun s=>s.i≤12∧G1.le s.M∧s.k=(q0z p (fun _=>true) s.i).length∧RunsM s.M s.A (q0z p (fun _=>true) s.i)∧s.l=0∧s.b=0∧s.B=none) (fun s=>[(73,.val (.int .i64 s.i)),(16,.val (.slice s.A s.k s.a)),(17,.val (.slice s.B s.l s.b))]) (fun s=>[]) (fun s=>s.M) (fun s=>12-s.i) ⟨0,none,0,0,none,0,0,G1⟩ ⟨Nat.zero_le _,Mem.le_refl _,by rw [none_];rfl,by rw [none_];intro j r hj;simp at hj,rfl,rfl,rfl⟩ ?_ ?_
          · ((refine q0f ?_);(conv=>whnf);(refine q0j (by rfl) (by rfl) flQ ?_))
            exact q0d
          · rintro ⟨x,A3,c3,l3,B3,d3,e3,M⟩ ⟨hx,hM,hl3,hRa,hl4,hd4,hB4⟩
            dsimp only at hx hM hl3 hRa hl4 hd4 hB4 ⊢
            subst hl3 hl4 hd4 hB4
            rcases Nat.lt_or_ge x 12 with h1 |h1
            · have hp3:=hp1.mono hM
              have o1:=less ok (Nat.le_of_lt h1)
              have vb:ValidL (p x).L:=q3a (ok.one x h1).1
              have mc:=q2c A3 (p x).A (q0z p (fun _=>true) x) (p x).L c3 (p x).q 0 M hRa (hp3.runs x h1) o1.some_valid.1 vb
              rw [step ok h1 rfl] at mc
              obtain ⟨a,ha,ch⟩:=hp3.head h1
              subst ha
              (repeat ((try (conv=>whnf));(first |(refine q0b _ ch ?_) |(refine stQ ?_))))
              conv=>whnf
              refine q1p (fun vs w=>by kernel_rfl) (.alone fun _=>rfl) (by kernel_rfl) mc fun A5 c5 M5 hM5 hc5 hm5 hx5=>?_
              have hR5:=RunsM.frozen hx5
              (repeat ((try (conv=>whnf));(refine stQ ?_)))
              conv=>whnf
              refine ⟨⟨x+1,A5,c5,(q0z p (fun _=>true) (x+1)).length,none,0,0,M5⟩,⟨h1,Mem.le_trans hM hM5,rfl,hR5,rfl,rfl,rfl⟩,by dsimp only;omega,?_⟩
              dsimp only
              ((refine q0f ?_);(conv=>whnf);(refine q0j (by rfl) (by rfl) flQ ?_))
              exact q0d
            · obtain rfl:x=12:=by omega
              have hv1:=(ok.some_valid (sel:=(fun _=>true))).2
              have s1:=q2s A1 A3 (q0z p (fun _=>true) 12) c1 c3 M (hR1.mono hM) hRa (by omega)
              (repeat ((try (conv=>whnf));(first |(refine stQ ?_) |(with_reducible first |refine q0e (fun vs w=>by kernel_rfl) (by kernel_rfl) (s1) ?_ |refine q0g (fun vs w=>by kernel_rfl) (by kernel_rfl) (s1) ?_))))
              conv=>whnf
              try simp
    · have m1:=z37 (c:=c) hp hnm h0
      have m2:=x09 (c:=c) (key:=key) (least:=least) hp hnm h0
      have m3:=q36 (w:=w) (h:=h) (c:=c) hp hnm
      generalize pcsE w h 12 p=e at *
      (repeat ((try (conv=>whnf));(first |(refine q0e (fun vs w=>by kernel_rfl) (by kernel_rfl) m1 ?_) |(refine q0e (fun vs w=>by kernel_rfl) (by kernel_rfl) m2 ?_) |(refine q0e (fun vs w=>by kernel_rfl) (by kernel_rfl) m3 ?_) |(refine stQ ?_))))
      conv=>whnf
      try simp
theorem walk (a0:Int) (a1:Int) (A2:Option Addr) (n2:Nat) (q2:Nat) (g2:Nat→Nat→Value) (a3:Int) (a4:Int) (w:World) (w0:(Lit.int .i64 a0).wf=true) (w1:(Lit.int .i64 a1).wf=true) (c2:n2≤q2) (m2:q2≤maxLen) (s2:SliceG Tryz.prog w 35 A2 n2 g2) (w3:(Lit.int .i64 a3).wf=true) (w4:(Lit.int .i64 a4).wf=true) :
    Calls Tryz.prog 3 #[.int .i64 a0,.int .i64 a1,.slice A2 n2 q2,.int .i64 a3,.int .i64 a4] w fun e w'=>e=.returned (.bool true)∧Below w.heap.size w w':=by
  obtain ⟨p,hp⟩:=v12 s2
  exact x99 tab_ok Tryz.func3 (z16 [.int .i64 a0,.int .i64 a1,.slice A2 n2 q2,.int .i64 a3,.int .i64 a4]) (body hp c2 m2)
end Go.Proofs.YtkicdhaklnmonaaGreat.flatInkRegions
