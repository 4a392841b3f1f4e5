/-
  FlatCellsOfPieces: the law's walk.
-/
import Derived.Test.YtkicdhaklnmonaaGreatMrg35
import Derived.Test.YtkicdhaklnmonaaGreatMrg21
set_option linter.unusedVariables false
set_option linter.unusedSimpArgs false
set_option linter.unnecessarySimpa false
namespace Go.Proofs.YtkicdhaklnmonaaGreat.flatCellsOfPieces
open Go.RowKit
set_option maxRecDepth 20000
theorem x1t {p:Nat→PcD} {W:Nat}:∀ {n:Nat},(∀ k,k<n→∀ j,0≤(p k).I j∧(p k).I j≤255)→∀ i j,0≤q23 p W n i j∧q23 p W n i j≤255
  | 0,_,i,j=>by simp [q23]
  | n+1,h,i,j=>by
    unfold q23 q5c
    split
    · exact h n (by omega) j
    · exact x1t (n:=n) (fun k hk=>h k (by omega)) i j
theorem z45 {w h:Int} {n:Nat} {p:Nat→PcD} (hb:¬ ((1≤w∧w≤256)∧(1≤h∧h≤256))):pcsE w h n p≠0:=by
  unfold pcsE
  rw [if_pos hb];omega
theorem eight {G:Mem} {A:Option Addr} {n:Nat} {p:Nat→PcD} (h:PcsM G A n p):∃ q:Nat→PcD,PcsM G A n q∧∀ k j,8≤j→(q k).I j=0:=by
  refine ⟨fun k=>⟨(p k).L,(p k).A,(p k).q,fun j=>if j<8 then (p k).I j else 0⟩,⟨h.rows.congr fun x hx=>rfl,h.runs,h.room,fun i hi j=>?_⟩,fun k j hj=>if_neg (by omega)⟩
  show 0≤(if j<8 then (p i).I j else 0)∧(if j<8 then (p i).I j else 0)≤255
  split
  · exact h.ink i hi j
  · omega
theorem x7o {p:Nat→PcD} {n k:Nat} {gs:List Pc} (hg:gs=(List.range n).map fun k=>(vecI (p k).I,(p k).L)) (hk:k<n) (h8:∀ k j,8≤j→(p k).I j=0) (B:Nat→Value):(gatP gs B k).I=(p k).I:=by
  have e:gs[k]? = some (vecI (p k).I,(p k).L):=by rw [hg];simp [hk]
  funext j
  show keyI gs k j=_
  unfold keyI
  rw [e]
  rcases Nat.lt_or_ge j 8 with h |h
  · rcases lt8 h with rfl |rfl |rfl |rfl |rfl |rfl |rfl |rfl <;> rfl
  · rw [h8 k j h]
    simp only [Option.map_some,Option.getD_some]
    rw [List.getD_eq_getElem?_getD,List.getElem?_eq_none (by simp [vecI];omega)];rfl
theorem x7p {p:Nat→PcD} {n k:Nat} {gs:List Pc} (hg:gs=(List.range n).map fun k=>(vecI (p k).I,(p k).L)) (hk:k<n) (B:Nat→Value):gs[k]? = some (vecI (p k).I,(p k).L)∧(gatP gs B k).L=(p k).L:=by
  have e:gs[k]? = some (vecI (p k).I,(p k).L):=by rw [hg];simp [hk]
  refine ⟨e,?_⟩
  show ((gs[k]?).map Prod.snd).getD []=_
  rw [e];rfl
set_option maxHeartbeats 8000000 in
theorem body {A:Option Addr} {n c:Nat} {p:Nat→PcD} {w h x y:Int} {G:Mem} (hP:PcsM G A n p) (h8:∀ k j,8≤j→(p k).I j=0) (hn:n≤c) (hc:c≤maxLen) :
    q39 Tryz.prog tab 0 Tryz.f6 [.val (.int .i64 w),.val (.int .i64 h),.val (.slice A n c),.val (.int .i64 x),.val (.int .i64 y)] [] G fun v _ _=>v=.val (.bool true):=by
  have hnm:n≤maxLen:=Nat.le_trans hn hc
  obtain ⟨w2,hw2,cw0⟩:=x3m w 1 2 (by omega)
  obtain ⟨h2,hh2,ch0⟩:=x3m h 1 2 (by omega)
  have cw:=cw0 G
  have ch:=ch0 G
  by_cases bw:1≤w∧w≤256
  · by_cases bh:1≤h∧h≤256
    · have iw:=q2c w 1 256 G true (⟨fun _=>bw,fun _=>rfl⟩)
      have ih:=q2c h 1 256 G true (⟨fun _=>bh,fun _=>rfl⟩)
      by_cases h0:pcsE w2 h2 n p=0
      · have ok:=z4w h0
        have m2:=q5j (w:=w2) (h:=h2) (c:=c) hP hnm
        rw [h0] at m2
        obtain ⟨wn,rfl⟩:∃ k:Nat,w2=k:=⟨w2.toNat,by omega⟩
        obtain ⟨hn2,rfl⟩:∃ k:Nat,h2=k:=⟨h2.toNat,by omega⟩
        obtain ⟨W,hW⟩:∃ W,W=16*wn:=⟨_,rfl⟩
        obtain ⟨N,hN⟩:∃ N,N=16*hn2*W:=⟨_,rfl⟩
        have hW0:0<W:=by omega
        have hN0:0<N:=by rw [hN];exact Nat.mul_pos (by omega) hW0
        have hNb:N≤1024:=by
          rw [hN,hW]
          have:16*hn2*(16*wn)≤32*32:=Nat.mul_le_mul (by omega) (by omega)
          omega
        have hWi:(W:Int)=16*(wn:Int):=by omega
        have hNi:(N:Int)=(16*(hn2:Int))*(16*(wn:Int)):=by rw [hN,hW];push_cast;rfl
        have hNw:(N:Int)=256*(wn:Int)*(hn2:Int):=by
          rw [hNi,Int.mul_comm 16 (hn2:Int),Int.mul_assoc,← Int.mul_assoc 16 16,Int.mul_comm (hn2:Int)];rfl
        have hJ:∀ i j,0≤q23 p W n i j∧q23 p W n i j≤255:=x1t hP.ink
        have hgb:=x9e ok hWi hNi
        have eC:(fun i=>vecI (q23 p W n i))=q3u p W n:=funext fun i=>z7d n i
        have hlen:(gat (fun i=>vecI (q23 p W n i)) W N).length=n:=by rw [eC,hgb];simp
        rw [← eC] at hgb
        have mc:=z9a (c:=c) ok hP hW hN (by omega)
        by_cases hin:(0≤x∧x≤16*(wn:Int)-1)∧0≤y∧y≤16*(hn2:Int)-1
        · obtain ⟨xn,rfl⟩:∃ k:Nat,x=k:=⟨x.toNat,by omega⟩
          obtain ⟨yn,rfl⟩:∃ k:Nat,y=k:=⟨y.toNat,by omega⟩
          have e3:(yn*W+xn)/W=yn:=by rw [Nat.add_comm,Nat.add_mul_div_right _ _ hW0,Nat.div_eq_of_lt (by omega),Nat.zero_add]
          have e4:(yn*W+xn)%W=xn:=by rw [Nat.add_comm,Nat.add_mul_mod_self_right,Nat.mod_eq_of_lt (by omega)]
          have hiN:yn*W+xn<N:=by
            have:(yn+1)*W≤16*hn2*W:=Nat.mul_le_mul_right W (by omega)
            rw [Nat.add_mul,Nat.one_mul] at this;omega
          have m1:=v2f (c:=c) (W:=W) (i:=yn*W+xn) (J:=q23 p W n (yn*W+xn)) ok hP hn hc h0 hin.1 hin.2 (by rw [e4]) (by rw [e3]) (z7d n _)
          (repeat ((try (conv=>whnf));(first |(refine stQ ?_) |(with_reducible first |refine q0e (fun vs w=>by kernel_rfl) (by kernel_rfl) (q2g _) ?_ |refine q0d (fun vs w=>by kernel_rfl) (by kernel_rfl) (q2g _) ?_ |refine q0e (fun vs w=>by kernel_rfl) (by kernel_rfl) (iw) ?_ |refine q0d (fun vs w=>by kernel_rfl) (by kernel_rfl) (iw) ?_ |refine q0e (fun vs w=>by kernel_rfl) (by kernel_rfl) (ih) ?_ |refine q0d (fun vs w=>by kernel_rfl) (by kernel_rfl) (ih) ?_ |refine q0e (fun vs w=>by kernel_rfl) (by kernel_rfl) (cw) ?_ |refine q0d (fun vs w=>by kernel_rfl) (by kernel_rfl) (cw) ?_ |refine q0e (fun vs w=>by kernel_rfl) (by kernel_rfl) (ch) ?_ |refine q0d (fun vs w=>by kernel_rfl) (by kernel_rfl) (ch) ?_ |refine q0e (fun vs w=>by kernel_rfl) (by kernel_rfl) (m1) ?_ |refine q0d (fun vs w=>by kernel_rfl) (by kernel_rfl) (m1) ?_ |refine q0e (fun vs w=>by kernel_rfl) (by kernel_rfl) (m2) ?_ |refine q0d (fun vs w=>by kernel_rfl) (by kernel_rfl) (m2) ?_))))
          conv=>whnf
          refine q7g (fun vs w=>by kernel_rfl) (.alone fun _=>rfl) (by kernel_rfl) mc fun A4 c4 G4 hG4 hc4 hm4 hx4=>?_
          have hE4:ElsM G4 A4 8 N fun i=>inkC (q23 p W n i):=ElsM.frozen (fun _ _=>rfl) hx4 (by omega)
          have mo:=z84 (w:=wn) (h:=hn2) (by omega) (by omega) hW hN (by omega) ⟨hc4,hm4⟩ hE4
          (repeat ((try (conv=>whnf));(refine stQ ?_)))
          conv=>whnf
          refine q8q (fun vs w=>by kernel_rfl) (by kernel_rfl) mo fun wr6 n6 xs6 G6 A6 c6 G7 hG6 hR6 hG7 hc6 hm6 hF6=>?_
          obtain ⟨rfl,rfl,B6,rfl,hB6⟩:=hR6
          have hQ:=x7l (J:=q23 p W n) (fun i hi j=>hJ i j) hF6 (fun k q hq=>⟨(hB6 k q hq).1,(hB6 k q hq).2.1,(hB6 k q hq).2.2.1,(hB6 k q hq).2.2.2.mono hG7⟩)
          rw [hlen] at hQ
          rw [hlen]
          have hP7:=hP.mono (Mem.le_trans hG4 (Mem.le_trans hG6 hG7))
          have hE7:=hE4.mono (Mem.le_trans hG6 hG7)
          have sp:=q9w (c:=c) (d:=c6) hP7 hQ (fun k hk=>⟨(x7p hgb hk B6).2,x7o hgb hk h8 B6⟩) hnm (fun k hk=>Nat.le_trans (ok.short hk) (by omega))
          (repeat ((try (conv=>whnf));(first |(refine stQ ?_) |(with_reducible first |refine q0e (fun vs w=>by kernel_rfl) (by kernel_rfl) (sp) ?_ |refine q0d (fun vs w=>by kernel_rfl) (by kernel_rfl) (sp) ?_))))
          conv=>whnf
          refine q0e (fun vs w=>by kernel_rfl) (by kernel_rfl) (x3l (N:=N-1) (w:=(wn:Int)) (h:=(hn2:Int)) (by omega) (by omega) (by omega) (by omega)) ?_
          have ix:=q2c (xn:Int) 0 (16*(wn:Int)-1) G7 true ⟨fun _=>hin.1,fun _=>rfl⟩
          have iy:=q2c (yn:Int) 0 (16*(hn2:Int)-1) G7 true ⟨fun _=>hin.2,fun _=>rfl⟩
          have e5:16*(wn:Int)*(yn:Int)=((yn*W:Nat):Int):=by rw [hW];push_cast;rw [Int.mul_comm (yn:Int)]
          have e6:(16*(wn:Int)*(yn:Int)+(xn:Int)).toNat=yn*W+xn:=by omega
          obtain ⟨a,ea,ca⟩:=hE7.cells hiN
          subst ea
          rw [← e6] at ca
          (repeat ((try (conv=>whnf));(first |(refine ca _ ?_) |(refine stQ ?_) |(with_reducible first |refine q0e (fun vs w=>by kernel_rfl) (by kernel_rfl) (ix) ?_ |refine q0d (fun vs w=>by kernel_rfl) (by kernel_rfl) (ix) ?_ |refine q0e (fun vs w=>by kernel_rfl) (by kernel_rfl) (iy) ?_ |refine q0d (fun vs w=>by kernel_rfl) (by kernel_rfl) (iy) ?_))))
          conv=>whnf
          rw [e6]
          try simp
        · have m1:=v1q (c:=c) ok hP hnm h0 hin
          (repeat ((try (conv=>whnf));(first |(refine stQ ?_) |(with_reducible first |refine q0e (fun vs w=>by kernel_rfl) (by kernel_rfl) (q2g _) ?_ |refine q0d (fun vs w=>by kernel_rfl) (by kernel_rfl) (q2g _) ?_ |refine q0e (fun vs w=>by kernel_rfl) (by kernel_rfl) (iw) ?_ |refine q0d (fun vs w=>by kernel_rfl) (by kernel_rfl) (iw) ?_ |refine q0e (fun vs w=>by kernel_rfl) (by kernel_rfl) (ih) ?_ |refine q0d (fun vs w=>by kernel_rfl) (by kernel_rfl) (ih) ?_ |refine q0e (fun vs w=>by kernel_rfl) (by kernel_rfl) (cw) ?_ |refine q0d (fun vs w=>by kernel_rfl) (by kernel_rfl) (cw) ?_ |refine q0e (fun vs w=>by kernel_rfl) (by kernel_rfl) (ch) ?_ |refine q0d (fun vs w=>by kernel_rfl) (by kernel_rfl) (ch) ?_ |refine q0e (fun vs w=>by kernel_rfl) (by kernel_rfl) (m1) ?_ |refine q0d (fun vs w=>by kernel_rfl) (by kernel_rfl) (m1) ?_ |refine q0e (fun vs w=>by kernel_rfl) (by kernel_rfl) (m2) ?_ |refine q0d (fun vs w=>by kernel_rfl) (by kernel_rfl) (m2) ?_))))
          conv=>whnf
          refine q7g (fun vs w=>by kernel_rfl) (.alone fun _=>rfl) (by kernel_rfl) mc fun A4 c4 G4 hG4 hc4 hm4 hx4=>?_
          have hE4:ElsM G4 A4 8 N fun i=>inkC (q23 p W n i):=ElsM.frozen (fun _ _=>rfl) hx4 (by omega)
          have mo:=z84 (w:=wn) (h:=hn2) (by omega) (by omega) hW hN (by omega) ⟨hc4,hm4⟩ hE4
          (repeat ((try (conv=>whnf));(refine stQ ?_)))
          conv=>whnf
          refine q8q (fun vs w=>by kernel_rfl) (by kernel_rfl) mo fun wr6 n6 xs6 G6 A6 c6 G7 hG6 hR6 hG7 hc6 hm6 hF6=>?_
          obtain ⟨rfl,rfl,B6,rfl,hB6⟩:=hR6
          have hQ:=x7l (J:=q23 p W n) (fun i hi j=>hJ i j) hF6 (fun k q hq=>⟨(hB6 k q hq).1,(hB6 k q hq).2.1,(hB6 k q hq).2.2.1,(hB6 k q hq).2.2.2.mono hG7⟩)
          rw [hlen] at hQ
          rw [hlen]
          have hP7:=hP.mono (Mem.le_trans hG4 (Mem.le_trans hG6 hG7))
          have hE7:=hE4.mono (Mem.le_trans hG6 hG7)
          have sp:=q9w (c:=c) (d:=c6) hP7 hQ (fun k hk=>⟨(x7p hgb hk B6).2,x7o hgb hk h8 B6⟩) hnm (fun k hk=>Nat.le_trans (ok.short hk) (by omega))
          (repeat ((try (conv=>whnf));(first |(refine stQ ?_) |(with_reducible first |refine q0e (fun vs w=>by kernel_rfl) (by kernel_rfl) (sp) ?_ |refine q0d (fun vs w=>by kernel_rfl) (by kernel_rfl) (sp) ?_))))
          conv=>whnf
          refine q0e (fun vs w=>by kernel_rfl) (by kernel_rfl) (x3l (N:=N-1) (w:=(wn:Int)) (h:=(hn2:Int)) (by omega) (by omega) (by omega) (by omega)) ?_
          by_cases hx:0≤x∧x≤16*(wn:Int)-1
          · have ix:=q2c x 0 (16*(wn:Int)-1) G7 true ⟨fun _=>hx,fun _=>rfl⟩
            have iy:=q2c y 0 (16*(hn2:Int)-1) G7 false ⟨(fun h=>by cases h),fun h=>absurd ⟨hx,h⟩ hin⟩
            (repeat ((try (conv=>whnf));(first |(refine stQ ?_) |(with_reducible first |refine q0e (fun vs w=>by kernel_rfl) (by kernel_rfl) (ix) ?_ |refine q0d (fun vs w=>by kernel_rfl) (by kernel_rfl) (ix) ?_ |refine q0e (fun vs w=>by kernel_rfl) (by kernel_rfl) (iy) ?_ |refine q0d (fun vs w=>by kernel_rfl) (by kernel_rfl) (iy) ?_))))
            conv=>whnf
            try simp
          · have ix:=q2c x 0 (16*(wn:Int)-1) G7 false ⟨(fun h=>by cases h),fun h=>absurd h hx⟩
            (repeat ((try (conv=>whnf));(first |(refine stQ ?_) |(with_reducible first |refine q0e (fun vs w=>by kernel_rfl) (by kernel_rfl) (ix) ?_ |refine q0d (fun vs w=>by kernel_rfl) (by kernel_rfl) (ix) ?_))))
            conv=>whnf
            try simp
      · have he:pcsE w2 h2 n p≠0:=h0
        have m1:=z12 (w:=w2) (h:=h2) (c:=c) (x:=x) (y:=y) hP hnm he
        have m2:=q5j (w:=w2) (h:=h2) (c:=c) hP hnm
        generalize pcsE w2 h2 n p=e at *
        (repeat ((try (conv=>whnf));(first |(refine stQ ?_) |(with_reducible first |refine q0e (fun vs w=>by kernel_rfl) (by kernel_rfl) (q2g _) ?_ |refine q0d (fun vs w=>by kernel_rfl) (by kernel_rfl) (q2g _) ?_ |refine q0e (fun vs w=>by kernel_rfl) (by kernel_rfl) (iw) ?_ |refine q0d (fun vs w=>by kernel_rfl) (by kernel_rfl) (iw) ?_ |refine q0e (fun vs w=>by kernel_rfl) (by kernel_rfl) (ih) ?_ |refine q0d (fun vs w=>by kernel_rfl) (by kernel_rfl) (ih) ?_ |refine q0e (fun vs w=>by kernel_rfl) (by kernel_rfl) (cw) ?_ |refine q0d (fun vs w=>by kernel_rfl) (by kernel_rfl) (cw) ?_ |refine q0e (fun vs w=>by kernel_rfl) (by kernel_rfl) (ch) ?_ |refine q0d (fun vs w=>by kernel_rfl) (by kernel_rfl) (ch) ?_ |refine q0e (fun vs w=>by kernel_rfl) (by kernel_rfl) (m1) ?_ |refine q0d (fun vs w=>by kernel_rfl) (by kernel_rfl) (m1) ?_ |refine q0e (fun vs w=>by kernel_rfl) (by kernel_rfl) (m2) ?_ |refine q0d (fun vs w=>by kernel_rfl) (by kernel_rfl) (m2) ?_))))
        conv=>whnf
        try simp
    · have iw:=q2c w 1 256 G true (⟨fun _=>bw,fun _=>rfl⟩)
      have ih:=q2c h 1 256 G false (⟨(fun h=>by cases h),fun h=>absurd h bh⟩)
      have he:pcsE w2 h n p≠0:=z45 (by omega)
      have m1:=z12 (w:=w2) (h:=h) (c:=c) (x:=x) (y:=y) hP hnm he
      have m2:=q5j (w:=w2) (h:=h) (c:=c) hP hnm
      generalize pcsE w2 h n p=e at *
      (repeat ((try (conv=>whnf));(first |(refine stQ ?_) |(with_reducible first |refine q0e (fun vs w=>by kernel_rfl) (by kernel_rfl) (q2g _) ?_ |refine q0d (fun vs w=>by kernel_rfl) (by kernel_rfl) (q2g _) ?_ |refine q0e (fun vs w=>by kernel_rfl) (by kernel_rfl) (iw) ?_ |refine q0d (fun vs w=>by kernel_rfl) (by kernel_rfl) (iw) ?_ |refine q0e (fun vs w=>by kernel_rfl) (by kernel_rfl) (ih) ?_ |refine q0d (fun vs w=>by kernel_rfl) (by kernel_rfl) (ih) ?_ |refine q0e (fun vs w=>by kernel_rfl) (by kernel_rfl) (cw) ?_ |refine q0d (fun vs w=>by kernel_rfl) (by kernel_rfl) (cw) ?_ |refine q0e (fun vs w=>by kernel_rfl) (by kernel_rfl) (ch) ?_ |refine q0d (fun vs w=>by kernel_rfl) (by kernel_rfl) (ch) ?_ |refine q0e (fun vs w=>by kernel_rfl) (by kernel_rfl) (m1) ?_ |refine q0d (fun vs w=>by kernel_rfl) (by kernel_rfl) (m1) ?_ |refine q0e (fun vs w=>by kernel_rfl) (by kernel_rfl) (m2) ?_ |refine q0d (fun vs w=>by kernel_rfl) (by kernel_rfl) (m2) ?_))))
      conv=>whnf
      try simp
  · by_cases bh:1≤h∧h≤256
    · have iw:=q2c w 1 256 G false (⟨(fun h=>by cases h),fun h=>absurd h bw⟩)
      have ih:=q2c h 1 256 G true (⟨fun _=>bh,fun _=>rfl⟩)
      have he:pcsE w h2 n p≠0:=z45 (by omega)
      have m1:=z12 (w:=w) (h:=h2) (c:=c) (x:=x) (y:=y) hP hnm he
      have m2:=q5j (w:=w) (h:=h2) (c:=c) hP hnm
      generalize pcsE w h2 n p=e at *
      (repeat ((try (conv=>whnf));(first |(refine stQ ?_) |(with_reducible first |refine q0e (fun vs w=>by kernel_rfl) (by kernel_rfl) (q2g _) ?_ |refine q0d (fun vs w=>by kernel_rfl) (by kernel_rfl) (q2g _) ?_ |refine q0e (fun vs w=>by kernel_rfl) (by kernel_rfl) (iw) ?_ |refine q0d (fun vs w=>by kernel_rfl) (by kernel_rfl) (iw) ?_ |refine q0e (fun vs w=>by kernel_rfl) (by kernel_rfl) (ih) ?_ |refine q0d (fun vs w=>by kernel_rfl) (by kernel_rfl) (ih) ?_ |refine q0e (fun vs w=>by kernel_rfl) (by kernel_rfl) (cw) ?_ |refine q0d (fun vs w=>by kernel_rfl) (by kernel_rfl) (cw) ?_ |refine q0e (fun vs w=>by kernel_rfl) (by kernel_rfl) (ch) ?_ |refine q0d (fun vs w=>by kernel_rfl) (by kernel_rfl) (ch) ?_ |refine q0e (fun vs w=>by kernel_rfl) (by kernel_rfl) (m1) ?_ |refine q0d (fun vs w=>by kernel_rfl) (by kernel_rfl) (m1) ?_ |refine q0e (fun vs w=>by kernel_rfl) (by kernel_rfl) (m2) ?_ |refine q0d (fun vs w=>by kernel_rfl) (by kernel_rfl) (m2) ?_))))
      conv=>whnf
      try simp
    · have iw:=q2c w 1 256 G false (⟨(fun h=>by cases h),fun h=>absurd h bw⟩)
      have ih:=q2c h 1 256 G false (⟨(fun h=>by cases h),fun h=>absurd h bh⟩)
      have he:pcsE w h n p≠0:=z45 (by omega)
      have m1:=z12 (w:=w) (h:=h) (c:=c) (x:=x) (y:=y) hP hnm he
      have m2:=q5j (w:=w) (h:=h) (c:=c) hP hnm
      generalize pcsE w h n p=e at *
      (repeat ((try (conv=>whnf));(first |(refine stQ ?_) |(with_reducible first |refine q0e (fun vs w=>by kernel_rfl) (by kernel_rfl) (q2g _) ?_ |refine q0d (fun vs w=>by kernel_rfl) (by kernel_rfl) (q2g _) ?_ |refine q0e (fun vs w=>by kernel_rfl) (by kernel_rfl) (iw) ?_ |refine q0d (fun vs w=>by kernel_rfl) (by kernel_rfl) (iw) ?_ |refine q0e (fun vs w=>by kernel_rfl) (by kernel_rfl) (ih) ?_ |refine q0d (fun vs w=>by kernel_rfl) (by kernel_rfl) (ih) ?_ |refine q0e (fun vs w=>by kernel_rfl) (by kernel_rfl) (cw) ?_ |refine q0d (fun vs w=>by kernel_rfl) (by kernel_rfl) (cw) ?_ |refine q0e (fun vs w=>by kernel_rfl) (by kernel_rfl) (ch) ?_ |refine q0d (fun vs w=>by kernel_rfl) (by kernel_rfl) (ch) ?_ |refine q0e (fun vs w=>by kernel_rfl) (by kernel_rfl) (m1) ?_ |refine q0d (fun vs w=>by kernel_rfl) (by kernel_rfl) (m1) ?_ |refine q0e (fun vs w=>by kernel_rfl) (by kernel_rfl) (m2) ?_ |refine q0d (fun vs w=>by kernel_rfl) (by kernel_rfl) (m2) ?_))))
      conv=>whnf
      try simp
theorem walk (a0:Int) (a1:Int) (A2:Option Addr) (n2:Nat) (q2:Nat) (g2:Nat→Nat→Value) (a3:Int) (a4:Int) (w:World) (w0:(Lit.int .i64 a0).wf=true) (w1:(Lit.int .i64 a1).wf=true) (c2:n2≤q2) (m2:q2≤maxLen) (s2:SliceG Tryz.prog w 35 A2 n2 g2) (w3:(Lit.int .i64 a3).wf=true) (w4:(Lit.int .i64 a4).wf=true) :
    Calls Tryz.prog 6 #[.int .i64 a0,.int .i64 a1,.slice A2 n2 q2,.int .i64 a3,.int .i64 a4] w fun e w'=>e=.returned (.bool true)∧Below w.heap.size w w':=by
  obtain ⟨p,hp⟩:=v2t s2
  obtain ⟨q,hq,h8⟩:=eight hp
  exact v01 tab_ok Tryz.func6 (z2j [.int .i64 a0,.int .i64 a1,.slice A2 n2 q2,.int .i64 a3,.int .i64 a4]) (body hq h8 c2 m2)
end Go.Proofs.YtkicdhaklnmonaaGreat.flatCellsOfPieces
