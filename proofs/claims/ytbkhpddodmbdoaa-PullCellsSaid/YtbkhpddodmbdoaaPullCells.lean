/-
  PullCells: the law's walk.
-/
import Derived.Test.YtbkhpddodmbdoaaMrg28
import Derived.Test.YtbkhpddodmbdoaaMrg26
import Derived.Test.YtbkhpddodmbdoaaMrg29
set_option linter.unusedVariables false
set_option linter.unusedSimpArgs false
set_option linter.unnecessarySimpa false
namespace Go.Proofs.Ytbkhpddodmbdoaa
open Go.RowKit
set_option maxRecDepth 20000
theorem z39 {p:Nat→PcD} {W:Nat}:∀ {n:Nat},(∀ k,k<n→∀ j,0≤(p k).I j∧(p k).I j≤255)→∀ i j,0≤q00 p W n i j∧q00 p W n i j≤255
  | 0,_,i,j=>by simp [q00]
  | n+1,h,i,j=>by
    unfold q00 q3k
    split
    · exact h n (by omega) j
    · exact z39 (n:=n) (fun k hk=>h k (by omega)) i j
theorem z4a {J:Nat→Nat→Int} {f:Nat→Bool} {key:Nat} (h:∀ i j,0≤J i j∧J i j≤255) (i j:Nat):0≤q3l J f key i j∧q3l J f key i j≤255:=by
  unfold q3l
  split
  · unfold keyF;split <;> omega
  · exact h i j
theorem q6r {w h:Int} {n:Nat} {p:Nat→PcD} (hb:¬ ((1≤w∧w≤256)∧(1≤h∧h≤256))):pcsE w h n p≠0:=by
  unfold pcsE
  rw [if_pos hb];omega
end Go.Proofs.Ytbkhpddodmbdoaa
namespace Go.Proofs.Ytbkhpddodmbdoaa.pullCells
open Go.RowKit
set_option maxRecDepth 20000
set_option maxHeartbeats 8000000 in
theorem body {A:Option Addr} {n c:Nat} {p:Nat→PcD} {w h key r:Int} {G:Mem} (hP:PcsM G A n p) (hn:n≤c) (hc:c≤maxLen) :
    q5j Try.prog tab 0 Try.f4 [.val (.int .i64 w),.val (.int .i64 h),.val (.slice A n c),.val (.int .i64 key),.val (.int .i64 r)] [] G fun v _ _=>v=.val (.bool true):=by
  have hnm:n≤maxLen:=Nat.le_trans hn hc
  obtain ⟨w2,hw2,cw0⟩:=z42 w 1 2 (by omega)
  obtain ⟨h2,hh2,ch0⟩:=z42 h 1 2 (by omega)
  obtain ⟨r2,hr2,cr0⟩:=z42 r 0 6 (by omega)
  have cw:=cw0 G
  have ch:=ch0 G
  have cr:=cr0 G
  by_cases bw:1≤w∧w≤256
  · by_cases bh:1≤h∧h≤256
    · by_cases b3:0≤r∧r≤64
      · have iw:=q03 w 1 256 G true (⟨fun _=>bw,fun _=>rfl⟩)
        have ih:=q03 h 1 256 G true (⟨fun _=>bh,fun _=>rfl⟩)
        have ir:=q03 r 0 64 G true (⟨fun _=>b3,fun _=>rfl⟩)
        by_cases h0:pcsE w2 h2 n p=0
        · have ok:=q6m h0
          have m2:=q14 (w:=w2) (h:=h2) (c:=c) hP hnm
          rw [h0] at m2
          by_cases hk:0≤key∧key≤7
          · have ik:=q03 key 0 7 G true ⟨fun _=>hk,fun _=>rfl⟩
            obtain ⟨kn,rfl⟩:∃ k:Nat,key=k:=⟨key.toNat,by omega⟩
            obtain ⟨wn,rfl⟩:∃ k:Nat,w2=k:=⟨w2.toNat,by omega⟩
            obtain ⟨hn2,rfl⟩:∃ k:Nat,h2=k:=⟨h2.toNat,by omega⟩
            obtain ⟨rn,rfl⟩:∃ k:Nat,r2=k:=⟨r2.toNat,by omega⟩
            have ir2:=fun G=>q03 (rn:Int) 0 64 G true ⟨fun _=>by omega,fun _=>rfl⟩
            obtain ⟨W,hW⟩:∃ W,W=16*wn:=⟨_,rfl⟩
            obtain ⟨N,hN⟩:∃ N,N=16*hn2*W:=⟨_,rfl⟩
            have hNb:N≤1024:=by
              rw [hN,hW]
              have:16*hn2*(16*wn)≤32*32:=Nat.mul_le_mul (by omega) (by omega)
              omega
            have hWi:(W:Int)=16*(wn:Int):=by omega
            have hNi:(N:Int)=(16*(hn2:Int))*(16*(wn:Int)):=by rw [hN,hW];push_cast;rfl
            have mp:=z38 (c:=c) (key:=kn) (r:=rn) ok h0 hP hn hc hW hN (by omega) (by omega) (by omega) (by omega)
            have hJ:∀ i j,0≤q00 p W n i j∧q00 p W n i j≤255:=z39 hP.ink
            have hnb:∀ i,i<N→(hasL (DL rn (q2p wn hn2 n p)) ((i%W:Nat):Int) ((i/W:Nat):Int)=true↔z6v (fun i=>vecI (q00 p W n i)) W N rn i):=fun i hi=>by
              have e:(fun i=>vecI (q00 p W n i))=q5m p W n:=funext fun i=>z4y n i
              rw [hasL_iff,(z1b ok.paper_valid.1).2,e]
              exact x4g ok hWi hNi hi (by omega) ok.paper.1 ok.paper.2
            generalize DL rn (q2p wn hn2 n p)=D at *
            (repeat ((try (conv=>whnf));(first |(refine stQ ?_) |(with_reducible first |refine q0b (fun vs w=>by kernel_rfl) (by kernel_rfl) (q04 _) ?_ |refine q0a (fun vs w=>by kernel_rfl) (by kernel_rfl) (q04 _) ?_ |refine q0b (fun vs w=>by kernel_rfl) (by kernel_rfl) (iw) ?_ |refine q0a (fun vs w=>by kernel_rfl) (by kernel_rfl) (iw) ?_ |refine q0b (fun vs w=>by kernel_rfl) (by kernel_rfl) (ih) ?_ |refine q0a (fun vs w=>by kernel_rfl) (by kernel_rfl) (ih) ?_ |refine q0b (fun vs w=>by kernel_rfl) (by kernel_rfl) (ir) ?_ |refine q0a (fun vs w=>by kernel_rfl) (by kernel_rfl) (ir) ?_ |refine q0b (fun vs w=>by kernel_rfl) (by kernel_rfl) (cw) ?_ |refine q0a (fun vs w=>by kernel_rfl) (by kernel_rfl) (cw) ?_ |refine q0b (fun vs w=>by kernel_rfl) (by kernel_rfl) (ch) ?_ |refine q0a (fun vs w=>by kernel_rfl) (by kernel_rfl) (ch) ?_ |refine q0b (fun vs w=>by kernel_rfl) (by kernel_rfl) (cr) ?_ |refine q0a (fun vs w=>by kernel_rfl) (by kernel_rfl) (cr) ?_))))
            conv=>whnf
            refine q7j (fun vs w=>by kernel_rfl) (by kernel_rfl) mp fun wr n2 xs2 G2 A2 c2 G3 hG2 hR2 hG3 hc2 hm2 hF2=>?_
            obtain ⟨rfl,rfl,B2,rfl,hB2⟩:=hR2
            have hle3:G.le G3:=Mem.le_trans hG2 hG3
            have hP3:=hP.mono hle3
            have hQ:=x2v (J:=q1j (q00 p W n) W kn D) (fun i hi j=>z4a hJ i j) hF2 (fun k q hq=>⟨(hB2 k q hq).1,(hB2 k q hq).2.1,(hB2 k q hq).2.2.1,(hB2 k q hq).2.2.2.mono hG3⟩)
            have m3:=q14 (w:=(wn:Int)) (h:=(hn2:Int)) (c:=c) hP3 hnm
            rw [h0] at m3
            have ik3:=q03 (kn:Int) 0 7 G3 true ⟨fun _=>hk,fun _=>rfl⟩
            have ir3:=ir2 G3
            have mc:=z6n (c:=c) ok hP3 hW hN (by omega)
            (repeat ((try (conv=>whnf));(first |(refine stQ ?_) |(with_reducible first |refine q0b (fun vs w=>by kernel_rfl) (by kernel_rfl) (m3) ?_ |refine q0a (fun vs w=>by kernel_rfl) (by kernel_rfl) (m3) ?_ |refine q0b (fun vs w=>by kernel_rfl) (by kernel_rfl) (ik3) ?_ |refine q0a (fun vs w=>by kernel_rfl) (by kernel_rfl) (ik3) ?_ |refine q0b (fun vs w=>by kernel_rfl) (by kernel_rfl) (ir3) ?_ |refine q0a (fun vs w=>by kernel_rfl) (by kernel_rfl) (ir3) ?_))))
            conv=>whnf
            refine q1d (fun vs w=>by kernel_rfl) (.alone fun _=>rfl) (by kernel_rfl) mc fun A4 c4 G4 hG4 hc4 hm4 hx4=>?_
            have hE4:ElsM G4 A4 8 N fun i=>inkC (q00 p W n i):=ElsM.frozen (fun _ _=>rfl) hx4 (by omega)
            have mu:=z8u (key:=kn) (r:=rn) (w:=wn) (h:=hn2) (J:=q00 p W n) (by omega) (by omega) hW hN (by omega) ⟨hc4,hm4⟩ (by omega) (by omega) hE4 (fun i _=>(hJ i kn).2) hnb
            (repeat ((try (conv=>whnf));(refine stQ ?_)))
            conv=>whnf
            refine q1d (fun vs w=>by kernel_rfl) (.alone fun _=>rfl) (by kernel_rfl) mu fun A5 c5 G5 hG5 hc5 hm5 hx5=>?_
            have hE5:ElsM G5 A5 8 N fun i=>inkC (q1j (q00 p W n) W kn D i):=ElsM.frozen (fun _ _=>rfl) hx5 (by omega)
            have mo:=z4x (w:=wn) (J:=q1j (q00 p W n) W kn D) (by omega) hW (by omega) ⟨hc5,hm5⟩ hE5
            (repeat ((try (conv=>whnf));(refine stQ ?_)))
            conv=>whnf
            refine q7j (fun vs w=>by kernel_rfl) (by kernel_rfl) mo fun wr6 n6 xs6 G6 A6 c6 G7 hG6 hR6 hG7 hc6 hm6 hF6=>?_
            obtain ⟨hwr,rfl,B6,rfl,hB6⟩:=hR6
            rw [hwr]
            have hxs:q0m (fun k=>B6 k::inkC (keyI (gat (fun i=>vecI (q1j (q00 p W n) W kn D i)) W N) k)) (gat (fun i=>vecI (q1j (q00 p W n) W kn D i)) W N).length=q0m (fun k=>pcC (gatP (gat (fun i=>vecI (q1j (q00 p W n) W kn D i)) W N) B6 k)) (gat (fun i=>vecI (q1j (q00 p W n) W kn D i)) W N).length :=
              q1m fun k hk=>by
                have:=(hB6 k _ (List.getElem?_eq_getElem hk)).2.1
                unfold pcC
                rw [← this];rfl
            rw [hxs] at hF6
            have hQ2:=x2v (J:=q1j (q00 p W n) W kn D) (fun i hi j=>z4a hJ i j) hF6 (fun k q hq=>⟨(hB6 k q hq).1,(hB6 k q hq).2.2.1,(hB6 k q hq).2.2.2.1,(hB6 k q hq).2.2.2.2.mono hG7⟩)
            have hle7:G3.le G7:=Mem.le_trans hG4 (Mem.le_trans hG5 (Mem.le_trans hG6 hG7))
            have hgo:=q9e (fun i=>vecI (q1j (q00 p W n) W kn D i)) (show 0<W by omega) N
            have hfew:=hgo.few
            have hmx:1024≤maxLen:=by unfold maxLen;omega
            have sp:=z2n (c:=c2) (d:=c6) (hQ.mono hle7) hQ2 (fun k hk=>⟨by rw [(hB6 k _ (List.getElem?_eq_getElem hk)).1,(hB2 k _ (List.getElem?_eq_getElem hk)).1],rfl⟩) (by omega) (fun k hk=>by
              rw [(hB2 k _ (List.getElem?_eq_getElem hk)).1]
              have:=(hgo.runs _ (List.getElem_mem hk)).1
              omega)
            (repeat ((try (conv=>whnf));(first |(refine stQ ?_) |(with_reducible first |refine q0b (fun vs w=>by kernel_rfl) (by kernel_rfl) (sp) ?_ |refine q0a (fun vs w=>by kernel_rfl) (by kernel_rfl) (sp) ?_))))
            conv=>whnf
            try simp
          · have m1:=z6k (c:=c) (w:=w2) (h:=h2) (r:=r2) hP hnm h0 hk
            have ik:=q03 key 0 7 G false ⟨(fun h=>by cases h),fun h=>absurd h hk⟩
            (repeat ((try (conv=>whnf));(first |(refine stQ ?_) |(with_reducible first |refine q0b (fun vs w=>by kernel_rfl) (by kernel_rfl) (q04 _) ?_ |refine q0a (fun vs w=>by kernel_rfl) (by kernel_rfl) (q04 _) ?_ |refine q0b (fun vs w=>by kernel_rfl) (by kernel_rfl) (iw) ?_ |refine q0a (fun vs w=>by kernel_rfl) (by kernel_rfl) (iw) ?_ |refine q0b (fun vs w=>by kernel_rfl) (by kernel_rfl) (ih) ?_ |refine q0a (fun vs w=>by kernel_rfl) (by kernel_rfl) (ih) ?_ |refine q0b (fun vs w=>by kernel_rfl) (by kernel_rfl) (ir) ?_ |refine q0a (fun vs w=>by kernel_rfl) (by kernel_rfl) (ir) ?_ |refine q0b (fun vs w=>by kernel_rfl) (by kernel_rfl) (cw) ?_ |refine q0a (fun vs w=>by kernel_rfl) (by kernel_rfl) (cw) ?_ |refine q0b (fun vs w=>by kernel_rfl) (by kernel_rfl) (ch) ?_ |refine q0a (fun vs w=>by kernel_rfl) (by kernel_rfl) (ch) ?_ |refine q0b (fun vs w=>by kernel_rfl) (by kernel_rfl) (cr) ?_ |refine q0a (fun vs w=>by kernel_rfl) (by kernel_rfl) (cr) ?_ |refine q0b (fun vs w=>by kernel_rfl) (by kernel_rfl) (m1) ?_ |refine q0a (fun vs w=>by kernel_rfl) (by kernel_rfl) (m1) ?_ |refine q0b (fun vs w=>by kernel_rfl) (by kernel_rfl) (m2) ?_ |refine q0a (fun vs w=>by kernel_rfl) (by kernel_rfl) (m2) ?_ |refine q0b (fun vs w=>by kernel_rfl) (by kernel_rfl) (ik) ?_ |refine q0a (fun vs w=>by kernel_rfl) (by kernel_rfl) (ik) ?_))))
            conv=>whnf
            try simp
        · have he:pcsE w2 h2 n p≠0:=h0
          have m1:=q4o (w:=w2) (h:=h2) (c:=c) (key:=key) (r:=r2) hP hnm he
          have m2:=q14 (w:=w2) (h:=h2) (c:=c) hP hnm
          generalize pcsE w2 h2 n p=e at *
          (repeat ((try (conv=>whnf));(first |(refine stQ ?_) |(with_reducible first |refine q0b (fun vs w=>by kernel_rfl) (by kernel_rfl) (q04 _) ?_ |refine q0a (fun vs w=>by kernel_rfl) (by kernel_rfl) (q04 _) ?_ |refine q0b (fun vs w=>by kernel_rfl) (by kernel_rfl) (iw) ?_ |refine q0a (fun vs w=>by kernel_rfl) (by kernel_rfl) (iw) ?_ |refine q0b (fun vs w=>by kernel_rfl) (by kernel_rfl) (ih) ?_ |refine q0a (fun vs w=>by kernel_rfl) (by kernel_rfl) (ih) ?_ |refine q0b (fun vs w=>by kernel_rfl) (by kernel_rfl) (ir) ?_ |refine q0a (fun vs w=>by kernel_rfl) (by kernel_rfl) (ir) ?_ |refine q0b (fun vs w=>by kernel_rfl) (by kernel_rfl) (cw) ?_ |refine q0a (fun vs w=>by kernel_rfl) (by kernel_rfl) (cw) ?_ |refine q0b (fun vs w=>by kernel_rfl) (by kernel_rfl) (ch) ?_ |refine q0a (fun vs w=>by kernel_rfl) (by kernel_rfl) (ch) ?_ |refine q0b (fun vs w=>by kernel_rfl) (by kernel_rfl) (cr) ?_ |refine q0a (fun vs w=>by kernel_rfl) (by kernel_rfl) (cr) ?_ |refine q0b (fun vs w=>by kernel_rfl) (by kernel_rfl) (m1) ?_ |refine q0a (fun vs w=>by kernel_rfl) (by kernel_rfl) (m1) ?_ |refine q0b (fun vs w=>by kernel_rfl) (by kernel_rfl) (m2) ?_ |refine q0a (fun vs w=>by kernel_rfl) (by kernel_rfl) (m2) ?_))))
          conv=>whnf
          try simp
      · have iw:=q03 w 1 256 G true (⟨fun _=>bw,fun _=>rfl⟩)
        have ih:=q03 h 1 256 G true (⟨fun _=>bh,fun _=>rfl⟩)
        have ir:=q03 r 0 64 G false (⟨(fun h=>by cases h),fun h=>absurd h b3⟩)
        by_cases h0:pcsE w2 h2 n p=0
        · have ok:=q6m h0
          have m2:=q14 (w:=w2) (h:=h2) (c:=c) hP hnm
          rw [h0] at m2
          by_cases hk:0≤key∧key≤7
          · have m1:=x3j (c:=c) (key:=key) (r:=r) ok hP hn hc h0 hk b3
            have ik:=q03 key 0 7 G true ⟨fun _=>hk,fun _=>rfl⟩
            (repeat ((try (conv=>whnf));(first |(refine stQ ?_) |(with_reducible first |refine q0b (fun vs w=>by kernel_rfl) (by kernel_rfl) (q04 _) ?_ |refine q0a (fun vs w=>by kernel_rfl) (by kernel_rfl) (q04 _) ?_ |refine q0b (fun vs w=>by kernel_rfl) (by kernel_rfl) (iw) ?_ |refine q0a (fun vs w=>by kernel_rfl) (by kernel_rfl) (iw) ?_ |refine q0b (fun vs w=>by kernel_rfl) (by kernel_rfl) (ih) ?_ |refine q0a (fun vs w=>by kernel_rfl) (by kernel_rfl) (ih) ?_ |refine q0b (fun vs w=>by kernel_rfl) (by kernel_rfl) (ir) ?_ |refine q0a (fun vs w=>by kernel_rfl) (by kernel_rfl) (ir) ?_ |refine q0b (fun vs w=>by kernel_rfl) (by kernel_rfl) (cw) ?_ |refine q0a (fun vs w=>by kernel_rfl) (by kernel_rfl) (cw) ?_ |refine q0b (fun vs w=>by kernel_rfl) (by kernel_rfl) (ch) ?_ |refine q0a (fun vs w=>by kernel_rfl) (by kernel_rfl) (ch) ?_ |refine q0b (fun vs w=>by kernel_rfl) (by kernel_rfl) (cr) ?_ |refine q0a (fun vs w=>by kernel_rfl) (by kernel_rfl) (cr) ?_ |refine q0b (fun vs w=>by kernel_rfl) (by kernel_rfl) (m1) ?_ |refine q0a (fun vs w=>by kernel_rfl) (by kernel_rfl) (m1) ?_ |refine q0b (fun vs w=>by kernel_rfl) (by kernel_rfl) (m2) ?_ |refine q0a (fun vs w=>by kernel_rfl) (by kernel_rfl) (m2) ?_ |refine q0b (fun vs w=>by kernel_rfl) (by kernel_rfl) (ik) ?_ |refine q0a (fun vs w=>by kernel_rfl) (by kernel_rfl) (ik) ?_))))
            conv=>whnf
            try simp
          · have m1:=z6k (c:=c) (w:=w2) (h:=h2) (r:=r) hP hnm h0 hk
            have ik:=q03 key 0 7 G false ⟨(fun h=>by cases h),fun h=>absurd h hk⟩
            (repeat ((try (conv=>whnf));(first |(refine stQ ?_) |(with_reducible first |refine q0b (fun vs w=>by kernel_rfl) (by kernel_rfl) (q04 _) ?_ |refine q0a (fun vs w=>by kernel_rfl) (by kernel_rfl) (q04 _) ?_ |refine q0b (fun vs w=>by kernel_rfl) (by kernel_rfl) (iw) ?_ |refine q0a (fun vs w=>by kernel_rfl) (by kernel_rfl) (iw) ?_ |refine q0b (fun vs w=>by kernel_rfl) (by kernel_rfl) (ih) ?_ |refine q0a (fun vs w=>by kernel_rfl) (by kernel_rfl) (ih) ?_ |refine q0b (fun vs w=>by kernel_rfl) (by kernel_rfl) (ir) ?_ |refine q0a (fun vs w=>by kernel_rfl) (by kernel_rfl) (ir) ?_ |refine q0b (fun vs w=>by kernel_rfl) (by kernel_rfl) (cw) ?_ |refine q0a (fun vs w=>by kernel_rfl) (by kernel_rfl) (cw) ?_ |refine q0b (fun vs w=>by kernel_rfl) (by kernel_rfl) (ch) ?_ |refine q0a (fun vs w=>by kernel_rfl) (by kernel_rfl) (ch) ?_ |refine q0b (fun vs w=>by kernel_rfl) (by kernel_rfl) (cr) ?_ |refine q0a (fun vs w=>by kernel_rfl) (by kernel_rfl) (cr) ?_ |refine q0b (fun vs w=>by kernel_rfl) (by kernel_rfl) (m1) ?_ |refine q0a (fun vs w=>by kernel_rfl) (by kernel_rfl) (m1) ?_ |refine q0b (fun vs w=>by kernel_rfl) (by kernel_rfl) (m2) ?_ |refine q0a (fun vs w=>by kernel_rfl) (by kernel_rfl) (m2) ?_ |refine q0b (fun vs w=>by kernel_rfl) (by kernel_rfl) (ik) ?_ |refine q0a (fun vs w=>by kernel_rfl) (by kernel_rfl) (ik) ?_))))
            conv=>whnf
            try simp
        · have he:pcsE w2 h2 n p≠0:=h0
          have m1:=q4o (w:=w2) (h:=h2) (c:=c) (key:=key) (r:=r) hP hnm he
          have m2:=q14 (w:=w2) (h:=h2) (c:=c) hP hnm
          generalize pcsE w2 h2 n p=e at *
          (repeat ((try (conv=>whnf));(first |(refine stQ ?_) |(with_reducible first |refine q0b (fun vs w=>by kernel_rfl) (by kernel_rfl) (q04 _) ?_ |refine q0a (fun vs w=>by kernel_rfl) (by kernel_rfl) (q04 _) ?_ |refine q0b (fun vs w=>by kernel_rfl) (by kernel_rfl) (iw) ?_ |refine q0a (fun vs w=>by kernel_rfl) (by kernel_rfl) (iw) ?_ |refine q0b (fun vs w=>by kernel_rfl) (by kernel_rfl) (ih) ?_ |refine q0a (fun vs w=>by kernel_rfl) (by kernel_rfl) (ih) ?_ |refine q0b (fun vs w=>by kernel_rfl) (by kernel_rfl) (ir) ?_ |refine q0a (fun vs w=>by kernel_rfl) (by kernel_rfl) (ir) ?_ |refine q0b (fun vs w=>by kernel_rfl) (by kernel_rfl) (cw) ?_ |refine q0a (fun vs w=>by kernel_rfl) (by kernel_rfl) (cw) ?_ |refine q0b (fun vs w=>by kernel_rfl) (by kernel_rfl) (ch) ?_ |refine q0a (fun vs w=>by kernel_rfl) (by kernel_rfl) (ch) ?_ |refine q0b (fun vs w=>by kernel_rfl) (by kernel_rfl) (cr) ?_ |refine q0a (fun vs w=>by kernel_rfl) (by kernel_rfl) (cr) ?_ |refine q0b (fun vs w=>by kernel_rfl) (by kernel_rfl) (m1) ?_ |refine q0a (fun vs w=>by kernel_rfl) (by kernel_rfl) (m1) ?_ |refine q0b (fun vs w=>by kernel_rfl) (by kernel_rfl) (m2) ?_ |refine q0a (fun vs w=>by kernel_rfl) (by kernel_rfl) (m2) ?_))))
          conv=>whnf
          try simp
    · by_cases b3:0≤r∧r≤64
      · have iw:=q03 w 1 256 G true (⟨fun _=>bw,fun _=>rfl⟩)
        have ih:=q03 h 1 256 G false (⟨(fun h=>by cases h),fun h=>absurd h bh⟩)
        have ir:=q03 r 0 64 G true (⟨fun _=>b3,fun _=>rfl⟩)
        have he:pcsE w2 h n p≠0:=q6r (by omega)
        have m1:=q4o (w:=w2) (h:=h) (c:=c) (key:=key) (r:=r2) hP hnm he
        have m2:=q14 (w:=w2) (h:=h) (c:=c) hP hnm
        generalize pcsE w2 h n p=e at *
        (repeat ((try (conv=>whnf));(first |(refine stQ ?_) |(with_reducible first |refine q0b (fun vs w=>by kernel_rfl) (by kernel_rfl) (q04 _) ?_ |refine q0a (fun vs w=>by kernel_rfl) (by kernel_rfl) (q04 _) ?_ |refine q0b (fun vs w=>by kernel_rfl) (by kernel_rfl) (iw) ?_ |refine q0a (fun vs w=>by kernel_rfl) (by kernel_rfl) (iw) ?_ |refine q0b (fun vs w=>by kernel_rfl) (by kernel_rfl) (ih) ?_ |refine q0a (fun vs w=>by kernel_rfl) (by kernel_rfl) (ih) ?_ |refine q0b (fun vs w=>by kernel_rfl) (by kernel_rfl) (ir) ?_ |refine q0a (fun vs w=>by kernel_rfl) (by kernel_rfl) (ir) ?_ |refine q0b (fun vs w=>by kernel_rfl) (by kernel_rfl) (cw) ?_ |refine q0a (fun vs w=>by kernel_rfl) (by kernel_rfl) (cw) ?_ |refine q0b (fun vs w=>by kernel_rfl) (by kernel_rfl) (ch) ?_ |refine q0a (fun vs w=>by kernel_rfl) (by kernel_rfl) (ch) ?_ |refine q0b (fun vs w=>by kernel_rfl) (by kernel_rfl) (cr) ?_ |refine q0a (fun vs w=>by kernel_rfl) (by kernel_rfl) (cr) ?_ |refine q0b (fun vs w=>by kernel_rfl) (by kernel_rfl) (m1) ?_ |refine q0a (fun vs w=>by kernel_rfl) (by kernel_rfl) (m1) ?_ |refine q0b (fun vs w=>by kernel_rfl) (by kernel_rfl) (m2) ?_ |refine q0a (fun vs w=>by kernel_rfl) (by kernel_rfl) (m2) ?_))))
        conv=>whnf
        try simp
      · have iw:=q03 w 1 256 G true (⟨fun _=>bw,fun _=>rfl⟩)
        have ih:=q03 h 1 256 G false (⟨(fun h=>by cases h),fun h=>absurd h bh⟩)
        have ir:=q03 r 0 64 G false (⟨(fun h=>by cases h),fun h=>absurd h b3⟩)
        have he:pcsE w2 h n p≠0:=q6r (by omega)
        have m1:=q4o (w:=w2) (h:=h) (c:=c) (key:=key) (r:=r) hP hnm he
        have m2:=q14 (w:=w2) (h:=h) (c:=c) hP hnm
        generalize pcsE w2 h n p=e at *
        (repeat ((try (conv=>whnf));(first |(refine stQ ?_) |(with_reducible first |refine q0b (fun vs w=>by kernel_rfl) (by kernel_rfl) (q04 _) ?_ |refine q0a (fun vs w=>by kernel_rfl) (by kernel_rfl) (q04 _) ?_ |refine q0b (fun vs w=>by kernel_rfl) (by kernel_rfl) (iw) ?_ |refine q0a (fun vs w=>by kernel_rfl) (by kernel_rfl) (iw) ?_ |refine q0b (fun vs w=>by kernel_rfl) (by kernel_rfl) (ih) ?_ |refine q0a (fun vs w=>by kernel_rfl) (by kernel_rfl) (ih) ?_ |refine q0b (fun vs w=>by kernel_rfl) (by kernel_rfl) (ir) ?_ |refine q0a (fun vs w=>by kernel_rfl) (by kernel_rfl) (ir) ?_ |refine q0b (fun vs w=>by kernel_rfl) (by kernel_rfl) (cw) ?_ |refine q0a (fun vs w=>by kernel_rfl) (by kernel_rfl) (cw) ?_ |refine q0b (fun vs w=>by kernel_rfl) (by kernel_rfl) (ch) ?_ |refine q0a (fun vs w=>by kernel_rfl) (by kernel_rfl) (ch) ?_ |refine q0b (fun vs w=>by kernel_rfl) (by kernel_rfl) (cr) ?_ |refine q0a (fun vs w=>by kernel_rfl) (by kernel_rfl) (cr) ?_ |refine q0b (fun vs w=>by kernel_rfl) (by kernel_rfl) (m1) ?_ |refine q0a (fun vs w=>by kernel_rfl) (by kernel_rfl) (m1) ?_ |refine q0b (fun vs w=>by kernel_rfl) (by kernel_rfl) (m2) ?_ |refine q0a (fun vs w=>by kernel_rfl) (by kernel_rfl) (m2) ?_))))
        conv=>whnf
        try simp
  · by_cases bh:1≤h∧h≤256
    · by_cases b3:0≤r∧r≤64
      · have iw:=q03 w 1 256 G false (⟨(fun h=>by cases h),fun h=>absurd h bw⟩)
        have ih:=q03 h 1 256 G true (⟨fun _=>bh,fun _=>rfl⟩)
        have ir:=q03 r 0 64 G true (⟨fun _=>b3,fun _=>rfl⟩)
        have he:pcsE w h2 n p≠0:=q6r (by omega)
        have m1:=q4o (w:=w) (h:=h2) (c:=c) (key:=key) (r:=r2) hP hnm he
        have m2:=q14 (w:=w) (h:=h2) (c:=c) hP hnm
        generalize pcsE w h2 n p=e at *
        (repeat ((try (conv=>whnf));(first |(refine stQ ?_) |(with_reducible first |refine q0b (fun vs w=>by kernel_rfl) (by kernel_rfl) (q04 _) ?_ |refine q0a (fun vs w=>by kernel_rfl) (by kernel_rfl) (q04 _) ?_ |refine q0b (fun vs w=>by kernel_rfl) (by kernel_rfl) (iw) ?_ |refine q0a (fun vs w=>by kernel_rfl) (by kernel_rfl) (iw) ?_ |refine q0b (fun vs w=>by kernel_rfl) (by kernel_rfl) (ih) ?_ |refine q0a (fun vs w=>by kernel_rfl) (by kernel_rfl) (ih) ?_ |refine q0b (fun vs w=>by kernel_rfl) (by kernel_rfl) (ir) ?_ |refine q0a (fun vs w=>by kernel_rfl) (by kernel_rfl) (ir) ?_ |refine q0b (fun vs w=>by kernel_rfl) (by kernel_rfl) (cw) ?_ |refine q0a (fun vs w=>by kernel_rfl) (by kernel_rfl) (cw) ?_ |refine q0b (fun vs w=>by kernel_rfl) (by kernel_rfl) (ch) ?_ |refine q0a (fun vs w=>by kernel_rfl) (by kernel_rfl) (ch) ?_ |refine q0b (fun vs w=>by kernel_rfl) (by kernel_rfl) (cr) ?_ |refine q0a (fun vs w=>by kernel_rfl) (by kernel_rfl) (cr) ?_ |refine q0b (fun vs w=>by kernel_rfl) (by kernel_rfl) (m1) ?_ |refine q0a (fun vs w=>by kernel_rfl) (by kernel_rfl) (m1) ?_ |refine q0b (fun vs w=>by kernel_rfl) (by kernel_rfl) (m2) ?_ |refine q0a (fun vs w=>by kernel_rfl) (by kernel_rfl) (m2) ?_))))
        conv=>whnf
        try simp
      · have iw:=q03 w 1 256 G false (⟨(fun h=>by cases h),fun h=>absurd h bw⟩)
        have ih:=q03 h 1 256 G true (⟨fun _=>bh,fun _=>rfl⟩)
        have ir:=q03 r 0 64 G false (⟨(fun h=>by cases h),fun h=>absurd h b3⟩)
        have he:pcsE w h2 n p≠0:=q6r (by omega)
        have m1:=q4o (w:=w) (h:=h2) (c:=c) (key:=key) (r:=r) hP hnm he
        have m2:=q14 (w:=w) (h:=h2) (c:=c) hP hnm
        generalize pcsE w h2 n p=e at *
        (repeat ((try (conv=>whnf));(first |(refine stQ ?_) |(with_reducible first |refine q0b (fun vs w=>by kernel_rfl) (by kernel_rfl) (q04 _) ?_ |refine q0a (fun vs w=>by kernel_rfl) (by kernel_rfl) (q04 _) ?_ |refine q0b (fun vs w=>by kernel_rfl) (by kernel_rfl) (iw) ?_ |refine q0a (fun vs w=>by kernel_rfl) (by kernel_rfl) (iw) ?_ |refine q0b (fun vs w=>by kernel_rfl) (by kernel_rfl) (ih) ?_ |refine q0a (fun vs w=>by kernel_rfl) (by kernel_rfl) (ih) ?_ |refine q0b (fun vs w=>by kernel_rfl) (by kernel_rfl) (ir) ?_ |refine q0a (fun vs w=>by kernel_rfl) (by kernel_rfl) (ir) ?_ |refine q0b (fun vs w=>by kernel_rfl) (by kernel_rfl) (cw) ?_ |refine q0a (fun vs w=>by kernel_rfl) (by kernel_rfl) (cw) ?_ |refine q0b (fun vs w=>by kernel_rfl) (by kernel_rfl) (ch) ?_ |refine q0a (fun vs w=>by kernel_rfl) (by kernel_rfl) (ch) ?_ |refine q0b (fun vs w=>by kernel_rfl) (by kernel_rfl) (cr) ?_ |refine q0a (fun vs w=>by kernel_rfl) (by kernel_rfl) (cr) ?_ |refine q0b (fun vs w=>by kernel_rfl) (by kernel_rfl) (m1) ?_ |refine q0a (fun vs w=>by kernel_rfl) (by kernel_rfl) (m1) ?_ |refine q0b (fun vs w=>by kernel_rfl) (by kernel_rfl) (m2) ?_ |refine q0a (fun vs w=>by kernel_rfl) (by kernel_rfl) (m2) ?_))))
        conv=>whnf
        try simp
    · by_cases b3:0≤r∧r≤64
      · have iw:=q03 w 1 256 G false (⟨(fun h=>by cases h),fun h=>absurd h bw⟩)
        have ih:=q03 h 1 256 G false (⟨(fun h=>by cases h),fun h=>absurd h bh⟩)
        have ir:=q03 r 0 64 G true (⟨fun _=>b3,fun _=>rfl⟩)
        have he:pcsE w h n p≠0:=q6r (by omega)
        have m1:=q4o (w:=w) (h:=h) (c:=c) (key:=key) (r:=r2) hP hnm he
        have m2:=q14 (w:=w) (h:=h) (c:=c) hP hnm
        generalize pcsE w h n p=e at *
        (repeat ((try (conv=>whnf));(first |(refine stQ ?_) |(with_reducible first |refine q0b (fun vs w=>by kernel_rfl) (by kernel_rfl) (q04 _) ?_ |refine q0a (fun vs w=>by kernel_rfl) (by kernel_rfl) (q04 _) ?_ |refine q0b (fun vs w=>by kernel_rfl) (by kernel_rfl) (iw) ?_ |refine q0a (fun vs w=>by kernel_rfl) (by kernel_rfl) (iw) ?_ |refine q0b (fun vs w=>by kernel_rfl) (by kernel_rfl) (ih) ?_ |refine q0a (fun vs w=>by kernel_rfl) (by kernel_rfl) (ih) ?_ |refine q0b (fun vs w=>by kernel_rfl) (by kernel_rfl) (ir) ?_ |refine q0a (fun vs w=>by kernel_rfl) (by kernel_rfl) (ir) ?_ |refine q0b (fun vs w=>by kernel_rfl) (by kernel_rfl) (cw) ?_ |refine q0a (fun vs w=>by kernel_rfl) (by kernel_rfl) (cw) ?_ |refine q0b (fun vs w=>by kernel_rfl) (by kernel_rfl) (ch) ?_ |refine q0a (fun vs w=>by kernel_rfl) (by kernel_rfl) (ch) ?_ |refine q0b (fun vs w=>by kernel_rfl) (by kernel_rfl) (cr) ?_ |refine q0a (fun vs w=>by kernel_rfl) (by kernel_rfl) (cr) ?_ |refine q0b (fun vs w=>by kernel_rfl) (by kernel_rfl) (m1) ?_ |refine q0a (fun vs w=>by kernel_rfl) (by kernel_rfl) (m1) ?_ |refine q0b (fun vs w=>by kernel_rfl) (by kernel_rfl) (m2) ?_ |refine q0a (fun vs w=>by kernel_rfl) (by kernel_rfl) (m2) ?_))))
        conv=>whnf
        try simp
      · have iw:=q03 w 1 256 G false (⟨(fun h=>by cases h),fun h=>absurd h bw⟩)
        have ih:=q03 h 1 256 G false (⟨(fun h=>by cases h),fun h=>absurd h bh⟩)
        have ir:=q03 r 0 64 G false (⟨(fun h=>by cases h),fun h=>absurd h b3⟩)
        have he:pcsE w h n p≠0:=q6r (by omega)
        have m1:=q4o (w:=w) (h:=h) (c:=c) (key:=key) (r:=r) hP hnm he
        have m2:=q14 (w:=w) (h:=h) (c:=c) hP hnm
        generalize pcsE w h n p=e at *
        (repeat ((try (conv=>whnf));(first |(refine stQ ?_) |(with_reducible first |refine q0b (fun vs w=>by kernel_rfl) (by kernel_rfl) (q04 _) ?_ |refine q0a (fun vs w=>by kernel_rfl) (by kernel_rfl) (q04 _) ?_ |refine q0b (fun vs w=>by kernel_rfl) (by kernel_rfl) (iw) ?_ |refine q0a (fun vs w=>by kernel_rfl) (by kernel_rfl) (iw) ?_ |refine q0b (fun vs w=>by kernel_rfl) (by kernel_rfl) (ih) ?_ |refine q0a (fun vs w=>by kernel_rfl) (by kernel_rfl) (ih) ?_ |refine q0b (fun vs w=>by kernel_rfl) (by kernel_rfl) (ir) ?_ |refine q0a (fun vs w=>by kernel_rfl) (by kernel_rfl) (ir) ?_ |refine q0b (fun vs w=>by kernel_rfl) (by kernel_rfl) (cw) ?_ |refine q0a (fun vs w=>by kernel_rfl) (by kernel_rfl) (cw) ?_ |refine q0b (fun vs w=>by kernel_rfl) (by kernel_rfl) (ch) ?_ |refine q0a (fun vs w=>by kernel_rfl) (by kernel_rfl) (ch) ?_ |refine q0b (fun vs w=>by kernel_rfl) (by kernel_rfl) (cr) ?_ |refine q0a (fun vs w=>by kernel_rfl) (by kernel_rfl) (cr) ?_ |refine q0b (fun vs w=>by kernel_rfl) (by kernel_rfl) (m1) ?_ |refine q0a (fun vs w=>by kernel_rfl) (by kernel_rfl) (m1) ?_ |refine q0b (fun vs w=>by kernel_rfl) (by kernel_rfl) (m2) ?_ |refine q0a (fun vs w=>by kernel_rfl) (by kernel_rfl) (m2) ?_))))
        conv=>whnf
        try simp
theorem walk (a0:Int) (a1:Int) (A2:Option Addr) (n2:Nat) (q2:Nat) (g2:Nat→Nat→Value) (a3:Int) (a4:Int) (w:World) (w0:(Lit.int .i64 a0).wf=true) (w1:(Lit.int .i64 a1).wf=true) (c2:n2≤q2) (m2:q2≤maxLen) (s2:SliceG Try.prog w 29 A2 n2 g2) (w3:(Lit.int .i64 a3).wf=true) (w4:(Lit.int .i64 a4).wf=true) :
    Calls Try.prog 4 #[.int .i64 a0,.int .i64 a1,.slice A2 n2 q2,.int .i64 a3,.int .i64 a4] w fun e w'=>e=.returned (.bool true)∧Below w.heap.size w w':=by
  obtain ⟨p,hp⟩:=x6j s2
  exact x5g tab_ok Try.func4 (z0m [.int .i64 a0,.int .i64 a1,.slice A2 n2 q2,.int .i64 a3,.int .i64 a4]) (body hp c2 m2)
end Go.Proofs.Ytbkhpddodmbdoaa.pullCells
