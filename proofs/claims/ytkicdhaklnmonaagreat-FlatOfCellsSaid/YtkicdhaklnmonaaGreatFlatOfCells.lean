/-
  FlatOfCells: the law's walk.
-/
import Derived.Test.YtkicdhaklnmonaaGreatMrg34
import Derived.Test.YtkicdhaklnmonaaGreatMrg31
set_option linter.unusedVariables false
set_option linter.unusedSimpArgs false
set_option linter.unnecessarySimpa false
namespace Go.Proofs.YtkicdhaklnmonaaGreat.flatOfCells
open Go.RowKit Go.Deep
set_option maxRecDepth 20000
theorem x7r:flat Tryz.prog 20 33=[.int .u8,.int .u8,.int .u8,.int .u8,.int .u8,.int .u8,.int .u8,.int .u8]:=by kernel_rfl
theorem x99:q4f Tryz.prog 20 33=true:=by kernel_rfl
theorem ink8:Tryz.prog.cellsOf 33=8:=by kernel_rfl
theorem v0a {w:World} {A:Option Addr} {n:Nat} {g:Nat→Nat→Value} (h:SliceG Tryz.prog w 33 A n g):∃ I:Nat→Nat→Int,ElsM (q86 w) A 8 n (fun i=>inkC (I i))∧∀ i j,0≤I i j∧I i j≤255:=by
  have hv:∀ x,x<n→∀ j,j<8→g x j=.int .u8 (valI (g x j))∧0≤valI (g x j)∧valI (g x j)≤255:=fun x hx j hj=>by
    have e:=h.int (j:=j) (k:=.u8) x99 hx (by rw [x7r];rcases lt8 hj with rfl |rfl |rfl |rfl |rfl |rfl |rfl |rfl <;> rfl)
    exact ⟨e.1,v0o e.2⟩
  refine ⟨fun x j=>if x<n∧j<8 then valI (g x j) else 0,⟨fun _ _=>rfl,fun x hx=>?_⟩,fun i j=>?_⟩
  · obtain ⟨b,off,rfl,_,hc⟩:=h (by omega)
    rw [ink8] at hc
    refine ⟨b,off,rfl,fun j v hj=>?_⟩
    have hj8:j<8:=(List.getElem?_eq_some_iff.1 hj).1
    have e:=x8z (I:=fun j=>if x<n∧j<8 then valI (g x j) else 0) hj8
    rw [if_pos ⟨hx,hj8⟩,← (hv x hx j hj8).1] at e
    rw [e] at hj
    cases hj
    exact (hc x hx).1 j (by omega)
  · dsimp only
    split
    · rename_i h1;exact (hv i h1.1 j h1.2).2
    · omega
def q8f (I:Nat→Nat→Int) (n k:Nat) (i:Nat):Nat→Int:=if 0<n then I ((i*k/16+i%7)%n) else fun _=>0
def q5w (I:Nat→Nat→Int) (n k m:Nat) (i:Nat):Nat→Int:=if i<m then q8f I n k i else fun _=>0
set_option maxHeartbeats 8000000 in
theorem body {A:Option Addr} {n c:Nat} {I:Nat→Nat→Int} {w h k:Int} {G:Mem} (hE:ElsM G A 8 n fun i=>inkC (I i)) (hI:∀ i j,0≤I i j∧I i j≤255) (hn:n≤c) (hc:c≤maxLen) :
    q39 Tryz.prog tab 0 Tryz.f4 [.val (.int .i64 w),.val (.int .i64 h),.val (.slice A n c),.val (.int .i64 k)] [] G fun v _ _=>v=.val (.bool true):=by
  unfold maxLen at hc
  obtain ⟨w2,hw2,cw0⟩:=z6a w 1 2 (by omega)
  obtain ⟨h2,hh2,ch0⟩:=z6a h 1 2 (by omega)
  obtain ⟨k2,hk2,ck0⟩:=z6a k 1 50 (by omega)
  have cw:=cw0 G
  have ch:=ch0 G
  have ck:=ck0 G
  obtain ⟨wn,rfl⟩:∃ k:Nat,w2=k:=⟨w2.toNat,by omega⟩
  obtain ⟨hn2,rfl⟩:∃ k:Nat,h2=k:=⟨h2.toNat,by omega⟩
  obtain ⟨kn,rfl⟩:∃ k:Nat,k2=k:=⟨k2.toNat,by omega⟩
  obtain ⟨W,hW⟩:∃ W,W=16*wn:=⟨_,rfl⟩
  obtain ⟨N,hN⟩:∃ N,N=16*hn2*W:=⟨_,rfl⟩
  have hNb:N≤1024:=by
    rw [hN,hW]
    have:16*hn2*(16*wn)≤32*32:=Nat.mul_le_mul (by omega) (by omega)
    omega
  have eN:(256:Int)*(wn:Int)*(hn2:Int)=(N:Int):=by
    rw [hN,hW];push_cast
    rw [show (16:Int)*hn2*(16*wn)=256*wn*hn2 by
      rw [Int.mul_comm 16 (hn2:Int),Int.mul_assoc,← Int.mul_assoc 16 16,Int.mul_comm (hn2:Int)];rfl]
  (repeat ((try (conv=>whnf));(first |(refine stQ ?_) |(with_reducible first |refine q0k (fun vs w=>by kernel_rfl) (by kernel_rfl) (z3c _) ?_ |refine q0j (fun vs w=>by kernel_rfl) (by kernel_rfl) (z3c _) ?_ |refine q0k (fun vs w=>by kernel_rfl) (by kernel_rfl) (cw) ?_ |refine q0j (fun vs w=>by kernel_rfl) (by kernel_rfl) (cw) ?_ |refine q0k (fun vs w=>by kernel_rfl) (by kernel_rfl) (ch) ?_ |refine q0j (fun vs w=>by kernel_rfl) (by kernel_rfl) (ch) ?_))))
  conv=>whnf
  refine q0y tab_ok (fun m=>m≤N) (fun (m:Nat)=>[(28,.val (.int .i64 m))]) (fun m=>[.own 33 8 N (q0m (fun i=>inkC (q5w I n kn m i)) N)]) (fun m=>N-m) 0 (Nat.zero_le _) ?_ ?_
  · ((refine q0g ?_);(conv=>whnf);(refine q0i (by rfl) (by rfl) flQ ?_))
    refine q0b ?_ ?_ q0d
    · show (256*(wn:Int)*(hn2:Int)).toNat=N
      omega
    · rw [show (256*(wn:Int)*(hn2:Int)).toNat=N by omega]
      exact (z7e N).trans (q14 fun i hi=>by unfold q5w;rw [if_neg (by omega)])
  · rintro m hm
    rcases Nat.lt_or_ge m N with h1 |h1
    · have hmk:(m:Int)*(kn:Int)≤51200∧0≤(m:Int)*(kn:Int):=by
        have h2:m*kn≤1024*50:=Nat.mul_le_mul (by omega) (by omega)
        have h3:((m*kn:Nat):Int)=(m:Int)*(kn:Int):=Int.natCast_mul _ _
        omega
      by_cases h0:0<n
      · have d1:((m:Int)*(kn:Int)).tdiv 16=((m*kn/16:Nat):Int):=by rw [← Int.natCast_mul];exact (Int.ofNat_tdiv _ 16).symm
        have d2:(m:Int).tmod 7=((m%7:Nat):Int):=(Int.ofNat_tmod m 7).symm
        have d3:(((m*kn/16:Nat):Int)+((m%7:Nat):Int)).tmod (n:Int)=(((m*kn/16+m%7)%n:Nat):Int):=by rw [← Int.natCast_add];exact (Int.ofNat_tmod _ n).symm
        have hq:=Nat.mod_lt (m*kn/16+m%7) h0
        obtain ⟨a,rfl,ci⟩:=hE.cells hq
        (repeat ((try (conv=>whnf));(first |(refine ci _ ?_) |(refine stQ ?_) |(with_reducible first |refine q0k (fun vs w=>by kernel_rfl) (by kernel_rfl) (ck) ?_ |refine q0j (fun vs w=>by kernel_rfl) (by kernel_rfl) (ck) ?_))))
        conv=>whnf
        rw [d1,d2,d3]
        generalize hqq:(m*kn/16+m%7)%n=q at *
        (repeat ((try (conv=>whnf));(first |(refine ci _ ?_) |(refine stQ ?_))))
        conv=>whnf
        have hput:(q0m (fun i=>inkC (q5w I n kn m i)) N).take (m*8+0)++inkC (I q)++(q0m (fun i=>inkC (q5w I n kn m i)) N).drop (m*8+0+(inkC (I q)).length)=q0m (fun i=>inkC (q5w I n kn (m+1) i)) N:=by
          rw [z3p (sz:=8) (fun _ _=>rfl) h1 (Nat.le_refl _)]
          refine q14 fun i hi=>?_
          unfold q5w
          by_cases e:i=m
          · subst e
            have e2:q8f I n kn i=I q:=by unfold q8f;rw [if_pos h0,hqq]
            rw [if_pos rfl,if_pos (show i<i+1 by omega),e2];rfl
          · rw [if_neg e]
            by_cases h4:i<m
            · rw [if_pos h4,if_pos (by omega)]
            · rw [if_neg h4,if_neg (by omega)]
        refine q2p (ys:=q0m (fun i=>inkC (q5w I n kn (m+1) i)) N) (vs:=inkC (I q)) (by rw [q2y (sz:=8) (fun _ _=>rfl)];show m*8+8≤_;omega) hput ?_
        conv=>whnf
        (repeat ((try (conv=>whnf));(refine stQ ?_)))
        conv=>whnf
        refine ⟨m+1,by omega,by omega,?_⟩
        ((refine q0g ?_);(conv=>whnf);(refine q0i (by rfl) (by rfl) flQ ?_))
        exact q0b rfl rfl q0d
      · have hsame:q0m (fun i=>inkC (q5w I n kn (m+1) i)) N=q0m (fun i=>inkC (q5w I n kn m i)) N:=q14 fun i hi=>by
          unfold q5w q8f
          rw [if_neg h0]
          simp
        (repeat ((try (conv=>whnf));(refine stQ ?_)))
        conv=>whnf
        refine ⟨m+1,by omega,by omega,?_⟩
        ((refine q0g ?_);(conv=>whnf);(refine q0i (by rfl) (by rfl) flQ ?_))
        exact q0b rfl hsame.symm q0d
    · obtain rfl:m=N:=by omega
      have hJ:∀ i j,0≤q8f I n kn i j∧q8f I n kn i j≤255:=fun i j=>by
        unfold q8f;split
        · exact hI _ j
        · simp
      have hall:q0m (fun i=>inkC (q5w I n kn m i)) m=q0m (fun i=>inkC (q8f I n kn i)) m:=q14 fun i hi=>by unfold q5w;rw [if_pos hi]
      rw [hall]
      generalize q8f I n kn=J at *
      (repeat ((try (conv=>whnf));(refine stQ ?_)))
      conv=>whnf
      refine z90 (n:=m) (fun vs w=>by kernel_rfl) (by exact rfl) (hN ▸ Nat.mul_pos (by omega) (by omega)) (fun A3 c3 F hF hc3 hm3 hx3=>x26 (w:=wn) (h:=hn2) (by omega) (by omega) hW hN (by omega) ⟨hc3,hm3⟩ (hx3.els (fun _ _=>rfl) (by omega))) fun wr n2 xs2 G2 A2 c2 G5 hR2 hG5 hGG hc5 hm5 hF2=>?_
      conv=>whnf
      obtain ⟨rfl,rfl,B2,rfl,hB2⟩:=hR2
      have hQ:=x5j (J:=J) (fun i hi j=>hJ i j) hF2 (fun k q hq=>⟨(hB2 k q hq).1,(hB2 k q hq).2.1,(hB2 k q hq).2.2.1,(hB2 k q hq).2.2.2.mono hG5⟩)
      (repeat ((try (conv=>whnf));(refine stQ ?_)))
      conv=>whnf
      refine x29 (fun vs w=>by kernel_rfl) (by exact rfl) fun A3 c3 G3 hG3 hc3 hm3 hx3=>?_
      conv=>whnf
      have hE5:ElsM G3 A3 8 m fun i=>inkC (J i):=hx3.els (fun _ _=>rfl) (by omega)
      have mq:=z58 (w:=wn) (J:=J) (by omega) hW (by omega) ⟨hc3,hm3⟩ hE5
      refine z05 (fun vs w=>by kernel_rfl) (by kernel_rfl) mq fun wr6 n6 xs6 G6 A6 c6 G7 hG6 hR6 hG7 hc6 hm6 hF6=>?_
      obtain ⟨hwr,rfl,B6,rfl,hB6⟩:=hR6
      rw [hwr]
      have hxs:q0m (fun k=>B6 k::inkC (keyI (gat (fun i=>vecI (J i)) W m) k)) (gat (fun i=>vecI (J i)) W m).length=q0m (fun k=>pcC (gatP (gat (fun i=>vecI (J i)) W m) B6 k)) (gat (fun i=>vecI (J i)) W m).length :=
        q14 fun k hk=>by
          have:=(hB6 k _ (List.getElem?_eq_getElem hk)).2.1
          unfold pcC
          rw [← this];rfl
      rw [hxs] at hF6
      have hQ2:=x5j (J:=J) (fun i hi j=>hJ i j) hF6 (fun k q hq=>⟨(hB6 k q hq).1,(hB6 k q hq).2.2.1,(hB6 k q hq).2.2.2.1,(hB6 k q hq).2.2.2.2.mono hG7⟩)
      have hgo:=q7t (fun i=>vecI (J i)) (show 0<W by omega) m
      have hfew:=hgo.few
      have hmx:1024≤maxLen:=by unfold maxLen;omega
      have sp:=z3x (c:=c2) (d:=c6) (hQ.mono (Mem.le_trans hG3 (Mem.le_trans hG6 hG7))) hQ2 (fun k hk=>⟨by rw [(hB6 k _ (List.getElem?_eq_getElem hk)).1,(hB2 k _ (List.getElem?_eq_getElem hk)).1],rfl⟩) (by omega) (fun k hk=>by
        rw [(hB2 k _ (List.getElem?_eq_getElem hk)).1]
        have:=(hgo.runs _ (List.getElem_mem hk)).1
        omega)
      (repeat ((try (conv=>whnf));(first |(refine stQ ?_) |(with_reducible first |refine q0k (fun vs w=>by kernel_rfl) (by kernel_rfl) (sp) ?_ |refine q0j (fun vs w=>by kernel_rfl) (by kernel_rfl) (sp) ?_))))
      conv=>whnf
      try simp
theorem walk (a0:Int) (a1:Int) (A2:Option Addr) (n2:Nat) (q2:Nat) (g2:Nat→Nat→Value) (a3:Int) (w:World) (w0:(Lit.int .i64 a0).wf=true) (w1:(Lit.int .i64 a1).wf=true) (c2:n2≤q2) (m2:q2≤maxLen) (s2:SliceG Tryz.prog w 33 A2 n2 g2) (w3:(Lit.int .i64 a3).wf=true) :
    Calls Tryz.prog 4 #[.int .i64 a0,.int .i64 a1,.slice A2 n2 q2,.int .i64 a3] w fun e w'=>e=.returned (.bool true)∧Below w.heap.size w w':=by
  obtain ⟨I,h1,h2⟩:=v0a s2
  exact x8t tab_ok Tryz.func4 (z1k [.int .i64 a0,.int .i64 a1,.slice A2 n2 q2,.int .i64 a3]) (body h1 h2 c2 m2)
end Go.Proofs.YtkicdhaklnmonaaGreat.flatOfCells
