/-
  Merged: XRamp, XRRamp.
-/
import Derived.Test.YticolnghiibgfaaGreatMrg8
import Derived.Test.YticolnghiibgfaaGreatMrg9
set_option linter.unusedVariables false
set_option linter.unusedSimpArgs false
set_option linter.unnecessarySimpa false
namespace Go.Proofs.YticolnghiibgfaaGreat
open Go.RowKit
def StopsAt (w:World) (b off n:Nat) (P:Nat→Int) (V:Nat→Nat→Int):Prop :=
  b<w.heap.size∧∀ i,i<n→w.cell? ⟨b,off+i*9,none⟩=some (.int .i64 (P i))∧∀ j,j<8→w.cell? ⟨b,off+i*9+(j+1),none⟩=some (.int .u8 (V i j))
theorem StopsAt.below {w w':World} {b off n:Nat} {P:Nat→Int} {V:Nat→Nat→Int} (h:StopsAt w b off n P V) (hb:Below w.heap.size w w'):StopsAt w' b off n P V :=
  ⟨Nat.lt_of_lt_of_le h.1 hb.size,fun i hi=>⟨(hb.cell (p:=⟨b,_,none⟩) h.1).trans (h.2 i hi).1,fun j hj=>(hb.cell (p:=⟨b,_,none⟩) h.1).trans ((h.2 i hi).2 j hj)⟩⟩
theorem q3l (m:Nat):((m+1:Nat):Int)-1=(m:Int):=by omega
theorem x9c (p:Int) (I:Nat→Int) (j:Nat) (hj:j<8):(#[Value.int .i64 p,.int .u8 (I 0),.int .u8 (I 1),.int .u8 (I 2),.int .u8 (I 3),.int .u8 (I 4),.int .u8 (I 5),.int .u8 (I 6),.int .u8 (I 7)])[j+1]? = some (.int .u8 (I j)):=by
  match j,hj with
  | 0,_=>rfl
  | 1,_=>rfl
  | 2,_=>rfl
  | 3,_=>rfl
  | 4,_=>rfl
  | 5,_=>rfl
  | 6,_=>rfl
  | 7,_=>rfl
structure Fill8 (W wr:World) (b k:Nat) (B:Nat→Int):Prop where
  below:Below b W wr
  size:b<wr.heap.size
  cells:∀ o,o<8→wr.cell? ⟨b,o,none⟩=some (.int .u8 (if o<k then B o else 0))
  free:∀ o,wr.frozen? ⟨b,o,none⟩=false
theorem Fill8.later {W wr w':World} {b k:Nat} {B:Nat→Int} (h:Fill8 W wr b k B) (hb:Below wr.heap.size wr w'):Fill8 W w' b k B:=by
  have hs:=h.size
  refine ⟨h.below.trans (hb.mono (by omega)),Nat.lt_of_lt_of_le hs hb.size,fun o ho=>?_,fun o=>?_⟩
  · exact (hb.cell (p:=⟨b,o,none⟩) hs).trans (h.cells o ho)
  · exact (hb.frozen (p:=⟨b,o,none⟩) hs).trans (h.free o)
theorem Fill8.step {W wr:World} {b k:Nat} {B:Nat→Int} (h:Fill8 W wr b k B) (_:k<8):Fill8 W (wr.setCell ⟨b,k,none⟩ (.int .u8 (B k))) b (k+1) B:=by
  refine ⟨h.below.setCell (Nat.le_refl _) _,by rw [World.size_setCell];exact h.size,fun o ho=>?_,fun o=>by rw [World.frozen?_setCell];exact h.free o⟩
  rw [q6i,if_pos rfl]
  by_cases hc:o=k
  · subst hc
    rw [if_pos rfl,h.cells _ ho,if_pos (show o<o+1 by omega)]
    rfl
  · rw [if_neg hc,h.cells o ho]
    by_cases h1:o<k
    · rw [if_pos h1,if_pos (by omega)]
    · rw [if_neg h1,if_neg (by omega)]
set_option maxRecDepth 20000 in
set_option maxHeartbeats 4000000 in
theorem x50 (b off n cap:Nat) (P:Nat→Int) (V:Nat→Nat→Int) (t:Int) (w:World) (hn:1≤n∧n≤16) (ht:0≤t∧t≤65536) (hP:∀ i,i<n→0≤P i∧P i≤65536) (hst:StopsAt w b off n P V) (hno:∀ i,i<n→t<P i) :
    Calls Tryz.prog 131 #[.slice (some ⟨b,off,none⟩) n cap,.int .i64 t] w fun e w'=>e=.returned (.agg #[.int .u8 (V 0 0),.int .u8 (V 0 1),.int .u8 (V 0 2),.int .u8 (V 0 3),.int .u8 (V 0 4),.int .u8 (V 0 5),.int .u8 (V 0 6),.int .u8 (V 0 7)])∧Below w.heap.size w w':=by
  have HS:Hid _:=hst
  have HN:Hid _:=hno
  have HPb:Hid _:=hP
  clear hst hno hP
  go_enter Tryz.func131,Tryz.ntmps131
  go_wp2_with fail
  obtain ⟨W1,hW1⟩:∃ W1,W1=w.alloc (.cells #[.int .u8 0,.int .u8 0,.int .u8 0,.int .u8 0,.int .u8 0,.int .u8 0,.int .u8 0,.int .u8 0] 28):=⟨_,rfl⟩
  rw [← hW1]
  have B1:Hid (Below w.heap.size w W1):=show Below w.heap.size w W1 by rw [hW1];exact blQ
  have hSt:StopsAt W1 b off n P V:=StopsAt.below HS.out B1.out
  have hr:∀ o,W1.cell? ⟨w.heap.size,o,none⟩=#[Value.int .u8 0,.int .u8 0,.int .u8 0,.int .u8 0,.int .u8 0,.int .u8 0,.int .u8 0,.int .u8 0][o]?:=fun o=>by rw [hW1,q0n,if_pos rfl]
  have hrF:∀ o,W1.frozen? ⟨w.heap.size,o,none⟩=false:=fun o=>by rw [hW1];simp [q1b]
  have hz1:w.heap.size+1=W1.heap.size:=by rw [hW1];simp
  have HZ1:Hid _:=hz1
  have hzz:w.heap.size<W1.heap.size:=by omega
  have HSt:Hid _:=hSt
  clear hW1 hSt hz1
  go_loop [5] (fun v=>∃ c:Nat,c≤n∧v=.int .i64 ((c:Int)-1)∧∀ i,c≤i→i<n→t<P i) (fun v=>(intOf v+1).toNat)
  case atStart=>exact ⟨n,Nat.le_refl _,rfl,fun i h1 h2=>by omega⟩
  case round =>
    obtain ⟨c,hc,rfl,hno⟩:=hrel
    have HNO:Hid _:=hno
    clear hno
    have hSt:=HSt.out
    rcases Nat.eq_zero_or_pos c with rfl |hpos
    · have d0:W1.cell? ⟨b,off,none⟩=some (.int .i64 (P 0)):=by have:=(hSt.2 0 (by omega)).1;rwa [Nat.zero_mul,Nat.add_zero] at this
      have d1:W1.cell? ⟨b,off+1,none⟩=some (.int .u8 (V 0 0)):=by have:=(hSt.2 0 (by omega)).2 0 (by omega);rwa [Nat.zero_mul,Nat.add_zero] at this
      have d2:W1.cell? ⟨b,off+2,none⟩=some (.int .u8 (V 0 1)):=by have:=(hSt.2 0 (by omega)).2 1 (by omega);rwa [Nat.zero_mul,Nat.add_zero] at this
      have d3:W1.cell? ⟨b,off+3,none⟩=some (.int .u8 (V 0 2)):=by have:=(hSt.2 0 (by omega)).2 2 (by omega);rwa [Nat.zero_mul,Nat.add_zero] at this
      have d4:W1.cell? ⟨b,off+4,none⟩=some (.int .u8 (V 0 3)):=by have:=(hSt.2 0 (by omega)).2 3 (by omega);rwa [Nat.zero_mul,Nat.add_zero] at this
      have d5:W1.cell? ⟨b,off+5,none⟩=some (.int .u8 (V 0 4)):=by have:=(hSt.2 0 (by omega)).2 4 (by omega);rwa [Nat.zero_mul,Nat.add_zero] at this
      have d6:W1.cell? ⟨b,off+6,none⟩=some (.int .u8 (V 0 5)):=by have:=(hSt.2 0 (by omega)).2 5 (by omega);rwa [Nat.zero_mul,Nat.add_zero] at this
      have d7:W1.cell? ⟨b,off+7,none⟩=some (.int .u8 (V 0 6)):=by have:=(hSt.2 0 (by omega)).2 6 (by omega);rwa [Nat.zero_mul,Nat.add_zero] at this
      have d8:W1.cell? ⟨b,off+8,none⟩=some (.int .u8 (V 0 7)):=by have:=(hSt.2 0 (by omega)).2 7 (by omega);rwa [Nat.zero_mul,Nat.add_zero] at this
      clear hSt
      go_wp2_with fail
      refine bodyPost_ret (by simp [results,Tryz.results131,go_sem,hr];try rfl) rfl ?_
      exact ⟨rfl,((((((((B1.out.setCell (Nat.le_refl _) _).setCell (Nat.le_refl _) _).setCell (Nat.le_refl _) _).setCell (Nat.le_refl _) _).setCell (Nat.le_refl _) _).setCell (Nat.le_refl _) _).setCell (Nat.le_refl _) _).setCell (Nat.le_refl _) _)⟩
    · obtain ⟨m,rfl⟩:∃ m,c=m+1:=⟨c-1,by omega⟩
      rw [q3l]
      have hp:W1.cell? ⟨b,off+m*9,none⟩=some (.int .i64 (P m)):=(hSt.2 m (by omega)).1
      have hgt:=HN.out m (by omega)
      clear hSt
      go_wp2_with fail
      go_round
      case rel=>exact ⟨m,by omega,rfl,fun i h1 h2=>by
        rcases Nat.lt_or_ge m i with h |h
        · exact HNO.out i h h2
        · have:i=m:=by omega
          subst this;exact hgt⟩
      case measure=>simp [intOf] <;> omega
set_option maxRecDepth 20000 in
set_option maxHeartbeats 4000000 in
theorem x98 (b off n cap:Nat) (P:Nat→Int) (V:Nat→Nat→Int) (t:Int) (w:World) (hn:1≤n∧n≤16) (ht:0≤t∧t≤65536) (hP:∀ i,i<n→0≤P i∧P i≤65536) (hst:StopsAt w b off n P V) (k:Nat) (hk:k<n) (hle:P k≤t) (hno:∀ i,k<i→i<n→t<P i) (hor:k+1=n∨P k=t) :
    Calls Tryz.prog 131 #[.slice (some ⟨b,off,none⟩) n cap,.int .i64 t] w fun e w'=>e=.returned (.agg #[.int .u8 (V k 0),.int .u8 (V k 1),.int .u8 (V k 2),.int .u8 (V k 3),.int .u8 (V k 4),.int .u8 (V k 5),.int .u8 (V k 6),.int .u8 (V k 7)])∧Below w.heap.size w w':=by
  have HS:Hid _:=hst
  have HN:Hid _:=hno
  have HPb:Hid _:=hP
  have hd:(k+1=n)∨(¬ k+1=n∧P k=t):=by omega
  clear hor
  clear hst hno hP
  go_enter Tryz.func131,Tryz.ntmps131
  go_wp2_with fail
  obtain ⟨W1,hW1⟩:∃ W1,W1=w.alloc (.cells #[.int .u8 0,.int .u8 0,.int .u8 0,.int .u8 0,.int .u8 0,.int .u8 0,.int .u8 0,.int .u8 0] 28):=⟨_,rfl⟩
  rw [← hW1]
  have B1:Hid (Below w.heap.size w W1):=show Below w.heap.size w W1 by rw [hW1];exact blQ
  have hSt:StopsAt W1 b off n P V:=StopsAt.below HS.out B1.out
  have hr:∀ o,W1.cell? ⟨w.heap.size,o,none⟩=#[Value.int .u8 0,.int .u8 0,.int .u8 0,.int .u8 0,.int .u8 0,.int .u8 0,.int .u8 0,.int .u8 0][o]?:=fun o=>by rw [hW1,q0n,if_pos rfl]
  have hrF:∀ o,W1.frozen? ⟨w.heap.size,o,none⟩=false:=fun o=>by rw [hW1];simp [q1b]
  have hz1:w.heap.size+1=W1.heap.size:=by rw [hW1];simp
  have HZ1:Hid _:=hz1
  have hzz:w.heap.size<W1.heap.size:=by omega
  have HSt:Hid _:=hSt
  clear hW1 hSt hz1
  go_loop [5] (fun v=>∃ c:Nat,c≤n∧k+1≤c∧v=.int .i64 ((c:Int)-1)∧∀ i,c≤i→i<n→t<P i) (fun v=>(intOf v+1).toNat)
  case atStart=>exact ⟨n,Nat.le_refl _,by omega,rfl,fun i h1 h2=>by omega⟩
  case round =>
    obtain ⟨c,hc,hck,rfl,hno⟩:=hrel
    have HNO:Hid _:=hno
    clear hno
    have hSt:=HSt.out
    by_cases hck2:k+1<c
    · obtain ⟨m,rfl⟩:∃ m,c=m+1:=⟨c-1,by omega⟩
      rw [q3l]
      have hp:W1.cell? ⟨b,off+m*9,none⟩=some (.int .i64 (P m)):=(hSt.2 m (by omega)).1
      have hgt:=HN.out m (by omega) (by omega)
      clear hSt
      go_wp2_with fail
      go_round
      case rel=>exact ⟨m,by omega,by omega,rfl,fun i h1 h2=>by
        rcases Nat.lt_or_ge m i with h |h
        · exact HNO.out i h h2
        · have:i=m:=by omega
          subst this;exact hgt⟩
      case measure=>simp [intOf] <;> omega
    · obtain rfl:c=k+1:=by omega
      rw [q3l]
      have c0:W1.cell? ⟨b,off+k*9,none⟩=some (.int .i64 (P k)):=(hSt.2 k (by omega)).1
      have c1:W1.cell? ⟨b,off+k*9+1,none⟩=some (.int .u8 (V k 0)):=(hSt.2 k (by omega)).2 0 (by omega)
      have c2:W1.cell? ⟨b,off+k*9+2,none⟩=some (.int .u8 (V k 1)):=(hSt.2 k (by omega)).2 1 (by omega)
      have c3:W1.cell? ⟨b,off+k*9+3,none⟩=some (.int .u8 (V k 2)):=(hSt.2 k (by omega)).2 2 (by omega)
      have c4:W1.cell? ⟨b,off+k*9+4,none⟩=some (.int .u8 (V k 3)):=(hSt.2 k (by omega)).2 3 (by omega)
      have c5:W1.cell? ⟨b,off+k*9+5,none⟩=some (.int .u8 (V k 4)):=(hSt.2 k (by omega)).2 4 (by omega)
      have c6:W1.cell? ⟨b,off+k*9+6,none⟩=some (.int .u8 (V k 5)):=(hSt.2 k (by omega)).2 5 (by omega)
      have c7:W1.cell? ⟨b,off+k*9+7,none⟩=some (.int .u8 (V k 6)):=(hSt.2 k (by omega)).2 6 (by omega)
      have c8:W1.cell? ⟨b,off+k*9+8,none⟩=some (.int .u8 (V k 7)):=(hSt.2 k (by omega)).2 7 (by omega)
      clear hSt
      rcases hd with hd |⟨hd,hd2⟩
      · have hdi:((k:Int)+1==n)=true:=by simp;omega
        clear hd
        have hne:¬ w.heap.size=W1.heap.size:=by omega
        go_wp2_with fail
        refine bodyPost_ret (by simp [results,Tryz.results131,go_sem,hr,hne];try rfl) rfl ?_
        have hBB:=B1.out
        refine ⟨rfl,?_⟩
        exact blQ
      · have hdi:((k:Int)+1==n)=false:=by simp;omega
        have hdj:(P k==t)=true:=by simpa using hd2
        clear hd hd2
        have hne:¬ w.heap.size=W1.heap.size:=by omega
        go_wp2_with fail
        refine bodyPost_ret (by simp [results,Tryz.results131,go_sem,hr,hne];try rfl) rfl ?_
        have hBB:=B1.out
        refine ⟨rfl,?_⟩
        exact blQ
set_option maxRecDepth 20000 in
set_option maxHeartbeats 4000000 in
theorem x8b (b off n cap:Nat) (P:Nat→Int) (V:Nat→Nat→Int) (t:Int) (w:World) (hn:1≤n∧n≤16) (ht:0≤t∧t≤65536) (hP:∀ i,i<n→0≤P i∧P i≤65536) (hst:StopsAt w b off n P V) (k:Nat) (hk:k+1<n) (hlt:P k<t) (hno:∀ i,k<i→i<n→t<P i) (B:Nat→Int) (hV:∀ i,i<n→∀ j,j<8→0≤V i j∧V i j≤255) (hB:∀ j,j<8→B j=near (V k j*(P (k+1)-t)+V (k+1) j*(t-P k)) (P (k+1)-P k)) :
    Calls Tryz.prog 131 #[.slice (some ⟨b,off,none⟩) n cap,.int .i64 t] w fun e w'=>e=.returned (.agg #[.int .u8 (B 0),.int .u8 (B 1),.int .u8 (B 2),.int .u8 (B 3),.int .u8 (B 4),.int .u8 (B 5),.int .u8 (B 6),.int .u8 (B 7)])∧Below w.heap.size w w':=by
  have HS:Hid _:=hst
  have HN:Hid _:=hno
  have HPb:Hid _:=hP
  have HV:Hid _:=hV
  have HB:Hid _:=hB
  clear hV hB
  clear hst hno hP
  go_enter Tryz.func131,Tryz.ntmps131
  go_wp2_with fail
  obtain ⟨W1,hW1⟩:∃ W1,W1=w.alloc (.cells #[.int .u8 0,.int .u8 0,.int .u8 0,.int .u8 0,.int .u8 0,.int .u8 0,.int .u8 0,.int .u8 0] 28):=⟨_,rfl⟩
  rw [← hW1]
  have B1:Hid (Below w.heap.size w W1):=show Below w.heap.size w W1 by rw [hW1];exact blQ
  have hSt:StopsAt W1 b off n P V:=StopsAt.below HS.out B1.out
  have hr:∀ o,W1.cell? ⟨w.heap.size,o,none⟩=#[Value.int .u8 0,.int .u8 0,.int .u8 0,.int .u8 0,.int .u8 0,.int .u8 0,.int .u8 0,.int .u8 0][o]?:=fun o=>by rw [hW1,q0n,if_pos rfl]
  have hrF:∀ o,W1.frozen? ⟨w.heap.size,o,none⟩=false:=fun o=>by rw [hW1];simp [q1b]
  have hz1:w.heap.size+1=W1.heap.size:=by rw [hW1];simp
  have HZ1:Hid _:=hz1
  have hzz:w.heap.size<W1.heap.size:=by omega
  have HSt:Hid _:=hSt
  clear hW1 hSt hz1
  go_loop [5] (fun v=>∃ c:Nat,c≤n∧k+1≤c∧v=.int .i64 ((c:Int)-1)∧∀ i,c≤i→i<n→t<P i) (fun v=>(intOf v+1).toNat)
  case atStart=>exact ⟨n,Nat.le_refl _,by omega,rfl,fun i h1 h2=>by omega⟩
  case round =>
    obtain ⟨c,hc,hck,rfl,hno⟩:=hrel
    have HNO:Hid _:=hno
    clear hno
    have hSt:=HSt.out
    by_cases hck2:k+1<c
    · obtain ⟨m,rfl⟩:∃ m,c=m+1:=⟨c-1,by omega⟩
      rw [q3l]
      have hp:W1.cell? ⟨b,off+m*9,none⟩=some (.int .i64 (P m)):=(hSt.2 m (by omega)).1
      have hgt:=HN.out m (by omega) (by omega)
      clear hSt
      go_wp2_with fail
      go_round
      case rel=>exact ⟨m,by omega,by omega,rfl,fun i h1 h2=>by
        rcases Nat.lt_or_ge m i with h |h
        · exact HNO.out i h h2
        · have:i=m:=by omega
          subst this;exact hgt⟩
      case measure=>simp [intOf] <;> omega
    · obtain rfl:c=k+1:=by omega
      rw [q3l]
      have c0:W1.cell? ⟨b,off+k*9,none⟩=some (.int .i64 (P k)):=(hSt.2 k (by omega)).1
      have c1:W1.cell? ⟨b,off+k*9+1,none⟩=some (.int .u8 (V k 0)):=(hSt.2 k (by omega)).2 0 (by omega)
      have c2:W1.cell? ⟨b,off+k*9+2,none⟩=some (.int .u8 (V k 1)):=(hSt.2 k (by omega)).2 1 (by omega)
      have c3:W1.cell? ⟨b,off+k*9+3,none⟩=some (.int .u8 (V k 2)):=(hSt.2 k (by omega)).2 2 (by omega)
      have c4:W1.cell? ⟨b,off+k*9+4,none⟩=some (.int .u8 (V k 3)):=(hSt.2 k (by omega)).2 3 (by omega)
      have c5:W1.cell? ⟨b,off+k*9+5,none⟩=some (.int .u8 (V k 4)):=(hSt.2 k (by omega)).2 4 (by omega)
      have c6:W1.cell? ⟨b,off+k*9+6,none⟩=some (.int .u8 (V k 5)):=(hSt.2 k (by omega)).2 5 (by omega)
      have c7:W1.cell? ⟨b,off+k*9+7,none⟩=some (.int .u8 (V k 6)):=(hSt.2 k (by omega)).2 6 (by omega)
      have c8:W1.cell? ⟨b,off+k*9+8,none⟩=some (.int .u8 (V k 7)):=(hSt.2 k (by omega)).2 7 (by omega)
      have e0:W1.cell? ⟨b,off+(k+1)*9,none⟩=some (.int .i64 (P (k+1))):=(hSt.2 (k+1) hk).1
      have e1:W1.cell? ⟨b,off+(k+1)*9+1,none⟩=some (.int .u8 (V (k+1) 0)):=(hSt.2 (k+1) hk).2 0 (by omega)
      have e2:W1.cell? ⟨b,off+(k+1)*9+2,none⟩=some (.int .u8 (V (k+1) 1)):=(hSt.2 (k+1) hk).2 1 (by omega)
      have e3:W1.cell? ⟨b,off+(k+1)*9+3,none⟩=some (.int .u8 (V (k+1) 2)):=(hSt.2 (k+1) hk).2 2 (by omega)
      have e4:W1.cell? ⟨b,off+(k+1)*9+4,none⟩=some (.int .u8 (V (k+1) 3)):=(hSt.2 (k+1) hk).2 3 (by omega)
      have e5:W1.cell? ⟨b,off+(k+1)*9+5,none⟩=some (.int .u8 (V (k+1) 4)):=(hSt.2 (k+1) hk).2 4 (by omega)
      have e6:W1.cell? ⟨b,off+(k+1)*9+6,none⟩=some (.int .u8 (V (k+1) 5)):=(hSt.2 (k+1) hk).2 5 (by omega)
      have e7:W1.cell? ⟨b,off+(k+1)*9+7,none⟩=some (.int .u8 (V (k+1) 6)):=(hSt.2 (k+1) hk).2 6 (by omega)
      have e8:W1.cell? ⟨b,off+(k+1)*9+8,none⟩=some (.int .u8 (V (k+1) 7)):=(hSt.2 (k+1) hk).2 7 (by omega)
      have hdi:((k:Int)+1==n)=false:=by simp;omega
      have hdj:(P k==t)=false:=by simp;omega
      have hnx:=HN.out (k+1) (by omega) hk
      have hb0:=HPb.out k (by omega)
      have hb1:=HPb.out (k+1) hk
      have hbW:=hSt.1
      clear hSt
      have q0:(k:Int)+1=((k+1:Nat):Int):=by omega
      generalize hk1:k+1=k1 at *
      go_wp2_with fail
      obtain ⟨W2,hW2⟩:∃ W2,W2=((W1.alloc (.cells #[.int .i64 (P k),.int .u8 (V k 0),.int .u8 (V k 1),.int .u8 (V k 2),.int .u8 (V k 3),.int .u8 (V k 4),.int .u8 (V k 5),.int .u8 (V k 6),.int .u8 (V k 7)] 119)).alloc (.cells #[.int .i64 (P k1),.int .u8 (V k1 0),.int .u8 (V k1 1),.int .u8 (V k1 2),.int .u8 (V k1 3),.int .u8 (V k1 4),.int .u8 (V k1 5),.int .u8 (V k1 6),.int .u8 (V k1 7)] 119)).alloc (.cells #[.int .u8 0,.int .u8 0,.int .u8 0,.int .u8 0,.int .u8 0,.int .u8 0,.int .u8 0,.int .u8 0] 28):=⟨_,rfl⟩
      rw [← hW2]
      have B2:Hid (Below W1.heap.size W1 W2):=show Below W1.heap.size W1 W2 by rw [hW2];exact blQ
      have A0:Hid (W2.cell? ⟨W1.heap.size,0,none⟩=some (.int .i64 (P k))):=show W2.cell? ⟨W1.heap.size,0,none⟩=some (.int .i64 (P k)) by
        rw [hW2,q4t _ _ _ _ (by simp only [World.size_alloc];omega),q4t _ _ _ _ (by simp only [World.size_alloc];omega),q0n,if_pos rfl];rfl
      have A1:Hid (∀ j,j<8→W2.cell? ⟨W1.heap.size,1+j,none⟩=some (.int .u8 (V k j))):=show ∀ j,j<8→W2.cell? ⟨W1.heap.size,1+j,none⟩=some (.int .u8 (V k j)) from fun j hj=>by
        rw [hW2,q4t _ _ _ _ (by simp only [World.size_alloc];omega),q4t _ _ _ _ (by simp only [World.size_alloc];omega),q0n,if_pos rfl,Nat.add_comm 1 j]
        exact x9c (P k) (V k) j hj
      have C0:Hid (W2.cell? ⟨W1.heap.size+1,0,none⟩=some (.int .i64 (P k1))):=show W2.cell? ⟨W1.heap.size+1,0,none⟩=some (.int .i64 (P k1)) by
        rw [hW2,q4t _ _ _ _ (by simp only [World.size_alloc];omega),q0n,if_pos (by simp only [World.size_alloc])];rfl
      have C1:Hid (∀ j,j<8→W2.cell? ⟨W1.heap.size+1,1+j,none⟩=some (.int .u8 (V k1 j))):=show ∀ j,j<8→W2.cell? ⟨W1.heap.size+1,1+j,none⟩=some (.int .u8 (V k1 j)) from fun j hj=>by
        rw [hW2,q4t _ _ _ _ (by simp only [World.size_alloc];omega),q0n,if_pos (by simp only [World.size_alloc]),Nat.add_comm 1 j]
        exact x9c (P k1) (V k1) j hj
      have S2:Hid (Fill8 W2 W2 (W1.heap.size+1+1) 0 B):=show Fill8 W2 W2 (W1.heap.size+1+1) 0 B by
        refine ⟨Below.refl _ _,by rw [hW2];simp only [World.size_alloc];omega,fun o ho=>?_,fun o=>?_⟩
        · rw [hW2,q0n,if_pos (by simp only [World.size_alloc]),if_neg (by omega)]
          match o,ho with
          | 0,_=>rfl
          | 1,_=>rfl
          | 2,_=>rfl
          | 3,_=>rfl
          | 4,_=>rfl
          | 5,_=>rfl
          | 6,_=>rfl
          | 7,_=>rfl
        · rw [hW2];simp [q1b]
      have hz2:W1.heap.size+1+1<W2.heap.size:=S2.out.size
      have hrH:Hid _:=hr
      have hrFH:Hid _:=hrF
      have hxa:=hb0
      clear hW2 hr hrF c0 e0 c1 e1 c2 e2 c3 e3 c4 e4 c5 e5 c6 e6 c7 e7 c8 e8
      go_loopw [54] (fun v wr=>∃ j:Nat,j≤8∧v=.int .i64 j∧Fill8 W2 wr (W1.heap.size+1+1) j B) (fun v _=>8-(intOf v).toNat)
      case atStart=>exact ⟨0,by omega,rfl,S2.out⟩
      case round =>
        obtain ⟨j,hj,rfl,hF⟩:=hrel
        have HF:Hid _:=hF
        have hszr:=hF.size
        by_cases hlj:j<8
        · have a0:=(hF.below.cell (p:=⟨W1.heap.size,0,none⟩) (by show W1.heap.size<_;omega)).trans A0.out
          have a1:=(hF.below.cell (p:=⟨W1.heap.size,1+j,none⟩) (by show W1.heap.size<_;omega)).trans (A1.out j hlj)
          have d0:=(hF.below.cell (p:=⟨W1.heap.size+1,0,none⟩) (by show W1.heap.size+1<_;omega)).trans C0.out
          have d1:=(hF.below.cell (p:=⟨W1.heap.size+1,1+j,none⟩) (by show W1.heap.size+1<_;omega)).trans (C1.out j hlj)
          have hx:=HV.out k (by omega) j hlj
          have hy:=HV.out k1 (by omega) j hlj
          have hn:=HB.out j hlj
          have u1:=mulN (b:=P k1-t) (B:=65536) hx ⟨by omega,by omega⟩
          have u2:=mulN (b:=t-P k) (B:=65536) hy ⟨by omega,by omega⟩
          have u3:=mulN (b:=P k1-t) (B:=P k1-t) hx ⟨by omega,by omega⟩
          have u4:=mulN (b:=t-P k) (B:=t-P k) hy ⟨by omega,by omega⟩
          have hz:=q2b (V k j*(P k1-t)+V k1 j*(t-P k)) (P k1-P k) 255 (by omega) (by omega) (by omega)
          have HN:Hid (∀ w',Fill8 W2 w' (W1.heap.size+1+1) j B→Fill8 W2 (w'.setCell ⟨W1.heap.size+1+1,j,none⟩ (.int .u8 (B j))) (W1.heap.size+1+1) (j+1) B):=fun w' h=>h.step hlj
          clear hF u3 u4
          generalize B j=z at *
          generalize V k j=x at *
          generalize V k1 j=y at *
          generalize hue:x*(P k1-t)=u at *
          generalize hve:y*(t-P k)=v at *
          subst hn
          go_wp2_with fail
          refine head 29 (by kernel_rfl) (by kernel_rfl) (by rfl) ?_
          apply Exists.intro
          refine ⟨fun F'=>?_,fun w' hb=>?_⟩
          · haveI:=F'.ne
            simp only [List.take_succ_cons,List.take_zero]
            repeat (go_big_quiet_step (first |(go_at_call 110;exact q17 (q16 _ _ _ (by omega) (by omega)))))
            exact wpQuiet_nil rfl
          have hF':Hid _:=HF.out.later hb
          have c1':w'.cell? ⟨W1.heap.size+1+1,j,none⟩=some (.int .u8 0):=by rw [hF'.out.cells j hlj,if_neg (by omega)]
          have f1':=hF'.out.free j
          simp only [List.drop_succ_cons,List.drop_zero]
          go_wp2_with fail
          go_roundw
          case rel=>exact ⟨j+1,by omega,by go_num,HN.out _ hF'.out⟩
          case measure=>simp [intOf];omega
        · obtain rfl:j=8:=by omega
          have hr:∀ o,_:=fun o=>(hF.below.cell (p:=⟨w.heap.size,o,none⟩) (by show w.heap.size<_;omega)).trans ((B2.out.cell (p:=⟨w.heap.size,o,none⟩) (by show w.heap.size<_;omega)).trans (hrH.out o))
          have hrF:∀ o,_:=fun o=>(hF.below.frozen (p:=⟨w.heap.size,o,none⟩) (by show w.heap.size<_;omega)).trans ((B2.out.frozen (p:=⟨w.heap.size,o,none⟩) (by show w.heap.size<_;omega)).trans (hrFH.out o))
          have hc:∀ o,o<8→wr.cell? ⟨W1.heap.size+1+1,o,none⟩=some (.int .u8 (B o)):=fun o ho=>by rw [hF.cells o ho,if_pos ho]
          have h0:=hc 0 (by omega)
          have h1:=hc 1 (by omega)
          have h2:=hc 2 (by omega)
          have h3:=hc 3 (by omega)
          have h4:=hc 4 (by omega)
          have h5:=hc 5 (by omega)
          have h6:=hc 6 (by omega)
          have h7:=hc 7 (by omega)
          have HBB:Hid (Below w.heap.size w wr):=show Below w.heap.size w wr from B1.out.trans ((B2.out.trans (hF.below.mono (by omega))).mono B1.out.size)
          clear hF hc
          go_wp2_with fail
          refine bodyPost_ret (by simp [results,Tryz.results131,go_sem,hr];try rfl) rfl ?_
          have hBB:=HBB.out
          refine ⟨rfl,?_⟩
          exact blQ
end Go.Proofs.YticolnghiibgfaaGreat
namespace Go.Proofs.YticolnghiibgfaaGreat
open Go.RowKit
set_option maxRecDepth 20000 in
set_option maxHeartbeats 4000000 in
theorem x30 (b off n cap:Nat) (P:Nat→Int) (V:Nat→Nat→Int) (t:Int) (w:World) (hn:1≤n∧n≤16) (ht:0≤t∧t≤65536) (hP:∀ i,i<n→0≤P i∧P i≤65536) (hst:StopsAt w b off n P V) (hno:∀ i,i<n→t<P i) :
    Calls Tryz.prog 118 #[.slice (some ⟨b,off,none⟩) n cap,.int .i64 t] w fun e w'=>e=.returned (.agg #[.int .u8 (V 0 0),.int .u8 (V 0 1),.int .u8 (V 0 2),.int .u8 (V 0 3),.int .u8 (V 0 4),.int .u8 (V 0 5),.int .u8 (V 0 6),.int .u8 (V 0 7)])∧Below w.heap.size w w':=by
  have HS:Hid _:=hst
  have HN:Hid _:=hno
  have HPb:Hid _:=hP
  clear hst hno hP
  go_enter Tryz.func118,Tryz.ntmps118
  go_wp2_with fail
  obtain ⟨W1,hW1⟩:∃ W1,W1=(w.alloc (.cells #[.int .u8 0,.int .u8 0,.int .u8 0,.int .u8 0,.int .u8 0,.int .u8 0,.int .u8 0,.int .u8 0] 28)).alloc (.cells #[.int .u8 0,.int .u8 0,.int .u8 0,.int .u8 0,.int .u8 0,.int .u8 0,.int .u8 0,.int .u8 0] 28):=⟨_,rfl⟩
  rw [← hW1]
  have B1:Hid (Below w.heap.size w W1):=show Below w.heap.size w W1 by rw [hW1];exact blQ
  have hSt:StopsAt W1 b off n P V:=StopsAt.below HS.out B1.out
  have hr:∀ o,W1.cell? ⟨w.heap.size,o,none⟩=#[Value.int .u8 0,.int .u8 0,.int .u8 0,.int .u8 0,.int .u8 0,.int .u8 0,.int .u8 0,.int .u8 0][o]?:=fun o=>by rw [hW1,q4t _ _ _ _ (by simp only [World.size_alloc];omega),q0n,if_pos rfl]
  have hrF:∀ o,W1.frozen? ⟨w.heap.size,o,none⟩=false:=fun o=>by rw [hW1];simp [q1b]
  have hr2:∀ o,W1.cell? ⟨w.heap.size+1,o,none⟩=#[Value.int .u8 0,.int .u8 0,.int .u8 0,.int .u8 0,.int .u8 0,.int .u8 0,.int .u8 0,.int .u8 0][o]?:=fun o=>by rw [hW1,q0n,if_pos (by simp only [World.size_alloc])]
  have hr2F:∀ o,W1.frozen? ⟨w.heap.size+1,o,none⟩=false:=fun o=>by rw [hW1];simp [q1b]
  have hz1:w.heap.size+1+1=W1.heap.size:=by rw [hW1];simp only [World.size_alloc]
  have HZ1:Hid _:=hz1
  have hzz:w.heap.size+1<W1.heap.size:=by omega
  have HSt:Hid _:=hSt
  clear hW1 hSt hz1
  go_loop [6] (fun v=>∃ c:Nat,c≤n∧v=.int .i64 ((c:Int)-1)∧∀ i,c≤i→i<n→t<P i) (fun v=>(intOf v+1).toNat)
  case atStart=>exact ⟨n,Nat.le_refl _,rfl,fun i h1 h2=>by omega⟩
  case round =>
    obtain ⟨c,hc,rfl,hno⟩:=hrel
    have HNO:Hid _:=hno
    clear hno
    have hSt:=HSt.out
    rcases Nat.eq_zero_or_pos c with rfl |hpos
    · have d0:W1.cell? ⟨b,off,none⟩=some (.int .i64 (P 0)):=by have:=(hSt.2 0 (by omega)).1;rwa [Nat.zero_mul,Nat.add_zero] at this
      have d1:W1.cell? ⟨b,off+1,none⟩=some (.int .u8 (V 0 0)):=by have:=(hSt.2 0 (by omega)).2 0 (by omega);rwa [Nat.zero_mul,Nat.add_zero] at this
      have d2:W1.cell? ⟨b,off+2,none⟩=some (.int .u8 (V 0 1)):=by have:=(hSt.2 0 (by omega)).2 1 (by omega);rwa [Nat.zero_mul,Nat.add_zero] at this
      have d3:W1.cell? ⟨b,off+3,none⟩=some (.int .u8 (V 0 2)):=by have:=(hSt.2 0 (by omega)).2 2 (by omega);rwa [Nat.zero_mul,Nat.add_zero] at this
      have d4:W1.cell? ⟨b,off+4,none⟩=some (.int .u8 (V 0 3)):=by have:=(hSt.2 0 (by omega)).2 3 (by omega);rwa [Nat.zero_mul,Nat.add_zero] at this
      have d5:W1.cell? ⟨b,off+5,none⟩=some (.int .u8 (V 0 4)):=by have:=(hSt.2 0 (by omega)).2 4 (by omega);rwa [Nat.zero_mul,Nat.add_zero] at this
      have d6:W1.cell? ⟨b,off+6,none⟩=some (.int .u8 (V 0 5)):=by have:=(hSt.2 0 (by omega)).2 5 (by omega);rwa [Nat.zero_mul,Nat.add_zero] at this
      have d7:W1.cell? ⟨b,off+7,none⟩=some (.int .u8 (V 0 6)):=by have:=(hSt.2 0 (by omega)).2 6 (by omega);rwa [Nat.zero_mul,Nat.add_zero] at this
      have d8:W1.cell? ⟨b,off+8,none⟩=some (.int .u8 (V 0 7)):=by have:=(hSt.2 0 (by omega)).2 7 (by omega);rwa [Nat.zero_mul,Nat.add_zero] at this
      clear hSt
      go_wp2_with fail
      refine bodyPost_ret (by simp [results,Tryz.results118,go_sem,hr];try rfl) rfl ?_
      exact ⟨rfl,((((((((B1.out.setCell (Nat.le_refl _) _).setCell (Nat.le_refl _) _).setCell (Nat.le_refl _) _).setCell (Nat.le_refl _) _).setCell (Nat.le_refl _) _).setCell (Nat.le_refl _) _).setCell (Nat.le_refl _) _).setCell (Nat.le_refl _) _)⟩
    · obtain ⟨m,rfl⟩:∃ m,c=m+1:=⟨c-1,by omega⟩
      rw [q3l]
      have hp:W1.cell? ⟨b,off+m*9,none⟩=some (.int .i64 (P m)):=(hSt.2 m (by omega)).1
      have hgt:=HN.out m (by omega)
      clear hSt
      go_wp2_with fail
      go_round
      case rel=>exact ⟨m,by omega,rfl,fun i h1 h2=>by
        rcases Nat.lt_or_ge m i with h |h
        · exact HNO.out i h h2
        · have:i=m:=by omega
          subst this;exact hgt⟩
      case measure=>simp [intOf] <;> omega
set_option maxRecDepth 20000 in
set_option maxHeartbeats 4000000 in
theorem x8c (b off n cap:Nat) (P:Nat→Int) (V:Nat→Nat→Int) (t:Int) (w:World) (hn:1≤n∧n≤16) (ht:0≤t∧t≤65536) (hP:∀ i,i<n→0≤P i∧P i≤65536) (hst:StopsAt w b off n P V) (k:Nat) (hk:k<n) (hle:P k≤t) (hno:∀ i,k<i→i<n→t<P i) (hor:k+1=n∨P k=t) :
    Calls Tryz.prog 118 #[.slice (some ⟨b,off,none⟩) n cap,.int .i64 t] w fun e w'=>e=.returned (.agg #[.int .u8 (V k 0),.int .u8 (V k 1),.int .u8 (V k 2),.int .u8 (V k 3),.int .u8 (V k 4),.int .u8 (V k 5),.int .u8 (V k 6),.int .u8 (V k 7)])∧Below w.heap.size w w':=by
  have HS:Hid _:=hst
  have HN:Hid _:=hno
  have HPb:Hid _:=hP
  have hd:(k+1=n)∨(¬ k+1=n∧P k=t):=by omega
  clear hor
  clear hst hno hP
  go_enter Tryz.func118,Tryz.ntmps118
  go_wp2_with fail
  obtain ⟨W1,hW1⟩:∃ W1,W1=(w.alloc (.cells #[.int .u8 0,.int .u8 0,.int .u8 0,.int .u8 0,.int .u8 0,.int .u8 0,.int .u8 0,.int .u8 0] 28)).alloc (.cells #[.int .u8 0,.int .u8 0,.int .u8 0,.int .u8 0,.int .u8 0,.int .u8 0,.int .u8 0,.int .u8 0] 28):=⟨_,rfl⟩
  rw [← hW1]
  have B1:Hid (Below w.heap.size w W1):=show Below w.heap.size w W1 by rw [hW1];exact blQ
  have hSt:StopsAt W1 b off n P V:=StopsAt.below HS.out B1.out
  have hr:∀ o,W1.cell? ⟨w.heap.size,o,none⟩=#[Value.int .u8 0,.int .u8 0,.int .u8 0,.int .u8 0,.int .u8 0,.int .u8 0,.int .u8 0,.int .u8 0][o]?:=fun o=>by rw [hW1,q4t _ _ _ _ (by simp only [World.size_alloc];omega),q0n,if_pos rfl]
  have hrF:∀ o,W1.frozen? ⟨w.heap.size,o,none⟩=false:=fun o=>by rw [hW1];simp [q1b]
  have hr2:∀ o,W1.cell? ⟨w.heap.size+1,o,none⟩=#[Value.int .u8 0,.int .u8 0,.int .u8 0,.int .u8 0,.int .u8 0,.int .u8 0,.int .u8 0,.int .u8 0][o]?:=fun o=>by rw [hW1,q0n,if_pos (by simp only [World.size_alloc])]
  have hr2F:∀ o,W1.frozen? ⟨w.heap.size+1,o,none⟩=false:=fun o=>by rw [hW1];simp [q1b]
  have hz1:w.heap.size+1+1=W1.heap.size:=by rw [hW1];simp only [World.size_alloc]
  have HZ1:Hid _:=hz1
  have hzz:w.heap.size+1<W1.heap.size:=by omega
  have HSt:Hid _:=hSt
  clear hW1 hSt hz1
  go_loop [6] (fun v=>∃ c:Nat,c≤n∧k+1≤c∧v=.int .i64 ((c:Int)-1)∧∀ i,c≤i→i<n→t<P i) (fun v=>(intOf v+1).toNat)
  case atStart=>exact ⟨n,Nat.le_refl _,by omega,rfl,fun i h1 h2=>by omega⟩
  case round =>
    obtain ⟨c,hc,hck,rfl,hno⟩:=hrel
    have HNO:Hid _:=hno
    clear hno
    have hSt:=HSt.out
    by_cases hck2:k+1<c
    · obtain ⟨m,rfl⟩:∃ m,c=m+1:=⟨c-1,by omega⟩
      rw [q3l]
      have hp:W1.cell? ⟨b,off+m*9,none⟩=some (.int .i64 (P m)):=(hSt.2 m (by omega)).1
      have hgt:=HN.out m (by omega) (by omega)
      clear hSt
      go_wp2_with fail
      go_round
      case rel=>exact ⟨m,by omega,by omega,rfl,fun i h1 h2=>by
        rcases Nat.lt_or_ge m i with h |h
        · exact HNO.out i h h2
        · have:i=m:=by omega
          subst this;exact hgt⟩
      case measure=>simp [intOf] <;> omega
    · obtain rfl:c=k+1:=by omega
      rw [q3l]
      have c0:W1.cell? ⟨b,off+k*9,none⟩=some (.int .i64 (P k)):=(hSt.2 k (by omega)).1
      have c1:W1.cell? ⟨b,off+k*9+1,none⟩=some (.int .u8 (V k 0)):=(hSt.2 k (by omega)).2 0 (by omega)
      have c2:W1.cell? ⟨b,off+k*9+2,none⟩=some (.int .u8 (V k 1)):=(hSt.2 k (by omega)).2 1 (by omega)
      have c3:W1.cell? ⟨b,off+k*9+3,none⟩=some (.int .u8 (V k 2)):=(hSt.2 k (by omega)).2 2 (by omega)
      have c4:W1.cell? ⟨b,off+k*9+4,none⟩=some (.int .u8 (V k 3)):=(hSt.2 k (by omega)).2 3 (by omega)
      have c5:W1.cell? ⟨b,off+k*9+5,none⟩=some (.int .u8 (V k 4)):=(hSt.2 k (by omega)).2 4 (by omega)
      have c6:W1.cell? ⟨b,off+k*9+6,none⟩=some (.int .u8 (V k 5)):=(hSt.2 k (by omega)).2 5 (by omega)
      have c7:W1.cell? ⟨b,off+k*9+7,none⟩=some (.int .u8 (V k 6)):=(hSt.2 k (by omega)).2 6 (by omega)
      have c8:W1.cell? ⟨b,off+k*9+8,none⟩=some (.int .u8 (V k 7)):=(hSt.2 k (by omega)).2 7 (by omega)
      clear hSt
      rcases hd with hd |⟨hd,hd2⟩
      · have hdi:((k:Int)==(n:Int)-1)=true:=by simp;omega
        clear hd
        have hne:¬ w.heap.size=W1.heap.size:=by omega
        go_wp2_with fail
        refine bodyPost_ret (by simp [results,Tryz.results118,go_sem,hr,hne];try rfl) rfl ?_
        have hBB:=B1.out
        refine ⟨rfl,?_⟩
        exact blQ
      · have hdi:((k:Int)==(n:Int)-1)=false:=by simp;omega
        have hdj:(P k==t)=true:=by simpa using hd2
        clear hd hd2
        have hne:¬ w.heap.size=W1.heap.size:=by omega
        go_wp2_with fail
        refine bodyPost_ret (by simp [results,Tryz.results118,go_sem,hr,hne];try rfl) rfl ?_
        have hBB:=B1.out
        refine ⟨rfl,?_⟩
        exact blQ
set_option maxRecDepth 20000 in
set_option maxHeartbeats 4000000 in
theorem x51 (b off n cap:Nat) (P:Nat→Int) (V:Nat→Nat→Int) (t:Int) (w:World) (hn:1≤n∧n≤16) (ht:0≤t∧t≤65536) (hP:∀ i,i<n→0≤P i∧P i≤65536) (hst:StopsAt w b off n P V) (k:Nat) (hk:k+1<n) (hlt:P k<t) (hno:∀ i,k<i→i<n→t<P i) (B:Nat→Int) (hV:∀ i,i<n→∀ j,j<8→0≤V i j∧V i j≤255) (hB:∀ j,j<8→B j=near (V k j*(P (k+1)-t)+V (k+1) j*(t-P k)) (P (k+1)-P k)) :
    Calls Tryz.prog 118 #[.slice (some ⟨b,off,none⟩) n cap,.int .i64 t] w fun e w'=>e=.returned (.agg #[.int .u8 (B 0),.int .u8 (B 1),.int .u8 (B 2),.int .u8 (B 3),.int .u8 (B 4),.int .u8 (B 5),.int .u8 (B 6),.int .u8 (B 7)])∧Below w.heap.size w w':=by
  have HS:Hid _:=hst
  have HN:Hid _:=hno
  have HPb:Hid _:=hP
  have HV:Hid _:=hV
  have HB:Hid _:=hB
  clear hV hB
  clear hst hno hP
  go_enter Tryz.func118,Tryz.ntmps118
  go_wp2_with fail
  obtain ⟨W1,hW1⟩:∃ W1,W1=(w.alloc (.cells #[.int .u8 0,.int .u8 0,.int .u8 0,.int .u8 0,.int .u8 0,.int .u8 0,.int .u8 0,.int .u8 0] 28)).alloc (.cells #[.int .u8 0,.int .u8 0,.int .u8 0,.int .u8 0,.int .u8 0,.int .u8 0,.int .u8 0,.int .u8 0] 28):=⟨_,rfl⟩
  rw [← hW1]
  have B1:Hid (Below w.heap.size w W1):=show Below w.heap.size w W1 by rw [hW1];exact blQ
  have hSt:StopsAt W1 b off n P V:=StopsAt.below HS.out B1.out
  have hr:∀ o,W1.cell? ⟨w.heap.size,o,none⟩=#[Value.int .u8 0,.int .u8 0,.int .u8 0,.int .u8 0,.int .u8 0,.int .u8 0,.int .u8 0,.int .u8 0][o]?:=fun o=>by rw [hW1,q4t _ _ _ _ (by simp only [World.size_alloc];omega),q0n,if_pos rfl]
  have hrF:∀ o,W1.frozen? ⟨w.heap.size,o,none⟩=false:=fun o=>by rw [hW1];simp [q1b]
  have hr2:∀ o,W1.cell? ⟨w.heap.size+1,o,none⟩=#[Value.int .u8 0,.int .u8 0,.int .u8 0,.int .u8 0,.int .u8 0,.int .u8 0,.int .u8 0,.int .u8 0][o]?:=fun o=>by rw [hW1,q0n,if_pos (by simp only [World.size_alloc])]
  have hr2F:∀ o,W1.frozen? ⟨w.heap.size+1,o,none⟩=false:=fun o=>by rw [hW1];simp [q1b]
  have hz1:w.heap.size+1+1=W1.heap.size:=by rw [hW1];simp only [World.size_alloc]
  have HZ1:Hid _:=hz1
  have hzz:w.heap.size+1<W1.heap.size:=by omega
  have HSt:Hid _:=hSt
  clear hW1 hSt hz1
  go_loop [6] (fun v=>∃ c:Nat,c≤n∧k+1≤c∧v=.int .i64 ((c:Int)-1)∧∀ i,c≤i→i<n→t<P i) (fun v=>(intOf v+1).toNat)
  case atStart=>exact ⟨n,Nat.le_refl _,by omega,rfl,fun i h1 h2=>by omega⟩
  case round =>
    obtain ⟨c,hc,hck,rfl,hno⟩:=hrel
    have HNO:Hid _:=hno
    clear hno
    have hSt:=HSt.out
    by_cases hck2:k+1<c
    · obtain ⟨m,rfl⟩:∃ m,c=m+1:=⟨c-1,by omega⟩
      rw [q3l]
      have hp:W1.cell? ⟨b,off+m*9,none⟩=some (.int .i64 (P m)):=(hSt.2 m (by omega)).1
      have hgt:=HN.out m (by omega) (by omega)
      clear hSt
      go_wp2_with fail
      go_round
      case rel=>exact ⟨m,by omega,by omega,rfl,fun i h1 h2=>by
        rcases Nat.lt_or_ge m i with h |h
        · exact HNO.out i h h2
        · have:i=m:=by omega
          subst this;exact hgt⟩
      case measure=>simp [intOf] <;> omega
    · obtain rfl:c=k+1:=by omega
      rw [q3l]
      have c0:W1.cell? ⟨b,off+k*9,none⟩=some (.int .i64 (P k)):=(hSt.2 k (by omega)).1
      have c1:W1.cell? ⟨b,off+k*9+1,none⟩=some (.int .u8 (V k 0)):=(hSt.2 k (by omega)).2 0 (by omega)
      have c2:W1.cell? ⟨b,off+k*9+2,none⟩=some (.int .u8 (V k 1)):=(hSt.2 k (by omega)).2 1 (by omega)
      have c3:W1.cell? ⟨b,off+k*9+3,none⟩=some (.int .u8 (V k 2)):=(hSt.2 k (by omega)).2 2 (by omega)
      have c4:W1.cell? ⟨b,off+k*9+4,none⟩=some (.int .u8 (V k 3)):=(hSt.2 k (by omega)).2 3 (by omega)
      have c5:W1.cell? ⟨b,off+k*9+5,none⟩=some (.int .u8 (V k 4)):=(hSt.2 k (by omega)).2 4 (by omega)
      have c6:W1.cell? ⟨b,off+k*9+6,none⟩=some (.int .u8 (V k 5)):=(hSt.2 k (by omega)).2 5 (by omega)
      have c7:W1.cell? ⟨b,off+k*9+7,none⟩=some (.int .u8 (V k 6)):=(hSt.2 k (by omega)).2 6 (by omega)
      have c8:W1.cell? ⟨b,off+k*9+8,none⟩=some (.int .u8 (V k 7)):=(hSt.2 k (by omega)).2 7 (by omega)
      have e0:W1.cell? ⟨b,off+(k+1)*9,none⟩=some (.int .i64 (P (k+1))):=(hSt.2 (k+1) hk).1
      have e1:W1.cell? ⟨b,off+(k+1)*9+1,none⟩=some (.int .u8 (V (k+1) 0)):=(hSt.2 (k+1) hk).2 0 (by omega)
      have e2:W1.cell? ⟨b,off+(k+1)*9+2,none⟩=some (.int .u8 (V (k+1) 1)):=(hSt.2 (k+1) hk).2 1 (by omega)
      have e3:W1.cell? ⟨b,off+(k+1)*9+3,none⟩=some (.int .u8 (V (k+1) 2)):=(hSt.2 (k+1) hk).2 2 (by omega)
      have e4:W1.cell? ⟨b,off+(k+1)*9+4,none⟩=some (.int .u8 (V (k+1) 3)):=(hSt.2 (k+1) hk).2 3 (by omega)
      have e5:W1.cell? ⟨b,off+(k+1)*9+5,none⟩=some (.int .u8 (V (k+1) 4)):=(hSt.2 (k+1) hk).2 4 (by omega)
      have e6:W1.cell? ⟨b,off+(k+1)*9+6,none⟩=some (.int .u8 (V (k+1) 5)):=(hSt.2 (k+1) hk).2 5 (by omega)
      have e7:W1.cell? ⟨b,off+(k+1)*9+7,none⟩=some (.int .u8 (V (k+1) 6)):=(hSt.2 (k+1) hk).2 6 (by omega)
      have e8:W1.cell? ⟨b,off+(k+1)*9+8,none⟩=some (.int .u8 (V (k+1) 7)):=(hSt.2 (k+1) hk).2 7 (by omega)
      have hdi:((k:Int)==(n:Int)-1)=false:=by simp;omega
      have hdj:(P k==t)=false:=by simp;omega
      have hnx:=HN.out (k+1) (by omega) hk
      have hb0:=HPb.out k (by omega)
      have hb1:=HPb.out (k+1) hk
      have hbW:=hSt.1
      clear hSt
      have q0:(k:Int)+1=((k+1:Nat):Int):=by omega
      generalize hk1:k+1=k1 at *
      have q1:((k:Int)==(n:Int)-1)=false:=by simp;omega
      have q2:(P k==t)=false:=by simp;omega
      go_wp2_with fail
      have S2:Hid (Fill8 W1 W1 (w.heap.size+1) 0 B):=show Fill8 W1 W1 (w.heap.size+1) 0 B by
        refine ⟨Below.refl _ _,by omega,fun o ho=>?_,fun o=>?_⟩
        · rw [hr2,if_neg (by omega)]
          match o,ho with
          | 0,_=>rfl
          | 1,_=>rfl
          | 2,_=>rfl
          | 3,_=>rfl
          | 4,_=>rfl
          | 5,_=>rfl
          | 6,_=>rfl
          | 7,_=>rfl
        · exact hr2F o
      have hrH:Hid _:=hr
      have hrFH:Hid _:=hrF
      clear hr hrF hr2 hr2F c0 e0 c1 e1 c2 e2 c3 e3 c4 e4 c5 e5 c6 e6 c7 e7 c8 e8
      go_loopw [43] (fun v wr=>∃ j:Nat,j≤8∧v=.int .i64 j∧Fill8 W1 wr (w.heap.size+1) j B) (fun v _=>8-(intOf v).toNat)
      case atStart=>exact ⟨0,by omega,rfl,S2.out⟩
      case round =>
        obtain ⟨j,hj,rfl,hF⟩:=hrel
        have HF:Hid _:=hF
        have hszr:=hF.size
        by_cases hlj:j<8
        · have hStr:StopsAt W1 b off n P V:=HSt.out
          have hbw:=HS.out.1
          have a0:=(hF.below.cell (p:=⟨b,off+k*9,none⟩) (by show b<_;omega)).trans (hStr.2 k (by omega)).1
          have a1:=(hF.below.cell (p:=⟨b,off+k*9+(j+1),none⟩) (by show b<_;omega)).trans ((hStr.2 k (by omega)).2 j hlj)
          have d0:=(hF.below.cell (p:=⟨b,off+k1*9,none⟩) (by show b<_;omega)).trans (hStr.2 k1 hk).1
          have d1:=(hF.below.cell (p:=⟨b,off+k1*9+(j+1),none⟩) (by show b<_;omega)).trans ((hStr.2 k1 hk).2 j hlj)
          rw [show off+k*9+(j+1)=off+k*9+1+j by omega] at a1
          rw [show off+k1*9+(j+1)=off+k1*9+1+j by omega] at d1
          have hx:=HV.out k (by omega) j hlj
          have hy:=HV.out k1 (by omega) j hlj
          have hn:=HB.out j hlj
          have u1:=mulN (b:=P k1-t) (B:=65536) hx ⟨by omega,by omega⟩
          have u2:=mulN (b:=t-P k) (B:=65536) hy ⟨by omega,by omega⟩
          have u3:=mulN (b:=P k1-t) (B:=P k1-t) hx ⟨by omega,by omega⟩
          have u4:=mulN (b:=t-P k) (B:=t-P k) hy ⟨by omega,by omega⟩
          have hz:=q2b (V k j*(P k1-t)+V k1 j*(t-P k)) (P k1-P k) 255 (by omega) (by omega) (by omega)
          have HN:Hid (∀ w',Fill8 W1 w' (w.heap.size+1) j B→Fill8 W1 (w'.setCell ⟨w.heap.size+1,j,none⟩ (.int .u8 (B j))) (w.heap.size+1) (j+1) B):=fun w' h=>h.step hlj
          have Ha0:Hid _:=a0
          have Hd0:Hid _:=d0
          clear hF u3 u4 hStr
          generalize B j=z at *
          generalize V k j=x at *
          generalize V k1 j=y at *
          generalize hue:x*(P k1-t)=u at *
          generalize hve:y*(t-P k)=v at *
          subst hn
          go_wp2_with fail
          go_quiet (fail)
          have hdz:(wr.drewN nq).heap.size=wr.heap.size:=rfl
          have HFd:Hid (Fill8 W1 (wr.drewN nq) (w.heap.size+1) j B):=HF.out.later (z91 (Below.refl _ _) _)
          go_wp2_with fail
          refine head 35 (by kernel_rfl) (by kernel_rfl) (by rfl) ?_
          apply Exists.intro
          refine ⟨fun F'=>?_,fun w' hb=>?_⟩
          · haveI:=F'.ne
            simp only [List.take_succ_cons,List.take_zero]
            repeat (go_big_quiet_step (first |(go_at_call 121;exact q17 (z4n _ _ _ (by omega) (by omega)))))
            exact wpQuiet_nil rfl
          have hF':Hid _:=HFd.out.later hb
          have c1':w'.cell? ⟨w.heap.size+1,j,none⟩=some (.int .u8 0):=by rw [hF'.out.cells j hlj,if_neg (by omega)]
          have f1':=hF'.out.free j
          simp only [List.drop_succ_cons,List.drop_zero]
          go_wp2_with fail
          go_roundw
          case rel=>exact ⟨j+1,by omega,by go_num,HN.out _ hF'.out⟩
          case measure=>simp [intOf];omega
        · obtain rfl:j=8:=by omega
          have hr:∀ o,_:=fun o=>(hF.below.cell (p:=⟨w.heap.size,o,none⟩) (by show w.heap.size<_;omega)).trans (hrH.out o)
          have hrF:∀ o,_:=fun o=>(hF.below.frozen (p:=⟨w.heap.size,o,none⟩) (by show w.heap.size<_;omega)).trans (hrFH.out o)
          have hc:∀ o,o<8→wr.cell? ⟨w.heap.size+1,o,none⟩=some (.int .u8 (B o)):=fun o ho=>by rw [hF.cells o ho,if_pos ho]
          have h0:=hc 0 (by omega)
          have h1:=hc 1 (by omega)
          have h2:=hc 2 (by omega)
          have h3:=hc 3 (by omega)
          have h4:=hc 4 (by omega)
          have h5:=hc 5 (by omega)
          have h6:=hc 6 (by omega)
          have h7:=hc 7 (by omega)
          have HBB:Hid (Below w.heap.size w wr):=show Below w.heap.size w wr from B1.out.trans (hF.below.mono (by omega))
          clear hF hc
          go_wp2_with fail
          refine bodyPost_ret (by simp [results,Tryz.results118,go_sem,hr];try rfl) rfl ?_
          have hBB:=HBB.out
          refine ⟨rfl,?_⟩
          exact blQ
end Go.Proofs.YticolnghiibgfaaGreat
