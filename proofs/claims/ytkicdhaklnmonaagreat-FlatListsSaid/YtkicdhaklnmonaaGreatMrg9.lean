/-
  Merged: XPainted, XComposeMix, XOver, XStops.
-/
import Derived.Test.YtkicdhaklnmonaaGreatMrg8
import Derived.Test.YtkicdhaklnmonaaGreatMrg5
import Derived.Test.YtkicdhaklnmonaaGreatMrg4
set_option linter.unusedVariables false
set_option linter.unusedSimpArgs false
set_option linter.unnecessarySimpa false
namespace Go.Proofs.YtkicdhaklnmonaaGreat
open Go.RowKit
end Go.Proofs.YtkicdhaklnmonaaGreat
namespace Go.Proofs.YtkicdhaklnmonaaGreat
open Go.RowKit
end Go.Proofs.YtkicdhaklnmonaaGreat
namespace Go.Proofs.YtkicdhaklnmonaaGreat
open Go.RowKit
end Go.Proofs.YtkicdhaklnmonaaGreat
namespace Go.Proofs.YtkicdhaklnmonaaGreat
open Go.RowKit
def q06 (at_:Nat→Int) (k:Nat):Int :=
  if at_ k<0∨65536<at_ k then 3 else if 0<k∧at_ k<at_ (k-1) then 18 else 0
def q1u (at_:Nat→Int) (n:Nat):Int:=if n<1∨16<n then 2 else q4v (q06 at_) n
theorem v04 {j:Nat} (hj:j<8):(flat Tryz.prog 20 141)[j+1]? = some (.int .u8):=by
  have hl:flat Tryz.prog 20 141=[.int .i64,.int .u8,.int .u8,.int .u8,.int .u8,.int .u8,.int .u8,.int .u8,.int .u8]:=by kernel_rfl
  rw [hl]
  match j,hj with
  | 0,_=>rfl
  | 1,_=>rfl
  | 2,_=>rfl
  | 3,_=>rfl
  | 4,_=>rfl
  | 5,_=>rfl
  | 6,_=>rfl
  | 7,_=>rfl
set_option maxRecDepth 20000 in
set_option maxHeartbeats 2000000 in
theorem q7q (A:Option Addr) (n cap:Nat) (g:Nat→Nat→Value) (w:World) (hn:n≤cap∧cap≤9223372036854775807) (h:SliceG Tryz.prog w 141 A n g) :
    Calls Tryz.prog 136 #[.slice A n cap] w fun e w'=>e=.returned (.int .i64 (q1u (fun x=>valI (g x 0)) n))∧Below w.heap.size w w':=by
  generalize hat:(fun x=>valI (g x 0))=at_
  have h9:Hid (Tryz.prog.cellsOf 141=9):=by show Tryz.prog.cellsOf 141=9;kernel_rfl
  have hint:Hid (∀ x,x<n→g x 0=.int .i64 (at_ x)):=fun x hx=>by
    rw [← hat];exact (h.int (by kernel_rfl) hx (by kernel_rfl)).1
  clear hat
  obtain ⟨f,hf⟩:∃ f:Nat→Nat→Int,Hid (∀ x,x<n→∀ j,j<8→g x (j+1)=.int .u8 (f x j)):=⟨fun x j=>valI (g x (j+1)),fun x hx j hj=>(h.int (by kernel_rfl) hx (v04 hj)).1⟩
  have hS:Hid _:=h
  clear h
  rcases Nat.eq_zero_or_pos n with rfl |hlo
  · go_enter Tryz.func136,Tryz.ntmps136
    go_wp2
    go_ret
    exact ⟨q05 (by rw [q1u,if_pos (by omega)]),by exact blQ⟩
  by_cases hbig:16<n
  · go_enter Tryz.func136,Tryz.ntmps136
    go_wp2
    go_ret
    exact ⟨q05 (by rw [q1u,if_pos (by omega)]),by exact blQ⟩
  go_enter Tryz.func136,Tryz.ntmps136
  go_wp2
  go_loopw [15] (fun i wr=>∃ k:Nat,k≤n∧i=.int .i64 k∧q4v (q06 at_) k=0∧Below w.heap.size w wr) (fun i _=>n-(intOf i).toNat)
  case atStart=>exact ⟨0,Nat.zero_le _,rfl,rfl,Below.refl _ _⟩
  case round =>
    obtain ⟨k,hk,rfl,hz,hbel⟩:=hrel
    by_cases hlt:k<n
    · obtain ⟨b,off,rfl,hbs,hc⟩:=SliceG.below hS.out hbel (by omega)
      rw [h9.out] at hc
      have c0:=(hc k hlt).1 0 (by omega)
      have c1:=(hc k hlt).1 1 (by omega)
      rw [hf.out k hlt 0 (by omega)] at c1
      have c2:=(hc k hlt).1 2 (by omega)
      rw [hf.out k hlt 1 (by omega)] at c2
      have c3:=(hc k hlt).1 3 (by omega)
      rw [hf.out k hlt 2 (by omega)] at c3
      have c4:=(hc k hlt).1 4 (by omega)
      rw [hf.out k hlt 3 (by omega)] at c4
      have c5:=(hc k hlt).1 5 (by omega)
      rw [hf.out k hlt 4 (by omega)] at c5
      have c6:=(hc k hlt).1 6 (by omega)
      rw [hf.out k hlt 5 (by omega)] at c6
      have c7:=(hc k hlt).1 7 (by omega)
      rw [hf.out k hlt 6 (by omega)] at c7
      have c8:=(hc k hlt).1 8 (by omega)
      rw [hf.out k hlt 7 (by omega)] at c8
      rw [Nat.add_zero,hint.out k hlt] at c0
      have HC:Hid _:=hc
      clear hc
      have hsz:=hbel.size
      have HF:Hid (q06 at_ k≠0→q1u at_ n=q06 at_ k):=fun he=>by rw [q1u,if_neg (by omega)];exact z2p hz he hlt
      have HN:Hid (q06 at_ k=0→q4v (q06 at_) (k+1)=0):=fun he=>z4e hz he
      clear hz
      by_cases r0:at_ k<0
      · have HE:Hid (q06 at_ k=3):=by show q06 at_ k=3;rw [q06,if_pos (by omega)]
        go_wp2_with fail
        go_ret
        exact ⟨q05 (by rw [HF.out (by rw [HE.out];decide),HE.out]),by exact blQ⟩
      by_cases r1:65536<at_ k
      · have HE:Hid (q06 at_ k=3):=by show q06 at_ k=3;rw [q06,if_pos (by omega)]
        go_wp2_with fail
        go_ret
        exact ⟨q05 (by rw [HF.out (by rw [HE.out];decide),HE.out]),by exact blQ⟩
      by_cases hk0:k=0
      · subst hk0
        simp only [Nat.zero_mul,Nat.add_zero] at c0 c1 c2 c3 c4 c5 c6 c7 c8
        have HE:Hid (q06 at_ 0=0):=by show q06 at_ 0=0;rw [q06,if_neg (by omega),if_neg (by omega)]
        go_wp2_with fail
        go_quiet (fail)
        go_wp2
        go_roundw
        case rel=>exact ⟨1,by omega,rfl,HN.out HE.out,by exact blQ⟩
        case measure=>simp [intOf];omega
      · obtain ⟨m,rfl⟩:∃ m,k=m+1:=⟨k-1,by omega⟩
        have d0:=(HC.out m (by omega)).1 0 (by omega)
        rw [Nat.add_zero,hint.out m (by omega)] at d0
        have km:IntKind.i64.wrap (m:Int)=m:=IntWalk.i64_in _ (by omega)
        have hmb:0≤(m:Int)∧(m:Int)<(n:Int):=by omega
        by_cases e1:at_ (m+1)<at_ m
        · have e1d:decide (at_ (m+1)<at_ m)=true:=by simpa using e1
          have HE:Hid (q06 at_ (m+1)=18):=by show q06 at_ (m+1)=18;rw [q06,if_neg (by omega),if_pos (by simpa using e1)]
          go_wp2_with fail
          go_quiet (fail)
          go_wp2
          go_ret
          exact ⟨q05 (by rw [HF.out (by rw [HE.out];decide),HE.out]),by exact blQ⟩
        · have e1d:decide (at_ (m+1)<at_ m)=false:=by simpa using e1
          have HE:Hid (q06 at_ (m+1)=0):=by show q06 at_ (m+1)=0;rw [q06,if_neg (by omega),if_neg (by simpa using e1)]
          go_wp2_with fail
          go_quiet (fail)
          go_wp2
          go_roundw
          case rel=>exact ⟨m+1+1,by omega,by go_num,HN.out HE.out,by exact blQ⟩
          case measure=>simp [intOf];omega
    · have:k=n:=by omega
      subst this
      go_wp2
      go_ret
      exact ⟨q05 (by rw [q1u,if_neg (by omega),hz]),hbel⟩
set_option maxRecDepth 20000 in
set_option maxHeartbeats 2000000 in
theorem q7r (A:Option Addr) (n cap:Nat) (g:Nat→Nat→Value) (w:World) (hn:n≤cap∧cap≤9223372036854775807) (h:SliceG Tryz.prog w 141 A n g) :
    Calls Tryz.prog 101 #[.slice A n cap] w fun e w'=>e=.returned (.int .i64 (q1u (fun x=>valI (g x 0)) n))∧Below w.heap.size w w':=by
  generalize hat:(fun x=>valI (g x 0))=at_
  have h9:Hid (Tryz.prog.cellsOf 141=9):=by show Tryz.prog.cellsOf 141=9;kernel_rfl
  have hint:Hid (∀ x,x<n→g x 0=.int .i64 (at_ x)):=fun x hx=>by
    rw [← hat];exact (h.int (by kernel_rfl) hx (by kernel_rfl)).1
  clear hat
  have hS:Hid _:=h
  clear h
  by_cases hl:inB n 1 16=true
  rotate_left
  · have hl:inB n 1 16=false:=by simpa using hl
    go_enter Tryz.func101,Tryz.ntmps101
    go_wp2_with (first |(go_at_call 11;refine (q6g _ _ _ _).mono ?_;rintro e w' ⟨rfl,rfl⟩))
    go_ret
    have:¬(1≤(n:Int)∧(n:Int)≤16):=fun hh=>by rw [x3l hh] at hl;cases hl
    exact ⟨q05 (by rw [q1u,if_pos (by omega)]),by exact blQ⟩
  have hl':=inB_iff.1 hl
  go_enter Tryz.func101,Tryz.ntmps101
  go_wp2_with (first |(go_at_call 11;refine (q6g _ _ _ _).mono ?_;rintro e w' ⟨rfl,rfl⟩))
  go_loopw [10] (fun i wr=>∃ k:Nat,k≤n∧i=.int .i64 k∧q4v (q06 at_) k=0∧Below w.heap.size w wr) (fun i _=>n-(intOf i).toNat)
  case atStart=>exact ⟨0,Nat.zero_le _,rfl,rfl,Below.refl _ _⟩
  case round =>
    obtain ⟨k,hk,rfl,hz,hbel⟩:=hrel
    by_cases hlt:k<n
    · obtain ⟨b,off,rfl,hbs,hc⟩:=SliceG.below hS.out hbel (by omega)
      rw [h9.out] at hc
      have c0:=(hc k hlt).1 0 (by omega)
      rw [Nat.add_zero,hint.out k hlt] at c0
      have hsz:=hbel.size
      have HF:Hid (q06 at_ k≠0→q1u at_ n=q06 at_ k):=fun he=>by rw [q1u,if_neg (by omega)];exact z2p hz he hlt
      have HN:Hid (q06 at_ k=0→q4v (q06 at_) (k+1)=0):=fun he=>z4e hz he
      clear hz
      by_cases r0:inB (at_ k) 0 65536=true
      rotate_left
      · have r0:inB (at_ k) 0 65536=false:=by simpa using r0
        have HE:Hid (q06 at_ k=3):=by
          show q06 at_ k=3
          have:¬(0≤at_ k∧at_ k≤65536):=fun hh=>by rw [x3l hh] at r0;cases r0
          rw [q06,if_pos (by omega)]
        go_wp2_with (first |(go_at_call 11;refine (q6g _ _ _ _).mono ?_;rintro e w' ⟨rfl,rfl⟩))
        go_ret
        exact ⟨q05 (by rw [HF.out (by rw [HE.out];decide),HE.out]),by exact blQ⟩
      have r0':=inB_iff.1 r0
      by_cases hk0:k=0
      · subst hk0
        simp only [Nat.zero_mul,Nat.add_zero] at c0
        have HE:Hid (q06 at_ 0=0):=by show q06 at_ 0=0;rw [q06,if_neg (by omega),if_neg (by omega)]
        go_wp2_with (first |(go_at_call 11;refine (q6g _ _ _ _).mono ?_;rintro e w' ⟨rfl,rfl⟩))
        go_quiet (fail)
        go_wp2
        go_roundw
        case rel=>exact ⟨1,by omega,rfl,HN.out HE.out,by exact blQ⟩
        case measure=>simp [intOf];omega
      · obtain ⟨m,rfl⟩:∃ m,k=m+1:=⟨k-1,by omega⟩
        have d0:=(hc m (by omega)).1 0 (by omega)
        rw [Nat.add_zero,hint.out m (by omega)] at d0
        have km:IntKind.i64.wrap (m:Int)=m:=IntWalk.i64_in _ (by omega)
        have hmb:0≤(m:Int)∧(m:Int)<(n:Int):=by omega
        by_cases e1:at_ (m+1)<at_ m
        · have e1d:decide (at_ (m+1)<at_ m)=true:=by simpa using e1
          have HE:Hid (q06 at_ (m+1)=18):=by show q06 at_ (m+1)=18;rw [q06,if_neg (by omega),if_pos (by simpa using e1)]
          go_wp2_with (first |(go_at_call 11;refine (q6g _ _ _ _).mono ?_;rintro e w' ⟨rfl,rfl⟩))
          go_quiet (fail)
          go_wp2
          go_ret
          exact ⟨q05 (by rw [HF.out (by rw [HE.out];decide),HE.out]),by exact blQ⟩
        · have e1d:decide (at_ (m+1)<at_ m)=false:=by simpa using e1
          have HE:Hid (q06 at_ (m+1)=0):=by show q06 at_ (m+1)=0;rw [q06,if_neg (by omega),if_neg (by simpa using e1)]
          go_wp2_with (first |(go_at_call 11;refine (q6g _ _ _ _).mono ?_;rintro e w' ⟨rfl,rfl⟩))
          go_quiet (fail)
          go_wp2
          go_roundw
          case rel=>exact ⟨m+1+1,by omega,by go_num,HN.out HE.out,by exact blQ⟩
          case measure=>simp [intOf];omega
    · have:k=n:=by omega
      subst this
      go_wp2
      go_ret
      exact ⟨q05 (by rw [q1u,if_neg (by omega),hz]),hbel⟩
end Go.Proofs.YtkicdhaklnmonaaGreat
