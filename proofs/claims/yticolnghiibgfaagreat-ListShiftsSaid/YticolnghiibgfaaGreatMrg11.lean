/-
  Merged: XRampAll, XRampX, XRampZ, XRootMath, XSqrt, XCoord, XPlain.
-/
import Derived.WalkKit
import Derived.Lib.BitFns
import Derived.WalkLawsBesides
import Derived.Handy
import Derived.Test.YticolnghiibgfaaGreatMrg10
import Derived.Test.YticolnghiibgfaaGreatMrg3
import Derived.Test.YticolnghiibgfaaGreatShelf
import Derived.Test.YticolnghiibgfaaGreatProg
set_option linter.unusedVariables false
set_option linter.unusedSimpArgs false
set_option linter.unnecessarySimpa false
namespace Go.Proofs.YticolnghiibgfaaGreat
open Go.RowKit
def q3x (P:Nat→Int) (t:Int):Nat→Nat
  | 0=>0
  | c+1=>if P c≤t then c+1 else q3x P t c
theorem z5o {P:Nat→Int} {t:Int}:∀ {n:Nat},q3x P t n=0→∀ i,i<n→t<P i
  | 0,_,i,hi=>by omega
  | c+1,h,i,hi=>by
    unfold q3x at h
    split at h
    · omega
    · rename_i hc
      rcases Nat.lt_or_ge i c with h1 |h1
      · exact z5o h i h1
      · have:i=c:=by omega
        subst this;omega
theorem z1n {P:Nat→Int} {t:Int} {k:Nat}:∀ {n:Nat},q3x P t n=k+1→k<n∧P k≤t∧∀ i,k<i→i<n→t<P i
  | 0,h=>by simp [q3x] at h
  | c+1,h=>by
    unfold q3x at h
    split at h
    · rename_i hc
      have:c=k:=by omega
      subst this
      exact ⟨by omega,hc,fun i h1 h2=>by omega⟩
    · rename_i hc
      obtain ⟨h1,h2,h3⟩:=z1n h
      refine ⟨by omega,h2,fun i h4 h5=>?_⟩
      rcases Nat.lt_or_ge i c with h6 |h6
      · exact h3 i h4 h6
      · have:i=c:=by omega
        subst this;omega
def q6k (n:Nat) (P:Nat→Int) (V:Nat→Nat→Int) (t:Int) (j:Nat):Int :=
  if q3x P t n=0 then V 0 j
  else if q3x P t n=n∨P (q3x P t n-1)=t then V (q3x P t n-1) j
  else near (V (q3x P t n-1) j*(P (q3x P t n)-t)+V (q3x P t n) j*(t-P (q3x P t n-1))) (P (q3x P t n)-P (q3x P t n-1))
theorem z98 (b off n cap:Nat) (P:Nat→Int) (V:Nat→Nat→Int) (B:Nat→Int) (t:Int) (w:World) (hn:1≤n∧n≤16) (ht:0≤t∧t≤65536) (hP:∀ i,i<n→0≤P i∧P i≤65536) (hV:∀ i,i<n→∀ j,j<8→0≤V i j∧V i j≤255) (hst:StopsAt w b off n P V) (hB:∀ j,j<8→B j=q6k n P V t j) :
    (Calls Tryz.prog 131 #[.slice (some ⟨b,off,none⟩) n cap,.int .i64 t] w fun e w'=>e=.returned (.agg #[.int .u8 (B 0),.int .u8 (B 1),.int .u8 (B 2),.int .u8 (B 3),.int .u8 (B 4),.int .u8 (B 5),.int .u8 (B 6),.int .u8 (B 7)])∧Below w.heap.size w w') ∧
    (Calls Tryz.prog 118 #[.slice (some ⟨b,off,none⟩) n cap,.int .i64 t] w fun e w'=>e=.returned (.agg #[.int .u8 (B 0),.int .u8 (B 1),.int .u8 (B 2),.int .u8 (B 3),.int .u8 (B 4),.int .u8 (B 5),.int .u8 (B 6),.int .u8 (B 7)])∧Below w.heap.size w w'):=by
  cases hk:q3x P t n with
  | zero =>
    have hb:∀ j,j<8→B j=V 0 j:=fun j hj=>by rw [hB j hj,q6k,if_pos hk]
    have hno:=z5o hk
    rw [hb 0 (by omega),hb 1 (by omega),hb 2 (by omega),hb 3 (by omega),hb 4 (by omega),hb 5 (by omega),hb 6 (by omega),hb 7 (by omega)]
    exact ⟨x50 b off n cap P V t w hn ht hP hst hno,x30 b off n cap P V t w hn ht hP hst hno⟩
  | succ k =>
    obtain ⟨hkn,hle,hno⟩:=z1n hk
    by_cases hor:k+1=n∨P k=t
    · have hb:∀ j,j<8→B j=V k j:=fun j hj=>by rw [hB j hj,q6k,if_neg (by omega),hk,if_pos (by simpa using hor)];rfl
      rw [hb 0 (by omega),hb 1 (by omega),hb 2 (by omega),hb 3 (by omega),hb 4 (by omega),hb 5 (by omega),hb 6 (by omega),hb 7 (by omega)]
      exact ⟨x98 b off n cap P V t w hn ht hP hst k hkn hle hno hor,x8c b off n cap P V t w hn ht hP hst k hkn hle hno hor⟩
    · have hb:∀ j,j<8→B j=near (V k j*(P (k+1)-t)+V (k+1) j*(t-P k)) (P (k+1)-P k):=fun j hj=>by rw [hB j hj,q6k,if_neg (by omega),hk,if_neg (by simpa using hor)];rfl
      exact ⟨x8b b off n cap P V t w hn ht hP hst k (by omega) (by omega) hno B hV hb,x51 b off n cap P V t w hn ht hP hst k (by omega) (by omega) hno B hV hb⟩
end Go.Proofs.YticolnghiibgfaaGreat
namespace Go.Proofs.YticolnghiibgfaaGreat
open Go.RowKit
theorem z35 {err:Nat→Int}:∀ {n:Nat},q3s err n=0→∀ i,i<n→err i=0
  | 0,_,i,hi=>by omega
  | n+1,h,i,hi=>by
    unfold q3s at h
    split at h
    · rename_i h1;exact absurd h h1
    · rename_i h1
      rcases Nat.lt_or_ge i n with h2 |h2
      · exact z35 (by simpa using h1) i h2
      · have:i=n:=by omega
        subst this;exact h
theorem q5a {P:Nat→Int} {n:Nat} (h:q1g P n=0):(1≤n∧n≤16)∧∀ i,i<n→0≤P i∧P i≤65536:=by
  unfold q1g at h
  split at h
  · omega
  · refine ⟨by omega,fun i hi=>?_⟩
    have:=z35 h i hi
    unfold q07 at this
    split at this
    · omega
    · omega
theorem z2p {w:World} {A:Option Addr} {n:Nat} {g:Nat→Nat→Value} (h:SliceG Tryz.prog w 119 A n g) (hn:0<n) :
    ∃ b off,A=some ⟨b,off,none⟩∧StopsAt w b off n (fun x=>valI (g x 0)) (fun x j=>valI (g x (j+1)))∧∀ i,i<n→∀ j,j<8→0≤valI (g i (j+1))∧valI (g i (j+1))≤255:=by
  have h9:Tryz.prog.cellsOf 119=9:=by kernel_rfl
  obtain ⟨b,off,hA,hb,hc⟩:=h hn
  rw [h9] at hc
  refine ⟨b,off,hA,⟨hb,fun i hi=>⟨?_,fun j hj=>?_⟩⟩,fun i hi j hj=>?_⟩
  · have:=(hc i hi).1 0 (by omega)
    rw [Nat.add_zero] at this
    rw [this];exact congrArg some (h.int (by kernel_rfl) hi (by kernel_rfl)).1
  · rw [(hc i hi).1 (j+1) (by omega)]
    exact congrArg some (h.int (by kernel_rfl) hi (z0n hj)).1
  · have:=(h.int (by kernel_rfl) hi (z0n hj)).2
    simp [Lit.wf,IntKind.min,IntKind.max,IntKind.signed,IntKind.bits] at this
    omega
end Go.Proofs.YticolnghiibgfaaGreat
namespace Go.Proofs.YticolnghiibgfaaGreat
open Go.RowKit
end Go.Proofs.YticolnghiibgfaaGreat
namespace Go.Proofs.YticolnghiibgfaaGreat
open Go.RowKit
def q40 (n r:Int):Prop:=0≤r∧r*r≤n∧n<(r+1)*(r+1)
theorem x9d {a b:Int} (h0:0≤a) (h:a≤b):a*a≤b*b:=Int.mul_le_mul h h h0 (by omega)
theorem q5v {a b:Int} (hb:0≤b) (h:a*a<b*b):a<b:=by
  rcases Int.lt_or_le a b with h1 |h1
  · exact h1
  · have:=x9d hb h1;omega
theorem x1n {n r s:Int} (h:q40 n r) (k:q40 n s):r=s:=by
  obtain ⟨h0,h1,h2⟩:=h
  obtain ⟨k0,k1,k2⟩:=k
  have a1:r<s+1:=q5v (by omega) (by omega)
  have a2:s<r+1:=q5v (by omega) (by omega)
  omega
theorem x52 {n x r:Int} (hr:q40 n r) (hx:1≤x):r≤(x+n/x)/2:=by
  obtain ⟨h0,h1,h2⟩:=hr
  have he:=Int.mul_ediv_add_emod n x
  have hm:=Int.emod_lt_of_pos n (b:=x) (by omega)
  -- suppose x+n/x<2r;then x (2r-x) > n≥r²,against (r-x)²≥0
  rcases Int.lt_or_le ((x+n/x)/2) r with h |h
  · exfalso
    have hq:n/x+1≤2*r-x:=by omega
    have h3:x*(n/x+1)≤x*(2*r-x):=Int.mul_le_mul_of_nonneg_left hq (by omega)
    have h4:x*(n/x+1)=x*(n/x)+x:=by rw [Int.mul_add];omega
    have h5:0≤(r-x)*(r-x):=by
      rcases Int.le_total 0 (r-x) with g |g
      · exact Int.mul_nonneg g g
      · exact Int.mul_nonneg_of_nonpos_of_nonpos g g
    have h6:(r-x)*(r-x)=r*r-2*(x*r)+x*x:=by
      rw [Int.sub_mul,Int.mul_sub,Int.mul_sub,Int.mul_comm r x];omega
    have h7:x*(2*r-x)=2*(x*r)-x*x:=by
      rw [Int.mul_sub,Int.mul_left_comm]
    omega
  · exact h
theorem x1o {n x r:Int} (hr:q40 n r) (hx:1≤x) (hge:r≤x) (h:x≤(x+n/x)/2):x=r:=by
  obtain ⟨h0,h1,h2⟩:=hr
  have he:=Int.mul_ediv_add_emod n x
  have hm:=Int.emod_nonneg n (b:=x) (by omega)
  have hq:x≤n/x:=by omega
  have h3:x*x≤x*(n/x):=Int.mul_le_mul_of_nonneg_left hq (by omega)
  have:x<r+1:=q5v (by omega) (by omega)
  omega
theorem z99 {n r:Int} (hr:q40 n r) (hn:1≤n):1≤r:=by
  obtain ⟨h0,h1,h2⟩:=hr
  rcases Int.lt_or_le r 1 with h |h
  · have:r=0:=by omega
    subst this;omega
  · exact h
theorem x1p (n:Nat):∃ r:Int,q40 n r:=by
  induction n with
  | zero=>exact ⟨0,by omega,by omega,by omega⟩
  | succ n ih =>
    obtain ⟨r,h0,h1,h2⟩:=ih
    by_cases h:((n:Int)+1)<(r+1)*(r+1)
    · exact ⟨r,h0,by omega,by omega⟩
    · refine ⟨r+1,by omega,by omega,?_⟩
      have:(r+1+1)*(r+1+1)=(r+1)*(r+1)+2*(r+1)+1:=by
        rw [Int.add_mul (r+1) 1,Int.mul_add (r+1) (r+1) 1];omega
      omega
theorem x99 {n:Int} (h:0≤n):∃ r:Int,q40 n r:=by
  obtain ⟨r,hr⟩:=x1p n.toNat
  rw [Int.toNat_of_nonneg h] at hr
  exact ⟨r,hr⟩
theorem z0o:∀ (f x:Nat),x<2 ^ f→x<2 ^ Lib.bitLenAux f x∧(x≠0→1≤Lib.bitLenAux f x∧2 ^ (Lib.bitLenAux f x-1)≤x)
  | 0,x,h=>by
    have:x=0:=by simpa using h
    subst this;simp [Lib.bitLenAux]
  | f+1,x,h=>by
    unfold Lib.bitLenAux
    by_cases h0:x=0
    · subst h0;simp
    · rw [if_neg h0]
      have hx:x/2<2 ^ f:=by rw [Nat.pow_succ] at h;omega
      obtain ⟨h1,h2⟩:=z0o f (x/2) hx
      refine ⟨?_,fun _=>⟨by omega,?_⟩⟩
      · rw [Nat.add_comm,Nat.pow_succ];omega
      · rw [show 1+Lib.bitLenAux f (x/2)-1=Lib.bitLenAux f (x/2) from by omega]
        by_cases h3:x/2=0
        · have hz:Lib.bitLenAux f (x/2)=0:=by rw [h3];cases f <;> simp [Lib.bitLenAux]
          rw [hz];simp;omega
        · obtain ⟨g1,g2⟩:=h2 h3
          have:2 ^ Lib.bitLenAux f (x/2)=2 ^ (Lib.bitLenAux f (x/2)-1)*2:=by
            rw [← Nat.pow_succ];congr 1;omega
          omega
theorem x53 {x:Nat} (h0:x≠0) {m:Nat} (h:x<2 ^ m) (hm:m≤64):x<2 ^ Lib.bitLen x∧1≤Lib.bitLen x∧Lib.bitLen x≤m:=by
  have hx:x<2 ^ 64:=Nat.lt_of_lt_of_le h (Nat.pow_le_pow_right (by omega) hm)
  obtain ⟨h1,h2⟩:=z0o 64 x hx
  obtain ⟨h3,h4⟩:=h2 h0
  refine ⟨h1,h3,?_⟩
  have h5:2 ^ (Lib.bitLen x-1)<2 ^ m:=Nat.lt_of_le_of_lt h4 h
  have h6:=(Nat.pow_lt_pow_iff_right (a:=2) (by omega)).1 h5
  omega
theorem x8d {n r:Int} (hr:q40 n r) (h0:1≤n) (h1:n<2 ^ 63):∀ L:Nat,L=Lib.bitLen n.toNat→1≤(L+1)/2∧(L+1)/2≤32∧r<((2 ^ ((L+1)/2):Nat):Int):=by
  intro L hL
  have hb:=x53 (x:=n.toNat) (by omega) (m:=63) (by omega) (by omega)
  rw [← hL] at hb
  obtain ⟨b1,b2,b3⟩:=hb
  refine ⟨by omega,by omega,?_⟩
  have h2:2 ^ L≤2 ^ ((L+1)/2)*2 ^ ((L+1)/2):=by
    rw [← Nat.pow_add];exact Nat.pow_le_pow_right (by omega) (by omega)
  have h5:n.toNat<2 ^ ((L+1)/2)*2 ^ ((L+1)/2):=Nat.lt_of_lt_of_le b1 h2
  clear b1 h2
  generalize 2 ^ ((L+1)/2)=p at *
  have h3:n<(p:Int)*(p:Int):=by
    have h4:(n.toNat:Int)<((p*p:Nat):Int):=Int.ofNat_lt.2 h5
    rw [Int.natCast_mul] at h4
    omega
  obtain ⟨k0,k1,k2⟩:=hr
  exact q5v (by omega) (by omega)
theorem x8e {k:Nat} (h:k≤32):wrap64 ((2:Int) ^ k)=((2 ^ k:Nat):Int)∧((2 ^ k:Nat):Int)≤4294967296:=by
  have h1:2 ^ k≤2 ^ 32:=Nat.pow_le_pow_right (by omega) h
  have h2:((2:Int) ^ k)=((2 ^ k:Nat):Int):=by simp
  have h3:((2 ^ k:Nat):Int)≤4294967296:=by omega
  have h4:0≤((2 ^ k:Nat):Int):=Int.natCast_nonneg _
  refine ⟨?_,h3⟩
  rw [h2]
  generalize ((2 ^ k:Nat):Int)=p at *
  exact IntWalk.wrap64_in _ ⟨by omega,by omega⟩
end Go.Proofs.YticolnghiibgfaaGreat
namespace Go.Proofs.YticolnghiibgfaaGreat
open Go.RowKit
set_option maxHeartbeats 400000 in
theorem x8f (n r:Int) (w:World) (hn:0≤n∧n≤4611686018427387904) (hr:q40 n r) :
    Calls Tryz.prog 144 #[.int .i64 n] w fun e w'=>e=.returned (.int .i64 r)∧w=w':=by
  by_cases h2:n<2
  · have h:n=r:=by
      obtain ⟨h0,h1,h3⟩:=hr
      have:n=0∨n=1:=by omega
      rcases this with rfl |rfl
      · have:r<1:=q5v (by omega) (by omega)
        omega
      · have a1:r<2:=q5v (by omega) (by omega)
        have a2:0<r+1:=by omega
        rcases Int.lt_or_le r 1 with h |h
        · have:r=0:=by omega
          subst this;omega
        · omega
    have H:Hid (n=r):=h
    clear h
    go_enter Tryz.func144,Tryz.ntmps144
    go_wp2
    go_ret
    exact ⟨q0u H.out,rfl⟩
  · obtain ⟨L,hL⟩:∃ L,L=Lib.bitLen n.toNat:=⟨_,rfl⟩
    obtain ⟨g1,g2,g3⟩:=x8d hr (by omega) (by omega) L hL
    have HL:Hid (L=Lib.bitLen n.toNat):=hL
    clear hL
    have HC:Hid (Calls Tryz.prog 159 #[.int .u64 n] w fun e w'=>e=.returned (.int .i64 L)∧w'=w):=by rw [HL.out];exact Tryz.bits_Len n w (by omega) (by omega)
    go_enter Tryz.func144,Tryz.ntmps144
    go_wp2_with (go_at_call 159;refine (HC.out).mono ?_;rintro e w' ⟨rfl,rfl⟩)
    obtain ⟨g4,g5⟩:=x8e (k:=(L+1)/2) g2
    go_loop [3] (fun x=>∃ X:Int,r≤X∧1≤X∧X≤4294967296∧x=.int .i64 X) (fun x=>(intOf x).toNat)
    case atStart=>exact ⟨_,by omega,by have:=z99 hr (by omega);omega,by omega,rfl⟩
    case round =>
      obtain ⟨X,x1,x2,x3,rfl⟩:=hrel
      have hd:=q63 n X x2
      have hge:=x52 hr x2
      have hst:X≤(X+n/X)/2→X=r:=x1o hr x2 x1
      have hr1:=z99 hr (by omega)
      have HS:Hid (X≤(X+n/X)/2→X=r):=hst
      clear hst g4 g5 g3 HC HL
      go_wp2
      · have:X=r:=HS.out (by assumption)
        go_ret
        exact ⟨q0u this,rfl⟩
      · go_round
        case rel=>exact ⟨_,hge,by omega,by omega,rfl⟩
        case measure=>simp [intOf];omega
set_option maxHeartbeats 400000 in
theorem x54 (n r:Int) (w:World) (hn:0≤n∧n≤4611686018427387904) (hr:q40 n r) :
    Calls Tryz.prog 140 #[.int .i64 n] w fun e w'=>e=.returned (.int .i64 r)∧w=w':=by
  go_enter Tryz.func140,Tryz.ntmps140
  go_wp2
  go_loop [3,4] (fun l h=>∃ L H:Int,0≤L∧L<H∧H≤2147483649∧L*L≤n∧n<H*H∧l=.int .i64 L∧h=.int .i64 H) (fun l h=>(intOf h-intOf l).toNat)
  case atStart=>exact ⟨0,2147483649,by omega,by omega,by omega,by omega,by omega,rfl,rfl⟩
  case round =>
    obtain ⟨L,H,l0,l1,l2,l3,l4,rfl,rfl⟩:=hrel
    by_cases hgo:1<H-L
    · have hm:0≤(L+H)/2∧(L+H)/2≤2147483648:=by omega
      have hmm:=x9d hm.1 hm.2
      have hm0:=Int.mul_nonneg hm.1 hm.1
      by_cases hc:(L+H)/2*((L+H)/2)≤n
      · go_wp2
        go_round
        case rel=>exact ⟨_,_,hm.1,by omega,l2,hc,l4,rfl,rfl⟩
        case measure=>simp [intOf];omega
      · go_wp2
        go_round
        case rel=>exact ⟨_,_,l0,by omega,by omega,l3,by omega,rfl,rfl⟩
        case measure=>simp [intOf];omega
    · have hu:L=r:=by
        have:H=L+1:=by omega
        subst this
        exact x1n ⟨l0,l3,l4⟩ hr
      have HU:Hid (L=r):=hu
      clear hu
      go_wp2
      go_ret
      exact ⟨q0u HU.out,rfl⟩
end Go.Proofs.YticolnghiibgfaaGreat
namespace Go.Proofs.YticolnghiibgfaaGreat
open Go.RowKit
def ptB (x y:Int):Bool:=inB x (-32767) 32767&&inB y (-32767) 32767
set_option maxHeartbeats 1000000 in
theorem z2q (x y:Int) (w:World) :
    Calls Tryz.prog 115 #[.agg #[.int .i64 x,.int .i64 y]] w fun e w'=>e=.returned (.bool (ptB x y))∧(w.alloc (.cells #[.int .i64 x,.int .i64 y] 45))=w':=by
  go_enter Tryz.func115,Tryz.ntmps115
  go_wp2_with (first |(go_at_call 12;refine (q35 _ _ _ _).mono ?_;rintro e w' ⟨rfl,rfl⟩))
  all_goals go_ret
  all_goals refine ⟨q64 ?_,rfl⟩
  all_goals (go_tidy;unfold ptB;simp [*])
end Go.Proofs.YticolnghiibgfaaGreat
namespace Go.Proofs.YticolnghiibgfaaGreat
open Go.RowKit
def q1d (W H:Int) (n m:Nat) (a b c d e f:Int) (s r:Bool):Bool :=
  W==0&&H==0&&n==0&&m==0&&(a==0&&b==0&&c==0&&d==0&&e==0&&f==0)&&!s&&!r
set_option maxHeartbeats 2000000 in
theorem z2r (W H:Int) (A B:Option Addr) (n p m q:Nat) (a b c d e f:Int) (s r:Bool) (w:World) :
    Calls Tryz.prog 125 #[.agg #[.int .i64 W,.int .i64 H,.slice A n p,.slice B m q,.int .i64 a,.int .i64 b,.int .i64 c,.int .i64 d,.int .i64 e,.int .i64 f,.bool s,.bool r]] w fun e' w'=>e'=.returned (.bool (q1d W H n m a b c d e f s r))∧Below w.heap.size w w':=by
  go_enter Tryz.func125,Tryz.ntmps125
  go_wp2_with fail
  all_goals go_ret
  all_goals exact ⟨q64 (by simp_all [q1d]),by exact blQ⟩
set_option maxHeartbeats 2000000 in
theorem q5g (W H:Int) (A B:Option Addr) (n p m q:Nat) (a b c d e f:Int) (s r:Bool) (w:World) :
    Calls Tryz.prog 85 #[.agg #[.int .i64 W,.int .i64 H,.slice A n p,.slice B m q,.int .i64 a,.int .i64 b,.int .i64 c,.int .i64 d,.int .i64 e,.int .i64 f,.bool s,.bool r]] w fun e' w'=>e'=.returned (.bool (q1d W H n m a b c d e f s r))∧Below w.heap.size w w':=by
  go_enter Tryz.func85,Tryz.ntmps85
  go_wp2_with fail
  all_goals go_ret
  all_goals exact ⟨q64 (by simp_all [q1d]),by exact blQ⟩
end Go.Proofs.YticolnghiibgfaaGreat
