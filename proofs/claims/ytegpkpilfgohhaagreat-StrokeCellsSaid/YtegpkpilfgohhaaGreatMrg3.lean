/-
  Merged: XMath, XQuo, XRootMath, XSqrt, XSees.
-/
import Derived.WalkKit
import Derived.WalkLawsBesides
import Derived.Handy
import Derived.Lib.BitFns
import Derived.ProofKit
import Derived.OpenShut
import Derived.Deep.Slices
import Derived.Test.YtegpkpilfgohhaaGreatProg
import Derived.Test.YtegpkpilfgohhaaGreatShelf
set_option linter.unusedVariables false
set_option linter.unusedSimpArgs false
set_option linter.unnecessarySimpa false
namespace Go.Proofs.YtegpkpilfgohhaaGreat
open Go.RowKit
theorem z5r (a b:Int) (hb:1≤b):a/b=if a.tmod b<0 then a.tdiv b-1 else a.tdiv b:=by
  have hd:=Int.mul_tdiv_add_tmod a b
  have h1:a.tmod b<b:=Int.tmod_lt_of_pos a (by omega)
  have h2:-b<a.tmod b:=by
    have:=Int.tmod_lt_of_pos (-a) (b:=b) (by omega)
    rw [Int.neg_tmod] at this
    omega
  split
  · rename_i h
    refine ((Int.ediv_emod_unique (a:=a) (b:=b) (r:=a.tmod b+b) (q:=a.tdiv b-1) (by omega)).2 ⟨?_,?_,?_⟩).1
    · rw [Int.mul_sub];omega
    · omega
    · omega
  · rename_i h
    exact ((Int.ediv_emod_unique (a:=a) (b:=b) (r:=a.tmod b) (q:=a.tdiv b) (by omega)).2 ⟨by omega,by omega,by omega⟩).1
theorem x3u (a b:Int) (hb:1≤b):a%b=if a.tmod b<0 then a.tmod b+b else a.tmod b:=by
  have h:=z5r a b hb
  have hd:=Int.mul_tdiv_add_tmod a b
  have he:=Int.mul_ediv_add_emod a b
  split at h
  · rename_i h1;rw [if_pos h1];rw [h,Int.mul_sub] at he;omega
  · rename_i h1;rw [if_neg h1];rw [h] at he;omega
theorem q9c (a b:Int) (hb:1≤b):(0≤a→0≤a/b∧a/b≤a)∧(a≤0→a≤a/b∧a/b≤0):=by
  refine ⟨fun h=>⟨Int.ediv_nonneg h (by omega),Int.ediv_le_self b h⟩,fun h=>⟨?_,?_⟩⟩
  · refine Int.le_ediv_of_mul_le (by omega) ?_
    have:=Int.mul_le_mul_of_nonpos_left (a:=a) h (c:=1) (b:=b) (by omega)
    omega
  · have hm:=Int.emod_nonneg a (b:=b) (by omega)
    have he:=Int.mul_ediv_add_emod a b
    by_cases h0:a/b≤0
    · exact h0
    · have:b*1≤b*(a/b):=Int.mul_le_mul_of_nonneg_left (by omega) (by omega)
      omega
theorem x62 (a b:Int) (hb:1≤b):(0≤a→0≤a.tdiv b∧a.tdiv b≤a)∧(a≤0→a≤a.tdiv b∧a.tdiv b≤0):=by
  have h:=q9c a b hb
  have h':=q9c (-a) b hb
  constructor
  · intro h0;rw [Int.tdiv_eq_ediv_of_nonneg h0];exact h.1 h0
  · intro h0
    have e:a.tdiv b=-((-a)/b):=by
      rw [← Int.tdiv_eq_ediv_of_nonneg (by omega),Int.neg_tdiv];omega
    have:=h'.1 (by omega)
    rw [e];omega
theorem x2y (a b:Int):a-a/b*b=a%b:=by
  have he:=Int.mul_ediv_add_emod a b
  rw [Int.mul_comm] at he;omega
theorem x2z (a b:Int) (hb:1≤b):0≤a%b∧a%b<b:=⟨Int.emod_nonneg a (by omega),Int.emod_lt_of_pos a (by omega)⟩
def near (a b:Int):Int:=if b-a%b≤a%b then a/b+1 else a/b
theorem z8z (a b:Int) (hb:1≤b):(a-a%b).tdiv b=a/b:=by
  have he:=Int.mul_ediv_add_emod a b
  have:a-a%b=b*(a/b):=by omega
  rw [this,Int.mul_tdiv_cancel_left _ (by omega)]
theorem x8v (a b:Int) (hb:1≤b):-b<a.tmod b∧a.tmod b<b:=by
  have h1:a.tmod b<b:=Int.tmod_lt_of_pos a (by omega)
  have:=Int.tmod_lt_of_pos (-a) (b:=b) (by omega)
  rw [Int.neg_tmod] at this
  exact ⟨by omega,h1⟩
theorem q32 {k:IntKind} {a b:Int} (h:a=b):Ending.returned (.int k a)=.returned (.int k b):=by rw [h]
end Go.Proofs.YtegpkpilfgohhaaGreat
namespace Go.Proofs.YtegpkpilfgohhaaGreat
open Go.RowKit
set_option maxHeartbeats 400000 in
theorem x20 (a b:Int) (w:World) (ha:-4611686018427387904≤a∧a≤4611686018427387904) (hb:1≤b∧b≤4611686018427387904) :
    Calls Tryz.prog 92 #[.int .i64 a,.int .i64 b] w fun e w'=>e=.returned (.int .i64 (a/b))∧w=w':=by
  have hf:Hid _:=z5r a b hb.1
  have ht:=x62 a b hb.1
  go_enter Tryz.func92,Tryz.ntmps92
  go_wp2
  all_goals go_ret
  · exact ⟨q32 (by rw [hf.out,if_pos (by assumption)]),rfl⟩
  · exact ⟨q32 (by rw [hf.out,if_neg (by omega)]),rfl⟩
set_option maxHeartbeats 400000 in
theorem x63 (a b:Int) (w:World) (ha:-4611686018427387904≤a∧a≤4611686018427387904) (hb:1≤b∧b≤4611686018427387904) :
    Calls Tryz.prog 70 #[.int .i64 a,.int .i64 b] w fun e w'=>e=.returned (.int .i64 (near a b))∧w=w':=by
  have hm:Hid _:=x2y a b
  have hb':=x2z a b hb.1
  have hd:=q9c a b hb.1
  have he:=Int.mul_ediv_add_emod a b
  rw [Int.mul_comm] at he
  go_enter Tryz.func70,Tryz.ntmps70
  go_wp2_with (go_at_call 92;refine (x20 _ _ _ ha hb).mono ?_;rintro e w' ⟨rfl,rfl⟩)
  all_goals go_ret
  all_goals refine ⟨q32 ?_,rfl⟩
  · unfold near;rw [← hm.out,if_pos (by omega)]
  · unfold near;rw [← hm.out,if_neg (by omega)]
end Go.Proofs.YtegpkpilfgohhaaGreat
namespace Go.Proofs.YtegpkpilfgohhaaGreat
open Go.RowKit
def q4k (n r:Int):Prop:=0≤r∧r*r≤n∧n<(r+1)*(r+1)
theorem x8d {a b:Int} (h0:0≤a) (h:a≤b):a*a≤b*b:=Int.mul_le_mul h h h0 (by omega)
theorem q7h {a b:Int} (hb:0≤b) (h:a*a<b*b):a<b:=by
  rcases Int.lt_or_le a b with h1 |h1
  · exact h1
  · have:=x8d hb h1;omega
theorem z36 {n r s:Int} (h:q4k n r) (k:q4k n s):r=s:=by
  obtain ⟨h0,h1,h2⟩:=h
  obtain ⟨k0,k1,k2⟩:=k
  have a1:r<s+1:=q7h (by omega) (by omega)
  have a2:s<r+1:=q7h (by omega) (by omega)
  omega
theorem x46 {n x r:Int} (hr:q4k n r) (hx:1≤x):r≤(x+n/x)/2:=by
  obtain ⟨h0,h1,h2⟩:=hr
  have he:=Int.mul_ediv_add_emod n x
  have hm:=Int.emod_lt_of_pos n (b:=x) (by omega)
  -- suppose x+n/x<2r;then x (2r-x) > n≥r²,against (r-x)²≥0
  rcases Int.lt_or_le ((x+n/x)/2) r with h |h
  · exfalso
    have hq:n/x+1≤2*r-x:=by omega
    have h3:x*(n/x+1)≤x*(2*r-x):=Int.mul_le_mul_of_nonneg_left hq (by omega)
    have h4:x*(n/x+1)=x*(n/x)+x:=by rw [Int.mul_add];omega
    have h5:0≤(r-x)*(r-x):=by
      rcases Int.le_total 0 (r-x) with g |g
      · exact Int.mul_nonneg g g
      · exact Int.mul_nonneg_of_nonpos_of_nonpos g g
    have h6:(r-x)*(r-x)=r*r-2*(x*r)+x*x:=by
      rw [Int.sub_mul,Int.mul_sub,Int.mul_sub,Int.mul_comm r x];omega
    have h7:x*(2*r-x)=2*(x*r)-x*x:=by
      rw [Int.mul_sub,Int.mul_left_comm]
    omega
  · exact h
theorem x1y {n x r:Int} (hr:q4k n r) (hx:1≤x) (hge:r≤x) (h:x≤(x+n/x)/2):x=r:=by
  obtain ⟨h0,h1,h2⟩:=hr
  have he:=Int.mul_ediv_add_emod n x
  have hm:=Int.emod_nonneg n (b:=x) (by omega)
  have hq:x≤n/x:=by omega
  have h3:x*x≤x*(n/x):=Int.mul_le_mul_of_nonneg_left hq (by omega)
  have:x<r+1:=q7h (by omega) (by omega)
  omega
theorem x0e {n r:Int} (hr:q4k n r) (hn:1≤n):1≤r:=by
  obtain ⟨h0,h1,h2⟩:=hr
  rcases Int.lt_or_le r 1 with h |h
  · have:r=0:=by omega
    subst this;omega
  · exact h
theorem x1z (n:Nat):∃ r:Int,q4k n r:=by
  induction n with
  | zero=>exact ⟨0,by omega,by omega,by omega⟩
  | succ n ih =>
    obtain ⟨r,h0,h1,h2⟩:=ih
    by_cases h:((n:Int)+1)<(r+1)*(r+1)
    · exact ⟨r,h0,by omega,by omega⟩
    · refine ⟨r+1,by omega,by omega,?_⟩
      have:(r+1+1)*(r+1+1)=(r+1)*(r+1)+2*(r+1)+1:=by
        rw [Int.add_mul (r+1) 1,Int.mul_add (r+1) (r+1) 1];omega
      omega
theorem x8w {n:Int} (h:0≤n):∃ r:Int,q4k n r:=by
  obtain ⟨r,hr⟩:=x1z n.toNat
  rw [Int.toNat_of_nonneg h] at hr
  exact ⟨r,hr⟩
theorem z0q:∀ (f x:Nat),x<2 ^ f→x<2 ^ Lib.bitLenAux f x∧(x≠0→1≤Lib.bitLenAux f x∧2 ^ (Lib.bitLenAux f x-1)≤x)
  | 0,x,h=>by
    have:x=0:=by simpa using h
    subst this;simp [Lib.bitLenAux]
  | f+1,x,h=>by
    unfold Lib.bitLenAux
    by_cases h0:x=0
    · subst h0;simp
    · rw [if_neg h0]
      have hx:x/2<2 ^ f:=by rw [Nat.pow_succ] at h;omega
      obtain ⟨h1,h2⟩:=z0q f (x/2) hx
      refine ⟨?_,fun _=>⟨by omega,?_⟩⟩
      · rw [Nat.add_comm,Nat.pow_succ];omega
      · rw [show 1+Lib.bitLenAux f (x/2)-1=Lib.bitLenAux f (x/2) from by omega]
        by_cases h3:x/2=0
        · have hz:Lib.bitLenAux f (x/2)=0:=by rw [h3];cases f <;> simp [Lib.bitLenAux]
          rw [hz];simp;omega
        · obtain ⟨g1,g2⟩:=h2 h3
          have:2 ^ Lib.bitLenAux f (x/2)=2 ^ (Lib.bitLenAux f (x/2)-1)*2:=by
            rw [← Nat.pow_succ];congr 1;omega
          omega
theorem x47 {x:Nat} (h0:x≠0) {m:Nat} (h:x<2 ^ m) (hm:m≤64):x<2 ^ Lib.bitLen x∧1≤Lib.bitLen x∧Lib.bitLen x≤m:=by
  have hx:x<2 ^ 64:=Nat.lt_of_lt_of_le h (Nat.pow_le_pow_right (by omega) hm)
  obtain ⟨h1,h2⟩:=z0q 64 x hx
  obtain ⟨h3,h4⟩:=h2 h0
  refine ⟨h1,h3,?_⟩
  have h5:2 ^ (Lib.bitLen x-1)<2 ^ m:=Nat.lt_of_le_of_lt h4 h
  have h6:=(Nat.pow_lt_pow_iff_right (a:=2) (by omega)).1 h5
  omega
theorem x64 {n r:Int} (hr:q4k n r) (h0:1≤n) (h1:n<2 ^ 63):∀ L:Nat,L=Lib.bitLen n.toNat→1≤(L+1)/2∧(L+1)/2≤32∧r<((2 ^ ((L+1)/2):Nat):Int):=by
  intro L hL
  have hb:=x47 (x:=n.toNat) (by omega) (m:=63) (by omega) (by omega)
  rw [← hL] at hb
  obtain ⟨b1,b2,b3⟩:=hb
  refine ⟨by omega,by omega,?_⟩
  have h2:2 ^ L≤2 ^ ((L+1)/2)*2 ^ ((L+1)/2):=by
    rw [← Nat.pow_add];exact Nat.pow_le_pow_right (by omega) (by omega)
  have h5:n.toNat<2 ^ ((L+1)/2)*2 ^ ((L+1)/2):=Nat.lt_of_lt_of_le b1 h2
  clear b1 h2
  generalize 2 ^ ((L+1)/2)=p at *
  have h3:n<(p:Int)*(p:Int):=by
    have h4:(n.toNat:Int)<((p*p:Nat):Int):=Int.ofNat_lt.2 h5
    rw [Int.natCast_mul] at h4
    omega
  obtain ⟨k0,k1,k2⟩:=hr
  exact q7h (by omega) (by omega)
theorem x65 {k:Nat} (h:k≤32):wrap64 ((2:Int) ^ k)=((2 ^ k:Nat):Int)∧((2 ^ k:Nat):Int)≤4294967296:=by
  have h1:2 ^ k≤2 ^ 32:=Nat.pow_le_pow_right (by omega) h
  have h2:((2:Int) ^ k)=((2 ^ k:Nat):Int):=by simp
  have h3:((2 ^ k:Nat):Int)≤4294967296:=by omega
  have h4:0≤((2 ^ k:Nat):Int):=Int.natCast_nonneg _
  refine ⟨?_,h3⟩
  rw [h2]
  generalize ((2 ^ k:Nat):Int)=p at *
  exact IntWalk.wrap64_in _ ⟨by omega,by omega⟩
end Go.Proofs.YtegpkpilfgohhaaGreat
namespace Go.Proofs.YtegpkpilfgohhaaGreat
open Go.RowKit
set_option maxHeartbeats 400000 in
theorem x66 (n r:Int) (w:World) (hn:0≤n∧n≤4611686018427387904) (hr:q4k n r) :
    Calls Tryz.prog 42 #[.int .i64 n] w fun e w'=>e=.returned (.int .i64 r)∧w=w':=by
  by_cases h2:n<2
  · have h:n=r:=by
      obtain ⟨h0,h1,h3⟩:=hr
      have:n=0∨n=1:=by omega
      rcases this with rfl |rfl
      · have:r<1:=q7h (by omega) (by omega)
        omega
      · have a1:r<2:=q7h (by omega) (by omega)
        have a2:0<r+1:=by omega
        rcases Int.lt_or_le r 1 with h |h
        · have:r=0:=by omega
          subst this;omega
        · omega
    have H:Hid (n=r):=h
    clear h
    go_enter Tryz.func42,Tryz.ntmps42
    go_wp2
    go_ret
    exact ⟨q32 H.out,rfl⟩
  · obtain ⟨L,hL⟩:∃ L,L=Lib.bitLen n.toNat:=⟨_,rfl⟩
    obtain ⟨g1,g2,g3⟩:=x64 hr (by omega) (by omega) L hL
    have HL:Hid (L=Lib.bitLen n.toNat):=hL
    clear hL
    have HC:Hid (Calls Tryz.prog 68 #[.int .u64 n] w fun e w'=>e=.returned (.int .i64 L)∧w'=w):=by rw [HL.out];exact Tryz.bits_Len n w (by omega) (by omega)
    go_enter Tryz.func42,Tryz.ntmps42
    go_wp2_with (go_at_call 68;refine (HC.out).mono ?_;rintro e w' ⟨rfl,rfl⟩)
    obtain ⟨g4,g5⟩:=x65 (k:=(L+1)/2) g2
    go_loop [3] (fun x=>∃ X:Int,r≤X∧1≤X∧X≤4294967296∧x=.int .i64 X) (fun x=>(intOf x).toNat)
    case atStart=>exact ⟨_,by omega,by have:=x0e hr (by omega);omega,by omega,rfl⟩
    case round =>
      obtain ⟨X,x1,x2,x3,rfl⟩:=hrel
      have hd:=q9c n X x2
      have hge:=x46 hr x2
      have hst:X≤(X+n/X)/2→X=r:=x1y hr x2 x1
      have hr1:=x0e hr (by omega)
      have HS:Hid (X≤(X+n/X)/2→X=r):=hst
      clear hst g4 g5 g3 HC HL
      go_wp2
      · have:X=r:=HS.out (by assumption)
        go_ret
        exact ⟨q32 this,rfl⟩
      · go_round
        case rel=>exact ⟨_,hge,by omega,by omega,rfl⟩
        case measure=>simp [intOf];omega
set_option maxHeartbeats 400000 in
theorem x48 (n r:Int) (w:World) (hn:0≤n∧n≤4611686018427387904) (hr:q4k n r) :
    Calls Tryz.prog 49 #[.int .i64 n] w fun e w'=>e=.returned (.int .i64 r)∧w=w':=by
  go_enter Tryz.func49,Tryz.ntmps49
  go_wp2
  go_loop [3,4] (fun l h=>∃ L H:Int,0≤L∧L<H∧H≤2147483649∧L*L≤n∧n<H*H∧l=.int .i64 L∧h=.int .i64 H) (fun l h=>(intOf h-intOf l).toNat)
  case atStart=>exact ⟨0,2147483649,by omega,by omega,by omega,by omega,by omega,rfl,rfl⟩
  case round =>
    obtain ⟨L,H,l0,l1,l2,l3,l4,rfl,rfl⟩:=hrel
    by_cases hgo:1<H-L
    · have hm:0≤(L+H)/2∧(L+H)/2≤2147483648:=by omega
      have hmm:=x8d hm.1 hm.2
      have hm0:=Int.mul_nonneg hm.1 hm.1
      by_cases hc:(L+H)/2*((L+H)/2)≤n
      · go_wp2
        go_round
        case rel=>exact ⟨_,_,hm.1,by omega,l2,hc,l4,rfl,rfl⟩
        case measure=>simp [intOf];omega
      · go_wp2
        go_round
        case rel=>exact ⟨_,_,l0,by omega,by omega,l3,by omega,rfl,rfl⟩
        case measure=>simp [intOf];omega
    · have hu:L=r:=by
        have:H=L+1:=by omega
        subst this
        exact z36 ⟨l0,l3,l4⟩ hr
      have HU:Hid (L=r):=hu
      clear hu
      go_wp2
      go_ret
      exact ⟨q32 HU.out,rfl⟩
end Go.Proofs.YtegpkpilfgohhaaGreat
namespace Go.Proofs.YtegpkpilfgohhaaGreat
open Go.RowKit Go.ChangeShapes Go.WideShapes Go.Deep
def Sees (P:Program) (w:World):Nat→TypeId→List Value→Prop
  | 0,_,_=>False
  | n+1,t,cs=>match P.underlying t with
    | some (.int k)=>∃ a,cs=[.int k a]∧(Lit.int k a).wf=true
    | some .bool=>∃ b,cs=[.bool b]
    | some .string=>∃ s,cs=[.string s]∧s.size≤maxLen
    | some (.struct fs)=>cs.length=P.cellsOf t∧∀ (i:Nat) (f:Field),fs[i]? = some f→Sees P w n f.type ((cs.drop f.offset).take (P.cellsOf f.type))
    | some (.array m e)=>cs.length=P.cellsOf t∧∀ i,i<m→Sees P w n e ((cs.drop (i*P.cellsOf e)).take (P.cellsOf e))
    | some (.slice e)=>cs=[.slice none 0 0]∨∃ a len cap,cs=[.slice (some a) len cap]∧len≤cap∧cap≤maxLen ∧
        ∀ i,i<len→∃ cs',cs'.length=P.cellsOf e∧(∀ j,j<P.cellsOf e→w.cell? (a.add (i*P.cellsOf e+j))=cs'[j]?)∧Sees P w n e cs'
    | _=>True
section
variable {H:Type} {enc:TypeId × Value→H} {P:Program} {w:World} {base:Nat} {spare:Nat→Bool} {held:Bool}
theorem q6z:∀ (n fuel:Nat) (t:TypeId) (cs:List Value) (x:DataW H × List MemPlace),fuel≤n→DataW.trod enc P w base spare held fuel t cs=some x→Sees P w n t cs
  | 0,fuel,t,cs,x,hf,h=>by
    have:fuel=0:=by omega
    subst this;simp [DataW.trod] at h
  | n+1,fuel,t,cs,x,hf,h=>by
    unfold Sees
    split
    · rename_i k ht;obtain ⟨a,h1,_,h2⟩:=DataW.trod_int ht h;exact ⟨a,h1,h2⟩
    · rename_i ht;obtain ⟨b,h1,_⟩:=DataW.trod_bool ht h;exact ⟨b,h1⟩
    · rename_i ht;obtain ⟨s,h1,_,h2⟩:=DataW.trod_string ht h;exact ⟨s,h1,h2⟩
    · rename_i fs ht
      obtain ⟨xs,m,hm,_,hl,hxl,hg⟩:=DataW.trod_struct ht h
      refine ⟨hl,fun i f hi=>?_⟩
      have hlt:i<xs.length:=by rw [hxl];exact (Array.getElem?_eq_some_iff.1 hi).1
      have:=hg i f hi
      rw [List.getElem?_eq_getElem hlt] at this
      exact q6z n m _ _ _ (by omega) this
    · rename_i m e ht
      obtain ⟨xs,k,hm,_,hl,hxl,hg⟩:=DataW.trod_array ht h
      refine ⟨hl,fun i hi=>?_⟩
      have:=hg i hi
      rw [List.getElem?_eq_getElem (by omega)] at this
      exact q6z n k _ _ _ (by omega) this
    · rename_i e ht
      rcases DataW.trod_slice ht h with ⟨h1,_⟩ |⟨a,len,cap,elems,rest,k,hk,h1,_,hb,hlc,hcm,hel,hg,_,_⟩
      · exact .inl h1
      · refine .inr ⟨a,len,cap,h1,hlc,hcm,fun i hi=>?_⟩
        have:=hg i hi
        rw [List.getElem?_eq_getElem (by omega)] at this
        obtain ⟨cs',hc,ht'⟩:=Option.bind_eq_some_iff.1 this
        obtain ⟨_,hcl,hat⟩:=World.cells?_some hc
        refine ⟨cs',hcl,fun j hj=>?_,q6z n k _ _ _ (by omega) ht'⟩
        rw [← add_add];exact hat j hj
    · trivial
theorem z2p {t:TypeId} {v:Value} {d:DataW H} {ps:List MemPlace} (h:DataW.Trod enc P w base spare held t v d ps):∃ n,Sees P w n t v.cells.toList:=by
  obtain ⟨fuel,hf⟩:=h
  exact ⟨fuel,q6z fuel fuel _ _ _ (Nat.le_refl _) hf⟩
end
section
variable {P:Program} {w:World} {n:Nat} {t:TypeId} {cs:List Value}
theorem Sees.int {k:IntKind} (ht:P.underlying t=some (.int k)) (h:Sees P w n t cs):∃ a,cs=[.int k a]∧(Lit.int k a).wf=true:=by
  cases n with
  | zero=>exact h.elim
  | succ n=>unfold Sees at h;rw [ht] at h;exact h
theorem Sees.bool (ht:P.underlying t=some .bool) (h:Sees P w n t cs):∃ b,cs=[.bool b]:=by
  cases n with
  | zero=>exact h.elim
  | succ n=>unfold Sees at h;rw [ht] at h;exact h
theorem Sees.string (ht:P.underlying t=some .string) (h:Sees P w n t cs):∃ s,cs=[.string s]∧s.size≤maxLen:=by
  cases n with
  | zero=>exact h.elim
  | succ n=>unfold Sees at h;rw [ht] at h;exact h
theorem Sees.struct {fs:Array Field} (ht:P.underlying t=some (.struct fs)) (h:Sees P w n t cs):cs.length=P.cellsOf t∧∃ m,∀ (i:Nat) (f:Field),fs[i]? = some f→Sees P w m f.type ((cs.drop f.offset).take (P.cellsOf f.type)):=by
  cases n with
  | zero=>exact h.elim
  | succ n=>unfold Sees at h;rw [ht] at h;exact ⟨h.1,n,h.2⟩
theorem Sees.array {m:Nat} {e:TypeId} (ht:P.underlying t=some (.array m e)) (h:Sees P w n t cs):cs.length=P.cellsOf t∧∃ k,∀ i,i<m→Sees P w k e ((cs.drop (i*P.cellsOf e)).take (P.cellsOf e)):=by
  cases n with
  | zero=>exact h.elim
  | succ n=>unfold Sees at h;rw [ht] at h;exact ⟨h.1,n,h.2⟩
theorem Sees.slice {e:TypeId} (ht:P.underlying t=some (.slice e)) (h:Sees P w n t cs):cs=[.slice none 0 0]∨∃ a len cap,cs=[.slice (some a) len cap]∧len≤cap∧cap≤maxLen ∧
    ∃ m,∀ i,i<len→∃ cs',cs'.length=P.cellsOf e∧(∀ j,j<P.cellsOf e→w.cell? (a.add (i*P.cellsOf e+j))=cs'[j]?)∧Sees P w m e cs':=by
  cases n with
  | zero=>exact h.elim
  | succ n =>
    unfold Sees at h;rw [ht] at h
    rcases h with h |⟨a,len,cap,h1,h2,h3,h4⟩
    · exact .inl h
    · exact .inr ⟨a,len,cap,h1,h2,h3,n,h4⟩
end
end Go.Proofs.YtegpkpilfgohhaaGreat
