/-
  Merged: XMath, XQuo, XDown, XMul, XHalf, XPast, XBlend, XIn, XModes.
-/
import Derived.WalkKit
import Derived.WalkLawsBesides
import Derived.Handy
import Derived.BigQuiet
import Derived.Deep.QuietTactic
import Derived.Laws.EntriesVeiled
import Derived.Test.YticolnghiibgfaaGreatProg
set_option linter.unusedVariables false
set_option linter.unusedSimpArgs false
set_option linter.unnecessarySimpa false
namespace Go.Proofs.YticolnghiibgfaaGreat
open Go.RowKit
theorem z5j (a b:Int) (hb:1≤b):a/b=if a.tmod b<0 then a.tdiv b-1 else a.tdiv b:=by
  have hd:=Int.mul_tdiv_add_tmod a b
  have h1:a.tmod b<b:=Int.tmod_lt_of_pos a (by omega)
  have h2:-b<a.tmod b:=by
    have:=Int.tmod_lt_of_pos (-a) (b:=b) (by omega)
    rw [Int.neg_tmod] at this
    omega
  split
  · rename_i h
    refine ((Int.ediv_emod_unique (a:=a) (b:=b) (r:=a.tmod b+b) (q:=a.tdiv b-1) (by omega)).2 ⟨?_,?_,?_⟩).1
    · rw [Int.mul_sub];omega
    · omega
    · omega
  · rename_i h
    exact ((Int.ediv_emod_unique (a:=a) (b:=b) (r:=a.tmod b) (q:=a.tdiv b) (by omega)).2 ⟨by omega,by omega,by omega⟩).1
theorem x3p (a b:Int) (hb:1≤b):a%b=if a.tmod b<0 then a.tmod b+b else a.tmod b:=by
  have h:=z5j a b hb
  have hd:=Int.mul_tdiv_add_tmod a b
  have he:=Int.mul_ediv_add_emod a b
  split at h
  · rename_i h1;rw [if_pos h1];rw [h,Int.mul_sub] at he;omega
  · rename_i h1;rw [if_neg h1];rw [h] at he;omega
theorem q63 (a b:Int) (hb:1≤b):(0≤a→0≤a/b∧a/b≤a)∧(a≤0→a≤a/b∧a/b≤0):=by
  refine ⟨fun h=>⟨Int.ediv_nonneg h (by omega),Int.ediv_le_self b h⟩,fun h=>⟨?_,?_⟩⟩
  · refine Int.le_ediv_of_mul_le (by omega) ?_
    have:=Int.mul_le_mul_of_nonpos_left (a:=a) h (c:=1) (b:=b) (by omega)
    omega
  · have hm:=Int.emod_nonneg a (b:=b) (by omega)
    have he:=Int.mul_ediv_add_emod a b
    by_cases h0:a/b≤0
    · exact h0
    · have:b*1≤b*(a/b):=Int.mul_le_mul_of_nonneg_left (by omega) (by omega)
      omega
theorem x7t (a b:Int) (hb:1≤b):(0≤a→0≤a.tdiv b∧a.tdiv b≤a)∧(a≤0→a≤a.tdiv b∧a.tdiv b≤0):=by
  have h:=q63 a b hb
  have h':=q63 (-a) b hb
  constructor
  · intro h0;rw [Int.tdiv_eq_ediv_of_nonneg h0];exact h.1 h0
  · intro h0
    have e:a.tdiv b=-((-a)/b):=by
      rw [← Int.tdiv_eq_ediv_of_nonneg (by omega),Int.neg_tdiv];omega
    have:=h'.1 (by omega)
    rw [e];omega
theorem x2t (a b:Int):a-a/b*b=a%b:=by
  have he:=Int.mul_ediv_add_emod a b
  rw [Int.mul_comm] at he;omega
theorem z6w (a b:Int) (hb:1≤b):0≤a%b∧a%b<b:=⟨Int.emod_nonneg a (by omega),Int.emod_lt_of_pos a (by omega)⟩
def near (a b:Int):Int:=if b-a%b≤a%b then a/b+1 else a/b
theorem z8k (a b:Int) (hb:1≤b):(a-a%b).tdiv b=a/b:=by
  have he:=Int.mul_ediv_add_emod a b
  have:a-a%b=b*(a/b):=by omega
  rw [this,Int.mul_tdiv_cancel_left _ (by omega)]
theorem x91 (a b:Int) (hb:1≤b):-b<a.tmod b∧a.tmod b<b:=by
  have h1:a.tmod b<b:=Int.tmod_lt_of_pos a (by omega)
  have:=Int.tmod_lt_of_pos (-a) (b:=b) (by omega)
  rw [Int.neg_tmod] at this
  exact ⟨by omega,h1⟩
theorem q0u {k:IntKind} {a b:Int} (h:a=b):Ending.returned (.int k a)=.returned (.int k b):=by rw [h]
theorem q64 {a b:Bool} (h:a=b):Ending.returned (.bool a)=.returned (.bool b):=by rw [h]
def inB (x l h:Int):Bool:=decide (l≤x∧x≤h)
theorem z3f {x l h:Int} (k:l≤x∧x≤h):inB x l h=true:=decide_eq_true k
theorem inB_iff {x l h:Int}:inB x l h=true↔l≤x∧x≤h:=by simp [inB]
theorem z8l (p:Int→Bool) (zs:List Int) (k:Nat) (hk:k<zs.length):(zs.take (k+1)).all p=((zs.take k).all p&&p zs[k]):=by
  rw [List.take_succ_eq_append_getElem hk,List.all_append];simp
theorem q2b (a b m:Int) (hb:1≤b) (h0:0≤a) (h1:a≤m*b):0≤near a b∧near a b≤m:=by
  have he:=Int.mul_ediv_add_emod a b
  have hm:=z6w a b hb
  have hd:=q63 a b hb
  have hq:a/b≤m:=Int.ediv_le_of_le_mul (by omega) (by omega)
  have hq0:=(hd.1 h0).1
  unfold near
  split
  · have:a/b≠m:=by
      intro e;rw [e] at he
      have:b*m=m*b:=Int.mul_comm _ _
      omega
    omega
  · omega
theorem z2m {a b A B:Int} (ha:0≤a∧a≤A) (hb:0≤b∧b≤B):0≤a*b∧a*b≤A*B :=
  ⟨Int.mul_nonneg ha.1 hb.1,Int.mul_le_mul ha.2 hb.2 hb.1 (by omega)⟩
end Go.Proofs.YticolnghiibgfaaGreat
namespace Go.Proofs.YticolnghiibgfaaGreat
open Go.RowKit
set_option maxHeartbeats 400000 in
theorem x2u (a b:Int) (w:World) (ha:-4611686018427387904≤a∧a≤4611686018427387904) (hb:1≤b∧b≤4611686018427387904) :
    Calls Tryz.prog 135 #[.int .i64 a,.int .i64 b] w fun e w'=>e=.returned (.int .i64 (a/b))∧w=w':=by
  have hf:Hid _:=z5j a b hb.1
  have ht:=x7t a b hb.1
  go_enter Tryz.func135,Tryz.ntmps135
  go_wp2
  all_goals go_ret
  · exact ⟨q0u (by rw [hf.out,if_pos (by assumption)]),rfl⟩
  · exact ⟨q0u (by rw [hf.out,if_neg (by omega)]),rfl⟩
set_option maxHeartbeats 400000 in
theorem q16 (a b:Int) (w:World) (ha:-4611686018427387904≤a∧a≤4611686018427387904) (hb:1≤b∧b≤4611686018427387904) :
    Calls Tryz.prog 110 #[.int .i64 a,.int .i64 b] w fun e w'=>e=.returned (.int .i64 (near a b))∧w=w':=by
  have hm:Hid _:=x2t a b
  have hb':=z6w a b hb.1
  have hd:=q63 a b hb.1
  have he:=Int.mul_ediv_add_emod a b
  rw [Int.mul_comm] at he
  go_enter Tryz.func110,Tryz.ntmps110
  go_wp2_with (go_at_call 135;refine (x2u _ _ _ ha hb).mono ?_;rintro e w' ⟨rfl,rfl⟩)
  all_goals go_ret
  all_goals refine ⟨q0u ?_,rfl⟩
  · unfold near;rw [← hm.out,if_pos (by omega)]
  · unfold near;rw [← hm.out,if_neg (by omega)]
end Go.Proofs.YticolnghiibgfaaGreat
namespace Go.Proofs.YticolnghiibgfaaGreat
open Go.RowKit
set_option maxHeartbeats 400000 in
theorem z90 (a b:Int) (w:World) (ha:-4611686018427387904≤a∧a≤4611686018427387904) (hb:1≤b∧b≤4611686018427387904) :
    Calls Tryz.prog 120 #[.int .i64 a,.int .i64 b] w fun e w'=>e=.returned (.int .i64 (a/b))∧w=w':=by
  have hm:Hid _:=x3p a b hb.1
  have hs:Hid _:=z8k a b hb.1
  have hb':=x91 a b hb.1
  go_enter Tryz.func120,Tryz.ntmps120
  go_wp2
  all_goals go_ret
  · exact ⟨q0u (by rw [← hs.out,hm.out,if_pos (by assumption)]),rfl⟩
  · exact ⟨q0u (by rw [← hs.out,hm.out,if_neg (by omega)]),rfl⟩
end Go.Proofs.YticolnghiibgfaaGreat
namespace Go.Proofs.YticolnghiibgfaaGreat
open Go.RowKit
set_option maxHeartbeats 400000 in
theorem z5k (a b:Int) (w:World) (ha:0≤a∧a≤255) (hb:0≤b∧b≤255) :
    Calls Tryz.prog 82 #[.int .u8 a,.int .u8 b] w fun e w'=>e=.returned (.int .u8 (near (a*b) 255))∧w=w':=by
  have hab:=z2m ha hb
  have hn:=q2b (a*b) 255 255 (by omega) (by omega) (by omega)
  go_enter Tryz.func82,Tryz.ntmps82
  go_wp2_with (go_at_call 110;refine (q16 _ _ _ ?_ ?_).mono ?_;omega;omega;rintro e w' ⟨rfl,rfl⟩)
  go_ret
  exact ⟨rfl,rfl⟩
end Go.Proofs.YticolnghiibgfaaGreat
namespace Go.Proofs.YticolnghiibgfaaGreat
open Go.RowKit
set_option maxHeartbeats 400000 in
theorem z4n (a b:Int) (w:World) (ha:-4611686018427387904≤a∧a≤4611686018427387904) (hb:1≤b∧b≤4611686018427387904) :
    Calls Tryz.prog 121 #[.int .i64 a,.int .i64 b] w fun e w'=>e=.returned (.int .i64 (near a b))∧w=w':=by
  have hm:Hid _:=x2t a b
  have hb':=z6w a b hb.1
  have hd:=q63 a b hb.1
  have he:=Int.mul_ediv_add_emod a b
  rw [Int.mul_comm] at he
  go_enter Tryz.func121,Tryz.ntmps121
  go_wp2_with (go_at_call 120;refine (z90 _ _ _ ha hb).mono ?_;rintro e w' ⟨rfl,rfl⟩)
  all_goals go_ret
  all_goals refine ⟨q0u ?_,rfl⟩
  · unfold near;rw [← hm.out,if_pos (by omega)]
  · unfold near;rw [← hm.out,if_neg (by omega)]
end Go.Proofs.YticolnghiibgfaaGreat
namespace Go.Proofs.YticolnghiibgfaaGreat
open Go.RowKit
structure Later (w:World) where
  to:World
  below:Below w.heap.size w to
def past (w:World) (x:Later w):World:=x.to
instance instLater (w:World):Nonempty (Later w):=⟨⟨w,Below.refl _ _⟩⟩
instance instLaterI (w:World):Inhabited (Later w):=⟨⟨w,Below.refl _ _⟩⟩
theorem q6h (w:World) (x:Later w):Below w.heap.size w (past w x):=x.below
theorem x5k (w:World) (x:Later w):w.heap.size≤(past w x).heap.size:=x.below.size
def z0l (w:World) (b o:Nat):Option Value:=w.cell? ⟨b,o,none⟩
def q7x (w:World) (b o:Nat):Bool:=w.frozen? ⟨b,o,none⟩
theorem x5l (w:World) (x:Later w) (b o:Nat):(past w x).cell? ⟨b,o,none⟩=if b<w.heap.size then w.cell? ⟨b,o,none⟩ else z0l (past w x) b o:=by
  split
  · exact x.below.cell (p:=⟨b,o,none⟩) (by assumption)
  · rfl
theorem x1k (w:World) (x:Later w) (b o:Nat):(past w x).frozen? ⟨b,o,none⟩=if b<w.heap.size then w.frozen? ⟨b,o,none⟩ else q7x (past w x) b o:=by
  split
  · exact x.below.frozen (p:=⟨b,o,none⟩) (by assumption)
  · rfl
theorem q0n (w:World) (c:Array Value) (t:TypeId) (n i:Nat):(w.alloc (.cells c t)).cell? ⟨n,i,none⟩=if n=w.heap.size then c[i]? else w.cell? ⟨n,i,none⟩:=by
  split
  · rename_i h;exact World.cell?_alloc_at c t n i h
  · rename_i h;exact World.cell?_alloc_old (a:=⟨n,i,none⟩) _ _ h
attribute [go_sem] x5l x1k q0n
theorem q43 {W w1:World} (hb:Below W.heap.size W w1):(∀ b o,w1.cell? ⟨b,o,none⟩=if b<W.heap.size then W.cell? ⟨b,o,none⟩ else z0l w1 b o)∧(∀ b o,w1.frozen? ⟨b,o,none⟩=if b<W.heap.size then W.frozen? ⟨b,o,none⟩ else q7x w1 b o)∧W.heap.size≤w1.heap.size:=by
  refine ⟨fun b o=>?_,fun b o=>?_,hb.size⟩
  · split
    · exact hb.cell (p:=⟨b,o,none⟩) (by assumption)
    · rfl
  · split
    · exact hb.frozen (p:=⟨b,o,none⟩) (by assumption)
    · rfl
theorem x92 {B:Nat} {w W:World} (h:Below B w W) (hB:B≤W.heap.size) (x:Later W):Below B w (past W x):=h.trans ((q6h W x).mono hB)
theorem z91 {B:Nat} {w W:World} (h:Below B w W) (n:Nat):Below B w (W.drewN n):=⟨h.os,h.tape,h.output,h.size,h.block⟩
theorem z0m {B:Nat} {w W w1:World} (hb:Below W.heap.size W w1) (h:Below B w W) (hB:B≤W.heap.size):Below B w w1:=h.trans (hb.mono hB)
theorem q5f (w:World) (n:Nat):(w.drewN n).heap.size=w.heap.size:=rfl
theorem blQ {p:Prop} (h:p:=by (repeat' (with_reducible first |exact Below.refl _ _ |refine x92 ?_ ?_ _ |refine Below.alloc ?_ ?_ _ |refine Below.drew ?_ |refine z91 ?_ _ |refine Below.setCell ?_ ?_ _ |refine z0m (by assumption) ?_ ?_ |omega |(simp only [];omega) |(simp only [World.size_alloc];omega) |(simp only [World.size_setCell];omega) |(simp only [World.size_drew];omega) |(simp only [World.size_alloc,World.size_setCell];omega) |(simp only [World.size_alloc,World.size_drew];omega) |(simp only [World.size_setCell,World.size_drew];omega) |(simp only [World.size_alloc,World.size_setCell,World.size_drew];omega) |(simp only [World.size_alloc,World.size_setCell,World.size_drew,q5f];omega)))):p:=h
end Go.Proofs.YticolnghiibgfaaGreat
namespace Go.Proofs.YticolnghiibgfaaGreat
open Go.RowKit
def mulV (b s:Int):Int:=near (b*s) 255
theorem q56 {b s:Int} (hb:0≤b∧b≤255) (hs:0≤s∧s≤255):0≤mulV b s∧mulV b s≤255:=by
  have:=z2m hb hs
  exact q2b _ _ _ (by omega) (by omega) (by omega)
def q5t (b s:Int):Int:=if s≤127 then mulV b (2*s) else 255-mulV (255-b) (510-2*s)
theorem z92 {b s:Int} (hb:0≤b∧b≤255) (hs:0≤s∧s≤255):0≤q5t b s∧q5t b s≤255:=by
  unfold q5t
  split
  · exact q56 hb (by omega)
  · have:=q56 (b:=255-b) (s:=510-2*s) (by omega) (by omega)
    omega
def q7y (b s:Int):Int:=if b=0 then 0 else if 255-s≤b then 255 else near (255*b) (255-s)
theorem x5m {b s:Int} (hb:0≤b∧b≤255) (hs:0≤s∧s≤255):0≤q7y b s∧q7y b s≤255:=by
  unfold q7y
  split
  · omega
  · split
    · omega
    · exact q2b _ _ _ (by omega) (by omega) (by omega)
def q9t (b s:Int):Int:=if b=255 then 255 else if s≤255-b then 0 else 255-near (255*(255-b)) s
theorem x7u {b s:Int} (hb:0≤b∧b≤255) (hs:0≤s∧s≤255):0≤q9t b s∧q9t b s≤255:=by
  unfold q9t
  split
  · omega
  · split
    · omega
    · have:=q2b (255*(255-b)) s 255 (by omega) (by omega) (by omega)
      omega
def z84 (b s:Int):Int:=near ((255-2*s)*b*b+510*s*b) 65025
theorem x93 (b s:Int):(255-2*s)*b*b+510*s*b=255*(b*b)+2*(s*(b*(255-b))):=by
  have e1:(255-2*s)*b*b=255*(b*b)-2*(s*(b*b)):=by
    rw [Int.mul_assoc,Int.sub_mul,Int.mul_assoc 2 s]
  have e2:s*(b*(255-b))=255*(s*b)-s*(b*b):=by
    rw [Int.mul_sub,Int.mul_sub,Int.mul_comm b 255,Int.mul_left_comm s 255 b]
  have e3:510*s*b=510*(s*b):=Int.mul_assoc _ _ _
  omega
theorem x2v {b s:Int} (hb:0≤b∧b≤255) (hs:0≤s∧s≤255):0≤(255-2*s)*b*b+510*s*b∧(255-2*s)*b*b+510*s*b≤255*65025:=by
  rw [x93]
  have h1:=z2m hb hb
  have h2:=z2m hb (b:=255-b) (B:=255-b) ⟨by omega,by omega⟩
  have h3:0≤b*(255-b):=Int.mul_nonneg hb.1 (by omega)
  have h4:0≤s*(b*(255-b)):=Int.mul_nonneg hs.1 h3
  have h5:s*(b*(255-b))≤255*(b*(255-b)):=Int.mul_le_mul_of_nonneg_right hs.2 h3
  have h6:b*(255-b)=255*b-b*b:=by rw [Int.mul_sub,Int.mul_comm]
  have h7:0≤(255-b)*(255-b):=Int.mul_nonneg (by omega) (by omega)
  have h8:(255-b)*(255-b)=65025-510*b+b*b:=by
    rw [Int.sub_mul,Int.mul_sub b 255 b,Int.mul_comm b 255];omega
  omega
theorem x7v {b s:Int} (hb:0≤b∧b≤255) (hs:0≤s∧s≤255):0≤z84 b s∧z84 b s≤255:=by
  have:=x2v hb hs
  exact q2b _ _ _ (by omega) this.1 this.2
def z3g (b s:Int):Int:=b+s-near (2*b*s) 255
theorem z93 {b s:Int} (hb:0≤b∧b≤255) (hs:0≤s∧s≤255):0≤z3g b s∧z3g b s≤255:=by
  unfold z3g
  have h0:2*b*s=2*(b*s):=Int.mul_assoc _ _ _
  have h1:=z2m hb hs
  have h2:b*s≤b*255:=Int.mul_le_mul_of_nonneg_left hs.2 hb.1
  have h3:b*s≤255*s:=Int.mul_le_mul_of_nonneg_right hb.2 hs.1
  have h4:0≤(255-b)*(255-s):=Int.mul_nonneg (by omega) (by omega)
  have h5:(255-b)*(255-s)=65025-255*b-255*s+b*s:=by
    rw [Int.sub_mul,Int.mul_sub b 255 s,Int.mul_comm b 255];omega
  have h6:=q2b (2*b*s) 255 (b+s) (by omega) (by omega) (by omega)
  have h7:b+s-255≤2*b*s/255:=by
    by_cases hn:b+s-255≤0
    · have:=Int.ediv_nonneg (a:=2*b*s) (b:=255) (by omega) (by omega)
      omega
    · exact Int.le_ediv_of_mul_le (by omega) (by omega)
  have h8:2*b*s/255≤near (2*b*s) 255:=by unfold near;split <;> omega
  omega
def blV (k b s:Int):Int :=
  if k=1 then mulV b s else if k=2 then 255-mulV (255-b) (255-s) else if k=3 then q5t s b else if k=4 then (if s<b then s else b) else if k=5 then (if b<s then s else b)
  else if k=6 then q7y b s else if k=7 then q9t b s else if k=8 then q5t b s else if k=9 then z84 b s else if k=10 then (if b<s then s-b else b-s) else if k=11 then z3g b s else s
theorem q34 {k b s:Int} (hb:0≤b∧b≤255) (hs:0≤s∧s≤255):0≤blV k b s∧blV k b s≤255:=by
  have h1:=q56 hb hs
  have h2:=q56 (b:=255-b) (s:=255-s) (by omega) (by omega)
  have h3:=z92 hs hb
  have h4:=z92 hb hs
  have h5:=x5m hb hs
  have h6:=x7u hb hs
  have h7:=x7v hb hs
  have h8:=z93 hb hs
  unfold blV
  by_cases k1:k=1
  · rw [if_pos k1];exact h1
  rw [if_neg k1]
  by_cases k2:k=2
  · rw [if_pos k2];omega
  rw [if_neg k2]
  by_cases k3:k=3
  · rw [if_pos k3];exact h3
  rw [if_neg k3]
  by_cases k4:k=4
  · rw [if_pos k4];split <;> omega
  rw [if_neg k4]
  by_cases k5:k=5
  · rw [if_pos k5];split <;> omega
  rw [if_neg k5]
  by_cases k6:k=6
  · rw [if_pos k6];exact h5
  rw [if_neg k6]
  by_cases k7:k=7
  · rw [if_pos k7];exact h6
  rw [if_neg k7]
  by_cases k8:k=8
  · rw [if_pos k8];exact h4
  rw [if_neg k8]
  by_cases k9:k=9
  · rw [if_pos k9];exact h7
  rw [if_neg k9]
  by_cases k10:k=10
  · rw [if_pos k10];split <;> omega
  rw [if_neg k10]
  by_cases k11:k=11
  · rw [if_pos k11];exact h8
  rw [if_neg k11]
  exact hs
set_option maxHeartbeats 1000000 in
theorem z1l (b s:Int) (w:World) (hb:0≤b∧b≤255) (hs:0≤s∧s≤255) :
    Calls Tryz.prog 146 #[.int .i64 b,.int .i64 s] w fun e w'=>e=.returned (.int .i64 (mulV b s))∧w=w':=by
  have hm:=q56 hb hs
  unfold mulV at hm ⊢
  go_enter Tryz.func146,Tryz.ntmps146
  go_wp2_with (first |(go_at_call 82;refine (z5k _ _ _ (by omega) (by omega)).mono ?_;rintro e w' ⟨rfl,rfl⟩))
  go_ret
  exact ⟨q0u (by rfl),rfl⟩
set_option maxHeartbeats 1000000 in
theorem z70 (b s:Int) (w:World) (hb:0≤b∧b≤255) (hs:0≤s∧s≤255) :
    Calls Tryz.prog 149 #[.int .i64 b,.int .i64 s] w fun e w'=>e=.returned (.int .i64 (q5t b s))∧w=w':=by
  have e1:Hid (2*(255-s)=510-2*s):=by show 2*(255-s)=510-2*s;omega
  by_cases h:s≤127
  · have HV:Hid (q5t b s=mulV b (2*s)):=by show q5t b s=mulV b (2*s);rw [q5t,if_pos h]
    have h1:=q56 (b:=b) (s:=2*s) (by omega) (by omega)
    go_enter Tryz.func149,Tryz.ntmps149
    go_wp2_with (first |(go_at_call 146;refine (z1l _ _ _ (by omega) (by omega)).mono ?_;rintro e w' ⟨rfl,rfl⟩))
    go_ret
    exact ⟨q0u HV.out.symm,rfl⟩
  · have HV:Hid (q5t b s=255-mulV (255-b) (510-2*s)):=by show q5t b s=255-mulV (255-b) (510-2*s);rw [q5t,if_neg h]
    have h1:=q56 (b:=255-b) (s:=510-2*s) (by omega) (by omega)
    have h2:=h1
    rw [← e1.out] at h2
    go_enter Tryz.func149,Tryz.ntmps149
    go_wp2_with (first |(go_at_call 146;refine (z1l _ _ _ (by omega) (by omega)).mono ?_;rintro e w' ⟨rfl,rfl⟩))
    go_ret
    exact ⟨q0u (by rw [HV.out];try rw [e1.out]),rfl⟩
set_option maxHeartbeats 1000000 in
theorem x3q (b s:Int) (w:World) (hb:0≤b∧b≤255) (hs:0≤s∧s≤255) :
    Calls Tryz.prog 152 #[.int .i64 b,.int .i64 s] w fun e w'=>e=.returned (.int .i64 (q7y b s))∧w=w':=by
  by_cases h0:b=0
  · skip
    go_enter Tryz.func152,Tryz.ntmps152
    go_wp2_with (first |(go_at_call 110;refine (q16 _ _ _ (by omega) (by omega)).mono ?_;rintro e w' ⟨rfl,rfl⟩))
    go_ret
    exact ⟨q0u (by unfold q7y;(repeat' split) <;> omega),rfl⟩
  by_cases h1:255-s≤b
  · skip
    go_enter Tryz.func152,Tryz.ntmps152
    go_wp2_with (first |(go_at_call 110;refine (q16 _ _ _ (by omega) (by omega)).mono ?_;rintro e w' ⟨rfl,rfl⟩))
    go_ret
    exact ⟨q0u (by unfold q7y;(repeat' split) <;> omega),rfl⟩
  go_enter Tryz.func152,Tryz.ntmps152
  go_wp2_with (first |(go_at_call 110;refine (q16 _ _ _ (by omega) (by omega)).mono ?_;rintro e w' ⟨rfl,rfl⟩))
  go_ret
  exact ⟨q0u (by unfold q7y;(repeat' split) <;> omega),rfl⟩
set_option maxHeartbeats 1000000 in
theorem x5n (b s:Int) (w:World) (hb:0≤b∧b≤255) (hs:0≤s∧s≤255) :
    Calls Tryz.prog 153 #[.int .i64 b,.int .i64 s] w fun e w'=>e=.returned (.int .i64 (q9t b s))∧w=w':=by
  have hn:¬ b=255→¬ s≤255-b→0≤near (255*(255-b)) s∧near (255*(255-b)) s≤255:=fun _ _=>q2b _ _ _ (by omega) (by omega) (by omega)
  by_cases h0:b=255
  · skip
    go_enter Tryz.func153,Tryz.ntmps153
    go_wp2_with (first |(go_at_call 110;refine (q16 _ _ _ (by omega) (by omega)).mono ?_;rintro e w' ⟨rfl,rfl⟩))
    go_ret
    exact ⟨q0u (by unfold q9t;(repeat' split) <;> omega),rfl⟩
  by_cases h1:s≤255-b
  · skip
    go_enter Tryz.func153,Tryz.ntmps153
    go_wp2_with (first |(go_at_call 110;refine (q16 _ _ _ (by omega) (by omega)).mono ?_;rintro e w' ⟨rfl,rfl⟩))
    go_ret
    exact ⟨q0u (by unfold q9t;(repeat' split) <;> omega),rfl⟩
  go_enter Tryz.func153,Tryz.ntmps153
  go_wp2_with (first |(go_at_call 110;refine (q16 _ _ _ (by omega) (by omega)).mono ?_;rintro e w' ⟨rfl,rfl⟩))
  go_ret
  exact ⟨q0u (by unfold q9t;(repeat' split) <;> omega),rfl⟩
end Go.Proofs.YticolnghiibgfaaGreat
namespace Go.Proofs.YticolnghiibgfaaGreat
open Go.RowKit
theorem q35 (x l h:Int) (w:World) :
    Calls Tryz.prog 12 #[.int .i64 x,.int .i64 l,.int .i64 h] w fun e w'=>e=.returned (.bool (inB x l h))∧w=w':=by
  by_cases h1:l≤x <;> by_cases h2:x≤h
  all_goals
    go_enter Tryz.func12,Tryz.ntmps12
    go_wp2
    go_ret
    exact ⟨q64 (by simp [inB,h1,h2]),rfl⟩
end Go.Proofs.YticolnghiibgfaaGreat
namespace Go.Proofs.YticolnghiibgfaaGreat
open Go.RowKit
theorem z3h (A B:Int) {x y:Int} (hx:-A≤x∧x≤A) (hy:-B≤y∧y≤B):-(A*B)≤x*y∧x*y≤A*B:=by
  have h1:x.natAbs*y.natAbs≤A.natAbs*B.natAbs:=Nat.mul_le_mul (by omega) (by omega)
  have h2:(x*y).natAbs≤(A*B).natAbs:=by rw [Int.natAbs_mul,Int.natAbs_mul];exact h1
  have h3:0≤A*B:=Int.mul_nonneg (by omega) (by omega)
  omega
set_option maxHeartbeats 1000000 in
theorem x5o (b s:Int) (w:World) (hb:0≤b∧b≤255) (hs:0≤s∧s≤255) :
    Calls Tryz.prog 145 #[.int .i64 b,.int .i64 s] w fun e w'=>e=.returned (.int .i64 (blV 0 b s))∧w=w':=by
  go_enter Tryz.func145,Tryz.ntmps145
  go_wp2_with (first |fail)
  go_ret
  exact ⟨q0u (by simp [blV];try omega),rfl⟩
set_option maxHeartbeats 1000000 in
theorem x5p (b s:Int) (w:World) (hb:0≤b∧b≤255) (hs:0≤s∧s≤255) :
    Calls Tryz.prog 147 #[.int .i64 b,.int .i64 s] w fun e w'=>e=.returned (.int .i64 (blV 2 b s))∧w=w':=by
  have h1:=q56 (b:=255-b) (s:=255-s) (by omega) (by omega)
  go_enter Tryz.func147,Tryz.ntmps147
  go_wp2_with (first |(go_at_call 146;refine (z1l _ _ _ (by omega) (by omega)).mono ?_;rintro e w' ⟨rfl,rfl⟩))
  go_ret
  exact ⟨q0u (by simp [blV];try omega),rfl⟩
set_option maxHeartbeats 1000000 in
theorem x5q (b s:Int) (w:World) (hb:0≤b∧b≤255) (hs:0≤s∧s≤255) :
    Calls Tryz.prog 148 #[.int .i64 b,.int .i64 s] w fun e w'=>e=.returned (.int .i64 (blV 3 b s))∧w=w':=by
  go_enter Tryz.func148,Tryz.ntmps148
  go_wp2_with (first |(go_at_call 149;refine (z70 _ _ _ (by omega) (by omega)).mono ?_;rintro e w' ⟨rfl,rfl⟩))
  go_ret
  exact ⟨q0u (by simp [blV];try omega),rfl⟩
set_option maxHeartbeats 1000000 in
theorem x5r (b s:Int) (w:World) (hb:0≤b∧b≤255) (hs:0≤s∧s≤255) :
    Calls Tryz.prog 150 #[.int .i64 b,.int .i64 s] w fun e w'=>e=.returned (.int .i64 (blV 4 b s))∧w=w':=by
  by_cases h:s<b
  · skip
    go_enter Tryz.func150,Tryz.ntmps150
    go_wp2_with (first |fail)
    go_ret
    exact ⟨q0u (by simp [blV];try omega),rfl⟩
  go_enter Tryz.func150,Tryz.ntmps150
  go_wp2_with (first |fail)
  go_ret
  exact ⟨q0u (by simp [blV];try omega),rfl⟩
set_option maxHeartbeats 1000000 in
theorem x5s (b s:Int) (w:World) (hb:0≤b∧b≤255) (hs:0≤s∧s≤255) :
    Calls Tryz.prog 151 #[.int .i64 b,.int .i64 s] w fun e w'=>e=.returned (.int .i64 (blV 5 b s))∧w=w':=by
  by_cases h:b<s
  · skip
    go_enter Tryz.func151,Tryz.ntmps151
    go_wp2_with (first |fail)
    go_ret
    exact ⟨q0u (by simp [blV];try omega),rfl⟩
  go_enter Tryz.func151,Tryz.ntmps151
  go_wp2_with (first |fail)
  go_ret
  exact ⟨q0u (by simp [blV];try omega),rfl⟩
set_option maxHeartbeats 1000000 in
theorem x5t (b s:Int) (w:World) (hb:0≤b∧b≤255) (hs:0≤s∧s≤255) :
    Calls Tryz.prog 154 #[.int .i64 b,.int .i64 s] w fun e w'=>e=.returned (.int .i64 (blV 9 b s))∧w=w':=by
  have h1:=x2v hb hs
  have g2:=z3h 255 255 (x:=255-2*s) (y:=b) (by omega) (by omega)
  have g3:=z3h 65025 255 (x:=(255-2*s)*b) (y:=b) (by omega) (by omega)
  have g5:=z3h 130050 255 (x:=510*s) (y:=b) (by omega) (by omega)
  go_enter Tryz.func154,Tryz.ntmps154
  go_wp2_with (first |(go_at_call 110;refine (q16 _ _ _ (by omega) (by omega)).mono ?_;rintro e w' ⟨rfl,rfl⟩))
  go_ret
  exact ⟨q0u (by simp [blV,z84]),rfl⟩
set_option maxHeartbeats 1000000 in
theorem x3r (b s:Int) (w:World) (hb:0≤b∧b≤255) (hs:0≤s∧s≤255) :
    Calls Tryz.prog 155 #[.int .i64 b,.int .i64 s] w fun e w'=>e=.returned (.int .i64 (blV 10 b s))∧w=w':=by
  by_cases h:b<s
  · skip
    go_enter Tryz.func155,Tryz.ntmps155
    go_wp2_with (first |fail)
    go_ret
    exact ⟨q0u (by simp [blV];try omega),rfl⟩
  go_enter Tryz.func155,Tryz.ntmps155
  go_wp2_with (first |fail)
  go_ret
  exact ⟨q0u (by simp [blV];try omega),rfl⟩
set_option maxHeartbeats 1000000 in
theorem x3s (b s:Int) (w:World) (hb:0≤b∧b≤255) (hs:0≤s∧s≤255) :
    Calls Tryz.prog 156 #[.int .i64 b,.int .i64 s] w fun e w'=>e=.returned (.int .i64 (blV 11 b s))∧w=w':=by
  have h1:=z3h 510 255 (x:=2*b) (y:=s) (by omega) (by omega)
  have h2:=z93 hb hs
  unfold z3g at h2
  go_enter Tryz.func156,Tryz.ntmps156
  go_wp2_with (first |(go_at_call 110;refine (q16 _ _ _ (by omega) (by omega)).mono ?_;rintro e w' ⟨rfl,rfl⟩))
  go_ret
  exact ⟨q0u (by simp [blV,z3g]),rfl⟩
end Go.Proofs.YticolnghiibgfaaGreat
