/-
  Merged: XJoinLaw, XQuo, XDown, XMul, XHalf, XPast, XBlend, XIn, XModes, XMode.
-/
import Derived.WalkKit
import Derived.WalkLawsBesides
import Derived.Handy
import Derived.BigQuiet
import Derived.Deep.QuietTactic
import Derived.Laws.EntriesVeiled
import Derived.Test.YtkicdhaklnmonaaGreatMrg3
import Derived.Test.YtkicdhaklnmonaaGreatProg
set_option linter.unusedVariables false
set_option linter.unusedSimpArgs false
set_option linter.unnecessarySimpa false
namespace Go.Proofs.YtkicdhaklnmonaaGreat
def jn (o L:List Run):List Run:=L.foldl (fun o r=>addR o r.y r.x0 r.x1) o
def leR (r s:Run):Prop:=r.y<s.y∨(r.y=s.y∧r.x0≤s.x0)
theorem x8i {L:List Run} {y a b:Int} (hs:∀ r∈L,r.y<y∨(r.y=y∧r.x0≤a)):∀ q∈addR L y a b,q∈L∨(q.y=y∧q.x0≤a):=by
  intro q hq
  by_cases hb:b≤a
  · rw [q6w hb] at hq;exact .inl hq
  · rcases q36 L with rfl |⟨K,r,rfl⟩
    · rw [q30 hb] at hq;simp at hq;subst hq;exact .inr ⟨rfl,Int.le_refl _⟩
    · have hr:=hs r (by simp)
      by_cases hj:r.y=y∧a≤r.x1
      · rw [q2g hb hj.1 hj.2] at hq
        rcases List.mem_append.1 hq with hq |hq
        · exact .inl (by simp [hq])
        · simp at hq;subst hq;exact .inr ⟨rfl,by simp only;omega⟩
      · rw [q3l hb hj] at hq
        rcases List.mem_append.1 hq with hq |hq
        · exact .inl hq
        · simp at hq;subst hq;exact .inr ⟨rfl,Int.le_refl _⟩
theorem x8j {L:List Run} {y a b:Int}:(addR L y a b).length≤L.length+1:=by
  by_cases hb:b≤a
  · rw [q6w hb];omega
  · rcases q36 L with rfl |⟨K,r,rfl⟩
    · rw [q30 hb];simp
    · by_cases hj:r.y=y∧a≤r.x1
      · rw [q2g hb hj.1 hj.2];simp
      · rw [q3l hb hj];simp
theorem x8k {L:List Run} {y a b:Int} (h:okR L) (hs:∀ r∈L,r.y<y∨(r.y=y∧r.x0≤a)) :
    okR (addR L y a b)∧(∀ u v,hasR (addR L y a b) u v↔hasR L u v∨(v=y∧a≤u∧u<b)):=by
  by_cases hb:b≤a
  · rw [q6w hb]
    refine ⟨h,fun u v=>⟨.inl,?_⟩⟩
    rintro (h' |h')
    · exact h'
    · omega
  · rcases q36 L with rfl |⟨K,r,rfl⟩
    · rw [q30 hb]
      refine ⟨by simp [okR];omega,fun u v=>?_⟩
      rw [q5z];simp only [q4k,false_or];omega
    · have hr:=hs r (by simp)
      obtain ⟨o1,o2,o3⟩:=okR_append.1 h
      have o4:=o2.1
      by_cases hj:r.y=y∧a≤r.x1
      · rw [q2g hb hj.1 hj.2]
        refine ⟨okR_append.2 ⟨o1,?_,fun q hq s hs'=>?_⟩,fun u v=>?_⟩
        · simp [okR];omega
        · simp at hs';subst hs'
          have:=o3 q hq r (by simp)
          simp only;omega
        · rw [q4j,q4j,q5z,q5z]
          simp only
          constructor
          · rintro (h1 |h1)
            · exact .inl (.inl h1)
            · by_cases hx:u<r.x1
              · exact .inl (.inr (by omega))
              · exact .inr (by omega)
          · rintro ((h1 |h1) |h1)
            · exact .inl h1
            · exact .inr (by omega)
            · exact .inr (by omega)
      · rw [q3l hb hj]
        refine ⟨okR_append.2 ⟨h,by simp [okR];omega,fun q hq s hs'=>?_⟩,fun u v=>?_⟩
        · simp at hs';subst hs'
          simp only
          rcases List.mem_append.1 hq with hq |hq
          · have:=o3 q hq r (by simp);omega
          · simp at hq;subst hq;omega
        · rw [q4j,q5z];simp only
          constructor
          · rintro (h1 |h1)
            · exact .inl h1
            · exact .inr (by omega)
          · rintro (h1 |h1)
            · exact .inl h1
            · exact .inr (by omega)
theorem x4n:∀ (L o:List Run),okR o→(∀ r∈o,∀ s∈L,leR r s)→L.Pairwise leR→okR (jn o L)∧(∀ u v,hasR (jn o L) u v↔hasR o u v∨hasR L u v)
  | [],o,h,_,_=>⟨h,fun u v=>by simp [jn,q4k]⟩
  | s::L,o,h,hs,hp=>by
    obtain ⟨p1,p2⟩:=List.pairwise_cons.1 hp
    obtain ⟨a1,a2⟩:=x8k (y:=s.y) (a:=s.x0) (b:=s.x1) h (fun r hr=>hs r hr s (by simp))
    obtain ⟨b1,b2⟩:=x4n L (addR o s.y s.x0 s.x1) a1 (fun r hr t ht=>by
      rcases x8i (fun r hr=>hs r hr s (by simp)) r hr with h1 |h1
      · exact hs r h1 t (by simp [ht])
      · have:=p1 t ht
        unfold leR at *;omega) p2
    refine ⟨b1,fun u v=>?_⟩
    show hasR (jn (addR o s.y s.x0 s.x1) L) u v↔_
    rw [b2,a2,hasR_cons]
    constructor
    · rintro ((h1 |h1) |h1)
      · exact .inl h1
      · exact .inr (.inl (by omega))
      · exact .inr (.inr h1)
    · rintro (h1 |(h1 |h1))
      · exact .inl (.inl h1)
      · exact .inl (.inr (by omega))
      · exact .inr h1
theorem x58:∀ (L o:List Run),(jn o L).length≤o.length+L.length
  | [],o=>by simp [jn]
  | s::L,o=>by
    have h1:=x58 L (addR o s.y s.x0 s.x1)
    have h2:=x8j (L:=o) (y:=s.y) (a:=s.x0) (b:=s.x1)
    show (jn (addR o s.y s.x0 s.x1) L).length≤_
    simp;omega
theorem v0v {L:List Run} {i:Nat} {r:Run} (h:L[i]? = some r):jn [] (L.take (i+1))=addR (jn [] (L.take i)) r.y r.x0 r.x1:=by
  rw [List.take_add_one,h]
  simp [jn,List.foldl_append]
noncomputable def q97 (L:List Run):List Run:=open Classical in if h:∃ M,okR M∧∀ u v,hasR M u v↔hasR L u v then h.choose else []
theorem x0t {L M:List Run} (h:okR M) (h2:∀ u v,hasR M u v↔hasR L u v):q97 L=M:=by
  have hx:∃ M,okR M∧∀ u v,hasR M u v↔hasR L u v:=⟨M,h,h2⟩
  unfold q97
  rw [dif_pos hx]
  exact z3r hx.choose_spec.1 h fun u v=>by rw [hx.choose_spec.2,h2]
theorem z8i {L M:List Run} (h:L.Perm M) {u v:Int}:hasR L u v↔hasR M u v :=
  ⟨fun ⟨r,hr,h'⟩=>⟨r,h.mem_iff.1 hr,h'⟩,fun ⟨r,hr,h'⟩=>⟨r,h.mem_iff.2 hr,h'⟩⟩
theorem v0w {L M:List Run} (hp:M.Perm L) (hs:M.Pairwise leR):jn [] M=q97 L:=by
  obtain ⟨h1,h2⟩:=x4n M [] trivial (by simp) hs
  exact (x0t h1 fun u v=>by rw [h2,z8i hp];simp [q4k]).symm
end Go.Proofs.YtkicdhaklnmonaaGreat
namespace Go.Proofs.YtkicdhaklnmonaaGreat
open Go.RowKit
set_option maxHeartbeats 400000 in
theorem v0x (a b:Int) (w:World) (ha:-4611686018427387904≤a∧a≤4611686018427387904) (hb:1≤b∧b≤4611686018427387904) :
    Calls Tryz.prog 146 #[.int .i64 a,.int .i64 b] w fun e w'=>e=.returned (.int .i64 (a/b))∧w=w':=by
  have hf:Hid _:=x4k a b hb.1
  have ht:=x8g a b hb.1
  go_enter Tryz.func146,Tryz.ntmps146
  go_wp2
  all_goals go_ret
  · exact ⟨q05 (by rw [hf.out,if_pos (by assumption)]),rfl⟩
  · exact ⟨q05 (by rw [hf.out,if_neg (by omega)]),rfl⟩
set_option maxHeartbeats 400000 in
theorem q2x (a b:Int) (w:World) (ha:-4611686018427387904≤a∧a≤4611686018427387904) (hb:1≤b∧b≤4611686018427387904) :
    Calls Tryz.prog 112 #[.int .i64 a,.int .i64 b] w fun e w'=>e=.returned (.int .i64 (near a b))∧w=w':=by
  have hm:Hid _:=v0s a b
  have hb':=x3k a b hb.1
  have hd:=z1o a b hb.1
  have he:=Int.mul_ediv_add_emod a b
  rw [Int.mul_comm] at he
  go_enter Tryz.func112,Tryz.ntmps112
  go_wp2_with (go_at_call 146;refine (v0x _ _ _ ha hb).mono ?_;rintro e w' ⟨rfl,rfl⟩)
  all_goals go_ret
  all_goals refine ⟨q05 ?_,rfl⟩
  · unfold near;rw [← hm.out,if_pos (by omega)]
  · unfold near;rw [← hm.out,if_neg (by omega)]
end Go.Proofs.YtkicdhaklnmonaaGreat
namespace Go.Proofs.YtkicdhaklnmonaaGreat
open Go.RowKit
end Go.Proofs.YtkicdhaklnmonaaGreat
namespace Go.Proofs.YtkicdhaklnmonaaGreat
open Go.RowKit
set_option maxHeartbeats 400000 in
theorem z52 (a b:Int) (w:World) (ha:0≤a∧a≤255) (hb:0≤b∧b≤255) :
    Calls Tryz.prog 87 #[.int .u8 a,.int .u8 b] w fun e w'=>e=.returned (.int .u8 (near (a*b) 255))∧w=w':=by
  have hab:=z2o ha hb
  have hn:=q3a (a*b) 255 255 (by omega) (by omega) (by omega)
  go_enter Tryz.func87,Tryz.ntmps87
  go_wp2_with (go_at_call 112;refine (q2x _ _ _ ?_ ?_).mono ?_;omega;omega;rintro e w' ⟨rfl,rfl⟩)
  go_ret
  exact ⟨rfl,rfl⟩
end Go.Proofs.YtkicdhaklnmonaaGreat
namespace Go.Proofs.YtkicdhaklnmonaaGreat
open Go.RowKit
end Go.Proofs.YtkicdhaklnmonaaGreat
namespace Go.Proofs.YtkicdhaklnmonaaGreat
open Go.RowKit
structure Later (w:World) where
  to:World
  below:Below w.heap.size w to
def past (w:World) (x:Later w):World:=x.to
instance instLater (w:World):Nonempty (Later w):=⟨⟨w,Below.refl _ _⟩⟩
instance instLaterI (w:World):Inhabited (Later w):=⟨⟨w,Below.refl _ _⟩⟩
theorem q8w (w:World) (x:Later w):Below w.heap.size w (past w x):=x.below
theorem x59 (w:World) (x:Later w):w.heap.size≤(past w x).heap.size:=x.below.size
def z7a (w:World) (b o:Nat):Option Value:=w.cell? ⟨b,o,none⟩
def z2r (w:World) (b o:Nat):Bool:=w.frozen? ⟨b,o,none⟩
theorem x6a (w:World) (x:Later w) (b o:Nat):(past w x).cell? ⟨b,o,none⟩=if b<w.heap.size then w.cell? ⟨b,o,none⟩ else z7a (past w x) b o:=by
  split
  · exact x.below.cell (p:=⟨b,o,none⟩) (by assumption)
  · rfl
theorem x2f (w:World) (x:Later w) (b o:Nat):(past w x).frozen? ⟨b,o,none⟩=if b<w.heap.size then w.frozen? ⟨b,o,none⟩ else z2r (past w x) b o:=by
  split
  · exact x.below.frozen (p:=⟨b,o,none⟩) (by assumption)
  · rfl
theorem q03 (w:World) (c:Array Value) (t:TypeId) (n i:Nat):(w.alloc (.cells c t)).cell? ⟨n,i,none⟩=if n=w.heap.size then c[i]? else w.cell? ⟨n,i,none⟩:=by
  split
  · rename_i h;exact World.cell?_alloc_at c t n i h
  · rename_i h;exact World.cell?_alloc_old (a:=⟨n,i,none⟩) _ _ h
attribute [go_sem] x6a x2f q03
theorem z3s {W w1:World} (hb:Below W.heap.size W w1):(∀ b o,w1.cell? ⟨b,o,none⟩=if b<W.heap.size then W.cell? ⟨b,o,none⟩ else z7a w1 b o)∧(∀ b o,w1.frozen? ⟨b,o,none⟩=if b<W.heap.size then W.frozen? ⟨b,o,none⟩ else z2r w1 b o)∧W.heap.size≤w1.heap.size:=by
  refine ⟨fun b o=>?_,fun b o=>?_,hb.size⟩
  · split
    · exact hb.cell (p:=⟨b,o,none⟩) (by assumption)
    · rfl
  · split
    · exact hb.frozen (p:=⟨b,o,none⟩) (by assumption)
    · rfl
theorem v0y {B:Nat} {w W:World} (h:Below B w W) (hB:B≤W.heap.size) (x:Later W):Below B w (past W x):=h.trans ((q8w W x).mono hB)
theorem x8l {B:Nat} {w W:World} (h:Below B w W) (n:Nat):Below B w (W.drewN n):=⟨h.os,h.tape,h.output,h.size,h.block⟩
theorem v0z {B:Nat} {w W w1:World} (hb:Below W.heap.size W w1) (h:Below B w W) (hB:B≤W.heap.size):Below B w w1:=h.trans (hb.mono hB)
theorem q58 (w:World) (n:Nat):(w.drewN n).heap.size=w.heap.size:=rfl
theorem blQ {p:Prop} (h:p:=by (repeat' (with_reducible first |exact Below.refl _ _ |refine v0y ?_ ?_ _ |refine Below.alloc ?_ ?_ _ |refine Below.drew ?_ |refine x8l ?_ _ |refine Below.setCell ?_ ?_ _ |refine v0z (by assumption) ?_ ?_ |omega |(simp only [];omega) |(simp only [World.size_alloc];omega) |(simp only [World.size_setCell];omega) |(simp only [World.size_drew];omega) |(simp only [World.size_alloc,World.size_setCell];omega) |(simp only [World.size_alloc,World.size_drew];omega) |(simp only [World.size_setCell,World.size_drew];omega) |(simp only [World.size_alloc,World.size_setCell,World.size_drew];omega) |(simp only [World.size_alloc,World.size_setCell,World.size_drew,q58];omega)))):p:=h
end Go.Proofs.YtkicdhaklnmonaaGreat
namespace Go.Proofs.YtkicdhaklnmonaaGreat
open Go.RowKit
def mulV (b s:Int):Int:=near (b*s) 255
theorem q6x {b s:Int} (hb:0≤b∧b≤255) (hs:0≤s∧s≤255):0≤mulV b s∧mulV b s≤255:=by
  have:=z2o hb hs
  exact q3a _ _ _ (by omega) (by omega) (by omega)
def q6l (b s:Int):Int:=if s≤127 then mulV b (2*s) else 255-mulV (255-b) (510-2*s)
theorem x0u {b s:Int} (hb:0≤b∧b≤255) (hs:0≤s∧s≤255):0≤q6l b s∧q6l b s≤255:=by
  unfold q6l
  split
  · exact q6x hb (by omega)
  · have:=q6x (b:=255-b) (s:=510-2*s) (by omega) (by omega)
    omega
def q8e (b s:Int):Int:=if b=0 then 0 else if 255-s≤b then 255 else near (255*b) (255-s)
theorem x6b {b s:Int} (hb:0≤b∧b≤255) (hs:0≤s∧s≤255):0≤q8e b s∧q8e b s≤255:=by
  unfold q8e
  split
  · omega
  · split
    · omega
    · exact q3a _ _ _ (by omega) (by omega) (by omega)
def q98 (b s:Int):Int:=if b=255 then 255 else if s≤255-b then 0 else 255-near (255*(255-b)) s
theorem x8m {b s:Int} (hb:0≤b∧b≤255) (hs:0≤s∧s≤255):0≤q98 b s∧q98 b s≤255:=by
  unfold q98
  split
  · omega
  · split
    · omega
    · have:=q3a (255*(255-b)) s 255 (by omega) (by omega) (by omega)
      omega
def z9p (b s:Int):Int:=near ((255-2*s)*b*b+510*s*b) 65025
theorem v00 (b s:Int):(255-2*s)*b*b+510*s*b=255*(b*b)+2*(s*(b*(255-b))):=by
  have e1:(255-2*s)*b*b=255*(b*b)-2*(s*(b*b)):=by
    rw [Int.mul_assoc,Int.sub_mul,Int.mul_assoc 2 s]
  have e2:s*(b*(255-b))=255*(s*b)-s*(b*b):=by
    rw [Int.mul_sub,Int.mul_sub,Int.mul_comm b 255,Int.mul_left_comm s 255 b]
  have e3:510*s*b=510*(s*b):=Int.mul_assoc _ _ _
  omega
theorem x3m {b s:Int} (hb:0≤b∧b≤255) (hs:0≤s∧s≤255):0≤(255-2*s)*b*b+510*s*b∧(255-2*s)*b*b+510*s*b≤255*65025:=by
  rw [v00]
  have h1:=z2o hb hb
  have h2:=z2o hb (b:=255-b) (B:=255-b) ⟨by omega,by omega⟩
  have h3:0≤b*(255-b):=Int.mul_nonneg hb.1 (by omega)
  have h4:0≤s*(b*(255-b)):=Int.mul_nonneg hs.1 h3
  have h5:s*(b*(255-b))≤255*(b*(255-b)):=Int.mul_le_mul_of_nonneg_right hs.2 h3
  have h6:b*(255-b)=255*b-b*b:=by rw [Int.mul_sub,Int.mul_comm]
  have h7:0≤(255-b)*(255-b):=Int.mul_nonneg (by omega) (by omega)
  have h8:(255-b)*(255-b)=65025-510*b+b*b:=by
    rw [Int.sub_mul,Int.mul_sub b 255 b,Int.mul_comm b 255];omega
  omega
theorem x8n {b s:Int} (hb:0≤b∧b≤255) (hs:0≤s∧s≤255):0≤z9p b s∧z9p b s≤255:=by
  have:=x3m hb hs
  exact q3a _ _ _ (by omega) this.1 this.2
def z3t (b s:Int):Int:=b+s-near (2*b*s) 255
theorem x0v {b s:Int} (hb:0≤b∧b≤255) (hs:0≤s∧s≤255):0≤z3t b s∧z3t b s≤255:=by
  unfold z3t
  have h0:2*b*s=2*(b*s):=Int.mul_assoc _ _ _
  have h1:=z2o hb hs
  have h2:b*s≤b*255:=Int.mul_le_mul_of_nonneg_left hs.2 hb.1
  have h3:b*s≤255*s:=Int.mul_le_mul_of_nonneg_right hb.2 hs.1
  have h4:0≤(255-b)*(255-s):=Int.mul_nonneg (by omega) (by omega)
  have h5:(255-b)*(255-s)=65025-255*b-255*s+b*s:=by
    rw [Int.sub_mul,Int.mul_sub b 255 s,Int.mul_comm b 255];omega
  have h6:=q3a (2*b*s) 255 (b+s) (by omega) (by omega) (by omega)
  have h7:b+s-255≤2*b*s/255:=by
    by_cases hn:b+s-255≤0
    · have:=Int.ediv_nonneg (a:=2*b*s) (b:=255) (by omega) (by omega)
      omega
    · exact Int.le_ediv_of_mul_le (by omega) (by omega)
  have h8:2*b*s/255≤near (2*b*s) 255:=by unfold near;split <;> omega
  omega
def blV (k b s:Int):Int :=
  if k=1 then mulV b s else if k=2 then 255-mulV (255-b) (255-s) else if k=3 then q6l s b else if k=4 then (if s<b then s else b) else if k=5 then (if b<s then s else b)
  else if k=6 then q8e b s else if k=7 then q98 b s else if k=8 then q6l b s else if k=9 then z9p b s else if k=10 then (if b<s then s-b else b-s) else if k=11 then z3t b s else s
theorem q4b {k b s:Int} (hb:0≤b∧b≤255) (hs:0≤s∧s≤255):0≤blV k b s∧blV k b s≤255:=by
  have h1:=q6x hb hs
  have h2:=q6x (b:=255-b) (s:=255-s) (by omega) (by omega)
  have h3:=x0u hs hb
  have h4:=x0u hb hs
  have h5:=x6b hb hs
  have h6:=x8m hb hs
  have h7:=x8n hb hs
  have h8:=x0v hb hs
  unfold blV
  by_cases k1:k=1
  · rw [if_pos k1];exact h1
  rw [if_neg k1]
  by_cases k2:k=2
  · rw [if_pos k2];omega
  rw [if_neg k2]
  by_cases k3:k=3
  · rw [if_pos k3];exact h3
  rw [if_neg k3]
  by_cases k4:k=4
  · rw [if_pos k4];split <;> omega
  rw [if_neg k4]
  by_cases k5:k=5
  · rw [if_pos k5];split <;> omega
  rw [if_neg k5]
  by_cases k6:k=6
  · rw [if_pos k6];exact h5
  rw [if_neg k6]
  by_cases k7:k=7
  · rw [if_pos k7];exact h6
  rw [if_neg k7]
  by_cases k8:k=8
  · rw [if_pos k8];exact h4
  rw [if_neg k8]
  by_cases k9:k=9
  · rw [if_pos k9];exact h7
  rw [if_neg k9]
  by_cases k10:k=10
  · rw [if_pos k10];split <;> omega
  rw [if_neg k10]
  by_cases k11:k=11
  · rw [if_pos k11];exact h8
  rw [if_neg k11]
  exact hs
set_option maxHeartbeats 1000000 in
theorem z1r (b s:Int) (w:World) (hb:0≤b∧b≤255) (hs:0≤s∧s≤255) :
    Calls Tryz.prog 162 #[.int .i64 b,.int .i64 s] w fun e w'=>e=.returned (.int .i64 (mulV b s))∧w=w':=by
  have hm:=q6x hb hs
  unfold mulV at hm ⊢
  go_enter Tryz.func162,Tryz.ntmps162
  go_wp2_with (first |(go_at_call 87;refine (z52 _ _ _ (by omega) (by omega)).mono ?_;rintro e w' ⟨rfl,rfl⟩))
  go_ret
  exact ⟨q05 (by rfl),rfl⟩
set_option maxHeartbeats 1000000 in
theorem z8j (b s:Int) (w:World) (hb:0≤b∧b≤255) (hs:0≤s∧s≤255) :
    Calls Tryz.prog 165 #[.int .i64 b,.int .i64 s] w fun e w'=>e=.returned (.int .i64 (q6l b s))∧w=w':=by
  have e1:Hid (2*(255-s)=510-2*s):=by show 2*(255-s)=510-2*s;omega
  by_cases h:s≤127
  · have HV:Hid (q6l b s=mulV b (2*s)):=by show q6l b s=mulV b (2*s);rw [q6l,if_pos h]
    have h1:=q6x (b:=b) (s:=2*s) (by omega) (by omega)
    go_enter Tryz.func165,Tryz.ntmps165
    go_wp2_with (first |(go_at_call 162;refine (z1r _ _ _ (by omega) (by omega)).mono ?_;rintro e w' ⟨rfl,rfl⟩))
    go_ret
    exact ⟨q05 HV.out.symm,rfl⟩
  · have HV:Hid (q6l b s=255-mulV (255-b) (510-2*s)):=by show q6l b s=255-mulV (255-b) (510-2*s);rw [q6l,if_neg h]
    have h1:=q6x (b:=255-b) (s:=510-2*s) (by omega) (by omega)
    have h2:=h1
    rw [← e1.out] at h2
    go_enter Tryz.func165,Tryz.ntmps165
    go_wp2_with (first |(go_at_call 162;refine (z1r _ _ _ (by omega) (by omega)).mono ?_;rintro e w' ⟨rfl,rfl⟩))
    go_ret
    exact ⟨q05 (by rw [HV.out];try rw [e1.out]),rfl⟩
set_option maxHeartbeats 1000000 in
theorem x4o (b s:Int) (w:World) (hb:0≤b∧b≤255) (hs:0≤s∧s≤255) :
    Calls Tryz.prog 168 #[.int .i64 b,.int .i64 s] w fun e w'=>e=.returned (.int .i64 (q8e b s))∧w=w':=by
  by_cases h0:b=0
  · skip
    go_enter Tryz.func168,Tryz.ntmps168
    go_wp2_with (first |(go_at_call 112;refine (q2x _ _ _ (by omega) (by omega)).mono ?_;rintro e w' ⟨rfl,rfl⟩))
    go_ret
    exact ⟨q05 (by unfold q8e;(repeat' split) <;> omega),rfl⟩
  by_cases h1:255-s≤b
  · skip
    go_enter Tryz.func168,Tryz.ntmps168
    go_wp2_with (first |(go_at_call 112;refine (q2x _ _ _ (by omega) (by omega)).mono ?_;rintro e w' ⟨rfl,rfl⟩))
    go_ret
    exact ⟨q05 (by unfold q8e;(repeat' split) <;> omega),rfl⟩
  go_enter Tryz.func168,Tryz.ntmps168
  go_wp2_with (first |(go_at_call 112;refine (q2x _ _ _ (by omega) (by omega)).mono ?_;rintro e w' ⟨rfl,rfl⟩))
  go_ret
  exact ⟨q05 (by unfold q8e;(repeat' split) <;> omega),rfl⟩
set_option maxHeartbeats 1000000 in
theorem x6c (b s:Int) (w:World) (hb:0≤b∧b≤255) (hs:0≤s∧s≤255) :
    Calls Tryz.prog 169 #[.int .i64 b,.int .i64 s] w fun e w'=>e=.returned (.int .i64 (q98 b s))∧w=w':=by
  have hn:¬ b=255→¬ s≤255-b→0≤near (255*(255-b)) s∧near (255*(255-b)) s≤255:=fun _ _=>q3a _ _ _ (by omega) (by omega) (by omega)
  by_cases h0:b=255
  · skip
    go_enter Tryz.func169,Tryz.ntmps169
    go_wp2_with (first |(go_at_call 112;refine (q2x _ _ _ (by omega) (by omega)).mono ?_;rintro e w' ⟨rfl,rfl⟩))
    go_ret
    exact ⟨q05 (by unfold q98;(repeat' split) <;> omega),rfl⟩
  by_cases h1:s≤255-b
  · skip
    go_enter Tryz.func169,Tryz.ntmps169
    go_wp2_with (first |(go_at_call 112;refine (q2x _ _ _ (by omega) (by omega)).mono ?_;rintro e w' ⟨rfl,rfl⟩))
    go_ret
    exact ⟨q05 (by unfold q98;(repeat' split) <;> omega),rfl⟩
  go_enter Tryz.func169,Tryz.ntmps169
  go_wp2_with (first |(go_at_call 112;refine (q2x _ _ _ (by omega) (by omega)).mono ?_;rintro e w' ⟨rfl,rfl⟩))
  go_ret
  exact ⟨q05 (by unfold q98;(repeat' split) <;> omega),rfl⟩
end Go.Proofs.YtkicdhaklnmonaaGreat
namespace Go.Proofs.YtkicdhaklnmonaaGreat
open Go.RowKit
theorem q6g (x l h:Int) (w:World) :
    Calls Tryz.prog 11 #[.int .i64 x,.int .i64 l,.int .i64 h] w fun e w'=>e=.returned (.bool (inB x l h))∧w=w':=by
  by_cases h1:l≤x <;> by_cases h2:x≤h
  all_goals
    go_enter Tryz.func11,Tryz.ntmps11
    go_wp2
    go_ret
    exact ⟨q9j (by simp [inB,h1,h2]),rfl⟩
end Go.Proofs.YtkicdhaklnmonaaGreat
namespace Go.Proofs.YtkicdhaklnmonaaGreat
open Go.RowKit
theorem z3u (A B:Int) {x y:Int} (hx:-A≤x∧x≤A) (hy:-B≤y∧y≤B):-(A*B)≤x*y∧x*y≤A*B:=by
  have h1:x.natAbs*y.natAbs≤A.natAbs*B.natAbs:=Nat.mul_le_mul (by omega) (by omega)
  have h2:(x*y).natAbs≤(A*B).natAbs:=by rw [Int.natAbs_mul,Int.natAbs_mul];exact h1
  have h3:0≤A*B:=Int.mul_nonneg (by omega) (by omega)
  omega
set_option maxHeartbeats 1000000 in
theorem x6d (b s:Int) (w:World) (hb:0≤b∧b≤255) (hs:0≤s∧s≤255) :
    Calls Tryz.prog 161 #[.int .i64 b,.int .i64 s] w fun e w'=>e=.returned (.int .i64 (blV 0 b s))∧w=w':=by
  go_enter Tryz.func161,Tryz.ntmps161
  go_wp2_with (first |fail)
  go_ret
  exact ⟨q05 (by simp [blV];try omega),rfl⟩
set_option maxHeartbeats 1000000 in
theorem x6e (b s:Int) (w:World) (hb:0≤b∧b≤255) (hs:0≤s∧s≤255) :
    Calls Tryz.prog 163 #[.int .i64 b,.int .i64 s] w fun e w'=>e=.returned (.int .i64 (blV 2 b s))∧w=w':=by
  have h1:=q6x (b:=255-b) (s:=255-s) (by omega) (by omega)
  go_enter Tryz.func163,Tryz.ntmps163
  go_wp2_with (first |(go_at_call 162;refine (z1r _ _ _ (by omega) (by omega)).mono ?_;rintro e w' ⟨rfl,rfl⟩))
  go_ret
  exact ⟨q05 (by simp [blV];try omega),rfl⟩
set_option maxHeartbeats 1000000 in
theorem x6f (b s:Int) (w:World) (hb:0≤b∧b≤255) (hs:0≤s∧s≤255) :
    Calls Tryz.prog 164 #[.int .i64 b,.int .i64 s] w fun e w'=>e=.returned (.int .i64 (blV 3 b s))∧w=w':=by
  go_enter Tryz.func164,Tryz.ntmps164
  go_wp2_with (first |(go_at_call 165;refine (z8j _ _ _ (by omega) (by omega)).mono ?_;rintro e w' ⟨rfl,rfl⟩))
  go_ret
  exact ⟨q05 (by simp [blV];try omega),rfl⟩
set_option maxHeartbeats 1000000 in
theorem x6g (b s:Int) (w:World) (hb:0≤b∧b≤255) (hs:0≤s∧s≤255) :
    Calls Tryz.prog 166 #[.int .i64 b,.int .i64 s] w fun e w'=>e=.returned (.int .i64 (blV 4 b s))∧w=w':=by
  by_cases h:s<b
  · skip
    go_enter Tryz.func166,Tryz.ntmps166
    go_wp2_with (first |fail)
    go_ret
    exact ⟨q05 (by simp [blV];try omega),rfl⟩
  go_enter Tryz.func166,Tryz.ntmps166
  go_wp2_with (first |fail)
  go_ret
  exact ⟨q05 (by simp [blV];try omega),rfl⟩
set_option maxHeartbeats 1000000 in
theorem x6h (b s:Int) (w:World) (hb:0≤b∧b≤255) (hs:0≤s∧s≤255) :
    Calls Tryz.prog 167 #[.int .i64 b,.int .i64 s] w fun e w'=>e=.returned (.int .i64 (blV 5 b s))∧w=w':=by
  by_cases h:b<s
  · skip
    go_enter Tryz.func167,Tryz.ntmps167
    go_wp2_with (first |fail)
    go_ret
    exact ⟨q05 (by simp [blV];try omega),rfl⟩
  go_enter Tryz.func167,Tryz.ntmps167
  go_wp2_with (first |fail)
  go_ret
  exact ⟨q05 (by simp [blV];try omega),rfl⟩
set_option maxHeartbeats 1000000 in
theorem x6i (b s:Int) (w:World) (hb:0≤b∧b≤255) (hs:0≤s∧s≤255) :
    Calls Tryz.prog 170 #[.int .i64 b,.int .i64 s] w fun e w'=>e=.returned (.int .i64 (blV 9 b s))∧w=w':=by
  have h1:=x3m hb hs
  have g2:=z3u 255 255 (x:=255-2*s) (y:=b) (by omega) (by omega)
  have g3:=z3u 65025 255 (x:=(255-2*s)*b) (y:=b) (by omega) (by omega)
  have g5:=z3u 130050 255 (x:=510*s) (y:=b) (by omega) (by omega)
  go_enter Tryz.func170,Tryz.ntmps170
  go_wp2_with (first |(go_at_call 112;refine (q2x _ _ _ (by omega) (by omega)).mono ?_;rintro e w' ⟨rfl,rfl⟩))
  go_ret
  exact ⟨q05 (by simp [blV,z9p]),rfl⟩
set_option maxHeartbeats 1000000 in
theorem x4p (b s:Int) (w:World) (hb:0≤b∧b≤255) (hs:0≤s∧s≤255) :
    Calls Tryz.prog 171 #[.int .i64 b,.int .i64 s] w fun e w'=>e=.returned (.int .i64 (blV 10 b s))∧w=w':=by
  by_cases h:b<s
  · skip
    go_enter Tryz.func171,Tryz.ntmps171
    go_wp2_with (first |fail)
    go_ret
    exact ⟨q05 (by simp [blV];try omega),rfl⟩
  go_enter Tryz.func171,Tryz.ntmps171
  go_wp2_with (first |fail)
  go_ret
  exact ⟨q05 (by simp [blV];try omega),rfl⟩
set_option maxHeartbeats 1000000 in
theorem x4q (b s:Int) (w:World) (hb:0≤b∧b≤255) (hs:0≤s∧s≤255) :
    Calls Tryz.prog 172 #[.int .i64 b,.int .i64 s] w fun e w'=>e=.returned (.int .i64 (blV 11 b s))∧w=w':=by
  have h1:=z3u 510 255 (x:=2*b) (y:=s) (by omega) (by omega)
  have h2:=x0v hb hs
  unfold z3t at h2
  go_enter Tryz.func172,Tryz.ntmps172
  go_wp2_with (first |(go_at_call 112;refine (q2x _ _ _ (by omega) (by omega)).mono ?_;rintro e w' ⟨rfl,rfl⟩))
  go_ret
  exact ⟨q05 (by simp [blV,z3t]),rfl⟩
end Go.Proofs.YtkicdhaklnmonaaGreat
namespace Go.Proofs.YtkicdhaklnmonaaGreat
open Go.RowKit
def q3c (k:Int):FuncId :=
  if k=1 then 162 else if k=2 then 163 else if k=3 then 164 else if k=4 then 166 else if k=5 then 167
  else if k=6 then 168 else if k=7 then 169 else if k=8 then 165 else if k=9 then 170 else if k=10 then 171 else if k=11 then 172 else 161
theorem q22 (k b s:Int) (w:World) (hk:0≤k∧k≤11) (hb:0≤b∧b≤255) (hs:0≤s∧s≤255) :
    Calls Tryz.prog (q3c k) #[.int .i64 b,.int .i64 s] w fun e w'=>e=.returned (.int .i64 (blV k b s))∧w=w':=by
  have:k=0∨k=1∨k=2∨k=3∨k=4∨k=5∨k=6∨k=7∨k=8∨k=9∨k=10∨k=11:=by omega
  rcases this with rfl |rfl |rfl |rfl |rfl |rfl |rfl |rfl |rfl |rfl |rfl |rfl
  · exact x6d b s w hb hs
  · exact z1r b s w hb hs
  · exact x6e b s w hb hs
  · exact x6f b s w hb hs
  · exact x6g b s w hb hs
  · exact x6h b s w hb hs
  · exact x4o b s w hb hs
  · exact x6c b s w hb hs
  · exact z8j b s w hb hs
  · exact x6i b s w hb hs
  · exact x4p b s w hb hs
  · exact x4q b s w hb hs
def q26:Obj:=.cells #[.func (.func 161) #[] #[],.func (.func 162) #[] #[],.func (.func 163) #[] #[],.func (.func 164) #[] #[],.func (.func 166) #[] #[],.func (.func 167) #[] #[],.func (.func 168) #[] #[],.func (.func 169) #[] #[],.func (.func 165) #[] #[],.func (.func 170) #[] #[],.func (.func 171) #[] #[],.func (.func 172) #[] #[]] 203
set_option maxRecDepth 20000 in
set_option maxHeartbeats 2000000 in
theorem q23 (w:World):Calls Tryz.prog 144 #[] w fun e w'=>e=.returned (.agg #[.func (.func 161) #[] #[],.func (.func 162) #[] #[],.func (.func 163) #[] #[],.func (.func 164) #[] #[],.func (.func 166) #[] #[],.func (.func 167) #[] #[],.func (.func 168) #[] #[],.func (.func 169) #[] #[],.func (.func 165) #[] #[],.func (.func 170) #[] #[],.func (.func 171) #[] #[],.func (.func 172) #[] #[]])∧w.alloc q26=w':=by
  go_enter Tryz.func144,Tryz.ntmps144
  go_wp2_with fail
  go_returns
  exact ⟨rfl,rfl⟩
set_option maxRecDepth 20000 in
set_option maxHeartbeats 1000000 in
theorem x8o (b s:Int) (p:Nat) (w:World) (hb:0≤b∧b≤255) (hs:0≤s∧s≤255) (hc:∀ o,w.cell? ⟨p,o,none⟩=#[Value.func (.func 161) #[] #[]][o]?) :
    Calls Tryz.prog 145 #[.int .u8 b,.int .u8 s,.pointer (some ⟨p,0,none⟩)] w fun e w'=>e=.returned (.int .u8 (blV 0 b s))∧w=w':=by
  have hr:=q4b (k:=0) hb hs
  have hF:=fun w=>q22 0 b s w (by omega) hb hs
  rw [show q3c 0=161 by decide] at hF
  generalize blV 0 b s=r at *
  go_enter Tryz.func145,Tryz.ntmps145
  go_wp2_with (first |(go_at_call 161;refine (hF _).mono ?_;rintro e w' ⟨rfl,rfl⟩))
  go_ret
  exact ⟨by rfl,rfl⟩
set_option maxRecDepth 20000 in
set_option maxHeartbeats 2000000 in
theorem v12 (w:World):Calls Tryz.prog 108 #[.int .i64 0] w fun e w'=>e=.returned (.tuple #[.func (.func 145) #[] #[.pointer (some ⟨w.heap.size+1,0,none⟩)],.int .i64 0])∧(w.alloc q26).alloc (.cells #[.func (.func 161) #[] #[]] 112)=w':=by
  have i1:∀ w,(Instr.index 203 (.agg #[.func (.func 161) #[] #[],.func (.func 162) #[] #[],.func (.func 163) #[] #[],.func (.func 164) #[] #[],.func (.func 166) #[] #[],.func (.func 167) #[] #[],.func (.func 168) #[] #[],.func (.func 169) #[] #[],.func (.func 165) #[] #[],.func (.func 170) #[] #[],.func (.func 171) #[] #[],.func (.func 172) #[] #[]]) (.int .i64 0)).run Tryz.prog w=.ok (.func (.func 161) #[] #[]) w:=fun _=>by kernel_rfl
  go_enter Tryz.func108,Tryz.ntmps108
  go_wp2_with (first |(go_at_call 144;refine (q23 _).mono ?_;rintro e w' ⟨rfl,rfl⟩))
  go_ret2
  exact ⟨rfl,rfl⟩
set_option maxRecDepth 20000 in
set_option maxHeartbeats 1000000 in
theorem x8p (b s:Int) (p:Nat) (w:World) (hb:0≤b∧b≤255) (hs:0≤s∧s≤255) (hc:∀ o,w.cell? ⟨p,o,none⟩=#[Value.func (.func 162) #[] #[]][o]?) :
    Calls Tryz.prog 145 #[.int .u8 b,.int .u8 s,.pointer (some ⟨p,0,none⟩)] w fun e w'=>e=.returned (.int .u8 (blV 1 b s))∧w=w':=by
  have hr:=q4b (k:=1) hb hs
  have hF:=fun w=>q22 1 b s w (by omega) hb hs
  rw [show q3c 1=162 by decide] at hF
  generalize blV 1 b s=r at *
  go_enter Tryz.func145,Tryz.ntmps145
  go_wp2_with (first |(go_at_call 162;refine (hF _).mono ?_;rintro e w' ⟨rfl,rfl⟩))
  go_ret
  exact ⟨by rfl,rfl⟩
set_option maxRecDepth 20000 in
set_option maxHeartbeats 2000000 in
theorem v13 (w:World):Calls Tryz.prog 108 #[.int .i64 1] w fun e w'=>e=.returned (.tuple #[.func (.func 145) #[] #[.pointer (some ⟨w.heap.size+1,0,none⟩)],.int .i64 0])∧(w.alloc q26).alloc (.cells #[.func (.func 162) #[] #[]] 112)=w':=by
  have i1:∀ w,(Instr.index 203 (.agg #[.func (.func 161) #[] #[],.func (.func 162) #[] #[],.func (.func 163) #[] #[],.func (.func 164) #[] #[],.func (.func 166) #[] #[],.func (.func 167) #[] #[],.func (.func 168) #[] #[],.func (.func 169) #[] #[],.func (.func 165) #[] #[],.func (.func 170) #[] #[],.func (.func 171) #[] #[],.func (.func 172) #[] #[]]) (.int .i64 1)).run Tryz.prog w=.ok (.func (.func 162) #[] #[]) w:=fun _=>by kernel_rfl
  go_enter Tryz.func108,Tryz.ntmps108
  go_wp2_with (first |(go_at_call 144;refine (q23 _).mono ?_;rintro e w' ⟨rfl,rfl⟩))
  go_ret2
  exact ⟨rfl,rfl⟩
set_option maxRecDepth 20000 in
set_option maxHeartbeats 1000000 in
theorem x8q (b s:Int) (p:Nat) (w:World) (hb:0≤b∧b≤255) (hs:0≤s∧s≤255) (hc:∀ o,w.cell? ⟨p,o,none⟩=#[Value.func (.func 163) #[] #[]][o]?) :
    Calls Tryz.prog 145 #[.int .u8 b,.int .u8 s,.pointer (some ⟨p,0,none⟩)] w fun e w'=>e=.returned (.int .u8 (blV 2 b s))∧w=w':=by
  have hr:=q4b (k:=2) hb hs
  have hF:=fun w=>q22 2 b s w (by omega) hb hs
  rw [show q3c 2=163 by decide] at hF
  generalize blV 2 b s=r at *
  go_enter Tryz.func145,Tryz.ntmps145
  go_wp2_with (first |(go_at_call 163;refine (hF _).mono ?_;rintro e w' ⟨rfl,rfl⟩))
  go_ret
  exact ⟨by rfl,rfl⟩
set_option maxRecDepth 20000 in
set_option maxHeartbeats 2000000 in
theorem v14 (w:World):Calls Tryz.prog 108 #[.int .i64 2] w fun e w'=>e=.returned (.tuple #[.func (.func 145) #[] #[.pointer (some ⟨w.heap.size+1,0,none⟩)],.int .i64 0])∧(w.alloc q26).alloc (.cells #[.func (.func 163) #[] #[]] 112)=w':=by
  have i1:∀ w,(Instr.index 203 (.agg #[.func (.func 161) #[] #[],.func (.func 162) #[] #[],.func (.func 163) #[] #[],.func (.func 164) #[] #[],.func (.func 166) #[] #[],.func (.func 167) #[] #[],.func (.func 168) #[] #[],.func (.func 169) #[] #[],.func (.func 165) #[] #[],.func (.func 170) #[] #[],.func (.func 171) #[] #[],.func (.func 172) #[] #[]]) (.int .i64 2)).run Tryz.prog w=.ok (.func (.func 163) #[] #[]) w:=fun _=>by kernel_rfl
  go_enter Tryz.func108,Tryz.ntmps108
  go_wp2_with (first |(go_at_call 144;refine (q23 _).mono ?_;rintro e w' ⟨rfl,rfl⟩))
  go_ret2
  exact ⟨rfl,rfl⟩
set_option maxRecDepth 20000 in
set_option maxHeartbeats 1000000 in
theorem x8r (b s:Int) (p:Nat) (w:World) (hb:0≤b∧b≤255) (hs:0≤s∧s≤255) (hc:∀ o,w.cell? ⟨p,o,none⟩=#[Value.func (.func 164) #[] #[]][o]?) :
    Calls Tryz.prog 145 #[.int .u8 b,.int .u8 s,.pointer (some ⟨p,0,none⟩)] w fun e w'=>e=.returned (.int .u8 (blV 3 b s))∧w=w':=by
  have hr:=q4b (k:=3) hb hs
  have hF:=fun w=>q22 3 b s w (by omega) hb hs
  rw [show q3c 3=164 by decide] at hF
  generalize blV 3 b s=r at *
  go_enter Tryz.func145,Tryz.ntmps145
  go_wp2_with (first |(go_at_call 164;refine (hF _).mono ?_;rintro e w' ⟨rfl,rfl⟩))
  go_ret
  exact ⟨by rfl,rfl⟩
set_option maxRecDepth 20000 in
set_option maxHeartbeats 2000000 in
theorem v15 (w:World):Calls Tryz.prog 108 #[.int .i64 3] w fun e w'=>e=.returned (.tuple #[.func (.func 145) #[] #[.pointer (some ⟨w.heap.size+1,0,none⟩)],.int .i64 0])∧(w.alloc q26).alloc (.cells #[.func (.func 164) #[] #[]] 112)=w':=by
  have i1:∀ w,(Instr.index 203 (.agg #[.func (.func 161) #[] #[],.func (.func 162) #[] #[],.func (.func 163) #[] #[],.func (.func 164) #[] #[],.func (.func 166) #[] #[],.func (.func 167) #[] #[],.func (.func 168) #[] #[],.func (.func 169) #[] #[],.func (.func 165) #[] #[],.func (.func 170) #[] #[],.func (.func 171) #[] #[],.func (.func 172) #[] #[]]) (.int .i64 3)).run Tryz.prog w=.ok (.func (.func 164) #[] #[]) w:=fun _=>by kernel_rfl
  go_enter Tryz.func108,Tryz.ntmps108
  go_wp2_with (first |(go_at_call 144;refine (q23 _).mono ?_;rintro e w' ⟨rfl,rfl⟩))
  go_ret2
  exact ⟨rfl,rfl⟩
set_option maxRecDepth 20000 in
set_option maxHeartbeats 1000000 in
theorem x8s (b s:Int) (p:Nat) (w:World) (hb:0≤b∧b≤255) (hs:0≤s∧s≤255) (hc:∀ o,w.cell? ⟨p,o,none⟩=#[Value.func (.func 166) #[] #[]][o]?) :
    Calls Tryz.prog 145 #[.int .u8 b,.int .u8 s,.pointer (some ⟨p,0,none⟩)] w fun e w'=>e=.returned (.int .u8 (blV 4 b s))∧w=w':=by
  have hr:=q4b (k:=4) hb hs
  have hF:=fun w=>q22 4 b s w (by omega) hb hs
  rw [show q3c 4=166 by decide] at hF
  generalize blV 4 b s=r at *
  go_enter Tryz.func145,Tryz.ntmps145
  go_wp2_with (first |(go_at_call 166;refine (hF _).mono ?_;rintro e w' ⟨rfl,rfl⟩))
  go_ret
  exact ⟨by rfl,rfl⟩
set_option maxRecDepth 20000 in
set_option maxHeartbeats 2000000 in
theorem v16 (w:World):Calls Tryz.prog 108 #[.int .i64 4] w fun e w'=>e=.returned (.tuple #[.func (.func 145) #[] #[.pointer (some ⟨w.heap.size+1,0,none⟩)],.int .i64 0])∧(w.alloc q26).alloc (.cells #[.func (.func 166) #[] #[]] 112)=w':=by
  have i1:∀ w,(Instr.index 203 (.agg #[.func (.func 161) #[] #[],.func (.func 162) #[] #[],.func (.func 163) #[] #[],.func (.func 164) #[] #[],.func (.func 166) #[] #[],.func (.func 167) #[] #[],.func (.func 168) #[] #[],.func (.func 169) #[] #[],.func (.func 165) #[] #[],.func (.func 170) #[] #[],.func (.func 171) #[] #[],.func (.func 172) #[] #[]]) (.int .i64 4)).run Tryz.prog w=.ok (.func (.func 166) #[] #[]) w:=fun _=>by kernel_rfl
  go_enter Tryz.func108,Tryz.ntmps108
  go_wp2_with (first |(go_at_call 144;refine (q23 _).mono ?_;rintro e w' ⟨rfl,rfl⟩))
  go_ret2
  exact ⟨rfl,rfl⟩
set_option maxRecDepth 20000 in
set_option maxHeartbeats 1000000 in
theorem x8t (b s:Int) (p:Nat) (w:World) (hb:0≤b∧b≤255) (hs:0≤s∧s≤255) (hc:∀ o,w.cell? ⟨p,o,none⟩=#[Value.func (.func 167) #[] #[]][o]?) :
    Calls Tryz.prog 145 #[.int .u8 b,.int .u8 s,.pointer (some ⟨p,0,none⟩)] w fun e w'=>e=.returned (.int .u8 (blV 5 b s))∧w=w':=by
  have hr:=q4b (k:=5) hb hs
  have hF:=fun w=>q22 5 b s w (by omega) hb hs
  rw [show q3c 5=167 by decide] at hF
  generalize blV 5 b s=r at *
  go_enter Tryz.func145,Tryz.ntmps145
  go_wp2_with (first |(go_at_call 167;refine (hF _).mono ?_;rintro e w' ⟨rfl,rfl⟩))
  go_ret
  exact ⟨by rfl,rfl⟩
set_option maxRecDepth 20000 in
set_option maxHeartbeats 2000000 in
theorem v17 (w:World):Calls Tryz.prog 108 #[.int .i64 5] w fun e w'=>e=.returned (.tuple #[.func (.func 145) #[] #[.pointer (some ⟨w.heap.size+1,0,none⟩)],.int .i64 0])∧(w.alloc q26).alloc (.cells #[.func (.func 167) #[] #[]] 112)=w':=by
  have i1:∀ w,(Instr.index 203 (.agg #[.func (.func 161) #[] #[],.func (.func 162) #[] #[],.func (.func 163) #[] #[],.func (.func 164) #[] #[],.func (.func 166) #[] #[],.func (.func 167) #[] #[],.func (.func 168) #[] #[],.func (.func 169) #[] #[],.func (.func 165) #[] #[],.func (.func 170) #[] #[],.func (.func 171) #[] #[],.func (.func 172) #[] #[]]) (.int .i64 5)).run Tryz.prog w=.ok (.func (.func 167) #[] #[]) w:=fun _=>by kernel_rfl
  go_enter Tryz.func108,Tryz.ntmps108
  go_wp2_with (first |(go_at_call 144;refine (q23 _).mono ?_;rintro e w' ⟨rfl,rfl⟩))
  go_ret2
  exact ⟨rfl,rfl⟩
set_option maxRecDepth 20000 in
set_option maxHeartbeats 1000000 in
theorem x8u (b s:Int) (p:Nat) (w:World) (hb:0≤b∧b≤255) (hs:0≤s∧s≤255) (hc:∀ o,w.cell? ⟨p,o,none⟩=#[Value.func (.func 168) #[] #[]][o]?) :
    Calls Tryz.prog 145 #[.int .u8 b,.int .u8 s,.pointer (some ⟨p,0,none⟩)] w fun e w'=>e=.returned (.int .u8 (blV 6 b s))∧w=w':=by
  have hr:=q4b (k:=6) hb hs
  have hF:=fun w=>q22 6 b s w (by omega) hb hs
  rw [show q3c 6=168 by decide] at hF
  generalize blV 6 b s=r at *
  go_enter Tryz.func145,Tryz.ntmps145
  go_wp2_with (first |(go_at_call 168;refine (hF _).mono ?_;rintro e w' ⟨rfl,rfl⟩))
  go_ret
  exact ⟨by rfl,rfl⟩
set_option maxRecDepth 20000 in
set_option maxHeartbeats 2000000 in
theorem v18 (w:World):Calls Tryz.prog 108 #[.int .i64 6] w fun e w'=>e=.returned (.tuple #[.func (.func 145) #[] #[.pointer (some ⟨w.heap.size+1,0,none⟩)],.int .i64 0])∧(w.alloc q26).alloc (.cells #[.func (.func 168) #[] #[]] 112)=w':=by
  have i1:∀ w,(Instr.index 203 (.agg #[.func (.func 161) #[] #[],.func (.func 162) #[] #[],.func (.func 163) #[] #[],.func (.func 164) #[] #[],.func (.func 166) #[] #[],.func (.func 167) #[] #[],.func (.func 168) #[] #[],.func (.func 169) #[] #[],.func (.func 165) #[] #[],.func (.func 170) #[] #[],.func (.func 171) #[] #[],.func (.func 172) #[] #[]]) (.int .i64 6)).run Tryz.prog w=.ok (.func (.func 168) #[] #[]) w:=fun _=>by kernel_rfl
  go_enter Tryz.func108,Tryz.ntmps108
  go_wp2_with (first |(go_at_call 144;refine (q23 _).mono ?_;rintro e w' ⟨rfl,rfl⟩))
  go_ret2
  exact ⟨rfl,rfl⟩
set_option maxRecDepth 20000 in
set_option maxHeartbeats 1000000 in
theorem x8v (b s:Int) (p:Nat) (w:World) (hb:0≤b∧b≤255) (hs:0≤s∧s≤255) (hc:∀ o,w.cell? ⟨p,o,none⟩=#[Value.func (.func 169) #[] #[]][o]?) :
    Calls Tryz.prog 145 #[.int .u8 b,.int .u8 s,.pointer (some ⟨p,0,none⟩)] w fun e w'=>e=.returned (.int .u8 (blV 7 b s))∧w=w':=by
  have hr:=q4b (k:=7) hb hs
  have hF:=fun w=>q22 7 b s w (by omega) hb hs
  rw [show q3c 7=169 by decide] at hF
  generalize blV 7 b s=r at *
  go_enter Tryz.func145,Tryz.ntmps145
  go_wp2_with (first |(go_at_call 169;refine (hF _).mono ?_;rintro e w' ⟨rfl,rfl⟩))
  go_ret
  exact ⟨by rfl,rfl⟩
set_option maxRecDepth 20000 in
set_option maxHeartbeats 2000000 in
theorem v19 (w:World):Calls Tryz.prog 108 #[.int .i64 7] w fun e w'=>e=.returned (.tuple #[.func (.func 145) #[] #[.pointer (some ⟨w.heap.size+1,0,none⟩)],.int .i64 0])∧(w.alloc q26).alloc (.cells #[.func (.func 169) #[] #[]] 112)=w':=by
  have i1:∀ w,(Instr.index 203 (.agg #[.func (.func 161) #[] #[],.func (.func 162) #[] #[],.func (.func 163) #[] #[],.func (.func 164) #[] #[],.func (.func 166) #[] #[],.func (.func 167) #[] #[],.func (.func 168) #[] #[],.func (.func 169) #[] #[],.func (.func 165) #[] #[],.func (.func 170) #[] #[],.func (.func 171) #[] #[],.func (.func 172) #[] #[]]) (.int .i64 7)).run Tryz.prog w=.ok (.func (.func 169) #[] #[]) w:=fun _=>by kernel_rfl
  go_enter Tryz.func108,Tryz.ntmps108
  go_wp2_with (first |(go_at_call 144;refine (q23 _).mono ?_;rintro e w' ⟨rfl,rfl⟩))
  go_ret2
  exact ⟨rfl,rfl⟩
set_option maxRecDepth 20000 in
set_option maxHeartbeats 1000000 in
theorem x8w (b s:Int) (p:Nat) (w:World) (hb:0≤b∧b≤255) (hs:0≤s∧s≤255) (hc:∀ o,w.cell? ⟨p,o,none⟩=#[Value.func (.func 165) #[] #[]][o]?) :
    Calls Tryz.prog 145 #[.int .u8 b,.int .u8 s,.pointer (some ⟨p,0,none⟩)] w fun e w'=>e=.returned (.int .u8 (blV 8 b s))∧w=w':=by
  have hr:=q4b (k:=8) hb hs
  have hF:=fun w=>q22 8 b s w (by omega) hb hs
  rw [show q3c 8=165 by decide] at hF
  generalize blV 8 b s=r at *
  go_enter Tryz.func145,Tryz.ntmps145
  go_wp2_with (first |(go_at_call 165;refine (hF _).mono ?_;rintro e w' ⟨rfl,rfl⟩))
  go_ret
  exact ⟨by rfl,rfl⟩
set_option maxRecDepth 20000 in
set_option maxHeartbeats 2000000 in
theorem v2a (w:World):Calls Tryz.prog 108 #[.int .i64 8] w fun e w'=>e=.returned (.tuple #[.func (.func 145) #[] #[.pointer (some ⟨w.heap.size+1,0,none⟩)],.int .i64 0])∧(w.alloc q26).alloc (.cells #[.func (.func 165) #[] #[]] 112)=w':=by
  have i1:∀ w,(Instr.index 203 (.agg #[.func (.func 161) #[] #[],.func (.func 162) #[] #[],.func (.func 163) #[] #[],.func (.func 164) #[] #[],.func (.func 166) #[] #[],.func (.func 167) #[] #[],.func (.func 168) #[] #[],.func (.func 169) #[] #[],.func (.func 165) #[] #[],.func (.func 170) #[] #[],.func (.func 171) #[] #[],.func (.func 172) #[] #[]]) (.int .i64 8)).run Tryz.prog w=.ok (.func (.func 165) #[] #[]) w:=fun _=>by kernel_rfl
  go_enter Tryz.func108,Tryz.ntmps108
  go_wp2_with (first |(go_at_call 144;refine (q23 _).mono ?_;rintro e w' ⟨rfl,rfl⟩))
  go_ret2
  exact ⟨rfl,rfl⟩
set_option maxRecDepth 20000 in
set_option maxHeartbeats 1000000 in
theorem x8x (b s:Int) (p:Nat) (w:World) (hb:0≤b∧b≤255) (hs:0≤s∧s≤255) (hc:∀ o,w.cell? ⟨p,o,none⟩=#[Value.func (.func 170) #[] #[]][o]?) :
    Calls Tryz.prog 145 #[.int .u8 b,.int .u8 s,.pointer (some ⟨p,0,none⟩)] w fun e w'=>e=.returned (.int .u8 (blV 9 b s))∧w=w':=by
  have hr:=q4b (k:=9) hb hs
  have hF:=fun w=>q22 9 b s w (by omega) hb hs
  rw [show q3c 9=170 by decide] at hF
  generalize blV 9 b s=r at *
  go_enter Tryz.func145,Tryz.ntmps145
  go_wp2_with (first |(go_at_call 170;refine (hF _).mono ?_;rintro e w' ⟨rfl,rfl⟩))
  go_ret
  exact ⟨by rfl,rfl⟩
set_option maxRecDepth 20000 in
set_option maxHeartbeats 2000000 in
theorem v2b (w:World):Calls Tryz.prog 108 #[.int .i64 9] w fun e w'=>e=.returned (.tuple #[.func (.func 145) #[] #[.pointer (some ⟨w.heap.size+1,0,none⟩)],.int .i64 0])∧(w.alloc q26).alloc (.cells #[.func (.func 170) #[] #[]] 112)=w':=by
  have i1:∀ w,(Instr.index 203 (.agg #[.func (.func 161) #[] #[],.func (.func 162) #[] #[],.func (.func 163) #[] #[],.func (.func 164) #[] #[],.func (.func 166) #[] #[],.func (.func 167) #[] #[],.func (.func 168) #[] #[],.func (.func 169) #[] #[],.func (.func 165) #[] #[],.func (.func 170) #[] #[],.func (.func 171) #[] #[],.func (.func 172) #[] #[]]) (.int .i64 9)).run Tryz.prog w=.ok (.func (.func 170) #[] #[]) w:=fun _=>by kernel_rfl
  go_enter Tryz.func108,Tryz.ntmps108
  go_wp2_with (first |(go_at_call 144;refine (q23 _).mono ?_;rintro e w' ⟨rfl,rfl⟩))
  go_ret2
  exact ⟨rfl,rfl⟩
set_option maxRecDepth 20000 in
set_option maxHeartbeats 1000000 in
theorem x6j (b s:Int) (p:Nat) (w:World) (hb:0≤b∧b≤255) (hs:0≤s∧s≤255) (hc:∀ o,w.cell? ⟨p,o,none⟩=#[Value.func (.func 171) #[] #[]][o]?) :
    Calls Tryz.prog 145 #[.int .u8 b,.int .u8 s,.pointer (some ⟨p,0,none⟩)] w fun e w'=>e=.returned (.int .u8 (blV 10 b s))∧w=w':=by
  have hr:=q4b (k:=10) hb hs
  have hF:=fun w=>q22 10 b s w (by omega) hb hs
  rw [show q3c 10=171 by decide] at hF
  generalize blV 10 b s=r at *
  go_enter Tryz.func145,Tryz.ntmps145
  go_wp2_with (first |(go_at_call 171;refine (hF _).mono ?_;rintro e w' ⟨rfl,rfl⟩))
  go_ret
  exact ⟨by rfl,rfl⟩
set_option maxRecDepth 20000 in
set_option maxHeartbeats 2000000 in
theorem v01 (w:World):Calls Tryz.prog 108 #[.int .i64 10] w fun e w'=>e=.returned (.tuple #[.func (.func 145) #[] #[.pointer (some ⟨w.heap.size+1,0,none⟩)],.int .i64 0])∧(w.alloc q26).alloc (.cells #[.func (.func 171) #[] #[]] 112)=w':=by
  have i1:∀ w,(Instr.index 203 (.agg #[.func (.func 161) #[] #[],.func (.func 162) #[] #[],.func (.func 163) #[] #[],.func (.func 164) #[] #[],.func (.func 166) #[] #[],.func (.func 167) #[] #[],.func (.func 168) #[] #[],.func (.func 169) #[] #[],.func (.func 165) #[] #[],.func (.func 170) #[] #[],.func (.func 171) #[] #[],.func (.func 172) #[] #[]]) (.int .i64 10)).run Tryz.prog w=.ok (.func (.func 171) #[] #[]) w:=fun _=>by kernel_rfl
  go_enter Tryz.func108,Tryz.ntmps108
  go_wp2_with (first |(go_at_call 144;refine (q23 _).mono ?_;rintro e w' ⟨rfl,rfl⟩))
  go_ret2
  exact ⟨rfl,rfl⟩
set_option maxRecDepth 20000 in
set_option maxHeartbeats 1000000 in
theorem x6k (b s:Int) (p:Nat) (w:World) (hb:0≤b∧b≤255) (hs:0≤s∧s≤255) (hc:∀ o,w.cell? ⟨p,o,none⟩=#[Value.func (.func 172) #[] #[]][o]?) :
    Calls Tryz.prog 145 #[.int .u8 b,.int .u8 s,.pointer (some ⟨p,0,none⟩)] w fun e w'=>e=.returned (.int .u8 (blV 11 b s))∧w=w':=by
  have hr:=q4b (k:=11) hb hs
  have hF:=fun w=>q22 11 b s w (by omega) hb hs
  rw [show q3c 11=172 by decide] at hF
  generalize blV 11 b s=r at *
  go_enter Tryz.func145,Tryz.ntmps145
  go_wp2_with (first |(go_at_call 172;refine (hF _).mono ?_;rintro e w' ⟨rfl,rfl⟩))
  go_ret
  exact ⟨by rfl,rfl⟩
set_option maxRecDepth 20000 in
set_option maxHeartbeats 2000000 in
theorem v02 (w:World):Calls Tryz.prog 108 #[.int .i64 11] w fun e w'=>e=.returned (.tuple #[.func (.func 145) #[] #[.pointer (some ⟨w.heap.size+1,0,none⟩)],.int .i64 0])∧(w.alloc q26).alloc (.cells #[.func (.func 172) #[] #[]] 112)=w':=by
  have i1:∀ w,(Instr.index 203 (.agg #[.func (.func 161) #[] #[],.func (.func 162) #[] #[],.func (.func 163) #[] #[],.func (.func 164) #[] #[],.func (.func 166) #[] #[],.func (.func 167) #[] #[],.func (.func 168) #[] #[],.func (.func 169) #[] #[],.func (.func 165) #[] #[],.func (.func 170) #[] #[],.func (.func 171) #[] #[],.func (.func 172) #[] #[]]) (.int .i64 11)).run Tryz.prog w=.ok (.func (.func 172) #[] #[]) w:=fun _=>by kernel_rfl
  go_enter Tryz.func108,Tryz.ntmps108
  go_wp2_with (first |(go_at_call 144;refine (q23 _).mono ?_;rintro e w' ⟨rfl,rfl⟩))
  go_ret2
  exact ⟨rfl,rfl⟩
theorem x4r (k b s:Int) (p:Nat) (w:World) (hk:0≤k∧k≤11) (hb:0≤b∧b≤255) (hs:0≤s∧s≤255) (hc:∀ o,w.cell? ⟨p,o,none⟩=#[Value.func (.func (q3c k)) #[] #[]][o]?) :
    Calls Tryz.prog 145 #[.int .u8 b,.int .u8 s,.pointer (some ⟨p,0,none⟩)] w fun e w'=>e=.returned (.int .u8 (blV k b s))∧w=w':=by
  have:k=0∨k=1∨k=2∨k=3∨k=4∨k=5∨k=6∨k=7∨k=8∨k=9∨k=10∨k=11:=by omega
  rcases this with rfl |rfl |rfl |rfl |rfl |rfl |rfl |rfl |rfl |rfl |rfl |rfl
  · exact x8o b s p w hb hs hc
  · exact x8p b s p w hb hs hc
  · exact x8q b s p w hb hs hc
  · exact x8r b s p w hb hs hc
  · exact x8s b s p w hb hs hc
  · exact x8t b s p w hb hs hc
  · exact x8u b s p w hb hs hc
  · exact x8v b s p w hb hs hc
  · exact x8w b s p w hb hs hc
  · exact x8x b s p w hb hs hc
  · exact x6j b s p w hb hs hc
  · exact x6k b s p w hb hs hc
theorem x8y (k:Int) (w:World) (hk:0≤k∧k≤11):Calls Tryz.prog 108 #[.int .i64 k] w fun e w'=>e=.returned (.tuple #[.func (.func 145) #[] #[.pointer (some ⟨w.heap.size+1,0,none⟩)],.int .i64 0])∧(w.alloc q26).alloc (.cells #[.func (.func (q3c k)) #[] #[]] 112)=w':=by
  have:k=0∨k=1∨k=2∨k=3∨k=4∨k=5∨k=6∨k=7∨k=8∨k=9∨k=10∨k=11:=by omega
  rcases this with rfl |rfl |rfl |rfl |rfl |rfl |rfl |rfl |rfl |rfl |rfl |rfl
  · exact v12 w
  · exact v13 w
  · exact v14 w
  · exact v15 w
  · exact v16 w
  · exact v17 w
  · exact v18 w
  · exact v19 w
  · exact v2a w
  · exact v2b w
  · exact v01 w
  · exact v02 w
end Go.Proofs.YtkicdhaklnmonaaGreat
