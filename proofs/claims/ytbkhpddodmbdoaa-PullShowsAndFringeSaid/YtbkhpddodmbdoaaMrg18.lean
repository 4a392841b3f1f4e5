/-
  Merged: XDilateLaw, XPullLaw, XPullI, XSamePcs.
-/
import Derived.Test.YtbkhpddodmbdoaaMrg5
import Derived.Test.YtbkhpddodmbdoaaMrg10
import Derived.Test.YtbkhpddodmbdoaaMrg17
import Derived.Test.YtbkhpddodmbdoaaMrg15
import Derived.Test.YtbkhpddodmbdoaaMrg14
import Derived.Test.YtbkhpddodmbdoaaGatW
import Derived.Test.YtbkhpddodmbdoaaMrg6
set_option linter.unusedVariables false
set_option linter.unusedSimpArgs false
set_option linter.unnecessarySimpa false
namespace Go.Proofs.Ytbkhpddodmbdoaa
open Go.RowKit
def q7z (w:Int) (r:Run):Run:=⟨r.y,max (r.x0-w) (-8192),min (r.x1+w) 8192⟩
def q95 (w:Int) (L:List Run) (i:Nat):List Run:=jn [] ((L.map (q7z w)).take i)
abbrev q62 (w:Int) (L:List Run):List Run:=jn [] (L.map (q7z w))
theorem x0r {w:Int} {L:List Run} {i:Nat} {r:Run} (h:L[i]? = some r):q95 w L (i+1)=addR (q95 w L i) r.y (max (r.x0-w) (-8192)) (min (r.x1+w) 8192) :=
  z9o (L:=L.map (q7z w)) (r:=q7z w r) (by rw [List.getElem?_map,h];rfl)
theorem z1c (w:Int) (L:List Run):q95 w L L.length=q62 w L:=by
  unfold q95;rw [List.take_of_length_le (by simp)]
theorem z1d (w:Int) (L:List Run) (i:Nat):(q95 w L i).length≤L.length:=by
  have:=z3v ((L.map (q7z w)).take i) []
  rw [List.length_take,List.length_map] at this
  unfold q95
  simp only [List.length_nil] at this
  omega
def z6q (w:Int) (s:Run) (k:Nat):Run:=⟨max (s.y-w) (-8192)+k,s.x0,s.x1⟩
def q6m (w:Int) (s:Run) (n:Nat):List Run:=(List.range n).map (z6q w s)
def numC (w:Int) (s:Run):Nat:=(min (s.y+w) 8191+1-max (s.y-w) (-8192)).toNat
def allC (w:Int) (W:List Run) (i:Nat):List Run:=(W.take i).flatMap fun s=>q6m w s (numC w s)
theorem z8u (w:Int) (s:Run) (n:Nat):q6m w s (n+1)=q6m w s n++[z6q w s n]:=by
  unfold q6m;rw [List.range_succ,List.map_append];rfl
theorem z38 (w:Int) (s:Run) (n:Nat):(q6m w s n).length=n:=by simp [q6m]
theorem z51 {w:Int} {W:List Run} {i:Nat} {s:Run} (h:W[i]? = some s):allC w W (i+1)=allC w W i++q6m w s (numC w s):=by
  unfold allC;rw [List.take_add_one,h,Option.toList_some,List.flatMap_append];simp
theorem z9y {w:Int} (hw:0≤w∧w≤64) (s:Run):numC w s≤129:=by unfold numC;omega
theorem q96 {w:Int} (hw:0≤w∧w≤64) (W:List Run):∀ i,(allC w W i).length≤i*129
  | 0=>by simp [allC]
  | i+1=>by
    have h:=q96 hw W i
    rcases Nat.lt_or_ge i W.length with h1 |h1
    · rw [z51 (List.getElem?_eq_getElem h1),List.length_append,z38]
      have:=z9y hw W[i]
      omega
    · have e:allC w W (i+1)=allC w W i:=by unfold allC;rw [List.take_of_length_le h1,List.take_of_length_le (by omega)]
      rw [e];omega
def z6r (w:Int) (L:List Run) (x y:Int):Prop:=(-8192≤y∧y≤8191)∧∃ r∈L,(y-w≤r.y∧r.y≤y+w)∧max (r.x0-w) (-8192)≤x∧x<min (r.x1+w) 8192
theorem x3z {w:Int} {L:List Run} (h:okR L):(L.map (q7z w)).Pairwise leR:=by
  rw [List.pairwise_map]
  refine (x5n h).imp fun {a b} hab=>?_
  unfold leR q7z at *
  simp only
  omega
theorem z11 {w:Int} {L:List Run} (h:okR L):okR (q62 w L)∧∀ x y,hasR (q62 w L) x y↔∃ r∈L,r.y=y∧max (r.x0-w) (-8192)≤x∧x<min (r.x1+w) 8192:=by
  obtain ⟨h1,h2⟩:=z6p (L.map (q7z w)) [] trivial (by simp) (x3z h)
  refine ⟨h1,fun x y=>?_⟩
  rw [h2]
  constructor
  · rintro (h3 |⟨q,hq,h3,h4,h5⟩)
    · exact absurd h3 q28
    · obtain ⟨r,hr,rfl⟩:=List.mem_map.1 hq
      exact ⟨r,hr,h3,h4,h5⟩
  · rintro ⟨r,hr,h3,h4,h5⟩
    exact .inr ⟨q7z w r,List.mem_map.2 ⟨r,hr,rfl⟩,h3,h4,h5⟩
theorem x0s {w:Int} {W:List Run} {x y:Int}:hasR (allC w W W.length) x y↔(-8192≤y∧y≤8191)∧∃ s∈W,(y-w≤s.y∧s.y≤y+w)∧s.x0≤x∧x<s.x1:=by
  unfold allC
  rw [List.take_length]
  constructor
  · rintro ⟨q,hq,h1,h2,h3⟩
    obtain ⟨s,hs,hq⟩:=List.mem_flatMap.1 hq
    obtain ⟨k,hk,rfl⟩:=List.mem_map.1 hq
    rw [List.mem_range] at hk
    unfold numC at hk
    have h1':max (s.y-w) (-8192)+(k:Int)=y:=h1
    exact ⟨by omega,s,hs,by omega,h2,h3⟩
  · rintro ⟨hy,s,hs,h1,h2,h3⟩
    refine ⟨z6q w s (y-max (s.y-w) (-8192)).toNat,List.mem_flatMap.2 ⟨s,hs,List.mem_map.2 ⟨_,List.mem_range.2 (by unfold numC;omega),rfl⟩⟩,?_,h2,h3⟩
    show max (s.y-w) (-8192)+(((y-max (s.y-w) (-8192)).toNat:Nat):Int)=y
    omega
abbrev dilD (w:Int) (L:List Run):List Run:=allC w (q62 w L) (q62 w L).length
theorem z1e {w:Int} {L:List Run} (h:okR L) {x y:Int}:hasR (dilD w L) x y↔z6r w L x y:=by
  rw [x0s]
  unfold z6r
  refine and_congr Iff.rfl ?_
  have key:∀ z,(∃ s∈q62 w L,s.y=z∧s.x0≤x∧x<s.x1)↔∃ r∈L,r.y=z∧max (r.x0-w) (-8192)≤x∧x<min (r.x1+w) 8192:=fun z=>(z11 h).2 x z
  constructor
  · rintro ⟨s,hs,h1,h2⟩
    obtain ⟨r,hr,h3,h4⟩:=(key s.y).1 ⟨s,hs,rfl,h2⟩
    exact ⟨r,hr,by omega,h4⟩
  · rintro ⟨r,hr,h1,h2⟩
    obtain ⟨s,hs,h3,h4⟩:=(key r.y).2 ⟨r,hr,rfl,h2⟩
    exact ⟨s,hs,by omega,h4⟩
open Classical in
theorem x4o (L:List Run):∀ (M:List Run),okR M→(∀ r∈L,r.x0<r.x1)→∃ N,okR N∧∀ x y,hasR N x y↔hasR M x y∨hasR L x y:=fun M hM hL=>by
  have:∃ P:List Run,P.Perm (M++L)∧P.Pairwise leR:=by
    refine ⟨(M++L).mergeSort (fun r s=>decide (leR r s)),List.mergeSort_perm _ _,?_⟩
    have:=List.pairwise_mergeSort (le:=fun r s=>decide (leR r s)) (fun a b c h1 h2=>by
      simp only [decide_eq_true_eq] at *;unfold leR at *;omega) (fun a b=>by
      simp only [Bool.or_eq_true,decide_eq_true_eq];unfold leR;omega) (M++L)
    exact this.imp fun h=>by simpa using h
  obtain ⟨P,h1,h2⟩:=this
  obtain ⟨h3,h4⟩:=z6p P [] trivial (by simp) h2
  refine ⟨jn [] P,h3,fun x y=>?_⟩
  rw [h4,z5p h1,q37]
  exact ⟨fun h=>h.resolve_left q28,.inr⟩
theorem z9z {w:Int} {L:List Run} (h:okR L):∀ r∈dilD w L,r.x0<r.x1:=fun r hr=>by
  obtain ⟨s,hs,hq⟩:=List.mem_flatMap.1 hr
  obtain ⟨k,hk,rfl⟩:=List.mem_map.1 hq
  rw [List.take_length] at hs
  exact q2v (r:=s) (z11 h).1 hs
theorem z52 {w:Int} {L:List Run} (v:ValidL L):okR (q4v (dilD w L))∧∀ x y,hasR (q4v (dilD w L)) x y↔z6r w L x y:=by
  obtain ⟨N,h1,h2⟩:=x4o (dilD w L) [] trivial (z9z v.ok)
  have e:q4v (dilD w L)=N:=z2r h1 fun u v=>by rw [h2];exact ⟨fun h=>h.resolve_left q28,.inr⟩
  rw [e]
  refine ⟨h1,fun x y=>?_⟩
  rw [h2,z1e v.ok]
  exact ⟨fun h=>h.resolve_left q28,.inr⟩
theorem x5o {w:Int} (hw:0≤w∧w≤64) {L:List Run} (v:ValidL L):∀ r∈dilD w L,(-8192≤r.y∧r.y≤8191)∧-8192≤r.x0∧r.x0<r.x1∧r.x1≤8192:=fun r hr=>by
  have hx:=z9z v.ok r hr
  have h0:=(z1e (w:=w) v.ok).1 ⟨r,hr,rfl,Int.le_refl _,hx⟩
  have h1:=(z1e (w:=w) v.ok).1 ⟨r,hr,rfl,(by omega:r.x0≤r.x1-1),by omega⟩
  obtain ⟨h2,q,hq,h3,h4⟩:=h0
  obtain ⟨_,q',hq',h3',h4'⟩:=h1
  omega
end Go.Proofs.Ytbkhpddodmbdoaa
namespace Go.Proofs.Ytbkhpddodmbdoaa
open Go.RowKit
theorem x2i {w:Int} {L:List Run} (hw:0≤w) (h:okR L) {x y:Int} (hx:-8192≤x∧x≤8191) (hy:-8192≤y∧y≤8191):z6r w L x y↔∃ u v,hasR L u v∧(y-w≤v∧v≤y+w)∧(x-w≤u∧u≤x+w):=by
  constructor
  · rintro ⟨_,r,hr,h1,h2,h3⟩
    have h4:=q2v h hr
    exact ⟨max r.x0 (min x (r.x1-1)),r.y,⟨r,hr,rfl,by omega,by omega⟩,h1,by omega,by omega⟩
  · rintro ⟨u,v,⟨r,hr,rfl,h2,h3⟩,h4,h5⟩
    exact ⟨hy,r,hr,h4,by omega,by omega⟩
def keyV (key:Nat):List Int:=zero8.set key 255
def x0t (c:Nat→List Int) (near:Nat→Bool) (key i:Nat):List Int:=if near i=true∧(c i)[key]? = some 255 then keyV key else c i
theorem z76 {w h:Int} {W N:Nat} (hw:0<w) (hW:(W:Int)=16*w) (hN:(N:Int)=(16*h)*(16*w)) {x y:Int} (hx:0≤x∧x<16*w) (hy:0≤y∧y<16*h):∃ j,j<N∧x=((j%W:Nat):Int)∧y=((j/W:Nat):Int)∧(j:Int)=y*(16*w)+x:=by
  have hW0:0<W:=by omega
  obtain ⟨a,rfl⟩:∃ a:Nat,x=a:=⟨x.toNat,by omega⟩
  obtain ⟨b,rfl⟩:∃ b:Nat,y=b:=⟨y.toNat,by omega⟩
  have ha:a<W:=by omega
  have e:((W*b:Nat):Int)=(b:Int)*(16*w):=by rw [Int.natCast_mul,hW,Int.mul_comm]
  refine ⟨a+W*b,?_,?_,?_,?_⟩
  · have h1:((b:Int)+1)*W≤(16*h)*W:=Int.mul_le_mul_of_nonneg_right (by omega) (by omega)
    rw [hW,← hN] at h1
    have e2:((b:Int)+1)*(16*w)=(b:Int)*(16*w)+16*w:=by rw [Int.add_mul,Int.one_mul]
    have h2:((a+W*b:Nat):Int)<N:=by omega
    omega
  · rw [Nat.add_mul_mod_self_left,Nat.mod_eq_of_lt ha]
  · rw [Nat.add_mul_div_left _ _ hW0,Nat.div_eq_of_lt ha];omega
  · omega
theorem z90 {w h:Int} {W N:Nat} (hw:0<w) (hW:(W:Int)=16*w) (hN:(N:Int)=(16*h)*(16*w)) {j:Nat} (hj:j<N):(((j%W:Nat):Int)<16*w)∧((j/W:Nat):Int)<16*h:=by
  have hW0:0<W:=by omega
  refine ⟨by have:=Nat.mod_lt j hW0;omega,?_⟩
  have e:=Nat.div_add_mod j W
  rcases Int.lt_or_le ((j/W:Nat):Int) (16*h) with h1 |h1
  · exact h1
  · exfalso
    have h2:(16*h)*W≤((j/W:Nat):Int)*W:=Int.mul_le_mul_of_nonneg_right h1 (by omega)
    have h3:((j/W:Nat):Int)*W=((W*(j/W):Nat):Int):=by rw [Int.natCast_mul,Int.mul_comm]
    rw [h3,hW,← hN] at h2
    omega
end Go.Proofs.Ytbkhpddodmbdoaa
namespace Go.Proofs.Ytbkhpddodmbdoaa
open Go.RowKit
def keyF (key j:Nat):Int:=if j=key then 255 else 0
def q5z (J:Nat→Nat→Int) (f:Nat→Bool) (key i:Nat):Nat→Int:=if f i=true∧J i key=255 then keyF key else J i
theorem lt8 {k:Nat} (h:k<8):k=0∨k=1∨k=2∨k=3∨k=4∨k=5∨k=6∨k=7:=by omega
theorem z2u {I:Nat→Int} {k:Nat} (h:k<8):(vecI I)[k]? = some (I k):=by
  rcases lt8 h with rfl |rfl |rfl |rfl |rfl |rfl |rfl |rfl <;> rfl
theorem z91 {I:Nat→Int} {k:Nat} (h:k<8):(inkC I)[k]? = some (.int .u8 (I k)):=by
  rcases lt8 h with rfl |rfl |rfl |rfl |rfl |rfl |rfl |rfl <;> rfl
theorem x2j {k:Nat} (h:k<8):vecI (keyF k)=keyV k:=by
  rcases lt8 h with rfl |rfl |rfl |rfl |rfl |rfl |rfl |rfl <;> rfl
theorem x48 {k:Nat} (h:k<8):(inkC (fun _=>0)).take k++[.int .u8 255]++(inkC (fun _=>0)).drop (k+1)=inkC (keyF k):=by
  rcases lt8 h with rfl |rfl |rfl |rfl |rfl |rfl |rfl |rfl <;> rfl
theorem x2k {J:Nat→Nat→Int} {f:Nat→Bool} {key:Nat} (h:key<8) (i:Nat):vecI (q5z J f key i)=x0t (fun i=>vecI (J i)) f key i:=by
  unfold q5z x0t
  rw [z2u h]
  by_cases h1:f i=true∧J i key=255
  · rw [if_pos h1,if_pos ⟨h1.1,by rw [h1.2]⟩,x2j h]
  · rw [if_neg h1,if_neg fun h2=>h1 ⟨h2.1,by simpa using h2.2⟩]
theorem z8v {J:Nat→Nat→Int} {f g:Nat→Bool} {key i:Nat} (h:f i=g i):q5z J f key i=q5z J g key i:=by unfold q5z;rw [h]
theorem x0u {J:Nat→Nat→Int} {f:Nat→Bool} {key i:Nat} (h:f i=false):q5z J f key i=J i:=by unfold q5z;rw [h];simp
theorem x2l {J:Nat→Nat→Int} {f:Nat→Bool} {key i:Nat} (h:J i key≠255):q5z J f key i=J i:=by unfold q5z;rw [if_neg fun k=>h k.2]
theorem x30 {C:Nat→Nat→Int} {N i key o:Nat} (hi:i<N) (hk:key<8) (ho:o=key) :
    (q0p (fun y=>if y=i then inkC (fun _=>0) else inkC (C y)) N).take (i*8+o)++[.int .u8 255]++(q0p (fun y=>if y=i then inkC (fun _=>0) else inkC (C y)) N).drop (i*8+o+1)=q0p (fun y=>if y=i then inkC (keyF key) else inkC (C y)) N:=by
  subst ho
  have h:=q8j (c:=fun y=>if y=i then inkC (fun _=>0) else inkC (C y)) (sz:=8) (n:=N) (x:=i) (o:=o) (vs:=[.int .u8 255]) (fun y _=>by split <;> rfl) hi (by simp;omega)
  rw [List.length_singleton] at h
  rw [h]
  refine q2d fun y hy=>?_
  by_cases e:y=i
  · subst e
    simp only [if_true]
    exact x48 hk
  · simp only [if_neg e]
theorem x31 {C:Nat→Nat→Int} {N i:Nat} (hi:i<N):(q0p (fun y=>inkC (C y)) N).take (i*8+0)++inkC (fun _=>0)++(q0p (fun y=>inkC (C y)) N).drop (i*8+0+(inkC (fun _=>0)).length)=q0p (fun y=>if y=i then inkC (fun _=>0) else inkC (C y)) N:=by
  rw [q8j (sz:=8) (fun _ _=>rfl) hi (Nat.le_refl _)]
  rfl
end Go.Proofs.Ytbkhpddodmbdoaa
namespace Go.Proofs.Ytbkhpddodmbdoaa
open Go.RowKit
set_option maxRecDepth 20000
theorem z53 {c d:Nat→List Int} {W:Nat}:∀ {i:Nat},(∀ j,j<i→c j=d j)→gat c W i=gat d W i
  | 0,_=>rfl
  | i+1,h=>by
    unfold gat
    rw [z53 (i:=i) (fun j hj=>h j (by omega)),h i (by omega)]
end Go.Proofs.Ytbkhpddodmbdoaa
