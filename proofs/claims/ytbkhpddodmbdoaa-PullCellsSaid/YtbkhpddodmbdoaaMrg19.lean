/-
  Merged: XDilateLaw, XPullLaw, XPullI, XSamePcs.
-/
import Derived.Test.YtbkhpddodmbdoaaMrg5
import Derived.Test.YtbkhpddodmbdoaaMrg10
import Derived.Test.YtbkhpddodmbdoaaMrg18
import Derived.Test.YtbkhpddodmbdoaaMrg16
import Derived.Test.YtbkhpddodmbdoaaMrg15
import Derived.Test.YtbkhpddodmbdoaaGatW
import Derived.Test.YtbkhpddodmbdoaaFreeze
set_option linter.unusedVariables false
set_option linter.unusedSimpArgs false
set_option linter.unnecessarySimpa false
namespace Go.Proofs.Ytbkhpddodmbdoaa
open Go.RowKit
def q7u (w:Int) (r:Run):Run:=⟨r.y,max (r.x0-w) (-8192),min (r.x1+w) 8192⟩
def q90 (w:Int) (L:List Run) (i:Nat):List Run:=jn [] ((L.map (q7u w)).take i)
abbrev q6v (w:Int) (L:List Run):List Run:=jn [] (L.map (q7u w))
theorem x0z {w:Int} {L:List Run} {i:Nat} {r:Run} (h:L[i]? = some r):q90 w L (i+1)=addR (q90 w L i) r.y (max (r.x0-w) (-8192)) (min (r.x1+w) 8192) :=
  z9y (L:=L.map (q7u w)) (r:=q7u w r) (by rw [List.getElem?_map,h];rfl)
theorem z08 (w:Int) (L:List Run):q90 w L L.length=q6v w L:=by
  unfold q90;rw [List.take_of_length_le (by simp)]
theorem z09 (w:Int) (L:List Run) (i:Nat):(q90 w L i).length≤L.length:=by
  have:=z3o ((L.map (q7u w)).take i) []
  rw [List.length_take,List.length_map] at this
  unfold q90
  simp only [List.length_nil] at this
  omega
def z6u (w:Int) (s:Run) (k:Nat):Run:=⟨max (s.y-w) (-8192)+k,s.x0,s.x1⟩
def q6f (w:Int) (s:Run) (n:Nat):List Run:=(List.range n).map (z6u w s)
def numC (w:Int) (s:Run):Nat:=(min (s.y+w) 8191+1-max (s.y-w) (-8192)).toNat
def allC (w:Int) (W:List Run) (i:Nat):List Run:=(W.take i).flatMap fun s=>q6f w s (numC w s)
theorem z86 (w:Int) (s:Run) (n:Nat):q6f w s (n+1)=q6f w s n++[z6u w s n]:=by
  unfold q6f;rw [List.range_succ,List.map_append];rfl
theorem z3y (w:Int) (s:Run) (n:Nat):(q6f w s n).length=n:=by simp [q6f]
theorem z53 {w:Int} {W:List Run} {i:Nat} {s:Run} (h:W[i]? = some s):allC w W (i+1)=allC w W i++q6f w s (numC w s):=by
  unfold allC;rw [List.take_add_one,h,Option.toList_some,List.flatMap_append];simp
theorem z97 {w:Int} (hw:0≤w∧w≤64) (s:Run):numC w s≤129:=by unfold numC;omega
theorem q91 {w:Int} (hw:0≤w∧w≤64) (W:List Run):∀ i,(allC w W i).length≤i*129
  | 0=>by simp [allC]
  | i+1=>by
    have h:=q91 hw W i
    rcases Nat.lt_or_ge i W.length with h1 |h1
    · rw [z53 (List.getElem?_eq_getElem h1),List.length_append,z3y]
      have:=z97 hw W[i]
      omega
    · have e:allC w W (i+1)=allC w W i:=by unfold allC;rw [List.take_of_length_le h1,List.take_of_length_le (by omega)]
      rw [e];omega
def z3z (w:Int) (L:List Run) (x y:Int):Prop:=(-8192≤y∧y≤8191)∧∃ r∈L,(y-w≤r.y∧r.y≤y+w)∧max (r.x0-w) (-8192)≤x∧x<min (r.x1+w) 8192
theorem x4f {w:Int} {L:List Run} (h:okR L):(L.map (q7u w)).Pairwise leR:=by
  rw [List.pairwise_map]
  refine (x53 h).imp fun {a b} hab=>?_
  unfold leR q7u at *
  simp only
  omega
theorem z1u {w:Int} {L:List Run} (h:okR L):okR (q6v w L)∧∀ x y,hasR (q6v w L) x y↔∃ r∈L,r.y=y∧max (r.x0-w) (-8192)≤x∧x<min (r.x1+w) 8192:=by
  obtain ⟨h1,h2⟩:=z6t (L.map (q7u w)) [] trivial (by simp) (x4f h)
  refine ⟨h1,fun x y=>?_⟩
  rw [h2]
  constructor
  · rintro (h3 |⟨q,hq,h3,h4,h5⟩)
    · exact absurd h3 q26
    · obtain ⟨r,hr,rfl⟩:=List.mem_map.1 hq
      exact ⟨r,hr,h3,h4,h5⟩
  · rintro ⟨r,hr,h3,h4,h5⟩
    exact .inr ⟨q7u w r,List.mem_map.2 ⟨r,hr,rfl⟩,h3,h4,h5⟩
theorem x00 {w:Int} {W:List Run} {x y:Int}:hasR (allC w W W.length) x y↔(-8192≤y∧y≤8191)∧∃ s∈W,(y-w≤s.y∧s.y≤y+w)∧s.x0≤x∧x<s.x1:=by
  unfold allC
  rw [List.take_length]
  constructor
  · rintro ⟨q,hq,h1,h2,h3⟩
    obtain ⟨s,hs,hq⟩:=List.mem_flatMap.1 hq
    obtain ⟨k,hk,rfl⟩:=List.mem_map.1 hq
    rw [List.mem_range] at hk
    unfold numC at hk
    have h1':max (s.y-w) (-8192)+(k:Int)=y:=h1
    exact ⟨by omega,s,hs,by omega,h2,h3⟩
  · rintro ⟨hy,s,hs,h1,h2,h3⟩
    refine ⟨z6u w s (y-max (s.y-w) (-8192)).toNat,List.mem_flatMap.2 ⟨s,hs,List.mem_map.2 ⟨_,List.mem_range.2 (by unfold numC;omega),rfl⟩⟩,?_,h2,h3⟩
    show max (s.y-w) (-8192)+(((y-max (s.y-w) (-8192)).toNat:Nat):Int)=y
    omega
abbrev dilD (w:Int) (L:List Run):List Run:=allC w (q6v w L) (q6v w L).length
theorem z1a {w:Int} {L:List Run} (h:okR L) {x y:Int}:hasR (dilD w L) x y↔z3z w L x y:=by
  rw [x00]
  unfold z3z
  refine and_congr Iff.rfl ?_
  have key:∀ z,(∃ s∈q6v w L,s.y=z∧s.x0≤x∧x<s.x1)↔∃ r∈L,r.y=z∧max (r.x0-w) (-8192)≤x∧x<min (r.x1+w) 8192:=fun z=>(z1u h).2 x z
  constructor
  · rintro ⟨s,hs,h1,h2⟩
    obtain ⟨r,hr,h3,h4⟩:=(key s.y).1 ⟨s,hs,rfl,h2⟩
    exact ⟨r,hr,by omega,h4⟩
  · rintro ⟨r,hr,h1,h2⟩
    obtain ⟨s,hs,h3,h4⟩:=(key r.y).2 ⟨r,hr,rfl,h2⟩
    exact ⟨s,hs,by omega,h4⟩
open Classical in
theorem x44 (L:List Run):∀ (M:List Run),okR M→(∀ r∈L,r.x0<r.x1)→∃ N,okR N∧∀ x y,hasR N x y↔hasR M x y∨hasR L x y:=fun M hM hL=>by
  have:∃ P:List Run,P.Perm (M++L)∧P.Pairwise leR:=by
    refine ⟨(M++L).mergeSort (fun r s=>decide (leR r s)),List.mergeSort_perm _ _,?_⟩
    have:=List.pairwise_mergeSort (le:=fun r s=>decide (leR r s)) (fun a b c h1 h2=>by
      simp only [decide_eq_true_eq] at *;unfold leR at *;omega) (fun a b=>by
      simp only [Bool.or_eq_true,decide_eq_true_eq];unfold leR;omega) (M++L)
    exact this.imp fun h=>by simpa using h
  obtain ⟨P,h1,h2⟩:=this
  obtain ⟨h3,h4⟩:=z6t P [] trivial (by simp) h2
  refine ⟨jn [] P,h3,fun x y=>?_⟩
  rw [h4,z5r h1,q36]
  exact ⟨fun h=>h.resolve_left q26,.inr⟩
theorem z98 {w:Int} {L:List Run} (h:okR L):∀ r∈dilD w L,r.x0<r.x1:=fun r hr=>by
  obtain ⟨s,hs,hq⟩:=List.mem_flatMap.1 hr
  obtain ⟨k,hk,rfl⟩:=List.mem_map.1 hq
  rw [List.take_length] at hs
  exact q2t (r:=s) (z1u h).1 hs
theorem z1b {w:Int} {L:List Run} (v:ValidL L):okR (q4t (dilD w L))∧∀ x y,hasR (q4t (dilD w L)) x y↔z3z w L x y:=by
  obtain ⟨N,h1,h2⟩:=x44 (dilD w L) [] trivial (z98 v.ok)
  have e:q4t (dilD w L)=N:=z2j h1 fun u v=>by rw [h2];exact ⟨fun h=>h.resolve_left q26,.inr⟩
  rw [e]
  refine ⟨h1,fun x y=>?_⟩
  rw [h2,z1a v.ok]
  exact ⟨fun h=>h.resolve_left q26,.inr⟩
theorem x54 {w:Int} (hw:0≤w∧w≤64) {L:List Run} (v:ValidL L):∀ r∈dilD w L,(-8192≤r.y∧r.y≤8191)∧-8192≤r.x0∧r.x0<r.x1∧r.x1≤8192:=fun r hr=>by
  have hx:=z98 v.ok r hr
  have h0:=(z1a (w:=w) v.ok).1 ⟨r,hr,rfl,Int.le_refl _,hx⟩
  have h1:=(z1a (w:=w) v.ok).1 ⟨r,hr,rfl,(by omega:r.x0≤r.x1-1),by omega⟩
  obtain ⟨h2,q,hq,h3,h4⟩:=h0
  obtain ⟨_,q',hq',h3',h4'⟩:=h1
  omega
end Go.Proofs.Ytbkhpddodmbdoaa
namespace Go.Proofs.Ytbkhpddodmbdoaa
open Go.RowKit
theorem z54 {w:Int} {L:List Run} (hw:0≤w) (h:okR L) {x y:Int} (hx:-8192≤x∧x≤8191) (hy:-8192≤y∧y≤8191):z3z w L x y↔∃ u v,hasR L u v∧(y-w≤v∧v≤y+w)∧(x-w≤u∧u≤x+w):=by
  constructor
  · rintro ⟨_,r,hr,h1,h2,h3⟩
    have h4:=q2t h hr
    exact ⟨max r.x0 (min x (r.x1-1)),r.y,⟨r,hr,rfl,by omega,by omega⟩,h1,by omega,by omega⟩
  · rintro ⟨u,v,⟨r,hr,rfl,h2,h3⟩,h4,h5⟩
    exact ⟨hy,r,hr,h4,by omega,by omega⟩
def keyV (key:Nat):List Int:=zero8.set key 255
def x01 (c:Nat→List Int) (near:Nat→Bool) (key i:Nat):List Int:=if near i=true∧(c i)[key]? = some 255 then keyV key else c i
theorem z8d {w h:Int} {W N:Nat} (hw:0<w) (hW:(W:Int)=16*w) (hN:(N:Int)=(16*h)*(16*w)) {x y:Int} (hx:0≤x∧x<16*w) (hy:0≤y∧y<16*h):∃ j,j<N∧x=((j%W:Nat):Int)∧y=((j/W:Nat):Int)∧(j:Int)=y*(16*w)+x:=by
  have hW0:0<W:=by omega
  obtain ⟨a,rfl⟩:∃ a:Nat,x=a:=⟨x.toNat,by omega⟩
  obtain ⟨b,rfl⟩:∃ b:Nat,y=b:=⟨y.toNat,by omega⟩
  have ha:a<W:=by omega
  have e:((W*b:Nat):Int)=(b:Int)*(16*w):=by rw [Int.natCast_mul,hW,Int.mul_comm]
  refine ⟨a+W*b,?_,?_,?_,?_⟩
  · have h1:((b:Int)+1)*W≤(16*h)*W:=Int.mul_le_mul_of_nonneg_right (by omega) (by omega)
    rw [hW,← hN] at h1
    have e2:((b:Int)+1)*(16*w)=(b:Int)*(16*w)+16*w:=by rw [Int.add_mul,Int.one_mul]
    have h2:((a+W*b:Nat):Int)<N:=by omega
    omega
  · rw [Nat.add_mul_mod_self_left,Nat.mod_eq_of_lt ha]
  · rw [Nat.add_mul_div_left _ _ hW0,Nat.div_eq_of_lt ha];omega
  · omega
theorem q6o {w h:Int} {W N:Nat} (hw:0<w) (hW:(W:Int)=16*w) (hN:(N:Int)=(16*h)*(16*w)) {j:Nat} (hj:j<N):(((j%W:Nat):Int)<16*w)∧((j/W:Nat):Int)<16*h:=by
  have hW0:0<W:=by omega
  refine ⟨by have:=Nat.mod_lt j hW0;omega,?_⟩
  have e:=Nat.div_add_mod j W
  rcases Int.lt_or_le ((j/W:Nat):Int) (16*h) with h1 |h1
  · exact h1
  · exfalso
    have h2:(16*h)*W≤((j/W:Nat):Int)*W:=Int.mul_le_mul_of_nonneg_right h1 (by omega)
    have h3:((j/W:Nat):Int)*W=((W*(j/W):Nat):Int):=by rw [Int.natCast_mul,Int.mul_comm]
    rw [h3,hW,← hN] at h2
    omega
def z6v (c:Nat→List Int) (W N:Nat) (r:Int) (i:Nat):Prop:=∃ j,j<N∧c j=zero8∧(((i%W:Nat):Int)-r≤((j%W:Nat):Int)∧((j%W:Nat):Int)≤((i%W:Nat):Int)+r)∧(((i/W:Nat):Int)-r≤((j/W:Nat):Int)∧((j/W:Nat):Int)≤((i/W:Nat):Int)+r)
theorem x4g {w h r:Int} {n W N i:Nat} {p:Nat→PcD} {P:List Run} (ok:PcsOk w h n p) (hW:(W:Int)=16*w) (hN:(N:Int)=(16*h)*(16*w)) (hi:i<N) (hr:0≤r) (hP:okR P) (hh:∀ x y,hasR P x y↔((0≤x∧x<16*w)∧0≤y∧y<16*h)∧¬ ∃ k,k<n∧hasR (p k).L x y) :
    z3z r P ((i%W:Nat):Int) ((i/W:Nat):Int)↔z6v (q5m p W n) W N r i:=by
  have hw:=ok.wd
  have hht:=ok.ht
  obtain ⟨c1,c2⟩:=q6o (by omega) hW hN hi
  have n1:=Int.natCast_nonneg (i%W)
  have n2:=Int.natCast_nonneg (i/W)
  rw [z54 hr hP (by omega) (by omega)]
  constructor
  · rintro ⟨u,v,h1,h2,h3⟩
    obtain ⟨⟨g1,g2⟩,g3⟩:=(hh u v).1 h1
    obtain ⟨j,j1,j2,j3,_⟩:=z8d (by omega) hW hN g1 g2
    exact ⟨j,j1,ok.zero.2 (by rw [← j2,← j3];exact g3),by omega,by omega⟩
  · rintro ⟨j,j1,j2,j3,j4⟩
    obtain ⟨d1,d2⟩:=q6o (by omega) hW hN j1
    have n3:=Int.natCast_nonneg (j%W)
    have n4:=Int.natCast_nonneg (j/W)
    exact ⟨_,_,(hh _ _).2 ⟨⟨by omega,by omega⟩,ok.zero.1 j2⟩,j4,j3⟩
end Go.Proofs.Ytbkhpddodmbdoaa
namespace Go.Proofs.Ytbkhpddodmbdoaa
open Go.RowKit
def keyF (key j:Nat):Int:=if j=key then 255 else 0
def q3l (J:Nat→Nat→Int) (f:Nat→Bool) (key i:Nat):Nat→Int:=if f i=true∧J i key=255 then keyF key else J i
theorem lt8 {k:Nat} (h:k<8):k=0∨k=1∨k=2∨k=3∨k=4∨k=5∨k=6∨k=7:=by omega
theorem z8e {I:Nat→Int} {k:Nat} (h:k<8):(vecI I)[k]? = some (I k):=by
  rcases lt8 h with rfl |rfl |rfl |rfl |rfl |rfl |rfl |rfl <;> rfl
theorem z99 {I:Nat→Int} {k:Nat} (h:k<8):(inkC I)[k]? = some (.int .u8 (I k)):=by
  rcases lt8 h with rfl |rfl |rfl |rfl |rfl |rfl |rfl |rfl <;> rfl
theorem x2s {k:Nat} (h:k<8):vecI (keyF k)=keyV k:=by
  rcases lt8 h with rfl |rfl |rfl |rfl |rfl |rfl |rfl |rfl <;> rfl
theorem x5p {k:Nat} (h:k<8):(inkC (fun _=>0)).take k++[.int .u8 255]++(inkC (fun _=>0)).drop (k+1)=inkC (keyF k):=by
  rcases lt8 h with rfl |rfl |rfl |rfl |rfl |rfl |rfl |rfl <;> rfl
theorem x2t {J:Nat→Nat→Int} {f:Nat→Bool} {key:Nat} (h:key<8) (i:Nat):vecI (q3l J f key i)=x01 (fun i=>vecI (J i)) f key i:=by
  unfold q3l x01
  rw [z8e h]
  by_cases h1:f i=true∧J i key=255
  · rw [if_pos h1,if_pos ⟨h1.1,by rw [h1.2]⟩,x2s h]
  · rw [if_neg h1,if_neg fun h2=>h1 ⟨h2.1,by simpa using h2.2⟩]
theorem q6w {J:Nat→Nat→Int} {f g:Nat→Bool} {key i:Nat} (h:f i=g i):q3l J f key i=q3l J g key i:=by unfold q3l;rw [h]
theorem q7v {J:Nat→Nat→Int} {f:Nat→Bool} {key i:Nat} (h:f i=false):q3l J f key i=J i:=by unfold q3l;rw [h];simp
theorem z1c {J:Nat→Nat→Int} {f:Nat→Bool} {key i:Nat} (h:J i key≠255):q3l J f key i=J i:=by unfold q3l;rw [if_neg fun k=>h k.2]
theorem z8f {C:Nat→Nat→Int} {N i key o:Nat} (hi:i<N) (hk:key<8) (ho:o=key) :
    (q0m (fun y=>if y=i then inkC (fun _=>0) else inkC (C y)) N).take (i*8+o)++[.int .u8 255]++(q0m (fun y=>if y=i then inkC (fun _=>0) else inkC (C y)) N).drop (i*8+o+1)=q0m (fun y=>if y=i then inkC (keyF key) else inkC (C y)) N:=by
  subst ho
  have h:=q6n (c:=fun y=>if y=i then inkC (fun _=>0) else inkC (C y)) (sz:=8) (n:=N) (x:=i) (o:=o) (vs:=[.int .u8 255]) (fun y _=>by split <;> rfl) hi (by simp;omega)
  rw [List.length_singleton] at h
  rw [h]
  refine q1m fun y hy=>?_
  by_cases e:y=i
  · subst e
    simp only [if_true]
    exact x5p hk
  · simp only [if_neg e]
theorem z8g {C:Nat→Nat→Int} {N i:Nat} (hi:i<N):(q0m (fun y=>inkC (C y)) N).take (i*8+0)++inkC (fun _=>0)++(q0m (fun y=>inkC (C y)) N).drop (i*8+0+(inkC (fun _=>0)).length)=q0m (fun y=>if y=i then inkC (fun _=>0) else inkC (C y)) N:=by
  rw [q6n (sz:=8) (fun _ _=>rfl) hi (Nat.le_refl _)]
  rfl
end Go.Proofs.Ytbkhpddodmbdoaa
namespace Go.Proofs.Ytbkhpddodmbdoaa
open Go.RowKit
set_option maxRecDepth 20000
theorem z2m {c:Nat→List Int} {W:Nat}:∀ (i:Nat) (p:Pc),p∈gat c W i→∃ j,j<i∧p.1=c j
  | 0,p,h=>by simp [gat] at h
  | i+1,p,h=>by
    unfold gat gadd at h
    split at h
    · obtain ⟨j,h1,h2⟩:=z2m i p h
      exact ⟨j,by omega,h2⟩
    · rcases z2l h with h |⟨q,h1,h2⟩
      · exact ⟨i,by omega,h⟩
      · obtain ⟨j,h3,h4⟩:=z2m i q h1
        exact ⟨j,by omega,by rw [← h2,h4]⟩
theorem z55 {c d:Nat→List Int} {W:Nat}:∀ {i:Nat},(∀ j,j<i→c j=d j)→gat c W i=gat d W i
  | 0,_=>rfl
  | i+1,h=>by
    unfold gat
    rw [z55 (i:=i) (fun j hj=>h j (by omega)),h i (by omega)]
theorem x2u {J:Nat→Nat→Int} {W N:Nat} (hJ:∀ i,i<N→∀ j,0≤J i j∧J i j≤255) (k j:Nat):0≤keyI (gat (fun i=>vecI (J i)) W N) k j∧keyI (gat (fun i=>vecI (J i)) W N) k j≤255:=by
  unfold keyI
  cases h:(gat (fun i=>vecI (J i)) W N)[k]? with
  | none=>simp
  | some p =>
    obtain ⟨i,hi,e⟩:=z2m _ _ (List.mem_of_getElem? h)
    simp only [Option.map_some,Option.getD_some]
    rw [e]
    by_cases hj:j<8
    · rw [List.getD_eq_getElem?_getD,z8e hj];exact hJ i hi j
    · rw [List.getD_eq_getElem?_getD,List.getElem?_eq_none (by simp [vecI];omega)];simp
theorem x2v {J:Nat→Nat→Int} {W N:Nat} {G:Mem} {A:Option Addr} {B:Nat→Value} (hJ:∀ i,i<N→∀ j,0≤J i j∧J i j≤255) (hF:FlatM G A (q0m (fun k=>pcC (gatP (gat (fun i=>vecI (J i)) W N) B k)) (gat (fun i=>vecI (J i)) W N).length))
    (hR:∀ k p,(gat (fun i=>vecI (J i)) W N)[k]? = some p→(gatP (gat (fun i=>vecI (J i)) W N) B k).L=p.2∧(gatP (gat (fun i=>vecI (J i)) W N) B k).L.length≤(gatP (gat (fun i=>vecI (J i)) W N) B k).q∧(gatP (gat (fun i=>vecI (J i)) W N) B k).q≤maxLen∧RunsM G (gatP (gat (fun i=>vecI (J i)) W N) B k).A (gatP (gat (fun i=>vecI (J i)) W N) B k).L) :
    PcsM G A (gat (fun i=>vecI (J i)) W N).length (gatP (gat (fun i=>vecI (J i)) W N) B) :=
  ⟨hF.els (fun _ _=>rfl) (by omega),fun i hi=>(hR i _ (List.getElem?_eq_getElem hi)).2.2.2,fun i hi=>⟨(hR i _ (List.getElem?_eq_getElem hi)).2.1,(hR i _ (List.getElem?_eq_getElem hi)).2.2.1⟩,fun i hi j=>x2u hJ i j⟩
set_option maxHeartbeats 4000000 in
theorem z2n {A B:Option Addr} {n c d:Nat} {p q:Nat→PcD} {G:Mem} (hA:PcsM G A n p) (hB:PcsM G B n q) (hL:∀ k,k<n→(q k).L=(p k).L∧(q k).I=(p k).I) (hn:n≤maxLen) (hl:∀ k,k<n→(p k).L.length≤1000000000000) :
    Gives Try.prog 15 [.val (.slice A n c),.val (.slice B n d)] G (.val (.bool true)):=by
  unfold maxLen at hn
  refine q1u tab_ok Try.func15 ?_
  (repeat ((try (conv=>whnf));(refine stQ ?_)))
  conv=>whnf
  refine q0y tab_ok (fun k=>k≤n) (fun (k:Nat)=>[(13,.val (.int .i64 k))]) (fun k=>[]) (fun k=>n-k) 0 (Nat.zero_le _) ?_ ?_
  · ((refine q0h ?_);(conv=>whnf);(refine q0k (by rfl) (by rfl) flQ ?_))
    exact q0g
  · rintro k hk
    rcases Nat.lt_or_ge k n with h1 |h1
    · obtain ⟨a,rfl,ca⟩:=hA.inks h1
      obtain ⟨b,rfl,cb⟩:=hB.inks h1
      obtain ⟨a',ha',da⟩:=hA.head h1
      cases ha'
      obtain ⟨b',hb',db⟩:=hB.head h1
      cases hb'
      obtain ⟨e1,e2⟩:=hL k h1
      have rA:=hA.runs k h1
      have rB:=hB.runs k h1
      rw [e1] at rB db
      rw [e2] at cb
      have sr:=z4t (p k).A (q k).A (p k).L (p k).q (q k).q G rA rB (hl k h1)
      (repeat ((try (conv=>whnf));(first |(refine ca _ ?_) |(refine cb _ ?_) |(refine q0d _ da ?_) |(refine q0d _ db ?_) |(refine stQ ?_) |(with_reducible first |refine q0b (fun vs w=>by kernel_rfl) (by kernel_rfl) (sr) ?_ |refine q0a (fun vs w=>by kernel_rfl) (by kernel_rfl) (sr) ?_))))
      conv=>whnf
      refine ⟨k+1,by omega,by omega,?_⟩
      ((refine q0h ?_);(conv=>whnf);(refine q0k (by rfl) (by rfl) flQ ?_))
      exact q0g
    · obtain rfl:k=n:=by omega
      (repeat ((try (conv=>whnf));(refine stQ ?_)))
      conv=>whnf
      exact ⟨rfl,rfl⟩
end Go.Proofs.Ytbkhpddodmbdoaa
