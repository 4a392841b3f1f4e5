/-
  The cells of a stroke: of parts, of discs, of both. No program in sight.
-/
import Derived.Test.YtegpkpilfgohhaaGreatMrg21
import Derived.Test.YtegpkpilfgohhaaGreatMrg6
import Derived.Test.YtegpkpilfgohhaaGreatMrg16
import Derived.Test.YtegpkpilfgohhaaGreatMrg18
import Derived.Test.YtegpkpilfgohhaaGreatMrg8
set_option linter.unusedVariables false
set_option linter.unusedSimpArgs false
set_option linter.unnecessarySimpa false
namespace Go.Proofs.YtegpkpilfgohhaaGreat
open Go.RowKit
/-! The signs of the crossings of a closed line add up to nothing. -/
def indY (v y:Int):Int:=if y≤v then 1 else 0
theorem x3c (c:Cr):sgS [c]=c.s:=by simp [sgS]
theorem x05 (ax ay bx by_ v:Int):sgS (q0z v (q40 ax ay bx by_))=indY v ay-indY v by_:=by
  unfold q40 indY
  split
  · rename_i h
    simp only [q0z,q69,List.append_nil,decide_eq_true_eq]
    by_cases h2:by_≤v∧v<ay
    · rw [if_pos h2,x3c,if_neg (by omega),if_pos (by omega)];rfl
    · rw [if_neg h2]
      show (0:Int)=_
      split <;> split <;> omega
  · split
    · rename_i h1 h
      simp only [q0z,q69,List.append_nil,decide_eq_true_eq]
      by_cases h2:ay≤v∧v<by_
      · rw [if_pos h2,x3c,if_pos (by omega),if_neg (by omega)];rfl
      · rw [if_neg h2]
        show (0:Int)=_
        split <;> split <;> omega
    · rename_i h1 h2
      obtain rfl:ay=by_:=by omega
      show (0:Int)=_
      omega
theorem x06 {X Y:Nat→Int} {n:Nat} {v:Int}:∀ i,i<n→sgS (q0z v (q2b X Y n i))=indY v (Y 0)-indY v (Y i)
  | 0,_=>by show (0:Int)=_;omega
  | i+1,h=>by
    rw [q2b,q2n,q7a,x06 i (by omega),x05,show nx n i=i+1 by unfold nx;rw [if_neg (by omega)]]
    omega
theorem x7r {X Y:Nat→Int} {n:Nat} {v:Int}:sgS (q0z v (q2b X Y n n))=0:=by
  cases n with
  | zero=>rfl
  | succ m =>
    rw [q2b,q2n,q7a,x06 m (by omega),x05,show nx (m+1) m=0 by unfold nx;rw [if_pos rfl]]
    omega
theorem z8r {L:Nat→LineD} {v:Int}:∀ n,sgS (q0z v (q1t L n))=0
  | 0=>rfl
  | n+1=>by rw [q1t,q2n,q7a,z8r n,x7r];rfl
theorem x37 {C:List Cr} {u:Int} (h:sgS C=0):q7r (selB false) C u↔sumC u C≠0:=by
  unfold q7r selB
  constructor
  · rintro ⟨_,_,h1⟩;simpa using h1
  · intro h1
    refine ⟨?_,?_,by simpa using h1⟩
    · refine Classical.byContradiction fun h2=>h1 (z25 fun c hc=>?_)
      exact Int.not_le.1 fun h3=>h2 ⟨c,hc,h3⟩
    · refine Classical.byContradiction fun h2=>h1 ?_
      rw [z4y fun c hc=>Int.not_lt.1 fun h3=>h2 ⟨c,hc,h3⟩];exact h
/-! One part. -/
def lnPt (p:List (Int × Int)):Nat→LineD:=fun _=>lnV (.slice none 0 0) p
theorem x56 (v:Value) (p:List (Int × Int)):q1t (fun _=>lnV v p) 1=q1t (lnPt p) 1:=by cases v <;> rfl
theorem x9e (v:Value) (p:List (Int × Int)):lowN (fun _=>lnV v p) 1=lowN (lnPt p) 1:=by cases v <;> rfl
theorem x7s (v:Value) (p:List (Int × Int)):q6e (fun _=>lnV v p) 1=q6e (lnPt p) 1:=by cases v <;> rfl
theorem x7t (v:Value) (p:List (Int × Int)) (x y:Int):q3o (fun _=>lnV v p) x y 1=q3o (lnPt p) x y 1:=by cases v <;> rfl
theorem z7e (v:Value) (p:List (Int × Int)):cntN (fun _=>lnV v p) 1=p.length:=by cases v <;> simp [cntN,lnV]
theorem z9i (v:Value) (p:List (Int × Int)):q1n (fun _=>lnV v p) 1=q1n (lnPt p) 1:=by cases v <;> rfl
def q28 (u v:Int):Prop:=(-8192≤u∧u≤8191)∧(-8192≤v∧v≤8191)
def filP (p:List (Int × Int)):List Run:=fil (selB false) (q1t (lnPt p) 1) (lowN (lnPt p) 1) (q6e (lnPt p) 1)
theorem z1y (p:List (Int × Int)) (u v:Int):hasR (filP p) u v↔q28 u v∧q3o (lnPt p) u v 1≠0:=by
  unfold filP
  rw [z7d (fun e he=>z29 e he)]
  unfold q7s q28
  rw [x37 (z8r 1),z27]
  exact ⟨fun ⟨a,b,c⟩=>⟨⟨a,b⟩,c⟩,fun ⟨⟨a,b⟩,c⟩=>⟨a,b,c⟩⟩
theorem x9f (p:List (Int × Int)):okR (filP p):=(q83 _).1
theorem z1z {p:List (Int × Int)} (h4:p.length≤4):(filP p).length≤65536:=by
  have h1:=(q83 (sel:=selB false) (E:=q1t (lnPt p) 1) (y0:=max (lowN (lnPt p) 1) (-8192)) (min (q6e (lnPt p) 1) 8192-max (lowN (lnPt p) 1) (-8192)).toNat).2.1
  have h2:=q41 (L:=lnPt p) 1
  have h3:cntN (lnPt p) 1≤4:=by unfold lnPt;rw [z7e];exact h4
  have h5:=Nat.mul_le_mul (show (min (q6e (lnPt p) 1) 8192-max (lowN (lnPt p) 1) (-8192)).toNat≤16384 by omega) (show (q1t (lnPt p) 1).length≤4 by omega)
  unfold filP fil
  omega
/-! A disc. -/
noncomputable def dscK (m:Int):Int:=(q4u m+1)/2
noncomputable def q43 (cx cy w y:Int):List Run :=
  if w*w-(2*y+1-2*cy)*(2*y+1-2*cy)<1 then []
  else if max (cx-dscK (w*w-(2*y+1-2*cy)*(2*y+1-2*cy))) (-8192)<min (cx+dscK (w*w-(2*y+1-2*cy)*(2*y+1-2*cy))) 8192 then [⟨y,max (cx-dscK (w*w-(2*y+1-2*cy)*(2*y+1-2*cy))) (-8192),min (cx+dscK (w*w-(2*y+1-2*cy)*(2*y+1-2*cy))) 8192⟩] else []
noncomputable def dscN (cx cy w y0:Int):Nat→List Run
  | 0=>[]
  | d+1=>dscN cx cy w y0 d++q43 cx cy w (y0+d)
def q6f (cy w:Int):Int:=max (cy-(w/2+1)) (-8192)
def q96 (cy w:Int):Int:=min (cy+(w/2+1)) 8191
noncomputable def dscL (cx cy w:Int):List Run:=dscN cx cy w (q6f cy w) (q96 cy w-q6f cy w+1).toNat
theorem x57 {a b:Int} (hb:0≤b) (h:b<a):b*b<a*a:=by
  have h1:=Int.mul_le_mul (show b+1≤a by omega) (show b+1≤a by omega) (by omega) (by omega)
  have e:(b+1)*(b+1)=b*b+2*b+1:=by rw [Int.add_mul,Int.mul_add];omega
  omega
theorem x07 {a b:Int} (hb:0≤b):a*a≤b*b↔-b≤a∧a≤b:=by
  constructor
  · intro h
    constructor
    · refine Int.not_lt.1 fun h1=>?_
      have h2:=x57 hb (show b < -a by omega)
      rw [Int.neg_mul_neg] at h2
      omega
    · refine Int.not_lt.1 fun h1=>?_
      have h2:=x57 hb h1
      omega
  · rintro ⟨h1,h2⟩
    have:=(q04 (a:=a) (b:=a) (A:=b) (B:=b) ⟨h1,h2⟩ ⟨h1,h2⟩).2
    exact this
theorem x9g {m d:Int} (hm:0≤m):d*d≤m↔-(q4u m)≤d∧d≤q4u m:=by
  obtain ⟨h0,h1,h2⟩:=q4c hm
  rw [← x07 h0]
  constructor
  · intro h
    have h3:-(q4u m)≤d∧d≤q4u m:=by
      have k1:=q81 (q4c hm) h
      have k2:=q81 (q4c hm) (t:=-d) (by rw [Int.neg_mul_neg];exact h)
      omega
    exact (x07 h0).2 h3
  · intro h;omega
def q5a (cx cy w u v:Int):Prop:=(2*u+1-2*cx)*(2*u+1-2*cx)+(2*v+1-2*cy)*(2*v+1-2*cy)≤w*w
theorem x38 {cx cy w y u v:Int}:hasR (q43 cx cy w y) u v↔v=y∧(-8192≤u∧u≤8191)∧q5a cx cy w u y:=by
  unfold q43 q5a
  generalize 2*y+1-2*cy=dy
  generalize hq:dy*dy=q
  generalize w*w=W
  have hd:∀ d:Int,0≤d*d:=fun d=>z3n d
  split
  · rename_i h
    constructor
    · rintro ⟨r,hr,_⟩;cases hr
    · rintro ⟨_,_,h2⟩
      exfalso
      have h3:=hd (2*u+1-2*cx)
      have h4:(2*u+1-2*cx)*(2*u+1-2*cx)=0:=by omega
      rcases Int.mul_eq_zero.1 h4 with h5 |h5 <;> omega
  · rename_i h
    have h1:∀ d:Int,d*d+q≤W↔d*d≤W-q:=fun d=>by omega
    rw [h1,x9g (by omega)]
    have h0:=(q4c (n:=W-q) (by omega)).1
    unfold dscK
    generalize q4u (W-q)=r at *
    split
    · rename_i h2
      constructor
      · rintro ⟨s,hs,h3,h4,h5⟩
        rw [List.mem_singleton] at hs
        subst hs
        dsimp only at h3 h4 h5
        exact ⟨h3.symm,by omega,by omega⟩
      · rintro ⟨rfl,h3,h4⟩
        exact ⟨_,List.mem_singleton.2 rfl,rfl,by dsimp only;omega,by dsimp only;omega⟩
    · rename_i h2
      constructor
      · rintro ⟨s,hs,_⟩;cases hs
      · rintro ⟨rfl,h3,h4⟩
        exfalso;omega
theorem x08 {cx cy w y0 u v:Int}:∀ d:Nat,hasR (dscN cx cy w y0 d) u v↔(y0≤v∧v<y0+d)∧(-8192≤u∧u≤8191)∧q5a cx cy w u v
  | 0=>⟨fun ⟨r,hr,_⟩=>(by cases hr),fun ⟨h,_⟩=>by omega⟩
  | d+1=>by
    rw [dscN,q20,x08 d,x38]
    constructor
    · rintro (⟨h1,h2⟩ |⟨rfl,h2⟩)
      · exact ⟨by omega,h2⟩
      · exact ⟨by omega,h2⟩
    · rintro ⟨h1,h2⟩
      by_cases e:v=y0+d
      · exact .inr ⟨e,e ▸ h2⟩
      · exact .inl ⟨by omega,h2⟩
theorem x09 {cx cy w u v:Int} (hw:1≤w∧w≤1024):hasR (dscL cx cy w) u v↔q28 u v∧q5a cx cy w u v:=by
  unfold dscL
  rw [x08]
  have key:q5a cx cy w u v→cy-(w/2+1)≤v∧v≤cy+(w/2+1):=by
    unfold q5a
    intro h
    have h1:=z3n (2*u+1-2*cx)
    have h2:(2*v+1-2*cy)*(2*v+1-2*cy)≤w*w:=by omega
    have h3:=(x07 (by omega)).1 h2
    omega
  unfold q28 q6f q96
  constructor
  · rintro ⟨h1,h2,h3⟩
    exact ⟨⟨h2,by omega⟩,h3⟩
  · rintro ⟨⟨h1,h2⟩,h3⟩
    have:=key h3
    exact ⟨by omega,h1,h3⟩
theorem x39 {cx cy w y:Int}:∀ r∈q43 cx cy w y,r.y=y∧r.x0<r.x1∧-8192≤r.x0∧r.x1≤8192:=by
  intro r hr
  unfold q43 at hr
  split at hr
  · cases hr
  · split at hr
    · rename_i h1 h2
      rw [List.mem_singleton] at hr
      subst hr
      exact ⟨rfl,h2,by dsimp only;omega,by dsimp only;omega⟩
    · cases hr
theorem x1a {cx cy w y0:Int}:∀ d:Nat,∀ r∈dscN cx cy w y0 d,(y0≤r.y∧r.y<y0+d)∧r.x0<r.x1∧-8192≤r.x0∧r.x1≤8192
  | 0,r,hr=>by cases hr
  | d+1,r,hr=>by
    rw [dscN,List.mem_append] at hr
    rcases hr with hr |hr
    · obtain ⟨h1,h2⟩:=x1a d r hr;exact ⟨by omega,h2⟩
    · obtain ⟨h1,h2⟩:=x39 r hr;exact ⟨by omega,h2⟩
theorem z41 {cx cy w y0:Int}:∀ d:Nat,(dscN cx cy w y0 d).length≤d
  | 0=>Nat.le_refl _
  | d+1=>by
    have h1:=z41 (cx:=cx) (cy:=cy) (w:=w) (y0:=y0) d
    have h2:(q43 cx cy w (y0+d)).length≤1:=by
      unfold q43
      split
      · simp
      · split <;> simp
    rw [dscN,List.length_append];omega
theorem x7u {cx cy w:Int}:∀ r∈dscL cx cy w,(-8192≤r.y∧r.y≤8191)∧r.x0<r.x1∧-8192≤r.x0∧r.x1≤8192:=fun r hr=>by
  obtain ⟨h1,h2⟩:=x1a _ r hr
  unfold q6f q96 at h1
  exact ⟨by omega,h2⟩
theorem x1b {cx cy w:Int}:(dscL cx cy w).length≤16384:=by
  have h:=z41 (cx:=cx) (cy:=cy) (w:=w) (y0:=q6f cy w) (q96 cy w-q6f cy w+1).toNat
  unfold dscL
  unfold q6f q96 at *
  omega
/-! All together. -/
noncomputable def q8u (ps:List (List (Int × Int))) (ds:List (Int × Int)) (w:Int):List Run:=ps.flatMap filP++ds.flatMap fun c=>dscL c.1 c.2 w
def q8v (ps:List (List (Int × Int))) (ds:List (Int × Int)) (w u v:Int):Prop:=(∃ p∈ps,q3o (lnPt p) u v 1≠0)∨∃ c∈ds,q5a c.1 c.2 w u v
theorem z8s {α:Type} {f:α→List Run} {l:List α} {u v:Int}:hasR (l.flatMap f) u v↔∃ x∈l,hasR (f x) u v:=by
  constructor
  · rintro ⟨r,hr,h⟩
    obtain ⟨x,hx,h2⟩:=List.mem_flatMap.1 hr
    exact ⟨x,hx,r,h2,h⟩
  · rintro ⟨x,hx,r,hr,h⟩
    exact ⟨r,List.mem_flatMap.2 ⟨x,hx,hr⟩,h⟩
theorem x58 {ps:List (List (Int × Int))} {ds:List (Int × Int)} {w u v:Int} (hw:1≤w∧w≤1024):hasR (q8u ps ds w) u v↔q28 u v∧q8v ps ds w u v:=by
  unfold q8u q8v
  rw [q20,z8s,z8s]
  constructor
  · rintro (⟨p,hp,h⟩ |⟨c,hc,h⟩)
    · have:=(z1y p u v).1 h
      exact ⟨this.1,.inl ⟨p,hp,this.2⟩⟩
    · have:=(x09 hw).1 h
      exact ⟨this.1,.inr ⟨c,hc,this.2⟩⟩
  · rintro ⟨h0,⟨p,hp,h⟩ |⟨c,hc,h⟩⟩
    · exact .inl ⟨p,hp,(z1y p u v).2 ⟨h0,h⟩⟩
    · exact .inr ⟨c,hc,(x09 hw).2 ⟨h0,h⟩⟩
theorem x7v (p:List (Int × Int)):∀ r∈filP p,(-8192≤r.y∧r.y≤8191)∧r.x0<r.x1∧-8192≤r.x0∧r.x1≤8192:=fun r hr=>by
  have hx:=q6o (x9f p) hr
  have h0:=(z1y p r.x0 r.y).1 ⟨r,hr,rfl,Int.le_refl _,hx⟩
  have h1:=(z1y p (r.x1-1) r.y).1 ⟨r,hr,rfl,by omega,by omega⟩
  obtain ⟨⟨a1,a2⟩,_⟩:=h0
  obtain ⟨⟨b1,b2⟩,_⟩:=h1
  exact ⟨a2,hx,by omega,by omega⟩
theorem x59 {ps:List (List (Int × Int))} {ds:List (Int × Int)} {w:Int}:∀ r∈q8u ps ds w,(-8192≤r.y∧r.y≤8191)∧r.x0<r.x1∧-8192≤r.x0∧r.x1≤8192:=fun r hr=>by
  unfold q8u at hr
  rw [List.mem_append] at hr
  rcases hr with hr |hr
  · obtain ⟨p,_,h⟩:=List.mem_flatMap.1 hr;exact x7v p r h
  · obtain ⟨c,_,h⟩:=List.mem_flatMap.1 hr;exact x7u r h
theorem q7l {α:Type} {f:α→List Run} {k:Nat}:∀ {l:List α},(∀ x∈l,(f x).length≤k)→(l.flatMap f).length≤l.length*k
  | [],_=>by simp
  | x::l,h=>by
    have h1:=q7l (l:=l) fun y hy=>h y (by simp [hy])
    have h2:=h x (by simp)
    rw [List.flatMap_cons,List.length_append,List.length_cons,Nat.add_mul];omega
theorem x6a {ps:List (List (Int × Int))} {ds:List (Int × Int)} {w:Int} (h:∀ p∈ps,p.length≤4):(q8u ps ds w).length≤ps.length*65536+ds.length*16384:=by
  unfold q8u
  rw [List.length_append]
  have h1:=q7l (f:=filP) (l:=ps) fun p hp=>z1z (h p hp)
  have h2:=q7l (f:=fun c:Int × Int=>dscL c.1 c.2 w) (l:=ds) (k:=16384) fun c hc=>x1b
  omega
theorem x8j {p:List (Int × Int)} (h:q1n (lnPt p) 1=true):q1n (lnPt (orP p)) 1=true:=by
  unfold orP
  split
  · refine q8p fun x hx i hi=>?_
    have hi':i<p.length:=by simpa [lnPt,lnV] using hi
    have h1:=q2v h 0 (by omega) (p.length-1-i) (by show p.length-1-i<p.length;omega)
    have e:nthP p.reverse i=nthP p (p.length-1-i):=by
      have h2:=q1h (l:=p.reverse) (i:=i) (by simpa using hi')
      rw [List.getElem?_reverse hi',q1h (by omega)] at h2
      exact (Option.some.inj h2).symm
    show okXY (nthP p.reverse i).1 (nthP p.reverse i).2=true
    rw [e];exact h1
  · exact h
theorem z3u (p:List (Int × Int)):(orP p).length=p.length:=by unfold orP;split <;> simp
theorem z3a {ps:List (List (Int × Int))} (h:∀ p∈ps,p.length≤4):∀ p∈ps.map orP,p.length≤4:=fun p hp=>by
  obtain ⟨q,hq,rfl⟩:=List.mem_map.1 hp
  rw [z3u];exact h q hq
theorem x1c {L:List Run} (hL:∀ r∈L,r.x0<r.x1):okR (q38 L)∧∀ u v,hasR (q38 L) u v↔hasR L u v:=by
  have hp:(L.mergeSort (fun r s=>@decide (leR r s) (Classical.propDecidable _))).Perm L:=List.mergeSort_perm _ _
  have hs:(L.mergeSort (fun r s=>@decide (leR r s) (Classical.propDecidable _))).Pairwise leR:=by
    have:=List.pairwise_mergeSort (le:=fun r s=>@decide (leR r s) (Classical.propDecidable _)) (fun a b c h1 h2=>by
      simp only [decide_eq_true_eq] at *;unfold leR at *;omega) (fun a b=>by
      simp only [Bool.or_eq_true,decide_eq_true_eq];unfold leR;omega) L
    exact this.imp fun h=>by simpa using h
  rw [← z62 hp hs]
  obtain ⟨h1,h2⟩:=x3x _ [] trivial (fun r hr=>by cases hr) hs
  refine ⟨h1,fun u v=>?_⟩
  rw [h2,z77 hp]
  exact ⟨fun h=>h.resolve_left q3a,.inr⟩
theorem x4a (L:List Run):(q38 L).length≤L.length:=by
  have hp:(L.mergeSort (fun r s=>@decide (leR r s) (Classical.propDecidable _))).Perm L:=List.mergeSort_perm _ _
  have hs:(L.mergeSort (fun r s=>@decide (leR r s) (Classical.propDecidable _))).Pairwise leR:=by
    have:=List.pairwise_mergeSort (le:=fun r s=>@decide (leR r s) (Classical.propDecidable _)) (fun a b c h1 h2=>by
      simp only [decide_eq_true_eq] at *;unfold leR at *;omega) (fun a b=>by
      simp only [Bool.or_eq_true,decide_eq_true_eq];unfold leR;omega) L
    exact this.imp fun h=>by simpa using h
  rw [← z62 hp hs,← hp.length_eq]
  have:=x0h (L.mergeSort (fun r s=>@decide (leR r s) (Classical.propDecidable _))) []
  simpa using this
theorem x6b {L:List Run} (hL:∀ r∈L,(-8192≤r.y∧r.y≤8191)∧r.x0<r.x1∧-8192≤r.x0∧r.x1≤8192):ValidL (q38 L):=by
  obtain ⟨h1,h2⟩:=x1c fun r hr=>(hL r hr).2.1
  refine ValidL.mk h1 fun r hr=>?_
  have hx:=q6o h1 hr
  obtain ⟨s,hs,a1,a2,a3⟩:=(h2 r.x0 r.y).1 ⟨r,hr,rfl,Int.le_refl _,hx⟩
  obtain ⟨t,ht,b1,b2,b3⟩:=(h2 (r.x1-1) r.y).1 ⟨r,hr,rfl,by omega,by omega⟩
  have k1:=hL s hs
  have k2:=hL t ht
  omega
end Go.Proofs.YtegpkpilfgohhaaGreat
