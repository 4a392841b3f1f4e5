/-
  Merged: XIn, XPast, XCoord, XDown, XHalf, XRegLaw.
-/
import Derived.WalkKit
import Derived.WalkLawsBesides
import Derived.Handy
import Derived.BigQuiet
import Derived.Deep.QuietTactic
import Derived.Test.YtegpkpilfgohhaaGreatProg
import Derived.Test.YtegpkpilfgohhaaGreatMrg3
import Derived.Test.YtegpkpilfgohhaaGreatMrg4
set_option linter.unusedVariables false
set_option linter.unusedSimpArgs false
set_option linter.unnecessarySimpa false
namespace Go.Proofs.YtegpkpilfgohhaaGreat
open Go.RowKit
end Go.Proofs.YtegpkpilfgohhaaGreat
namespace Go.Proofs.YtegpkpilfgohhaaGreat
open Go.RowKit
structure Later (w:World) where
  to:World
  below:Below w.heap.size w to
def past (w:World) (x:Later w):World:=x.to
instance instLater (w:World):Nonempty (Later w):=⟨⟨w,Below.refl _ _⟩⟩
instance instLaterI (w:World):Inhabited (Later w):=⟨⟨w,Below.refl _ _⟩⟩
def x8x (w:World) (b o:Nat):Option Value:=w.cell? ⟨b,o,none⟩
def x5b (w:World) (b o:Nat):Bool:=w.frozen? ⟨b,o,none⟩
theorem x5c (w:World) (x:Later w) (b o:Nat):(past w x).cell? ⟨b,o,none⟩=if b<w.heap.size then w.cell? ⟨b,o,none⟩ else x8x (past w x) b o:=by
  split
  · exact x.below.cell (p:=⟨b,o,none⟩) (by assumption)
  · rfl
theorem x10 (w:World) (x:Later w) (b o:Nat):(past w x).frozen? ⟨b,o,none⟩=if b<w.heap.size then w.frozen? ⟨b,o,none⟩ else x5b (past w x) b o:=by
  split
  · exact x.below.frozen (p:=⟨b,o,none⟩) (by assumption)
  · rfl
theorem z80 (w:World) (c:Array Value) (t:TypeId) (n i:Nat):(w.alloc (.cells c t)).cell? ⟨n,i,none⟩=if n=w.heap.size then c[i]? else w.cell? ⟨n,i,none⟩:=by
  split
  · rename_i h;exact World.cell?_alloc_at c t n i h
  · rename_i h;exact World.cell?_alloc_old (a:=⟨n,i,none⟩) _ _ h
attribute [go_sem] x5c x10 z80
end Go.Proofs.YtegpkpilfgohhaaGreat
namespace Go.Proofs.YtegpkpilfgohhaaGreat
open Go.RowKit
end Go.Proofs.YtegpkpilfgohhaaGreat
namespace Go.Proofs.YtegpkpilfgohhaaGreat
open Go.RowKit
set_option maxHeartbeats 400000 in
theorem x67 (a b:Int) (w:World) (ha:-4611686018427387904≤a∧a≤4611686018427387904) (hb:1≤b∧b≤4611686018427387904) :
    Calls Tryz.prog 48 #[.int .i64 a,.int .i64 b] w fun e w'=>e=.returned (.int .i64 (a/b))∧w=w':=by
  have hm:Hid _:=x3u a b hb.1
  have hs:Hid _:=z8z a b hb.1
  have hb':=x8v a b hb.1
  go_enter Tryz.func48,Tryz.ntmps48
  go_wp2
  all_goals go_ret
  · exact ⟨q32 (by rw [← hs.out,hm.out,if_pos (by assumption)]),rfl⟩
  · exact ⟨q32 (by rw [← hs.out,hm.out,if_neg (by omega)]),rfl⟩
end Go.Proofs.YtegpkpilfgohhaaGreat
namespace Go.Proofs.YtegpkpilfgohhaaGreat
open Go.RowKit
set_option maxHeartbeats 400000 in
theorem x68 (a b:Int) (w:World) (ha:-4611686018427387904≤a∧a≤4611686018427387904) (hb:1≤b∧b≤4611686018427387904) :
    Calls Tryz.prog 27 #[.int .i64 a,.int .i64 b] w fun e w'=>e=.returned (.int .i64 (near a b))∧w=w':=by
  have hm:Hid _:=x2y a b
  have hb':=x2z a b hb.1
  have hd:=q9c a b hb.1
  have he:=Int.mul_ediv_add_emod a b
  rw [Int.mul_comm] at he
  go_enter Tryz.func27,Tryz.ntmps27
  go_wp2_with (go_at_call 48;refine (x67 _ _ _ ha hb).mono ?_;rintro e w' ⟨rfl,rfl⟩)
  all_goals go_ret
  all_goals refine ⟨q32 ?_,rfl⟩
  · unfold near;rw [← hm.out,if_pos (by omega)]
  · unfold near;rw [← hm.out,if_neg (by omega)]
end Go.Proofs.YtegpkpilfgohhaaGreat
namespace Go.Proofs.YtegpkpilfgohhaaGreat
theorem Run.ext' {r s:Run} (h1:r.y=s.y) (h2:r.x0=s.x0) (h3:r.x1=s.x1):r=s:=by
  cases r;cases s;simp_all
def okR:List Run→Prop
  | []=>True
  | r::l=>r.x0<r.x1∧(∀ s∈l,r.y<s.y∨(r.y=s.y∧r.x1<s.x0))∧okR l
def hasR (L:List Run) (x y:Int):Prop:=∃ r∈L,r.y=y∧r.x0≤x∧x<r.x1
theorem hasR_cons {r:Run} {l:List Run} {x y:Int}:hasR (r::l) x y↔(r.y=y∧r.x0≤x∧x<r.x1)∨hasR l x y:=by
  simp [hasR]
theorem q20 {k l:List Run} {x y:Int}:hasR (k++l) x y↔hasR k x y∨hasR l x y:=by
  constructor
  · rintro ⟨r,h,h'⟩
    rcases List.mem_append.1 h with h |h
    · exact .inl ⟨r,h,h'⟩
    · exact .inr ⟨r,h,h'⟩
  · rintro (⟨r,h,h'⟩ |⟨r,h,h'⟩)
    · exact ⟨r,List.mem_append.2 (.inl h),h'⟩
    · exact ⟨r,List.mem_append.2 (.inr h),h'⟩
theorem q5h {r:Run} {x y:Int}:hasR [r] x y↔r.y=y∧r.x0≤x∧x<r.x1:=by simp [hasR]
theorem q3a {x y:Int}:¬ hasR [] x y:=by simp [hasR]
theorem q6o {L:List Run} (h:okR L) {r:Run} (hr:r∈L):r.x0<r.x1:=by
  induction L with
  | nil=>cases hr
  | cons s l ih =>
    rcases List.mem_cons.1 hr with rfl |hr
    · exact h.1
    · exact ih h.2.2 hr
theorem okR_append {k l:List Run}:okR (k++l)↔okR k∧okR l∧∀ r∈k,∀ s∈l,r.y<s.y∨(r.y=s.y∧r.x1<s.x0):=by
  induction k with
  | nil=>simp [okR]
  | cons a k ih =>
    simp only [List.cons_append,okR,ih,List.mem_append,List.mem_cons]
    constructor
    · rintro ⟨h1,h2,h3,h4,h5⟩
      refine ⟨⟨h1,fun s hs=>h2 s (.inl hs),h3⟩,h4,fun r hr s hs=>?_⟩
      rcases hr with rfl |hr
      · exact h2 s (.inr hs)
      · exact h5 r hr s hs
    · rintro ⟨⟨h1,h2,h3⟩,h4,h5⟩
      refine ⟨h1,fun s hs=>?_,h3,h4,fun r hr s hs=>h5 r (.inr hr) s hs⟩
      rcases hs with hs |hs
      · exact h2 s hs
      · exact h5 a (.inl rfl) s hs
theorem z75 {r:Run} {l:List Run} (h:okR (r::l)) {x y:Int} (hx:hasR (r::l) x y):r.y<y∨(r.y=y∧r.x0≤x):=by
  rcases hasR_cons.1 hx with h1 |⟨s,hs,h1⟩
  · omega
  · have h2:=h.2.1 s hs
    have h3:=h.1
    omega
theorem z1k {r:Run} {l:List Run} (h:okR (r::l)) {x y:Int} (hx:hasR l x y):r.y<y∨(r.y=y∧r.x1<x+0∨r.y=y∧r.x1<x):=by
  obtain ⟨s,hs,h1⟩:=hx
  have h2:=h.2.1 s hs
  omega
theorem z3l:∀ {L M:List Run},okR L→okR M→(∀ x y,hasR L x y↔hasR M x y)→L=M
  | [],[],_,_,_=>rfl
  | [],s::m,_,hM,h=>((q3a ((h s.x0 s.y).2 ⟨s,List.mem_cons_self ..,rfl,Int.le_refl _,hM.1⟩))).elim
  | r::l,[],hL,_,h=>((q3a ((h r.x0 r.y).1 ⟨r,List.mem_cons_self ..,rfl,Int.le_refl _,hL.1⟩))).elim
  | r::l,s::m,hL,hM,h=>by
    have a1:=z75 hM ((h r.x0 r.y).1 ⟨r,List.mem_cons_self ..,rfl,Int.le_refl _,hL.1⟩)
    have a2:=z75 hL ((h s.x0 s.y).2 ⟨s,List.mem_cons_self ..,rfl,Int.le_refl _,hM.1⟩)
    have e1:r.y=s.y:=by omega
    have e2:r.x0=s.x0:=by omega
    have l1:=hL.1
    have m1:=hM.1
    have e3:r.x1=s.x1:=by
      rcases Int.lt_trichotomy r.x1 s.x1 with hlt |he |hlt
      · have b:=(h r.x1 r.y).2 ⟨s,List.mem_cons_self ..,by omega,by omega,hlt⟩
        rcases hasR_cons.1 b with b |b
        · omega
        · have:=z1k hL b;omega
      · exact he
      · have b:=(h s.x1 s.y).1 ⟨r,List.mem_cons_self ..,by omega,by omega,hlt⟩
        rcases hasR_cons.1 b with b |b
        · omega
        · have:=z1k hM b;omega
    obtain rfl:=Run.ext' e1 e2 e3
    refine congrArg (r::·) (z3l hL.2.2 hM.2.2 fun x y=>⟨fun hx=>?_,fun hx=>?_⟩)
    · rcases hasR_cons.1 ((h x y).1 (hasR_cons.2 (.inr hx))) with b |b
      · have:=z1k hL hx;omega
      · exact b
    · rcases hasR_cons.1 ((h x y).2 (hasR_cons.2 (.inr hx))) with b |b
      · have:=z1k hM hx;omega
      · exact b
def upTo (L:List Run) (y x:Int):Prop:=∀ r∈L,r.y<y∨(r.y=y∧r.x1≤x)
theorem q5i {L:List Run} {y x y' x':Int} (h:upTo L y x) (k:y<y'∨(y=y'∧x≤x')):upTo L y' x':=fun r hr=>by
  have:=h r hr;omega
def addR (L:List Run) (y a b:Int):List Run :=
  if b≤a then L else match L.getLast? with
    | some r=>if r.y=y∧a≤r.x1 then L.dropLast++[⟨y,r.x0,max r.x1 b⟩] else L++[⟨y,a,b⟩]
    | none=>[⟨y,a,b⟩]
theorem q7i {L:List Run} {y a b:Int} (h:b≤a):addR L y a b=L:=by simp [addR,h]
theorem q6h {y a b:Int} (h:¬ b≤a):addR [] y a b=[⟨y,a,b⟩]:=by simp [addR,h]
theorem q5j {L:List Run} {r:Run} {y a b:Int} (h:¬ b≤a) (h1:r.y=y) (h2:a≤r.x1):addR (L++[r]) y a b=L++[⟨y,r.x0,max r.x1 b⟩]:=by simp [addR,h,h1,h2]
theorem q4t {L:List Run} {r:Run} {y a b:Int} (h:¬ b≤a) (h1:¬ (r.y=y∧a≤r.x1)):addR (L++[r]) y a b=L++[r]++[⟨y,a,b⟩]:=by
  unfold addR
  rw [if_neg h]
  have e:(L++[r]).getLast? = some r:=by simp
  rw [e]
  simp only [if_neg h1]
theorem q6p (L:List Run):L=[]∨∃ K r,L=K++[r]:=by
  rcases List.eq_nil_or_concat L with h |⟨K,r,h⟩
  · exact .inl h
  · exact .inr ⟨K,r,by simpa using h⟩
theorem z61 {L:List Run} {y a b:Int} (h:okR L) (hu:upTo L y a) :
    okR (addR L y a b)∧(a<b→upTo (addR L y a b) y b)∧(∀ u v,hasR (addR L y a b) u v↔hasR L u v∨(v=y∧a≤u∧u<b)):=by
  by_cases hb:b≤a
  · rw [q7i hb]
    refine ⟨h,fun h'=>by omega,fun u v=>⟨.inl,?_⟩⟩
    rintro (h' |h')
    · exact h'
    · omega
  · rcases q6p L with rfl |⟨K,r,rfl⟩
    · rw [q6h hb]
      refine ⟨by simp [okR];omega,fun _ s hs=>?_,fun u v=>?_⟩
      · simp at hs;subst hs;simp
      · rw [q5h];simp only [q3a,false_or];omega
    · have hr:=hu r (by simp)
      obtain ⟨o1,o2,o3⟩:=okR_append.1 h
      by_cases hj:r.y=y∧a≤r.x1
      · rw [q5j hb hj.1 hj.2]
        have hm:max r.x1 b=b:=by omega
        rw [hm]
        refine ⟨okR_append.2 ⟨o1,?_,fun q hq s hs=>?_⟩,fun _ q hq=>?_,fun u v=>?_⟩
        · simp [okR] at o2 ⊢;omega
        · simp at hs;subst hs
          have:=o3 q hq r (by simp)
          simp only;omega
        · rcases List.mem_append.1 hq with hq |hq
          · have:=o3 q hq r (by simp)
            have:=hu q (by simp [hq])
            omega
          · simp at hq;subst hq;simp
        · rw [q20,q20,q5h,q5h]
          have o4:=o2.1
          simp only
          constructor
          · rintro (h1 |h1)
            · exact .inl (.inl h1)
            · by_cases hx:u<r.x1
              · exact .inl (.inr (by omega))
              · exact .inr (by omega)
          · rintro ((h1 |h1) |h1)
            · exact .inl h1
            · exact .inr (by omega)
            · exact .inr (by omega)
      · rw [q4t hb hj]
        refine ⟨okR_append.2 ⟨h,by simp [okR];omega,fun q hq s hs=>?_⟩,fun _ q hq=>?_,fun u v=>?_⟩
        · simp at hs;subst hs
          simp only
          have hq':=hu q hq
          rcases List.mem_append.1 hq with hq |hq
          · have:=o3 q hq r (by simp)
            have:=o2.1
            omega
          · simp at hq;subst hq
            omega
        · rcases List.mem_append.1 hq with hq |hq
          · have:=hu q hq;omega
          · simp at hq;subst hq;simp
        · rw [q20 (l:=[⟨y,a,b⟩]),q5h]
          simp only
          constructor
          · rintro (h1 |h1)
            · exact .inl h1
            · exact .inr (by omega)
          · rintro (h1 |h1)
            · exact .inl h1
            · exact .inr (by omega)
/-! ### Runs in memory as a list -/
def q36 (rs:Nat→Run) (n:Nat):List Run:=(List.range n).map rs
theorem x3w (rs:Nat→Run) (n:Nat):q36 rs (n+1)=q36 rs n++[rs n]:=by
  unfold q36;rw [List.range_succ,List.map_append];rfl
theorem mem_runsL {rs:Nat→Run} {n:Nat} {r:Run}:r∈q36 rs n↔∃ i,i<n∧rs i=r:=by simp [q36]
theorem q5k {rs:Nat→Run} {n:Nat} {x y:Int}:hasR (q36 rs n) x y↔∃ i,i<n∧(rs i).y=y∧(rs i).x0≤x∧x<(rs i).x1:=by
  unfold hasR
  constructor
  · rintro ⟨r,hr,h⟩
    obtain ⟨i,hi,rfl⟩:=mem_runsL.1 hr
    exact ⟨i,hi,h⟩
  · rintro ⟨i,hi,h⟩
    exact ⟨_,mem_runsL.2 ⟨i,hi,rfl⟩,h⟩
structure Valid (rs:Nat→Run) (n:Nat):Prop where
  bd:∀ i,i<n→(-8192≤(rs i).y∧(rs i).y≤8191)∧(-8192≤(rs i).x0∧(rs i).x0<(rs i).x1∧(rs i).x1≤8192)
  lt:∀ i j,i<j→j<n→(rs i).y<(rs j).y∨((rs i).y=(rs j).y∧(rs i).x1<(rs j).x0)
theorem Valid.ok {rs:Nat→Run}:∀ {n:Nat},Valid rs n→okR (q36 rs n)
  | 0,_=>trivial
  | n+1,h=>by
    rw [x3w]
    refine okR_append.2 ⟨Valid.ok ⟨fun i hi=>h.bd i (by omega),fun i j hij hj=>h.lt i j hij (by omega)⟩,?_,fun r hr s hs=>?_⟩
    · have:=(h.bd n (by omega)).2
      simp [okR];omega
    · simp at hs;subst hs
      obtain ⟨i,hi,rfl⟩:=mem_runsL.1 hr
      exact h.lt i n hi (by omega)
/-! ### The edges of a region -/
def q4h (y x y' x':Int):Prop:=y<y'∨(y=y'∧x≤x')
def q60 (y x y' x':Int):Prop:=y<y'∨(y=y'∧x<x')
instance {y x y' x'}:Decidable (q4h y x y' x'):=by unfold q4h;infer_instance
instance {y x y' x'}:Decidable (q60 y x y' x'):=by unfold q60;infer_instance
def eY (rs:Nat→Run) (i:Nat):Int:=(rs (i/2)).y
def eX (rs:Nat→Run) (i:Nat):Int:=if i%2=0 then (rs (i/2)).x0 else (rs (i/2)).x1
theorem z76 {rs:Nat→Run} {n:Nat} (h:Valid rs n) {i:Nat} (hi:i≤2*n) {x y:Int} (h1:∀ k,k<i→q4h (eY rs k) (eX rs k) y x) (h2:∀ k,i≤k→k<2*n→q60 y x (eY rs k) (eX rs k)) :
    hasR (q36 rs n) x y↔i%2=1:=by
  rw [q5k]
  constructor
  · rintro ⟨q,hq,h3,h4,h5⟩
    have g1:¬ i≤2*q:=fun hle=>by
      have:=h2 (2*q) hle (by omega)
      unfold q60 eY eX at this
      rw [show 2*q/2=q by omega,if_pos (by omega)] at this
      omega
    have g2:¬ 2*q+1<i:=fun hle=>by
      have:=h1 (2*q+1) hle
      unfold q4h eY eX at this
      rw [show (2*q+1)/2=q by omega,if_neg (by omega)] at this
      omega
    omega
  · intro ho
    refine ⟨i/2,by omega,?_⟩
    have g1:=h1 (i-1) (by omega)
    have g2:=h2 i (Nat.le_refl _) (by omega)
    unfold q4h eY eX at g1
    unfold q60 eY eX at g2
    rw [show (i-1)/2=i/2 by omega,if_pos (by omega)] at g1
    rw [if_neg (by omega)] at g2
    omega
end Go.Proofs.YtegpkpilfgohhaaGreat
