/-
  Merged: XRegRef, XMixed2.
-/
import Derived.Test.YtbkhpddodmbdoaaMrg8
import Derived.Test.YtbkhpddodmbdoaaMrg9
set_option linter.unusedVariables false
set_option linter.unusedSimpArgs false
set_option linter.unnecessarySimpa false
namespace Go.Proofs.Ytbkhpddodmbdoaa
open Go.RowKit
set_option maxRecDepth 20000
theorem RunsM.frozen {G:Mem} {A:Option Addr} {L:List Run} (h:q0o L=[]∨∃ b,A=some ⟨b,0,none⟩∧∀ (j:Nat) u,(q0o L)[j]? = some u→G.cell? ⟨b,j,none⟩=some u):RunsM G A L:=fun i r hr=>by
  obtain ⟨h1,h2,h3⟩:=q3q hr
  rcases h with h |⟨b,rfl,h⟩
  · rw [h] at h1;simp at h1
  · exact ⟨b,0,rfl,by rw [Nat.zero_add];exact h _ _ h1,by rw [Nat.zero_add];exact h _ _ h2,by rw [Nat.zero_add];exact h _ _ h3⟩
def inR (r:Run) (x y:Int):Bool:=decide (r.y=y∧r.x0≤x∧x<r.x1)
def hasL (L:List Run) (x y:Int):Bool:=L.any fun r=>inR r x y
theorem hasL_iff {L:List Run} {x y:Int}:hasL L x y=true↔hasR L x y:=by simp [hasL,hasR,inR]
theorem x18 {rs:Nat→Run} {n:Nat} {x y:Int}:hasL (q2s rs n) x y=hasB rs n x y:=by
  cases h:hasB rs n x y with
  | true=>exact hasL_iff.2 (hasB_iff.1 h)
  | false =>
    cases h2:hasL (q2s rs n) x y with
    | false=>rfl
    | true=>rw [hasB_iff.2 (hasL_iff.1 h2)] at h;cases h
theorem x19 {L:List Run} {x y:Int} (h:∀ (i:Nat) r,L[i]? = some r→inR r x y=false):hasL L x y=false:=by
  cases h2:hasL L x y with
  | false=>rfl
  | true =>
    obtain ⟨r,h3,h4⟩:=List.any_eq_true.1 h2
    obtain ⟨i,hi⟩:=List.mem_iff_getElem?.1 h3
    rw [h i r hi] at h4;cases h4
theorem x2a {L:List Run} {x y:Int} {i:Nat} {r:Run} (h:L[i]? = some r) (h2:inR r x y=true):hasL L x y=true:=List.any_eq_true.2 ⟨r,List.mem_of_getElem? h,h2⟩
set_option maxHeartbeats 1000000 in
theorem q5h (A:Option Addr) (L:List Run) (cap:Nat) (x y:Int) (G:Mem) (hR:RunsM G A L) (hl:L.length≤1000000000000):Gives Try.prog 19 [.val (.slice A L.length cap),.val (.int .i64 x),.val (.int .i64 y)] G (.val (.bool (hasL L x y))):=by
  refine q1n tab_ok Try.func19 ?_
  (repeat ((try (conv=>whnf));(refine stQ ?_)))
  conv=>whnf
  refine q05 tab_ok (fun i=>i≤L.length∧∀ (j:Nat) r,j<i→L[j]? = some r→inR r x y=false) (fun (i:Nat)=>[(10,.val (.int .i64 i))]) (fun i=>[]) (fun i=>L.length-i) 0 ⟨Nat.zero_le _,fun j z hj=>by omega⟩ ?_ ?_
  · ((refine q0h ?_);(conv=>whnf);(refine q0k (by rfl) (by rfl) flQ ?_))
    exact q0g
  · rintro i ⟨hi,hno⟩
    rcases Nat.lt_or_ge i L.length with h1 |h1
    · obtain ⟨r,hr⟩:∃ r,L[i]? = some r:=⟨L[i],List.getElem?_eq_getElem h1⟩
      obtain ⟨p,rfl,c0,c1,c2⟩:=hR.at_ hr
      have next:inR r x y=false→∀ (j:Nat) q,j<i+1→L[j]? = some q→inR q x y=false:=fun h j q hj hq=>by
        rcases Nat.lt_or_ge j i with h2 |h2
        · exact hno j q h2 hq
        · have:j=i:=by omega
          subst this;rw [hr] at hq;cases hq;exact h
      by_cases e1:r.y=y
      · by_cases e2:r.x0≤x
        · by_cases e3:x<r.x1
          · (repeat ((try (conv=>whnf));(refine stQ ?_)))
            conv=>whnf
            refine q0d _ c0 ?_
            (repeat ((try (conv=>whnf));(refine stQ ?_)))
            conv=>whnf
            refine q0d _ c1 ?_
            (repeat ((try (conv=>whnf));(refine stQ ?_)))
            conv=>whnf
            refine q0d _ c2 ?_
            (repeat ((try (conv=>whnf));(refine stQ ?_)))
            exact ⟨by rw [x2a hr (by simp [inR];omega)],rfl⟩
          · (repeat ((try (conv=>whnf));(refine stQ ?_)))
            conv=>whnf
            refine q0d _ c0 ?_
            (repeat ((try (conv=>whnf));(refine stQ ?_)))
            conv=>whnf
            refine q0d _ c1 ?_
            (repeat ((try (conv=>whnf));(refine stQ ?_)))
            conv=>whnf
            refine q0d _ c2 ?_
            (repeat ((try (conv=>whnf));(refine stQ ?_)))
            refine ⟨i+1,⟨by omega,next (by simp [inR];omega)⟩,by omega,?_⟩
            ((refine q0h ?_);(conv=>whnf);(refine q0k (by rfl) (by rfl) flQ ?_))
            exact q0g
        · (repeat ((try (conv=>whnf));(refine stQ ?_)))
          conv=>whnf
          refine q0d _ c0 ?_
          (repeat ((try (conv=>whnf));(refine stQ ?_)))
          conv=>whnf
          refine q0d _ c1 ?_
          (repeat ((try (conv=>whnf));(refine stQ ?_)))
          refine ⟨i+1,⟨by omega,next (by simp [inR];omega)⟩,by omega,?_⟩
          ((refine q0h ?_);(conv=>whnf);(refine q0k (by rfl) (by rfl) flQ ?_))
          exact q0g
      · (repeat ((try (conv=>whnf));(refine stQ ?_)))
        conv=>whnf
        refine q0d _ c0 ?_
        (repeat ((try (conv=>whnf));(refine stQ ?_)))
        refine ⟨i+1,⟨by omega,next (by simp [inR,e1])⟩,by omega,?_⟩
        ((refine q0h ?_);(conv=>whnf);(refine q0k (by rfl) (by rfl) flQ ?_))
        exact q0g
    · (repeat ((try (conv=>whnf));(refine stQ ?_)))
      exact ⟨by rw [x19 fun j r hr=>hno j r (by have:=(List.getElem?_eq_some_iff.1 hr).1;omega) hr],rfl⟩
end Go.Proofs.Ytbkhpddodmbdoaa
namespace Go.Proofs.Ytbkhpddodmbdoaa
theorem z5t (L:List Run):q2s (nthR L) L.length=L:=by
  apply List.ext_getElem?
  intro i
  unfold q2s
  rw [List.getElem?_map]
  by_cases h:i<L.length
  · rw [List.getElem?_range h,List.getElem?_eq_getElem h]
    simp [nthR,List.getElem?_eq_getElem h]
  · rw [List.getElem?_eq_none (by simpa using h),List.getElem?_eq_none (by omega)];rfl
theorem q4a (L:List Run) (x y:Int):hasB (nthR L) L.length x y=hasL L x y:=by rw [← x18,z5t]
def ValidL (L:List Run):Prop:=Valid (nthR L) L.length
theorem ValidL.ok {L:List Run} (h:ValidL L):okR L:=by have:=Valid.ok h;rwa [z5t] at this
theorem ValidL.bd {L:List Run} (h:ValidL L) {r:Run} (hr:r∈L):(-8192≤r.y∧r.y≤8191)∧(-8192≤r.x0∧r.x0<r.x1∧r.x1≤8192):=by
  obtain ⟨i,hi⟩:=List.mem_iff_getElem?.1 hr
  have:=Valid.bd h i (List.getElem?_eq_some_iff.1 hi).1
  rwa [q39 hi] at this
theorem q9j {L:List Run} (h:okR L):∀ {i j:Nat} {r s:Run},i<j→L[i]? = some r→L[j]? = some s→r.y<s.y∨(r.y=s.y∧r.x1<s.x0):=by
  induction L with
  | nil=>intro i j r s _ hi;simp at hi
  | cons a l ih =>
    intro i j r s hij hi hj
    cases j with
    | zero=>omega
    | succ j =>
      cases i with
      | zero =>
        simp at hi;subst hi
        exact h.2.1 s (List.mem_of_getElem? (by simpa using hj))
      | succ i=>exact ih h.2.2 (i:=i) (j:=j) (by omega) (by simpa using hi) (by simpa using hj)
theorem ValidL.mk {L:List Run} (h:okR L) (hb:∀ r∈L,(-8192≤r.y∧r.y≤8191)∧(-8192≤r.x0∧r.x1≤8192)):ValidL L:=by
  refine ⟨fun i hi=>?_,fun i j hij hj=>?_⟩
  · have e:L[i]? = some L[i]:=List.getElem?_eq_getElem hi
    rw [q39 e]
    have h1:=hb _ (List.getElem_mem hi)
    have h2:=q2v h (List.getElem_mem hi)
    omega
  · have e:L[i]? = some L[i]:=List.getElem?_eq_getElem (by omega)
    have e':L[j]? = some L[j]:=List.getElem?_eq_getElem hj
    rw [q39 e,q39 e']
    exact q9j h hij e e'
theorem q9c {l:List Int} (h:l.Pairwise (·<·)) {B:Nat} (hb:∀ z∈l,0≤z∧z<B):l.length≤B:=by
  have key:∀ (l:List Int) (a:Int),l.Pairwise (·<·)→(∀ z∈l,a≤z∧z<B)→a≤B→(l.length:Int)≤B-a:=by
    intro l
    induction l with
    | nil=>intro a _ _ ha;simp;omega
    | cons x l ih =>
      intro a hp hz ha
      obtain ⟨h1,h2⟩:=List.pairwise_cons.1 hp
      have h3:=hz x (by simp)
      have:=ih (x+1) h2 (fun z hz'=>⟨by have:=h1 z hz';omega,(hz z (by simp [hz'])).2⟩) (by omega)
      simp;omega
  have:=key l 0 h hb (by omega)
  omega
theorem z30 {L:List Run} (h:okR L) (hb:∀ r∈L,(-8192≤r.y∧r.y≤8191)∧(-8192≤r.x0∧r.x1≤8192)):L.length≤268451840:=by
  have hp:(L.map fun r=>(r.y+8192)*16385+(r.x1+8192)).Pairwise (·<·):=by
    rw [List.pairwise_map,List.pairwise_iff_getElem]
    intro i j hi hj hij
    have h1:=q9j h hij (List.getElem?_eq_getElem hi) (List.getElem?_eq_getElem hj)
    have h2:=hb _ (List.getElem_mem hi)
    have h3:=hb _ (List.getElem_mem hj)
    have h4:=q2v h (List.getElem_mem hj)
    have h5:=q2v h (List.getElem_mem hi)
    omega
  have:=q9c hp (B:=268451840) (fun z hz=>by
    obtain ⟨r,hr,rfl⟩:=List.mem_map.1 hz
    have h1:=hb r hr
    have h2:=q2v h hr
    omega)
  simpa using this
theorem ValidL.length {L:List Run} (h:ValidL L):L.length≤268451840:=z30 h.ok fun r hr=>by have:=h.bd hr;omega
def opB (c:Int) (p q:Bool):Bool:=if c=1 then p&&q else if c=2 then p&&!q else if c=3 then p != q else p||q
theorem q5v (c:Int):opB c false false=false:=by unfold opB;split <;> (try split) <;> (try split) <;> rfl
theorem x45 {c:Int} {p q:Bool} (h:opB c p q=true):p=true∨q=true:=by
  cases p
  · cases q
    · rw [q5v] at h;cases h
    · exact .inr rfl
  · exact .inl rfl
theorem x3r {op:Bool→Bool→Bool} (hop:op false false=false) {ra rb:Nat→Run} {n m:Nat} (va:Valid ra n) (vb:Valid rb m):∀ (k i j:Nat) (fy fx:Int) (out:List Run),(2*n-i)+(2*m-j)=k→Sweep op ra rb n m i j fy fx out→∃ M,okR M∧∀ x y,hasR M x y↔op (hasB ra n x y) (hasB rb m x y)=true:=by
  intro k
  induction k with
  | zero =>
    intro i j fy fx out hk h
    have h1:=h.hi
    have h2:=h.hj
    have e1:i=2*n:=by omega
    have e2:j=2*m:=by omega
    subst e1;subst e2
    exact ⟨out,h.done hop va vb⟩
  | succ k ih =>
    intro i j fy fx out hk h
    have h1:=h.hi
    have h2:=h.hj
    by_cases hA:i<2*n∧(j<2*m→q09 (eY ra i) (eX ra i) (eY rb j) (eX rb j))
    · exact ih (i+1) j _ _ _ (by omega) (h.stepA hop va vb hA.1 hA.2)
    · by_cases hB:j<2*m
      · refine ih i (j+1) _ _ _ (by omega) (h.stepB hop va vb hB fun hi=>?_)
        have:¬ q09 (eY ra i) (eX ra i) (eY rb j) (eX rb j):=fun hle=>hA ⟨hi,fun _=>hle⟩
        unfold q09 at *;omega
      · exact absurd ⟨by omega,fun h=>absurd h hB⟩ hA
theorem x2b {c:Int} {La Lb:List Run} (va:ValidL La) (vb:ValidL Lb):∃ M,okR M∧∀ x y,hasR M x y↔opB c (hasL La x y) (hasL Lb x y)=true:=by
  obtain ⟨M,h1,h2⟩:=x3r (op:=opB c) (q5v c) va vb _ 0 0 0 0 [] rfl (Sweep.start _ _ _ _ _ _ _)
  exact ⟨M,h1,fun x y=>by rw [h2,q4a,q4a]⟩
open Classical in
noncomputable def mixR (c:Int) (La Lb:List Run):List Run:=if h:∃ M,okR M∧∀ x y,hasR M x y↔opB c (hasL La x y) (hasL Lb x y)=true then h.choose else []
theorem q44 {c:Int} {La Lb:List Run} (va:ValidL La) (vb:ValidL Lb):okR (mixR c La Lb)∧∀ x y,hasR (mixR c La Lb) x y↔opB c (hasL La x y) (hasL Lb x y)=true:=by
  unfold mixR
  rw [dif_pos (x2b va vb)]
  exact (x2b (c:=c) va vb).choose_spec
theorem z9t {c:Int} {La Lb M:List Run} (va:ValidL La) (vb:ValidL Lb) (h:okR M) (h2:∀ x y,hasR M x y↔opB c (hasL La x y) (hasL Lb x y)=true):M=mixR c La Lb :=
  z1x h (q44 va vb).1 fun x y=>(h2 x y).trans ((q44 va vb).2 x y).symm
theorem x2c {L:List Run} (h:ValidL L) {x y:Int} (hx:hasL L x y=true):(-8192≤y∧y≤8191)∧(-8192≤x∧x≤8191):=by
  obtain ⟨r,hr,h1,h2,h3⟩:=hasL_iff.1 hx
  have:=h.bd hr
  omega
theorem z7w {c:Int} {La Lb M:List Run} (va:ValidL La) (vb:ValidL Lb) (h:okR M) (h2:∀ x y,hasR M x y→opB c (hasL La x y) (hasL Lb x y)=true):∀ r∈M,(-8192≤r.y∧r.y≤8191)∧(-8192≤r.x0∧r.x1≤8192):=fun r hr=>by
  have hlt:=q2v h hr
  have key:∀ x,r.x0≤x→x<r.x1→(-8192≤r.y∧r.y≤8191)∧(-8192≤x∧x≤8191):=fun x h3 h4=>by
    rcases x45 (h2 x r.y ⟨r,hr,rfl,h3,h4⟩) with h5 |h5
    · exact x2c va h5
    · exact x2c vb h5
  have k1:=key r.x0 (Int.le_refl _) hlt
  have k2:=key (r.x1-1) (by omega) (by omega)
  omega
theorem x0p {c:Int} {La Lb:List Run} (va:ValidL La) (vb:ValidL Lb):ValidL (mixR c La Lb) :=
  ValidL.mk (q44 va vb).1 (z7w va vb (q44 va vb).1 fun x y h=>((q44 va vb).2 x y).1 h)
end Go.Proofs.Ytbkhpddodmbdoaa
