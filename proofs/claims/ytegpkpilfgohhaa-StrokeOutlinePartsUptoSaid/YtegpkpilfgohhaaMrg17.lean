/-
  Merged: XRegRef, XMixed2.
-/
import Derived.Test.YtegpkpilfgohhaaMrg15
import Derived.Test.YtegpkpilfgohhaaMrg16
set_option linter.unusedVariables false
set_option linter.unusedSimpArgs false
set_option linter.unnecessarySimpa false
namespace Go.Proofs.Ytegpkpilfgohhaa
open Go.RowKit
set_option maxRecDepth 20000
theorem RunsM.frozen {G:Mem} {A:Option Addr} {L:List Run} (h:q24 L=[]∨∃ b,A=some ⟨b,0,none⟩∧∀ (j:Nat) u,(q24 L)[j]? = some u→G.cell? ⟨b,j,none⟩=some u):RunsM G A L:=fun i r hr=>by
  obtain ⟨h1,h2,h3⟩:=z88 hr
  rcases h with h |⟨b,rfl,h⟩
  · rw [h] at h1;simp at h1
  · exact ⟨b,0,rfl,by rw [Nat.zero_add];exact h _ _ h1,by rw [Nat.zero_add];exact h _ _ h2,by rw [Nat.zero_add];exact h _ _ h3⟩
def inR (r:Run) (x y:Int):Bool:=decide (r.y=y∧r.x0≤x∧x<r.x1)
def hasL (L:List Run) (x y:Int):Bool:=L.any fun r=>inR r x y
theorem hasL_iff {L:List Run} {x y:Int}:hasL L x y=true↔hasR L x y:=by simp [hasL,hasR,inR]
end Go.Proofs.Ytegpkpilfgohhaa
namespace Go.Proofs.Ytegpkpilfgohhaa
theorem z89 (L:List Run):q3a (nthR L) L.length=L:=by
  apply List.ext_getElem?
  intro i
  unfold q3a
  rw [List.getElem?_map]
  by_cases h:i<L.length
  · rw [List.getElem?_range h,List.getElem?_eq_getElem h]
    simp [nthR,List.getElem?_eq_getElem h]
  · rw [List.getElem?_eq_none (by simpa using h),List.getElem?_eq_none (by omega)];rfl
def ValidL (L:List Run):Prop:=Valid (nthR L) L.length
theorem ValidL.ok {L:List Run} (h:ValidL L):okR L:=by have:=Valid.ok h;rwa [z89] at this
theorem ValidL.bd {L:List Run} (h:ValidL L) {r:Run} (hr:r∈L):(-8192≤r.y∧r.y≤8191)∧(-8192≤r.x0∧r.x0<r.x1∧r.x1≤8192):=by
  obtain ⟨i,hi⟩:=List.mem_iff_getElem?.1 hr
  have:=Valid.bd h i (List.getElem?_eq_some_iff.1 hi).1
  rwa [q8p hi] at this
theorem z9a {L:List Run} (h:okR L):∀ {i j:Nat} {r s:Run},i<j→L[i]? = some r→L[j]? = some s→r.y<s.y∨(r.y=s.y∧r.x1<s.x0):=by
  induction L with
  | nil=>intro i j r s _ hi;simp at hi
  | cons a l ih =>
    intro i j r s hij hi hj
    cases j with
    | zero=>omega
    | succ j =>
      cases i with
      | zero =>
        simp at hi;subst hi
        exact h.2.1 s (List.mem_of_getElem? (by simpa using hj))
      | succ i=>exact ih h.2.2 (i:=i) (j:=j) (by omega) (by simpa using hi) (by simpa using hj)
theorem ValidL.mk {L:List Run} (h:okR L) (hb:∀ r∈L,(-8192≤r.y∧r.y≤8191)∧(-8192≤r.x0∧r.x1≤8192)):ValidL L:=by
  refine ⟨fun i hi=>?_,fun i j hij hj=>?_⟩
  · have e:L[i]? = some L[i]:=List.getElem?_eq_getElem hi
    rw [q8p e]
    have h1:=hb _ (List.getElem_mem hi)
    have h2:=q93 h (List.getElem_mem hi)
    omega
  · have e:L[i]? = some L[i]:=List.getElem?_eq_getElem (by omega)
    have e':L[j]? = some L[j]:=List.getElem?_eq_getElem hj
    rw [q8p e,q8p e']
    exact z9a h hij e e'
theorem z59 {l:List Int} (h:l.Pairwise (·<·)) {B:Nat} (hb:∀ z∈l,0≤z∧z<B):l.length≤B:=by
  have key:∀ (l:List Int) (a:Int),l.Pairwise (·<·)→(∀ z∈l,a≤z∧z<B)→a≤B→(l.length:Int)≤B-a:=by
    intro l
    induction l with
    | nil=>intro a _ _ ha;simp;omega
    | cons x l ih =>
      intro a hp hz ha
      obtain ⟨h1,h2⟩:=List.pairwise_cons.1 hp
      have h3:=hz x (by simp)
      have:=ih (x+1) h2 (fun z hz'=>⟨by have:=h1 z hz';omega,(hz z (by simp [hz'])).2⟩) (by omega)
      simp;omega
  have:=key l 0 h hb (by omega)
  omega
theorem z7w {L:List Run} (h:okR L) (hb:∀ r∈L,(-8192≤r.y∧r.y≤8191)∧(-8192≤r.x0∧r.x1≤8192)):L.length≤268451840:=by
  have hp:(L.map fun r=>(r.y+8192)*16385+(r.x1+8192)).Pairwise (·<·):=by
    rw [List.pairwise_map,List.pairwise_iff_getElem]
    intro i j hi hj hij
    have h1:=z9a h hij (List.getElem?_eq_getElem hi) (List.getElem?_eq_getElem hj)
    have h2:=hb _ (List.getElem_mem hi)
    have h3:=hb _ (List.getElem_mem hj)
    have h4:=q93 h (List.getElem_mem hj)
    have h5:=q93 h (List.getElem_mem hi)
    omega
  have:=z59 hp (B:=268451840) (fun z hz=>by
    obtain ⟨r,hr,rfl⟩:=List.mem_map.1 hz
    have h1:=hb r hr
    have h2:=q93 h hr
    omega)
  simpa using this
theorem ValidL.length {L:List Run} (h:ValidL L):L.length≤268451840:=z7w h.ok fun r hr=>by have:=h.bd hr;omega
end Go.Proofs.Ytegpkpilfgohhaa
