/-
  Merged: XMath, XSees.
-/
import Derived.WalkKit
import Derived.ProofKit
import Derived.OpenShut
import Derived.Deep.Slices
set_option linter.unusedVariables false
set_option linter.unusedSimpArgs false
set_option linter.unnecessarySimpa false
namespace Go.Proofs.Ytegpkpilfgohhaa
open Go.RowKit
theorem z0z (a b:Int) (hb:1≤b):a/b=if a.tmod b<0 then a.tdiv b-1 else a.tdiv b:=by
  have hd:=Int.mul_tdiv_add_tmod a b
  have h1:a.tmod b<b:=Int.tmod_lt_of_pos a (by omega)
  have h2:-b<a.tmod b:=by
    have:=Int.tmod_lt_of_pos (-a) (b:=b) (by omega)
    rw [Int.neg_tmod] at this
    omega
  split
  · rename_i h
    refine ((Int.ediv_emod_unique (a:=a) (b:=b) (r:=a.tmod b+b) (q:=a.tdiv b-1) (by omega)).2 ⟨?_,?_,?_⟩).1
    · rw [Int.mul_sub];omega
    · omega
    · omega
  · rename_i h
    exact ((Int.ediv_emod_unique (a:=a) (b:=b) (r:=a.tmod b) (q:=a.tdiv b) (by omega)).2 ⟨by omega,by omega,by omega⟩).1
theorem z6z (a b:Int) (hb:1≤b):a%b=if a.tmod b<0 then a.tmod b+b else a.tmod b:=by
  have h:=z0z a b hb
  have hd:=Int.mul_tdiv_add_tmod a b
  have he:=Int.mul_ediv_add_emod a b
  split at h
  · rename_i h1;rw [if_pos h1];rw [h,Int.mul_sub] at he;omega
  · rename_i h1;rw [if_neg h1];rw [h] at he;omega
theorem z4j (a b:Int) (hb:1≤b):(0≤a→0≤a/b∧a/b≤a)∧(a≤0→a≤a/b∧a/b≤0):=by
  refine ⟨fun h=>⟨Int.ediv_nonneg h (by omega),Int.ediv_le_self b h⟩,fun h=>⟨?_,?_⟩⟩
  · refine Int.le_ediv_of_mul_le (by omega) ?_
    have:=Int.mul_le_mul_of_nonpos_left (a:=a) h (c:=1) (b:=b) (by omega)
    omega
  · have hm:=Int.emod_nonneg a (b:=b) (by omega)
    have he:=Int.mul_ediv_add_emod a b
    by_cases h0:a/b≤0
    · exact h0
    · have:b*1≤b*(a/b):=Int.mul_le_mul_of_nonneg_left (by omega) (by omega)
      omega
theorem z8y (a b:Int) (hb:1≤b):(0≤a→0≤a.tdiv b∧a.tdiv b≤a)∧(a≤0→a≤a.tdiv b∧a.tdiv b≤0):=by
  have h:=z4j a b hb
  have h':=z4j (-a) b hb
  constructor
  · intro h0;rw [Int.tdiv_eq_ediv_of_nonneg h0];exact h.1 h0
  · intro h0
    have e:a.tdiv b=-((-a)/b):=by
      rw [← Int.tdiv_eq_ediv_of_nonneg (by omega),Int.neg_tdiv];omega
    have:=h'.1 (by omega)
    rw [e];omega
theorem z3f (a b:Int) (hb:1≤b):(a-a%b).tdiv b=a/b:=by
  have he:=Int.mul_ediv_add_emod a b
  have:a-a%b=b*(a/b):=by omega
  rw [this,Int.mul_tdiv_cancel_left _ (by omega)]
theorem z9v (a b:Int) (hb:1≤b):-b<a.tmod b∧a.tmod b<b:=by
  have h1:a.tmod b<b:=Int.tmod_lt_of_pos a (by omega)
  have:=Int.tmod_lt_of_pos (-a) (b:=b) (by omega)
  rw [Int.neg_tmod] at this
  exact ⟨by omega,h1⟩
theorem q4v {k:IntKind} {a b:Int} (h:a=b):Ending.returned (.int k a)=.returned (.int k b):=by rw [h]
end Go.Proofs.Ytegpkpilfgohhaa
namespace Go.Proofs.Ytegpkpilfgohhaa
open Go.RowKit Go.ChangeShapes Go.WideShapes Go.Deep
def Sees (P:Program) (w:World):Nat→TypeId→List Value→Prop
  | 0,_,_=>False
  | n+1,t,cs=>match P.underlying t with
    | some (.int k)=>∃ a,cs=[.int k a]∧(Lit.int k a).wf=true
    | some .bool=>∃ b,cs=[.bool b]
    | some .string=>∃ s,cs=[.string s]∧s.size≤maxLen
    | some (.struct fs)=>cs.length=P.cellsOf t∧∀ (i:Nat) (f:Field),fs[i]? = some f→Sees P w n f.type ((cs.drop f.offset).take (P.cellsOf f.type))
    | some (.array m e)=>cs.length=P.cellsOf t∧∀ i,i<m→Sees P w n e ((cs.drop (i*P.cellsOf e)).take (P.cellsOf e))
    | some (.slice e)=>cs=[.slice none 0 0]∨∃ a len cap,cs=[.slice (some a) len cap]∧len≤cap∧cap≤maxLen ∧
        ∀ i,i<len→∃ cs',cs'.length=P.cellsOf e∧(∀ j,j<P.cellsOf e→w.cell? (a.add (i*P.cellsOf e+j))=cs'[j]?)∧Sees P w n e cs'
    | _=>True
section
variable {H:Type} {enc:TypeId × Value→H} {P:Program} {w:World} {base:Nat} {spare:Nat→Bool} {held:Bool}
theorem q4f:∀ (n fuel:Nat) (t:TypeId) (cs:List Value) (x:DataW H × List MemPlace),fuel≤n→DataW.trod enc P w base spare held fuel t cs=some x→Sees P w n t cs
  | 0,fuel,t,cs,x,hf,h=>by
    have:fuel=0:=by omega
    subst this;simp [DataW.trod] at h
  | n+1,fuel,t,cs,x,hf,h=>by
    unfold Sees
    split
    · rename_i k ht;obtain ⟨a,h1,_,h2⟩:=DataW.trod_int ht h;exact ⟨a,h1,h2⟩
    · rename_i ht;obtain ⟨b,h1,_⟩:=DataW.trod_bool ht h;exact ⟨b,h1⟩
    · rename_i ht;obtain ⟨s,h1,_,h2⟩:=DataW.trod_string ht h;exact ⟨s,h1,h2⟩
    · rename_i fs ht
      obtain ⟨xs,m,hm,_,hl,hxl,hg⟩:=DataW.trod_struct ht h
      refine ⟨hl,fun i f hi=>?_⟩
      have hlt:i<xs.length:=by rw [hxl];exact (Array.getElem?_eq_some_iff.1 hi).1
      have:=hg i f hi
      rw [List.getElem?_eq_getElem hlt] at this
      exact q4f n m _ _ _ (by omega) this
    · rename_i m e ht
      obtain ⟨xs,k,hm,_,hl,hxl,hg⟩:=DataW.trod_array ht h
      refine ⟨hl,fun i hi=>?_⟩
      have:=hg i hi
      rw [List.getElem?_eq_getElem (by omega)] at this
      exact q4f n k _ _ _ (by omega) this
    · rename_i e ht
      rcases DataW.trod_slice ht h with ⟨h1,_⟩ |⟨a,len,cap,elems,rest,k,hk,h1,_,hb,hlc,hcm,hel,hg,_,_⟩
      · exact .inl h1
      · refine .inr ⟨a,len,cap,h1,hlc,hcm,fun i hi=>?_⟩
        have:=hg i hi
        rw [List.getElem?_eq_getElem (by omega)] at this
        obtain ⟨cs',hc,ht'⟩:=Option.bind_eq_some_iff.1 this
        obtain ⟨_,hcl,hat⟩:=World.cells?_some hc
        refine ⟨cs',hcl,fun j hj=>?_,q4f n k _ _ _ (by omega) ht'⟩
        rw [← add_add];exact hat j hj
    · trivial
theorem z4k {t:TypeId} {v:Value} {d:DataW H} {ps:List MemPlace} (h:DataW.Trod enc P w base spare held t v d ps):∃ n,Sees P w n t v.cells.toList:=by
  obtain ⟨fuel,hf⟩:=h
  exact ⟨fuel,q4f fuel fuel _ _ _ (Nat.le_refl _) hf⟩
end
section
variable {P:Program} {w:World} {n:Nat} {t:TypeId} {cs:List Value}
theorem Sees.int {k:IntKind} (ht:P.underlying t=some (.int k)) (h:Sees P w n t cs):∃ a,cs=[.int k a]∧(Lit.int k a).wf=true:=by
  cases n with
  | zero=>exact h.elim
  | succ n=>unfold Sees at h;rw [ht] at h;exact h
theorem Sees.bool (ht:P.underlying t=some .bool) (h:Sees P w n t cs):∃ b,cs=[.bool b]:=by
  cases n with
  | zero=>exact h.elim
  | succ n=>unfold Sees at h;rw [ht] at h;exact h
theorem Sees.string (ht:P.underlying t=some .string) (h:Sees P w n t cs):∃ s,cs=[.string s]∧s.size≤maxLen:=by
  cases n with
  | zero=>exact h.elim
  | succ n=>unfold Sees at h;rw [ht] at h;exact h
theorem Sees.struct {fs:Array Field} (ht:P.underlying t=some (.struct fs)) (h:Sees P w n t cs):cs.length=P.cellsOf t∧∃ m,∀ (i:Nat) (f:Field),fs[i]? = some f→Sees P w m f.type ((cs.drop f.offset).take (P.cellsOf f.type)):=by
  cases n with
  | zero=>exact h.elim
  | succ n=>unfold Sees at h;rw [ht] at h;exact ⟨h.1,n,h.2⟩
theorem Sees.array {m:Nat} {e:TypeId} (ht:P.underlying t=some (.array m e)) (h:Sees P w n t cs):cs.length=P.cellsOf t∧∃ k,∀ i,i<m→Sees P w k e ((cs.drop (i*P.cellsOf e)).take (P.cellsOf e)):=by
  cases n with
  | zero=>exact h.elim
  | succ n=>unfold Sees at h;rw [ht] at h;exact ⟨h.1,n,h.2⟩
theorem Sees.slice {e:TypeId} (ht:P.underlying t=some (.slice e)) (h:Sees P w n t cs):cs=[.slice none 0 0]∨∃ a len cap,cs=[.slice (some a) len cap]∧len≤cap∧cap≤maxLen ∧
    ∃ m,∀ i,i<len→∃ cs',cs'.length=P.cellsOf e∧(∀ j,j<P.cellsOf e→w.cell? (a.add (i*P.cellsOf e+j))=cs'[j]?)∧Sees P w m e cs':=by
  cases n with
  | zero=>exact h.elim
  | succ n =>
    unfold Sees at h;rw [ht] at h
    rcases h with h |⟨a,len,cap,h1,h2,h3,h4⟩
    · exact .inl h
    · exact .inr ⟨a,len,cap,h1,h2,h3,n,h4⟩
theorem Sees.ints {k:IntKind} {fs:Array Field} (ht:P.underlying t=some (.struct fs)) (hC:P.cellsOf t=fs.size)
    (hf:∀ (i:Nat) (f:Field),fs[i]? = some f→f.offset=i∧P.cellsOf f.type=1∧P.underlying f.type=some (.int k)) (h:Sees P w n t cs) :
    ∃ zs:List Int,zs.length=fs.size∧cs=zs.map (.int k)∧∀ z∈zs,(Lit.int k z).wf=true:=by
  obtain ⟨hl,m,hm⟩:=h.struct ht
  have key:∀ i,i<cs.length→∃ a,cs[i]? = some (.int k a)∧(Lit.int k a).wf=true:=by
    intro i hi
    have hi':i<fs.size:=by omega
    obtain ⟨ho,hc,hu⟩:=hf i fs[i] (Array.getElem?_eq_getElem hi')
    obtain ⟨a,ha,hw⟩:=(hm i fs[i] (Array.getElem?_eq_getElem hi')).int hu
    rw [ho,hc] at ha
    refine ⟨a,?_,hw⟩
    have:((cs.drop i).take 1)[0]? = some (.int k a):=by rw [ha];rfl
    simpa using this
  have hz:∃ zs:List Int,zs.length=cs.length∧cs=zs.map (.int k)∧∀ z∈zs,(Lit.int k z).wf=true:=by
    clear hm hl hf hC ht h
    induction cs with
    | nil=>exact ⟨[],rfl,rfl,by simp⟩
    | cons c cs ih =>
      obtain ⟨a,ha,hw⟩:=key 0 (by simp)
      obtain ⟨zs,h1,h2,h3⟩:=ih (fun i hi=>by have:=key (i+1) (by simpa using hi);simpa using this)
      refine ⟨a::zs,by simp [h1],?_,?_⟩
      · simp at ha;simp [ha,← h2]
      · intro z hz
        rcases List.mem_cons.1 hz with rfl |hz
        · exact hw
        · exact h3 z hz
  obtain ⟨zs,h1,h2,h3⟩:=hz
  exact ⟨zs,by omega,h2,h3⟩
end
end Go.Proofs.Ytegpkpilfgohhaa
