/-
  What the walk is told of a value that came in: its cells, by its type. No program in sight.
-/
import Derived.WalkKit
import Derived.ProofKit
import Derived.OpenShut
import Derived.Deep.Slices
set_option linter.unusedVariables false
set_option linter.unusedSimpArgs false
set_option linter.unnecessarySimpa false
namespace Go.Proofs.YtpdneadfllcpfaaGreatDoor
open Go.RowKit Go.ChangeShapes Go.WideShapes Go.Deep
def Sees (P:Program) (w:World):Nat→TypeId→List Value→Prop
  | 0,_,_=>False
  | n+1,t,cs=>match P.underlying t with
    | some (.int k)=>∃ a,cs=[.int k a]∧(Lit.int k a).wf=true
    | some .bool=>∃ b,cs=[.bool b]
    | some .string=>∃ s,cs=[.string s]∧s.size≤maxLen
    | some (.struct fs)=>cs.length=P.cellsOf t∧∀ (i:Nat) (f:Field),fs[i]? = some f→Sees P w n f.type ((cs.drop f.offset).take (P.cellsOf f.type))
    | some (.array m e)=>cs.length=P.cellsOf t∧∀ i,i<m→Sees P w n e ((cs.drop (i*P.cellsOf e)).take (P.cellsOf e))
    | some (.slice e)=>cs=[.slice none 0 0]∨∃ a len cap,cs=[.slice (some a) len cap]∧len≤cap∧cap≤maxLen ∧
        ∀ i,i<len→∃ cs',cs'.length=P.cellsOf e∧(∀ j,j<P.cellsOf e→w.cell? (a.add (i*P.cellsOf e+j))=cs'[j]?)∧Sees P w n e cs'
    | _=>True
section
variable {H:Type} {enc:TypeId × Value→H} {P:Program} {w:World} {base:Nat} {spare:Nat→Bool} {held:Bool}
theorem q2p:∀ (n fuel:Nat) (t:TypeId) (cs:List Value) (x:DataW H × List MemPlace),fuel≤n→DataW.trod enc P w base spare held fuel t cs=some x→Sees P w n t cs
  | 0,fuel,t,cs,x,hf,h=>by
    have:fuel=0:=by omega
    subst this;simp [DataW.trod] at h
  | n+1,fuel,t,cs,x,hf,h=>by
    unfold Sees
    split
    · rename_i k ht;obtain ⟨a,h1,_,h2⟩:=DataW.trod_int ht h;exact ⟨a,h1,h2⟩
    · rename_i ht;obtain ⟨b,h1,_⟩:=DataW.trod_bool ht h;exact ⟨b,h1⟩
    · rename_i ht;obtain ⟨s,h1,_,h2⟩:=DataW.trod_string ht h;exact ⟨s,h1,h2⟩
    · rename_i fs ht
      obtain ⟨xs,m,hm,_,hl,hxl,hg⟩:=DataW.trod_struct ht h
      refine ⟨hl,fun i f hi=>?_⟩
      have hlt:i<xs.length:=by rw [hxl];exact (Array.getElem?_eq_some_iff.1 hi).1
      have:=hg i f hi
      rw [List.getElem?_eq_getElem hlt] at this
      exact q2p n m _ _ _ (by omega) this
    · rename_i m e ht
      obtain ⟨xs,k,hm,_,hl,hxl,hg⟩:=DataW.trod_array ht h
      refine ⟨hl,fun i hi=>?_⟩
      have:=hg i hi
      rw [List.getElem?_eq_getElem (by omega)] at this
      exact q2p n k _ _ _ (by omega) this
    · rename_i e ht
      rcases DataW.trod_slice ht h with ⟨h1,_⟩ |⟨a,len,cap,elems,rest,k,hk,h1,_,hb,hlc,hcm,hel,hg,_,_⟩
      · exact .inl h1
      · refine .inr ⟨a,len,cap,h1,hlc,hcm,fun i hi=>?_⟩
        have:=hg i hi
        rw [List.getElem?_eq_getElem (by omega)] at this
        obtain ⟨cs',hc,ht'⟩:=Option.bind_eq_some_iff.1 this
        obtain ⟨_,hcl,hat⟩:=World.cells?_some hc
        refine ⟨cs',hcl,fun j hj=>?_,q2p n k _ _ _ (by omega) ht'⟩
        rw [← add_add];exact hat j hj
    · trivial
theorem q9x {t:TypeId} {v:Value} {d:DataW H} {ps:List MemPlace} (h:DataW.Trod enc P w base spare held t v d ps):∃ n,Sees P w n t v.cells.toList:=by
  obtain ⟨fuel,hf⟩:=h
  exact ⟨fuel,q2p fuel fuel _ _ _ (Nat.le_refl _) hf⟩
end
section
variable {P:Program} {w:World} {n:Nat} {t:TypeId} {cs:List Value}
theorem Sees.int {k:IntKind} (ht:P.underlying t=some (.int k)) (h:Sees P w n t cs):∃ a,cs=[.int k a]∧(Lit.int k a).wf=true:=by
  cases n with
  | zero=>exact h.elim
  | succ n=>unfold Sees at h;rw [ht] at h;exact h
theorem Sees.bool (ht:P.underlying t=some .bool) (h:Sees P w n t cs):∃ b,cs=[.bool b]:=by
  cases n with
  | zero=>exact h.elim
  | succ n=>unfold Sees at h;rw [ht] at h;exact h
theorem Sees.string (ht:P.underlying t=some .string) (h:Sees P w n t cs):∃ s,cs=[.string s]∧s.size≤maxLen:=by
  cases n with
  | zero=>exact h.elim
  | succ n=>unfold Sees at h;rw [ht] at h;exact h
theorem Sees.struct {fs:Array Field} (ht:P.underlying t=some (.struct fs)) (h:Sees P w n t cs):cs.length=P.cellsOf t∧∃ m,∀ (i:Nat) (f:Field),fs[i]? = some f→Sees P w m f.type ((cs.drop f.offset).take (P.cellsOf f.type)):=by
  cases n with
  | zero=>exact h.elim
  | succ n=>unfold Sees at h;rw [ht] at h;exact ⟨h.1,n,h.2⟩
theorem Sees.array {m:Nat} {e:TypeId} (ht:P.underlying t=some (.array m e)) (h:Sees P w n t cs):cs.length=P.cellsOf t∧∃ k,∀ i,i<m→Sees P w k e ((cs.drop (i*P.cellsOf e)).take (P.cellsOf e)):=by
  cases n with
  | zero=>exact h.elim
  | succ n=>unfold Sees at h;rw [ht] at h;exact ⟨h.1,n,h.2⟩
theorem Sees.slice {e:TypeId} (ht:P.underlying t=some (.slice e)) (h:Sees P w n t cs):cs=[.slice none 0 0]∨∃ a len cap,cs=[.slice (some a) len cap]∧len≤cap∧cap≤maxLen ∧
    ∃ m,∀ i,i<len→∃ cs',cs'.length=P.cellsOf e∧(∀ j,j<P.cellsOf e→w.cell? (a.add (i*P.cellsOf e+j))=cs'[j]?)∧Sees P w m e cs':=by
  cases n with
  | zero=>exact h.elim
  | succ n =>
    unfold Sees at h;rw [ht] at h
    rcases h with h |⟨a,len,cap,h1,h2,h3,h4⟩
    · exact .inl h
    · exact .inr ⟨a,len,cap,h1,h2,h3,n,h4⟩
end
end Go.Proofs.YtpdneadfllcpfaaGreatDoor
