/-
  Merged: XMath, XSees, XRuns, XRecs.
-/
import Derived.WalkKit
import Derived.ProofKit
import Derived.OpenShut
import Derived.Deep.Slices
set_option linter.unusedVariables false
set_option linter.unusedSimpArgs false
set_option linter.unnecessarySimpa false
namespace Go.Proofs.Ytbkhpddodmbdoaa
open Go.RowKit
def near (a b:Int):Int:=if b-a%b≤a%b then a/b+1 else a/b
end Go.Proofs.Ytbkhpddodmbdoaa
namespace Go.Proofs.Ytbkhpddodmbdoaa
open Go.RowKit Go.ChangeShapes Go.WideShapes Go.Deep
def Sees (P:Program) (w:World):Nat→TypeId→List Value→Prop
  | 0,_,_=>False
  | n+1,t,cs=>match P.underlying t with
    | some (.int k)=>∃ a,cs=[.int k a]∧(Lit.int k a).wf=true
    | some .bool=>∃ b,cs=[.bool b]
    | some .string=>∃ s,cs=[.string s]∧s.size≤maxLen
    | some (.struct fs)=>cs.length=P.cellsOf t∧∀ (i:Nat) (f:Field),fs[i]? = some f→Sees P w n f.type ((cs.drop f.offset).take (P.cellsOf f.type))
    | some (.array m e)=>cs.length=P.cellsOf t∧∀ i,i<m→Sees P w n e ((cs.drop (i*P.cellsOf e)).take (P.cellsOf e))
    | some (.slice e)=>cs=[.slice none 0 0]∨∃ a len cap,cs=[.slice (some a) len cap]∧len≤cap∧cap≤maxLen ∧
        ∀ i,i<len→∃ cs',cs'.length=P.cellsOf e∧(∀ j,j<P.cellsOf e→w.cell? (a.add (i*P.cellsOf e+j))=cs'[j]?)∧Sees P w n e cs'
    | _=>True
section
variable {H:Type} {enc:TypeId × Value→H} {P:Program} {w:World} {base:Nat} {spare:Nat→Bool} {held:Bool}
theorem q6i:∀ (n fuel:Nat) (t:TypeId) (cs:List Value) (x:DataW H × List MemPlace),fuel≤n→DataW.trod enc P w base spare held fuel t cs=some x→Sees P w n t cs
  | 0,fuel,t,cs,x,hf,h=>by
    have:fuel=0:=by omega
    subst this;simp [DataW.trod] at h
  | n+1,fuel,t,cs,x,hf,h=>by
    unfold Sees
    split
    · rename_i k ht;obtain ⟨a,h1,_,h2⟩:=DataW.trod_int ht h;exact ⟨a,h1,h2⟩
    · rename_i ht;obtain ⟨b,h1,_⟩:=DataW.trod_bool ht h;exact ⟨b,h1⟩
    · rename_i ht;obtain ⟨s,h1,_,h2⟩:=DataW.trod_string ht h;exact ⟨s,h1,h2⟩
    · rename_i fs ht
      obtain ⟨xs,m,hm,_,hl,hxl,hg⟩:=DataW.trod_struct ht h
      refine ⟨hl,fun i f hi=>?_⟩
      have hlt:i<xs.length:=by rw [hxl];exact (Array.getElem?_eq_some_iff.1 hi).1
      have:=hg i f hi
      rw [List.getElem?_eq_getElem hlt] at this
      exact q6i n m _ _ _ (by omega) this
    · rename_i m e ht
      obtain ⟨xs,k,hm,_,hl,hxl,hg⟩:=DataW.trod_array ht h
      refine ⟨hl,fun i hi=>?_⟩
      have:=hg i hi
      rw [List.getElem?_eq_getElem (by omega)] at this
      exact q6i n k _ _ _ (by omega) this
    · rename_i e ht
      rcases DataW.trod_slice ht h with ⟨h1,_⟩ |⟨a,len,cap,elems,rest,k,hk,h1,_,hb,hlc,hcm,hel,hg,_,_⟩
      · exact .inl h1
      · refine .inr ⟨a,len,cap,h1,hlc,hcm,fun i hi=>?_⟩
        have:=hg i hi
        rw [List.getElem?_eq_getElem (by omega)] at this
        obtain ⟨cs',hc,ht'⟩:=Option.bind_eq_some_iff.1 this
        obtain ⟨_,hcl,hat⟩:=World.cells?_some hc
        refine ⟨cs',hcl,fun j hj=>?_,q6i n k _ _ _ (by omega) ht'⟩
        rw [← add_add];exact hat j hj
    · trivial
theorem z0z {t:TypeId} {v:Value} {d:DataW H} {ps:List MemPlace} (h:DataW.Trod enc P w base spare held t v d ps):∃ n,Sees P w n t v.cells.toList:=by
  obtain ⟨fuel,hf⟩:=h
  exact ⟨fuel,q6i fuel fuel _ _ _ (Nat.le_refl _) hf⟩
end
section
variable {P:Program} {w:World} {n:Nat} {t:TypeId} {cs:List Value}
theorem Sees.int {k:IntKind} (ht:P.underlying t=some (.int k)) (h:Sees P w n t cs):∃ a,cs=[.int k a]∧(Lit.int k a).wf=true:=by
  cases n with
  | zero=>exact h.elim
  | succ n=>unfold Sees at h;rw [ht] at h;exact h
theorem Sees.bool (ht:P.underlying t=some .bool) (h:Sees P w n t cs):∃ b,cs=[.bool b]:=by
  cases n with
  | zero=>exact h.elim
  | succ n=>unfold Sees at h;rw [ht] at h;exact h
theorem Sees.string (ht:P.underlying t=some .string) (h:Sees P w n t cs):∃ s,cs=[.string s]∧s.size≤maxLen:=by
  cases n with
  | zero=>exact h.elim
  | succ n=>unfold Sees at h;rw [ht] at h;exact h
theorem Sees.struct {fs:Array Field} (ht:P.underlying t=some (.struct fs)) (h:Sees P w n t cs):cs.length=P.cellsOf t∧∃ m,∀ (i:Nat) (f:Field),fs[i]? = some f→Sees P w m f.type ((cs.drop f.offset).take (P.cellsOf f.type)):=by
  cases n with
  | zero=>exact h.elim
  | succ n=>unfold Sees at h;rw [ht] at h;exact ⟨h.1,n,h.2⟩
theorem Sees.array {m:Nat} {e:TypeId} (ht:P.underlying t=some (.array m e)) (h:Sees P w n t cs):cs.length=P.cellsOf t∧∃ k,∀ i,i<m→Sees P w k e ((cs.drop (i*P.cellsOf e)).take (P.cellsOf e)):=by
  cases n with
  | zero=>exact h.elim
  | succ n=>unfold Sees at h;rw [ht] at h;exact ⟨h.1,n,h.2⟩
theorem Sees.slice {e:TypeId} (ht:P.underlying t=some (.slice e)) (h:Sees P w n t cs):cs=[.slice none 0 0]∨∃ a len cap,cs=[.slice (some a) len cap]∧len≤cap∧cap≤maxLen ∧
    ∃ m,∀ i,i<len→∃ cs',cs'.length=P.cellsOf e∧(∀ j,j<P.cellsOf e→w.cell? (a.add (i*P.cellsOf e+j))=cs'[j]?)∧Sees P w m e cs':=by
  cases n with
  | zero=>exact h.elim
  | succ n =>
    unfold Sees at h;rw [ht] at h
    rcases h with h |⟨a,len,cap,h1,h2,h3,h4⟩
    · exact .inl h
    · exact .inr ⟨a,len,cap,h1,h2,h3,n,h4⟩
theorem Sees.ints {k:IntKind} {fs:Array Field} (ht:P.underlying t=some (.struct fs)) (hC:P.cellsOf t=fs.size)
    (hf:∀ (i:Nat) (f:Field),fs[i]? = some f→f.offset=i∧P.cellsOf f.type=1∧P.underlying f.type=some (.int k)) (h:Sees P w n t cs) :
    ∃ zs:List Int,zs.length=fs.size∧cs=zs.map (.int k)∧∀ z∈zs,(Lit.int k z).wf=true:=by
  obtain ⟨hl,m,hm⟩:=h.struct ht
  have key:∀ i,i<cs.length→∃ a,cs[i]? = some (.int k a)∧(Lit.int k a).wf=true:=by
    intro i hi
    have hi':i<fs.size:=by omega
    obtain ⟨ho,hc,hu⟩:=hf i fs[i] (Array.getElem?_eq_getElem hi')
    obtain ⟨a,ha,hw⟩:=(hm i fs[i] (Array.getElem?_eq_getElem hi')).int hu
    rw [ho,hc] at ha
    refine ⟨a,?_,hw⟩
    have:((cs.drop i).take 1)[0]? = some (.int k a):=by rw [ha];rfl
    simpa using this
  have hz:∃ zs:List Int,zs.length=cs.length∧cs=zs.map (.int k)∧∀ z∈zs,(Lit.int k z).wf=true:=by
    clear hm hl hf hC ht h
    induction cs with
    | nil=>exact ⟨[],rfl,rfl,by simp⟩
    | cons c cs ih =>
      obtain ⟨a,ha,hw⟩:=key 0 (by simp)
      obtain ⟨zs,h1,h2,h3⟩:=ih (fun i hi=>by have:=key (i+1) (by simpa using hi);simpa using this)
      refine ⟨a::zs,by simp [h1],?_,?_⟩
      · simp at ha;simp [ha,← h2]
      · intro z hz
        rcases List.mem_cons.1 hz with rfl |hz
        · exact hw
        · exact h3 z hz
  obtain ⟨zs,h1,h2,h3⟩:=hz
  exact ⟨zs,by omega,h2,h3⟩
end
end Go.Proofs.Ytbkhpddodmbdoaa
namespace Go.Proofs.Ytbkhpddodmbdoaa
open Go.RowKit Go.ChangeShapes Go.WideShapes Go.Deep
structure Run where
  y:Int
  x0:Int
  x1:Int
def RunsAt (w:World) (A:Option Addr) (n:Nat) (rs:Nat→Run):Prop :=
  0<n→∃ b off,A=some ⟨b,off,none⟩∧b<w.heap.size∧∀ i,i<n→w.cell? ⟨b,off+i*3,none⟩=some (.int .i64 (rs i).y)∧w.cell? ⟨b,off+i*3+1,none⟩=some (.int .i64 (rs i).x0)∧w.cell? ⟨b,off+i*3+2,none⟩=some (.int .i64 (rs i).x1)
theorem RunsAt.below {w w':World} {A:Option Addr} {n:Nat} {rs:Nat→Run} (h:RunsAt w A n rs) (hb:Below w.heap.size w w'):RunsAt w' A n rs:=by
  intro hn
  obtain ⟨b,off,hA,hlt,hc⟩:=h hn
  refine ⟨b,off,hA,Nat.lt_of_lt_of_le hlt hb.size,fun i hi=>?_⟩
  obtain ⟨h1,h2,h3⟩:=hc i hi
  exact ⟨(hb.cell (p:=⟨b,_,none⟩) hlt).trans h1,(hb.cell (p:=⟨b,_,none⟩) hlt).trans h2,(hb.cell (p:=⟨b,_,none⟩) hlt).trans h3⟩
def q3t (rs:Nat→Run) (k:Nat):Int :=
  if (rs k).y < -8192∨8191<(rs k).y∨(rs k).x0 < -8192∨8192<(rs k).x0∨(rs k).x1 < -8192∨8192<(rs k).x1 then 3
  else if (rs k).x1≤(rs k).x0 then 4
  else if 0<k∧(rs k).y≤(rs (k-1)).y∧((rs k).y<(rs (k-1)).y∨(rs k).x0≤(rs (k-1)).x1) then 18 else 0
def regV (rs:Nat→Run):Nat→Int
  | 0=>0
  | n+1=>if regV rs n≠0 then regV rs n else q3t rs n
theorem x0n {rs:Nat→Run} {k:Nat} (h0:regV rs k=0) (h:q3t rs k≠0):∀ {n:Nat},k<n→regV rs n=q3t rs k:=by
  intro n hn
  induction n with
  | zero=>omega
  | succ n ih =>
    unfold regV
    by_cases hk:k<n
    · rw [if_pos (by rw [ih hk];exact h),ih hk]
    · have:k=n:=by omega
      subst this
      rw [if_neg (by simp [h0])]
theorem z5m {rs:Nat→Run} {k:Nat} (h0:regV rs k=0) (h:q3t rs k=0):regV rs (k+1)=0:=by
  unfold regV;rw [if_neg (by simp [h0]),h]
section
variable {H:Type} {enc:TypeId × Value→H} {P:Program} {w:World} {base b0:Nat} {spare:Nat→Bool} {held:Bool} {r:Reach} {v:Value} {d:DataW H} {ps:List MemPlace}
theorem z3q {w:World} {a:Addr} {v:Value} (h:w.cell? a=some v):a=⟨a.block,a.off,none⟩∧a.block<w.heap.size:=by
  have hs:=World.cell?_spot h
  refine ⟨by cases a;simp at hs;simp [hs],?_⟩
  rcases Nat.lt_or_ge a.block w.heap.size with h' |h'
  · exact h'
  · unfold World.cell? at h;rw [Array.getElem?_eq_none h'] at h;simp at h
theorem x10 (b off i:Nat):(⟨b,off,none⟩:Addr).add i=⟨b,off+i,none⟩:=by
  unfold Addr.add
  split
  · rename_i h;subst h;rfl
  · rfl
end
end Go.Proofs.Ytbkhpddodmbdoaa
namespace Go.Proofs.Ytbkhpddodmbdoaa
open Go.RowKit Go.ChangeShapes Go.WideShapes Go.Deep
def RecsAt (i:IntKind) (w:World) (A:Option Addr) (n k:Nat) (f:Nat→Nat→Int):Prop :=
  0<n→∃ b off,A=some ⟨b,off,none⟩∧b<w.heap.size∧∀ x,x<n→∀ j,j<k→w.cell? ⟨b,off+x*k+j,none⟩=some (.int i (f x j))
theorem RecsAt.below {i:IntKind} {w w':World} {A:Option Addr} {n k:Nat} {f:Nat→Nat→Int} (h:RecsAt i w A n k f) (hb:Below w.heap.size w w'):RecsAt i w' A n k f:=by
  intro hn
  obtain ⟨b,off,hA,hlt,hc⟩:=h hn
  exact ⟨b,off,hA,Nat.lt_of_lt_of_le hlt hb.size,fun x hx j hj=>(hb.cell (p:=⟨b,_,none⟩) hlt).trans (hc x hx j hj)⟩
section
variable {H:Type} {enc:TypeId × Value→H} {P:Program} {w:World} {base b0:Nat} {spare:Nat→Bool} {held:Bool} {r:Reach} {v:Value} {d:DataW H} {ps:List MemPlace}
end
end Go.Proofs.Ytbkhpddodmbdoaa
