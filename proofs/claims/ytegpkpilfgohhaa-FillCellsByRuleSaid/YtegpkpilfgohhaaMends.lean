/-
  The engine: functions that change a row of the caller's own in place. No program in sight.
-/
import Derived.Test.YtegpkpilfgohhaaMrg6
set_option linter.unusedVariables false
set_option linter.unusedSimpArgs false
set_option linter.unnecessarySimpa false
namespace Go.Proofs.Ytegpkpilfgohhaa
open Go.RowKit
def subA (u:AV):AV→AV
  | .own 0=>u
  | a=>a
def Mends (P:Program) (f:FuncId) (args:List AV) (G:Mem) (E:TypeId) (sz n:Nat) (xs xs':List Value):Prop :=
  ∀ (base:Nat) (w:World) (v:Value) (vs:Array Value),G.holds w→w.ownsRow base E sz v n xs→base≤w.heap.size→(∀ g,q0c v=some g→G g=none)→AV.rels noName (args.map (subA (.val v))) vs.toList →
    Calls P f vs w fun e w'=>∃ y,e=.returned y∧w'.ownsRow base E sz v n xs'∧w.grownBy w' (q0c v)
theorem z40 {u a:AV} (h:a=.own 0):subA u a=u:=by subst h;rfl
theorem z15 {u a:AV} (h:a≠.own 0):subA u a=a:=by
  cases a with
  | own k=>cases k with
    | zero=>exact absurd rfl h
    | succ k=>rfl
  | _=>rfl
theorem z41 {β:Nm} {v:Value} (h0:β 0=some v) (hs:isSl v=true):∀ (l:List AV) (ys:List Value),AV.rels noName (l.map (subA (.val v))) ys→AV.rels β l ys
  | [],ys,h=>by simpa [AV.rels] using h
  | a::l,ys,h=>by
    simp only [List.map_cons,AV.rels] at h ⊢
    obtain ⟨y,zs,h1,h2,h3⟩:=h
    refine ⟨y,zs,h1,?_,z41 h0 hs l zs h3⟩
    by_cases ha:a=.own 0
    · rw [z40 ha] at h2
      simp only [AV.rel] at h2
      subst h2;subst ha
      simp only [AV.rel];exact ⟨h0,hs⟩
    · rw [z15 ha] at h2
      exact AV.rel_mono (q21 β) _ _ h2
theorem z1f {β:Nm} {k:Nat} {v:Value} (hk:β k=some v):∀ (l:List AV) (ys:List Value),AV.unders 0 (l.map (subA (.val undef)))=true→AV.rels β (l.map (subA (.own k))) ys→AV.rels noName (l.map (subA (.val v))) ys
  | [],ys,_,h=>by simpa [AV.rels] using h
  | a::l,ys,hu,h=>by
    simp only [List.map_cons,AV.rels,AV.unders,Bool.and_eq_true] at h hu ⊢
    obtain ⟨y,zs,h1,h2,h3⟩:=h
    refine ⟨y,zs,h1,?_,z1f hk l zs hu.2 h3⟩
    by_cases ha:a=.own 0
    · rw [z40 ha] at h2 ⊢
      simp only [AV.rel] at h2 ⊢
      rw [hk] at h2;exact (Option.some.inj h2.1).symm
    · rw [z15 ha] at h2 ⊢
      rw [z15 ha] at hu
      exact q57 hu.1 h2
theorem HR.mend {w0:World} {G0:Mem} {β:Nm} {hp:List Blk} {G:Mem} {w w':World} (hr:HR w0 G0 β hp G w) {k:Nat} {v:Value} {E:TypeId} {sz n:Nat} {xs xs':List Value} (hk:β k=some v) (hx:hp[k]? = some (.own E sz n xs)) (hg:w.grownBy w' (q0c v)) (ho:w'.ownsRow w0.heap.size E sz v n xs') :
    HR w0 G0 β (hp.set k (.own E sz n xs')) G w':=by
  have h1:=hr.below_grown hk hx rfl hg
  have hkl:=(List.getElem?_eq_some_iff.1 hx).1
  obtain ⟨x0,hx0,hx1⟩:=hr.blk k v hk
  rw [hx] at hx0;cases hx0
  have old:∀ (j:Nat) (x:Blk),(hp.set k (.own E sz n xs'))[j]? = some x→x.live=true→∃ x',hp[j]? = some x'∧x'.live=true:=fun j x hj hl=>by
    by_cases e:k=j
    · subst e;exact ⟨_,hx,rfl⟩
    · rw [List.getElem?_set_ne e] at hj;exact ⟨x,hj,hl⟩
  refine ⟨h1.below,h1.hold,h1.sub,h1.grow,fun j y hj=>?_,fun j j' y y' x x' b hne hj hj' hx hx' hl hl' hb=>?_,fun j S hj=>?_⟩
  · by_cases e:k=j
    · subst e
      rw [hk] at hj;cases hj
      exact ⟨_,List.getElem?_set_self hkl,ho,hx1.2⟩
    · obtain ⟨x,h2,h3⟩:=h1.blk j y hj
      rw [List.getElem?_set_ne e] at h2
      exact ⟨x,by rw [List.getElem?_set_ne e];exact h2,h3⟩
  · obtain ⟨z,h2,h3⟩:=old j x hx hl
    obtain ⟨z',h2',h3'⟩:=old j' x' hx' hl'
    exact hr.inj j j' y y' z z' b hne hj hj' h2 h2' h3 h3' hb
  · by_cases e:k=j
    · subst e;rw [List.getElem?_set_self hkl] at hj;cases hj
    · rw [List.getElem?_set_ne e] at hj
      exact h1.wrt j S (by rw [List.getElem?_set_ne e];exact hj)
theorem Mends.mono {P:Program} {f:FuncId} {args:List AV} {G G':Mem} {E:TypeId} {sz n:Nat} {xs xs':List Value} (h:Mends P f args G E sz n xs xs') (hG:G.le G'):Mends P f args G' E sz n xs xs' :=
  fun base w v vs hw ho hb hf ha=>h base w v vs (fun b o hb=>hw b o (hG b o hb)) ho hb (fun g hg=>Mem.le.none hG (hf g hg)) ha
end Go.Proofs.Ytegpkpilfgohhaa
