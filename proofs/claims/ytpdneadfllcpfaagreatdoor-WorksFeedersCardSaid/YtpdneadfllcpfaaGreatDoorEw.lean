/-
  The engine: from the older contracts, and to the laws' walks. No program in sight.
-/
import Derived.Test.YtpdneadfllcpfaaGreatDoorEng2
import Derived.Test.YtpdneadfllcpfaaGreatDoorFlat
set_option linter.unusedVariables false
set_option linter.unusedSimpArgs false
set_option linter.unnecessarySimpa false
namespace Go.Proofs.YtpdneadfllcpfaaGreatDoor
open Go.RowKit
theorem q78 {w w':World} (h:(q4o w).holds w'):Below w.heap.size {w' with heap:=w.heap} w':=by
  refine ⟨rfl,rfl,rfl,?_,fun k hk=>?_⟩
  · rcases Nat.eq_zero_or_pos w.heap.size with h0 |h0
    · show w.heap.size≤_;omega
    · have hk:w.heap.size-1<w.heap.size:=by omega
      have h1:=h (w.heap.size-1) _ (Array.getElem?_eq_getElem hk)
      have h2:=(Array.getElem?_eq_some_iff.1 h1).1
      show w.heap.size≤_
      omega
  · have h1:=h k _ (Array.getElem?_eq_getElem hk)
    show w'.heap[k]? = w.heap[k]?
    rw [h1,Array.getElem?_eq_getElem hk]
theorem Sees.heap {P:Program} {w w':World} (hh:w'.heap=w.heap):∀ (n:Nat) (t:TypeId) (cs:List Value),Sees P w n t cs→Sees P w' n t cs
  | 0,_,_,h=>h.elim
  | n+1,t,cs,h=>by
    unfold Sees at h ⊢
    split <;> first |(rename_i ht;rw [ht] at h;simp only at h) |skip
    · exact h
    · exact h
    · exact h
    · exact ⟨h.1,fun i f hi=>Sees.heap hh n _ _ (h.2 i f hi)⟩
    · exact ⟨h.1,fun i hi=>Sees.heap hh n _ _ (h.2 i hi)⟩
    · rcases h with h |⟨a,len,cap,h1,h2,h3,h4⟩
      · exact .inl h
      · refine .inr ⟨a,len,cap,h1,h2,h3,fun i hi=>?_⟩
        obtain ⟨cs',hl,hc,hs⟩:=h4 i hi
        refine ⟨cs',hl,fun j hj=>?_,Sees.heap hh n _ _ hs⟩
        rw [← hc j hj]
        simp only [World.cell?,hh]
    · trivial
theorem SliceG.holds {P:Program} {w w':World} {e:TypeId} {A:Option Addr} {n:Nat} {g:Nat→Nat→Value} (h:SliceG P w e A n g) (hb:(q4o w).holds w'):SliceG P w' e A n g:=by
  have h1:SliceG P {w' with heap:=w.heap} e A n g:=by
    intro hn
    obtain ⟨b,off,hA,hlt,hc⟩:=h hn
    refine ⟨b,off,hA,hlt,fun x hx=>⟨(hc x hx).1,?_⟩⟩
    obtain ⟨m,hm⟩:=(hc x hx).2
    exact ⟨m,Sees.heap (w:=w) (w':={w' with heap:=w.heap}) rfl _ _ _ hm⟩
  exact h1.below (q78 hb)
theorem z3j {P:Program} {T:Tab} (hT:TOk P T) {f:FuncId} {fn:Func} (hfn:P.funcs[f]? = some fn) {avs:List AV} {args:Array Value} {w:World} (ha:AV.rels noName avs args.toList)
    (h:q3f P T 0 fn avs [] (q4o w) fun v _ _=>v=.val (.bool true)):Calls P f args w fun e w'=>e=.returned (.bool true)∧Below w.heap.size w w':=by
  refine (q5c hT hfn ha (q9z w) h (fun _ _ _ _ _ h=>h)).mono ?_
  rintro e w' ⟨y,β',v,hp',G',h1,h2,h3,rfl⟩
  simp only [AV.rel] at h3
  subst h3
  exact ⟨h1,h2.below⟩
end Go.Proofs.YtpdneadfllcpfaaGreatDoor
