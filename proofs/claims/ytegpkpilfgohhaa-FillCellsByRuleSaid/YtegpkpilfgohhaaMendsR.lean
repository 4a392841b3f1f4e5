/-
  The engine: functions that change a row of the caller's own in place, of which only a property of the new row is told. No program in sight.
-/
import Derived.Test.YtegpkpilfgohhaaMends
set_option linter.unusedVariables false
set_option linter.unusedSimpArgs false
set_option linter.unnecessarySimpa false
namespace Go.Proofs.Ytegpkpilfgohhaa
open Go.RowKit
def MendsR (P:Program) (f:FuncId) (args:List AV) (G:Mem) (E:TypeId) (sz n:Nat) (xs:List Value) (R:List Value→Prop):Prop :=
  ∀ (base:Nat) (w:World) (v:Value) (vs:Array Value),G.holds w→w.ownsRow base E sz v n xs→base≤w.heap.size→(∀ g,q0c v=some g→G g=none)→AV.rels noName (args.map (subA (.val v))) vs.toList →
    Calls P f vs w fun e w'=>∃ y xs',e=.returned y∧R xs'∧w'.ownsRow base E sz v n xs'∧w.grownBy w' (q0c v)
theorem q5f {P:Program} {T:Tab} (hT:TOk P T) {f:FuncId} {fn:Func} (hfn:P.funcs[f]? = some fn) {args:List AV} {G:Mem} {E:TypeId} {sz n:Nat} {xs:List Value} {R:List Value→Prop}
    (h:∀ G',G.le G'→q40 P T 1 fn args [.own E sz n xs] G' fun v hp' _=>∃ xs',nthB hp' 0=.own E sz n xs'∧R xs'):MendsR P f args G E sz n xs R:=by
  intro base w v vs hG hown hbase hfree hts
  have hle:G.le (q1z w (q0c v)):=fun b o hb=>by
    unfold q1z
    by_cases h1:q0c v=some b
    · rw [hfree b h1] at hb;cases hb
    · rw [if_neg h1];exact hG b o hb
  have hmb:∀ b o,q1z w (q0c v) b=some o→w.heap[b]? = some o:=fun b o hb=>by
    unfold q1z at hb
    split at hb
    · cases hb
    · exact hb
  have hsl:=q1i hown
  have hw0:Below base {w with heap:=w.heap.extract 0 base} w:=by
    refine ⟨rfl,rfl,rfl,?_,fun k hk=>?_⟩
    · simp;omega
    · show w.heap[k]? = (w.heap.extract 0 base)[k]?
      rw [Array.getElem?_extract];simp;intro h;omega
  have hsz:({w with heap:=w.heap.extract 0 base}:World).heap.size=base:=by
    show (w.heap.extract 0 base).size=base
    simp;omega
  have hr:HR {w with heap:=w.heap.extract 0 base} (q1z w (q0c v)) (fun k=>if k=0 then some v else none) [.own E sz n xs] (q1z w (q0c v)) w:=by
    refine ⟨by rw [hsz];exact hw0,hmb,Mem.le_refl _,fun b o hb=>.inl hb,fun k y hk=>?_,fun k k' y y' x x' b hne hk hk'=>?_,fun k S hk=>(by cases k <;> simp at hk)⟩
    · by_cases h0:k=0
      · subst h0
        simp at hk;subst hk
        refine ⟨_,rfl,?_⟩
        rw [hsz]
        refine ⟨hown,fun g hg=>?_⟩
        unfold q1z;rw [if_pos hg]
      · simp [h0] at hk
    · by_cases h0:k=0
      · have:k'≠0:=by omega
        simp [this] at hk'
      · simp [h0] at hk
  refine (q7p hT hfn (hp:=[.own E sz n xs]) (h _ hle) (.inr fun _ _ _ _ _ h=>h) _ _ _ w vs hr (z41 (by simp) hsl _ _ hts)).mono ?_
  rintro e w' ⟨y,β',v',hp',G',rfl,h1,h2,h3,xs',hk,hR⟩
  have hn:β' 0=some v:=h1 0 v (by simp)
  obtain ⟨x,hx1,hx2⟩:=h2.blk 0 v hn
  rw [q0l hk rfl] at hx1;cases hx1
  rw [hsz] at hx2
  have hold:∀ b,b<w.heap.size→q0c v≠some b→w'.heap[b]? = w.heap[b]?∧∃ o,G' b=some o:=fun b hb hne=>by
    have h4:q1z w (q0c v) b=some w.heap[b]:=by unfold q1z;rw [if_neg hne];exact Array.getElem?_eq_getElem hb
    have h5:=h2.sub b _ h4
    exact ⟨by rw [h2.hold b _ h5,Array.getElem?_eq_getElem hb],_,h5⟩
  refine ⟨y,xs',rfl,hR,hx2.1,⟨h2.below.os,h2.below.tape,h2.below.output,?_,fun b hb hne=>(hold b hb (fun e=>hne e.symm)).1⟩⟩
  rcases Nat.eq_zero_or_pos w.heap.size with h0 |h0
  · omega
  · by_cases h4:q0c v=some (w.heap.size-1)
    · rcases hx2.1.2 with ⟨h5,_⟩ |⟨g,cap,cur,h5,_,h6,_⟩
      · subst h5;cases h4
      · have h7:=(Array.getElem?_eq_some_iff.1 h6).1
        subst h5
        simp [q0c] at h4
        omega
    · have h5:=(hold (w.heap.size-1) (by omega) h4).1
      rw [Array.getElem?_eq_getElem (show w.heap.size-1<w.heap.size by omega)] at h5
      have:=(Array.getElem?_eq_some_iff.1 h5).1
      omega
theorem q0y {P:Program} {f:FuncId} (args:List AV) (i k:Nat) (hen:∀ vs w,(callFunc f vs).run P w=.ok (.enter f vs) w) {L:List AV} {hp:List Blk} {G:Mem} {K:AV→List Blk→Mem→Prop} {E:TypeId} {sz n:Nat} {xs:List Value} {R:List Value→Prop}
    (hL:L=args.map (subA (.own k))) (hi:args[i]? = some (.own 0)) (hu:AV.unders 0 (args.map (subA (.val undef)))=true) (hk:nthB hp k=.own E sz n xs) (hc:MendsR P f args G E sz n xs R) (h:∀ xs',R xs'→setF hp k (.own E sz n xs') fun hp'=>K .any hp' G):CallP P f L hp G K:=by
  subst hL
  refine ⟨hen,fun w0 G0 β w vs hr ha=>?_⟩
  obtain ⟨v,hv⟩:∃ v,β k=some v:=by
    obtain ⟨y,_,hy⟩:=AV.rels_get ha (show (args.map (subA (.own k)))[i]? = some (.own k) by rw [List.getElem?_map,hi];rfl)
    simp only [AV.rel] at hy
    exact ⟨y,hy.1⟩
  have hkx:=q0l hk rfl
  obtain ⟨x,hx1,hx2⟩:=hr.blk k v hv
  rw [hkx] at hx1;cases hx1
  refine (hc w0.heap.size w v vs hr.hold hx2.1 hr.below.size hx2.2 (z1f hv _ _ hu ha)).mono ?_
  rintro e w' ⟨y,xs',rfl,hR,h1,h2⟩
  have h':=h xs' hR
  rw [q06] at h'
  exact ⟨y,β,.any,_,G,rfl,Nm.le_refl _,hr.mend hv hkx h2 h1,by simp only [AV.rel],h'⟩
theorem MendsR.mono {P:Program} {f:FuncId} {args:List AV} {G G':Mem} {E:TypeId} {sz n:Nat} {xs:List Value} {R:List Value→Prop} (h:MendsR P f args G E sz n xs R) (hG:G.le G'):MendsR P f args G' E sz n xs R :=
  fun base w v vs hw ho hb hf ha=>h base w v vs (fun b o hb=>hw b o (hG b o hb)) ho hb (fun g hg=>Mem.le.none hG (hf g hg)) ha
end Go.Proofs.Ytegpkpilfgohhaa
