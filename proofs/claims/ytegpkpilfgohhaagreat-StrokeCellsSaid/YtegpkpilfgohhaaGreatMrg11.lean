/-
  Merged: XGmap, XFrz.
-/
import Derived.Test.YtegpkpilfgohhaaGreatGm
import Derived.Test.YtegpkpilfgohhaaGreatMrg7
import Derived.Test.YtegpkpilfgohhaaGreatMrg10
import Derived.Test.YtegpkpilfgohhaaGreatMrg8
set_option linter.unusedVariables false
set_option linter.unusedSimpArgs false
set_option linter.unnecessarySimpa false
namespace Go.Proofs.YtegpkpilfgohhaaGreat
open Go.RowKit
def x8h:List (List Value × Value)→Nat→List MapEntry
  | [],_=>[]
  | (k,v)::l,c=>⟨.agg k.toArray,v,c⟩::x8h l (c+1)
structure KeyT (P:Program) (kt:TypeId) (m:Nat) (k:IntKind):Prop where
  arr:∃ e,P.underlying kt=some (.array m e)∧P.underlying e=some (.int k)∧∃ i,P.info? e=some i∧i.size=1
  flat:flatK P 8 kt=some (List.replicate m (.int k))
section
variable {P:Program} {t kt et:TypeId} {w:World} {b m:Nat} {kd:IntKind} {l:List (List Value × Value)} {xs:List Value} {z:Value}
theorem KeyT.eq (h:KeyT P kt m kd) {xs ys:List Value} (hx:q00 (List.replicate m (.int kd)) xs=true) (hy:q00 (List.replicate m (.int kd)) ys=true) (w:World):(Op.equal kt (.agg xs.toArray) (.agg ys.toArray)).run P w=.ok (q1x xs ys) w:=by
  obtain ⟨e,h1,_⟩:=h.arr
  have q:=q6y 8 kt _ h.flat xs ys hx hy 9992 w
  unfold Op.equal
  simpa [q35,h1,Op.maxDepth] using q
end
structure MapM (kd:IntKind) (m:Nat) (G:Mem) (b:Nat) (l:List (List Value × Value)):Prop where
  at_:G b=some (.map (x8h l 0).toArray l.length)
  kinds:∀ e∈l,q00 (List.replicate m (.int kd)) e.1=true
theorem MapM.of {kd:IntKind} {m:Nat} {G G':Mem} {b:Nat} {l:List (List Value × Value)} (h:MapM kd m G b l) (hG:G' b=G b):MapM kd m G' b l:=⟨by rw [hG];exact h.at_,h.kinds⟩
section
variable {P:Program} {t kt et:TypeId} {b m:Nat} {kd:IntKind} {l:List (List Value × Value)} {xs:List Value} {z:Value}
end
/-! ### Contracts of walks that write in memory -/
theorem HR.initM {G:Mem} {w:World} (hG:G.holds w):HR w G (fun _=>none) [.muts fun _=>False] G w :=
  ⟨Below.refl _ _,hG,Mem.le_refl _,fun _ _ h=>.inl h,fun _ _ h=>(by cases h),fun _ _ _ _ _ _ _ _ h=>(by cases h),fun k S hk b hb=>by
    cases k with
    | zero=>simp at hk;subst hk;exact hb.elim
    | succ k=>simp at hk⟩
theorem z0x {P:Program} {T:Tab} (hT:TOk P T) {f:FuncId} {fn:Func} (hfn:P.funcs[f]? = some fn) {args:List AV} {vs:Array Value} (ha:AV.rels (fun _=>none) args vs.toList) {G:Mem} {w:World} (hG:G.holds w) {K:AV→List Blk→Mem→Prop} (h:q0w (q6x fn) (q4f P T 1 fn args [.muts fun _=>False] G K)) :
    Calls P f vs w fun e w'=>∃ y β' v hp' G',e=.returned y∧HR w G β' hp' G' w'∧v.rel β' y∧K v hp' G':=by
  obtain ⟨h1,h2⟩:=q0t h
  refine (q5c hT hfn (hp:=[.muts fun _=>False]) h2 (.inl h1) w G _ w vs (HR.initM hG) ha).mono ?_
  rintro e w' ⟨y,β',v,hp',G',h1,_,h2,h3,h4⟩
  exact ⟨y,β',v,hp',G',h1,h2,h3,h4⟩
end Go.Proofs.YtegpkpilfgohhaaGreat
namespace Go.Proofs.YtegpkpilfgohhaaGreat
open Go.RowKit
inductive Frz (R:AV→Mem→Prop):List AV→List Blk→Mem→Prop
  | done {l:List AV} {hp:List Blk} {G:Mem} (hu:AV.unders 0 l=true) (h:R (.tup l) G):Frz R l hp G
  | frz {l:List AV} {hp:List Blk} {G:Mem} (k:Nat) {E:TypeId} {sz n:Nat} {xs:List Value} (hk:nthB hp k=.own E sz n xs) (hin:q33 k l=true)
      (h:∀ A cap G',G.le G'→n≤cap→cap≤maxLen→FlatM G' A xs→Frz R (q8o k (.slice A n cap) l) (hp.set k .gone) G'):Frz R l hp G
theorem Frz.out {R:AV→Mem→Prop} {l:List AV} {hp:List Blk} {G:Mem} (h:Frz R l hp G):∀ {w0:World} {G0:Mem} {β:Nm} {w:World} {ys:List Value},HR w0 G0 β hp G w→AV.rels β l ys →
    ∃ l' hp' G',AV.rels noName l' ys∧HR w0 G0 β hp' G' w∧AV.unders 0 l'=true∧R (.tup l') G':=by
  induction h with
  | done hu h=>intro w0 G0 β w ys hr ha;exact ⟨_,_,_,q3w hu ha,hr,hu,h⟩
  | frz k hk hin h ih =>
    intro w0 G0 β w ys hr ha
    obtain ⟨v,hv⟩:=q4q (hp:=[]) ha (q3e hin)
    obtain ⟨A,cap,G',rfl,hle,hn,hm,hF,hr'⟩:=hr.freeze hv hk
    exact ih A cap G' hle hn hm hF hr' (q39 hv ha)
theorem z1o {P:Program} {T:Tab} (hT:TOk P T) {f:FuncId} {fn:Func} (hfn:P.funcs[f]? = some fn) {args:List AV} {G:Mem} {R:AV→Mem→Prop}
    (hn:q6x fn=true) (h:q4f P T 1 fn args [.muts fun _=>False] G fun v hp' G1=>(v.under 0=true∧R v G1)∨∃ l,v=.tup l∧Frz R l hp' G1):q4y P f args G R:=by
  intro w vs hG ha
  refine (z0x hT hfn (args:=args) ha hG (by rw [hn];exact h)).mono ?_
  rintro e w' ⟨y,β',v',hp',G',h1,h2,h3,hK⟩
  rcases hK with ⟨hb,hR⟩ |⟨l,rfl,hF⟩
  · exact ⟨y,v',G',h1,q5d hb h3,h2.below,h2.sub,h2.hold,h2.grow,hb,hR⟩
  · simp only [AV.rel] at h3
    obtain ⟨ys,rfl,h4⟩:=h3
    obtain ⟨l',hp2,G2,g1,g2,g3,g4⟩:=hF.out h2 h4
    exact ⟨_,.tup l',G2,h1,by simp only [AV.rel];exact ⟨ys,rfl,g1⟩,g2.below,g2.sub,g2.hold,g2.grow,by simpa [AV.under] using g3,g4⟩
end Go.Proofs.YtegpkpilfgohhaaGreat
