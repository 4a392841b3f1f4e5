/-
  Merged: XGmap, XGb.
-/
import Derived.Test.YticolnghiibgfaaGreatGm
import Derived.Test.YticolnghiibgfaaGreatMrg14
set_option linter.unusedVariables false
set_option linter.unusedSimpArgs false
set_option linter.unnecessarySimpa false
namespace Go.Proofs.YticolnghiibgfaaGreat
open Go.RowKit
def x9j:List (List Value × Value)→Nat→List MapEntry
  | [],_=>[]
  | (k,v)::l,c=>⟨.agg k.toArray,v,c⟩::x9j l (c+1)
section
variable {P:Program} {t kt et:TypeId} {w:World} {b m:Nat} {kd:IntKind} {l:List (List Value × Value)} {xs:List Value} {z:Value}
end
structure MapM (kd:IntKind) (m:Nat) (G:Mem) (b:Nat) (l:List (List Value × Value)):Prop where
  at_:G b=some (.map (x9j l 0).toArray l.length)
  kinds:∀ e∈l,q00 (List.replicate m (.int kd)) e.1=true
theorem MapM.of {kd:IntKind} {m:Nat} {G G':Mem} {b:Nat} {l:List (List Value × Value)} (h:MapM kd m G b l) (hG:G' b=G b):MapM kd m G' b l:=⟨by rw [hG];exact h.at_,h.kinds⟩
section
variable {P:Program} {t kt et:TypeId} {b m:Nat} {kd:IntKind} {l:List (List Value × Value)} {xs:List Value} {z:Value}
end
/-! ### Contracts of walks that write in memory -/
theorem HR.initM {G:Mem} {w:World} (hG:G.holds w):HR w G (fun _=>none) [.muts fun _=>False] G w :=
  ⟨Below.refl _ _,hG,Mem.le_refl _,fun _ _ h=>.inl h,fun _ _ h=>(by cases h),fun _ _ _ _ _ _ _ _ h=>(by cases h),fun k S hk b hb=>by
    cases k with
    | zero=>simp at hk;subst hk;exact hb.elim
    | succ k=>simp at hk⟩
theorem z0s {P:Program} {T:Tab} (hT:TOk P T) {f:FuncId} {fn:Func} (hfn:P.funcs[f]? = some fn) {args:List AV} {vs:Array Value} (ha:AV.rels (fun _=>none) args vs.toList) {G:Mem} {w:World} (hG:G.holds w) {K:AV→List Blk→Mem→Prop} (h:q0m (q6e fn) (q4d P T 1 fn args [.muts fun _=>False] G K)) :
    Calls P f vs w fun e w'=>∃ y β' v hp' G',e=.returned y∧HR w G β' hp' G' w'∧v.rel β' y∧K v hp' G':=by
  obtain ⟨h1,h2⟩:=q0l h
  refine (q5u hT hfn (hp:=[.muts fun _=>False]) h2 (.inl h1) w G _ w vs (HR.initM hG) ha).mono ?_
  rintro e w' ⟨y,β',v,hp',G',h1,_,h2,h3,h4⟩
  exact ⟨y,β',v,hp',G',h1,h2,h3,h4⟩
end Go.Proofs.YticolnghiibgfaaGreat
namespace Go.Proofs.YticolnghiibgfaaGreat
open Go.RowKit
theorem q3a {G:Mem} {b:Nat} {t:TypeId} {vs:List Value} (h:G b=some (.cells vs.toArray t (0,0))) {a:Addr} {n:Nat} {K:List Value→Prop} (hb:a.block=b) (hs:a.spot=none) (hn:Nat.ble (a.off+n) vs.length=true) (k:K ((vs.drop a.off).take n)):OldCells G a n K:=by
  have hn:=Nat.le_of_ble_eq_true hn
  refine ⟨_,⟨by simp;omega,fun j u hj=>?_⟩,k⟩
  rw [List.getElem?_take] at hj
  split at hj
  · rw [List.getElem?_drop] at hj
    unfold Mem.cell?
    obtain ⟨ab,ao,asp⟩:=a
    simp only at hb hs hj
    subst hb;subst hs
    rw [q0k]
    simp only [h]
    simpa using hj
  · cases hj
theorem q9y {P:Program} {f:FuncId} {r:List AV} {hp:List Blk} {G:Mem} {K:AV→List Blk→Mem→Prop} (l:List Value) (h:CallP P f (.agg (l.map .val)::r) hp G K):CallP P f (.val (.agg l.toArray)::r) hp G K:=by
  refine ⟨h.enters,fun w0 G0 β w vs hr ha=>h.calls w0 G0 β w vs hr ?_⟩
  simp only [AV.rels,AV.rel] at ha ⊢
  obtain ⟨y,zs,h1,rfl,h2⟩:=ha
  exact ⟨_,zs,h1,⟨_,rfl,AV.rels_vals l⟩,h2⟩
section
variable {P:Program} {T:Tab}
def moreS (mu:Bool) (S:Nat→Prop) (b:Nat):Nat→Prop:=match mu with
  | true=>fun c=>S c∨c=b
  | false=>S
theorem x0u {hp:List Blk} {m:Nat} {x:Blk} (h:hp[m]? = some x):hp.set m x=hp:=by
  apply List.ext_getElem?
  intro i
  by_cases hi:m=i
  · subst hi;rw [List.getElem?_set_self (List.getElem?_eq_some_iff.1 h).1,h]
  · rw [List.getElem?_set_ne hi]
def x4g (m:Nat) (mu:Bool) (t:TypeId) (vs:List Value) (hp:List Blk) (G:Mem) (K:AV→List Blk→Mem→Prop):Prop :=
  match nthB hp m with
  | .muts S=>∀ b G',G b=none→¬ S b→G'=G.put b (.cells vs.toArray t (0,0))→setF hp m (.muts (moreS mu S b)) fun hp'=>K (.val (.pointer (some ⟨b,0,none⟩))) hp' G'
  | _=>False
theorem x8q {o:Oper} {fr:List AV} {hp:List Blk} {G:Mem} {K:AV→List Blk→Mem→Prop} {m:Nat} {mu:Bool} {t:TypeId} {vs:List Value} (h:x4g m mu t vs hp G K)
    (hrun:∀ (w0:World) (G0:Mem) (β:Nm) (a:Act) (w:World),HR w0 G0 β hp G w→AV.rels β fr a.tmps.toList→(execOp a.eval o).run P w=.ok (.value (.pointer (some ⟨w.heap.size,0,none⟩))) (w.alloc (.cells vs.toArray t))):RunS P o fr hp G K:=by
  intro w0 G0 β a w hr hf
  unfold x4g at h
  split at h
  · rename_i S hS
    have hmS:=q72 hS
    have hGn:G w.heap.size=none:=q24 hr.hold (Nat.le_refl _)
    have hSn:¬ S w.heap.size:=fun hs=>by
      have:=(hr.wrt m S hmS _ hs).2.1;omega
    have h0:=h w.heap.size _ hGn hSn rfl
    rw [q1c] at h0
    have hb:Below w.heap.size w (w.alloc (.cells vs.toArray t)):=(Below.refl _ _).alloc (Nat.le_refl _) _
    have hr1:=hr.newG (Nat.le_refl _) hb (heap_alloc_new w (.cells vs.toArray t))
    refine ⟨_,.pointer (some ⟨w.heap.size,0,none⟩),_,β,_,_,_,hrun w0 G0 β a w hr hf,.inl rfl,Nm.le_refl _,?_,by simp only [AV.rel],h0⟩
    cases mu with
    | true=>exact hr1.moreS hmS hr.below.size (by have:=(Array.getElem?_eq_some_iff.1 (heap_alloc_new w (.cells vs.toArray t))).1;exact this) (Mem.le.none hr.sub hGn)
    | false =>
      show HR w0 G0 β (hp.set m (.muts S)) _ _
      rw [x0u hmS];exact hr1
  · exact h.elim
theorem z4p (m:Nat) (mu:Bool) {e:TypeId} {x:Operand} {fr:List AV} {hp:List Blk} {G:Mem} {K:AV→List Blk→Mem→Prop}
    (h:q7q (ev fr x) fun cs=>q1p cs fun vs=>x4g m mu e vs hp G K):OpP P (.box e x) fr hp G K:=by
  refine ⟨fun o ho=>OpS.of_run ?_⟩
  obtain ⟨cs,h1,hcs⟩:=q52 h
  obtain ⟨vs,rfl,h2⟩:=q2y _ _ h1
  refine x8q h2 fun w0 G0 β a w hr hf=>?_
  have hx:=q06 (hcs _ _ (q1j hf x))
  have e1:(a.eval x).cells=vs.toArray:=by rw [← hx]
  simp [execOp,ho,Instr.box,newVar,newRow,e1]
def x9k (m:Nat) (mu:Bool) (v:AV) (hp hp':List Blk) (G:Mem) (K:AV→List Blk→Mem→Prop):Prop :=
  match v with
  | .sli k 0 n c=>q0m (Nat.beq k hp.length) (match nthB hp' k with
    | .cells e l=>q1p l fun vs=>match nthB hp m with
      | .muts S=>∀ b G',G b=none→¬ S b→G'=G.put b (.cells vs.toArray e (0,0))→setF hp m (.muts (moreS mu S b)) fun hp1=>K (.val (.slice (some ⟨b,0,none⟩) n c)) hp1 G'
      | _=>False
    | _=>False)
  | _=>False
theorem q9c (hT:TOk P T) (m:Nat) (mu:Bool) {t:TypeId} {n:Nat} {ps:Array (Nat × Operand)} {fr:List AV} {hp:List Blk} {G:Mem} {K:AV→List Blk→Mem→Prop}
    (h:q5l T t n ps fr hp G fun v hp' _=>x9k m mu v hp hp' G K):OpP P (.buildSlice t n ps) fr hp G K:=by
  refine ⟨fun o ho=>OpS.of_run fun w0 G0 β a w hr hf=>?_⟩
  obtain ⟨v,x,hK,hrun⟩:=q5e hT ho h
  unfold x9k at hK
  split at hK
  · rename_i k n' c
    obtain ⟨hk0,h1⟩:=q0l hK
    obtain rfl:=Nat.eq_of_beq_eq_true hk0
    split at h1
    · rename_i e l hx
      obtain ⟨vs,rfl,h2⟩:=q2y _ _ h1
      have hxe:x=.cells e (vs.map .val):=by
        rw [q3d,List.getElem?_append_right (Nat.le_refl _)] at hx
        simpa using hx
      split at h2
      · rename_i S hS
        have hmS:=q72 hS
        have hn:=hr.fresh (Nat.le_refl hp.length)
        obtain ⟨y,z,w',g1,g2,g3,g4,g5⟩:=hrun _ β a.eval w hr.br hr.below.size hn (z01 hf)
        subst hxe
        obtain ⟨b,cs,rfl,q1,q2,q3,q4⟩:=g3
        have hbs:w.heap.size≤b:=g4 b rfl
        simp only [AV.rel] at g5
        obtain ⟨u,b',hu,hb',rfl⟩:=g5
        rw [Nm.put_same] at hu
        cases hu
        simp [q0g] at hb'
        subst hb'
        have ec:cs=vs.toArray:=by rw [← q06 q4]
        subst ec
        have hGn:G b=none:=q24 hr.hold hbs
        have hSn:¬ S b:=fun hs=>by
          have:=(hr.wrt m S hmS _ hs).2.1;omega
        have h0:=h2 b _ hGn hSn rfl
        rw [q1c] at h0
        have hr1:=hr.newG hbs g2 q3
        refine ⟨_,_,w',β,_,_,_,g1,.inl rfl,Nm.le_refl _,?_,by simp only [AV.rel],h0⟩
        cases mu with
        | true=>exact hr1.moreS hmS (Nat.le_trans hr.below.size hbs) (Array.getElem?_eq_some_iff.1 q3).1 (Mem.le.none hr.sub hGn)
        | false =>
          show HR w0 G0 β (hp.set m (.muts S)) _ _
          rw [x0u hmS];exact hr1
      · exact h2.elim
    · exact h1.elim
  · exact hK.elim
theorem z5w (hT:TOk P T) (m:Nat) {op:Op} {fr:List AV} {hp:List Blk} {G:Mem} {K:AV→List Blk→Mem→Prop} {t:TypeId} {x z:Operand} {b off:Nat} (hop:op=.store t x z) (hx:ev fr x=.val (.pointer (some ⟨b,off,none⟩)))
    {E:TypeId} {cs:Array Value} (hG:G b=some (.cells cs E (0,0)))
    (h : q04 T t fun i=>q7q (ev fr z) fun zs=>q1p zs fun vs=>q0m (Nat.beq vs.length i.size) (q0m (q81 vs) (match nthB hp m with
      | .muts S=>S b∧off+vs.length≤cs.size∧∀ G',G'=G.put b (.cells (cs.toList.take off++vs++cs.toList.drop (off+vs.length)).toArray E (0,0))→K (.val undef) hp G'
      | _=>False))):OpP P op fr hp G K:=by
  refine ⟨fun o ho=>OpS.of_run fun w0 G0 β a w hr hf=>?_⟩
  have ho:o.op=.store t x z:=ho.trans hop
  obtain ⟨i,hi,h1⟩:=q0p hT h
  obtain ⟨zs,h2,hcs⟩:=q52 h1
  obtain ⟨vs,rfl,h3⟩:=q2y _ _ h2
  obtain ⟨hl0,h4⟩:=q0l h3
  obtain ⟨hone,h5⟩:=q0l h4
  have hlen:=Nat.eq_of_beq_eq_true hl0
  have he:=q1j hf x
  rw [hx] at he;simp only [AV.rel] at he
  have hz:=q06 (hcs _ _ (q1j hf z))
  split at h5
  · rename_i S hS
    obtain ⟨hSb,hle,hK⟩:=h5
    have hmS:=q72 hS
    obtain ⟨k1,k2,k3⟩:=hr.wrt m S hmS b hSb
    have hh:=hr.hold b _ hG
    have hrun:=q46 (P:=P) hi (off:=off) hz hh hlen (by simpa using hle) (q7p hone)
    have hnew:(w.setRow b (cs.toList.take off++vs++cs.toList.drop (off+vs.length)).toArray).heap[b]? = some (.cells (cs.toList.take off++vs++cs.toList.drop (off+vs.length)).toArray E (0,0)):=setRow_heap _ _ _ _ _ _ hh
    exact ⟨.skip,undef,_,β,.val undef,_,_,by simp [execOp,ho,he,Instr.storeAt,Instr.sureAddr,hrun];(try rfl),.inr ⟨rfl,rfl⟩,Nm.le_refl _,hr.writeG k1 k3 hG (q1x w b _) hnew,by simp only [AV.rel],hK _ rfl⟩
  · exact h5.elim
def GivesM (P:Program) (f:FuncId) (args:List AV) (F:Mem) (R:Value→Mem→Prop):Prop :=
  ∀ (w:World) (vs:Array Value),F.holds w→AV.rels noName args vs.toList→Calls P f vs w fun e w'=>∃ y F',e=.returned y∧Below w.heap.size w w'∧F.le F'∧F'.holds w'∧(∀ b o,F' b=some o→F b=some o∨w.heap.size≤b)∧R y F'
theorem x6h (hT:TOk P T) {f:FuncId} {fn:Func} (hfn:P.funcs[f]? = some fn) {args:List AV} {G:Mem} {R:Value→Mem→Prop}
    (h:q0m (q6e fn) (q4d P T 1 fn args [.muts fun _=>False] G fun v hp' G'=>∃ y,v=.val y∧R y G')):GivesM P f args G R:=by
  intro w vs hG ha
  refine (z0s hT hfn (args:=args) ha hG h).mono ?_
  rintro e w' ⟨y,β',v,hp',G',h1,h2,h3,y',rfl,hR⟩
  simp only [AV.rel] at h3
  subst h3
  exact ⟨y,G',h1,h2.below,h2.sub,h2.hold,h2.grow,hR⟩
theorem z1s (hT:TOk P T) {f:FuncId} {fn:Func} (hfn:P.funcs[f]? = some fn) {args:List AV} {G:Mem} {R:Value→Mem→Prop} (hn:q6e fn=true)
    (h:q4d P T 0 fn args [] G fun v hp' G'=>∃ id k t l cs,v=.fn id [] [.ptr k 0]∧nthB hp' k=.cells t l∧(∀ β zs,AV.rels β l zs→zs=cs)∧∀ b,G' b=none→R (.func id #[] #[.pointer (some ⟨b,0,none⟩)]) (G'.put b (.cells cs.toArray t (0,0)))):GivesM P f args G R:=by
  intro w vs hG ha
  refine (q5u hT hfn (hp:=[]) h (.inl hn) w G _ w vs (HR.init hG) ha).mono ?_
  rintro e w' ⟨y,β',v,hp',G',h1,_,h2,h3,id,k,t,l,cs,rfl,hk,hcs,hR⟩
  simp only [AV.rel,AV.rels] at h3
  obtain ⟨xs,ys,rfl,hxs,z,zs,hys,⟨u,b0,hu,hb0,rfl⟩,rfl⟩:=h3
  obtain ⟨x,hx1,hx2⟩:=h2.blk k u hu
  rw [q0z hk rfl] at hx1;cases hx1
  obtain ⟨b,c,rfl,q1,q2,q3,q4⟩:=hx2
  simp [q0g] at hb0
  subst hb0
  have ec:=hcs _ _ q4
  refine ⟨_,G'.put b (.cells cs.toArray t (0,0)),h1,h2.below,fun b' o hb'=>?_,fun b' o hb'=>?_,fun b' o hb'=>?_,?_⟩
  · have:b'≠b:=fun e=>by subst e;rw [h2.sub _ _ hb'] at q2;cases q2
    rw [Mem.put_ne _ _ this];exact h2.sub _ _ hb'
  · by_cases e:b'=b
    · subst e;rw [Mem.put_same] at hb';cases hb';rw [q3,← ec]
    · rw [Mem.put_ne _ _ e] at hb';exact h2.hold _ _ hb'
  · by_cases e:b'=b
    · subst e;exact .inr q1
    · rw [Mem.put_ne _ _ e] at hb';exact h2.grow _ _ hb'
  · have e1:xs=#[]:=Array.toList_inj.1 hxs
    have e2:ys=#[.pointer (some ⟨b,0,none⟩)]:=Array.toList_inj.1 hys
    rw [e1,e2];exact hR b q2
def Mem.over (G F:Mem):Mem:=fun b=>match G b with
  | some o=>some o
  | none=>F b
theorem Mem.le_over (G F:Mem):G.le (G.over F):=fun b o hb=>by unfold Mem.over;rw [hb]
theorem HR.over {w0:World} {G0:Mem} {β:Nm} {hp:List Blk} {G F F':Mem} {w w':World} (hr:HR w0 G0 β hp G w) (h3:Below w.heap.size w w') (hF:F.le G) (hh:F'.holds w') (hg:∀ b o,F' b=some o→F b=some o∨w.heap.size≤b):HR w0 G0 β hp (G.over F') w'∧F'.le (G.over F'):=by
  have hr':=hr.step h3
  have hov:∀ b o,G.over F' b=some o→G b=some o∨(G b=none∧F' b=some o):=fun b o hb=>by
    unfold Mem.over at hb
    cases hG:G b with
    | none=>rw [hG] at hb;exact .inr ⟨rfl,hb⟩
    | some q=>rw [hG] at hb;exact .inl hb
  have hge:∀ b o,G b=none→F' b=some o→w.heap.size≤b:=fun b o hb ho=>by
    rcases hg b o ho with h |h
    · rw [hF b o h] at hb;cases hb
    · exact h
  have hno:∀ b,G b=none→b<w.heap.size→G.over F' b=none:=fun b hb hl=>by
    cases e:G.over F' b with
    | none=>rfl
    | some o =>
      rcases hov b o e with h6 |⟨_,h6⟩
      · rw [hb] at h6;cases h6
      · have:=hge b o hb h6;omega
  refine ⟨⟨hr'.below,fun b o hb=>?_,Mem.le_trans hr.sub (Mem.le_over _ _),fun b o hb=>?_,fun k z hk=>?_,hr'.inj,hr'.wrt⟩,fun b o hb=>?_⟩
  · rcases hov b o hb with h |⟨_,h⟩
    · exact hr'.hold b o h
    · exact hh b o h
  · rcases hov b o hb with h |⟨h1,h⟩
    · exact hr.grow b o h
    · exact .inr (Nat.le_trans hr.below.size (hge b o h1 h))
  · obtain ⟨x,hx1,hx2⟩:=hr.blk k z hk
    obtain ⟨x',hx1',hx2'⟩:=hr'.blk k z hk
    rw [hx1] at hx1';cases hx1'
    refine ⟨x,hx1,?_⟩
    have hlt:∀ b,x.live=true→q0g z=some b→b<w.heap.size:=fun b hl hb=>(hr.lt hk hx1 hl hb).2.1
    cases x with
    | gone=>trivial
    | muts S=>exact hx2'.elim
    | cells t l =>
      obtain ⟨b,c,q1,q2,q3,q4,q5⟩:=hx2'
      exact ⟨b,c,q1,q2,hno b q3 (hlt b rfl (by rw [q1];rfl)),q4,q5⟩
    | own e' sz' n' xs' =>
      exact ⟨hx2'.1,fun b hb=>hno b (hx2'.2 b hb) (hlt b rfl hb)⟩
    | lp i fr st p =>
      obtain ⟨q1,q2,q3,q4⟩:=hx2'
      exact ⟨q1,q2,hno i.l q3 (hlt i.l rfl (by rw [q1];rfl)),q4⟩
    | mp f ks vs =>
      obtain ⟨b,ys,q1,q2,q3,q4⟩:=hx2'
      exact ⟨b,ys,q1,q2,hno b q3 (hlt b rfl (by rw [q1];rfl)),q4⟩
  · unfold Mem.over
    cases hG:G b with
    | none=>exact hb
    | some q =>
      rcases hg b o hb with h |h
      · rw [hF b o h] at hG;cases hG;rfl
      · rw [q24 hr.hold h] at hG;cases hG
theorem q9d {f:FuncId} (hen:∀ vs w,(callFunc f vs).run P w=.ok (.enter f vs) w) (m:Nat) {S:Nat→Prop} {F:Mem} {R:Value→Mem→Prop} {args:List AV} {hp:List Blk} {G:Mem} {K:AV→List Blk→Mem→Prop} (hS:nthB hp m=.muts S) (hu:AV.unders 0 args=true) (hF:F.le G) (hd:∀ b,S b→F b=none)
    (hc:GivesM P f args F R) (h:∀ y F' G',F.le F'→F'.le G'→G.le G'→(∀ b,S b→F' b=none)→(∀ b,S b→G' b=G b)→R y F'→K (.val y) hp G'):CallP P f args hp G K:=by
  have hmS:=q72 hS
  refine ⟨hen,fun w0 G0 β w vs hr ha=>(hc w vs (fun b o hb=>hr.hold b o (hF b o hb)) (q2z hu ha)).mono ?_⟩
  rintro e w' ⟨y,F',rfl,h3,hle,hh,hg,hR⟩
  obtain ⟨hr',hF'⟩:=hr.over h3 hF hh hg
  have hSF:∀ b,S b→F' b=none:=fun b hb=>by
    cases e:F' b with
    | none=>rfl
    | some o =>
      rcases hg b o e with h6 |h6
      · rw [hd b hb] at h6;cases h6
      · have:=(hr.wrt m S hmS b hb).2.1;omega
  refine ⟨y,β,.val y,hp,_,rfl,Nm.le_refl _,hr',by simp only [AV.rel],h y F' _ hle hF' (Mem.le_over _ _) hSF (fun b hb=>?_) hR⟩
  unfold Mem.over
  cases hG:G b with
  | none=>exact hSF b hb
  | some q=>rfl
theorem q9e {f:FuncId} (hen:∀ vs w,(callFunc f vs).run P w=.ok (.enter f vs) w) {R:Value→Mem→Prop} {args:List AV} {hp:List Blk} {G:Mem} {K:AV→List Blk→Mem→Prop} (hu:AV.unders 0 args=true)
    (hc:GivesM P f args G R) (h:∀ y G',G.le G'→R y G'→K (.val y) hp G'):CallP P f args hp G K:=by
  refine ⟨hen,fun w0 G0 β w vs hr ha=>(hc w vs hr.hold (q2z hu ha)).mono ?_⟩
  rintro e w' ⟨y,F',rfl,h3,hle,hh,hg,hR⟩
  obtain ⟨hr',hF'⟩:=hr.over h3 (Mem.le_refl _) hh hg
  have e:G.over F'=F':=by
    funext b
    unfold Mem.over
    cases hG:G b with
    | none=>rfl
    | some q=>rw [hle b q hG]
  rw [e] at hr'
  exact ⟨y,β,.val y,hp,F',rfl,Nm.le_refl _,hr',by simp only [AV.rel],h y F' hle hR⟩
end
end Go.Proofs.YticolnghiibgfaaGreat
