/-
  Merged: XGb, XIsSrc, XMixFn.
-/
import Derived.Test.YtkicdhaklnmonaaGreatMrg18
import Derived.Test.YtkicdhaklnmonaaGreatMrg23
import Derived.Test.YtkicdhaklnmonaaGreatMrg8
import Derived.Test.YtkicdhaklnmonaaGreatMrg9
set_option linter.unusedVariables false
set_option linter.unusedSimpArgs false
set_option linter.unnecessarySimpa false
namespace Go.Proofs.YtkicdhaklnmonaaGreat
open Go.RowKit
theorem q5i {G:Mem} {b:Nat} {t:TypeId} {vs:List Value} (h:G b=some (.cells vs.toArray t (0,0))) {a:Addr} {n:Nat} {K:List Value→Prop} (hb:a.block=b) (hs:a.spot=none) (hn:Nat.ble (a.off+n) vs.length=true) (k:K ((vs.drop a.off).take n)):OldCells G a n K:=by
  have hn:=Nat.le_of_ble_eq_true hn
  refine ⟨_,⟨by simp;omega,fun j u hj=>?_⟩,k⟩
  rw [List.getElem?_take] at hj
  split at hj
  · rw [List.getElem?_drop] at hj
    unfold Mem.cell?
    obtain ⟨ab,ao,asp⟩:=a
    simp only at hb hs hj
    subst hb;subst hs
    rw [q0m]
    simp only [h]
    simpa using hj
  · cases hj
theorem x7g {P:Program} {f:FuncId} {r:List AV} {hp:List Blk} {G:Mem} {K:AV→List Blk→Mem→Prop} (l:List Value) (h:CallP P f (.agg (l.map .val)::r) hp G K):CallP P f (.val (.agg l.toArray)::r) hp G K:=by
  refine ⟨h.enters,fun w0 G0 β w vs hr ha=>h.calls w0 G0 β w vs hr ?_⟩
  simp only [AV.rels,AV.rel] at ha ⊢
  obtain ⟨y,zs,h1,rfl,h2⟩:=ha
  exact ⟨_,zs,h1,⟨_,rfl,AV.rels_vals l⟩,h2⟩
section
variable {P:Program} {T:Tab}
def moreS (mu:Bool) (S:Nat→Prop) (b:Nat):Nat→Prop:=match mu with
  | true=>fun c=>S c∨c=b
  | false=>S
theorem x1l {hp:List Blk} {m:Nat} {x:Blk} (h:hp[m]? = some x):hp.set m x=hp:=by
  apply List.ext_getElem?
  intro i
  by_cases hi:m=i
  · subst hi;rw [List.getElem?_set_self (List.getElem?_eq_some_iff.1 h).1,h]
  · rw [List.getElem?_set_ne hi]
def x43 (m:Nat) (mu:Bool) (t:TypeId) (vs:List Value) (hp:List Blk) (G:Mem) (K:AV→List Blk→Mem→Prop):Prop :=
  match nthB hp m with
  | .muts S=>∀ b G',G b=none→¬ S b→G'=G.put b (.cells vs.toArray t (0,0))→setF hp m (.muts (moreS mu S b)) fun hp'=>K (.val (.pointer (some ⟨b,0,none⟩))) hp' G'
  | _=>False
theorem x9s {o:Oper} {fr:List AV} {hp:List Blk} {G:Mem} {K:AV→List Blk→Mem→Prop} {m:Nat} {mu:Bool} {t:TypeId} {vs:List Value} (h:x43 m mu t vs hp G K)
    (hrun:∀ (w0:World) (G0:Mem) (β:Nm) (a:Act) (w:World),HR w0 G0 β hp G w→AV.rels β fr a.tmps.toList→(execOp a.eval o).run P w=.ok (.value (.pointer (some ⟨w.heap.size,0,none⟩))) (w.alloc (.cells vs.toArray t))):RunS P o fr hp G K:=by
  intro w0 G0 β a w hr hf
  unfold x43 at h
  split at h
  · rename_i S hS
    have hmS:=q3v hS
    have hGn:G w.heap.size=none:=q2k hr.hold (Nat.le_refl _)
    have hSn:¬ S w.heap.size:=fun hs=>by
      have:=(hr.wrt m S hmS _ hs).2.1;omega
    have h0:=h w.heap.size _ hGn hSn rfl
    rw [q09] at h0
    have hb:Below w.heap.size w (w.alloc (.cells vs.toArray t)):=(Below.refl _ _).alloc (Nat.le_refl _) _
    have hr1:=hr.newG (Nat.le_refl _) hb (heap_alloc_new w (.cells vs.toArray t))
    refine ⟨_,.pointer (some ⟨w.heap.size,0,none⟩),_,β,_,_,_,hrun w0 G0 β a w hr hf,.inl rfl,Nm.le_refl _,?_,by simp only [AV.rel],h0⟩
    cases mu with
    | true=>exact hr1.moreS hmS hr.below.size (by have:=(Array.getElem?_eq_some_iff.1 (heap_alloc_new w (.cells vs.toArray t))).1;exact this) (Mem.le.none hr.sub hGn)
    | false =>
      show HR w0 G0 β (hp.set m (.muts S)) _ _
      rw [x1l hmS];exact hr1
  · exact h.elim
theorem z40 (m:Nat) (mu:Bool) {e:TypeId} {x:Operand} {fr:List AV} {hp:List Blk} {G:Mem} {K:AV→List Blk→Mem→Prop}
    (h:q65 (ev fr x) fun cs=>q1o cs fun vs=>x43 m mu e vs hp G K):OpP P (.box e x) fr hp G K:=by
  refine ⟨fun o ho=>OpS.of_run ?_⟩
  obtain ⟨cs,h1,hcs⟩:=q5q h
  obtain ⟨vs,rfl,h2⟩:=q2q _ _ h1
  refine x9s h2 fun w0 G0 β a w hr hf=>?_
  have hx:=q07 (hcs _ _ (q1f hf x))
  have e1:(a.eval x).cells=vs.toArray:=by rw [← hx]
  simp [execOp,ho,Instr.box,newVar,newRow,e1]
def v0i (m:Nat) (mu:Bool) (v:AV) (hp hp':List Blk) (G:Mem) (K:AV→List Blk→Mem→Prop):Prop :=
  match v with
  | .sli k 0 n c=>q0o (Nat.beq k hp.length) (match nthB hp' k with
    | .cells e l=>q1o l fun vs=>match nthB hp m with
      | .muts S=>∀ b G',G b=none→¬ S b→G'=G.put b (.cells vs.toArray e (0,0))→setF hp m (.muts (moreS mu S b)) fun hp1=>K (.val (.slice (some ⟨b,0,none⟩) n c)) hp1 G'
      | _=>False
    | _=>False)
  | _=>False
theorem q9q (hT:TOk P T) (m:Nat) (mu:Bool) {t:TypeId} {n:Nat} {ps:Array (Nat × Operand)} {fr:List AV} {hp:List Blk} {G:Mem} {K:AV→List Blk→Mem→Prop}
    (h:q6d T t n ps fr hp G fun v hp' _=>v0i m mu v hp hp' G K):OpP P (.buildSlice t n ps) fr hp G K:=by
  refine ⟨fun o ho=>OpS.of_run fun w0 G0 β a w hr hf=>?_⟩
  obtain ⟨v,x,hK,hrun⟩:=q55 hT ho h
  unfold v0i at hK
  split at hK
  · rename_i k n' c
    obtain ⟨hk0,h1⟩:=q0n hK
    obtain rfl:=Nat.eq_of_beq_eq_true hk0
    split at h1
    · rename_i e l hx
      obtain ⟨vs,rfl,h2⟩:=q2q _ _ h1
      have hxe:x=.cells e (vs.map .val):=by
        rw [q2p,List.getElem?_append_right (Nat.le_refl _)] at hx
        simpa using hx
      split at h2
      · rename_i S hS
        have hmS:=q3v hS
        have hn:=hr.fresh (Nat.le_refl hp.length)
        obtain ⟨y,z,w',g1,g2,g3,g4,g5⟩:=hrun _ β a.eval w hr.br hr.below.size hn (z09 hf)
        subst hxe
        obtain ⟨b,cs,rfl,q1,q2,q3,q4⟩:=g3
        have hbs:w.heap.size≤b:=g4 b rfl
        simp only [AV.rel] at g5
        obtain ⟨u,b',hu,hb',rfl⟩:=g5
        rw [Nm.put_same] at hu
        cases hu
        simp [q0h] at hb'
        subst hb'
        have ec:cs=vs.toArray:=by rw [← q07 q4]
        subst ec
        have hGn:G b=none:=q2k hr.hold hbs
        have hSn:¬ S b:=fun hs=>by
          have:=(hr.wrt m S hmS _ hs).2.1;omega
        have h0:=h2 b _ hGn hSn rfl
        rw [q09] at h0
        have hr1:=hr.newG hbs g2 q3
        refine ⟨_,_,w',β,_,_,_,g1,.inl rfl,Nm.le_refl _,?_,by simp only [AV.rel],h0⟩
        cases mu with
        | true=>exact hr1.moreS hmS (Nat.le_trans hr.below.size hbs) (Array.getElem?_eq_some_iff.1 q3).1 (Mem.le.none hr.sub hGn)
        | false =>
          show HR w0 G0 β (hp.set m (.muts S)) _ _
          rw [x1l hmS];exact hr1
      · exact h2.elim
    · exact h1.elim
  · exact hK.elim
theorem z6h (hT:TOk P T) (m:Nat) {op:Op} {fr:List AV} {hp:List Blk} {G:Mem} {K:AV→List Blk→Mem→Prop} {t:TypeId} {x z:Operand} {b off:Nat} (hop:op=.store t x z) (hx:ev fr x=.val (.pointer (some ⟨b,off,none⟩)))
    {E:TypeId} {cs:Array Value} (hG:G b=some (.cells cs E (0,0)))
    (h : q00 T t fun i=>q65 (ev fr z) fun zs=>q1o zs fun vs=>q0o (Nat.beq vs.length i.size) (q0o (q76 vs) (match nthB hp m with
      | .muts S=>S b∧off+vs.length≤cs.size∧∀ G',G'=G.put b (.cells (cs.toList.take off++vs++cs.toList.drop (off+vs.length)).toArray E (0,0))→K (.val undef) hp G'
      | _=>False))):OpP P op fr hp G K:=by
  refine ⟨fun o ho=>OpS.of_run fun w0 G0 β a w hr hf=>?_⟩
  have ho:o.op=.store t x z:=ho.trans hop
  obtain ⟨i,hi,h1⟩:=q0s hT h
  obtain ⟨zs,h2,hcs⟩:=q5q h1
  obtain ⟨vs,rfl,h3⟩:=q2q _ _ h2
  obtain ⟨hl0,h4⟩:=q0n h3
  obtain ⟨hone,h5⟩:=q0n h4
  have hlen:=Nat.eq_of_beq_eq_true hl0
  have he:=q1f hf x
  rw [hx] at he;simp only [AV.rel] at he
  have hz:=q07 (hcs _ _ (q1f hf z))
  split at h5
  · rename_i S hS
    obtain ⟨hSb,hle,hK⟩:=h5
    have hmS:=q3v hS
    obtain ⟨k1,k2,k3⟩:=hr.wrt m S hmS b hSb
    have hh:=hr.hold b _ hG
    have hrun:=q4r (P:=P) hi (off:=off) hz hh hlen (by simpa using hle) (q6t hone)
    have hnew:(w.setRow b (cs.toList.take off++vs++cs.toList.drop (off+vs.length)).toArray).heap[b]? = some (.cells (cs.toList.take off++vs++cs.toList.drop (off+vs.length)).toArray E (0,0)):=setRow_heap _ _ _ _ _ _ hh
    exact ⟨.skip,undef,_,β,.val undef,_,_,by simp [execOp,ho,he,Instr.storeAt,Instr.sureAddr,hrun];(try rfl),.inr ⟨rfl,rfl⟩,Nm.le_refl _,hr.writeG k1 k3 hG (q1r w b _) hnew,by simp only [AV.rel],hK _ rfl⟩
  · exact h5.elim
def GivesM (P:Program) (f:FuncId) (args:List AV) (F:Mem) (R:Value→Mem→Prop):Prop :=
  ∀ (w:World) (vs:Array Value),F.holds w→AV.rels noName args vs.toList→Calls P f vs w fun e w'=>∃ y F',e=.returned y∧Below w.heap.size w w'∧F.le F'∧F'.holds w'∧(∀ b o,F' b=some o→F b=some o∨w.heap.size≤b)∧R y F'
theorem x7h (hT:TOk P T) {f:FuncId} {fn:Func} (hfn:P.funcs[f]? = some fn) {args:List AV} {G:Mem} {R:Value→Mem→Prop}
    (h:q0o (q5s fn) (q32 P T 1 fn args [.muts fun _=>False] G fun v hp' G'=>∃ y,v=.val y∧R y G')):GivesM P f args G R:=by
  intro w vs hG ha
  refine (q6a hT hfn (args:=args) ha hG h).mono ?_
  rintro e w' ⟨y,β',v,hp',G',h1,h2,h3,y',rfl,hR⟩
  simp only [AV.rel] at h3
  subst h3
  exact ⟨y,G',h1,h2.below,h2.sub,h2.hold,h2.grow,hR⟩
theorem x44 (hT:TOk P T) {f:FuncId} {fn:Func} (hfn:P.funcs[f]? = some fn) {args:List AV} {G:Mem} {R:Value→Mem→Prop} (hn:q5s fn=true)
    (h:q32 P T 0 fn args [] G fun v hp' G'=>∃ id k t l cs,v=.fn id [] [.ptr k 0]∧nthB hp' k=.cells t l∧(∀ β zs,AV.rels β l zs→zs=cs)∧∀ b,G' b=none→R (.func id #[] #[.pointer (some ⟨b,0,none⟩)]) (G'.put b (.cells cs.toArray t (0,0)))):GivesM P f args G R:=by
  intro w vs hG ha
  refine (q5t hT hfn (hp:=[]) h (.inl hn) w G _ w vs (HR.init hG) ha).mono ?_
  rintro e w' ⟨y,β',v,hp',G',h1,_,h2,h3,id,k,t,l,cs,rfl,hk,hcs,hR⟩
  simp only [AV.rel,AV.rels] at h3
  obtain ⟨xs,ys,rfl,hxs,z,zs,hys,⟨u,b0,hu,hb0,rfl⟩,rfl⟩:=h3
  obtain ⟨x,hx1,hx2⟩:=h2.blk k u hu
  rw [q0p hk rfl] at hx1;cases hx1
  obtain ⟨b,c,rfl,q1,q2,q3,q4⟩:=hx2
  simp [q0h] at hb0
  subst hb0
  have ec:=hcs _ _ q4
  refine ⟨_,G'.put b (.cells cs.toArray t (0,0)),h1,h2.below,fun b' o hb'=>?_,fun b' o hb'=>?_,fun b' o hb'=>?_,?_⟩
  · have:b'≠b:=fun e=>by subst e;rw [h2.sub _ _ hb'] at q2;cases q2
    rw [Mem.put_ne _ _ this];exact h2.sub _ _ hb'
  · by_cases e:b'=b
    · subst e;rw [Mem.put_same] at hb';cases hb';rw [q3,← ec]
    · rw [Mem.put_ne _ _ e] at hb';exact h2.hold _ _ hb'
  · by_cases e:b'=b
    · subst e;exact .inr q1
    · rw [Mem.put_ne _ _ e] at hb';exact h2.grow _ _ hb'
  · have e1:xs=#[]:=Array.toList_inj.1 hxs
    have e2:ys=#[.pointer (some ⟨b,0,none⟩)]:=Array.toList_inj.1 hys
    rw [e1,e2];exact hR b q2
def Mem.over (G F:Mem):Mem:=fun b=>match G b with
  | some o=>some o
  | none=>F b
theorem Mem.le_over (G F:Mem):G.le (G.over F):=fun b o hb=>by unfold Mem.over;rw [hb]
theorem HR.over {w0:World} {G0:Mem} {β:Nm} {hp:List Blk} {G F F':Mem} {w w':World} (hr:HR w0 G0 β hp G w) (h3:Below w.heap.size w w') (hF:F.le G) (hh:F'.holds w') (hg:∀ b o,F' b=some o→F b=some o∨w.heap.size≤b):HR w0 G0 β hp (G.over F') w'∧F'.le (G.over F'):=by
  have hr':=hr.step h3
  have hov:∀ b o,G.over F' b=some o→G b=some o∨(G b=none∧F' b=some o):=fun b o hb=>by
    unfold Mem.over at hb
    cases hG:G b with
    | none=>rw [hG] at hb;exact .inr ⟨rfl,hb⟩
    | some q=>rw [hG] at hb;exact .inl hb
  have hge:∀ b o,G b=none→F' b=some o→w.heap.size≤b:=fun b o hb ho=>by
    rcases hg b o ho with h |h
    · rw [hF b o h] at hb;cases hb
    · exact h
  have hno:∀ b,G b=none→b<w.heap.size→G.over F' b=none:=fun b hb hl=>by
    cases e:G.over F' b with
    | none=>rfl
    | some o =>
      rcases hov b o e with h6 |⟨_,h6⟩
      · rw [hb] at h6;cases h6
      · have:=hge b o hb h6;omega
  refine ⟨⟨hr'.below,fun b o hb=>?_,Mem.le_trans hr.sub (Mem.le_over _ _),fun b o hb=>?_,fun k z hk=>?_,hr'.inj,hr'.wrt⟩,fun b o hb=>?_⟩
  · rcases hov b o hb with h |⟨_,h⟩
    · exact hr'.hold b o h
    · exact hh b o h
  · rcases hov b o hb with h |⟨h1,h⟩
    · exact hr.grow b o h
    · exact .inr (Nat.le_trans hr.below.size (hge b o h1 h))
  · obtain ⟨x,hx1,hx2⟩:=hr.blk k z hk
    obtain ⟨x',hx1',hx2'⟩:=hr'.blk k z hk
    rw [hx1] at hx1';cases hx1'
    refine ⟨x,hx1,?_⟩
    have hlt:∀ b,x.live=true→q0h z=some b→b<w.heap.size:=fun b hl hb=>(hr.lt hk hx1 hl hb).2.1
    cases x with
    | gone=>trivial
    | muts S=>exact hx2'.elim
    | cells t l =>
      obtain ⟨b,c,q1,q2,q3,q4,q5⟩:=hx2'
      exact ⟨b,c,q1,q2,hno b q3 (hlt b rfl (by rw [q1];rfl)),q4,q5⟩
    | own e' sz' n' xs' =>
      exact ⟨hx2'.1,fun b hb=>hno b (hx2'.2 b hb) (hlt b rfl hb)⟩
    | lp i fr st p =>
      obtain ⟨q1,q2,q3,q4⟩:=hx2'
      exact ⟨q1,q2,hno i.l q3 (hlt i.l rfl (by rw [q1];rfl)),q4⟩
    | mp f ks vs =>
      obtain ⟨b,ys,q1,q2,q3,q4⟩:=hx2'
      exact ⟨b,ys,q1,q2,hno b q3 (hlt b rfl (by rw [q1];rfl)),q4⟩
  · unfold Mem.over
    cases hG:G b with
    | none=>exact hb
    | some q =>
      rcases hg b o hb with h |h
      · rw [hF b o h] at hG;cases hG;rfl
      · rw [q2k hr.hold h] at hG;cases hG
theorem q9r {f:FuncId} (hen:∀ vs w,(callFunc f vs).run P w=.ok (.enter f vs) w) (m:Nat) {S:Nat→Prop} {F:Mem} {R:Value→Mem→Prop} {args:List AV} {hp:List Blk} {G:Mem} {K:AV→List Blk→Mem→Prop} (hS:nthB hp m=.muts S) (hu:AV.unders 0 args=true) (hF:F.le G) (hd:∀ b,S b→F b=none)
    (hc:GivesM P f args F R) (h:∀ y F' G',F.le F'→F'.le G'→G.le G'→(∀ b,S b→F' b=none)→(∀ b,S b→G' b=G b)→R y F'→K (.val y) hp G'):CallP P f args hp G K:=by
  have hmS:=q3v hS
  refine ⟨hen,fun w0 G0 β w vs hr ha=>(hc w vs (fun b o hb=>hr.hold b o (hF b o hb)) (q2r hu ha)).mono ?_⟩
  rintro e w' ⟨y,F',rfl,h3,hle,hh,hg,hR⟩
  obtain ⟨hr',hF'⟩:=hr.over h3 hF hh hg
  have hSF:∀ b,S b→F' b=none:=fun b hb=>by
    cases e:F' b with
    | none=>rfl
    | some o =>
      rcases hg b o e with h6 |h6
      · rw [hd b hb] at h6;cases h6
      · have:=(hr.wrt m S hmS b hb).2.1;omega
  refine ⟨y,β,.val y,hp,_,rfl,Nm.le_refl _,hr',by simp only [AV.rel],h y F' _ hle hF' (Mem.le_over _ _) hSF (fun b hb=>?_) hR⟩
  unfold Mem.over
  cases hG:G b with
  | none=>exact hSF b hb
  | some q=>rfl
theorem z24 {f:FuncId} (hen:∀ vs w,(callFunc f vs).run P w=.ok (.enter f vs) w) {R:Value→Mem→Prop} {args:List AV} {hp:List Blk} {G:Mem} {K:AV→List Blk→Mem→Prop} (hu:AV.unders 0 args=true)
    (hc:GivesM P f args G R) (h:∀ y G',G.le G'→R y G'→K (.val y) hp G'):CallP P f args hp G K:=by
  refine ⟨hen,fun w0 G0 β w vs hr ha=>(hc w vs hr.hold (q2r hu ha)).mono ?_⟩
  rintro e w' ⟨y,F',rfl,h3,hle,hh,hg,hR⟩
  obtain ⟨hr',hF'⟩:=hr.over h3 (Mem.le_refl _) hh hg
  have e:G.over F'=F':=by
    funext b
    unfold Mem.over
    cases hG:G b with
    | none=>rfl
    | some q=>rw [hle b q hG]
  rw [e] at hr'
  exact ⟨y,β,.val y,hp,F',rfl,Nm.le_refl _,hr',by simp only [AV.rel],h y F' hle hR⟩
end
end Go.Proofs.YtkicdhaklnmonaaGreat
namespace Go.Proofs.YtkicdhaklnmonaaGreat
open Go.RowKit Go.Proofs.YtkicdhaklnmonaaGreat.gradientRamps Go.Proofs.YtkicdhaklnmonaaGreat.gradientPlaces Go.Proofs.YtkicdhaklnmonaaGreat.imageCells
set_option maxRecDepth 20000
abbrev SrcF:=Int→Int→(Nat→Int) × Int
def IsSrc (F:Mem) (v:Value) (f:SrcF):Prop :=
  ∃ id p,v=.func (.func id) #[] #[.pointer (some ⟨p,0,none⟩)]∧(∀ vs w,(callFunc id vs).run Tryz.prog w=.ok (.enter id vs) w)∧∀ x y:Int,(-8192≤x∧x<8192)→(-8192≤y∧y<8192) →
    Gives Tryz.prog id [.val (.int .i64 x),.val (.int .i64 y),.val (.pointer (some ⟨p,0,none⟩))] F (.tup [v2u (f x y).1,.val (.int .u8 (f x y).2)])
section
variable {k:Int} {I:Nat→Int} {fx fy tx ty r:Int} {A:Option Addr} {n q:Nat} {W H:Int} {B:Option Addr} {pn pq:Nat} {C:Option Addr} {sn sq:Nat} {a b c d e f:Int} {s t:Bool} {G:Mem} {x y:Int}
set_option maxHeartbeats 4000000
abbrev z41 (k:Int) (I:Nat→Int) (fx fy tx ty r:Int) (st:Value) (W H:Int) (px sf:Value) (a b c d e f:Int) (s t:Bool):List Value:=[.int .i64 k,.int .u8 (I 0),.int .u8 (I 1),.int .u8 (I 2),.int .u8 (I 3),.int .u8 (I 4),.int .u8 (I 5),.int .u8 (I 6),.int .u8 (I 7),.int .i64 fx,.int .i64 fy,.int .i64 tx,.int .i64 ty,.int .i64 r,st,.int .i64 W,.int .i64 H,px,sf,.int .i64 a,.int .i64 b,.int .i64 c,.int .i64 d,.int .i64 e,.int .i64 f,.bool s,.bool t]
theorem z01:GivesM Tryz.prog 82 [srcA 0 I fx fy tx ty r (.slice A n q) W H (.slice B pn pq) (.slice C sn sq) a b c d e f s t] G fun v F=>IsSrc F v fun _ _=>(I,255):=by
  refine x44 tab_ok Tryz.func82 (by kernel_rfl) ?_
  (repeat ((try (conv=>whnf));(refine stQ ?_)))
  refine ⟨_,0,_,_,z41 0 I fx fy tx ty r (.slice A n q) W H (.slice B pn pq) (.slice C sn sq) a b c d e f s t,rfl,rfl,fun β zs h=>q07 (m:=z41 0 I fx fy tx ty r (.slice A n q) W H (.slice B pn pq) (.slice C sn sq) a b c d e f s t) h,fun p hp=>⟨_,p,rfl,fun vs w=>by kernel_rfl,fun x y _ _=>?_⟩⟩
  have hs:=Mem.put_same G p (Obj.cells (z41 0 I fx fy tx ty r (.slice A n q) W H (.slice B pn pq) (.slice C sn sq) a b c d e f s t).toArray 61 (0,0))
  refine q01 tab_ok Tryz.func102 ?_
  (repeat ((try (conv=>whnf));(first |(refine q5i hs (by rfl) (by rfl) (by rfl) ?_) |(refine stQ ?_))))
  exact ⟨rfl,rfl⟩
end
end Go.Proofs.YtkicdhaklnmonaaGreat
namespace Go.Proofs.YtkicdhaklnmonaaGreat
open Go.RowKit
set_option maxRecDepth 20000
def IsMix (F:Mem) (v:Value) (k:Int):Prop :=
  ∃ p p2,v=.func (.func 109) #[] #[.pointer (some ⟨p,0,none⟩)]∧F p=some (.cells #[.func (.func 145) #[] #[.pointer (some ⟨p2,0,none⟩)]] 143 (0,0))∧F p2=some (.cells #[.func (.func (q3c k)) #[] #[]] 112 (0,0))
theorem IsMix.mono {F F':Mem} {v:Value} {k:Int} (h:IsMix F v k) (hF:F.le F'):IsMix F' v k:=by
  obtain ⟨p,p2,h1,h2,h3⟩:=h
  exact ⟨p,p2,h1,hF _ _ h2,hF _ _ h3⟩
theorem Gives.mono {P:Program} {f:FuncId} {args:List AV} {F F':Mem} {v:AV} (h:Gives P f args F v) (hF:F.le F'):Gives P f args F' v:=fun w vs hw ha=>h w vs (fun b o hb=>hw b o (hF b o hb)) ha
theorem IsSrc.mono {F F':Mem} {v:Value} {f:SrcF} (h:IsSrc F v f) (hF:F.le F'):IsSrc F' v f:=by
  obtain ⟨id,p,h1,h2,h3⟩:=h
  exact ⟨id,p,h1,h2,fun x y hx hy=>(h3 x y hx hy).mono hF⟩
theorem GivesM.mono {P:Program} {f:FuncId} {args:List AV} {F F1:Mem} {R:Value→Mem→Prop} (h:GivesM P f args F R) (hF:F.le F1) (hR:∀ y G G',Mem.le G G'→R y G→R y G'):GivesM P f args F1 R:=by
  intro w vs hw ha
  refine (h w vs (fun b o hb=>hw b o (hF b o hb)) ha).mono ?_
  rintro e w' ⟨y,F',h1,h2,h3,h4,h5,h6⟩
  have hge:∀ b o,F1 b=none→F' b=some o→w.heap.size≤b:=fun b o hb ho=>by
    rcases h5 b o ho with h |h
    · rw [hF b o h] at hb;cases hb
    · exact h
  refine ⟨y,F1.over F',h1,h2,Mem.le_over _ _,fun b o hb=>?_,fun b o hb=>?_,hR y F' _ (fun b o hb=>?_) h6⟩
  · unfold Mem.over at hb
    cases hG:F1 b with
    | none=>rw [hG] at hb;exact h4 b o hb
    | some q =>
      rw [hG] at hb;cases hb
      rw [h2.block b (Array.getElem?_eq_some_iff.1 (hw b _ hG)).1];exact hw b _ hG
  · unfold Mem.over at hb
    cases hG:F1 b with
    | none=>rw [hG] at hb;exact .inr (hge b o hG hb)
    | some q=>rw [hG] at hb;exact .inl hb
  · unfold Mem.over
    cases hG:F1 b with
    | none=>exact hb
    | some q =>
      rcases h5 b o hb with h |h
      · rw [hF b o h] at hG;cases hG;rfl
      · have:=q2k (G:=F1) (w:=w) hw h
        rw [this] at hG;cases hG
theorem z4i {k:Int} (hk:0≤k∧k≤11) {G:Mem}:GivesM Tryz.prog 83 [.val (.int .i64 k)] G fun v F=>IsMix F v k:=by
  intro w vs hG ha
  have e:vs=#[.int .i64 k]:=Array.toList_inj.1 (q07 (m:=[.int .i64 k]) ha)
  subst e
  refine (x8z k w hk).mono ?_
  rintro e w' ⟨rfl,hw'⟩
  have n0:∀ b,w.heap.size≤b→G b=none:=fun b hb=>q2k hG hb
  generalize ho1:Obj.cells #[.func (.func (q3c k)) #[] #[]] 112 (0,0)=o1 at *
  generalize ho2:Obj.cells #[.func (.func 145) #[] #[.pointer (some ⟨w.heap.size+1,0,none⟩)]] 143 (0,0)=o2 at *
  have hb:Below w.heap.size w w':=by
    rw [← hw']
    exact (((Below.refl _ _).alloc (Nat.le_refl _) _).alloc (by simp) _).alloc (by simp;omega) _
  have s1:(w.alloc q26).heap.size=w.heap.size+1:=by simp
  have s2:((w.alloc q26).alloc o1).heap.size=w.heap.size+2:=by simp
  have g1:w'.heap[w.heap.size+1]? = some o1:=by
    rw [← hw',((Below.refl ((w.alloc q26).alloc o1).heap.size _).alloc (Nat.le_refl _) o2).block _ (by omega),← s1]
    exact heap_alloc_new _ o1
  have g2:w'.heap[w.heap.size+2]? = some o2:=by
    rw [← hw',← s2];exact heap_alloc_new _ o2
  refine ⟨_,(G.put (w.heap.size+1) o1).put (w.heap.size+2) o2,rfl,hb,fun b o hb'=>?_,fun b o hb'=>?_,fun b o hb'=>?_,w.heap.size+2,w.heap.size+1,rfl,by rw [Mem.put_same,ho2],by rw [Mem.put_ne _ _ (by omega),Mem.put_same,ho1]⟩
  · have h1:b<w.heap.size:=(Array.getElem?_eq_some_iff.1 (hG b o hb')).1
    rw [Mem.put_ne _ _ (by omega),Mem.put_ne _ _ (by omega)];exact hb'
  · by_cases h2:b=w.heap.size+2
    · subst h2;rw [Mem.put_same] at hb';cases hb';exact g2
    · rw [Mem.put_ne _ _ h2] at hb'
      by_cases h1:b=w.heap.size+1
      · subst h1;rw [Mem.put_same] at hb';cases hb';exact g1
      · rw [Mem.put_ne _ _ h1] at hb'
        rw [hb.block b (Array.getElem?_eq_some_iff.1 (hG b o hb')).1];exact hG b o hb'
  · by_cases h2:b=w.heap.size+2
    · right;omega
    · rw [Mem.put_ne _ _ h2] at hb'
      by_cases h1:b=w.heap.size+1
      · right;omega
      · rw [Mem.put_ne _ _ h1] at hb';exact .inl hb'
abbrev stA (S:Nat→Int):AV:=.agg [.val (.int .u8 (S 0)),.val (.int .u8 (S 1)),.val (.int .u8 (S 2)),.val (.int .u8 (S 3)),.val (.int .u8 (S 4)),.val (.int .u8 (S 5)),.val (.int .u8 (S 6)),.val (.int .u8 (S 7)),.val (.int .u8 (S 8))]
abbrev stV (S:Nat→Int):Value:=.agg #[.int .u8 (S 0),.int .u8 (S 1),.int .u8 (S 2),.int .u8 (S 3),.int .u8 (S 4),.int .u8 (S 5),.int .u8 (S 6),.int .u8 (S 7),.int .u8 (S 8)]
abbrev inA (I:Nat→Int):AV:=.agg [.val (.int .u8 (I 0)),.val (.int .u8 (I 1)),.val (.int .u8 (I 2)),.val (.int .u8 (I 3)),.val (.int .u8 (I 4)),.val (.int .u8 (I 5)),.val (.int .u8 (I 6)),.val (.int .u8 (I 7))]
def q0z (S:Nat→Int):Prop:=∀ o,o<9→0≤S o∧S o≤255
def z25 (S:Nat→Int):Prop:=∀ o,o<8→0≤S o∧S o≤255
theorem z0f {β:Nm} {l:List Value} {r:List AV} {vs:List Value} (h:AV.rels β (.agg (l.map .val)::r) vs):∃ zs,vs=.agg l.toArray::zs∧AV.rels β r zs:=by
  simp only [AV.rels] at h
  obtain ⟨y,zs,rfl,h1,h2⟩:=h
  rw [AV.rel] at h1
  obtain ⟨cs,rfl,h3⟩:=h1
  exact ⟨zs,by rw [← q07 h3],h2⟩
theorem q60 {β:Nm} {v:Value} {r:List AV} {vs:List Value} (h:AV.rels β (.val v::r) vs):∃ zs,vs=v::zs∧AV.rels β r zs:=by
  simp only [AV.rels] at h
  obtain ⟨y,zs,rfl,h1,h2⟩:=h
  rw [AV.rel] at h1
  exact ⟨zs,by rw [h1],h2⟩
theorem z26 {β:Nm} {vs:List Value} (h:AV.rels β [] vs):vs=[]:=by simpa only [AV.rels] using h
theorem x7i {S:Nat→Int} {β:Nm}:(stA S).rel β (stV S):=by
  rw [AV.rel];exact ⟨_,rfl,AV.rels_vals [.int .u8 (S 0),.int .u8 (S 1),.int .u8 (S 2),.int .u8 (S 3),.int .u8 (S 4),.int .u8 (S 5),.int .u8 (S 6),.int .u8 (S 7),.int .u8 (S 8)]⟩
section
variable {S T I:Nat→Int} {t q md:Int} {ov:Bool} {v:Value} {G:Mem}
theorem z15 (hS:q0z S) (hT:q0z T) (ht:0≤t∧t≤255):Gives Tryz.prog 115 [stA S,stA T,.val (.int .u8 t)] G (stA (betw S T t)):=by
  refine Gives.of_callsA (args:=[stV S,stV T,.int .u8 t]) (fun vs h=>?_) x7i fun w _=>x2h S T (betw S T t) t w hS hT ht (fun _ _=>rfl)
  obtain ⟨z1,rfl,h1⟩:=z0f (l:=[.int .u8 (S 0),.int .u8 (S 1),.int .u8 (S 2),.int .u8 (S 3),.int .u8 (S 4),.int .u8 (S 5),.int .u8 (S 6),.int .u8 (S 7),.int .u8 (S 8)]) h
  obtain ⟨z2,rfl,h2⟩:=z0f (l:=[.int .u8 (T 0),.int .u8 (T 1),.int .u8 (T 2),.int .u8 (T 3),.int .u8 (T 4),.int .u8 (T 5),.int .u8 (T 6),.int .u8 (T 7),.int .u8 (T 8)]) h1
  obtain ⟨z3,rfl,h3⟩:=q60 h2
  rw [z26 h3]
theorem q3w (hv:IsMix G v md) (hmd:0≤md∧md≤11) (hS:q0z S) (hI:z25 I) (hq:0≤q∧q≤255):Gives Tryz.prog 88 [stA S,inA I,.val (.int .u8 q),.val v,.val (.bool ov)] G (stA (pnt md S I q ov)):=by
  obtain ⟨p,p2,rfl,hp,hp2⟩:=hv
  refine Gives.of_callsA (args:=[stV S,.agg #[.int .u8 (I 0),.int .u8 (I 1),.int .u8 (I 2),.int .u8 (I 3),.int .u8 (I 4),.int .u8 (I 5),.int .u8 (I 6),.int .u8 (I 7)],.int .u8 q,.func (.func 109) #[] #[.pointer (some ⟨p,0,none⟩)],.bool ov]) (fun vs h=>?_) x7i fun w hG=>x6n md S I (pnt md S I q ov) q ov w p p2 ⟨(Array.getElem?_eq_some_iff.1 (hG _ _ hp)).1,(Array.getElem?_eq_some_iff.1 (hG _ _ hp2)).1⟩ (fun o=>q28 (hG _ _ hp) o) (fun o=>q28 (hG _ _ hp2) o) hmd hS hI hq (fun _ _=>rfl)
  obtain ⟨z1,rfl,h1⟩:=z0f (l:=[.int .u8 (S 0),.int .u8 (S 1),.int .u8 (S 2),.int .u8 (S 3),.int .u8 (S 4),.int .u8 (S 5),.int .u8 (S 6),.int .u8 (S 7),.int .u8 (S 8)]) h
  obtain ⟨z2,rfl,h2⟩:=z0f (l:=[.int .u8 (I 0),.int .u8 (I 1),.int .u8 (I 2),.int .u8 (I 3),.int .u8 (I 4),.int .u8 (I 5),.int .u8 (I 6),.int .u8 (I 7)]) h1
  obtain ⟨z3,rfl,h3⟩:=q60 h2
  obtain ⟨z4,rfl,h4⟩:=q60 h3
  obtain ⟨z5,rfl,h5⟩:=q60 h4
  rw [z26 h5]
end
end Go.Proofs.YtkicdhaklnmonaaGreat
