/-
  Merged: XFm, XStand, XVw.
-/
import Derived.Test.YtegpkpilfgohhaaMrg7
import Derived.Test.YtegpkpilfgohhaaFreeze
set_option linter.unusedVariables false
set_option linter.unusedSimpArgs false
set_option linter.unnecessarySimpa false
namespace Go.Proofs.Ytegpkpilfgohhaa
open Go.RowKit
section
variable {α:Type} {enc:α→List Value} {k:Nat}
theorem q9o (hk:∀ x,(enc x).length=k):∀ (l:List α),(l.flatMap enc).length=l.length*k
  | []=>by simp
  | a::l=>by rw [List.flatMap_cons,List.length_append,hk,q9o hk l,List.length_cons,Nat.add_mul];omega
theorem z86 (hk:∀ x,(enc x).length=k):∀ (l:List α) (i j:Nat) (x:α),l[i]? = some x→j<k→(l.flatMap enc)[i*k+j]? = (enc x)[j]?
  | [],i,j,x,h,_=>by simp at h
  | a::l,0,j,x,h,hj=>by
    simp at h;subst h
    rw [List.flatMap_cons,Nat.zero_mul,Nat.zero_add,List.getElem?_append_left (by rw [hk];exact hj)]
  | a::l,i+1,j,x,h,hj=>by
    rw [List.flatMap_cons,List.getElem?_append_right (by rw [hk,Nat.add_mul];omega),hk]
    rw [show (i+1)*k+j-k=i*k+j by rw [Nat.add_mul];omega]
    exact z86 hk l i j x (by simpa using h) hj
end
end Go.Proofs.Ytegpkpilfgohhaa
namespace Go.Proofs.Ytegpkpilfgohhaa
open Go.RowKit
def Blk.plugB (k b:Nat):Blk→Blk
  | .cells t l=>.cells t (q6u k b l)
  | .lp i l st p=>.lp i (q6u k b l) st p
  | .mp f ks l=>.mp f ks (q6u k b l)
  | x=>x
theorem HR.plugB {w0:World} {G0:Mem} {β:Nm} {hp:List Blk} {G:Mem} {w:World} (hr:HR w0 G0 β hp G w) {k b:Nat} {v:Value} (hv:β k=some v) (hb:q0f v=some b):HR w0 G0 β (hp.map (Blk.plugB k b)) G w:=by
  have live:∀ x:Blk,(x.plugB k b).live=x.live:=fun x=>by cases x <;> rfl
  refine ⟨hr.below,hr.hold,hr.sub,hr.grow,fun j y hj=>?_,fun i j y y' x x' c hne hi hj hx hx' hl hl' hy=>?_,z6d hr.wrt (fun x S e=>by cases x <;> first |exact e |cases e)⟩
  · obtain ⟨x,h1,h2⟩:=hr.blk j y hj
    refine ⟨x.plugB k b,by rw [List.getElem?_map,h1];rfl,?_⟩
    cases x with
    | gone=>trivial
    | muts S=>exact h2.elim
    | cells t l =>
      obtain ⟨b',c,q1,q2,q3,q4,q5⟩:=h2
      exact ⟨b',c,q1,q2,q3,q4,q4a hv hb q5⟩
    | own e sz n xs=>exact h2
    | lp i fr st p =>
      obtain ⟨q1,q2,q3,tm,q4,q5⟩:=h2
      exact ⟨q1,q2,q3,tm,q4,q4a hv hb q5⟩
    | mp f ks vs =>
      obtain ⟨b',ys,q1,q2,q3,q4,q5,q6⟩:=h2
      exact ⟨b',ys,q1,q2,q3,q4,q5,q4a hv hb q6⟩
  · rw [List.getElem?_map] at hx hx'
    cases h1:hp[i]? with
    | none=>rw [h1] at hx;cases hx
    | some z =>
      cases h2:hp[j]? with
      | none=>rw [h2] at hx';cases hx'
      | some z' =>
        rw [h1] at hx;rw [h2] at hx'
        simp only [Option.map_some,Option.some.injEq] at hx hx'
        subst hx;subst hx'
        rw [live] at hl hl'
        exact hr.inj i j y y' z z' c hne hi hj h1 h2 hl hl' hy
section
variable {α:Type} {enc:α→List Value} {k:Nat}
theorem z1z (hk:∀ x,(enc x).length=k) {l:List α} {i:Nat} {x:α} (hi:l[i]? = some x) (K:List Value→Prop) (h:K (enc x)):OwnCells (l.flatMap enc) (i*k) k K :=
  z3z _ (hk x) (fun j v hj=>by
    have hjk:j<k:=by have:=(List.getElem?_eq_some_iff.1 hj).1;rw [hk] at this;exact this
    rw [z86 hk l i j x hi hjk];exact hj) h
end
end Go.Proofs.Ytegpkpilfgohhaa
namespace Go.Proofs.Ytegpkpilfgohhaa
open Go.RowKit
theorem z10 {P:Program} {T:Tab} (hT:TOk P T) {f:FuncId} {fn:Func} (hfn:P.funcs[f]? = some fn) {args:List AV} {G:Mem} {E:TypeId} {sz n:Nat} {ys:List Value} (hn:q4v fn=true)
    (h:q3y P T 0 fn args [] G fun v hp' _=>∃ k N xs,v=.vw k 0 n∧nthB hp' k=.own E sz N xs∧n≤N∧ys=xs.take (n*sz)):z4b P f args G id E sz n ys:=by
  intro w vs hG ha
  refine (q4i hT hfn (hp:=[]) h (.inl hn) w G _ w vs (HR.init hG) ha).mono ?_
  rintro e w' ⟨y,β',v',hp',G',h1,_,h2,h3,k,N,xs,rfl,hk,hle,rfl⟩
  simp only [AV.rel] at h3
  obtain ⟨A,c,rfl,hnc,⟨_,hm⟩,_⟩:=h3
  obtain ⟨m,hm⟩:=hm trivial
  obtain ⟨x,hx1,hx2⟩:=h2.blk k _ hm
  rw [q0y hk rfl] at hx1;cases hx1
  have hmN:m=N:=by
    rcases hx2.1.2 with ⟨e1,e2⟩ |⟨g,cap,cur,e1,_⟩
    · cases e1;exact e2.symm
    · cases e1;rfl
  subst hmN
  exact ⟨_,_,h1,by simp only [AV.rel,id],q85 hx2.1 hle,h2.below⟩
theorem z3r {n0 q n:Nat} {hp hp':List Blk} {G G':Mem} {fr fr':List AV} {E:TypeId} {sz:Nat} {xs:List Value} (j:Nat) (hq:nthB hp q=.own E sz n xs) (hj:fr[j]? = some (.own q)) (h:setF fr j (.vw q 0 n) fun fr1=>Le n0 fr1 hp G fr' hp' G'):Le n0 fr hp G fr' hp' G':=by
  rw [q09] at h
  refine ⟨fun w0 G0 β0 β w ys h0 h1 hr hf=>h.out w0 G0 β0 β w ys h0 h1 hr ?_⟩
  have key:∀ (l:List AV) (ys:List Value) (j:Nat),l[j]? = some (.own q)→AV.rels β l ys→AV.rels β (l.set j (.vw q 0 n)) ys:=by
    intro l
    induction l with
    | nil=>intro ys j hj;simp at hj
    | cons a l ih =>
      intro ys j hj hf
      simp only [AV.rels] at hf
      obtain ⟨y,zs,rfl,hy,hz⟩:=hf
      cases j with
      | zero =>
        simp at hj;subst hj
        simp only [List.set_cons_zero,AV.rels]
        refine ⟨y,zs,rfl,?_,hz⟩
        simp only [AV.rel] at hy ⊢
        obtain ⟨x,hx1,hx2⟩:=hr.blk q y hy.1
        rw [q0y hq rfl] at hx1;cases hx1
        rcases hx2.1.2 with ⟨rfl,rfl⟩ |⟨g,cap,cur,rfl,_,_,h8,_⟩
        · exact ⟨none,0,rfl,Nat.le_refl _,⟨fun _=>rfl,fun _=>⟨0,hy.1⟩⟩,fun h=>by omega⟩
        · exact ⟨_,cap,rfl,h8,⟨(fun h=>by cases h),fun _=>⟨n,hy.1⟩⟩,fun _=>⟨_,g,hy.1,rfl,rfl⟩⟩
      | succ j =>
        simp only [List.set_cons_succ,AV.rels]
        exact ⟨y,zs,rfl,hy,ih zs j (by simpa using hj) hz⟩
  exact key _ _ _ hj hf
theorem z5l {n0:Nat} {fr fr':List AV} {hp hp':List Blk} {G G':Mem} (j:Nat) {a:AV} (b:AV) (hj:fr[j]? = some a) (e:a=b) (h:setF fr j b fun fr1=>Le n0 fr1 hp G fr' hp' G'):Le n0 fr hp G fr' hp' G':=by
  subst e
  rw [q09] at h
  have:fr.set j a=fr:=by
    apply List.ext_getElem?
    intro i
    by_cases hi:j=i
    · subst hi;rw [hj];simp [List.getElem?_set,(List.getElem?_eq_some_iff.1 hj).1]
    · rw [List.getElem?_set,if_neg hi]
  rw [this] at h;exact h
end Go.Proofs.Ytegpkpilfgohhaa
