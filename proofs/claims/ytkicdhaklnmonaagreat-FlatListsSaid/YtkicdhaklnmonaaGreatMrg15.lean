/-
  Merged: XSettle, XRowAt, XMeet, XEk, XErodeLaw, XErodeOk.
-/
import Derived.Test.YtkicdhaklnmonaaGreatMrg14
import Derived.Test.YtkicdhaklnmonaaGreatMrg13
import Derived.Test.YtkicdhaklnmonaaGreatEng2
import Derived.Test.YtkicdhaklnmonaaGreatMrg5
set_option linter.unusedVariables false
set_option linter.unusedSimpArgs false
set_option linter.unnecessarySimpa false
namespace Go.Proofs.YtkicdhaklnmonaaGreat
open Go.RowKit
theorem z9r (q:Nat) {n0:Nat} {fr fr':List AV} {hp hp':List Blk} {G G':Mem} (hq:Nat.blt q hp.length=true)
    (h:lenF hp fun n=>mvsF q n fr fun fr1=>mvBF q n hp fun hp1=>x0o (nthB hp1 q) fun x=>setF hp1 q .gone fun hp2=>catF hp2 [x] fun hp3=>Le n0 fr1 hp3 G fr' hp' G'):Le n0 fr hp G fr' hp' G':=by
  have h0:=q1i h
  rw [q7o,z3p,z8e,q09,q02,q9h] at h0
  have hql:=q1t hq
  have hqn:q≠hp.length:=by omega
  refine ⟨fun w0 G0 β0 β w ys hb hle hr hfr=>?_⟩
  have hβn:β hp.length=none:=hr.fresh (Nat.le_refl _)
  obtain ⟨β',hβ'⟩:∃ β':Nm,β'=fun j=>if j=hp.length then β q else β j:=⟨_,rfl⟩
  have hmv:(β.mv q hp.length).le β':=fun j v hj=>by
    rw [hβ']
    simp only [Nm.mv] at hj
    by_cases e:j=hp.length
    · rw [if_pos e] at hj;simp only [if_pos e];exact hj
    · rw [if_neg e] at hj
      simp only [if_neg e]
      split at hj
      · cases hj
      · exact hj
  have hup:β.le β':=fun j v hj=>by
    rw [hβ']
    have e:j≠hp.length:=fun e=>by rw [e,hβn] at hj;cases hj
    simp only [if_neg e];exact hj
  have get:∀ (j:Nat) (x:Blk),((hp.map (·.mv q hp.length)).set q .gone++[nthB (hp.map (·.mv q hp.length)) q])[j]? = some x→(j=q∧x=.gone)∨(j=hp.length∧∃ x',hp[q]? = some x'∧x=x'.mv q hp.length)∨(j≠q∧j≠hp.length∧∃ x',hp[j]? = some x'∧x=x'.mv q hp.length):=by
    intro j x hx
    rcases Nat.lt_trichotomy j hp.length with h1 |h1 |h1
    · rw [List.getElem?_append_left (by simpa using h1)] at hx
      by_cases e:j=q
      · subst e
        rw [List.getElem?_set_self (by simpa using h1)] at hx
        cases hx;exact .inl ⟨rfl,rfl⟩
      · rw [List.getElem?_set_ne (fun h=>e h.symm),List.getElem?_map] at hx
        cases hz:hp[j]? with
        | none=>rw [hz] at hx;cases hx
        | some z=>rw [hz] at hx;cases hx;exact .inr (.inr ⟨e,by omega,z,rfl,rfl⟩)
    · subst h1
      rw [List.getElem?_append_right (by simp)] at hx
      simp at hx
      refine .inr (.inl ⟨rfl,?_⟩)
      have hz:hp[q]? = some hp[q]:=List.getElem?_eq_getElem hql
      refine ⟨hp[q],hz,?_⟩
      rw [← hx,q2p,List.getElem?_map,hz];rfl
    · rw [List.getElem?_eq_none (by simp;omega)] at hx;cases hx
  have back:∀ (j:Nat) (y:Value) (x:Blk),β' j=some y→((hp.map (·.mv q hp.length)).set q .gone++[nthB (hp.map (·.mv q hp.length)) q])[j]? = some x→x.live=true→j≠q∧∃ x',β (if j=hp.length then q else j)=some y∧hp[if j=hp.length then q else j]? = some x'∧x'.live=true:=by
    intro j y x hj hx hl
    rcases get j x hx with ⟨e,rfl⟩ |⟨e,x',h1,rfl⟩ |⟨e,e2,x',h1,rfl⟩
    · cases hl
    · refine ⟨by omega,x',?_,by rw [if_pos e];exact h1,by rw [Blk.mv_live] at hl;exact hl⟩
      rw [hβ'] at hj
      simp only [if_pos e] at hj ⊢
      exact hj
    · refine ⟨e,x',?_,by rw [if_neg e2];exact h1,by rw [Blk.mv_live] at hl;exact hl⟩
      rw [hβ'] at hj
      simp only [if_neg e2] at hj ⊢
      exact hj
  refine h0.out w0 G0 β0 β' w ys hb (Nm.le_trans hle hup) ⟨hr.below,hr.hold,hr.sub,hr.grow,fun j y hj=>?_,fun j j' y y' x x' b hne hj hj' hx hx' hl hl' hb=>?_,fun j S hS=>?_⟩ (AV.rels_mono hmv _ _ (AV.rels_mv hqn _ _ hfr))
  · by_cases e:j=hp.length
    · have hj2:β q=some y:=by rw [hβ'] at hj;simpa only [if_pos e] using hj
      obtain ⟨x,h1,h2⟩:=hr.blk q y hj2
      refine ⟨x.mv q hp.length,?_,Blk.rel_of hmv (Blk.mv_rel hqn h2) (fun b _=>⟨rfl,id⟩)⟩
      rw [e,List.getElem?_append_right (by simp)]
      simp [q2p,h1]
    · have hj2:β j=some y:=by rw [hβ'] at hj;simpa only [if_neg e] using hj
      obtain ⟨x,h1,h2⟩:=hr.blk j y hj2
      have hjl:=(List.getElem?_eq_some_iff.1 h1).1
      by_cases e2:j=q
      · subst e2
        exact ⟨.gone,by rw [List.getElem?_append_left (by simpa using hjl),List.getElem?_set_self (by simpa using hjl)],trivial⟩
      · refine ⟨x.mv q hp.length,?_,Blk.rel_of hmv (Blk.mv_rel hqn h2) (fun b _=>⟨rfl,id⟩)⟩
        rw [List.getElem?_append_left (by simpa using hjl),List.getElem?_set_ne (fun h=>e2 h.symm),List.getElem?_map,h1];rfl
  · obtain ⟨n1,z,g1,g2,g3⟩:=back j y x hj hx hl
    obtain ⟨n2,z',g1',g2',g3'⟩:=back j' y' x' hj' hx' hl'
    refine hr.inj _ _ y y' z z' b (fun e=>?_) g1 g1' g2 g2' g3 g3' hb
    split at e <;> split at e <;> omega
  · have mvm:∀ x:Blk,x.mv q hp.length=.muts S→x=.muts S:=fun x e=>by cases x <;> first |exact e |cases e
    rcases get j _ hS with ⟨_,e⟩ |⟨_,x',h1,e⟩ |⟨_,_,x',h1,e⟩
    · cases e
    · exact hr.wrt q S (by rw [h1,mvm x' e.symm])
    · exact hr.wrt j S (by rw [h1,mvm x' e.symm])
end Go.Proofs.YtkicdhaklnmonaaGreat
namespace Go.Proofs.YtkicdhaklnmonaaGreat
open Go.RowKit
structure RowAt (L:List Run) (i k:Nat) (y:Int):Prop where
  lt:i<k
  le:k≤L.length
  same:∀ t r,i≤t→t<k→L[t]? = some r→r.y=y
  next:∀ r,L[k]? = some r→y<r.y
theorem RowAt.edge {L:List Run} {i t:Nat} {y:Int} (h:RowAt L i t y) {q u:Run} (hq:L[t-1]? = some q) (hu:L[t]? = some u):q.y<u.y:=by
  have:=h.lt
  rw [h.same (t-1) q (by omega) (by omega) hq]
  exact h.next u hu
def narR (w:Int) (r:Run):Option Run:=if r.x0+w<r.x1-w then some ⟨r.y,r.x0+w,r.x1-w⟩ else none
def narY (w:Int) (L:List Run) (y:Int):List Run:=(L.filter fun r=>decide (r.y=y)).filterMap (narR w)
theorem x9c (w:Int) (K L:List Run) (y:Int):narY w (K++L) y=narY w K y++narY w L y:=by simp [narY,List.filter_append,List.filterMap_append]
theorem x60 {w:Int} {L:List Run} {y:Int} (h:∀ r∈L,r.y≠y):narY w L y=[]:=by
  unfold narY
  rw [List.filter_eq_nil_iff.2 fun r hr=>by simpa using h r hr];rfl
theorem x08 {w:Int} {L:List Run} {i k:Nat} {y0 y:Int} (h:RowAt L i k y0) (hne:y≠y0):narY w (L.take k) y=narY w (L.take i) y:=by
  have h1:=h.lt
  have e:L.take k=L.take i++(L.drop i).take (k-i):=by rw [show k=i+(k-i) by omega,List.take_add,show i+(k-i)-i=k-i by omega]
  rw [e,x9c,x60 (L:=(L.drop i).take (k-i)),List.append_nil]
  intro r hr
  obtain ⟨j,hj⟩:=List.getElem?_of_mem hr
  rw [List.getElem?_take] at hj
  split at hj
  · rw [List.getElem?_drop] at hj
    rw [h.same (i+j) r (by omega) (by omega) hj]
    exact fun h=>hne h.symm
  · cases hj
def RowF (G:Mem) (q:Option Value) (l:List Run):Prop:=(l=[]∧q=none)∨(l≠[]∧∃ A cap,q=some (.slice A l.length cap)∧RunsM G A l∧l.length≤cap∧cap≤maxLen)
theorem RowF.mono {G G':Mem} {q:Option Value} {l:List Run} (h:RowF G q l) (hle:G.le G'):RowF G' q l:=by
  rcases h with h |⟨h0,A,cap,h1,h2,h3⟩
  · exact .inl h
  · exact .inr ⟨h0,A,cap,h1,h2.mono hle,h3⟩
def RowsM (w:Int) (L:List Run) (G:Mem) (f:Int→Option Value) (hot:Option (Int × List Run)) (i:Nat):Prop :=
  (∀ y,(∀ l,hot≠some (y,l))→RowF G (f y) (narY w (L.take i) y))∧∀ y l,hot=some (y,l)→l=narY w (L.take i) y∧l≠[]
theorem RowsM.mono {w:Int} {L:List Run} {G G':Mem} {f:Int→Option Value} {hot:Option (Int × List Run)} {i:Nat} (h:RowsM w L G f hot i) (hle:G.le G'):RowsM w L G' f hot i :=
  ⟨fun y hy=>(h.1 y hy).mono hle,h.2⟩
theorem RowsM.next {w:Int} {L:List Run} {G:Mem} {f:Int→Option Value} {i k:Nat} {y0:Int} (h:RowsM w L G f none i) (hK:RowAt L i k y0) {l:List Run} (hl:narY w (L.take k) y0=l) (hne:l≠[]):RowsM w L G f (some (y0,l)) k:=by
  refine ⟨fun y hy=>?_,fun y l' h=>by cases h;exact ⟨hl.symm,hne⟩⟩
  have e:y≠y0:=fun e=>hy l (by rw [e])
  rw [x08 hK e]
  exact h.1 y fun l hl=>by cases hl
theorem RowsM.skip {w:Int} {L:List Run} {G:Mem} {f:Int→Option Value} {i k:Nat} {y0:Int} (h:RowsM w L G f none i) (hK:RowAt L i k y0) (hi:narY w (L.take i) y0=[]) (hl:narY w (L.take k) y0=[]):RowsM w L G f none k:=by
  refine ⟨fun y hy=>?_,fun y l' h=>by cases h⟩
  by_cases e:y=y0
  · subst e
    rw [hl]
    have:=h.1 y fun l hl=>by cases hl
    rwa [hi] at this
  · rw [x08 hK e]
    exact h.1 y fun l hl=>by cases hl
end Go.Proofs.YtkicdhaklnmonaaGreat
namespace Go.Proofs.YtkicdhaklnmonaaGreat
open Go.RowKit
set_option maxRecDepth 20000
theorem RunsM.tail {G:Mem} {A:Option Addr} {r:Run} {t:List Run} {c:Nat} (h:RunsM G A (r::t)) (hc:(r::t).length≤c):RunsM G (if c=1 then A else A.map (fun p=>p.add 3)) t:=by
  intro i q hq
  rw [if_neg (by have:=(List.getElem?_eq_some_iff.1 hq).1;simp only [List.length_cons] at hc;omega)]
  obtain ⟨b,off,rfl,c0,c1,c2⟩:=h (i+1) q (by simpa using hq)
  refine ⟨b,off+3,by simp [q0m],?_,?_,?_⟩
  · rw [show off+3+i*3=off+(i+1)*3 by omega];exact c0
  · rw [show off+3+i*3=off+(i+1)*3 by omega];exact c1
  · rw [show off+3+i*3=off+(i+1)*3 by omega];exact c2
end Go.Proofs.YtkicdhaklnmonaaGreat
namespace Go.Proofs.YtkicdhaklnmonaaGreat
open Go.RowKit
def psF:List Tmp→List AV→List AV→(List AV→Prop)→Prop
  | [],[],fr,K=>K fr
  | t::ts,a::l,fr,K=>setF fr t a fun fr'=>psF ts l fr' K
  | _,_,_,_=>False
def Mem.put (G:Mem) (D:Nat) (o:Obj):Mem:=fun b=>if b=D then some o else G b
theorem Mem.put_same (G:Mem) (D:Nat) (o:Obj):G.put D o D=some o:=by simp [Mem.put]
theorem Mem.put_ne (G:Mem) {D b:Nat} (o:Obj) (h:b≠D):G.put D o b=G b:=by simp [Mem.put,h]
end Go.Proofs.YtkicdhaklnmonaaGreat
namespace Go.Proofs.YtkicdhaklnmonaaGreat
open Go.RowKit
theorem RowF.slice {G:Mem} {q:Option Value} {l:List Run} (h:RowF G q l):∃ A cap,q.getD (.slice none 0 0)=.slice A l.length cap∧RunsM G A l∧l.length≤cap∧cap≤maxLen:=by
  rcases h with ⟨rfl,rfl⟩ |⟨_,A,cap,rfl,h⟩
  · exact ⟨none,0,rfl,RunsM.nil _ _,Nat.le_refl _,Nat.zero_le _⟩
  · exact ⟨A,cap,rfl,h⟩
theorem RowsM.look {w:Int} {L:List Run} {G:Mem} {f:Int→Option Value} (h:RowsM w L G f none L.length) (y:Int):∃ A cap,(f y).getD (.slice none 0 0)=.slice A (narY w L y).length cap∧RunsM G A (narY w L y)∧(narY w L y).length≤cap∧cap≤maxLen:=by
  have:=h.1 y fun l hl=>by cases hl
  rw [List.take_length] at this
  exact this.slice
end Go.Proofs.YtkicdhaklnmonaaGreat
namespace Go.Proofs.YtkicdhaklnmonaaGreat
open Go.RowKit
end Go.Proofs.YtkicdhaklnmonaaGreat
