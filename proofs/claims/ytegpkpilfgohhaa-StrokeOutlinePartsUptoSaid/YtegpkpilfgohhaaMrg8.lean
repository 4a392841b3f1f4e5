/-
  Merged: XEw, XPts.
-/
import Derived.Test.YtegpkpilfgohhaaEng2
import Derived.Test.YtegpkpilfgohhaaFlat
import Derived.Test.YtegpkpilfgohhaaMrg7
import Derived.Test.YtegpkpilfgohhaaMrg6
set_option linter.unusedVariables false
set_option linter.unusedSimpArgs false
set_option linter.unnecessarySimpa false
namespace Go.Proofs.Ytegpkpilfgohhaa
open Go.RowKit
theorem z2n {w w':World} (h:(q9u w).holds w'):Below w.heap.size {w' with heap:=w.heap} w':=by
  refine ⟨rfl,rfl,rfl,?_,fun k hk=>?_⟩
  · rcases Nat.eq_zero_or_pos w.heap.size with h0 |h0
    · show w.heap.size≤_;omega
    · have hk:w.heap.size-1<w.heap.size:=by omega
      have h1:=h (w.heap.size-1) _ (Array.getElem?_eq_getElem hk)
      have h2:=(Array.getElem?_eq_some_iff.1 h1).1
      show w.heap.size≤_
      omega
  · have h1:=h k _ (Array.getElem?_eq_getElem hk)
    show w'.heap[k]? = w.heap[k]?
    rw [h1,Array.getElem?_eq_getElem hk]
theorem Sees.heap {P:Program} {w w':World} (hh:w'.heap=w.heap):∀ (n:Nat) (t:TypeId) (cs:List Value),Sees P w n t cs→Sees P w' n t cs
  | 0,_,_,h=>h.elim
  | n+1,t,cs,h=>by
    unfold Sees at h ⊢
    split <;> first |(rename_i ht;rw [ht] at h;simp only at h) |skip
    · exact h
    · exact h
    · exact h
    · exact ⟨h.1,fun i f hi=>Sees.heap hh n _ _ (h.2 i f hi)⟩
    · exact ⟨h.1,fun i hi=>Sees.heap hh n _ _ (h.2 i hi)⟩
    · rcases h with h |⟨a,len,cap,h1,h2,h3,h4⟩
      · exact .inl h
      · refine .inr ⟨a,len,cap,h1,h2,h3,fun i hi=>?_⟩
        obtain ⟨cs',hl,hc,hs⟩:=h4 i hi
        refine ⟨cs',hl,fun j hj=>?_,Sees.heap hh n _ _ hs⟩
        rw [← hc j hj]
        simp only [World.cell?,hh]
    · trivial
theorem SliceG.holds {P:Program} {w w':World} {e:TypeId} {A:Option Addr} {n:Nat} {g:Nat→Nat→Value} (h:SliceG P w e A n g) (hb:(q9u w).holds w'):SliceG P w' e A n g:=by
  have h1:SliceG P {w' with heap:=w.heap} e A n g:=by
    intro hn
    obtain ⟨b,off,hA,hlt,hc⟩:=h hn
    refine ⟨b,off,hA,hlt,fun x hx=>⟨(hc x hx).1,?_⟩⟩
    obtain ⟨m,hm⟩:=(hc x hx).2
    exact ⟨m,Sees.heap (w:=w) (w':={w' with heap:=w.heap}) rfl _ _ _ hm⟩
  exact h1.below (z2n hb)
theorem x1e {P:Program} {T:Tab} (hT:TOk P T) {f:FuncId} {fn:Func} (hfn:P.funcs[f]? = some fn) {avs:List AV} {args:Array Value} {w:World} (ha:AV.rels noName avs args.toList)
    (h:q3y P T 0 fn avs [] (q9u w) fun v _ _=>v=.val (.bool true)):Calls P f args w fun e w'=>e=.returned (.bool true)∧Below w.heap.size w w':=by
  refine (q8u hT hfn ha (z5v w) h (fun _ _ _ _ _ h=>h)).mono ?_
  rintro e w' ⟨y,β',v,hp',G',h1,h2,h3,rfl⟩
  simp only [AV.rel] at h3
  subst h3
  exact ⟨h1,h2.below⟩
theorem q9f {P:Program} {f:FuncId} (hen:∀ vs w,(callFunc f vs).run P w=.ok (.enter f vs) w) {args:List AV} {hp:List Blk} {G:Mem} {K:AV→List Blk→Mem→Prop} {wrap:AV→AV} (hwr:Wraps wrap) {E:TypeId} {sz n:Nat} {xs:List Value} (hu:AV.unders 0 args=true)
    (hc:z4b P f args G wrap E sz n xs) (h:∀ A cap G',G.le G'→n≤cap→cap≤maxLen→(xs=[]∨∃ b,A=some ⟨b,0,none⟩∧∀ (j:Nat) u,xs[j]? = some u→G'.cell? ⟨b,j,none⟩=some u)→K (wrap (.val (.slice A n cap))) hp G'):CallP P f args hp G K:=by
  refine ⟨hen,fun w0 G0 β w vs hr ha=>(hc w vs hr.hold (q28 hu ha)).mono ?_⟩
  rintro e w' ⟨y,s,rfl,h2,h3,h4⟩
  have hr':=hr.step h4
  have hv:∀ s':Value,(AV.val s').rel β s':=fun s'=>by simp only [AV.rel]
  rcases h3.2 with ⟨rfl,h5⟩ |⟨g,cap,cur,rfl,h5,h6,h7,h8,h9,h10⟩
  · have h0:=h none 0 G (Mem.le_refl _) (by omega) (Nat.zero_le _) (.inl (by have:=h3.1;rw [h5] at this;simpa using this))
    subst h5
    exact ⟨y,β,_,hp,G,rfl,Nm.le_refl _,hr',hwr.rel (hv _) h2,h0⟩
  · have hcell:∀ (j:Nat) u,xs[j]? = some u→(G.and w' g).cell? ⟨g,j,none⟩=some u:=fun j u hj=>by
      have h11:(G.and w' g) g=some (.cells cur E (0,0)):=by simp [Mem.and,h6]
      unfold Mem.cell?
      rw [h11]
      rw [← h10] at hj
      rw [List.getElem?_take] at hj
      split at hj
      · simpa using hj
      · cases hj
    have h0:=h (some ⟨g,0,none⟩) cap (G.and w' g) (Mem.le_and hr'.hold g) h7 h8 (.inr ⟨g,rfl,hcell⟩)
    refine ⟨y,β,_,hp,G.and w' g,rfl,Nm.le_refl _,⟨hr'.below,Mem.and_holds hr'.hold g,Mem.le_trans hr'.sub (Mem.le_and hr'.hold g),fun b o hb=>?_,fun k z hk=>?_,hr'.inj,hr'.wrt⟩,hwr.rel (hv _) h2,h0⟩
    · unfold Mem.and at hb
      split at hb
      · rename_i e1;subst e1
        right
        exact Nat.le_trans hr.below.size h5
      · exact hr'.grow b o hb
    · obtain ⟨x,hx1,hx2⟩:=hr.blk k z hk
      obtain ⟨x',hx1',hx2'⟩:=hr'.blk k z hk
      rw [hx1] at hx1';cases hx1'
      refine ⟨x,hx1,?_⟩
      have hne:∀ b,x.live=true→q0f z=some b→b≠g:=fun b hl hb=>by
        have:=(hr.lt hk hx1 hl hb).2.1
        omega
      cases x with
      | gone=>trivial
      | muts S=>exact hx2'.elim
      | cells t l =>
        obtain ⟨b,c,q1,q2,q3,q4,q5⟩:=hx2'
        refine ⟨b,c,q1,q2,?_,q4,q5⟩
        have:=hne b rfl (by rw [q1];rfl)
        simp [Mem.and,this,q3]
      | own e' sz' n' xs' =>
        refine ⟨hx2'.1,fun b hb=>?_⟩
        have:=hne b rfl hb
        simp [Mem.and,this,hx2'.2 b hb]
      | lp i fr st p =>
        obtain ⟨q1,q2,q3,q4⟩:=hx2'
        refine ⟨q1,q2,?_,q4⟩
        have:=hne i.l rfl (by rw [q1];rfl)
        simp [Mem.and,this,q3]
      | mp f ks vs =>
        obtain ⟨b,ys,q1,q2,q3,q4⟩:=hx2'
        refine ⟨b,ys,q1,q2,?_,q4⟩
        have:=hne b rfl (by rw [q1];rfl)
        simp [Mem.and,this,q3]
end Go.Proofs.Ytegpkpilfgohhaa
namespace Go.Proofs.Ytegpkpilfgohhaa
open Go.RowKit
set_option maxRecDepth 20000
abbrev ptA (x y:Int):AV:=.agg [.val (.int .i64 x),.val (.int .i64 y)]
def q0r (l:List (Int × Int)):List Value:=l.flatMap fun p=>[.int .i64 p.1,.int .i64 p.2]
theorem q05 (K L:List (Int × Int)):q0r (K++L)=q0r K++q0r L:=by simp [q0r]
theorem z3n (p:Int × Int):q0r [p]=[.int .i64 p.1,.int .i64 p.2]:=by simp [q0r]
theorem q33:∀ (L:List (Int × Int)),(q0r L).length=L.length*2
  | []=>rfl
  | r::L=>by
    have:=q33 L
    show (q0r ([r]++L)).length=_
    rw [q05,List.length_append,this,z3n];simp;omega
theorem q9g {L:List (Int × Int)} {i:Nat} {r:Int × Int} (h:L[i]? = some r):(q0r L)[i*2]? = some (.int .i64 r.1)∧(q0r L)[i*2+1]? = some (.int .i64 r.2):=by
  obtain ⟨h1,rfl⟩:=List.getElem?_eq_some_iff.1 h
  have e:L=L.take i++([L[i]]++L.drop (i+1)):=by simp
  have hl:(q0r (L.take i)).length=i*2:=by rw [q33,List.length_take];congr 1;omega
  have key:∀ j,j<2→(q0r L)[i*2+j]? = [Value.int .i64 L[i].1,.int .i64 L[i].2][j]?:=fun j hj=>by
    conv=>lhs;rw [e,q05,q05,z3n]
    rw [List.getElem?_append_right (by omega),hl,show i*2+j-i*2=j by omega,List.getElem?_append_left (by simp;omega)]
  exact ⟨key 0 (by omega),key 1 (by omega)⟩
def x0s (e:Int) (a:AV):AV:=.tup [a,.val (.int .i64 e)]
theorem z0j (e:Int):Wraps (x0s e):=.pair (.val (.int .i64 e)) (fun _=>rfl) rfl
def PtsM (G:Mem) (A:Option Addr) (L:List (Int × Int)):Prop:=∀ (i:Nat) r,L[i]? = some r→∃ b off,A=some ⟨b,off,none⟩∧G.cell? ⟨b,off+i*2,none⟩=some (.int .i64 r.1)∧G.cell? ⟨b,off+i*2+1,none⟩=some (.int .i64 r.2)
theorem PtsM.mono {G G':Mem} {A:Option Addr} {L:List (Int × Int)} (h:PtsM G A L) (hle:G.le G'):PtsM G' A L:=fun i r hr=>by
  obtain ⟨b,off,h1,h2,h3⟩:=h i r hr
  exact ⟨b,off,h1,hle.cell h2,hle.cell h3⟩
theorem PtsM.frozen {G:Mem} {A:Option Addr} {L:List (Int × Int)} (h:q0r L=[]∨∃ b,A=some ⟨b,0,none⟩∧∀ (j:Nat) u,(q0r L)[j]? = some u→G.cell? ⟨b,j,none⟩=some u):PtsM G A L:=fun i r hr=>by
  obtain ⟨h1,h2⟩:=q9g hr
  rcases h with h |⟨b,rfl,h⟩
  · rw [h] at h1;simp at h1
  · exact ⟨b,0,rfl,by rw [Nat.zero_add];exact h _ _ h1,by rw [Nat.zero_add];exact h _ _ h2⟩
theorem PtsM.cells {G:Mem} {A:Option Addr} {L:List (Int × Int)} (h:PtsM G A L) {i:Nat} {r:Int × Int} (hi:L[i]? = some r):∃ p:Addr,A=some p∧∀ K:List Value→Prop,K [.int .i64 r.1,.int .i64 r.2]→OldCells G (p.add (i*2)) 2 K:=by
  obtain ⟨b,off,rfl,c0,c1⟩:=h i r hi
  refine ⟨_,rfl,fun K k=>q50 _ rfl (fun j u hj=>?_) k⟩
  rw [q0z,q0z]
  match j,hj with
  | 0,hj=>simp at hj;subst hj;exact c0
  | 1,hj=>simp at hj;subst hj;exact c1
section
variable {A B:Option Addr} {L:List (Int × Int)} {c d:Nat} {G:Mem}
set_option maxHeartbeats 1000000 in
theorem q4k (hA:PtsM G A L) (hB:PtsM G B L) (hl:L.length≤1000000000000):Gives Try.prog 17 [.val (.slice A L.length c),.val (.slice B L.length d)] G (.val (.bool true)):=by
  refine q1e tab_ok Try.func17 ?_
  (repeat ((try (conv=>whnf));(refine stQ ?_)))
  conv=>whnf
  refine q1z tab_ok (fun i=>i≤L.length) (fun (i:Nat)=>[(13,.val (.int .i64 i))]) (fun i=>[]) (fun i=>L.length-i) 0 (Nat.zero_le _) ?_ ?_
  · ((refine q0i ?_);(conv=>whnf);(refine q0m (by rfl) (by rfl) flQ ?_))
    exact q0g
  · rintro i hi
    rcases Nat.lt_or_ge i L.length with h1 |h1
    · obtain ⟨r,hr⟩:∃ r,L[i]? = some r:=⟨L[i],List.getElem?_eq_getElem h1⟩
      obtain ⟨p,rfl,ca⟩:=hA.cells hr
      obtain ⟨q,rfl,cb⟩:=hB.cells hr
      (repeat ((try (conv=>whnf));(refine stQ ?_)))
      conv=>whnf
      refine ca _ ?_
      (repeat ((try (conv=>whnf));(refine stQ ?_)))
      conv=>whnf
      refine cb _ ?_
      (repeat ((try (conv=>whnf));(refine stQ ?_)))
      refine ⟨i+1,by omega,by omega,?_⟩
      ((refine q0i ?_);(conv=>whnf);(refine q0m (by rfl) (by rfl) flQ ?_))
      exact q0g
    · (repeat ((try (conv=>whnf));(refine stQ ?_)))
      exact ⟨rfl,rfl⟩
end
section
variable {px py:Int} {G:Mem}
end
end Go.Proofs.Ytegpkpilfgohhaa
