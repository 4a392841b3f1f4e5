/-
  Merged: XOutLaw, XMakesF, XGivesV.
-/
import Derived.Test.YtegpkpilfgohhaaVecE
import Derived.Test.YtegpkpilfgohhaaFreeze
set_option linter.unusedVariables false
set_option linter.unusedSimpArgs false
set_option linter.unnecessarySimpa false
namespace Go.Proofs.Ytegpkpilfgohhaa
structure Sty where
  w:Int
  cap:Int
  join:Int
  lim:Int
structure StyOk (s:Sty):Prop where
  w:1≤s.w∧s.w≤1024
  cap:0≤s.cap∧s.cap≤2
  join:0≤s.join∧s.join≤2
  lim:16≤s.lim∧s.lim≤1024
def mvP (p v:Int × Int) (k:Int):Int × Int:=(p.1+k*v.1,p.2+k*v.2)
def q6c (p q n:Int × Int):List (Int × Int):=[mvP p n 1,mvP q n 1,mvP q n (-1),mvP p n (-1)]
def q12 (u v t:Int × Int):Int:=(v.1-u.1)*(t.2-v.2)-(v.2-u.2)*(t.1-v.1)
def dotV (a b:Int × Int):Int:=a.1*b.1+a.2*b.2
def tipV (n m:Int × Int):Int × Int:=(near (dotV n n*(n.1+m.1)) (dotV n n+dotV n m),near (dotV n n*(n.2+m.2)) (dotV n n+dotV n m))
def q1a (s:Sty) (n m:Int × Int):Prop:=s.join=0∧0<dotV n n+dotV n m∧512*dotV n n≤s.lim*s.lim*(dotV n n+dotV n m)
instance (s:Sty) (n m:Int × Int):Decidable (q1a s n m):=by unfold q1a;infer_instance
def z1x (s:Sty) (u v t n m:Int × Int):Option (List (Int × Int)) :=
  if q12 u v t=0 then none else
    if q1a s n m then some [v,mvP v n (if 0<q12 u v t then -1 else 1),mvP v (tipV n m) (if 0<q12 u v t then -1 else 1),mvP v m (if 0<q12 u v t then -1 else 1)]
    else some [v,mvP v n (if 0<q12 u v t then -1 else 1),mvP v m (if 0<q12 u v t then -1 else 1)]
noncomputable def q3b (s:Sty) (u v t:Int × Int):Option (List (Int × Int)):=z1x s u v t (nrm s.w u v) (nrm s.w v t)
def rnd (P:Nat→Int × Int) (n i:Nat):Int × Int:=P (i%n)
noncomputable def q1h (s:Sty) (P:Nat→Int × Int) (n:Nat):Nat→List (List (Int × Int))
  | 0=>[]
  | k+1=>q1h s P n k++[q6c (rnd P n k) (rnd P n (k+1)) (nrm s.w (rnd P n k) (rnd P n (k+1)))]
noncomputable def q0n (s:Sty) (P:Nat→Int × Int) (n:Nat):Nat→List (List (Int × Int))
  | 0=>[]
  | j+1=>q0n s P n j++(if s.join=1 then [] else (q3b s (rnd P n j) (rnd P n (j+1)) (rnd P n (j+2))).toList)
def q1d (s:Sty) (P:Nat→Int × Int) (n:Nat):Nat→List (Int × Int)
  | 0=>[]
  | j+1=>q1d s P n j++(if s.join=1 then [rnd P n (j+1)] else [])
def capA (a v e:Int × Int) (k:Int):List (Int × Int):=[mvP a v 1,mvP a v (-1),mvP (mvP a v (-1)) e k,mvP (mvP a v 1) e k]
def dotP (p:Int × Int) (h:Int):List (Int × Int):=[(p.1-h,p.2-h),(p.1-h,p.2+h),(p.1+h,p.2+h),(p.1+h,p.2-h)]
noncomputable def q1c (s:Sty) (P:Nat→Int × Int) (n:Nat) (cl:Bool):List (List (Int × Int)) :=
  if n=0 then [] else if n=1 then (if s.cap=2 then [dotP (P 0) (near s.w 2)] else [])
  else q1h s P n (if cl=true then n else n-1)++q0n s P n (if cl=true then n else n-2) ++
    (if cl=false∧s.cap=2 then [capA (P 0) (nrm s.w (P 0) (P 1)) (hln s.w (P 0) (P 1)) (-1),capA (P (n-1)) (nrm s.w (P (n-2)) (P (n-1))) (hln s.w (P (n-2)) (P (n-1))) 1] else [])
def q1l (s:Sty) (P:Nat→Int × Int) (n:Nat) (cl:Bool):List (Int × Int) :=
  if n=0 then [] else if n=1 then (if s.cap=1 then [P 0] else [])
  else q1d s P n (if cl=true then n else n-2)++(if cl=false∧s.cap=1 then [P 0,P (n-1)] else [])
theorem q2p (s:Sty) (P:Nat→Int × Int) (n:Nat):∀ k,(q1h s P n k).length=k
  | 0=>rfl
  | k+1=>by rw [q1h,List.length_append,q2p s P n k];rfl
theorem q2u (s:Sty) (P:Nat→Int × Int) (n:Nat):∀ j,(q0n s P n j).length≤j
  | 0=>Nat.le_refl _
  | j+1=>by
    have:=q2u s P n j
    rw [q0n,List.length_append]
    split
    · simp;omega
    · have:(q3b s (rnd P n j) (rnd P n (j+1)) (rnd P n (j+2))).toList.length≤1:=by cases q3b s (rnd P n j) (rnd P n (j+1)) (rnd P n (j+2)) <;> simp
      omega
theorem q2v (s:Sty) (P:Nat→Int × Int) (n:Nat):∀ j,(q1d s P n j).length≤j
  | 0=>Nat.le_refl _
  | j+1=>by
    have:=q2v s P n j
    rw [q1d,List.length_append]
    split <;> simp <;> omega
theorem q9n {a b:Int × Int} (h1:-512≤a.1∧a.1≤512) (h2:-512≤a.2∧a.2≤512) (h3:-512≤b.1∧b.1≤512) (h4:-512≤b.2∧b.2≤512):-524288≤dotV a b∧dotV a b≤524288:=by
  have e1:=q1g (a:=a.1) (b:=b.1) (A:=512) (B:=512) h1 h3
  have e2:=q1g (a:=a.2) (b:=b.2) (A:=512) (B:=512) h2 h4
  unfold dotV;omega
theorem q7z {n m:Int × Int} (h1:-512≤n.1∧n.1≤512) (h2:-512≤n.2∧n.2≤512) (h3:-512≤m.1∧m.1≤512) (h4:-512≤m.2∧m.2≤512) (hd:0<dotV n n+dotV n m) :
    ((-1000000000≤dotV n n*(n.1+m.1)∧dotV n n*(n.1+m.1)≤1000000000)∧(-1000000000≤dotV n n*(n.2+m.2)∧dotV n n*(n.2+m.2)≤1000000000))∧((-1000000000≤(tipV n m).1∧(tipV n m).1≤1000000000)∧(-1000000000≤(tipV n m).2∧(tipV n m).2≤1000000000)):=by
  have hq:=q9n h1 h2 h1 h2
  have e1:=q1g (a:=dotV n n) (b:=n.1+m.1) (A:=524288) (B:=1024) hq (by omega)
  have e2:=q1g (a:=dotV n n) (b:=n.2+m.2) (A:=524288) (B:=1024) hq (by omega)
  have hk:∀ a:Int,-1000000000≤a→a≤1000000000→-1000000000≤near a (dotV n n+dotV n m)∧near a (dotV n n+dotV n m)≤1000000000:=fun a ha hb=>by
    have:=Int.mul_le_mul_of_nonneg_left (show (1:Int)≤dotV n n+dotV n m by omega) (show (0:Int)≤1000000000 by omega)
    exact q94 (by omega) (by omega) (by omega)
  refine ⟨⟨by omega,by omega⟩,hk _ (by omega) (by omega),hk _ (by omega) (by omega)⟩
end Go.Proofs.Ytegpkpilfgohhaa
namespace Go.Proofs.Ytegpkpilfgohhaa
open Go.RowKit
def z5j (P:Program) (f:FuncId) (args:List AV) (G:Mem) (wrap:AV→AV) (R:Mem→Option Addr→Nat→Prop):Prop :=
  ∀ (w:World) (vs:Array Value),G.holds w→AV.rels noName args vs.toList→Calls P f vs w fun e w'=>∃ y A n cap G',e=.returned y∧(wrap (.val (.slice A n cap))).rel noName y∧Below w.heap.size w w' ∧
    G.le G'∧G'.holds w'∧(∀ b o,G' b=some o→G b=some o∨w.heap.size≤b)∧n≤cap∧cap≤maxLen∧R G' A n
theorem z84 {P:Program} {T:Tab} (hT:TOk P T) {f:FuncId} {fn:Func} (hfn:P.funcs[f]? = some fn) {args:List AV} {G:Mem} {wrap:AV→AV} (hwr:Wraps wrap) {R:Mem→Option Addr→Nat→Prop} (hn:q4v fn=true)
    (h:q3y P T 0 fn args [] G fun v hp' G1=>(∃ k E sz n xs,v=wrap (.own k)∧nthB hp' k=.own E sz n xs∧∀ G2 A,G1.le G2→FlatM G2 A xs→R G2 A n)∨(v=wrap (.val (.slice none 0 0))∧R G1 none 0)):z5j P f args G wrap R:=by
  intro w vs hG ha
  refine (q4i hT hfn (hp:=[]) h (.inl hn) w G _ w vs (HR.init hG) ha).mono ?_
  rintro e w' ⟨y,β',v',hp',G',h1,_,h2,h3,h4⟩
  rcases h4 with ⟨k,E,sz,n,xs,rfl,hk,hR⟩ |⟨rfl,hR⟩
  · obtain ⟨s,h5,h6⟩:=hwr.back h3
    simp only [AV.rel] at h5
    obtain ⟨A,cap,G2,rfl,hle,hnc,hcm,hF,hr2⟩:=h2.freeze h5.1 hk
    exact ⟨y,A,n,cap,G2,h1,h6,h2.below,Mem.le_trans h2.sub hle,hr2.hold,hr2.grow,hnc,hcm,hR G2 A hle hF⟩
  · obtain ⟨s,h5,h6⟩:=hwr.back h3
    simp only [AV.rel] at h5
    subst h5
    exact ⟨y,none,0,0,G',h1,h6,h2.below,h2.sub,h2.hold,h2.grow,Nat.le_refl _,Nat.zero_le _,hR⟩
theorem z5k {P:Program} {f:FuncId} (hen:∀ vs w,(callFunc f vs).run P w=.ok (.enter f vs) w) {args:List AV} {hp:List Blk} {G:Mem} {K:AV→List Blk→Mem→Prop} {wrap:AV→AV} (hwr:Wraps wrap) {R:Mem→Option Addr→Nat→Prop} (hu:AV.unders 0 args=true)
    (hc:z5j P f args G wrap R) (h:∀ A n cap G',G.le G'→n≤cap→cap≤maxLen→R G' A n→K (wrap (.val (.slice A n cap))) hp G'):CallP P f args hp G K:=by
  refine ⟨hen,fun w0 G0 β w vs hr ha=>(hc w vs hr.hold (q28 hu ha)).mono ?_⟩
  rintro e w' ⟨y,A,n,cap,G',rfl,h2,h3,hle,hh,hg,hnc,hcm,hR⟩
  have hr':=hr.step h3
  have hv:∀ s':Value,(AV.val s').rel β s':=fun s'=>by simp only [AV.rel]
  have hno:∀ b,G b=none→b<w.heap.size→G' b=none:=fun b hb hl=>by
    cases e:G' b with
    | none=>rfl
    | some o =>
      rcases hg b o e with h6 |h6
      · rw [hb] at h6;cases h6
      · omega
  refine ⟨y,β,_,hp,G',rfl,Nm.le_refl _,⟨hr'.below,hh,Mem.le_trans hr.sub hle,fun b o hb=>?_,fun k z hk=>?_,hr'.inj,hr'.wrt⟩,hwr.rel (hv _) h2,h A n cap G' hle hnc hcm hR⟩
  · rcases hg b o hb with h6 |h6
    · exact hr.grow b o h6
    · exact .inr (Nat.le_trans hr.below.size h6)
  · obtain ⟨x,hx1,hx2⟩:=hr.blk k z hk
    obtain ⟨x',hx1',hx2'⟩:=hr'.blk k z hk
    rw [hx1] at hx1';cases hx1'
    refine ⟨x,hx1,?_⟩
    have hlt:∀ b,x.live=true→q0f z=some b→b<w.heap.size:=fun b hl hb=>(hr.lt hk hx1 hl hb).2.1
    cases x with
    | gone=>trivial
    | muts S=>exact hx2'.elim
    | cells t l =>
      obtain ⟨b,c,q1,q2,q3,q4,q5⟩:=hx2'
      exact ⟨b,c,q1,q2,hno b q3 (hlt b rfl (by rw [q1];rfl)),q4,q5⟩
    | own e' sz' n' xs' =>
      exact ⟨hx2'.1,fun b hb=>hno b (hx2'.2 b hb) (hlt b rfl hb)⟩
    | lp i fr st p =>
      obtain ⟨q1,q2,q3,q4⟩:=hx2'
      exact ⟨q1,q2,hno i.l q3 (hlt i.l rfl (by rw [q1];rfl)),q4⟩
    | mp f ks vs =>
      obtain ⟨b,ys,q1,q2,q3,q4⟩:=hx2'
      exact ⟨b,ys,q1,q2,hno b q3 (hlt b rfl (by rw [q1];rfl)),q4⟩
end Go.Proofs.Ytegpkpilfgohhaa
namespace Go.Proofs.Ytegpkpilfgohhaa
open Go.RowKit
def q47 (P:Program) (f:FuncId) (args:List AV) (G:Mem) (R:AV→Mem→Prop):Prop :=
  ∀ (w:World) (vs:Array Value),G.holds w→AV.rels noName args vs.toList→Calls P f vs w fun e w'=>∃ y v G',e=.returned y∧v.rel noName y∧Below w.heap.size w w' ∧
    G.le G'∧G'.holds w'∧(∀ b o,G' b=some o→G b=some o∨w.heap.size≤b)∧v.under 0=true∧R v G'
theorem z85 {P:Program} {T:Tab} (hT:TOk P T) {f:FuncId} {fn:Func} (hfn:P.funcs[f]? = some fn) {args:List AV} {G:Mem} {R:AV→Mem→Prop} (hn:q4v fn=true)
    (h:q3y P T 0 fn args [] G fun v hp' G1=>v.under 0=true∧R v G1):q47 P f args G R:=by
  intro w vs hG ha
  refine (q4i hT hfn (hp:=[]) h (.inl hn) w G _ w vs (HR.init hG) ha).mono ?_
  rintro e w' ⟨y,β',v',hp',G',h1,_,h2,h3,hb,hR⟩
  exact ⟨y,v',G',h1,q4j hb h3,h2.below,h2.sub,h2.hold,h2.grow,hb,hR⟩
theorem q14 {P:Program} {f:FuncId} (hen:∀ vs w,(callFunc f vs).run P w=.ok (.enter f vs) w) {args:List AV} {hp:List Blk} {G:Mem} {K:AV→List Blk→Mem→Prop} {R:AV→Mem→Prop} (hu:AV.unders 0 args=true)
    (hc:q47 P f args G R) (h:∀ v G',G.le G'→v.under 0=true→R v G'→K v hp G'):CallP P f args hp G K:=by
  refine ⟨hen,fun w0 G0 β w vs hr ha=>(hc w vs hr.hold (q28 hu ha)).mono ?_⟩
  rintro e w' ⟨y,v,G',rfl,h2,h3,hle,hh,hg,hb,hR⟩
  have hr':=hr.step h3
  have hno:∀ b,G b=none→b<w.heap.size→G' b=none:=fun b hb hl=>by
    cases e:G' b with
    | none=>rfl
    | some o =>
      rcases hg b o e with h6 |h6
      · rw [hb] at h6;cases h6
      · omega
  refine ⟨y,β,v,hp,G',rfl,Nm.le_refl _,⟨hr'.below,hh,Mem.le_trans hr.sub hle,fun b o ho=>?_,fun k z hk=>?_,hr'.inj,hr'.wrt⟩,AV.rel_mono (q3l β) _ _ h2,h v G' hle hb hR⟩
  · rcases hg b o ho with h6 |h6
    · exact hr.grow b o h6
    · exact .inr (Nat.le_trans hr.below.size h6)
  · obtain ⟨x,hx1,hx2⟩:=hr.blk k z hk
    obtain ⟨x',hx1',hx2'⟩:=hr'.blk k z hk
    rw [hx1] at hx1';cases hx1'
    refine ⟨x,hx1,?_⟩
    have hlt:∀ b,x.live=true→q0f z=some b→b<w.heap.size:=fun b hl hb=>(hr.lt hk hx1 hl hb).2.1
    cases x with
    | gone=>trivial
    | muts S=>exact hx2'.elim
    | cells t l =>
      obtain ⟨b,c,q1,q2,q3,q4,q5⟩:=hx2'
      exact ⟨b,c,q1,q2,hno b q3 (hlt b rfl (by rw [q1];rfl)),q4,q5⟩
    | own e' sz' n' xs' =>
      exact ⟨hx2'.1,fun b hb=>hno b (hx2'.2 b hb) (hlt b rfl hb)⟩
    | lp i fr st p =>
      obtain ⟨q1,q2,q3,q4⟩:=hx2'
      exact ⟨q1,q2,hno i.l q3 (hlt i.l rfl (by rw [q1];rfl)),q4⟩
    | mp f ks vs =>
      obtain ⟨b,ys,q1,q2,q3,q4⟩:=hx2'
      exact ⟨b,ys,q1,q2,hno b q3 (hlt b rfl (by rw [q1];rfl)),q4⟩
end Go.Proofs.Ytegpkpilfgohhaa
