/-
  Merged: XFlat, XRegLaw.
-/
import Derived.WalkKit
import Derived.Test.YtbkhpddodmbdoaaMrg3
set_option linter.unusedVariables false
set_option linter.unusedSimpArgs false
set_option linter.unnecessarySimpa false
namespace Go.Proofs.Ytbkhpddodmbdoaa
open Go.RowKit Go.ChangeShapes Go.WideShapes Go.Deep
def All2 {α β:Type} (R:α→β→Prop):List α→List β→Prop
  | [],[]=>True
  | a::l,b::m=>R a b∧All2 R l m
  | _,_=>False
theorem All2.cons {α β:Type} {R:α→β→Prop} {a:α} {l:List α} {cs:List β} (h:All2 R (a::l) cs):∃ c cs',cs=c::cs'∧R a c∧All2 R l cs':=by
  cases cs with
  | nil=>exact h.elim
  | cons c cs'=>exact ⟨c,cs',rfl,h.1,h.2⟩
theorem All2.nil {α β:Type} {R:α→β→Prop} {cs:List β} (h:All2 R [] cs):cs=[]:=by
  cases cs with
  | nil=>rfl
  | cons c cs'=>exact h.elim
theorem All2.append {α β:Type} {R:α→β→Prop}:∀ {l1 l2:List α} {c1 c2:List β},All2 R l1 c1→All2 R l2 c2→All2 R (l1++l2) (c1++c2)
  | [],_,[],_,_,h=>h
  | _::_,_,_::_,_,h1,h2=>⟨h1.1,All2.append h1.2 h2⟩
  | [],_,_::_,_,h1,_=>h1.elim
  | _::_,_,[],_,h1,_=>h1.elim
theorem All2.length {α β:Type} {R:α→β→Prop}:∀ {l:List α} {c:List β},All2 R l c→l.length=c.length
  | [],[],_=>rfl
  | _::_,_::_,h=>by simp [All2.length h.2]
  | [],_::_,h=>h.elim
  | _::_,[],h=>h.elim
theorem All2.get {α β:Type} {R:α→β→Prop}:∀ {l:List α} {c:List β},All2 R l c→∀ {i:Nat} {a:α},l[i]? = some a→∃ b,c[i]? = some b∧R a b
  | [],_,_,_,_,h=>by simp at h
  | _::_,[],h,_,_,_=>h.elim
  | a::l,b::c,h,0,a',hi=>by simp at hi;subst hi;exact ⟨b,rfl,h.1⟩
  | a::l,b::c,h,i+1,a',hi=>by
    obtain ⟨b',h1,h2⟩:=All2.get h.2 (i:=i) (by simpa using hi)
    exact ⟨b',by simpa using h1,h2⟩
inductive Scal where
  | int (k:IntKind)
  | bool
  | string
  | slice (t:TypeId)
  | other
def flat (P:Program):Nat→TypeId→List Scal
  | 0,_=>[]
  | n+1,t=>match P.underlying t with
    | some (.int k)=>[.int k]
    | some .bool=>[.bool]
    | some .string=>[.string]
    | some (.struct fs)=>fs.toList.flatMap fun f=>flat P n f.type
    | some (.array m e)=>(List.replicate m (flat P n e)).flatten
    | some (.slice _)=>[.slice t]
    | _=>[.other]
def q7w (P:Program) (n:Nat) (ok:TypeId→Bool):Nat→List Field→Bool
  | _,[]=>true
  | o,f::l=>f.offset==o&&P.cellsOf f.type==(flat P n f.type).length&&ok f.type&&q7w P n ok (o+(flat P n f.type).length) l
def q4i (P:Program):Nat→TypeId→Bool
  | 0,_=>false
  | n+1,t=>match P.underlying t with
    | some (.struct fs)=>q7w P n (q4i P n) 0 fs.toList&&P.cellsOf t==(flat P (n+1) t).length
    | some (.array m e)=>q4i P n e&&P.cellsOf e==(flat P n e).length&&P.cellsOf t==m*(flat P n e).length
    | some (.int _)=>true
    | some .bool=>true
    | some .string=>true
    | some (.slice _)=>true
    | _=>false
def SeesC (P:Program) (w:World):Scal→Value→Prop
  | .int k,c=>∃ a,c=.int k a∧(Lit.int k a).wf=true
  | .bool,c=>∃ b,c=.bool b
  | .string,c=>∃ s,c=.string s∧s.size≤maxLen
  | .slice t,c=>∃ m,Sees P w m t [c]
  | .other,_=>True
section
variable {P:Program} {w:World}
theorem z2b {n:Nat} {m:Nat} {cs:List Value} (ih:∀ (t:TypeId) (cs:List Value),q4i P n t=true→Sees P w m t cs→All2 (SeesC P w) (flat P n t) cs) :
    ∀ (l:List Field) (o:Nat),q7w P n (q4i P n) o l=true→cs.length=o+(l.flatMap fun f=>flat P n f.type).length →
      (∀ f∈l,Sees P w m f.type ((cs.drop f.offset).take (P.cellsOf f.type)))→All2 (SeesC P w) (l.flatMap fun f=>flat P n f.type) (cs.drop o)
  | [],o,_,hl,_=>by
    have:cs.drop o=[]:=List.drop_eq_nil_of_le (by simp at hl;omega)
    rw [this];trivial
  | f::l,o,hok,hl,hs=>by
    simp only [q7w,Bool.and_eq_true,beq_iff_eq] at hok
    obtain ⟨⟨⟨h1,h2⟩,h3⟩,h4⟩:=hok
    rw [List.flatMap_cons] at hl ⊢
    rw [List.length_append] at hl
    have hf:=ih f.type _ h3 (hs f (List.mem_cons_self ..))
    rw [h1,h2] at hf
    have hr:=z2b (cs:=cs) ih l (o+(flat P n f.type).length) h4 (by omega) (fun g hg=>hs g (List.mem_cons_of_mem _ hg))
    have:=hf.append hr
    rw [← List.drop_drop,List.take_append_drop] at this
    exact this
theorem z3r {n m:Nat} {e:TypeId} {cs:List Value} (ih:∀ (t:TypeId) (cs:List Value),q4i P n t=true→Sees P w m t cs→All2 (SeesC P w) (flat P n t) cs) (hok:q4i P n e=true) (hc:P.cellsOf e=(flat P n e).length) :
    ∀ (k i:Nat),cs.length=(i+k)*(flat P n e).length→(∀ j,j<i+k→Sees P w m e ((cs.drop (j*P.cellsOf e)).take (P.cellsOf e))) →
      All2 (SeesC P w) (List.replicate k (flat P n e)).flatten (cs.drop (i*(flat P n e).length))
  | 0,i,hl,_=>by
    have:cs.drop (i*(flat P n e).length)=[]:=List.drop_eq_nil_of_le (by simp at hl;omega)
    rw [this];trivial
  | k+1,i,hl,hs=>by
    have hf:=ih e _ hok (hs i (by omega))
    rw [hc] at hf
    have hr:=z3r (cs:=cs) ih hok hc k (i+1) (by rw [hl];congr 1;omega) (fun j hj=>hs j (by omega))
    have:=hf.append hr
    rw [List.replicate_succ,List.flatten_cons]
    rw [show (i+1)*(flat P n e).length=i*(flat P n e).length+(flat P n e).length by rw [Nat.add_mul];omega,← List.drop_drop,List.take_append_drop] at this
    exact this
theorem z00:∀ (n m:Nat) (t:TypeId) (cs:List Value),q4i P n t=true→Sees P w m t cs→All2 (SeesC P w) (flat P n t) cs
  | 0,_,_,_,h,_=>by simp [q4i] at h
  | n+1,m,t,cs,hok,hs=>by
    unfold flat
    unfold q4i at hok
    split
    · rename_i k ht;obtain ⟨a,rfl,hw⟩:=hs.int ht;exact ⟨⟨a,rfl,hw⟩,trivial⟩
    · rename_i ht;obtain ⟨b,rfl⟩:=hs.bool ht;exact ⟨⟨b,rfl⟩,trivial⟩
    · rename_i ht;obtain ⟨b,rfl,hb⟩:=hs.string ht;exact ⟨⟨b,rfl,hb⟩,trivial⟩
    · rename_i fs ht
      rw [ht] at hok
      simp only [Bool.and_eq_true,beq_iff_eq] at hok
      obtain ⟨h1,h2⟩:=hok
      rw [show flat P (n+1) t=fs.toList.flatMap fun f=>flat P n f.type by rw [flat,ht]] at h2
      obtain ⟨hl,k,hk⟩:=hs.struct ht
      have:=z2b (cs:=cs) (fun t cs h h'=>z00 n k t cs h h') fs.toList 0 h1 (by omega) (fun f hf=>by
        obtain ⟨i,hi⟩:=List.mem_iff_getElem?.1 hf
        exact hk i f (by simpa using hi))
      simpa using this
    · rename_i k e ht
      rw [ht] at hok
      simp only [Bool.and_eq_true,beq_iff_eq] at hok
      obtain ⟨⟨h1,h2⟩,h3⟩:=hok
      obtain ⟨hl,q,hq⟩:=hs.array ht
      have:=z3r (cs:=cs) (fun t cs h h'=>z00 n q t cs h h') h1 h2 k 0 (by rw [hl,h3];simp) (fun j hj=>hq j (by omega))
      simpa using this
    · rename_i e ht
      have:∃ c,cs=[c]:=by
        rcases hs.slice ht with h |⟨a,len,cap,h,_⟩
        · exact ⟨_,h⟩
        · exact ⟨_,h⟩
      obtain ⟨c,rfl⟩:=this
      exact ⟨⟨m,hs⟩,trivial⟩
    · rename_i h1 h2 h3 h4 h5 h6
      split at hok
      all_goals simp_all
theorem Sees.below {w':World} (hb:Below w.heap.size w w'):∀ (n:Nat) (t:TypeId) (cs:List Value),Sees P w n t cs→Sees P w' n t cs
  | 0,_,_,h=>h.elim
  | n+1,t,cs,h=>by
    unfold Sees at h ⊢
    split <;> first |(rename_i ht;rw [ht] at h;simp only at h) |skip
    · exact h
    · exact h
    · exact h
    · exact ⟨h.1,fun i f hi=>Sees.below hb n _ _ (h.2 i f hi)⟩
    · exact ⟨h.1,fun i hi=>Sees.below hb n _ _ (h.2 i hi)⟩
    · rcases h with h |⟨a,len,cap,h1,h2,h3,h4⟩
      · exact .inl h
      · refine .inr ⟨a,len,cap,h1,h2,h3,fun i hi=>?_⟩
        obtain ⟨cs',hl,hc,hs⟩:=h4 i hi
        refine ⟨cs',hl,fun j hj=>?_,Sees.below hb n _ _ hs⟩
        have hj':cs'[j]? = some cs'[j]:=List.getElem?_eq_getElem (by omega)
        have h5:=hc j hj
        rw [hj'] at h5 ⊢
        exact (hb.cell (z3q h5).2).trans h5
    · trivial
theorem SeesC.below {w':World} (hb:Below w.heap.size w w') {s:Scal} {c:Value} (h:SeesC P w s c):SeesC P w' s c:=by
  cases s with
  | slice t=>obtain ⟨m,hm⟩:=h;exact ⟨m,Sees.below hb m t _ hm⟩
  | int k=>exact h
  | bool=>exact h
  | string=>exact h
  | other=>trivial
theorem All2.mono {α β:Type} {R S:α→β→Prop} (hRS:∀ a b,R a b→S a b):∀ {l:List α} {c:List β},All2 R l c→All2 S l c
  | [],[],_=>trivial
  | _::_,_::_,h=>⟨hRS _ _ h.1,All2.mono hRS h.2⟩
  | [],_::_,h=>h.elim
  | _::_,[],h=>h.elim
def SliceG (P:Program) (w:World) (e:TypeId) (A:Option Addr) (n:Nat) (g:Nat→Nat→Value):Prop :=
  0<n→∃ b off,A=some ⟨b,off,none⟩∧b<w.heap.size∧∀ x,x<n→(∀ j,j<P.cellsOf e→w.cell? ⟨b,off+x*P.cellsOf e+j,none⟩=some (g x j))∧∃ m,Sees P w m e ((List.range (P.cellsOf e)).map (g x))
theorem SliceG.below {w':World} {e:TypeId} {A:Option Addr} {n:Nat} {g:Nat→Nat→Value} (h:SliceG P w e A n g) (hb:Below w.heap.size w w'):SliceG P w' e A n g:=by
  intro hn
  obtain ⟨b,off,hA,hlt,hc⟩:=h hn
  refine ⟨b,off,hA,Nat.lt_of_lt_of_le hlt hb.size,fun x hx=>⟨fun j hj=>(hb.cell (p:=⟨b,_,none⟩) hlt).trans ((hc x hx).1 j hj),?_⟩⟩
  obtain ⟨m,hm⟩:=(hc x hx).2
  exact ⟨m,Sees.below hb m _ _ hm⟩
def valI:Value→Int
  | .int _ a=>a
  | _=>0
def valB:Value→Bool
  | .bool b=>b
  | _=>false
theorem SliceG.seen {e:TypeId} {A:Option Addr} {n:Nat} {g:Nat→Nat→Value} (h:SliceG P w e A n g) (hok:q4i P 20 e=true) {x:Nat} (hx:x<n) {j:Nat} {s:Scal} (hj:(flat P 20 e)[j]? = some s):SeesC P w s (g x j):=by
  obtain ⟨b,off,_,_,hc⟩:=h (by omega)
  obtain ⟨m,hm⟩:=(hc x hx).2
  obtain ⟨c,h1,h2⟩:=(z00 20 m e _ hok hm).get hj
  rw [List.getElem?_map] at h1
  by_cases hjl:j<P.cellsOf e
  · rw [List.getElem?_range hjl] at h1
    simp at h1;subst h1;exact h2
  · rw [List.getElem?_eq_none (by simp;omega)] at h1
    simp at h1
theorem SliceG.int {e:TypeId} {A:Option Addr} {n:Nat} {g:Nat→Nat→Value} (h:SliceG P w e A n g) (hok:q4i P 20 e=true) {x:Nat} (hx:x<n) {j:Nat} {k:IntKind} (hj:(flat P 20 e)[j]? = some (.int k)):g x j=.int k (valI (g x j))∧(Lit.int k (valI (g x j))).wf=true:=by
  obtain ⟨a,ha,hw⟩:=h.seen hok hx hj
  rw [ha];exact ⟨rfl,hw⟩
theorem SliceG.bool {e:TypeId} {A:Option Addr} {n:Nat} {g:Nat→Nat→Value} (h:SliceG P w e A n g) (hok:q4i P 20 e=true) {x:Nat} (hx:x<n) {j:Nat} (hj:(flat P 20 e)[j]? = some .bool):g x j=.bool (valB (g x j)):=by
  obtain ⟨a,ha⟩:=h.seen hok hx hj
  rw [ha];rfl
theorem z3s {m:Nat} {t e:TypeId} {c:Value} (ht:P.underlying t=some (.slice e)) (h0:0<P.cellsOf e) (h:Sees P w m t [c]) :
    ∃ (A:Option Addr) (n cap:Nat) (g:Nat→Nat→Value),c=.slice A n cap∧n≤cap∧cap≤maxLen∧SliceG P w e A n g:=by
  rcases h.slice ht with hnil |⟨a,len,cap,hcs,h1,h2,k,hk⟩
  · simp at hnil
    exact ⟨none,0,0,fun _ _=>undef,hnil,by omega,by simp [maxLen],fun h=>absurd h (by omega)⟩
  · simp at hcs
    subst hcs
    have key:∀ x,x<len→∃ g:Nat→Value,(∀ j,j<P.cellsOf e→w.cell? (a.add (x*P.cellsOf e+j))=some (g j))∧Sees P w k e ((List.range (P.cellsOf e)).map g):=by
      intro x hx
      obtain ⟨cs,hl,hc,hse⟩:=hk x hx
      refine ⟨fun j=>cs.getD j undef,fun j hj=>?_,?_⟩
      · rw [hc j hj];simp [List.getD_eq_getElem?_getD,show j<cs.length by omega]
      · have:(List.range (P.cellsOf e)).map (fun j=>cs.getD j undef)=cs:=by
          apply List.ext_getElem?
          intro j
          rw [List.getElem?_map]
          by_cases hj:j<cs.length
          · rw [List.getElem?_range (by omega)];simp [List.getD_eq_getElem?_getD,hj]
          · rw [List.getElem?_eq_none (by simp;omega),List.getElem?_eq_none (by omega)];rfl
        rw [this];exact hse
    have:Inhabited (Nat→Value):=⟨fun _=>undef⟩
    obtain ⟨g,hg⟩:=choose_lt key
    refine ⟨some a,len,cap,g,rfl,h1,h2,fun hn=>?_⟩
    have h00:=(hg 0 hn).1 0 h0
    rw [Nat.zero_mul,Nat.add_zero,show a.add 0=a by simp [Addr.add]] at h00
    obtain ⟨q1,q2⟩:=z3q h00
    refine ⟨a.block,a.off,by rw [← q1],q2,fun x hx=>⟨fun j hj=>?_,k,(hg x hx).2⟩⟩
    have c:=(hg x hx).1 j hj
    rw [q1,x10] at c
    rw [Nat.add_assoc];exact c
end
section
variable {H:Type} {enc:TypeId × Value→H} {P:Program} {w:World} {base b0:Nat} {spare:Nat→Bool} {held:Bool} {r:Reach} {v:Value} {d:DataW H} {ps:List MemPlace}
theorem x5w {t e:TypeId} (ht:P.underlying t=some (.slice e)) (h0:0<P.cellsOf e) (hv:Value.okWide P w r b0 t v) (h:DataW.Trod enc P w base spare held t v d ps) :
    ∃ (A:Option Addr) (n cap:Nat) (g:Nat→Nat→Value),v=.slice A n cap∧n≤cap∧cap≤maxLen∧SliceG P w e A n g:=by
  obtain ⟨A,n,cap,rfl⟩:=okWide_slice ht hv
  obtain ⟨m,hs⟩:=z0z h
  exact z3s ht h0 (by simpa [Value.cells] using hs)
end
end Go.Proofs.Ytbkhpddodmbdoaa
namespace Go.Proofs.Ytbkhpddodmbdoaa
theorem Run.ext' {r s:Run} (h1:r.y=s.y) (h2:r.x0=s.x0) (h3:r.x1=s.x1):r=s:=by
  cases r;cases s;simp_all
def okR:List Run→Prop
  | []=>True
  | r::l=>r.x0<r.x1∧(∀ s∈l,r.y<s.y∨(r.y=s.y∧r.x1<s.x0))∧okR l
def hasR (L:List Run) (x y:Int):Prop:=∃ r∈L,r.y=y∧r.x0≤x∧x<r.x1
theorem hasR_cons {r:Run} {l:List Run} {x y:Int}:hasR (r::l) x y↔(r.y=y∧r.x0≤x∧x<r.x1)∨hasR l x y:=by
  simp [hasR]
theorem q37 {k l:List Run} {x y:Int}:hasR (k++l) x y↔hasR k x y∨hasR l x y:=by
  constructor
  · rintro ⟨r,h,h'⟩
    rcases List.mem_append.1 h with h |h
    · exact .inl ⟨r,h,h'⟩
    · exact .inr ⟨r,h,h'⟩
  · rintro (⟨r,h,h'⟩ |⟨r,h,h'⟩)
    · exact ⟨r,List.mem_append.2 (.inl h),h'⟩
    · exact ⟨r,List.mem_append.2 (.inr h),h'⟩
theorem q5e {r:Run} {x y:Int}:hasR [r] x y↔r.y=y∧r.x0≤x∧x<r.x1:=by simp [hasR]
theorem q28 {x y:Int}:¬ hasR [] x y:=by simp [hasR]
theorem q2v {L:List Run} (h:okR L) {r:Run} (hr:r∈L):r.x0<r.x1:=by
  induction L with
  | nil=>cases hr
  | cons s l ih =>
    rcases List.mem_cons.1 hr with rfl |hr
    · exact h.1
    · exact ih h.2.2 hr
theorem okR_append {k l:List Run}:okR (k++l)↔okR k∧okR l∧∀ r∈k,∀ s∈l,r.y<s.y∨(r.y=s.y∧r.x1<s.x0):=by
  induction k with
  | nil=>simp [okR]
  | cons a k ih =>
    simp only [List.cons_append,okR,ih,List.mem_append,List.mem_cons]
    constructor
    · rintro ⟨h1,h2,h3,h4,h5⟩
      refine ⟨⟨h1,fun s hs=>h2 s (.inl hs),h3⟩,h4,fun r hr s hs=>?_⟩
      rcases hr with rfl |hr
      · exact h2 s (.inr hs)
      · exact h5 r hr s hs
    · rintro ⟨⟨h1,h2,h3⟩,h4,h5⟩
      refine ⟨h1,fun s hs=>?_,h3,h4,fun r hr s hs=>h5 r (.inr hr) s hs⟩
      rcases hs with hs |hs
      · exact h2 s hs
      · exact h5 a (.inl rfl) s hs
theorem z5n {r:Run} {l:List Run} (h:okR (r::l)) {x y:Int} (hx:hasR (r::l) x y):r.y<y∨(r.y=y∧r.x0≤x):=by
  rcases hasR_cons.1 hx with h1 |⟨s,hs,h1⟩
  · omega
  · have h2:=h.2.1 s hs
    have h3:=h.1
    omega
theorem q9y {r:Run} {l:List Run} (h:okR (r::l)) {x y:Int} (hx:hasR l x y):r.y<y∨(r.y=y∧r.x1<x+0∨r.y=y∧r.x1<x):=by
  obtain ⟨s,hs,h1⟩:=hx
  have h2:=h.2.1 s hs
  omega
theorem z1x:∀ {L M:List Run},okR L→okR M→(∀ x y,hasR L x y↔hasR M x y)→L=M
  | [],[],_,_,_=>rfl
  | [],s::m,_,hM,h=>((q28 ((h s.x0 s.y).2 ⟨s,List.mem_cons_self ..,rfl,Int.le_refl _,hM.1⟩))).elim
  | r::l,[],hL,_,h=>((q28 ((h r.x0 r.y).1 ⟨r,List.mem_cons_self ..,rfl,Int.le_refl _,hL.1⟩))).elim
  | r::l,s::m,hL,hM,h=>by
    have a1:=z5n hM ((h r.x0 r.y).1 ⟨r,List.mem_cons_self ..,rfl,Int.le_refl _,hL.1⟩)
    have a2:=z5n hL ((h s.x0 s.y).2 ⟨s,List.mem_cons_self ..,rfl,Int.le_refl _,hM.1⟩)
    have e1:r.y=s.y:=by omega
    have e2:r.x0=s.x0:=by omega
    have l1:=hL.1
    have m1:=hM.1
    have e3:r.x1=s.x1:=by
      rcases Int.lt_trichotomy r.x1 s.x1 with hlt |he |hlt
      · have b:=(h r.x1 r.y).2 ⟨s,List.mem_cons_self ..,by omega,by omega,hlt⟩
        rcases hasR_cons.1 b with b |b
        · omega
        · have:=q9y hL b;omega
      · exact he
      · have b:=(h s.x1 s.y).1 ⟨r,List.mem_cons_self ..,by omega,by omega,hlt⟩
        rcases hasR_cons.1 b with b |b
        · omega
        · have:=q9y hM b;omega
    obtain rfl:=Run.ext' e1 e2 e3
    refine congrArg (r::·) (z1x hL.2.2 hM.2.2 fun x y=>⟨fun hx=>?_,fun hx=>?_⟩)
    · rcases hasR_cons.1 ((h x y).1 (hasR_cons.2 (.inr hx))) with b |b
      · have:=q9y hL hx;omega
      · exact b
    · rcases hasR_cons.1 ((h x y).2 (hasR_cons.2 (.inr hx))) with b |b
      · have:=q9y hM hx;omega
      · exact b
def upTo (L:List Run) (y x:Int):Prop:=∀ r∈L,r.y<y∨(r.y=y∧r.x1≤x)
theorem q7f {L:List Run} {y x y' x':Int} (h:upTo L y x) (k:y<y'∨(y=y'∧x≤x')):upTo L y' x':=fun r hr=>by
  have:=h r hr;omega
def addR (L:List Run) (y a b:Int):List Run :=
  if b≤a then L else match L.getLast? with
    | some r=>if r.y=y∧a≤r.x1 then L.dropLast++[⟨y,r.x0,max r.x1 b⟩] else L++[⟨y,a,b⟩]
    | none=>[⟨y,a,b⟩]
theorem q3y {L:List Run} {y a b:Int} (h:b≤a):addR L y a b=L:=by simp [addR,h]
theorem q2m {y a b:Int} (h:¬ b≤a):addR [] y a b=[⟨y,a,b⟩]:=by simp [addR,h]
theorem q1r {L:List Run} {r:Run} {y a b:Int} (h:¬ b≤a) (h1:r.y=y) (h2:a≤r.x1):addR (L++[r]) y a b=L++[⟨y,r.x0,max r.x1 b⟩]:=by simp [addR,h,h1,h2]
theorem q1o {L:List Run} {r:Run} {y a b:Int} (h:¬ b≤a) (h1:¬ (r.y=y∧a≤r.x1)):addR (L++[r]) y a b=L++[r]++[⟨y,a,b⟩]:=by
  unfold addR
  rw [if_neg h]
  have e:(L++[r]).getLast? = some r:=by simp
  rw [e]
  simp only [if_neg h1]
theorem q2r (L:List Run):L=[]∨∃ K r,L=K++[r]:=by
  rcases List.eq_nil_or_concat L with h |⟨K,r,h⟩
  · exact .inl h
  · exact .inr ⟨K,r,by simpa using h⟩
theorem z4t {L:List Run} {y a b:Int} (h:okR L) (hu:upTo L y a) :
    okR (addR L y a b)∧(a<b→upTo (addR L y a b) y b)∧(∀ u v,hasR (addR L y a b) u v↔hasR L u v∨(v=y∧a≤u∧u<b)):=by
  by_cases hb:b≤a
  · rw [q3y hb]
    refine ⟨h,fun h'=>by omega,fun u v=>⟨.inl,?_⟩⟩
    rintro (h' |h')
    · exact h'
    · omega
  · rcases q2r L with rfl |⟨K,r,rfl⟩
    · rw [q2m hb]
      refine ⟨by simp [okR];omega,fun _ s hs=>?_,fun u v=>?_⟩
      · simp at hs;subst hs;simp
      · rw [q5e];simp only [q28,false_or];omega
    · have hr:=hu r (by simp)
      obtain ⟨o1,o2,o3⟩:=okR_append.1 h
      by_cases hj:r.y=y∧a≤r.x1
      · rw [q1r hb hj.1 hj.2]
        have hm:max r.x1 b=b:=by omega
        rw [hm]
        refine ⟨okR_append.2 ⟨o1,?_,fun q hq s hs=>?_⟩,fun _ q hq=>?_,fun u v=>?_⟩
        · simp [okR] at o2 ⊢;omega
        · simp at hs;subst hs
          have:=o3 q hq r (by simp)
          simp only;omega
        · rcases List.mem_append.1 hq with hq |hq
          · have:=o3 q hq r (by simp)
            have:=hu q (by simp [hq])
            omega
          · simp at hq;subst hq;simp
        · rw [q37,q37,q5e,q5e]
          have o4:=o2.1
          simp only
          constructor
          · rintro (h1 |h1)
            · exact .inl (.inl h1)
            · by_cases hx:u<r.x1
              · exact .inl (.inr (by omega))
              · exact .inr (by omega)
          · rintro ((h1 |h1) |h1)
            · exact .inl h1
            · exact .inr (by omega)
            · exact .inr (by omega)
      · rw [q1o hb hj]
        refine ⟨okR_append.2 ⟨h,by simp [okR];omega,fun q hq s hs=>?_⟩,fun _ q hq=>?_,fun u v=>?_⟩
        · simp at hs;subst hs
          simp only
          have hq':=hu q hq
          rcases List.mem_append.1 hq with hq |hq
          · have:=o3 q hq r (by simp)
            have:=o2.1
            omega
          · simp at hq;subst hq
            omega
        · rcases List.mem_append.1 hq with hq |hq
          · have:=hu q hq;omega
          · simp at hq;subst hq;simp
        · rw [q37 (l:=[⟨y,a,b⟩]),q5e]
          simp only
          constructor
          · rintro (h1 |h1)
            · exact .inl h1
            · exact .inr (by omega)
          · rintro (h1 |h1)
            · exact .inl h1
            · exact .inr (by omega)
/-! ### Runs in memory as a list -/
def q2s (rs:Nat→Run) (n:Nat):List Run:=(List.range n).map rs
theorem x0o (rs:Nat→Run) (n:Nat):q2s rs (n+1)=q2s rs n++[rs n]:=by
  unfold q2s;rw [List.range_succ,List.map_append];rfl
theorem mem_runsL {rs:Nat→Run} {n:Nat} {r:Run}:r∈q2s rs n↔∃ i,i<n∧rs i=r:=by simp [q2s]
theorem q4m {rs:Nat→Run} {n:Nat} {x y:Int}:hasR (q2s rs n) x y↔∃ i,i<n∧(rs i).y=y∧(rs i).x0≤x∧x<(rs i).x1:=by
  unfold hasR
  constructor
  · rintro ⟨r,hr,h⟩
    obtain ⟨i,hi,rfl⟩:=mem_runsL.1 hr
    exact ⟨i,hi,h⟩
  · rintro ⟨i,hi,h⟩
    exact ⟨_,mem_runsL.2 ⟨i,hi,rfl⟩,h⟩
structure Valid (rs:Nat→Run) (n:Nat):Prop where
  bd:∀ i,i<n→(-8192≤(rs i).y∧(rs i).y≤8191)∧(-8192≤(rs i).x0∧(rs i).x0<(rs i).x1∧(rs i).x1≤8192)
  lt:∀ i j,i<j→j<n→(rs i).y<(rs j).y∨((rs i).y=(rs j).y∧(rs i).x1<(rs j).x0)
theorem z7o {rs:Nat→Run}:∀ {n:Nat},regV rs n=0→∀ k,k<n→q3t rs k=0
  | 0,_,k,hk=>by omega
  | n+1,h,k,hk=>by
    unfold regV at h
    split at h
    · rename_i h1;exact (h1 h).elim
    · rename_i h1
      rcases Nat.lt_or_ge k n with h2 |h2
      · exact z7o (Decidable.not_not.1 h1) k h2
      · have:k=n:=by omega
        subst this;exact h
theorem z8r {rs:Nat→Run} {k:Nat} (h:q3t rs k=0):((-8192≤(rs k).y∧(rs k).y≤8191)∧(-8192≤(rs k).x0∧(rs k).x0<(rs k).x1∧(rs k).x1≤8192))∧(0<k→(rs (k-1)).y<(rs k).y∨((rs (k-1)).y=(rs k).y∧(rs (k-1)).x1<(rs k).x0)):=by
  unfold q3t at h
  split at h
  · omega
  · split at h
    · omega
    · split at h
      · omega
      · refine ⟨by omega,fun hk=>by omega⟩
theorem x3h {rs:Nat→Run} {n:Nat} (h:regV rs n=0):Valid rs n:=by
  have h1:=fun k hk=>z8r (z7o h k hk)
  refine ⟨fun i hi=>(h1 i hi).1,fun i j hij hj=>?_⟩
  induction j with
  | zero=>omega
  | succ j ih =>
    have h2:=(h1 (j+1) hj).2 (by omega)
    simp only [Nat.add_sub_cancel] at h2
    rcases Nat.lt_or_ge i j with h3 |h3
    · have h4:=ih h3 (by omega)
      have h5:=(h1 j (by omega)).1
      omega
    · have:i=j:=by omega
      subst this;exact h2
theorem Valid.ok {rs:Nat→Run}:∀ {n:Nat},Valid rs n→okR (q2s rs n)
  | 0,_=>trivial
  | n+1,h=>by
    rw [x0o]
    refine okR_append.2 ⟨Valid.ok ⟨fun i hi=>h.bd i (by omega),fun i j hij hj=>h.lt i j hij (by omega)⟩,?_,fun r hr s hs=>?_⟩
    · have:=(h.bd n (by omega)).2
      simp [okR];omega
    · simp at hs;subst hs
      obtain ⟨i,hi,rfl⟩:=mem_runsL.1 hr
      exact h.lt i n hi (by omega)
/-! ### The edges of a region -/
def q09 (y x y' x':Int):Prop:=y<y'∨(y=y'∧x≤x')
def q17 (y x y' x':Int):Prop:=y<y'∨(y=y'∧x<x')
instance {y x y' x'}:Decidable (q09 y x y' x'):=by unfold q09;infer_instance
instance {y x y' x'}:Decidable (q17 y x y' x'):=by unfold q17;infer_instance
def eY (rs:Nat→Run) (i:Nat):Int:=(rs (i/2)).y
def eX (rs:Nat→Run) (i:Nat):Int:=if i%2=0 then (rs (i/2)).x0 else (rs (i/2)).x1
theorem z4u {rs:Nat→Run} {n:Nat} (h:Valid rs n) {i j:Nat} (hij:i<j) (hj:j<2*n):q17 (eY rs i) (eX rs i) (eY rs j) (eX rs j):=by
  unfold q17 eY eX
  have b1:=h.bd (i/2) (by omega)
  have b2:=h.bd (j/2) (by omega)
  rcases Nat.lt_or_ge (i/2) (j/2) with h1 |h1
  · have:=h.lt (i/2) (j/2) h1 (by omega)
    split <;> split <;> omega
  · have e:i/2=j/2:=by omega
    rw [← e]
    have h2:i%2=0:=by omega
    have h3:¬ j%2=0:=by omega
    rw [if_pos h2,if_neg h3]
    omega
theorem q81 {rs:Nat→Run} {n:Nat} (h:Valid rs n) {i:Nat} (hi:i≤2*n) {x y:Int} (h1:∀ k,k<i→q09 (eY rs k) (eX rs k) y x) (h2:∀ k,i≤k→k<2*n→q17 y x (eY rs k) (eX rs k)) :
    hasR (q2s rs n) x y↔i%2=1:=by
  rw [q4m]
  constructor
  · rintro ⟨q,hq,h3,h4,h5⟩
    have g1:¬ i≤2*q:=fun hle=>by
      have:=h2 (2*q) hle (by omega)
      unfold q17 eY eX at this
      rw [show 2*q/2=q by omega,if_pos (by omega)] at this
      omega
    have g2:¬ 2*q+1<i:=fun hle=>by
      have:=h1 (2*q+1) hle
      unfold q09 eY eX at this
      rw [show (2*q+1)/2=q by omega,if_neg (by omega)] at this
      omega
    omega
  · intro ho
    refine ⟨i/2,by omega,?_⟩
    have g1:=h1 (i-1) (by omega)
    have g2:=h2 i (Nat.le_refl _) (by omega)
    unfold q09 eY eX at g1
    unfold q17 eY eX at g2
    rw [show (i-1)/2=i/2 by omega,if_pos (by omega)] at g1
    rw [if_neg (by omega)] at g2
    omega
end Go.Proofs.Ytbkhpddodmbdoaa
