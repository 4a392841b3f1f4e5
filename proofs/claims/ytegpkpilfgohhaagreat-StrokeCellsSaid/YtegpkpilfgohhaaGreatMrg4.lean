/-
  Merged: XRuns, XRecs, XFlat.
-/
import Derived.WalkKit
import Derived.Test.YtegpkpilfgohhaaGreatMrg3
set_option linter.unusedVariables false
set_option linter.unusedSimpArgs false
set_option linter.unnecessarySimpa false
namespace Go.Proofs.YtegpkpilfgohhaaGreat
open Go.RowKit Go.ChangeShapes Go.WideShapes Go.Deep
structure Run where
  y:Int
  x0:Int
  x1:Int
def RunsAt (w:World) (A:Option Addr) (n:Nat) (rs:Nat→Run):Prop :=
  0<n→∃ b off,A=some ⟨b,off,none⟩∧b<w.heap.size∧∀ i,i<n→w.cell? ⟨b,off+i*3,none⟩=some (.int .i64 (rs i).y)∧w.cell? ⟨b,off+i*3+1,none⟩=some (.int .i64 (rs i).x0)∧w.cell? ⟨b,off+i*3+2,none⟩=some (.int .i64 (rs i).x1)
theorem RunsAt.below {w w':World} {A:Option Addr} {n:Nat} {rs:Nat→Run} (h:RunsAt w A n rs) (hb:Below w.heap.size w w'):RunsAt w' A n rs:=by
  intro hn
  obtain ⟨b,off,hA,hlt,hc⟩:=h hn
  refine ⟨b,off,hA,Nat.lt_of_lt_of_le hlt hb.size,fun i hi=>?_⟩
  obtain ⟨h1,h2,h3⟩:=hc i hi
  exact ⟨(hb.cell (p:=⟨b,_,none⟩) hlt).trans h1,(hb.cell (p:=⟨b,_,none⟩) hlt).trans h2,(hb.cell (p:=⟨b,_,none⟩) hlt).trans h3⟩
def q52 (rs:Nat→Run) (k:Nat):Int :=
  if (rs k).y < -8192∨8191<(rs k).y∨(rs k).x0 < -8192∨8192<(rs k).x0∨(rs k).x1 < -8192∨8192<(rs k).x1 then 3
  else if (rs k).x1≤(rs k).x0 then 4
  else if 0<k∧(rs k).y≤(rs (k-1)).y∧((rs k).y<(rs (k-1)).y∨(rs k).x0≤(rs (k-1)).x1) then 18 else 0
def regV (rs:Nat→Run):Nat→Int
  | 0=>0
  | n+1=>if regV rs n≠0 then regV rs n else q52 rs n
theorem x3v {rs:Nat→Run} {k:Nat} (h0:regV rs k=0) (h:q52 rs k≠0):∀ {n:Nat},k<n→regV rs n=q52 rs k:=by
  intro n hn
  induction n with
  | zero=>omega
  | succ n ih =>
    unfold regV
    by_cases hk:k<n
    · rw [if_pos (by rw [ih hk];exact h),ih hk]
    · have:k=n:=by omega
      subst this
      rw [if_neg (by simp [h0])]
theorem x49 {rs:Nat→Run} {k:Nat} (h0:regV rs k=0) (h:q52 rs k=0):regV rs (k+1)=0:=by
  unfold regV;rw [if_neg (by simp [h0]),h]
section
variable {H:Type} {enc:TypeId × Value→H} {P:Program} {w:World} {base b0:Nat} {spare:Nat→Bool} {held:Bool} {r:Reach} {v:Value} {d:DataW H} {ps:List MemPlace}
theorem z5s {w:World} {a:Addr} {v:Value} (h:w.cell? a=some v):a=⟨a.block,a.off,none⟩∧a.block<w.heap.size:=by
  have hs:=World.cell?_spot h
  refine ⟨by cases a;simp at hs;simp [hs],?_⟩
  rcases Nat.lt_or_ge a.block w.heap.size with h' |h'
  · exact h'
  · unfold World.cell? at h;rw [Array.getElem?_eq_none h'] at h;simp at h
theorem x5a (b off i:Nat):(⟨b,off,none⟩:Addr).add i=⟨b,off+i,none⟩:=by
  unfold Addr.add
  split
  · rename_i h;subst h;rfl
  · rfl
end
end Go.Proofs.YtegpkpilfgohhaaGreat
namespace Go.Proofs.YtegpkpilfgohhaaGreat
open Go.RowKit Go.ChangeShapes Go.WideShapes Go.Deep
def RecsAt (i:IntKind) (w:World) (A:Option Addr) (n k:Nat) (f:Nat→Nat→Int):Prop :=
  0<n→∃ b off,A=some ⟨b,off,none⟩∧b<w.heap.size∧∀ x,x<n→∀ j,j<k→w.cell? ⟨b,off+x*k+j,none⟩=some (.int i (f x j))
theorem RecsAt.below {i:IntKind} {w w':World} {A:Option Addr} {n k:Nat} {f:Nat→Nat→Int} (h:RecsAt i w A n k f) (hb:Below w.heap.size w w'):RecsAt i w' A n k f:=by
  intro hn
  obtain ⟨b,off,hA,hlt,hc⟩:=h hn
  exact ⟨b,off,hA,Nat.lt_of_lt_of_le hlt hb.size,fun x hx j hj=>(hb.cell (p:=⟨b,_,none⟩) hlt).trans (hc x hx j hj)⟩
section
variable {H:Type} {enc:TypeId × Value→H} {P:Program} {w:World} {base b0:Nat} {spare:Nat→Bool} {held:Bool} {r:Reach} {v:Value} {d:DataW H} {ps:List MemPlace}
end
end Go.Proofs.YtegpkpilfgohhaaGreat
namespace Go.Proofs.YtegpkpilfgohhaaGreat
open Go.RowKit Go.ChangeShapes Go.WideShapes Go.Deep
def All2 {α β:Type} (R:α→β→Prop):List α→List β→Prop
  | [],[]=>True
  | a::l,b::m=>R a b∧All2 R l m
  | _,_=>False
theorem All2.cons {α β:Type} {R:α→β→Prop} {a:α} {l:List α} {cs:List β} (h:All2 R (a::l) cs):∃ c cs',cs=c::cs'∧R a c∧All2 R l cs':=by
  cases cs with
  | nil=>exact h.elim
  | cons c cs'=>exact ⟨c,cs',rfl,h.1,h.2⟩
theorem All2.nil {α β:Type} {R:α→β→Prop} {cs:List β} (h:All2 R [] cs):cs=[]:=by
  cases cs with
  | nil=>rfl
  | cons c cs'=>exact h.elim
theorem All2.append {α β:Type} {R:α→β→Prop}:∀ {l1 l2:List α} {c1 c2:List β},All2 R l1 c1→All2 R l2 c2→All2 R (l1++l2) (c1++c2)
  | [],_,[],_,_,h=>h
  | _::_,_,_::_,_,h1,h2=>⟨h1.1,All2.append h1.2 h2⟩
  | [],_,_::_,_,h1,_=>h1.elim
  | _::_,_,[],_,h1,_=>h1.elim
theorem All2.length {α β:Type} {R:α→β→Prop}:∀ {l:List α} {c:List β},All2 R l c→l.length=c.length
  | [],[],_=>rfl
  | _::_,_::_,h=>by simp [All2.length h.2]
  | [],_::_,h=>h.elim
  | _::_,[],h=>h.elim
theorem All2.get {α β:Type} {R:α→β→Prop}:∀ {l:List α} {c:List β},All2 R l c→∀ {i:Nat} {a:α},l[i]? = some a→∃ b,c[i]? = some b∧R a b
  | [],_,_,_,_,h=>by simp at h
  | _::_,[],h,_,_,_=>h.elim
  | a::l,b::c,h,0,a',hi=>by simp at hi;subst hi;exact ⟨b,rfl,h.1⟩
  | a::l,b::c,h,i+1,a',hi=>by
    obtain ⟨b',h1,h2⟩:=All2.get h.2 (i:=i) (by simpa using hi)
    exact ⟨b',by simpa using h1,h2⟩
inductive Scal where
  | int (k:IntKind)
  | bool
  | string
  | slice (t:TypeId)
  | other
def flat (P:Program):Nat→TypeId→List Scal
  | 0,_=>[]
  | n+1,t=>match P.underlying t with
    | some (.int k)=>[.int k]
    | some .bool=>[.bool]
    | some .string=>[.string]
    | some (.struct fs)=>fs.toList.flatMap fun f=>flat P n f.type
    | some (.array m e)=>(List.replicate m (flat P n e)).flatten
    | some (.slice _)=>[.slice t]
    | _=>[.other]
def q8n (P:Program) (n:Nat) (ok:TypeId→Bool):Nat→List Field→Bool
  | _,[]=>true
  | o,f::l=>f.offset==o&&P.cellsOf f.type==(flat P n f.type).length&&ok f.type&&q8n P n ok (o+(flat P n f.type).length) l
def q3y (P:Program):Nat→TypeId→Bool
  | 0,_=>false
  | n+1,t=>match P.underlying t with
    | some (.struct fs)=>q8n P n (q3y P n) 0 fs.toList&&P.cellsOf t==(flat P (n+1) t).length
    | some (.array m e)=>q3y P n e&&P.cellsOf e==(flat P n e).length&&P.cellsOf t==m*(flat P n e).length
    | some (.int _)=>true
    | some .bool=>true
    | some .string=>true
    | some (.slice _)=>true
    | _=>false
def SeesC (P:Program) (w:World):Scal→Value→Prop
  | .int k,c=>∃ a,c=.int k a∧(Lit.int k a).wf=true
  | .bool,c=>∃ b,c=.bool b
  | .string,c=>∃ s,c=.string s∧s.size≤maxLen
  | .slice t,c=>∃ m,Sees P w m t [c]
  | .other,_=>True
section
variable {P:Program} {w:World}
theorem z37 {n:Nat} {m:Nat} {cs:List Value} (ih:∀ (t:TypeId) (cs:List Value),q3y P n t=true→Sees P w m t cs→All2 (SeesC P w) (flat P n t) cs) :
    ∀ (l:List Field) (o:Nat),q8n P n (q3y P n) o l=true→cs.length=o+(l.flatMap fun f=>flat P n f.type).length →
      (∀ f∈l,Sees P w m f.type ((cs.drop f.offset).take (P.cellsOf f.type)))→All2 (SeesC P w) (l.flatMap fun f=>flat P n f.type) (cs.drop o)
  | [],o,_,hl,_=>by
    have:cs.drop o=[]:=List.drop_eq_nil_of_le (by simp at hl;omega)
    rw [this];trivial
  | f::l,o,hok,hl,hs=>by
    simp only [q8n,Bool.and_eq_true,beq_iff_eq] at hok
    obtain ⟨⟨⟨h1,h2⟩,h3⟩,h4⟩:=hok
    rw [List.flatMap_cons] at hl ⊢
    rw [List.length_append] at hl
    have hf:=ih f.type _ h3 (hs f (List.mem_cons_self ..))
    rw [h1,h2] at hf
    have hr:=z37 (cs:=cs) ih l (o+(flat P n f.type).length) h4 (by omega) (fun g hg=>hs g (List.mem_cons_of_mem _ hg))
    have:=hf.append hr
    rw [← List.drop_drop,List.take_append_drop] at this
    exact this
theorem z5t {n m:Nat} {e:TypeId} {cs:List Value} (ih:∀ (t:TypeId) (cs:List Value),q3y P n t=true→Sees P w m t cs→All2 (SeesC P w) (flat P n t) cs) (hok:q3y P n e=true) (hc:P.cellsOf e=(flat P n e).length) :
    ∀ (k i:Nat),cs.length=(i+k)*(flat P n e).length→(∀ j,j<i+k→Sees P w m e ((cs.drop (j*P.cellsOf e)).take (P.cellsOf e))) →
      All2 (SeesC P w) (List.replicate k (flat P n e)).flatten (cs.drop (i*(flat P n e).length))
  | 0,i,hl,_=>by
    have:cs.drop (i*(flat P n e).length)=[]:=List.drop_eq_nil_of_le (by simp at hl;omega)
    rw [this];trivial
  | k+1,i,hl,hs=>by
    have hf:=ih e _ hok (hs i (by omega))
    rw [hc] at hf
    have hr:=z5t (cs:=cs) ih hok hc k (i+1) (by rw [hl];congr 1;omega) (fun j hj=>hs j (by omega))
    have:=hf.append hr
    rw [List.replicate_succ,List.flatten_cons]
    rw [show (i+1)*(flat P n e).length=i*(flat P n e).length+(flat P n e).length by rw [Nat.add_mul];omega,← List.drop_drop,List.take_append_drop] at this
    exact this
theorem q9w:∀ (n m:Nat) (t:TypeId) (cs:List Value),q3y P n t=true→Sees P w m t cs→All2 (SeesC P w) (flat P n t) cs
  | 0,_,_,_,h,_=>by simp [q3y] at h
  | n+1,m,t,cs,hok,hs=>by
    unfold flat
    unfold q3y at hok
    split
    · rename_i k ht;obtain ⟨a,rfl,hw⟩:=hs.int ht;exact ⟨⟨a,rfl,hw⟩,trivial⟩
    · rename_i ht;obtain ⟨b,rfl⟩:=hs.bool ht;exact ⟨⟨b,rfl⟩,trivial⟩
    · rename_i ht;obtain ⟨b,rfl,hb⟩:=hs.string ht;exact ⟨⟨b,rfl,hb⟩,trivial⟩
    · rename_i fs ht
      rw [ht] at hok
      simp only [Bool.and_eq_true,beq_iff_eq] at hok
      obtain ⟨h1,h2⟩:=hok
      rw [show flat P (n+1) t=fs.toList.flatMap fun f=>flat P n f.type by rw [flat,ht]] at h2
      obtain ⟨hl,k,hk⟩:=hs.struct ht
      have:=z37 (cs:=cs) (fun t cs h h'=>q9w n k t cs h h') fs.toList 0 h1 (by omega) (fun f hf=>by
        obtain ⟨i,hi⟩:=List.mem_iff_getElem?.1 hf
        exact hk i f (by simpa using hi))
      simpa using this
    · rename_i k e ht
      rw [ht] at hok
      simp only [Bool.and_eq_true,beq_iff_eq] at hok
      obtain ⟨⟨h1,h2⟩,h3⟩:=hok
      obtain ⟨hl,q,hq⟩:=hs.array ht
      have:=z5t (cs:=cs) (fun t cs h h'=>q9w n q t cs h h') h1 h2 k 0 (by rw [hl,h3];simp) (fun j hj=>hq j (by omega))
      simpa using this
    · rename_i e ht
      have:∃ c,cs=[c]:=by
        rcases hs.slice ht with h |⟨a,len,cap,h,_⟩
        · exact ⟨_,h⟩
        · exact ⟨_,h⟩
      obtain ⟨c,rfl⟩:=this
      exact ⟨⟨m,hs⟩,trivial⟩
    · rename_i h1 h2 h3 h4 h5 h6
      split at hok
      all_goals simp_all
theorem Sees.below {w':World} (hb:Below w.heap.size w w'):∀ (n:Nat) (t:TypeId) (cs:List Value),Sees P w n t cs→Sees P w' n t cs
  | 0,_,_,h=>h.elim
  | n+1,t,cs,h=>by
    unfold Sees at h ⊢
    split <;> first |(rename_i ht;rw [ht] at h;simp only at h) |skip
    · exact h
    · exact h
    · exact h
    · exact ⟨h.1,fun i f hi=>Sees.below hb n _ _ (h.2 i f hi)⟩
    · exact ⟨h.1,fun i hi=>Sees.below hb n _ _ (h.2 i hi)⟩
    · rcases h with h |⟨a,len,cap,h1,h2,h3,h4⟩
      · exact .inl h
      · refine .inr ⟨a,len,cap,h1,h2,h3,fun i hi=>?_⟩
        obtain ⟨cs',hl,hc,hs⟩:=h4 i hi
        refine ⟨cs',hl,fun j hj=>?_,Sees.below hb n _ _ hs⟩
        have hj':cs'[j]? = some cs'[j]:=List.getElem?_eq_getElem (by omega)
        have h5:=hc j hj
        rw [hj'] at h5 ⊢
        exact (hb.cell (z5s h5).2).trans h5
    · trivial
theorem SeesC.below {w':World} (hb:Below w.heap.size w w') {s:Scal} {c:Value} (h:SeesC P w s c):SeesC P w' s c:=by
  cases s with
  | slice t=>obtain ⟨m,hm⟩:=h;exact ⟨m,Sees.below hb m t _ hm⟩
  | int k=>exact h
  | bool=>exact h
  | string=>exact h
  | other=>trivial
theorem All2.mono {α β:Type} {R S:α→β→Prop} (hRS:∀ a b,R a b→S a b):∀ {l:List α} {c:List β},All2 R l c→All2 S l c
  | [],[],_=>trivial
  | _::_,_::_,h=>⟨hRS _ _ h.1,All2.mono hRS h.2⟩
  | [],_::_,h=>h.elim
  | _::_,[],h=>h.elim
def SliceG (P:Program) (w:World) (e:TypeId) (A:Option Addr) (n:Nat) (g:Nat→Nat→Value):Prop :=
  0<n→∃ b off,A=some ⟨b,off,none⟩∧b<w.heap.size∧∀ x,x<n→(∀ j,j<P.cellsOf e→w.cell? ⟨b,off+x*P.cellsOf e+j,none⟩=some (g x j))∧∃ m,Sees P w m e ((List.range (P.cellsOf e)).map (g x))
theorem SliceG.below {w':World} {e:TypeId} {A:Option Addr} {n:Nat} {g:Nat→Nat→Value} (h:SliceG P w e A n g) (hb:Below w.heap.size w w'):SliceG P w' e A n g:=by
  intro hn
  obtain ⟨b,off,hA,hlt,hc⟩:=h hn
  refine ⟨b,off,hA,Nat.lt_of_lt_of_le hlt hb.size,fun x hx=>⟨fun j hj=>(hb.cell (p:=⟨b,_,none⟩) hlt).trans ((hc x hx).1 j hj),?_⟩⟩
  obtain ⟨m,hm⟩:=(hc x hx).2
  exact ⟨m,Sees.below hb m _ _ hm⟩
def valI:Value→Int
  | .int _ a=>a
  | _=>0
def valB:Value→Bool
  | .bool b=>b
  | _=>false
theorem SliceG.seen {e:TypeId} {A:Option Addr} {n:Nat} {g:Nat→Nat→Value} (h:SliceG P w e A n g) (hok:q3y P 20 e=true) {x:Nat} (hx:x<n) {j:Nat} {s:Scal} (hj:(flat P 20 e)[j]? = some s):SeesC P w s (g x j):=by
  obtain ⟨b,off,_,_,hc⟩:=h (by omega)
  obtain ⟨m,hm⟩:=(hc x hx).2
  obtain ⟨c,h1,h2⟩:=(q9w 20 m e _ hok hm).get hj
  rw [List.getElem?_map] at h1
  by_cases hjl:j<P.cellsOf e
  · rw [List.getElem?_range hjl] at h1
    simp at h1;subst h1;exact h2
  · rw [List.getElem?_eq_none (by simp;omega)] at h1
    simp at h1
theorem SliceG.int {e:TypeId} {A:Option Addr} {n:Nat} {g:Nat→Nat→Value} (h:SliceG P w e A n g) (hok:q3y P 20 e=true) {x:Nat} (hx:x<n) {j:Nat} {k:IntKind} (hj:(flat P 20 e)[j]? = some (.int k)):g x j=.int k (valI (g x j))∧(Lit.int k (valI (g x j))).wf=true:=by
  obtain ⟨a,ha,hw⟩:=h.seen hok hx hj
  rw [ha];exact ⟨rfl,hw⟩
theorem SliceG.bool {e:TypeId} {A:Option Addr} {n:Nat} {g:Nat→Nat→Value} (h:SliceG P w e A n g) (hok:q3y P 20 e=true) {x:Nat} (hx:x<n) {j:Nat} (hj:(flat P 20 e)[j]? = some .bool):g x j=.bool (valB (g x j)):=by
  obtain ⟨a,ha⟩:=h.seen hok hx hj
  rw [ha];rfl
theorem z5u {m:Nat} {t e:TypeId} {c:Value} (ht:P.underlying t=some (.slice e)) (h0:0<P.cellsOf e) (h:Sees P w m t [c]) :
    ∃ (A:Option Addr) (n cap:Nat) (g:Nat→Nat→Value),c=.slice A n cap∧n≤cap∧cap≤maxLen∧SliceG P w e A n g:=by
  rcases h.slice ht with hnil |⟨a,len,cap,hcs,h1,h2,k,hk⟩
  · simp at hnil
    exact ⟨none,0,0,fun _ _=>undef,hnil,by omega,by simp [maxLen],fun h=>absurd h (by omega)⟩
  · simp at hcs
    subst hcs
    have key:∀ x,x<len→∃ g:Nat→Value,(∀ j,j<P.cellsOf e→w.cell? (a.add (x*P.cellsOf e+j))=some (g j))∧Sees P w k e ((List.range (P.cellsOf e)).map g):=by
      intro x hx
      obtain ⟨cs,hl,hc,hse⟩:=hk x hx
      refine ⟨fun j=>cs.getD j undef,fun j hj=>?_,?_⟩
      · rw [hc j hj];simp [List.getD_eq_getElem?_getD,show j<cs.length by omega]
      · have:(List.range (P.cellsOf e)).map (fun j=>cs.getD j undef)=cs:=by
          apply List.ext_getElem?
          intro j
          rw [List.getElem?_map]
          by_cases hj:j<cs.length
          · rw [List.getElem?_range (by omega)];simp [List.getD_eq_getElem?_getD,hj]
          · rw [List.getElem?_eq_none (by simp;omega),List.getElem?_eq_none (by omega)];rfl
        rw [this];exact hse
    have:Inhabited (Nat→Value):=⟨fun _=>undef⟩
    obtain ⟨g,hg⟩:=choose_lt key
    refine ⟨some a,len,cap,g,rfl,h1,h2,fun hn=>?_⟩
    have h00:=(hg 0 hn).1 0 h0
    rw [Nat.zero_mul,Nat.add_zero,show a.add 0=a by simp [Addr.add]] at h00
    obtain ⟨q1,q2⟩:=z5s h00
    refine ⟨a.block,a.off,by rw [← q1],q2,fun x hx=>⟨fun j hj=>?_,k,(hg x hx).2⟩⟩
    have c:=(hg x hx).1 j hj
    rw [q1,x5a] at c
    rw [Nat.add_assoc];exact c
end
section
variable {H:Type} {enc:TypeId × Value→H} {P:Program} {w:World} {base b0:Nat} {spare:Nat→Bool} {held:Bool} {r:Reach} {v:Value} {d:DataW H} {ps:List MemPlace}
theorem v0d (n:Nat) {t:TypeId} {fs:Array Field} {l:List Scal} (ht:P.underlying t=some (.struct fs)) (hok:q3y P n t=true) (hl:flat P n t=l) (hv:Value.okWide P w r b0 t v) (h:DataW.Trod enc P w base spare held t v d ps) :
    ∃ cs:List Value,v=.agg cs.toArray∧All2 (SeesC P w) l cs:=by
  obtain ⟨cs,rfl,_⟩:=okWide_struct ht hv
  obtain ⟨m,hs⟩:=z2p h
  subst hl
  exact ⟨cs.toList,rfl,q9w n m t _ hok hs⟩
theorem x94 {t e:TypeId} (ht:P.underlying t=some (.slice e)) (h0:0<P.cellsOf e) (hv:Value.okWide P w r b0 t v) (h:DataW.Trod enc P w base spare held t v d ps) :
    ∃ (A:Option Addr) (n cap:Nat) (g:Nat→Nat→Value),v=.slice A n cap∧n≤cap∧cap≤maxLen∧SliceG P w e A n g:=by
  obtain ⟨A,n,cap,rfl⟩:=okWide_slice ht hv
  obtain ⟨m,hs⟩:=z2p h
  exact z5u ht h0 (by simpa [Value.cells] using hs)
end
end Go.Proofs.YtegpkpilfgohhaaGreat
