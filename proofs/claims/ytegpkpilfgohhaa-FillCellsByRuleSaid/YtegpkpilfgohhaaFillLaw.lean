/-
  The cells of lines by a rule: what a scan with active edges keeps, row by row. No program in sight.
-/
import Derived.Test.YtegpkpilfgohhaaWindLaw
import Derived.Test.YtegpkpilfgohhaaRegSweep
import Derived.Test.YtegpkpilfgohhaaStabLaw
set_option linter.unusedVariables false
set_option linter.unusedSimpArgs false
set_option linter.unnecessarySimpa false
namespace Go.Proofs.Ytegpkpilfgohhaa
def selB (odd:Bool) (n:Int):Bool:=if odd=true then decide (¬ n%2=0) else decide (¬ n=0)
theorem z77 (odd:Bool):selB odd 0=false:=by cases odd <;> rfl
def q6s (sel:Int→Bool) (C:List Cr) (u:Int):Prop:=(∃ c∈C,c.x≤u)∧(∃ c∈C,u<c.x)∧sel (sumC u C)=true
def q5u (sel:Int→Bool) (E:List Edge) (u v:Int):Prop:=(-8192≤u∧u≤8191)∧(-8192≤v∧v≤8191)∧q6s sel (q0g v E) u
theorem z1b {sel:Int→Bool} {C D:List Cr} (h:C.Perm D) {u:Int}:q6s sel C u↔q6s sel D u:=by
  unfold q6s
  rw [z20 h]
  exact ⟨fun ⟨⟨c,h1,h2⟩,⟨d,h3,h4⟩,h5⟩=>⟨⟨c,h.mem_iff.1 h1,h2⟩,⟨d,h.mem_iff.1 h3,h4⟩,h5⟩,fun ⟨⟨c,h1,h2⟩,⟨d,h3,h4⟩,h5⟩=>⟨⟨c,h.mem_iff.2 h1,h2⟩,⟨d,h.mem_iff.2 h3,h4⟩,h5⟩⟩
theorem q80 {sel:Int→Bool} {u:Int}:¬ q6s sel [] u:=fun ⟨⟨c,h,_⟩,_⟩=>by cases h
def sgS:List Cr→Int
  | []=>0
  | c::l=>c.s+sgS l
theorem z1c:∀ (l m:List Cr),sgS (l++m)=sgS l+sgS m
  | [],m=>by simp [sgS]
  | c::l,m=>by rw [List.cons_append,sgS,sgS,z1c l m];omega
theorem z78:∀ {l:List Cr},(∀ c∈l,c.s=1∨c.s=-1)→-(l.length:Int)≤sgS l∧sgS l≤(l.length:Int)
  | [],_=>by simp [sgS]
  | c::l,h=>by
    have h1:=z78 (l:=l) (fun q hq=>h q (by simp [hq]))
    have h2:=h c (by simp)
    rw [sgS,List.length_cons];omega
theorem z4y {u:Int}:∀ {l:List Cr},(∀ c∈l,c.x≤u)→sumC u l=sgS l
  | [],_=>rfl
  | c::l,h=>by rw [sumC,sgS,z4y (fun q hq=>h q (by simp [hq])),if_pos (h c (by simp))]
def srtC (C:List Cr):Prop:=∀ (i j:Nat) c d,i<j→C[i]? = some c→C[j]? = some d→c.x≤d.x
theorem q97 {α:Type} {l:List α} {k:Nat} {c:α} (h:c∈l.take k):∃ j,j<k∧l[j]? = some c:=by
  obtain ⟨j,hj⟩:=List.mem_iff_getElem?.1 h
  rw [List.getElem?_take] at hj
  split at hj
  · exact ⟨j,by assumption,hj⟩
  · cases hj
theorem z83 {α:Type} {l:List α} {k j:Nat} {c:α} (h:j<k) (hj:l[j]? = some c):c∈l.take k :=
  List.mem_iff_getElem?.2 ⟨j,by rw [List.getElem?_take,if_pos h];exact hj⟩
theorem z79 {C:List Cr} (hs:srtC C) {k:Nat} {u:Int} (h1:∀ (j:Nat) c,j<k→C[j]? = some c→c.x≤u) (h2:∀ c,C[k]? = some c→u<c.x):sumC u C=sgS (C.take k):=by
  conv=>lhs;rw [← List.take_append_drop k C]
  rw [q2s,q8x (l:=C.drop k),z4y,Int.add_zero]
  · intro c hc
    obtain ⟨j,hj,hc⟩:=q97 hc
    exact h1 j c hj hc
  · intro c hc
    obtain ⟨j,hj⟩:=List.mem_iff_getElem?.1 hc
    rw [List.getElem?_drop] at hj
    rcases Nat.eq_zero_or_pos j with h |h
    · subst h;exact h2 c hj
    · have hk:k<C.length:=by have:=(List.getElem?_eq_some_iff.1 hj).1;omega
      have:=h2 _ (List.getElem?_eq_getElem hk)
      have:=hs k (k+j) _ c (by omega) (List.getElem?_eq_getElem hk) hj
      omega
structure SpanAt (sel:Int→Bool) (C:List Cr) (y:Int) (R0 R:List Run) (k:Nat) (n f:Int):Prop where
  le:k≤C.length
  n_:n=sgS (C.take k)
  f_:∀ (j:Nat) c,k=j+1→C[j]? = some c→f=c.x
  ok:okR R
  up:upTo R y (if k=0 then -8192 else max f (-8192))
  has:∀ u v,hasR R u v↔hasR R0 u v∨(v=y∧(-8192≤u∧u≤8191)∧(∃ c∈C.take k,c.x≤u)∧(∃ c∈C.take k,u<c.x)∧sel (sumC u C)=true)
  len:R.length≤R0.length+k
theorem z5j (L:List Run) (y a b:Int):(addR L y a b).length≤L.length+1:=by
  unfold addR
  split
  · omega
  · split
    · split
      · simp
      · simp
    · simp
section
variable {sel:Int→Bool} {C:List Cr} {y:Int} {R0 R:List Run}
theorem SpanAt.start (h:okR R0) (hu:upTo R0 y (-8192)):SpanAt sel C y R0 R0 0 0 0 :=
  ⟨Nat.zero_le _,rfl,fun j c h=>by omega,h,by rw [if_pos rfl];exact hu,fun u v=>⟨.inl,fun h=>by
    rcases h with h |⟨_,_,⟨c,hc,_⟩,_⟩
    · exact h
    · simp at hc⟩,by omega⟩
theorem SpanAt.next {k:Nat} {n f:Int} {c:Cr} (h0:sel 0=false) (hs:srtC C) (h:SpanAt sel C y R0 R k n f) (hc:C[k]? = some c) :
    SpanAt sel C y R0 (if sel n=true then addR R y (max f (-8192)) (min c.x 8192) else R) (k+1) (n+c.s) c.x:=by
  obtain ⟨h1,h2,h3,h4,h5,h6,h7⟩:=h
  have hk:=(List.getElem?_eq_some_iff.1 hc).1
  have htk:C.take (k+1)=C.take k++[c]:=by rw [List.take_add_one,hc];rfl
  have hn:n+c.s=sgS (C.take (k+1)):=by rw [htk,z1c,← h2];simp [sgS]
  have hfc:∀ (j:Nat) d,k+1=j+1→C[j]? = some d→c.x=d.x:=fun j d e hd=>by
    obtain rfl:j=k:=by omega
    rw [hc] at hd;cases hd;rfl
  rcases Nat.eq_zero_or_pos k with e |e
  · subst e
    have hn0:n=0:=by rw [h2];simp [sgS]
    rw [hn0,h0,if_neg (by simp)]
    rw [hn0] at hn
    rw [if_pos rfl] at h5
    refine ⟨by omega,hn,hfc,h4,by rw [if_neg (by omega)];exact q38 h5 (.inr ⟨rfl,by omega⟩),fun u v=>?_,by omega⟩
    rw [h6 u v]
    constructor
    · rintro (h |⟨_,_,⟨d,hd,_⟩,_⟩)
      · exact .inl h
      · simp at hd
    · rintro (h |⟨_,_,⟨d,hd,hd'⟩,⟨d',hd2,hd2'⟩,_⟩)
      · exact .inl h
      · rw [htk] at hd hd2
        simp at hd hd2
        subst hd;subst hd2;omega
  · obtain ⟨j,rfl⟩:∃ j,k=j+1:=⟨k-1,by omega⟩
    obtain ⟨p,hp⟩:∃ p,C[j]? = some p:=⟨C[j]'(by omega),List.getElem?_eq_getElem _⟩
    have hf:=h3 j p rfl hp
    subst hf
    rw [if_neg (by omega)] at h5
    have hpc:p.x≤c.x:=hs j (j+1) p c (by omega) hp hc
    have hall:∀ (i:Nat) d,i<j+1→C[i]? = some d→d.x≤p.x:=fun i d hi hd=>by
      rcases Nat.lt_or_ge i j with hi' |hi'
      · exact hs i j d p hi' hd hp
      · obtain rfl:i=j:=by omega
        rw [hp] at hd;cases hd;exact Int.le_refl _
    have hpm:p∈C.take (j+1):=z83 (by omega) hp
    have key:∀ u v,(hasR R u v∨(sel n=true∧v=y∧max p.x (-8192)≤u∧u<min c.x 8192))↔hasR R0 u v∨(v=y∧(-8192≤u∧u≤8191)∧(∃ c∈C.take (j+1+1),c.x≤u)∧(∃ c∈C.take (j+1+1),u<c.x)∧sel (sumC u C)=true):=fun u v=>by
      rw [h6 u v,htk]
      have hsum:p.x≤u→u<c.x→sumC u C=n:=fun g1 g2=>by
        rw [z79 hs (k:=j+1) (fun i d hi hd=>Int.le_trans (hall i d hi hd) g1) (fun d hd=>by rw [hc] at hd;cases hd;exact g2),h2]
      constructor
      · rintro ((h |⟨g1,g2,⟨d,hd,hd'⟩,⟨d2,hd2,hd2'⟩,g3⟩) |⟨g1,g2,g3,g4⟩)
        · exact .inl h
        · exact .inr ⟨g1,g2,⟨d,List.mem_append.2 (.inl hd),hd'⟩,⟨d2,List.mem_append.2 (.inl hd2),hd2'⟩,g3⟩
        · exact .inr ⟨g2,by omega,⟨p,List.mem_append.2 (.inl hpm),by omega⟩,⟨c,by simp,by omega⟩,by rw [hsum (by omega) (by omega)];exact g1⟩
      · rintro (h |⟨g1,g2,⟨d,hd,hd'⟩,⟨d2,hd2,hd2'⟩,g3⟩)
        · exact .inl (.inl h)
        · rcases Int.lt_or_le u p.x with g4 |g4
          · refine .inl (.inr ⟨g1,g2,⟨d,?_,hd'⟩,⟨p,hpm,g4⟩,g3⟩)
            rcases List.mem_append.1 hd with hd |hd
            · exact hd
            · simp at hd;subst hd;omega
          · have g5:u<c.x:=by
              rcases List.mem_append.1 hd2 with hd2 |hd2
              · obtain ⟨i,hi,hd2⟩:=q97 hd2
                have:=hall i d2 hi hd2
                omega
              · simp at hd2;subst hd2;exact hd2'
            exact .inr ⟨by rw [← hsum g4 g5];exact g3,g1,by omega,by omega⟩
    by_cases hsel:sel n=true
    · rw [if_pos hsel]
      obtain ⟨a1,a2,a3⟩:=z11 (b:=min c.x 8192) h4 h5
      refine ⟨by omega,hn,hfc,a1,?_,fun u v=>?_,?_⟩
      · rw [if_neg (by omega)]
        by_cases hab:max p.x (-8192)<min c.x 8192
        · exact q38 (a2 hab) (.inr ⟨rfl,by omega⟩)
        · rw [z10 (by omega)];exact q38 h5 (.inr ⟨rfl,by omega⟩)
      · rw [a3 u v,← key u v]
        constructor
        · rintro (h |h)
          · exact .inl h
          · exact .inr ⟨hsel,h⟩
        · rintro (h |h)
          · exact .inl h
          · exact .inr h.2
      · have:=z5j R y (max p.x (-8192)) (min c.x 8192);omega
    · rw [if_neg hsel]
      refine ⟨by omega,hn,hfc,h4,by rw [if_neg (by omega)];exact q38 h5 (.inr ⟨rfl,by omega⟩),fun u v=>?_,by omega⟩
      rw [← key u v]
      constructor
      · exact .inl
      · rintro (h |h)
        · exact h
        · exact absurd h.1 hsel
theorem SpanAt.fin {n f:Int} (h:SpanAt sel C y R0 R C.length n f) (u v:Int):hasR R u v↔hasR R0 u v∨(v=y∧(-8192≤u∧u≤8191)∧q6s sel C u):=by
  rw [h.has u v,List.take_length];rfl
structure ScanAt (sel:Int→Bool) (E:List Edge) (y:Int) (R:List Run):Prop where
  low:-8192≤y
  ok:okR R
  up:upTo R y (-8192)
  has:∀ u v,hasR R u v↔v<y∧q5u sel E u v
theorem ScanAt.start {E:List Edge}:ScanAt sel E (-8192) []:=⟨Int.le_refl _,trivial,(fun r hr=>by cases hr),fun u v=>⟨fun h=>absurd h q3i,fun ⟨h1,_,h2,_⟩=>by omega⟩⟩
theorem ScanAt.next {E:List Edge} {n f:Int} (h0:ScanAt sel E y R0) (hy:y≤8191) (hp:C.Perm (q0g y E)) (h:SpanAt sel C y R0 R C.length n f):ScanAt sel E (y+1) R:=by
  refine ⟨by have:=h0.low;omega,h.ok,fun r hr=>?_,fun u v=>?_⟩
  · have:=h.up r hr;omega
  · rw [h.fin u v,h0.has u v,z1b hp]
    unfold q5u
    have:=h0.low
    constructor
    · rintro (⟨h1,h2,h3,h4⟩ |⟨rfl,h2,h3⟩)
      · exact ⟨by omega,h2,h3,h4⟩
      · exact ⟨by omega,h2,by omega,h3⟩
    · rintro ⟨h1,h2,h3,h4⟩
      by_cases e:v=y
      · subst e;exact .inr ⟨rfl,h2,h4⟩
      · exact .inl ⟨by omega,h2,h3,h4⟩
theorem ScanAt.skip {E:List Edge} {y':Int} (h0:ScanAt sel E y R0) (hy:y≤y') (h:∀ v,y≤v→v<y'→q0g v E=[]):ScanAt sel E y' R0:=by
  refine ⟨by have:=h0.low;omega,h0.ok,fun r hr=>?_,fun u v=>?_⟩
  · have:=h0.up r hr;omega
  · rw [h0.has u v]
    constructor
    · rintro ⟨h1,h2⟩;exact ⟨by omega,h2⟩
    · rintro ⟨h1,h2⟩
      rcases Int.lt_or_le v y with e |e
      · exact ⟨e,h2⟩
      · have:=h2.2.2
        rw [h v e h1] at this
        exact absurd this q80
theorem ScanAt.fin {E:List Edge} (h0:ScanAt sel E y R0) (h:∀ v,y≤v→v≤8191→q0g v E=[]) (u v:Int):hasR R0 u v↔q5u sel E u v:=by
  rw [h0.has u v]
  constructor
  · exact fun h=>h.2
  · intro h2
    rcases Int.lt_or_le v y with e |e
    · exact ⟨e,h2⟩
    · have h3:=h2.2.2
      rw [h v e h2.2.1.2] at h3
      exact absurd h3 q80
end
def actE (E:List Edge) (i:Nat) (y:Int):List Edge:=(E.take i).filter fun e=>decide (y<e.e)
theorem q9r {E:List Edge} {i:Nat} {y y':Int} (h:y'≤y):(actE E i y').filter (fun e=>decide (y<e.e))=actE E i y:=by
  unfold actE
  rw [List.filter_filter]
  apply List.filter_congr
  intro e _
  by_cases h1:y<e.e
  · simp [h1];omega
  · simp [h1]
theorem z8a {E:List Edge} {i:Nat} {y:Int} {e:Edge} (h:E[i]? = some e):actE E (i+1) y=actE E i y++(if y<e.e then [e] else []):=by
  unfold actE
  rw [List.take_add_one,h,List.filter_append]
  congr 1
  by_cases h1:y<e.e <;> simp [h1]
theorem z22 {E:List Edge} {i:Nat} {y y':Int} (h:actE E i y=[]) (hy:y≤y'):actE E i y'=[]:=by
  rw [← q9r hy,h];rfl
theorem z4z {E:List Edge} {i:Nat} {y:Int}:(actE E i y).length≤E.length:=by
  unfold actE
  exact Nat.le_trans (List.length_filter_le _ _) (by rw [List.length_take];omega)
theorem q5k {y:Int}:∀ {l:List Edge},q0g y (l.filter fun e=>decide (y<e.e))=q0g y l
  | []=>rfl
  | e::l=>by
    by_cases h:y<e.e
    · rw [List.filter_cons_of_pos (by simpa using h),q0g,q0g,q5k]
    · rw [List.filter_cons_of_neg (by simpa using h),q0g,q5k,if_neg (by unfold q3b;simp;omega)];rfl
theorem q63 {y:Int}:∀ {l:List Edge},(∀ e∈l,y<e.y∨e.e≤y)→q0g y l=[]
  | [],_=>rfl
  | e::l,h=>by
    have:=h e (by simp)
    rw [q0g,q63 (fun q hq=>h q (by simp [hq])),if_neg (by unfold q3b;simp;omega)];rfl
theorem z1d {E:List Edge} {i:Nat} {y:Int} (h:∀ (j:Nat) e,i≤j→E[j]? = some e→y<e.y):q0g y (actE E i y)=q0g y E:=by
  unfold actE
  rw [q5k]
  conv=>rhs;rw [← List.take_append_drop i E]
  rw [q2b,q63 (l:=E.drop i),List.append_nil]
  intro e he
  obtain ⟨j,hj⟩:=List.mem_iff_getElem?.1 he
  rw [List.getElem?_drop] at hj
  exact .inl (h (i+j) e (by omega) hj)
theorem z1e {E:List Edge} {i:Nat} {y v:Int} (ha:actE E i y=[]) (hv:y≤v) (h:∀ (j:Nat) e,i≤j→E[j]? = some e→v<e.y):q0g v E=[]:=by
  rw [← z1d h,z22 ha hv];rfl
theorem z23 {E:List Edge} (hs:srtK Edge.y E 0 E.length) {i:Nat} {y:Int} (hi:∀ e,E[i]? = some e→y<e.y) (j:Nat) (e:Edge) (hj:i≤j) (he:E[j]? = some e):y<e.y:=by
  have hjl:=(List.getElem?_eq_some_iff.1 he).1
  have h1:=hi _ (z14 (show i<E.length by omega))
  have h2:=hs.at_le (i:=i) (j:=j) (Nat.zero_le _) hj hjl
  have h3:=z14 hjl
  rw [he] at h3
  have h4:=Option.some.inj h3
  rw [h4];omega
structure MovF {α:Type} (p:α→Bool) (l M:List α) (i j:Nat):Prop where
  len:M.length=l.length
  le:i<j∧j≤l.length
  front:M.take i=(l.take j).filter p
  rest:∀ k,j≤k→M[k]? = l[k]?
section
variable {α:Type} {p:α→Bool} {l M:List α} {i j:Nat}
theorem MovF.start {x:α} (hk:∀ (k:Nat) x,k<i→l[k]? = some x→p x=true) (hx:l[i]? = some x) (hp:p x=false):MovF p l l i (i+1):=by
  refine ⟨rfl,⟨by omega,(List.getElem?_eq_some_iff.1 hx).1⟩,?_,fun k _=>rfl⟩
  rw [List.take_add_one,hx,List.filter_append]
  have:(l.take i).filter p=l.take i:=by
    rw [List.filter_eq_self]
    intro y hy
    obtain ⟨k,h1,h2⟩:=q97 hy
    exact hk k y h1 h2
  rw [this];simp [hp]
theorem MovF.drop_ {y:α} (h:MovF p l M i j) (hy:l[j]? = some y) (hp:p y=false):MovF p l M i (j+1):=by
  obtain ⟨h1,h2,h3,h4⟩:=h
  refine ⟨h1,⟨by omega,(List.getElem?_eq_some_iff.1 hy).1⟩,?_,fun k hk=>h4 k (by omega)⟩
  rw [h3,List.take_add_one,hy,List.filter_append];simp [hp]
theorem MovF.keep_ {y:α} (h:MovF p l M i j) (hy:l[j]? = some y) (hp:p y=true):MovF p l (M.set i y) (i+1) (j+1):=by
  obtain ⟨h1,h2,h3,h4⟩:=h
  have hjl:=(List.getElem?_eq_some_iff.1 hy).1
  refine ⟨by simp [h1],⟨by omega,hjl⟩,?_,fun k hk=>?_⟩
  · rw [List.take_add_one,List.take_add_one,hy,List.filter_append,← h3]
    rw [List.take_set_of_le (by omega),List.getElem?_set_self (by omega)];simp [hp]
  · rw [List.getElem?_set_ne (by omega)];exact h4 k (by omega)
end
end Go.Proofs.Ytegpkpilfgohhaa
