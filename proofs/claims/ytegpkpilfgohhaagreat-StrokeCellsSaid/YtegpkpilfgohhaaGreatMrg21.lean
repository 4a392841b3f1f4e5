/-
  Merged: XFillLaw, XFilRef.
-/
import Derived.Test.YtegpkpilfgohhaaGreatMrg20
import Derived.Test.YtegpkpilfgohhaaGreatMrg6
import Derived.Test.YtegpkpilfgohhaaGreatStabLaw
import Derived.Test.YtegpkpilfgohhaaGreatMrg14
set_option linter.unusedVariables false
set_option linter.unusedSimpArgs false
set_option linter.unnecessarySimpa false
namespace Go.Proofs.YtegpkpilfgohhaaGreat
def selB (odd:Bool) (n:Int):Bool:=if odd=true then decide (¬ n%2=0) else decide (¬ n=0)
theorem x52 (odd:Bool):selB odd 0=false:=by cases odd <;> rfl
def q7r (sel:Int→Bool) (C:List Cr) (u:Int):Prop:=(∃ c∈C,c.x≤u)∧(∃ c∈C,u<c.x)∧sel (sumC u C)=true
def q7s (sel:Int→Bool) (E:List Edge) (u v:Int):Prop:=(-8192≤u∧u≤8191)∧(-8192≤v∧v≤8191)∧q7r sel (q0z v E) u
theorem z6f {sel:Int→Bool} {C D:List Cr} (h:C.Perm D) {u:Int}:q7r sel C u↔q7r sel D u:=by
  unfold q7r
  rw [x51 h]
  exact ⟨fun ⟨⟨c,h1,h2⟩,⟨d,h3,h4⟩,h5⟩=>⟨⟨c,h.mem_iff.1 h1,h2⟩,⟨d,h.mem_iff.1 h3,h4⟩,h5⟩,fun ⟨⟨c,h1,h2⟩,⟨d,h3,h4⟩,h5⟩=>⟨⟨c,h.mem_iff.2 h1,h2⟩,⟨d,h.mem_iff.2 h3,h4⟩,h5⟩⟩
theorem z28 {sel:Int→Bool} {u:Int}:¬ q7r sel [] u:=fun ⟨⟨c,h,_⟩,_⟩=>by cases h
def sgS:List Cr→Int
  | []=>0
  | c::l=>c.s+sgS l
theorem q7a:∀ (l m:List Cr),sgS (l++m)=sgS l+sgS m
  | [],m=>by simp [sgS]
  | c::l,m=>by rw [List.cons_append,sgS,sgS,q7a l m];omega
theorem x53:∀ {l:List Cr},(∀ c∈l,c.s=1∨c.s=-1)→-(l.length:Int)≤sgS l∧sgS l≤(l.length:Int)
  | [],_=>by simp [sgS]
  | c::l,h=>by
    have h1:=x53 (l:=l) (fun q hq=>h q (by simp [hq]))
    have h2:=h c (by simp)
    rw [sgS,List.length_cons];omega
theorem z4y {u:Int}:∀ {l:List Cr},(∀ c∈l,c.x≤u)→sumC u l=sgS l
  | [],_=>rfl
  | c::l,h=>by rw [sumC,sgS,z4y (fun q hq=>h q (by simp [hq])),if_pos (h c (by simp))]
def srtC (C:List Cr):Prop:=∀ (i j:Nat) c d,i<j→C[i]? = some c→C[j]? = some d→c.x≤d.x
theorem z4z {α:Type} {l:List α} {k:Nat} {c:α} (h:c∈l.take k):∃ j,j<k∧l[j]? = some c:=by
  obtain ⟨j,hj⟩:=List.mem_iff_getElem?.1 h
  rw [List.getElem?_take] at hj
  split at hj
  · exact ⟨j,by assumption,hj⟩
  · cases hj
theorem x7q {α:Type} {l:List α} {k j:Nat} {c:α} (h:j<k) (hj:l[j]? = some c):c∈l.take k :=
  List.mem_iff_getElem?.2 ⟨j,by rw [List.getElem?_take,if_pos h];exact hj⟩
theorem x54 {C:List Cr} (hs:srtC C) {k:Nat} {u:Int} (h1:∀ (j:Nat) c,j<k→C[j]? = some c→c.x≤u) (h2:∀ c,C[k]? = some c→u<c.x):sumC u C=sgS (C.take k):=by
  conv=>lhs;rw [← List.take_append_drop k C]
  rw [q55,z25 (l:=C.drop k),z4y,Int.add_zero]
  · intro c hc
    obtain ⟨j,hj,hc⟩:=z4z hc
    exact h1 j c hj hc
  · intro c hc
    obtain ⟨j,hj⟩:=List.mem_iff_getElem?.1 hc
    rw [List.getElem?_drop] at hj
    rcases Nat.eq_zero_or_pos j with h |h
    · subst h;exact h2 c hj
    · have hk:k<C.length:=by have:=(List.getElem?_eq_some_iff.1 hj).1;omega
      have:=h2 _ (List.getElem?_eq_getElem hk)
      have:=hs k (k+j) _ c (by omega) (List.getElem?_eq_getElem hk) hj
      omega
structure SpanAt (sel:Int→Bool) (C:List Cr) (y:Int) (R0 R:List Run) (k:Nat) (n f:Int):Prop where
  le:k≤C.length
  n_:n=sgS (C.take k)
  f_:∀ (j:Nat) c,k=j+1→C[j]? = some c→f=c.x
  ok:okR R
  up:upTo R y (if k=0 then -8192 else max f (-8192))
  has:∀ u v,hasR R u v↔hasR R0 u v∨(v=y∧(-8192≤u∧u≤8191)∧(∃ c∈C.take k,c.x≤u)∧(∃ c∈C.take k,u<c.x)∧sel (sumC u C)=true)
  len:R.length≤R0.length+k
theorem x18 (L:List Run) (y a b:Int):(addR L y a b).length≤L.length+1:=by
  unfold addR
  split
  · omega
  · split
    · split
      · simp
      · simp
    · simp
section
variable {sel:Int→Bool} {C:List Cr} {y:Int} {R0 R:List Run}
theorem SpanAt.start (h:okR R0) (hu:upTo R0 y (-8192)):SpanAt sel C y R0 R0 0 0 0 :=
  ⟨Nat.zero_le _,rfl,fun j c h=>by omega,h,by rw [if_pos rfl];exact hu,fun u v=>⟨.inl,fun h=>by
    rcases h with h |⟨_,_,⟨c,hc,_⟩,_⟩
    · exact h
    · simp at hc⟩,by omega⟩
theorem SpanAt.next {k:Nat} {n f:Int} {c:Cr} (h0:sel 0=false) (hs:srtC C) (h:SpanAt sel C y R0 R k n f) (hc:C[k]? = some c) :
    SpanAt sel C y R0 (if sel n=true then addR R y (max f (-8192)) (min c.x 8192) else R) (k+1) (n+c.s) c.x:=by
  obtain ⟨h1,h2,h3,h4,h5,h6,h7⟩:=h
  have hk:=(List.getElem?_eq_some_iff.1 hc).1
  have htk:C.take (k+1)=C.take k++[c]:=by rw [List.take_add_one,hc];rfl
  have hn:n+c.s=sgS (C.take (k+1)):=by rw [htk,q7a,← h2];simp [sgS]
  have hfc:∀ (j:Nat) d,k+1=j+1→C[j]? = some d→c.x=d.x:=fun j d e hd=>by
    obtain rfl:j=k:=by omega
    rw [hc] at hd;cases hd;rfl
  rcases Nat.eq_zero_or_pos k with e |e
  · subst e
    have hn0:n=0:=by rw [h2];simp [sgS]
    rw [hn0,h0,if_neg (by simp)]
    rw [hn0] at hn
    rw [if_pos rfl] at h5
    refine ⟨by omega,hn,hfc,h4,by rw [if_neg (by omega)];exact q5i h5 (.inr ⟨rfl,by omega⟩),fun u v=>?_,by omega⟩
    rw [h6 u v]
    constructor
    · rintro (h |⟨_,_,⟨d,hd,_⟩,_⟩)
      · exact .inl h
      · simp at hd
    · rintro (h |⟨_,_,⟨d,hd,hd'⟩,⟨d',hd2,hd2'⟩,_⟩)
      · exact .inl h
      · rw [htk] at hd hd2
        simp at hd hd2
        subst hd;subst hd2;omega
  · obtain ⟨j,rfl⟩:∃ j,k=j+1:=⟨k-1,by omega⟩
    obtain ⟨p,hp⟩:∃ p,C[j]? = some p:=⟨C[j]'(by omega),List.getElem?_eq_getElem _⟩
    have hf:=h3 j p rfl hp
    subst hf
    rw [if_neg (by omega)] at h5
    have hpc:p.x≤c.x:=hs j (j+1) p c (by omega) hp hc
    have hall:∀ (i:Nat) d,i<j+1→C[i]? = some d→d.x≤p.x:=fun i d hi hd=>by
      rcases Nat.lt_or_ge i j with hi' |hi'
      · exact hs i j d p hi' hd hp
      · obtain rfl:i=j:=by omega
        rw [hp] at hd;cases hd;exact Int.le_refl _
    have hpm:p∈C.take (j+1):=x7q (by omega) hp
    have key:∀ u v,(hasR R u v∨(sel n=true∧v=y∧max p.x (-8192)≤u∧u<min c.x 8192))↔hasR R0 u v∨(v=y∧(-8192≤u∧u≤8191)∧(∃ c∈C.take (j+1+1),c.x≤u)∧(∃ c∈C.take (j+1+1),u<c.x)∧sel (sumC u C)=true):=fun u v=>by
      rw [h6 u v,htk]
      have hsum:p.x≤u→u<c.x→sumC u C=n:=fun g1 g2=>by
        rw [x54 hs (k:=j+1) (fun i d hi hd=>Int.le_trans (hall i d hi hd) g1) (fun d hd=>by rw [hc] at hd;cases hd;exact g2),h2]
      constructor
      · rintro ((h |⟨g1,g2,⟨d,hd,hd'⟩,⟨d2,hd2,hd2'⟩,g3⟩) |⟨g1,g2,g3,g4⟩)
        · exact .inl h
        · exact .inr ⟨g1,g2,⟨d,List.mem_append.2 (.inl hd),hd'⟩,⟨d2,List.mem_append.2 (.inl hd2),hd2'⟩,g3⟩
        · exact .inr ⟨g2,by omega,⟨p,List.mem_append.2 (.inl hpm),by omega⟩,⟨c,by simp,by omega⟩,by rw [hsum (by omega) (by omega)];exact g1⟩
      · rintro (h |⟨g1,g2,⟨d,hd,hd'⟩,⟨d2,hd2,hd2'⟩,g3⟩)
        · exact .inl (.inl h)
        · rcases Int.lt_or_le u p.x with g4 |g4
          · refine .inl (.inr ⟨g1,g2,⟨d,?_,hd'⟩,⟨p,hpm,g4⟩,g3⟩)
            rcases List.mem_append.1 hd with hd |hd
            · exact hd
            · simp at hd;subst hd;omega
          · have g5:u<c.x:=by
              rcases List.mem_append.1 hd2 with hd2 |hd2
              · obtain ⟨i,hi,hd2⟩:=z4z hd2
                have:=hall i d2 hi hd2
                omega
              · simp at hd2;subst hd2;exact hd2'
            exact .inr ⟨by rw [← hsum g4 g5];exact g3,g1,by omega,by omega⟩
    by_cases hsel:sel n=true
    · rw [if_pos hsel]
      obtain ⟨a1,a2,a3⟩:=z61 (b:=min c.x 8192) h4 h5
      refine ⟨by omega,hn,hfc,a1,?_,fun u v=>?_,?_⟩
      · rw [if_neg (by omega)]
        by_cases hab:max p.x (-8192)<min c.x 8192
        · exact q5i (a2 hab) (.inr ⟨rfl,by omega⟩)
        · rw [q7i (by omega)];exact q5i h5 (.inr ⟨rfl,by omega⟩)
      · rw [a3 u v,← key u v]
        constructor
        · rintro (h |h)
          · exact .inl h
          · exact .inr ⟨hsel,h⟩
        · rintro (h |h)
          · exact .inl h
          · exact .inr h.2
      · have:=x18 R y (max p.x (-8192)) (min c.x 8192);omega
    · rw [if_neg hsel]
      refine ⟨by omega,hn,hfc,h4,by rw [if_neg (by omega)];exact q5i h5 (.inr ⟨rfl,by omega⟩),fun u v=>?_,by omega⟩
      rw [← key u v]
      constructor
      · exact .inl
      · rintro (h |h)
        · exact h
        · exact absurd h.1 hsel
theorem SpanAt.fin {n f:Int} (h:SpanAt sel C y R0 R C.length n f) (u v:Int):hasR R u v↔hasR R0 u v∨(v=y∧(-8192≤u∧u≤8191)∧q7r sel C u):=by
  rw [h.has u v,List.take_length];rfl
structure ScanAt (sel:Int→Bool) (E:List Edge) (y:Int) (R:List Run):Prop where
  low:-8192≤y
  ok:okR R
  up:upTo R y (-8192)
  has:∀ u v,hasR R u v↔v<y∧q7s sel E u v
theorem ScanAt.start {E:List Edge}:ScanAt sel E (-8192) []:=⟨Int.le_refl _,trivial,(fun r hr=>by cases hr),fun u v=>⟨fun h=>absurd h q3a,fun ⟨h1,_,h2,_⟩=>by omega⟩⟩
theorem ScanAt.next {E:List Edge} {n f:Int} (h0:ScanAt sel E y R0) (hy:y≤8191) (hp:C.Perm (q0z y E)) (h:SpanAt sel C y R0 R C.length n f):ScanAt sel E (y+1) R:=by
  refine ⟨by have:=h0.low;omega,h.ok,fun r hr=>?_,fun u v=>?_⟩
  · have:=h.up r hr;omega
  · rw [h.fin u v,h0.has u v,z6f hp]
    unfold q7s
    have:=h0.low
    constructor
    · rintro (⟨h1,h2,h3,h4⟩ |⟨rfl,h2,h3⟩)
      · exact ⟨by omega,h2,h3,h4⟩
      · exact ⟨by omega,h2,by omega,h3⟩
    · rintro ⟨h1,h2,h3,h4⟩
      by_cases e:v=y
      · subst e;exact .inr ⟨rfl,h2,h4⟩
      · exact .inl ⟨by omega,h2,h3,h4⟩
theorem ScanAt.skip {E:List Edge} {y':Int} (h0:ScanAt sel E y R0) (hy:y≤y') (h:∀ v,y≤v→v<y'→q0z v E=[]):ScanAt sel E y' R0:=by
  refine ⟨by have:=h0.low;omega,h0.ok,fun r hr=>?_,fun u v=>?_⟩
  · have:=h0.up r hr;omega
  · rw [h0.has u v]
    constructor
    · rintro ⟨h1,h2⟩;exact ⟨by omega,h2⟩
    · rintro ⟨h1,h2⟩
      rcases Int.lt_or_le v y with e |e
      · exact ⟨e,h2⟩
      · have:=h2.2.2
        rw [h v e h1] at this
        exact absurd this z28
theorem ScanAt.fin {E:List Edge} (h0:ScanAt sel E y R0) (h:∀ v,y≤v→v≤8191→q0z v E=[]) (u v:Int):hasR R0 u v↔q7s sel E u v:=by
  rw [h0.has u v]
  constructor
  · exact fun h=>h.2
  · intro h2
    rcases Int.lt_or_le v y with e |e
    · exact ⟨e,h2⟩
    · have h3:=h2.2.2
      rw [h v e h2.2.1.2] at h3
      exact absurd h3 z28
end
def actE (E:List Edge) (i:Nat) (y:Int):List Edge:=(E.take i).filter fun e=>decide (y<e.e)
theorem z4d {E:List Edge} {i:Nat} {y y':Int} (h:y'≤y):(actE E i y').filter (fun e=>decide (y<e.e))=actE E i y:=by
  unfold actE
  rw [List.filter_filter]
  apply List.filter_congr
  intro e _
  by_cases h1:y<e.e
  · simp [h1];omega
  · simp [h1]
theorem x55 {E:List Edge} {i:Nat} {y:Int} {e:Edge} (h:E[i]? = some e):actE E (i+1) y=actE E i y++(if y<e.e then [e] else []):=by
  unfold actE
  rw [List.take_add_one,h,List.filter_append]
  congr 1
  by_cases h1:y<e.e <;> simp [h1]
theorem z8n {E:List Edge} {i:Nat} {y y':Int} (h:actE E i y=[]) (hy:y≤y'):actE E i y'=[]:=by
  rw [← z4d hy,h];rfl
theorem x02 {E:List Edge} {i:Nat} {y:Int}:(actE E i y).length≤E.length:=by
  unfold actE
  exact Nat.le_trans (List.length_filter_le _ _) (by rw [List.length_take];omega)
theorem q8c {y:Int}:∀ {l:List Edge},q0z y (l.filter fun e=>decide (y<e.e))=q0z y l
  | []=>rfl
  | e::l=>by
    by_cases h:y<e.e
    · rw [List.filter_cons_of_pos (by simpa using h),q0z,q0z,q8c]
    · rw [List.filter_cons_of_neg (by simpa using h),q0z,q8c,if_neg (by unfold q69;simp;omega)];rfl
theorem z0g {y:Int}:∀ {l:List Edge},(∀ e∈l,y<e.y∨e.e≤y)→q0z y l=[]
  | [],_=>rfl
  | e::l,h=>by
    have:=h e (by simp)
    rw [q0z,z0g (fun q hq=>h q (by simp [hq])),if_neg (by unfold q69;simp;omega)];rfl
theorem z6g {E:List Edge} {i:Nat} {y:Int} (h:∀ (j:Nat) e,i≤j→E[j]? = some e→y<e.y):q0z y (actE E i y)=q0z y E:=by
  unfold actE
  rw [q8c]
  conv=>rhs;rw [← List.take_append_drop i E]
  rw [q2n,z0g (l:=E.drop i),List.append_nil]
  intro e he
  obtain ⟨j,hj⟩:=List.mem_iff_getElem?.1 he
  rw [List.getElem?_drop] at hj
  exact .inl (h (i+j) e (by omega) hj)
theorem z6h {E:List Edge} {i:Nat} {y v:Int} (ha:actE E i y=[]) (hv:y≤v) (h:∀ (j:Nat) e,i≤j→E[j]? = some e→v<e.y):q0z v E=[]:=by
  rw [← z6g h,z8n ha hv];rfl
theorem z8o {E:List Edge} (hs:srtK Edge.y E 0 E.length) {i:Nat} {y:Int} (hi:∀ e,E[i]? = some e→y<e.y) (j:Nat) (e:Edge) (hj:i≤j) (he:E[j]? = some e):y<e.y:=by
  have hjl:=(List.getElem?_eq_some_iff.1 he).1
  have h1:=hi _ (z7c (show i<E.length by omega))
  have h2:=hs.at_le (i:=i) (j:=j) (Nat.zero_le _) hj hjl
  have h3:=z7c hjl
  rw [he] at h3
  have h4:=Option.some.inj h3
  rw [h4];omega
structure MovF {α:Type} (p:α→Bool) (l M:List α) (i j:Nat):Prop where
  len:M.length=l.length
  le:i<j∧j≤l.length
  front:M.take i=(l.take j).filter p
  rest:∀ k,j≤k→M[k]? = l[k]?
section
variable {α:Type} {p:α→Bool} {l M:List α} {i j:Nat}
theorem MovF.start {x:α} (hk:∀ (k:Nat) x,k<i→l[k]? = some x→p x=true) (hx:l[i]? = some x) (hp:p x=false):MovF p l l i (i+1):=by
  refine ⟨rfl,⟨by omega,(List.getElem?_eq_some_iff.1 hx).1⟩,?_,fun k _=>rfl⟩
  rw [List.take_add_one,hx,List.filter_append]
  have:(l.take i).filter p=l.take i:=by
    rw [List.filter_eq_self]
    intro y hy
    obtain ⟨k,h1,h2⟩:=z4z hy
    exact hk k y h1 h2
  rw [this];simp [hp]
theorem MovF.drop_ {y:α} (h:MovF p l M i j) (hy:l[j]? = some y) (hp:p y=false):MovF p l M i (j+1):=by
  obtain ⟨h1,h2,h3,h4⟩:=h
  refine ⟨h1,⟨by omega,(List.getElem?_eq_some_iff.1 hy).1⟩,?_,fun k hk=>h4 k (by omega)⟩
  rw [h3,List.take_add_one,hy,List.filter_append];simp [hp]
theorem MovF.keep_ {y:α} (h:MovF p l M i j) (hy:l[j]? = some y) (hp:p y=true):MovF p l (M.set i y) (i+1) (j+1):=by
  obtain ⟨h1,h2,h3,h4⟩:=h
  have hjl:=(List.getElem?_eq_some_iff.1 hy).1
  refine ⟨by simp [h1],⟨by omega,hjl⟩,?_,fun k hk=>?_⟩
  · rw [List.take_add_one,List.take_add_one,hy,List.filter_append,← h3]
    rw [List.take_set_of_le (by omega),List.getElem?_set_self (by omega)];simp [hp]
  · rw [List.getElem?_set_ne (by omega)];exact h4 k (by omega)
end
end Go.Proofs.YtegpkpilfgohhaaGreat
namespace Go.Proofs.YtegpkpilfgohhaaGreat
open Go.RowKit
def q4n (x:Int):Int:=max (-8192) (min 8192 x)
def q18 (C:List Cr):List Int:=C.foldl (fun a c=>ins (q4n c.x) a) []
theorem x36 (P:List Cr→List Int→Prop) (h0:P [] []) (h1:∀ C c xs,P C xs→P (C++[c]) (ins (q4n c.x) xs)):∀ C,P C (q18 C):=by
  have key:∀ (D C:List Cr) (xs:List Int),P C xs→P (C++D) (D.foldl (fun a c=>ins (q4n c.x) a) xs):=by
    intro D
    induction D with
    | nil=>intro C xs h;simpa using h
    | cons d D ih =>
      intro C xs h
      have:=ih (C++[d]) _ (h1 C d xs h)
      simpa using this
  intro C
  have:=key C [] [] h0
  simpa [q18] using this
theorem z1v (C:List Cr):q37 (q18 C)∧(q18 C).length≤C.length∧∀ z,z∈q18 C↔∃ c∈C,z=q4n c.x:=by
  refine x36 (fun C xs=>q37 xs∧xs.length≤C.length∧∀ z,z∈xs↔∃ c∈C,z=q4n c.x) ⟨List.Pairwise.nil,Nat.le_refl _,fun z=>by simp⟩ (fun C c xs h=>?_) C
  obtain ⟨h1,h2,h3⟩:=h
  refine ⟨z5v h1,?_,fun z=>?_⟩
  · have:=z5w (x:=q4n c.x) (l:=xs)
    rw [List.length_append];simp;omega
  · rw [mem_ins,h3]
    constructor
    · rintro (rfl |⟨d,hd,rfl⟩)
      · exact ⟨c,by simp,rfl⟩
      · exact ⟨d,by simp [hd],rfl⟩
    · rintro ⟨d,hd,rfl⟩
      rcases List.mem_append.1 hd with hd |hd
      · exact .inr ⟨d,hd,rfl⟩
      · simp at hd;subst hd;exact .inl rfl
def nthI (xs:List Int) (k:Nat):Int:=xs[k]!
theorem z1w {xs:List Int} {k:Nat} (h:k<xs.length):xs[k]? = some (nthI xs k):=by simp [nthI,h]
theorem z1x {xs:List Int} {k:Nat} (h:k<xs.length):nthI xs k∈xs:=List.mem_of_getElem? (z1w h)
theorem x29 {xs:List Int} (hs:q37 xs) {i j:Nat} (hij:i<j) (hj:j<xs.length):nthI xs i<nthI xs j:=by
  have:=List.pairwise_iff_getElem.1 hs i j (by omega) hj hij
  have h1:=z1w (show i<xs.length by omega)
  have h2:=z1w hj
  rw [List.getElem?_eq_getElem (by omega)] at h1 h2
  rw [← Option.some.inj h1,← Option.some.inj h2];exact this
theorem z02 {xs:List Int} (hs:q37 xs) {i j:Nat} (hij:i≤j) (hj:j<xs.length):nthI xs i≤nthI xs j:=by
  rcases Nat.lt_or_ge i j with h |h
  · exact Int.le_of_lt (x29 hs h hj)
  · obtain rfl:i=j:=by omega
    exact Int.le_refl _
theorem z40 {xs:List Int} {z:Int} (h:z∈xs):∃ k,k<xs.length∧z=nthI xs k:=by
  obtain ⟨k,hk⟩:=List.mem_iff_getElem?.1 h
  have hl:=(List.getElem?_eq_some_iff.1 hk).1
  rw [z1w hl] at hk
  exact ⟨k,hl,(Option.some.inj hk).symm⟩
def rowK (sel:Int→Bool) (C:List Cr) (y:Int) (xs:List Int):Nat→List Run
  | 0=>[]
  | k+1=>if sel (sumC (nthI xs k) C)=true then q8s (rowK sel C y xs k) y (nthI xs k) (nthI xs (k+1)) else rowK sel C y xs k
theorem z8p {a u:Int}:∀ {C:List Cr},a≤u→(∀ c∈C,¬ (a<c.x∧c.x≤u))→sumC u C=sumC a C
  | [],_,_=>rfl
  | c::C,h,hn=>by
    have h1:=hn c (by simp)
    rw [sumC,sumC,z8p h (fun q hq=>hn q (by simp [hq]))]
    by_cases h2:c.x≤a
    · rw [if_pos h2,if_pos (by omega)]
    · rw [if_neg h2,if_neg (by omega)]
theorem z4e (sel:Int→Bool) (C:List Cr) (y:Int) (xs:List Int):∀ k,(rowK sel C y xs k).length≤k
  | 0=>Nat.le_refl _
  | k+1=>by
    have:=z4e sel C y xs k
    rw [rowK]
    split
    · have:=x0r (rowK sel C y xs k) y (nthI xs k) (nthI xs (k+1));omega
    · omega
section
variable {sel:Int→Bool} {C:List Cr} {y:Int}
theorem x03 {k:Nat} (hk:k+1<(q18 C).length) {u:Int} (h1:nthI (q18 C) k≤u) (h2:u<nthI (q18 C) (k+1)):sumC u C=sumC (nthI (q18 C) k) C:=by
  obtain ⟨hs,hl,hm⟩:=z1v C
  refine z8p h1 fun c hc hh=>?_
  obtain ⟨j,hj,he⟩:=z40 ((hm (q4n c.x)).2 ⟨c,hc,rfl⟩)
  obtain ⟨d,_,hd⟩:=(hm _).1 (z1x (show k<(q18 C).length by omega))
  obtain ⟨d',_,hd'⟩:=(hm _).1 (z1x hk)
  unfold q4n at he hd hd'
  rcases Nat.lt_or_ge k j with h3 |h3
  · have:=z02 hs (show k+1≤j by omega) hj
    omega
  · have:=z02 hs h3 (show k<(q18 C).length by omega)
    omega
theorem x3a:∀ k,k<(q18 C).length→okR (rowK sel C y (q18 C) k)∧upTo (rowK sel C y (q18 C) k) y (nthI (q18 C) k)∧∀ u v,hasR (rowK sel C y (q18 C) k) u v↔v=y∧nthI (q18 C) 0≤u∧u<nthI (q18 C) k∧sel (sumC u C)=true
  | 0,_=>⟨trivial,(fun r hr=>by cases hr),fun u v=>⟨fun h=>absurd h q3a,fun ⟨_,h1,h2,_⟩=>by omega⟩⟩
  | k+1,hk=>by
    obtain ⟨h1,h2,h3⟩:=x3a k (by omega)
    have hlt:=x29 (z1v C).1 (show k<k+1 by omega) hk
    have h0:=z02 (z1v C).1 (Nat.zero_le k) (by omega)
    rw [rowK]
    by_cases hsel:sel (sumC (nthI (q18 C) k) C)=true
    · rw [if_pos hsel,x5m h2 hlt]
      obtain ⟨a1,a2,a3⟩:=z61 (b:=nthI (q18 C) (k+1)) h1 h2
      refine ⟨a1,a2 hlt,fun u v=>?_⟩
      rw [a3 u v,h3 u v]
      constructor
      · rintro (⟨g1,g2,g3,g4⟩ |⟨g1,g2,g3⟩)
        · exact ⟨g1,g2,by omega,g4⟩
        · exact ⟨g1,by omega,g3,by rw [x03 hk g2 g3];exact hsel⟩
      · rintro ⟨g1,g2,g3,g4⟩
        rcases Int.lt_or_le u (nthI (q18 C) k) with g5 |g5
        · exact .inl ⟨g1,g2,g5,g4⟩
        · exact .inr ⟨g1,g5,g3⟩
    · rw [if_neg hsel]
      refine ⟨h1,q5i h2 (.inr ⟨rfl,by omega⟩),fun u v=>?_⟩
      rw [h3 u v]
      constructor
      · rintro ⟨g1,g2,g3,g4⟩;exact ⟨g1,g2,by omega,g4⟩
      · rintro ⟨g1,g2,g3,g4⟩
        rcases Int.lt_or_le u (nthI (q18 C) k) with g5 |g5
        · exact ⟨g1,g2,g5,g4⟩
        · rw [x03 hk g5 g3] at g4;exact absurd g4 hsel
def filR (sel:Int→Bool) (C:List Cr) (y:Int):List Run:=rowK sel C y (q18 C) ((q18 C).length-1)
theorem x9d:okR (filR sel C y)∧(filR sel C y).length≤C.length∧∀ u v,hasR (filR sel C y) u v↔v=y∧(-8192≤u∧u≤8191)∧q7r sel C u:=by
  obtain ⟨hs,hl,hm⟩:=z1v C
  have hlen:=z4e sel C y (q18 C) ((q18 C).length-1)
  unfold filR
  rcases Nat.eq_zero_or_pos (q18 C).length with h0 |h0
  · refine ⟨by rw [h0];exact trivial,by omega,fun u v=>?_⟩
    rw [h0]
    refine ⟨fun h=>absurd h q3a,fun ⟨_,_,⟨c,hc,_⟩,_⟩=>?_⟩
    have:=(hm (q4n c.x)).2 ⟨c,hc,rfl⟩
    rw [List.length_eq_zero_iff.1 h0] at this;cases this
  · obtain ⟨h1,h2,h3⟩:=x3a (sel:=sel) (y:=y) (C:=C) ((q18 C).length-1) (by omega)
    refine ⟨h1,by omega,fun u v=>?_⟩
    rw [h3 u v]
    obtain ⟨d0,hd0,e0⟩:=(hm _).1 (z1x h0)
    obtain ⟨d1,hd1,e1⟩:=(hm _).1 (z1x (show (q18 C).length-1<(q18 C).length by omega))
    constructor
    · rintro ⟨g1,g2,g3,g4⟩
      unfold q4n at e0 e1
      exact ⟨g1,by omega,⟨d0,hd0,by omega⟩,⟨d1,hd1,by omega⟩,g4⟩
    · rintro ⟨g1,g2,⟨c,hc,gc⟩,⟨c',hc',gc'⟩,g4⟩
      obtain ⟨i,hi,ei⟩:=z40 ((hm (q4n c.x)).2 ⟨c,hc,rfl⟩)
      obtain ⟨j,hj,ej⟩:=z40 ((hm (q4n c'.x)).2 ⟨c',hc',rfl⟩)
      have k1:=z02 hs (Nat.zero_le i) hi
      have k2:=z02 hs (show j≤(q18 C).length-1 by omega) (by omega)
      unfold q4n at ei ej
      exact ⟨g1,by omega,by omega,g4⟩
end
def filN (sel:Int→Bool) (E:List Edge) (y0:Int):Nat→List Run
  | 0=>[]
  | d+1=>filN sel E y0 d++filR sel (q0z (y0+d) E) (y0+d)
theorem q83 {sel:Int→Bool} {E:List Edge} {y0:Int}:∀ d:Nat,okR (filN sel E y0 d)∧(filN sel E y0 d).length≤d*E.length∧∀ u v,hasR (filN sel E y0 d) u v↔(y0≤v∧v<y0+d)∧(-8192≤u∧u≤8191)∧q7r sel (q0z v E) u
  | 0=>⟨trivial,by simp [filN],fun u v=>⟨fun h=>absurd h q3a,fun ⟨h,_⟩=>by omega⟩⟩
  | d+1=>by
    obtain ⟨h1,h2,h3⟩:=q83 (sel:=sel) (E:=E) (y0:=y0) d
    obtain ⟨k1,k2,k3⟩:=x9d (sel:=sel) (C:=q0z (y0+d) E) (y:=y0+d)
    have hcl:=q42 (y0+d) E
    rw [filN]
    refine ⟨okR_append.2 ⟨h1,k1,fun r hr s hs=>.inl ?_⟩,?_,fun u v=>?_⟩
    · have a1:=q6o h1 hr
      have a2:=q6o k1 hs
      have b1:=(h3 r.x0 r.y).1 ⟨r,hr,rfl,Int.le_refl _,a1⟩
      have b2:=(k3 s.x0 s.y).1 ⟨s,hs,rfl,Int.le_refl _,a2⟩
      omega
    · rw [List.length_append,Nat.add_mul,Nat.one_mul];omega
    · rw [q20,h3 u v,k3 u v]
      constructor
      · rintro (⟨g1,g2,g3⟩ |⟨rfl,g2,g3⟩)
        · exact ⟨by omega,g2,g3⟩
        · exact ⟨by omega,g2,g3⟩
      · rintro ⟨g1,g2,g3⟩
        by_cases e:v=y0+d
        · subst e;exact .inr ⟨rfl,g2,g3⟩
        · exact .inl ⟨by omega,g2,g3⟩
def fil (sel:Int→Bool) (E:List Edge) (lo hi:Int):List Run:=filN sel E (max lo (-8192)) (min hi 8192-max lo (-8192)).toNat
theorem z7d {sel:Int→Bool} {E:List Edge} {lo hi:Int} (h:∀ e∈E,lo≤e.y∧e.e≤hi) (u v:Int):hasR (fil sel E lo hi) u v↔q7s sel E u v:=by
  unfold fil
  rw [(q83 _).2.2 u v]
  unfold q7s
  constructor
  · rintro ⟨g1,g2,g3⟩;exact ⟨g2,by omega,g3⟩
  · rintro ⟨g1,g2,g3⟩
    refine ⟨?_,g1,g3⟩
    by_cases e:v<lo∨hi≤v
    · rw [z0g fun r hr=>by have:=h r hr;omega] at g3
      exact absurd g3 z28
    · omega
def lowL (Y:Nat→Int) (s:Int):Nat→Int
  | 0=>s
  | i+1=>min (lowL Y s i) (Y i)
def z3t (Y:Nat→Int) (s:Int):Nat→Int
  | 0=>s
  | i+1=>max (z3t Y s i) (Y i)
def lowN (L:Nat→LineD):Nat→Int
  | 0=>8192
  | x+1=>lowL (L x).Y (lowN L x) (L x).n
def q6e (L:Nat→LineD):Nat→Int
  | 0=>-8192
  | x+1=>z3t (L x).Y (q6e L x) (L x).n
theorem x3b {Y:Nat→Int} {s:Int}:∀ {i:Nat},lowL Y s i≤s∧∀ j,j<i→lowL Y s i≤Y j
  | 0=>⟨Int.le_refl _,fun j h=>by omega⟩
  | i+1=>by
    obtain ⟨h1,h2⟩:=x3b (Y:=Y) (s:=s) (i:=i)
    refine ⟨by rw [lowL];omega,fun j hj=>?_⟩
    rw [lowL]
    by_cases e:j=i
    · subst e;omega
    · have:=h2 j (by omega);omega
theorem x04 {Y:Nat→Int} {s:Int}:∀ {i:Nat},s≤z3t Y s i∧∀ j,j<i→Y j≤z3t Y s i
  | 0=>⟨Int.le_refl _,fun j h=>by omega⟩
  | i+1=>by
    obtain ⟨h1,h2⟩:=x04 (Y:=Y) (s:=s) (i:=i)
    refine ⟨by rw [z3t];omega,fun j hj=>?_⟩
    rw [z3t]
    by_cases e:j=i
    · subst e;omega
    · have:=h2 j (by omega);omega
theorem z8q {X Y:Nat→Int} {n:Nat} {lo hi:Int} (h:∀ j,j<n→lo≤Y j∧Y j≤hi):∀ i,i≤n→∀ e∈q2b X Y n i,lo≤e.y∧e.e≤hi
  | 0,_,e,he=>by simp [q2b] at he
  | i+1,hi',e,he=>by
    rw [q2b,List.mem_append] at he
    rcases he with he |he
    · exact z8q h i (by omega) e he
    · have h1:=h i (by omega)
      have h2:=h _ (q8q (show i<n by omega))
      unfold q40 at he
      split at he
      · simp at he;subst he;simp only;omega
      · split at he
        · simp at he;subst he;simp only;omega
        · simp at he
theorem z29 {L:Nat→LineD}:∀ {n:Nat},∀ e∈q1t L n,lowN L n≤e.y∧e.e≤q6e L n
  | 0,e,he=>by simp [q1t] at he
  | n+1,e,he=>by
    obtain ⟨l1,l2⟩:=x3b (Y:=(L n).Y) (s:=lowN L n) (i:=(L n).n)
    obtain ⟨g1,g2⟩:=x04 (Y:=(L n).Y) (s:=q6e L n) (i:=(L n).n)
    rw [q1t,List.mem_append] at he
    rw [lowN,q6e]
    rcases he with he |he
    · have:=z29 (L:=L) (n:=n) e he;omega
    · exact z8q (fun j hj=>⟨l2 j hj,g2 j hj⟩) _ (Nat.le_refl _) e he
end Go.Proofs.YtegpkpilfgohhaaGreat
