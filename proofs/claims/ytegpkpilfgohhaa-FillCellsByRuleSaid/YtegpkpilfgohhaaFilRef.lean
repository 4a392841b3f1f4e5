/-
  The cells of lines as the reference finds them: sorted borders of a row, the stretches between them. No program in sight.
-/
import Derived.Test.YtegpkpilfgohhaaFillLaw
import Derived.Test.YtegpkpilfgohhaaJoined
set_option linter.unusedVariables false
set_option linter.unusedSimpArgs false
set_option linter.unnecessarySimpa false
namespace Go.Proofs.Ytegpkpilfgohhaa
open Go.RowKit
def q2f (x:Int):Int:=max (-8192) (min 8192 x)
def q0w (C:List Cr):List Int:=C.foldl (fun a c=>ins (q2f c.x) a) []
theorem z8i (C:List Cr) (c:Cr):q0w (C++[c])=ins (q2f c.x) (q0w C):=by simp [q0w,List.foldl_append]
theorem z67 (P:List Cr→List Int→Prop) (h0:P [] []) (h1:∀ C c xs,P C xs→P (C++[c]) (ins (q2f c.x) xs)):∀ C,P C (q0w C):=by
  have key:∀ (D C:List Cr) (xs:List Int),P C xs→P (C++D) (D.foldl (fun a c=>ins (q2f c.x) a) xs):=by
    intro D
    induction D with
    | nil=>intro C xs h;simpa using h
    | cons d D ih =>
      intro C xs h
      have:=ih (C++[d]) _ (h1 C d xs h)
      simpa using this
  intro C
  have:=key C [] [] h0
  simpa [q0w] using this
theorem q3m (C:List Cr):q2q (q0w C)∧(q0w C).length≤C.length∧∀ z,z∈q0w C↔∃ c∈C,z=q2f c.x:=by
  refine z67 (fun C xs=>q2q xs∧xs.length≤C.length∧∀ z,z∈xs↔∃ c∈C,z=q2f c.x) ⟨List.Pairwise.nil,Nat.le_refl _,fun z=>by simp⟩ (fun C c xs h=>?_) C
  obtain ⟨h1,h2,h3⟩:=h
  refine ⟨z03 h1,?_,fun z=>?_⟩
  · have:=z04 (x:=q2f c.x) (l:=xs)
    rw [List.length_append];simp;omega
  · rw [mem_ins,h3]
    constructor
    · rintro (rfl |⟨d,hd,rfl⟩)
      · exact ⟨c,by simp,rfl⟩
      · exact ⟨d,by simp [hd],rfl⟩
    · rintro ⟨d,hd,rfl⟩
      rcases List.mem_append.1 hd with hd |hd
      · exact .inr ⟨d,hd,rfl⟩
      · simp at hd;subst hd;exact .inl rfl
def nthI (xs:List Int) (k:Nat):Int:=xs[k]!
theorem q4x {xs:List Int} {k:Nat} (h:k<xs.length):xs[k]? = some (nthI xs k):=by simp [nthI,h]
theorem q6e {xs:List Int} {k:Nat} (h:k<xs.length):nthI xs k∈xs:=List.mem_of_getElem? (q4x h)
theorem z17 {xs:List Int} (hs:q2q xs) {i j:Nat} (hij:i<j) (hj:j<xs.length):nthI xs i<nthI xs j:=by
  have:=List.pairwise_iff_getElem.1 hs i j (by omega) hj hij
  have h1:=q4x (show i<xs.length by omega)
  have h2:=q4x hj
  rw [List.getElem?_eq_getElem (by omega)] at h1 h2
  rw [← Option.some.inj h1,← Option.some.inj h2];exact this
theorem q7h {xs:List Int} (hs:q2q xs) {i j:Nat} (hij:i≤j) (hj:j<xs.length):nthI xs i≤nthI xs j:=by
  rcases Nat.lt_or_ge i j with h |h
  · exact Int.le_of_lt (z17 hs h hj)
  · obtain rfl:i=j:=by omega
    exact Int.le_refl _
theorem q98 {xs:List Int} {z:Int} (h:z∈xs):∃ k,k<xs.length∧z=nthI xs k:=by
  obtain ⟨k,hk⟩:=List.mem_iff_getElem?.1 h
  have hl:=(List.getElem?_eq_some_iff.1 hk).1
  rw [q4x hl] at hk
  exact ⟨k,hl,(Option.some.inj hk).symm⟩
def rowK (sel:Int→Bool) (C:List Cr) (y:Int) (xs:List Int):Nat→List Run
  | 0=>[]
  | k+1=>if sel (sumC (nthI xs k) C)=true then q27 (rowK sel C y xs k) y (nthI xs k) (nthI xs (k+1)) else rowK sel C y xs k
theorem z3b {a u:Int}:∀ {C:List Cr},a≤u→(∀ c∈C,¬ (a<c.x∧c.x≤u))→sumC u C=sumC a C
  | [],_,_=>rfl
  | c::C,h,hn=>by
    have h1:=hn c (by simp)
    rw [sumC,sumC,z3b h (fun q hq=>hn q (by simp [hq]))]
    by_cases h2:c.x≤a
    · rw [if_pos h2,if_pos (by omega)]
    · rw [if_neg h2,if_neg (by omega)]
theorem q64 (sel:Int→Bool) (C:List Cr) (y:Int) (xs:List Int):∀ k,(rowK sel C y xs k).length≤k
  | 0=>Nat.le_refl _
  | k+1=>by
    have:=q64 sel C y xs k
    rw [rowK]
    split
    · have:=z45 (rowK sel C y xs k) y (nthI xs k) (nthI xs (k+1));omega
    · omega
section
variable {sel:Int→Bool} {C:List Cr} {y:Int}
theorem z49 {k:Nat} (hk:k+1<(q0w C).length) {u:Int} (h1:nthI (q0w C) k≤u) (h2:u<nthI (q0w C) (k+1)):sumC u C=sumC (nthI (q0w C) k) C:=by
  obtain ⟨hs,hl,hm⟩:=q3m C
  refine z3b h1 fun c hc hh=>?_
  obtain ⟨j,hj,he⟩:=q98 ((hm (q2f c.x)).2 ⟨c,hc,rfl⟩)
  obtain ⟨d,_,hd⟩:=(hm _).1 (q6e (show k<(q0w C).length by omega))
  obtain ⟨d',_,hd'⟩:=(hm _).1 (q6e hk)
  unfold q2f at he hd hd'
  rcases Nat.lt_or_ge k j with h3 |h3
  · have:=q7h hs (show k+1≤j by omega) hj
    omega
  · have:=q7h hs h3 (show k<(q0w C).length by omega)
    omega
theorem z6d:∀ k,k<(q0w C).length→okR (rowK sel C y (q0w C) k)∧upTo (rowK sel C y (q0w C) k) y (nthI (q0w C) k)∧∀ u v,hasR (rowK sel C y (q0w C) k) u v↔v=y∧nthI (q0w C) 0≤u∧u<nthI (q0w C) k∧sel (sumC u C)=true
  | 0,_=>⟨trivial,(fun r hr=>by cases hr),fun u v=>⟨fun h=>absurd h q3i,fun ⟨_,h1,h2,_⟩=>by omega⟩⟩
  | k+1,hk=>by
    obtain ⟨h1,h2,h3⟩:=z6d k (by omega)
    have hlt:=z17 (q3m C).1 (show k<k+1 by omega) hk
    have h0:=q7h (q3m C).1 (Nat.zero_le k) (by omega)
    rw [rowK]
    by_cases hsel:sel (sumC (nthI (q0w C) k) C)=true
    · rw [if_pos hsel,z8g h2 hlt]
      obtain ⟨a1,a2,a3⟩:=z11 (b:=nthI (q0w C) (k+1)) h1 h2
      refine ⟨a1,a2 hlt,fun u v=>?_⟩
      rw [a3 u v,h3 u v]
      constructor
      · rintro (⟨g1,g2,g3,g4⟩ |⟨g1,g2,g3⟩)
        · exact ⟨g1,g2,by omega,g4⟩
        · exact ⟨g1,by omega,g3,by rw [z49 hk g2 g3];exact hsel⟩
      · rintro ⟨g1,g2,g3,g4⟩
        rcases Int.lt_or_le u (nthI (q0w C) k) with g5 |g5
        · exact .inl ⟨g1,g2,g5,g4⟩
        · exact .inr ⟨g1,g5,g3⟩
    · rw [if_neg hsel]
      refine ⟨h1,q38 h2 (.inr ⟨rfl,by omega⟩),fun u v=>?_⟩
      rw [h3 u v]
      constructor
      · rintro ⟨g1,g2,g3,g4⟩;exact ⟨g1,g2,by omega,g4⟩
      · rintro ⟨g1,g2,g3,g4⟩
        rcases Int.lt_or_le u (nthI (q0w C) k) with g5 |g5
        · exact ⟨g1,g2,g5,g4⟩
        · rw [z49 hk g5 g3] at g4;exact absurd g4 hsel
def filR (sel:Int→Bool) (C:List Cr) (y:Int):List Run:=rowK sel C y (q0w C) ((q0w C).length-1)
theorem z6e:okR (filR sel C y)∧(filR sel C y).length≤C.length∧∀ u v,hasR (filR sel C y) u v↔v=y∧(-8192≤u∧u≤8191)∧q6s sel C u:=by
  obtain ⟨hs,hl,hm⟩:=q3m C
  have hlen:=q64 sel C y (q0w C) ((q0w C).length-1)
  unfold filR
  rcases Nat.eq_zero_or_pos (q0w C).length with h0 |h0
  · refine ⟨by rw [h0];exact trivial,by omega,fun u v=>?_⟩
    rw [h0]
    refine ⟨fun h=>absurd h q3i,fun ⟨_,_,⟨c,hc,_⟩,_⟩=>?_⟩
    have:=(hm (q2f c.x)).2 ⟨c,hc,rfl⟩
    rw [List.length_eq_zero_iff.1 h0] at this;cases this
  · obtain ⟨h1,h2,h3⟩:=z6d (sel:=sel) (y:=y) (C:=C) ((q0w C).length-1) (by omega)
    refine ⟨h1,by omega,fun u v=>?_⟩
    rw [h3 u v]
    obtain ⟨d0,hd0,e0⟩:=(hm _).1 (q6e h0)
    obtain ⟨d1,hd1,e1⟩:=(hm _).1 (q6e (show (q0w C).length-1<(q0w C).length by omega))
    constructor
    · rintro ⟨g1,g2,g3,g4⟩
      unfold q2f at e0 e1
      exact ⟨g1,by omega,⟨d0,hd0,by omega⟩,⟨d1,hd1,by omega⟩,g4⟩
    · rintro ⟨g1,g2,⟨c,hc,gc⟩,⟨c',hc',gc'⟩,g4⟩
      obtain ⟨i,hi,ei⟩:=q98 ((hm (q2f c.x)).2 ⟨c,hc,rfl⟩)
      obtain ⟨j,hj,ej⟩:=q98 ((hm (q2f c'.x)).2 ⟨c',hc',rfl⟩)
      have k1:=q7h hs (Nat.zero_le i) hi
      have k2:=q7h hs (show j≤(q0w C).length-1 by omega) (by omega)
      unfold q2f at ei ej
      exact ⟨g1,by omega,by omega,g4⟩
end
def filN (sel:Int→Bool) (E:List Edge) (y0:Int):Nat→List Run
  | 0=>[]
  | d+1=>filN sel E y0 d++filR sel (q0g (y0+d) E) (y0+d)
theorem q54 {sel:Int→Bool} {E:List Edge} {y0:Int}:∀ d:Nat,okR (filN sel E y0 d)∧(filN sel E y0 d).length≤d*E.length∧∀ u v,hasR (filN sel E y0 d) u v↔(y0≤v∧v<y0+d)∧(-8192≤u∧u≤8191)∧q6s sel (q0g v E) u
  | 0=>⟨trivial,by simp [filN],fun u v=>⟨fun h=>absurd h q3i,fun ⟨h,_⟩=>by omega⟩⟩
  | d+1=>by
    obtain ⟨h1,h2,h3⟩:=q54 (sel:=sel) (E:=E) (y0:=y0) d
    obtain ⟨k1,k2,k3⟩:=z6e (sel:=sel) (C:=q0g (y0+d) E) (y:=y0+d)
    have hcl:=q1c (y0+d) E
    rw [filN]
    refine ⟨okR_append.2 ⟨h1,k1,fun r hr s hs=>.inl ?_⟩,?_,fun u v=>?_⟩
    · have a1:=z59 h1 hr
      have a2:=z59 k1 hs
      have b1:=(h3 r.x0 r.y).1 ⟨r,hr,rfl,Int.le_refl _,a1⟩
      have b2:=(k3 s.x0 s.y).1 ⟨s,hs,rfl,Int.le_refl _,a2⟩
      omega
    · rw [List.length_append,Nat.add_mul,Nat.one_mul];omega
    · rw [q42,h3 u v,k3 u v]
      constructor
      · rintro (⟨g1,g2,g3⟩ |⟨rfl,g2,g3⟩)
        · exact ⟨by omega,g2,g3⟩
        · exact ⟨by omega,g2,g3⟩
      · rintro ⟨g1,g2,g3⟩
        by_cases e:v=y0+d
        · subst e;exact .inr ⟨rfl,g2,g3⟩
        · exact .inl ⟨by omega,g2,g3⟩
def fil (sel:Int→Bool) (E:List Edge) (lo hi:Int):List Run:=filN sel E (max lo (-8192)) (min hi 8192-max lo (-8192)).toNat
theorem z6f {sel:Int→Bool} {E:List Edge} {lo hi:Int} (h:∀ e∈E,lo≤e.y∧e.e≤hi) (u v:Int):hasR (fil sel E lo hi) u v↔q5u sel E u v:=by
  unfold fil
  rw [(q54 _).2.2 u v]
  unfold q5u
  constructor
  · rintro ⟨g1,g2,g3⟩;exact ⟨g2,by omega,g3⟩
  · rintro ⟨g1,g2,g3⟩
    refine ⟨?_,g1,g3⟩
    by_cases e:v<lo∨hi≤v
    · rw [q63 fun r hr=>by have:=h r hr;omega] at g3
      exact absurd g3 q80
    · omega
def lowL (Y:Nat→Int) (s:Int):Nat→Int
  | 0=>s
  | i+1=>min (lowL Y s i) (Y i)
def q3z (Y:Nat→Int) (s:Int):Nat→Int
  | 0=>s
  | i+1=>max (q3z Y s i) (Y i)
def lowN (L:Nat→LineD):Nat→Int
  | 0=>8192
  | x+1=>lowL (L x).Y (lowN L x) (L x).n
def q1y (L:Nat→LineD):Nat→Int
  | 0=>-8192
  | x+1=>q3z (L x).Y (q1y L x) (L x).n
theorem z6g {Y:Nat→Int} {s:Int}:∀ {i:Nat},lowL Y s i≤s∧∀ j,j<i→lowL Y s i≤Y j
  | 0=>⟨Int.le_refl _,fun j h=>by omega⟩
  | i+1=>by
    obtain ⟨h1,h2⟩:=z6g (Y:=Y) (s:=s) (i:=i)
    refine ⟨by rw [lowL];omega,fun j hj=>?_⟩
    rw [lowL]
    by_cases e:j=i
    · subst e;omega
    · have:=h2 j (by omega);omega
theorem z5a {Y:Nat→Int} {s:Int}:∀ {i:Nat},s≤q3z Y s i∧∀ j,j<i→Y j≤q3z Y s i
  | 0=>⟨Int.le_refl _,fun j h=>by omega⟩
  | i+1=>by
    obtain ⟨h1,h2⟩:=z5a (Y:=Y) (s:=s) (i:=i)
    refine ⟨by rw [q3z];omega,fun j hj=>?_⟩
    rw [q3z]
    by_cases e:j=i
    · subst e;omega
    · have:=h2 j (by omega);omega
theorem z3c {X Y:Nat→Int} {n:Nat} {lo hi:Int} (h:∀ j,j<n→lo≤Y j∧Y j≤hi):∀ i,i≤n→∀ e∈q1e X Y n i,lo≤e.y∧e.e≤hi
  | 0,_,e,he=>by simp [q1e] at he
  | i+1,hi',e,he=>by
    rw [q1e,List.mem_append] at he
    rcases he with he |he
    · exact z3c h i (by omega) e he
    · have h1:=h i (by omega)
      have h2:=h _ (q4l (show i<n by omega))
      unfold q3a at he
      split at he
      · simp at he;subst he;simp only;omega
      · split at he
        · simp at he;subst he;simp only;omega
        · simp at he
theorem z3d {L:Nat→LineD}:∀ {n:Nat},∀ e∈q0p L n,lowN L n≤e.y∧e.e≤q1y L n
  | 0,e,he=>by simp [q0p] at he
  | n+1,e,he=>by
    obtain ⟨l1,l2⟩:=z6g (Y:=(L n).Y) (s:=lowN L n) (i:=(L n).n)
    obtain ⟨g1,g2⟩:=z5a (Y:=(L n).Y) (s:=q1y L n) (i:=(L n).n)
    rw [q0p,List.mem_append] at he
    rw [lowN,q1y]
    rcases he with he |he
    · have:=z3d (L:=L) (n:=n) e he;omega
    · exact z3c (fun j hj=>⟨l2 j hj,g2 j hj⟩) _ (Nat.le_refl _) e he
end Go.Proofs.Ytegpkpilfgohhaa
