/-
  Merged: XStrokeLaw, XRow.
-/
import Derived.Test.YtegpkpilfgohhaaMrg7
import Derived.Test.YtegpkpilfgohhaaMrg8
set_option linter.unusedVariables false
set_option linter.unusedSimpArgs false
set_option linter.unnecessarySimpa false
namespace Go.Proofs.Ytegpkpilfgohhaa
open Go.RowKit
def dedK (P:Nat→Int × Int):Nat→List (Int × Int)
  | 0=>[]
  | i+1=>if i=0∨¬ P i=P (i-1) then dedK P i++[P i] else dedK P i
theorem q9h (P:Nat→Int × Int):∀ i,(dedK P (i+1))[(dedK P (i+1)).length-1]? = some (P i)∧0<(dedK P (i+1)).length
  | 0=>by simp [dedK]
  | i+1=>by
    obtain ⟨h1,h2⟩:=q9h P i
    rw [dedK]
    by_cases h:P (i+1)=P i
    · rw [if_neg (by simp [h])]
      rw [h];exact ⟨h1,h2⟩
    · rw [if_pos (.inr (by simpa using h))]
      simp
theorem q3v (P:Nat→Int × Int):∀ i,(dedK P i).length≤i
  | 0=>Nat.le_refl _
  | i+1=>by
    have:=q3v P i
    rw [dedK];split
    · simp;omega
    · omega
def nthP (l:List (Int × Int)) (i:Nat):Int × Int:=l[i]!
theorem q10 {l:List (Int × Int)} {i:Nat} (h:i<l.length):l[i]? = some (nthP l i):=by simp [nthP,h]
theorem q7w {l:List (Int × Int)} {i:Nat} {p:Int × Int} (h:l[i]? = some p):nthP l i=p:=by
  have h1:=(List.getElem?_eq_some_iff.1 h).1
  have:=q10 h1
  rw [h] at this;exact (Option.some.inj this).symm
theorem z0z {P:Nat→Int × Int} {Q:Int × Int→Prop}:∀ {i:Nat},(∀ j,j<i→Q (P j))→∀ p∈dedK P i,Q p
  | 0,_,p,hp=>by simp [dedK] at hp
  | i+1,h,p,hp=>by
    rw [dedK] at hp
    split at hp
    · rcases List.mem_append.1 hp with hp |hp
      · exact z0z (fun j hj=>h j (by omega)) p hp
      · simp at hp;subst hp;exact h i (by omega)
    · exact z0z (fun j hj=>h j (by omega)) p hp
theorem z2o (P:Nat→Int × Int):∀ i k,k+1<(dedK P i).length→¬ nthP (dedK P i) k=nthP (dedK P i) (k+1)
  | 0,k,h=>by simp [dedK] at h
  | i+1,k,h=>by
    rw [dedK] at h ⊢
    by_cases hc:i=0∨¬ P i=P (i-1)
    · rw [if_pos hc] at h ⊢
      rw [List.length_append] at h
      simp at h
      rcases Nat.lt_or_ge (k+1) (dedK P i).length with h1 |h1
      · have e:∀ j,j<(dedK P i).length→nthP (dedK P i++[P i]) j=nthP (dedK P i) j:=fun j hj=>q7w (by rw [List.getElem?_append_left hj];exact q10 hj)
        rw [e k (by omega),e (k+1) h1]
        exact z2o P i k h1
      · obtain ⟨j,rfl⟩:∃ j,i=j+1:=⟨i-1,by
          rcases Nat.eq_zero_or_pos i with e |e
          · subst e;simp [dedK] at h1 h
          · omega⟩
        obtain ⟨h2,h3⟩:=q9h P j
        have hk:k=(dedK P (j+1)).length-1:=by omega
        have e1:nthP (dedK P (j+1)++[P (j+1)]) k=P j:=q7w (by rw [List.getElem?_append_left (by omega),hk];exact h2)
        have e2:nthP (dedK P (j+1)++[P (j+1)]) (k+1)=P (j+1):=q7w (by rw [List.getElem?_append_right (by omega),show k+1-(dedK P (j+1)).length=0 by omega];rfl)
        rw [e1,e2]
        rcases hc with hc |hc
        · omega
        · intro e;exact hc (by simpa using e.symm)
    · rw [if_neg hc] at h ⊢
      exact z2o P i k h
def tlN (l:List (Int × Int)):Nat→Nat
  | 0=>0
  | 1=>1
  | m+2=>if nthP l 0=nthP l (m+1) then tlN l (m+1) else m+2
theorem z8v (l:List (Int × Int)):∀ m,tlN l m≤m∧(0<m→0<tlN l m)
  | 0=>by simp [tlN]
  | 1=>by simp [tlN]
  | m+2=>by
    have:=z8v l (m+1)
    rw [tlN];split <;> omega
theorem z8w (l:List (Int × Int)):∀ m,1<tlN l m→¬ nthP l 0=nthP l (tlN l m-1)
  | 0,h=>by simp [tlN] at h
  | 1,h=>by simp [tlN] at h
  | m+2,h=>by
    rw [tlN] at h ⊢
    by_cases e:nthP l 0=nthP l (m+1)
    · rw [if_pos e] at h ⊢;exact z8w l (m+1) h
    · rw [if_neg e];exact e
theorem z8x {l:List (Int × Int)} {m:Nat} (h:1<m) (e:nthP l 0=nthP l (m-1)):tlN l m=tlN l (m-1):=by
  obtain ⟨k,rfl⟩:∃ k,m=k+2:=⟨m-2,by omega⟩
  rw [tlN,if_pos (by simpa using e)];rfl
theorem q8m {l:List (Int × Int)} {m:Nat} (h:m≤1∨¬ nthP l 0=nthP l (m-1)):tlN l m=m:=by
  match m,h with
  | 0,_=>rfl
  | 1,_=>rfl
  | k+2,h => 
    have h':¬ nthP l 0=nthP l (k+1):=by
      rcases h with h |h
      · omega
      · exact h
    rw [tlN,if_neg h']
def q0s (P:Nat→Int × Int) (n:Nat) (cl:Bool):List (Int × Int):=if cl=true then (dedK P n).take (tlN (dedK P n) (dedK P n).length) else dedK P n
theorem q42 {P:Nat→Int × Int} {n:Nat} {cl:Bool} {i:Nat} (h:i<(q0s P n cl).length):nthP (q0s P n cl) i=nthP (dedK P n) i∧i<(dedK P n).length:=by
  unfold q0s at h ⊢
  split at h
  · rename_i e
    rw [if_pos e]
    rw [List.length_take] at h
    exact ⟨q7w (by rw [List.getElem?_take,if_pos (by omega)];exact q10 (by omega)),by omega⟩
  · rename_i e
    rw [if_neg e];exact ⟨rfl,h⟩
theorem q51 (P:Nat→Int × Int) (n:Nat) (cl:Bool):(q0s P n cl).length≤n:=by
  have h1:=q3v P n
  unfold q0s
  split
  · rw [List.length_take];omega
  · exact h1
def nxP (n i:Nat):Nat:=if i+1=n then 0 else i+1
theorem z3o {P:Nat→Int × Int} {n:Nat} {cl:Bool} {i:Nat} (h2:1<(q0s P n cl).length) (h:i+1<(q0s P n cl).length∨cl=true∧i<(q0s P n cl).length):¬ nthP (q0s P n cl) i=nthP (q0s P n cl) (nxP (q0s P n cl).length i):=by
  unfold nxP
  by_cases e:i+1=(q0s P n cl).length
  · rw [if_pos e]
    obtain ⟨rfl,hi⟩:cl=true∧i<(q0s P n cl).length:=by
      rcases h with h |h
      · omega
      · exact h
    have k1:=q42 hi
    have k2:=q42 (show 0<(q0s P n true).length by omega)
    rw [k1.1,k2.1]
    have hl:(q0s P n true).length=tlN (dedK P n) (dedK P n).length:=by
      have:=(z8v (dedK P n) (dedK P n).length).1
      unfold q0s
      rw [if_pos rfl,List.length_take];omega
    have:=z8w (dedK P n) (dedK P n).length (by omega)
    rw [← hl,show (q0s P n true).length-1=i by omega] at this
    exact fun h=>this h.symm
  · rw [if_neg e]
    have hi:i+1<(q0s P n cl).length:=by rcases h with h |h <;> omega
    have k1:=q42 (show i<(q0s P n cl).length by omega)
    have k2:=q42 hi
    rw [k1.1,k2.1]
    exact z2o P n i k2.2
theorem z1s {P:Nat→Int × Int} {n:Nat} {cl:Bool} {Q:Int × Int→Prop} (h:∀ j,j<n→Q (P j)) {i:Nat} (hi:i<(q0s P n cl).length):Q (nthP (q0s P n cl) i):=by
  obtain ⟨h1,h2⟩:=q42 hi
  rw [h1]
  exact z0z h _ (List.mem_of_getElem? (q10 h2))
theorem q94 {a b K:Int} (hb:1≤b) (h1:-(K*b)≤a) (h2:a≤K*b):-K≤near a b∧near a b≤K:=by
  have e0:=Int.emod_add_mul_ediv a b
  have e1:=Int.emod_nonneg a (show b≠0 by omega)
  have e2:=Int.emod_lt_of_pos a (show 0<b by omega)
  have q1:-K≤a/b:=by rw [Int.le_ediv_iff_mul_le (by omega)];rw [Int.neg_mul];exact h1
  have q2:a/b≤K:=by
    have:a/b<K+1:=by rw [Int.ediv_lt_iff_lt_mul (by omega),Int.add_mul];omega
    omega
  unfold near
  split
  · rename_i hc
    refine ⟨by omega,?_⟩
    rcases Int.lt_or_le (a/b) K with h |h
    · omega
    · have e:a/b=K:=by omega
      rw [e,Int.mul_comm] at e0
      omega
  · exact ⟨q1,q2⟩
noncomputable def sLen (dx dy:Int):Int:=q7d (1048576*(dx*dx+dy*dy))
theorem z7q (x:Int):0≤x*x:=by
  rcases Int.le_total 0 x with h |h
  · exact Int.mul_nonneg h h
  · have:=Int.mul_nonneg (show 0≤-x by omega) (show 0≤-x by omega)
    rwa [Int.neg_mul_neg] at this
theorem q95 {n r t:Int} (h:q3j n r) (ht:t * t≤n):t≤r:=by
  obtain ⟨h0,h1,h2⟩:=h
  rcases Int.lt_or_le r t with h3 |h3
  · have:=Int.mul_le_mul (show r+1≤t by omega) (show r+1≤t by omega) (by omega) (by omega)
    omega
  · exact h3
theorem z60 (x:Int):(1024*x)*(1024*x)=1048576*(x*x):=by
  rw [Int.mul_assoc,Int.mul_left_comm x,← Int.mul_assoc];rfl
theorem x1f {dx dy:Int}:(1024*dx≤sLen dx dy∧-(1024*dx)≤sLen dx dy)∧(1024*dy≤sLen dx dy∧-(1024*dy)≤sLen dx dy):=by
  have h1:=z7q dx
  have h2:=z7q dy
  have hr:=q6t (n:=1048576*(dx*dx+dy*dy)) (by omega)
  have e1:=z60 dx
  have e2:=z60 dy
  have e3:(-(1024*dx))*(-(1024*dx))=1048576*(dx*dx):=by rw [Int.neg_mul_neg];exact e1
  have e4:(-(1024*dy))*(-(1024*dy))=1048576*(dy*dy):=by rw [Int.neg_mul_neg];exact e2
  exact ⟨⟨q95 hr (by omega),q95 hr (by omega)⟩,q95 hr (by omega),q95 hr (by omega)⟩
noncomputable def q5k (w x dx dy:Int):Int:=near (512*w*x) (sLen dx dy)
theorem z00 {w x dx dy:Int} (hw:1≤w∧w≤1024) (hd:¬ (dx=0∧dy=0)) (hx:x=dx∨x=-dx∨x=dy∨x=-dy):1≤sLen dx dy∧(-512≤q5k w x dx dy∧q5k w x dx dy≤512):=by
  obtain ⟨⟨a1,a2⟩,a3,a4⟩:=x1f (dx:=dx) (dy:=dy)
  have hl:1≤sLen dx dy:=by omega
  refine ⟨hl,?_⟩
  have hx1:1024*x≤sLen dx dy:=by rcases hx with rfl |rfl |rfl |rfl <;> omega
  have hx2:-(1024*x)≤sLen dx dy:=by rcases hx with rfl |rfl |rfl |rfl <;> omega
  have m1:w*(1024*x)≤1024*sLen dx dy:=by
    rcases Int.le_total 0 x with h |h
    · exact Int.le_trans (Int.mul_le_mul_of_nonneg_right hw.2 (by omega)) (Int.mul_le_mul_of_nonneg_left hx1 (by omega))
    · have:=Int.mul_le_mul_of_nonneg_left (show 1024*x≤0 by omega) (show 0≤w by omega)
      omega
  have m2:-(1024*sLen dx dy)≤w*(1024*x):=by
    rcases Int.le_total 0 x with h |h
    · have:=Int.mul_nonneg (show 0≤w by omega) (show 0≤1024*x by omega)
      omega
    · have h3:=Int.mul_le_mul_of_nonneg_right hw.2 (show 0≤-(1024*x) by omega)
      have h4:=Int.mul_le_mul_of_nonneg_left hx2 (show (0:Int)≤1024 by omega)
      rw [Int.mul_neg] at h3
      omega
  have e:w*(1024*x)=2*(512*w*x):=by
    rw [Int.mul_left_comm,Int.mul_assoc 512];omega
  unfold q5k
  exact q94 hl (by omega) (by omega)
end Go.Proofs.Ytegpkpilfgohhaa
namespace Go.Proofs.Ytegpkpilfgohhaa
open Go.RowKit
def q2x (c:Nat→List Value):Nat→List Value
  | 0=>[]
  | n+1=>q2x c n++c n
theorem q43 {c:Nat→List Value} {sz:Nat}:∀ {n:Nat},(∀ x,x<n→(c x).length=sz)→(q2x c n).length=n*sz
  | 0,_=>by simp [q2x]
  | n+1,h=>by
    rw [q2x,List.length_append,q43 (n:=n) (fun x hx=>h x (by omega)),h n (by omega),Nat.add_mul,Nat.one_mul]
theorem q9i {c:Nat→List Value} {sz:Nat}:∀ {n:Nat},(∀ x,x<n→(c x).length=sz)→∀ {x j:Nat},x<n→j<sz→(q2x c n)[x*sz+j]? = (c x)[j]?
  | 0,_,_,_,hx,_=>by omega
  | n+1,h,x,j,hx,hj=>by
    have hl:=q43 (n:=n) (fun x hx=>h x (by omega))
    rw [q2x]
    rcases Nat.lt_or_ge x n with h1 |h1
    · have:x*sz+j<n*sz:=by
        have:=Nat.mul_le_mul_right sz (show x+1≤n by omega)
        rw [Nat.add_mul,Nat.one_mul] at this;omega
      rw [List.getElem?_append_left (by omega)]
      exact q9i (fun x hx=>h x (by omega)) h1 hj
    · obtain rfl:x=n:=by omega
      rw [List.getElem?_append_right (by omega),hl]
      congr 1;omega
theorem q5l {c d:Nat→List Value}:∀ {n:Nat},(∀ x,x<n→c x=d x)→q2x c n=q2x d n
  | 0,_=>rfl
  | n+1,h=>by rw [q2x,q2x,q5l (n:=n) (fun x hx=>h x (by omega)),h n (by omega)]
structure ElsM (G:Mem) (A:Option Addr) (sz n:Nat) (c:Nat→List Value):Prop where
  len:∀ x,x<n→(c x).length=sz
  at_:∀ x,x<n→∃ b off,A=some ⟨b,off,none⟩∧∀ j v,(c x)[j]? = some v→G.cell? ⟨b,off+x*sz+j,none⟩=some v
section
variable {G G':Mem} {A:Option Addr} {sz n:Nat} {c d:Nat→List Value}
theorem ElsM.mono (h:ElsM G A sz n c) (hle:G.le G'):ElsM G' A sz n c:=⟨h.len,fun x hx=>by
  obtain ⟨b,off,h1,h2⟩:=h.at_ x hx
  exact ⟨b,off,h1,fun j v hj=>hle.cell (h2 j v hj)⟩⟩
theorem ElsM.less (h:ElsM G A sz n c) {k:Nat} (hk:k≤n):ElsM G A sz k c:=⟨fun x hx=>h.len x (by omega),fun x hx=>h.at_ x (by omega)⟩
theorem ElsM.congr (h:ElsM G A sz n c) (e:∀ x,x<n→c x=d x):ElsM G A sz n d :=
  ⟨fun x hx=>by rw [← e x hx];exact h.len x hx,fun x hx=>by rw [← e x hx];exact h.at_ x hx⟩
theorem ElsM.none:ElsM G A sz 0 c:=⟨fun x hx=>by omega,fun x hx=>by omega⟩
theorem ElsM.drop (h:ElsM G A sz n c) {k:Nat} (hk:k≤n):ElsM G (A.map fun p=>p.add (k*sz)) sz (n-k) (fun x=>c (k+x)) :=
  ⟨fun x hx=>h.len _ (by omega),fun x hx=>by
    obtain ⟨b,off,rfl,h2⟩:=h.at_ (k+x) (by omega)
    refine ⟨b,off+k*sz,by simp [q0z],fun j v hj=>?_⟩
    have:=h2 j v hj
    rwa [show off+k*sz+x*sz+j=off+(k+x)*sz+j by rw [Nat.add_mul];omega]⟩
theorem ElsM.cells (h:ElsM G A sz n c) {x:Nat} (hx:x<n):∃ p:Addr,A=some p∧∀ K:List Value→Prop,K (c x)→OldCells G (p.add (x*sz)) sz K:=by
  obtain ⟨b,off,rfl,h2⟩:=h.at_ x hx
  refine ⟨_,rfl,fun K k=>q50 _ (h.len x hx) (fun j u hj=>?_) k⟩
  rw [q0z,q0z]
  exact h2 j u hj
theorem ElsM.cell (h:ElsM G A sz n c) {x j:Nat} {v:Value} (hx:x<n) (hj:(c x)[j]? = some v):∃ p:Addr,A=some p∧G.cell? (Addr.add (p.add (x*sz)) j)=some v:=by
  obtain ⟨b,off,rfl,h2⟩:=h.at_ x hx
  exact ⟨_,rfl,by rw [q0z,q0z];exact h2 j v hj⟩
theorem ElsM.frozen (hl:∀ x,x<n→(c x).length=sz) (h:q2x c n=[]∨∃ b,A=some ⟨b,0,Option.none⟩∧∀ (j:Nat) u,(q2x c n)[j]? = some u→G.cell? ⟨b,j,Option.none⟩=some u) (hA:0<sz):ElsM G A sz n c:=by
  refine ⟨hl,fun x hx=>?_⟩
  rcases h with h |⟨b,rfl,h⟩
  · have:=q43 hl
    rw [h] at this
    have h1:0<n*sz:=Nat.mul_pos (by omega) hA
    simp at this;omega
  · refine ⟨b,0,rfl,fun j v hj=>?_⟩
    have hjl:j<sz:=by have:=(List.getElem?_eq_some_iff.1 hj).1;rw [hl x hx] at this;exact this
    rw [Nat.zero_add]
    exact h _ _ (by rw [q9i hl hx hjl];exact hj)
end
end Go.Proofs.Ytegpkpilfgohhaa
