/-
  Merged: XStrokeLaw, XRow, XFreeze.
-/
import Derived.Test.YtegpkpilfgohhaaGreatMrg7
set_option linter.unusedVariables false
set_option linter.unusedSimpArgs false
set_option linter.unnecessarySimpa false
namespace Go.Proofs.YtegpkpilfgohhaaGreat
open Go.RowKit
def dedK (P:Nat→Int × Int):Nat→List (Int × Int)
  | 0=>[]
  | i+1=>if i=0∨¬ P i=P (i-1) then dedK P i++[P i] else dedK P i
theorem z2s (P:Nat→Int × Int):∀ i,(dedK P (i+1))[(dedK P (i+1)).length-1]? = some (P i)∧0<(dedK P (i+1)).length
  | 0=>by simp [dedK]
  | i+1=>by
    obtain ⟨h1,h2⟩:=z2s P i
    rw [dedK]
    by_cases h:P (i+1)=P i
    · rw [if_neg (by simp [h])]
      rw [h];exact ⟨h1,h2⟩
    · rw [if_pos (.inr (by simpa using h))]
      simp
theorem q44 (P:Nat→Int × Int):∀ i,(dedK P i).length≤i
  | 0=>Nat.le_refl _
  | i+1=>by
    have:=q44 P i
    rw [dedK];split
    · simp;omega
    · omega
def nthP (l:List (Int × Int)) (i:Nat):Int × Int:=l[i]!
theorem q1h {l:List (Int × Int)} {i:Nat} (h:i<l.length):l[i]? = some (nthP l i):=by simp [nthP,h]
theorem z0s {l:List (Int × Int)} {i:Nat} {p:Int × Int} (h:l[i]? = some p):nthP l i=p:=by
  have h1:=(List.getElem?_eq_some_iff.1 h).1
  have:=q1h h1
  rw [h] at this;exact (Option.some.inj this).symm
theorem z4t {P:Nat→Int × Int} {Q:Int × Int→Prop}:∀ {i:Nat},(∀ j,j<i→Q (P j))→∀ p∈dedK P i,Q p
  | 0,_,p,hp=>by simp [dedK] at hp
  | i+1,h,p,hp=>by
    rw [dedK] at hp
    split at hp
    · rcases List.mem_append.1 hp with hp |hp
      · exact z4t (fun j hj=>h j (by omega)) p hp
      · simp at hp;subst hp;exact h i (by omega)
    · exact z4t (fun j hj=>h j (by omega)) p hp
theorem z64 (P:Nat→Int × Int):∀ i k,k+1<(dedK P i).length→¬ nthP (dedK P i) k=nthP (dedK P i) (k+1)
  | 0,k,h=>by simp [dedK] at h
  | i+1,k,h=>by
    rw [dedK] at h ⊢
    by_cases hc:i=0∨¬ P i=P (i-1)
    · rw [if_pos hc] at h ⊢
      rw [List.length_append] at h
      simp at h
      rcases Nat.lt_or_ge (k+1) (dedK P i).length with h1 |h1
      · have e:∀ j,j<(dedK P i).length→nthP (dedK P i++[P i]) j=nthP (dedK P i) j:=fun j hj=>z0s (by rw [List.getElem?_append_left hj];exact q1h hj)
        rw [e k (by omega),e (k+1) h1]
        exact z64 P i k h1
      · obtain ⟨j,rfl⟩:∃ j,i=j+1:=⟨i-1,by
          rcases Nat.eq_zero_or_pos i with e |e
          · subst e;simp [dedK] at h1 h
          · omega⟩
        obtain ⟨h2,h3⟩:=z2s P j
        have hk:k=(dedK P (j+1)).length-1:=by omega
        have e1:nthP (dedK P (j+1)++[P (j+1)]) k=P j:=z0s (by rw [List.getElem?_append_left (by omega),hk];exact h2)
        have e2:nthP (dedK P (j+1)++[P (j+1)]) (k+1)=P (j+1):=z0s (by rw [List.getElem?_append_right (by omega),show k+1-(dedK P (j+1)).length=0 by omega];rfl)
        rw [e1,e2]
        rcases hc with hc |hc
        · omega
        · intro e;exact hc (by simpa using e.symm)
    · rw [if_neg hc] at h ⊢
      exact z64 P i k h
def tlN (l:List (Int × Int)):Nat→Nat
  | 0=>0
  | 1=>1
  | m+2=>if nthP l 0=nthP l (m+1) then tlN l (m+1) else m+2
theorem x5e (l:List (Int × Int)):∀ m,tlN l m≤m∧(0<m→0<tlN l m)
  | 0=>by simp [tlN]
  | 1=>by simp [tlN]
  | m+2=>by
    have:=x5e l (m+1)
    rw [tlN];split <;> omega
theorem x5f (l:List (Int × Int)):∀ m,1<tlN l m→¬ nthP l 0=nthP l (tlN l m-1)
  | 0,h=>by simp [tlN] at h
  | 1,h=>by simp [tlN] at h
  | m+2,h=>by
    rw [tlN] at h ⊢
    by_cases e:nthP l 0=nthP l (m+1)
    · rw [if_pos e] at h ⊢;exact x5f l (m+1) h
    · rw [if_neg e];exact e
theorem x5g {l:List (Int × Int)} {m:Nat} (h:1<m) (e:nthP l 0=nthP l (m-1)):tlN l m=tlN l (m-1):=by
  obtain ⟨k,rfl⟩:∃ k,m=k+2:=⟨m-2,by omega⟩
  rw [tlN,if_pos (by simpa using e)];rfl
theorem z1l {l:List (Int × Int)} {m:Nat} (h:m≤1∨¬ nthP l 0=nthP l (m-1)):tlN l m=m:=by
  match m,h with
  | 0,_=>rfl
  | 1,_=>rfl
  | k+2,h => 
    have h':¬ nthP l 0=nthP l (k+1):=by
      rcases h with h |h
      · omega
      · exact h
    rw [tlN,if_neg h']
def q0v (P:Nat→Int × Int) (n:Nat) (cl:Bool):List (Int × Int):=if cl=true then (dedK P n).take (tlN (dedK P n) (dedK P n).length) else dedK P n
theorem q62 {P:Nat→Int × Int} {n:Nat} {cl:Bool} {i:Nat} (h:i<(q0v P n cl).length):nthP (q0v P n cl) i=nthP (dedK P n) i∧i<(dedK P n).length:=by
  unfold q0v at h ⊢
  split at h
  · rename_i e
    rw [if_pos e]
    rw [List.length_take] at h
    exact ⟨z0s (by rw [List.getElem?_take,if_pos (by omega)];exact q1h (by omega)),by omega⟩
  · rename_i e
    rw [if_neg e];exact ⟨rfl,h⟩
theorem q59 (P:Nat→Int × Int) (n:Nat) (cl:Bool):(q0v P n cl).length≤n:=by
  have h1:=q44 P n
  unfold q0v
  split
  · rw [List.length_take];omega
  · exact h1
def nxP (n i:Nat):Nat:=if i+1=n then 0 else i+1
theorem z79 {P:Nat→Int × Int} {n:Nat} {cl:Bool} {i:Nat} (h2:1<(q0v P n cl).length) (h:i+1<(q0v P n cl).length∨cl=true∧i<(q0v P n cl).length):¬ nthP (q0v P n cl) i=nthP (q0v P n cl) (nxP (q0v P n cl).length i):=by
  unfold nxP
  by_cases e:i+1=(q0v P n cl).length
  · rw [if_pos e]
    obtain ⟨rfl,hi⟩:cl=true∧i<(q0v P n cl).length:=by
      rcases h with h |h
      · omega
      · exact h
    have k1:=q62 hi
    have k2:=q62 (show 0<(q0v P n true).length by omega)
    rw [k1.1,k2.1]
    have hl:(q0v P n true).length=tlN (dedK P n) (dedK P n).length:=by
      have:=(x5e (dedK P n) (dedK P n).length).1
      unfold q0v
      rw [if_pos rfl,List.length_take];omega
    have:=x5f (dedK P n) (dedK P n).length (by omega)
    rw [← hl,show (q0v P n true).length-1=i by omega] at this
    exact fun h=>this h.symm
  · rw [if_neg e]
    have hi:i+1<(q0v P n cl).length:=by rcases h with h |h <;> omega
    have k1:=q62 (show i<(q0v P n cl).length by omega)
    have k2:=q62 hi
    rw [k1.1,k2.1]
    exact z64 P n i k2.2
theorem z1m {P:Nat→Int × Int} {n:Nat} {cl:Bool} {Q:Int × Int→Prop} (h:∀ j,j<n→Q (P j)) {i:Nat} (hi:i<(q0v P n cl).length):Q (nthP (q0v P n cl) i):=by
  obtain ⟨h1,h2⟩:=q62 hi
  rw [h1]
  exact z4t h _ (List.mem_of_getElem? (q1h h2))
theorem z3m {a b K:Int} (hb:1≤b) (h1:-(K*b)≤a) (h2:a≤K*b):-K≤near a b∧near a b≤K:=by
  have e0:=Int.emod_add_mul_ediv a b
  have e1:=Int.emod_nonneg a (show b≠0 by omega)
  have e2:=Int.emod_lt_of_pos a (show 0<b by omega)
  have q1:-K≤a/b:=by rw [Int.le_ediv_iff_mul_le (by omega)];rw [Int.neg_mul];exact h1
  have q2:a/b≤K:=by
    have:a/b<K+1:=by rw [Int.ediv_lt_iff_lt_mul (by omega),Int.add_mul];omega
    omega
  unfold near
  split
  · rename_i hc
    refine ⟨by omega,?_⟩
    rcases Int.lt_or_le (a/b) K with h |h
    · omega
    · have e:a/b=K:=by omega
      rw [e,Int.mul_comm] at e0
      omega
  · exact ⟨q1,q2⟩
noncomputable def sLen (dx dy:Int):Int:=q4u (1048576*(dx*dx+dy*dy))
theorem z3n (x:Int):0≤x*x:=by
  rcases Int.le_total 0 x with h |h
  · exact Int.mul_nonneg h h
  · have:=Int.mul_nonneg (show 0≤-x by omega) (show 0≤-x by omega)
    rwa [Int.neg_mul_neg] at this
theorem q81 {n r t:Int} (h:q4k n r) (ht:t * t≤n):t≤r:=by
  obtain ⟨h0,h1,h2⟩:=h
  rcases Int.lt_or_le r t with h3 |h3
  · have:=Int.mul_le_mul (show r+1≤t by omega) (show r+1≤t by omega) (by omega) (by omega)
    omega
  · exact h3
theorem x21 (x:Int):(1024*x)*(1024*x)=1048576*(x*x):=by
  rw [Int.mul_assoc,Int.mul_left_comm x,← Int.mul_assoc];rfl
theorem x82 {dx dy:Int}:(1024*dx≤sLen dx dy∧-(1024*dx)≤sLen dx dy)∧(1024*dy≤sLen dx dy∧-(1024*dy)≤sLen dx dy):=by
  have h1:=z3n dx
  have h2:=z3n dy
  have hr:=q4c (n:=1048576*(dx*dx+dy*dy)) (by omega)
  have e1:=x21 dx
  have e2:=x21 dy
  have e3:(-(1024*dx))*(-(1024*dx))=1048576*(dx*dx):=by rw [Int.neg_mul_neg];exact e1
  have e4:(-(1024*dy))*(-(1024*dy))=1048576*(dy*dy):=by rw [Int.neg_mul_neg];exact e2
  exact ⟨⟨q81 hr (by omega),q81 hr (by omega)⟩,q81 hr (by omega),q81 hr (by omega)⟩
noncomputable def q7p (w x dx dy:Int):Int:=near (512*w*x) (sLen dx dy)
theorem z4u {w x dx dy:Int} (hw:1≤w∧w≤1024) (hd:¬ (dx=0∧dy=0)) (hx:x=dx∨x=-dx∨x=dy∨x=-dy):1≤sLen dx dy∧(-512≤q7p w x dx dy∧q7p w x dx dy≤512):=by
  obtain ⟨⟨a1,a2⟩,a3,a4⟩:=x82 (dx:=dx) (dy:=dy)
  have hl:1≤sLen dx dy:=by omega
  refine ⟨hl,?_⟩
  have hx1:1024*x≤sLen dx dy:=by rcases hx with rfl |rfl |rfl |rfl <;> omega
  have hx2:-(1024*x)≤sLen dx dy:=by rcases hx with rfl |rfl |rfl |rfl <;> omega
  have m1:w*(1024*x)≤1024*sLen dx dy:=by
    rcases Int.le_total 0 x with h |h
    · exact Int.le_trans (Int.mul_le_mul_of_nonneg_right hw.2 (by omega)) (Int.mul_le_mul_of_nonneg_left hx1 (by omega))
    · have:=Int.mul_le_mul_of_nonneg_left (show 1024*x≤0 by omega) (show 0≤w by omega)
      omega
  have m2:-(1024*sLen dx dy)≤w*(1024*x):=by
    rcases Int.le_total 0 x with h |h
    · have:=Int.mul_nonneg (show 0≤w by omega) (show 0≤1024*x by omega)
      omega
    · have h3:=Int.mul_le_mul_of_nonneg_right hw.2 (show 0≤-(1024*x) by omega)
      have h4:=Int.mul_le_mul_of_nonneg_left hx2 (show (0:Int)≤1024 by omega)
      rw [Int.mul_neg] at h3
      omega
  have e:w*(1024*x)=2*(512*w*x):=by
    rw [Int.mul_left_comm,Int.mul_assoc 512];omega
  unfold q7p
  exact z3m hl (by omega) (by omega)
end Go.Proofs.YtegpkpilfgohhaaGreat
namespace Go.Proofs.YtegpkpilfgohhaaGreat
open Go.RowKit
def q1s (c:Nat→List Value):Nat→List Value
  | 0=>[]
  | n+1=>q1s c n++c n
theorem q4l {c:Nat→List Value} {sz:Nat}:∀ {n:Nat},(∀ x,x<n→(c x).length=sz)→(q1s c n).length=n*sz
  | 0,_=>by simp [q1s]
  | n+1,h=>by
    rw [q1s,List.length_append,q4l (n:=n) (fun x hx=>h x (by omega)),h n (by omega),Nat.add_mul,Nat.one_mul]
theorem q9x {c:Nat→List Value} {sz:Nat}:∀ {n:Nat},(∀ x,x<n→(c x).length=sz)→∀ {x j:Nat},x<n→j<sz→(q1s c n)[x*sz+j]? = (c x)[j]?
  | 0,_,_,_,hx,_=>by omega
  | n+1,h,x,j,hx,hj=>by
    have hl:=q4l (n:=n) (fun x hx=>h x (by omega))
    rw [q1s]
    rcases Nat.lt_or_ge x n with h1 |h1
    · have:x*sz+j<n*sz:=by
        have:=Nat.mul_le_mul_right sz (show x+1≤n by omega)
        rw [Nat.add_mul,Nat.one_mul] at this;omega
      rw [List.getElem?_append_left (by omega)]
      exact q9x (fun x hx=>h x (by omega)) h1 hj
    · obtain rfl:x=n:=by omega
      rw [List.getElem?_append_right (by omega),hl]
      congr 1;omega
theorem q45 {c d:Nat→List Value}:∀ {n:Nat},(∀ x,x<n→c x=d x)→q1s c n=q1s d n
  | 0,_=>rfl
  | n+1,h=>by rw [q1s,q1s,q45 (n:=n) (fun x hx=>h x (by omega)),h n (by omega)]
theorem z8a (c:Nat→List Value) (m:Nat):∀ (n:Nat),q1s c (m+n)=q1s c m++q1s (fun x=>c (m+x)) n
  | 0=>by simp [q1s]
  | n+1=>by rw [← Nat.add_assoc,q1s,z8a c m n,q1s,List.append_assoc]
theorem z8b {c:Nat→List Value}:∀ {n:Nat},(∀ x,x<n→∀ v∈c x,v.oneCell'=true)→∀ v∈q1s c n,v.oneCell'=true
  | 0,_,v,hv=>by simp [q1s] at hv
  | n+1,h,v,hv=>by
    rw [q1s,List.mem_append] at hv
    rcases hv with hv |hv
    · exact z8b (n:=n) (fun x hx=>h x (by omega)) v hv
    · exact h n (by omega) v hv
structure ElsM (G:Mem) (A:Option Addr) (sz n:Nat) (c:Nat→List Value):Prop where
  len:∀ x,x<n→(c x).length=sz
  at_:∀ x,x<n→∃ b off,A=some ⟨b,off,none⟩∧∀ j v,(c x)[j]? = some v→G.cell? ⟨b,off+x*sz+j,none⟩=some v
section
variable {G G':Mem} {A:Option Addr} {sz n:Nat} {c d:Nat→List Value}
theorem ElsM.mono (h:ElsM G A sz n c) (hle:G.le G'):ElsM G' A sz n c:=⟨h.len,fun x hx=>by
  obtain ⟨b,off,h1,h2⟩:=h.at_ x hx
  exact ⟨b,off,h1,fun j v hj=>hle.cell (h2 j v hj)⟩⟩
theorem ElsM.less (h:ElsM G A sz n c) {k:Nat} (hk:k≤n):ElsM G A sz k c:=⟨fun x hx=>h.len x (by omega),fun x hx=>h.at_ x (by omega)⟩
theorem ElsM.congr (h:ElsM G A sz n c) (e:∀ x,x<n→c x=d x):ElsM G A sz n d :=
  ⟨fun x hx=>by rw [← e x hx];exact h.len x hx,fun x hx=>by rw [← e x hx];exact h.at_ x hx⟩
theorem ElsM.none:ElsM G A sz 0 c:=⟨fun x hx=>by omega,fun x hx=>by omega⟩
theorem ElsM.drop (h:ElsM G A sz n c) {k:Nat} (hk:k≤n):ElsM G (A.map fun p=>p.add (k*sz)) sz (n-k) (fun x=>c (k+x)) :=
  ⟨fun x hx=>h.len _ (by omega),fun x hx=>by
    obtain ⟨b,off,rfl,h2⟩:=h.at_ (k+x) (by omega)
    refine ⟨b,off+k*sz,by simp [q02],fun j v hj=>?_⟩
    have:=h2 j v hj
    rwa [show off+k*sz+x*sz+j=off+(k+x)*sz+j by rw [Nat.add_mul];omega]⟩
theorem ElsM.cells (h:ElsM G A sz n c) {x:Nat} (hx:x<n):∃ p:Addr,A=some p∧∀ K:List Value→Prop,K (c x)→OldCells G (p.add (x*sz)) sz K:=by
  obtain ⟨b,off,rfl,h2⟩:=h.at_ x hx
  refine ⟨_,rfl,fun K k=>q58 _ (h.len x hx) (fun j u hj=>?_) k⟩
  rw [q02,q02]
  exact h2 j u hj
theorem ElsM.cell (h:ElsM G A sz n c) {x j:Nat} {v:Value} (hx:x<n) (hj:(c x)[j]? = some v):∃ p:Addr,A=some p∧G.cell? (Addr.add (p.add (x*sz)) j)=some v:=by
  obtain ⟨b,off,rfl,h2⟩:=h.at_ x hx
  exact ⟨_,rfl,by rw [q02,q02];exact h2 j v hj⟩
theorem ElsM.frozen (hl:∀ x,x<n→(c x).length=sz) (h:q1s c n=[]∨∃ b,A=some ⟨b,0,Option.none⟩∧∀ (j:Nat) u,(q1s c n)[j]? = some u→G.cell? ⟨b,j,Option.none⟩=some u) (hA:0<sz):ElsM G A sz n c:=by
  refine ⟨hl,fun x hx=>?_⟩
  rcases h with h |⟨b,rfl,h⟩
  · have:=q4l hl
    rw [h] at this
    have h1:0<n*sz:=Nat.mul_pos (by omega) hA
    simp at this;omega
  · refine ⟨b,0,rfl,fun j v hj=>?_⟩
    have hjl:j<sz:=by have:=(List.getElem?_eq_some_iff.1 hj).1;rw [hl x hx] at this;exact this
    rw [Nat.zero_add]
    exact h _ _ (by rw [q9x hl hx hjl];exact hj)
end
end Go.Proofs.YtegpkpilfgohhaaGreat
namespace Go.Proofs.YtegpkpilfgohhaaGreat
open Go.RowKit
def FlatM (G:Mem) (A:Option Addr) (xs:List Value):Prop:=(A=none∧xs=[])∨∃ b off,A=some ⟨b,off,none⟩∧∀ (j:Nat) u,xs[j]? = some u→G.cell? ⟨b,off+j,none⟩=some u
theorem FlatM.mono {G G':Mem} {A:Option Addr} {xs:List Value} (h:FlatM G A xs) (hle:G.le G'):FlatM G' A xs:=by
  rcases h with h |⟨b,off,h1,h2⟩
  · exact .inl h
  · exact .inr ⟨b,off,h1,fun j u hj=>hle.cell (h2 j u hj)⟩
theorem FlatM.els {G:Mem} {A:Option Addr} {sz n:Nat} {c:Nat→List Value} (h:FlatM G A (q1s c n)) (hl:∀ x,x<n→(c x).length=sz) (hs:0<sz):ElsM G A sz n c:=by
  refine ⟨hl,fun x hx=>?_⟩
  rcases h with ⟨_,h⟩ |⟨b,off,h1,h2⟩
  · have:=q4l hl
    rw [h] at this
    have h1:0<n*sz:=Nat.mul_pos (by omega) hs
    simp at this;omega
  · refine ⟨b,off,h1,fun j v hj=>?_⟩
    have hjl:j<sz:=by have:=(List.getElem?_eq_some_iff.1 hj).1;rw [hl x hx] at this;exact this
    rw [Nat.add_assoc]
    exact h2 _ _ (by rw [q9x hl hx hjl];exact hj)
def Mem.plus (G:Mem) (w:World) (g:Nat):Mem:=fun b=>if b=g then w.heap[g]? else G b
theorem Mem.le_plus {G:Mem} {w:World} (h:G.holds w) (g:Nat):G.le (G.plus w g):=fun b o hb=>by
  unfold Mem.plus
  split
  · rename_i e;subst e;exact h b o hb
  · exact hb
theorem Mem.plus_holds {G:Mem} {w:World} (h:G.holds w) (g:Nat):(G.plus w g).holds w:=fun b o hb=>by
  unfold Mem.plus at hb
  split at hb
  · rename_i e;subst e;exact hb
  · exact h b o hb
section
variable {w0:World} {G0:Mem} {β:Nm} {hp:List Blk} {G:Mem} {w:World}
theorem HR.freeze (hr:HR w0 G0 β hp G w) {k:Nat} {v:Value} {E:TypeId} {sz n:Nat} {xs:List Value} (hv:β k=some v) (hk:nthB hp k=.own E sz n xs) :
    ∃ A cap G',v=.slice A n cap∧G.le G'∧n≤cap∧cap≤maxLen∧FlatM G' A xs∧HR w0 G0 β (hp.set k .gone) G' w:=by
  obtain ⟨x,hx1,hx2⟩:=hr.blk k v hv
  have hkx:=q0x hk rfl
  rw [hkx] at hx1;cases hx1
  obtain ⟨⟨hlen,hown⟩,hfree⟩:=hx2
  rcases hown with ⟨rfl,h5⟩ |⟨g,cap,cur,rfl,h5,h6,h7,h8,h9,h10⟩
  · subst h5
    exact ⟨none,0,G,rfl,Mem.le_refl _,Nat.le_refl _,Nat.zero_le _,.inl ⟨rfl,by simpa using hlen⟩,hr.forget k⟩
  · have hcell:∀ (j:Nat) u,xs[j]? = some u→(G.plus w g).cell? ⟨g,0+j,none⟩=some u:=fun j u hj=>by
      have h11:(G.plus w g) g=some (.cells cur E (0,0)):=by simp [Mem.plus,h6]
      unfold Mem.cell?
      rw [Nat.zero_add,h11]
      rw [← h10] at hj
      rw [List.getElem?_take] at hj
      split at hj
      · simpa using hj
      · cases hj
    have hf:=hr.forget k
    refine ⟨some ⟨g,0,none⟩,cap,G.plus w g,rfl,Mem.le_plus hr.hold g,h7,h8,.inr ⟨g,0,rfl,hcell⟩,⟨hf.below,Mem.plus_holds hr.hold g,Mem.le_trans hr.sub (Mem.le_plus hr.hold g),fun b o hb=>?_,fun j z hj=>?_,hf.inj,hf.wrt⟩⟩
    · unfold Mem.plus at hb
      split at hb
      · rename_i e1;subst e1
        exact .inr h5
      · exact hr.grow b o hb
    · obtain ⟨x,hx1,hx2⟩:=hf.blk j z hj
      refine ⟨x,hx1,?_⟩
      have hne:∀ b,x.live=true→q0i z=some b→b≠g:=fun b hl hb e=>by
        subst e
        by_cases hjk:j=k
        · subst hjk
          rw [List.getElem?_set] at hx1
          simp [(List.getElem?_eq_some_iff.1 hkx).1] at hx1
          subst hx1;simp [Blk.live] at hl
        · have hx3:hp[j]? = some x:=by rw [List.getElem?_set,if_neg (fun e=>hjk e.symm)] at hx1;exact hx1
          exact hr.inj j k z _ x _ b hjk hj hv hx3 hkx hl rfl hb rfl
      cases x with
      | gone=>trivial
      | muts S=>exact hx2.elim
      | cells t l =>
        obtain ⟨b,c,q1,q2,q3,q4,q5⟩:=hx2
        refine ⟨b,c,q1,q2,?_,q4,q5⟩
        have:=hne b rfl (by rw [q1];rfl)
        simp [Mem.plus,this,q3]
      | own e sz' n' xs' =>
        obtain ⟨q1,q2⟩:=hx2
        refine ⟨q1,fun b hb=>?_⟩
        have:=hne b rfl hb
        simp [Mem.plus,this,q2 b hb]
      | lp i fr st p =>
        obtain ⟨q1,q2,q3,q4⟩:=hx2
        refine ⟨q1,q2,?_,q4⟩
        have:=hne i.l rfl (by rw [q1];rfl)
        simp [Mem.plus,this,q3]
      | mp f ks vs =>
        obtain ⟨b,ys,q1,q2,q3,q4⟩:=hx2
        refine ⟨b,ys,q1,q2,?_,q4⟩
        have:=hne b rfl (by rw [q1];rfl)
        simp [Mem.plus,this,q3]
end
def AV.plug (k:Nat) (v:Value):AV→AV
  | .own j=>match Nat.beq j k with
    | true=>.val v
    | false=>.own j
  | a=>a
theorem AV.plug_rel {β:Nm} {k:Nat} {v:Value} (hv:β k=some v) {a:AV} {y:Value} (h:a.rel β y):(a.plug k v).rel β y:=by
  cases a with
  | own j =>
    show AV.rel β (match Nat.beq j k with
      | true=>.val v
      | false=>.own j) y
    cases e:Nat.beq j k
    · exact h
    · have:=Nat.eq_of_beq_eq_true e
      subst this
      simp only [AV.rel] at h ⊢
      rw [hv] at h;cases h.1;rfl
  | _=>exact h
def q8o (k:Nat) (v:Value) (l:List AV):List AV:=l.map (AV.plug k v)
theorem q39 {β:Nm} {k:Nat} {v:Value} (hv:β k=some v):∀ {l:List AV} {ys:List Value},AV.rels β l ys→AV.rels β (q8o k v l) ys
  | [],_,h=>h
  | a::l,ys,h=>by
    simp only [q8o,List.map_cons,AV.rels] at h ⊢
    obtain ⟨y,zs,h1,h2,h3⟩:=h
    exact ⟨y,zs,h1,AV.plug_rel hv h2,q39 hv h3⟩
def Blk.plug (k:Nat) (v:Value):Blk→Blk
  | .cells t l=>.cells t (q8o k v l)
  | .lp i l st p=>.lp i (q8o k v l) st p
  | .mp f ks l=>.mp f ks (q8o k v l)
  | x=>x
theorem HR.plug {w0:World} {G0:Mem} {β:Nm} {hp:List Blk} {G:Mem} {w:World} (hr:HR w0 G0 β hp G w) {k:Nat} {v:Value} (hv:β k=some v):HR w0 G0 β (hp.map (Blk.plug k v)) G w:=by
  have live:∀ x:Blk,(x.plug k v).live=x.live:=fun x=>by cases x <;> rfl
  refine ⟨hr.below,hr.hold,hr.sub,hr.grow,fun j y hj=>?_,fun i j y y' x x' b hne hi hj hx hx' hl hl' hy=>?_,z3d hr.wrt (fun x S e=>by cases x <;> first |exact e |cases e)⟩
  · obtain ⟨x,h1,h2⟩:=hr.blk j y hj
    refine ⟨x.plug k v,by rw [List.getElem?_map,h1];rfl,?_⟩
    cases x with
    | gone=>trivial
    | muts S=>exact h2.elim
    | cells t l =>
      obtain ⟨b,c,q1,q2,q3,q4,q5⟩:=h2
      exact ⟨b,c,q1,q2,q3,q4,q39 hv q5⟩
    | own e sz n xs=>exact h2
    | lp i fr st p =>
      obtain ⟨q1,q2,q3,tm,q4,q5⟩:=h2
      exact ⟨q1,q2,q3,tm,q4,q39 hv q5⟩
    | mp f ks vs =>
      obtain ⟨b,ys,q1,q2,q3,q4,q5,q6⟩:=h2
      exact ⟨b,ys,q1,q2,q3,q4,q5,q39 hv q6⟩
  · rw [List.getElem?_map] at hx hx'
    cases h1:hp[i]? with
    | none=>rw [h1] at hx;cases hx
    | some z =>
      cases h2:hp[j]? with
      | none=>rw [h2] at hx';cases hx'
      | some z' =>
        rw [h1] at hx;rw [h2] at hx'
        simp only [Option.map_some,Option.some.injEq] at hx hx'
        subst hx;subst hx'
        rw [live] at hl hl'
        exact hr.inj i j y y' z z' b hne hi hj h1 h2 hl hl' hy
def q53 (k:Nat) (v:Value) (l:List AV):(List AV→Prop)→Prop :=
  List.rec (motive:=fun _=>(List AV→Prop)→Prop) (fun K=>K []) (fun a _ ih K=>ih fun m=>q2r (AV.plug k v a) fun a'=>K (a'::m)) l
theorem q6q (k:Nat) (v:Value):∀ (l:List AV) (K:List AV→Prop),q53 k v l K=K (q8o k v l)
  | [],_=>rfl
  | a::l,K=>by
    show q53 k v l (fun m=>q2r (AV.plug k v a) fun a'=>K (a'::m))=_
    rw [q6q k v l,q19];rfl
def z0t (k:Nat) (v:Value) (l:List Blk):(List Blk→Prop)→Prop :=
  List.rec (motive:=fun _=>(List Blk→Prop)→Prop) (fun K=>K []) (fun x _ ih K=>ih fun m=>match x with
    | .cells t cs=>q53 k v cs fun cs'=>K (.cells t cs'::m)
    | .own e sz n xs=>K (.own e sz n xs::m)
    | .gone=>K (.gone::m)
    | .muts S=>K (.muts S::m)
    | .lp i fr st p=>q53 k v fr fun fr'=>K (.lp i fr' st p::m)
    | .mp f ks vs=>q53 k v vs fun vs'=>K (.mp f ks vs'::m)) l
theorem q72 (k:Nat) (v:Value):∀ (l:List Blk) (K:List Blk→Prop),z0t k v l K=K (l.map (Blk.plug k v))
  | [],_=>rfl
  | x::l,K=>by
    show z0t k v l (fun m=>match x with
      | .cells t cs=>q53 k v cs fun cs'=>K (.cells t cs'::m)
      | .own e sz n xs=>K (.own e sz n xs::m)
      | .gone=>K (.gone::m)
      | .muts S=>K (.muts S::m)
      | .lp i fr st p=>q53 k v fr fun fr'=>K (.lp i fr' st p::m)
      | .mp f ks vs=>q53 k v vs fun vs'=>K (.mp f ks vs'::m))=_
    rw [q72 k v l]
    cases x with
    | cells t cs=>simp only [q6q];rfl
    | own e sz n xs=>rfl
    | gone=>rfl
    | muts S=>rfl
    | lp i fr st p=>simp only [q6q];rfl
    | mp f ks vs=>simp only [q6q];rfl
theorem q4q {β:Nm}:∀ {hp:List Blk} {l:List AV} {ys:List Value} {j:Nat},AV.rels β l ys→.own j∈l→∃ v,β j=some v
  | _,[],_,_,_,h=>by cases h
  | hp,a::l,ys,j,hr,h=>by
    simp only [AV.rels] at hr
    obtain ⟨y,zs,_,h2,h3⟩:=hr
    rcases List.mem_cons.1 h with rfl |h
    · simp only [AV.rel] at h2
      exact ⟨y,h2.1⟩
    · exact q4q (hp:=hp) h3 h
def q33 (k:Nat):List AV→Bool
  | []=>false
  | .own j::l=>match Nat.beq j k with
    | true=>true
    | false=>q33 k l
  | _::l=>q33 k l
theorem q3e {k:Nat}:∀ {l:List AV},q33 k l=true→.own k∈l
  | [],h=>by cases h
  | a::l,h=>by
    cases a <;> try exact List.mem_cons_of_mem _ (q3e (l:=l) (by simpa [q33] using h))
    rename_i j
    unfold q33 at h
    split at h
    · rename_i e
      rw [Nat.eq_of_beq_eq_true e]
      exact List.mem_cons_self ..
    · exact List.mem_cons_of_mem _ (q3e h)
theorem x3y {P:Program} {T:Tab} (hT:TOk P T) (q k:Nat) {op:Op} {fr:List AV} {hp:List Blk} {G:Mem} {K:AV→List Blk→Mem→Prop} {t:TypeId} {l:List AV} {E:TypeId} {sz n:Nat} {xs:List Value}
    (hq:nthB hp q=.cells t l) (hin:q33 k l=true) (hk:nthB hp k=.own E sz n xs) {tt:TypeId} {d x:Operand} (hop:op=.call ⟨.builtin .append,⟨[d,x]⟩,⟨[tt,tt]⟩⟩) {dd:AV} {o c nn:Nat} (hd:ev fr d=dd) (hx:ev fr x=.sli q o nn c)
    (h:∀ A cap G',G.le G'→n≤cap→cap≤maxLen→FlatM G' A xs→z0t k (.slice A n cap) hp fun hp1=>setF hp1 k .gone fun hp2=>z0k T tt dd (.sli q o nn c) hp2 G' K):OpP P op fr hp G K:=by
  refine ⟨fun o' ho=>OpS.of_run fun w0 G0 β a w hr hf=>?_⟩
  obtain ⟨y,hy⟩:∃ y,β q=some y:=by
    have:=q2s hf x
    rw [hx] at this
    simp only [AV.rel] at this
    obtain ⟨v,_,h1,_⟩:=this
    exact ⟨v,h1⟩
  obtain ⟨xb,h1,h2⟩:=hr.blk q y hy
  rw [q0x hq rfl] at h1;cases h1
  obtain ⟨b,cs,rfl,q2,q3,q4,q5⟩:=h2
  obtain ⟨v,hv⟩:=q4q (hp:=hp) q5 (q3e hin)
  obtain ⟨A,cap,G',rfl,hle,hn,hm,hF,hr'⟩:=hr.freeze hv hk
  have h3:=h A cap G' hle hn hm hF
  rw [q72,q1c] at h3
  have hr2:=hr'.plug hv
  have e:(hp.set k .gone).map (Blk.plug k (.slice A n cap))=(hp.map (Blk.plug k (.slice A n cap))).set k .gone:=by
    rw [List.map_set];rfl
  rw [e] at hr2
  have:=q8j hT (o:=o') (d:=d) (x:=x) (t:=tt) (fr:=fr) (ho.trans hop) (by rw [hd,hx];exact h3)
  exact this w0 G0 β a w hr2 hf
def AV.plugB (k:Nat) (b:Nat):AV→AV
  | .sli j o n c=>match Nat.beq j k with
    | true=>.val (.slice (some ⟨b,o,none⟩) n c)
    | false=>.sli j o n c
  | .ptr j o=>match Nat.beq j k with
    | true=>.val (.pointer (some ⟨b,o,none⟩))
    | false=>.ptr j o
  | a=>a
theorem AV.plugB_rel {β:Nm} {k b:Nat} {v:Value} (hv:β k=some v) (hb:q0i v=some b) {a:AV} {y:Value} (h:a.rel β y):(a.plugB k b).rel β y:=by
  cases a with
  | sli j o n c =>
    show AV.rel β (match Nat.beq j k with
      | true=>.val (.slice (some ⟨b,o,none⟩) n c)
      | false=>.sli j o n c) y
    cases e:Nat.beq j k
    · exact h
    · have:=Nat.eq_of_beq_eq_true e
      subst this
      simp only [AV.rel] at h ⊢
      obtain ⟨v',b',h1,h2,h3⟩:=h
      rw [hv] at h1;cases h1
      rw [hb] at h2;cases h2
      exact h3
  | ptr j o =>
    show AV.rel β (match Nat.beq j k with
      | true=>.val (.pointer (some ⟨b,o,none⟩))
      | false=>.ptr j o) y
    cases e:Nat.beq j k
    · exact h
    · have:=Nat.eq_of_beq_eq_true e
      subst this
      simp only [AV.rel] at h ⊢
      obtain ⟨v',b',h1,h2,h3⟩:=h
      rw [hv] at h1;cases h1
      rw [hb] at h2;cases h2
      exact h3
  | _=>exact h
def q9d (k b:Nat) (l:List AV):List AV:=l.map (AV.plugB k b)
theorem q5y {β:Nm} {k b:Nat} {v:Value} (hv:β k=some v) (hb:q0i v=some b):∀ {l:List AV} {ys:List Value},AV.rels β l ys→AV.rels β (q9d k b l) ys
  | [],_,h=>h
  | a::l,ys,h=>by
    simp only [q9d,List.map_cons,AV.rels] at h ⊢
    obtain ⟨y,zs,h1,h2,h3⟩:=h
    exact ⟨y,zs,h1,AV.plugB_rel hv hb h2,q5y hv hb h3⟩
def z65 (k b:Nat) (l:List AV):(List AV→Prop)→Prop :=
  List.rec (motive:=fun _=>(List AV→Prop)→Prop) (fun K=>K []) (fun a _ ih K=>ih fun m=>q2r (AV.plugB k b a) fun a'=>K (a'::m)) l
theorem z5z (k b:Nat):∀ (l:List AV) (K:List AV→Prop),z65 k b l K=K (q9d k b l)
  | [],_=>rfl
  | a::l,K=>by
    show z65 k b l (fun m=>q2r (AV.plugB k b a) fun a'=>K (a'::m))=_
    rw [z5z k b l,q19];rfl
theorem HR.stand {w0:World} {G0:Mem} {β:Nm} {hp:List Blk} {G:Mem} {w:World} (hr:HR w0 G0 β hp G w) {k:Nat} {v:Value} {t:TypeId} {l:List AV} {xs:List Value} (hv:β k=some v) (hk:nthB hp k=.cells t l) (hl:l=xs.map .val) :
    ∃ b G',q0i v=some b∧G.le G'∧(∀ (j:Nat) u,xs[j]? = some u→G'.cell? ⟨b,j,none⟩=some u)∧HR w0 G0 β (hp.set k .gone) G' w:=by
  obtain ⟨x,hx1,hx2⟩:=hr.blk k v hv
  have hkx:=q0x hk rfl
  rw [hkx] at hx1;cases hx1
  obtain ⟨g,c,rfl,h5,h6,h7,h8⟩:=hx2
  rw [hl] at h8
  have hc:=q2a h8
  have hcell:∀ (j:Nat) u,xs[j]? = some u→(G.plus w g).cell? ⟨g,j,none⟩=some u:=fun j u hj=>by
    have h11:(G.plus w g) g=some (.cells c t (0,0)):=by simp [Mem.plus,h7]
    unfold Mem.cell?
    rw [h11]
    rw [← hc] at hj
    simpa using hj
  have hf:=hr.forget k
  refine ⟨g,G.plus w g,rfl,Mem.le_plus hr.hold g,hcell,⟨hf.below,Mem.plus_holds hr.hold g,Mem.le_trans hr.sub (Mem.le_plus hr.hold g),fun b o hb=>?_,fun j z hj=>?_,hf.inj,hf.wrt⟩⟩
  · unfold Mem.plus at hb
    split at hb
    · rename_i e1;subst e1
      exact .inr h5
    · exact hr.grow b o hb
  · obtain ⟨x,hx1,hx2⟩:=hf.blk j z hj
    refine ⟨x,hx1,?_⟩
    have hne:∀ b,x.live=true→q0i z=some b→b≠g:=fun b hl hb e=>by
      subst e
      by_cases hjk:j=k
      · subst hjk
        rw [List.getElem?_set] at hx1
        simp [(List.getElem?_eq_some_iff.1 hkx).1] at hx1
        subst hx1;simp [Blk.live] at hl
      · have hx3:hp[j]? = some x:=by rw [List.getElem?_set,if_neg (fun e=>hjk e.symm)] at hx1;exact hx1
        exact hr.inj j k z _ x _ b hjk hj hv hx3 hkx hl rfl hb rfl
    cases x with
    | gone=>trivial
    | muts S=>exact hx2.elim
    | cells t l =>
      obtain ⟨b,c,q1,q2,q3,q4,q5⟩:=hx2
      refine ⟨b,c,q1,q2,?_,q4,q5⟩
      have:=hne b rfl (by rw [q1];rfl)
      simp [Mem.plus,this,q3]
    | own e sz' n' xs' =>
      obtain ⟨q1,q2⟩:=hx2
      refine ⟨q1,fun b hb=>?_⟩
      have:=hne b rfl hb
      simp [Mem.plus,this,q2 b hb]
    | lp i fr st p =>
      obtain ⟨q1,q2,q3,q4⟩:=hx2
      refine ⟨q1,q2,?_,q4⟩
      have:=hne i.l rfl (by rw [q1];rfl)
      simp [Mem.plus,this,q3]
    | mp f ks vs =>
      obtain ⟨b,ys,q1,q2,q3,q4⟩:=hx2
      refine ⟨b,ys,q1,q2,?_,q4⟩
      have:=hne b rfl (by rw [q1];rfl)
      simp [Mem.plus,this,q3]
def z0u (k:Nat):List AV→Bool
  | []=>false
  | .sli j _ _ _::l=>match Nat.beq j k with
    | true=>true
    | false=>z0u k l
  | _::l=>z0u k l
theorem z2t {β:Nm} {k:Nat}:∀ {l:List AV} {ys:List Value},AV.rels β l ys→z0u k l=true→∃ v,β k=some v
  | [],_,_,h=>by cases h
  | a::l,ys,hr,h=>by
    simp only [AV.rels] at hr
    obtain ⟨y,zs,_,h2,h3⟩:=hr
    cases a with
    | sli j o n c =>
      unfold z0u at h
      split at h
      · rename_i e
        have:=Nat.eq_of_beq_eq_true e
        subst this
        simp only [AV.rel] at h2
        obtain ⟨v,_,h4,_⟩:=h2
        exact ⟨v,h4⟩
      · exact z2t h3 h
    | _=>exact z2t h3 (by simpa [z0u] using h)
theorem z39 {P:Program} {f:FuncId} (k:Nat) (hen:∀ vs w,(callFunc f vs).run P w=.ok (.enter f vs) w) {args:List AV} {hp:List Blk} {G:Mem} {K:AV→List Blk→Mem→Prop} {t:TypeId} {l:List AV} {xs:List Value} (hin:z0u k args=true) (hk:nthB hp k=.cells t l) (hl:l=xs.map .val)
    (h:∀ b G',G.le G'→(∀ (j:Nat) u,xs[j]? = some u→G'.cell? ⟨b,j,none⟩=some u)→setF hp k .gone fun hp'=>z65 k b args fun args'=>CallP P f args' hp' G' K):CallP P f args hp G K:=by
  refine ⟨hen,fun w0 G0 β w vs hr ha=>?_⟩
  obtain ⟨v,hv⟩:=z2t ha hin
  obtain ⟨b,G',hb,hle,hc,hr'⟩:=hr.stand hv hk hl
  have h0:=h b G' hle hc
  rw [q1c,z5z] at h0
  exact h0.calls w0 G0 β w vs hr' (q5y hv hb ha)
end Go.Proofs.YtegpkpilfgohhaaGreat
