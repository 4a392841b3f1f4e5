/-
  Merged: XMixed2, XRow, XPieces, XPcLaw, XFreeze.
-/
import Derived.Test.YtkicdhaklnmonaaGreatMrg13
set_option linter.unusedVariables false
set_option linter.unusedSimpArgs false
set_option linter.unnecessarySimpa false
namespace Go.Proofs.YtkicdhaklnmonaaGreat
theorem z8r (L:List Run):q2h (nthR L) L.length=L:=by
  apply List.ext_getElem?
  intro i
  unfold q2h
  rw [List.getElem?_map]
  by_cases h:i<L.length
  · rw [List.getElem?_range h,List.getElem?_eq_getElem h]
    simp [nthR,List.getElem?_eq_getElem h]
  · rw [List.getElem?_eq_none (by simpa using h),List.getElem?_eq_none (by omega)];rfl
theorem q52 (L:List Run) (x y:Int):hasB (nthR L) L.length x y=hasL L x y:=by rw [← x6v,z8r]
def ValidL (L:List Run):Prop:=Valid (nthR L) L.length
theorem ValidL.ok {L:List Run} (h:ValidL L):okR L:=by have:=Valid.ok h;rwa [z8r] at this
theorem ValidL.bd {L:List Run} (h:ValidL L) {r:Run} (hr:r∈L):(-8192≤r.y∧r.y≤8191)∧(-8192≤r.x0∧r.x0<r.x1∧r.x1≤8192):=by
  obtain ⟨i,hi⟩:=List.mem_iff_getElem?.1 hr
  have:=Valid.bd h i (List.getElem?_eq_some_iff.1 hi).1
  rwa [q4m hi] at this
theorem q9m {L:List Run} (h:okR L):∀ {i j:Nat} {r s:Run},i<j→L[i]? = some r→L[j]? = some s→r.y<s.y∨(r.y=s.y∧r.x1<s.x0):=by
  induction L with
  | nil=>intro i j r s _ hi;simp at hi
  | cons a l ih =>
    intro i j r s hij hi hj
    cases j with
    | zero=>omega
    | succ j =>
      cases i with
      | zero =>
        simp at hi;subst hi
        exact h.2.1 s (List.mem_of_getElem? (by simpa using hj))
      | succ i=>exact ih h.2.2 (i:=i) (j:=j) (by omega) (by simpa using hi) (by simpa using hj)
theorem ValidL.mk {L:List Run} (h:okR L) (hb:∀ r∈L,(-8192≤r.y∧r.y≤8191)∧(-8192≤r.x0∧r.x1≤8192)):ValidL L:=by
  refine ⟨fun i hi=>?_,fun i j hij hj=>?_⟩
  · have e:L[i]? = some L[i]:=List.getElem?_eq_getElem hi
    rw [q4m e]
    have h1:=hb _ (List.getElem_mem hi)
    have h2:=q56 h (List.getElem_mem hi)
    omega
  · have e:L[i]? = some L[i]:=List.getElem?_eq_getElem (by omega)
    have e':L[j]? = some L[j]:=List.getElem?_eq_getElem hj
    rw [q4m e,q4m e']
    exact q9m h hij e e'
theorem z4g {l:List Int} (h:l.Pairwise (·<·)) {B:Nat} (hb:∀ z∈l,0≤z∧z<B):l.length≤B:=by
  have key:∀ (l:List Int) (a:Int),l.Pairwise (·<·)→(∀ z∈l,a≤z∧z<B)→a≤B→(l.length:Int)≤B-a:=by
    intro l
    induction l with
    | nil=>intro a _ _ ha;simp;omega
    | cons x l ih =>
      intro a hp hz ha
      obtain ⟨h1,h2⟩:=List.pairwise_cons.1 hp
      have h3:=hz x (by simp)
      have:=ih (x+1) h2 (fun z hz'=>⟨by have:=h1 z hz';omega,(hz z (by simp [hz'])).2⟩) (by omega)
      simp;omega
  have:=key l 0 h hb (by omega)
  omega
theorem z56 {L:List Run} (h:okR L) (hb:∀ r∈L,(-8192≤r.y∧r.y≤8191)∧(-8192≤r.x0∧r.x1≤8192)):L.length≤268451840:=by
  have hp:(L.map fun r=>(r.y+8192)*16385+(r.x1+8192)).Pairwise (·<·):=by
    rw [List.pairwise_map,List.pairwise_iff_getElem]
    intro i j hi hj hij
    have h1:=q9m h hij (List.getElem?_eq_getElem hi) (List.getElem?_eq_getElem hj)
    have h2:=hb _ (List.getElem_mem hi)
    have h3:=hb _ (List.getElem_mem hj)
    have h4:=q56 h (List.getElem_mem hj)
    have h5:=q56 h (List.getElem_mem hi)
    omega
  have:=z4g hp (B:=268451840) (fun z hz=>by
    obtain ⟨r,hr,rfl⟩:=List.mem_map.1 hz
    have h1:=hb r hr
    have h2:=q56 h hr
    omega)
  simpa using this
theorem ValidL.length {L:List Run} (h:ValidL L):L.length≤268451840:=z56 h.ok fun r hr=>by have:=h.bd hr;omega
def opB (c:Int) (p q:Bool):Bool:=if c=1 then p&&q else if c=2 then p&&!q else if c=3 then p != q else p||q
theorem z2x (c:Int):opB c false false=false:=by unfold opB;split <;> (try split) <;> (try split) <;> rfl
theorem v1b {c:Int} {p q:Bool} (h:opB c p q=true):p=true∨q=true:=by
  cases p
  · cases q
    · rw [z2x] at h;cases h
    · exact .inr rfl
  · exact .inl rfl
theorem x9b {op:Bool→Bool→Bool} (hop:op false false=false) {ra rb:Nat→Run} {n m:Nat} (va:Valid ra n) (vb:Valid rb m):∀ (k i j:Nat) (fy fx:Int) (out:List Run),(2*n-i)+(2*m-j)=k→Sweep op ra rb n m i j fy fx out→∃ M,okR M∧∀ x y,hasR M x y↔op (hasB ra n x y) (hasB rb m x y)=true:=by
  intro k
  induction k with
  | zero =>
    intro i j fy fx out hk h
    have h1:=h.hi
    have h2:=h.hj
    have e1:i=2*n:=by omega
    have e2:j=2*m:=by omega
    subst e1;subst e2
    exact ⟨out,h.done hop va vb⟩
  | succ k ih =>
    intro i j fy fx out hk h
    have h1:=h.hi
    have h2:=h.hj
    by_cases hA:i<2*n∧(j<2*m→q1d (eY ra i) (eX ra i) (eY rb j) (eX rb j))
    · exact ih (i+1) j _ _ _ (by omega) (h.stepA hop va vb hA.1 hA.2)
    · by_cases hB:j<2*m
      · refine ih i (j+1) _ _ _ (by omega) (h.stepB hop va vb hB fun hi=>?_)
        have:¬ q1d (eY ra i) (eX ra i) (eY rb j) (eX rb j):=fun hle=>hA ⟨hi,fun _=>hle⟩
        unfold q1d at *;omega
      · exact absurd ⟨by omega,fun h=>absurd h hB⟩ hA
theorem x6y {c:Int} {La Lb:List Run} (va:ValidL La) (vb:ValidL Lb):∃ M,okR M∧∀ x y,hasR M x y↔opB c (hasL La x y) (hasL Lb x y)=true:=by
  obtain ⟨M,h1,h2⟩:=x9b (op:=opB c) (z2x c) va vb _ 0 0 0 0 [] rfl (Sweep.start _ _ _ _ _ _ _)
  exact ⟨M,h1,fun x y=>by rw [h2,q52,q52]⟩
open Classical in
noncomputable def mixR (c:Int) (La Lb:List Run):List Run:=if h:∃ M,okR M∧∀ x y,hasR M x y↔opB c (hasL La x y) (hasL Lb x y)=true then h.choose else []
theorem q88 {c:Int} {La Lb:List Run} (va:ValidL La) (vb:ValidL Lb):okR (mixR c La Lb)∧∀ x y,hasR (mixR c La Lb) x y↔opB c (hasL La x y) (hasL Lb x y)=true:=by
  unfold mixR
  rw [dif_pos (x6y va vb)]
  exact (x6y (c:=c) va vb).choose_spec
theorem v1c {c:Int} {La Lb M:List Run} (va:ValidL La) (vb:ValidL Lb) (h:okR M) (h2:∀ x y,hasR M x y↔opB c (hasL La x y) (hasL Lb x y)=true):M=mixR c La Lb :=
  z3r h (q88 va vb).1 fun x y=>(h2 x y).trans ((q88 va vb).2 x y).symm
theorem x6z {L:List Run} (h:ValidL L) {x y:Int} (hx:hasL L x y=true):(-8192≤y∧y≤8191)∧(-8192≤x∧x≤8191):=by
  obtain ⟨r,hr,h1,h2,h3⟩:=hasL_iff.1 hx
  have:=h.bd hr
  omega
theorem x04 {c:Int} {La Lb M:List Run} (va:ValidL La) (vb:ValidL Lb) (h:okR M) (h2:∀ x y,hasR M x y→opB c (hasL La x y) (hasL Lb x y)=true):∀ r∈M,(-8192≤r.y∧r.y≤8191)∧(-8192≤r.x0∧r.x1≤8192):=fun r hr=>by
  have hlt:=q56 h hr
  have key:∀ x,r.x0≤x→x<r.x1→(-8192≤r.y∧r.y≤8191)∧(-8192≤x∧x≤8191):=fun x h3 h4=>by
    rcases v1b (h2 x r.y ⟨r,hr,rfl,h3,h4⟩) with h5 |h5
    · exact x6z va h5
    · exact x6z vb h5
  have k1:=key r.x0 (Int.le_refl _) hlt
  have k2:=key (r.x1-1) (by omega) (by omega)
  omega
theorem x4w {c:Int} {La Lb:List Run} (va:ValidL La) (vb:ValidL Lb):ValidL (mixR c La Lb) :=
  ValidL.mk (q88 va vb).1 (x04 va vb (q88 va vb).1 fun x y h=>((q88 va vb).2 x y).1 h)
end Go.Proofs.YtkicdhaklnmonaaGreat
namespace Go.Proofs.YtkicdhaklnmonaaGreat
open Go.RowKit
def q0q (c:Nat→List Value):Nat→List Value
  | 0=>[]
  | n+1=>q0q c n++c n
theorem q2l {c:Nat→List Value} {sz:Nat}:∀ {n:Nat},(∀ x,x<n→(c x).length=sz)→(q0q c n).length=n*sz
  | 0,_=>by simp [q0q]
  | n+1,h=>by
    rw [q0q,List.length_append,q2l (n:=n) (fun x hx=>h x (by omega)),h n (by omega),Nat.add_mul,Nat.one_mul]
theorem q41 {c:Nat→List Value} {sz:Nat}:∀ {n:Nat},(∀ x,x<n→(c x).length=sz)→∀ {x j:Nat},x<n→j<sz→(q0q c n)[x*sz+j]? = (c x)[j]?
  | 0,_,_,_,hx,_=>by omega
  | n+1,h,x,j,hx,hj=>by
    have hl:=q2l (n:=n) (fun x hx=>h x (by omega))
    rw [q0q]
    rcases Nat.lt_or_ge x n with h1 |h1
    · have:x*sz+j<n*sz:=by
        have:=Nat.mul_le_mul_right sz (show x+1≤n by omega)
        rw [Nat.add_mul,Nat.one_mul] at this;omega
      rw [List.getElem?_append_left (by omega)]
      exact q41 (fun x hx=>h x (by omega)) h1 hj
    · obtain rfl:x=n:=by omega
      rw [List.getElem?_append_right (by omega),hl]
      congr 1;omega
theorem q3u {c d:Nat→List Value}:∀ {n:Nat},(∀ x,x<n→c x=d x)→q0q c n=q0q d n
  | 0,_=>rfl
  | n+1,h=>by rw [q0q,q0q,q3u (n:=n) (fun x hx=>h x (by omega)),h n (by omega)]
theorem q8f (c:Nat→List Value) (m:Nat):∀ (n:Nat),q0q c (m+n)=q0q c m++q0q (fun x=>c (m+x)) n
  | 0=>by simp [q0q]
  | n+1=>by rw [← Nat.add_assoc,q0q,q8f c m n,q0q,List.append_assoc]
theorem z8s {c:Nat→List Value}:∀ {n:Nat},(∀ x,x<n→∀ v∈c x,v.oneCell'=true)→∀ v∈q0q c n,v.oneCell'=true
  | 0,_,v,hv=>by simp [q0q] at hv
  | n+1,h,v,hv=>by
    rw [q0q,List.mem_append] at hv
    rcases hv with hv |hv
    · exact z8s (n:=n) (fun x hx=>h x (by omega)) v hv
    · exact h n (by omega) v hv
structure ElsM (G:Mem) (A:Option Addr) (sz n:Nat) (c:Nat→List Value):Prop where
  len:∀ x,x<n→(c x).length=sz
  at_:∀ x,x<n→∃ b off,A=some ⟨b,off,none⟩∧∀ j v,(c x)[j]? = some v→G.cell? ⟨b,off+x*sz+j,none⟩=some v
section
variable {G G':Mem} {A:Option Addr} {sz n:Nat} {c d:Nat→List Value}
theorem ElsM.mono (h:ElsM G A sz n c) (hle:G.le G'):ElsM G' A sz n c:=⟨h.len,fun x hx=>by
  obtain ⟨b,off,h1,h2⟩:=h.at_ x hx
  exact ⟨b,off,h1,fun j v hj=>hle.cell (h2 j v hj)⟩⟩
theorem ElsM.less (h:ElsM G A sz n c) {k:Nat} (hk:k≤n):ElsM G A sz k c:=⟨fun x hx=>h.len x (by omega),fun x hx=>h.at_ x (by omega)⟩
theorem ElsM.congr (h:ElsM G A sz n c) (e:∀ x,x<n→c x=d x):ElsM G A sz n d :=
  ⟨fun x hx=>by rw [← e x hx];exact h.len x hx,fun x hx=>by rw [← e x hx];exact h.at_ x hx⟩
theorem ElsM.none:ElsM G A sz 0 c:=⟨fun x hx=>by omega,fun x hx=>by omega⟩
theorem ElsM.drop (h:ElsM G A sz n c) {k:Nat} (hk:k≤n):ElsM G (A.map fun p=>p.add (k*sz)) sz (n-k) (fun x=>c (k+x)) :=
  ⟨fun x hx=>h.len _ (by omega),fun x hx=>by
    obtain ⟨b,off,rfl,h2⟩:=h.at_ (k+x) (by omega)
    refine ⟨b,off+k*sz,by simp [q0m],fun j v hj=>?_⟩
    have:=h2 j v hj
    rwa [show off+k*sz+x*sz+j=off+(k+x)*sz+j by rw [Nat.add_mul];omega]⟩
theorem ElsM.cells (h:ElsM G A sz n c) {x:Nat} (hx:x<n):∃ p:Addr,A=some p∧∀ K:List Value→Prop,K (c x)→OldCells G (p.add (x*sz)) sz K:=by
  obtain ⟨b,off,rfl,h2⟩:=h.at_ x hx
  refine ⟨_,rfl,fun K k=>q10 _ (h.len x hx) (fun j u hj=>?_) k⟩
  rw [q0m,q0m]
  exact h2 j u hj
theorem ElsM.cell (h:ElsM G A sz n c) {x j:Nat} {v:Value} (hx:x<n) (hj:(c x)[j]? = some v):∃ p:Addr,A=some p∧G.cell? (Addr.add (p.add (x*sz)) j)=some v:=by
  obtain ⟨b,off,rfl,h2⟩:=h.at_ x hx
  exact ⟨_,rfl,by rw [q0m,q0m];exact h2 j v hj⟩
theorem ElsM.frozen (hl:∀ x,x<n→(c x).length=sz) (h:q0q c n=[]∨∃ b,A=some ⟨b,0,Option.none⟩∧∀ (j:Nat) u,(q0q c n)[j]? = some u→G.cell? ⟨b,j,Option.none⟩=some u) (hA:0<sz):ElsM G A sz n c:=by
  refine ⟨hl,fun x hx=>?_⟩
  rcases h with h |⟨b,rfl,h⟩
  · have:=q2l hl
    rw [h] at this
    have h1:0<n*sz:=Nat.mul_pos (by omega) hA
    simp at this;omega
  · refine ⟨b,0,rfl,fun j v hj=>?_⟩
    have hjl:j<sz:=by have:=(List.getElem?_eq_some_iff.1 hj).1;rw [hl x hx] at this;exact this
    rw [Nat.zero_add]
    exact h _ _ (by rw [q41 hl hx hjl];exact hj)
end
end Go.Proofs.YtkicdhaklnmonaaGreat
namespace Go.Proofs.YtkicdhaklnmonaaGreat
open Go.RowKit
set_option maxRecDepth 20000
structure PcD where
  L:List Run
  A:Option Addr
  q:Nat
  I:Nat→Int
instance:Inhabited PcD:=⟨⟨[],none,0,fun _=>0⟩⟩
def inkC (I:Nat→Int):List Value:=[.int .u8 (I 0),.int .u8 (I 1),.int .u8 (I 2),.int .u8 (I 3),.int .u8 (I 4),.int .u8 (I 5),.int .u8 (I 6),.int .u8 (I 7)]
def pcC (p:PcD):List Value:=.slice p.A p.L.length p.q::inkC p.I
structure PcsM (G:Mem) (A:Option Addr) (n:Nat) (p:Nat→PcD):Prop where
  rows:ElsM G A 9 n fun i=>pcC (p i)
  runs:∀ i,i<n→RunsM G (p i).A (p i).L
  room:∀ i,i<n→(p i).L.length≤(p i).q∧(p i).q≤maxLen
  ink:∀ i,i<n→∀ j,0≤(p i).I j∧(p i).I j≤255
theorem PcsM.mono {G G':Mem} {A:Option Addr} {n:Nat} {p:Nat→PcD} (h:PcsM G A n p) (hle:G.le G'):PcsM G' A n p :=
  ⟨h.rows.mono hle,fun i hi=>(h.runs i hi).mono hle,h.room,h.ink⟩
theorem PcsM.less {G:Mem} {A:Option Addr} {n k:Nat} {p:Nat→PcD} (h:PcsM G A n p) (hk:k≤n):PcsM G A k p :=
  ⟨h.rows.less hk,fun i hi=>h.runs i (by omega),fun i hi=>h.room i (by omega),fun i hi=>h.ink i (by omega)⟩
theorem PcsM.cells {G:Mem} {A:Option Addr} {n:Nat} {p:Nat→PcD} (h:PcsM G A n p) {i:Nat} (hi:i<n):∃ a:Addr,A=some a∧∀ K:List Value→Prop,K [.slice (p i).A (p i).L.length (p i).q,.int .u8 ((p i).I 0),.int .u8 ((p i).I 1),.int .u8 ((p i).I 2),.int .u8 ((p i).I 3),.int .u8 ((p i).I 4),.int .u8 ((p i).I 5),.int .u8 ((p i).I 6),.int .u8 ((p i).I 7)]→OldCells G (a.add (i*9)) 9 K:=h.rows.cells hi
theorem PcsM.head {G:Mem} {A:Option Addr} {n:Nat} {p:Nat→PcD} (h:PcsM G A n p) {i:Nat} (hi:i<n):∃ a:Addr,A=some a∧G.cell? (Addr.add (a.add (i*9)) 0)=some (.slice (p i).A (p i).L.length (p i).q):=h.rows.cell (j:=0) hi rfl
theorem PcsM.inks {G:Mem} {A:Option Addr} {n:Nat} {p:Nat→PcD} (h:PcsM G A n p) {i:Nat} (hi:i<n):∃ a:Addr,A=some a∧∀ K:List Value→Prop,K [.int .u8 ((p i).I 0),.int .u8 ((p i).I 1),.int .u8 ((p i).I 2),.int .u8 ((p i).I 3),.int .u8 ((p i).I 4),.int .u8 ((p i).I 5),.int .u8 ((p i).I 6),.int .u8 ((p i).I 7)]→OldCells G (Addr.add (a.add (i*9)) 1) 8 K:=by
  obtain ⟨b,off,rfl,h2⟩:=h.rows.at_ i hi
  refine ⟨_,rfl,fun K k=>q10 (inkC (p i).I) rfl (fun j u hj=>?_) k⟩
  rw [q0m,q0m,q0m]
  have:=h2 (j+1) u (by simpa [pcC] using hj)
  rwa [show off+i*9+1+j=off+i*9+(j+1) by omega]
def q1w (f:Nat→Int):Nat→Int
  | 0=>0
  | n+1=>if q1w f n≠0 then q1w f n else f n
theorem z0a {f:Nat→Int} {k:Nat} (h0:q1w f k=0) (h:f k≠0):∀ {n:Nat},k<n→q1w f n=f k:=by
  intro n hn
  induction n with
  | zero=>omega
  | succ n ih =>
    unfold q1w
    by_cases hk:k<n
    · rw [if_pos (by rw [ih hk];exact h),ih hk]
    · have:k=n:=by omega
      subst this
      rw [if_neg (by omega)]
theorem q5h {f:Nat→Int} {k:Nat} (h0:q1w f k=0) (h:f k=0):q1w f (k+1)=0:=by
  unfold q1w;rw [if_neg (by omega),h]
theorem q8y {f:Nat→Int}:∀ {n:Nat},q1w f n=0→∀ k,k<n→f k=0
  | 0,_,k,hk=>by omega
  | n+1,h,k,hk=>by
    unfold q1w at h
    split at h
    · rename_i h1;exact (h1 h).elim
    · rename_i h1
      rcases Nat.lt_or_ge k n with h2 |h2
      · exact q8y (Decidable.not_not.1 h1) k h2
      · have:k=n:=by omega
        subst this;exact h
def q3j (I:Nat→Int):Prop:=I 0=0∧I 1=0∧I 2=0∧I 3=0∧I 4=0∧I 5=0∧I 6=0∧I 7=0
def q3q (I J:Nat→Int):Prop:=I 0=J 0∧I 1=J 1∧I 2=J 2∧I 3=J 3∧I 4=J 4∧I 5=J 5∧I 6=J 6∧I 7=J 7
instance (I:Nat→Int):Decidable (q3j I):=by unfold q3j;infer_instance
instance (I J:Nat→Int):Decidable (q3q I J):=by unfold q3q;infer_instance
def outP (w h:Int) (r:Run):Prop:=r.y<0∨16*h≤r.y∨r.x0<0∨16*w<r.x1
open Classical in
noncomputable def pcE (w h:Int) (p:PcD):Int:=if errL p.L≠0 then errL p.L else if p.L.length=0 then 8 else if ∃ r∈p.L,outP w h r then 3 else if q3j p.I then 4 else 0
theorem x3u {w h:Int} {p:PcD} (e:errL p.L≠0):pcE w h p=errL p.L:=by unfold pcE;rw [if_pos e]
theorem x05 {w h:Int} {p:PcD} (e:errL p.L=0) (e1:p.L.length=0):pcE w h p=8:=by unfold pcE;rw [if_neg (by omega),if_pos e1]
theorem x3v {w h:Int} {p:PcD} (e:errL p.L=0) (e1:p.L.length≠0) (e2:∃ r∈p.L,outP w h r):pcE w h p=3:=by unfold pcE;rw [if_neg (by omega),if_neg e1,if_pos e2]
theorem x06 {w h:Int} {p:PcD} (e:errL p.L=0) (e1:p.L.length≠0) (e2:¬ ∃ r∈p.L,outP w h r) (e3:q3j p.I):pcE w h p=4:=by unfold pcE;rw [if_neg (by omega),if_neg e1,if_neg e2,if_pos e3]
theorem z57 {w h:Int} {p:PcD} (e:errL p.L=0) (e1:p.L.length≠0) (e2:¬ ∃ r∈p.L,outP w h r) (e3:¬ q3j p.I):pcE w h p=0:=by unfold pcE;rw [if_neg (by omega),if_neg e1,if_neg e2,if_neg e3]
theorem x07 {w h:Int} {p:PcD} (h0:pcE w h p=0):errL p.L=0∧p.L.length≠0∧(∀ r∈p.L,¬ outP w h r)∧¬ q3j p.I:=by
  unfold pcE at h0
  split at h0
  · rename_i h1;exact absurd h0 h1
  · rename_i h1
    split at h0
    · omega
    · rename_i h2
      split at h0
      · omega
      · rename_i h3
        split at h0
        · omega
        · rename_i h4
          exact ⟨by omega,h2,fun r hr ho=>h3 ⟨r,hr,ho⟩,h4⟩
def z3y (L M:List Run):Prop:=∃ x y,hasR L x y∧hasR M x y
def twP (p:Nat→PcD) (i:Nat):Prop:=∃ k,k<i∧(q3q (p k).I (p i).I∨z3y (p k).L (p i).L)
def q1c (L:List Run):Run:=nthR L 0
def ordP (p:Nat→PcD) (i:Nat):Prop:=0<i∧((q1c (p i).L).y<(q1c (p (i-1)).L).y∨((q1c (p i).L).y=(q1c (p (i-1)).L).y∧(q1c (p i).L).x0<(q1c (p (i-1)).L).x0))
open Classical in
noncomputable def apE (p:Nat→PcD) (i:Nat):Int:=if twP p i then 7 else if ordP p i then 18 else 0
open Classical in
theorem z58 {p:Nat→PcD} {i:Nat} (h:twP p i):apE p i=7:=by unfold apE;rw [if_pos h]
open Classical in
theorem x3w {p:Nat→PcD} {i:Nat} (h:¬ twP p i) (h2:ordP p i):apE p i=18:=by unfold apE;rw [if_neg h,if_pos h2]
open Classical in
theorem z0z {p:Nat→PcD} {i:Nat} (h:¬ twP p i) (h2:¬ ordP p i):apE p i=0:=by unfold apE;rw [if_neg h,if_neg h2]
noncomputable def pcsE (w h:Int) (n:Nat) (p:Nat→PcD):Int :=
  if ¬ ((1≤w∧w≤256)∧(1≤h∧h≤256)) then 3 else if 4096<n then 2 else if q1w (fun i=>pcE w h (p i)) n≠0 then q1w (fun i=>pcE w h (p i)) n else q1w (apE p) n
theorem z0b {I:Nat→Int} (h:¬ q3j I):(decide (I 0=0)&&(decide (I 1=0)&&(decide (I 2=0)&&(decide (I 3=0)&&(decide (I 4=0)&&(decide (I 5=0)&&(decide (I 6=0)&&(decide (I 7=0)&&true))))))))=false:=by
  rw [← Bool.not_eq_true]
  simpa [q3j] using h
theorem z8t {I J:Nat→Int} (h:¬ q3q I J):(decide (I 0=J 0)&&(decide (I 1=J 1)&&(decide (I 2=J 2)&&(decide (I 3=J 3)&&(decide (I 4=J 4)&&(decide (I 5=J 5)&&(decide (I 6=J 6)&&(decide (I 7=J 7)&&true))))))))=false:=by
  rw [← Bool.not_eq_true]
  simpa [q3q] using h
end Go.Proofs.YtkicdhaklnmonaaGreat
namespace Go.Proofs.YtkicdhaklnmonaaGreat
open Go.RowKit
def vecI (I:Nat→Int):List Int:=[I 0,I 1,I 2,I 3,I 4,I 5,I 6,I 7]
theorem vecI_zero {I:Nat→Int}:vecI I=q8x↔q3j I:=by simp [vecI,q8x,q3j]
theorem vecI_same {I J:Nat→Int}:vecI I=vecI J↔q3q I J:=by simp [vecI,q3q]
def z1w (p:Nat→PcD) (W:Nat):Nat→Nat→List Int
  | 0,_=>q8x
  | n+1,i=>if hasL (p n).L ((i%W:Nat):Int) ((i/W:Nat):Int)=true then vecI (p n).I else z1w p W n i
theorem z59 {p:Nat→PcD} {W:Nat} {i:Nat}:∀ {n:Nat},(∀ k,k<n→¬ hasR (p k).L ((i%W:Nat):Int) ((i/W:Nat):Int))→z1w p W n i=q8x
  | 0,_=>rfl
  | n+1,h=>by
    rw [z1w,if_neg (fun h'=>h n (by omega) (hasL_iff.1 h'))]
    exact z59 fun k hk=>h k (by omega)
theorem z1x {p:Nat→PcD} {W:Nat} {i:Nat}:∀ {n:Nat},(∃ k,k<n∧hasR (p k).L ((i%W:Nat):Int) ((i/W:Nat):Int))→∃ k,k<n∧hasR (p k).L ((i%W:Nat):Int) ((i/W:Nat):Int)∧z1w p W n i=vecI (p k).I
  | 0,h=>by obtain ⟨k,hk,_⟩:=h;omega
  | n+1,h=>by
    rw [z1w]
    by_cases h1:hasL (p n).L ((i%W:Nat):Int) ((i/W:Nat):Int)=true
    · rw [if_pos h1];exact ⟨n,by omega,hasL_iff.1 h1,rfl⟩
    · rw [if_neg h1]
      obtain ⟨k,hk,h2⟩:=h
      have hkn:k<n:=by
        rcases Nat.lt_or_ge k n with h3 |h3
        · exact h3
        · have:k=n:=by omega
          subst this;exact absurd (hasL_iff.2 h2) h1
      obtain ⟨k',h3,h4,h5⟩:=z1x (n:=n) ⟨k,hkn,h2⟩
      exact ⟨k',by omega,h4,h5⟩
structure PcsOk (w h:Int) (n:Nat) (p:Nat→PcD):Prop where
  wd:1≤w∧w≤256
  ht:1≤h∧h≤256
  few:n≤4096
  one:∀ i,i<n→errL (p i).L=0∧(p i).L.length≠0∧(∀ r∈(p i).L,¬ outP w h r)∧¬ q3j (p i).I
  two:∀ i,i<n→¬ twP p i∧¬ ordP p i
theorem z4w {w h:Int} {n:Nat} {p:Nat→PcD} (e:pcsE w h n p=0):PcsOk w h n p:=by
  unfold pcsE at e
  split at e
  · omega
  split at e
  · omega
  split at e
  · rename_i h1;exact absurd e h1
  rename_i h1 h2 h3
  refine ⟨by omega,by omega,by omega,fun i hi=>x07 (q8y (Decidable.not_not.1 h3) i hi),fun i hi=>?_⟩
  have:=q8y e i hi
  unfold apE at this
  split at this
  · omega
  · split at this
    · omega
    · rename_i g1 g2;exact ⟨g1,g2⟩
theorem PcsOk.zero {w h:Int} {n:Nat} {p:Nat→PcD} (ok:PcsOk w h n p) {W i:Nat}:z1w p W n i=q8x↔¬ ∃ k,k<n∧hasR (p k).L ((i%W:Nat):Int) ((i/W:Nat):Int):=by
  constructor
  · intro hz hk
    obtain ⟨k,h1,h2,h3⟩:=z1x hk
    exact (ok.one k h1).2.2.2 (vecI_zero.1 (h3.symm.trans hz))
  · intro hk
    exact z59 fun k hk' h2=>hk ⟨k,hk',h2⟩
theorem PcsOk.one_has {w h:Int} {n:Nat} {p:Nat→PcD} (ok:PcsOk w h n p) {i j:Nat} {x y:Int} (hi:i<n) (hj:j<n) (h1:hasR (p i).L x y) (h2:hasR (p j).L x y):i=j:=by
  rcases Nat.lt_trichotomy i j with h |h |h
  · exact ((ok.two j hj).1 ⟨i,h,.inr ⟨x,y,h1,h2⟩⟩).elim
  · exact h
  · exact ((ok.two i hi).1 ⟨j,h,.inr ⟨x,y,h2,h1⟩⟩).elim
theorem PcsOk.cell {w h:Int} {n:Nat} {p:Nat→PcD} (ok:PcsOk w h n p) {W i k:Nat} (hk:k<n) (hh:hasR (p k).L ((i%W:Nat):Int) ((i/W:Nat):Int)):z1w p W n i=vecI (p k).I:=by
  obtain ⟨k',h1,h2,h3⟩:=z1x ⟨k,hk,hh⟩
  rw [ok.one_has h1 hk h2 hh] at h3
  exact h3
theorem PcsOk.page {w h:Int} {n:Nat} {p:Nat→PcD} (ok:PcsOk w h n p) {k:Nat} {x y:Int} (hk:k<n) (hh:hasR (p k).L x y):(0≤x∧x<16*w)∧0≤y∧y<16*h:=by
  obtain ⟨r,hr,h1,h2,h3⟩:=hh
  have:=(ok.one k hk).2.2.1 r hr
  unfold outP at this
  omega
end Go.Proofs.YtkicdhaklnmonaaGreat
namespace Go.Proofs.YtkicdhaklnmonaaGreat
open Go.RowKit
def FlatM (G:Mem) (A:Option Addr) (xs:List Value):Prop:=(A=none∧xs=[])∨∃ b off,A=some ⟨b,off,none⟩∧∀ (j:Nat) u,xs[j]? = some u→G.cell? ⟨b,off+j,none⟩=some u
theorem FlatM.mono {G G':Mem} {A:Option Addr} {xs:List Value} (h:FlatM G A xs) (hle:G.le G'):FlatM G' A xs:=by
  rcases h with h |⟨b,off,h1,h2⟩
  · exact .inl h
  · exact .inr ⟨b,off,h1,fun j u hj=>hle.cell (h2 j u hj)⟩
theorem FlatM.els {G:Mem} {A:Option Addr} {sz n:Nat} {c:Nat→List Value} (h:FlatM G A (q0q c n)) (hl:∀ x,x<n→(c x).length=sz) (hs:0<sz):ElsM G A sz n c:=by
  refine ⟨hl,fun x hx=>?_⟩
  rcases h with ⟨_,h⟩ |⟨b,off,h1,h2⟩
  · have:=q2l hl
    rw [h] at this
    have h1:0<n*sz:=Nat.mul_pos (by omega) hs
    simp at this;omega
  · refine ⟨b,off,h1,fun j v hj=>?_⟩
    have hjl:j<sz:=by have:=(List.getElem?_eq_some_iff.1 hj).1;rw [hl x hx] at this;exact this
    rw [Nat.add_assoc]
    exact h2 _ _ (by rw [q41 hl hx hjl];exact hj)
def Mem.plus (G:Mem) (w:World) (g:Nat):Mem:=fun b=>if b=g then w.heap[g]? else G b
theorem Mem.le_plus {G:Mem} {w:World} (h:G.holds w) (g:Nat):G.le (G.plus w g):=fun b o hb=>by
  unfold Mem.plus
  split
  · rename_i e;subst e;exact h b o hb
  · exact hb
theorem Mem.plus_holds {G:Mem} {w:World} (h:G.holds w) (g:Nat):(G.plus w g).holds w:=fun b o hb=>by
  unfold Mem.plus at hb
  split at hb
  · rename_i e;subst e;exact hb
  · exact h b o hb
section
variable {w0:World} {G0:Mem} {β:Nm} {hp:List Blk} {G:Mem} {w:World}
theorem HR.freeze (hr:HR w0 G0 β hp G w) {k:Nat} {v:Value} {E:TypeId} {sz n:Nat} {xs:List Value} (hv:β k=some v) (hk:nthB hp k=.own E sz n xs) :
    ∃ A cap G',v=.slice A n cap∧G.le G'∧n≤cap∧cap≤maxLen∧FlatM G' A xs∧HR w0 G0 β (hp.set k .gone) G' w:=by
  obtain ⟨x,hx1,hx2⟩:=hr.blk k v hv
  have hkx:=q0p hk rfl
  rw [hkx] at hx1;cases hx1
  obtain ⟨⟨hlen,hown⟩,hfree⟩:=hx2
  rcases hown with ⟨rfl,h5⟩ |⟨g,cap,cur,rfl,h5,h6,h7,h8,h9,h10⟩
  · subst h5
    exact ⟨none,0,G,rfl,Mem.le_refl _,Nat.le_refl _,Nat.zero_le _,.inl ⟨rfl,by simpa using hlen⟩,hr.forget k⟩
  · have hcell:∀ (j:Nat) u,xs[j]? = some u→(G.plus w g).cell? ⟨g,0+j,none⟩=some u:=fun j u hj=>by
      have h11:(G.plus w g) g=some (.cells cur E (0,0)):=by simp [Mem.plus,h6]
      unfold Mem.cell?
      rw [Nat.zero_add,h11]
      rw [← h10] at hj
      rw [List.getElem?_take] at hj
      split at hj
      · simpa using hj
      · cases hj
    have hf:=hr.forget k
    refine ⟨some ⟨g,0,none⟩,cap,G.plus w g,rfl,Mem.le_plus hr.hold g,h7,h8,.inr ⟨g,0,rfl,hcell⟩,⟨hf.below,Mem.plus_holds hr.hold g,Mem.le_trans hr.sub (Mem.le_plus hr.hold g),fun b o hb=>?_,fun j z hj=>?_,hf.inj,hf.wrt⟩⟩
    · unfold Mem.plus at hb
      split at hb
      · rename_i e1;subst e1
        exact .inr h5
      · exact hr.grow b o hb
    · obtain ⟨x,hx1,hx2⟩:=hf.blk j z hj
      refine ⟨x,hx1,?_⟩
      have hne:∀ b,x.live=true→q0h z=some b→b≠g:=fun b hl hb e=>by
        subst e
        by_cases hjk:j=k
        · subst hjk
          rw [List.getElem?_set] at hx1
          simp [(List.getElem?_eq_some_iff.1 hkx).1] at hx1
          subst hx1;simp [Blk.live] at hl
        · have hx3:hp[j]? = some x:=by rw [List.getElem?_set,if_neg (fun e=>hjk e.symm)] at hx1;exact hx1
          exact hr.inj j k z _ x _ b hjk hj hv hx3 hkx hl rfl hb rfl
      cases x with
      | gone=>trivial
      | muts S=>exact hx2.elim
      | cells t l =>
        obtain ⟨b,c,q1,q2,q3,q4,q5⟩:=hx2
        refine ⟨b,c,q1,q2,?_,q4,q5⟩
        have:=hne b rfl (by rw [q1];rfl)
        simp [Mem.plus,this,q3]
      | own e sz' n' xs' =>
        obtain ⟨q1,q2⟩:=hx2
        refine ⟨q1,fun b hb=>?_⟩
        have:=hne b rfl hb
        simp [Mem.plus,this,q2 b hb]
      | lp i fr st p =>
        obtain ⟨q1,q2,q3,q4⟩:=hx2
        refine ⟨q1,q2,?_,q4⟩
        have:=hne i.l rfl (by rw [q1];rfl)
        simp [Mem.plus,this,q3]
      | mp f ks vs =>
        obtain ⟨b,ys,q1,q2,q3,q4⟩:=hx2
        refine ⟨b,ys,q1,q2,?_,q4⟩
        have:=hne b rfl (by rw [q1];rfl)
        simp [Mem.plus,this,q3]
end
def AV.plug (k:Nat) (v:Value):AV→AV
  | .own j=>match Nat.beq j k with
    | true=>.val v
    | false=>.own j
  | a=>a
theorem AV.plug_rel {β:Nm} {k:Nat} {v:Value} (hv:β k=some v) {a:AV} {y:Value} (h:a.rel β y):(a.plug k v).rel β y:=by
  cases a with
  | own j =>
    show AV.rel β (match Nat.beq j k with
      | true=>.val v
      | false=>.own j) y
    cases e:Nat.beq j k
    · exact h
    · have:=Nat.eq_of_beq_eq_true e
      subst this
      simp only [AV.rel] at h ⊢
      rw [hv] at h;cases h.1;rfl
  | _=>exact h
def z3z (k:Nat) (v:Value) (l:List AV):List AV:=l.map (AV.plug k v)
theorem z0c {β:Nm} {k:Nat} {v:Value} (hv:β k=some v):∀ {l:List AV} {ys:List Value},AV.rels β l ys→AV.rels β (z3z k v l) ys
  | [],_,h=>h
  | a::l,ys,h=>by
    simp only [z3z,List.map_cons,AV.rels] at h ⊢
    obtain ⟨y,zs,h1,h2,h3⟩:=h
    exact ⟨y,zs,h1,AV.plug_rel hv h2,z0c hv h3⟩
def Blk.plug (k:Nat) (v:Value):Blk→Blk
  | .cells t l=>.cells t (z3z k v l)
  | .lp i l st p=>.lp i (z3z k v l) st p
  | .mp f ks l=>.mp f ks (z3z k v l)
  | x=>x
theorem HR.plug {w0:World} {G0:Mem} {β:Nm} {hp:List Blk} {G:Mem} {w:World} (hr:HR w0 G0 β hp G w) {k:Nat} {v:Value} (hv:β k=some v):HR w0 G0 β (hp.map (Blk.plug k v)) G w:=by
  have live:∀ x:Blk,(x.plug k v).live=x.live:=fun x=>by cases x <;> rfl
  refine ⟨hr.below,hr.hold,hr.sub,hr.grow,fun j y hj=>?_,fun i j y y' x x' b hne hi hj hx hx' hl hl' hy=>?_,x2z hr.wrt (fun x S e=>by cases x <;> first |exact e |cases e)⟩
  · obtain ⟨x,h1,h2⟩:=hr.blk j y hj
    refine ⟨x.plug k v,by rw [List.getElem?_map,h1];rfl,?_⟩
    cases x with
    | gone=>trivial
    | muts S=>exact h2.elim
    | cells t l =>
      obtain ⟨b,c,q1,q2,q3,q4,q5⟩:=h2
      exact ⟨b,c,q1,q2,q3,q4,z0c hv q5⟩
    | own e sz n xs=>exact h2
    | lp i fr st p =>
      obtain ⟨q1,q2,q3,tm,q4,q5⟩:=h2
      exact ⟨q1,q2,q3,tm,q4,z0c hv q5⟩
    | mp f ks vs =>
      obtain ⟨b,ys,q1,q2,q3,q4,q5,q6⟩:=h2
      exact ⟨b,ys,q1,q2,q3,q4,q5,z0c hv q6⟩
  · rw [List.getElem?_map] at hx hx'
    cases h1:hp[i]? with
    | none=>rw [h1] at hx;cases hx
    | some z =>
      cases h2:hp[j]? with
      | none=>rw [h2] at hx';cases hx'
      | some z' =>
        rw [h1] at hx;rw [h2] at hx'
        simp only [Option.map_some,Option.some.injEq] at hx hx'
        subst hx;subst hx'
        rw [live] at hl hl'
        exact hr.inj i j y y' z z' b hne hi hj h1 h2 hl hl' hy
def q8g (k:Nat) (v:Value) (l:List AV):(List AV→Prop)→Prop :=
  List.rec (motive:=fun _=>(List AV→Prop)→Prop) (fun K=>K []) (fun a _ ih K=>ih fun m=>q3o (AV.plug k v a) fun a'=>K (a'::m)) l
theorem z0d (k:Nat) (v:Value):∀ (l:List AV) (K:List AV→Prop),q8g k v l K=K (z3z k v l)
  | [],_=>rfl
  | a::l,K=>by
    show q8g k v l (fun m=>q3o (AV.plug k v a) fun a'=>K (a'::m))=_
    rw [z0d k v l,q2f];rfl
def z6a (k:Nat) (v:Value) (l:List Blk):(List Blk→Prop)→Prop :=
  List.rec (motive:=fun _=>(List Blk→Prop)→Prop) (fun K=>K []) (fun x _ ih K=>ih fun m=>match x with
    | .cells t cs=>q8g k v cs fun cs'=>K (.cells t cs'::m)
    | .own e sz n xs=>K (.own e sz n xs::m)
    | .gone=>K (.gone::m)
    | .muts S=>K (.muts S::m)
    | .lp i fr st p=>q8g k v fr fun fr'=>K (.lp i fr' st p::m)
    | .mp f ks vs=>q8g k v vs fun vs'=>K (.mp f ks vs'::m)) l
theorem z2y (k:Nat) (v:Value):∀ (l:List Blk) (K:List Blk→Prop),z6a k v l K=K (l.map (Blk.plug k v))
  | [],_=>rfl
  | x::l,K=>by
    show z6a k v l (fun m=>match x with
      | .cells t cs=>q8g k v cs fun cs'=>K (.cells t cs'::m)
      | .own e sz n xs=>K (.own e sz n xs::m)
      | .gone=>K (.gone::m)
      | .muts S=>K (.muts S::m)
      | .lp i fr st p=>q8g k v fr fun fr'=>K (.lp i fr' st p::m)
      | .mp f ks vs=>q8g k v vs fun vs'=>K (.mp f ks vs'::m))=_
    rw [z2y k v l]
    cases x with
    | cells t cs=>simp only [z0d];rfl
    | own e sz n xs=>rfl
    | gone=>rfl
    | muts S=>rfl
    | lp i fr st p=>simp only [z0d];rfl
    | mp f ks vs=>simp only [z0d];rfl
theorem z8u {β:Nm}:∀ {hp:List Blk} {l:List AV} {ys:List Value} {j:Nat},AV.rels β l ys→.own j∈l→∃ v,β j=some v
  | _,[],_,_,_,h=>by cases h
  | hp,a::l,ys,j,hr,h=>by
    simp only [AV.rels] at hr
    obtain ⟨y,zs,_,h2,h3⟩:=hr
    rcases List.mem_cons.1 h with rfl |h
    · simp only [AV.rel] at h2
      exact ⟨y,h2.1⟩
    · exact z8u (hp:=hp) h3 h
def q89 (k:Nat):List AV→Bool
  | []=>false
  | .own j::l=>match Nat.beq j k with
    | true=>true
    | false=>q89 k l
  | _::l=>q89 k l
theorem z0s {k:Nat}:∀ {l:List AV},q89 k l=true→.own k∈l
  | [],h=>by cases h
  | a::l,h=>by
    cases a <;> try exact List.mem_cons_of_mem _ (z0s (l:=l) (by simpa [q89] using h))
    rename_i j
    unfold q89 at h
    split at h
    · rename_i e
      rw [Nat.eq_of_beq_eq_true e]
      exact List.mem_cons_self ..
    · exact List.mem_cons_of_mem _ (z0s h)
theorem z6b {P:Program} {T:Tab} (hT:TOk P T) (q k:Nat) {op:Op} {fr:List AV} {hp:List Blk} {G:Mem} {K:AV→List Blk→Mem→Prop} {t:TypeId} {l:List AV} {E:TypeId} {sz n:Nat} {xs:List Value}
    (hq:nthB hp q=.cells t l) (hin:q89 k l=true) (hk:nthB hp k=.own E sz n xs) {tt:TypeId} {d x:Operand} (hop:op=.call ⟨.builtin .append,⟨[d,x]⟩,⟨[tt,tt]⟩⟩) {dd:AV} {o c nn:Nat} (hd:ev fr d=dd) (hx:ev fr x=.sli q o nn c)
    (h:∀ A cap G',G.le G'→n≤cap→cap≤maxLen→FlatM G' A xs→z6a k (.slice A n cap) hp fun hp1=>setF hp1 k .gone fun hp2=>z3i T tt dd (.sli q o nn c) hp2 G' K):OpP P op fr hp G K:=by
  refine ⟨fun o' ho=>OpS.of_run fun w0 G0 β a w hr hf=>?_⟩
  obtain ⟨y,hy⟩:∃ y,β q=some y:=by
    have:=q1f hf x
    rw [hx] at this
    simp only [AV.rel] at this
    obtain ⟨v,_,h1,_⟩:=this
    exact ⟨v,h1⟩
  obtain ⟨xb,h1,h2⟩:=hr.blk q y hy
  rw [q0p hq rfl] at h1;cases h1
  obtain ⟨b,cs,rfl,q2,q3,q4,q5⟩:=h2
  obtain ⟨v,hv⟩:=z8u (hp:=hp) q5 (z0s hin)
  obtain ⟨A,cap,G',rfl,hle,hn,hm,hF,hr'⟩:=hr.freeze hv hk
  have h3:=h A cap G' hle hn hm hF
  rw [z2y,q09] at h3
  have hr2:=hr'.plug hv
  have e:(hp.set k .gone).map (Blk.plug k (.slice A n cap))=(hp.map (Blk.plug k (.slice A n cap))).set k .gone:=by
    rw [List.map_set];rfl
  rw [e] at hr2
  have:=z1g hT (o:=o') (d:=d) (x:=x) (t:=tt) (fr:=fr) (ho.trans hop) (by rw [hd,hx];exact h3)
  exact this w0 G0 β a w hr2 hf
end Go.Proofs.YtkicdhaklnmonaaGreat
