/-
  Merged: XMixed2, XRow, XPieces, XPcLaw, XFreeze.
-/
import Derived.Test.YtkicdhaklnmonaaGreatMrg13
set_option linter.unusedVariables false
set_option linter.unusedSimpArgs false
set_option linter.unnecessarySimpa false
namespace Go.Proofs.YtkicdhaklnmonaaGreat
theorem z8m (L:List Run):q2p (nthR L) L.length=L:=by
  apply List.ext_getElem?
  intro i
  unfold q2p
  rw [List.getElem?_map]
  by_cases h:i<L.length
  · rw [List.getElem?_range h,List.getElem?_eq_getElem h]
    simp [nthR,List.getElem?_eq_getElem h]
  · rw [List.getElem?_eq_none (by simpa using h),List.getElem?_eq_none (by omega)];rfl
theorem q51 (L:List Run) (x y:Int):hasB (nthR L) L.length x y=hasL L x y:=by rw [← x6b,z8m]
def ValidL (L:List Run):Prop:=Valid (nthR L) L.length
theorem ValidL.ok {L:List Run} (h:ValidL L):okR L:=by have:=Valid.ok h;rwa [z8m] at this
theorem ValidL.bd {L:List Run} (h:ValidL L) {r:Run} (hr:r∈L):(-8192≤r.y∧r.y≤8191)∧(-8192≤r.x0∧r.x0<r.x1∧r.x1≤8192):=by
  obtain ⟨i,hi⟩:=List.mem_iff_getElem?.1 hr
  have:=Valid.bd h i (List.getElem?_eq_some_iff.1 hi).1
  rwa [q4m hi] at this
theorem q8j {L:List Run} (h:okR L):∀ {i j:Nat} {r s:Run},i<j→L[i]? = some r→L[j]? = some s→r.y<s.y∨(r.y=s.y∧r.x1<s.x0):=by
  induction L with
  | nil=>intro i j r s _ hi;simp at hi
  | cons a l ih =>
    intro i j r s hij hi hj
    cases j with
    | zero=>omega
    | succ j =>
      cases i with
      | zero =>
        simp at hi;subst hi
        exact h.2.1 s (List.mem_of_getElem? (by simpa using hj))
      | succ i=>exact ih h.2.2 (i:=i) (j:=j) (by omega) (by simpa using hi) (by simpa using hj)
theorem ValidL.mk {L:List Run} (h:okR L) (hb:∀ r∈L,(-8192≤r.y∧r.y≤8191)∧(-8192≤r.x0∧r.x1≤8192)):ValidL L:=by
  refine ⟨fun i hi=>?_,fun i j hij hj=>?_⟩
  · have e:L[i]? = some L[i]:=List.getElem?_eq_getElem hi
    rw [q4m e]
    have h1:=hb _ (List.getElem_mem hi)
    have h2:=q4w h (List.getElem_mem hi)
    omega
  · have e:L[i]? = some L[i]:=List.getElem?_eq_getElem (by omega)
    have e':L[j]? = some L[j]:=List.getElem?_eq_getElem hj
    rw [q4m e,q4m e']
    exact q8j h hij e e'
theorem z4g {l:List Int} (h:l.Pairwise (·<·)) {B:Nat} (hb:∀ z∈l,0≤z∧z<B):l.length≤B:=by
  have key:∀ (l:List Int) (a:Int),l.Pairwise (·<·)→(∀ z∈l,a≤z∧z<B)→a≤B→(l.length:Int)≤B-a:=by
    intro l
    induction l with
    | nil=>intro a _ _ ha;simp;omega
    | cons x l ih =>
      intro a hp hz ha
      obtain ⟨h1,h2⟩:=List.pairwise_cons.1 hp
      have h3:=hz x (by simp)
      have:=ih (x+1) h2 (fun z hz'=>⟨by have:=h1 z hz';omega,(hz z (by simp [hz'])).2⟩) (by omega)
      simp;omega
  have:=key l 0 h hb (by omega)
  omega
theorem z52 {L:List Run} (h:okR L) (hb:∀ r∈L,(-8192≤r.y∧r.y≤8191)∧(-8192≤r.x0∧r.x1≤8192)):L.length≤268451840:=by
  have hp:(L.map fun r=>(r.y+8192)*16385+(r.x1+8192)).Pairwise (·<·):=by
    rw [List.pairwise_map,List.pairwise_iff_getElem]
    intro i j hi hj hij
    have h1:=q8j h hij (List.getElem?_eq_getElem hi) (List.getElem?_eq_getElem hj)
    have h2:=hb _ (List.getElem_mem hi)
    have h3:=hb _ (List.getElem_mem hj)
    have h4:=q4w h (List.getElem_mem hj)
    have h5:=q4w h (List.getElem_mem hi)
    omega
  have:=z4g hp (B:=268451840) (fun z hz=>by
    obtain ⟨r,hr,rfl⟩:=List.mem_map.1 hz
    have h1:=hb r hr
    have h2:=q4w h hr
    omega)
  simpa using this
theorem ValidL.length {L:List Run} (h:ValidL L):L.length≤268451840:=z52 h.ok fun r hr=>by have:=h.bd hr;omega
def opB (c:Int) (p q:Bool):Bool:=if c=1 then p&&q else if c=2 then p&&!q else if c=3 then p != q else p||q
theorem z21 (c:Int):opB c false false=false:=by unfold opB;split <;> (try split) <;> (try split) <;> rfl
theorem v02 {c:Int} {p q:Bool} (h:opB c p q=true):p=true∨q=true:=by
  cases p
  · cases q
    · rw [z21] at h;cases h
    · exact .inr rfl
  · exact .inl rfl
theorem x8z {op:Bool→Bool→Bool} (hop:op false false=false) {ra rb:Nat→Run} {n m:Nat} (va:Valid ra n) (vb:Valid rb m):∀ (k i j:Nat) (fy fx:Int) (out:List Run),(2*n-i)+(2*m-j)=k→Sweep op ra rb n m i j fy fx out→∃ M,okR M∧∀ x y,hasR M x y↔op (hasB ra n x y) (hasB rb m x y)=true:=by
  intro k
  induction k with
  | zero =>
    intro i j fy fx out hk h
    have h1:=h.hi
    have h2:=h.hj
    have e1:i=2*n:=by omega
    have e2:j=2*m:=by omega
    subst e1;subst e2
    exact ⟨out,h.done hop va vb⟩
  | succ k ih =>
    intro i j fy fx out hk h
    have h1:=h.hi
    have h2:=h.hj
    by_cases hA:i<2*n∧(j<2*m→q1d (eY ra i) (eX ra i) (eY rb j) (eX rb j))
    · exact ih (i+1) j _ _ _ (by omega) (h.stepA hop va vb hA.1 hA.2)
    · by_cases hB:j<2*m
      · refine ih i (j+1) _ _ _ (by omega) (h.stepB hop va vb hB fun hi=>?_)
        have:¬ q1d (eY ra i) (eX ra i) (eY rb j) (eX rb j):=fun hle=>hA ⟨hi,fun _=>hle⟩
        unfold q1d at *;omega
      · exact absurd ⟨by omega,fun h=>absurd h hB⟩ hA
theorem x6c {c:Int} {La Lb:List Run} (va:ValidL La) (vb:ValidL Lb):∃ M,okR M∧∀ x y,hasR M x y↔opB c (hasL La x y) (hasL Lb x y)=true:=by
  obtain ⟨M,h1,h2⟩:=x8z (op:=opB c) (z21 c) va vb _ 0 0 0 0 [] rfl (Sweep.start _ _ _ _ _ _ _)
  exact ⟨M,h1,fun x y=>by rw [h2,q51,q51]⟩
open Classical in
noncomputable def mixR (c:Int) (La Lb:List Run):List Run:=if h:∃ M,okR M∧∀ x y,hasR M x y↔opB c (hasL La x y) (hasL Lb x y)=true then h.choose else []
theorem q9c {c:Int} {La Lb:List Run} (va:ValidL La) (vb:ValidL Lb):okR (mixR c La Lb)∧∀ x y,hasR (mixR c La Lb) x y↔opB c (hasL La x y) (hasL Lb x y)=true:=by
  unfold mixR
  rw [dif_pos (x6c va vb)]
  exact (x6c (c:=c) va vb).choose_spec
theorem v03 {c:Int} {La Lb M:List Run} (va:ValidL La) (vb:ValidL Lb) (h:okR M) (h2:∀ x y,hasR M x y↔opB c (hasL La x y) (hasL Lb x y)=true):M=mixR c La Lb :=
  q9b h (q9c va vb).1 fun x y=>(h2 x y).trans ((q9c va vb).2 x y).symm
theorem x6d {L:List Run} (h:ValidL L) {x y:Int} (hx:hasL L x y=true):(-8192≤y∧y≤8191)∧(-8192≤x∧x≤8191):=by
  obtain ⟨r,hr,h1,h2,h3⟩:=hasL_iff.1 hx
  have:=h.bd hr
  omega
theorem x0u {c:Int} {La Lb M:List Run} (va:ValidL La) (vb:ValidL Lb) (h:okR M) (h2:∀ x y,hasR M x y→opB c (hasL La x y) (hasL Lb x y)=true):∀ r∈M,(-8192≤r.y∧r.y≤8191)∧(-8192≤r.x0∧r.x1≤8192):=fun r hr=>by
  have hlt:=q4w h hr
  have key:∀ x,r.x0≤x→x<r.x1→(-8192≤r.y∧r.y≤8191)∧(-8192≤x∧x≤8191):=fun x h3 h4=>by
    rcases v02 (h2 x r.y ⟨r,hr,rfl,h3,h4⟩) with h5 |h5
    · exact x6d va h5
    · exact x6d vb h5
  have k1:=key r.x0 (Int.le_refl _) hlt
  have k2:=key (r.x1-1) (by omega) (by omega)
  omega
theorem x4e {c:Int} {La Lb:List Run} (va:ValidL La) (vb:ValidL Lb):ValidL (mixR c La Lb) :=
  ValidL.mk (q9c va vb).1 (x0u va vb (q9c va vb).1 fun x y h=>((q9c va vb).2 x y).1 h)
end Go.Proofs.YtkicdhaklnmonaaGreat
namespace Go.Proofs.YtkicdhaklnmonaaGreat
open Go.RowKit
def q0r (c:Nat→List Value):Nat→List Value
  | 0=>[]
  | n+1=>q0r c n++c n
theorem q3l {c:Nat→List Value} {sz:Nat}:∀ {n:Nat},(∀ x,x<n→(c x).length=sz)→(q0r c n).length=n*sz
  | 0,_=>by simp [q0r]
  | n+1,h=>by
    rw [q0r,List.length_append,q3l (n:=n) (fun x hx=>h x (by omega)),h n (by omega),Nat.add_mul,Nat.one_mul]
theorem q44 {c:Nat→List Value} {sz:Nat}:∀ {n:Nat},(∀ x,x<n→(c x).length=sz)→∀ {x j:Nat},x<n→j<sz→(q0r c n)[x*sz+j]? = (c x)[j]?
  | 0,_,_,_,hx,_=>by omega
  | n+1,h,x,j,hx,hj=>by
    have hl:=q3l (n:=n) (fun x hx=>h x (by omega))
    rw [q0r]
    rcases Nat.lt_or_ge x n with h1 |h1
    · have:x*sz+j<n*sz:=by
        have:=Nat.mul_le_mul_right sz (show x+1≤n by omega)
        rw [Nat.add_mul,Nat.one_mul] at this;omega
      rw [List.getElem?_append_left (by omega)]
      exact q44 (fun x hx=>h x (by omega)) h1 hj
    · obtain rfl:x=n:=by omega
      rw [List.getElem?_append_right (by omega),hl]
      congr 1;omega
theorem q4n {c d:Nat→List Value}:∀ {n:Nat},(∀ x,x<n→c x=d x)→q0r c n=q0r d n
  | 0,_=>rfl
  | n+1,h=>by rw [q0r,q0r,q4n (n:=n) (fun x hx=>h x (by omega)),h n (by omega)]
theorem q8k (c:Nat→List Value) (m:Nat):∀ (n:Nat),q0r c (m+n)=q0r c m++q0r (fun x=>c (m+x)) n
  | 0=>by simp [q0r]
  | n+1=>by rw [← Nat.add_assoc,q0r,q8k c m n,q0r,List.append_assoc]
structure ElsM (G:Mem) (A:Option Addr) (sz n:Nat) (c:Nat→List Value):Prop where
  len:∀ x,x<n→(c x).length=sz
  at_:∀ x,x<n→∃ b off,A=some ⟨b,off,none⟩∧∀ j v,(c x)[j]? = some v→G.cell? ⟨b,off+x*sz+j,none⟩=some v
section
variable {G G':Mem} {A:Option Addr} {sz n:Nat} {c d:Nat→List Value}
theorem ElsM.mono (h:ElsM G A sz n c) (hle:G.le G'):ElsM G' A sz n c:=⟨h.len,fun x hx=>by
  obtain ⟨b,off,h1,h2⟩:=h.at_ x hx
  exact ⟨b,off,h1,fun j v hj=>hle.cell (h2 j v hj)⟩⟩
theorem ElsM.less (h:ElsM G A sz n c) {k:Nat} (hk:k≤n):ElsM G A sz k c:=⟨fun x hx=>h.len x (by omega),fun x hx=>h.at_ x (by omega)⟩
theorem ElsM.congr (h:ElsM G A sz n c) (e:∀ x,x<n→c x=d x):ElsM G A sz n d :=
  ⟨fun x hx=>by rw [← e x hx];exact h.len x hx,fun x hx=>by rw [← e x hx];exact h.at_ x hx⟩
theorem ElsM.none:ElsM G A sz 0 c:=⟨fun x hx=>by omega,fun x hx=>by omega⟩
theorem ElsM.drop (h:ElsM G A sz n c) {k:Nat} (hk:k≤n):ElsM G (A.map fun p=>p.add (k*sz)) sz (n-k) (fun x=>c (k+x)) :=
  ⟨fun x hx=>h.len _ (by omega),fun x hx=>by
    obtain ⟨b,off,rfl,h2⟩:=h.at_ (k+x) (by omega)
    refine ⟨b,off+k*sz,by simp [q0m],fun j v hj=>?_⟩
    have:=h2 j v hj
    rwa [show off+k*sz+x*sz+j=off+(k+x)*sz+j by rw [Nat.add_mul];omega]⟩
theorem ElsM.cells (h:ElsM G A sz n c) {x:Nat} (hx:x<n):∃ p:Addr,A=some p∧∀ K:List Value→Prop,K (c x)→OldCells G (p.add (x*sz)) sz K:=by
  obtain ⟨b,off,rfl,h2⟩:=h.at_ x hx
  refine ⟨_,rfl,fun K k=>q2e _ (h.len x hx) (fun j u hj=>?_) k⟩
  rw [q0m,q0m]
  exact h2 j u hj
theorem ElsM.cell (h:ElsM G A sz n c) {x j:Nat} {v:Value} (hx:x<n) (hj:(c x)[j]? = some v):∃ p:Addr,A=some p∧G.cell? (Addr.add (p.add (x*sz)) j)=some v:=by
  obtain ⟨b,off,rfl,h2⟩:=h.at_ x hx
  exact ⟨_,rfl,by rw [q0m,q0m];exact h2 j v hj⟩
theorem ElsM.frozen (hl:∀ x,x<n→(c x).length=sz) (h:q0r c n=[]∨∃ b,A=some ⟨b,0,Option.none⟩∧∀ (j:Nat) u,(q0r c n)[j]? = some u→G.cell? ⟨b,j,Option.none⟩=some u) (hA:0<sz):ElsM G A sz n c:=by
  refine ⟨hl,fun x hx=>?_⟩
  rcases h with h |⟨b,rfl,h⟩
  · have:=q3l hl
    rw [h] at this
    have h1:0<n*sz:=Nat.mul_pos (by omega) hA
    simp at this;omega
  · refine ⟨b,0,rfl,fun j v hj=>?_⟩
    have hjl:j<sz:=by have:=(List.getElem?_eq_some_iff.1 hj).1;rw [hl x hx] at this;exact this
    rw [Nat.zero_add]
    exact h _ _ (by rw [q44 hl hx hjl];exact hj)
end
end Go.Proofs.YtkicdhaklnmonaaGreat
namespace Go.Proofs.YtkicdhaklnmonaaGreat
open Go.RowKit
set_option maxRecDepth 20000
structure PcD where
  L:List Run
  A:Option Addr
  q:Nat
  I:Nat→Int
instance:Inhabited PcD:=⟨⟨[],none,0,fun _=>0⟩⟩
def inkC (I:Nat→Int):List Value:=[.int .u8 (I 0),.int .u8 (I 1),.int .u8 (I 2),.int .u8 (I 3),.int .u8 (I 4),.int .u8 (I 5),.int .u8 (I 6),.int .u8 (I 7)]
def pcC (p:PcD):List Value:=.slice p.A p.L.length p.q::inkC p.I
structure PcsM (G:Mem) (A:Option Addr) (n:Nat) (p:Nat→PcD):Prop where
  rows:ElsM G A 9 n fun i=>pcC (p i)
  runs:∀ i,i<n→RunsM G (p i).A (p i).L
  room:∀ i,i<n→(p i).L.length≤(p i).q∧(p i).q≤maxLen
  ink:∀ i,i<n→∀ j,0≤(p i).I j∧(p i).I j≤255
theorem PcsM.mono {G G':Mem} {A:Option Addr} {n:Nat} {p:Nat→PcD} (h:PcsM G A n p) (hle:G.le G'):PcsM G' A n p :=
  ⟨h.rows.mono hle,fun i hi=>(h.runs i hi).mono hle,h.room,h.ink⟩
theorem PcsM.less {G:Mem} {A:Option Addr} {n k:Nat} {p:Nat→PcD} (h:PcsM G A n p) (hk:k≤n):PcsM G A k p :=
  ⟨h.rows.less hk,fun i hi=>h.runs i (by omega),fun i hi=>h.room i (by omega),fun i hi=>h.ink i (by omega)⟩
theorem PcsM.cells {G:Mem} {A:Option Addr} {n:Nat} {p:Nat→PcD} (h:PcsM G A n p) {i:Nat} (hi:i<n):∃ a:Addr,A=some a∧∀ K:List Value→Prop,K [.slice (p i).A (p i).L.length (p i).q,.int .u8 ((p i).I 0),.int .u8 ((p i).I 1),.int .u8 ((p i).I 2),.int .u8 ((p i).I 3),.int .u8 ((p i).I 4),.int .u8 ((p i).I 5),.int .u8 ((p i).I 6),.int .u8 ((p i).I 7)]→OldCells G (a.add (i*9)) 9 K:=h.rows.cells hi
theorem PcsM.head {G:Mem} {A:Option Addr} {n:Nat} {p:Nat→PcD} (h:PcsM G A n p) {i:Nat} (hi:i<n):∃ a:Addr,A=some a∧G.cell? (Addr.add (a.add (i*9)) 0)=some (.slice (p i).A (p i).L.length (p i).q):=h.rows.cell (j:=0) hi rfl
theorem PcsM.inks {G:Mem} {A:Option Addr} {n:Nat} {p:Nat→PcD} (h:PcsM G A n p) {i:Nat} (hi:i<n):∃ a:Addr,A=some a∧∀ K:List Value→Prop,K [.int .u8 ((p i).I 0),.int .u8 ((p i).I 1),.int .u8 ((p i).I 2),.int .u8 ((p i).I 3),.int .u8 ((p i).I 4),.int .u8 ((p i).I 5),.int .u8 ((p i).I 6),.int .u8 ((p i).I 7)]→OldCells G (Addr.add (a.add (i*9)) 1) 8 K:=by
  obtain ⟨b,off,rfl,h2⟩:=h.rows.at_ i hi
  refine ⟨_,rfl,fun K k=>q2e (inkC (p i).I) rfl (fun j u hj=>?_) k⟩
  rw [q0m,q0m,q0m]
  have:=h2 (j+1) u (by simpa [pcC] using hj)
  rwa [show off+i*9+1+j=off+i*9+(j+1) by omega]
def q10 (f:Nat→Int):Nat→Int
  | 0=>0
  | n+1=>if q10 f n≠0 then q10 f n else f n
theorem z0a {f:Nat→Int} {k:Nat} (h0:q10 f k=0) (h:f k≠0):∀ {n:Nat},k<n→q10 f n=f k:=by
  intro n hn
  induction n with
  | zero=>omega
  | succ n ih =>
    unfold q10
    by_cases hk:k<n
    · rw [if_pos (by rw [ih hk];exact h),ih hk]
    · have:k=n:=by omega
      subst this
      rw [if_neg (by omega)]
theorem q5m {f:Nat→Int} {k:Nat} (h0:q10 f k=0) (h:f k=0):q10 f (k+1)=0:=by
  unfold q10;rw [if_neg (by omega),h]
theorem q81 {f:Nat→Int}:∀ {n:Nat},q10 f n=0→∀ k,k<n→f k=0
  | 0,_,k,hk=>by omega
  | n+1,h,k,hk=>by
    unfold q10 at h
    split at h
    · rename_i h1;exact (h1 h).elim
    · rename_i h1
      rcases Nat.lt_or_ge k n with h2 |h2
      · exact q81 (Decidable.not_not.1 h1) k h2
      · have:k=n:=by omega
        subst this;exact h
def q2x (I:Nat→Int):Prop:=I 0=0∧I 1=0∧I 2=0∧I 3=0∧I 4=0∧I 5=0∧I 6=0∧I 7=0
def q3g (I J:Nat→Int):Prop:=I 0=J 0∧I 1=J 1∧I 2=J 2∧I 3=J 3∧I 4=J 4∧I 5=J 5∧I 6=J 6∧I 7=J 7
instance (I:Nat→Int):Decidable (q2x I):=by unfold q2x;infer_instance
instance (I J:Nat→Int):Decidable (q3g I J):=by unfold q3g;infer_instance
def outP (w h:Int) (r:Run):Prop:=r.y<0∨16*h≤r.y∨r.x0<0∨16*w<r.x1
open Classical in
noncomputable def pcE (w h:Int) (p:PcD):Int:=if errL p.L≠0 then errL p.L else if p.L.length=0 then 8 else if ∃ r∈p.L,outP w h r then 3 else if q2x p.I then 4 else 0
theorem x3a {w h:Int} {p:PcD} (e:errL p.L≠0):pcE w h p=errL p.L:=by unfold pcE;rw [if_pos e]
theorem x0v {w h:Int} {p:PcD} (e:errL p.L=0) (e1:p.L.length=0):pcE w h p=8:=by unfold pcE;rw [if_neg (by omega),if_pos e1]
theorem x3b {w h:Int} {p:PcD} (e:errL p.L=0) (e1:p.L.length≠0) (e2:∃ r∈p.L,outP w h r):pcE w h p=3:=by unfold pcE;rw [if_neg (by omega),if_neg e1,if_pos e2]
theorem x0w {w h:Int} {p:PcD} (e:errL p.L=0) (e1:p.L.length≠0) (e2:¬ ∃ r∈p.L,outP w h r) (e3:q2x p.I):pcE w h p=4:=by unfold pcE;rw [if_neg (by omega),if_neg e1,if_neg e2,if_pos e3]
theorem z53 {w h:Int} {p:PcD} (e:errL p.L=0) (e1:p.L.length≠0) (e2:¬ ∃ r∈p.L,outP w h r) (e3:¬ q2x p.I):pcE w h p=0:=by unfold pcE;rw [if_neg (by omega),if_neg e1,if_neg e2,if_neg e3]
theorem x0x {w h:Int} {p:PcD} (h0:pcE w h p=0):errL p.L=0∧p.L.length≠0∧(∀ r∈p.L,¬ outP w h r)∧¬ q2x p.I:=by
  unfold pcE at h0
  split at h0
  · rename_i h1;exact absurd h0 h1
  · rename_i h1
    split at h0
    · omega
    · rename_i h2
      split at h0
      · omega
      · rename_i h3
        split at h0
        · omega
        · rename_i h4
          exact ⟨by omega,h2,fun r hr ho=>h3 ⟨r,hr,ho⟩,h4⟩
def z30 (L M:List Run):Prop:=∃ x y,hasR L x y∧hasR M x y
def twP (p:Nat→PcD) (i:Nat):Prop:=∃ k,k<i∧(q3g (p k).I (p i).I∨z30 (p k).L (p i).L)
def q08 (L:List Run):Run:=nthR L 0
def ordP (p:Nat→PcD) (i:Nat):Prop:=0<i∧((q08 (p i).L).y<(q08 (p (i-1)).L).y∨((q08 (p i).L).y=(q08 (p (i-1)).L).y∧(q08 (p i).L).x0<(q08 (p (i-1)).L).x0))
open Classical in
noncomputable def apE (p:Nat→PcD) (i:Nat):Int:=if twP p i then 7 else if ordP p i then 18 else 0
open Classical in
theorem z54 {p:Nat→PcD} {i:Nat} (h:twP p i):apE p i=7:=by unfold apE;rw [if_pos h]
open Classical in
theorem x3c {p:Nat→PcD} {i:Nat} (h:¬ twP p i) (h2:ordP p i):apE p i=18:=by unfold apE;rw [if_neg h,if_pos h2]
open Classical in
theorem z00 {p:Nat→PcD} {i:Nat} (h:¬ twP p i) (h2:¬ ordP p i):apE p i=0:=by unfold apE;rw [if_neg h,if_neg h2]
noncomputable def pcsE (w h:Int) (n:Nat) (p:Nat→PcD):Int :=
  if ¬ ((1≤w∧w≤256)∧(1≤h∧h≤256)) then 3 else if 4096<n then 2 else if q10 (fun i=>pcE w h (p i)) n≠0 then q10 (fun i=>pcE w h (p i)) n else q10 (apE p) n
theorem q63 {I:Nat→Int} (h:¬ q2x I):(decide (I 0=0)&&(decide (I 1=0)&&(decide (I 2=0)&&(decide (I 3=0)&&(decide (I 4=0)&&(decide (I 5=0)&&(decide (I 6=0)&&(decide (I 7=0)&&true))))))))=false:=by
  rw [← Bool.not_eq_true]
  simpa [q2x] using h
theorem z22 {I J:Nat→Int} (h:¬ q3g I J):(decide (I 0=J 0)&&(decide (I 1=J 1)&&(decide (I 2=J 2)&&(decide (I 3=J 3)&&(decide (I 4=J 4)&&(decide (I 5=J 5)&&(decide (I 6=J 6)&&(decide (I 7=J 7)&&true))))))))=false:=by
  rw [← Bool.not_eq_true]
  simpa [q3g] using h
end Go.Proofs.YtkicdhaklnmonaaGreat
namespace Go.Proofs.YtkicdhaklnmonaaGreat
open Go.RowKit
def vecI (I:Nat→Int):List Int:=[I 0,I 1,I 2,I 3,I 4,I 5,I 6,I 7]
theorem vecI_zero {I:Nat→Int}:vecI I=q58↔q2x I:=by simp [vecI,q58,q2x]
theorem vecI_same {I J:Nat→Int}:vecI I=vecI J↔q3g I J:=by simp [vecI,q3g]
def q3u (p:Nat→PcD) (W:Nat):Nat→Nat→List Int
  | 0,_=>q58
  | n+1,i=>if hasL (p n).L ((i%W:Nat):Int) ((i/W:Nat):Int)=true then vecI (p n).I else q3u p W n i
theorem z55 {p:Nat→PcD} {W:Nat} {i:Nat}:∀ {n:Nat},(∀ k,k<n→¬ hasR (p k).L ((i%W:Nat):Int) ((i/W:Nat):Int))→q3u p W n i=q58
  | 0,_=>rfl
  | n+1,h=>by
    rw [q3u,if_neg (fun h'=>h n (by omega) (hasL_iff.1 h'))]
    exact z55 fun k hk=>h k (by omega)
theorem z1v {p:Nat→PcD} {W:Nat} {i:Nat}:∀ {n:Nat},(∃ k,k<n∧hasR (p k).L ((i%W:Nat):Int) ((i/W:Nat):Int))→∃ k,k<n∧hasR (p k).L ((i%W:Nat):Int) ((i/W:Nat):Int)∧q3u p W n i=vecI (p k).I
  | 0,h=>by obtain ⟨k,hk,_⟩:=h;omega
  | n+1,h=>by
    rw [q3u]
    by_cases h1:hasL (p n).L ((i%W:Nat):Int) ((i/W:Nat):Int)=true
    · rw [if_pos h1];exact ⟨n,by omega,hasL_iff.1 h1,rfl⟩
    · rw [if_neg h1]
      obtain ⟨k,hk,h2⟩:=h
      have hkn:k<n:=by
        rcases Nat.lt_or_ge k n with h3 |h3
        · exact h3
        · have:k=n:=by omega
          subst this;exact absurd (hasL_iff.2 h2) h1
      obtain ⟨k',h3,h4,h5⟩:=z1v (n:=n) ⟨k,hkn,h2⟩
      exact ⟨k',by omega,h4,h5⟩
structure PcsOk (w h:Int) (n:Nat) (p:Nat→PcD):Prop where
  wd:1≤w∧w≤256
  ht:1≤h∧h≤256
  few:n≤4096
  one:∀ i,i<n→errL (p i).L=0∧(p i).L.length≠0∧(∀ r∈(p i).L,¬ outP w h r)∧¬ q2x (p i).I
  two:∀ i,i<n→¬ twP p i∧¬ ordP p i
theorem z4w {w h:Int} {n:Nat} {p:Nat→PcD} (e:pcsE w h n p=0):PcsOk w h n p:=by
  unfold pcsE at e
  split at e
  · omega
  split at e
  · omega
  split at e
  · rename_i h1;exact absurd e h1
  rename_i h1 h2 h3
  refine ⟨by omega,by omega,by omega,fun i hi=>x0x (q81 (Decidable.not_not.1 h3) i hi),fun i hi=>?_⟩
  have:=q81 e i hi
  unfold apE at this
  split at this
  · omega
  · split at this
    · omega
    · rename_i g1 g2;exact ⟨g1,g2⟩
theorem PcsOk.zero {w h:Int} {n:Nat} {p:Nat→PcD} (ok:PcsOk w h n p) {W i:Nat}:q3u p W n i=q58↔¬ ∃ k,k<n∧hasR (p k).L ((i%W:Nat):Int) ((i/W:Nat):Int):=by
  constructor
  · intro hz hk
    obtain ⟨k,h1,h2,h3⟩:=z1v hk
    exact (ok.one k h1).2.2.2 (vecI_zero.1 (h3.symm.trans hz))
  · intro hk
    exact z55 fun k hk' h2=>hk ⟨k,hk',h2⟩
theorem PcsOk.one_has {w h:Int} {n:Nat} {p:Nat→PcD} (ok:PcsOk w h n p) {i j:Nat} {x y:Int} (hi:i<n) (hj:j<n) (h1:hasR (p i).L x y) (h2:hasR (p j).L x y):i=j:=by
  rcases Nat.lt_trichotomy i j with h |h |h
  · exact ((ok.two j hj).1 ⟨i,h,.inr ⟨x,y,h1,h2⟩⟩).elim
  · exact h
  · exact ((ok.two i hi).1 ⟨j,h,.inr ⟨x,y,h2,h1⟩⟩).elim
theorem PcsOk.cell {w h:Int} {n:Nat} {p:Nat→PcD} (ok:PcsOk w h n p) {W i k:Nat} (hk:k<n) (hh:hasR (p k).L ((i%W:Nat):Int) ((i/W:Nat):Int)):q3u p W n i=vecI (p k).I:=by
  obtain ⟨k',h1,h2,h3⟩:=z1v ⟨k,hk,hh⟩
  rw [ok.one_has h1 hk h2 hh] at h3
  exact h3
theorem PcsOk.page {w h:Int} {n:Nat} {p:Nat→PcD} (ok:PcsOk w h n p) {k:Nat} {x y:Int} (hk:k<n) (hh:hasR (p k).L x y):(0≤x∧x<16*w)∧0≤y∧y<16*h:=by
  obtain ⟨r,hr,h1,h2,h3⟩:=hh
  have:=(ok.one k hk).2.2.1 r hr
  unfold outP at this
  omega
end Go.Proofs.YtkicdhaklnmonaaGreat
namespace Go.Proofs.YtkicdhaklnmonaaGreat
open Go.RowKit
def FlatM (G:Mem) (A:Option Addr) (xs:List Value):Prop:=(A=none∧xs=[])∨∃ b off,A=some ⟨b,off,none⟩∧∀ (j:Nat) u,xs[j]? = some u→G.cell? ⟨b,off+j,none⟩=some u
theorem FlatM.mono {G G':Mem} {A:Option Addr} {xs:List Value} (h:FlatM G A xs) (hle:G.le G'):FlatM G' A xs:=by
  rcases h with h |⟨b,off,h1,h2⟩
  · exact .inl h
  · exact .inr ⟨b,off,h1,fun j u hj=>hle.cell (h2 j u hj)⟩
theorem FlatM.els {G:Mem} {A:Option Addr} {sz n:Nat} {c:Nat→List Value} (h:FlatM G A (q0r c n)) (hl:∀ x,x<n→(c x).length=sz) (hs:0<sz):ElsM G A sz n c:=by
  refine ⟨hl,fun x hx=>?_⟩
  rcases h with ⟨_,h⟩ |⟨b,off,h1,h2⟩
  · have:=q3l hl
    rw [h] at this
    have h1:0<n*sz:=Nat.mul_pos (by omega) hs
    simp at this;omega
  · refine ⟨b,off,h1,fun j v hj=>?_⟩
    have hjl:j<sz:=by have:=(List.getElem?_eq_some_iff.1 hj).1;rw [hl x hx] at this;exact this
    rw [Nat.add_assoc]
    exact h2 _ _ (by rw [q44 hl hx hjl];exact hj)
def Mem.plus (G:Mem) (w:World) (g:Nat):Mem:=fun b=>if b=g then w.heap[g]? else G b
theorem Mem.le_plus {G:Mem} {w:World} (h:G.holds w) (g:Nat):G.le (G.plus w g):=fun b o hb=>by
  unfold Mem.plus
  split
  · rename_i e;subst e;exact h b o hb
  · exact hb
theorem Mem.plus_holds {G:Mem} {w:World} (h:G.holds w) (g:Nat):(G.plus w g).holds w:=fun b o hb=>by
  unfold Mem.plus at hb
  split at hb
  · rename_i e;subst e;exact hb
  · exact h b o hb
section
variable {w0:World} {G0:Mem} {β:Nm} {hp:List Blk} {G:Mem} {w:World}
theorem HR.freeze (hr:HR w0 G0 β hp G w) {k:Nat} {v:Value} {E:TypeId} {sz n:Nat} {xs:List Value} (hv:β k=some v) (hk:nthB hp k=.own E sz n xs) :
    ∃ A cap G',v=.slice A n cap∧G.le G'∧n≤cap∧cap≤maxLen∧FlatM G' A xs∧HR w0 G0 β (hp.set k .gone) G' w:=by
  obtain ⟨x,hx1,hx2⟩:=hr.blk k v hv
  have hkx:=q0s hk rfl
  rw [hkx] at hx1;cases hx1
  obtain ⟨⟨hlen,hown⟩,hfree⟩:=hx2
  rcases hown with ⟨rfl,h5⟩ |⟨g,cap,cur,rfl,h5,h6,h7,h8,h9,h10⟩
  · subst h5
    exact ⟨none,0,G,rfl,Mem.le_refl _,Nat.le_refl _,Nat.zero_le _,.inl ⟨rfl,by simpa using hlen⟩,hr.forget k⟩
  · have hcell:∀ (j:Nat) u,xs[j]? = some u→(G.plus w g).cell? ⟨g,0+j,none⟩=some u:=fun j u hj=>by
      have h11:(G.plus w g) g=some (.cells cur E (0,0)):=by simp [Mem.plus,h6]
      unfold Mem.cell?
      rw [Nat.zero_add,h11]
      rw [← h10] at hj
      rw [List.getElem?_take] at hj
      split at hj
      · simpa using hj
      · cases hj
    have hf:=hr.forget k
    refine ⟨some ⟨g,0,none⟩,cap,G.plus w g,rfl,Mem.le_plus hr.hold g,h7,h8,.inr ⟨g,0,rfl,hcell⟩,⟨hf.below,Mem.plus_holds hr.hold g,Mem.le_trans hr.sub (Mem.le_plus hr.hold g),fun b o hb=>?_,fun j z hj=>?_,hf.inj,hf.wrt⟩⟩
    · unfold Mem.plus at hb
      split at hb
      · rename_i e1;subst e1
        exact .inr h5
      · exact hr.grow b o hb
    · obtain ⟨x,hx1,hx2⟩:=hf.blk j z hj
      refine ⟨x,hx1,?_⟩
      have hne:∀ b,x.live=true→q0i z=some b→b≠g:=fun b hl hb e=>by
        subst e
        by_cases hjk:j=k
        · subst hjk
          rw [List.getElem?_set] at hx1
          simp [(List.getElem?_eq_some_iff.1 hkx).1] at hx1
          subst hx1;simp [Blk.live] at hl
        · have hx3:hp[j]? = some x:=by rw [List.getElem?_set,if_neg (fun e=>hjk e.symm)] at hx1;exact hx1
          exact hr.inj j k z _ x _ b hjk hj hv hx3 hkx hl rfl hb rfl
      cases x with
      | gone=>trivial
      | muts S=>exact hx2.elim
      | cells t l =>
        obtain ⟨b,c,q1,q2,q3,q4,q5⟩:=hx2
        refine ⟨b,c,q1,q2,?_,q4,q5⟩
        have:=hne b rfl (by rw [q1];rfl)
        simp [Mem.plus,this,q3]
      | own e sz' n' xs' =>
        obtain ⟨q1,q2⟩:=hx2
        refine ⟨q1,fun b hb=>?_⟩
        have:=hne b rfl hb
        simp [Mem.plus,this,q2 b hb]
      | lp i fr st p =>
        obtain ⟨q1,q2,q3,q4⟩:=hx2
        refine ⟨q1,q2,?_,q4⟩
        have:=hne i.l rfl (by rw [q1];rfl)
        simp [Mem.plus,this,q3]
      | mp f ks vs =>
        obtain ⟨b,ys,q1,q2,q3,q4⟩:=hx2
        refine ⟨b,ys,q1,q2,?_,q4⟩
        have:=hne b rfl (by rw [q1];rfl)
        simp [Mem.plus,this,q3]
end
end Go.Proofs.YtkicdhaklnmonaaGreat
