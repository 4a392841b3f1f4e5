/-
  Merged: XRegSweep, XRecs, XFlat.
-/
import Derived.WalkKit
import Derived.Test.YtkicdhaklnmonaaGreatMrg3
set_option linter.unusedVariables false
set_option linter.unusedSimpArgs false
set_option linter.unnecessarySimpa false
namespace Go.Proofs.YtkicdhaklnmonaaGreat
def hasB (rs:Nat→Run) (n:Nat) (x y:Int):Bool:=(List.range n).any fun i=>decide ((rs i).y=y∧(rs i).x0≤x∧x<(rs i).x1)
theorem hasB_iff {rs:Nat→Run} {n:Nat} {x y:Int}:hasB rs n x y=true↔hasR (q2h rs n) x y:=by
  rw [q40];simp [hasB]
theorem z1q {rs:Nat→Run} {n:Nat} {x y:Int} {i:Nat} (h:hasR (q2h rs n) x y↔i%2=1):hasB rs n x y=decide (i%2=1):=by
  rw [← hasB_iff] at h
  cases hb:hasB rs n x y <;> simp_all
structure Sweep (op:Bool→Bool→Bool) (azs bs:Nat→Run) (n m i j:Nat) (fy fx:Int) (out:List Run):Prop where
  hi:i≤2*n
  hj:j≤2*m
  pa:0<i+j→∀ k,k<i→q1d (eY azs k) (eX azs k) fy fx
  pb:0<i+j→∀ k,k<j→q1d (eY bs k) (eX bs k) fy fx
  ua:0<i+j→∀ k,i≤k→k<2*n→q1d fy fx (eY azs k) (eX azs k)
  ub:0<i+j→∀ k,j≤k→k<2*m→q1d fy fx (eY bs k) (eX bs k)
  ok:okR out
  up:0<i+j→upTo out fy fx
  len:out.length≤i+j
  has:∀ x y,hasR out x y↔op (hasB azs n x y) (hasB bs m x y)=true∧0<i+j∧q17 y x fy fx
theorem Sweep.swap {op:Bool→Bool→Bool} {azs bs:Nat→Run} {n m i j:Nat} {fy fx:Int} {out:List Run} (h:Sweep op azs bs n m i j fy fx out):Sweep (fun p q=>op q p) bs azs m n j i fy fx out :=
  ⟨h.hj,h.hi,fun e=>h.pb (by omega),fun e=>h.pa (by omega),fun e=>h.ub (by omega),fun e=>h.ua (by omega),h.ok,fun e=>h.up (by omega),by have:=h.len;omega,fun x y=>by rw [h.has x y,Nat.add_comm]⟩
theorem Sweep.gap {op:Bool→Bool→Bool} {azs bs:Nat→Run} {n m i j:Nat} {fy fx:Int} {out:List Run} (h:Sweep op azs bs n m i j fy fx out) (va:Valid azs n) (vb:Valid bs m) {gy gx:Int} (ha:∀ k,i≤k→k<2*n→q1d gy gx (eY azs k) (eX azs k)) (hb:∀ k,j≤k→k<2*m→q1d gy gx (eY bs k) (eX bs k))
    {x y:Int} (h1:0<i+j→q1d fy fx y x) (h2:q17 y x gy gx):hasB azs n x y=decide (i%2=1)∧hasB bs m x y=decide (j%2=1):=by
  refine ⟨z1q (q96 va h.hi (fun k hk=>?_) fun k hk hk'=>?_),z1q (q96 vb h.hj (fun k hk=>?_) fun k hk hk'=>?_)⟩
  · have a1:=h.pa (by omega) k hk
    have a2:=h1 (by omega)
    unfold q1d at *;omega
  · have a1:=ha k hk hk'
    unfold q1d q17 at *;omega
  · have a1:=h.pb (by omega) k hk
    have a2:=h1 (by omega)
    unfold q1d at *;omega
  · have a1:=hb k hk hk'
    unfold q1d q17 at *;omega
theorem Sweep.row {op:Bool→Bool→Bool} {azs bs:Nat→Run} {n m i j:Nat} {fy fx:Int} {out:List Run} (h:Sweep op azs bs n m i j fy fx out) {gy gx:Int} (hg:0<i+j→q1d fy fx gy gx) (ha:∀ k,i≤k→k<2*n→q1d gy gx (eY azs k) (eX azs k)) (hb:∀ k,j≤k→k<2*m→q1d gy gx (eY bs k) (eX bs k))
    (ho:i%2=1∨j%2=1):fy=gy:=by
  have hi:=h.hi
  have hj:=h.hj
  rcases ho with ho |ho
  · have a1:=h.pa (by omega) (i-1) (by omega)
    have a2:=ha i (Nat.le_refl _) (by omega)
    have a3:=hg (by omega)
    have e:eY azs (i-1)=eY azs i:=by unfold eY;rw [show (i-1)/2=i/2 by omega]
    unfold q1d at *;omega
  · have a1:=h.pb (by omega) (j-1) (by omega)
    have a2:=hb j (Nat.le_refl _) (by omega)
    have a3:=hg (by omega)
    have e:eY bs (j-1)=eY bs j:=by unfold eY;rw [show (j-1)/2=j/2 by omega]
    unfold q1d at *;omega
theorem Sweep.start (op:Bool→Bool→Bool) (azs bs:Nat→Run) (n m:Nat) (fy fx:Int):Sweep op azs bs n m 0 0 fy fx [] :=
  ⟨Nat.zero_le _,Nat.zero_le _,fun e=>by omega,fun e=>by omega,fun e=>by omega,fun e=>by omega,trivial,fun e=>by omega,Nat.le_refl _,fun x y=>⟨fun h=>(q4k h).elim,fun h=>by omega⟩⟩
theorem Sweep.stepA {op:Bool→Bool→Bool} (hop:op false false=false) {azs bs:Nat→Run} {n m i j:Nat} {fy fx:Int} {out:List Run} (h:Sweep op azs bs n m i j fy fx out) (va:Valid azs n) (vb:Valid bs m) (hlt:i<2*n) (hle:j<2*m→q1d (eY azs i) (eX azs i) (eY bs j) (eX bs j)) :
    Sweep op azs bs n m (i+1) j (eY azs i) (eX azs i) (if 0<i+j∧op (decide (i%2=1)) (decide (j%2=1))=true then addR out fy fx (eX azs i) else out):=by
  have ha:∀ k,i≤k→k<2*n→q1d (eY azs i) (eX azs i) (eY azs k) (eX azs k):=fun k hk hk'=>by
    rcases Nat.lt_or_ge i k with h1 |h1
    · have:=z69 va h1 hk'
      unfold q17 at this;unfold q1d;omega
    · have:k=i:=by omega
      subst this;unfold q1d;omega
  have hb:∀ k,j≤k→k<2*m→q1d (eY azs i) (eX azs i) (eY bs k) (eX bs k):=fun k hk hk'=>by
    have h0:=hle (by omega)
    rcases Nat.lt_or_ge j k with h1 |h1
    · have:=z69 vb h1 hk'
      unfold q17 at this;unfold q1d at *;omega
    · have:k=j:=by omega
      subst this;exact h0
  have hg:0<i+j→q1d fy fx (eY azs i) (eX azs i):=fun e=>h.ua e i (Nat.le_refl _) hlt
  have key:∀ x y,(op (hasB azs n x y) (hasB bs m x y)=true∧q17 y x (eY azs i) (eX azs i))↔(op (hasB azs n x y) (hasB bs m x y)=true∧0<i+j∧q17 y x fy fx)∨(0<i+j∧op (decide (i%2=1)) (decide (j%2=1))=true∧y=fy∧fx≤x∧x<eX azs i):=by
    intro x y
    constructor
    · rintro ⟨h1,h2⟩
      by_cases h3:0<i+j∧q17 y x fy fx
      · exact .inl ⟨h1,h3⟩
      · obtain ⟨g1,g2⟩:=h.gap va vb ha hb (x:=x) (y:=y) (fun e=>by
          have:¬ q17 y x fy fx:=fun h4=>h3 ⟨e,h4⟩
          unfold q17 at this;unfold q1d;omega) h2
        rw [g1,g2] at h1
        have ho:i%2=1∨j%2=1:=by
          by_cases c1:i%2=1
          · exact .inl c1
          · by_cases c2:j%2=1
            · exact .inr c2
            · simp [c1,c2,hop] at h1
        have hrow:=h.row hg ha hb ho
        have h5:0<i+j:=by omega
        have h6:¬ q17 y x fy fx:=fun h4=>h3 ⟨h5,h4⟩
        refine .inr ⟨h5,h1,?_⟩
        unfold q17 at *
        have:=hg h5
        unfold q1d at this
        omega
    · rintro (⟨h1,h2,h3⟩ |⟨h1,h2,h3,h4,h5⟩)
      · refine ⟨h1,?_⟩
        have:=hg h2
        unfold q1d q17 at *;omega
      · have ho:i%2=1∨j%2=1:=by
          by_cases c1:i%2=1
          · exact .inl c1
          · by_cases c2:j%2=1
            · exact .inr c2
            · simp [c1,c2,hop] at h2
        have hrow:=h.row hg ha hb ho
        have h6:q17 y x (eY azs i) (eX azs i):=by unfold q17;omega
        obtain ⟨g1,g2⟩:=h.gap va vb ha hb (x:=x) (y:=y) (fun e=>by unfold q1d;omega) h6
        exact ⟨by rw [g1,g2];exact h2,h6⟩
  have pa':∀ k,k<i+1→q1d (eY azs k) (eX azs k) (eY azs i) (eX azs i):=fun k hk=>by
    rcases Nat.lt_or_ge k i with h1 |h1
    · have:=z69 va h1 hlt
      unfold q17 at this;unfold q1d;omega
    · have:k=i:=by omega
      subst this;unfold q1d;omega
  have pb':∀ k,k<j→q1d (eY bs k) (eX bs k) (eY azs i) (eX azs i):=fun k hk=>by
    have h1:=h.pb (by omega) k hk
    have h2:=hg (by omega)
    unfold q1d at *;omega
  split
  · rename_i hop1
    obtain ⟨h5,h2⟩:=hop1
    have ho:i%2=1∨j%2=1:=by
      by_cases c1:i%2=1
      · exact .inl c1
      · by_cases c2:j%2=1
        · exact .inr c2
        · simp [c1,c2,hop] at h2
    have hrow:=h.row hg ha hb ho
    obtain ⟨a1,a2,a3⟩:=z68 (b:=eX azs i) h.ok (h.up h5)
    refine ⟨by omega,h.hj,fun _=>pa',fun _=>pb',fun _ k hk hk'=>ha k (by omega) hk',fun _=>hb,a1,fun _=>?_,?_,fun x y=>?_⟩
    · by_cases hx:fx<eX azs i
      · rw [← hrow];exact a2 hx
      · rw [q6w (by omega)]
        refine q8d (h.up h5) ?_
        have:=hg h5
        unfold q1d at this;omega
    · have:=h.len
      unfold addR
      split
      · omega
      · split
        · split
          · rw [List.length_append,List.length_dropLast];simp;omega
          · rw [List.length_append];simp;omega
        · simp;omega
    · rw [a3,h.has x y]
      have:=key x y
      constructor
      · rintro (h1 |h1)
        · have:=this.2 (.inl h1);exact ⟨this.1,by omega,this.2⟩
        · have:=this.2 (.inr ⟨h5,h2,h1⟩);exact ⟨this.1,by omega,this.2⟩
      · rintro ⟨h1,_,h3⟩
        rcases this.1 ⟨h1,h3⟩ with h4 |h4
        · exact .inl h4
        · exact .inr h4.2.2
  · rename_i hop1
    refine ⟨by omega,h.hj,fun _=>pa',fun _=>pb',fun _ k hk hk'=>ha k (by omega) hk',fun _=>hb,h.ok,fun _=>?_,by have:=h.len;omega,fun x y=>?_⟩
    · by_cases h5:0<i+j
      · refine q8d (h.up h5) ?_
        have:=hg h5
        unfold q1d at this;omega
      · have h6:out=[]:=List.eq_nil_of_length_eq_zero (by have:=h.len;omega)
        subst h6
        exact fun r hr=>by cases hr
    · rw [h.has x y]
      have:=key x y
      constructor
      · intro h1
        have:=this.2 (.inl h1);exact ⟨this.1,by omega,this.2⟩
      · rintro ⟨h1,_,h3⟩
        rcases this.1 ⟨h1,h3⟩ with h4 |h4
        · exact h4
        · exact (hop1 ⟨h4.1,h4.2.1⟩).elim
theorem Sweep.stepB {op:Bool→Bool→Bool} (hop:op false false=false) {azs bs:Nat→Run} {n m i j:Nat} {fy fx:Int} {out:List Run} (h:Sweep op azs bs n m i j fy fx out) (va:Valid azs n) (vb:Valid bs m) (hlt:j<2*m) (hle:i<2*n→q1d (eY bs j) (eX bs j) (eY azs i) (eX azs i)) :
    Sweep op azs bs n m i (j+1) (eY bs j) (eX bs j) (if 0<i+j∧op (decide (i%2=1)) (decide (j%2=1))=true then addR out fy fx (eX bs j) else out):=by
  have:=(Sweep.stepA (op:=fun p q=>op q p) hop h.swap vb va hlt hle).swap
  rw [Nat.add_comm j i] at this
  exact this
theorem Sweep.done {op:Bool→Bool→Bool} (hop:op false false=false) {azs bs:Nat→Run} {n m:Nat} {fy fx:Int} {out:List Run} (h:Sweep op azs bs n m (2*n) (2*m) fy fx out) (va:Valid azs n) (vb:Valid bs m) :
    okR out∧∀ x y,hasR out x y↔op (hasB azs n x y) (hasB bs m x y)=true:=by
  refine ⟨h.ok,fun x y=>?_⟩
  rw [h.has x y]
  constructor
  · exact fun h1=>h1.1
  · intro h1
    by_cases h2:0<2*n+2*m∧q17 y x fy fx
    · exact ⟨h1,h2⟩
    · exfalso
      have e1:hasB azs n x y=decide ((2*n)%2=1):=z1q (q96 va (Nat.le_refl _) (fun k hk=>by
        have a1:=h.pa (by omega) k hk
        have:¬ q17 y x fy fx:=fun h4=>h2 ⟨by omega,h4⟩
        unfold q17 at this;unfold q1d at *;omega) fun k hk hk'=>by omega)
      have e2:hasB bs m x y=decide ((2*m)%2=1):=z1q (q96 vb (Nat.le_refl _) (fun k hk=>by
        have a1:=h.pb (by omega) k hk
        have:¬ q17 y x fy fx:=fun h4=>h2 ⟨by omega,h4⟩
        unfold q17 at this;unfold q1d at *;omega) fun k hk hk'=>by omega)
      rw [e1,e2] at h1
      have f1:decide ((2*n)%2=1)=false:=by simp
      have f2:decide ((2*m)%2=1)=false:=by simp
      rw [f1,f2,hop] at h1
      cases h1
/-! ### Sorted lists of numbers -/
def ins (x:Int):List Int→List Int
  | []=>[x]
  | a::l=>if a<x then a::ins x l else if a=x then a::l else x::a::l
def q3f (l:List Int):Prop:=l.Pairwise (·<·)
theorem mem_ins {x z:Int}:∀ {l:List Int},z∈ins x l↔z=x∨z∈l
  | []=>by simp [ins]
  | a::l=>by
    unfold ins
    split
    · rw [List.mem_cons,mem_ins,List.mem_cons];constructor
      · rintro (h |h |h) <;> simp [h]
      · rintro (h |h |h) <;> simp [h]
    · split
      · rename_i h;subst h
        simp
      · simp
theorem q57 {x:Int}:∀ {l:List Int},q3f l→q3f (ins x l)
  | [],_=>by simp [ins,q3f]
  | a::l,h=>by
    obtain ⟨h1,h2⟩:=List.pairwise_cons.1 h
    unfold ins
    split
    · rename_i hl
      refine List.pairwise_cons.2 ⟨fun z hz=>?_,q57 h2⟩
      rcases mem_ins.1 hz with rfl |hz
      · exact hl
      · exact h1 z hz
    · split
      · exact h
      · refine List.pairwise_cons.2 ⟨fun z hz=>?_,h⟩
        rcases List.mem_cons.1 hz with rfl |hz
        · omega
        · have:=h1 z hz;omega
theorem q46 {x:Int}:∀ {l:List Int},(ins x l).length≤l.length+1
  | []=>by simp [ins]
  | a::l=>by
    have:=q46 (x:=x) (l:=l)
    unfold ins
    split
    · simp;omega
    · split <;> simp
theorem x0r {x:Int}:∀ {l:List Int} {k:Nat},k≤l.length→(∀ (i:Nat) z,i<k→l[i]? = some z→z<x)→(∀ z,l[k]? = some z→¬ z<x) →
    ins x l=match l[k]? with
      | some z=>if z=x then l else l.take k++x::l.drop k
      | none=>l++[x]
  | [],k,hk,_,_=>by simp [ins]
  | a::l,0,_,_,h=>by
    have:=h a (by simp)
    simp [ins,this]
  | a::l,k+1,hk,h1,h2=>by
    have h3:=h1 0 a (by omega) (by simp)
    have h4:=x0r (x:=x) (l:=l) (k:=k) (by simpa using hk) (fun i z hi hz=>h1 (i+1) z (by omega) (by simpa using hz)) (fun z hz=>h2 z (by simpa using hz))
    unfold ins
    rw [if_pos h3,h4]
    simp only [List.getElem?_cons_succ]
    split
    · split <;> simp
    · simp
/-! ### The rows of two regions -/
structure Borders (azs bs:Nat→Run) (n m:Nat) (Y:Int) (xs:List Int):Prop where
  srt:q3f xs
  a:∀ i,i<n→(azs i).y=Y→(azs i).x0∈xs∧(azs i).x1∈xs
  b:∀ i,i<m→(bs i).y=Y→(bs i).x0∈xs∧(bs i).x1∈xs
theorem q47 {xs:List Int} (h:q3f xs) {i j:Nat} {p q:Int} (hij:i<j) (hp:xs[i]? = some p) (hq:xs[j]? = some q):p<q:=by
  obtain ⟨h1,rfl⟩:=List.getElem?_eq_some_iff.1 hp
  obtain ⟨h2,rfl⟩:=List.getElem?_eq_some_iff.1 hq
  exact List.pairwise_iff_getElem.1 h i j h1 h2 hij
theorem z0y {xs:List Int} (h:q3f xs) {k:Nat} {p q z:Int} (hp:xs[k]? = some p) (hq:xs[k+1]? = some q) (hz:z∈xs):z≤p∨q≤z:=by
  obtain ⟨i,hi⟩:=List.mem_iff_getElem?.1 hz
  rcases Nat.lt_trichotomy i k with h1 |h1 |h1
  · left;have:=q47 h h1 hi hp;omega
  · subst h1;rw [hp] at hi;cases hi;left;omega
  · rcases Nat.lt_trichotomy i (k+1) with h2 |h2 |h2
    · omega
    · subst h2;rw [hq] at hi;cases hi;right;omega
    · right;have:=q47 h h2 hq hi;omega
theorem v0t {rs:Nat→Run} {n:Nat} {x y x':Int} (h:hasR (q2h rs n) x y↔hasR (q2h rs n) x' y):hasB rs n x y=hasB rs n x' y:=by
  rw [← hasB_iff,← hasB_iff] at h
  cases h1:hasB rs n x y <;> cases h2:hasB rs n x' y <;> simp_all
theorem x0s {rs:Nat→Run} {n:Nat} {Y:Int} {xs:List Int} (hs:q3f xs) (hb:∀ i,i<n→(rs i).y=Y→(rs i).x0∈xs∧(rs i).x1∈xs) {k:Nat} {p q x:Int} (hp:xs[k]? = some p) (hq:xs[k+1]? = some q) (h1:p≤x) (h2:x<q) :
    hasB rs n x Y=hasB rs n p Y:=by
  refine v0t ?_
  rw [q40,q40]
  constructor
  · rintro ⟨i,hi,g1,g2,g3⟩
    refine ⟨i,hi,g1,?_,by omega⟩
    rcases z0y hs hp hq (hb i hi g1).1 with h |h <;> omega
  · rintro ⟨i,hi,g1,g2,g3⟩
    refine ⟨i,hi,g1,by omega,?_⟩
    rcases z0y hs hp hq (hb i hi g1).2 with h |h <;> omega
theorem z5y {rs:Nat→Run} {n:Nat} {Y:Int} {xs:List Int} (hs:q3f xs) (hb:∀ i,i<n→(rs i).y=Y→(rs i).x0∈xs∧(rs i).x1∈xs) {p x:Int} (hp:xs[0]? = some p) (h1:x<p):hasB rs n x Y=false:=by
  cases h:hasB rs n x Y with
  | false=>rfl
  | true =>
    rw [hasB_iff,q40] at h
    obtain ⟨i,hi,g1,g2,g3⟩:=h
    obtain ⟨j,hj⟩:=List.mem_iff_getElem?.1 (hb i hi g1).1
    rcases Nat.eq_zero_or_pos j with h0 |h0
    · subst h0;rw [hp] at hj;cases hj;omega
    · have:=q47 hs h0 hp hj;omega
theorem z5z {rs:Nat→Run} {n:Nat} {Y:Int} {xs:List Int} (hs:q3f xs) (hb:∀ i,i<n→(rs i).y=Y→(rs i).x0∈xs∧(rs i).x1∈xs) {k:Nat} {p x:Int} (hp:xs[k]? = some p) (hk:k+1=xs.length) (h1:p≤x):hasB rs n x Y=false:=by
  cases h:hasB rs n x Y with
  | false=>rfl
  | true =>
    rw [hasB_iff,q40] at h
    obtain ⟨i,hi,g1,g2,g3⟩:=h
    obtain ⟨j,hj⟩:=List.mem_iff_getElem?.1 (hb i hi g1).2
    have hjl:=(List.getElem?_eq_some_iff.1 hj).1
    rcases Nat.lt_or_ge j k with h0 |h0
    · have:=q47 hs h0 hj hp;omega
    · have:j=k:=by omega
      subst this;rw [hp] at hj;cases hj;omega
structure RowsAt (op:Bool→Bool→Bool) (azs bs:Nat→Run) (n m:Nat) (rows:List Int) (q:Nat) (out:List Run):Prop where
  ok:okR out
  row:∀ r∈out,r.y∈rows.take q
  has:∀ x y,hasR out x y↔op (hasB azs n x y) (hasB bs m x y)=true∧y∈rows.take q
structure CellsAt (op:Bool→Bool→Bool) (azs bs:Nat→Run) (n m:Nat) (rows:List Int) (q:Nat) (Y p:Int) (out:List Run):Prop where
  ok:okR out
  row:∀ r∈out,r.y∈rows.take q∨r.y=Y
  up:upTo out Y p
  has:∀ x y,hasR out x y↔op (hasB azs n x y) (hasB bs m x y)=true∧(y∈rows.take q∨(y=Y∧x<p))
theorem v0u {rows:List Int} (hs:q3f rows) {q:Nat} {Y z:Int} (hY:rows[q]? = some Y) (hz:z∈rows.take q):z<Y:=by
  obtain ⟨i,hi⟩:=List.mem_iff_getElem?.1 hz
  rw [List.getElem?_take] at hi
  split at hi
  · rename_i h;exact q47 hs h hi hY
  · cases hi
theorem z8h {rows:List Int} {q:Nat} {Y z:Int} (hY:rows[q]? = some Y):z∈rows.take (q+1)↔z∈rows.take q∨z=Y:=by
  rw [List.take_add_one,hY];simp
theorem RowsAt.enter {op:Bool→Bool→Bool} (hop:op false false=false) {azs bs:Nat→Run} {n m:Nat} {rows:List Int} {q:Nat} {out:List Run} (h:RowsAt op azs bs n m rows q out) (hs:q3f rows) {Y p:Int} (hY:rows[q]? = some Y) {xs:List Int} (hb:Borders azs bs n m Y xs) (hp:xs[0]? = some p) :
    CellsAt op azs bs n m rows q Y p out :=
  ⟨h.ok,fun r hr=>.inl (h.row r hr),fun r hr=>.inl (v0u hs hY (h.row r hr)),fun x y=>by
    rw [h.has x y]
    constructor
    · exact fun h1=>⟨h1.1,.inl h1.2⟩
    · rintro ⟨h1,h2 |⟨rfl,h2⟩⟩
      · exact ⟨h1,h2⟩
      · rw [z5y hb.srt hb.a hp h2,z5y hb.srt hb.b hp h2,hop] at h1;cases h1⟩
theorem CellsAt.step {op:Bool→Bool→Bool} {azs bs:Nat→Run} {n m:Nat} {rows:List Int} {q:Nat} {out:List Run} {Y p p':Int} (h:CellsAt op azs bs n m rows q Y p out) {xs:List Int} (hb:Borders azs bs n m Y xs) {k:Nat} (hp:xs[k]? = some p) (hp':xs[k+1]? = some p') :
    CellsAt op azs bs n m rows q Y p' (if op (hasB azs n p Y) (hasB bs m p Y)=true then addR out Y p p' else out):=by
  have hlt:=q47 hb.srt (Nat.lt_succ_self k) hp hp'
  have key:∀ x,p≤x→x<p'→op (hasB azs n x Y) (hasB bs m x Y)=op (hasB azs n p Y) (hasB bs m p Y):=fun x h1 h2=>by
    rw [x0s hb.srt hb.a hp hp' h1 h2,x0s hb.srt hb.b hp hp' h1 h2]
  split
  · rename_i ho
    obtain ⟨a1,a2,a3⟩:=z68 (b:=p') h.ok h.up
    refine ⟨a1,fun r hr=>?_,a2 hlt,fun x y=>?_⟩
    · unfold addR at hr
      rw [if_neg (by omega)] at hr
      split at hr
      · split at hr
        · rcases List.mem_append.1 hr with hr |hr
          · exact h.row r (List.dropLast_subset _ hr)
          · simp at hr;subst hr;exact .inr rfl
        · rcases List.mem_append.1 hr with hr |hr
          · exact h.row r hr
          · simp at hr;subst hr;exact .inr rfl
      · simp at hr;subst hr;exact .inr rfl
    · rw [a3,h.has x y]
      constructor
      · rintro (⟨h1,h2⟩ |⟨rfl,h1,h2⟩)
        · refine ⟨h1,?_⟩
          rcases h2 with h2 |h2
          · exact .inl h2
          · exact .inr (by omega)
        · exact ⟨by rw [key x h1 h2];exact ho,.inr ⟨rfl,h2⟩⟩
      · rintro ⟨h1,h2 |⟨rfl,h2⟩⟩
        · exact .inl ⟨h1,.inl h2⟩
        · by_cases h3:x<p
          · exact .inl ⟨h1,.inr ⟨rfl,h3⟩⟩
          · exact .inr ⟨rfl,by omega,h2⟩
  · rename_i ho
    refine ⟨h.ok,h.row,q8d h.up (by omega),fun x y=>?_⟩
    rw [h.has x y]
    constructor
    · rintro ⟨h1,h2 |⟨rfl,h2⟩⟩
      · exact ⟨h1,.inl h2⟩
      · exact ⟨h1,.inr ⟨rfl,by omega⟩⟩
    · rintro ⟨h1,h2 |⟨rfl,h2⟩⟩
      · exact ⟨h1,.inl h2⟩
      · by_cases h3:x<p
        · exact ⟨h1,.inr ⟨rfl,h3⟩⟩
        · rw [key x (by omega) h2] at h1
          exact (ho h1).elim
theorem CellsAt.leave {op:Bool→Bool→Bool} (hop:op false false=false) {azs bs:Nat→Run} {n m:Nat} {rows:List Int} {q:Nat} {out:List Run} {Y p:Int} (h:CellsAt op azs bs n m rows q Y p out) (hY:rows[q]? = some Y) {xs:List Int} (hb:Borders azs bs n m Y xs) {k:Nat} (hp:xs[k]? = some p) (hk:k+1=xs.length) :
    RowsAt op azs bs n m rows (q+1) out :=
  ⟨h.ok,fun r hr=>(z8h hY).2 (h.row r hr),fun x y=>by
    rw [h.has x y,z8h hY]
    constructor
    · rintro ⟨h1,h2 |h2⟩
      · exact ⟨h1,.inl h2⟩
      · exact ⟨h1,.inr h2.1⟩
    · rintro ⟨h1,h2 |rfl⟩
      · exact ⟨h1,.inl h2⟩
      · by_cases h3:x<p
        · exact ⟨h1,.inr ⟨rfl,h3⟩⟩
        · rw [z5z hb.srt hb.a hp hk (by omega),z5z hb.srt hb.b hp hk (by omega),hop] at h1;cases h1⟩
theorem RowsAt.start (op:Bool→Bool→Bool) (azs bs:Nat→Run) (n m:Nat) (rows:List Int):RowsAt op azs bs n m rows 0 [] :=
  ⟨trivial,(fun r hr=>by cases hr),fun x y=>by simp [hasR]⟩
theorem RowsAt.done {op:Bool→Bool→Bool} (hop:op false false=false) {azs bs:Nat→Run} {n m:Nat} {rows:List Int} {out:List Run} (h:RowsAt op azs bs n m rows rows.length out) (ha:∀ i,i<n→(azs i).y∈rows) (hb:∀ i,i<m→(bs i).y∈rows) :
    okR out∧∀ x y,hasR out x y↔op (hasB azs n x y) (hasB bs m x y)=true:=by
  refine ⟨h.ok,fun x y=>?_⟩
  rw [h.has x y,List.take_length]
  refine ⟨fun h1=>h1.1,fun h1=>⟨h1,?_⟩⟩
  cases h2:hasB azs n x y with
  | true =>
    rw [hasB_iff,q40] at h2
    obtain ⟨i,hi,rfl,_⟩:=h2
    exact ha i hi
  | false =>
    cases h3:hasB bs m x y with
    | true =>
      rw [hasB_iff,q40] at h3
      obtain ⟨i,hi,rfl,_⟩:=h3
      exact hb i hi
    | false=>rw [h2,h3,hop] at h1;cases h1
end Go.Proofs.YtkicdhaklnmonaaGreat
namespace Go.Proofs.YtkicdhaklnmonaaGreat
open Go.RowKit Go.ChangeShapes Go.WideShapes Go.Deep
def RecsAt (i:IntKind) (w:World) (A:Option Addr) (n k:Nat) (f:Nat→Nat→Int):Prop :=
  0<n→∃ b off,A=some ⟨b,off,none⟩∧b<w.heap.size∧∀ x,x<n→∀ j,j<k→w.cell? ⟨b,off+x*k+j,none⟩=some (.int i (f x j))
theorem RecsAt.below {i:IntKind} {w w':World} {A:Option Addr} {n k:Nat} {f:Nat→Nat→Int} (h:RecsAt i w A n k f) (hb:Below w.heap.size w w'):RecsAt i w' A n k f:=by
  intro hn
  obtain ⟨b,off,hA,hlt,hc⟩:=h hn
  exact ⟨b,off,hA,Nat.lt_of_lt_of_le hlt hb.size,fun x hx j hj=>(hb.cell (p:=⟨b,_,none⟩) hlt).trans (hc x hx j hj)⟩
def q4v (err:Nat→Int):Nat→Int
  | 0=>0
  | n+1=>if q4v err n≠0 then q4v err n else err n
theorem z2p {err:Nat→Int} {k:Nat} (h0:q4v err k=0) (h:err k≠0):∀ {n:Nat},k<n→q4v err n=err k:=by
  intro n hn
  induction n with
  | zero=>omega
  | succ n ih =>
    unfold q4v
    by_cases hk:k<n
    · rw [if_pos (by rw [ih hk];exact h),ih hk]
    · have:k=n:=by omega
      subst this
      rw [if_neg (by simp [h0])]
theorem z4e {err:Nat→Int} {k:Nat} (h0:q4v err k=0) (h:err k=0):q4v err (k+1)=0:=by
  unfold q4v;rw [if_neg (by simp [h0]),h]
section
variable {H:Type} {enc:TypeId × Value→H} {P:Program} {w:World} {base b0:Nat} {spare:Nat→Bool} {held:Bool} {r:Reach} {v:Value} {d:DataW H} {ps:List MemPlace}
end
end Go.Proofs.YtkicdhaklnmonaaGreat
namespace Go.Proofs.YtkicdhaklnmonaaGreat
open Go.RowKit Go.ChangeShapes Go.WideShapes Go.Deep
def All2 {α β:Type} (R:α→β→Prop):List α→List β→Prop
  | [],[]=>True
  | a::l,b::m=>R a b∧All2 R l m
  | _,_=>False
theorem All2.cons {α β:Type} {R:α→β→Prop} {a:α} {l:List α} {cs:List β} (h:All2 R (a::l) cs):∃ c cs',cs=c::cs'∧R a c∧All2 R l cs':=by
  cases cs with
  | nil=>exact h.elim
  | cons c cs'=>exact ⟨c,cs',rfl,h.1,h.2⟩
theorem All2.nil {α β:Type} {R:α→β→Prop} {cs:List β} (h:All2 R [] cs):cs=[]:=by
  cases cs with
  | nil=>rfl
  | cons c cs'=>exact h.elim
theorem All2.append {α β:Type} {R:α→β→Prop}:∀ {l1 l2:List α} {c1 c2:List β},All2 R l1 c1→All2 R l2 c2→All2 R (l1++l2) (c1++c2)
  | [],_,[],_,_,h=>h
  | _::_,_,_::_,_,h1,h2=>⟨h1.1,All2.append h1.2 h2⟩
  | [],_,_::_,_,h1,_=>h1.elim
  | _::_,_,[],_,h1,_=>h1.elim
theorem All2.length {α β:Type} {R:α→β→Prop}:∀ {l:List α} {c:List β},All2 R l c→l.length=c.length
  | [],[],_=>rfl
  | _::_,_::_,h=>by simp [All2.length h.2]
  | [],_::_,h=>h.elim
  | _::_,[],h=>h.elim
theorem All2.get {α β:Type} {R:α→β→Prop}:∀ {l:List α} {c:List β},All2 R l c→∀ {i:Nat} {a:α},l[i]? = some a→∃ b,c[i]? = some b∧R a b
  | [],_,_,_,_,h=>by simp at h
  | _::_,[],h,_,_,_=>h.elim
  | a::l,b::c,h,0,a',hi=>by simp at hi;subst hi;exact ⟨b,rfl,h.1⟩
  | a::l,b::c,h,i+1,a',hi=>by
    obtain ⟨b',h1,h2⟩:=All2.get h.2 (i:=i) (by simpa using hi)
    exact ⟨b',by simpa using h1,h2⟩
inductive Scal where
  | int (k:IntKind)
  | bool
  | string
  | slice (t:TypeId)
  | other
def flat (P:Program):Nat→TypeId→List Scal
  | 0,_=>[]
  | n+1,t=>match P.underlying t with
    | some (.int k)=>[.int k]
    | some .bool=>[.bool]
    | some .string=>[.string]
    | some (.struct fs)=>fs.toList.flatMap fun f=>flat P n f.type
    | some (.array m e)=>(List.replicate m (flat P n e)).flatten
    | some (.slice _)=>[.slice t]
    | _=>[.other]
def q8v (P:Program) (n:Nat) (ok:TypeId→Bool):Nat→List Field→Bool
  | _,[]=>true
  | o,f::l=>f.offset==o&&P.cellsOf f.type==(flat P n f.type).length&&ok f.type&&q8v P n ok (o+(flat P n f.type).length) l
def q4w (P:Program):Nat→TypeId→Bool
  | 0,_=>false
  | n+1,t=>match P.underlying t with
    | some (.struct fs)=>q8v P n (q4w P n) 0 fs.toList&&P.cellsOf t==(flat P (n+1) t).length
    | some (.array m e)=>q4w P n e&&P.cellsOf e==(flat P n e).length&&P.cellsOf t==m*(flat P n e).length
    | some (.int _)=>true
    | some .bool=>true
    | some .string=>true
    | some (.slice _)=>true
    | _=>false
def SeesC (P:Program) (w:World):Scal→Value→Prop
  | .int k,c=>∃ a,c=.int k a∧(Lit.int k a).wf=true
  | .bool,c=>∃ b,c=.bool b
  | .string,c=>∃ s,c=.string s∧s.size≤maxLen
  | .slice t,c=>∃ m,Sees P w m t [c]
  | .other,_=>True
section
variable {P:Program} {w:World}
theorem z4f {n:Nat} {m:Nat} {cs:List Value} (ih:∀ (t:TypeId) (cs:List Value),q4w P n t=true→Sees P w m t cs→All2 (SeesC P w) (flat P n t) cs) :
    ∀ (l:List Field) (o:Nat),q8v P n (q4w P n) o l=true→cs.length=o+(l.flatMap fun f=>flat P n f.type).length →
      (∀ f∈l,Sees P w m f.type ((cs.drop f.offset).take (P.cellsOf f.type)))→All2 (SeesC P w) (l.flatMap fun f=>flat P n f.type) (cs.drop o)
  | [],o,_,hl,_=>by
    have:cs.drop o=[]:=List.drop_eq_nil_of_le (by simp at hl;omega)
    rw [this];trivial
  | f::l,o,hok,hl,hs=>by
    simp only [q8v,Bool.and_eq_true,beq_iff_eq] at hok
    obtain ⟨⟨⟨h1,h2⟩,h3⟩,h4⟩:=hok
    rw [List.flatMap_cons] at hl ⊢
    rw [List.length_append] at hl
    have hf:=ih f.type _ h3 (hs f (List.mem_cons_self ..))
    rw [h1,h2] at hf
    have hr:=z4f (cs:=cs) ih l (o+(flat P n f.type).length) h4 (by omega) (fun g hg=>hs g (List.mem_cons_of_mem _ hg))
    have:=hf.append hr
    rw [← List.drop_drop,List.take_append_drop] at this
    exact this
theorem z50 {n m:Nat} {e:TypeId} {cs:List Value} (ih:∀ (t:TypeId) (cs:List Value),q4w P n t=true→Sees P w m t cs→All2 (SeesC P w) (flat P n t) cs) (hok:q4w P n e=true) (hc:P.cellsOf e=(flat P n e).length) :
    ∀ (k i:Nat),cs.length=(i+k)*(flat P n e).length→(∀ j,j<i+k→Sees P w m e ((cs.drop (j*P.cellsOf e)).take (P.cellsOf e))) →
      All2 (SeesC P w) (List.replicate k (flat P n e)).flatten (cs.drop (i*(flat P n e).length))
  | 0,i,hl,_=>by
    have:cs.drop (i*(flat P n e).length)=[]:=List.drop_eq_nil_of_le (by simp at hl;omega)
    rw [this];trivial
  | k+1,i,hl,hs=>by
    have hf:=ih e _ hok (hs i (by omega))
    rw [hc] at hf
    have hr:=z50 (cs:=cs) ih hok hc k (i+1) (by rw [hl];congr 1;omega) (fun j hj=>hs j (by omega))
    have:=hf.append hr
    rw [List.replicate_succ,List.flatten_cons]
    rw [show (i+1)*(flat P n e).length=i*(flat P n e).length+(flat P n e).length by rw [Nat.add_mul];omega,← List.drop_drop,List.take_append_drop] at this
    exact this
theorem z2q:∀ (n m:Nat) (t:TypeId) (cs:List Value),q4w P n t=true→Sees P w m t cs→All2 (SeesC P w) (flat P n t) cs
  | 0,_,_,_,h,_=>by simp [q4w] at h
  | n+1,m,t,cs,hok,hs=>by
    unfold flat
    unfold q4w at hok
    split
    · rename_i k ht;obtain ⟨a,rfl,hw⟩:=hs.int ht;exact ⟨⟨a,rfl,hw⟩,trivial⟩
    · rename_i ht;obtain ⟨b,rfl⟩:=hs.bool ht;exact ⟨⟨b,rfl⟩,trivial⟩
    · rename_i ht;obtain ⟨b,rfl,hb⟩:=hs.string ht;exact ⟨⟨b,rfl,hb⟩,trivial⟩
    · rename_i fs ht
      rw [ht] at hok
      simp only [Bool.and_eq_true,beq_iff_eq] at hok
      obtain ⟨h1,h2⟩:=hok
      rw [show flat P (n+1) t=fs.toList.flatMap fun f=>flat P n f.type by rw [flat,ht]] at h2
      obtain ⟨hl,k,hk⟩:=hs.struct ht
      have:=z4f (cs:=cs) (fun t cs h h'=>z2q n k t cs h h') fs.toList 0 h1 (by omega) (fun f hf=>by
        obtain ⟨i,hi⟩:=List.mem_iff_getElem?.1 hf
        exact hk i f (by simpa using hi))
      simpa using this
    · rename_i k e ht
      rw [ht] at hok
      simp only [Bool.and_eq_true,beq_iff_eq] at hok
      obtain ⟨⟨h1,h2⟩,h3⟩:=hok
      obtain ⟨hl,q,hq⟩:=hs.array ht
      have:=z50 (cs:=cs) (fun t cs h h'=>z2q n q t cs h h') h1 h2 k 0 (by rw [hl,h3];simp) (fun j hj=>hq j (by omega))
      simpa using this
    · rename_i e ht
      have:∃ c,cs=[c]:=by
        rcases hs.slice ht with h |⟨a,len,cap,h,_⟩
        · exact ⟨_,h⟩
        · exact ⟨_,h⟩
      obtain ⟨c,rfl⟩:=this
      exact ⟨⟨m,hs⟩,trivial⟩
    · rename_i h1 h2 h3 h4 h5 h6
      split at hok
      all_goals simp_all
theorem Sees.below {w':World} (hb:Below w.heap.size w w'):∀ (n:Nat) (t:TypeId) (cs:List Value),Sees P w n t cs→Sees P w' n t cs
  | 0,_,_,h=>h.elim
  | n+1,t,cs,h=>by
    unfold Sees at h ⊢
    split <;> first |(rename_i ht;rw [ht] at h;simp only at h) |skip
    · exact h
    · exact h
    · exact h
    · exact ⟨h.1,fun i f hi=>Sees.below hb n _ _ (h.2 i f hi)⟩
    · exact ⟨h.1,fun i hi=>Sees.below hb n _ _ (h.2 i hi)⟩
    · rcases h with h |⟨a,len,cap,h1,h2,h3,h4⟩
      · exact .inl h
      · refine .inr ⟨a,len,cap,h1,h2,h3,fun i hi=>?_⟩
        obtain ⟨cs',hl,hc,hs⟩:=h4 i hi
        refine ⟨cs',hl,fun j hj=>?_,Sees.below hb n _ _ hs⟩
        have hj':cs'[j]? = some cs'[j]:=List.getElem?_eq_getElem (by omega)
        have h5:=hc j hj
        rw [hj'] at h5 ⊢
        exact (hb.cell (z5x h5).2).trans h5
    · trivial
theorem SeesC.below {w':World} (hb:Below w.heap.size w w') {s:Scal} {c:Value} (h:SeesC P w s c):SeesC P w' s c:=by
  cases s with
  | slice t=>obtain ⟨m,hm⟩:=h;exact ⟨m,Sees.below hb m t _ hm⟩
  | int k=>exact h
  | bool=>exact h
  | string=>exact h
  | other=>trivial
theorem All2.mono {α β:Type} {R S:α→β→Prop} (hRS:∀ a b,R a b→S a b):∀ {l:List α} {c:List β},All2 R l c→All2 S l c
  | [],[],_=>trivial
  | _::_,_::_,h=>⟨hRS _ _ h.1,All2.mono hRS h.2⟩
  | [],_::_,h=>h.elim
  | _::_,[],h=>h.elim
def SliceG (P:Program) (w:World) (e:TypeId) (A:Option Addr) (n:Nat) (g:Nat→Nat→Value):Prop :=
  0<n→∃ b off,A=some ⟨b,off,none⟩∧b<w.heap.size∧∀ x,x<n→(∀ j,j<P.cellsOf e→w.cell? ⟨b,off+x*P.cellsOf e+j,none⟩=some (g x j))∧∃ m,Sees P w m e ((List.range (P.cellsOf e)).map (g x))
theorem SliceG.below {w':World} {e:TypeId} {A:Option Addr} {n:Nat} {g:Nat→Nat→Value} (h:SliceG P w e A n g) (hb:Below w.heap.size w w'):SliceG P w' e A n g:=by
  intro hn
  obtain ⟨b,off,hA,hlt,hc⟩:=h hn
  refine ⟨b,off,hA,Nat.lt_of_lt_of_le hlt hb.size,fun x hx=>⟨fun j hj=>(hb.cell (p:=⟨b,_,none⟩) hlt).trans ((hc x hx).1 j hj),?_⟩⟩
  obtain ⟨m,hm⟩:=(hc x hx).2
  exact ⟨m,Sees.below hb m _ _ hm⟩
def valI:Value→Int
  | .int _ a=>a
  | _=>0
def valB:Value→Bool
  | .bool b=>b
  | _=>false
theorem SliceG.seen {e:TypeId} {A:Option Addr} {n:Nat} {g:Nat→Nat→Value} (h:SliceG P w e A n g) (hok:q4w P 20 e=true) {x:Nat} (hx:x<n) {j:Nat} {s:Scal} (hj:(flat P 20 e)[j]? = some s):SeesC P w s (g x j):=by
  obtain ⟨b,off,_,_,hc⟩:=h (by omega)
  obtain ⟨m,hm⟩:=(hc x hx).2
  obtain ⟨c,h1,h2⟩:=(z2q 20 m e _ hok hm).get hj
  rw [List.getElem?_map] at h1
  by_cases hjl:j<P.cellsOf e
  · rw [List.getElem?_range hjl] at h1
    simp at h1;subst h1;exact h2
  · rw [List.getElem?_eq_none (by simp;omega)] at h1
    simp at h1
theorem SliceG.int {e:TypeId} {A:Option Addr} {n:Nat} {g:Nat→Nat→Value} (h:SliceG P w e A n g) (hok:q4w P 20 e=true) {x:Nat} (hx:x<n) {j:Nat} {k:IntKind} (hj:(flat P 20 e)[j]? = some (.int k)):g x j=.int k (valI (g x j))∧(Lit.int k (valI (g x j))).wf=true:=by
  obtain ⟨a,ha,hw⟩:=h.seen hok hx hj
  rw [ha];exact ⟨rfl,hw⟩
theorem SliceG.bool {e:TypeId} {A:Option Addr} {n:Nat} {g:Nat→Nat→Value} (h:SliceG P w e A n g) (hok:q4w P 20 e=true) {x:Nat} (hx:x<n) {j:Nat} (hj:(flat P 20 e)[j]? = some .bool):g x j=.bool (valB (g x j)):=by
  obtain ⟨a,ha⟩:=h.seen hok hx hj
  rw [ha];rfl
theorem z51 {m:Nat} {t e:TypeId} {c:Value} (ht:P.underlying t=some (.slice e)) (h0:0<P.cellsOf e) (h:Sees P w m t [c]) :
    ∃ (A:Option Addr) (n cap:Nat) (g:Nat→Nat→Value),c=.slice A n cap∧n≤cap∧cap≤maxLen∧SliceG P w e A n g:=by
  rcases h.slice ht with hnil |⟨a,len,cap,hcs,h1,h2,k,hk⟩
  · simp at hnil
    exact ⟨none,0,0,fun _ _=>undef,hnil,by omega,by simp [maxLen],fun h=>absurd h (by omega)⟩
  · simp at hcs
    subst hcs
    have key:∀ x,x<len→∃ g:Nat→Value,(∀ j,j<P.cellsOf e→w.cell? (a.add (x*P.cellsOf e+j))=some (g j))∧Sees P w k e ((List.range (P.cellsOf e)).map g):=by
      intro x hx
      obtain ⟨cs,hl,hc,hse⟩:=hk x hx
      refine ⟨fun j=>cs.getD j undef,fun j hj=>?_,?_⟩
      · rw [hc j hj];simp [List.getD_eq_getElem?_getD,show j<cs.length by omega]
      · have:(List.range (P.cellsOf e)).map (fun j=>cs.getD j undef)=cs:=by
          apply List.ext_getElem?
          intro j
          rw [List.getElem?_map]
          by_cases hj:j<cs.length
          · rw [List.getElem?_range (by omega)];simp [List.getD_eq_getElem?_getD,hj]
          · rw [List.getElem?_eq_none (by simp;omega),List.getElem?_eq_none (by omega)];rfl
        rw [this];exact hse
    have:Inhabited (Nat→Value):=⟨fun _=>undef⟩
    obtain ⟨g,hg⟩:=choose_lt key
    refine ⟨some a,len,cap,g,rfl,h1,h2,fun hn=>?_⟩
    have h00:=(hg 0 hn).1 0 h0
    rw [Nat.zero_mul,Nat.add_zero,show a.add 0=a by simp [Addr.add]] at h00
    obtain ⟨q1,q2⟩:=z5x h00
    refine ⟨a.block,a.off,by rw [← q1],q2,fun x hx=>⟨fun j hj=>?_,k,(hg x hx).2⟩⟩
    have c:=(hg x hx).1 j hj
    rw [q1,x57] at c
    rw [Nat.add_assoc];exact c
end
section
variable {H:Type} {enc:TypeId × Value→H} {P:Program} {w:World} {base b0:Nat} {spare:Nat→Bool} {held:Bool} {r:Reach} {v:Value} {d:DataW H} {ps:List MemPlace}
theorem v2p {t e:TypeId} (ht:P.underlying t=some (.slice e)) (h0:0<P.cellsOf e) (hv:Value.okWide P w r b0 t v) (h:DataW.Trod enc P w base spare held t v d ps) :
    ∃ (A:Option Addr) (n cap:Nat) (g:Nat→Nat→Value),v=.slice A n cap∧n≤cap∧cap≤maxLen∧SliceG P w e A n g:=by
  obtain ⟨A,n,cap,rfl⟩:=okWide_slice ht hv
  obtain ⟨m,hs⟩:=x0p h
  exact z51 ht h0 (by simpa [Value.cells] using hs)
end
end Go.Proofs.YtkicdhaklnmonaaGreat
