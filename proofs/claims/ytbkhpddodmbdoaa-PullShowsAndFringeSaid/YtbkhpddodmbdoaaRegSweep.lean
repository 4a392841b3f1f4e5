/-
  Plain laws: the sweep over two regions, and the rows of two regions. No program in sight.
-/
import Derived.Test.YtbkhpddodmbdoaaMrg4
set_option linter.unusedVariables false
set_option linter.unusedSimpArgs false
set_option linter.unnecessarySimpa false
namespace Go.Proofs.Ytbkhpddodmbdoaa
def hasB (rs:Nat→Run) (n:Nat) (x y:Int):Bool:=(List.range n).any fun i=>decide ((rs i).y=y∧(rs i).x0≤x∧x<(rs i).x1)
theorem hasB_iff {rs:Nat→Run} {n:Nat} {x y:Int}:hasB rs n x y=true↔hasR (q2s rs n) x y:=by
  rw [q4m];simp [hasB]
theorem q9z {rs:Nat→Run} {n:Nat} {x y:Int} {i:Nat} (h:hasR (q2s rs n) x y↔i%2=1):hasB rs n x y=decide (i%2=1):=by
  rw [← hasB_iff] at h
  cases hb:hasB rs n x y <;> simp_all
structure Sweep (op:Bool→Bool→Bool) (azs bs:Nat→Run) (n m i j:Nat) (fy fx:Int) (out:List Run):Prop where
  hi:i≤2*n
  hj:j≤2*m
  pa:0<i+j→∀ k,k<i→q09 (eY azs k) (eX azs k) fy fx
  pb:0<i+j→∀ k,k<j→q09 (eY bs k) (eX bs k) fy fx
  ua:0<i+j→∀ k,i≤k→k<2*n→q09 fy fx (eY azs k) (eX azs k)
  ub:0<i+j→∀ k,j≤k→k<2*m→q09 fy fx (eY bs k) (eX bs k)
  ok:okR out
  up:0<i+j→upTo out fy fx
  len:out.length≤i+j
  has:∀ x y,hasR out x y↔op (hasB azs n x y) (hasB bs m x y)=true∧0<i+j∧q17 y x fy fx
theorem Sweep.swap {op:Bool→Bool→Bool} {azs bs:Nat→Run} {n m i j:Nat} {fy fx:Int} {out:List Run} (h:Sweep op azs bs n m i j fy fx out):Sweep (fun p q=>op q p) bs azs m n j i fy fx out :=
  ⟨h.hj,h.hi,fun e=>h.pb (by omega),fun e=>h.pa (by omega),fun e=>h.ub (by omega),fun e=>h.ua (by omega),h.ok,fun e=>h.up (by omega),by have:=h.len;omega,fun x y=>by rw [h.has x y,Nat.add_comm]⟩
theorem Sweep.gap {op:Bool→Bool→Bool} {azs bs:Nat→Run} {n m i j:Nat} {fy fx:Int} {out:List Run} (h:Sweep op azs bs n m i j fy fx out) (va:Valid azs n) (vb:Valid bs m) {gy gx:Int} (ha:∀ k,i≤k→k<2*n→q09 gy gx (eY azs k) (eX azs k)) (hb:∀ k,j≤k→k<2*m→q09 gy gx (eY bs k) (eX bs k))
    {x y:Int} (h1:0<i+j→q09 fy fx y x) (h2:q17 y x gy gx):hasB azs n x y=decide (i%2=1)∧hasB bs m x y=decide (j%2=1):=by
  refine ⟨q9z (q81 va h.hi (fun k hk=>?_) fun k hk hk'=>?_),q9z (q81 vb h.hj (fun k hk=>?_) fun k hk hk'=>?_)⟩
  · have a1:=h.pa (by omega) k hk
    have a2:=h1 (by omega)
    unfold q09 at *;omega
  · have a1:=ha k hk hk'
    unfold q09 q17 at *;omega
  · have a1:=h.pb (by omega) k hk
    have a2:=h1 (by omega)
    unfold q09 at *;omega
  · have a1:=hb k hk hk'
    unfold q09 q17 at *;omega
theorem Sweep.row {op:Bool→Bool→Bool} {azs bs:Nat→Run} {n m i j:Nat} {fy fx:Int} {out:List Run} (h:Sweep op azs bs n m i j fy fx out) {gy gx:Int} (hg:0<i+j→q09 fy fx gy gx) (ha:∀ k,i≤k→k<2*n→q09 gy gx (eY azs k) (eX azs k)) (hb:∀ k,j≤k→k<2*m→q09 gy gx (eY bs k) (eX bs k))
    (ho:i%2=1∨j%2=1):fy=gy:=by
  have hi:=h.hi
  have hj:=h.hj
  rcases ho with ho |ho
  · have a1:=h.pa (by omega) (i-1) (by omega)
    have a2:=ha i (Nat.le_refl _) (by omega)
    have a3:=hg (by omega)
    have e:eY azs (i-1)=eY azs i:=by unfold eY;rw [show (i-1)/2=i/2 by omega]
    unfold q09 at *;omega
  · have a1:=h.pb (by omega) (j-1) (by omega)
    have a2:=hb j (Nat.le_refl _) (by omega)
    have a3:=hg (by omega)
    have e:eY bs (j-1)=eY bs j:=by unfold eY;rw [show (j-1)/2=j/2 by omega]
    unfold q09 at *;omega
theorem Sweep.start (op:Bool→Bool→Bool) (azs bs:Nat→Run) (n m:Nat) (fy fx:Int):Sweep op azs bs n m 0 0 fy fx [] :=
  ⟨Nat.zero_le _,Nat.zero_le _,fun e=>by omega,fun e=>by omega,fun e=>by omega,fun e=>by omega,trivial,fun e=>by omega,Nat.le_refl _,fun x y=>⟨fun h=>(q28 h).elim,fun h=>by omega⟩⟩
theorem Sweep.stepA {op:Bool→Bool→Bool} (hop:op false false=false) {azs bs:Nat→Run} {n m i j:Nat} {fy fx:Int} {out:List Run} (h:Sweep op azs bs n m i j fy fx out) (va:Valid azs n) (vb:Valid bs m) (hlt:i<2*n) (hle:j<2*m→q09 (eY azs i) (eX azs i) (eY bs j) (eX bs j)) :
    Sweep op azs bs n m (i+1) j (eY azs i) (eX azs i) (if 0<i+j∧op (decide (i%2=1)) (decide (j%2=1))=true then addR out fy fx (eX azs i) else out):=by
  have ha:∀ k,i≤k→k<2*n→q09 (eY azs i) (eX azs i) (eY azs k) (eX azs k):=fun k hk hk'=>by
    rcases Nat.lt_or_ge i k with h1 |h1
    · have:=z4u va h1 hk'
      unfold q17 at this;unfold q09;omega
    · have:k=i:=by omega
      subst this;unfold q09;omega
  have hb:∀ k,j≤k→k<2*m→q09 (eY azs i) (eX azs i) (eY bs k) (eX bs k):=fun k hk hk'=>by
    have h0:=hle (by omega)
    rcases Nat.lt_or_ge j k with h1 |h1
    · have:=z4u vb h1 hk'
      unfold q17 at this;unfold q09 at *;omega
    · have:k=j:=by omega
      subst this;exact h0
  have hg:0<i+j→q09 fy fx (eY azs i) (eX azs i):=fun e=>h.ua e i (Nat.le_refl _) hlt
  have key:∀ x y,(op (hasB azs n x y) (hasB bs m x y)=true∧q17 y x (eY azs i) (eX azs i))↔(op (hasB azs n x y) (hasB bs m x y)=true∧0<i+j∧q17 y x fy fx)∨(0<i+j∧op (decide (i%2=1)) (decide (j%2=1))=true∧y=fy∧fx≤x∧x<eX azs i):=by
    intro x y
    constructor
    · rintro ⟨h1,h2⟩
      by_cases h3:0<i+j∧q17 y x fy fx
      · exact .inl ⟨h1,h3⟩
      · obtain ⟨g1,g2⟩:=h.gap va vb ha hb (x:=x) (y:=y) (fun e=>by
          have:¬ q17 y x fy fx:=fun h4=>h3 ⟨e,h4⟩
          unfold q17 at this;unfold q09;omega) h2
        rw [g1,g2] at h1
        have ho:i%2=1∨j%2=1:=by
          by_cases c1:i%2=1
          · exact .inl c1
          · by_cases c2:j%2=1
            · exact .inr c2
            · simp [c1,c2,hop] at h1
        have hrow:=h.row hg ha hb ho
        have h5:0<i+j:=by omega
        have h6:¬ q17 y x fy fx:=fun h4=>h3 ⟨h5,h4⟩
        refine .inr ⟨h5,h1,?_⟩
        unfold q17 at *
        have:=hg h5
        unfold q09 at this
        omega
    · rintro (⟨h1,h2,h3⟩ |⟨h1,h2,h3,h4,h5⟩)
      · refine ⟨h1,?_⟩
        have:=hg h2
        unfold q09 q17 at *;omega
      · have ho:i%2=1∨j%2=1:=by
          by_cases c1:i%2=1
          · exact .inl c1
          · by_cases c2:j%2=1
            · exact .inr c2
            · simp [c1,c2,hop] at h2
        have hrow:=h.row hg ha hb ho
        have h6:q17 y x (eY azs i) (eX azs i):=by unfold q17;omega
        obtain ⟨g1,g2⟩:=h.gap va vb ha hb (x:=x) (y:=y) (fun e=>by unfold q09;omega) h6
        exact ⟨by rw [g1,g2];exact h2,h6⟩
  have pa':∀ k,k<i+1→q09 (eY azs k) (eX azs k) (eY azs i) (eX azs i):=fun k hk=>by
    rcases Nat.lt_or_ge k i with h1 |h1
    · have:=z4u va h1 hlt
      unfold q17 at this;unfold q09;omega
    · have:k=i:=by omega
      subst this;unfold q09;omega
  have pb':∀ k,k<j→q09 (eY bs k) (eX bs k) (eY azs i) (eX azs i):=fun k hk=>by
    have h1:=h.pb (by omega) k hk
    have h2:=hg (by omega)
    unfold q09 at *;omega
  split
  · rename_i hop1
    obtain ⟨h5,h2⟩:=hop1
    have ho:i%2=1∨j%2=1:=by
      by_cases c1:i%2=1
      · exact .inl c1
      · by_cases c2:j%2=1
        · exact .inr c2
        · simp [c1,c2,hop] at h2
    have hrow:=h.row hg ha hb ho
    obtain ⟨a1,a2,a3⟩:=z4t (b:=eX azs i) h.ok (h.up h5)
    refine ⟨by omega,h.hj,fun _=>pa',fun _=>pb',fun _ k hk hk'=>ha k (by omega) hk',fun _=>hb,a1,fun _=>?_,?_,fun x y=>?_⟩
    · by_cases hx:fx<eX azs i
      · rw [← hrow];exact a2 hx
      · rw [q3y (by omega)]
        refine q7f (h.up h5) ?_
        have:=hg h5
        unfold q09 at this;omega
    · have:=h.len
      unfold addR
      split
      · omega
      · split
        · split
          · rw [List.length_append,List.length_dropLast];simp;omega
          · rw [List.length_append];simp;omega
        · simp;omega
    · rw [a3,h.has x y]
      have:=key x y
      constructor
      · rintro (h1 |h1)
        · have:=this.2 (.inl h1);exact ⟨this.1,by omega,this.2⟩
        · have:=this.2 (.inr ⟨h5,h2,h1⟩);exact ⟨this.1,by omega,this.2⟩
      · rintro ⟨h1,_,h3⟩
        rcases this.1 ⟨h1,h3⟩ with h4 |h4
        · exact .inl h4
        · exact .inr h4.2.2
  · rename_i hop1
    refine ⟨by omega,h.hj,fun _=>pa',fun _=>pb',fun _ k hk hk'=>ha k (by omega) hk',fun _=>hb,h.ok,fun _=>?_,by have:=h.len;omega,fun x y=>?_⟩
    · by_cases h5:0<i+j
      · refine q7f (h.up h5) ?_
        have:=hg h5
        unfold q09 at this;omega
      · have h6:out=[]:=List.eq_nil_of_length_eq_zero (by have:=h.len;omega)
        subst h6
        exact fun r hr=>by cases hr
    · rw [h.has x y]
      have:=key x y
      constructor
      · intro h1
        have:=this.2 (.inl h1);exact ⟨this.1,by omega,this.2⟩
      · rintro ⟨h1,_,h3⟩
        rcases this.1 ⟨h1,h3⟩ with h4 |h4
        · exact h4
        · exact (hop1 ⟨h4.1,h4.2.1⟩).elim
theorem Sweep.stepB {op:Bool→Bool→Bool} (hop:op false false=false) {azs bs:Nat→Run} {n m i j:Nat} {fy fx:Int} {out:List Run} (h:Sweep op azs bs n m i j fy fx out) (va:Valid azs n) (vb:Valid bs m) (hlt:j<2*m) (hle:i<2*n→q09 (eY bs j) (eX bs j) (eY azs i) (eX azs i)) :
    Sweep op azs bs n m i (j+1) (eY bs j) (eX bs j) (if 0<i+j∧op (decide (i%2=1)) (decide (j%2=1))=true then addR out fy fx (eX bs j) else out):=by
  have:=(Sweep.stepA (op:=fun p q=>op q p) hop h.swap vb va hlt hle).swap
  rw [Nat.add_comm j i] at this
  exact this
theorem Sweep.done {op:Bool→Bool→Bool} (hop:op false false=false) {azs bs:Nat→Run} {n m:Nat} {fy fx:Int} {out:List Run} (h:Sweep op azs bs n m (2*n) (2*m) fy fx out) (va:Valid azs n) (vb:Valid bs m) :
    okR out∧∀ x y,hasR out x y↔op (hasB azs n x y) (hasB bs m x y)=true:=by
  refine ⟨h.ok,fun x y=>?_⟩
  rw [h.has x y]
  constructor
  · exact fun h1=>h1.1
  · intro h1
    by_cases h2:0<2*n+2*m∧q17 y x fy fx
    · exact ⟨h1,h2⟩
    · exfalso
      have e1:hasB azs n x y=decide ((2*n)%2=1):=q9z (q81 va (Nat.le_refl _) (fun k hk=>by
        have a1:=h.pa (by omega) k hk
        have:¬ q17 y x fy fx:=fun h4=>h2 ⟨by omega,h4⟩
        unfold q17 at this;unfold q09 at *;omega) fun k hk hk'=>by omega)
      have e2:hasB bs m x y=decide ((2*m)%2=1):=q9z (q81 vb (Nat.le_refl _) (fun k hk=>by
        have a1:=h.pb (by omega) k hk
        have:¬ q17 y x fy fx:=fun h4=>h2 ⟨by omega,h4⟩
        unfold q17 at this;unfold q09 at *;omega) fun k hk hk'=>by omega)
      rw [e1,e2] at h1
      have f1:decide ((2*n)%2=1)=false:=by simp
      have f2:decide ((2*m)%2=1)=false:=by simp
      rw [f1,f2,hop] at h1
      cases h1
/-! ### Sorted lists of numbers -/
def ins (x:Int):List Int→List Int
  | []=>[x]
  | a::l=>if a<x then a::ins x l else if a=x then a::l else x::a::l
def q3a (l:List Int):Prop:=l.Pairwise (·<·)
theorem mem_ins {x z:Int}:∀ {l:List Int},z∈ins x l↔z=x∨z∈l
  | []=>by simp [ins]
  | a::l=>by
    unfold ins
    split
    · rw [List.mem_cons,mem_ins,List.mem_cons];constructor
      · rintro (h |h |h) <;> simp [h]
      · rintro (h |h |h) <;> simp [h]
    · split
      · rename_i h;subst h
        simp
      · simp
theorem q5p {x:Int}:∀ {l:List Int},q3a l→q3a (ins x l)
  | [],_=>by simp [ins,q3a]
  | a::l,h=>by
    obtain ⟨h1,h2⟩:=List.pairwise_cons.1 h
    unfold ins
    split
    · rename_i hl
      refine List.pairwise_cons.2 ⟨fun z hz=>?_,q5p h2⟩
      rcases mem_ins.1 hz with rfl |hz
      · exact hl
      · exact h1 z hz
    · split
      · exact h
      · refine List.pairwise_cons.2 ⟨fun z hz=>?_,h⟩
        rcases List.mem_cons.1 hz with rfl |hz
        · omega
        · have:=h1 z hz;omega
theorem q4t {x:Int}:∀ {l:List Int},(ins x l).length≤l.length+1
  | []=>by simp [ins]
  | a::l=>by
    have:=q4t (x:=x) (l:=l)
    unfold ins
    split
    · simp;omega
    · split <;> simp
theorem z7p {x:Int}:∀ {l:List Int} {k:Nat},k≤l.length→(∀ (i:Nat) z,i<k→l[i]? = some z→z<x)→(∀ z,l[k]? = some z→¬ z<x) →
    ins x l=match l[k]? with
      | some z=>if z=x then l else l.take k++x::l.drop k
      | none=>l++[x]
  | [],k,hk,_,_=>by simp [ins]
  | a::l,0,_,_,h=>by
    have:=h a (by simp)
    simp [ins,this]
  | a::l,k+1,hk,h1,h2=>by
    have h3:=h1 0 a (by omega) (by simp)
    have h4:=z7p (x:=x) (l:=l) (k:=k) (by simpa using hk) (fun i z hi hz=>h1 (i+1) z (by omega) (by simpa using hz)) (fun z hz=>h2 z (by simpa using hz))
    unfold ins
    rw [if_pos h3,h4]
    simp only [List.getElem?_cons_succ]
    split
    · split <;> simp
    · simp
/-! ### The rows of two regions -/
structure Borders (azs bs:Nat→Run) (n m:Nat) (Y:Int) (xs:List Int):Prop where
  srt:q3a xs
  a:∀ i,i<n→(azs i).y=Y→(azs i).x0∈xs∧(azs i).x1∈xs
  b:∀ i,i<m→(bs i).y=Y→(bs i).x0∈xs∧(bs i).x1∈xs
theorem q4u {xs:List Int} (h:q3a xs) {i j:Nat} {p q:Int} (hij:i<j) (hp:xs[i]? = some p) (hq:xs[j]? = some q):p<q:=by
  obtain ⟨h1,rfl⟩:=List.getElem?_eq_some_iff.1 hp
  obtain ⟨h2,rfl⟩:=List.getElem?_eq_some_iff.1 hq
  exact List.pairwise_iff_getElem.1 h i j h1 h2 hij
theorem q9i {xs:List Int} (h:q3a xs) {k:Nat} {p q z:Int} (hp:xs[k]? = some p) (hq:xs[k+1]? = some q) (hz:z∈xs):z≤p∨q≤z:=by
  obtain ⟨i,hi⟩:=List.mem_iff_getElem?.1 hz
  rcases Nat.lt_trichotomy i k with h1 |h1 |h1
  · left;have:=q4u h h1 hi hp;omega
  · subst h1;rw [hp] at hi;cases hi;left;omega
  · rcases Nat.lt_trichotomy i (k+1) with h2 |h2 |h2
    · omega
    · subst h2;rw [hq] at hi;cases hi;right;omega
    · right;have:=q4u h h2 hq hi;omega
theorem x4y {rs:Nat→Run} {n:Nat} {x y x':Int} (h:hasR (q2s rs n) x y↔hasR (q2s rs n) x' y):hasB rs n x y=hasB rs n x' y:=by
  rw [← hasB_iff,← hasB_iff] at h
  cases h1:hasB rs n x y <;> cases h2:hasB rs n x' y <;> simp_all
theorem z7q {rs:Nat→Run} {n:Nat} {Y:Int} {xs:List Int} (hs:q3a xs) (hb:∀ i,i<n→(rs i).y=Y→(rs i).x0∈xs∧(rs i).x1∈xs) {k:Nat} {p q x:Int} (hp:xs[k]? = some p) (hq:xs[k+1]? = some q) (h1:p≤x) (h2:x<q) :
    hasB rs n x Y=hasB rs n p Y:=by
  refine x4y ?_
  rw [q4m,q4m]
  constructor
  · rintro ⟨i,hi,g1,g2,g3⟩
    refine ⟨i,hi,g1,?_,by omega⟩
    rcases q9i hs hp hq (hb i hi g1).1 with h |h <;> omega
  · rintro ⟨i,hi,g1,g2,g3⟩
    refine ⟨i,hi,g1,by omega,?_⟩
    rcases q9i hs hp hq (hb i hi g1).2 with h |h <;> omega
theorem z3t {rs:Nat→Run} {n:Nat} {Y:Int} {xs:List Int} (hs:q3a xs) (hb:∀ i,i<n→(rs i).y=Y→(rs i).x0∈xs∧(rs i).x1∈xs) {p x:Int} (hp:xs[0]? = some p) (h1:x<p):hasB rs n x Y=false:=by
  cases h:hasB rs n x Y with
  | false=>rfl
  | true =>
    rw [hasB_iff,q4m] at h
    obtain ⟨i,hi,g1,g2,g3⟩:=h
    obtain ⟨j,hj⟩:=List.mem_iff_getElem?.1 (hb i hi g1).1
    rcases Nat.eq_zero_or_pos j with h0 |h0
    · subst h0;rw [hp] at hj;cases hj;omega
    · have:=q4u hs h0 hp hj;omega
theorem z3u {rs:Nat→Run} {n:Nat} {Y:Int} {xs:List Int} (hs:q3a xs) (hb:∀ i,i<n→(rs i).y=Y→(rs i).x0∈xs∧(rs i).x1∈xs) {k:Nat} {p x:Int} (hp:xs[k]? = some p) (hk:k+1=xs.length) (h1:p≤x):hasB rs n x Y=false:=by
  cases h:hasB rs n x Y with
  | false=>rfl
  | true =>
    rw [hasB_iff,q4m] at h
    obtain ⟨i,hi,g1,g2,g3⟩:=h
    obtain ⟨j,hj⟩:=List.mem_iff_getElem?.1 (hb i hi g1).2
    have hjl:=(List.getElem?_eq_some_iff.1 hj).1
    rcases Nat.lt_or_ge j k with h0 |h0
    · have:=q4u hs h0 hj hp;omega
    · have:j=k:=by omega
      subst this;rw [hp] at hj;cases hj;omega
structure RowsAt (op:Bool→Bool→Bool) (azs bs:Nat→Run) (n m:Nat) (rows:List Int) (q:Nat) (out:List Run):Prop where
  ok:okR out
  row:∀ r∈out,r.y∈rows.take q
  has:∀ x y,hasR out x y↔op (hasB azs n x y) (hasB bs m x y)=true∧y∈rows.take q
structure CellsAt (op:Bool→Bool→Bool) (azs bs:Nat→Run) (n m:Nat) (rows:List Int) (q:Nat) (Y p:Int) (out:List Run):Prop where
  ok:okR out
  row:∀ r∈out,r.y∈rows.take q∨r.y=Y
  up:upTo out Y p
  has:∀ x y,hasR out x y↔op (hasB azs n x y) (hasB bs m x y)=true∧(y∈rows.take q∨(y=Y∧x<p))
theorem x4z {rows:List Int} (hs:q3a rows) {q:Nat} {Y z:Int} (hY:rows[q]? = some Y) (hz:z∈rows.take q):z<Y:=by
  obtain ⟨i,hi⟩:=List.mem_iff_getElem?.1 hz
  rw [List.getElem?_take] at hi
  split at hi
  · rename_i h;exact q4u hs h hi hY
  · cases hi
theorem z5o {rows:List Int} {q:Nat} {Y z:Int} (hY:rows[q]? = some Y):z∈rows.take (q+1)↔z∈rows.take q∨z=Y:=by
  rw [List.take_add_one,hY];simp
theorem RowsAt.enter {op:Bool→Bool→Bool} (hop:op false false=false) {azs bs:Nat→Run} {n m:Nat} {rows:List Int} {q:Nat} {out:List Run} (h:RowsAt op azs bs n m rows q out) (hs:q3a rows) {Y p:Int} (hY:rows[q]? = some Y) {xs:List Int} (hb:Borders azs bs n m Y xs) (hp:xs[0]? = some p) :
    CellsAt op azs bs n m rows q Y p out :=
  ⟨h.ok,fun r hr=>.inl (h.row r hr),fun r hr=>.inl (x4z hs hY (h.row r hr)),fun x y=>by
    rw [h.has x y]
    constructor
    · exact fun h1=>⟨h1.1,.inl h1.2⟩
    · rintro ⟨h1,h2 |⟨rfl,h2⟩⟩
      · exact ⟨h1,h2⟩
      · rw [z3t hb.srt hb.a hp h2,z3t hb.srt hb.b hp h2,hop] at h1;cases h1⟩
theorem CellsAt.step {op:Bool→Bool→Bool} {azs bs:Nat→Run} {n m:Nat} {rows:List Int} {q:Nat} {out:List Run} {Y p p':Int} (h:CellsAt op azs bs n m rows q Y p out) {xs:List Int} (hb:Borders azs bs n m Y xs) {k:Nat} (hp:xs[k]? = some p) (hp':xs[k+1]? = some p') :
    CellsAt op azs bs n m rows q Y p' (if op (hasB azs n p Y) (hasB bs m p Y)=true then addR out Y p p' else out):=by
  have hlt:=q4u hb.srt (Nat.lt_succ_self k) hp hp'
  have key:∀ x,p≤x→x<p'→op (hasB azs n x Y) (hasB bs m x Y)=op (hasB azs n p Y) (hasB bs m p Y):=fun x h1 h2=>by
    rw [z7q hb.srt hb.a hp hp' h1 h2,z7q hb.srt hb.b hp hp' h1 h2]
  split
  · rename_i ho
    obtain ⟨a1,a2,a3⟩:=z4t (b:=p') h.ok h.up
    refine ⟨a1,fun r hr=>?_,a2 hlt,fun x y=>?_⟩
    · unfold addR at hr
      rw [if_neg (by omega)] at hr
      split at hr
      · split at hr
        · rcases List.mem_append.1 hr with hr |hr
          · exact h.row r (List.dropLast_subset _ hr)
          · simp at hr;subst hr;exact .inr rfl
        · rcases List.mem_append.1 hr with hr |hr
          · exact h.row r hr
          · simp at hr;subst hr;exact .inr rfl
      · simp at hr;subst hr;exact .inr rfl
    · rw [a3,h.has x y]
      constructor
      · rintro (⟨h1,h2⟩ |⟨rfl,h1,h2⟩)
        · refine ⟨h1,?_⟩
          rcases h2 with h2 |h2
          · exact .inl h2
          · exact .inr (by omega)
        · exact ⟨by rw [key x h1 h2];exact ho,.inr ⟨rfl,h2⟩⟩
      · rintro ⟨h1,h2 |⟨rfl,h2⟩⟩
        · exact .inl ⟨h1,.inl h2⟩
        · by_cases h3:x<p
          · exact .inl ⟨h1,.inr ⟨rfl,h3⟩⟩
          · exact .inr ⟨rfl,by omega,h2⟩
  · rename_i ho
    refine ⟨h.ok,h.row,q7f h.up (by omega),fun x y=>?_⟩
    rw [h.has x y]
    constructor
    · rintro ⟨h1,h2 |⟨rfl,h2⟩⟩
      · exact ⟨h1,.inl h2⟩
      · exact ⟨h1,.inr ⟨rfl,by omega⟩⟩
    · rintro ⟨h1,h2 |⟨rfl,h2⟩⟩
      · exact ⟨h1,.inl h2⟩
      · by_cases h3:x<p
        · exact ⟨h1,.inr ⟨rfl,h3⟩⟩
        · rw [key x (by omega) h2] at h1
          exact (ho h1).elim
theorem CellsAt.leave {op:Bool→Bool→Bool} (hop:op false false=false) {azs bs:Nat→Run} {n m:Nat} {rows:List Int} {q:Nat} {out:List Run} {Y p:Int} (h:CellsAt op azs bs n m rows q Y p out) (hY:rows[q]? = some Y) {xs:List Int} (hb:Borders azs bs n m Y xs) {k:Nat} (hp:xs[k]? = some p) (hk:k+1=xs.length) :
    RowsAt op azs bs n m rows (q+1) out :=
  ⟨h.ok,fun r hr=>(z5o hY).2 (h.row r hr),fun x y=>by
    rw [h.has x y,z5o hY]
    constructor
    · rintro ⟨h1,h2 |h2⟩
      · exact ⟨h1,.inl h2⟩
      · exact ⟨h1,.inr h2.1⟩
    · rintro ⟨h1,h2 |rfl⟩
      · exact ⟨h1,.inl h2⟩
      · by_cases h3:x<p
        · exact ⟨h1,.inr ⟨rfl,h3⟩⟩
        · rw [z3u hb.srt hb.a hp hk (by omega),z3u hb.srt hb.b hp hk (by omega),hop] at h1;cases h1⟩
theorem RowsAt.start (op:Bool→Bool→Bool) (azs bs:Nat→Run) (n m:Nat) (rows:List Int):RowsAt op azs bs n m rows 0 [] :=
  ⟨trivial,(fun r hr=>by cases hr),fun x y=>by simp [hasR]⟩
theorem RowsAt.done {op:Bool→Bool→Bool} (hop:op false false=false) {azs bs:Nat→Run} {n m:Nat} {rows:List Int} {out:List Run} (h:RowsAt op azs bs n m rows rows.length out) (ha:∀ i,i<n→(azs i).y∈rows) (hb:∀ i,i<m→(bs i).y∈rows) :
    okR out∧∀ x y,hasR out x y↔op (hasB azs n x y) (hasB bs m x y)=true:=by
  refine ⟨h.ok,fun x y=>?_⟩
  rw [h.has x y,List.take_length]
  refine ⟨fun h1=>h1.1,fun h1=>⟨h1,?_⟩⟩
  cases h2:hasB azs n x y with
  | true =>
    rw [hasB_iff,q4m] at h2
    obtain ⟨i,hi,rfl,_⟩:=h2
    exact ha i hi
  | false =>
    cases h3:hasB bs m x y with
    | true =>
      rw [hasB_iff,q4m] at h3
      obtain ⟨i,hi,rfl,_⟩:=h3
      exact hb i hi
    | false=>rw [h2,h3,hop] at h1;cases h1
end Go.Proofs.Ytbkhpddodmbdoaa
