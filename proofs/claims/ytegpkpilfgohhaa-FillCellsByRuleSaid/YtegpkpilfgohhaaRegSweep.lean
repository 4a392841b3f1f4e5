/-
  Plain laws: the sweep over two regions, and the rows of two regions. No program in sight.
-/
import Derived.Test.YtegpkpilfgohhaaRegLaw
set_option linter.unusedVariables false
set_option linter.unusedSimpArgs false
set_option linter.unnecessarySimpa false
namespace Go.Proofs.Ytegpkpilfgohhaa
def hasB (rs:Nat→Run) (n:Nat) (x y:Int):Bool:=(List.range n).any fun i=>decide ((rs i).y=y∧(rs i).x0≤x∧x<(rs i).x1)
theorem q4w {rs:Nat→Run} {n:Nat} {x y:Int}:hasB rs n x y=true↔hasR (q26 rs n) x y:=by
  rw [q3j];simp [hasB]
theorem z4l {rs:Nat→Run} {n:Nat} {x y:Int} {i:Nat} (h:hasR (q26 rs n) x y↔i%2=1):hasB rs n x y=decide (i%2=1):=by
  rw [← q4w] at h
  cases hb:hasB rs n x y <;> simp_all
structure Sweep (op:Bool→Bool→Bool) (azs bs:Nat→Run) (n m i j:Nat) (fy fx:Int) (out:List Run):Prop where
  hi:i≤2*n
  hj:j≤2*m
  pa:0<i+j→∀ k,k<i→q2x (eY azs k) (eX azs k) fy fx
  pb:0<i+j→∀ k,k<j→q2x (eY bs k) (eX bs k) fy fx
  ua:0<i+j→∀ k,i≤k→k<2*n→q2x fy fx (eY azs k) (eX azs k)
  ub:0<i+j→∀ k,j≤k→k<2*m→q2x fy fx (eY bs k) (eX bs k)
  ok:okR out
  up:0<i+j→upTo out fy fx
  len:out.length≤i+j
  has:∀ x y,hasR out x y↔op (hasB azs n x y) (hasB bs m x y)=true∧0<i+j∧q4g y x fy fx
theorem Sweep.swap {op:Bool→Bool→Bool} {azs bs:Nat→Run} {n m i j:Nat} {fy fx:Int} {out:List Run} (h:Sweep op azs bs n m i j fy fx out):Sweep (fun p q=>op q p) bs azs m n j i fy fx out :=
  ⟨h.hj,h.hi,fun e=>h.pb (by omega),fun e=>h.pa (by omega),fun e=>h.ub (by omega),fun e=>h.ua (by omega),h.ok,fun e=>h.up (by omega),by have:=h.len;omega,fun x y=>by rw [h.has x y,Nat.add_comm]⟩
theorem Sweep.row {op:Bool→Bool→Bool} {azs bs:Nat→Run} {n m i j:Nat} {fy fx:Int} {out:List Run} (h:Sweep op azs bs n m i j fy fx out) {gy gx:Int} (hg:0<i+j→q2x fy fx gy gx) (ha:∀ k,i≤k→k<2*n→q2x gy gx (eY azs k) (eX azs k)) (hb:∀ k,j≤k→k<2*m→q2x gy gx (eY bs k) (eX bs k))
    (ho:i%2=1∨j%2=1):fy=gy:=by
  have hi:=h.hi
  have hj:=h.hj
  rcases ho with ho |ho
  · have a1:=h.pa (by omega) (i-1) (by omega)
    have a2:=ha i (Nat.le_refl _) (by omega)
    have a3:=hg (by omega)
    have e:eY azs (i-1)=eY azs i:=by unfold eY;rw [show (i-1)/2=i/2 by omega]
    unfold q2x at *;omega
  · have a1:=h.pb (by omega) (j-1) (by omega)
    have a2:=hb j (Nat.le_refl _) (by omega)
    have a3:=hg (by omega)
    have e:eY bs (j-1)=eY bs j:=by unfold eY;rw [show (j-1)/2=j/2 by omega]
    unfold q2x at *;omega
theorem Sweep.start (op:Bool→Bool→Bool) (azs bs:Nat→Run) (n m:Nat) (fy fx:Int):Sweep op azs bs n m 0 0 fy fx [] :=
  ⟨Nat.zero_le _,Nat.zero_le _,fun e=>by omega,fun e=>by omega,fun e=>by omega,fun e=>by omega,trivial,fun e=>by omega,Nat.le_refl _,fun x y=>⟨fun h=>(q3i h).elim,fun h=>by omega⟩⟩
theorem Sweep.done {op:Bool→Bool→Bool} (hop:op false false=false) {azs bs:Nat→Run} {n m:Nat} {fy fx:Int} {out:List Run} (h:Sweep op azs bs n m (2*n) (2*m) fy fx out) (va:Valid azs n) (vb:Valid bs m) :
    okR out∧∀ x y,hasR out x y↔op (hasB azs n x y) (hasB bs m x y)=true:=by
  refine ⟨h.ok,fun x y=>?_⟩
  rw [h.has x y]
  constructor
  · exact fun h1=>h1.1
  · intro h1
    by_cases h2:0<2*n+2*m∧q4g y x fy fx
    · exact ⟨h1,h2⟩
    · exfalso
      have e1:hasB azs n x y=decide ((2*n)%2=1):=z4l (z2v va (Nat.le_refl _) (fun k hk=>by
        have a1:=h.pa (by omega) k hk
        have:¬ q4g y x fy fx:=fun h4=>h2 ⟨by omega,h4⟩
        unfold q4g at this;unfold q2x at *;omega) fun k hk hk'=>by omega)
      have e2:hasB bs m x y=decide ((2*m)%2=1):=z4l (z2v vb (Nat.le_refl _) (fun k hk=>by
        have a1:=h.pb (by omega) k hk
        have:¬ q4g y x fy fx:=fun h4=>h2 ⟨by omega,h4⟩
        unfold q4g at this;unfold q2x at *;omega) fun k hk hk'=>by omega)
      rw [e1,e2] at h1
      have f1:decide ((2*n)%2=1)=false:=by simp
      have f2:decide ((2*m)%2=1)=false:=by simp
      rw [f1,f2,hop] at h1
      cases h1
/-! ### Sorted lists of numbers -/
def ins (x:Int):List Int→List Int
  | []=>[x]
  | a::l=>if a<x then a::ins x l else if a=x then a::l else x::a::l
def q2q (l:List Int):Prop:=l.Pairwise (·<·)
theorem mem_ins {x z:Int}:∀ {l:List Int},z∈ins x l↔z=x∨z∈l
  | []=>by simp [ins]
  | a::l=>by
    unfold ins
    split
    · rw [List.mem_cons,mem_ins,List.mem_cons];constructor
      · rintro (h |h |h) <;> simp [h]
      · rintro (h |h |h) <;> simp [h]
    · split
      · rename_i h;subst h
        simp
      · simp
theorem z03 {x:Int}:∀ {l:List Int},q2q l→q2q (ins x l)
  | [],_=>by simp [ins,q2q]
  | a::l,h=>by
    obtain ⟨h1,h2⟩:=List.pairwise_cons.1 h
    unfold ins
    split
    · rename_i hl
      refine List.pairwise_cons.2 ⟨fun z hz=>?_,z03 h2⟩
      rcases mem_ins.1 hz with rfl |hz
      · exact hl
      · exact h1 z hz
    · split
      · exact h
      · refine List.pairwise_cons.2 ⟨fun z hz=>?_,h⟩
        rcases List.mem_cons.1 hz with rfl |hz
        · omega
        · have:=h1 z hz;omega
theorem z04 {x:Int}:∀ {l:List Int},(ins x l).length≤l.length+1
  | []=>by simp [ins]
  | a::l=>by
    have:=z04 (x:=x) (l:=l)
    unfold ins
    split
    · simp;omega
    · split <;> simp
theorem z4m {x:Int}:∀ {l:List Int} {k:Nat},k≤l.length→(∀ (i:Nat) z,i<k→l[i]? = some z→z<x)→(∀ z,l[k]? = some z→¬ z<x) →
    ins x l=match l[k]? with
      | some z=>if z=x then l else l.take k++x::l.drop k
      | none=>l++[x]
  | [],k,hk,_,_=>by simp [ins]
  | a::l,0,_,_,h=>by
    have:=h a (by simp)
    simp [ins,this]
  | a::l,k+1,hk,h1,h2=>by
    have h3:=h1 0 a (by omega) (by simp)
    have h4:=z4m (x:=x) (l:=l) (k:=k) (by simpa using hk) (fun i z hi hz=>h1 (i+1) z (by omega) (by simpa using hz)) (fun z hz=>h2 z (by simpa using hz))
    unfold ins
    rw [if_pos h3,h4]
    simp only [List.getElem?_cons_succ]
    split
    · split <;> simp
    · simp
/-! ### The rows of two regions -/
structure Borders (azs bs:Nat→Run) (n m:Nat) (Y:Int) (xs:List Int):Prop where
  srt:q2q xs
  a:∀ i,i<n→(azs i).y=Y→(azs i).x0∈xs∧(azs i).x1∈xs
  b:∀ i,i<m→(bs i).y=Y→(bs i).x0∈xs∧(bs i).x1∈xs
theorem q4h {xs:List Int} (h:q2q xs) {i j:Nat} {p q:Int} (hij:i<j) (hp:xs[i]? = some p) (hq:xs[j]? = some q):p<q:=by
  obtain ⟨h1,rfl⟩:=List.getElem?_eq_some_iff.1 hp
  obtain ⟨h2,rfl⟩:=List.getElem?_eq_some_iff.1 hq
  exact List.pairwise_iff_getElem.1 h i j h1 h2 hij
theorem q7b {xs:List Int} (h:q2q xs) {k:Nat} {p q z:Int} (hp:xs[k]? = some p) (hq:xs[k+1]? = some q) (hz:z∈xs):z≤p∨q≤z:=by
  obtain ⟨i,hi⟩:=List.mem_iff_getElem?.1 hz
  rcases Nat.lt_trichotomy i k with h1 |h1 |h1
  · left;have:=q4h h h1 hi hp;omega
  · subst h1;rw [hp] at hi;cases hi;left;omega
  · rcases Nat.lt_trichotomy i (k+1) with h2 |h2 |h2
    · omega
    · subst h2;rw [hq] at hi;cases hi;right;omega
    · right;have:=q4h h h2 hq hi;omega
theorem z9y {rs:Nat→Run} {n:Nat} {x y x':Int} (h:hasR (q26 rs n) x y↔hasR (q26 rs n) x' y):hasB rs n x y=hasB rs n x' y:=by
  rw [← q4w,← q4w] at h
  cases h1:hasB rs n x y <;> cases h2:hasB rs n x' y <;> simp_all
theorem z4n {rs:Nat→Run} {n:Nat} {Y:Int} {xs:List Int} (hs:q2q xs) (hb:∀ i,i<n→(rs i).y=Y→(rs i).x0∈xs∧(rs i).x1∈xs) {k:Nat} {p q x:Int} (hp:xs[k]? = some p) (hq:xs[k+1]? = some q) (h1:p≤x) (h2:x<q) :
    hasB rs n x Y=hasB rs n p Y:=by
  refine z9y ?_
  rw [q3j,q3j]
  constructor
  · rintro ⟨i,hi,g1,g2,g3⟩
    refine ⟨i,hi,g1,?_,by omega⟩
    rcases q7b hs hp hq (hb i hi g1).1 with h |h <;> omega
  · rintro ⟨i,hi,g1,g2,g3⟩
    refine ⟨i,hi,g1,by omega,?_⟩
    rcases q7b hs hp hq (hb i hi g1).2 with h |h <;> omega
theorem z05 {rs:Nat→Run} {n:Nat} {Y:Int} {xs:List Int} (hs:q2q xs) (hb:∀ i,i<n→(rs i).y=Y→(rs i).x0∈xs∧(rs i).x1∈xs) {p x:Int} (hp:xs[0]? = some p) (h1:x<p):hasB rs n x Y=false:=by
  cases h:hasB rs n x Y with
  | false=>rfl
  | true =>
    rw [q4w,q3j] at h
    obtain ⟨i,hi,g1,g2,g3⟩:=h
    obtain ⟨j,hj⟩:=List.mem_iff_getElem?.1 (hb i hi g1).1
    rcases Nat.eq_zero_or_pos j with h0 |h0
    · subst h0;rw [hp] at hj;cases hj;omega
    · have:=q4h hs h0 hp hj;omega
structure RowsAt (op:Bool→Bool→Bool) (azs bs:Nat→Run) (n m:Nat) (rows:List Int) (q:Nat) (out:List Run):Prop where
  ok:okR out
  row:∀ r∈out,r.y∈rows.take q
  has:∀ x y,hasR out x y↔op (hasB azs n x y) (hasB bs m x y)=true∧y∈rows.take q
structure CellsAt (op:Bool→Bool→Bool) (azs bs:Nat→Run) (n m:Nat) (rows:List Int) (q:Nat) (Y p:Int) (out:List Run):Prop where
  ok:okR out
  row:∀ r∈out,r.y∈rows.take q∨r.y=Y
  up:upTo out Y p
  has:∀ x y,hasR out x y↔op (hasB azs n x y) (hasB bs m x y)=true∧(y∈rows.take q∨(y=Y∧x<p))
theorem z9z {rows:List Int} (hs:q2q rows) {q:Nat} {Y z:Int} (hY:rows[q]? = some Y) (hz:z∈rows.take q):z<Y:=by
  obtain ⟨i,hi⟩:=List.mem_iff_getElem?.1 hz
  rw [List.getElem?_take] at hi
  split at hi
  · rename_i h;exact q4h hs h hi hY
  · cases hi
theorem RowsAt.enter {op:Bool→Bool→Bool} (hop:op false false=false) {azs bs:Nat→Run} {n m:Nat} {rows:List Int} {q:Nat} {out:List Run} (h:RowsAt op azs bs n m rows q out) (hs:q2q rows) {Y p:Int} (hY:rows[q]? = some Y) {xs:List Int} (hb:Borders azs bs n m Y xs) (hp:xs[0]? = some p) :
    CellsAt op azs bs n m rows q Y p out :=
  ⟨h.ok,fun r hr=>.inl (h.row r hr),fun r hr=>.inl (z9z hs hY (h.row r hr)),fun x y=>by
    rw [h.has x y]
    constructor
    · exact fun h1=>⟨h1.1,.inl h1.2⟩
    · rintro ⟨h1,h2 |⟨rfl,h2⟩⟩
      · exact ⟨h1,h2⟩
      · rw [z05 hb.srt hb.a hp h2,z05 hb.srt hb.b hp h2,hop] at h1;cases h1⟩
theorem CellsAt.step {op:Bool→Bool→Bool} {azs bs:Nat→Run} {n m:Nat} {rows:List Int} {q:Nat} {out:List Run} {Y p p':Int} (h:CellsAt op azs bs n m rows q Y p out) {xs:List Int} (hb:Borders azs bs n m Y xs) {k:Nat} (hp:xs[k]? = some p) (hp':xs[k+1]? = some p') :
    CellsAt op azs bs n m rows q Y p' (if op (hasB azs n p Y) (hasB bs m p Y)=true then addR out Y p p' else out):=by
  have hlt:=q4h hb.srt (Nat.lt_succ_self k) hp hp'
  have key:∀ x,p≤x→x<p'→op (hasB azs n x Y) (hasB bs m x Y)=op (hasB azs n p Y) (hasB bs m p Y):=fun x h1 h2=>by
    rw [z4n hb.srt hb.a hp hp' h1 h2,z4n hb.srt hb.b hp hp' h1 h2]
  split
  · rename_i ho
    obtain ⟨a1,a2,a3⟩:=z11 (b:=p') h.ok h.up
    refine ⟨a1,fun r hr=>?_,a2 hlt,fun x y=>?_⟩
    · unfold addR at hr
      rw [if_neg (by omega)] at hr
      split at hr
      · split at hr
        · rcases List.mem_append.1 hr with hr |hr
          · exact h.row r (List.dropLast_subset _ hr)
          · simp at hr;subst hr;exact .inr rfl
        · rcases List.mem_append.1 hr with hr |hr
          · exact h.row r hr
          · simp at hr;subst hr;exact .inr rfl
      · simp at hr;subst hr;exact .inr rfl
    · rw [a3,h.has x y]
      constructor
      · rintro (⟨h1,h2⟩ |⟨rfl,h1,h2⟩)
        · refine ⟨h1,?_⟩
          rcases h2 with h2 |h2
          · exact .inl h2
          · exact .inr (by omega)
        · exact ⟨by rw [key x h1 h2];exact ho,.inr ⟨rfl,h2⟩⟩
      · rintro ⟨h1,h2 |⟨rfl,h2⟩⟩
        · exact .inl ⟨h1,.inl h2⟩
        · by_cases h3:x<p
          · exact .inl ⟨h1,.inr ⟨rfl,h3⟩⟩
          · exact .inr ⟨rfl,by omega,h2⟩
  · rename_i ho
    refine ⟨h.ok,h.row,q38 h.up (by omega),fun x y=>?_⟩
    rw [h.has x y]
    constructor
    · rintro ⟨h1,h2 |⟨rfl,h2⟩⟩
      · exact ⟨h1,.inl h2⟩
      · exact ⟨h1,.inr ⟨rfl,by omega⟩⟩
    · rintro ⟨h1,h2 |⟨rfl,h2⟩⟩
      · exact ⟨h1,.inl h2⟩
      · by_cases h3:x<p
        · exact ⟨h1,.inr ⟨rfl,h3⟩⟩
        · rw [key x (by omega) h2] at h1
          exact (ho h1).elim
theorem RowsAt.start (op:Bool→Bool→Bool) (azs bs:Nat→Run) (n m:Nat) (rows:List Int):RowsAt op azs bs n m rows 0 [] :=
  ⟨trivial,(fun r hr=>by cases hr),fun x y=>by simp [hasR]⟩
theorem RowsAt.done {op:Bool→Bool→Bool} (hop:op false false=false) {azs bs:Nat→Run} {n m:Nat} {rows:List Int} {out:List Run} (h:RowsAt op azs bs n m rows rows.length out) (ha:∀ i,i<n→(azs i).y∈rows) (hb:∀ i,i<m→(bs i).y∈rows) :
    okR out∧∀ x y,hasR out x y↔op (hasB azs n x y) (hasB bs m x y)=true:=by
  refine ⟨h.ok,fun x y=>?_⟩
  rw [h.has x y,List.take_length]
  refine ⟨fun h1=>h1.1,fun h1=>⟨h1,?_⟩⟩
  cases h2:hasB azs n x y with
  | true =>
    rw [q4w,q3j] at h2
    obtain ⟨i,hi,rfl,_⟩:=h2
    exact ha i hi
  | false =>
    cases h3:hasB bs m x y with
    | true =>
      rw [q4w,q3j] at h3
      obtain ⟨i,hi,rfl,_⟩:=h3
      exact hb i hi
    | false=>rw [h2,h3,hop] at h1;cases h1
end Go.Proofs.Ytegpkpilfgohhaa
