/-
  Plain laws: the sweep over two regions, and the rows of two regions. No program in sight.
-/
import Derived.Test.YtegpkpilfgohhaaRegLaw
set_option linter.unusedVariables false
set_option linter.unusedSimpArgs false
set_option linter.unnecessarySimpa false
namespace Go.Proofs.Ytegpkpilfgohhaa
def hasB (rs:Nat→Run) (n:Nat) (x y:Int):Bool:=(List.range n).any fun i=>decide ((rs i).y=y∧(rs i).x0≤x∧x<(rs i).x1)
theorem q5f {rs:Nat→Run} {n:Nat} {x y:Int}:hasB rs n x y=true↔hasR (q3a rs n) x y:=by
  rw [q32];simp [hasB]
theorem z5d {rs:Nat→Run} {n:Nat} {x y:Int} {i:Nat} (h:hasR (q3a rs n) x y↔i%2=1):hasB rs n x y=decide (i%2=1):=by
  rw [← q5f] at h
  cases hb:hasB rs n x y <;> simp_all
structure Sweep (op:Bool→Bool→Bool) (azs bs:Nat→Run) (n m i j:Nat) (fy fx:Int) (out:List Run):Prop where
  hi:i≤2*n
  hj:j≤2*m
  pa:0<i+j→∀ k,k<i→q3g (eY azs k) (eX azs k) fy fx
  pb:0<i+j→∀ k,k<j→q3g (eY bs k) (eX bs k) fy fx
  ua:0<i+j→∀ k,i≤k→k<2*n→q3g fy fx (eY azs k) (eX azs k)
  ub:0<i+j→∀ k,j≤k→k<2*m→q3g fy fx (eY bs k) (eX bs k)
  ok:okR out
  up:0<i+j→upTo out fy fx
  len:out.length≤i+j
  has:∀ x y,hasR out x y↔op (hasB azs n x y) (hasB bs m x y)=true∧0<i+j∧q4z y x fy fx
theorem Sweep.row {op:Bool→Bool→Bool} {azs bs:Nat→Run} {n m i j:Nat} {fy fx:Int} {out:List Run} (h:Sweep op azs bs n m i j fy fx out) {gy gx:Int} (hg:0<i+j→q3g fy fx gy gx) (ha:∀ k,i≤k→k<2*n→q3g gy gx (eY azs k) (eX azs k)) (hb:∀ k,j≤k→k<2*m→q3g gy gx (eY bs k) (eX bs k))
    (ho:i%2=1∨j%2=1):fy=gy:=by
  have hi:=h.hi
  have hj:=h.hj
  rcases ho with ho |ho
  · have a1:=h.pa (by omega) (i-1) (by omega)
    have a2:=ha i (Nat.le_refl _) (by omega)
    have a3:=hg (by omega)
    have e:eY azs (i-1)=eY azs i:=by unfold eY;rw [show (i-1)/2=i/2 by omega]
    unfold q3g at *;omega
  · have a1:=h.pb (by omega) (j-1) (by omega)
    have a2:=hb j (Nat.le_refl _) (by omega)
    have a3:=hg (by omega)
    have e:eY bs (j-1)=eY bs j:=by unfold eY;rw [show (j-1)/2=j/2 by omega]
    unfold q3g at *;omega
theorem Sweep.start (op:Bool→Bool→Bool) (azs bs:Nat→Run) (n m:Nat) (fy fx:Int):Sweep op azs bs n m 0 0 fy fx [] :=
  ⟨Nat.zero_le _,Nat.zero_le _,fun e=>by omega,fun e=>by omega,fun e=>by omega,fun e=>by omega,trivial,fun e=>by omega,Nat.le_refl _,fun x y=>⟨fun h=>(z5c h).elim,fun h=>by omega⟩⟩
theorem Sweep.done {op:Bool→Bool→Bool} (hop:op false false=false) {azs bs:Nat→Run} {n m:Nat} {fy fx:Int} {out:List Run} (h:Sweep op azs bs n m (2*n) (2*m) fy fx out) (va:Valid azs n) (vb:Valid bs m) :
    okR out∧∀ x y,hasR out x y↔op (hasB azs n x y) (hasB bs m x y)=true:=by
  refine ⟨h.ok,fun x y=>?_⟩
  rw [h.has x y]
  constructor
  · exact fun h1=>h1.1
  · intro h1
    by_cases h2:0<2*n+2*m∧q4z y x fy fx
    · exact ⟨h1,h2⟩
    · exfalso
      have e1:hasB azs n x y=decide ((2*n)%2=1):=z5d (z3m va (Nat.le_refl _) (fun k hk=>by
        have a1:=h.pa (by omega) k hk
        have:¬ q4z y x fy fx:=fun h4=>h2 ⟨by omega,h4⟩
        unfold q4z at this;unfold q3g at *;omega) fun k hk hk'=>by omega)
      have e2:hasB bs m x y=decide ((2*m)%2=1):=z5d (z3m vb (Nat.le_refl _) (fun k hk=>by
        have a1:=h.pb (by omega) k hk
        have:¬ q4z y x fy fx:=fun h4=>h2 ⟨by omega,h4⟩
        unfold q4z at this;unfold q3g at *;omega) fun k hk hk'=>by omega)
      rw [e1,e2] at h1
      have f1:decide ((2*n)%2=1)=false:=by simp
      have f2:decide ((2*m)%2=1)=false:=by simp
      rw [f1,f2,hop] at h1
      cases h1
/-! ### Sorted lists of numbers -/
def q6s (l:List Int):Prop:=l.Pairwise (·<·)
/-! ### The rows of two regions -/
structure Borders (azs bs:Nat→Run) (n m:Nat) (Y:Int) (xs:List Int):Prop where
  srt:q6s xs
  a:∀ i,i<n→(azs i).y=Y→(azs i).x0∈xs∧(azs i).x1∈xs
  b:∀ i,i<m→(bs i).y=Y→(bs i).x0∈xs∧(bs i).x1∈xs
theorem q40 {xs:List Int} (h:q6s xs) {i j:Nat} {p q:Int} (hij:i<j) (hp:xs[i]? = some p) (hq:xs[j]? = some q):p<q:=by
  obtain ⟨h1,rfl⟩:=List.getElem?_eq_some_iff.1 hp
  obtain ⟨h2,rfl⟩:=List.getElem?_eq_some_iff.1 hq
  exact List.pairwise_iff_getElem.1 h i j h1 h2 hij
theorem q7v {xs:List Int} (h:q6s xs) {k:Nat} {p q z:Int} (hp:xs[k]? = some p) (hq:xs[k+1]? = some q) (hz:z∈xs):z≤p∨q≤z:=by
  obtain ⟨i,hi⟩:=List.mem_iff_getElem?.1 hz
  rcases Nat.lt_trichotomy i k with h1 |h1 |h1
  · left;have:=q40 h h1 hi hp;omega
  · subst h1;rw [hp] at hi;cases hi;left;omega
  · rcases Nat.lt_trichotomy i (k+1) with h2 |h2 |h2
    · omega
    · subst h2;rw [hq] at hi;cases hi;right;omega
    · right;have:=q40 h h2 hq hi;omega
theorem x1c {rs:Nat→Run} {n:Nat} {x y x':Int} (h:hasR (q3a rs n) x y↔hasR (q3a rs n) x' y):hasB rs n x y=hasB rs n x' y:=by
  rw [← q5f,← q5f] at h
  cases h1:hasB rs n x y <;> cases h2:hasB rs n x' y <;> simp_all
theorem z5e {rs:Nat→Run} {n:Nat} {Y:Int} {xs:List Int} (hs:q6s xs) (hb:∀ i,i<n→(rs i).y=Y→(rs i).x0∈xs∧(rs i).x1∈xs) {k:Nat} {p q x:Int} (hp:xs[k]? = some p) (hq:xs[k+1]? = some q) (h1:p≤x) (h2:x<q) :
    hasB rs n x Y=hasB rs n p Y:=by
  refine x1c ?_
  rw [q32,q32]
  constructor
  · rintro ⟨i,hi,g1,g2,g3⟩
    refine ⟨i,hi,g1,?_,by omega⟩
    rcases q7v hs hp hq (hb i hi g1).1 with h |h <;> omega
  · rintro ⟨i,hi,g1,g2,g3⟩
    refine ⟨i,hi,g1,by omega,?_⟩
    rcases q7v hs hp hq (hb i hi g1).2 with h |h <;> omega
theorem z1r {rs:Nat→Run} {n:Nat} {Y:Int} {xs:List Int} (hs:q6s xs) (hb:∀ i,i<n→(rs i).y=Y→(rs i).x0∈xs∧(rs i).x1∈xs) {p x:Int} (hp:xs[0]? = some p) (h1:x<p):hasB rs n x Y=false:=by
  cases h:hasB rs n x Y with
  | false=>rfl
  | true =>
    rw [q5f,q32] at h
    obtain ⟨i,hi,g1,g2,g3⟩:=h
    obtain ⟨j,hj⟩:=List.mem_iff_getElem?.1 (hb i hi g1).1
    rcases Nat.eq_zero_or_pos j with h0 |h0
    · subst h0;rw [hp] at hj;cases hj;omega
    · have:=q40 hs h0 hp hj;omega
structure RowsAt (op:Bool→Bool→Bool) (azs bs:Nat→Run) (n m:Nat) (rows:List Int) (q:Nat) (out:List Run):Prop where
  ok:okR out
  row:∀ r∈out,r.y∈rows.take q
  has:∀ x y,hasR out x y↔op (hasB azs n x y) (hasB bs m x y)=true∧y∈rows.take q
structure CellsAt (op:Bool→Bool→Bool) (azs bs:Nat→Run) (n m:Nat) (rows:List Int) (q:Nat) (Y p:Int) (out:List Run):Prop where
  ok:okR out
  row:∀ r∈out,r.y∈rows.take q∨r.y=Y
  up:upTo out Y p
  has:∀ x y,hasR out x y↔op (hasB azs n x y) (hasB bs m x y)=true∧(y∈rows.take q∨(y=Y∧x<p))
theorem x1d {rows:List Int} (hs:q6s rows) {q:Nat} {Y z:Int} (hY:rows[q]? = some Y) (hz:z∈rows.take q):z<Y:=by
  obtain ⟨i,hi⟩:=List.mem_iff_getElem?.1 hz
  rw [List.getElem?_take] at hi
  split at hi
  · rename_i h;exact q40 hs h hi hY
  · cases hi
theorem RowsAt.enter {op:Bool→Bool→Bool} (hop:op false false=false) {azs bs:Nat→Run} {n m:Nat} {rows:List Int} {q:Nat} {out:List Run} (h:RowsAt op azs bs n m rows q out) (hs:q6s rows) {Y p:Int} (hY:rows[q]? = some Y) {xs:List Int} (hb:Borders azs bs n m Y xs) (hp:xs[0]? = some p) :
    CellsAt op azs bs n m rows q Y p out :=
  ⟨h.ok,fun r hr=>.inl (h.row r hr),fun r hr=>.inl (x1d hs hY (h.row r hr)),fun x y=>by
    rw [h.has x y]
    constructor
    · exact fun h1=>⟨h1.1,.inl h1.2⟩
    · rintro ⟨h1,h2 |⟨rfl,h2⟩⟩
      · exact ⟨h1,h2⟩
      · rw [z1r hb.srt hb.a hp h2,z1r hb.srt hb.b hp h2,hop] at h1;cases h1⟩
theorem CellsAt.step {op:Bool→Bool→Bool} {azs bs:Nat→Run} {n m:Nat} {rows:List Int} {q:Nat} {out:List Run} {Y p p':Int} (h:CellsAt op azs bs n m rows q Y p out) {xs:List Int} (hb:Borders azs bs n m Y xs) {k:Nat} (hp:xs[k]? = some p) (hp':xs[k+1]? = some p') :
    CellsAt op azs bs n m rows q Y p' (if op (hasB azs n p Y) (hasB bs m p Y)=true then addR out Y p p' else out):=by
  have hlt:=q40 hb.srt (Nat.lt_succ_self k) hp hp'
  have key:∀ x,p≤x→x<p'→op (hasB azs n x Y) (hasB bs m x Y)=op (hasB azs n p Y) (hasB bs m p Y):=fun x h1 h2=>by
    rw [z5e hb.srt hb.a hp hp' h1 h2,z5e hb.srt hb.b hp hp' h1 h2]
  split
  · rename_i ho
    obtain ⟨a1,a2,a3⟩:=x1b (b:=p') h.ok h.up
    refine ⟨a1,fun r hr=>?_,a2 hlt,fun x y=>?_⟩
    · unfold addR at hr
      rw [if_neg (by omega)] at hr
      split at hr
      · split at hr
        · rcases List.mem_append.1 hr with hr |hr
          · exact h.row r (List.dropLast_subset _ hr)
          · simp at hr;subst hr;exact .inr rfl
        · rcases List.mem_append.1 hr with hr |hr
          · exact h.row r hr
          · simp at hr;subst hr;exact .inr rfl
      · simp at hr;subst hr;exact .inr rfl
    · rw [a3,h.has x y]
      constructor
      · rintro (⟨h1,h2⟩ |⟨rfl,h1,h2⟩)
        · refine ⟨h1,?_⟩
          rcases h2 with h2 |h2
          · exact .inl h2
          · exact .inr (by omega)
        · exact ⟨by rw [key x h1 h2];exact ho,.inr ⟨rfl,h2⟩⟩
      · rintro ⟨h1,h2 |⟨rfl,h2⟩⟩
        · exact .inl ⟨h1,.inl h2⟩
        · by_cases h3:x<p
          · exact .inl ⟨h1,.inr ⟨rfl,h3⟩⟩
          · exact .inr ⟨rfl,by omega,h2⟩
  · rename_i ho
    refine ⟨h.ok,h.row,z3l h.up (by omega),fun x y=>?_⟩
    rw [h.has x y]
    constructor
    · rintro ⟨h1,h2 |⟨rfl,h2⟩⟩
      · exact ⟨h1,.inl h2⟩
      · exact ⟨h1,.inr ⟨rfl,by omega⟩⟩
    · rintro ⟨h1,h2 |⟨rfl,h2⟩⟩
      · exact ⟨h1,.inl h2⟩
      · by_cases h3:x<p
        · exact ⟨h1,.inr ⟨rfl,h3⟩⟩
        · rw [key x (by omega) h2] at h1
          exact (ho h1).elim
theorem RowsAt.start (op:Bool→Bool→Bool) (azs bs:Nat→Run) (n m:Nat) (rows:List Int):RowsAt op azs bs n m rows 0 [] :=
  ⟨trivial,(fun r hr=>by cases hr),fun x y=>by simp [hasR]⟩
theorem RowsAt.done {op:Bool→Bool→Bool} (hop:op false false=false) {azs bs:Nat→Run} {n m:Nat} {rows:List Int} {out:List Run} (h:RowsAt op azs bs n m rows rows.length out) (ha:∀ i,i<n→(azs i).y∈rows) (hb:∀ i,i<m→(bs i).y∈rows) :
    okR out∧∀ x y,hasR out x y↔op (hasB azs n x y) (hasB bs m x y)=true:=by
  refine ⟨h.ok,fun x y=>?_⟩
  rw [h.has x y,List.take_length]
  refine ⟨fun h1=>h1.1,fun h1=>⟨h1,?_⟩⟩
  cases h2:hasB azs n x y with
  | true =>
    rw [q5f,q32] at h2
    obtain ⟨i,hi,rfl,_⟩:=h2
    exact ha i hi
  | false =>
    cases h3:hasB bs m x y with
    | true =>
      rw [q5f,q32] at h3
      obtain ⟨i,hi,rfl,_⟩:=h3
      exact hb i hi
    | false=>rw [h2,h3,hop] at h1;cases h1
end Go.Proofs.Ytegpkpilfgohhaa
