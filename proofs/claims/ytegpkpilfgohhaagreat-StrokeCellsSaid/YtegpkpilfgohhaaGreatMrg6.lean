/-
  Merged: XRegSweep, XJoinLaw, XCmpI.
-/
import Derived.Test.YtegpkpilfgohhaaGreatMrg5
import Derived.Test.YtegpkpilfgohhaaGreatMrg3
import Derived.Test.YtegpkpilfgohhaaGreatProg
set_option linter.unusedVariables false
set_option linter.unusedSimpArgs false
set_option linter.unnecessarySimpa false
namespace Go.Proofs.YtegpkpilfgohhaaGreat
def hasB (rs:Nat→Run) (n:Nat) (x y:Int):Bool:=(List.range n).any fun i=>decide ((rs i).y=y∧(rs i).x0≤x∧x<(rs i).x1)
theorem q7j {rs:Nat→Run} {n:Nat} {x y:Int}:hasB rs n x y=true↔hasR (q36 rs n) x y:=by
  rw [q5k];simp [hasB]
theorem x0f {rs:Nat→Run} {n:Nat} {x y:Int} {i:Nat} (h:hasR (q36 rs n) x y↔i%2=1):hasB rs n x y=decide (i%2=1):=by
  rw [← q7j] at h
  cases hb:hasB rs n x y <;> simp_all
structure Sweep (op:Bool→Bool→Bool) (azs bs:Nat→Run) (n m i j:Nat) (fy fx:Int) (out:List Run):Prop where
  hi:i≤2*n
  hj:j≤2*m
  pa:0<i+j→∀ k,k<i→q4h (eY azs k) (eX azs k) fy fx
  pb:0<i+j→∀ k,k<j→q4h (eY bs k) (eX bs k) fy fx
  ua:0<i+j→∀ k,i≤k→k<2*n→q4h fy fx (eY azs k) (eX azs k)
  ub:0<i+j→∀ k,j≤k→k<2*m→q4h fy fx (eY bs k) (eX bs k)
  ok:okR out
  up:0<i+j→upTo out fy fx
  len:out.length≤i+j
  has:∀ x y,hasR out x y↔op (hasB azs n x y) (hasB bs m x y)=true∧0<i+j∧q60 y x fy fx
theorem Sweep.swap {op:Bool→Bool→Bool} {azs bs:Nat→Run} {n m i j:Nat} {fy fx:Int} {out:List Run} (h:Sweep op azs bs n m i j fy fx out):Sweep (fun p q=>op q p) bs azs m n j i fy fx out :=
  ⟨h.hj,h.hi,fun e=>h.pb (by omega),fun e=>h.pa (by omega),fun e=>h.ub (by omega),fun e=>h.ua (by omega),h.ok,fun e=>h.up (by omega),by have:=h.len;omega,fun x y=>by rw [h.has x y,Nat.add_comm]⟩
theorem Sweep.row {op:Bool→Bool→Bool} {azs bs:Nat→Run} {n m i j:Nat} {fy fx:Int} {out:List Run} (h:Sweep op azs bs n m i j fy fx out) {gy gx:Int} (hg:0<i+j→q4h fy fx gy gx) (ha:∀ k,i≤k→k<2*n→q4h gy gx (eY azs k) (eX azs k)) (hb:∀ k,j≤k→k<2*m→q4h gy gx (eY bs k) (eX bs k))
    (ho:i%2=1∨j%2=1):fy=gy:=by
  have hi:=h.hi
  have hj:=h.hj
  rcases ho with ho |ho
  · have a1:=h.pa (by omega) (i-1) (by omega)
    have a2:=ha i (Nat.le_refl _) (by omega)
    have a3:=hg (by omega)
    have e:eY azs (i-1)=eY azs i:=by unfold eY;rw [show (i-1)/2=i/2 by omega]
    unfold q4h at *;omega
  · have a1:=h.pb (by omega) (j-1) (by omega)
    have a2:=hb j (Nat.le_refl _) (by omega)
    have a3:=hg (by omega)
    have e:eY bs (j-1)=eY bs j:=by unfold eY;rw [show (j-1)/2=j/2 by omega]
    unfold q4h at *;omega
theorem Sweep.start (op:Bool→Bool→Bool) (azs bs:Nat→Run) (n m:Nat) (fy fx:Int):Sweep op azs bs n m 0 0 fy fx [] :=
  ⟨Nat.zero_le _,Nat.zero_le _,fun e=>by omega,fun e=>by omega,fun e=>by omega,fun e=>by omega,trivial,fun e=>by omega,Nat.le_refl _,fun x y=>⟨fun h=>(q3a h).elim,fun h=>by omega⟩⟩
theorem Sweep.done {op:Bool→Bool→Bool} (hop:op false false=false) {azs bs:Nat→Run} {n m:Nat} {fy fx:Int} {out:List Run} (h:Sweep op azs bs n m (2*n) (2*m) fy fx out) (va:Valid azs n) (vb:Valid bs m) :
    okR out∧∀ x y,hasR out x y↔op (hasB azs n x y) (hasB bs m x y)=true:=by
  refine ⟨h.ok,fun x y=>?_⟩
  rw [h.has x y]
  constructor
  · exact fun h1=>h1.1
  · intro h1
    by_cases h2:0<2*n+2*m∧q60 y x fy fx
    · exact ⟨h1,h2⟩
    · exfalso
      have e1:hasB azs n x y=decide ((2*n)%2=1):=x0f (z76 va (Nat.le_refl _) (fun k hk=>by
        have a1:=h.pa (by omega) k hk
        have:¬ q60 y x fy fx:=fun h4=>h2 ⟨by omega,h4⟩
        unfold q60 at this;unfold q4h at *;omega) fun k hk hk'=>by omega)
      have e2:hasB bs m x y=decide ((2*m)%2=1):=x0f (z76 vb (Nat.le_refl _) (fun k hk=>by
        have a1:=h.pb (by omega) k hk
        have:¬ q60 y x fy fx:=fun h4=>h2 ⟨by omega,h4⟩
        unfold q60 at this;unfold q4h at *;omega) fun k hk hk'=>by omega)
      rw [e1,e2] at h1
      have f1:decide ((2*n)%2=1)=false:=by simp
      have f2:decide ((2*m)%2=1)=false:=by simp
      rw [f1,f2,hop] at h1
      cases h1
/-! ### Sorted lists of numbers -/
def ins (x:Int):List Int→List Int
  | []=>[x]
  | a::l=>if a<x then a::ins x l else if a=x then a::l else x::a::l
def q37 (l:List Int):Prop:=l.Pairwise (·<·)
theorem mem_ins {x z:Int}:∀ {l:List Int},z∈ins x l↔z=x∨z∈l
  | []=>by simp [ins]
  | a::l=>by
    unfold ins
    split
    · rw [List.mem_cons,mem_ins,List.mem_cons];constructor
      · rintro (h |h |h) <;> simp [h]
      · rintro (h |h |h) <;> simp [h]
    · split
      · rename_i h;subst h
        simp
      · simp
theorem z5v {x:Int}:∀ {l:List Int},q37 l→q37 (ins x l)
  | [],_=>by simp [ins,q37]
  | a::l,h=>by
    obtain ⟨h1,h2⟩:=List.pairwise_cons.1 h
    unfold ins
    split
    · rename_i hl
      refine List.pairwise_cons.2 ⟨fun z hz=>?_,z5v h2⟩
      rcases mem_ins.1 hz with rfl |hz
      · exact hl
      · exact h1 z hz
    · split
      · exact h
      · refine List.pairwise_cons.2 ⟨fun z hz=>?_,h⟩
        rcases List.mem_cons.1 hz with rfl |hz
        · omega
        · have:=h1 z hz;omega
theorem z5w {x:Int}:∀ {l:List Int},(ins x l).length≤l.length+1
  | []=>by simp [ins]
  | a::l=>by
    have:=z5w (x:=x) (l:=l)
    unfold ins
    split
    · simp;omega
    · split <;> simp
/-! ### The rows of two regions -/
structure Borders (azs bs:Nat→Run) (n m:Nat) (Y:Int) (xs:List Int):Prop where
  srt:q37 xs
  a:∀ i,i<n→(azs i).y=Y→(azs i).x0∈xs∧(azs i).x1∈xs
  b:∀ i,i<m→(bs i).y=Y→(bs i).x0∈xs∧(bs i).x1∈xs
theorem q61 {xs:List Int} (h:q37 xs) {i j:Nat} {p q:Int} (hij:i<j) (hp:xs[i]? = some p) (hq:xs[j]? = some q):p<q:=by
  obtain ⟨h1,rfl⟩:=List.getElem?_eq_some_iff.1 hp
  obtain ⟨h2,rfl⟩:=List.getElem?_eq_some_iff.1 hq
  exact List.pairwise_iff_getElem.1 h i j h1 h2 hij
theorem z0r {xs:List Int} (h:q37 xs) {k:Nat} {p q z:Int} (hp:xs[k]? = some p) (hq:xs[k+1]? = some q) (hz:z∈xs):z≤p∨q≤z:=by
  obtain ⟨i,hi⟩:=List.mem_iff_getElem?.1 hz
  rcases Nat.lt_trichotomy i k with h1 |h1 |h1
  · left;have:=q61 h h1 hi hp;omega
  · subst h1;rw [hp] at hi;cases hi;left;omega
  · rcases Nat.lt_trichotomy i (k+1) with h2 |h2 |h2
    · omega
    · subst h2;rw [hq] at hi;cases hi;right;omega
    · right;have:=q61 h h2 hq hi;omega
theorem x8y {rs:Nat→Run} {n:Nat} {x y x':Int} (h:hasR (q36 rs n) x y↔hasR (q36 rs n) x' y):hasB rs n x y=hasB rs n x' y:=by
  rw [← q7j,← q7j] at h
  cases h1:hasB rs n x y <;> cases h2:hasB rs n x' y <;> simp_all
theorem x0g {rs:Nat→Run} {n:Nat} {Y:Int} {xs:List Int} (hs:q37 xs) (hb:∀ i,i<n→(rs i).y=Y→(rs i).x0∈xs∧(rs i).x1∈xs) {k:Nat} {p q x:Int} (hp:xs[k]? = some p) (hq:xs[k+1]? = some q) (h1:p≤x) (h2:x<q) :
    hasB rs n x Y=hasB rs n p Y:=by
  refine x8y ?_
  rw [q5k,q5k]
  constructor
  · rintro ⟨i,hi,g1,g2,g3⟩
    refine ⟨i,hi,g1,?_,by omega⟩
    rcases z0r hs hp hq (hb i hi g1).1 with h |h <;> omega
  · rintro ⟨i,hi,g1,g2,g3⟩
    refine ⟨i,hi,g1,by omega,?_⟩
    rcases z0r hs hp hq (hb i hi g1).2 with h |h <;> omega
theorem z5x {rs:Nat→Run} {n:Nat} {Y:Int} {xs:List Int} (hs:q37 xs) (hb:∀ i,i<n→(rs i).y=Y→(rs i).x0∈xs∧(rs i).x1∈xs) {p x:Int} (hp:xs[0]? = some p) (h1:x<p):hasB rs n x Y=false:=by
  cases h:hasB rs n x Y with
  | false=>rfl
  | true =>
    rw [q7j,q5k] at h
    obtain ⟨i,hi,g1,g2,g3⟩:=h
    obtain ⟨j,hj⟩:=List.mem_iff_getElem?.1 (hb i hi g1).1
    rcases Nat.eq_zero_or_pos j with h0 |h0
    · subst h0;rw [hp] at hj;cases hj;omega
    · have:=q61 hs h0 hp hj;omega
structure RowsAt (op:Bool→Bool→Bool) (azs bs:Nat→Run) (n m:Nat) (rows:List Int) (q:Nat) (out:List Run):Prop where
  ok:okR out
  row:∀ r∈out,r.y∈rows.take q
  has:∀ x y,hasR out x y↔op (hasB azs n x y) (hasB bs m x y)=true∧y∈rows.take q
structure CellsAt (op:Bool→Bool→Bool) (azs bs:Nat→Run) (n m:Nat) (rows:List Int) (q:Nat) (Y p:Int) (out:List Run):Prop where
  ok:okR out
  row:∀ r∈out,r.y∈rows.take q∨r.y=Y
  up:upTo out Y p
  has:∀ x y,hasR out x y↔op (hasB azs n x y) (hasB bs m x y)=true∧(y∈rows.take q∨(y=Y∧x<p))
theorem x8z {rows:List Int} (hs:q37 rows) {q:Nat} {Y z:Int} (hY:rows[q]? = some Y) (hz:z∈rows.take q):z<Y:=by
  obtain ⟨i,hi⟩:=List.mem_iff_getElem?.1 hz
  rw [List.getElem?_take] at hi
  split at hi
  · rename_i h;exact q61 hs h hi hY
  · cases hi
theorem RowsAt.enter {op:Bool→Bool→Bool} (hop:op false false=false) {azs bs:Nat→Run} {n m:Nat} {rows:List Int} {q:Nat} {out:List Run} (h:RowsAt op azs bs n m rows q out) (hs:q37 rows) {Y p:Int} (hY:rows[q]? = some Y) {xs:List Int} (hb:Borders azs bs n m Y xs) (hp:xs[0]? = some p) :
    CellsAt op azs bs n m rows q Y p out :=
  ⟨h.ok,fun r hr=>.inl (h.row r hr),fun r hr=>.inl (x8z hs hY (h.row r hr)),fun x y=>by
    rw [h.has x y]
    constructor
    · exact fun h1=>⟨h1.1,.inl h1.2⟩
    · rintro ⟨h1,h2 |⟨rfl,h2⟩⟩
      · exact ⟨h1,h2⟩
      · rw [z5x hb.srt hb.a hp h2,z5x hb.srt hb.b hp h2,hop] at h1;cases h1⟩
theorem CellsAt.step {op:Bool→Bool→Bool} {azs bs:Nat→Run} {n m:Nat} {rows:List Int} {q:Nat} {out:List Run} {Y p p':Int} (h:CellsAt op azs bs n m rows q Y p out) {xs:List Int} (hb:Borders azs bs n m Y xs) {k:Nat} (hp:xs[k]? = some p) (hp':xs[k+1]? = some p') :
    CellsAt op azs bs n m rows q Y p' (if op (hasB azs n p Y) (hasB bs m p Y)=true then addR out Y p p' else out):=by
  have hlt:=q61 hb.srt (Nat.lt_succ_self k) hp hp'
  have key:∀ x,p≤x→x<p'→op (hasB azs n x Y) (hasB bs m x Y)=op (hasB azs n p Y) (hasB bs m p Y):=fun x h1 h2=>by
    rw [x0g hb.srt hb.a hp hp' h1 h2,x0g hb.srt hb.b hp hp' h1 h2]
  split
  · rename_i ho
    obtain ⟨a1,a2,a3⟩:=z61 (b:=p') h.ok h.up
    refine ⟨a1,fun r hr=>?_,a2 hlt,fun x y=>?_⟩
    · unfold addR at hr
      rw [if_neg (by omega)] at hr
      split at hr
      · split at hr
        · rcases List.mem_append.1 hr with hr |hr
          · exact h.row r (List.dropLast_subset _ hr)
          · simp at hr;subst hr;exact .inr rfl
        · rcases List.mem_append.1 hr with hr |hr
          · exact h.row r hr
          · simp at hr;subst hr;exact .inr rfl
      · simp at hr;subst hr;exact .inr rfl
    · rw [a3,h.has x y]
      constructor
      · rintro (⟨h1,h2⟩ |⟨rfl,h1,h2⟩)
        · refine ⟨h1,?_⟩
          rcases h2 with h2 |h2
          · exact .inl h2
          · exact .inr (by omega)
        · exact ⟨by rw [key x h1 h2];exact ho,.inr ⟨rfl,h2⟩⟩
      · rintro ⟨h1,h2 |⟨rfl,h2⟩⟩
        · exact .inl ⟨h1,.inl h2⟩
        · by_cases h3:x<p
          · exact .inl ⟨h1,.inr ⟨rfl,h3⟩⟩
          · exact .inr ⟨rfl,by omega,h2⟩
  · rename_i ho
    refine ⟨h.ok,h.row,q5i h.up (by omega),fun x y=>?_⟩
    rw [h.has x y]
    constructor
    · rintro ⟨h1,h2 |⟨rfl,h2⟩⟩
      · exact ⟨h1,.inl h2⟩
      · exact ⟨h1,.inr ⟨rfl,by omega⟩⟩
    · rintro ⟨h1,h2 |⟨rfl,h2⟩⟩
      · exact ⟨h1,.inl h2⟩
      · by_cases h3:x<p
        · exact ⟨h1,.inr ⟨rfl,h3⟩⟩
        · rw [key x (by omega) h2] at h1
          exact (ho h1).elim
theorem RowsAt.start (op:Bool→Bool→Bool) (azs bs:Nat→Run) (n m:Nat) (rows:List Int):RowsAt op azs bs n m rows 0 [] :=
  ⟨trivial,(fun r hr=>by cases hr),fun x y=>by simp [hasR]⟩
theorem RowsAt.done {op:Bool→Bool→Bool} (hop:op false false=false) {azs bs:Nat→Run} {n m:Nat} {rows:List Int} {out:List Run} (h:RowsAt op azs bs n m rows rows.length out) (ha:∀ i,i<n→(azs i).y∈rows) (hb:∀ i,i<m→(bs i).y∈rows) :
    okR out∧∀ x y,hasR out x y↔op (hasB azs n x y) (hasB bs m x y)=true:=by
  refine ⟨h.ok,fun x y=>?_⟩
  rw [h.has x y,List.take_length]
  refine ⟨fun h1=>h1.1,fun h1=>⟨h1,?_⟩⟩
  cases h2:hasB azs n x y with
  | true =>
    rw [q7j,q5k] at h2
    obtain ⟨i,hi,rfl,_⟩:=h2
    exact ha i hi
  | false =>
    cases h3:hasB bs m x y with
    | true =>
      rw [q7j,q5k] at h3
      obtain ⟨i,hi,rfl,_⟩:=h3
      exact hb i hi
    | false=>rw [h2,h3,hop] at h1;cases h1
end Go.Proofs.YtegpkpilfgohhaaGreat
namespace Go.Proofs.YtegpkpilfgohhaaGreat
def jn (o L:List Run):List Run:=L.foldl (fun o r=>addR o r.y r.x0 r.x1) o
def leR (r s:Run):Prop:=r.y<s.y∨(r.y=s.y∧r.x0≤s.x0)
theorem x69 {L:List Run} {y a b:Int} (hs:∀ r∈L,r.y<y∨(r.y=y∧r.x0≤a)):∀ q∈addR L y a b,q∈L∨(q.y=y∧q.x0≤a):=by
  intro q hq
  by_cases hb:b≤a
  · rw [q7i hb] at hq;exact .inl hq
  · rcases q6p L with rfl |⟨K,r,rfl⟩
    · rw [q6h hb] at hq;simp at hq;subst hq;exact .inr ⟨rfl,Int.le_refl _⟩
    · have hr:=hs r (by simp)
      by_cases hj:r.y=y∧a≤r.x1
      · rw [q5j hb hj.1 hj.2] at hq
        rcases List.mem_append.1 hq with hq |hq
        · exact .inl (by simp [hq])
        · simp at hq;subst hq;exact .inr ⟨rfl,by simp only;omega⟩
      · rw [q4t hb hj] at hq
        rcases List.mem_append.1 hq with hq |hq
        · exact .inl hq
        · simp at hq;subst hq;exact .inr ⟨rfl,Int.le_refl _⟩
theorem x7a {L:List Run} {y a b:Int}:(addR L y a b).length≤L.length+1:=by
  by_cases hb:b≤a
  · rw [q7i hb];omega
  · rcases q6p L with rfl |⟨K,r,rfl⟩
    · rw [q6h hb];simp
    · by_cases hj:r.y=y∧a≤r.x1
      · rw [q5j hb hj.1 hj.2];simp
      · rw [q4t hb hj];simp
theorem x7b {L:List Run} {y a b:Int} (h:okR L) (hs:∀ r∈L,r.y<y∨(r.y=y∧r.x0≤a)) :
    okR (addR L y a b)∧(∀ u v,hasR (addR L y a b) u v↔hasR L u v∨(v=y∧a≤u∧u<b)):=by
  by_cases hb:b≤a
  · rw [q7i hb]
    refine ⟨h,fun u v=>⟨.inl,?_⟩⟩
    rintro (h' |h')
    · exact h'
    · omega
  · rcases q6p L with rfl |⟨K,r,rfl⟩
    · rw [q6h hb]
      refine ⟨by simp [okR];omega,fun u v=>?_⟩
      rw [q5h];simp only [q3a,false_or];omega
    · have hr:=hs r (by simp)
      obtain ⟨o1,o2,o3⟩:=okR_append.1 h
      have o4:=o2.1
      by_cases hj:r.y=y∧a≤r.x1
      · rw [q5j hb hj.1 hj.2]
        refine ⟨okR_append.2 ⟨o1,?_,fun q hq s hs'=>?_⟩,fun u v=>?_⟩
        · simp [okR];omega
        · simp at hs';subst hs'
          have:=o3 q hq r (by simp)
          simp only;omega
        · rw [q20,q20,q5h,q5h]
          simp only
          constructor
          · rintro (h1 |h1)
            · exact .inl (.inl h1)
            · by_cases hx:u<r.x1
              · exact .inl (.inr (by omega))
              · exact .inr (by omega)
          · rintro ((h1 |h1) |h1)
            · exact .inl h1
            · exact .inr (by omega)
            · exact .inr (by omega)
      · rw [q4t hb hj]
        refine ⟨okR_append.2 ⟨h,by simp [okR];omega,fun q hq s hs'=>?_⟩,fun u v=>?_⟩
        · simp at hs';subst hs'
          simp only
          rcases List.mem_append.1 hq with hq |hq
          · have:=o3 q hq r (by simp);omega
          · simp at hq;subst hq;omega
        · rw [q20,q5h];simp only
          constructor
          · rintro (h1 |h1)
            · exact .inl h1
            · exact .inr (by omega)
          · rintro (h1 |h1)
            · exact .inl h1
            · exact .inr (by omega)
theorem x3x:∀ (L o:List Run),okR o→(∀ r∈o,∀ s∈L,leR r s)→L.Pairwise leR→okR (jn o L)∧(∀ u v,hasR (jn o L) u v↔hasR o u v∨hasR L u v)
  | [],o,h,_,_=>⟨h,fun u v=>by simp [jn,q3a]⟩
  | s::L,o,h,hs,hp=>by
    obtain ⟨p1,p2⟩:=List.pairwise_cons.1 hp
    obtain ⟨a1,a2⟩:=x7b (y:=s.y) (a:=s.x0) (b:=s.x1) h (fun r hr=>hs r hr s (by simp))
    obtain ⟨b1,b2⟩:=x3x L (addR o s.y s.x0 s.x1) a1 (fun r hr t ht=>by
      rcases x69 (fun r hr=>hs r hr s (by simp)) r hr with h1 |h1
      · exact hs r h1 t (by simp [ht])
      · have:=p1 t ht
        unfold leR at *;omega) p2
    refine ⟨b1,fun u v=>?_⟩
    show hasR (jn (addR o s.y s.x0 s.x1) L) u v↔_
    rw [b2,a2,hasR_cons]
    constructor
    · rintro ((h1 |h1) |h1)
      · exact .inl h1
      · exact .inr (.inl (by omega))
      · exact .inr (.inr h1)
    · rintro (h1 |(h1 |h1))
      · exact .inl (.inl h1)
      · exact .inl (.inr (by omega))
      · exact .inr h1
theorem x0h:∀ (L o:List Run),(jn o L).length≤o.length+L.length
  | [],o=>by simp [jn]
  | s::L,o=>by
    have h1:=x0h L (addR o s.y s.x0 s.x1)
    have h2:=x7a (L:=o) (y:=s.y) (a:=s.x0) (b:=s.x1)
    show (jn (addR o s.y s.x0 s.x1) L).length≤_
    simp;omega
theorem x80 {L:List Run} {i:Nat} {r:Run} (h:L[i]? = some r):jn [] (L.take (i+1))=addR (jn [] (L.take i)) r.y r.x0 r.x1:=by
  rw [List.take_add_one,h]
  simp [jn,List.foldl_append]
noncomputable def q38 (L:List Run):List Run:=open Classical in if h:∃ M,okR M∧∀ u v,hasR M u v↔hasR L u v then h.choose else []
theorem x7c {L M:List Run} (h:okR M) (h2:∀ u v,hasR M u v↔hasR L u v):q38 L=M:=by
  have hx:∃ M,okR M∧∀ u v,hasR M u v↔hasR L u v:=⟨M,h,h2⟩
  unfold q38
  rw [dif_pos hx]
  exact z3l hx.choose_spec.1 h fun u v=>by rw [hx.choose_spec.2,h2]
theorem z77 {L M:List Run} (h:L.Perm M) {u v:Int}:hasR L u v↔hasR M u v :=
  ⟨fun ⟨r,hr,h'⟩=>⟨r,h.mem_iff.1 hr,h'⟩,fun ⟨r,hr,h'⟩=>⟨r,h.mem_iff.2 hr,h'⟩⟩
theorem z62 {L M:List Run} (hp:M.Perm L) (hs:M.Pairwise leR):jn [] M=q38 L:=by
  obtain ⟨h1,h2⟩:=x3x M [] trivial (by simp) hs
  exact (x7c h1 fun u v=>by rw [h2,z77 hp];simp [q3a]).symm
end Go.Proofs.YtegpkpilfgohhaaGreat
namespace Go.Proofs.YtegpkpilfgohhaaGreat
open Go.RowKit
set_option maxRecDepth 20000
def cmpI (a b:Int):Int:=if a<b then -1 else if b<a then 1 else 0
theorem z0e (a:Int) (W:World):Calls Tryz.prog 77 #[.int .i64 a] W fun e w'=>e=.returned (.bool false)∧W=w':=by
  go_enter Tryz.func77,Tryz.ntmps77
  go_wp2
  all_goals go_ret
  all_goals exact ⟨by simp,rfl⟩
set_option maxHeartbeats 1000000 in
theorem z81 (a b:Int) (W:World):Calls Tryz.prog 64 #[.int .i64 a,.int .i64 b] W fun e w'=>e=.returned (.int .i64 (cmpI a b))∧W=w':=by
  go_enter Tryz.func64,Tryz.ntmps64
  by_cases h1:a<b
  · go_wp2_with (first |(go_at_call 77;refine (z0e _ _).mono ?_;rintro e w' ⟨rfl,rfl⟩))
    all_goals go_ret
    all_goals exact ⟨q32 (by unfold cmpI;first |rw [if_pos (by omega)] |simp_all),rfl⟩
  · by_cases h2:b<a
    · go_wp2_with (first |(go_at_call 77;refine (z0e _ _).mono ?_;rintro e w' ⟨rfl,rfl⟩))
      all_goals go_ret
      all_goals exact ⟨q32 (by unfold cmpI;first |rw [if_neg (by omega),if_pos (by omega)] |simp_all),rfl⟩
    · go_wp2_with (first |(go_at_call 77;refine (z0e _ _).mono ?_;rintro e w' ⟨rfl,rfl⟩))
      all_goals go_ret
      all_goals exact ⟨q32 (by unfold cmpI;first |rw [if_neg (by omega),if_neg (by omega)] |simp_all),rfl⟩
end Go.Proofs.YtegpkpilfgohhaaGreat
