/-
  Winding numbers: the edges of lines, their crossings of a row, the sums. No program in sight.
-/
import Derived.Test.YtegpkpilfgohhaaArea
set_option linter.unusedVariables false
set_option linter.unusedSimpArgs false
set_option linter.unnecessarySimpa false
namespace Go.Proofs.Ytegpkpilfgohhaa
open Go.RowKit
structure Edge where
  x:Int
  y:Int
  e:Int
  dx:Int
  dy:Int
  s:Int
  deriving Inhabited
def encE (r:Edge):List Value:=[.int .i64 r.x,.int .i64 r.y,.int .i64 r.e,.int .i64 r.dx,.int .i64 r.dy,.int .i64 r.s]
def q3a (ax ay bx by_:Int):List Edge:=if by_<ay then [⟨bx,by_,ay,ax-bx,ay-by_,-1⟩] else if ay<by_ then [⟨ax,ay,by_,bx-ax,by_-ay,1⟩] else []
def q1e (X Y:Nat→Int) (n:Nat):Nat→List Edge
  | 0=>[]
  | i+1=>q1e X Y n i++q3a (X i) (Y i) (X (nx n i)) (Y (nx n i))
def q0p (L:Nat→LineD):Nat→List Edge
  | 0=>[]
  | x+1=>q0p L x++q1e (L x).X (L x).Y (L x).n (L x).n
def cntN (L:Nat→LineD):Nat→Nat
  | 0=>0
  | x+1=>cntN L x+(L x).n
theorem z2x {L:Nat→LineD} {x:Nat}:∀ {n:Nat},x≤n→cntN L x≤cntN L n
  | 0, h => by obtain rfl:x=0:=by omega
               exact Nat.le_refl _
  | n+1,h=>by
    rcases Nat.lt_or_ge x (n+1) with h1 |h1
    · exact Nat.le_trans (z2x (show x≤n by omega)) (Nat.le_add_right _ _)
    · obtain rfl:x=n+1:=by omega
      exact Nat.le_refl _
theorem z2y {L:Nat→LineD} {x n i:Nat} (hx:x<n) (hi:i≤(L x).n):cntN L x+i≤cntN L n :=
  Nat.le_trans (Nat.add_le_add_left hi _) (z2x (L:=L) (show x+1≤n from hx))
theorem z3i (ax ay bx by_:Int):(q3a ax ay bx by_).length≤1:=by
  unfold q3a;split
  · simp
  · split <;> simp
theorem q3x {X Y:Nat→Int} {n:Nat}:∀ i,(q1e X Y n i).length≤i
  | 0=>by simp [q1e]
  | i+1=>by
    have h1:=q3x (X:=X) (Y:=Y) (n:=n) i
    have h2:=z3i (X i) (Y i) (X (nx n i)) (Y (nx n i))
    rw [q1e,List.length_append];omega
theorem q1x {L:Nat→LineD}:∀ n,(q0p L n).length≤cntN L n
  | 0=>by simp [q0p]
  | n+1=>by
    have h1:=q1x (L:=L) n
    have h2:=q3x (X:=(L n).X) (Y:=(L n).Y) (n:=(L n).n) (L n).n
    rw [q0p,List.length_append,cntN];omega
structure EdgeOk (r:Edge):Prop where
  x:-32767≤r.x∧r.x≤32767
  y:-32767≤r.y∧r.y≤32767
  e:-32767≤r.e∧r.e≤32767
  dx:-65534≤r.dx∧r.dx≤65534
  dy:1≤r.dy∧r.dy≤65534
  d:r.dy=r.e-r.y
  s:r.s=1∨r.s=-1
theorem z2z {ax ay bx by_:Int} (ha:okXY ax ay=true) (hb:okXY bx by_=true):∀ r∈q3a ax ay bx by_,EdgeOk r:=by
  obtain ⟨a1,a2⟩:=q16 ha
  obtain ⟨b1,b2⟩:=q16 hb
  intro r hr
  unfold q3a at hr
  split at hr
  · simp at hr;subst hr
    exact ⟨b1,b2,a2,by simp only;omega,by simp only;omega,rfl,.inr rfl⟩
  · split at hr
    · simp at hr;subst hr
      exact ⟨a1,a2,b2,by simp only;omega,by simp only;omega,rfl,.inl rfl⟩
    · simp at hr
theorem q8w {X Y:Nat→Int} {n:Nat} (h:∀ j,j<n→okXY (X j) (Y j)=true):∀ i,i≤n→∀ r∈q1e X Y n i,EdgeOk r
  | 0,_,r,hr=>by simp [q1e] at hr
  | i+1,hi,r,hr=>by
    rw [q1e,List.mem_append] at hr
    rcases hr with hr |hr
    · exact q8w h i (by omega) r hr
    · exact z2z (h i (by omega)) (h _ (q4l (by omega))) r hr
theorem q5e {L:Nat→LineD}:∀ {n:Nat},(∀ x,x<n→∀ i,i<(L x).n→okXY ((L x).X i) ((L x).Y i)=true)→∀ r∈q0p L n,EdgeOk r
  | 0,_,r,hr=>by simp [q0p] at hr
  | n+1,h,r,hr=>by
    rw [q0p,List.mem_append] at hr
    rcases hr with hr |hr
    · exact q5e (n:=n) (fun x hx=>h x (by omega)) r hr
    · exact q8w (h n (by omega)) _ (Nat.le_refl _) r hr
structure Cr where
  x:Int
  s:Int
  deriving Inhabited
def encC (r:Cr):List Value:=[.int .i64 r.x,.int .i64 r.s]
def numE (r:Edge) (y:Int):Int:=2*r.dy*r.x+r.dx*(2*(y-r.y)+1)-r.dy
def q3k (r:Edge) (y:Int):Int:=-(-(numE r y)/(2*r.dy))
def q3b (r:Edge) (y:Int):Bool:=decide (r.y≤y∧y<r.e)
def q0g (y:Int):List Edge→List Cr
  | []=>[]
  | r::l=>(if q3b r y=true then [⟨q3k r y,r.s⟩] else [])++q0g y l
theorem q2b (y:Int):∀ (l m:List Edge),q0g y (l++m)=q0g y l++q0g y m
  | [],m=>rfl
  | r::l,m=>by rw [List.cons_append,q0g,q0g,q2b y l m,List.append_assoc]
theorem q1c (y:Int):∀ (l:List Edge),(q0g y l).length≤l.length
  | []=>by simp [q0g]
  | r::l=>by
    have:=q1c y l
    rw [q0g,List.length_append,List.length_cons]
    split <;> simp <;> omega
theorem q9m {y:Int} {l:List Edge} {k:Nat} {r:Edge} (h:l[k]? = some r):q0g y (l.take (k+1))=q0g y (l.take k)++(if q3b r y=true then [⟨q3k r y,r.s⟩] else []):=by
  rw [List.take_add_one,h,q2b]
  simp [q0g]
theorem q3u {y:Int}:∀ {l:List Edge},(∀ r∈l,EdgeOk r)→∀ c∈q0g y l,c.s=1∨c.s=-1
  | [],_,c,hc=>by simp [q0g] at hc
  | r::l,h,c,hc=>by
    rw [q0g,List.mem_append] at hc
    rcases hc with hc |hc
    · split at hc
      · simp at hc;subst hc;exact (h r (by simp)).s
      · simp at hc
    · exact q3u (fun q hq=>h q (by simp [hq])) c hc
def sumC (x:Int):List Cr→Int
  | []=>0
  | c::l=>(if c.x≤x then c.s else 0)+sumC x l
theorem q2s (x:Int):∀ (l m:List Cr),sumC x (l++m)=sumC x l+sumC x m
  | [],m=>by simp [sumC]
  | c::l,m=>by rw [List.cons_append,sumC,sumC,q2s x l m];omega
theorem z20 {x:Int} {l m:List Cr} (h:l.Perm m):sumC x l=sumC x m:=by
  induction h with
  | nil=>rfl
  | cons c _ ih=>rw [sumC,sumC,ih]
  | swap a b l=>rw [sumC,sumC,sumC,sumC];omega
  | trans _ _ h1 h2=>rw [h1,h2]
theorem q89 {x:Int}:∀ {l:List Cr},(∀ c∈l,c.s=1∨c.s=-1)→-(l.length:Int)≤sumC x l∧sumC x l≤(l.length:Int)
  | [],_=>by simp [sumC]
  | c::l,h=>by
    have h1:=q89 (x:=x) (l:=l) (fun q hq=>h q (by simp [hq]))
    have h2:=h c (by simp)
    rw [sumC,List.length_cons]
    split <;> omega
theorem q8x {x:Int}:∀ {l:List Cr},(∀ c∈l,x<c.x)→sumC x l=0
  | [],_=>rfl
  | c::l,h=>by
    have h2:=h c (by simp)
    rw [sumC,q8x (fun q hq=>h q (by simp [hq])),if_neg (by omega)];rfl
def cmpC (a b:Cr):Int:=if a.x<b.x then -1 else if b.x<a.x then 1 else 0
theorem z4s {r:Edge} {x y:Int} (h:EdgeOk r):q3k r y≤x↔2*r.x*r.dy+r.dx*(2*y+1-2*r.y)≤(2*x+1)*r.dy:=by
  have hd:=h.dy
  unfold q3k
  have e1:-(-(numE r y)/(2*r.dy))≤x↔-x≤-(numE r y)/(2*r.dy):=by omega
  rw [e1,Int.le_ediv_iff_mul_le (by omega)]
  unfold numE
  have e2:2*r.dy*r.x=2*r.x*r.dy:=by rw [Int.mul_assoc,Int.mul_comm r.dy,← Int.mul_assoc]
  have e3:(2*(y-r.y)+1)=2*y+1-2*r.y:=by omega
  have e4:-x*(2*r.dy)=-(2*(x*r.dy)):=by rw [Int.neg_mul,Int.mul_left_comm]
  have e5:(2*x+1)*r.dy=2*(x*r.dy)+r.dy:=by rw [Int.add_mul,Int.mul_assoc,Int.one_mul]
  rw [e2,e3,e4,e5]
  omega
def z08 (ax ay bx by_ x y:Int):Int:=sumC x (q0g y (q3a ax ay bx by_))
def q3y (X Y:Nat→Int) (n:Nat) (x y:Int) (s:Int):Nat→Int
  | 0=>s
  | i+1=>q3y X Y n x y s i+z08 (X i) (Y i) (X (nx n i)) (Y (nx n i)) x y
def q2y (L:Nat→LineD) (x y:Int):Nat→Int
  | 0=>0
  | k+1=>q3y (L k).X (L k).Y (L k).n x y (q2y L x y k) (L k).n
theorem q8y {X Y:Nat→Int} {n:Nat} {x y s:Int}:∀ i,q3y X Y n x y s i=s+sumC x (q0g y (q1e X Y n i))
  | 0=>by simp [q3y,q1e,q0g,sumC]
  | i+1=>by rw [q3y,q8y i,q1e,q2b,q2s,z08];omega
theorem q6r {L:Nat→LineD} {x y:Int}:∀ n,q2y L x y n=sumC x (q0g y (q0p L n))
  | 0=>by simp [q2y,q0p,q0g,sumC]
  | n+1=>by rw [q2y,q8y,q6r n,q0p,q2b,q2s]
theorem z80 {L:Nat→LineD} {n k i:Nat} {x y:Int} (h:∀ x,x<n→∀ i,i<(L x).n→okXY ((L x).X i) ((L x).Y i)=true) (hk:k<n) (hi:i≤(L k).n) :
    -((cntN L n:Nat):Int)≤q3y (L k).X (L k).Y (L k).n x y (q2y L x y k) i∧q3y (L k).X (L k).Y (L k).n x y (q2y L x y k) i≤((cntN L n:Nat):Int):=by
  rw [q8y,q6r,← q2s,← q2b]
  have h1:=q5e (n:=k) (fun x hx=>h x (by omega))
  have h2:=q8w (h k hk) i hi
  have h3:=q89 (x:=x) (q3u (y:=y) (l:=q0p L k++q1e (L k).X (L k).Y (L k).n i) (fun r hr=>by
    rcases List.mem_append.1 hr with hr |hr
    · exact h1 r hr
    · exact h2 r hr))
  have h4:=q1c y (q0p L k++q1e (L k).X (L k).Y (L k).n i)
  have h5:=q1x (L:=L) k
  have h6:=q3x (X:=(L k).X) (Y:=(L k).Y) (n:=(L k).n) i
  have h7:=z2y (L:=L) hk hi
  rw [List.length_append] at h4
  omega
end Go.Proofs.Ytegpkpilfgohhaa
