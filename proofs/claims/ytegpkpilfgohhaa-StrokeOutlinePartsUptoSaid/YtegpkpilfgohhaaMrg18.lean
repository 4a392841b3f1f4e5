/-
  Merged: XPieces, XPcLaw.
-/
import Derived.Test.YtegpkpilfgohhaaMrg16
import Derived.Test.YtegpkpilfgohhaaMrg17
import Derived.Test.YtegpkpilfgohhaaMrg9
import Derived.Test.YtegpkpilfgohhaaGather
set_option linter.unusedVariables false
set_option linter.unusedSimpArgs false
set_option linter.unnecessarySimpa false
namespace Go.Proofs.Ytegpkpilfgohhaa
open Go.RowKit
set_option maxRecDepth 20000
structure PcD where
  L:List Run
  A:Option Addr
  q:Nat
  I:Nat→Int
instance:Inhabited PcD:=⟨⟨[],none,0,fun _=>0⟩⟩
def inkC (I:Nat→Int):List Value:=[.int .u8 (I 0),.int .u8 (I 1),.int .u8 (I 2),.int .u8 (I 3),.int .u8 (I 4),.int .u8 (I 5),.int .u8 (I 6),.int .u8 (I 7)]
def pcC (p:PcD):List Value:=.slice p.A p.L.length p.q::inkC p.I
structure PcsM (G:Mem) (A:Option Addr) (n:Nat) (p:Nat→PcD):Prop where
  rows:ElsM G A 9 n fun i=>pcC (p i)
  runs:∀ i,i<n→RunsM G (p i).A (p i).L
  room:∀ i,i<n→(p i).L.length≤(p i).q∧(p i).q≤maxLen
  ink:∀ i,i<n→∀ j,0≤(p i).I j∧(p i).I j≤255
theorem PcsM.mono {G G':Mem} {A:Option Addr} {n:Nat} {p:Nat→PcD} (h:PcsM G A n p) (hle:G.le G'):PcsM G' A n p :=
  ⟨h.rows.mono hle,fun i hi=>(h.runs i hi).mono hle,h.room,h.ink⟩
theorem PcsM.less {G:Mem} {A:Option Addr} {n k:Nat} {p:Nat→PcD} (h:PcsM G A n p) (hk:k≤n):PcsM G A k p :=
  ⟨h.rows.less hk,fun i hi=>h.runs i (by omega),fun i hi=>h.room i (by omega),fun i hi=>h.ink i (by omega)⟩
theorem PcsM.cells {G:Mem} {A:Option Addr} {n:Nat} {p:Nat→PcD} (h:PcsM G A n p) {i:Nat} (hi:i<n):∃ a:Addr,A=some a∧∀ K:List Value→Prop,K [.slice (p i).A (p i).L.length (p i).q,.int .u8 ((p i).I 0),.int .u8 ((p i).I 1),.int .u8 ((p i).I 2),.int .u8 ((p i).I 3),.int .u8 ((p i).I 4),.int .u8 ((p i).I 5),.int .u8 ((p i).I 6),.int .u8 ((p i).I 7)]→OldCells G (a.add (i*9)) 9 K:=h.rows.cells hi
theorem PcsM.head {G:Mem} {A:Option Addr} {n:Nat} {p:Nat→PcD} (h:PcsM G A n p) {i:Nat} (hi:i<n):∃ a:Addr,A=some a∧G.cell? (Addr.add (a.add (i*9)) 0)=some (.slice (p i).A (p i).L.length (p i).q):=h.rows.cell (j:=0) hi rfl
def z12 (I:Nat→Int):Prop:=I 0=0∧I 1=0∧I 2=0∧I 3=0∧I 4=0∧I 5=0∧I 6=0∧I 7=0
def z7x (I J:Nat→Int):Prop:=I 0=J 0∧I 1=J 1∧I 2=J 2∧I 3=J 3∧I 4=J 4∧I 5=J 5∧I 6=J 6∧I 7=J 7
instance (I:Nat→Int):Decidable (z12 I):=by unfold z12;infer_instance
instance (I J:Nat→Int):Decidable (z7x I J):=by unfold z7x;infer_instance
def outP (w h:Int) (r:Run):Prop:=r.y<0∨16*h≤r.y∨r.x0<0∨16*w<r.x1
open Classical in
def x11 (L M:List Run):Prop:=∃ x y,hasR L x y∧hasR M x y
def twP (p:Nat→PcD) (i:Nat):Prop:=∃ k,k<i∧(z7x (p k).I (p i).I∨x11 (p k).L (p i).L)
def q71 (L:List Run):Run:=nthR L 0
def ordP (p:Nat→PcD) (i:Nat):Prop:=0<i∧((q71 (p i).L).y<(q71 (p (i-1)).L).y∨((q71 (p i).L).y=(q71 (p (i-1)).L).y∧(q71 (p i).L).x0<(q71 (p (i-1)).L).x0))
end Go.Proofs.Ytegpkpilfgohhaa
namespace Go.Proofs.Ytegpkpilfgohhaa
open Go.RowKit
def vecI (I:Nat→Int):List Int:=[I 0,I 1,I 2,I 3,I 4,I 5,I 6,I 7]
theorem vecI_zero {I:Nat→Int}:vecI I=q97↔z12 I:=by simp [vecI,q97,z12]
def q8q (p:Nat→PcD) (W:Nat):Nat→Nat→List Int
  | 0,_=>q97
  | n+1,i=>if hasL (p n).L ((i%W:Nat):Int) ((i/W:Nat):Int)=true then vecI (p n).I else q8q p W n i
theorem z13 {p:Nat→PcD} {W:Nat} {i:Nat}:∀ {n:Nat},(∀ k,k<n→¬ hasR (p k).L ((i%W:Nat):Int) ((i/W:Nat):Int))→q8q p W n i=q97
  | 0,_=>rfl
  | n+1,h=>by
    rw [q8q,if_neg (fun h'=>h n (by omega) (hasL_iff.1 h'))]
    exact z13 fun k hk=>h k (by omega)
theorem q8r {p:Nat→PcD} {W:Nat} {i:Nat}:∀ {n:Nat},(∃ k,k<n∧hasR (p k).L ((i%W:Nat):Int) ((i/W:Nat):Int))→∃ k,k<n∧hasR (p k).L ((i%W:Nat):Int) ((i/W:Nat):Int)∧q8q p W n i=vecI (p k).I
  | 0,h=>by obtain ⟨k,hk,_⟩:=h;omega
  | n+1,h=>by
    rw [q8q]
    by_cases h1:hasL (p n).L ((i%W:Nat):Int) ((i/W:Nat):Int)=true
    · rw [if_pos h1];exact ⟨n,by omega,hasL_iff.1 h1,rfl⟩
    · rw [if_neg h1]
      obtain ⟨k,hk,h2⟩:=h
      have hkn:k<n:=by
        rcases Nat.lt_or_ge k n with h3 |h3
        · exact h3
        · have:k=n:=by omega
          subst this;exact absurd (hasL_iff.2 h2) h1
      obtain ⟨k',h3,h4,h5⟩:=q8r (n:=n) ⟨k,hkn,h2⟩
      exact ⟨k',by omega,h4,h5⟩
structure PcsOk (w h:Int) (n:Nat) (p:Nat→PcD):Prop where
  wd:1≤w∧w≤256
  ht:1≤h∧h≤256
  few:n≤4096
  one:∀ i,i<n→errL (p i).L=0∧(p i).L.length≠0∧(∀ r∈(p i).L,¬ outP w h r)∧¬ z12 (p i).I
  two:∀ i,i<n→¬ twP p i∧¬ ordP p i
theorem PcsOk.zero {w h:Int} {n:Nat} {p:Nat→PcD} (ok:PcsOk w h n p) {W i:Nat}:q8q p W n i=q97↔¬ ∃ k,k<n∧hasR (p k).L ((i%W:Nat):Int) ((i/W:Nat):Int):=by
  constructor
  · intro hz hk
    obtain ⟨k,h1,h2,h3⟩:=q8r hk
    exact (ok.one k h1).2.2.2 (vecI_zero.1 (h3.symm.trans hz))
  · intro hk
    exact z13 fun k hk' h2=>hk ⟨k,hk',h2⟩
theorem PcsOk.one_has {w h:Int} {n:Nat} {p:Nat→PcD} (ok:PcsOk w h n p) {i j:Nat} {x y:Int} (hi:i<n) (hj:j<n) (h1:hasR (p i).L x y) (h2:hasR (p j).L x y):i=j:=by
  rcases Nat.lt_trichotomy i j with h |h |h
  · exact ((ok.two j hj).1 ⟨i,h,.inr ⟨x,y,h1,h2⟩⟩).elim
  · exact h
  · exact ((ok.two i hi).1 ⟨j,h,.inr ⟨x,y,h2,h1⟩⟩).elim
theorem PcsOk.cell {w h:Int} {n:Nat} {p:Nat→PcD} (ok:PcsOk w h n p) {W i k:Nat} (hk:k<n) (hh:hasR (p k).L ((i%W:Nat):Int) ((i/W:Nat):Int)):q8q p W n i=vecI (p k).I:=by
  obtain ⟨k',h1,h2,h3⟩:=q8r ⟨k,hk,hh⟩
  rw [ok.one_has h1 hk h2 hh] at h3
  exact h3
end Go.Proofs.Ytegpkpilfgohhaa
