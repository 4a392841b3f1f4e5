/-
  Merged: XRegRef, XMixed2, XPieces, XPcLaw.
-/
import Derived.Test.YtegpkpilfgohhaaGreatMrg14
import Derived.Test.YtegpkpilfgohhaaGreatMrg15
import Derived.Test.YtegpkpilfgohhaaGreatMrg8
set_option linter.unusedVariables false
set_option linter.unusedSimpArgs false
set_option linter.unnecessarySimpa false
namespace Go.Proofs.YtegpkpilfgohhaaGreat
open Go.RowKit
set_option maxRecDepth 20000
theorem RunsM.frozen {G:Mem} {A:Option Addr} {L:List Run} (h:q08 L=[]∨∃ b,A=some ⟨b,0,none⟩∧∀ (j:Nat) u,(q08 L)[j]? = some u→G.cell? ⟨b,j,none⟩=some u):RunsM G A L:=fun i r hr=>by
  obtain ⟨h1,h2,h3⟩:=q92 hr
  rcases h with h |⟨b,rfl,h⟩
  · rw [h] at h1;simp at h1
  · exact ⟨b,0,rfl,by rw [Nat.zero_add];exact h _ _ h1,by rw [Nat.zero_add];exact h _ _ h2,by rw [Nat.zero_add];exact h _ _ h3⟩
def inR (r:Run) (x y:Int):Bool:=decide (r.y=y∧r.x0≤x∧x<r.x1)
def hasL (L:List Run) (x y:Int):Bool:=L.any fun r=>inR r x y
theorem hasL_iff {L:List Run} {x y:Int}:hasL L x y=true↔hasR L x y:=by simp [hasL,hasR,inR]
theorem x5n {L:List Run} {x y:Int} (h:∀ (i:Nat) r,L[i]? = some r→inR r x y=false):hasL L x y=false:=by
  cases h2:hasL L x y with
  | false=>rfl
  | true =>
    obtain ⟨r,h3,h4⟩:=List.any_eq_true.1 h2
    obtain ⟨i,hi⟩:=List.mem_iff_getElem?.1 h3
    rw [h i r hi] at h4;cases h4
theorem x5o {L:List Run} {x y:Int} {i:Nat} {r:Run} (h:L[i]? = some r) (h2:inR r x y=true):hasL L x y=true:=List.any_eq_true.2 ⟨r,List.mem_of_getElem? h,h2⟩
set_option maxHeartbeats 1000000 in
theorem x5p (A:Option Addr) (L:List Run) (cap:Nat) (x y:Int) (G:Mem) (hR:RunsM G A L) (hl:L.length≤1000000000000):Gives Tryz.prog 14 [.val (.slice A L.length cap),.val (.int .i64 x),.val (.int .i64 y)] G (.val (.bool (hasL L x y))):=by
  refine q06 tab_ok Tryz.func14 ?_
  (repeat ((try (conv=>whnf));(refine stQ ?_)))
  conv=>whnf
  refine q07 tab_ok (fun i=>i≤L.length∧∀ (j:Nat) r,j<i→L[j]? = some r→inR r x y=false) (fun (i:Nat)=>[(10,.val (.int .i64 i))]) (fun i=>[]) (fun i=>L.length-i) 0 ⟨Nat.zero_le _,fun j z hj=>by omega⟩ ?_ ?_
  · ((refine q0g ?_);(conv=>whnf);(refine q0h (by rfl) (by rfl) flQ ?_))
    exact q0e
  · rintro i ⟨hi,hno⟩
    rcases Nat.lt_or_ge i L.length with h1 |h1
    · obtain ⟨r,hr⟩:∃ r,L[i]? = some r:=⟨L[i],List.getElem?_eq_getElem h1⟩
      obtain ⟨p,rfl,c0,c1,c2⟩:=hR.at_ hr
      have next:inR r x y=false→∀ (j:Nat) q,j<i+1→L[j]? = some q→inR q x y=false:=fun h j q hj hq=>by
        rcases Nat.lt_or_ge j i with h2 |h2
        · exact hno j q h2 hq
        · have:j=i:=by omega
          subst this;rw [hr] at hq;cases hq;exact h
      by_cases e1:r.y=y
      · by_cases e2:r.x0≤x
        · by_cases e3:x<r.x1
          · (repeat ((try (conv=>whnf));(refine stQ ?_)))
            conv=>whnf
            refine q0q _ c0 ?_
            (repeat ((try (conv=>whnf));(refine stQ ?_)))
            conv=>whnf
            refine q0q _ c1 ?_
            (repeat ((try (conv=>whnf));(refine stQ ?_)))
            conv=>whnf
            refine q0q _ c2 ?_
            (repeat ((try (conv=>whnf));(refine stQ ?_)))
            exact ⟨by rw [x5o hr (by simp [inR];omega)],rfl⟩
          · (repeat ((try (conv=>whnf));(refine stQ ?_)))
            conv=>whnf
            refine q0q _ c0 ?_
            (repeat ((try (conv=>whnf));(refine stQ ?_)))
            conv=>whnf
            refine q0q _ c1 ?_
            (repeat ((try (conv=>whnf));(refine stQ ?_)))
            conv=>whnf
            refine q0q _ c2 ?_
            (repeat ((try (conv=>whnf));(refine stQ ?_)))
            refine ⟨i+1,⟨by omega,next (by simp [inR];omega)⟩,by omega,?_⟩
            ((refine q0g ?_);(conv=>whnf);(refine q0h (by rfl) (by rfl) flQ ?_))
            exact q0e
        · (repeat ((try (conv=>whnf));(refine stQ ?_)))
          conv=>whnf
          refine q0q _ c0 ?_
          (repeat ((try (conv=>whnf));(refine stQ ?_)))
          conv=>whnf
          refine q0q _ c1 ?_
          (repeat ((try (conv=>whnf));(refine stQ ?_)))
          refine ⟨i+1,⟨by omega,next (by simp [inR];omega)⟩,by omega,?_⟩
          ((refine q0g ?_);(conv=>whnf);(refine q0h (by rfl) (by rfl) flQ ?_))
          exact q0e
      · (repeat ((try (conv=>whnf));(refine stQ ?_)))
        conv=>whnf
        refine q0q _ c0 ?_
        (repeat ((try (conv=>whnf));(refine stQ ?_)))
        refine ⟨i+1,⟨by omega,next (by simp [inR,e1])⟩,by omega,?_⟩
        ((refine q0g ?_);(conv=>whnf);(refine q0h (by rfl) (by rfl) flQ ?_))
        exact q0e
    · (repeat ((try (conv=>whnf));(refine stQ ?_)))
      exact ⟨by rw [x5n fun j r hr=>hno j r (by have:=(List.getElem?_eq_some_iff.1 hr).1;omega) hr],rfl⟩
end Go.Proofs.YtegpkpilfgohhaaGreat
namespace Go.Proofs.YtegpkpilfgohhaaGreat
theorem x5q (L:List Run):q36 (nthR L) L.length=L:=by
  apply List.ext_getElem?
  intro i
  unfold q36
  rw [List.getElem?_map]
  by_cases h:i<L.length
  · rw [List.getElem?_range h,List.getElem?_eq_getElem h]
    simp [nthR,List.getElem?_eq_getElem h]
  · rw [List.getElem?_eq_none (by simpa using h),List.getElem?_eq_none (by omega)];rfl
def ValidL (L:List Run):Prop:=Valid (nthR L) L.length
theorem ValidL.ok {L:List Run} (h:ValidL L):okR L:=by have:=Valid.ok h;rwa [x5q] at this
theorem ValidL.bd {L:List Run} (h:ValidL L) {r:Run} (hr:r∈L):(-8192≤r.y∧r.y≤8191)∧(-8192≤r.x0∧r.x0<r.x1∧r.x1≤8192):=by
  obtain ⟨i,hi⟩:=List.mem_iff_getElem?.1 hr
  have:=Valid.bd h i (List.getElem?_eq_some_iff.1 hi).1
  rwa [q7k hi] at this
theorem x5r {L:List Run} (h:okR L):∀ {i j:Nat} {r s:Run},i<j→L[i]? = some r→L[j]? = some s→r.y<s.y∨(r.y=s.y∧r.x1<s.x0):=by
  induction L with
  | nil=>intro i j r s _ hi;simp at hi
  | cons a l ih =>
    intro i j r s hij hi hj
    cases j with
    | zero=>omega
    | succ j =>
      cases i with
      | zero =>
        simp at hi;subst hi
        exact h.2.1 s (List.mem_of_getElem? (by simpa using hj))
      | succ i=>exact ih h.2.2 (i:=i) (j:=j) (by omega) (by simpa using hi) (by simpa using hj)
theorem ValidL.mk {L:List Run} (h:okR L) (hb:∀ r∈L,(-8192≤r.y∧r.y≤8191)∧(-8192≤r.x0∧r.x1≤8192)):ValidL L:=by
  refine ⟨fun i hi=>?_,fun i j hij hj=>?_⟩
  · have e:L[i]? = some L[i]:=List.getElem?_eq_getElem hi
    rw [q7k e]
    have h1:=hb _ (List.getElem_mem hi)
    have h2:=q6o h (List.getElem_mem hi)
    omega
  · have e:L[i]? = some L[i]:=List.getElem?_eq_getElem (by omega)
    have e':L[j]? = some L[j]:=List.getElem?_eq_getElem hj
    rw [q7k e,q7k e']
    exact x5r h hij e e'
theorem x15 {l:List Int} (h:l.Pairwise (·<·)) {B:Nat} (hb:∀ z∈l,0≤z∧z<B):l.length≤B:=by
  have key:∀ (l:List Int) (a:Int),l.Pairwise (·<·)→(∀ z∈l,a≤z∧z<B)→a≤B→(l.length:Int)≤B-a:=by
    intro l
    induction l with
    | nil=>intro a _ _ ha;simp;omega
    | cons x l ih =>
      intro a hp hz ha
      obtain ⟨h1,h2⟩:=List.pairwise_cons.1 hp
      have h3:=hz x (by simp)
      have:=ih (x+1) h2 (fun z hz'=>⟨by have:=h1 z hz';omega,(hz z (by simp [hz'])).2⟩) (by omega)
      simp;omega
  have:=key l 0 h hb (by omega)
  omega
theorem x32 {L:List Run} (h:okR L) (hb:∀ r∈L,(-8192≤r.y∧r.y≤8191)∧(-8192≤r.x0∧r.x1≤8192)):L.length≤268451840:=by
  have hp:(L.map fun r=>(r.y+8192)*16385+(r.x1+8192)).Pairwise (·<·):=by
    rw [List.pairwise_map,List.pairwise_iff_getElem]
    intro i j hi hj hij
    have h1:=x5r h hij (List.getElem?_eq_getElem hi) (List.getElem?_eq_getElem hj)
    have h2:=hb _ (List.getElem_mem hi)
    have h3:=hb _ (List.getElem_mem hj)
    have h4:=q6o h (List.getElem_mem hj)
    have h5:=q6o h (List.getElem_mem hi)
    omega
  have:=x15 hp (B:=268451840) (fun z hz=>by
    obtain ⟨r,hr,rfl⟩:=List.mem_map.1 hz
    have h1:=hb r hr
    have h2:=q6o h hr
    omega)
  simpa using this
theorem ValidL.length {L:List Run} (h:ValidL L):L.length≤268451840:=x32 h.ok fun r hr=>by have:=h.bd hr;omega
end Go.Proofs.YtegpkpilfgohhaaGreat
namespace Go.Proofs.YtegpkpilfgohhaaGreat
open Go.RowKit
set_option maxRecDepth 20000
structure PcD where
  L:List Run
  A:Option Addr
  q:Nat
  I:Nat→Int
instance:Inhabited PcD:=⟨⟨[],none,0,fun _=>0⟩⟩
def inkC (I:Nat→Int):List Value:=[.int .u8 (I 0),.int .u8 (I 1),.int .u8 (I 2),.int .u8 (I 3),.int .u8 (I 4),.int .u8 (I 5),.int .u8 (I 6),.int .u8 (I 7)]
def pcC (p:PcD):List Value:=.slice p.A p.L.length p.q::inkC p.I
structure PcsM (G:Mem) (A:Option Addr) (n:Nat) (p:Nat→PcD):Prop where
  rows:ElsM G A 9 n fun i=>pcC (p i)
  runs:∀ i,i<n→RunsM G (p i).A (p i).L
  room:∀ i,i<n→(p i).L.length≤(p i).q∧(p i).q≤maxLen
  ink:∀ i,i<n→∀ j,0≤(p i).I j∧(p i).I j≤255
theorem PcsM.mono {G G':Mem} {A:Option Addr} {n:Nat} {p:Nat→PcD} (h:PcsM G A n p) (hle:G.le G'):PcsM G' A n p :=
  ⟨h.rows.mono hle,fun i hi=>(h.runs i hi).mono hle,h.room,h.ink⟩
theorem PcsM.less {G:Mem} {A:Option Addr} {n k:Nat} {p:Nat→PcD} (h:PcsM G A n p) (hk:k≤n):PcsM G A k p :=
  ⟨h.rows.less hk,fun i hi=>h.runs i (by omega),fun i hi=>h.room i (by omega),fun i hi=>h.ink i (by omega)⟩
theorem PcsM.cells {G:Mem} {A:Option Addr} {n:Nat} {p:Nat→PcD} (h:PcsM G A n p) {i:Nat} (hi:i<n):∃ a:Addr,A=some a∧∀ K:List Value→Prop,K [.slice (p i).A (p i).L.length (p i).q,.int .u8 ((p i).I 0),.int .u8 ((p i).I 1),.int .u8 ((p i).I 2),.int .u8 ((p i).I 3),.int .u8 ((p i).I 4),.int .u8 ((p i).I 5),.int .u8 ((p i).I 6),.int .u8 ((p i).I 7)]→OldCells G (a.add (i*9)) 9 K:=h.rows.cells hi
theorem PcsM.head {G:Mem} {A:Option Addr} {n:Nat} {p:Nat→PcD} (h:PcsM G A n p) {i:Nat} (hi:i<n):∃ a:Addr,A=some a∧G.cell? (Addr.add (a.add (i*9)) 0)=some (.slice (p i).A (p i).L.length (p i).q):=h.rows.cell (j:=0) hi rfl
def z57 (I:Nat→Int):Prop:=I 0=0∧I 1=0∧I 2=0∧I 3=0∧I 4=0∧I 5=0∧I 6=0∧I 7=0
def x33 (I J:Nat→Int):Prop:=I 0=J 0∧I 1=J 1∧I 2=J 2∧I 3=J 3∧I 4=J 4∧I 5=J 5∧I 6=J 6∧I 7=J 7
instance (I:Nat→Int):Decidable (z57 I):=by unfold z57;infer_instance
instance (I J:Nat→Int):Decidable (x33 I J):=by unfold x33;infer_instance
def outP (w h:Int) (r:Run):Prop:=r.y<0∨16*h≤r.y∨r.x0<0∨16*w<r.x1
open Classical in
def x97 (L M:List Run):Prop:=∃ x y,hasR L x y∧hasR M x y
def twP (p:Nat→PcD) (i:Nat):Prop:=∃ k,k<i∧(x33 (p k).I (p i).I∨x97 (p k).L (p i).L)
def z0z (L:List Run):Run:=nthR L 0
def ordP (p:Nat→PcD) (i:Nat):Prop:=0<i∧((z0z (p i).L).y<(z0z (p (i-1)).L).y∨((z0z (p i).L).y=(z0z (p (i-1)).L).y∧(z0z (p i).L).x0<(z0z (p (i-1)).L).x0))
end Go.Proofs.YtegpkpilfgohhaaGreat
namespace Go.Proofs.YtegpkpilfgohhaaGreat
open Go.RowKit
def vecI (I:Nat→Int):List Int:=[I 0,I 1,I 2,I 3,I 4,I 5,I 6,I 7]
theorem vecI_zero {I:Nat→Int}:vecI I=z3p↔z57 I:=by simp [vecI,z3p,z57]
def z1r (p:Nat→PcD) (W:Nat):Nat→Nat→List Int
  | 0,_=>z3p
  | n+1,i=>if hasL (p n).L ((i%W:Nat):Int) ((i/W:Nat):Int)=true then vecI (p n).I else z1r p W n i
theorem z58 {p:Nat→PcD} {W:Nat} {i:Nat}:∀ {n:Nat},(∀ k,k<n→¬ hasR (p k).L ((i%W:Nat):Int) ((i/W:Nat):Int))→z1r p W n i=z3p
  | 0,_=>rfl
  | n+1,h=>by
    rw [z1r,if_neg (fun h'=>h n (by omega) (hasL_iff.1 h'))]
    exact z58 fun k hk=>h k (by omega)
theorem z1s {p:Nat→PcD} {W:Nat} {i:Nat}:∀ {n:Nat},(∃ k,k<n∧hasR (p k).L ((i%W:Nat):Int) ((i/W:Nat):Int))→∃ k,k<n∧hasR (p k).L ((i%W:Nat):Int) ((i/W:Nat):Int)∧z1r p W n i=vecI (p k).I
  | 0,h=>by obtain ⟨k,hk,_⟩:=h;omega
  | n+1,h=>by
    rw [z1r]
    by_cases h1:hasL (p n).L ((i%W:Nat):Int) ((i/W:Nat):Int)=true
    · rw [if_pos h1];exact ⟨n,by omega,hasL_iff.1 h1,rfl⟩
    · rw [if_neg h1]
      obtain ⟨k,hk,h2⟩:=h
      have hkn:k<n:=by
        rcases Nat.lt_or_ge k n with h3 |h3
        · exact h3
        · have:k=n:=by omega
          subst this;exact absurd (hasL_iff.2 h2) h1
      obtain ⟨k',h3,h4,h5⟩:=z1s (n:=n) ⟨k,hkn,h2⟩
      exact ⟨k',by omega,h4,h5⟩
structure PcsOk (w h:Int) (n:Nat) (p:Nat→PcD):Prop where
  wd:1≤w∧w≤256
  ht:1≤h∧h≤256
  few:n≤4096
  one:∀ i,i<n→errL (p i).L=0∧(p i).L.length≠0∧(∀ r∈(p i).L,¬ outP w h r)∧¬ z57 (p i).I
  two:∀ i,i<n→¬ twP p i∧¬ ordP p i
theorem PcsOk.zero {w h:Int} {n:Nat} {p:Nat→PcD} (ok:PcsOk w h n p) {W i:Nat}:z1r p W n i=z3p↔¬ ∃ k,k<n∧hasR (p k).L ((i%W:Nat):Int) ((i/W:Nat):Int):=by
  constructor
  · intro hz hk
    obtain ⟨k,h1,h2,h3⟩:=z1s hk
    exact (ok.one k h1).2.2.2 (vecI_zero.1 (h3.symm.trans hz))
  · intro hk
    exact z58 fun k hk' h2=>hk ⟨k,hk',h2⟩
theorem PcsOk.one_has {w h:Int} {n:Nat} {p:Nat→PcD} (ok:PcsOk w h n p) {i j:Nat} {x y:Int} (hi:i<n) (hj:j<n) (h1:hasR (p i).L x y) (h2:hasR (p j).L x y):i=j:=by
  rcases Nat.lt_trichotomy i j with h |h |h
  · exact ((ok.two j hj).1 ⟨i,h,.inr ⟨x,y,h1,h2⟩⟩).elim
  · exact h
  · exact ((ok.two i hi).1 ⟨j,h,.inr ⟨x,y,h2,h1⟩⟩).elim
theorem PcsOk.cell {w h:Int} {n:Nat} {p:Nat→PcD} (ok:PcsOk w h n p) {W i k:Nat} (hk:k<n) (hh:hasR (p k).L ((i%W:Nat):Int) ((i/W:Nat):Int)):z1r p W n i=vecI (p k).I:=by
  obtain ⟨k',h1,h2,h3⟩:=z1s ⟨k,hk,hh⟩
  rw [ok.one_has h1 hk h2 hh] at h3
  exact h3
end Go.Proofs.YtegpkpilfgohhaaGreat
