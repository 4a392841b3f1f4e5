/-
  Merged: XPieces, XPcLaw, XGatM.
-/
import Derived.Test.YtbkhpddodmbdoaaMrg9
import Derived.Test.YtbkhpddodmbdoaaMrg10
import Derived.Test.YtbkhpddodmbdoaaMrg6
import Derived.Test.YtbkhpddodmbdoaaMrg7
set_option linter.unusedVariables false
set_option linter.unusedSimpArgs false
set_option linter.unnecessarySimpa false
namespace Go.Proofs.Ytbkhpddodmbdoaa
open Go.RowKit
set_option maxRecDepth 20000
structure PcD where
  L:List Run
  A:Option Addr
  q:Nat
  I:Nat→Int
instance:Inhabited PcD:=⟨⟨[],none,0,fun _=>0⟩⟩
def inkC (I:Nat→Int):List Value:=[.int .u8 (I 0),.int .u8 (I 1),.int .u8 (I 2),.int .u8 (I 3),.int .u8 (I 4),.int .u8 (I 5),.int .u8 (I 6),.int .u8 (I 7)]
def pcC (p:PcD):List Value:=.slice p.A p.L.length p.q::inkC p.I
structure PcsM (G:Mem) (A:Option Addr) (n:Nat) (p:Nat→PcD):Prop where
  rows:ElsM G A 9 n fun i=>pcC (p i)
  runs:∀ i,i<n→RunsM G (p i).A (p i).L
  room:∀ i,i<n→(p i).L.length≤(p i).q∧(p i).q≤maxLen
  ink:∀ i,i<n→∀ j,0≤(p i).I j∧(p i).I j≤255
theorem PcsM.mono {G G':Mem} {A:Option Addr} {n:Nat} {p:Nat→PcD} (h:PcsM G A n p) (hle:G.le G'):PcsM G' A n p :=
  ⟨h.rows.mono hle,fun i hi=>(h.runs i hi).mono hle,h.room,h.ink⟩
theorem PcsM.less {G:Mem} {A:Option Addr} {n k:Nat} {p:Nat→PcD} (h:PcsM G A n p) (hk:k≤n):PcsM G A k p :=
  ⟨h.rows.less hk,fun i hi=>h.runs i (by omega),fun i hi=>h.room i (by omega),fun i hi=>h.ink i (by omega)⟩
theorem PcsM.cells {G:Mem} {A:Option Addr} {n:Nat} {p:Nat→PcD} (h:PcsM G A n p) {i:Nat} (hi:i<n):∃ a:Addr,A=some a∧∀ K:List Value→Prop,K [.slice (p i).A (p i).L.length (p i).q,.int .u8 ((p i).I 0),.int .u8 ((p i).I 1),.int .u8 ((p i).I 2),.int .u8 ((p i).I 3),.int .u8 ((p i).I 4),.int .u8 ((p i).I 5),.int .u8 ((p i).I 6),.int .u8 ((p i).I 7)]→OldCells G (a.add (i*9)) 9 K:=h.rows.cells hi
theorem PcsM.head {G:Mem} {A:Option Addr} {n:Nat} {p:Nat→PcD} (h:PcsM G A n p) {i:Nat} (hi:i<n):∃ a:Addr,A=some a∧G.cell? (Addr.add (a.add (i*9)) 0)=some (.slice (p i).A (p i).L.length (p i).q):=h.rows.cell (j:=0) hi rfl
theorem PcsM.inks {G:Mem} {A:Option Addr} {n:Nat} {p:Nat→PcD} (h:PcsM G A n p) {i:Nat} (hi:i<n):∃ a:Addr,A=some a∧∀ K:List Value→Prop,K [.int .u8 ((p i).I 0),.int .u8 ((p i).I 1),.int .u8 ((p i).I 2),.int .u8 ((p i).I 3),.int .u8 ((p i).I 4),.int .u8 ((p i).I 5),.int .u8 ((p i).I 6),.int .u8 ((p i).I 7)]→OldCells G (Addr.add (a.add (i*9)) 1) 8 K:=by
  obtain ⟨b,off,rfl,h2⟩:=h.rows.at_ i hi
  refine ⟨_,rfl,fun K k=>q41 (inkC (p i).I) rfl (fun j u hj=>?_) k⟩
  rw [q0t,q0t,q0t]
  have:=h2 (j+1) u (by simpa [pcC] using hj)
  rwa [show off+i*9+1+j=off+i*9+(j+1) by omega]
def q11 (f:Nat→Int):Nat→Int
  | 0=>0
  | n+1=>if q11 f n≠0 then q11 f n else f n
theorem q83 {f:Nat→Int} {k:Nat} (h0:q11 f k=0) (h:f k≠0):∀ {n:Nat},k<n→q11 f n=f k:=by
  intro n hn
  induction n with
  | zero=>omega
  | succ n ih =>
    unfold q11
    by_cases hk:k<n
    · rw [if_pos (by rw [ih hk];exact h),ih hk]
    · have:k=n:=by omega
      subst this
      rw [if_neg (by omega)]
theorem q45 {f:Nat→Int} {k:Nat} (h0:q11 f k=0) (h:f k=0):q11 f (k+1)=0:=by
  unfold q11;rw [if_neg (by omega),h]
theorem q7y {f:Nat→Int}:∀ {n:Nat},q11 f n=0→∀ k,k<n→f k=0
  | 0,_,k,hk=>by omega
  | n+1,h,k,hk=>by
    unfold q11 at h
    split at h
    · rename_i h1;exact (h1 h).elim
    · rename_i h1
      rcases Nat.lt_or_ge k n with h2 |h2
      · exact q7y (Decidable.not_not.1 h1) k h2
      · have:k=n:=by omega
        subst this;exact h
def q19 (I:Nat→Int):Prop:=I 0=0∧I 1=0∧I 2=0∧I 3=0∧I 4=0∧I 5=0∧I 6=0∧I 7=0
def q3j (I J:Nat→Int):Prop:=I 0=J 0∧I 1=J 1∧I 2=J 2∧I 3=J 3∧I 4=J 4∧I 5=J 5∧I 6=J 6∧I 7=J 7
instance (I:Nat→Int):Decidable (q19 I):=by unfold q19;infer_instance
instance (I J:Nat→Int):Decidable (q3j I J):=by unfold q3j;infer_instance
def outP (w h:Int) (r:Run):Prop:=r.y<0∨16*h≤r.y∨r.x0<0∨16*w<r.x1
open Classical in
noncomputable def pcE (w h:Int) (p:PcD):Int:=if errL p.L≠0 then errL p.L else if p.L.length=0 then 8 else if ∃ r∈p.L,outP w h r then 3 else if q19 p.I then 4 else 0
theorem z9u {w h:Int} {p:PcD} (e:errL p.L≠0):pcE w h p=errL p.L:=by unfold pcE;rw [if_pos e]
theorem z7x {w h:Int} {p:PcD} (e:errL p.L=0) (e1:p.L.length=0):pcE w h p=8:=by unfold pcE;rw [if_neg (by omega),if_pos e1]
theorem z9v {w h:Int} {p:PcD} (e:errL p.L=0) (e1:p.L.length≠0) (e2:∃ r∈p.L,outP w h r):pcE w h p=3:=by unfold pcE;rw [if_neg (by omega),if_neg e1,if_pos e2]
theorem z7y {w h:Int} {p:PcD} (e:errL p.L=0) (e1:p.L.length≠0) (e2:¬ ∃ r∈p.L,outP w h r) (e3:q19 p.I):pcE w h p=4:=by unfold pcE;rw [if_neg (by omega),if_neg e1,if_neg e2,if_pos e3]
theorem z7z {w h:Int} {p:PcD} (e:errL p.L=0) (e1:p.L.length≠0) (e2:¬ ∃ r∈p.L,outP w h r) (e3:¬ q19 p.I):pcE w h p=0:=by unfold pcE;rw [if_neg (by omega),if_neg e1,if_neg e2,if_neg e3]
theorem z70 {w h:Int} {p:PcD} (h0:pcE w h p=0):errL p.L=0∧p.L.length≠0∧(∀ r∈p.L,¬ outP w h r)∧¬ q19 p.I:=by
  unfold pcE at h0
  split at h0
  · rename_i h1;exact absurd h0 h1
  · rename_i h1
    split at h0
    · omega
    · rename_i h2
      split at h0
      · omega
      · rename_i h3
        split at h0
        · omega
        · rename_i h4
          exact ⟨by omega,h2,fun r hr ho=>h3 ⟨r,hr,ho⟩,h4⟩
def z31 (L M:List Run):Prop:=∃ x y,hasR L x y∧hasR M x y
def twP (p:Nat→PcD) (i:Nat):Prop:=∃ k,k<i∧(q3j (p k).I (p i).I∨z31 (p k).L (p i).L)
def q1g (L:List Run):Run:=nthR L 0
def ordP (p:Nat→PcD) (i:Nat):Prop:=0<i∧((q1g (p i).L).y<(q1g (p (i-1)).L).y∨((q1g (p i).L).y=(q1g (p (i-1)).L).y∧(q1g (p i).L).x0<(q1g (p (i-1)).L).x0))
open Classical in
noncomputable def apE (p:Nat→PcD) (i:Nat):Int:=if twP p i then 7 else if ordP p i then 18 else 0
open Classical in
theorem z32 {p:Nat→PcD} {i:Nat} (h:twP p i):apE p i=7:=by unfold apE;rw [if_pos h]
open Classical in
theorem z9w {p:Nat→PcD} {i:Nat} (h:¬ twP p i) (h2:ordP p i):apE p i=18:=by unfold apE;rw [if_neg h,if_pos h2]
open Classical in
theorem z06 {p:Nat→PcD} {i:Nat} (h:¬ twP p i) (h2:¬ ordP p i):apE p i=0:=by unfold apE;rw [if_neg h,if_neg h2]
noncomputable def pcsE (w h:Int) (n:Nat) (p:Nat→PcD):Int :=
  if ¬ ((1≤w∧w≤256)∧(1≤h∧h≤256)) then 3 else if 4096<n then 2 else if q11 (fun i=>pcE w h (p i)) n≠0 then q11 (fun i=>pcE w h (p i)) n else q11 (apE p) n
theorem q4o {I:Nat→Int} (h:¬ q19 I):(decide (I 0=0)&&(decide (I 1=0)&&(decide (I 2=0)&&(decide (I 3=0)&&(decide (I 4=0)&&(decide (I 5=0)&&(decide (I 6=0)&&(decide (I 7=0)&&true))))))))=false:=by
  rw [← Bool.not_eq_true]
  simpa [q19] using h
theorem z5u {I J:Nat→Int} (h:¬ q3j I J):(decide (I 0=J 0)&&(decide (I 1=J 1)&&(decide (I 2=J 2)&&(decide (I 3=J 3)&&(decide (I 4=J 4)&&(decide (I 5=J 5)&&(decide (I 6=J 6)&&(decide (I 7=J 7)&&true))))))))=false:=by
  rw [← Bool.not_eq_true]
  simpa [q3j] using h
end Go.Proofs.Ytbkhpddodmbdoaa
namespace Go.Proofs.Ytbkhpddodmbdoaa
open Go.RowKit
def vecI (I:Nat→Int):List Int:=[I 0,I 1,I 2,I 3,I 4,I 5,I 6,I 7]
theorem vecI_zero {I:Nat→Int}:vecI I=zero8↔q19 I:=by simp [vecI,zero8,q19]
theorem vecI_same {I J:Nat→Int}:vecI I=vecI J↔q3j I J:=by simp [vecI,q3j]
def q6k (p:Nat→PcD) (W:Nat):Nat→Nat→List Int
  | 0,_=>zero8
  | n+1,i=>if hasL (p n).L ((i%W:Nat):Int) ((i/W:Nat):Int)=true then vecI (p n).I else q6k p W n i
theorem z33 {p:Nat→PcD} {W:Nat} {i:Nat}:∀ {n:Nat},(∀ k,k<n→¬ hasR (p k).L ((i%W:Nat):Int) ((i/W:Nat):Int))→q6k p W n i=zero8
  | 0,_=>rfl
  | n+1,h=>by
    rw [q6k,if_neg (fun h'=>h n (by omega) (hasL_iff.1 h'))]
    exact z33 fun k hk=>h k (by omega)
theorem q93 {p:Nat→PcD} {W:Nat} {i:Nat}:∀ {n:Nat},(∃ k,k<n∧hasR (p k).L ((i%W:Nat):Int) ((i/W:Nat):Int))→∃ k,k<n∧hasR (p k).L ((i%W:Nat):Int) ((i/W:Nat):Int)∧q6k p W n i=vecI (p k).I
  | 0,h=>by obtain ⟨k,hk,_⟩:=h;omega
  | n+1,h=>by
    rw [q6k]
    by_cases h1:hasL (p n).L ((i%W:Nat):Int) ((i/W:Nat):Int)=true
    · rw [if_pos h1];exact ⟨n,by omega,hasL_iff.1 h1,rfl⟩
    · rw [if_neg h1]
      obtain ⟨k,hk,h2⟩:=h
      have hkn:k<n:=by
        rcases Nat.lt_or_ge k n with h3 |h3
        · exact h3
        · have:k=n:=by omega
          subst this;exact absurd (hasL_iff.2 h2) h1
      obtain ⟨k',h3,h4,h5⟩:=q93 (n:=n) ⟨k,hkn,h2⟩
      exact ⟨k',by omega,h4,h5⟩
structure PcsOk (w h:Int) (n:Nat) (p:Nat→PcD):Prop where
  wd:1≤w∧w≤256
  ht:1≤h∧h≤256
  few:n≤4096
  one:∀ i,i<n→errL (p i).L=0∧(p i).L.length≠0∧(∀ r∈(p i).L,¬ outP w h r)∧¬ q19 (p i).I
  two:∀ i,i<n→¬ twP p i∧¬ ordP p i
theorem q8h {w h:Int} {n:Nat} {p:Nat→PcD} (e:pcsE w h n p=0):PcsOk w h n p:=by
  unfold pcsE at e
  split at e
  · omega
  split at e
  · omega
  split at e
  · rename_i h1;exact absurd e h1
  rename_i h1 h2 h3
  refine ⟨by omega,by omega,by omega,fun i hi=>z70 (q7y (Decidable.not_not.1 h3) i hi),fun i hi=>?_⟩
  have:=q7y e i hi
  unfold apE at this
  split at this
  · omega
  · split at this
    · omega
    · rename_i g1 g2;exact ⟨g1,g2⟩
theorem PcsOk.zero {w h:Int} {n:Nat} {p:Nat→PcD} (ok:PcsOk w h n p) {W i:Nat}:q6k p W n i=zero8↔¬ ∃ k,k<n∧hasR (p k).L ((i%W:Nat):Int) ((i/W:Nat):Int):=by
  constructor
  · intro hz hk
    obtain ⟨k,h1,h2,h3⟩:=q93 hk
    exact (ok.one k h1).2.2.2 (vecI_zero.1 (h3.symm.trans hz))
  · intro hk
    exact z33 fun k hk' h2=>hk ⟨k,hk',h2⟩
theorem PcsOk.one_has {w h:Int} {n:Nat} {p:Nat→PcD} (ok:PcsOk w h n p) {i j:Nat} {x y:Int} (hi:i<n) (hj:j<n) (h1:hasR (p i).L x y) (h2:hasR (p j).L x y):i=j:=by
  rcases Nat.lt_trichotomy i j with h |h |h
  · exact ((ok.two j hj).1 ⟨i,h,.inr ⟨x,y,h1,h2⟩⟩).elim
  · exact h
  · exact ((ok.two i hi).1 ⟨j,h,.inr ⟨x,y,h2,h1⟩⟩).elim
theorem PcsOk.cell {w h:Int} {n:Nat} {p:Nat→PcD} (ok:PcsOk w h n p) {W i k:Nat} (hk:k<n) (hh:hasR (p k).L ((i%W:Nat):Int) ((i/W:Nat):Int)):q6k p W n i=vecI (p k).I:=by
  obtain ⟨k',h1,h2,h3⟩:=q93 ⟨k,hk,hh⟩
  rw [ok.one_has h1 hk h2 hh] at h3
  exact h3
theorem PcsOk.page {w h:Int} {n:Nat} {p:Nat→PcD} (ok:PcsOk w h n p) {k:Nat} {x y:Int} (hk:k<n) (hh:hasR (p k).L x y):(0≤x∧x<16*w)∧0≤y∧y<16*h:=by
  obtain ⟨r,hr,h1,h2,h3⟩:=hh
  have:=(ok.one k hk).2.2.1 r hr
  unfold outP at this
  omega
end Go.Proofs.Ytbkhpddodmbdoaa
namespace Go.Proofs.Ytbkhpddodmbdoaa
open Go.RowKit
theorem z4w:∀ a b:List Int,q1a (a.map (.int .u8)) (b.map (.int .u8))=true↔a=b
  | [],[]=>by simp [q1a]
  | [],_::_=>by simp [q1a]
  | _::_,[]=>by simp [q1a]
  | a::l,b::m=>by
    simp only [List.map_cons,q1a,Bool.and_eq_true,decide_eq_true_eq,z4w l m,List.cons.injEq]
def q5a:Nat→List Pc→List (List Value × Value)
  | _,[]=>[]
  | n,p::t=>(p.1.map (.int .u8),.int .i64 n)::q5a (n+1) t
theorem z34:∀ (n:Nat) (gs:List Pc) (p:Pc),q5a n (gs++[p])=q5a n gs++[(p.1.map (.int .u8),.int .i64 ((n+gs.length:Nat):Int))]
  | n,[],p=>by simp [q5a]
  | n,q::t,p=>by
    simp only [List.cons_append,q5a,z34 (n+1) t p,List.length_cons]
    rw [show n+1+t.length=n+(t.length+1) by omega]
theorem z07:∀ (n:Nat) (gs:List Pc) (k:Nat) (v:List Int) (L M:List Run),gs[k]? = some (v,L)→q5a n (gs.set k (v,M))=q5a n gs
  | n,[],k,v,L,M,h=>by simp at h
  | n,q::t,0,v,L,M,h=>by
    simp at h;subst h
    simp [q5a]
  | n,q::t,k+1,v,L,M,h=>by
    simp only [List.set_cons_succ,q5a]
    rw [z07 (n+1) t k v L M (by simpa using h)]
theorem q8i:∀ (n:Nat) (gs:List Pc) (v:List Int),atV? (v.map (.int .u8)) (q5a n gs)=if gidx v gs<gs.length then some (.int .i64 ((n+gidx v gs:Nat):Int)) else none
  | n,[],v=>by simp [q5a,atV?,gidx]
  | n,q::t,v=>by
    unfold q5a atV? gidx
    by_cases h:q.1=v
    · rw [if_pos ((z4w _ _).2 h.symm),if_pos h,if_pos (by simp)];simp
    · rw [if_neg (fun h'=>h ((z4w _ _).1 h').symm),if_neg h,q8i (n+1) t v]
      simp only [List.length_cons,Nat.add_lt_add_iff_right]
      rw [show n+1+gidx v t=n+(gidx v t+1) by omega]
def putV (B:Nat→Value) (k:Nat) (v:Value):Nat→Value:=fun x=>if x=k then v else B x
theorem q1x {B:Nat→Value} {k:Nat} {v:Value}:putV B k v k=v:=if_pos rfl
theorem q18 {B:Nat→Value} {k x:Nat} {v:Value} (h:x≠k):putV B k v x=B x:=if_neg h
structure GatM (G0:Mem) (E:TypeId) (bm:Nat) (S:Nat→Prop) (M:Mem) (gs:List Pc) (B:Nat→Value):Prop where
  le:G0.le M
  rows:∀ (k:Nat) (p:Pc),gs[k]? = some p→RowS S M E 3 (B k) p.2.length (q0o p.2)
  apart:∀ k l b,k<gs.length→l<gs.length→k≠l→q0j (B k)=some b→q0j (B l)≠some b
  free:∀ k b,k<gs.length→q0j (B k)=some b→G0 b=none∧b≠bm
  map:MapM .u8 8 M bm (q5a 0 gs)
  mapS:S bm
  mapF:G0 bm=none
section
variable {G0:Mem} {E:TypeId} {bm:Nat} {S S':Nat→Prop} {M M':Mem} {gs:List Pc} {B:Nat→Value} {k:Nat} {v:List Int} {L:List Run} {r:Run}
theorem q5i (L:List Run) (r:Run):q0o (L++[r])=q0o L++[.int .i64 r.y,.int .i64 r.x0,.int .i64 r.x1]:=by rw [q0x,q3p]
theorem GatM.app (h:GatM G0 E bm S M gs B) (hk:gs[k]? = some (v,L)) {x:Value} (hG:RowG S M (B k) S' M' x) (hR:RowS S' M' E 3 x (L.length+1) (q0o (L++[r]))):GatM G0 E bm S' M' (gs.set k (v,L++[r])) (putV B k x):=by
  have hkl:=(List.getElem?_eq_some_iff.1 hk).1
  have hfree:=h.free k
  have hG0:∀ b,q0j x=some b→G0 b=none∧b≠bm:=fun b hb=>by
    by_cases e:q0j (B k)=some b
    · exact h.free k b hkl e
    · have hn:=hG.fresh b hb e
      refine ⟨Mem.le.none h.le hn,fun e2=>?_⟩
      subst e2
      rw [h.map.at_] at hn;cases hn
  have hle:G0.le M':=fun b o hb=>hG.old b o (h.le b o hb) fun e=>by
    have:=(h.free k b hkl e).1
    rw [this] at hb;cases hb
  have hne:∀ l,l<gs.length→l≠k→∀ b,q0j (B l)=some b→q0j (B k)≠some b:=fun l hl hlk b hb=>h.apart l k b hl hkl hlk hb
  have hx:∀ l,l<gs.length→l≠k→∀ b,q0j (B l)=some b→q0j x≠some b:=fun l hl hlk b hb e=>by
    by_cases e2:q0j (B k)=some b
    · exact hne l hl hlk b hb e2
    · have hn:=hG.fresh b e e2
      obtain ⟨p,hp⟩:∃ p,gs[l]? = some p:=⟨_,List.getElem?_eq_getElem hl⟩
      obtain ⟨_,o,ho⟩:=(h.rows l p hp).blk hb
      rw [hn] at ho;cases ho
  refine ⟨hle,fun l p hl=>?_,fun i j b hi hj hij hb=>?_,fun i b hi hb=>?_,?_,hG.more bm h.mapS,h.mapF⟩
  · by_cases e:k=l
    · subst e
      rw [List.getElem?_set_self hkl] at hl;cases hl
      rw [q1x]
      simpa using hR
    · rw [List.getElem?_set_ne e] at hl
      have hll:=(List.getElem?_eq_some_iff.1 hl).1
      rw [q18 (fun e2=>e e2.symm)]
      exact hG.row (h.rows l p hl) (hne l hll (fun e2=>e e2.symm))
  · simp only [List.length_set] at hi hj
    by_cases e1:i=k
    · subst e1
      rw [q1x] at hb
      rw [q18 (fun e2=>hij e2.symm)]
      exact fun e3=>hx j hj (fun e2=>hij e2.symm) b e3 hb
    · rw [q18 e1] at hb
      by_cases e2:j=k
      · subst e2;rw [q1x];exact hx i hi e1 b hb
      · rw [q18 e2];exact h.apart i j b hi hj hij hb
  · simp only [List.length_set] at hi
    by_cases e1:i=k
    · subst e1;rw [q1x] at hb;exact hG0 b hb
    · rw [q18 e1] at hb;exact h.free i b hi hb
  · rw [z07 0 gs k v L _ hk]
    refine h.map.of (hG.rest bm (fun e=>?_) (fun e=>?_))
    · exact (h.free k bm hkl e).2 rfl
    · exact (hG0 bm e).2 rfl
theorem GatM.put {b:Nat} (h:GatM G0 E bm S M gs B) (hk:gs[k]? = some (v,L)) (hb:q0j (B k)=some b) (hM:∀ c,c≠b→M' c=M c) {L':List Run} (hR:RowS S M' E 3 (B k) L'.length (q0o L')):GatM G0 E bm S M' (gs.set k (v,L')) B:=by
  have hkl:=(List.getElem?_eq_some_iff.1 hk).1
  obtain ⟨f1,f2⟩:=h.free k b hkl hb
  refine ⟨fun c o hc=>?_,fun l p hl=>?_,fun i j c hi hj=>?_,fun i c hi=>?_,?_,h.mapS,h.mapF⟩
  · rw [hM c (fun e=>by rw [e,f1] at hc;cases hc)];exact h.le c o hc
  · by_cases e:k=l
    · subst e
      rw [List.getElem?_set_self hkl] at hl;cases hl
      exact hR
    · rw [List.getElem?_set_ne e] at hl
      have hll:=(List.getElem?_eq_some_iff.1 hl).1
      exact (h.rows l p hl).of (fun _ h=>h) fun c hc=>hM c fun e2=>by
        subst e2
        exact h.apart l k c hll hkl (fun e3=>e e3.symm) hc hb
  · simp only [List.length_set] at hi hj;exact h.apart i j c hi hj
  · simp only [List.length_set] at hi;exact h.free i c hi
  · rw [z07 0 gs k v L _ hk]
    exact h.map.of (hM bm fun e=>f2 e.symm)
theorem GatM.key (h:GatM G0 E bm S M gs B) (hM:∀ c,c≠bm→M' c=M c) (hm:MapM .u8 8 M' bm (q5a 0 gs++[(v.map (.int .u8),.int .i64 (gs.length:Int))])):GatM G0 E bm S M' (gs++[(v,[])]) (putV B gs.length (.slice none 0 0)):=by
  refine ⟨fun c o hc=>?_,fun l p hl=>?_,fun i j c hi hj hij hb=>?_,fun i c hi hb=>?_,?_,h.mapS,h.mapF⟩
  · rw [hM c (fun e=>by rw [e,h.mapF] at hc;cases hc)];exact h.le c o hc
  · rw [List.getElem?_append] at hl
    split at hl
    · rename_i hll
      rw [q18 (by omega)]
      exact (h.rows l p hl).of (fun _ h=>h) fun c hc=>hM c (h.free l c hll hc).2
    · rename_i hll
      have e:l-gs.length=0:=by have:=(List.getElem?_eq_some_iff.1 hl).1;simp at this;omega
      rw [e] at hl;simp at hl;subst hl
      rw [show l=gs.length by omega,q1x]
      exact RowS.nil _ _ _ _
  · simp at hi hj
    by_cases e1:i=gs.length
    · subst e1;rw [q1x] at hb;cases hb
    · rw [q18 e1] at hb
      by_cases e2:j=gs.length
      · subst e2;rw [q1x];exact fun e=>by cases e
      · rw [q18 e2];exact h.apart i j c (by omega) (by omega) hij hb
  · simp at hi
    by_cases e1:i=gs.length
    · subst e1;rw [q1x] at hb;cases hb
    · rw [q18 e1] at hb;exact h.free i c (by omega) hb
  · rw [z34,Nat.zero_add];exact hm
end
end Go.Proofs.Ytbkhpddodmbdoaa
