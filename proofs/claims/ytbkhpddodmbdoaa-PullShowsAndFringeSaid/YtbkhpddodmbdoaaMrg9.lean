/-
  Merged: XGather, XRegM, XRegChk.
-/
import Derived.Test.YtbkhpddodmbdoaaMrg8
import Derived.Test.YtbkhpddodmbdoaaMrg4
import Derived.Test.YtbkhpddodmbdoaaMrg7
import Derived.Test.YtbkhpddodmbdoaaEng2
set_option linter.unusedVariables false
set_option linter.unusedSimpArgs false
set_option linter.unnecessarySimpa false
namespace Go.Proofs.Ytbkhpddodmbdoaa
abbrev Pc:=List Int × List Run
def zero8:List Int:=[0,0,0,0,0,0,0,0]
def gput:List Pc→List Int→Int→Int→Int→List Pc
  | [],v,y,a,b=>[(v,[⟨y,a,b⟩])]
  | (u,L)::t,v,y,a,b=>if u=v then (u,addR L y a b)::t else (u,L)::gput t v y a b
def gadd (gs:List Pc) (v:List Int) (y a b:Int):List Pc:=if v=zero8 then gs else gput gs v y a b
def gat (c:Nat→List Int) (W:Nat):Nat→List Pc
  | 0=>[]
  | i+1=>gadd (gat c W i) (c i) ((i/W:Nat):Int) ((i%W:Nat):Int) ((i%W:Nat)+1:Int)
def gidx (v:List Int):List Pc→Nat
  | []=>0
  | p::t=>if p.1=v then 0 else gidx v t+1
theorem z1y (v:List Int):∀ gs:List Pc,gidx v gs≤gs.length
  | []=>Nat.le_refl _
  | p::t=>by unfold gidx;have:=z1y v t;split <;> simp <;> omega
theorem z9r {v:List Int}:∀ {gs:List Pc} {j:Nat} {p:Pc},j<gidx v gs→gs[j]? = some p→p.1≠v
  | [],j,p,h,_=>by simp [gidx] at h
  | q::t,j,p,h,hp=>by
    unfold gidx at h
    split at h
    · omega
    · rename_i hne
      cases j with
      | zero=>simp at hp;subst hp;exact hne
      | succ j =>
        have h2:j<gidx v t:=Nat.lt_of_succ_lt_succ h
        exact z9r (v:=v) (gs:=t) h2 (by simpa using hp)
theorem z1z {v:List Int}:∀ {gs:List Pc},gidx v gs<gs.length→∃ L,gs[gidx v gs]? = some (v,L)
  | [],h=>by simp [gidx] at h
  | q::t,h=>by
    unfold gidx at h ⊢
    split at h
    · rename_i he
      rw [if_pos he]
      exact ⟨q.2,by rw [← he];rfl⟩
    · rename_i hne
      rw [if_neg hne]
      obtain ⟨L,hL⟩:=z1z (v:=v) (gs:=t) (by have h:gidx v t+1<t.length+1:=h;omega)
      exact ⟨L,by simpa using hL⟩
theorem q91 {v:List Int} {y a b:Int}:∀ {gs:List Pc} {L:List Run},gs[gidx v gs]? = some (v,L)→gput gs v y a b=gs.set (gidx v gs) (v,addR L y a b)
  | [],L,h=>by simp at h
  | (u,M)::t,L,h=>by
    unfold gidx at h ⊢
    unfold gput
    by_cases hu:u=v
    · simp only [hu,if_true] at h ⊢
      simp at h
      rw [h];rfl
    · simp only [hu,if_false] at h ⊢
      rw [q91 (gs:=t) (by simpa using h)];rfl
theorem q92 {v:List Int} {y a b:Int}:∀ {gs:List Pc},gidx v gs=gs.length→gput gs v y a b=gs++[(v,[⟨y,a,b⟩])]
  | [],_=>rfl
  | (u,M)::t,h=>by
    unfold gidx at h
    unfold gput
    by_cases hu:u=v
    · simp only [hu,if_true] at h
      simp at h
    · simp only [hu,if_false] at h ⊢
      rw [q92 (gs:=t) (by simpa using h)];rfl
theorem x3o (L:List Run) (y a b:Int):(addR L y a b).length≤L.length+1:=by
  rcases q2r L with rfl |⟨K,r,rfl⟩
  · by_cases hb:b≤a
    · rw [q3y hb];omega
    · rw [q2m hb];simp
  · by_cases hb:b≤a
    · rw [q3y hb];omega
    · by_cases h1:r.y=y∧a≤r.x1
      · rw [q1r hb h1.1 h1.2];simp
      · rw [q1o hb h1];simp
structure GOk (gs:List Pc) (n:Nat) (y x:Int):Prop where
  few:gs.length≤n
  runs:∀ p∈gs,p.2.length≤n∧upTo p.2 y x∧okR p.2
  apart:∀ (i j:Nat) (p q:Pc),i<j→gs[i]? = some p→gs[j]? = some q→p.1≠q.1
  keys:∀ p∈gs,p.1≠zero8∧p.2≠[]
theorem GOk.nil (n:Nat) (y x:Int):GOk [] n y x:=⟨Nat.zero_le _,fun p h=>(by cases h),fun i j p q _ h=>(by simp at h),fun p h=>(by cases h)⟩
theorem GOk.mono {gs:List Pc} {n n':Nat} {y x y' x':Int} (h:GOk gs n y x) (hn:n≤n') (k:y<y'∨(y=y'∧x≤x')):GOk gs n' y' x' :=
  ⟨Nat.le_trans h.few hn,fun p hp=>⟨Nat.le_trans (h.runs p hp).1 hn,q7f (h.runs p hp).2.1 k,(h.runs p hp).2.2⟩,h.apart,h.keys⟩
theorem x44 {L:List Run} {y a b:Int} (h:a<b):addR L y a b≠[]:=by
  unfold addR
  rw [if_neg (by omega)]
  split
  · split <;> simp
  · simp
theorem GOk.gput {gs:List Pc} {n:Nat} {y a b:Int} (h:GOk gs n y a) {v:List Int} (hv:v≠zero8) (hab:a<b):GOk (gput gs v y a b) (n+1) y b:=by
  have up:∀ p∈gs,p.2.length≤n+1∧upTo p.2 y b∧okR p.2:=fun p hp=>⟨by have:=(h.runs p hp).1;omega,q7f (h.runs p hp).2.1 (.inr ⟨rfl,by omega⟩),(h.runs p hp).2.2⟩
  rcases Nat.lt_or_ge (gidx v gs) gs.length with hi |hi
  · obtain ⟨L,hL⟩:=z1z hi
    have hm:=List.mem_of_getElem? hL
    obtain ⟨h1,h2,h3⟩:=h.runs _ hm
    obtain ⟨a1,a2,_⟩:=z4t (b:=b) h3 h2
    rw [q91 hL]
    refine ⟨by simp;have:=h.few;omega,fun p hp=>?_,fun i j p q hij hp hq=>?_,fun p hp=>?_⟩
    · rcases List.mem_or_eq_of_mem_set hp with h4 |rfl
      · exact up p h4
      · exact ⟨by have:=x3o L y a b;dsimp only at h1 ⊢;omega,a2 hab,a1⟩
    · have key:∀ (i:Nat) (p:Pc),(gs.set (gidx v gs) (v,addR L y a b))[i]? = some p→∃ q,gs[i]? = some q∧q.1=p.1:=fun i p hp=>by
        rw [List.getElem?_set] at hp
        by_cases e:gidx v gs=i
        · subst e
          rw [if_pos rfl,if_pos hi] at hp
          cases hp;exact ⟨_,hL,rfl⟩
        · rw [if_neg e] at hp;exact ⟨p,hp,rfl⟩
      obtain ⟨p',g1,g2⟩:=key i p hp
      obtain ⟨q',g3,g4⟩:=key j q hq
      rw [← g2,← g4];exact h.apart i j p' q' hij g1 g3
    · rcases List.mem_or_eq_of_mem_set hp with h4 |rfl
      · exact h.keys p h4
      · exact ⟨hv,x44 hab⟩
  · have hi:gidx v gs=gs.length:=by have:=z1y v gs;omega
    rw [q92 hi]
    refine ⟨by simp;exact h.few,fun p hp=>?_,fun i j p q hij hp hq=>?_,fun p hp=>?_⟩
    · rcases List.mem_append.1 hp with h4 |h4
      · exact up p h4
      · simp at h4;subst h4
        refine ⟨by simp,fun r hr=>?_,?_⟩
        · simp at hr;subst hr;exact .inr ⟨rfl,Int.le_refl _⟩
        · exact ⟨hab,by simp,trivial⟩
    · rw [List.getElem?_append] at hp hq
      split at hq
      · rename_i hjl
        rw [if_pos (by omega)] at hp
        exact h.apart i j p q hij hp hq
      · rename_i hjl
        have hj:j-gs.length=0:=by
          have:=(List.getElem?_eq_some_iff.1 hq).1;simp at this;omega
        rw [hj] at hq;simp at hq;subst hq
        rw [if_pos (by omega)] at hp
        exact z9r (v:=v) (gs:=gs) (by omega) hp
    · rcases List.mem_append.1 hp with h4 |h4
      · exact h.keys p h4
      · simp at h4;subst h4;exact ⟨hv,by simp⟩
theorem GOk.gadd {gs:List Pc} {n:Nat} {y a b:Int} (h:GOk gs n y a) {v:List Int} (hab:a<b):GOk (gadd gs v y a b) (n+1) y b:=by
  unfold Go.Proofs.Ytbkhpddodmbdoaa.gadd
  split
  · exact h.mono (by omega) (.inr ⟨rfl,by omega⟩)
  · exact h.gput ‹_› hab
theorem z7v {L:List Run} {y a b:Int} (hu:upTo L y a) (hab:a<b):addR (addR L y a b) y b (b+1)=addR L y a (b+1):=by
  rcases q2r L with rfl |⟨K,r,rfl⟩
  · rw [q2m (by omega),q2m (by omega)]
    have:=q1r (L:=[]) (r:=⟨y,a,b⟩) (y:=y) (a:=b) (b:=b+1) (by omega) rfl (Int.le_refl _)
    rw [List.nil_append] at this
    rw [this]
    simp;omega
  · have hr:=hu r (by simp)
    by_cases h1:r.y=y∧a≤r.x1
    · rw [q1r (by omega) h1.1 h1.2,q1r (by omega) h1.1 h1.2]
      rw [q1r (L:=K) (r:=⟨y,r.x0,max r.x1 b⟩) (y:=y) (a:=b) (b:=b+1) (by omega) rfl (by show b≤max r.x1 b;omega)]
      congr 3
      show max (max r.x1 b) (b+1)=max r.x1 (b+1)
      omega
    · rw [q1o (by omega) h1,q1o (by omega) h1,q1r (L:=K++[r]) (r:=⟨y,a,b⟩) (y:=y) (a:=b) (b:=b+1) (by omega) rfl (Int.le_refl _)]
      congr 3
      show max b (b+1)=b+1
      omega
theorem x3p {gs:List Pc} {n:Nat} {y a b:Int} (h:GOk gs n y a) {v:List Int} (hab:a<b):gput (gput gs v y a b) v y b (b+1)=gput gs v y a (b+1):=by
  induction gs generalizing n with
  | nil =>
    show (if v=v then _ else _)=_
    rw [if_pos rfl]
    have:=z7v (L:=[]) (y:=y) (a:=a) (b:=b) (fun r hr=>by cases hr) hab
    rw [q2m (by omega),q2m (by omega)] at this
    rw [this];rfl
  | cons p t ih =>
    obtain ⟨u,L⟩:=p
    by_cases hu:u=v
    · have e:gput ((u,addR L y a b)::t) v y b (b+1)=(u,addR (addR L y a b) y b (b+1))::t:=by rw [gput,if_pos hu]
      have e2:gput ((u,L)::t) v y a b=(u,addR L y a b)::t:=by rw [gput,if_pos hu]
      have e3:gput ((u,L)::t) v y a (b+1)=(u,addR L y a (b+1))::t:=by rw [gput,if_pos hu]
      rw [e2,e,e3]
      rw [z7v (h.runs (u,L) (by simp)).2.1 hab]
    · skip
      have e:gput ((u,L)::gput t v y a b) v y b (b+1)=(u,L)::gput (gput t v y a b) v y b (b+1):=by rw [gput,if_neg hu]
      have e2:gput ((u,L)::t) v y a b=(u,L)::gput t v y a b:=by rw [gput,if_neg hu]
      have e3:gput ((u,L)::t) v y a (b+1)=(u,L)::gput t v y a (b+1):=by rw [gput,if_neg hu]
      rw [e2,e,e3]
      rw [ih (n:=n) ⟨by have:=h.few;simp at this;omega,fun p hp=>h.runs p (List.mem_cons_of_mem _ hp),fun i j p q hij hp hq=>h.apart (i+1) (j+1) p q (by omega) (by simpa using hp) (by simpa using hq),fun p hp=>h.keys p (List.mem_cons_of_mem _ hp)⟩]
theorem x3q {gs:List Pc} {n:Nat} {y a b:Int} (h:GOk gs n y a) {v:List Int} (hab:a<b):gadd (gadd gs v y a b) v y b (b+1)=gadd gs v y a (b+1):=by
  unfold gadd
  by_cases hv:v=zero8
  · simp [hv]
  · simp only [if_neg hv];exact x3p h hab
theorem z3y (c:Nat→List Int) {W:Nat} (hW:0<W):∀ i,GOk (gat c W i) i ((i/W:Nat):Int) ((i%W:Nat):Int)
  | 0=>GOk.nil _ _ _
  | i+1=>by
    have h:=(z3y c hW i).gadd (v:=c i) (b:=((i%W:Nat):Int)+1) (by omega)
    refine GOk.mono h (Nat.le_refl _) ?_
    have h1:i%W+1<W∨i%W+1=W:=by have:=Nat.mod_lt i hW;omega
    have e:=Nat.div_add_mod i W
    rcases h1 with h1 |h1
    · right
      have e1:(i+1)/W=i/W:=by
        rw [show i+1=(i%W+1)+W*(i/W) by omega,Nat.add_mul_div_left _ _ hW,Nat.div_eq_of_lt h1];omega
      have e2:(i+1)%W=i%W+1:=by
        rw [show i+1=(i%W+1)+W*(i/W) by omega,Nat.add_mul_mod_self_left,Nat.mod_eq_of_lt h1]
      rw [e1,e2];exact ⟨rfl,by omega⟩
    · left
      have e1:(i+1)/W=i/W+1:=by
        rw [show i+1=W+W*(i/W) by omega,Nat.add_mul_div_left _ _ hW,Nat.div_self hW];omega
      rw [e1];omega
theorem z9s {c:Nat→List Int} {W:Nat} (hW:0<W) {i:Nat}:∀ (n:Nat),(∀ j,j≤n→c (i+j)=c i)→i%W+n<W→gadd (gat c W i) (c i) ((i/W:Nat):Int) ((i%W:Nat):Int) ((i%W:Nat)+((n+1:Nat):Int))=gat c W (i+(n+1))
  | 0,_,_=>by rfl
  | n+1,hc,hn=>by
    have ih:=z9s (c:=c) hW (i:=i) n (fun j hj=>hc j (by omega)) (by omega)
    have hg:=x3q (z3y c hW i) (v:=c i) (b:=((i%W:Nat):Int)+((n+1:Nat):Int)) (by omega)
    rw [ih] at hg
    have e:=Nat.div_add_mod i W
    have e1:(i+(n+1))/W=i/W:=by
      rw [show i+(n+1)=(i%W+(n+1))+W*(i/W) by omega,Nat.add_mul_div_left _ _ hW,Nat.div_eq_of_lt hn];omega
    have e2:(i+(n+1))%W=i%W+(n+1):=by
      rw [show i+(n+1)=(i%W+(n+1))+W*(i/W) by omega,Nat.add_mul_mod_self_left,Nat.mod_eq_of_lt hn]
    show _=gadd (gat c W (i+(n+1))) (c (i+(n+1))) (((i+(n+1))/W:Nat):Int) (((i+(n+1))%W:Nat):Int) (((i+(n+1))%W:Nat)+1:Int)
    rw [e1,e2,hc (n+1) (Nat.le_refl _)]
    rw [show ((i%W:Nat):Int)+((n+1+1:Nat):Int)=((i%W:Nat):Int)+((n+1:Nat):Int)+1 by omega,← hg]
    rw [show ((i%W+(n+1):Nat):Int)=((i%W:Nat):Int)+((n+1:Nat):Int) by omega]
end Go.Proofs.Ytbkhpddodmbdoaa
namespace Go.Proofs.Ytbkhpddodmbdoaa
open Go.RowKit
set_option maxRecDepth 20000
def RunsM (G:Mem) (A:Option Addr) (L:List Run):Prop:=∀ (i:Nat) r,L[i]? = some r→∃ b off,A=some ⟨b,off,none⟩∧G.cell? ⟨b,off+i*3,none⟩=some (.int .i64 r.y)∧G.cell? ⟨b,off+i*3+1,none⟩=some (.int .i64 r.x0)∧G.cell? ⟨b,off+i*3+2,none⟩=some (.int .i64 r.x1)
theorem RunsM.mono {G G':Mem} {A:Option Addr} {L:List Run} (h:RunsM G A L) (hle:G.le G'):RunsM G' A L:=fun i r hr=>by
  obtain ⟨b,off,h1,h2,h3,h4⟩:=h i r hr
  exact ⟨b,off,h1,hle.cell h2,hle.cell h3,hle.cell h4⟩
theorem RunsM.nil (G:Mem) (A:Option Addr):RunsM G A []:=fun i r hr=>by simp at hr
theorem RunsM.at_ {G:Mem} {A:Option Addr} {L:List Run} (h:RunsM G A L) {i:Nat} {r:Run} (hi:L[i]? = some r):∃ p:Addr,A=some p∧G.cell? (Addr.add (p.add (i*3)) 0)=some (.int .i64 r.y)∧G.cell? (Addr.add (p.add (i*3)) 1)=some (.int .i64 r.x0)∧G.cell? (Addr.add (p.add (i*3)) 2)=some (.int .i64 r.x1):=by
  obtain ⟨b,off,rfl,h1,h2,h3⟩:=h i r hi
  exact ⟨_,rfl,by rw [q0t,q0t];exact h1,by rw [q0t,q0t];exact h2,by rw [q0t,q0t];exact h3⟩
theorem RunsM.cells {G:Mem} {A:Option Addr} {L:List Run} (h:RunsM G A L) {i:Nat} {r:Run} (hi:L[i]? = some r):∃ p:Addr,A=some p∧∀ K:List Value→Prop,K [.int .i64 r.y,.int .i64 r.x0,.int .i64 r.x1]→OldCells G (p.add (i*3)) 3 K:=by
  obtain ⟨p,rfl,c0,c1,c2⟩:=h.at_ hi
  refine ⟨p,rfl,fun K k=>q41 _ rfl (fun j u hj=>?_) k⟩
  match j,hj with
  | 0,hj=>simp at hj;subst hj;exact c0
  | 1,hj=>simp at hj;subst hj;exact c1
  | 2,hj=>simp at hj;subst hj;exact c2
def nthR (L:List Run) (i:Nat):Run:=(L[i]?).getD ⟨0,0,0⟩
theorem q39 {L:List Run} {i:Nat} {r:Run} (h:L[i]? = some r):nthR L i=r:=by simp [nthR,h]
theorem RunsAt.m {w:World} {A:Option Addr} {n:Nat} {rs:Nat→Run} (h:RunsAt w A n rs):RunsM (q8n w) A (q2s rs n):=by
  intro i r hr
  have hi:i<n:=by have:=(List.getElem?_eq_some_iff.1 hr).1;simpa [q2s] using this
  have e:rs i=r:=by simpa [q2s,List.getElem?_range hi] using hr
  subst e
  obtain ⟨b,off,hA,_,hc⟩:=h (by omega)
  obtain ⟨c0,c1,c2⟩:=hc i hi
  exact ⟨b,off,hA,c0,c1,c2⟩
theorem z05 (rs:Nat→Run) (n:Nat):(q2s rs n).length=n:=by simp [q2s]
def errL (L:List Run):Int:=regV (nthR L) L.length
theorem z3z {L:List Run} {i:Nat} (h0:regV (nthR L) i=0) (hi:i<L.length) (h:q3t (nthR L) i≠0):errL L=q3t (nthR L) i:=x0n h0 h hi
end Go.Proofs.Ytbkhpddodmbdoaa
namespace Go.Proofs.Ytbkhpddodmbdoaa
open Go.RowKit
set_option maxRecDepth 20000
set_option maxHeartbeats 2000000 in
theorem q5u {A:Option Addr} {L:List Run} {c:Nat} {G:Mem} (hR:RunsM G A L) (hc:L.length≤c) (hm:c≤maxLen):Gives Try.prog 22 [.val (.slice A L.length c)] G (.val (.int .i64 (errL L))):=by
  unfold maxLen at hm
  refine q1n tab_ok Try.func22 ?_
  (repeat ((try (conv=>whnf));(refine stQ ?_)))
  conv=>whnf
  refine q05 tab_ok (fun i=>i≤L.length∧regV (nthR L) i=0) (fun (i:Nat)=>[(7,.val (.int .i64 i))]) (fun i=>[]) (fun i=>L.length-i) 0 ⟨Nat.zero_le _,rfl⟩ ?_ ?_
  · ((refine q0h ?_);(conv=>whnf);(refine q0k (by rfl) (by rfl) flQ ?_))
    exact q0g
  · rintro i ⟨hi,h0⟩
    rcases Nat.lt_or_ge i L.length with h1 |h1
    · obtain ⟨r,hr⟩:∃ r,L[i]? = some r:=⟨L[i],List.getElem?_eq_getElem h1⟩
      obtain ⟨p,rfl,ca⟩:=hR.cells hr
      have hn:=q39 hr
      have first:=fun h=>z3z h0 h1 h
      have next:=fun h=>z5m (rs:=nthR L) (k:=i) h0 h
      have herr:q3t (nthR L) i=if r.y < -8192∨8191<r.y∨r.x0 < -8192∨8192<r.x0∨r.x1 < -8192∨8192<r.x1 then 3 else if r.x1≤r.x0 then 4 else if 0<i∧r.y≤(nthR L (i-1)).y∧(r.y<(nthR L (i-1)).y∨r.x0≤(nthR L (i-1)).x1) then 18 else 0:=by unfold q3t;rw [hn]
      rw [herr] at first next
      clear herr
      by_cases c0:r.y < -8192
      · rw [if_pos (by omega)] at first
        rw [first (by omega)]
        (repeat ((try (conv=>whnf));(first |(refine ca _ ?_) |(refine stQ ?_) |(with_reducible first |refine q0c tab_ok Try.func38 (fun vs w=>by kernel_rfl) (by rfl) ?_ |refine q0c tab_ok Try.func39 (fun vs w=>by kernel_rfl) (by rfl) ?_))))
        exact ⟨rfl,rfl⟩
      by_cases c1:8191<r.y
      · rw [if_pos (by omega)] at first
        rw [first (by omega)]
        (repeat ((try (conv=>whnf));(first |(refine ca _ ?_) |(refine stQ ?_) |(with_reducible first |refine q0c tab_ok Try.func38 (fun vs w=>by kernel_rfl) (by rfl) ?_ |refine q0c tab_ok Try.func39 (fun vs w=>by kernel_rfl) (by rfl) ?_))))
        exact ⟨rfl,rfl⟩
      by_cases c2:r.x0 < -8192
      · rw [if_pos (by omega)] at first
        rw [first (by omega)]
        (repeat ((try (conv=>whnf));(first |(refine ca _ ?_) |(refine stQ ?_) |(with_reducible first |refine q0c tab_ok Try.func38 (fun vs w=>by kernel_rfl) (by rfl) ?_ |refine q0c tab_ok Try.func39 (fun vs w=>by kernel_rfl) (by rfl) ?_))))
        exact ⟨rfl,rfl⟩
      by_cases c3:8192<r.x0
      · rw [if_pos (by omega)] at first
        rw [first (by omega)]
        (repeat ((try (conv=>whnf));(first |(refine ca _ ?_) |(refine stQ ?_) |(with_reducible first |refine q0c tab_ok Try.func38 (fun vs w=>by kernel_rfl) (by rfl) ?_ |refine q0c tab_ok Try.func39 (fun vs w=>by kernel_rfl) (by rfl) ?_))))
        exact ⟨rfl,rfl⟩
      by_cases c4:r.x1 < -8192
      · rw [if_pos (by omega)] at first
        rw [first (by omega)]
        (repeat ((try (conv=>whnf));(first |(refine ca _ ?_) |(refine stQ ?_) |(with_reducible first |refine q0c tab_ok Try.func38 (fun vs w=>by kernel_rfl) (by rfl) ?_ |refine q0c tab_ok Try.func39 (fun vs w=>by kernel_rfl) (by rfl) ?_))))
        exact ⟨rfl,rfl⟩
      by_cases c5:8192<r.x1
      · rw [if_pos (by omega)] at first
        rw [first (by omega)]
        (repeat ((try (conv=>whnf));(first |(refine ca _ ?_) |(refine stQ ?_) |(with_reducible first |refine q0c tab_ok Try.func38 (fun vs w=>by kernel_rfl) (by rfl) ?_ |refine q0c tab_ok Try.func39 (fun vs w=>by kernel_rfl) (by rfl) ?_))))
        exact ⟨rfl,rfl⟩
      rw [if_neg (by omega)] at first next
      by_cases c6:r.x1≤r.x0
      · rw [if_pos c6] at first
        rw [first (by omega)]
        (repeat ((try (conv=>whnf));(first |(refine ca _ ?_) |(refine stQ ?_) |(with_reducible first |refine q0c tab_ok Try.func38 (fun vs w=>by kernel_rfl) (by rfl) ?_ |refine q0c tab_ok Try.func39 (fun vs w=>by kernel_rfl) (by rfl) ?_))))
        exact ⟨rfl,rfl⟩
      rw [if_neg c6] at first next
      rcases i with _ |m
      · rw [if_neg (by omega)] at next
        (repeat ((try (conv=>whnf));(first |(refine ca _ ?_) |(refine stQ ?_) |(with_reducible first |refine q0c tab_ok Try.func38 (fun vs w=>by kernel_rfl) (by rfl) ?_ |refine q0c tab_ok Try.func39 (fun vs w=>by kernel_rfl) (by rfl) ?_))))
        refine ⟨1,⟨by omega,next rfl⟩,by omega,?_⟩
        ((refine q0h ?_);(conv=>whnf);(refine q0k (by rfl) (by rfl) flQ ?_))
        exact q0g
      · obtain ⟨q,hq⟩:∃ q,L[m]? = some q:=⟨L[m],List.getElem?_eq_getElem (by omega)⟩
        obtain ⟨p',he,q0,q1,q2⟩:=hR.at_ hq
        cases he
        have hix:(((m+1:Nat):Int)-1).toNat=m:=by omega
        rw [← hix] at q0 q1 q2
        rw [Nat.add_sub_cancel,q39 hq] at first next
        by_cases d0:r.y<q.y
        · rw [if_pos (by omega)] at first
          rw [first (by omega)]
          (repeat ((try (conv=>whnf));(first |(refine ca _ ?_) |(refine q0d _ q0 ?_) |(refine q0d _ q2 ?_) |(refine stQ ?_) |(with_reducible first |refine q0c tab_ok Try.func38 (fun vs w=>by kernel_rfl) (by rfl) ?_ |refine q0c tab_ok Try.func39 (fun vs w=>by kernel_rfl) (by rfl) ?_))))
          exact ⟨rfl,rfl⟩
        by_cases d1:r.y=q.y∧r.x0≤q.x1
        · obtain ⟨d1,d2⟩:=d1
          rw [if_pos (by omega)] at first
          rw [first (by omega)]
          (repeat ((try (conv=>whnf));(first |(refine ca _ ?_) |(refine q0d _ q0 ?_) |(refine q0d _ q2 ?_) |(refine stQ ?_) |(with_reducible first |refine q0c tab_ok Try.func38 (fun vs w=>by kernel_rfl) (by rfl) ?_ |refine q0c tab_ok Try.func39 (fun vs w=>by kernel_rfl) (by rfl) ?_))))
          exact ⟨rfl,rfl⟩
        rw [if_neg (by omega)] at next
        by_cases d2:r.y=q.y
        · (repeat ((try (conv=>whnf));(first |(refine ca _ ?_) |(refine q0d _ q0 ?_) |(refine q0d _ q2 ?_) |(refine stQ ?_) |(with_reducible first |refine q0c tab_ok Try.func38 (fun vs w=>by kernel_rfl) (by rfl) ?_ |refine q0c tab_ok Try.func39 (fun vs w=>by kernel_rfl) (by rfl) ?_))))
          refine ⟨m+1+1,⟨by omega,next rfl⟩,by omega,?_⟩
          ((refine q0h ?_);(conv=>whnf);(refine q0k (by rfl) (by rfl) flQ ?_))
          exact q0g
        · (repeat ((try (conv=>whnf));(first |(refine ca _ ?_) |(refine q0d _ q0 ?_) |(refine q0d _ q2 ?_) |(refine stQ ?_) |(with_reducible first |refine q0c tab_ok Try.func38 (fun vs w=>by kernel_rfl) (by rfl) ?_ |refine q0c tab_ok Try.func39 (fun vs w=>by kernel_rfl) (by rfl) ?_))))
          refine ⟨m+1+1,⟨by omega,next rfl⟩,by omega,?_⟩
          ((refine q0h ?_);(conv=>whnf);(refine q0k (by rfl) (by rfl) flQ ?_))
          exact q0g
    · obtain rfl:i=L.length:=by omega
      (repeat ((try (conv=>whnf));(refine stQ ?_)))
      exact ⟨by rw [show errL L=0 from h0],rfl⟩
set_option maxHeartbeats 2000000 in
theorem q4j {A:Option Addr} {L:List Run} {c:Nat} {G:Mem} (hR:RunsM G A L) (hc:L.length≤c) (hm:c≤maxLen):Gives Try.prog 18 [.val (.slice A L.length c)] G (.val (.int .i64 (errL L))):=by
  unfold maxLen at hm
  refine q1n tab_ok Try.func18 ?_
  (repeat ((try (conv=>whnf));(refine stQ ?_)))
  conv=>whnf
  refine q05 tab_ok (fun i=>i≤L.length∧regV (nthR L) i=0) (fun (i:Nat)=>[(7,.val (.int .i64 i))]) (fun i=>[]) (fun i=>L.length-i) 0 ⟨Nat.zero_le _,rfl⟩ ?_ ?_
  · ((refine q0h ?_);(conv=>whnf);(refine q0k (by rfl) (by rfl) flQ ?_))
    exact q0g
  · rintro i ⟨hi,h0⟩
    rcases Nat.lt_or_ge i L.length with h1 |h1
    · obtain ⟨r,hr⟩:∃ r,L[i]? = some r:=⟨L[i],List.getElem?_eq_getElem h1⟩
      obtain ⟨p,rfl,ca⟩:=hR.cells hr
      have hn:=q39 hr
      have first:=fun h=>z3z h0 h1 h
      have next:=fun h=>z5m (rs:=nthR L) (k:=i) h0 h
      have herr:q3t (nthR L) i=if r.y < -8192∨8191<r.y∨r.x0 < -8192∨8192<r.x0∨r.x1 < -8192∨8192<r.x1 then 3 else if r.x1≤r.x0 then 4 else if 0<i∧r.y≤(nthR L (i-1)).y∧(r.y<(nthR L (i-1)).y∨r.x0≤(nthR L (i-1)).x1) then 18 else 0:=by unfold q3t;rw [hn]
      rw [herr] at first next
      clear herr
      by_cases c0:r.y < -8192
      · rw [if_pos (by omega)] at first
        rw [first (by omega)]
        (repeat ((try (conv=>whnf));(first |(refine ca _ ?_) |(refine stQ ?_) |(with_reducible refine q0c tab_ok Try.func9 (fun vs w=>by kernel_rfl) (by rfl) ?_))))
        exact ⟨rfl,rfl⟩
      by_cases c1:8191<r.y
      · rw [if_pos (by omega)] at first
        rw [first (by omega)]
        (repeat ((try (conv=>whnf));(first |(refine ca _ ?_) |(refine stQ ?_) |(with_reducible refine q0c tab_ok Try.func9 (fun vs w=>by kernel_rfl) (by rfl) ?_))))
        exact ⟨rfl,rfl⟩
      by_cases c2:r.x0 < -8192
      · rw [if_pos (by omega)] at first
        rw [first (by omega)]
        (repeat ((try (conv=>whnf));(first |(refine ca _ ?_) |(refine stQ ?_) |(with_reducible refine q0c tab_ok Try.func9 (fun vs w=>by kernel_rfl) (by rfl) ?_))))
        exact ⟨rfl,rfl⟩
      by_cases c3:8192<r.x0
      · rw [if_pos (by omega)] at first
        rw [first (by omega)]
        (repeat ((try (conv=>whnf));(first |(refine ca _ ?_) |(refine stQ ?_) |(with_reducible refine q0c tab_ok Try.func9 (fun vs w=>by kernel_rfl) (by rfl) ?_))))
        exact ⟨rfl,rfl⟩
      by_cases c4:r.x1 < -8192
      · rw [if_pos (by omega)] at first
        rw [first (by omega)]
        (repeat ((try (conv=>whnf));(first |(refine ca _ ?_) |(refine stQ ?_) |(with_reducible refine q0c tab_ok Try.func9 (fun vs w=>by kernel_rfl) (by rfl) ?_))))
        exact ⟨rfl,rfl⟩
      by_cases c5:8192<r.x1
      · rw [if_pos (by omega)] at first
        rw [first (by omega)]
        (repeat ((try (conv=>whnf));(first |(refine ca _ ?_) |(refine stQ ?_) |(with_reducible refine q0c tab_ok Try.func9 (fun vs w=>by kernel_rfl) (by rfl) ?_))))
        exact ⟨rfl,rfl⟩
      rw [if_neg (by omega)] at first next
      by_cases c6:r.x1≤r.x0
      · rw [if_pos c6] at first
        rw [first (by omega)]
        (repeat ((try (conv=>whnf));(first |(refine ca _ ?_) |(refine stQ ?_) |(with_reducible refine q0c tab_ok Try.func9 (fun vs w=>by kernel_rfl) (by rfl) ?_))))
        exact ⟨rfl,rfl⟩
      rw [if_neg c6] at first next
      rcases i with _ |m
      · rw [if_neg (by omega)] at next
        (repeat ((try (conv=>whnf));(first |(refine ca _ ?_) |(refine stQ ?_) |(with_reducible refine q0c tab_ok Try.func9 (fun vs w=>by kernel_rfl) (by rfl) ?_))))
        refine ⟨1,⟨by omega,next rfl⟩,by omega,?_⟩
        ((refine q0h ?_);(conv=>whnf);(refine q0k (by rfl) (by rfl) flQ ?_))
        exact q0g
      · obtain ⟨q,hq⟩:∃ q,L[m]? = some q:=⟨L[m],List.getElem?_eq_getElem (by omega)⟩
        obtain ⟨p',he,q0,q1,q2⟩:=hR.at_ hq
        cases he
        have hix:(((m+1:Nat):Int)-1).toNat=m:=by omega
        rw [← hix] at q0 q1 q2
        rw [Nat.add_sub_cancel,q39 hq] at first next
        by_cases d0:r.y<q.y
        · rw [if_pos (by omega)] at first
          rw [first (by omega)]
          (repeat ((try (conv=>whnf));(first |(refine ca _ ?_) |(refine q0d _ q0 ?_) |(refine q0d _ q2 ?_) |(refine stQ ?_) |(with_reducible refine q0c tab_ok Try.func9 (fun vs w=>by kernel_rfl) (by rfl) ?_))))
          exact ⟨rfl,rfl⟩
        by_cases d1:r.y=q.y∧r.x0≤q.x1
        · obtain ⟨d1,d2⟩:=d1
          rw [if_pos (by omega)] at first
          rw [first (by omega)]
          (repeat ((try (conv=>whnf));(first |(refine ca _ ?_) |(refine q0d _ q0 ?_) |(refine q0d _ q2 ?_) |(refine stQ ?_) |(with_reducible refine q0c tab_ok Try.func9 (fun vs w=>by kernel_rfl) (by rfl) ?_))))
          exact ⟨rfl,rfl⟩
        rw [if_neg (by omega)] at next
        by_cases d2:r.y=q.y
        · (repeat ((try (conv=>whnf));(first |(refine ca _ ?_) |(refine q0d _ q0 ?_) |(refine q0d _ q2 ?_) |(refine stQ ?_) |(with_reducible refine q0c tab_ok Try.func9 (fun vs w=>by kernel_rfl) (by rfl) ?_))))
          refine ⟨m+1+1,⟨by omega,next rfl⟩,by omega,?_⟩
          ((refine q0h ?_);(conv=>whnf);(refine q0k (by rfl) (by rfl) flQ ?_))
          exact q0g
        · (repeat ((try (conv=>whnf));(first |(refine ca _ ?_) |(refine q0d _ q0 ?_) |(refine q0d _ q2 ?_) |(refine stQ ?_) |(with_reducible refine q0c tab_ok Try.func9 (fun vs w=>by kernel_rfl) (by rfl) ?_))))
          refine ⟨m+1+1,⟨by omega,next rfl⟩,by omega,?_⟩
          ((refine q0h ?_);(conv=>whnf);(refine q0k (by rfl) (by rfl) flQ ?_))
          exact q0g
    · obtain rfl:i=L.length:=by omega
      (repeat ((try (conv=>whnf));(refine stQ ?_)))
      exact ⟨by rw [show errL L=0 from h0],rfl⟩
end Go.Proofs.Ytbkhpddodmbdoaa
