/-
  Merged: XGather, XRegM, XRegChk.
-/
import Derived.Test.YtegpkpilfgohhaaGreatMrg14
import Derived.Test.YtegpkpilfgohhaaGreatMrg5
import Derived.Test.YtegpkpilfgohhaaGreatMrg7
import Derived.Test.YtegpkpilfgohhaaGreatEng2
set_option linter.unusedVariables false
set_option linter.unusedSimpArgs false
set_option linter.unnecessarySimpa false
namespace Go.Proofs.YtegpkpilfgohhaaGreat
abbrev Pc:=List Int × List Run
def z3p:List Int:=[0,0,0,0,0,0,0,0]
structure GOk (gs:List Pc) (n:Nat) (y x:Int):Prop where
  few:gs.length≤n
  runs:∀ p∈gs,p.2.length≤n∧upTo p.2 y x∧okR p.2
  apart:∀ (i j:Nat) (p q:Pc),i<j→gs[i]? = some p→gs[j]? = some q→p.1≠q.1
  keys:∀ p∈gs,p.1≠z3p∧p.2≠[]
theorem GOk.nil (n:Nat) (y x:Int):GOk [] n y x:=⟨Nat.zero_le _,fun p h=>(by cases h),fun i j p q _ h=>(by simp at h),fun p h=>(by cases h)⟩
theorem GOk.mono {gs:List Pc} {n n':Nat} {y x y' x':Int} (h:GOk gs n y x) (hn:n≤n') (k:y<y'∨(y=y'∧x≤x')):GOk gs n' y' x' :=
  ⟨Nat.le_trans h.few hn,fun p hp=>⟨Nat.le_trans (h.runs p hp).1 hn,q5i (h.runs p hp).2.1 k,(h.runs p hp).2.2⟩,h.apart,h.keys⟩
end Go.Proofs.YtegpkpilfgohhaaGreat
namespace Go.Proofs.YtegpkpilfgohhaaGreat
open Go.RowKit
set_option maxRecDepth 20000
def RunsM (G:Mem) (A:Option Addr) (L:List Run):Prop:=∀ (i:Nat) r,L[i]? = some r→∃ b off,A=some ⟨b,off,none⟩∧G.cell? ⟨b,off+i*3,none⟩=some (.int .i64 r.y)∧G.cell? ⟨b,off+i*3+1,none⟩=some (.int .i64 r.x0)∧G.cell? ⟨b,off+i*3+2,none⟩=some (.int .i64 r.x1)
theorem RunsM.mono {G G':Mem} {A:Option Addr} {L:List Run} (h:RunsM G A L) (hle:G.le G'):RunsM G' A L:=fun i r hr=>by
  obtain ⟨b,off,h1,h2,h3,h4⟩:=h i r hr
  exact ⟨b,off,h1,hle.cell h2,hle.cell h3,hle.cell h4⟩
theorem RunsM.nil (G:Mem) (A:Option Addr):RunsM G A []:=fun i r hr=>by simp at hr
theorem RunsM.at_ {G:Mem} {A:Option Addr} {L:List Run} (h:RunsM G A L) {i:Nat} {r:Run} (hi:L[i]? = some r):∃ p:Addr,A=some p∧G.cell? (Addr.add (p.add (i*3)) 0)=some (.int .i64 r.y)∧G.cell? (Addr.add (p.add (i*3)) 1)=some (.int .i64 r.x0)∧G.cell? (Addr.add (p.add (i*3)) 2)=some (.int .i64 r.x1):=by
  obtain ⟨b,off,rfl,h1,h2,h3⟩:=h i r hi
  exact ⟨_,rfl,by rw [q02,q02];exact h1,by rw [q02,q02];exact h2,by rw [q02,q02];exact h3⟩
theorem RunsM.cells {G:Mem} {A:Option Addr} {L:List Run} (h:RunsM G A L) {i:Nat} {r:Run} (hi:L[i]? = some r):∃ p:Addr,A=some p∧∀ K:List Value→Prop,K [.int .i64 r.y,.int .i64 r.x0,.int .i64 r.x1]→OldCells G (p.add (i*3)) 3 K:=by
  obtain ⟨p,rfl,c0,c1,c2⟩:=h.at_ hi
  refine ⟨p,rfl,fun K k=>q58 _ rfl (fun j u hj=>?_) k⟩
  match j,hj with
  | 0,hj=>simp at hj;subst hj;exact c0
  | 1,hj=>simp at hj;subst hj;exact c1
  | 2,hj=>simp at hj;subst hj;exact c2
def nthR (L:List Run) (i:Nat):Run:=(L[i]?).getD ⟨0,0,0⟩
theorem q7k {L:List Run} {i:Nat} {r:Run} (h:L[i]? = some r):nthR L i=r:=by simp [nthR,h]
theorem RunsAt.m {w:World} {A:Option Addr} {n:Nat} {rs:Nat→Run} (h:RunsAt w A n rs):RunsM (q8e w) A (q36 rs n):=by
  intro i r hr
  have hi:i<n:=by have:=(List.getElem?_eq_some_iff.1 hr).1;simpa [q36] using this
  have e:rs i=r:=by simpa [q36,List.getElem?_range hi] using hr
  subst e
  obtain ⟨b,off,hA,_,hc⟩:=h (by omega)
  obtain ⟨c0,c1,c2⟩:=hc i hi
  exact ⟨b,off,hA,c0,c1,c2⟩
def errL (L:List Run):Int:=regV (nthR L) L.length
theorem x31 {L:List Run} {i:Nat} (h0:regV (nthR L) i=0) (hi:i<L.length) (h:q52 (nthR L) i≠0):errL L=q52 (nthR L) i:=x3v h0 h hi
end Go.Proofs.YtegpkpilfgohhaaGreat
namespace Go.Proofs.YtegpkpilfgohhaaGreat
open Go.RowKit
set_option maxRecDepth 20000
set_option maxHeartbeats 2000000 in
theorem x0t {A:Option Addr} {L:List Run} {c:Nat} {G:Mem} (hR:RunsM G A L) (hc:L.length≤c) (hm:c≤maxLen):Gives Tryz.prog 11 [.val (.slice A L.length c)] G (.val (.int .i64 (errL L))):=by
  unfold maxLen at hm
  refine q06 tab_ok Tryz.func11 ?_
  (repeat ((try (conv=>whnf));(refine stQ ?_)))
  conv=>whnf
  refine q07 tab_ok (fun i=>i≤L.length∧regV (nthR L) i=0) (fun (i:Nat)=>[(7,.val (.int .i64 i))]) (fun i=>[]) (fun i=>L.length-i) 0 ⟨Nat.zero_le _,rfl⟩ ?_ ?_
  · ((refine q0g ?_);(conv=>whnf);(refine q0h (by rfl) (by rfl) flQ ?_))
    exact q0e
  · rintro i ⟨hi,h0⟩
    rcases Nat.lt_or_ge i L.length with h1 |h1
    · obtain ⟨r,hr⟩:∃ r,L[i]? = some r:=⟨L[i],List.getElem?_eq_getElem h1⟩
      obtain ⟨p,rfl,ca⟩:=hR.cells hr
      have hn:=q7k hr
      have first:=fun h=>x31 h0 h1 h
      have next:=fun h=>x49 (rs:=nthR L) (k:=i) h0 h
      have herr:q52 (nthR L) i=if r.y < -8192∨8191<r.y∨r.x0 < -8192∨8192<r.x0∨r.x1 < -8192∨8192<r.x1 then 3 else if r.x1≤r.x0 then 4 else if 0<i∧r.y≤(nthR L (i-1)).y∧(r.y<(nthR L (i-1)).y∨r.x0≤(nthR L (i-1)).x1) then 18 else 0:=by unfold q52;rw [hn]
      rw [herr] at first next
      clear herr
      by_cases c0:r.y < -8192
      · rw [if_pos (by omega)] at first
        rw [first (by omega)]
        (repeat ((try (conv=>whnf));(first |(refine ca _ ?_) |(refine stQ ?_) |(with_reducible refine q0f tab_ok Tryz.func24 (fun vs w=>by kernel_rfl) (by rfl) ?_))))
        exact ⟨rfl,rfl⟩
      by_cases c1:8191<r.y
      · rw [if_pos (by omega)] at first
        rw [first (by omega)]
        (repeat ((try (conv=>whnf));(first |(refine ca _ ?_) |(refine stQ ?_) |(with_reducible refine q0f tab_ok Tryz.func24 (fun vs w=>by kernel_rfl) (by rfl) ?_))))
        exact ⟨rfl,rfl⟩
      by_cases c2:r.x0 < -8192
      · rw [if_pos (by omega)] at first
        rw [first (by omega)]
        (repeat ((try (conv=>whnf));(first |(refine ca _ ?_) |(refine stQ ?_) |(with_reducible refine q0f tab_ok Tryz.func24 (fun vs w=>by kernel_rfl) (by rfl) ?_))))
        exact ⟨rfl,rfl⟩
      by_cases c3:8192<r.x0
      · rw [if_pos (by omega)] at first
        rw [first (by omega)]
        (repeat ((try (conv=>whnf));(first |(refine ca _ ?_) |(refine stQ ?_) |(with_reducible refine q0f tab_ok Tryz.func24 (fun vs w=>by kernel_rfl) (by rfl) ?_))))
        exact ⟨rfl,rfl⟩
      by_cases c4:r.x1 < -8192
      · rw [if_pos (by omega)] at first
        rw [first (by omega)]
        (repeat ((try (conv=>whnf));(first |(refine ca _ ?_) |(refine stQ ?_) |(with_reducible refine q0f tab_ok Tryz.func24 (fun vs w=>by kernel_rfl) (by rfl) ?_))))
        exact ⟨rfl,rfl⟩
      by_cases c5:8192<r.x1
      · rw [if_pos (by omega)] at first
        rw [first (by omega)]
        (repeat ((try (conv=>whnf));(first |(refine ca _ ?_) |(refine stQ ?_) |(with_reducible refine q0f tab_ok Tryz.func24 (fun vs w=>by kernel_rfl) (by rfl) ?_))))
        exact ⟨rfl,rfl⟩
      rw [if_neg (by omega)] at first next
      by_cases c6:r.x1≤r.x0
      · rw [if_pos c6] at first
        rw [first (by omega)]
        (repeat ((try (conv=>whnf));(first |(refine ca _ ?_) |(refine stQ ?_) |(with_reducible refine q0f tab_ok Tryz.func24 (fun vs w=>by kernel_rfl) (by rfl) ?_))))
        exact ⟨rfl,rfl⟩
      rw [if_neg c6] at first next
      rcases i with _ |m
      · rw [if_neg (by omega)] at next
        (repeat ((try (conv=>whnf));(first |(refine ca _ ?_) |(refine stQ ?_) |(with_reducible refine q0f tab_ok Tryz.func24 (fun vs w=>by kernel_rfl) (by rfl) ?_))))
        refine ⟨1,⟨by omega,next rfl⟩,by omega,?_⟩
        ((refine q0g ?_);(conv=>whnf);(refine q0h (by rfl) (by rfl) flQ ?_))
        exact q0e
      · obtain ⟨q,hq⟩:∃ q,L[m]? = some q:=⟨L[m],List.getElem?_eq_getElem (by omega)⟩
        obtain ⟨p',he,q0,q1,q2⟩:=hR.at_ hq
        cases he
        have hix:(((m+1:Nat):Int)-1).toNat=m:=by omega
        rw [← hix] at q0 q1 q2
        rw [Nat.add_sub_cancel,q7k hq] at first next
        by_cases d0:r.y<q.y
        · rw [if_pos (by omega)] at first
          rw [first (by omega)]
          (repeat ((try (conv=>whnf));(first |(refine ca _ ?_) |(refine q0q _ q0 ?_) |(refine q0q _ q2 ?_) |(refine stQ ?_) |(with_reducible refine q0f tab_ok Tryz.func24 (fun vs w=>by kernel_rfl) (by rfl) ?_))))
          exact ⟨rfl,rfl⟩
        by_cases d1:r.y=q.y∧r.x0≤q.x1
        · obtain ⟨d1,d2⟩:=d1
          rw [if_pos (by omega)] at first
          rw [first (by omega)]
          (repeat ((try (conv=>whnf));(first |(refine ca _ ?_) |(refine q0q _ q0 ?_) |(refine q0q _ q2 ?_) |(refine stQ ?_) |(with_reducible refine q0f tab_ok Tryz.func24 (fun vs w=>by kernel_rfl) (by rfl) ?_))))
          exact ⟨rfl,rfl⟩
        rw [if_neg (by omega)] at next
        by_cases d2:r.y=q.y
        · (repeat ((try (conv=>whnf));(first |(refine ca _ ?_) |(refine q0q _ q0 ?_) |(refine q0q _ q2 ?_) |(refine stQ ?_) |(with_reducible refine q0f tab_ok Tryz.func24 (fun vs w=>by kernel_rfl) (by rfl) ?_))))
          refine ⟨m+1+1,⟨by omega,next rfl⟩,by omega,?_⟩
          ((refine q0g ?_);(conv=>whnf);(refine q0h (by rfl) (by rfl) flQ ?_))
          exact q0e
        · (repeat ((try (conv=>whnf));(first |(refine ca _ ?_) |(refine q0q _ q0 ?_) |(refine q0q _ q2 ?_) |(refine stQ ?_) |(with_reducible refine q0f tab_ok Tryz.func24 (fun vs w=>by kernel_rfl) (by rfl) ?_))))
          refine ⟨m+1+1,⟨by omega,next rfl⟩,by omega,?_⟩
          ((refine q0g ?_);(conv=>whnf);(refine q0h (by rfl) (by rfl) flQ ?_))
          exact q0e
    · obtain rfl:i=L.length:=by omega
      (repeat ((try (conv=>whnf));(refine stQ ?_)))
      exact ⟨by rw [show errL L=0 from h0],rfl⟩
end Go.Proofs.YtegpkpilfgohhaaGreat
