/-
  Merged: XRegM, XRegRef.
-/
import Derived.Test.YtegpkpilfgohhaaMrg7
import Derived.Test.YtegpkpilfgohhaaRegLaw
import Derived.Test.YtegpkpilfgohhaaJoined
set_option linter.unusedVariables false
set_option linter.unusedSimpArgs false
set_option linter.unnecessarySimpa false
namespace Go.Proofs.Ytegpkpilfgohhaa
open Go.RowKit
set_option maxRecDepth 20000
def RunsM (G:Mem) (A:Option Addr) (L:List Run):Prop:=∀ (i:Nat) r,L[i]? = some r→∃ b off,A=some ⟨b,off,none⟩∧G.cell? ⟨b,off+i*3,none⟩=some (.int .i64 r.y)∧G.cell? ⟨b,off+i*3+1,none⟩=some (.int .i64 r.x0)∧G.cell? ⟨b,off+i*3+2,none⟩=some (.int .i64 r.x1)
theorem RunsM.mono {G G':Mem} {A:Option Addr} {L:List Run} (h:RunsM G A L) (hle:G.le G'):RunsM G' A L:=fun i r hr=>by
  obtain ⟨b,off,h1,h2,h3,h4⟩:=h i r hr
  exact ⟨b,off,h1,hle.cell h2,hle.cell h3,hle.cell h4⟩
theorem RunsM.nil (G:Mem) (A:Option Addr):RunsM G A []:=fun i r hr=>by simp at hr
theorem RunsM.at_ {G:Mem} {A:Option Addr} {L:List Run} (h:RunsM G A L) {i:Nat} {r:Run} (hi:L[i]? = some r):∃ p:Addr,A=some p∧G.cell? (Addr.add (p.add (i*3)) 0)=some (.int .i64 r.y)∧G.cell? (Addr.add (p.add (i*3)) 1)=some (.int .i64 r.x0)∧G.cell? (Addr.add (p.add (i*3)) 2)=some (.int .i64 r.x1):=by
  obtain ⟨b,off,rfl,h1,h2,h3⟩:=h i r hi
  exact ⟨_,rfl,by rw [q0r,q0r];exact h1,by rw [q0r,q0r];exact h2,by rw [q0r,q0r];exact h3⟩
theorem RunsM.cells {G:Mem} {A:Option Addr} {L:List Run} (h:RunsM G A L) {i:Nat} {r:Run} (hi:L[i]? = some r):∃ p:Addr,A=some p∧∀ K:List Value→Prop,K [.int .i64 r.y,.int .i64 r.x0,.int .i64 r.x1]→OldCells G (p.add (i*3)) 3 K:=by
  obtain ⟨p,rfl,c0,c1,c2⟩:=h.at_ hi
  refine ⟨p,rfl,fun K k=>q3w _ rfl (fun j u hj=>?_) k⟩
  match j,hj with
  | 0,hj=>simp at hj;subst hj;exact c0
  | 1,hj=>simp at hj;subst hj;exact c1
  | 2,hj=>simp at hj;subst hj;exact c2
theorem RunsAt.m {w:World} {A:Option Addr} {n:Nat} {rs:Nat→Run} (h:RunsAt w A n rs):RunsM (q5m w) A (q26 rs n):=by
  intro i r hr
  have hi:i<n:=by have:=(List.getElem?_eq_some_iff.1 hr).1;simpa [q26] using this
  have e:rs i=r:=by simpa [q26,List.getElem?_range hi] using hr
  subst e
  obtain ⟨b,off,hA,_,hc⟩:=h (by omega)
  obtain ⟨c0,c1,c2⟩:=hc i hi
  exact ⟨b,off,hA,c0,c1,c2⟩
end Go.Proofs.Ytegpkpilfgohhaa
namespace Go.Proofs.Ytegpkpilfgohhaa
open Go.RowKit
set_option maxRecDepth 20000
theorem RunsM.frozen {G:Mem} {A:Option Addr} {L:List Run} (h:q0x L=[]∨∃ b,A=some ⟨b,0,none⟩∧∀ (j:Nat) u,(q0x L)[j]? = some u→G.cell? ⟨b,j,none⟩=some u):RunsM G A L:=fun i r hr=>by
  obtain ⟨h1,h2,h3⟩:=q82 hr
  rcases h with h |⟨b,rfl,h⟩
  · rw [h] at h1;simp at h1
  · exact ⟨b,0,rfl,by rw [Nat.zero_add];exact h _ _ h1,by rw [Nat.zero_add];exact h _ _ h2,by rw [Nat.zero_add];exact h _ _ h3⟩
set_option maxHeartbeats 1000000 in
theorem q7i (A B:Option Addr) (L:List Run) (c d:Nat) (G:Mem) (hA:RunsM G A L) (hB:RunsM G B L) (hl:L.length≤1000000000000):Gives Try.prog 9 [.val (.slice A L.length c),.val (.slice B L.length d)] G (.val (.bool true)):=by
  refine q1n tab_ok Try.func9 ?_
  (repeat ((try (conv=>whnf));(refine stQ ?_)))
  conv=>whnf
  refine q00 tab_ok (fun i=>i≤L.length) (fun (i:Nat)=>[(13,.val (.int .i64 i))]) (fun i=>[]) (fun i=>L.length-i) 0 (Nat.zero_le _) ?_ ?_
  · ((refine q0d ?_);(conv=>whnf);(refine q0e (by rfl) (by rfl) flQ ?_))
    exact q0b
  · rintro i hi
    rcases Nat.lt_or_ge i L.length with h1 |h1
    · obtain ⟨r,hr⟩:∃ r,L[i]? = some r:=⟨L[i],List.getElem?_eq_getElem h1⟩
      obtain ⟨p,rfl,ca⟩:=hA.cells hr
      obtain ⟨q,rfl,cb⟩:=hB.cells hr
      (repeat ((try (conv=>whnf));(refine stQ ?_)))
      conv=>whnf
      refine ca _ ?_
      (repeat ((try (conv=>whnf));(refine stQ ?_)))
      conv=>whnf
      refine cb _ ?_
      (repeat ((try (conv=>whnf));(refine stQ ?_)))
      refine ⟨i+1,by omega,by omega,?_⟩
      ((refine q0d ?_);(conv=>whnf);(refine q0e (by rfl) (by rfl) flQ ?_))
      exact q0b
    · (repeat ((try (conv=>whnf));(refine stQ ?_)))
      exact ⟨rfl,rfl⟩
end Go.Proofs.Ytegpkpilfgohhaa
