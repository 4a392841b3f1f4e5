/-
  Merged: XRegM, XRegChk, XRunsSl, XListM, XTreeM.
-/
import Derived.Test.YticolnghiibgfaaGreatMrg14
import Derived.Test.YticolnghiibgfaaGreatMrg13
import Derived.Test.YticolnghiibgfaaGreatEng2
import Derived.Test.YticolnghiibgfaaGreatMrg9
import Derived.Test.YticolnghiibgfaaGreatMrg21
import Derived.Test.YticolnghiibgfaaGreatMrg17
import Derived.Test.YticolnghiibgfaaGreatMrg20
set_option linter.unusedVariables false
set_option linter.unusedSimpArgs false
set_option linter.unnecessarySimpa false
namespace Go.Proofs.YticolnghiibgfaaGreat
open Go.RowKit
set_option maxRecDepth 20000
def RunsM (G:Mem) (A:Option Addr) (L:List Run):Prop:=∀ (i:Nat) r,L[i]? = some r→∃ b off,A=some ⟨b,off,none⟩∧G.cell? ⟨b,off+i*3,none⟩=some (.int .i64 r.y)∧G.cell? ⟨b,off+i*3+1,none⟩=some (.int .i64 r.x0)∧G.cell? ⟨b,off+i*3+2,none⟩=some (.int .i64 r.x1)
theorem RunsM.mono {G G':Mem} {A:Option Addr} {L:List Run} (h:RunsM G A L) (hle:G.le G'):RunsM G' A L:=fun i r hr=>by
  obtain ⟨b,off,h1,h2,h3,h4⟩:=h i r hr
  exact ⟨b,off,h1,hle.cell h2,hle.cell h3,hle.cell h4⟩
theorem RunsM.nil (G:Mem) (A:Option Addr):RunsM G A []:=fun i r hr=>by simp at hr
theorem RunsM.at_ {G:Mem} {A:Option Addr} {L:List Run} (h:RunsM G A L) {i:Nat} {r:Run} (hi:L[i]? = some r):∃ p:Addr,A=some p∧G.cell? (Addr.add (p.add (i*3)) 0)=some (.int .i64 r.y)∧G.cell? (Addr.add (p.add (i*3)) 1)=some (.int .i64 r.x0)∧G.cell? (Addr.add (p.add (i*3)) 2)=some (.int .i64 r.x1):=by
  obtain ⟨b,off,rfl,h1,h2,h3⟩:=h i r hi
  exact ⟨_,rfl,by rw [q0k,q0k];exact h1,by rw [q0k,q0k];exact h2,by rw [q0k,q0k];exact h3⟩
theorem RunsM.cells {G:Mem} {A:Option Addr} {L:List Run} (h:RunsM G A L) {i:Nat} {r:Run} (hi:L[i]? = some r):∃ p:Addr,A=some p∧∀ K:List Value→Prop,K [.int .i64 r.y,.int .i64 r.x0,.int .i64 r.x1]→OldCells G (p.add (i*3)) 3 K:=by
  obtain ⟨p,rfl,c0,c1,c2⟩:=h.at_ hi
  refine ⟨p,rfl,fun K k=>q1e _ rfl (fun j u hj=>?_) k⟩
  match j,hj with
  | 0,hj=>simp at hj;subst hj;exact c0
  | 1,hj=>simp at hj;subst hj;exact c1
  | 2,hj=>simp at hj;subst hj;exact c2
def nthR (L:List Run) (i:Nat):Run:=(L[i]?).getD ⟨0,0,0⟩
theorem q4u {L:List Run} {i:Nat} {r:Run} (h:L[i]? = some r):nthR L i=r:=by simp [nthR,h]
theorem RunsAt.m {w:World} {A:Option Addr} {n:Nat} {rs:Nat→Run} (h:RunsAt w A n rs):RunsM (q2k w) A (q2m rs n):=by
  intro i r hr
  have hi:i<n:=by have:=(List.getElem?_eq_some_iff.1 hr).1;simpa [q2m] using this
  have e:rs i=r:=by simpa [q2m,List.getElem?_range hi] using hr
  subst e
  obtain ⟨b,off,hA,_,hc⟩:=h (by omega)
  obtain ⟨c0,c1,c2⟩:=hc i hi
  exact ⟨b,off,hA,c0,c1,c2⟩
theorem q6s (rs:Nat→Run) (n:Nat):(q2m rs n).length=n:=by simp [q2m]
def errL (L:List Run):Int:=regV (nthR L) L.length
theorem z50 {L:List Run} {i:Nat} (h0:regV (nthR L) i=0) (hi:i<L.length) (h:q3r (nthR L) i≠0):errL L=q3r (nthR L) i:=x3y h0 h hi
end Go.Proofs.YticolnghiibgfaaGreat
namespace Go.Proofs.YticolnghiibgfaaGreat
open Go.RowKit
set_option maxRecDepth 20000
set_option maxHeartbeats 2000000 in
theorem Check_gives {A:Option Addr} {L:List Run} {c:Nat} {G:Mem} (hR:RunsM G A L) (hc:L.length≤c) (hm:c≤maxLen):Gives Tryz.prog 45 [.val (.slice A L.length c)] G (.val (.int .i64 (errL L))):=by
  unfold maxLen at hm
  refine q0w tab_ok Tryz.func45 ?_
  (repeat ((try (conv=>whnf));(refine stQ ?_)))
  conv=>whnf
  refine q02 tab_ok (fun i=>i≤L.length∧regV (nthR L) i=0) (fun (i:Nat)=>[(7,.val (.int .i64 i))]) (fun i=>[]) (fun i=>L.length-i) 0 ⟨Nat.zero_le _,rfl⟩ ?_ ?_
  · ((refine q0h ?_);(conv=>whnf);(refine q0j (by rfl) (by rfl) flQ ?_))
    exact q0e
  · rintro i ⟨hi,h0⟩
    rcases Nat.lt_or_ge i L.length with h1 |h1
    · obtain ⟨r,hr⟩:∃ r,L[i]? = some r:=⟨L[i],List.getElem?_eq_getElem h1⟩
      obtain ⟨p,rfl,ca⟩:=hR.cells hr
      have hn:=q4u hr
      have first:=fun h=>z50 h0 h1 h
      have next:=fun h=>z73 (rs:=nthR L) (k:=i) h0 h
      have herr:q3r (nthR L) i=if r.y < -8192∨8191<r.y∨r.x0 < -8192∨8192<r.x0∨r.x1 < -8192∨8192<r.x1 then 3 else if r.x1≤r.x0 then 4 else if 0<i∧r.y≤(nthR L (i-1)).y∧(r.y<(nthR L (i-1)).y∨r.x0≤(nthR L (i-1)).x1) then 18 else 0:=by unfold q3r;rw [hn]
      rw [herr] at first next
      clear herr
      by_cases c0:r.y < -8192
      · rw [if_pos (by omega)] at first
        rw [first (by omega)]
        (repeat ((try (conv=>whnf));(first |(refine ca _ ?_) |(refine stQ ?_) |(with_reducible first |refine q0f tab_ok Tryz.func69 (fun vs w=>by kernel_rfl) (by rfl) ?_ |refine q0f tab_ok Tryz.func71 (fun vs w=>by kernel_rfl) (by rfl) ?_))))
        exact ⟨rfl,rfl⟩
      by_cases c1:8191<r.y
      · rw [if_pos (by omega)] at first
        rw [first (by omega)]
        (repeat ((try (conv=>whnf));(first |(refine ca _ ?_) |(refine stQ ?_) |(with_reducible first |refine q0f tab_ok Tryz.func69 (fun vs w=>by kernel_rfl) (by rfl) ?_ |refine q0f tab_ok Tryz.func71 (fun vs w=>by kernel_rfl) (by rfl) ?_))))
        exact ⟨rfl,rfl⟩
      by_cases c2:r.x0 < -8192
      · rw [if_pos (by omega)] at first
        rw [first (by omega)]
        (repeat ((try (conv=>whnf));(first |(refine ca _ ?_) |(refine stQ ?_) |(with_reducible first |refine q0f tab_ok Tryz.func69 (fun vs w=>by kernel_rfl) (by rfl) ?_ |refine q0f tab_ok Tryz.func71 (fun vs w=>by kernel_rfl) (by rfl) ?_))))
        exact ⟨rfl,rfl⟩
      by_cases c3:8192<r.x0
      · rw [if_pos (by omega)] at first
        rw [first (by omega)]
        (repeat ((try (conv=>whnf));(first |(refine ca _ ?_) |(refine stQ ?_) |(with_reducible first |refine q0f tab_ok Tryz.func69 (fun vs w=>by kernel_rfl) (by rfl) ?_ |refine q0f tab_ok Tryz.func71 (fun vs w=>by kernel_rfl) (by rfl) ?_))))
        exact ⟨rfl,rfl⟩
      by_cases c4:r.x1 < -8192
      · rw [if_pos (by omega)] at first
        rw [first (by omega)]
        (repeat ((try (conv=>whnf));(first |(refine ca _ ?_) |(refine stQ ?_) |(with_reducible first |refine q0f tab_ok Tryz.func69 (fun vs w=>by kernel_rfl) (by rfl) ?_ |refine q0f tab_ok Tryz.func71 (fun vs w=>by kernel_rfl) (by rfl) ?_))))
        exact ⟨rfl,rfl⟩
      by_cases c5:8192<r.x1
      · rw [if_pos (by omega)] at first
        rw [first (by omega)]
        (repeat ((try (conv=>whnf));(first |(refine ca _ ?_) |(refine stQ ?_) |(with_reducible first |refine q0f tab_ok Tryz.func69 (fun vs w=>by kernel_rfl) (by rfl) ?_ |refine q0f tab_ok Tryz.func71 (fun vs w=>by kernel_rfl) (by rfl) ?_))))
        exact ⟨rfl,rfl⟩
      rw [if_neg (by omega)] at first next
      by_cases c6:r.x1≤r.x0
      · rw [if_pos c6] at first
        rw [first (by omega)]
        (repeat ((try (conv=>whnf));(first |(refine ca _ ?_) |(refine stQ ?_) |(with_reducible first |refine q0f tab_ok Tryz.func69 (fun vs w=>by kernel_rfl) (by rfl) ?_ |refine q0f tab_ok Tryz.func71 (fun vs w=>by kernel_rfl) (by rfl) ?_))))
        exact ⟨rfl,rfl⟩
      rw [if_neg c6] at first next
      rcases i with _ |m
      · rw [if_neg (by omega)] at next
        (repeat ((try (conv=>whnf));(first |(refine ca _ ?_) |(refine stQ ?_) |(with_reducible first |refine q0f tab_ok Tryz.func69 (fun vs w=>by kernel_rfl) (by rfl) ?_ |refine q0f tab_ok Tryz.func71 (fun vs w=>by kernel_rfl) (by rfl) ?_))))
        refine ⟨1,⟨by omega,next rfl⟩,by omega,?_⟩
        ((refine q0h ?_);(conv=>whnf);(refine q0j (by rfl) (by rfl) flQ ?_))
        exact q0e
      · obtain ⟨q,hq⟩:∃ q,L[m]? = some q:=⟨L[m],List.getElem?_eq_getElem (by omega)⟩
        obtain ⟨p',he,q0,q1,q2⟩:=hR.at_ hq
        cases he
        have hix:(((m+1:Nat):Int)-1).toNat=m:=by omega
        rw [← hix] at q0 q1 q2
        rw [Nat.add_sub_cancel,q4u hq] at first next
        by_cases d0:r.y<q.y
        · rw [if_pos (by omega)] at first
          rw [first (by omega)]
          (repeat ((try (conv=>whnf));(first |(refine ca _ ?_) |(refine q0d _ q0 ?_) |(refine q0d _ q2 ?_) |(refine stQ ?_) |(with_reducible first |refine q0f tab_ok Tryz.func69 (fun vs w=>by kernel_rfl) (by rfl) ?_ |refine q0f tab_ok Tryz.func71 (fun vs w=>by kernel_rfl) (by rfl) ?_))))
          exact ⟨rfl,rfl⟩
        by_cases d1:r.y=q.y∧r.x0≤q.x1
        · obtain ⟨d1,d2⟩:=d1
          rw [if_pos (by omega)] at first
          rw [first (by omega)]
          (repeat ((try (conv=>whnf));(first |(refine ca _ ?_) |(refine q0d _ q0 ?_) |(refine q0d _ q2 ?_) |(refine stQ ?_) |(with_reducible first |refine q0f tab_ok Tryz.func69 (fun vs w=>by kernel_rfl) (by rfl) ?_ |refine q0f tab_ok Tryz.func71 (fun vs w=>by kernel_rfl) (by rfl) ?_))))
          exact ⟨rfl,rfl⟩
        rw [if_neg (by omega)] at next
        by_cases d2:r.y=q.y
        · (repeat ((try (conv=>whnf));(first |(refine ca _ ?_) |(refine q0d _ q0 ?_) |(refine q0d _ q2 ?_) |(refine stQ ?_) |(with_reducible first |refine q0f tab_ok Tryz.func69 (fun vs w=>by kernel_rfl) (by rfl) ?_ |refine q0f tab_ok Tryz.func71 (fun vs w=>by kernel_rfl) (by rfl) ?_))))
          refine ⟨m+1+1,⟨by omega,next rfl⟩,by omega,?_⟩
          ((refine q0h ?_);(conv=>whnf);(refine q0j (by rfl) (by rfl) flQ ?_))
          exact q0e
        · (repeat ((try (conv=>whnf));(first |(refine ca _ ?_) |(refine q0d _ q0 ?_) |(refine q0d _ q2 ?_) |(refine stQ ?_) |(with_reducible first |refine q0f tab_ok Tryz.func69 (fun vs w=>by kernel_rfl) (by rfl) ?_ |refine q0f tab_ok Tryz.func71 (fun vs w=>by kernel_rfl) (by rfl) ?_))))
          refine ⟨m+1+1,⟨by omega,next rfl⟩,by omega,?_⟩
          ((refine q0h ?_);(conv=>whnf);(refine q0j (by rfl) (by rfl) flQ ?_))
          exact q0e
    · obtain rfl:i=L.length:=by omega
      (repeat ((try (conv=>whnf));(refine stQ ?_)))
      exact ⟨by rw [show errL L=0 from h0],rfl⟩
set_option maxHeartbeats 2000000 in
theorem RCheck_gives {A:Option Addr} {L:List Run} {c:Nat} {G:Mem} (hR:RunsM G A L) (hc:L.length≤c) (hm:c≤maxLen):Gives Tryz.prog 29 [.val (.slice A L.length c)] G (.val (.int .i64 (errL L))):=by
  unfold maxLen at hm
  refine q0w tab_ok Tryz.func29 ?_
  (repeat ((try (conv=>whnf));(refine stQ ?_)))
  conv=>whnf
  refine q02 tab_ok (fun i=>i≤L.length∧regV (nthR L) i=0) (fun (i:Nat)=>[(7,.val (.int .i64 i))]) (fun i=>[]) (fun i=>L.length-i) 0 ⟨Nat.zero_le _,rfl⟩ ?_ ?_
  · ((refine q0h ?_);(conv=>whnf);(refine q0j (by rfl) (by rfl) flQ ?_))
    exact q0e
  · rintro i ⟨hi,h0⟩
    rcases Nat.lt_or_ge i L.length with h1 |h1
    · obtain ⟨r,hr⟩:∃ r,L[i]? = some r:=⟨L[i],List.getElem?_eq_getElem h1⟩
      obtain ⟨p,rfl,ca⟩:=hR.cells hr
      have hn:=q4u hr
      have first:=fun h=>z50 h0 h1 h
      have next:=fun h=>z73 (rs:=nthR L) (k:=i) h0 h
      have herr:q3r (nthR L) i=if r.y < -8192∨8191<r.y∨r.x0 < -8192∨8192<r.x0∨r.x1 < -8192∨8192<r.x1 then 3 else if r.x1≤r.x0 then 4 else if 0<i∧r.y≤(nthR L (i-1)).y∧(r.y<(nthR L (i-1)).y∨r.x0≤(nthR L (i-1)).x1) then 18 else 0:=by unfold q3r;rw [hn]
      rw [herr] at first next
      clear herr
      by_cases c0:r.y < -8192
      · rw [if_pos (by omega)] at first
        rw [first (by omega)]
        (repeat ((try (conv=>whnf));(first |(refine ca _ ?_) |(refine stQ ?_) |(with_reducible refine q0f tab_ok Tryz.func12 (fun vs w=>by kernel_rfl) (by rfl) ?_))))
        exact ⟨rfl,rfl⟩
      by_cases c1:8191<r.y
      · rw [if_pos (by omega)] at first
        rw [first (by omega)]
        (repeat ((try (conv=>whnf));(first |(refine ca _ ?_) |(refine stQ ?_) |(with_reducible refine q0f tab_ok Tryz.func12 (fun vs w=>by kernel_rfl) (by rfl) ?_))))
        exact ⟨rfl,rfl⟩
      by_cases c2:r.x0 < -8192
      · rw [if_pos (by omega)] at first
        rw [first (by omega)]
        (repeat ((try (conv=>whnf));(first |(refine ca _ ?_) |(refine stQ ?_) |(with_reducible refine q0f tab_ok Tryz.func12 (fun vs w=>by kernel_rfl) (by rfl) ?_))))
        exact ⟨rfl,rfl⟩
      by_cases c3:8192<r.x0
      · rw [if_pos (by omega)] at first
        rw [first (by omega)]
        (repeat ((try (conv=>whnf));(first |(refine ca _ ?_) |(refine stQ ?_) |(with_reducible refine q0f tab_ok Tryz.func12 (fun vs w=>by kernel_rfl) (by rfl) ?_))))
        exact ⟨rfl,rfl⟩
      by_cases c4:r.x1 < -8192
      · rw [if_pos (by omega)] at first
        rw [first (by omega)]
        (repeat ((try (conv=>whnf));(first |(refine ca _ ?_) |(refine stQ ?_) |(with_reducible refine q0f tab_ok Tryz.func12 (fun vs w=>by kernel_rfl) (by rfl) ?_))))
        exact ⟨rfl,rfl⟩
      by_cases c5:8192<r.x1
      · rw [if_pos (by omega)] at first
        rw [first (by omega)]
        (repeat ((try (conv=>whnf));(first |(refine ca _ ?_) |(refine stQ ?_) |(with_reducible refine q0f tab_ok Tryz.func12 (fun vs w=>by kernel_rfl) (by rfl) ?_))))
        exact ⟨rfl,rfl⟩
      rw [if_neg (by omega)] at first next
      by_cases c6:r.x1≤r.x0
      · rw [if_pos c6] at first
        rw [first (by omega)]
        (repeat ((try (conv=>whnf));(first |(refine ca _ ?_) |(refine stQ ?_) |(with_reducible refine q0f tab_ok Tryz.func12 (fun vs w=>by kernel_rfl) (by rfl) ?_))))
        exact ⟨rfl,rfl⟩
      rw [if_neg c6] at first next
      rcases i with _ |m
      · rw [if_neg (by omega)] at next
        (repeat ((try (conv=>whnf));(first |(refine ca _ ?_) |(refine stQ ?_) |(with_reducible refine q0f tab_ok Tryz.func12 (fun vs w=>by kernel_rfl) (by rfl) ?_))))
        refine ⟨1,⟨by omega,next rfl⟩,by omega,?_⟩
        ((refine q0h ?_);(conv=>whnf);(refine q0j (by rfl) (by rfl) flQ ?_))
        exact q0e
      · obtain ⟨q,hq⟩:∃ q,L[m]? = some q:=⟨L[m],List.getElem?_eq_getElem (by omega)⟩
        obtain ⟨p',he,q0,q1,q2⟩:=hR.at_ hq
        cases he
        have hix:(((m+1:Nat):Int)-1).toNat=m:=by omega
        rw [← hix] at q0 q1 q2
        rw [Nat.add_sub_cancel,q4u hq] at first next
        by_cases d0:r.y<q.y
        · rw [if_pos (by omega)] at first
          rw [first (by omega)]
          (repeat ((try (conv=>whnf));(first |(refine ca _ ?_) |(refine q0d _ q0 ?_) |(refine q0d _ q2 ?_) |(refine stQ ?_) |(with_reducible refine q0f tab_ok Tryz.func12 (fun vs w=>by kernel_rfl) (by rfl) ?_))))
          exact ⟨rfl,rfl⟩
        by_cases d1:r.y=q.y∧r.x0≤q.x1
        · obtain ⟨d1,d2⟩:=d1
          rw [if_pos (by omega)] at first
          rw [first (by omega)]
          (repeat ((try (conv=>whnf));(first |(refine ca _ ?_) |(refine q0d _ q0 ?_) |(refine q0d _ q2 ?_) |(refine stQ ?_) |(with_reducible refine q0f tab_ok Tryz.func12 (fun vs w=>by kernel_rfl) (by rfl) ?_))))
          exact ⟨rfl,rfl⟩
        rw [if_neg (by omega)] at next
        by_cases d2:r.y=q.y
        · (repeat ((try (conv=>whnf));(first |(refine ca _ ?_) |(refine q0d _ q0 ?_) |(refine q0d _ q2 ?_) |(refine stQ ?_) |(with_reducible refine q0f tab_ok Tryz.func12 (fun vs w=>by kernel_rfl) (by rfl) ?_))))
          refine ⟨m+1+1,⟨by omega,next rfl⟩,by omega,?_⟩
          ((refine q0h ?_);(conv=>whnf);(refine q0j (by rfl) (by rfl) flQ ?_))
          exact q0e
        · (repeat ((try (conv=>whnf));(first |(refine ca _ ?_) |(refine q0d _ q0 ?_) |(refine q0d _ q2 ?_) |(refine stQ ?_) |(with_reducible refine q0f tab_ok Tryz.func12 (fun vs w=>by kernel_rfl) (by rfl) ?_))))
          refine ⟨m+1+1,⟨by omega,next rfl⟩,by omega,?_⟩
          ((refine q0h ?_);(conv=>whnf);(refine q0j (by rfl) (by rfl) flQ ?_))
          exact q0e
    · obtain rfl:i=L.length:=by omega
      (repeat ((try (conv=>whnf));(refine stQ ?_)))
      exact ⟨by rw [show errL L=0 from h0],rfl⟩
end Go.Proofs.YticolnghiibgfaaGreat
namespace Go.Proofs.YticolnghiibgfaaGreat
open Go.RowKit
set_option maxRecDepth 20000
section
variable {w:World} {A:Option Addr} {n:Nat}
end
end Go.Proofs.YticolnghiibgfaaGreat
namespace Go.Proofs.YticolnghiibgfaaGreat
open Go.RowKit Go.Proofs.YticolnghiibgfaaGreat.gradientRamps Go.Proofs.YticolnghiibgfaaGreat.gradientPlaces Go.Proofs.YticolnghiibgfaaGreat.imageCells
set_option maxRecDepth 20000
def valA:Value→Option Addr
  | .slice A _ _=>A
  | _=>none
def valN:Value→Nat
  | .slice _ n _=>n
  | _=>0
def valC:Value→Nat
  | .slice _ _ c=>c
  | _=>0
def valS:Value→ByteArray
  | .string s=>s
  | _=>ByteArray.empty
def q23 (c:Nat→Value):ItemD where
  K:=valI (c 0)
  RA:=valA (c 1)
  rn:=valN (c 1)
  rq:=valC (c 1)
  k:=valI (c 2)
  I:=fun o=>valI (c (o+3))
  fx:=valI (c 11)
  fy:=valI (c 12)
  tx:=valI (c 13)
  ty:=valI (c 14)
  r:=valI (c 15)
  A:=valA (c 16)
  n:=valN (c 16)
  q:=valC (c 16)
  W:=valI (c 17)
  H:=valI (c 18)
  B:=valA (c 19)
  pn:=valN (c 19)
  pq:=valC (c 19)
  C:=valA (c 20)
  sn:=valN (c 20)
  sq:=valC (c 20)
  a:=valI (c 21)
  b:=valI (c 22)
  c:=valI (c 23)
  d:=valI (c 24)
  e:=valI (c 25)
  f:=valI (c 26)
  s:=valB (c 27)
  t:=valB (c 28)
  al:=valI (c 29)
  bl:=valI (c 30)
  ov:=valB (c 31)
  iso:=valB (c 32)
  kn:=valB (c 33)
theorem q0v:flat Tryz.prog 20 56=[.int .i64,.slice 43,.int .i64,.int .u8,.int .u8,.int .u8,.int .u8,.int .u8,.int .u8,.int .u8,.int .u8,.int .i64,.int .i64,.int .i64,.int .i64,.int .i64,.slice 46,.int .i64,.int .i64,.slice 47,.slice 48,.int .i64,.int .i64,.int .i64,.int .i64,.int .i64,.int .i64,.bool,.bool,.int .u8,.int .i64,.bool,.bool,.bool]:=by kernel_rfl
theorem q09 {α:Type} {a b:α} {l m:List α} (h:a=b) (h2:l=m):a::l=b::m:=by rw [h,h2]
section
variable {w:World} {A:Option Addr} {n:Nat} {g:Nat→Nat→Value}
theorem q4o {m:Nat} {t e:TypeId} {c:Value} (ht:Tryz.prog.underlying t=some (.slice e)) (h0:0<Tryz.prog.cellsOf e) (h:Sees Tryz.prog w m t [c]) :
    c=.slice (valA c) (valN c) (valC c)∧valN c≤valC c∧valC c≤maxLen∧∃ g,SliceG Tryz.prog w e (valA c) (valN c) g:=by
  obtain ⟨A,n,cap,g,rfl,h1,h2,h3⟩:=x3z ht h0 h
  exact ⟨rfl,h1,h2,g,h3⟩
theorem uRun:Tryz.prog.underlying 43=some (.slice 87):=Tryz.underlying43
theorem cRun:0<Tryz.prog.cellsOf 87:=of_decide_eq_true (by kernel_rfl)
theorem x9l:Tryz.prog.underlying 46=some (.slice 119):=Tryz.underlying46
theorem x9m:0<Tryz.prog.cellsOf 119:=of_decide_eq_true (by kernel_rfl)
theorem x9n:Tryz.prog.underlying 47=some (.slice 28):=Tryz.underlying47
theorem x9o:0<Tryz.prog.cellsOf 28:=of_decide_eq_true (by kernel_rfl)
theorem x6k:Tryz.prog.underlying 48=some (.slice 5):=Tryz.underlying48
theorem x6l:0<Tryz.prog.cellsOf 5:=of_decide_eq_true (by kernel_rfl)
theorem q05:q3t Tryz.prog 20 56=true:=by kernel_rfl
theorem x1y (h:SliceG Tryz.prog w 56 A n g) {x:Nat} (hx:x<n):(q23 (g x)).cells=(List.range 34).map (g x):=by
  have e0:=(h.int (j:=0) (k:=.i64) q05 hx (by rw [q0v];rfl)).1
  obtain ⟨m1,h1⟩:=h.seen (j:=1) q05 hx (by rw [q0v];rfl)
  have e1:=(q4o uRun cRun h1).1
  have e2:=(h.int (j:=2) (k:=.i64) q05 hx (by rw [q0v];rfl)).1
  have e3:=(h.int (j:=3) (k:=.u8) q05 hx (by rw [q0v];rfl)).1
  have e4:=(h.int (j:=4) (k:=.u8) q05 hx (by rw [q0v];rfl)).1
  have e5:=(h.int (j:=5) (k:=.u8) q05 hx (by rw [q0v];rfl)).1
  have e6:=(h.int (j:=6) (k:=.u8) q05 hx (by rw [q0v];rfl)).1
  have e7:=(h.int (j:=7) (k:=.u8) q05 hx (by rw [q0v];rfl)).1
  have e8:=(h.int (j:=8) (k:=.u8) q05 hx (by rw [q0v];rfl)).1
  have e9:=(h.int (j:=9) (k:=.u8) q05 hx (by rw [q0v];rfl)).1
  have e10:=(h.int (j:=10) (k:=.u8) q05 hx (by rw [q0v];rfl)).1
  have e11:=(h.int (j:=11) (k:=.i64) q05 hx (by rw [q0v];rfl)).1
  have e12:=(h.int (j:=12) (k:=.i64) q05 hx (by rw [q0v];rfl)).1
  have e13:=(h.int (j:=13) (k:=.i64) q05 hx (by rw [q0v];rfl)).1
  have e14:=(h.int (j:=14) (k:=.i64) q05 hx (by rw [q0v];rfl)).1
  have e15:=(h.int (j:=15) (k:=.i64) q05 hx (by rw [q0v];rfl)).1
  obtain ⟨m16,h16⟩:=h.seen (j:=16) q05 hx (by rw [q0v];rfl)
  have e16:=(q4o x9l x9m h16).1
  have e17:=(h.int (j:=17) (k:=.i64) q05 hx (by rw [q0v];rfl)).1
  have e18:=(h.int (j:=18) (k:=.i64) q05 hx (by rw [q0v];rfl)).1
  obtain ⟨m19,h19⟩:=h.seen (j:=19) q05 hx (by rw [q0v];rfl)
  have e19:=(q4o x9n x9o h19).1
  obtain ⟨m20,h20⟩:=h.seen (j:=20) q05 hx (by rw [q0v];rfl)
  have e20:=(q4o x6k x6l h20).1
  have e21:=(h.int (j:=21) (k:=.i64) q05 hx (by rw [q0v];rfl)).1
  have e22:=(h.int (j:=22) (k:=.i64) q05 hx (by rw [q0v];rfl)).1
  have e23:=(h.int (j:=23) (k:=.i64) q05 hx (by rw [q0v];rfl)).1
  have e24:=(h.int (j:=24) (k:=.i64) q05 hx (by rw [q0v];rfl)).1
  have e25:=(h.int (j:=25) (k:=.i64) q05 hx (by rw [q0v];rfl)).1
  have e26:=(h.int (j:=26) (k:=.i64) q05 hx (by rw [q0v];rfl)).1
  have e27:=h.bool (j:=27) q05 hx (by rw [q0v];rfl)
  have e28:=h.bool (j:=28) q05 hx (by rw [q0v];rfl)
  have e29:=(h.int (j:=29) (k:=.u8) q05 hx (by rw [q0v];rfl)).1
  have e30:=(h.int (j:=30) (k:=.i64) q05 hx (by rw [q0v];rfl)).1
  have e31:=h.bool (j:=31) q05 hx (by rw [q0v];rfl)
  have e32:=h.bool (j:=32) q05 hx (by rw [q0v];rfl)
  have e33:=h.bool (j:=33) q05 hx (by rw [q0v];rfl)
  exact q09 e0.symm (q09 e1.symm (q09 e2.symm (q09 e3.symm (q09 e4.symm (q09 e5.symm (q09 e6.symm (q09 e7.symm (q09 e8.symm (q09 e9.symm (q09 e10.symm (q09 e11.symm (q09 e12.symm (q09 e13.symm (q09 e14.symm (q09 e15.symm (q09 e16.symm (q09 e17.symm (q09 e18.symm (q09 e19.symm (q09 e20.symm (q09 e21.symm (q09 e22.symm (q09 e23.symm (q09 e24.symm (q09 e25.symm (q09 e26.symm (q09 e27.symm (q09 e28.symm (q09 e29.symm (q09 e30.symm (q09 e31.symm (q09 e32.symm (q09 e33.symm (rfl))))))))))))))))))))))))))))))))))
theorem v0i (h:SliceG Tryz.prog w 56 A n g):ItemsM (q2k w) A n (fun x=>q23 (g x)):=by
  have e34:Tryz.prog.cellsOf 56=34:=by kernel_rfl
  intro x hx
  have hce:=x1y h hx
  obtain ⟨b,off,rfl,_,hc⟩:=h (by omega)
  rw [e34] at hc
  refine ⟨⟨b,off,none⟩,rfl,fun K k=>?_⟩
  dsimp only at k
  rw [hce] at k
  refine q1e _ (by simp) (fun j u hj=>?_) k
  rw [q0k,q0k]
  rw [List.getElem?_map] at hj
  rcases Nat.lt_or_ge j 34 with h1 |h1
  · rw [List.getElem?_range h1] at hj
    simp at hj;subst hj
    exact (hc x hx).1 j h1
  · rw [List.getElem?_eq_none (by simpa using h1)] at hj
    simp at hj
theorem v1i (h:SliceG Tryz.prog w 9 A n g):StrM (q2k w) A n (fun x=>valS (g x 0)):=by
  have e1:Tryz.prog.cellsOf 9=1:=by kernel_rfl
  have ef:flat Tryz.prog 20 9=[.string]:=by kernel_rfl
  intro x hx
  obtain ⟨s,hs,_⟩:=h.seen (j:=0) (by kernel_rfl) hx (by rw [ef];rfl)
  obtain ⟨b,off,rfl,_,hc⟩:=h (by omega)
  rw [e1] at hc
  refine ⟨⟨b,off,none⟩,rfl,fun K k=>?_⟩
  refine q1e _ rfl (fun j u hj=>?_) k
  rw [q0k,q0k]
  match j,hj with
  | 0,hj =>
    simp at hj;subst hj
    have:=(hc x hx).1 0 (by omega)
    rw [hs] at this ⊢
    exact this
end
end Go.Proofs.YticolnghiibgfaaGreat
namespace Go.Proofs.YticolnghiibgfaaGreat
open Go.RowKit
inductive Tr where
  | fill (i:Nat)
  | group (i:Nat) (ms:List Tr)
  deriving Inhabited
abbrev q9f:TypeId:=141
abbrev q1h:TypeId:=134
abbrev z0u:TypeId:=136
abbrev q1l:TypeId:=76
abbrev q5x:TypeId:=144
abbrev ptrV (b:Nat):Value:=.pointer (some ⟨b,0,none⟩)
section
variable (I:Nat→ItemD) (f:Nat→SrcF)
inductive NodeM (F:Mem):Value→Tr→Prop
  | fill (i b:Nat) (sv mv:Value) (hb:F b=some (.cells ((I i).cells++[.int .i64 i,sv,mv]).toArray q9f (0,0))) (hs:IsSrc F sv (f i)) (hm:IsMix F mv (I i).bl):NodeM F (.iface z0u (ptrV b)) (.fill i)
  | group (i b:Nat) (mv:Value) (A:Option Addr) (n c:Nat) (vs:List Value) (ms:List Tr) (hb:F b=some (.cells ((I i).cells++[.int .i64 i,mv,.slice A n c]).toArray q1h (0,0))) (hm:IsMix F mv (I i).bl) (hn:n=vs.length) (hc:n≤c∧c≤maxLen) (hF:FlatM F A vs)
      (hl:vs.length=ms.length) (h:∀ (j:Nat) v t,vs[j]? = some v→ms[j]? = some t→NodeM F v t):NodeM F (.iface q1l (ptrV b)) (.group i ms)
def NodesM (F:Mem) (vs:List Value) (ms:List Tr):Prop:=vs.length=ms.length∧∀ (j:Nat) v t,vs[j]? = some v→ms[j]? = some t→NodeM I f F v t
variable {I f}
theorem NodeM.mono {F F':Mem} (hF:F.le F') {v:Value} {t:Tr} (h:NodeM I f F v t):NodeM I f F' v t:=by
  induction h with
  | fill i b sv mv hb hs hm=>exact .fill i b sv mv (hF _ _ hb) (hs.mono hF) (hm.mono hF)
  | group i b mv A n c vs ms hb hm hn hc hFl hl h ih=>exact .group i b mv A n c vs ms (hF _ _ hb) (hm.mono hF) hn hc (hFl.mono hF) hl ih
theorem NodesM.mono {F F':Mem} (hF:F.le F') {vs:List Value} {ms:List Tr} (h:NodesM I f F vs ms):NodesM I f F' vs ms:=⟨h.1,fun j v t hv ht=>(h.2 j v t hv ht).mono hF⟩
theorem NodesM.nil {F:Mem}:NodesM I f F [] []:=⟨rfl,fun j v t hv=>by simp at hv⟩
theorem NodesM.snoc {F:Mem} {vs:List Value} {ms:List Tr} {v:Value} {t:Tr} (h:NodesM I f F vs ms) (hv:NodeM I f F v t):NodesM I f F (vs++[v]) (ms++[t]):=by
  refine ⟨by simp [h.1],fun j u s hu hs=>?_⟩
  have h1:=h.1
  rcases Nat.lt_trichotomy j vs.length with hj |hj |hj
  · rw [List.getElem?_append_left hj] at hu
    rw [List.getElem?_append_left (by omega)] at hs
    exact h.2 j u s hu hs
  · subst hj
    rw [List.getElem?_append_right (Nat.le_refl _)] at hu
    rw [List.getElem?_append_right (by omega)] at hs
    simp [h1] at hu hs
    subst hu;subst hs;exact hv
  · rw [List.getElem?_eq_none (by simp;omega)] at hu;cases hu
def x4k (I:Nat→ItemD) (f:Nat→SrcF) (F:Mem) (v:Value) (ms:List Tr):Prop :=
  ∃ b hd A c vs,v=ptrV b∧F b=some (.cells (hd++[.slice A vs.length c]).toArray q1h (0,0))∧hd.length=36∧hd[33]? = some (.bool false)∧vs.length≤c∧c≤maxLen∧FlatM F A vs∧NodesM I f F vs ms
structure Ent where
  b:Nat
  i:Nat
  hd:List Value
  s:Value
  full:List Value
  vs:List Value
  ms:List Tr
  pg:Bool
def linkL:Option Nat→List Ent→Prop
  | _,[]=>True
  | none,e::r=>e.full=e.vs∧linkL (some e.b) r
  | some b,e::r=>e.full=e.vs++[.iface q1l (ptrV b)]∧linkL (some e.b) r
def pgL (I:Nat→ItemD) (F:Mem):List Ent→Prop
  | []=>False
  | [e]=>e.pg=true∧e.hd[33]? = some (.bool false)
  | e::e'::r=>e.pg=false∧(∃ mv,e.hd=(I e.i).cells++[.int .i64 e.i,mv]∧IsMix F mv (I e.i).bl)∧pgL I F (e'::r)
theorem pgL.mono {F F':Mem} (hF:F.le F'):∀ {es:List Ent},pgL I F es→pgL I F' es
  | [],h=>h
  | [e],h=>h
  | e::e'::r,⟨h1,⟨mv,h2,h3⟩,h4⟩=>⟨h1,⟨mv,h2,h3.mono hF⟩,pgL.mono hF h4⟩
structure StackI (I:Nat→ItemD) (f:Nat→SrcF) (S:Nat→Prop) (M F:Mem) (es:List Ent):Prop where
  fm:F.le M
  fs:∀ b,S b→F b=none
  blk:∀ e∈es,S e.b∧M e.b=some (.cells (e.hd++[e.s]).toArray q1h (0,0))∧e.hd.length=36
  row:∀ e∈es,RowS S M q5x 1 e.s e.full.length e.full
  dist:es.Pairwise fun e e'=>e.b≠e'.b∧∀ x,q0g e.s=some x→q0g e'.s≠some x
  nodes:∀ e∈es,NodesM I f F e.vs e.ms
  pgs:pgL I F es
def OpenI (S:Nat→Prop) (M:Mem) (es:List Ent) (ov:Value):Prop:=RowS S M q1l 1 ov es.length (es.map fun e=>ptrV e.b).reverse
theorem RowS.type {S:Nat→Prop} {G:Mem} {E:TypeId} {sz n:Nat} {v:Value} {xs:List Value} (h:RowS S G E sz v n xs) {b:Nat} (hb:q0g v=some b):∃ c,G b=some (.cells c E (0,0)):=by
  rcases h.2 with ⟨rfl,_⟩ |⟨g,cap,cur,rfl,h1,h2,h3⟩
  · cases hb
  · simp [q0g] at hb;subst hb;exact ⟨_,h2⟩
theorem x6m {S S':Nat→Prop} {G:Mem} {E E':TypeId} {sz n sz' n':Nat} {v v':Value} {xs xs':List Value} (h:RowS S G E sz v n xs) (h':RowS S' G E' sz' v' n' xs') (hE:E≠E'):∀ b,q0g v=some b→q0g v'≠some b:=fun b hb hb'=>by
  obtain ⟨c,h1⟩:=h.type hb
  obtain ⟨c',h2⟩:=h'.type hb'
  rw [h1] at h2;cases h2;exact hE rfl
theorem q4b {S:Nat→Prop} {G:Mem} {E E':TypeId} {sz n b:Nat} {v:Value} {xs:List Value} {c:Array Value} (h:RowS S G E sz v n xs) (h':G b=some (.cells c E' (0,0))) (hE:E≠E'):q0g v≠some b:=fun hb=>by
  obtain ⟨c',h1⟩:=h.type hb
  rw [h1] at h';cases h';exact hE rfl
theorem z1t:q5x≠q1h:=by decide
theorem x4l:q5x≠q1l:=by decide
theorem z86:q1l≠q1h:=by decide
section
variable {S S':Nat→Prop} {M M' F F':Mem} {es r:List Ent} {e e1:Ent} {ov ov':Value}
theorem StackI.grow (h:StackI I f S M F es) (hS:∀ b,S b→S' b) (hM:∀ b,S b→M' b=M b) (hF:F.le F') (hFM:F'.le M') (hd:∀ b,S' b→F' b=none):StackI I f S' M' F' es:=by
  refine ⟨hFM,hd,fun e he=>?_,fun e he=>?_,h.dist,fun e he=>(h.nodes e he).mono hF,h.pgs.mono hF⟩
  · obtain ⟨h1,h2,h3⟩:=h.blk e he
    exact ⟨hS _ h1,by rw [hM _ h1];exact h2,h3⟩
  · exact (h.row e he).of hS fun b hb=>hM b ((h.row e he).blk hb).1
theorem OpenI.grow (h:OpenI S M es ov) (hS:∀ b,S b→S' b) (hM:∀ b,S b→M' b=M b):OpenI S' M' es ov:=RowS.of h hS fun b hb=>hM b (RowS.blk h hb).1
theorem StackI.kept (h:StackI I f S M F es) {v v':Value} (hG:RowG S M v S' M' v') (hv:∀ b,q0g v=some b→S b):(∀ b,S' b→F b=none)∧F.le M':=by
  refine ⟨fun b hb=>?_,fun b o ho=>?_⟩
  · rcases hG.only b hb with h1 |h1
    · exact h.fs b h1
    · by_cases h2:q0g v=some b
      · exact h.fs b (hv b h2)
      · exact Mem.le.none h.fm (hG.fresh b h1 h2)
  · refine hG.old b o (h.fm b o ho) fun h1=>?_
    rw [h.fs b (hv b h1)] at ho;cases ho
theorem StackI.opened (h:StackI I f S M F es) {n:Nat} {xs:List Value} (ho:RowS S M q1l 1 ov n xs) (hG:RowG S M ov S' M' ov'):StackI I f S' M' F es:=by
  obtain ⟨k1,k2⟩:=h.kept hG fun b hb=>(ho.blk hb).1
  refine ⟨k2,k1,fun e he=>?_,fun e he=>?_,h.dist,h.nodes,h.pgs⟩
  · obtain ⟨h1,h2,h3⟩:=h.blk e he
    exact ⟨hG.more _ h1,hG.old _ _ h2 (q4b ho h2 z86),h3⟩
  · exact hG.row (h.row e he) (x6m (h.row e he) ho x4l)
theorem StackI.top (h:StackI I f S M F (e::r)) {s':Value} {full' vs':List Value} {ms':List Tr} (hG:RowG S M e.s S' M' s') (hr:RowS S' M' q5x 1 s' full'.length full') (hn:NodesM I f F vs' ms') :
    StackI I f S' (M'.put e.b (.cells (e.hd++[s']).toArray q1h (0,0))) F (⟨e.b,e.i,e.hd,s',full',vs',ms',e.pg⟩::r) ∧
      (∀ ov n xs,RowS S M q1l 1 ov n xs→RowS S' (M'.put e.b (.cells (e.hd++[s']).toArray q1h (0,0))) q1l 1 ov n xs)∧(∀ b c,b≠e.b→M b=some (.cells c q1h (0,0))→M'.put e.b (.cells (e.hd++[s']).toArray q1h (0,0)) b=some (.cells c q1h (0,0))) ∧
      M' e.b=some (.cells (e.hd++[e.s]).toArray q1h (0,0))∧S' e.b:=by
  have he:=h.blk e (by simp)
  have hrow:=h.row e (by simp)
  obtain ⟨hfs,hfm⟩:=h.kept hG fun b hb=>(hrow.blk hb).1
  have hMe:M' e.b=some (.cells (e.hd++[e.s]).toArray q1h (0,0)):=hG.old _ _ he.2.1 (q4b hrow he.2.1 z1t)
  have hFb:F e.b=none:=h.fs _ he.1
  have hp:=List.pairwise_cons.1 h.dist
  -- a row of another entry's
  have keep:∀ {E:TypeId} {v:Value} {n:Nat} {xs:List Value},RowS S' M' E 1 v n xs→E≠q1h→RowS S' (M'.put e.b (.cells (e.hd++[s']).toArray q1h (0,0))) E 1 v n xs:=fun hx hE=>hx.of (fun _ h=>h) fun b hb=>by
    rw [Mem.put_ne]
    intro hbe;subst hbe
    exact q4b hx hMe hE hb
  have hdist:∀ e'∈r,∀ x,q0g s'=some x→q0g e'.s≠some x:=fun e' he' x hx hx'=>by
    obtain ⟨hS,o,ho⟩:=(h.row e' (List.mem_cons_of_mem _ he')).blk hx'
    by_cases h2:q0g e.s=some x
    · exact (hp.1 e' he').2 x h2 hx'
    · rw [hG.fresh x hx h2] at ho;cases ho
  refine ⟨⟨fun b o ho=>?_,hfs,fun q hq=>?_,fun q hq=>?_,?_,fun q hq=>?_,?_⟩,fun ov n xs hov=>?_,fun b c hbe hb=>?_,hMe,hG.more _ he.1⟩
  · have hne:b≠e.b:=fun e1=>by rw [e1,hFb] at ho;cases ho
    rw [Mem.put_ne _ _ hne];exact hfm b o ho
  · rcases List.mem_cons.1 hq with rfl |hq
    · exact ⟨hG.more _ he.1,Mem.put_same _ _ _,he.2.2⟩
    · obtain ⟨h1,h2,h3⟩:=h.blk q (List.mem_cons_of_mem _ hq)
      refine ⟨hG.more _ h1,?_,h3⟩
      rw [Mem.put_ne _ _ (fun e1=>(hp.1 q hq).1 e1.symm)]
      exact hG.old _ _ h2 (q4b hrow h2 z1t)
  · rcases List.mem_cons.1 hq with rfl |hq
    · exact keep hr z1t
    · exact keep (hG.row (h.row q (List.mem_cons_of_mem _ hq)) fun b hb hb'=>(hp.1 q hq).2 b hb' hb) z1t
  · exact List.pairwise_cons.2 ⟨fun q hq=>⟨(hp.1 q hq).1,hdist q hq⟩,hp.2⟩
  · rcases List.mem_cons.1 hq with rfl |hq
    · exact hn
    · exact h.nodes q (List.mem_cons_of_mem _ hq)
  · have hg:=h.pgs
    cases r with
    | nil=>exact hg
    | cons e' r'=>exact hg
  · exact keep (hG.row hov (x6m hov hrow (Ne.symm x4l))) z86
  · rw [Mem.put_ne _ _ hbe]
    exact hG.old _ _ hb (q4b hrow hb z1t)
theorem StackI.push (h:StackI I f S M F es) (hne:es≠[]) (hS:S e.b) (hM:M e.b=some (.cells (e.hd++[e.s]).toArray q1h (0,0))) (hb:∀ q∈es,e.b≠q.b) (hs:e.s=.slice none 0 0) (hf:e.full=[]) (hv:e.vs=[]) (hms:e.ms=[]) (hpg:e.pg=false) {mv:Value} (hhd:e.hd=(I e.i).cells++[.int .i64 e.i,mv]) (hmx:IsMix F mv (I e.i).bl):StackI I f S M F (e::es):=by
  refine ⟨h.fm,h.fs,fun q hq=>?_,fun q hq=>?_,List.pairwise_cons.2 ⟨fun q hq=>⟨hb q hq,fun x hx=>by rw [hs] at hx;cases hx⟩,h.dist⟩,fun q hq=>?_,?_⟩
  · rcases List.mem_cons.1 hq with rfl |hq
    · exact ⟨hS,hM,by rw [hhd];rfl⟩
    · exact h.blk q hq
  · rcases List.mem_cons.1 hq with rfl |hq
    · rw [hf,hs];exact RowS.nil _ _ _ _
    · exact h.row q hq
  · rcases List.mem_cons.1 hq with rfl |hq
    · rw [hv,hms];exact NodesM.nil
    · exact h.nodes q hq
  · cases es with
    | nil=>exact absurd rfl hne
    | cons q r=>exact ⟨hpg,⟨mv,hhd,hmx⟩,h.pgs⟩
theorem FlatM.blk {G G':Mem} {A:Option Addr} {xs:List Value} (h:FlatM G A xs) (hG:∀ a,A=some a→G' a.block=G a.block):FlatM G' A xs:=by
  rcases h with h |⟨b,off,h1,h2⟩
  · exact .inl h
  · refine .inr ⟨b,off,h1,fun j u hj=>?_⟩
    have:=h2 j u hj
    unfold Mem.cell? at this ⊢
    rw [hG _ h1];exact this
open Classical in
noncomputable def q6t (F M:Mem) (e:Ent):Mem:=fun b=>if b=e.b∨q0g e.s=some b then M b else F b
theorem StackI.pop (h:StackI I f S M F (e::e1::r)) (hl:linkL none (e::e1::r)) :
    StackI I f (fun b=>S b∧b≠e.b∧q0g e.s≠some b) M (q6t F M e) (⟨e1.b,e1.i,e1.hd,e1.s,e1.full,e1.full,e1.ms++[.group e.i e.ms],e1.pg⟩::r)∧F.le (q6t F M e):=by
  have he:=h.blk e (by simp)
  have hrow:=h.row e (by simp)
  have hp:=List.pairwise_cons.1 h.dist
  have hle:F.le (q6t F M e):=fun b o ho=>by
    unfold q6t
    have h1:¬ (b=e.b∨q0g e.s=some b):=by
      rintro (h2 |h2)
      · rw [h2,h.fs _ he.1] at ho;cases ho
      · rw [h.fs _ (hrow.blk h2).1] at ho;cases ho
    rw [if_neg h1];exact ho
  have hS:∀ q∈e1::r,q.b≠e.b∧q0g e.s≠some q.b:=fun q hq=>⟨fun h1=>(hp.1 q hq).1 h1.symm,q4b hrow (h.blk q (List.mem_cons_of_mem _ hq)).2.1 z1t⟩
  have hR:∀ q∈e1::r,∀ b,q0g q.s=some b→b≠e.b∧q0g e.s≠some b:=fun q hq b hb=>⟨fun h1=>by
    subst h1;exact q4b (h.row q (List.mem_cons_of_mem _ hq)) he.2.1 z1t hb,fun h1=>(hp.1 q hq).2 b h1 hb⟩
  obtain ⟨hpg,⟨mv,hhd,hmx⟩,hpgr⟩:e.pg=false∧(∃ mv,e.hd=(I e.i).cells++[.int .i64 e.i,mv]∧IsMix F mv (I e.i).bl)∧pgL I F (e1::r):=by
    have h0:=h.pgs
    rw [pgL] at h0
    exact h0
  have hnode:NodeM I f (q6t F M e) (.iface q1l (ptrV e.b)) (.group e.i e.ms):=by
    obtain ⟨A,c,hsv,hnc,hcm⟩:=hrow.isSl
    have hvs:e.full=e.vs:=hl.1
    have hn:=h.nodes e (by simp)
    refine .group e.i e.b mv A e.full.length c e.vs e.ms ?_ (hmx.mono hle) (by rw [hvs]) ⟨hnc,hcm⟩ ?_ hn.1 fun j v t hv ht=>(hn.2 j v t hv ht).mono hle
    · unfold q6t
      rw [if_pos (.inl rfl),he.2.1,hhd,hsv]
      simp
    · rw [← hvs]
      have hfl:FlatM M A e.full:=by
        rw [hsv] at hrow;exact hrow.flat
      refine hfl.blk fun a ha=>?_
      unfold q6t
      rw [if_pos (.inr (by rw [hsv,ha];rfl))]
  refine ⟨⟨fun b o ho=>?_,fun b hb=>?_,fun q hq=>?_,fun q hq=>?_,?_,fun q hq=>?_,?_⟩,hle⟩
  · unfold q6t at ho
    split at ho
    · exact ho
    · exact h.fm b o ho
  · unfold q6t
    rw [if_neg (by rintro (h1 |h1);exact hb.2.1 h1;exact hb.2.2 h1)]
    exact h.fs b hb.1
  · rcases List.mem_cons.1 hq with rfl |hq
    · have h1:=h.blk e1 (by simp)
      exact ⟨⟨h1.1,hS e1 (by simp)⟩,h1.2⟩
    · have h1:=h.blk q (by simp [hq])
      exact ⟨⟨h1.1,hS q (by simp [hq])⟩,h1.2⟩
  · have key:∀ q∈e1::r,RowS (fun b=>S b∧b≠e.b∧q0g e.s≠some b) M q5x 1 q.s q.full.length q.full:=fun q hq=>by
      have h1:=h.row q (List.mem_cons_of_mem _ hq)
      refine ⟨h1.1,?_⟩
      rcases h1.2 with h2 |⟨g,cap,cur,h2,h3,h4⟩
      · exact .inl h2
      · exact .inr ⟨g,cap,cur,h2,⟨h3,hR q hq g (by rw [h2];rfl)⟩,h4⟩
    rcases List.mem_cons.1 hq with rfl |hq
    · exact key e1 (by simp)
    · exact key q (by simp [hq])
  · have h1:=List.pairwise_cons.1 hp.2
    exact List.pairwise_cons.2 ⟨h1.1,h1.2⟩
  · rcases List.mem_cons.1 hq with rfl |hq
    · have h1:=(h.nodes e1 (by simp)).mono hle
      have h2:e1.full=e1.vs++[.iface q1l (ptrV e.b)]:=hl.2.1
      show NodesM I f _ e1.full _
      rw [h2];exact h1.snoc hnode
    · exact (h.nodes q (by simp [hq])).mono hle
  · have:=hpgr.mono hle
    cases r with
    | nil=>exact this
    | cons q r'=>exact this
theorem linkL.pop (hl:linkL none (e::e1::r)) {ms:List Tr}:linkL none (⟨e1.b,e1.i,e1.hd,e1.s,e1.full,e1.full,ms,e1.pg⟩::r):=⟨rfl,hl.2.2⟩
theorem OpenI.pop {c:Nat} {A:Option Addr} (h:OpenI S M (e::e1::r) (.slice A (r.length+2) c)) (hs:StackI I f S M F (e::e1::r)) {ms:List Tr} :
    OpenI (fun b=>S b∧b≠e.b∧q0g e.s≠some b) M (⟨e1.b,e1.i,e1.hd,e1.s,e1.full,e1.full,ms,e1.pg⟩::r) (.slice A (r.length+1) c):=by
  have hb:=hs.blk e (by simp)
  have hrow:=hs.row e (by simp)
  unfold OpenI at h ⊢
  refine ⟨by simp,?_⟩
  rcases h.2 with ⟨h1,h2⟩ |⟨g,cap,cur,h1,h2,h3,h4,h5,h6,h7⟩
  · simp at h2
  · cases h1
    refine .inr ⟨g,c,cur,rfl,⟨h2,fun h8=>?_,fun h8=>?_⟩,h3,by simp at h4 ⊢;omega,h5,h6,?_⟩
    · subst h8;rw [hb.2.1] at h3;injection h3 with h3;injection h3 with _ h3 _;exact z86 h3.symm
    · obtain ⟨c',h9⟩:=hrow.type h8
      rw [h3] at h9;injection h9 with h9;injection h9 with _ h9 _;exact x4l h9.symm
    · have:=congrArg (List.take (r.length+1)) h7
      simp only [List.length_cons,Nat.mul_one] at this ⊢
      rw [List.take_take] at this
      rw [show min (r.length+1) (r.length+1+1)=r.length+1 by omega] at this
      rw [this]
      simp only [List.map_cons,List.reverse_cons,List.append_assoc]
      rw [← List.append_assoc,List.take_append_of_le_length (by simp)]
      rw [List.take_of_length_le (by simp)]
end
end
end Go.Proofs.YticolnghiibgfaaGreat
