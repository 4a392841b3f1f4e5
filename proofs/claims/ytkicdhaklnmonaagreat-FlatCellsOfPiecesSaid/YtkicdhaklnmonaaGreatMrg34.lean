/-
  Merged: XMorph, XPaper, XRowsM, XPcsOfW.
-/
import Derived.Test.YtkicdhaklnmonaaGreatMrg33
import Derived.Test.YtkicdhaklnmonaaGreatErode1
import Derived.Test.YtkicdhaklnmonaaGreatMrg16
import Derived.Test.YtkicdhaklnmonaaGreatMrg19
import Derived.Test.YtkicdhaklnmonaaGreatMrg13
import Derived.Test.YtkicdhaklnmonaaGreatMrg21
import Derived.Test.YtkicdhaklnmonaaGreatMrg27
import Derived.Test.YtkicdhaklnmonaaGreatMrg14
import Derived.Test.YtkicdhaklnmonaaGreatMrg20
import Derived.Test.YtkicdhaklnmonaaGreatMrg17
import Derived.Test.YtkicdhaklnmonaaGreatMrg18
set_option linter.unusedVariables false
set_option linter.unusedSimpArgs false
set_option linter.unnecessarySimpa false
namespace Go.Proofs.YtkicdhaklnmonaaGreat
open Go.RowKit
set_option maxRecDepth 20000
section
variable {A:Option Addr} {L:List Run} {c:Nat} {w:Int} {G:Mem}
end
end Go.Proofs.YtkicdhaklnmonaaGreat
namespace Go.Proofs.YtkicdhaklnmonaaGreat
open Go.RowKit
set_option maxRecDepth 20000
theorem z85 {W H:Int} (hW:0<W) (hH:0≤H):okR (q5e 0 W 0 H.toNat)∧∀ x y,hasR (q5e 0 W 0 H.toNat) x y↔(0≤x∧x<W)∧0≤y∧y<H:=by
  constructor
  · generalize H.toNat=n
    induction n with
    | zero=>simp [q5e,okR]
    | succ n ih =>
      have e:q5e 0 W 0 (n+1)=q5e 0 W 0 n++[⟨0+n,0,W⟩]:=by simp [q5e,List.range_succ]
      rw [e,okR_append]
      refine ⟨ih,⟨hW,by simp,trivial⟩,fun r hr s hs=>?_⟩
      simp only [q5e,List.mem_map,List.mem_range] at hr
      obtain ⟨i,hi,rfl⟩:=hr
      simp at hs;subst hs
      left;show (0:Int)+i<_;dsimp only;omega
  · intro x y
    unfold q5e hasR
    constructor
    · rintro ⟨r,hr,h1,h2,h3⟩
      simp only [List.mem_map,List.mem_range] at hr
      obtain ⟨i,hi,rfl⟩:=hr
      dsimp only at h1 h2 h3
      omega
    · rintro ⟨h1,h2⟩
      exact ⟨⟨0+(y.toNat:Int),0,W⟩,List.mem_map.2 ⟨y.toNat,List.mem_range.2 (by omega),rfl⟩,by show 0+(y.toNat:Int)=y;omega,h1.1,h1.2⟩
end Go.Proofs.YtkicdhaklnmonaaGreat
namespace Go.Proofs.YtkicdhaklnmonaaGreat
open Go.RowKit
structure PRowsM (G0:Mem) (E:TypeId) (S:Nat→Prop) (M:Mem) (gs:List Pc) (B:Nat→Value):Prop where
  le:G0.le M
  rows:∀ (k:Nat) (p:Pc),gs[k]? = some p→RowS S M E 3 (B k) p.2.length (q0q p.2)
  apart:∀ k l b,k<gs.length→l<gs.length→k≠l→q0i (B k)=some b→q0i (B l)≠some b
  free:∀ k b,k<gs.length→q0i (B k)=some b→G0 b=none
section
variable {G0:Mem} {E:TypeId} {S S':Nat→Prop} {M M':Mem} {gs:List Pc} {B:Nat→Value} {k:Nat} {v:List Int} {L:List Run} {r:Run}
theorem PRowsM.app (h:PRowsM G0 E S M gs B) (hk:gs[k]? = some (v,L)) {x:Value} (hG:RowG S M (B k) S' M' x) (hR:RowS S' M' E 3 x (L.length+1) (q0q (L++[r]))):PRowsM G0 E S' M' (gs.set k (v,L++[r])) (putV B k x):=by
  have hkl:=(List.getElem?_eq_some_iff.1 hk).1
  have hG0:∀ b,q0i x=some b→G0 b=none:=fun b hb=>by
    by_cases e:q0i (B k)=some b
    · exact h.free k b hkl e
    · exact Mem.le.none h.le (hG.fresh b hb e)
  have hle:G0.le M':=fun b o hb=>hG.old b o (h.le b o hb) fun e=>by
    have:=h.free k b hkl e
    rw [this] at hb;cases hb
  have hne:∀ l,l<gs.length→l≠k→∀ b,q0i (B l)=some b→q0i (B k)≠some b:=fun l hl hlk b hb=>h.apart l k b hl hkl hlk hb
  have hx:∀ l,l<gs.length→l≠k→∀ b,q0i (B l)=some b→q0i x≠some b:=fun l hl hlk b hb e=>by
    by_cases e2:q0i (B k)=some b
    · exact hne l hl hlk b hb e2
    · have hn:=hG.fresh b e e2
      obtain ⟨p,hp⟩:∃ p,gs[l]? = some p:=⟨_,List.getElem?_eq_getElem hl⟩
      obtain ⟨_,o,ho⟩:=(h.rows l p hp).blk hb
      rw [hn] at ho;cases ho
  refine ⟨hle,fun l p hl=>?_,fun i j b hi hj hij hb=>?_,fun i b hi hb=>?_⟩
  · by_cases e:k=l
    · subst e
      rw [List.getElem?_set_self hkl] at hl;cases hl
      rw [q1u]
      simpa using hR
    · rw [List.getElem?_set_ne e] at hl
      have hll:=(List.getElem?_eq_some_iff.1 hl).1
      rw [q2k (fun e2=>e e2.symm)]
      exact hG.row (h.rows l p hl) (hne l hll (fun e2=>e e2.symm))
  · simp only [List.length_set] at hi hj
    by_cases e1:i=k
    · subst e1
      rw [q1u] at hb
      rw [q2k (fun e2=>hij e2.symm)]
      exact fun e3=>hx j hj (fun e2=>hij e2.symm) b e3 hb
    · rw [q2k e1] at hb
      by_cases e2:j=k
      · subst e2;rw [q1u];exact hx i hi e1 b hb
      · rw [q2k e2];exact h.apart i j b hi hj hij hb
  · simp only [List.length_set] at hi
    by_cases e1:i=k
    · subst e1;rw [q1u] at hb;exact hG0 b hb
    · rw [q2k e1] at hb;exact h.free i b hi hb
theorem PRowsM.put {b:Nat} (h:PRowsM G0 E S M gs B) (hk:gs[k]? = some (v,L)) (hb:q0i (B k)=some b) (hM:∀ c,c≠b→M' c=M c) {L':List Run} (hR:RowS S M' E 3 (B k) L'.length (q0q L')):PRowsM G0 E S M' (gs.set k (v,L')) B:=by
  have hkl:=(List.getElem?_eq_some_iff.1 hk).1
  have f1:=h.free k b hkl hb
  refine ⟨fun c o hc=>?_,fun l p hl=>?_,fun i j c hi hj=>?_,fun i c hi=>?_⟩
  · rw [hM c (fun e=>by rw [e,f1] at hc;cases hc)];exact h.le c o hc
  · by_cases e:k=l
    · subst e
      rw [List.getElem?_set_self hkl] at hl;cases hl
      exact hR
    · rw [List.getElem?_set_ne e] at hl
      have hll:=(List.getElem?_eq_some_iff.1 hl).1
      exact (h.rows l p hl).of (fun _ h=>h) fun c hc=>hM c fun e2=>by
        subst e2
        exact h.apart l k c hll hkl (fun e3=>e e3.symm) hc hb
  · simp only [List.length_set] at hi hj;exact h.apart i j c hi hj
  · simp only [List.length_set] at hi;exact h.free i c hi
theorem PRowsM.key (h:PRowsM G0 E S M gs B):PRowsM G0 E S M (gs++[(v,[])]) (putV B gs.length (.slice none 0 0)):=by
  refine ⟨h.le,fun l p hl=>?_,fun i j c hi hj hij hb=>?_,fun i c hi hb=>?_⟩
  · rw [List.getElem?_append] at hl
    split at hl
    · rename_i hll
      rw [q2k (by omega)]
      exact h.rows l p hl
    · rename_i hll
      have e:l-gs.length=0:=by have:=(List.getElem?_eq_some_iff.1 hl).1;simp at this;omega
      rw [e] at hl;simp at hl;subst hl
      rw [show l=gs.length by omega,q1u]
      exact RowS.nil _ _ _ _
  · simp at hi hj
    by_cases e1:i=gs.length
    · subst e1;rw [q1u] at hb;cases hb
    · rw [q2k e1] at hb
      by_cases e2:j=gs.length
      · subst e2;rw [q1u];exact fun e=>by cases e
      · rw [q2k e2];exact h.apart i j c (by omega) (by omega) hij hb
  · simp at hi
    by_cases e1:i=gs.length
    · subst e1;rw [q1u] at hb;cases hb
    · rw [q2k e1] at hb;exact h.free i c (by omega) hb
end
end Go.Proofs.YtkicdhaklnmonaaGreat
namespace Go.Proofs.YtkicdhaklnmonaaGreat
open Go.RowKit
set_option maxRecDepth 20000
theorem PRowsM.piece {G0:Mem} {E:TypeId} {S:Nat→Prop} {M:Mem} {gs:List Pc} {B:Nat→Value} (h:PRowsM G0 E S M gs B) {k:Nat} {p:Pc} (hk:gs[k]? = some p):(gatP gs B k).L=p.2∧B k=.slice (gatP gs B k).A (gatP gs B k).L.length (gatP gs B k).q∧(gatP gs B k).L.length≤(gatP gs B k).q∧(gatP gs B k).q≤maxLen∧RunsM M (gatP gs B k).A (gatP gs B k).L:=by
  have hL:(gatP gs B k).L=p.2:=by simp [gatP,hk]
  have hr:=h.rows k p hk
  obtain ⟨A,c,e,h1,h2⟩:=hr.isSl
  have eA:(gatP gs B k).A=A:=by simp [gatP,e,slA]
  have eq:(gatP gs B k).q=c:=by simp [gatP,e,slQ]
  rw [hL,eA,eq]
  refine ⟨rfl,e,h1,h2,?_⟩
  rw [e] at hr
  have hF:=hr.flat
  intro i r hi
  obtain ⟨q0,q1,q2⟩:=q3k hi
  rcases hF with ⟨_,h0⟩ |⟨b,off,rfl,h3⟩
  · rw [h0] at q0;simp at q0
  · exact ⟨b,off,rfl,by simpa using h3 _ _ q0,by simpa [Nat.add_assoc] using h3 _ _ q1,by simpa [Nat.add_assoc] using h3 _ _ q2⟩
theorem x1s {v:List Int} {y a b:Int}:∀ {gs:List Pc} {p:Pc},p∈gput gs v y a b→p.1=v∨∃ q∈gs,q.1=p.1
  | [],p,h=>by simp [gput] at h;exact .inl (by rw [h])
  | (u,L)::t,p,h=>by
    unfold gput at h
    split at h
    · rename_i e
      rcases List.mem_cons.1 h with rfl |h
      · exact .inl e
      · exact .inr ⟨p,List.mem_cons_of_mem _ h,rfl⟩
    · rcases List.mem_cons.1 h with rfl |h
      · exact .inr ⟨(u,L),by simp,rfl⟩
      · rcases x1s h with h |⟨q,h1,h2⟩
        · exact .inl h
        · exact .inr ⟨q,List.mem_cons_of_mem _ h1,h2⟩
end Go.Proofs.YtkicdhaklnmonaaGreat
