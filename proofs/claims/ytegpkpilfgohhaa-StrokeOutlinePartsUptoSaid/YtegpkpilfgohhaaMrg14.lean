/-
  Merged: XArg, XHpm, XTrim.
-/
import Derived.Test.YtegpkpilfgohhaaMrg7
import Derived.Test.YtegpkpilfgohhaaGm
set_option linter.unusedVariables false
set_option linter.unusedSimpArgs false
set_option linter.unnecessarySimpa false
namespace Go.Proofs.Ytegpkpilfgohhaa
open Go.RowKit
def RowM (G:Mem) (A:Option Addr) (xs:List Value):Prop:=(A=none∧xs=[])∨∃ b off,A=some ⟨b,off,none⟩∧∀ (j:Nat) u,xs[j]? = some u→G.cell? ⟨b,off+j,none⟩=some u
theorem RowM.mono {G G':Mem} {A:Option Addr} {xs:List Value} (h:RowM G A xs) (hle:G.le G'):RowM G' A xs:=by
  rcases h with h |⟨b,off,h1,h2⟩
  · exact .inl h
  · exact .inr ⟨b,off,h1,fun j u hj=>hle.cell (h2 j u hj)⟩
theorem q3p {P:Program} {T:Tab} (hT:TOk P T) {n0:Nat} {b:Code} {fr:List AV} {hp:List Blk} {G:Mem} {Q:Post} {ι:Type} (inv:ι→Prop) (S:ι→List (Nat × AV)) (H:ι→List Blk) (M:ι→Mem) (μ:ι→Nat) (i0:ι) (h0:inv i0)
    (start:Le n0 fr hp G (q4e b fr (S i0)) (H i0) (M i0))
    (round:∀ i,inv i→q8j (q20 b []) fun ws=>q6o ws 0 fr fun fr1=>q5c fr1 (S i) fun fr2=>q8d P T n0 b fr2 (H i) (M i) fun e fr' hp' G'=>match e with
      | .normal=>∃ i',inv i'∧μ i'<μ i∧Le n0 fr' hp' G' (q4e b fr (S i')) (H i') (M i')
      | e=>Q e fr' hp' G'):LoopP P n0 b fr hp G Q:=by
  refine z0t hT inv (fun i=>q4e b fr (S i)) H M μ ⟨i0,h0,start⟩ fun i hi=>?_
  have h:=round i hi
  rw [q6p,q5s,q4x] at h
  exact h
end Go.Proofs.Ytegpkpilfgohhaa
namespace Go.Proofs.Ytegpkpilfgohhaa
theorem q0k {n:Nat} {S S':Nat→Prop} {l m:List Blk} (hS:∀ b,S' b→S b) (h:hpLe n l m):hpLe n (.muts S::l) (.muts S'::m):=⟨hS,h⟩
end Go.Proofs.Ytegpkpilfgohhaa
namespace Go.Proofs.Ytegpkpilfgohhaa
open Go.RowKit
section
variable {α:Type} {enc:α→List Value} {k:Nat}
theorem z11 (hk:∀ x,(enc x).length=k):∀ (l:List α) (i:Nat) (x:α),i<l.length→(l.flatMap enc).take (i*k)++enc x++(l.flatMap enc).drop (i*k+k)=(l.set i x).flatMap enc
  | [],i,x,h=>by simp at h
  | a::l,0,x,_=>by
    simp only [List.flatMap_cons,Nat.zero_mul,List.take_zero,List.nil_append,Nat.zero_add,List.set_cons_zero]
    rw [List.drop_left' (hk a)]
  | a::l,i+1,x,h=>by
    have e:(i+1)*k=k+i*k:=by rw [Nat.add_mul];omega
    simp only [List.flatMap_cons,List.set_cons_succ]
    rw [e,Nat.add_assoc,← hk a,List.take_length_add_append,List.drop_length_add_append,hk a]
    have:=z11 hk l i x (by simpa using h)
    rw [← this];simp [List.append_assoc]
theorem q5g (hk:∀ x,(enc x).length=k):∀ (l:List α) (i:Nat),(l.flatMap enc).take (i*k)=(l.take i).flatMap enc
  | l,0=>by simp
  | [],i+1=>by simp
  | a::l,i+1=>by
    have e:(i+1)*k=k+i*k:=by rw [Nat.add_mul];omega
    simp only [List.flatMap_cons,List.take_succ_cons]
    rw [e,← hk a,List.take_length_add_append,hk a,q5g hk l i]
end
end Go.Proofs.Ytegpkpilfgohhaa
