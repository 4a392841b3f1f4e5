/-
  region.combine.
-/
import Derived.Test.YtkicdhaklnmonaaGreatMrg18
import Derived.Test.YtkicdhaklnmonaaGreatMrg16
set_option linter.unusedVariables false
set_option linter.unusedSimpArgs false
set_option linter.unnecessarySimpa false
namespace Go.Proofs.YtkicdhaklnmonaaGreat
open Go.RowKit
set_option maxRecDepth 20000
structure EdM (G:Mem) (X:Option Addr) (c:Nat) (L:List Run) (o:Int) (i N:Nat):Prop where
  le:i≤2*L.length
  len:N=2*L.length-i
  cap:N≤c
  at_:∀ t,i+t<2*L.length→∃ b off,X=some ⟨b,off,none⟩∧G.cell? ⟨b,off+t * 3,none⟩=some (.int .i64 (eY (nthR L) (i+t)))∧G.cell? ⟨b,off+t * 3+1,none⟩=some (.int .i64 (eX (nthR L) (i+t)))∧G.cell? ⟨b,off+t * 3+2,none⟩=some (.int .i64 o)
theorem EdM.frozen {G:Mem} {A:Option Addr} {c:Nat} {L:List Run} {o:Int} (hc:2*L.length≤c) (h:q49 L o=[]∨∃ b,A=some ⟨b,0,none⟩∧∀ (j:Nat) u,(q49 L o)[j]? = some u→G.cell? ⟨b,j,none⟩=some u):EdM G A c L o 0 (2*L.length) :=
  ⟨Nat.zero_le _,rfl,hc,fun t ht=>by
    rw [Nat.zero_add] at ht
    obtain ⟨c0,c1,c2⟩:=x68 (o:=o) ht
    rcases h with h |⟨b,rfl,h⟩
    · rw [h] at c0;simp at c0
    · refine ⟨b,0,rfl,?_⟩
      rw [Nat.zero_add,Nat.zero_add]
      exact ⟨h _ _ c0,h _ _ c1,h _ _ c2⟩⟩
theorem EdM.mono {G G':Mem} {X:Option Addr} {c:Nat} {L:List Run} {o:Int} {i N:Nat} (h:EdM G X c L o i N) (hle:G.le G'):EdM G' X c L o i N :=
  ⟨h.le,h.len,h.cap,fun t ht=>by
    obtain ⟨b,off,h1,h2,h3,h4⟩:=h.at_ t ht
    exact ⟨b,off,h1,hle.cell h2,hle.cell h3,hle.cell h4⟩⟩
theorem EdM.first {G:Mem} {X:Option Addr} {c:Nat} {L:List Run} {o:Int} {i N:Nat} (h:EdM G X c L o i N) (hi:i<2*L.length):∃ p:Addr,X=some p∧G.cell? (Addr.add (p.add ((0:Int).toNat * 3)) 0)=some (.int .i64 (eY (nthR L) i))∧G.cell? (Addr.add (p.add ((0:Int).toNat * 3)) 1)=some (.int .i64 (eX (nthR L) i)) ∧
    (∀ K:List Value→Prop,K [.int .i64 (eY (nthR L) i),.int .i64 (eX (nthR L) i),.int .i64 o]→OldCells G (p.add ((0:Int).toNat * 3)) 3 K):=by
  obtain ⟨b,off,rfl,c0,c1,c2⟩:=h.at_ 0 (by omega)
  have e:(⟨b,off,none⟩:Addr).add ((0:Int).toNat * 3)=⟨b,off,none⟩:=by rw [q0m];simp
  rw [Nat.zero_mul,Nat.add_zero] at c0 c1 c2
  refine ⟨_,rfl,?_,?_,fun K k=>q10 _ rfl (fun j u hj=>?_) k⟩
  · rw [e,q0m];exact c0
  · rw [e,q0m];exact c1
  · rw [e,q0m]
    match j,hj with
    | 0,hj=>simp at hj;subst hj;exact c0
    | 1,hj=>simp at hj;subst hj;exact c1
    | 2,hj=>simp at hj;subst hj;exact c2
theorem EdM.next {G:Mem} {X:Option Addr} {c:Nat} {L:List Run} {o:Int} {i N:Nat} (h:EdM G X c L o i N) (hi:i<2*L.length):EdM G (if c=(1:Int).toNat then X else X.map (·.add ((1:Int).toNat * 3))) (c-(1:Int).toNat) L o (i+1) ((N:Int).toNat-(1:Int).toNat):=by
  have h1:=h.len
  have h2:=h.cap
  refine ⟨hi,by omega,by omega,fun t ht=>?_⟩
  rw [if_neg (by omega)]
  obtain ⟨b,off,rfl,c0,c1,c2⟩:=h.at_ (t+1) (by omega)
  refine ⟨b,off+3,by simp [q0m],?_⟩
  rw [show off+3+t * 3=off+(t+1)*3 by omega,show i+1+t=i+(t+1) by omega]
  exact ⟨c0,c1,c2⟩
end Go.Proofs.YtkicdhaklnmonaaGreat
