/-
  Rows of elements, each given by its cells: in old memory and in a row of the call's own. No program in sight.
-/
import Derived.Test.YtpdneadfllcpfaaGreatDoorEz
set_option linter.unusedVariables false
set_option linter.unusedSimpArgs false
set_option linter.unnecessarySimpa false
namespace Go.Proofs.YtpdneadfllcpfaaGreatDoor
open Go.RowKit
def q1h (c:Nat→List Value):Nat→List Value
  | 0=>[]
  | n+1=>q1h c n++c n
theorem q2q {c:Nat→List Value} {sz:Nat}:∀ {n:Nat},(∀ x,x<n→(c x).length=sz)→(q1h c n).length=n*sz
  | 0,_=>by simp [q1h]
  | n+1,h=>by
    rw [q1h,List.length_append,q2q (n:=n) (fun x hx=>h x (by omega)),h n (by omega),Nat.add_mul,Nat.one_mul]
theorem q50 {c:Nat→List Value} {sz:Nat}:∀ {n:Nat},(∀ x,x<n→(c x).length=sz)→∀ {x j:Nat},x<n→j<sz→(q1h c n)[x*sz+j]? = (c x)[j]?
  | 0,_,_,_,hx,_=>by omega
  | n+1,h,x,j,hx,hj=>by
    have hl:=q2q (n:=n) (fun x hx=>h x (by omega))
    rw [q1h]
    rcases Nat.lt_or_ge x n with h1 |h1
    · have:x*sz+j<n*sz:=by
        have:=Nat.mul_le_mul_right sz (show x+1≤n by omega)
        rw [Nat.add_mul,Nat.one_mul] at this;omega
      rw [List.getElem?_append_left (by omega)]
      exact q50 (fun x hx=>h x (by omega)) h1 hj
    · obtain rfl:x=n:=by omega
      rw [List.getElem?_append_right (by omega),hl]
      congr 1;omega
theorem q6k {c d:Nat→List Value}:∀ {n:Nat},(∀ x,x<n→c x=d x)→q1h c n=q1h d n
  | 0,_=>rfl
  | n+1,h=>by rw [q1h,q1h,q6k (n:=n) (fun x hx=>h x (by omega)),h n (by omega)]
structure ElsM (G:Mem) (A:Option Addr) (sz n:Nat) (c:Nat→List Value):Prop where
  len:∀ x,x<n→(c x).length=sz
  at_:∀ x,x<n→∃ b off,A=some ⟨b,off,none⟩∧∀ j v,(c x)[j]? = some v→G.cell? ⟨b,off+x*sz+j,none⟩=some v
section
variable {G G':Mem} {A:Option Addr} {sz n:Nat} {c d:Nat→List Value}
theorem ElsM.mono (h:ElsM G A sz n c) (hle:G.le G'):ElsM G' A sz n c:=⟨h.len,fun x hx=>by
  obtain ⟨b,off,h1,h2⟩:=h.at_ x hx
  exact ⟨b,off,h1,fun j v hj=>hle.cell (h2 j v hj)⟩⟩
theorem ElsM.less (h:ElsM G A sz n c) {k:Nat} (hk:k≤n):ElsM G A sz k c:=⟨fun x hx=>h.len x (by omega),fun x hx=>h.at_ x (by omega)⟩
theorem ElsM.congr (h:ElsM G A sz n c) (e:∀ x,x<n→c x=d x):ElsM G A sz n d :=
  ⟨fun x hx=>by rw [← e x hx];exact h.len x hx,fun x hx=>by rw [← e x hx];exact h.at_ x hx⟩
theorem ElsM.none:ElsM G A sz 0 c:=⟨fun x hx=>by omega,fun x hx=>by omega⟩
theorem ElsM.drop (h:ElsM G A sz n c) {k:Nat} (hk:k≤n):ElsM G (A.map fun p=>p.add (k*sz)) sz (n-k) (fun x=>c (k+x)) :=
  ⟨fun x hx=>h.len _ (by omega),fun x hx=>by
    obtain ⟨b,off,rfl,h2⟩:=h.at_ (k+x) (by omega)
    refine ⟨b,off+k*sz,by simp [q0o],fun j v hj=>?_⟩
    have:=h2 j v hj
    rwa [show off+k*sz+x*sz+j=off+(k+x)*sz+j by rw [Nat.add_mul];omega]⟩
theorem ElsM.cells (h:ElsM G A sz n c) {x:Nat} (hx:x<n):∃ p:Addr,A=some p∧∀ K:List Value→Prop,K (c x)→OldCells G (p.add (x*sz)) sz K:=by
  obtain ⟨b,off,rfl,h2⟩:=h.at_ x hx
  refine ⟨_,rfl,fun K k=>q5d _ (h.len x hx) (fun j u hj=>?_) k⟩
  rw [q0o,q0o]
  exact h2 j u hj
theorem ElsM.cell (h:ElsM G A sz n c) {x j:Nat} {v:Value} (hx:x<n) (hj:(c x)[j]? = some v):∃ p:Addr,A=some p∧G.cell? (Addr.add (p.add (x*sz)) j)=some v:=by
  obtain ⟨b,off,rfl,h2⟩:=h.at_ x hx
  exact ⟨_,rfl,by rw [q0o,q0o];exact h2 j v hj⟩
theorem ElsM.frozen (hl:∀ x,x<n→(c x).length=sz) (h:q1h c n=[]∨∃ b,A=some ⟨b,0,Option.none⟩∧∀ (j:Nat) u,(q1h c n)[j]? = some u→G.cell? ⟨b,j,Option.none⟩=some u) (hA:0<sz):ElsM G A sz n c:=by
  refine ⟨hl,fun x hx=>?_⟩
  rcases h with h |⟨b,rfl,h⟩
  · have:=q2q hl
    rw [h] at this
    have h1:0<n*sz:=Nat.mul_pos (by omega) hA
    simp at this;omega
  · refine ⟨b,0,rfl,fun j v hj=>?_⟩
    have hjl:j<sz:=by have:=(List.getElem?_eq_some_iff.1 hj).1;rw [hl x hx] at this;exact this
    rw [Nat.zero_add]
    exact h _ _ (by rw [q50 hl hx hjl];exact hj)
end
end Go.Proofs.YtpdneadfllcpfaaGreatDoor
