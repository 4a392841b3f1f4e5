/-
  The parts of the sheets that are not waste. Plain laws.
-/
import Derived.RowKit
set_option linter.unusedVariables false
set_option linter.unusedSimpArgs false
set_option linter.unnecessarySimpa false
namespace Go.Proofs.YtpdneadfllcpfaaGreatDoor
abbrev Part:=Int × Bool
def q0r (c:Nat) (num sp:Bool) (a:List Part):Nat→List Part
  | 0=>a
  | u+1=>if (q0r c num sp a u).length<c then q0r c num sp a u++[((if num=true then ((q0r c num sp a u).length:Int)+1 else 0),sp)] else q0r c num sp a u
def q3j (c u:Nat) (num:Bool) (a:List Part) (s:Int):List Part:=if s=1 then a else q0r c num (decide (s=2)) a u
def q1z (c u:Nat) (num:Bool) (S:Nat→Int):Nat→List Part
  | 0=>[]
  | k+1=>q3j c u num (q1z c u num S k) (S k)
section
variable {c u:Nat} {num sp:Bool} {a:List Part} {S:Nat→Int}
theorem q5y:∀ n,a <+: q0r c num sp a n
  | 0=>List.prefix_refl _
  | n+1=>by
    unfold q0r
    split
    · exact (q5y n).trans (List.prefix_append _ _)
    · exact q5y n
theorem q47 {n:Nat}:∀ d,q0r c num sp a n <+: q0r c num sp a (n+d)
  | 0=>List.prefix_refl _
  | d+1=>by
    rw [← Nat.add_assoc]
    conv=>rhs;unfold q0r
    split
    · exact (q47 d).trans (List.prefix_append _ _)
    · exact q47 d
theorem q4a (h:a.length≤c):∀ n,(q0r c num sp a n).length≤c
  | 0=>h
  | n+1=>by
    unfold q0r
    split
    · simp;omega
    · exact q4a h n
theorem q48 {n:Nat} (h:¬ (q0r c num sp a n).length<c):∀ d,q0r c num sp a (n+d)=q0r c num sp a n
  | 0=>rfl
  | d+1=>by
    have ih:=q48 h d
    rw [← Nat.add_assoc,q0r,ih,if_neg h]
theorem q28:∀ k,(q1z c u num S k).length≤c
  | 0=>Nat.zero_le _
  | k+1=>by
    unfold q1z q3j
    split
    · exact q28 k
    · exact q4a (q28 k) u
theorem q7p {k:Nat}:∀ d,q1z c u num S k <+: q1z c u num S (k+d)
  | 0=>List.prefix_refl _
  | d+1=>by
    rw [← Nat.add_assoc]
    refine (q7p d).trans ?_
    conv=>rhs;unfold q1z q3j
    split
    · exact List.prefix_refl _
    · exact q5y u
theorem z3i {α:Type} {l m:List α} (h:l <+: m) {i:Nat} {x:α} (hx:l[i]? = some x):m[i]? = some x:=by
  obtain ⟨t,rfl⟩:=h
  rw [List.getElem?_append_left (List.getElem?_eq_some_iff.1 hx).1];exact hx
end
end Go.Proofs.YtpdneadfllcpfaaGreatDoor
