/-
  The plain law of gathering cells into pieces: one piece for each vector, in the order of the first cells.
-/
import Derived.Test.YtegpkpilfgohhaaMrg15
import Derived.Test.YtegpkpilfgohhaaRegLaw
set_option linter.unusedVariables false
set_option linter.unusedSimpArgs false
set_option linter.unnecessarySimpa false
namespace Go.Proofs.Ytegpkpilfgohhaa
abbrev Pc:=List Int × List Run
def q97:List Int:=[0,0,0,0,0,0,0,0]
structure GOk (gs:List Pc) (n:Nat) (y x:Int):Prop where
  few:gs.length≤n
  runs:∀ p∈gs,p.2.length≤n∧upTo p.2 y x∧okR p.2
  apart:∀ (i j:Nat) (p q:Pc),i<j→gs[i]? = some p→gs[j]? = some q→p.1≠q.1
  keys:∀ p∈gs,p.1≠q97∧p.2≠[]
theorem GOk.nil (n:Nat) (y x:Int):GOk [] n y x:=⟨Nat.zero_le _,fun p h=>(by cases h),fun i j p q _ h=>(by simp at h),fun p h=>(by cases h)⟩
theorem GOk.mono {gs:List Pc} {n n':Nat} {y x y' x':Int} (h:GOk gs n y x) (hn:n≤n') (k:y<y'∨(y=y'∧x≤x')):GOk gs n' y' x' :=
  ⟨Nat.le_trans h.few hn,fun p hp=>⟨Nat.le_trans (h.runs p hp).1 hn,z3l (h.runs p hp).2.1 k,(h.runs p hp).2.2⟩,h.apart,h.keys⟩
end Go.Proofs.Ytegpkpilfgohhaa
