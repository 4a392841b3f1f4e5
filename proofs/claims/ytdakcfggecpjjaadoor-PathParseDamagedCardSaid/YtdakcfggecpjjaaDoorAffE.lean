/-
  affine.Check, affine.Apply, and the reference's MapCheck and Apply, as the engine takes them.
-/
import Derived.Test.YtdakcfggecpjjaaDoorNumE
import Derived.Test.YtdakcfggecpjjaaDoorDown
import Derived.Test.YtdakcfggecpjjaaDoorEz
import Derived.Test.YtdakcfggecpjjaaDoorEw
namespace Go.Proofs.YtdakcfggecpjjaaDoor
open Go.RowKit
set_option linter.unusedVariables false
set_option linter.unusedSimpArgs false
set_option maxRecDepth 20000
structure MatD where
  a : Int
  b : Int
  c : Int
  d : Int
  e : Int
  f : Int
abbrev matA (a b c d e f : Int) : AV := .agg [.val (.int .i64 a), .val (.int .i64 b), .val (.int .i64 c), .val (.int .i64 d), .val (.int .i64 e), .val (.int .i64 f)]
abbrev pntA (x y : Int) : AV := .agg [.val (.int .i64 x), .val (.int .i64 y)]
def matG (m : MatD) : Prop := (-1048576 ≤ m.a ∧ m.a ≤ 1048576) ∧ (-1048576 ≤ m.b ∧ m.b ≤ 1048576) ∧ (-1048576 ≤ m.c ∧ m.c ≤ 1048576) ∧ (-1048576 ≤ m.d ∧ m.d ≤ 1048576) ∧ (-268435456 ≤ m.e ∧ m.e ≤ 268435456) ∧ (-268435456 ≤ m.f ∧ m.f ≤ 268435456)
def pntG (x y : Int) : Prop := (-32767 ≤ x ∧ x ≤ 32767) ∧ (-32767 ≤ y ∧ y ≤ 32767)
instance (m : MatD) : Decidable (matG m) := by unfold matG; infer_instance
instance (x y : Int) : Decidable (pntG x y) := by unfold pntG; infer_instance
noncomputable def matR (m : MatD) : Int := if matG m then 0 else 3
noncomputable def apX (m : MatD) (x y : Int) : Int := near (m.a * x + m.c * y + m.e) 4096
noncomputable def apY (m : MatD) (x y : Int) : Int := near (m.b * x + m.d * y + m.f) 4096
noncomputable def apE (m : MatD) (x y : Int) : Int := if ¬ (matG m ∧ pntG x y) then 3 else if pntG (apX m x y) (apY m x y) then 0 else 10
theorem mulB {a x A B : Int} (ha : -A ≤ a ∧ a ≤ A) (hx : -B ≤ x ∧ x ≤ B) (hA : 0 ≤ A := by omega) (hB : 0 ≤ B := by omega) : -(A * B) ≤ a * x ∧ a * x ≤ A * B := by
  have h1 : a.natAbs * x.natAbs ≤ A.natAbs * B.natAbs := Nat.mul_le_mul (by omega) (by omega)
  rw [← Int.natAbs_mul, ← Int.natAbs_mul] at h1
  have h2 : 0 ≤ A * B := Int.mul_nonneg hA hB
  omega
theorem near_in {a : Int} (h : -137438953472 ≤ a ∧ a ≤ 137438953472) : -33554433 ≤ near a 4096 ∧ near a 4096 ≤ 33554433 := by
  unfold near
  split <;> omega
section
variable {m : MatD} {x y : Int} {G : Mem}
noncomputable def apV (m : MatD) (x y : Int) : AV := .tup [pntA (if apE m x y = 0 then apX m x y else 0) (if apE m x y = 0 then apY m x y else 0), .val (.int .i64 (apE m x y))]
end
end Go.Proofs.YtdakcfggecpjjaaDoor
