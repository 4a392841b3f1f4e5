/-
  Square roots: the contracts as the engine takes them.
-/
import Derived.Test.YtpgjbfbdappniaaNumE
import Derived.Test.YtpgjbfbdappniaaSqrt
namespace Go.Proofs.Ytpgjbfbdappniaa
open Go.RowKit
set_option linter.unusedVariables false
set_option maxRecDepth 20000
theorem absMul {a b A B : Int} (ha : -A ≤ a ∧ a ≤ A) (hb : -B ≤ b ∧ b ≤ B) : -(A * B) ≤ a * b ∧ a * b ≤ A * B := by
  have hA : 0 ≤ A := by omega
  have hB : 0 ≤ B := by omega
  have h1 : (a * b).natAbs ≤ A.natAbs * B.natAbs := by
    rw [Int.natAbs_mul]
    exact Nat.mul_le_mul (by omega) (by omega)
  have h2 : A.natAbs * B.natAbs = (A * B).natAbs := (Int.natAbs_mul A B).symm
  have h3 : 0 ≤ A * B := Int.mul_nonneg hA hB
  omega
theorem sq_nonneg (a : Int) : 0 ≤ a * a := by
  rcases Int.le_total 0 a with h | h
  · exact Int.mul_nonneg h h
  · have := Int.mul_nonneg (show 0 ≤ -a by omega) (show 0 ≤ -a by omega)
    rwa [Int.neg_mul_neg] at this
theorem sq_pos {a : Int} (h : a ≠ 0) : 1 ≤ a * a := by
  have h1 := sq_nonneg a
  have h2 : a * a ≠ 0 := fun e => by rcases Int.mul_eq_zero.1 e with h | h <;> omega
  omega
noncomputable def rootI (n : Int) : Int := Classical.epsilon fun r => IsRoot n r
theorem rootI_is {n : Int} (h : 0 ≤ n) : IsRoot n (rootI n) := Classical.epsilon_spec (root_of h)
theorem Sqrt_gives {n : Int} {G : Mem} (hn : 0 ≤ n ∧ n ≤ 4611686018427387904) : Gives Try.prog 54 [.val (.int .i64 n)] G (.val (.int .i64 (rootI n))) :=
  Gives.of_calls (args := [.int .i64 n]) fun w _ => (Sqrt_any n _ w hn (rootI_is hn.1)).mono fun _ _ h => ⟨h.1, h.2 ▸ Below.refl _ _⟩
theorem RRoot_gives {n : Int} {G : Mem} (hn : 0 ≤ n ∧ n ≤ 4611686018427387904) : Gives Try.prog 62 [.val (.int .i64 n)] G (.val (.int .i64 (rootI n))) :=
  Gives.of_calls (args := [.int .i64 n]) fun w _ => (RRoot_any n _ w hn (rootI_is hn.1)).mono fun _ _ h => ⟨h.1, h.2 ▸ Below.refl _ _⟩
end Go.Proofs.Ytpgjbfbdappniaa
