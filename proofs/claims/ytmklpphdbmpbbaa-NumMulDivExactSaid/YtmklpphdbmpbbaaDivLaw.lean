/-
  Long division by two digits (plain law). No program in sight.
-/
import Derived.Test.YtmklpphdbmpbbaaRootMath
import Derived.Laws.BitsAllLaws
import Derived.Laws.MathBits
namespace Go.Proofs.Ytmklpphdbmpbbaa
open Go.RowKit
set_option linter.unusedVariables false
section
variable {v1 v0 u d q rh y : Nat}
theorem kn_iff (hy : y = v1 * 4294967296 + v0) (h : rh + q * v1 = u) : q * y ≤ u * 4294967296 + d ↔ q * v0 ≤ rh * 4294967296 + d := by
  subst hy h
  have e1 : q * (v1 * 4294967296 + v0) = q * v1 * 4294967296 + q * v0 := by rw [Nat.mul_add, Nat.mul_assoc]
  have e2 : (rh + q * v1) * 4294967296 = rh * 4294967296 + q * v1 * 4294967296 := Nat.add_mul ..
  rw [e1, e2]; omega
theorem kn_le (hy : y = v1 * 4294967296 + v0) (h0 : 0 < y) (h : rh + q * v1 = u) (hc : q * v0 ≤ rh * 4294967296 + d) : q ≤ (u * 4294967296 + d) / y :=
  (Nat.le_div_iff_mul_le h0).2 ((kn_iff hy h).2 hc)
theorem kn_gt (hy : y = v1 * 4294967296 + v0) (h0 : 0 < y) (h : rh + q * v1 = u) (hc : rh * 4294967296 + d < q * v0) : (u * 4294967296 + d) / y < q := by
  rcases Nat.lt_or_ge ((u * 4294967296 + d) / y) q with h1 | h1
  · exact h1
  · have := (kn_iff hy h).1 ((Nat.le_div_iff_mul_le h0).1 h1)
    omega
theorem kn_top (hu : u < y) (hd : d < 4294967296) : (u * 4294967296 + d) / y < 4294967296 := by
  refine Nat.div_lt_of_lt_mul ?_
  have := Nat.mul_le_mul_right 4294967296 (show u + 1 ≤ y by omega)
  omega
theorem kn_init (hy : y = v1 * 4294967296 + v0) (h1 : 0 < v1) (hd : d < 4294967296) : (u * 4294967296 + d) / y ≤ u / v1 := by
  refine (Nat.le_div_iff_mul_le h1).2 ?_
  generalize hs : (u * 4294967296 + d) / y = s
  have h2 : s * y ≤ u * 4294967296 + d := by rw [← hs]; exact Nat.div_mul_le_self _ _
  have e1 : s * y = s * v1 * 4294967296 + s * v0 := by rw [hy, Nat.mul_add, Nat.mul_assoc]
  omega
theorem kn_bound (hy : y = v1 * 4294967296 + v0) (h1 : 2147483648 ≤ v1) (h0 : v0 < 4294967296) (hu : u < y) : u / v1 ≤ 4294967297 := by
  have : u / v1 < 4294967298 := Nat.div_lt_of_lt_mul (by omega)
  omega
end
theorem wrap64 (n : Int) : IntKind.u64.wrap n = n % 18446744073709551616 := IntKind.wrap_u64 n
theorem wrapN (n : Nat) : IntKind.u64.wrap (n : Int) = ((n % 18446744073709551616 : Nat) : Int) := by rw [wrap64]; omega
theorem wrapI {n : Int} {m : Nat} (h : n = (m : Int)) (hm : m < 18446744073709551616) : IntKind.u64.wrap n = (m : Int) := by rw [wrap64, h]; omega
theorem fdivN (n k : Nat) : ((n : Int)).fdiv (2 ^ k) = ((n / 2 ^ k : Nat) : Int) := by
  rw [Int.fdiv_eq_ediv_of_nonneg _ (by exact Int.le_of_lt (Int.pow_pos (by decide)))]
  push_cast; rfl
theorem orN {a b s : Nat} (ha : a * 2 ^ s < 18446744073709551616) (hb : b < 2 ^ s) (hs : 2 ^ s ≤ 18446744073709551616) : bits .or .u64 ((a * 2 ^ s : Nat) : Int) (b : Int) = ((a * 2 ^ s + b : Nat) : Int) := by
  rw [u64_or_nat _ _ ha (by omega), Nat.mul_comm a, ← Nat.two_pow_add_eq_or_of_lt hb]
end Go.Proofs.Ytmklpphdbmpbbaa
