/-
  Plain arithmetic: the greatest common divisor by halving and subtracting.
-/
import Derived.WalkKit
namespace Go.Proofs.Ytadgoodfhlmlmaa
open Go.RowKit

theorem odd_coprime {q : Nat} (h : q % 2 = 1) : Nat.Coprime 2 q := by
  unfold Nat.Coprime
  rw [Nat.gcd_rec, h]; rfl
theorem gcd_half_left {p q : Nat} (hp : p % 2 = 0) (hq : q % 2 = 1) : (p / 2).gcd q = p.gcd q := by
  have h := (odd_coprime hq).gcd_mul_left_cancel (p / 2)
  rw [show 2 * (p / 2) = p from by omega] at h
  exact h.symm
theorem gcd_half_right {p q : Nat} (hp : p % 2 = 1) (hq : q % 2 = 0) : p.gcd (q / 2) = p.gcd q := by
  rw [Nat.gcd_comm, gcd_half_left hq hp, Nat.gcd_comm]
theorem gcd_half_both {p q : Nat} (hp : p % 2 = 0) (hq : q % 2 = 0) : p.gcd q = 2 * (p / 2).gcd (q / 2) := by
  rw [← Nat.gcd_mul_left, show 2 * (p / 2) = p from by omega, show 2 * (q / 2) = q from by omega]
theorem gcd_sub_left {p q : Nat} (hp : p % 2 = 1) (hq : q % 2 = 1) (h : q < p) : ((p - q) / 2).gcd q = p.gcd q := by
  rw [gcd_half_left (by omega) hq, Nat.gcd_sub_self_left (by omega)]
theorem gcd_sub_right {p q : Nat} (hp : p % 2 = 1) (hq : q % 2 = 1) (h : p < q) : p.gcd ((q - p) / 2) = p.gcd q := by
  rw [Nat.gcd_comm, gcd_sub_left hq hp h, Nat.gcd_comm]
/-- One step of Euclid's. -/
theorem gcd_step (p q : Nat) : q.gcd (p % q) = p.gcd q := by
  rw [Nat.gcd_comm p q, Nat.gcd_rec q p, Nat.gcd_comm]
def absN (x : Int) : Nat := x.natAbs
theorem absN_pos {x : Int} (h : 0 ≤ x) : ((absN x : Nat) : Int) = x := by unfold absN; omega
theorem absN_neg {x : Int} (h : x ≤ 0) : ((absN x : Nat) : Int) = -x := by unfold absN; omega
end Go.Proofs.Ytadgoodfhlmlmaa
