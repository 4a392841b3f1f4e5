/-
  Plain arithmetic: the floor of the square root, by Newton's steps and by halving.
-/
import Derived.WalkKit
import Derived.Lib.BitFns
namespace Go.Proofs.Ytpgjbfbdappniaa
open Go.RowKit

/-- r is the floor of the square root of n. -/
def IsRoot (n r : Int) : Prop := 0 ≤ r ∧ r * r ≤ n ∧ n < (r + 1) * (r + 1)
theorem sq_le {a b : Int} (h0 : 0 ≤ a) (h : a ≤ b) : a * a ≤ b * b := Int.mul_le_mul h h h0 (by omega)
theorem lt_of_sq {a b : Int} (hb : 0 ≤ b) (h : a * a < b * b) : a < b := by
  rcases Int.lt_or_le a b with h1 | h1
  · exact h1
  · have := sq_le hb h1; omega
theorem root_unique {n r s : Int} (h : IsRoot n r) (k : IsRoot n s) : r = s := by
  obtain ⟨h0, h1, h2⟩ := h
  obtain ⟨k0, k1, k2⟩ := k
  have a1 : r < s + 1 := lt_of_sq (by omega) (by omega)
  have a2 : s < r + 1 := lt_of_sq (by omega) (by omega)
  omega
/-- One of Newton's steps: y is not less than the root. -/
theorem newton_ge {n x r : Int} (hr : IsRoot n r) (hx : 1 ≤ x) : r ≤ (x + n / x) / 2 := by
  obtain ⟨h0, h1, h2⟩ := hr
  have he := Int.mul_ediv_add_emod n x
  have hm := Int.emod_lt_of_pos n (b := x) (by omega)
  -- suppose x + n/x < 2r; then x (2r - x) > n ≥ r², against (r - x)² ≥ 0
  rcases Int.lt_or_le ((x + n / x) / 2) r with h | h
  · exfalso
    have hq : n / x + 1 ≤ 2 * r - x := by omega
    have h3 : x * (n / x + 1) ≤ x * (2 * r - x) := Int.mul_le_mul_of_nonneg_left hq (by omega)
    have h4 : x * (n / x + 1) = x * (n / x) + x := by rw [Int.mul_add]; omega
    have h5 : 0 ≤ (r - x) * (r - x) := by
      rcases Int.le_total 0 (r - x) with g | g
      · exact Int.mul_nonneg g g
      · exact Int.mul_nonneg_of_nonpos_of_nonpos g g
    have h6 : (r - x) * (r - x) = r * r - 2 * (x * r) + x * x := by
      rw [Int.sub_mul, Int.mul_sub, Int.mul_sub, Int.mul_comm r x]; omega
    have h7 : x * (2 * r - x) = 2 * (x * r) - x * x := by
      rw [Int.mul_sub, Int.mul_left_comm]
    omega
  · exact h
/-- If the step does not go down, x is the root. -/
theorem newton_stop {n x r : Int} (hr : IsRoot n r) (hx : 1 ≤ x) (hge : r ≤ x) (h : x ≤ (x + n / x) / 2) : x = r := by
  obtain ⟨h0, h1, h2⟩ := hr
  have he := Int.mul_ediv_add_emod n x
  have hm := Int.emod_nonneg n (b := x) (by omega)
  have hq : x ≤ n / x := by omega
  have h3 : x * x ≤ x * (n / x) := Int.mul_le_mul_of_nonneg_left hq (by omega)
  have : x < r + 1 := lt_of_sq (by omega) (by omega)
  omega
theorem root_pos {n r : Int} (hr : IsRoot n r) (hn : 1 ≤ n) : 1 ≤ r := by
  obtain ⟨h0, h1, h2⟩ := hr
  rcases Int.lt_or_le r 1 with h | h
  · have : r = 0 := by omega
    subst this; omega
  · exact h
/-- There is a root. -/
theorem root_exists (n : Nat) : ∃ r : Int, IsRoot n r := by
  induction n with
  | zero => exact ⟨0, by omega, by omega, by omega⟩
  | succ n ih =>
    obtain ⟨r, h0, h1, h2⟩ := ih
    by_cases h : ((n : Int) + 1) < (r + 1) * (r + 1)
    · exact ⟨r, h0, by omega, by omega⟩
    · refine ⟨r + 1, by omega, by omega, ?_⟩
      have : (r + 1 + 1) * (r + 1 + 1) = (r + 1) * (r + 1) + 2 * (r + 1) + 1 := by
        rw [Int.add_mul (r + 1) 1, Int.mul_add (r + 1) (r + 1) 1]; omega
      omega
theorem root_of {n : Int} (h : 0 ≤ n) : ∃ r : Int, IsRoot n r := by
  obtain ⟨r, hr⟩ := root_exists n.toNat
  rw [Int.toNat_of_nonneg h] at hr
  exact ⟨r, hr⟩
/-- What the length in bits says. -/
theorem bitLenAux_spec : ∀ (f x : Nat), x < 2 ^ f → x < 2 ^ Lib.bitLenAux f x ∧ (x ≠ 0 → 1 ≤ Lib.bitLenAux f x ∧ 2 ^ (Lib.bitLenAux f x - 1) ≤ x)
  | 0, x, h => by
    have : x = 0 := by simpa using h
    subst this; simp [Lib.bitLenAux]
  | f + 1, x, h => by
    unfold Lib.bitLenAux
    by_cases h0 : x = 0
    · subst h0; simp
    · rw [if_neg h0]
      have hx : x / 2 < 2 ^ f := by rw [Nat.pow_succ] at h; omega
      obtain ⟨h1, h2⟩ := bitLenAux_spec f (x / 2) hx
      refine ⟨?_, fun _ => ⟨by omega, ?_⟩⟩
      · rw [Nat.add_comm, Nat.pow_succ]; omega
      · rw [show 1 + Lib.bitLenAux f (x / 2) - 1 = Lib.bitLenAux f (x / 2) from by omega]
        by_cases h3 : x / 2 = 0
        · have hz : Lib.bitLenAux f (x / 2) = 0 := by rw [h3]; cases f <;> simp [Lib.bitLenAux]
          rw [hz]; simp; omega
        · obtain ⟨g1, g2⟩ := h2 h3
          have : 2 ^ Lib.bitLenAux f (x / 2) = 2 ^ (Lib.bitLenAux f (x / 2) - 1) * 2 := by
            rw [← Nat.pow_succ]; congr 1; omega
          omega
theorem bitLen_bd {x : Nat} (h0 : x ≠ 0) {m : Nat} (h : x < 2 ^ m) (hm : m ≤ 64) : x < 2 ^ Lib.bitLen x ∧ 1 ≤ Lib.bitLen x ∧ Lib.bitLen x ≤ m := by
  have hx : x < 2 ^ 64 := Nat.lt_of_lt_of_le h (Nat.pow_le_pow_right (by omega) hm)
  obtain ⟨h1, h2⟩ := bitLenAux_spec 64 x hx
  obtain ⟨h3, h4⟩ := h2 h0
  refine ⟨h1, h3, ?_⟩
  have h5 : 2 ^ (Lib.bitLen x - 1) < 2 ^ m := Nat.lt_of_le_of_lt h4 h
  have h6 := (Nat.pow_lt_pow_iff_right (a := 2) (by omega)).1 h5
  omega
/-- Newton's start is not less than the root. -/
theorem start_ge {n r : Int} (hr : IsRoot n r) (h0 : 1 ≤ n) (h1 : n < 2 ^ 63) : ∀ L : Nat, L = Lib.bitLen n.toNat → 1 ≤ (L + 1) / 2 ∧ (L + 1) / 2 ≤ 32 ∧ r < ((2 ^ ((L + 1) / 2) : Nat) : Int) := by
  intro L hL
  have hb := bitLen_bd (x := n.toNat) (by omega) (m := 63) (by omega) (by omega)
  rw [← hL] at hb
  obtain ⟨b1, b2, b3⟩ := hb
  refine ⟨by omega, by omega, ?_⟩
  have h2 : 2 ^ L ≤ 2 ^ ((L + 1) / 2) * 2 ^ ((L + 1) / 2) := by
    rw [← Nat.pow_add]; exact Nat.pow_le_pow_right (by omega) (by omega)
  have h5 : n.toNat < 2 ^ ((L + 1) / 2) * 2 ^ ((L + 1) / 2) := Nat.lt_of_lt_of_le b1 h2
  clear b1 h2
  generalize 2 ^ ((L + 1) / 2) = p at *
  have h3 : n < (p : Int) * (p : Int) := by
    have h4 : (n.toNat : Int) < ((p * p : Nat) : Int) := Int.ofNat_lt.2 h5
    rw [Int.natCast_mul] at h4
    omega
  obtain ⟨k0, k1, k2⟩ := hr
  exact lt_of_sq (by omega) (by omega)
theorem wrap_pow {k : Nat} (h : k ≤ 32) : wrap64 ((2 : Int) ^ k) = ((2 ^ k : Nat) : Int) ∧ ((2 ^ k : Nat) : Int) ≤ 4294967296 := by
  have h1 : 2 ^ k ≤ 2 ^ 32 := Nat.pow_le_pow_right (by omega) h
  have h2 : ((2 : Int) ^ k) = ((2 ^ k : Nat) : Int) := by simp
  have h3 : ((2 ^ k : Nat) : Int) ≤ 4294967296 := by omega
  have h4 : 0 ≤ ((2 ^ k : Nat) : Int) := Int.natCast_nonneg _
  refine ⟨?_, h3⟩
  rw [h2]
  generalize ((2 ^ k : Nat) : Int) = p at *
  exact IntWalk.wrap64_in _ ⟨by omega, by omega⟩
end Go.Proofs.Ytpgjbfbdappniaa
