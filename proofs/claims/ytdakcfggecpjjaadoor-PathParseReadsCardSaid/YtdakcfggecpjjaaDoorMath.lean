/-
  Plain arithmetic on integers: quotients that are cut toward zero and quotients that are rounded down. No program in sight.
-/
import Derived.WalkKit
namespace Go.Proofs.YtdakcfggecpjjaaDoor
open Go.RowKit

theorem tdiv_floor (a b : Int) (hb : 1 ≤ b) : a / b = if a.tmod b < 0 then a.tdiv b - 1 else a.tdiv b := by
  have hd := Int.mul_tdiv_add_tmod a b
  have h1 : a.tmod b < b := Int.tmod_lt_of_pos a (by omega)
  have h2 : -b < a.tmod b := by
    have := Int.tmod_lt_of_pos (-a) (b := b) (by omega)
    rw [Int.neg_tmod] at this
    omega
  split
  · rename_i h
    refine ((Int.ediv_emod_unique (a := a) (b := b) (r := a.tmod b + b) (q := a.tdiv b - 1) (by omega)).2 ⟨?_, ?_, ?_⟩).1
    · rw [Int.mul_sub]; omega
    · omega
    · omega
  · rename_i h
    exact ((Int.ediv_emod_unique (a := a) (b := b) (r := a.tmod b) (q := a.tdiv b) (by omega)).2 ⟨by omega, by omega, by omega⟩).1
theorem tmod_floor (a b : Int) (hb : 1 ≤ b) : a % b = if a.tmod b < 0 then a.tmod b + b else a.tmod b := by
  have h := tdiv_floor a b hb
  have hd := Int.mul_tdiv_add_tmod a b
  have he := Int.mul_ediv_add_emod a b
  split at h
  · rename_i h1; rw [if_pos h1]; rw [h, Int.mul_sub] at he; omega
  · rename_i h1; rw [if_neg h1]; rw [h] at he; omega
theorem ediv_abs (a b : Int) (hb : 1 ≤ b) : (0 ≤ a → 0 ≤ a / b ∧ a / b ≤ a) ∧ (a ≤ 0 → a ≤ a / b ∧ a / b ≤ 0) := by
  refine ⟨fun h => ⟨Int.ediv_nonneg h (by omega), Int.ediv_le_self b h⟩, fun h => ⟨?_, ?_⟩⟩
  · refine Int.le_ediv_of_mul_le (by omega) ?_
    have := Int.mul_le_mul_of_nonpos_left (a := a) h (c := 1) (b := b) (by omega)
    omega
  · have hm := Int.emod_nonneg a (b := b) (by omega)
    have he := Int.mul_ediv_add_emod a b
    by_cases h0 : a / b ≤ 0
    · exact h0
    · have : b * 1 ≤ b * (a / b) := Int.mul_le_mul_of_nonneg_left (by omega) (by omega)
      omega
theorem tdiv_abs (a b : Int) (hb : 1 ≤ b) : (0 ≤ a → 0 ≤ a.tdiv b ∧ a.tdiv b ≤ a) ∧ (a ≤ 0 → a ≤ a.tdiv b ∧ a.tdiv b ≤ 0) := by
  have h := ediv_abs a b hb
  have h' := ediv_abs (-a) b hb
  constructor
  · intro h0; rw [Int.tdiv_eq_ediv_of_nonneg h0]; exact h.1 h0
  · intro h0
    have e : a.tdiv b = -((-a) / b) := by
      rw [← Int.tdiv_eq_ediv_of_nonneg (by omega), Int.neg_tdiv]; omega
    have := h'.1 (by omega)
    rw [e]; omega
/-- The remainder of a division that is rounded down. -/
theorem emod_eq (a b : Int) : a - a / b * b = a % b := by
  have he := Int.mul_ediv_add_emod a b
  rw [Int.mul_comm] at he; omega
theorem emod_bd (a b : Int) (hb : 1 ≤ b) : 0 ≤ a % b ∧ a % b < b := ⟨Int.emod_nonneg a (by omega), Int.emod_lt_of_pos a (by omega)⟩
/-- Rounded to the nearest number, half up. -/
def near (a b : Int) : Int := if b - a % b ≤ a % b then a / b + 1 else a / b
theorem near_eq (a b : Int) (hb : 1 ≤ b) : (2 * a + b) / (2 * b) = near a b := by
  have he := Int.mul_ediv_add_emod a b
  have hm := emod_bd a b hb
  unfold near
  split
  · refine ((Int.ediv_emod_unique (a := 2 * a + b) (b := 2 * b) (r := 2 * (a % b) - b) (q := a / b + 1) (by omega)).2 ⟨?_, ?_, ?_⟩).1
    · rw [Int.mul_add, Int.mul_assoc]; omega
    · omega
    · omega
  · refine ((Int.ediv_emod_unique (a := 2 * a + b) (b := 2 * b) (r := 2 * (a % b) + b) (q := a / b) (by omega)).2 ⟨?_, ?_, ?_⟩).1
    · rw [Int.mul_assoc]; omega
    · omega
    · omega
theorem near_abs (a b : Int) (hb : 1 ≤ b) : (0 ≤ a → 0 ≤ near a b ∧ near a b ≤ a + 1) ∧ (a ≤ 0 → a ≤ near a b ∧ near a b ≤ 1) := by
  have h := ediv_abs a b hb
  unfold near
  constructor
  · intro h0; have := h.1 h0; split <;> omega
  · intro h0; have := h.2 h0; split <;> omega
theorem sub_emod_tdiv (a b : Int) (hb : 1 ≤ b) : (a - a % b).tdiv b = a / b := by
  have he := Int.mul_ediv_add_emod a b
  have : a - a % b = b * (a / b) := by omega
  rw [this, Int.mul_tdiv_cancel_left _ (by omega)]
theorem tmod_bd (a b : Int) (hb : 1 ≤ b) : -b < a.tmod b ∧ a.tmod b < b := by
  have h1 : a.tmod b < b := Int.tmod_lt_of_pos a (by omega)
  have := Int.tmod_lt_of_pos (-a) (b := b) (by omega)
  rw [Int.neg_tmod] at this
  exact ⟨by omega, h1⟩
theorem ret_int {k : IntKind} {a b : Int} (h : a = b) : Ending.returned (.int k a) = .returned (.int k b) := by rw [h]
theorem ret_bool {a b : Bool} (h : a = b) : Ending.returned (.bool a) = .returned (.bool b) := by rw [h]
theorem tup2 {a b a' b' : Value} (h : a = a') (k : b = b') : Ending.returned (.tuple #[a, b]) = .returned (.tuple #[a', b']) := by rw [h, k]
/-- x lies between l and h. -/
def inB (x l h : Int) : Bool := decide (l ≤ x ∧ x ≤ h)
theorem inB_yes {x l h : Int} (k : l ≤ x ∧ x ≤ h) : inB x l h = true := decide_eq_true k
theorem inB_no {x l h : Int} (k : ¬ (l ≤ x ∧ x ≤ h)) : inB x l h = false := decide_eq_false k
theorem inB_iff {x l h : Int} : inB x l h = true ↔ l ≤ x ∧ x ≤ h := by simp [inB]
/-- A permitted number. -/
def fit (x : Int) : Bool := inB x (-1099511627776) 1099511627776
theorem fit_yes {x : Int} (h : -1099511627776 ≤ x ∧ x ≤ 1099511627776) : fit x = true := inB_yes h
theorem fit_no {x : Int} (h : ¬ (-1099511627776 ≤ x ∧ x ≤ 1099511627776)) : fit x = false := inB_no h
theorem all_take_succ (p : Int → Bool) (zs : List Int) (k : Nat) (hk : k < zs.length) : (zs.take (k + 1)).all p = ((zs.take k).all p && p zs[k]) := by
  rw [List.take_succ_eq_append_getElem hk, List.all_append]; simp
theorem near_bd (a b m : Int) (hb : 1 ≤ b) (h0 : 0 ≤ a) (h1 : a ≤ m * b) : 0 ≤ near a b ∧ near a b ≤ m := by
  have he := Int.mul_ediv_add_emod a b
  have hm := emod_bd a b hb
  have hd := ediv_abs a b hb
  have hq : a / b ≤ m := Int.ediv_le_of_le_mul (by omega) (by omega)
  have hq0 := (hd.1 h0).1
  unfold near
  split
  · have : a / b ≠ m := by
      intro e; rw [e] at he
      have : b * m = m * b := Int.mul_comm _ _
      omega
    omega
  · omega
theorem mul_bd {a b A B : Int} (ha : 0 ≤ a ∧ a ≤ A) (hb : 0 ≤ b ∧ b ≤ B) : 0 ≤ a * b ∧ a * b ≤ A * B :=
  ⟨Int.mul_nonneg ha.1 hb.1, Int.mul_le_mul ha.2 hb.2 hb.1 (by omega)⟩

end Go.Proofs.YtdakcfggecpjjaaDoor
