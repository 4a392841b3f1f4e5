/-
  Merged: XBlend, XIn.
-/
import Derived.Laws.EntriesVeiled
import Derived.WalkKit
import Derived.WalkLawsBesides
import Derived.Handy
import Derived.Test.YtampdegpfndggaaMrg4
import Derived.Test.YtampdegpfndggaaMrg5
import Derived.Test.YtampdegpfndggaaProg
import Derived.Test.YtampdegpfndggaaMrg3
namespace Go.Proofs.Ytampdegpfndggaa
open Go.RowKit

def u8B (x : Int) : Prop := 0 ≤ x ∧ x ≤ 255
/-- The product of two amounts of which 255 is the whole. -/
def mulV (b s : Int) : Int := near (b * s) 255
theorem mulV_bd {b s : Int} (hb : 0 ≤ b ∧ b ≤ 255) (hs : 0 ≤ s ∧ s ≤ 255) : 0 ≤ mulV b s ∧ mulV b s ≤ 255 := by
  have := mul_bd hb hs
  exact near_bd _ _ _ (by omega) (by omega) (by omega)
def hardV (b s : Int) : Int := if s ≤ 127 then mulV b (2 * s) else 255 - mulV (255 - b) (510 - 2 * s)
theorem hardV_bd {b s : Int} (hb : 0 ≤ b ∧ b ≤ 255) (hs : 0 ≤ s ∧ s ≤ 255) : 0 ≤ hardV b s ∧ hardV b s ≤ 255 := by
  unfold hardV
  split
  · exact mulV_bd hb (by omega)
  · have := mulV_bd (b := 255 - b) (s := 510 - 2 * s) (by omega) (by omega)
    omega
def dodgeV (b s : Int) : Int := if b = 0 then 0 else if 255 - s ≤ b then 255 else near (255 * b) (255 - s)
theorem dodgeV_bd {b s : Int} (hb : 0 ≤ b ∧ b ≤ 255) (hs : 0 ≤ s ∧ s ≤ 255) : 0 ≤ dodgeV b s ∧ dodgeV b s ≤ 255 := by
  unfold dodgeV
  split
  · omega
  · split
    · omega
    · exact near_bd _ _ _ (by omega) (by omega) (by omega)
def burnV (b s : Int) : Int := if b = 255 then 255 else if s ≤ 255 - b then 0 else 255 - near (255 * (255 - b)) s
theorem burnV_bd {b s : Int} (hb : 0 ≤ b ∧ b ≤ 255) (hs : 0 ≤ s ∧ s ≤ 255) : 0 ≤ burnV b s ∧ burnV b s ≤ 255 := by
  unfold burnV
  split
  · omega
  · split
    · omega
    · have := near_bd (255 * (255 - b)) s 255 (by omega) (by omega) (by omega)
      omega
def softV (b s : Int) : Int := near ((255 - 2 * s) * b * b + 510 * s * b) 65025
theorem soft_eq (b s : Int) : (255 - 2 * s) * b * b + 510 * s * b = 255 * (b * b) + 2 * (s * (b * (255 - b))) := by
  have e1 : (255 - 2 * s) * b * b = 255 * (b * b) - 2 * (s * (b * b)) := by
    rw [Int.mul_assoc, Int.sub_mul, Int.mul_assoc 2 s]
  have e2 : s * (b * (255 - b)) = 255 * (s * b) - s * (b * b) := by
    rw [Int.mul_sub, Int.mul_sub, Int.mul_comm b 255, Int.mul_left_comm s 255 b]
  have e3 : 510 * s * b = 510 * (s * b) := Int.mul_assoc _ _ _
  omega
theorem soft_in {b s : Int} (hb : 0 ≤ b ∧ b ≤ 255) (hs : 0 ≤ s ∧ s ≤ 255) : 0 ≤ (255 - 2 * s) * b * b + 510 * s * b ∧ (255 - 2 * s) * b * b + 510 * s * b ≤ 255 * 65025 := by
  rw [soft_eq]
  have h1 := mul_bd hb hb
  have h2 := mul_bd hb (b := 255 - b) (B := 255 - b) ⟨by omega, by omega⟩
  have h3 : 0 ≤ b * (255 - b) := Int.mul_nonneg hb.1 (by omega)
  have h4 : 0 ≤ s * (b * (255 - b)) := Int.mul_nonneg hs.1 h3
  have h5 : s * (b * (255 - b)) ≤ 255 * (b * (255 - b)) := Int.mul_le_mul_of_nonneg_right hs.2 h3
  have h6 : b * (255 - b) = 255 * b - b * b := by rw [Int.mul_sub, Int.mul_comm]
  have h7 : 0 ≤ (255 - b) * (255 - b) := Int.mul_nonneg (by omega) (by omega)
  have h8 : (255 - b) * (255 - b) = 65025 - 510 * b + b * b := by
    rw [Int.sub_mul, Int.mul_sub b 255 b, Int.mul_comm b 255]; omega
  omega
theorem softV_bd {b s : Int} (hb : 0 ≤ b ∧ b ≤ 255) (hs : 0 ≤ s ∧ s ≤ 255) : 0 ≤ softV b s ∧ softV b s ≤ 255 := by
  have := soft_in hb hs
  exact near_bd _ _ _ (by omega) this.1 this.2
def exclV (b s : Int) : Int := b + s - near (2 * b * s) 255
theorem exclV_bd {b s : Int} (hb : 0 ≤ b ∧ b ≤ 255) (hs : 0 ≤ s ∧ s ≤ 255) : 0 ≤ exclV b s ∧ exclV b s ≤ 255 := by
  unfold exclV
  have h0 : 2 * b * s = 2 * (b * s) := Int.mul_assoc _ _ _
  have h1 := mul_bd hb hs
  have h2 : b * s ≤ b * 255 := Int.mul_le_mul_of_nonneg_left hs.2 hb.1
  have h3 : b * s ≤ 255 * s := Int.mul_le_mul_of_nonneg_right hb.2 hs.1
  have h4 : 0 ≤ (255 - b) * (255 - s) := Int.mul_nonneg (by omega) (by omega)
  have h5 : (255 - b) * (255 - s) = 65025 - 255 * b - 255 * s + b * s := by
    rw [Int.sub_mul, Int.mul_sub b 255 s, Int.mul_comm b 255]; omega
  have h6 := near_bd (2 * b * s) 255 (b + s) (by omega) (by omega) (by omega)
  have h7 : b + s - 255 ≤ 2 * b * s / 255 := by
    by_cases hn : b + s - 255 ≤ 0
    · have := Int.ediv_nonneg (a := 2 * b * s) (b := 255) (by omega) (by omega)
      omega
    · exact Int.le_ediv_of_mul_le (by omega) (by omega)
  have h8 : 2 * b * s / 255 ≤ near (2 * b * s) 255 := by unfold near; split <;> omega
  omega
/-- The lightness of a mode. -/
def blV (k b s : Int) : Int :=
  if k = 1 then mulV b s else if k = 2 then 255 - mulV (255 - b) (255 - s) else if k = 3 then hardV s b else if k = 4 then (if s < b then s else b) else if k = 5 then (if b < s then s else b)
  else if k = 6 then dodgeV b s else if k = 7 then burnV b s else if k = 8 then hardV b s else if k = 9 then softV b s else if k = 10 then (if b < s then s - b else b - s) else if k = 11 then exclV b s else s
theorem blV_bd {k b s : Int} (hb : 0 ≤ b ∧ b ≤ 255) (hs : 0 ≤ s ∧ s ≤ 255) : 0 ≤ blV k b s ∧ blV k b s ≤ 255 := by
  have h1 := mulV_bd hb hs
  have h2 := mulV_bd (b := 255 - b) (s := 255 - s) (by omega) (by omega)
  have h3 := hardV_bd hs hb
  have h4 := hardV_bd hb hs
  have h5 := dodgeV_bd hb hs
  have h6 := burnV_bd hb hs
  have h7 := softV_bd hb hs
  have h8 := exclV_bd hb hs
  unfold blV
  by_cases k1 : k = 1
  · rw [if_pos k1]; exact h1
  rw [if_neg k1]
  by_cases k2 : k = 2
  · rw [if_pos k2]; omega
  rw [if_neg k2]
  by_cases k3 : k = 3
  · rw [if_pos k3]; exact h3
  rw [if_neg k3]
  by_cases k4 : k = 4
  · rw [if_pos k4]; split <;> omega
  rw [if_neg k4]
  by_cases k5 : k = 5
  · rw [if_pos k5]; split <;> omega
  rw [if_neg k5]
  by_cases k6 : k = 6
  · rw [if_pos k6]; exact h5
  rw [if_neg k6]
  by_cases k7 : k = 7
  · rw [if_pos k7]; exact h6
  rw [if_neg k7]
  by_cases k8 : k = 8
  · rw [if_pos k8]; exact h4
  rw [if_neg k8]
  by_cases k9 : k = 9
  · rw [if_pos k9]; exact h7
  rw [if_neg k9]
  by_cases k10 : k = 10
  · rw [if_pos k10]; split <;> omega
  rw [if_neg k10]
  by_cases k11 : k = 11
  · rw [if_pos k11]; exact h8
  rw [if_neg k11]
  exact hs
set_option maxHeartbeats 1000000 in
theorem bmul_any (b s : Int) (w : World) (hb : 0 ≤ b ∧ b ≤ 255) (hs : 0 ≤ s ∧ s ≤ 255) :
    Calls Try.prog 139 #[.int .i64 b, .int .i64 s] w fun e w' => e = .returned (.int .i64 (mulV b s)) ∧ w = w' := by
  have hm := mulV_bd hb hs
  unfold mulV at hm ⊢
  go_enter Try.func139, Try.ntmps139
  go_wp2_with (first | (go_at_call 154; refine (Mul255_any _ _ _ (by omega) (by omega)).mono ?_; rintro e w' ⟨rfl, rfl⟩))
  go_ret
  exact ⟨ret_int (by rfl), rfl⟩
set_option maxHeartbeats 1000000 in
theorem bhard_any (b s : Int) (w : World) (hb : 0 ≤ b ∧ b ≤ 255) (hs : 0 ≤ s ∧ s ≤ 255) :
    Calls Try.prog 142 #[.int .i64 b, .int .i64 s] w fun e w' => e = .returned (.int .i64 (hardV b s)) ∧ w = w' := by
  have e1 : Hid (2 * (255 - s) = 510 - 2 * s) := by show 2 * (255 - s) = 510 - 2 * s; omega
  by_cases h : s ≤ 127
  · have HV : Hid (hardV b s = mulV b (2 * s)) := by show hardV b s = mulV b (2 * s); rw [hardV, if_pos h]
    have h1 := mulV_bd (b := b) (s := 2 * s) (by omega) (by omega)
    go_enter Try.func142, Try.ntmps142
    go_wp2_with (first | (go_at_call 139; refine (bmul_any _ _ _ (by omega) (by omega)).mono ?_; rintro e w' ⟨rfl, rfl⟩))
    go_ret
    exact ⟨ret_int HV.out.symm, rfl⟩
  · have HV : Hid (hardV b s = 255 - mulV (255 - b) (510 - 2 * s)) := by show hardV b s = 255 - mulV (255 - b) (510 - 2 * s); rw [hardV, if_neg h]
    have h1 := mulV_bd (b := 255 - b) (s := 510 - 2 * s) (by omega) (by omega)
    have h2 := h1
    rw [← e1.out] at h2
    go_enter Try.func142, Try.ntmps142
    go_wp2_with (first | (go_at_call 139; refine (bmul_any _ _ _ (by omega) (by omega)).mono ?_; rintro e w' ⟨rfl, rfl⟩))
    go_ret
    exact ⟨ret_int (by rw [HV.out]; try rw [e1.out]), rfl⟩
set_option maxHeartbeats 1000000 in
theorem rhard_any (b s : Int) (w : World) (hb : 0 ≤ b ∧ b ≤ 255) (hs : 0 ≤ s ∧ s ≤ 255) :
    Calls Try.prog 99 #[.int .i64 b, .int .i64 s] w fun e w' => e = .returned (.int .i64 (hardV b s)) ∧ w = w' := by
  have e1 : Hid (2 * (255 - s) = 510 - 2 * s) := by show 2 * (255 - s) = 510 - 2 * s; omega
  by_cases h : s ≤ 127
  · have HV : Hid (hardV b s = mulV b (2 * s)) := by show hardV b s = mulV b (2 * s); rw [hardV, if_pos h]
    have h1 := mulV_bd (b := b) (s := 2 * s) (by omega) (by omega)
    try unfold mulV at *
    go_enter Try.func99, Try.ntmps99
    go_wp2_with (first | (go_at_call 98; refine (RMul_any _ _ _ (by omega) (by omega)).mono ?_; rintro e w' ⟨rfl, rfl⟩))
    go_ret
    exact ⟨ret_int HV.out.symm, rfl⟩
  · have HV : Hid (hardV b s = 255 - mulV (255 - b) (510 - 2 * s)) := by show hardV b s = 255 - mulV (255 - b) (510 - 2 * s); rw [hardV, if_neg h]
    have h1 := mulV_bd (b := 255 - b) (s := 510 - 2 * s) (by omega) (by omega)
    have h2 := h1
    rw [← e1.out] at h2
    try unfold mulV at *
    go_enter Try.func99, Try.ntmps99
    go_wp2_with (first | (go_at_call 98; refine (RMul_any _ _ _ (by omega) (by omega)).mono ?_; rintro e w' ⟨rfl, rfl⟩))
    go_ret
    exact ⟨ret_int (by rw [HV.out]; try rw [e1.out]), rfl⟩
set_option maxHeartbeats 1000000 in
theorem bdodge_any (b s : Int) (w : World) (hb : 0 ≤ b ∧ b ≤ 255) (hs : 0 ≤ s ∧ s ≤ 255) :
    Calls Try.prog 145 #[.int .i64 b, .int .i64 s] w fun e w' => e = .returned (.int .i64 (dodgeV b s)) ∧ w = w' := by
  by_cases h0 : b = 0
  · skip
    go_enter Try.func145, Try.ntmps145
    go_wp2_with (first | (go_at_call 100; refine (Near_any _ _ _ (by omega) (by omega)).mono ?_; rintro e w' ⟨rfl, rfl⟩))
    go_ret
    exact ⟨ret_int (by unfold dodgeV; (repeat' split) <;> omega), rfl⟩
  by_cases h1 : 255 - s ≤ b
  · skip
    go_enter Try.func145, Try.ntmps145
    go_wp2_with (first | (go_at_call 100; refine (Near_any _ _ _ (by omega) (by omega)).mono ?_; rintro e w' ⟨rfl, rfl⟩))
    go_ret
    exact ⟨ret_int (by unfold dodgeV; (repeat' split) <;> omega), rfl⟩
  go_enter Try.func145, Try.ntmps145
  go_wp2_with (first | (go_at_call 100; refine (Near_any _ _ _ (by omega) (by omega)).mono ?_; rintro e w' ⟨rfl, rfl⟩))
  go_ret
  exact ⟨ret_int (by unfold dodgeV; (repeat' split) <;> omega), rfl⟩
set_option maxHeartbeats 1000000 in
theorem bburn_any (b s : Int) (w : World) (hb : 0 ≤ b ∧ b ≤ 255) (hs : 0 ≤ s ∧ s ≤ 255) :
    Calls Try.prog 146 #[.int .i64 b, .int .i64 s] w fun e w' => e = .returned (.int .i64 (burnV b s)) ∧ w = w' := by
  have hn : ¬ b = 255 → ¬ s ≤ 255 - b → 0 ≤ near (255 * (255 - b)) s ∧ near (255 * (255 - b)) s ≤ 255 := fun _ _ => near_bd _ _ _ (by omega) (by omega) (by omega)
  by_cases h0 : b = 255
  · skip
    go_enter Try.func146, Try.ntmps146
    go_wp2_with (first | (go_at_call 100; refine (Near_any _ _ _ (by omega) (by omega)).mono ?_; rintro e w' ⟨rfl, rfl⟩))
    go_ret
    exact ⟨ret_int (by unfold burnV; (repeat' split) <;> omega), rfl⟩
  by_cases h1 : s ≤ 255 - b
  · skip
    go_enter Try.func146, Try.ntmps146
    go_wp2_with (first | (go_at_call 100; refine (Near_any _ _ _ (by omega) (by omega)).mono ?_; rintro e w' ⟨rfl, rfl⟩))
    go_ret
    exact ⟨ret_int (by unfold burnV; (repeat' split) <;> omega), rfl⟩
  go_enter Try.func146, Try.ntmps146
  go_wp2_with (first | (go_at_call 100; refine (Near_any _ _ _ (by omega) (by omega)).mono ?_; rintro e w' ⟨rfl, rfl⟩))
  go_ret
  exact ⟨ret_int (by unfold burnV; (repeat' split) <;> omega), rfl⟩
end Go.Proofs.Ytampdegpfndggaa

namespace Go.Proofs.Ytampdegpfndggaa
open Go.RowKit

theorem In_any (x l h : Int) (w : World) :
    Calls Try.prog 16 #[.int .i64 x, .int .i64 l, .int .i64 h] w fun e w' => e = .returned (.bool (inB x l h)) ∧ w = w' := by
  by_cases h1 : l ≤ x <;> by_cases h2 : x ≤ h
  all_goals
    go_enter Try.func16, Try.ntmps16
    go_wp2
    go_ret
    exact ⟨ret_bool (by simp [inB, h1, h2]), rfl⟩

end Go.Proofs.Ytampdegpfndggaa
