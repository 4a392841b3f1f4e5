/-
  Contracts of num.Sqrt and of the reference's Root.
-/
import Derived.Test.YtpgjbfbdappniaaMrg3
import Derived.Test.YtpgjbfbdappniaaRootMath
import Derived.Test.YtpgjbfbdappniaaShelf
namespace Go.Proofs.Ytpgjbfbdappniaa
open Go.RowKit

set_option maxHeartbeats 400000 in
theorem Sqrt_any (n r : Int) (w : World) (hn : 0 ≤ n ∧ n ≤ 4611686018427387904) (hr : IsRoot n r) :
    Calls Try.prog 54 #[.int .i64 n] w fun e w' => e = .returned (.int .i64 r) ∧ w = w' := by
  by_cases h2 : n < 2
  · have h : n = r := by
      obtain ⟨h0, h1, h3⟩ := hr
      have : n = 0 ∨ n = 1 := by omega
      rcases this with rfl | rfl
      · have : r < 1 := lt_of_sq (by omega) (by omega)
        omega
      · have a1 : r < 2 := lt_of_sq (by omega) (by omega)
        have a2 : 0 < r + 1 := by omega
        rcases Int.lt_or_le r 1 with h | h
        · have : r = 0 := by omega
          subst this; omega
        · omega
    have H : Hid (n = r) := h
    clear h
    go_enter Try.func54, Try.ntmps54
    go_wp2
    go_ret
    exact ⟨ret_int H.out, rfl⟩
  · obtain ⟨L, hL⟩ : ∃ L, L = Lib.bitLen n.toNat := ⟨_, rfl⟩
    obtain ⟨g1, g2, g3⟩ := start_ge hr (by omega) (by omega) L hL
    have HL : Hid (L = Lib.bitLen n.toNat) := hL
    clear hL
    have HC : Hid (Calls Try.prog 68 #[.int .u64 n] w fun e w' => e = .returned (.int .i64 L) ∧ w' = w) := by rw [HL.out]; exact Try.bits_Len n w (by omega) (by omega)
    go_enter Try.func54, Try.ntmps54
    go_wp2_with (go_at_call 68; refine (HC.out).mono ?_; rintro e w' ⟨rfl, rfl⟩)
    obtain ⟨g4, g5⟩ := wrap_pow (k := (L + 1) / 2) g2
    go_loop [3] (fun x => ∃ X : Int, r ≤ X ∧ 1 ≤ X ∧ X ≤ 4294967296 ∧ x = .int .i64 X) (fun x => (intOf x).toNat)
    case atStart => exact ⟨_, by omega, by have := root_pos hr (by omega); omega, by omega, rfl⟩
    case round =>
      obtain ⟨X, x1, x2, x3, rfl⟩ := hrel
      have hd := ediv_abs n X x2
      have hge := newton_ge hr x2
      have hst : X ≤ (X + n / X) / 2 → X = r := newton_stop hr x2 x1
      have hr1 := root_pos hr (by omega)
      have HS : Hid (X ≤ (X + n / X) / 2 → X = r) := hst
      clear hst g4 g5 g3 HC HL
      go_wp2
      · have : X = r := HS.out (by assumption)
        go_ret
        exact ⟨ret_int this, rfl⟩
      · go_round
        case rel => exact ⟨_, hge, by omega, by omega, rfl⟩
        case measure => simp [intOf]; omega

set_option maxHeartbeats 400000 in
theorem RRoot_any (n r : Int) (w : World) (hn : 0 ≤ n ∧ n ≤ 4611686018427387904) (hr : IsRoot n r) :
    Calls Try.prog 62 #[.int .i64 n] w fun e w' => e = .returned (.int .i64 r) ∧ w = w' := by
  go_enter Try.func62, Try.ntmps62
  go_wp2
  go_loop [3, 4] (fun l h => ∃ L H : Int, 0 ≤ L ∧ L < H ∧ H ≤ 2147483649 ∧ L * L ≤ n ∧ n < H * H ∧ l = .int .i64 L ∧ h = .int .i64 H) (fun l h => (intOf h - intOf l).toNat)
  case atStart => exact ⟨0, 2147483649, by omega, by omega, by omega, by omega, by omega, rfl, rfl⟩
  case round =>
    obtain ⟨L, H, l0, l1, l2, l3, l4, rfl, rfl⟩ := hrel
    by_cases hgo : 1 < H - L
    · have hm : 0 ≤ (L + H) / 2 ∧ (L + H) / 2 ≤ 2147483648 := by omega
      have hmm := sq_le hm.1 hm.2
      have hm0 := Int.mul_nonneg hm.1 hm.1
      by_cases hc : (L + H) / 2 * ((L + H) / 2) ≤ n
      · go_wp2
        go_round
        case rel => exact ⟨_, _, hm.1, by omega, l2, hc, l4, rfl, rfl⟩
        case measure => simp [intOf]; omega
      · go_wp2
        go_round
        case rel => exact ⟨_, _, l0, by omega, by omega, l3, by omega, rfl, rfl⟩
        case measure => simp [intOf]; omega
    · have hu : L = r := by
        have : H = L + 1 := by omega
        subst this
        exact root_unique ⟨l0, l3, l4⟩ hr
      have HU : Hid (L = r) := hu
      clear hu
      go_wp2
      go_ret
      exact ⟨ret_int HU.out, rfl⟩
end Go.Proofs.Ytpgjbfbdappniaa
