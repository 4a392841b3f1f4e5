/-
  The walk of the law RasterChecks: Make and Check accept 1 to 1024 columns and rows, and as many pixels as these have.
-/
import Derived.Test.YtoiblpncofbdpaaKnown
import Derived.Test.YtoiblpncofbdpaaMake
import Derived.Test.YtoiblpncofbdpaaFlat
namespace Go.Proofs.Ytoiblpncofbdpaa.rasterChecks
open Go.RowKit

theorem u8_bd {z : Int} (h : (Lit.int .u8 z).wf = true) : 0 ≤ z ∧ z ≤ 255 := by
  simp [Lit.wf, IntKind.min, IntKind.max, IntKind.signed, IntKind.bits] at h
  omega
theorem cut40 (x : Int) : ∃ c : Nat, (1 ≤ c ∧ c ≤ 40) ∧ ∀ w, Calls Try.prog 28 #[.int .i64 x, .int .i64 1, .int .i64 40] w fun e w' => e = .returned (.int .i64 c) ∧ w = w' := by
  have hb := emod_bd x 40 (by omega)
  refine ⟨(1 + x % 40).toNat, by omega, fun w => ?_⟩
  rw [Int.toNat_of_nonneg (by omega)]
  exact cut_any x 1 40 w (by omega)
set_option maxRecDepth 20000 in
set_option maxHeartbeats 4000000 in
theorem walk_in (x y v : Int) (A : Option Addr) (n cap : Nat) (w : World) (hn : n ≤ cap ∧ cap ≤ 9223372036854775807) (hv : 0 ≤ v ∧ v ≤ 255) (hx : inB x 1 1024 = true) (hy : inB y 1 1024 = true) (e : Int) (hE : gridE x y n = e) (he : (e = 0 ∧ ((n : Int) != x * y) = false) ∨ (e = 4 ∧ ((n : Int) != x * y) = true)) :
    Calls Try.prog 6 #[.int .i64 x, .int .i64 y, .slice A n cap, .int .u8 v] w fun e w' => e = .returned (.bool true) ∧ Below w.heap.size w w' := by
  obtain ⟨c, hc, hcut⟩ := cut40 x
  obtain ⟨d, hd, hdut⟩ := cut40 y
  have hm := mul_1024 (inB_iff.1 hx) (inB_iff.1 hy)
  have hcd : c * d ≤ 1600 := Nat.mul_le_mul hc.2 hd.2
  have hcdi : Hid ((c : Int) * d = ((c * d : Nat) : Int)) := Int.natCast_mul c d |>.symm
  have HE : Hid _ := hE
  have H1 : Hid _ := hcut
  have H2 : Hid _ := hdut
  clear hE hcut hdut
  rcases he with ⟨rfl, hne⟩ | ⟨rfl, hne⟩
  all_goals
    go_enter Try.func6, Try.ntmps6
    go_wp2_with fail
    refine (known_any _).mono ?_
    rintro e w1 ⟨rfl, hb1⟩
    have hz1 := hb1.size
    go_wp2_with (first | (go_at_call 22; refine (In_any _ _ _ _).mono ?_; rintro e w' ⟨rfl, rfl⟩))
    refine (gridCheck_any x y A n cap _).mono ?_
    rw [HE.out]
    rintro e w' ⟨rfl, rfl⟩
    go_wp2_with fail
    refine (H1.out _).mono ?_
    rintro e w' ⟨rfl, rfl⟩
    go_wp2_with fail
    refine (H2.out _).mono ?_
    rintro e w' ⟨rfl, rfl⟩
    go_wp2_with fail
    refine (Make_any c d v _ (by omega) (by omega) hv).mono ?_
    rintro e w2 ⟨B, rfl, hb2, hB⟩
    have hBH : Hid _ := hB
    clear hB
    have b2 : Hid (Below w.heap.size w w2) := show Below w.heap.size w w2 from step_le hb2 (by (repeat' (with_reducible first | exact Below.refl _ _ | refine past_le ?_ ?_ _ | refine Below.alloc ?_ ?_ _ | refine Below.drew ?_ | refine drewN_le ?_ _ | refine Below.setCell ?_ ?_ _ | refine step_le (by assumption) ?_ ?_ | omega | (simp only []; omega) | (simp only [World.size_alloc]; omega) | (simp only [World.size_setCell]; omega) | (simp only [World.size_drew]; omega) | (simp only [World.size_alloc, World.size_setCell]; omega) | (simp only [World.size_alloc, World.size_drew]; omega) | (simp only [World.size_setCell, World.size_drew]; omega) | (simp only [World.size_alloc, World.size_setCell, World.size_drew]; omega)))) (by simp only [World.size_alloc]; omega)
    clear hb2 hb1
    have hci := hcdi.out
    generalize c * d = m at *
    have hm1 : m ≤ 1600 := hcd
    go_wp2_with fail
    go_loop [80] (fun i => ∃ k : Nat, k ≤ m ∧ i = .int .i64 k) (fun i => m - (intOf i).toNat)
    case atStart => exact ⟨0, Nat.zero_le _, rfl⟩
    case round =>
      obtain ⟨k, hk, rfl⟩ := hrel
      by_cases hlt : k < m
      · obtain ⟨b, off, rfl, hbs, hpx⟩ := hBH.out (by omega)
        have h0 := hpx k hlt
        clear hpx
        go_wp2_with fail
        go_round
        case rel => exact ⟨k + 1, by omega, by go_num⟩
        case measure => simp [intOf]; omega
      · have : k = m := by omega
        subst this
        go_wp2_with fail
        go_ret
        exact ⟨by simp, b2.out.alloc b2.out.size _⟩
set_option maxRecDepth 20000 in
set_option maxHeartbeats 4000000 in
theorem walk_out (x y v : Int) (A : Option Addr) (n cap : Nat) (w : World) (h : ¬(inB x 1 1024 = true ∧ inB y 1 1024 = true)) :
    Calls Try.prog 6 #[.int .i64 x, .int .i64 y, .slice A n cap, .int .u8 v] w fun e w' => e = .returned (.bool true) ∧ Below w.heap.size w w' := by
  have HE : Hid (gridE x y n = 3) := by show gridE x y n = 3; rw [gridE, if_pos h]
  have HN : Hid _ := fun w' => Make_no x y v w' h
  by_cases hx : inB x 1 1024 = true
  · have hy : inB y 1 1024 = false := by simpa [hx] using h
    clear h
    go_enter Try.func6, Try.ntmps6
    go_wp2_with fail
    refine (known_any _).mono ?_
    rintro e w1 ⟨rfl, hb1⟩
    have hz1 := hb1.size
    go_wp2_with (first | (go_at_call 22; refine (In_any _ _ _ _).mono ?_; rintro e w' ⟨rfl, rfl⟩))
    refine (gridCheck_any x y A n cap _).mono ?_
    rw [HE.out]
    rintro e w' ⟨rfl, rfl⟩
    go_wp2_with fail
    refine (HN.out _).mono ?_
    rintro e w2 ⟨rfl, hb2⟩
    have b2 : Hid (Below w.heap.size w w2) := show Below w.heap.size w w2 from step_le hb2 (by (repeat' (with_reducible first | exact Below.refl _ _ | refine past_le ?_ ?_ _ | refine Below.alloc ?_ ?_ _ | refine Below.drew ?_ | refine drewN_le ?_ _ | refine Below.setCell ?_ ?_ _ | refine step_le (by assumption) ?_ ?_ | omega | (simp only []; omega) | (simp only [World.size_alloc]; omega) | (simp only [World.size_setCell]; omega) | (simp only [World.size_drew]; omega) | (simp only [World.size_alloc, World.size_setCell]; omega) | (simp only [World.size_alloc, World.size_drew]; omega) | (simp only [World.size_setCell, World.size_drew]; omega) | (simp only [World.size_alloc, World.size_setCell, World.size_drew]; omega)))) (by simp only [World.size_alloc]; omega)
    clear hb2 hb1
    go_wp2_with fail
    go_ret
    exact ⟨by simp, b2.out.alloc b2.out.size _⟩
  · have hx : inB x 1 1024 = false := by simpa using hx
    clear h
    go_enter Try.func6, Try.ntmps6
    go_wp2_with fail
    refine (known_any _).mono ?_
    rintro e w1 ⟨rfl, hb1⟩
    have hz1 := hb1.size
    go_wp2_with (first | (go_at_call 22; refine (In_any _ _ _ _).mono ?_; rintro e w' ⟨rfl, rfl⟩))
    refine (gridCheck_any x y A n cap _).mono ?_
    rw [HE.out]
    rintro e w' ⟨rfl, rfl⟩
    go_wp2_with fail
    refine (HN.out _).mono ?_
    rintro e w2 ⟨rfl, hb2⟩
    have b2 : Hid (Below w.heap.size w w2) := show Below w.heap.size w w2 from step_le hb2 (by (repeat' (with_reducible first | exact Below.refl _ _ | refine past_le ?_ ?_ _ | refine Below.alloc ?_ ?_ _ | refine Below.drew ?_ | refine drewN_le ?_ _ | refine Below.setCell ?_ ?_ _ | refine step_le (by assumption) ?_ ?_ | omega | (simp only []; omega) | (simp only [World.size_alloc]; omega) | (simp only [World.size_setCell]; omega) | (simp only [World.size_drew]; omega) | (simp only [World.size_alloc, World.size_setCell]; omega) | (simp only [World.size_alloc, World.size_drew]; omega) | (simp only [World.size_setCell, World.size_drew]; omega) | (simp only [World.size_alloc, World.size_setCell, World.size_drew]; omega)))) (by simp only [World.size_alloc]; omega)
    clear hb2 hb1
    go_wp2_with fail
    go_ret
    exact ⟨by simp, b2.out.alloc b2.out.size _⟩
set_option linter.unusedVariables false in
theorem walk (a0 : Int) (a1 : Int) (A2 : Option Addr) (n2 : Nat) (q2 : Nat) (g2 : Nat → Nat → Value) (a3 : Int) (w : World) (w0 : (Lit.int .i64 a0).wf = true) (w1 : (Lit.int .i64 a1).wf = true) (c2 : n2 ≤ q2) (m2 : q2 ≤ maxLen) (s2 : SliceG Try.prog w 5 A2 n2 g2) (w3 : (Lit.int .u8 a3).wf = true) :
    Calls Try.prog 6 #[.int .i64 a0, .int .i64 a1, .slice A2 n2 q2, .int .u8 a3] w fun e w' => e = .returned (.bool true) ∧ Below w.heap.size w w' := by
  unfold maxLen at m2
  by_cases h : inB a0 1 1024 = true ∧ inB a1 1 1024 = true
  · by_cases hn : (n2 : Int) = a0 * a1
    · exact walk_in a0 a1 a3 A2 n2 q2 w ⟨c2, m2⟩ (u8_bd w3) h.1 h.2 0 (by rw [gridE, if_neg (by simp [h]), if_neg (by simpa using hn)]) (.inl ⟨rfl, by simpa using hn⟩)
    · exact walk_in a0 a1 a3 A2 n2 q2 w ⟨c2, m2⟩ (u8_bd w3) h.1 h.2 4 (by rw [gridE, if_neg (by simp [h]), if_pos (by simpa using hn)]) (.inr ⟨rfl, by simpa using hn⟩)
  · exact walk_out a0 a1 a3 A2 n2 q2 w h
end Go.Proofs.Ytoiblpncofbdpaa.rasterChecks
