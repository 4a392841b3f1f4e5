/-
  bits.Div64, bits.Mul64, num.size: contracts.
-/
import Derived.Test.YtmklpphdbmpbbaaDiv64
import Derived.Test.YtmklpphdbmpbbaaShelf
namespace Go.Proofs.Ytmklpphdbmpbbaa
open Go.RowKit
set_option linter.unusedVariables false
set_option maxRecDepth 20000
theorem LZ_gives {c s : Nat} {G : Mem} (hcb : c < 18446744073709551616) (hs : (64 - (Lib.bitLen c : Int)) = (s : Int)) : Gives Try.prog 51 [.val (.int .u64 c)] G (.val (.int .i64 s)) := by
  rw [← hs]
  refine Gives.of_calls (args := [.int .u64 c]) fun w _ => ?_
  refine (Try.bits_LeadingZeros64 (c : Int) w (by omega) (by omega)).mono ?_
  rintro e w' ⟨rfl, rfl⟩
  exact ⟨by rw [Int.toNat_natCast], Below.refl _ _⟩
theorem Mul64_gives {x y : Nat} {G : Mem} (hx : x < 18446744073709551616) (hy : y < 18446744073709551616) : Gives Try.prog 35 [.val (.int .u64 x), .val (.int .u64 y)] G (.tup [.val (.int .u64 ((x * y / 18446744073709551616 : Nat) : Int)), .val (.int .u64 ((x * y % 18446744073709551616 : Nat) : Int))]) := by
  refine Gives.of_callsA (args := [.int .u64 x, .int .u64 y]) (y := .tuple #[.int .u64 ((x * y / 18446744073709551616 : Nat) : Int), .int .u64 ((x * y % 18446744073709551616 : Nat) : Int)]) (fun vs h => rels_plain (m := [.int .u64 x, .int .u64 y]) h) ?_ fun w _ => ?_
  · simp only [AV.rel]
    exact ⟨_, rfl, rels_map_val [.int .u64 ((x * y / 18446744073709551616 : Nat) : Int), .int .u64 ((x * y % 18446744073709551616 : Nat) : Int)]⟩
  · refine (Try.bits_Mul64 x y hx hy w).mono ?_
    rintro e w' ⟨rfl, rfl⟩
    exact ⟨rfl, Below.refl _ _⟩
set_option maxHeartbeats 2000000 in
theorem size_gives {x : Int} {G : Mem} (hx : -1099511627776 ≤ x ∧ x ≤ 1099511627776) : Gives Try.prog 36 [.val (.int .i64 x)] G (.val (.int .u64 ((x.natAbs : Nat) : Int))) := by
  refine Gives_of tab_ok Try.func36 ?_
  by_cases h : x < 0
  · have e1 : IntKind.u64.wrap x = x + 18446744073709551616 := by rw [wrap64]; omega
    have e2 : IntKind.u64.wrap (0 - (x + 18446744073709551616)) = ((x.natAbs : Nat) : Int) := by rw [wrap64]; omega
    have e3 : IntKind.u64.wrap (-(x + 18446744073709551616)) = ((x.natAbs : Nat) : Int) := by rw [wrap64]; omega
    (repeat ((try (conv => whnf)); (first | (with_reducible refine ArP_as _ e1 ?_) | (with_reducible refine ArP_as _ e2 ?_) | (with_reducible refine ArP_as _ e3 ?_) | (with_reducible refine condP_true ?_) | (with_reducible refine condP_false ?_) | (with_reducible refine condP_not ?_) | (with_reducible refine condP_and ?_) | ((with_reducible refine condP_dt ?_ ?_); (· omega)) | ((with_reducible refine condP_df ?_ ?_); (· omega)) | ((with_reducible refine condP_yes ?_ ?_); (· assumption)) | ((with_reducible refine condP_no ?_ ?_); (· assumption)) | ((with_reducible refine ArP_i64 ?_ ?_); (· omega)) | ((with_reducible refine mustP.mk ?_ ?_); (· first | omega | rfl | (dsimp only; omega))) | (with_reducible refine EqP_nil tab_ok ?_) | (with_reducible refine EqP_sli tab_ok ?_) | (with_reducible refine DrawP_auto tab_ok (by kernel_rfl) (by decide +kernel) ?_) | (with_reducible refine DrawP_auto2 tab_ok (by kernel_rfl) (by decide +kernel) ?_) | (with_reducible refine eq28 ?_) | (with_reducible refine eq33 ?_) | (with_reducible refine eq95 ?_) | (with_reducible refine eq115 ?_))))
    exact ⟨rfl, rfl⟩
  · have e1 : IntKind.u64.wrap x = ((x.natAbs : Nat) : Int) := by rw [wrap64]; omega
    (repeat ((try (conv => whnf)); (first | (with_reducible refine ArP_as _ e1 ?_) | (with_reducible refine condP_true ?_) | (with_reducible refine condP_false ?_) | (with_reducible refine condP_not ?_) | (with_reducible refine condP_and ?_) | ((with_reducible refine condP_dt ?_ ?_); (· omega)) | ((with_reducible refine condP_df ?_ ?_); (· omega)) | ((with_reducible refine condP_yes ?_ ?_); (· assumption)) | ((with_reducible refine condP_no ?_ ?_); (· assumption)) | ((with_reducible refine ArP_i64 ?_ ?_); (· omega)) | ((with_reducible refine mustP.mk ?_ ?_); (· first | omega | rfl | (dsimp only; omega))) | (with_reducible refine EqP_nil tab_ok ?_) | (with_reducible refine EqP_sli tab_ok ?_) | (with_reducible refine DrawP_auto tab_ok (by kernel_rfl) (by decide +kernel) ?_) | (with_reducible refine DrawP_auto2 tab_ok (by kernel_rfl) (by decide +kernel) ?_) | (with_reducible refine eq28 ?_) | (with_reducible refine eq33 ?_) | (with_reducible refine eq95 ?_) | (with_reducible refine eq115 ?_))))
    exact ⟨rfl, rfl⟩
set_option maxHeartbeats 2000000 in
theorem Div64_gives {hi lo c : Nat} {G : Mem} (hc : 1 ≤ c ∧ c ≤ 1099511627776) (hh : hi < c) (hlo : lo < 18446744073709551616) {Q R : Nat} (hQ : (hi * 18446744073709551616 + lo) / c = Q) (hR : (hi * 18446744073709551616 + lo) % c = R) :
    Gives Try.prog 37 [.val (.int .u64 hi), .val (.int .u64 lo), .val (.int .u64 c)] G (.tup [.val (.int .u64 Q), .val (.int .u64 R)]) := by
  rcases Nat.eq_zero_or_pos hi with h0 | h0
  · subst h0
    rw [Nat.zero_mul, Nat.zero_add] at hQ hR
    have e1 : IntKind.u64.wrap ((lo : Int).tdiv (c : Int)) = (Q : Int) := by
      rw [Int.tdiv_eq_ediv_of_nonneg (by omega), show ((lo : Int) / (c : Int)) = ((lo / c : Nat) : Int) by push_cast; rfl, hQ]
      exact wrapI rfl (by rw [← hQ]; exact Nat.lt_of_le_of_lt (Nat.div_le_self _ _) hlo)
    have e2 : (lo : Int).tmod (c : Int) = (R : Int) := by
      rw [Int.tmod_eq_emod_of_nonneg (by omega), ← hR]; push_cast; rfl
    refine Gives_of tab_ok Try.func37 ?_
    (repeat ((try (conv => whnf)); (first | (with_reducible refine ArP_as _ e1 ?_) | (with_reducible refine condP_true ?_) | (with_reducible refine condP_false ?_) | (with_reducible refine condP_not ?_) | (with_reducible refine condP_and ?_) | ((with_reducible refine condP_dt ?_ ?_); (· omega)) | ((with_reducible refine condP_df ?_ ?_); (· omega)) | ((with_reducible refine condP_yes ?_ ?_); (· assumption)) | ((with_reducible refine condP_no ?_ ?_); (· assumption)) | ((with_reducible refine ArP_i64 ?_ ?_); (· omega)) | ((with_reducible refine mustP.mk ?_ ?_); (· first | omega | rfl | (dsimp only; omega))) | (with_reducible refine EqP_nil tab_ok ?_) | (with_reducible refine EqP_sli tab_ok ?_) | (with_reducible refine DrawP_auto tab_ok (by kernel_rfl) (by decide +kernel) ?_) | (with_reducible refine DrawP_auto2 tab_ok (by kernel_rfl) (by decide +kernel) ?_) | (with_reducible refine eq28 ?_) | (with_reducible refine eq33 ?_) | (with_reducible refine eq95 ?_) | (with_reducible refine eq115 ?_))))
    rw [e2]
    exact ⟨rfl, rfl⟩
  · have hbd := bitLen_bd (x := c) (by omega) (m := 41) (by omega) (by omega)
    have hsp := (bitLenAux_spec 64 c (by omega)).2 (by omega)
    have hb2 : 2 ^ (Lib.bitLen c - 1) ≤ c := hsp.2
    generalize hbl : Lib.bitLen c = bl at *
    obtain ⟨s, hs⟩ : ∃ s, 64 - bl = s := ⟨_, rfl⟩
    have hP : 0 < 2 ^ s := Nat.two_pow_pos s
    have h64 : 2 ^ bl * 2 ^ s = 18446744073709551616 := by rw [← Nat.pow_add, show bl + s = 64 by omega]
    have h63 : 2 ^ (bl - 1) * 2 ^ s = 9223372036854775808 := by rw [← Nat.pow_add, show bl - 1 + s = 63 by omega]
    have hls : 2 ^ (64 - s) * 2 ^ s = 18446744073709551616 := by rw [← Nat.pow_add, show 64 - s + s = 64 by omega]
    have hyl : c * 2 ^ s < 18446744073709551616 := by rw [← h64]; exact Nat.mul_lt_mul_of_pos_right hbd.1 hP
    have hyg : 9223372036854775808 ≤ c * 2 ^ s := by rw [← h63]; exact Nat.mul_le_mul_right _ hb2
    have hL := LZ_gives (c := c) (s := s) (G := G) (by omega) (by rw [hbl]; omega)
    have hl2 : lo / 2 ^ (64 - s) < 2 ^ s := Nat.div_lt_of_lt_mul (by rw [hls]; exact hlo)
    have hu : hi * 2 ^ s + lo / 2 ^ (64 - s) < c * 2 ^ s := by
      have := Nat.mul_le_mul_right (2 ^ s) (show hi + 1 ≤ c by omega)
      rw [Nat.add_mul, Nat.one_mul] at this; omega
    -- the dividend, shifted
    have hU : (hi * 18446744073709551616 + lo) * 2 ^ s = (hi * 2 ^ s + lo / 2 ^ (64 - s)) * 18446744073709551616 + lo * 2 ^ s % 18446744073709551616 := by
      have h1 : lo * 2 ^ s / 18446744073709551616 = lo / 2 ^ (64 - s) := by rw [← hls, Nat.mul_comm (2 ^ (64 - s)), Nat.mul_comm lo, Nat.mul_div_mul_left _ _ hP]
      have h2 := Nat.div_add_mod (lo * 2 ^ s) 18446744073709551616
      rw [h1] at h2
      rw [Nat.add_mul, ← h2, Nat.add_mul]
      have h3 : hi * 18446744073709551616 * 2 ^ s = hi * 2 ^ s * 18446744073709551616 := by rw [Nat.mul_assoc, Nat.mul_comm 18446744073709551616, ← Nat.mul_assoc]
      rw [h3]
      generalize lo / 2 ^ (64 - s) = l2
      omega
    have hQ' : (hi * 18446744073709551616 + lo) * 2 ^ s / (c * 2 ^ s) = Q := by rw [Nat.mul_div_mul_right _ _ hP, hQ]
    have hR' : (hi * 18446744073709551616 + lo) * 2 ^ s % (c * 2 ^ s) = R * 2 ^ s := by rw [Nat.mul_mod_mul_right, hR]
    rw [hU] at hQ' hR'
    generalize hyd : c * 2 ^ s = y at *
    generalize hud : hi * 2 ^ s + lo / 2 ^ (64 - s) = u at *
    generalize hwd : lo * 2 ^ s % 18446744073709551616 = w at *
    have hw : w < 18446744073709551616 := by rw [← hwd]; exact Nat.mod_lt _ (by decide)
    -- the quotient and the remainder, digit by digit
    obtain ⟨q1, hq1⟩ : ∃ q1, (u * 4294967296 + w / 4294967296) / y = q1 := ⟨_, rfl⟩
    obtain ⟨r1, hr1⟩ : ∃ r1, (u * 4294967296 + w / 4294967296) % y = r1 := ⟨_, rfl⟩
    obtain ⟨q0, hq0⟩ : ∃ q0, (r1 * 4294967296 + w % 4294967296) / y = q0 := ⟨_, rfl⟩
    obtain ⟨r2, hr0⟩ : ∃ r2, (r1 * 4294967296 + w % 4294967296) % y = r2 := ⟨_, rfl⟩
    have e1 : y * q1 + r1 = u * 4294967296 + w / 4294967296 := by rw [← hq1, ← hr1]; exact Nat.div_add_mod _ _
    have e2 : y * q0 + r2 = r1 * 4294967296 + w % 4294967296 := by rw [← hq0, ← hr0]; exact Nat.div_add_mod _ _
    have l2 : r2 < y := by rw [← hr0]; exact Nat.mod_lt _ (by omega)
    have hsum : u * 18446744073709551616 + w = r2 + y * (q1 * 4294967296 + q0) := by
      rw [Nat.mul_add, ← Nat.mul_assoc]
      clear hU hQ hR hQ' hR' h64 h63 hls hyd hud hwd hq1 hr1 hq0 hr0
      generalize y * q1 = z1 at e1 ⊢
      generalize y * q0 = z0 at e2 ⊢
      omega
    have hq2 : q1 * 4294967296 + q0 = Q := by
      rw [← hQ', hsum, Nat.add_mul_div_left _ _ (by omega), Nat.div_eq_of_lt l2, Nat.zero_add]
    have hr2 : r2 / 2 ^ s = R := by
      have : r2 = R * 2 ^ s := by rw [← hR', hsum, Nat.add_mul_mod_self_left, Nat.mod_eq_of_lt l2]
      rw [this, Nat.mul_div_cancel _ hP]
    have hs63 : s ≤ 63 := by omega
    have hcb : c < 18446744073709551616 := by omega
    have k1 : y = y / 4294967296 * 4294967296 + y % 4294967296 := by omega
    have k2 : 2147483648 ≤ y / 4294967296 := by omega
    have k3 : y % 4294967296 < 4294967296 := Nat.mod_lt _ (by decide)
    have k4 : w = w / 4294967296 * 4294967296 + w % 4294967296 := by omega
    have k5 : w / 4294967296 < 4294967296 := by omega
    have k6 : w % 4294967296 < 4294967296 := Nat.mod_lt _ (by decide)
    exact Div64_walk (s := s) hc.1 h0 hh hcb hlo hs63 hL hyd hyl k1 k2 k3 rfl hl2 hud hu hwd k4 k5 k6 hq1 hr1 hq0 hr0 hq2 hr2
end Go.Proofs.Ytmklpphdbmpbbaa
