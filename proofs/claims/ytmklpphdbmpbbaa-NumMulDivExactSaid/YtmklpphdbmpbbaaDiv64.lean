/-
  bits.Div64 (written by mkdiv.py).
-/
import Derived.Test.YtmklpphdbmpbbaaDivLaw
import Derived.Test.YtmklpphdbmpbbaaEz
import Derived.Test.YtmklpphdbmpbbaaEw
import Derived.Test.YtmklpphdbmpbbaaTab
namespace Go.Proofs.Ytmklpphdbmpbbaa
open Go.RowKit
set_option linter.unusedVariables false
set_option maxRecDepth 20000
theorem u64r {n : Int} (h : 0 ≤ n ∧ n ≤ 18446744073709551615) : IntKind.u64.wrap n = n := by rw [wrap64]; omega
/-- An equation that is kept from sight. -/
structure Eqn (a b : Int) : Prop where
  e : a = b
set_option maxHeartbeats 16000000 in
theorem Div64_walk {hi lo c s y v1 v0 l2 u w d1 d0 q1 r1 q0 r2 : Nat} {G : Mem} (hc : 1 ≤ c) (hh : 0 < hi) (hhc : hi < c) (hcb : c < 18446744073709551616) (hlo : lo < 18446744073709551616) (hs : s ≤ 63)
    (hL : Gives Try.prog 51 [.val (.int .u64 c)] G (.val (.int .i64 s)))
    (hyc : c * 2 ^ s = y) (hyb : y < 18446744073709551616) (hy : y = v1 * 4294967296 + v0) (hv1b : 2147483648 ≤ v1) (hv0 : v0 < 4294967296)
    (hl2 : lo / 2 ^ (64 - s) = l2) (hl2s : l2 < 2 ^ s) (hu2 : hi * 2 ^ s + l2 = u) (hu : u < y) (hw : lo * 2 ^ s % 18446744073709551616 = w) (hwd : w = d1 * 4294967296 + d0) (hd1 : d1 < 4294967296) (hd0 : d0 < 4294967296)
    (hq1 : (u * 4294967296 + d1) / y = q1) (hr1' : (u * 4294967296 + d1) % y = r1) (hq0 : (r1 * 4294967296 + d0) / y = q0) (hr0' : (r1 * 4294967296 + d0) % y = r2)
    {Q R : Nat} (hq2 : q1 * 4294967296 + q0 = Q) (hr2 : r2 / 2 ^ s = R) :
    Gives Try.prog 37 [.val (.int .u64 hi), .val (.int .u64 lo), .val (.int .u64 c)] G (.tup [.val (.int .u64 Q), .val (.int .u64 R)]) := by
  have hv1 : 0 < v1 := by omega
  have hy0 : 0 < y := by omega
  have hr1 : r1 < y := by rw [← hr1']; exact Nat.mod_lt _ hy0
  have hm : min ((s : Int)).toNat IntKind.u64.bits = s := by rw [Int.toNat_natCast]; exact Nat.min_eq_left (by show s ≤ 64; omega)
  have hm32 : min (Int.toNat 32) IntKind.u64.bits = 32 := rfl
  have hps : 2 ^ s ≤ 18446744073709551616 := Nat.le_trans (Nat.pow_le_pow_right (by decide) (show s ≤ 64 by omega)) (by decide)
  have hhs : hi * 2 ^ s < 18446744073709551616 := by omega
  have E1 : IntKind.u64.wrap ((c : Int) * 2 ^ (min ((s : Int)).toNat IntKind.u64.bits)) = (y : Int) := by rw [hm]; exact wrapI (by rw [← hyc]; push_cast; rfl) hyb
  have E2 : ((y : Int)).fdiv (2 ^ min (Int.toNat 32) IntKind.u64.bits) = (v1 : Int) := by rw [hm32, fdivN, show y / 2 ^ 32 = v1 by omega]
  have E3 : bits .and .u64 (y : Int) 4294967295 = (v0 : Int) := by rw [and_low32 _ (by omega) (by omega)]; omega
  have E4 : IntKind.u64.wrap ((hi : Int) * 2 ^ (min ((s : Int)).toNat IntKind.u64.bits)) = ((hi * 2 ^ s : Nat) : Int) := by rw [hm]; exact wrapI (by push_cast; rfl) hhs
  have E5 : IntKind.u64.wrap (64 - (s : Int)) = ((64 - s : Nat) : Int) := wrapI (by omega) (by omega)
  have E6 : ((lo : Int)).fdiv (2 ^ min (((64 - s : Nat) : Int)).toNat IntKind.u64.bits) = (l2 : Int) := by
    rw [show min (((64 - s : Nat) : Int)).toNat IntKind.u64.bits = 64 - s from by rw [Int.toNat_natCast]; exact Nat.min_eq_left (by show 64 - s ≤ 64; omega), fdivN, hl2]
  have E7 : bits .or .u64 ((hi * 2 ^ s : Nat) : Int) (l2 : Int) = (u : Int) := by rw [orN hhs hl2s hps, hu2]
  have E8 : IntKind.u64.wrap ((lo : Int) * 2 ^ (min ((s : Int)).toNat IntKind.u64.bits)) = (w : Int) := by
    rw [hm, show ((lo : Int) * 2 ^ s) = ((lo * 2 ^ s : Nat) : Int) by push_cast; rfl, wrapN, hw]
  have E9 : ((w : Int)).fdiv (2 ^ min (Int.toNat 32) IntKind.u64.bits) = (d1 : Int) := by rw [hm32, fdivN, show w / 2 ^ 32 = d1 by omega]
  have E10 : bits .and .u64 (w : Int) 4294967295 = (d0 : Int) := by rw [and_low32 _ (by omega) (by omega)]; omega
  have td : ∀ (a : Nat), a < y → IntKind.u64.wrap ((a : Int).tdiv (v1 : Int)) = ((a / v1 : Nat) : Int) := fun a ha => wrapI (by rw [Int.tdiv_eq_ediv_of_nonneg (by omega)]; push_cast; rfl) (Nat.lt_of_le_of_lt (Nat.div_le_self _ _) (by omega))
  have tm : ∀ (a : Nat), a < y → IntKind.u64.wrap (((a / v1 : Nat) : Int) * (v1 : Int)) = ((a / v1 * v1 : Nat) : Int) := fun a ha => wrapI (by push_cast; rfl) (Nat.lt_of_le_of_lt (Nat.div_mul_le_self _ _) (by omega))
  have ts : ∀ (a : Nat), a < y → IntKind.u64.wrap ((a : Int) - ((a / v1 * v1 : Nat) : Int)) = ((a % v1 : Nat) : Int) := fun a ha => wrapI (by
    have := Nat.mod_add_div a v1
    rw [Nat.mul_comm] at this
    omega) (Nat.lt_of_le_of_lt (Nat.mod_le _ _) (by omega))
  have E11 := td u hu
  have E12 := tm u hu
  have E13 := ts u hu
  have E21 := td r1 hr1
  have E22 := tm r1 hr1
  have E23 := ts r1 hr1
  have rem : ∀ (a d q r : Nat), (a * 4294967296 + d) / y = q → (a * 4294967296 + d) % y = r → IntKind.u64.wrap ((((a * 4294967296 + d) % 18446744073709551616 : Nat) : Int) - ((q * y % 18446744073709551616 : Nat) : Int)) = (r : Int) := fun a d q r h1 h2 => by
    have h3 : r < y := by rw [← h2]; exact Nat.mod_lt _ hy0
    have h4 := Nat.mod_add_div (a * 4294967296 + d) y
    rw [h1, h2, Nat.mul_comm] at h4
    rw [wrap64]
    generalize q * y = z at *
    omega
  have E15 : IntKind.u64.wrap ((u : Int) * 4294967296) = ((u * 4294967296 % 18446744073709551616 : Nat) : Int) := by rw [wrap64]; omega
  have E16 : IntKind.u64.wrap (((u * 4294967296 % 18446744073709551616 : Nat) : Int) + (d1 : Int)) = (((u * 4294967296 + d1) % 18446744073709551616 : Nat) : Int) := by rw [wrap64]; omega
  have E17 : IntKind.u64.wrap ((q1 : Int) * (y : Int)) = ((q1 * y % 18446744073709551616 : Nat) : Int) := by rw [show ((q1 : Int) * (y : Int)) = ((q1 * y : Nat) : Int) by push_cast; rfl, wrapN]
  have E18 := rem u d1 q1 r1 hq1 hr1'
  have E25 : IntKind.u64.wrap ((r1 : Int) * 4294967296) = ((r1 * 4294967296 % 18446744073709551616 : Nat) : Int) := by rw [wrap64]; omega
  have E26 : IntKind.u64.wrap (((r1 * 4294967296 % 18446744073709551616 : Nat) : Int) + (d0 : Int)) = (((r1 * 4294967296 + d0) % 18446744073709551616 : Nat) : Int) := by rw [wrap64]; omega
  have E27 : IntKind.u64.wrap ((q0 : Int) * (y : Int)) = ((q0 * y % 18446744073709551616 : Nat) : Int) := by rw [show ((q0 : Int) * (y : Int)) = ((q0 * y : Nat) : Int) by push_cast; rfl, wrapN]
  have E28 := rem r1 d0 q0 r2 hq0 hr0'
  have E29 : ((r2 : Int)).fdiv (2 ^ min ((s : Int)).toNat IntKind.u64.bits) = (R : Int) := by rw [hm, fdivN, hr2]
  replace E1 := Eqn.mk E1
  replace E2 := Eqn.mk E2
  replace E3 := Eqn.mk E3
  replace E4 := Eqn.mk E4
  replace E5 := Eqn.mk E5
  replace E6 := Eqn.mk E6
  replace E7 := Eqn.mk E7
  replace E8 := Eqn.mk E8
  replace E9 := Eqn.mk E9
  replace E10 := Eqn.mk E10
  replace E11 := Eqn.mk E11
  replace E12 := Eqn.mk E12
  replace E13 := Eqn.mk E13
  replace E15 := Eqn.mk E15
  replace E16 := Eqn.mk E16
  replace E17 := Eqn.mk E17
  replace E18 := Eqn.mk E18
  replace E21 := Eqn.mk E21
  replace E22 := Eqn.mk E22
  replace E23 := Eqn.mk E23
  replace E25 := Eqn.mk E25
  replace E26 := Eqn.mk E26
  replace E27 := Eqn.mk E27
  replace E28 := Eqn.mk E28
  replace E29 := Eqn.mk E29
  clear td tm ts rem
  refine Gives_of tab_ok Try.func37 ?_
  (repeat ((try (conv => whnf)); (first | (with_reducible refine ArP_as _ E1.e ?_) | (with_reducible refine ArP_as _ E4.e ?_) | (with_reducible refine ArP_as _ E5.e ?_) | (with_reducible refine ArP_as _ E8.e ?_) | (with_reducible refine ArP_as _ E11.e ?_) | (with_reducible refine ArP_as _ E12.e ?_) | (with_reducible refine ArP_as _ E13.e ?_) | (with_reducible refine isP.mk _ E2.e ?_) | (with_reducible refine isP.mk _ E3.e ?_) | (with_reducible refine isP.mk _ E6.e ?_) | (with_reducible refine isP.mk _ E7.e ?_) | (with_reducible refine isP.mk _ E9.e ?_) | (with_reducible refine isP.mk _ E10.e ?_) | (refine ArP_id (u64r ⟨by omega, by omega⟩) ?_) | (with_reducible refine condP_true ?_) | (with_reducible refine condP_false ?_) | (with_reducible refine condP_not ?_) | (with_reducible refine condP_and ?_) | ((with_reducible refine condP_dt ?_ ?_); (· omega)) | ((with_reducible refine condP_df ?_ ?_); (· omega)) | ((with_reducible refine condP_yes ?_ ?_); (· assumption)) | ((with_reducible refine condP_no ?_ ?_); (· assumption)) | ((with_reducible refine ArP_i64 ?_ ?_); (· omega)) | ((with_reducible refine mustP.mk ?_ ?_); (· first | omega | rfl | (dsimp only; omega))) | (with_reducible refine EqP_nil tab_ok ?_) | (with_reducible refine EqP_sli tab_ok ?_) | (with_reducible refine DrawP_auto tab_ok (by kernel_rfl) (by decide +kernel) ?_) | (with_reducible refine DrawP_auto2 tab_ok (by kernel_rfl) (by decide +kernel) ?_) | (with_reducible refine eq28 ?_) | (with_reducible refine eq33 ?_) | (with_reducible refine eq95 ?_) | (with_reducible refine eq115 ?_) | (with_reducible refine CallP_gives (fun vs w => by kernel_rfl) (by kernel_rfl) (hL) ?_) | (with_reducible refine RCallP_gives (fun vs w => by kernel_rfl) (by kernel_rfl) (hL) ?_))))
  conv => whnf
  have b0a := kn_init (u := u) (d := d1) hy hv1 hd1
  have b1a := kn_bound (u := u) hy hv1b hv0 hu
  have b2a := kn_top (d := d1) hu hd1
  rw [hq1] at b0a b2a
  refine LoopP_at2 tab_ok (fun (q rh : Nat) => q1 ≤ q ∧ q ≤ 4294967297 ∧ rh < 4294967296 ∧ rh + q * v1 = u) (fun q rh => [(15, .val (.int .u64 q)), (16, .val (.int .u64 rh))]) (fun _ _ => []) (fun q _ => q - q1) (u / v1) (u % v1) ⟨b0a, b1a, Nat.lt_of_lt_of_le (Nat.mod_lt _ hv1) (by omega), by rw [Nat.mul_comm]; exact Nat.mod_add_div _ _⟩ ?_ ?_
  · ((refine Le_head ?_); (conv => whnf); (refine Le_mk (by rfl) (by rfl) ?_ ?_); (· (repeat (first | (with_reducible exact frLe_nil) | (with_reducible refine frLe_any ?_) | (with_reducible refine frLe_val ?_) | ((with_reducible refine frLe_eq rfl ?_ ?_); (· rfl)) | ((with_reducible refine frLe_val' (int_eq ?_) ?_ ?_); (· omega); (· rfl)) | ((with_reducible refine frLe_val' (int_eq ?_) ?_ ?_); (· simp only [Int.natCast_add, Int.natCast_one, Int.natCast_ofNat] <;> omega); (· rfl)) | ((with_reducible refine frLe_val' (bool_eq ?_) ?_ ?_); (· first | assumption | (symm; assumption)); (· rfl))))))
    exact hpLe_nil
  · rintro q rh ⟨c1, c2, c3, c4⟩
    have hdec : 1 ≤ q → IntKind.u64.wrap ((q : Int) - 1) = ((q - 1 : Nat) : Int) := fun h => wrapI (by omega) (by omega)
    have hstep : q1 < q → ∃ p, q = p + 1 ∧ rh + v1 + p * v1 = u := fun h => ⟨q - 1, by omega, by
      obtain ⟨p, rfl⟩ : ∃ p, q = p + 1 := ⟨q - 1, by omega⟩
      rw [Nat.add_sub_cancel, ← c4, Nat.add_mul, Nat.one_mul]; omega⟩
    have E14 : q < 4294967296 → IntKind.u64.wrap ((q : Int) * (v0 : Int)) = ((q * v0 : Nat) : Int) := fun h => wrapI (by push_cast; rfl) (Nat.lt_of_le_of_lt (Nat.mul_le_mul (show q ≤ 4294967295 by omega) (show v0 ≤ 4294967295 by omega)) (by decide))
    by_cases j1 : q < 4294967296 ∧ q * v0 ≤ rh * 4294967296 + d1
    · have j2 := kn_le hy hy0 c4 j1.2
      rw [hq1] at j2
      obtain rfl : q = q1 := by omega
      have E14 := E14 j1.1
      have j3 := j1.2
      generalize q * v0 = qv at *
      (repeat ((try (conv => whnf)); (first | (with_reducible refine ArP_as _ E14 ?_) | (refine ArP_id (u64r ⟨by omega, by omega⟩) ?_) | (with_reducible refine condP_true ?_) | (with_reducible refine condP_false ?_) | (with_reducible refine condP_not ?_) | (with_reducible refine condP_and ?_) | ((with_reducible refine condP_dt ?_ ?_); (· omega)) | ((with_reducible refine condP_df ?_ ?_); (· omega)) | ((with_reducible refine condP_yes ?_ ?_); (· assumption)) | ((with_reducible refine condP_no ?_ ?_); (· assumption)) | ((with_reducible refine ArP_i64 ?_ ?_); (· omega)) | ((with_reducible refine mustP.mk ?_ ?_); (· first | omega | rfl | (dsimp only; omega))) | (with_reducible refine EqP_nil tab_ok ?_) | (with_reducible refine EqP_sli tab_ok ?_) | (with_reducible refine DrawP_auto tab_ok (by kernel_rfl) (by decide +kernel) ?_) | (with_reducible refine DrawP_auto2 tab_ok (by kernel_rfl) (by decide +kernel) ?_) | (with_reducible refine eq28 ?_) | (with_reducible refine eq33 ?_) | (with_reducible refine eq95 ?_) | (with_reducible refine eq115 ?_))))
      (repeat ((try (conv => whnf)); (first | (with_reducible refine ArP_as _ E15.e ?_) | (with_reducible refine ArP_as _ E16.e ?_) | (with_reducible refine ArP_as _ E17.e ?_) | (with_reducible refine ArP_as _ E18.e ?_) | (with_reducible refine ArP_as _ E21.e ?_) | (with_reducible refine ArP_as _ E22.e ?_) | (with_reducible refine ArP_as _ E23.e ?_) | (refine ArP_id (u64r ⟨by omega, by omega⟩) ?_) | (with_reducible refine condP_true ?_) | (with_reducible refine condP_false ?_) | (with_reducible refine condP_not ?_) | (with_reducible refine condP_and ?_) | ((with_reducible refine condP_dt ?_ ?_); (· omega)) | ((with_reducible refine condP_df ?_ ?_); (· omega)) | ((with_reducible refine condP_yes ?_ ?_); (· assumption)) | ((with_reducible refine condP_no ?_ ?_); (· assumption)) | ((with_reducible refine ArP_i64 ?_ ?_); (· omega)) | ((with_reducible refine mustP.mk ?_ ?_); (· first | omega | rfl | (dsimp only; omega))) | (with_reducible refine EqP_nil tab_ok ?_) | (with_reducible refine EqP_sli tab_ok ?_) | (with_reducible refine DrawP_auto tab_ok (by kernel_rfl) (by decide +kernel) ?_) | (with_reducible refine DrawP_auto2 tab_ok (by kernel_rfl) (by decide +kernel) ?_) | (with_reducible refine eq28 ?_) | (with_reducible refine eq33 ?_) | (with_reducible refine eq95 ?_) | (with_reducible refine eq115 ?_))))
      conv => whnf
      have b0b := kn_init (u := r1) (d := d0) hy hv1 hd0
      have b1b := kn_bound (u := r1) hy hv1b hv0 hr1
      have b2b := kn_top (d := d0) hr1 hd0
      rw [hq0] at b0b b2b
      refine LoopP_at2 tab_ok (fun (q rh : Nat) => q0 ≤ q ∧ q ≤ 4294967297 ∧ rh < 4294967296 ∧ rh + q * v1 = r1) (fun q rh => [(18, .val (.int .u64 q)), (16, .val (.int .u64 rh))]) (fun _ _ => []) (fun q _ => q - q0) (r1 / v1) (r1 % v1) ⟨b0b, b1b, Nat.lt_of_lt_of_le (Nat.mod_lt _ hv1) (by omega), by rw [Nat.mul_comm]; exact Nat.mod_add_div _ _⟩ ?_ ?_
      · ((refine Le_head ?_); (conv => whnf); (refine Le_mk (by rfl) (by rfl) ?_ ?_); (· (repeat (first | (with_reducible exact frLe_nil) | (with_reducible refine frLe_any ?_) | (with_reducible refine frLe_val ?_) | ((with_reducible refine frLe_eq rfl ?_ ?_); (· rfl)) | ((with_reducible refine frLe_val' (int_eq ?_) ?_ ?_); (· omega); (· rfl)) | ((with_reducible refine frLe_val' (int_eq ?_) ?_ ?_); (· simp only [Int.natCast_add, Int.natCast_one, Int.natCast_ofNat] <;> omega); (· rfl)) | ((with_reducible refine frLe_val' (bool_eq ?_) ?_ ?_); (· first | assumption | (symm; assumption)); (· rfl))))))
        exact hpLe_nil
      · rintro q rh ⟨c1, c2, c3, c4⟩
        have hdec : 1 ≤ q → IntKind.u64.wrap ((q : Int) - 1) = ((q - 1 : Nat) : Int) := fun h => wrapI (by omega) (by omega)
        have hstep : q0 < q → ∃ p, q = p + 1 ∧ rh + v1 + p * v1 = r1 := fun h => ⟨q - 1, by omega, by
          obtain ⟨p, rfl⟩ : ∃ p, q = p + 1 := ⟨q - 1, by omega⟩
          rw [Nat.add_sub_cancel, ← c4, Nat.add_mul, Nat.one_mul]; omega⟩
        have E14 : q < 4294967296 → IntKind.u64.wrap ((q : Int) * (v0 : Int)) = ((q * v0 : Nat) : Int) := fun h => wrapI (by push_cast; rfl) (Nat.lt_of_le_of_lt (Nat.mul_le_mul (show q ≤ 4294967295 by omega) (show v0 ≤ 4294967295 by omega)) (by decide))
        by_cases j1 : q < 4294967296 ∧ q * v0 ≤ rh * 4294967296 + d0
        · have j2 := kn_le hy hy0 c4 j1.2
          rw [hq0] at j2
          obtain rfl : q = q0 := by omega
          have E14 := E14 j1.1
          have j3 := j1.2
          generalize q * v0 = qv at *
          (repeat ((try (conv => whnf)); (first | (with_reducible refine ArP_as _ E14 ?_) | (refine ArP_id (u64r ⟨by omega, by omega⟩) ?_) | (with_reducible refine condP_true ?_) | (with_reducible refine condP_false ?_) | (with_reducible refine condP_not ?_) | (with_reducible refine condP_and ?_) | ((with_reducible refine condP_dt ?_ ?_); (· omega)) | ((with_reducible refine condP_df ?_ ?_); (· omega)) | ((with_reducible refine condP_yes ?_ ?_); (· assumption)) | ((with_reducible refine condP_no ?_ ?_); (· assumption)) | ((with_reducible refine ArP_i64 ?_ ?_); (· omega)) | ((with_reducible refine mustP.mk ?_ ?_); (· first | omega | rfl | (dsimp only; omega))) | (with_reducible refine EqP_nil tab_ok ?_) | (with_reducible refine EqP_sli tab_ok ?_) | (with_reducible refine DrawP_auto tab_ok (by kernel_rfl) (by decide +kernel) ?_) | (with_reducible refine DrawP_auto2 tab_ok (by kernel_rfl) (by decide +kernel) ?_) | (with_reducible refine eq28 ?_) | (with_reducible refine eq33 ?_) | (with_reducible refine eq95 ?_) | (with_reducible refine eq115 ?_))))
          (repeat ((try (conv => whnf)); (first | (with_reducible refine ArP_as _ E25.e ?_) | (with_reducible refine ArP_as _ E26.e ?_) | (with_reducible refine ArP_as _ E27.e ?_) | (with_reducible refine ArP_as _ E28.e ?_) | (with_reducible refine isP.mk _ E29.e ?_) | (refine ArP_id (u64r ⟨by omega, by omega⟩) ?_) | (with_reducible refine condP_true ?_) | (with_reducible refine condP_false ?_) | (with_reducible refine condP_not ?_) | (with_reducible refine condP_and ?_) | ((with_reducible refine condP_dt ?_ ?_); (· omega)) | ((with_reducible refine condP_df ?_ ?_); (· omega)) | ((with_reducible refine condP_yes ?_ ?_); (· assumption)) | ((with_reducible refine condP_no ?_ ?_); (· assumption)) | ((with_reducible refine ArP_i64 ?_ ?_); (· omega)) | ((with_reducible refine mustP.mk ?_ ?_); (· first | omega | rfl | (dsimp only; omega))) | (with_reducible refine EqP_nil tab_ok ?_) | (with_reducible refine EqP_sli tab_ok ?_) | (with_reducible refine DrawP_auto tab_ok (by kernel_rfl) (by decide +kernel) ?_) | (with_reducible refine DrawP_auto2 tab_ok (by kernel_rfl) (by decide +kernel) ?_) | (with_reducible refine eq28 ?_) | (with_reducible refine eq33 ?_) | (with_reducible refine eq95 ?_) | (with_reducible refine eq115 ?_))))
          exact ⟨by rw [← hq2, ← hr2]; rfl, rfl⟩
        · have j2 : q0 < q := by
            by_cases j3 : q < 4294967296
            · have := kn_gt (d := d0) hy hy0 c4 (by omega)
              rw [hq0] at this; exact this
            · omega
          obtain ⟨p, hp, c5⟩ := hstep j2
          have hdec := hdec (by omega)
          have E14' : q < 4294967296 → ∃ z : Int, IntKind.u64.wrap ((q : Int) * (v0 : Int)) = z ∧ (rh : Int) * 4294967296 + d0 < z := fun h => ⟨_, E14 h, by
            have : rh * 4294967296 + d0 < q * v0 := by omega
            omega⟩
          by_cases j4 : rh + v1 < 4294967296
          · by_cases j5 : q < 4294967296
            · obtain ⟨z, E14, hz⟩ := E14' j5
              (repeat ((try (conv => whnf)); (first | (with_reducible refine ArP_as _ E14 ?_) | (with_reducible refine ArP_as _ hdec ?_) | (refine ArP_id (u64r ⟨by omega, by omega⟩) ?_) | (with_reducible refine condP_true ?_) | (with_reducible refine condP_false ?_) | (with_reducible refine condP_not ?_) | (with_reducible refine condP_and ?_) | ((with_reducible refine condP_dt ?_ ?_); (· omega)) | ((with_reducible refine condP_df ?_ ?_); (· omega)) | ((with_reducible refine condP_yes ?_ ?_); (· assumption)) | ((with_reducible refine condP_no ?_ ?_); (· assumption)) | ((with_reducible refine ArP_i64 ?_ ?_); (· omega)) | ((with_reducible refine mustP.mk ?_ ?_); (· first | omega | rfl | (dsimp only; omega))) | (with_reducible refine EqP_nil tab_ok ?_) | (with_reducible refine EqP_sli tab_ok ?_) | (with_reducible refine DrawP_auto tab_ok (by kernel_rfl) (by decide +kernel) ?_) | (with_reducible refine DrawP_auto2 tab_ok (by kernel_rfl) (by decide +kernel) ?_) | (with_reducible refine eq28 ?_) | (with_reducible refine eq33 ?_) | (with_reducible refine eq95 ?_) | (with_reducible refine eq115 ?_))))
              refine ⟨q - 1, rh + v1, ⟨by omega, by omega, by omega, by rw [hp, Nat.add_sub_cancel]; exact c5⟩, by omega, ?_⟩
              ((refine Le_head ?_); (conv => whnf); (refine Le_mk (by rfl) (by rfl) ?_ ?_); (· (repeat (first | (with_reducible exact frLe_nil) | (with_reducible refine frLe_any ?_) | (with_reducible refine frLe_val ?_) | ((with_reducible refine frLe_eq rfl ?_ ?_); (· rfl)) | ((with_reducible refine frLe_val' (int_eq ?_) ?_ ?_); (· omega); (· rfl)) | ((with_reducible refine frLe_val' (int_eq ?_) ?_ ?_); (· simp only [Int.natCast_add, Int.natCast_one, Int.natCast_ofNat] <;> omega); (· rfl)) | ((with_reducible refine frLe_val' (bool_eq ?_) ?_ ?_); (· first | assumption | (symm; assumption)); (· rfl))))))
              exact hpLe_nil
            · (repeat ((try (conv => whnf)); (first | (with_reducible refine ArP_as _ hdec ?_) | (refine ArP_id (u64r ⟨by omega, by omega⟩) ?_) | (with_reducible refine condP_true ?_) | (with_reducible refine condP_false ?_) | (with_reducible refine condP_not ?_) | (with_reducible refine condP_and ?_) | ((with_reducible refine condP_dt ?_ ?_); (· omega)) | ((with_reducible refine condP_df ?_ ?_); (· omega)) | ((with_reducible refine condP_yes ?_ ?_); (· assumption)) | ((with_reducible refine condP_no ?_ ?_); (· assumption)) | ((with_reducible refine ArP_i64 ?_ ?_); (· omega)) | ((with_reducible refine mustP.mk ?_ ?_); (· first | omega | rfl | (dsimp only; omega))) | (with_reducible refine EqP_nil tab_ok ?_) | (with_reducible refine EqP_sli tab_ok ?_) | (with_reducible refine DrawP_auto tab_ok (by kernel_rfl) (by decide +kernel) ?_) | (with_reducible refine DrawP_auto2 tab_ok (by kernel_rfl) (by decide +kernel) ?_) | (with_reducible refine eq28 ?_) | (with_reducible refine eq33 ?_) | (with_reducible refine eq95 ?_) | (with_reducible refine eq115 ?_))))
              refine ⟨q - 1, rh + v1, ⟨by omega, by omega, by omega, by rw [hp, Nat.add_sub_cancel]; exact c5⟩, by omega, ?_⟩
              ((refine Le_head ?_); (conv => whnf); (refine Le_mk (by rfl) (by rfl) ?_ ?_); (· (repeat (first | (with_reducible exact frLe_nil) | (with_reducible refine frLe_any ?_) | (with_reducible refine frLe_val ?_) | ((with_reducible refine frLe_eq rfl ?_ ?_); (· rfl)) | ((with_reducible refine frLe_val' (int_eq ?_) ?_ ?_); (· omega); (· rfl)) | ((with_reducible refine frLe_val' (int_eq ?_) ?_ ?_); (· simp only [Int.natCast_add, Int.natCast_one, Int.natCast_ofNat] <;> omega); (· rfl)) | ((with_reducible refine frLe_val' (bool_eq ?_) ?_ ?_); (· first | assumption | (symm; assumption)); (· rfl))))))
              exact hpLe_nil
          · have j6 : p ≤ q0 := by
              rw [← hq0]
              refine kn_le (d := d0) hy hy0 c5 ?_
              have h9 := Nat.mul_le_mul (show p ≤ 4294967296 by omega) (show v0 ≤ 4294967295 by omega)
              omega
            have j7 : q - 1 = q0 := by rw [hp, Nat.add_sub_cancel]; exact Nat.le_antisymm j6 (Nat.lt_succ_iff.1 (by rw [← Nat.succ_eq_add_one] at hp; rw [← hp]; exact j2))
            rw [j7] at hdec
            by_cases j5 : q < 4294967296
            · obtain ⟨z, E14, hz⟩ := E14' j5
              (repeat ((try (conv => whnf)); (first | (with_reducible refine ArP_as _ E14 ?_) | (with_reducible refine ArP_as _ hdec ?_) | (refine ArP_id (u64r ⟨by omega, by omega⟩) ?_) | (with_reducible refine condP_true ?_) | (with_reducible refine condP_false ?_) | (with_reducible refine condP_not ?_) | (with_reducible refine condP_and ?_) | ((with_reducible refine condP_dt ?_ ?_); (· omega)) | ((with_reducible refine condP_df ?_ ?_); (· omega)) | ((with_reducible refine condP_yes ?_ ?_); (· assumption)) | ((with_reducible refine condP_no ?_ ?_); (· assumption)) | ((with_reducible refine ArP_i64 ?_ ?_); (· omega)) | ((with_reducible refine mustP.mk ?_ ?_); (· first | omega | rfl | (dsimp only; omega))) | (with_reducible refine EqP_nil tab_ok ?_) | (with_reducible refine EqP_sli tab_ok ?_) | (with_reducible refine DrawP_auto tab_ok (by kernel_rfl) (by decide +kernel) ?_) | (with_reducible refine DrawP_auto2 tab_ok (by kernel_rfl) (by decide +kernel) ?_) | (with_reducible refine eq28 ?_) | (with_reducible refine eq33 ?_) | (with_reducible refine eq95 ?_) | (with_reducible refine eq115 ?_))))
              (repeat ((try (conv => whnf)); (first | (with_reducible refine ArP_as _ E25.e ?_) | (with_reducible refine ArP_as _ E26.e ?_) | (with_reducible refine ArP_as _ E27.e ?_) | (with_reducible refine ArP_as _ E28.e ?_) | (with_reducible refine isP.mk _ E29.e ?_) | (refine ArP_id (u64r ⟨by omega, by omega⟩) ?_) | (with_reducible refine condP_true ?_) | (with_reducible refine condP_false ?_) | (with_reducible refine condP_not ?_) | (with_reducible refine condP_and ?_) | ((with_reducible refine condP_dt ?_ ?_); (· omega)) | ((with_reducible refine condP_df ?_ ?_); (· omega)) | ((with_reducible refine condP_yes ?_ ?_); (· assumption)) | ((with_reducible refine condP_no ?_ ?_); (· assumption)) | ((with_reducible refine ArP_i64 ?_ ?_); (· omega)) | ((with_reducible refine mustP.mk ?_ ?_); (· first | omega | rfl | (dsimp only; omega))) | (with_reducible refine EqP_nil tab_ok ?_) | (with_reducible refine EqP_sli tab_ok ?_) | (with_reducible refine DrawP_auto tab_ok (by kernel_rfl) (by decide +kernel) ?_) | (with_reducible refine DrawP_auto2 tab_ok (by kernel_rfl) (by decide +kernel) ?_) | (with_reducible refine eq28 ?_) | (with_reducible refine eq33 ?_) | (with_reducible refine eq95 ?_) | (with_reducible refine eq115 ?_))))
              exact ⟨by rw [← hq2, ← hr2]; rfl, rfl⟩
            · (repeat ((try (conv => whnf)); (first | (with_reducible refine ArP_as _ hdec ?_) | (refine ArP_id (u64r ⟨by omega, by omega⟩) ?_) | (with_reducible refine condP_true ?_) | (with_reducible refine condP_false ?_) | (with_reducible refine condP_not ?_) | (with_reducible refine condP_and ?_) | ((with_reducible refine condP_dt ?_ ?_); (· omega)) | ((with_reducible refine condP_df ?_ ?_); (· omega)) | ((with_reducible refine condP_yes ?_ ?_); (· assumption)) | ((with_reducible refine condP_no ?_ ?_); (· assumption)) | ((with_reducible refine ArP_i64 ?_ ?_); (· omega)) | ((with_reducible refine mustP.mk ?_ ?_); (· first | omega | rfl | (dsimp only; omega))) | (with_reducible refine EqP_nil tab_ok ?_) | (with_reducible refine EqP_sli tab_ok ?_) | (with_reducible refine DrawP_auto tab_ok (by kernel_rfl) (by decide +kernel) ?_) | (with_reducible refine DrawP_auto2 tab_ok (by kernel_rfl) (by decide +kernel) ?_) | (with_reducible refine eq28 ?_) | (with_reducible refine eq33 ?_) | (with_reducible refine eq95 ?_) | (with_reducible refine eq115 ?_))))
              (repeat ((try (conv => whnf)); (first | (with_reducible refine ArP_as _ E25.e ?_) | (with_reducible refine ArP_as _ E26.e ?_) | (with_reducible refine ArP_as _ E27.e ?_) | (with_reducible refine ArP_as _ E28.e ?_) | (with_reducible refine isP.mk _ E29.e ?_) | (refine ArP_id (u64r ⟨by omega, by omega⟩) ?_) | (with_reducible refine condP_true ?_) | (with_reducible refine condP_false ?_) | (with_reducible refine condP_not ?_) | (with_reducible refine condP_and ?_) | ((with_reducible refine condP_dt ?_ ?_); (· omega)) | ((with_reducible refine condP_df ?_ ?_); (· omega)) | ((with_reducible refine condP_yes ?_ ?_); (· assumption)) | ((with_reducible refine condP_no ?_ ?_); (· assumption)) | ((with_reducible refine ArP_i64 ?_ ?_); (· omega)) | ((with_reducible refine mustP.mk ?_ ?_); (· first | omega | rfl | (dsimp only; omega))) | (with_reducible refine EqP_nil tab_ok ?_) | (with_reducible refine EqP_sli tab_ok ?_) | (with_reducible refine DrawP_auto tab_ok (by kernel_rfl) (by decide +kernel) ?_) | (with_reducible refine DrawP_auto2 tab_ok (by kernel_rfl) (by decide +kernel) ?_) | (with_reducible refine eq28 ?_) | (with_reducible refine eq33 ?_) | (with_reducible refine eq95 ?_) | (with_reducible refine eq115 ?_))))
              exact ⟨by rw [← hq2, ← hr2]; rfl, rfl⟩
    · have j2 : q1 < q := by
        by_cases j3 : q < 4294967296
        · have := kn_gt (d := d1) hy hy0 c4 (by omega)
          rw [hq1] at this; exact this
        · omega
      obtain ⟨p, hp, c5⟩ := hstep j2
      have hdec := hdec (by omega)
      have E14' : q < 4294967296 → ∃ z : Int, IntKind.u64.wrap ((q : Int) * (v0 : Int)) = z ∧ (rh : Int) * 4294967296 + d1 < z := fun h => ⟨_, E14 h, by
        have : rh * 4294967296 + d1 < q * v0 := by omega
        omega⟩
      by_cases j4 : rh + v1 < 4294967296
      · by_cases j5 : q < 4294967296
        · obtain ⟨z, E14, hz⟩ := E14' j5
          (repeat ((try (conv => whnf)); (first | (with_reducible refine ArP_as _ E14 ?_) | (with_reducible refine ArP_as _ hdec ?_) | (refine ArP_id (u64r ⟨by omega, by omega⟩) ?_) | (with_reducible refine condP_true ?_) | (with_reducible refine condP_false ?_) | (with_reducible refine condP_not ?_) | (with_reducible refine condP_and ?_) | ((with_reducible refine condP_dt ?_ ?_); (· omega)) | ((with_reducible refine condP_df ?_ ?_); (· omega)) | ((with_reducible refine condP_yes ?_ ?_); (· assumption)) | ((with_reducible refine condP_no ?_ ?_); (· assumption)) | ((with_reducible refine ArP_i64 ?_ ?_); (· omega)) | ((with_reducible refine mustP.mk ?_ ?_); (· first | omega | rfl | (dsimp only; omega))) | (with_reducible refine EqP_nil tab_ok ?_) | (with_reducible refine EqP_sli tab_ok ?_) | (with_reducible refine DrawP_auto tab_ok (by kernel_rfl) (by decide +kernel) ?_) | (with_reducible refine DrawP_auto2 tab_ok (by kernel_rfl) (by decide +kernel) ?_) | (with_reducible refine eq28 ?_) | (with_reducible refine eq33 ?_) | (with_reducible refine eq95 ?_) | (with_reducible refine eq115 ?_))))
          refine ⟨q - 1, rh + v1, ⟨by omega, by omega, by omega, by rw [hp, Nat.add_sub_cancel]; exact c5⟩, by omega, ?_⟩
          ((refine Le_head ?_); (conv => whnf); (refine Le_mk (by rfl) (by rfl) ?_ ?_); (· (repeat (first | (with_reducible exact frLe_nil) | (with_reducible refine frLe_any ?_) | (with_reducible refine frLe_val ?_) | ((with_reducible refine frLe_eq rfl ?_ ?_); (· rfl)) | ((with_reducible refine frLe_val' (int_eq ?_) ?_ ?_); (· omega); (· rfl)) | ((with_reducible refine frLe_val' (int_eq ?_) ?_ ?_); (· simp only [Int.natCast_add, Int.natCast_one, Int.natCast_ofNat] <;> omega); (· rfl)) | ((with_reducible refine frLe_val' (bool_eq ?_) ?_ ?_); (· first | assumption | (symm; assumption)); (· rfl))))))
          exact hpLe_nil
        · (repeat ((try (conv => whnf)); (first | (with_reducible refine ArP_as _ hdec ?_) | (refine ArP_id (u64r ⟨by omega, by omega⟩) ?_) | (with_reducible refine condP_true ?_) | (with_reducible refine condP_false ?_) | (with_reducible refine condP_not ?_) | (with_reducible refine condP_and ?_) | ((with_reducible refine condP_dt ?_ ?_); (· omega)) | ((with_reducible refine condP_df ?_ ?_); (· omega)) | ((with_reducible refine condP_yes ?_ ?_); (· assumption)) | ((with_reducible refine condP_no ?_ ?_); (· assumption)) | ((with_reducible refine ArP_i64 ?_ ?_); (· omega)) | ((with_reducible refine mustP.mk ?_ ?_); (· first | omega | rfl | (dsimp only; omega))) | (with_reducible refine EqP_nil tab_ok ?_) | (with_reducible refine EqP_sli tab_ok ?_) | (with_reducible refine DrawP_auto tab_ok (by kernel_rfl) (by decide +kernel) ?_) | (with_reducible refine DrawP_auto2 tab_ok (by kernel_rfl) (by decide +kernel) ?_) | (with_reducible refine eq28 ?_) | (with_reducible refine eq33 ?_) | (with_reducible refine eq95 ?_) | (with_reducible refine eq115 ?_))))
          refine ⟨q - 1, rh + v1, ⟨by omega, by omega, by omega, by rw [hp, Nat.add_sub_cancel]; exact c5⟩, by omega, ?_⟩
          ((refine Le_head ?_); (conv => whnf); (refine Le_mk (by rfl) (by rfl) ?_ ?_); (· (repeat (first | (with_reducible exact frLe_nil) | (with_reducible refine frLe_any ?_) | (with_reducible refine frLe_val ?_) | ((with_reducible refine frLe_eq rfl ?_ ?_); (· rfl)) | ((with_reducible refine frLe_val' (int_eq ?_) ?_ ?_); (· omega); (· rfl)) | ((with_reducible refine frLe_val' (int_eq ?_) ?_ ?_); (· simp only [Int.natCast_add, Int.natCast_one, Int.natCast_ofNat] <;> omega); (· rfl)) | ((with_reducible refine frLe_val' (bool_eq ?_) ?_ ?_); (· first | assumption | (symm; assumption)); (· rfl))))))
          exact hpLe_nil
      · have j6 : p ≤ q1 := by
          rw [← hq1]
          refine kn_le (d := d1) hy hy0 c5 ?_
          have h9 := Nat.mul_le_mul (show p ≤ 4294967296 by omega) (show v0 ≤ 4294967295 by omega)
          omega
        have j7 : q - 1 = q1 := by rw [hp, Nat.add_sub_cancel]; exact Nat.le_antisymm j6 (Nat.lt_succ_iff.1 (by rw [← Nat.succ_eq_add_one] at hp; rw [← hp]; exact j2))
        rw [j7] at hdec
        by_cases j5 : q < 4294967296
        · obtain ⟨z, E14, hz⟩ := E14' j5
          (repeat ((try (conv => whnf)); (first | (with_reducible refine ArP_as _ E14 ?_) | (with_reducible refine ArP_as _ hdec ?_) | (refine ArP_id (u64r ⟨by omega, by omega⟩) ?_) | (with_reducible refine condP_true ?_) | (with_reducible refine condP_false ?_) | (with_reducible refine condP_not ?_) | (with_reducible refine condP_and ?_) | ((with_reducible refine condP_dt ?_ ?_); (· omega)) | ((with_reducible refine condP_df ?_ ?_); (· omega)) | ((with_reducible refine condP_yes ?_ ?_); (· assumption)) | ((with_reducible refine condP_no ?_ ?_); (· assumption)) | ((with_reducible refine ArP_i64 ?_ ?_); (· omega)) | ((with_reducible refine mustP.mk ?_ ?_); (· first | omega | rfl | (dsimp only; omega))) | (with_reducible refine EqP_nil tab_ok ?_) | (with_reducible refine EqP_sli tab_ok ?_) | (with_reducible refine DrawP_auto tab_ok (by kernel_rfl) (by decide +kernel) ?_) | (with_reducible refine DrawP_auto2 tab_ok (by kernel_rfl) (by decide +kernel) ?_) | (with_reducible refine eq28 ?_) | (with_reducible refine eq33 ?_) | (with_reducible refine eq95 ?_) | (with_reducible refine eq115 ?_))))
          (repeat ((try (conv => whnf)); (first | (with_reducible refine ArP_as _ E15.e ?_) | (with_reducible refine ArP_as _ E16.e ?_) | (with_reducible refine ArP_as _ E17.e ?_) | (with_reducible refine ArP_as _ E18.e ?_) | (with_reducible refine ArP_as _ E21.e ?_) | (with_reducible refine ArP_as _ E22.e ?_) | (with_reducible refine ArP_as _ E23.e ?_) | (refine ArP_id (u64r ⟨by omega, by omega⟩) ?_) | (with_reducible refine condP_true ?_) | (with_reducible refine condP_false ?_) | (with_reducible refine condP_not ?_) | (with_reducible refine condP_and ?_) | ((with_reducible refine condP_dt ?_ ?_); (· omega)) | ((with_reducible refine condP_df ?_ ?_); (· omega)) | ((with_reducible refine condP_yes ?_ ?_); (· assumption)) | ((with_reducible refine condP_no ?_ ?_); (· assumption)) | ((with_reducible refine ArP_i64 ?_ ?_); (· omega)) | ((with_reducible refine mustP.mk ?_ ?_); (· first | omega | rfl | (dsimp only; omega))) | (with_reducible refine EqP_nil tab_ok ?_) | (with_reducible refine EqP_sli tab_ok ?_) | (with_reducible refine DrawP_auto tab_ok (by kernel_rfl) (by decide +kernel) ?_) | (with_reducible refine DrawP_auto2 tab_ok (by kernel_rfl) (by decide +kernel) ?_) | (with_reducible refine eq28 ?_) | (with_reducible refine eq33 ?_) | (with_reducible refine eq95 ?_) | (with_reducible refine eq115 ?_))))
          conv => whnf
          have b0b := kn_init (u := r1) (d := d0) hy hv1 hd0
          have b1b := kn_bound (u := r1) hy hv1b hv0 hr1
          have b2b := kn_top (d := d0) hr1 hd0
          rw [hq0] at b0b b2b
          refine LoopP_at2 tab_ok (fun (q rh : Nat) => q0 ≤ q ∧ q ≤ 4294967297 ∧ rh < 4294967296 ∧ rh + q * v1 = r1) (fun q rh => [(18, .val (.int .u64 q)), (16, .val (.int .u64 rh))]) (fun _ _ => []) (fun q _ => q - q0) (r1 / v1) (r1 % v1) ⟨b0b, b1b, Nat.lt_of_lt_of_le (Nat.mod_lt _ hv1) (by omega), by rw [Nat.mul_comm]; exact Nat.mod_add_div _ _⟩ ?_ ?_
          · ((refine Le_head ?_); (conv => whnf); (refine Le_mk (by rfl) (by rfl) ?_ ?_); (· (repeat (first | (with_reducible exact frLe_nil) | (with_reducible refine frLe_any ?_) | (with_reducible refine frLe_val ?_) | ((with_reducible refine frLe_eq rfl ?_ ?_); (· rfl)) | ((with_reducible refine frLe_val' (int_eq ?_) ?_ ?_); (· omega); (· rfl)) | ((with_reducible refine frLe_val' (int_eq ?_) ?_ ?_); (· simp only [Int.natCast_add, Int.natCast_one, Int.natCast_ofNat] <;> omega); (· rfl)) | ((with_reducible refine frLe_val' (bool_eq ?_) ?_ ?_); (· first | assumption | (symm; assumption)); (· rfl))))))
            exact hpLe_nil
          · rintro q rh ⟨c1, c2, c3, c4⟩
            have hdec : 1 ≤ q → IntKind.u64.wrap ((q : Int) - 1) = ((q - 1 : Nat) : Int) := fun h => wrapI (by omega) (by omega)
            have hstep : q0 < q → ∃ p, q = p + 1 ∧ rh + v1 + p * v1 = r1 := fun h => ⟨q - 1, by omega, by
              obtain ⟨p, rfl⟩ : ∃ p, q = p + 1 := ⟨q - 1, by omega⟩
              rw [Nat.add_sub_cancel, ← c4, Nat.add_mul, Nat.one_mul]; omega⟩
            have E14 : q < 4294967296 → IntKind.u64.wrap ((q : Int) * (v0 : Int)) = ((q * v0 : Nat) : Int) := fun h => wrapI (by push_cast; rfl) (Nat.lt_of_le_of_lt (Nat.mul_le_mul (show q ≤ 4294967295 by omega) (show v0 ≤ 4294967295 by omega)) (by decide))
            by_cases j1 : q < 4294967296 ∧ q * v0 ≤ rh * 4294967296 + d0
            · have j2 := kn_le hy hy0 c4 j1.2
              rw [hq0] at j2
              obtain rfl : q = q0 := by omega
              have E14 := E14 j1.1
              have j3 := j1.2
              generalize q * v0 = qv at *
              (repeat ((try (conv => whnf)); (first | (with_reducible refine ArP_as _ E14 ?_) | (refine ArP_id (u64r ⟨by omega, by omega⟩) ?_) | (with_reducible refine condP_true ?_) | (with_reducible refine condP_false ?_) | (with_reducible refine condP_not ?_) | (with_reducible refine condP_and ?_) | ((with_reducible refine condP_dt ?_ ?_); (· omega)) | ((with_reducible refine condP_df ?_ ?_); (· omega)) | ((with_reducible refine condP_yes ?_ ?_); (· assumption)) | ((with_reducible refine condP_no ?_ ?_); (· assumption)) | ((with_reducible refine ArP_i64 ?_ ?_); (· omega)) | ((with_reducible refine mustP.mk ?_ ?_); (· first | omega | rfl | (dsimp only; omega))) | (with_reducible refine EqP_nil tab_ok ?_) | (with_reducible refine EqP_sli tab_ok ?_) | (with_reducible refine DrawP_auto tab_ok (by kernel_rfl) (by decide +kernel) ?_) | (with_reducible refine DrawP_auto2 tab_ok (by kernel_rfl) (by decide +kernel) ?_) | (with_reducible refine eq28 ?_) | (with_reducible refine eq33 ?_) | (with_reducible refine eq95 ?_) | (with_reducible refine eq115 ?_))))
              (repeat ((try (conv => whnf)); (first | (with_reducible refine ArP_as _ E25.e ?_) | (with_reducible refine ArP_as _ E26.e ?_) | (with_reducible refine ArP_as _ E27.e ?_) | (with_reducible refine ArP_as _ E28.e ?_) | (with_reducible refine isP.mk _ E29.e ?_) | (refine ArP_id (u64r ⟨by omega, by omega⟩) ?_) | (with_reducible refine condP_true ?_) | (with_reducible refine condP_false ?_) | (with_reducible refine condP_not ?_) | (with_reducible refine condP_and ?_) | ((with_reducible refine condP_dt ?_ ?_); (· omega)) | ((with_reducible refine condP_df ?_ ?_); (· omega)) | ((with_reducible refine condP_yes ?_ ?_); (· assumption)) | ((with_reducible refine condP_no ?_ ?_); (· assumption)) | ((with_reducible refine ArP_i64 ?_ ?_); (· omega)) | ((with_reducible refine mustP.mk ?_ ?_); (· first | omega | rfl | (dsimp only; omega))) | (with_reducible refine EqP_nil tab_ok ?_) | (with_reducible refine EqP_sli tab_ok ?_) | (with_reducible refine DrawP_auto tab_ok (by kernel_rfl) (by decide +kernel) ?_) | (with_reducible refine DrawP_auto2 tab_ok (by kernel_rfl) (by decide +kernel) ?_) | (with_reducible refine eq28 ?_) | (with_reducible refine eq33 ?_) | (with_reducible refine eq95 ?_) | (with_reducible refine eq115 ?_))))
              exact ⟨by rw [← hq2, ← hr2]; rfl, rfl⟩
            · have j2 : q0 < q := by
                by_cases j3 : q < 4294967296
                · have := kn_gt (d := d0) hy hy0 c4 (by omega)
                  rw [hq0] at this; exact this
                · omega
              obtain ⟨p, hp, c5⟩ := hstep j2
              have hdec := hdec (by omega)
              have E14' : q < 4294967296 → ∃ z : Int, IntKind.u64.wrap ((q : Int) * (v0 : Int)) = z ∧ (rh : Int) * 4294967296 + d0 < z := fun h => ⟨_, E14 h, by
                have : rh * 4294967296 + d0 < q * v0 := by omega
                omega⟩
              by_cases j4 : rh + v1 < 4294967296
              · by_cases j5 : q < 4294967296
                · obtain ⟨z, E14, hz⟩ := E14' j5
                  (repeat ((try (conv => whnf)); (first | (with_reducible refine ArP_as _ E14 ?_) | (with_reducible refine ArP_as _ hdec ?_) | (refine ArP_id (u64r ⟨by omega, by omega⟩) ?_) | (with_reducible refine condP_true ?_) | (with_reducible refine condP_false ?_) | (with_reducible refine condP_not ?_) | (with_reducible refine condP_and ?_) | ((with_reducible refine condP_dt ?_ ?_); (· omega)) | ((with_reducible refine condP_df ?_ ?_); (· omega)) | ((with_reducible refine condP_yes ?_ ?_); (· assumption)) | ((with_reducible refine condP_no ?_ ?_); (· assumption)) | ((with_reducible refine ArP_i64 ?_ ?_); (· omega)) | ((with_reducible refine mustP.mk ?_ ?_); (· first | omega | rfl | (dsimp only; omega))) | (with_reducible refine EqP_nil tab_ok ?_) | (with_reducible refine EqP_sli tab_ok ?_) | (with_reducible refine DrawP_auto tab_ok (by kernel_rfl) (by decide +kernel) ?_) | (with_reducible refine DrawP_auto2 tab_ok (by kernel_rfl) (by decide +kernel) ?_) | (with_reducible refine eq28 ?_) | (with_reducible refine eq33 ?_) | (with_reducible refine eq95 ?_) | (with_reducible refine eq115 ?_))))
                  refine ⟨q - 1, rh + v1, ⟨by omega, by omega, by omega, by rw [hp, Nat.add_sub_cancel]; exact c5⟩, by omega, ?_⟩
                  ((refine Le_head ?_); (conv => whnf); (refine Le_mk (by rfl) (by rfl) ?_ ?_); (· (repeat (first | (with_reducible exact frLe_nil) | (with_reducible refine frLe_any ?_) | (with_reducible refine frLe_val ?_) | ((with_reducible refine frLe_eq rfl ?_ ?_); (· rfl)) | ((with_reducible refine frLe_val' (int_eq ?_) ?_ ?_); (· omega); (· rfl)) | ((with_reducible refine frLe_val' (int_eq ?_) ?_ ?_); (· simp only [Int.natCast_add, Int.natCast_one, Int.natCast_ofNat] <;> omega); (· rfl)) | ((with_reducible refine frLe_val' (bool_eq ?_) ?_ ?_); (· first | assumption | (symm; assumption)); (· rfl))))))
                  exact hpLe_nil
                · (repeat ((try (conv => whnf)); (first | (with_reducible refine ArP_as _ hdec ?_) | (refine ArP_id (u64r ⟨by omega, by omega⟩) ?_) | (with_reducible refine condP_true ?_) | (with_reducible refine condP_false ?_) | (with_reducible refine condP_not ?_) | (with_reducible refine condP_and ?_) | ((with_reducible refine condP_dt ?_ ?_); (· omega)) | ((with_reducible refine condP_df ?_ ?_); (· omega)) | ((with_reducible refine condP_yes ?_ ?_); (· assumption)) | ((with_reducible refine condP_no ?_ ?_); (· assumption)) | ((with_reducible refine ArP_i64 ?_ ?_); (· omega)) | ((with_reducible refine mustP.mk ?_ ?_); (· first | omega | rfl | (dsimp only; omega))) | (with_reducible refine EqP_nil tab_ok ?_) | (with_reducible refine EqP_sli tab_ok ?_) | (with_reducible refine DrawP_auto tab_ok (by kernel_rfl) (by decide +kernel) ?_) | (with_reducible refine DrawP_auto2 tab_ok (by kernel_rfl) (by decide +kernel) ?_) | (with_reducible refine eq28 ?_) | (with_reducible refine eq33 ?_) | (with_reducible refine eq95 ?_) | (with_reducible refine eq115 ?_))))
                  refine ⟨q - 1, rh + v1, ⟨by omega, by omega, by omega, by rw [hp, Nat.add_sub_cancel]; exact c5⟩, by omega, ?_⟩
                  ((refine Le_head ?_); (conv => whnf); (refine Le_mk (by rfl) (by rfl) ?_ ?_); (· (repeat (first | (with_reducible exact frLe_nil) | (with_reducible refine frLe_any ?_) | (with_reducible refine frLe_val ?_) | ((with_reducible refine frLe_eq rfl ?_ ?_); (· rfl)) | ((with_reducible refine frLe_val' (int_eq ?_) ?_ ?_); (· omega); (· rfl)) | ((with_reducible refine frLe_val' (int_eq ?_) ?_ ?_); (· simp only [Int.natCast_add, Int.natCast_one, Int.natCast_ofNat] <;> omega); (· rfl)) | ((with_reducible refine frLe_val' (bool_eq ?_) ?_ ?_); (· first | assumption | (symm; assumption)); (· rfl))))))
                  exact hpLe_nil
              · have j6 : p ≤ q0 := by
                  rw [← hq0]
                  refine kn_le (d := d0) hy hy0 c5 ?_
                  have h9 := Nat.mul_le_mul (show p ≤ 4294967296 by omega) (show v0 ≤ 4294967295 by omega)
                  omega
                have j7 : q - 1 = q0 := by rw [hp, Nat.add_sub_cancel]; exact Nat.le_antisymm j6 (Nat.lt_succ_iff.1 (by rw [← Nat.succ_eq_add_one] at hp; rw [← hp]; exact j2))
                rw [j7] at hdec
                by_cases j5 : q < 4294967296
                · obtain ⟨z, E14, hz⟩ := E14' j5
                  (repeat ((try (conv => whnf)); (first | (with_reducible refine ArP_as _ E14 ?_) | (with_reducible refine ArP_as _ hdec ?_) | (refine ArP_id (u64r ⟨by omega, by omega⟩) ?_) | (with_reducible refine condP_true ?_) | (with_reducible refine condP_false ?_) | (with_reducible refine condP_not ?_) | (with_reducible refine condP_and ?_) | ((with_reducible refine condP_dt ?_ ?_); (· omega)) | ((with_reducible refine condP_df ?_ ?_); (· omega)) | ((with_reducible refine condP_yes ?_ ?_); (· assumption)) | ((with_reducible refine condP_no ?_ ?_); (· assumption)) | ((with_reducible refine ArP_i64 ?_ ?_); (· omega)) | ((with_reducible refine mustP.mk ?_ ?_); (· first | omega | rfl | (dsimp only; omega))) | (with_reducible refine EqP_nil tab_ok ?_) | (with_reducible refine EqP_sli tab_ok ?_) | (with_reducible refine DrawP_auto tab_ok (by kernel_rfl) (by decide +kernel) ?_) | (with_reducible refine DrawP_auto2 tab_ok (by kernel_rfl) (by decide +kernel) ?_) | (with_reducible refine eq28 ?_) | (with_reducible refine eq33 ?_) | (with_reducible refine eq95 ?_) | (with_reducible refine eq115 ?_))))
                  (repeat ((try (conv => whnf)); (first | (with_reducible refine ArP_as _ E25.e ?_) | (with_reducible refine ArP_as _ E26.e ?_) | (with_reducible refine ArP_as _ E27.e ?_) | (with_reducible refine ArP_as _ E28.e ?_) | (with_reducible refine isP.mk _ E29.e ?_) | (refine ArP_id (u64r ⟨by omega, by omega⟩) ?_) | (with_reducible refine condP_true ?_) | (with_reducible refine condP_false ?_) | (with_reducible refine condP_not ?_) | (with_reducible refine condP_and ?_) | ((with_reducible refine condP_dt ?_ ?_); (· omega)) | ((with_reducible refine condP_df ?_ ?_); (· omega)) | ((with_reducible refine condP_yes ?_ ?_); (· assumption)) | ((with_reducible refine condP_no ?_ ?_); (· assumption)) | ((with_reducible refine ArP_i64 ?_ ?_); (· omega)) | ((with_reducible refine mustP.mk ?_ ?_); (· first | omega | rfl | (dsimp only; omega))) | (with_reducible refine EqP_nil tab_ok ?_) | (with_reducible refine EqP_sli tab_ok ?_) | (with_reducible refine DrawP_auto tab_ok (by kernel_rfl) (by decide +kernel) ?_) | (with_reducible refine DrawP_auto2 tab_ok (by kernel_rfl) (by decide +kernel) ?_) | (with_reducible refine eq28 ?_) | (with_reducible refine eq33 ?_) | (with_reducible refine eq95 ?_) | (with_reducible refine eq115 ?_))))
                  exact ⟨by rw [← hq2, ← hr2]; rfl, rfl⟩
                · (repeat ((try (conv => whnf)); (first | (with_reducible refine ArP_as _ hdec ?_) | (refine ArP_id (u64r ⟨by omega, by omega⟩) ?_) | (with_reducible refine condP_true ?_) | (with_reducible refine condP_false ?_) | (with_reducible refine condP_not ?_) | (with_reducible refine condP_and ?_) | ((with_reducible refine condP_dt ?_ ?_); (· omega)) | ((with_reducible refine condP_df ?_ ?_); (· omega)) | ((with_reducible refine condP_yes ?_ ?_); (· assumption)) | ((with_reducible refine condP_no ?_ ?_); (· assumption)) | ((with_reducible refine ArP_i64 ?_ ?_); (· omega)) | ((with_reducible refine mustP.mk ?_ ?_); (· first | omega | rfl | (dsimp only; omega))) | (with_reducible refine EqP_nil tab_ok ?_) | (with_reducible refine EqP_sli tab_ok ?_) | (with_reducible refine DrawP_auto tab_ok (by kernel_rfl) (by decide +kernel) ?_) | (with_reducible refine DrawP_auto2 tab_ok (by kernel_rfl) (by decide +kernel) ?_) | (with_reducible refine eq28 ?_) | (with_reducible refine eq33 ?_) | (with_reducible refine eq95 ?_) | (with_reducible refine eq115 ?_))))
                  (repeat ((try (conv => whnf)); (first | (with_reducible refine ArP_as _ E25.e ?_) | (with_reducible refine ArP_as _ E26.e ?_) | (with_reducible refine ArP_as _ E27.e ?_) | (with_reducible refine ArP_as _ E28.e ?_) | (with_reducible refine isP.mk _ E29.e ?_) | (refine ArP_id (u64r ⟨by omega, by omega⟩) ?_) | (with_reducible refine condP_true ?_) | (with_reducible refine condP_false ?_) | (with_reducible refine condP_not ?_) | (with_reducible refine condP_and ?_) | ((with_reducible refine condP_dt ?_ ?_); (· omega)) | ((with_reducible refine condP_df ?_ ?_); (· omega)) | ((with_reducible refine condP_yes ?_ ?_); (· assumption)) | ((with_reducible refine condP_no ?_ ?_); (· assumption)) | ((with_reducible refine ArP_i64 ?_ ?_); (· omega)) | ((with_reducible refine mustP.mk ?_ ?_); (· first | omega | rfl | (dsimp only; omega))) | (with_reducible refine EqP_nil tab_ok ?_) | (with_reducible refine EqP_sli tab_ok ?_) | (with_reducible refine DrawP_auto tab_ok (by kernel_rfl) (by decide +kernel) ?_) | (with_reducible refine DrawP_auto2 tab_ok (by kernel_rfl) (by decide +kernel) ?_) | (with_reducible refine eq28 ?_) | (with_reducible refine eq33 ?_) | (with_reducible refine eq95 ?_) | (with_reducible refine eq115 ?_))))
                  exact ⟨by rw [← hq2, ← hr2]; rfl, rfl⟩
        · (repeat ((try (conv => whnf)); (first | (with_reducible refine ArP_as _ hdec ?_) | (refine ArP_id (u64r ⟨by omega, by omega⟩) ?_) | (with_reducible refine condP_true ?_) | (with_reducible refine condP_false ?_) | (with_reducible refine condP_not ?_) | (with_reducible refine condP_and ?_) | ((with_reducible refine condP_dt ?_ ?_); (· omega)) | ((with_reducible refine condP_df ?_ ?_); (· omega)) | ((with_reducible refine condP_yes ?_ ?_); (· assumption)) | ((with_reducible refine condP_no ?_ ?_); (· assumption)) | ((with_reducible refine ArP_i64 ?_ ?_); (· omega)) | ((with_reducible refine mustP.mk ?_ ?_); (· first | omega | rfl | (dsimp only; omega))) | (with_reducible refine EqP_nil tab_ok ?_) | (with_reducible refine EqP_sli tab_ok ?_) | (with_reducible refine DrawP_auto tab_ok (by kernel_rfl) (by decide +kernel) ?_) | (with_reducible refine DrawP_auto2 tab_ok (by kernel_rfl) (by decide +kernel) ?_) | (with_reducible refine eq28 ?_) | (with_reducible refine eq33 ?_) | (with_reducible refine eq95 ?_) | (with_reducible refine eq115 ?_))))
          (repeat ((try (conv => whnf)); (first | (with_reducible refine ArP_as _ E15.e ?_) | (with_reducible refine ArP_as _ E16.e ?_) | (with_reducible refine ArP_as _ E17.e ?_) | (with_reducible refine ArP_as _ E18.e ?_) | (with_reducible refine ArP_as _ E21.e ?_) | (with_reducible refine ArP_as _ E22.e ?_) | (with_reducible refine ArP_as _ E23.e ?_) | (refine ArP_id (u64r ⟨by omega, by omega⟩) ?_) | (with_reducible refine condP_true ?_) | (with_reducible refine condP_false ?_) | (with_reducible refine condP_not ?_) | (with_reducible refine condP_and ?_) | ((with_reducible refine condP_dt ?_ ?_); (· omega)) | ((with_reducible refine condP_df ?_ ?_); (· omega)) | ((with_reducible refine condP_yes ?_ ?_); (· assumption)) | ((with_reducible refine condP_no ?_ ?_); (· assumption)) | ((with_reducible refine ArP_i64 ?_ ?_); (· omega)) | ((with_reducible refine mustP.mk ?_ ?_); (· first | omega | rfl | (dsimp only; omega))) | (with_reducible refine EqP_nil tab_ok ?_) | (with_reducible refine EqP_sli tab_ok ?_) | (with_reducible refine DrawP_auto tab_ok (by kernel_rfl) (by decide +kernel) ?_) | (with_reducible refine DrawP_auto2 tab_ok (by kernel_rfl) (by decide +kernel) ?_) | (with_reducible refine eq28 ?_) | (with_reducible refine eq33 ?_) | (with_reducible refine eq95 ?_) | (with_reducible refine eq115 ?_))))
          conv => whnf
          have b0b := kn_init (u := r1) (d := d0) hy hv1 hd0
          have b1b := kn_bound (u := r1) hy hv1b hv0 hr1
          have b2b := kn_top (d := d0) hr1 hd0
          rw [hq0] at b0b b2b
          refine LoopP_at2 tab_ok (fun (q rh : Nat) => q0 ≤ q ∧ q ≤ 4294967297 ∧ rh < 4294967296 ∧ rh + q * v1 = r1) (fun q rh => [(18, .val (.int .u64 q)), (16, .val (.int .u64 rh))]) (fun _ _ => []) (fun q _ => q - q0) (r1 / v1) (r1 % v1) ⟨b0b, b1b, Nat.lt_of_lt_of_le (Nat.mod_lt _ hv1) (by omega), by rw [Nat.mul_comm]; exact Nat.mod_add_div _ _⟩ ?_ ?_
          · ((refine Le_head ?_); (conv => whnf); (refine Le_mk (by rfl) (by rfl) ?_ ?_); (· (repeat (first | (with_reducible exact frLe_nil) | (with_reducible refine frLe_any ?_) | (with_reducible refine frLe_val ?_) | ((with_reducible refine frLe_eq rfl ?_ ?_); (· rfl)) | ((with_reducible refine frLe_val' (int_eq ?_) ?_ ?_); (· omega); (· rfl)) | ((with_reducible refine frLe_val' (int_eq ?_) ?_ ?_); (· simp only [Int.natCast_add, Int.natCast_one, Int.natCast_ofNat] <;> omega); (· rfl)) | ((with_reducible refine frLe_val' (bool_eq ?_) ?_ ?_); (· first | assumption | (symm; assumption)); (· rfl))))))
            exact hpLe_nil
          · rintro q rh ⟨c1, c2, c3, c4⟩
            have hdec : 1 ≤ q → IntKind.u64.wrap ((q : Int) - 1) = ((q - 1 : Nat) : Int) := fun h => wrapI (by omega) (by omega)
            have hstep : q0 < q → ∃ p, q = p + 1 ∧ rh + v1 + p * v1 = r1 := fun h => ⟨q - 1, by omega, by
              obtain ⟨p, rfl⟩ : ∃ p, q = p + 1 := ⟨q - 1, by omega⟩
              rw [Nat.add_sub_cancel, ← c4, Nat.add_mul, Nat.one_mul]; omega⟩
            have E14 : q < 4294967296 → IntKind.u64.wrap ((q : Int) * (v0 : Int)) = ((q * v0 : Nat) : Int) := fun h => wrapI (by push_cast; rfl) (Nat.lt_of_le_of_lt (Nat.mul_le_mul (show q ≤ 4294967295 by omega) (show v0 ≤ 4294967295 by omega)) (by decide))
            by_cases j1 : q < 4294967296 ∧ q * v0 ≤ rh * 4294967296 + d0
            · have j2 := kn_le hy hy0 c4 j1.2
              rw [hq0] at j2
              obtain rfl : q = q0 := by omega
              have E14 := E14 j1.1
              have j3 := j1.2
              generalize q * v0 = qv at *
              (repeat ((try (conv => whnf)); (first | (with_reducible refine ArP_as _ E14 ?_) | (refine ArP_id (u64r ⟨by omega, by omega⟩) ?_) | (with_reducible refine condP_true ?_) | (with_reducible refine condP_false ?_) | (with_reducible refine condP_not ?_) | (with_reducible refine condP_and ?_) | ((with_reducible refine condP_dt ?_ ?_); (· omega)) | ((with_reducible refine condP_df ?_ ?_); (· omega)) | ((with_reducible refine condP_yes ?_ ?_); (· assumption)) | ((with_reducible refine condP_no ?_ ?_); (· assumption)) | ((with_reducible refine ArP_i64 ?_ ?_); (· omega)) | ((with_reducible refine mustP.mk ?_ ?_); (· first | omega | rfl | (dsimp only; omega))) | (with_reducible refine EqP_nil tab_ok ?_) | (with_reducible refine EqP_sli tab_ok ?_) | (with_reducible refine DrawP_auto tab_ok (by kernel_rfl) (by decide +kernel) ?_) | (with_reducible refine DrawP_auto2 tab_ok (by kernel_rfl) (by decide +kernel) ?_) | (with_reducible refine eq28 ?_) | (with_reducible refine eq33 ?_) | (with_reducible refine eq95 ?_) | (with_reducible refine eq115 ?_))))
              (repeat ((try (conv => whnf)); (first | (with_reducible refine ArP_as _ E25.e ?_) | (with_reducible refine ArP_as _ E26.e ?_) | (with_reducible refine ArP_as _ E27.e ?_) | (with_reducible refine ArP_as _ E28.e ?_) | (with_reducible refine isP.mk _ E29.e ?_) | (refine ArP_id (u64r ⟨by omega, by omega⟩) ?_) | (with_reducible refine condP_true ?_) | (with_reducible refine condP_false ?_) | (with_reducible refine condP_not ?_) | (with_reducible refine condP_and ?_) | ((with_reducible refine condP_dt ?_ ?_); (· omega)) | ((with_reducible refine condP_df ?_ ?_); (· omega)) | ((with_reducible refine condP_yes ?_ ?_); (· assumption)) | ((with_reducible refine condP_no ?_ ?_); (· assumption)) | ((with_reducible refine ArP_i64 ?_ ?_); (· omega)) | ((with_reducible refine mustP.mk ?_ ?_); (· first | omega | rfl | (dsimp only; omega))) | (with_reducible refine EqP_nil tab_ok ?_) | (with_reducible refine EqP_sli tab_ok ?_) | (with_reducible refine DrawP_auto tab_ok (by kernel_rfl) (by decide +kernel) ?_) | (with_reducible refine DrawP_auto2 tab_ok (by kernel_rfl) (by decide +kernel) ?_) | (with_reducible refine eq28 ?_) | (with_reducible refine eq33 ?_) | (with_reducible refine eq95 ?_) | (with_reducible refine eq115 ?_))))
              exact ⟨by rw [← hq2, ← hr2]; rfl, rfl⟩
            · have j2 : q0 < q := by
                by_cases j3 : q < 4294967296
                · have := kn_gt (d := d0) hy hy0 c4 (by omega)
                  rw [hq0] at this; exact this
                · omega
              obtain ⟨p, hp, c5⟩ := hstep j2
              have hdec := hdec (by omega)
              have E14' : q < 4294967296 → ∃ z : Int, IntKind.u64.wrap ((q : Int) * (v0 : Int)) = z ∧ (rh : Int) * 4294967296 + d0 < z := fun h => ⟨_, E14 h, by
                have : rh * 4294967296 + d0 < q * v0 := by omega
                omega⟩
              by_cases j4 : rh + v1 < 4294967296
              · by_cases j5 : q < 4294967296
                · obtain ⟨z, E14, hz⟩ := E14' j5
                  (repeat ((try (conv => whnf)); (first | (with_reducible refine ArP_as _ E14 ?_) | (with_reducible refine ArP_as _ hdec ?_) | (refine ArP_id (u64r ⟨by omega, by omega⟩) ?_) | (with_reducible refine condP_true ?_) | (with_reducible refine condP_false ?_) | (with_reducible refine condP_not ?_) | (with_reducible refine condP_and ?_) | ((with_reducible refine condP_dt ?_ ?_); (· omega)) | ((with_reducible refine condP_df ?_ ?_); (· omega)) | ((with_reducible refine condP_yes ?_ ?_); (· assumption)) | ((with_reducible refine condP_no ?_ ?_); (· assumption)) | ((with_reducible refine ArP_i64 ?_ ?_); (· omega)) | ((with_reducible refine mustP.mk ?_ ?_); (· first | omega | rfl | (dsimp only; omega))) | (with_reducible refine EqP_nil tab_ok ?_) | (with_reducible refine EqP_sli tab_ok ?_) | (with_reducible refine DrawP_auto tab_ok (by kernel_rfl) (by decide +kernel) ?_) | (with_reducible refine DrawP_auto2 tab_ok (by kernel_rfl) (by decide +kernel) ?_) | (with_reducible refine eq28 ?_) | (with_reducible refine eq33 ?_) | (with_reducible refine eq95 ?_) | (with_reducible refine eq115 ?_))))
                  refine ⟨q - 1, rh + v1, ⟨by omega, by omega, by omega, by rw [hp, Nat.add_sub_cancel]; exact c5⟩, by omega, ?_⟩
                  ((refine Le_head ?_); (conv => whnf); (refine Le_mk (by rfl) (by rfl) ?_ ?_); (· (repeat (first | (with_reducible exact frLe_nil) | (with_reducible refine frLe_any ?_) | (with_reducible refine frLe_val ?_) | ((with_reducible refine frLe_eq rfl ?_ ?_); (· rfl)) | ((with_reducible refine frLe_val' (int_eq ?_) ?_ ?_); (· omega); (· rfl)) | ((with_reducible refine frLe_val' (int_eq ?_) ?_ ?_); (· simp only [Int.natCast_add, Int.natCast_one, Int.natCast_ofNat] <;> omega); (· rfl)) | ((with_reducible refine frLe_val' (bool_eq ?_) ?_ ?_); (· first | assumption | (symm; assumption)); (· rfl))))))
                  exact hpLe_nil
                · (repeat ((try (conv => whnf)); (first | (with_reducible refine ArP_as _ hdec ?_) | (refine ArP_id (u64r ⟨by omega, by omega⟩) ?_) | (with_reducible refine condP_true ?_) | (with_reducible refine condP_false ?_) | (with_reducible refine condP_not ?_) | (with_reducible refine condP_and ?_) | ((with_reducible refine condP_dt ?_ ?_); (· omega)) | ((with_reducible refine condP_df ?_ ?_); (· omega)) | ((with_reducible refine condP_yes ?_ ?_); (· assumption)) | ((with_reducible refine condP_no ?_ ?_); (· assumption)) | ((with_reducible refine ArP_i64 ?_ ?_); (· omega)) | ((with_reducible refine mustP.mk ?_ ?_); (· first | omega | rfl | (dsimp only; omega))) | (with_reducible refine EqP_nil tab_ok ?_) | (with_reducible refine EqP_sli tab_ok ?_) | (with_reducible refine DrawP_auto tab_ok (by kernel_rfl) (by decide +kernel) ?_) | (with_reducible refine DrawP_auto2 tab_ok (by kernel_rfl) (by decide +kernel) ?_) | (with_reducible refine eq28 ?_) | (with_reducible refine eq33 ?_) | (with_reducible refine eq95 ?_) | (with_reducible refine eq115 ?_))))
                  refine ⟨q - 1, rh + v1, ⟨by omega, by omega, by omega, by rw [hp, Nat.add_sub_cancel]; exact c5⟩, by omega, ?_⟩
                  ((refine Le_head ?_); (conv => whnf); (refine Le_mk (by rfl) (by rfl) ?_ ?_); (· (repeat (first | (with_reducible exact frLe_nil) | (with_reducible refine frLe_any ?_) | (with_reducible refine frLe_val ?_) | ((with_reducible refine frLe_eq rfl ?_ ?_); (· rfl)) | ((with_reducible refine frLe_val' (int_eq ?_) ?_ ?_); (· omega); (· rfl)) | ((with_reducible refine frLe_val' (int_eq ?_) ?_ ?_); (· simp only [Int.natCast_add, Int.natCast_one, Int.natCast_ofNat] <;> omega); (· rfl)) | ((with_reducible refine frLe_val' (bool_eq ?_) ?_ ?_); (· first | assumption | (symm; assumption)); (· rfl))))))
                  exact hpLe_nil
              · have j6 : p ≤ q0 := by
                  rw [← hq0]
                  refine kn_le (d := d0) hy hy0 c5 ?_
                  have h9 := Nat.mul_le_mul (show p ≤ 4294967296 by omega) (show v0 ≤ 4294967295 by omega)
                  omega
                have j7 : q - 1 = q0 := by rw [hp, Nat.add_sub_cancel]; exact Nat.le_antisymm j6 (Nat.lt_succ_iff.1 (by rw [← Nat.succ_eq_add_one] at hp; rw [← hp]; exact j2))
                rw [j7] at hdec
                by_cases j5 : q < 4294967296
                · obtain ⟨z, E14, hz⟩ := E14' j5
                  (repeat ((try (conv => whnf)); (first | (with_reducible refine ArP_as _ E14 ?_) | (with_reducible refine ArP_as _ hdec ?_) | (refine ArP_id (u64r ⟨by omega, by omega⟩) ?_) | (with_reducible refine condP_true ?_) | (with_reducible refine condP_false ?_) | (with_reducible refine condP_not ?_) | (with_reducible refine condP_and ?_) | ((with_reducible refine condP_dt ?_ ?_); (· omega)) | ((with_reducible refine condP_df ?_ ?_); (· omega)) | ((with_reducible refine condP_yes ?_ ?_); (· assumption)) | ((with_reducible refine condP_no ?_ ?_); (· assumption)) | ((with_reducible refine ArP_i64 ?_ ?_); (· omega)) | ((with_reducible refine mustP.mk ?_ ?_); (· first | omega | rfl | (dsimp only; omega))) | (with_reducible refine EqP_nil tab_ok ?_) | (with_reducible refine EqP_sli tab_ok ?_) | (with_reducible refine DrawP_auto tab_ok (by kernel_rfl) (by decide +kernel) ?_) | (with_reducible refine DrawP_auto2 tab_ok (by kernel_rfl) (by decide +kernel) ?_) | (with_reducible refine eq28 ?_) | (with_reducible refine eq33 ?_) | (with_reducible refine eq95 ?_) | (with_reducible refine eq115 ?_))))
                  (repeat ((try (conv => whnf)); (first | (with_reducible refine ArP_as _ E25.e ?_) | (with_reducible refine ArP_as _ E26.e ?_) | (with_reducible refine ArP_as _ E27.e ?_) | (with_reducible refine ArP_as _ E28.e ?_) | (with_reducible refine isP.mk _ E29.e ?_) | (refine ArP_id (u64r ⟨by omega, by omega⟩) ?_) | (with_reducible refine condP_true ?_) | (with_reducible refine condP_false ?_) | (with_reducible refine condP_not ?_) | (with_reducible refine condP_and ?_) | ((with_reducible refine condP_dt ?_ ?_); (· omega)) | ((with_reducible refine condP_df ?_ ?_); (· omega)) | ((with_reducible refine condP_yes ?_ ?_); (· assumption)) | ((with_reducible refine condP_no ?_ ?_); (· assumption)) | ((with_reducible refine ArP_i64 ?_ ?_); (· omega)) | ((with_reducible refine mustP.mk ?_ ?_); (· first | omega | rfl | (dsimp only; omega))) | (with_reducible refine EqP_nil tab_ok ?_) | (with_reducible refine EqP_sli tab_ok ?_) | (with_reducible refine DrawP_auto tab_ok (by kernel_rfl) (by decide +kernel) ?_) | (with_reducible refine DrawP_auto2 tab_ok (by kernel_rfl) (by decide +kernel) ?_) | (with_reducible refine eq28 ?_) | (with_reducible refine eq33 ?_) | (with_reducible refine eq95 ?_) | (with_reducible refine eq115 ?_))))
                  exact ⟨by rw [← hq2, ← hr2]; rfl, rfl⟩
                · (repeat ((try (conv => whnf)); (first | (with_reducible refine ArP_as _ hdec ?_) | (refine ArP_id (u64r ⟨by omega, by omega⟩) ?_) | (with_reducible refine condP_true ?_) | (with_reducible refine condP_false ?_) | (with_reducible refine condP_not ?_) | (with_reducible refine condP_and ?_) | ((with_reducible refine condP_dt ?_ ?_); (· omega)) | ((with_reducible refine condP_df ?_ ?_); (· omega)) | ((with_reducible refine condP_yes ?_ ?_); (· assumption)) | ((with_reducible refine condP_no ?_ ?_); (· assumption)) | ((with_reducible refine ArP_i64 ?_ ?_); (· omega)) | ((with_reducible refine mustP.mk ?_ ?_); (· first | omega | rfl | (dsimp only; omega))) | (with_reducible refine EqP_nil tab_ok ?_) | (with_reducible refine EqP_sli tab_ok ?_) | (with_reducible refine DrawP_auto tab_ok (by kernel_rfl) (by decide +kernel) ?_) | (with_reducible refine DrawP_auto2 tab_ok (by kernel_rfl) (by decide +kernel) ?_) | (with_reducible refine eq28 ?_) | (with_reducible refine eq33 ?_) | (with_reducible refine eq95 ?_) | (with_reducible refine eq115 ?_))))
                  (repeat ((try (conv => whnf)); (first | (with_reducible refine ArP_as _ E25.e ?_) | (with_reducible refine ArP_as _ E26.e ?_) | (with_reducible refine ArP_as _ E27.e ?_) | (with_reducible refine ArP_as _ E28.e ?_) | (with_reducible refine isP.mk _ E29.e ?_) | (refine ArP_id (u64r ⟨by omega, by omega⟩) ?_) | (with_reducible refine condP_true ?_) | (with_reducible refine condP_false ?_) | (with_reducible refine condP_not ?_) | (with_reducible refine condP_and ?_) | ((with_reducible refine condP_dt ?_ ?_); (· omega)) | ((with_reducible refine condP_df ?_ ?_); (· omega)) | ((with_reducible refine condP_yes ?_ ?_); (· assumption)) | ((with_reducible refine condP_no ?_ ?_); (· assumption)) | ((with_reducible refine ArP_i64 ?_ ?_); (· omega)) | ((with_reducible refine mustP.mk ?_ ?_); (· first | omega | rfl | (dsimp only; omega))) | (with_reducible refine EqP_nil tab_ok ?_) | (with_reducible refine EqP_sli tab_ok ?_) | (with_reducible refine DrawP_auto tab_ok (by kernel_rfl) (by decide +kernel) ?_) | (with_reducible refine DrawP_auto2 tab_ok (by kernel_rfl) (by decide +kernel) ?_) | (with_reducible refine eq28 ?_) | (with_reducible refine eq33 ?_) | (with_reducible refine eq95 ?_) | (with_reducible refine eq115 ?_))))
                  exact ⟨by rw [← hq2, ← hr2]; rfl, rfl⟩
end Go.Proofs.Ytmklpphdbmpbbaa
