/-
  The reference's MulDiv.
-/
import Derived.Test.YtmklpphdbmpbbaaMulDiv
import Derived.Test.YtmklpphdbmpbbaaDown
import Derived.Test.YtmklpphdbmpbbaaCoord
namespace Go.Proofs.Ytmklpphdbmpbbaa
open Go.RowKit
set_option linter.unusedVariables false
set_option maxRecDepth 20000
theorem number_gives (x : Int) (G : Mem) : Gives Try.prog 38 [.val (.int .i64 x)] G (.val (.bool (fit x))) :=
  Gives.of_calls (args := [.int .i64 x]) fun w _ => (number_any x w).mono fun _ _ h => ⟨h.1, h.2 ▸ Below.refl _ _⟩
theorem DownM_gives {a b : Int} {G : Mem} (ha : -4611686018427387904 ≤ a ∧ a ≤ 4611686018427387904) (hb : 1 ≤ b ∧ b ≤ 4611686018427387904) : Gives Try.prog 39 [.val (.int .i64 a), .val (.int .i64 b)] G (.val (.int .i64 (a / b))) :=
  Gives.of_calls (args := [.int .i64 a, .int .i64 b]) fun w _ => (Down_any a b w ha hb).mono fun _ _ h => ⟨h.1, h.2 ▸ Below.refl _ _⟩
theorem and_one (z : Int) (h0 : 0 ≤ z) (h1 : z < 9223372036854775808) : bits .and .i64 z 1 = z % 2 := by
  have h1' : (BitVec.ofInt 64 1).toNat = 2 ^ 1 - 1 := by decide
  have key : (BitVec.ofInt 64 z &&& BitVec.ofInt 64 1).toNat = (z % ((2 ^ 64 : Nat) : Int)).toNat % 2 ^ 1 := by
    rw [BitVec.toNat_and, BitVec.toNat_ofInt, h1', Nat.and_two_pow_sub_one_eq_mod]
  show IntKind.i64.wrap ((BitVec.ofInt 64 z &&& BitVec.ofInt 64 1).toNat : Nat) = z % 2
  rw [key, IntKind.wrap_i64]
  omega
theorem md_over {b q r n : Int} {m A : Nat} (hn : 1 ≤ n) (h : q * n + r = b * m) (hr : 0 ≤ r ∧ r < n) (hm : m ≤ A) (hq : q < -1125899906842624 ∨ 1125899906842624 < q) : b * A / n < -1099511627776 ∨ 1099511627776 < b * A / n := by
  have hmA : (m : Int) ≤ A := by omega
  rcases hq with hq | hq
  · left
    have h1 : b * m < -1125899906842624 * n + n := by
      have := Int.mul_le_mul_of_nonneg_right (show q + 1 ≤ -1125899906842624 by omega) (show 0 ≤ n by omega)
      rw [Int.add_mul] at this
      omega
    have hb : b ≤ 0 := by
      rcases (show b ≤ 0 ∨ 0 ≤ b by omega) with h2 | h2
      · exact h2
      · have := Int.mul_nonneg h2 (show (0 : Int) ≤ m by omega)
        omega
    have h3 : b * A ≤ b * m := Int.mul_le_mul_of_nonpos_left hb hmA
    have h4 : b * A / n < -1099511627776 := Int.ediv_lt_of_lt_mul (by omega) (by omega)
    exact h4
  · right
    have h1 : 1125899906842625 * n ≤ b * m := by
      have := Int.mul_le_mul_of_nonneg_right (show 1125899906842625 ≤ q by omega) (show 0 ≤ n by omega)
      omega
    have hb : 0 ≤ b := by
      rcases (show b ≤ 0 ∨ 0 ≤ b by omega) with h2 | h2
      · have := Int.mul_le_mul_of_nonpos_left h2 (show (0 : Int) ≤ m by omega)
        rw [Int.mul_zero] at this
        omega
      · exact h2
    have h3 : b * m ≤ b * A := Int.mul_le_mul_of_nonneg_left hmA hb
    have h4 : 1125899906842625 ≤ b * A / n := (Int.le_ediv_iff_mul_le (by omega)).2 (by omega)
    omega
theorem md_end {b q r n : Int} {A : Nat} (hn : 1 ≤ n) (h : q * n + r = b * A) (hr : 0 ≤ r ∧ r < n) : b * A / n = q := by
  rw [← h, Int.add_comm, Int.add_mul_ediv_right _ _ (by omega), Int.ediv_eq_zero_of_lt hr.1 hr.2, Int.zero_add]
set_option maxHeartbeats 8000000 in
theorem RMulDiv_core {a b c : Int} {A : Nat} {B : Int} {G : Mem} (hf : mdOk a b c = true) (hc : 1 ≤ c) (hA : (A : Int) = if a < 0 then -a else a) (hB : B = if a < 0 then -b else b) (hAB : a * b = B * A) :
    Gives Try.prog 22 [.val (.int .i64 a), .val (.int .i64 b), .val (.int .i64 c)] G (mdA (mdV a b c)) := by
  have hbd := md_bd hf
  simp only [mdOk, Bool.and_eq_true] at hf
  have n1 := number_gives a G
  have n2 := number_gives b G
  have n3 := number_gives c G
  rw [hf.1] at n1
  rw [hf.2.1] at n2
  rw [hf.2.2] at n3
  have hval : mdV a b c = if -1099511627776 ≤ B * A / c ∧ B * A / c ≤ 1099511627776 then (B * A / c, 0) else (0, 10) := by
    simp only [mdV, mdOk, hf.1, hf.2.1, hf.2.2, hAB]; rw [if_neg (by simp), if_neg (by omega)]
  rw [hval]
  have hAb : A ≤ 1099511627776 := by split at hA <;> omega
  have hBb : -1099511627776 ≤ B ∧ B ≤ 1099511627776 := by split at hB <;> omega
  refine Gives_of tab_ok Try.func22 ?_
  by_cases ha : a < 0
  · rw [if_pos ha] at hA hB
    (repeat ((try (conv => whnf)); (first | (with_reducible refine condP_true ?_) | (with_reducible refine condP_false ?_) | (with_reducible refine condP_not ?_) | (with_reducible refine condP_and ?_) | ((with_reducible refine condP_dt ?_ ?_); (· omega)) | ((with_reducible refine condP_df ?_ ?_); (· omega)) | ((with_reducible refine condP_yes ?_ ?_); (· assumption)) | ((with_reducible refine condP_no ?_ ?_); (· assumption)) | ((with_reducible refine ArP_i64 ?_ ?_); (· omega)) | ((with_reducible refine mustP.mk ?_ ?_); (· first | omega | rfl | (dsimp only; omega))) | (with_reducible refine EqP_nil tab_ok ?_) | (with_reducible refine EqP_sli tab_ok ?_) | (with_reducible refine DrawP_auto tab_ok (by kernel_rfl) (by decide +kernel) ?_) | (with_reducible refine DrawP_auto2 tab_ok (by kernel_rfl) (by decide +kernel) ?_) | (with_reducible refine eq28 ?_) | (with_reducible refine eq33 ?_) | (with_reducible refine eq95 ?_) | (with_reducible refine eq115 ?_) | (with_reducible refine CallP_gives (fun vs w => by kernel_rfl) (by kernel_rfl) (n1) ?_) | (with_reducible refine RCallP_gives (fun vs w => by kernel_rfl) (by kernel_rfl) (n1) ?_) | (with_reducible refine CallP_gives (fun vs w => by kernel_rfl) (by kernel_rfl) (n2) ?_) | (with_reducible refine RCallP_gives (fun vs w => by kernel_rfl) (by kernel_rfl) (n2) ?_) | (with_reducible refine CallP_gives (fun vs w => by kernel_rfl) (by kernel_rfl) (n3) ?_) | (with_reducible refine RCallP_gives (fun vs w => by kernel_rfl) (by kernel_rfl) (n3) ?_))))
    rw [show (0 - a) = (A : Int) by omega, show (0 - b) = B by omega]
    conv => whnf
    refine LoopP_at3 tab_ok (fun (k : Nat) (q r : Int) => k ≤ 42 ∧ q * c + r = B * ((A / 2 ^ k : Nat) : Int) ∧ 0 ≤ r ∧ r < c ∧ -1125899906842624 ≤ q ∧ q ≤ 1125899906842624) (fun k q r => [(10, .val (.int .i64 ((k : Int) - 1))), (8, .val (.int .i64 q)), (9, .val (.int .i64 r))]) (fun _ _ _ => []) (fun k _ _ => k) 42 0 0 ⟨Nat.le_refl _, by rw [Nat.div_eq_of_lt (by omega)]; simp, by omega, by omega, by omega, by omega⟩ ?_ ?_
    · ((refine Le_head ?_); (conv => whnf); (refine Le_mk (by rfl) (by rfl) ?_ ?_); (· (repeat (first | (with_reducible exact frLe_nil) | (with_reducible refine frLe_any ?_) | (with_reducible refine frLe_val ?_) | ((with_reducible refine frLe_eq rfl ?_ ?_); (· rfl)) | ((with_reducible refine frLe_val' (int_eq ?_) ?_ ?_); (· omega); (· rfl)) | ((with_reducible refine frLe_val' (int_eq ?_) ?_ ?_); (· simp only [Int.natCast_add, Int.natCast_one, Int.natCast_ofNat] <;> omega); (· rfl)) | ((with_reducible refine frLe_val' (bool_eq ?_) ?_ ?_); (· first | assumption | (symm; assumption)); (· rfl))))))
      exact hpLe_nil
    · rintro k q r ⟨hk, he, hr0, hr1, hq0, hq1⟩
      rcases k with _ | k
      · rw [Nat.pow_zero, Nat.div_one] at he
        have hend := md_end hc he ⟨hr0, hr1⟩
        rw [hend]
        have n4 := number_gives q G
        by_cases hq : -1099511627776 ≤ q ∧ q ≤ 1099511627776
        · have hfq : fit q = true := inB_yes hq
          rw [hfq] at n4
          rw [if_pos hq]
          (repeat ((try (conv => whnf)); (first | (with_reducible refine condP_true ?_) | (with_reducible refine condP_false ?_) | (with_reducible refine condP_not ?_) | (with_reducible refine condP_and ?_) | ((with_reducible refine condP_dt ?_ ?_); (· omega)) | ((with_reducible refine condP_df ?_ ?_); (· omega)) | ((with_reducible refine condP_yes ?_ ?_); (· assumption)) | ((with_reducible refine condP_no ?_ ?_); (· assumption)) | ((with_reducible refine ArP_i64 ?_ ?_); (· omega)) | ((with_reducible refine mustP.mk ?_ ?_); (· first | omega | rfl | (dsimp only; omega))) | (with_reducible refine EqP_nil tab_ok ?_) | (with_reducible refine EqP_sli tab_ok ?_) | (with_reducible refine DrawP_auto tab_ok (by kernel_rfl) (by decide +kernel) ?_) | (with_reducible refine DrawP_auto2 tab_ok (by kernel_rfl) (by decide +kernel) ?_) | (with_reducible refine eq28 ?_) | (with_reducible refine eq33 ?_) | (with_reducible refine eq95 ?_) | (with_reducible refine eq115 ?_) | (with_reducible refine CallP_gives (fun vs w => by kernel_rfl) (by kernel_rfl) (n4) ?_) | (with_reducible refine RCallP_gives (fun vs w => by kernel_rfl) (by kernel_rfl) (n4) ?_))))
          exact ⟨rfl, rfl⟩
        · have hfq : fit q = false := inB_no hq
          rw [hfq] at n4
          rw [if_neg hq]
          (repeat ((try (conv => whnf)); (first | (with_reducible refine condP_true ?_) | (with_reducible refine condP_false ?_) | (with_reducible refine condP_not ?_) | (with_reducible refine condP_and ?_) | ((with_reducible refine condP_dt ?_ ?_); (· omega)) | ((with_reducible refine condP_df ?_ ?_); (· omega)) | ((with_reducible refine condP_yes ?_ ?_); (· assumption)) | ((with_reducible refine condP_no ?_ ?_); (· assumption)) | ((with_reducible refine ArP_i64 ?_ ?_); (· omega)) | ((with_reducible refine mustP.mk ?_ ?_); (· first | omega | rfl | (dsimp only; omega))) | (with_reducible refine EqP_nil tab_ok ?_) | (with_reducible refine EqP_sli tab_ok ?_) | (with_reducible refine DrawP_auto tab_ok (by kernel_rfl) (by decide +kernel) ?_) | (with_reducible refine DrawP_auto2 tab_ok (by kernel_rfl) (by decide +kernel) ?_) | (with_reducible refine eq28 ?_) | (with_reducible refine eq33 ?_) | (with_reducible refine eq95 ?_) | (with_reducible refine eq115 ?_) | (with_reducible refine CallP_gives (fun vs w => by kernel_rfl) (by kernel_rfl) (n4) ?_) | (with_reducible refine RCallP_gives (fun vs w => by kernel_rfl) (by kernel_rfl) (n4) ?_))))
          exact ⟨rfl, rfl⟩
      · obtain ⟨m, hm⟩ : ∃ m, A / 2 ^ k = m := ⟨_, rfl⟩
        have hm2 : A / 2 ^ (k + 1) = m / 2 := by rw [Nat.pow_succ, ← Nat.div_div_eq_div_mul, hm]
        have hmA : m ≤ A := by rw [← hm]; exact Nat.div_le_self _ _
        rw [hm2] at he
        have b1 : ((A : Int)).fdiv (2 ^ min ((((k + 1 : Nat) : Int) - 1)).toNat IntKind.i64.bits) = (m : Int) := by
          rw [show min ((((k + 1 : Nat) : Int) - 1)).toNat IntKind.i64.bits = k from by
            rw [show ((((k + 1 : Nat) : Int) - 1)).toNat = k by omega]; exact Nat.min_eq_left (by show k ≤ 64; omega), fdivN, hm]
        have b2 : bits .and .i64 (m : Int) 1 = ((m % 2 : Nat) : Int) := by rw [and_one _ (by omega) (by omega)]; omega
        have hdm := Nat.div_add_mod m 2
        have hBm : B * (m : Int) = 2 * (q * c + r) + B * ((m % 2 : Nat) : Int) := by
          rw [he, show (m : Int) = 2 * ((m / 2 : Nat) : Int) + ((m % 2 : Nat) : Int) by omega, Int.mul_add]
          have : B * (2 * ((m / 2 : Nat) : Int)) = 2 * (B * ((m / 2 : Nat) : Int)) := by rw [← Int.mul_assoc, Int.mul_comm B 2, Int.mul_assoc]
          rw [this]
        have step : ∀ r2 : Int, r2 = 2 * r + B * ((m % 2 : Nat) : Int) → ∃ kk r', r2 / c = kk ∧ kk * c = r2 - r' ∧ (0 ≤ r' ∧ r' < c) ∧ (2 * q + kk) * c + r' = B * (m : Int) ∧ -4398046511104 ≤ kk ∧ kk ≤ 4398046511104 := by
          intro r2 h2
          have hd := Int.mul_ediv_add_emod r2 c
          have e0 := Int.emod_nonneg r2 (show c ≠ 0 by omega)
          have e1 := Int.emod_lt_of_pos r2 (show 0 < c by omega)
          have hr2 : -4398046511104 ≤ r2 ∧ r2 ≤ 4398046511104 := by
            rcases (show m % 2 = 0 ∨ m % 2 = 1 by omega) with h3 | h3 <;> rw [h3] at h2 <;> simp at h2 <;> omega
          refine ⟨r2 / c, r2 % c, rfl, by rw [Int.mul_comm]; omega, ⟨e0, e1⟩, ?_, ?_, ?_⟩
          · rw [hBm, Int.add_mul, Int.mul_comm (r2 / c) c, Int.mul_assoc]
            generalize q * c = qc at *
            generalize c * (r2 / c) = z at *
            omega
          · exact (Int.le_ediv_iff_mul_le (by omega)).2 (by omega)
          · exact Int.ediv_le_of_le_mul (by omega) (by omega)
        rcases (show m % 2 = 0 ∨ m % 2 = 1 by omega) with h3 | h3
        · obtain ⟨kk, r', g1, g2, g3, g4, g5, g6⟩ := step (2 * r) (by rw [h3]; simp)
          rw [h3] at b2
          have d1 := DownM_gives (a := 2 * r) (b := c) (G := G) (by omega) (by omega)
          rw [g1] at d1
          by_cases h4 : -1125899906842624 ≤ 2 * q + kk ∧ 2 * q + kk ≤ 1125899906842624
          · (repeat ((try (conv => whnf)); (first | (with_reducible refine isP.mk _ b1 ?_) | (with_reducible refine isP.mk _ b2 ?_) | (with_reducible refine condP_true ?_) | (with_reducible refine condP_false ?_) | (with_reducible refine condP_not ?_) | (with_reducible refine condP_and ?_) | ((with_reducible refine condP_dt ?_ ?_); (· omega)) | ((with_reducible refine condP_df ?_ ?_); (· omega)) | ((with_reducible refine condP_yes ?_ ?_); (· assumption)) | ((with_reducible refine condP_no ?_ ?_); (· assumption)) | ((with_reducible refine ArP_i64 ?_ ?_); (· omega)) | ((with_reducible refine mustP.mk ?_ ?_); (· first | omega | rfl | (dsimp only; omega))) | (with_reducible refine EqP_nil tab_ok ?_) | (with_reducible refine EqP_sli tab_ok ?_) | (with_reducible refine DrawP_auto tab_ok (by kernel_rfl) (by decide +kernel) ?_) | (with_reducible refine DrawP_auto2 tab_ok (by kernel_rfl) (by decide +kernel) ?_) | (with_reducible refine eq28 ?_) | (with_reducible refine eq33 ?_) | (with_reducible refine eq95 ?_) | (with_reducible refine eq115 ?_) | (with_reducible refine CallP_gives (fun vs w => by kernel_rfl) (by kernel_rfl) (d1) ?_) | (with_reducible refine RCallP_gives (fun vs w => by kernel_rfl) (by kernel_rfl) (d1) ?_))))
            refine ⟨k, 2 * q + kk, r', ⟨by omega, by rw [hm]; exact g4, g3.1, g3.2, h4.1, h4.2⟩, by omega, ?_⟩
            ((refine Le_head ?_); (conv => whnf); (refine Le_mk (by rfl) (by rfl) ?_ ?_); (· (repeat (first | (with_reducible exact frLe_nil) | (with_reducible refine frLe_any ?_) | (with_reducible refine frLe_val ?_) | ((with_reducible refine frLe_eq rfl ?_ ?_); (· rfl)) | ((with_reducible refine frLe_val' (int_eq ?_) ?_ ?_); (· omega); (· rfl)) | ((with_reducible refine frLe_val' (int_eq ?_) ?_ ?_); (· simp only [Int.natCast_add, Int.natCast_one, Int.natCast_ofNat] <;> omega); (· rfl)) | ((with_reducible refine frLe_val' (bool_eq ?_) ?_ ?_); (· first | assumption | (symm; assumption)); (· rfl))))))
            exact hpLe_nil
          · have hov := md_over hc g4 g3 hmA (by omega)
            rw [if_neg (by omega)]
            by_cases h5 : 1125899906842624 < 2 * q + kk
            · (repeat ((try (conv => whnf)); (first | (with_reducible refine isP.mk _ b1 ?_) | (with_reducible refine isP.mk _ b2 ?_) | (with_reducible refine condP_true ?_) | (with_reducible refine condP_false ?_) | (with_reducible refine condP_not ?_) | (with_reducible refine condP_and ?_) | ((with_reducible refine condP_dt ?_ ?_); (· omega)) | ((with_reducible refine condP_df ?_ ?_); (· omega)) | ((with_reducible refine condP_yes ?_ ?_); (· assumption)) | ((with_reducible refine condP_no ?_ ?_); (· assumption)) | ((with_reducible refine ArP_i64 ?_ ?_); (· omega)) | ((with_reducible refine mustP.mk ?_ ?_); (· first | omega | rfl | (dsimp only; omega))) | (with_reducible refine EqP_nil tab_ok ?_) | (with_reducible refine EqP_sli tab_ok ?_) | (with_reducible refine DrawP_auto tab_ok (by kernel_rfl) (by decide +kernel) ?_) | (with_reducible refine DrawP_auto2 tab_ok (by kernel_rfl) (by decide +kernel) ?_) | (with_reducible refine eq28 ?_) | (with_reducible refine eq33 ?_) | (with_reducible refine eq95 ?_) | (with_reducible refine eq115 ?_) | (with_reducible refine CallP_gives (fun vs w => by kernel_rfl) (by kernel_rfl) (d1) ?_) | (with_reducible refine RCallP_gives (fun vs w => by kernel_rfl) (by kernel_rfl) (d1) ?_))))
              exact ⟨rfl, rfl⟩
            · (repeat ((try (conv => whnf)); (first | (with_reducible refine isP.mk _ b1 ?_) | (with_reducible refine isP.mk _ b2 ?_) | (with_reducible refine condP_true ?_) | (with_reducible refine condP_false ?_) | (with_reducible refine condP_not ?_) | (with_reducible refine condP_and ?_) | ((with_reducible refine condP_dt ?_ ?_); (· omega)) | ((with_reducible refine condP_df ?_ ?_); (· omega)) | ((with_reducible refine condP_yes ?_ ?_); (· assumption)) | ((with_reducible refine condP_no ?_ ?_); (· assumption)) | ((with_reducible refine ArP_i64 ?_ ?_); (· omega)) | ((with_reducible refine mustP.mk ?_ ?_); (· first | omega | rfl | (dsimp only; omega))) | (with_reducible refine EqP_nil tab_ok ?_) | (with_reducible refine EqP_sli tab_ok ?_) | (with_reducible refine DrawP_auto tab_ok (by kernel_rfl) (by decide +kernel) ?_) | (with_reducible refine DrawP_auto2 tab_ok (by kernel_rfl) (by decide +kernel) ?_) | (with_reducible refine eq28 ?_) | (with_reducible refine eq33 ?_) | (with_reducible refine eq95 ?_) | (with_reducible refine eq115 ?_) | (with_reducible refine CallP_gives (fun vs w => by kernel_rfl) (by kernel_rfl) (d1) ?_) | (with_reducible refine RCallP_gives (fun vs w => by kernel_rfl) (by kernel_rfl) (d1) ?_))))
              exact ⟨rfl, rfl⟩
        · obtain ⟨kk, r', g1, g2, g3, g4, g5, g6⟩ := step (2 * r + B) (by rw [h3]; simp)
          rw [h3] at b2
          have d1 := DownM_gives (a := 2 * r + B) (b := c) (G := G) (by omega) (by omega)
          rw [g1] at d1
          by_cases h4 : -1125899906842624 ≤ 2 * q + kk ∧ 2 * q + kk ≤ 1125899906842624
          · (repeat ((try (conv => whnf)); (first | (with_reducible refine isP.mk _ b1 ?_) | (with_reducible refine isP.mk _ b2 ?_) | (with_reducible refine condP_true ?_) | (with_reducible refine condP_false ?_) | (with_reducible refine condP_not ?_) | (with_reducible refine condP_and ?_) | ((with_reducible refine condP_dt ?_ ?_); (· omega)) | ((with_reducible refine condP_df ?_ ?_); (· omega)) | ((with_reducible refine condP_yes ?_ ?_); (· assumption)) | ((with_reducible refine condP_no ?_ ?_); (· assumption)) | ((with_reducible refine ArP_i64 ?_ ?_); (· omega)) | ((with_reducible refine mustP.mk ?_ ?_); (· first | omega | rfl | (dsimp only; omega))) | (with_reducible refine EqP_nil tab_ok ?_) | (with_reducible refine EqP_sli tab_ok ?_) | (with_reducible refine DrawP_auto tab_ok (by kernel_rfl) (by decide +kernel) ?_) | (with_reducible refine DrawP_auto2 tab_ok (by kernel_rfl) (by decide +kernel) ?_) | (with_reducible refine eq28 ?_) | (with_reducible refine eq33 ?_) | (with_reducible refine eq95 ?_) | (with_reducible refine eq115 ?_) | (with_reducible refine CallP_gives (fun vs w => by kernel_rfl) (by kernel_rfl) (d1) ?_) | (with_reducible refine RCallP_gives (fun vs w => by kernel_rfl) (by kernel_rfl) (d1) ?_))))
            refine ⟨k, 2 * q + kk, r', ⟨by omega, by rw [hm]; exact g4, g3.1, g3.2, h4.1, h4.2⟩, by omega, ?_⟩
            ((refine Le_head ?_); (conv => whnf); (refine Le_mk (by rfl) (by rfl) ?_ ?_); (· (repeat (first | (with_reducible exact frLe_nil) | (with_reducible refine frLe_any ?_) | (with_reducible refine frLe_val ?_) | ((with_reducible refine frLe_eq rfl ?_ ?_); (· rfl)) | ((with_reducible refine frLe_val' (int_eq ?_) ?_ ?_); (· omega); (· rfl)) | ((with_reducible refine frLe_val' (int_eq ?_) ?_ ?_); (· simp only [Int.natCast_add, Int.natCast_one, Int.natCast_ofNat] <;> omega); (· rfl)) | ((with_reducible refine frLe_val' (bool_eq ?_) ?_ ?_); (· first | assumption | (symm; assumption)); (· rfl))))))
            exact hpLe_nil
          · have hov := md_over hc g4 g3 hmA (by omega)
            rw [if_neg (by omega)]
            by_cases h5 : 1125899906842624 < 2 * q + kk
            · (repeat ((try (conv => whnf)); (first | (with_reducible refine isP.mk _ b1 ?_) | (with_reducible refine isP.mk _ b2 ?_) | (with_reducible refine condP_true ?_) | (with_reducible refine condP_false ?_) | (with_reducible refine condP_not ?_) | (with_reducible refine condP_and ?_) | ((with_reducible refine condP_dt ?_ ?_); (· omega)) | ((with_reducible refine condP_df ?_ ?_); (· omega)) | ((with_reducible refine condP_yes ?_ ?_); (· assumption)) | ((with_reducible refine condP_no ?_ ?_); (· assumption)) | ((with_reducible refine ArP_i64 ?_ ?_); (· omega)) | ((with_reducible refine mustP.mk ?_ ?_); (· first | omega | rfl | (dsimp only; omega))) | (with_reducible refine EqP_nil tab_ok ?_) | (with_reducible refine EqP_sli tab_ok ?_) | (with_reducible refine DrawP_auto tab_ok (by kernel_rfl) (by decide +kernel) ?_) | (with_reducible refine DrawP_auto2 tab_ok (by kernel_rfl) (by decide +kernel) ?_) | (with_reducible refine eq28 ?_) | (with_reducible refine eq33 ?_) | (with_reducible refine eq95 ?_) | (with_reducible refine eq115 ?_) | (with_reducible refine CallP_gives (fun vs w => by kernel_rfl) (by kernel_rfl) (d1) ?_) | (with_reducible refine RCallP_gives (fun vs w => by kernel_rfl) (by kernel_rfl) (d1) ?_))))
              exact ⟨rfl, rfl⟩
            · (repeat ((try (conv => whnf)); (first | (with_reducible refine isP.mk _ b1 ?_) | (with_reducible refine isP.mk _ b2 ?_) | (with_reducible refine condP_true ?_) | (with_reducible refine condP_false ?_) | (with_reducible refine condP_not ?_) | (with_reducible refine condP_and ?_) | ((with_reducible refine condP_dt ?_ ?_); (· omega)) | ((with_reducible refine condP_df ?_ ?_); (· omega)) | ((with_reducible refine condP_yes ?_ ?_); (· assumption)) | ((with_reducible refine condP_no ?_ ?_); (· assumption)) | ((with_reducible refine ArP_i64 ?_ ?_); (· omega)) | ((with_reducible refine mustP.mk ?_ ?_); (· first | omega | rfl | (dsimp only; omega))) | (with_reducible refine EqP_nil tab_ok ?_) | (with_reducible refine EqP_sli tab_ok ?_) | (with_reducible refine DrawP_auto tab_ok (by kernel_rfl) (by decide +kernel) ?_) | (with_reducible refine DrawP_auto2 tab_ok (by kernel_rfl) (by decide +kernel) ?_) | (with_reducible refine eq28 ?_) | (with_reducible refine eq33 ?_) | (with_reducible refine eq95 ?_) | (with_reducible refine eq115 ?_) | (with_reducible refine CallP_gives (fun vs w => by kernel_rfl) (by kernel_rfl) (d1) ?_) | (with_reducible refine RCallP_gives (fun vs w => by kernel_rfl) (by kernel_rfl) (d1) ?_))))
              exact ⟨rfl, rfl⟩
  · rw [if_neg ha] at hA hB
    (repeat ((try (conv => whnf)); (first | (with_reducible refine condP_true ?_) | (with_reducible refine condP_false ?_) | (with_reducible refine condP_not ?_) | (with_reducible refine condP_and ?_) | ((with_reducible refine condP_dt ?_ ?_); (· omega)) | ((with_reducible refine condP_df ?_ ?_); (· omega)) | ((with_reducible refine condP_yes ?_ ?_); (· assumption)) | ((with_reducible refine condP_no ?_ ?_); (· assumption)) | ((with_reducible refine ArP_i64 ?_ ?_); (· omega)) | ((with_reducible refine mustP.mk ?_ ?_); (· first | omega | rfl | (dsimp only; omega))) | (with_reducible refine EqP_nil tab_ok ?_) | (with_reducible refine EqP_sli tab_ok ?_) | (with_reducible refine DrawP_auto tab_ok (by kernel_rfl) (by decide +kernel) ?_) | (with_reducible refine DrawP_auto2 tab_ok (by kernel_rfl) (by decide +kernel) ?_) | (with_reducible refine eq28 ?_) | (with_reducible refine eq33 ?_) | (with_reducible refine eq95 ?_) | (with_reducible refine eq115 ?_) | (with_reducible refine CallP_gives (fun vs w => by kernel_rfl) (by kernel_rfl) (n1) ?_) | (with_reducible refine RCallP_gives (fun vs w => by kernel_rfl) (by kernel_rfl) (n1) ?_) | (with_reducible refine CallP_gives (fun vs w => by kernel_rfl) (by kernel_rfl) (n2) ?_) | (with_reducible refine RCallP_gives (fun vs w => by kernel_rfl) (by kernel_rfl) (n2) ?_) | (with_reducible refine CallP_gives (fun vs w => by kernel_rfl) (by kernel_rfl) (n3) ?_) | (with_reducible refine RCallP_gives (fun vs w => by kernel_rfl) (by kernel_rfl) (n3) ?_))))
    subst hB
    rw [← hA]
    conv => whnf
    refine LoopP_at3 tab_ok (fun (k : Nat) (q r : Int) => k ≤ 42 ∧ q * c + r = B * ((A / 2 ^ k : Nat) : Int) ∧ 0 ≤ r ∧ r < c ∧ -1125899906842624 ≤ q ∧ q ≤ 1125899906842624) (fun k q r => [(10, .val (.int .i64 ((k : Int) - 1))), (8, .val (.int .i64 q)), (9, .val (.int .i64 r))]) (fun _ _ _ => []) (fun k _ _ => k) 42 0 0 ⟨Nat.le_refl _, by rw [Nat.div_eq_of_lt (by omega)]; simp, by omega, by omega, by omega, by omega⟩ ?_ ?_
    · ((refine Le_head ?_); (conv => whnf); (refine Le_mk (by rfl) (by rfl) ?_ ?_); (· (repeat (first | (with_reducible exact frLe_nil) | (with_reducible refine frLe_any ?_) | (with_reducible refine frLe_val ?_) | ((with_reducible refine frLe_eq rfl ?_ ?_); (· rfl)) | ((with_reducible refine frLe_val' (int_eq ?_) ?_ ?_); (· omega); (· rfl)) | ((with_reducible refine frLe_val' (int_eq ?_) ?_ ?_); (· simp only [Int.natCast_add, Int.natCast_one, Int.natCast_ofNat] <;> omega); (· rfl)) | ((with_reducible refine frLe_val' (bool_eq ?_) ?_ ?_); (· first | assumption | (symm; assumption)); (· rfl))))))
      exact hpLe_nil
    · rintro k q r ⟨hk, he, hr0, hr1, hq0, hq1⟩
      rcases k with _ | k
      · rw [Nat.pow_zero, Nat.div_one] at he
        have hend := md_end hc he ⟨hr0, hr1⟩
        rw [hend]
        have n4 := number_gives q G
        by_cases hq : -1099511627776 ≤ q ∧ q ≤ 1099511627776
        · have hfq : fit q = true := inB_yes hq
          rw [hfq] at n4
          rw [if_pos hq]
          (repeat ((try (conv => whnf)); (first | (with_reducible refine condP_true ?_) | (with_reducible refine condP_false ?_) | (with_reducible refine condP_not ?_) | (with_reducible refine condP_and ?_) | ((with_reducible refine condP_dt ?_ ?_); (· omega)) | ((with_reducible refine condP_df ?_ ?_); (· omega)) | ((with_reducible refine condP_yes ?_ ?_); (· assumption)) | ((with_reducible refine condP_no ?_ ?_); (· assumption)) | ((with_reducible refine ArP_i64 ?_ ?_); (· omega)) | ((with_reducible refine mustP.mk ?_ ?_); (· first | omega | rfl | (dsimp only; omega))) | (with_reducible refine EqP_nil tab_ok ?_) | (with_reducible refine EqP_sli tab_ok ?_) | (with_reducible refine DrawP_auto tab_ok (by kernel_rfl) (by decide +kernel) ?_) | (with_reducible refine DrawP_auto2 tab_ok (by kernel_rfl) (by decide +kernel) ?_) | (with_reducible refine eq28 ?_) | (with_reducible refine eq33 ?_) | (with_reducible refine eq95 ?_) | (with_reducible refine eq115 ?_) | (with_reducible refine CallP_gives (fun vs w => by kernel_rfl) (by kernel_rfl) (n4) ?_) | (with_reducible refine RCallP_gives (fun vs w => by kernel_rfl) (by kernel_rfl) (n4) ?_))))
          exact ⟨rfl, rfl⟩
        · have hfq : fit q = false := inB_no hq
          rw [hfq] at n4
          rw [if_neg hq]
          (repeat ((try (conv => whnf)); (first | (with_reducible refine condP_true ?_) | (with_reducible refine condP_false ?_) | (with_reducible refine condP_not ?_) | (with_reducible refine condP_and ?_) | ((with_reducible refine condP_dt ?_ ?_); (· omega)) | ((with_reducible refine condP_df ?_ ?_); (· omega)) | ((with_reducible refine condP_yes ?_ ?_); (· assumption)) | ((with_reducible refine condP_no ?_ ?_); (· assumption)) | ((with_reducible refine ArP_i64 ?_ ?_); (· omega)) | ((with_reducible refine mustP.mk ?_ ?_); (· first | omega | rfl | (dsimp only; omega))) | (with_reducible refine EqP_nil tab_ok ?_) | (with_reducible refine EqP_sli tab_ok ?_) | (with_reducible refine DrawP_auto tab_ok (by kernel_rfl) (by decide +kernel) ?_) | (with_reducible refine DrawP_auto2 tab_ok (by kernel_rfl) (by decide +kernel) ?_) | (with_reducible refine eq28 ?_) | (with_reducible refine eq33 ?_) | (with_reducible refine eq95 ?_) | (with_reducible refine eq115 ?_) | (with_reducible refine CallP_gives (fun vs w => by kernel_rfl) (by kernel_rfl) (n4) ?_) | (with_reducible refine RCallP_gives (fun vs w => by kernel_rfl) (by kernel_rfl) (n4) ?_))))
          exact ⟨rfl, rfl⟩
      · obtain ⟨m, hm⟩ : ∃ m, A / 2 ^ k = m := ⟨_, rfl⟩
        have hm2 : A / 2 ^ (k + 1) = m / 2 := by rw [Nat.pow_succ, ← Nat.div_div_eq_div_mul, hm]
        have hmA : m ≤ A := by rw [← hm]; exact Nat.div_le_self _ _
        rw [hm2] at he
        have b1 : ((A : Int)).fdiv (2 ^ min ((((k + 1 : Nat) : Int) - 1)).toNat IntKind.i64.bits) = (m : Int) := by
          rw [show min ((((k + 1 : Nat) : Int) - 1)).toNat IntKind.i64.bits = k from by
            rw [show ((((k + 1 : Nat) : Int) - 1)).toNat = k by omega]; exact Nat.min_eq_left (by show k ≤ 64; omega), fdivN, hm]
        have b2 : bits .and .i64 (m : Int) 1 = ((m % 2 : Nat) : Int) := by rw [and_one _ (by omega) (by omega)]; omega
        have hdm := Nat.div_add_mod m 2
        have hBm : B * (m : Int) = 2 * (q * c + r) + B * ((m % 2 : Nat) : Int) := by
          rw [he, show (m : Int) = 2 * ((m / 2 : Nat) : Int) + ((m % 2 : Nat) : Int) by omega, Int.mul_add]
          have : B * (2 * ((m / 2 : Nat) : Int)) = 2 * (B * ((m / 2 : Nat) : Int)) := by rw [← Int.mul_assoc, Int.mul_comm B 2, Int.mul_assoc]
          rw [this]
        have step : ∀ r2 : Int, r2 = 2 * r + B * ((m % 2 : Nat) : Int) → ∃ kk r', r2 / c = kk ∧ kk * c = r2 - r' ∧ (0 ≤ r' ∧ r' < c) ∧ (2 * q + kk) * c + r' = B * (m : Int) ∧ -4398046511104 ≤ kk ∧ kk ≤ 4398046511104 := by
          intro r2 h2
          have hd := Int.mul_ediv_add_emod r2 c
          have e0 := Int.emod_nonneg r2 (show c ≠ 0 by omega)
          have e1 := Int.emod_lt_of_pos r2 (show 0 < c by omega)
          have hr2 : -4398046511104 ≤ r2 ∧ r2 ≤ 4398046511104 := by
            rcases (show m % 2 = 0 ∨ m % 2 = 1 by omega) with h3 | h3 <;> rw [h3] at h2 <;> simp at h2 <;> omega
          refine ⟨r2 / c, r2 % c, rfl, by rw [Int.mul_comm]; omega, ⟨e0, e1⟩, ?_, ?_, ?_⟩
          · rw [hBm, Int.add_mul, Int.mul_comm (r2 / c) c, Int.mul_assoc]
            generalize q * c = qc at *
            generalize c * (r2 / c) = z at *
            omega
          · exact (Int.le_ediv_iff_mul_le (by omega)).2 (by omega)
          · exact Int.ediv_le_of_le_mul (by omega) (by omega)
        rcases (show m % 2 = 0 ∨ m % 2 = 1 by omega) with h3 | h3
        · obtain ⟨kk, r', g1, g2, g3, g4, g5, g6⟩ := step (2 * r) (by rw [h3]; simp)
          rw [h3] at b2
          have d1 := DownM_gives (a := 2 * r) (b := c) (G := G) (by omega) (by omega)
          rw [g1] at d1
          by_cases h4 : -1125899906842624 ≤ 2 * q + kk ∧ 2 * q + kk ≤ 1125899906842624
          · (repeat ((try (conv => whnf)); (first | (with_reducible refine isP.mk _ b1 ?_) | (with_reducible refine isP.mk _ b2 ?_) | (with_reducible refine condP_true ?_) | (with_reducible refine condP_false ?_) | (with_reducible refine condP_not ?_) | (with_reducible refine condP_and ?_) | ((with_reducible refine condP_dt ?_ ?_); (· omega)) | ((with_reducible refine condP_df ?_ ?_); (· omega)) | ((with_reducible refine condP_yes ?_ ?_); (· assumption)) | ((with_reducible refine condP_no ?_ ?_); (· assumption)) | ((with_reducible refine ArP_i64 ?_ ?_); (· omega)) | ((with_reducible refine mustP.mk ?_ ?_); (· first | omega | rfl | (dsimp only; omega))) | (with_reducible refine EqP_nil tab_ok ?_) | (with_reducible refine EqP_sli tab_ok ?_) | (with_reducible refine DrawP_auto tab_ok (by kernel_rfl) (by decide +kernel) ?_) | (with_reducible refine DrawP_auto2 tab_ok (by kernel_rfl) (by decide +kernel) ?_) | (with_reducible refine eq28 ?_) | (with_reducible refine eq33 ?_) | (with_reducible refine eq95 ?_) | (with_reducible refine eq115 ?_) | (with_reducible refine CallP_gives (fun vs w => by kernel_rfl) (by kernel_rfl) (d1) ?_) | (with_reducible refine RCallP_gives (fun vs w => by kernel_rfl) (by kernel_rfl) (d1) ?_))))
            refine ⟨k, 2 * q + kk, r', ⟨by omega, by rw [hm]; exact g4, g3.1, g3.2, h4.1, h4.2⟩, by omega, ?_⟩
            ((refine Le_head ?_); (conv => whnf); (refine Le_mk (by rfl) (by rfl) ?_ ?_); (· (repeat (first | (with_reducible exact frLe_nil) | (with_reducible refine frLe_any ?_) | (with_reducible refine frLe_val ?_) | ((with_reducible refine frLe_eq rfl ?_ ?_); (· rfl)) | ((with_reducible refine frLe_val' (int_eq ?_) ?_ ?_); (· omega); (· rfl)) | ((with_reducible refine frLe_val' (int_eq ?_) ?_ ?_); (· simp only [Int.natCast_add, Int.natCast_one, Int.natCast_ofNat] <;> omega); (· rfl)) | ((with_reducible refine frLe_val' (bool_eq ?_) ?_ ?_); (· first | assumption | (symm; assumption)); (· rfl))))))
            exact hpLe_nil
          · have hov := md_over hc g4 g3 hmA (by omega)
            rw [if_neg (by omega)]
            by_cases h5 : 1125899906842624 < 2 * q + kk
            · (repeat ((try (conv => whnf)); (first | (with_reducible refine isP.mk _ b1 ?_) | (with_reducible refine isP.mk _ b2 ?_) | (with_reducible refine condP_true ?_) | (with_reducible refine condP_false ?_) | (with_reducible refine condP_not ?_) | (with_reducible refine condP_and ?_) | ((with_reducible refine condP_dt ?_ ?_); (· omega)) | ((with_reducible refine condP_df ?_ ?_); (· omega)) | ((with_reducible refine condP_yes ?_ ?_); (· assumption)) | ((with_reducible refine condP_no ?_ ?_); (· assumption)) | ((with_reducible refine ArP_i64 ?_ ?_); (· omega)) | ((with_reducible refine mustP.mk ?_ ?_); (· first | omega | rfl | (dsimp only; omega))) | (with_reducible refine EqP_nil tab_ok ?_) | (with_reducible refine EqP_sli tab_ok ?_) | (with_reducible refine DrawP_auto tab_ok (by kernel_rfl) (by decide +kernel) ?_) | (with_reducible refine DrawP_auto2 tab_ok (by kernel_rfl) (by decide +kernel) ?_) | (with_reducible refine eq28 ?_) | (with_reducible refine eq33 ?_) | (with_reducible refine eq95 ?_) | (with_reducible refine eq115 ?_) | (with_reducible refine CallP_gives (fun vs w => by kernel_rfl) (by kernel_rfl) (d1) ?_) | (with_reducible refine RCallP_gives (fun vs w => by kernel_rfl) (by kernel_rfl) (d1) ?_))))
              exact ⟨rfl, rfl⟩
            · (repeat ((try (conv => whnf)); (first | (with_reducible refine isP.mk _ b1 ?_) | (with_reducible refine isP.mk _ b2 ?_) | (with_reducible refine condP_true ?_) | (with_reducible refine condP_false ?_) | (with_reducible refine condP_not ?_) | (with_reducible refine condP_and ?_) | ((with_reducible refine condP_dt ?_ ?_); (· omega)) | ((with_reducible refine condP_df ?_ ?_); (· omega)) | ((with_reducible refine condP_yes ?_ ?_); (· assumption)) | ((with_reducible refine condP_no ?_ ?_); (· assumption)) | ((with_reducible refine ArP_i64 ?_ ?_); (· omega)) | ((with_reducible refine mustP.mk ?_ ?_); (· first | omega | rfl | (dsimp only; omega))) | (with_reducible refine EqP_nil tab_ok ?_) | (with_reducible refine EqP_sli tab_ok ?_) | (with_reducible refine DrawP_auto tab_ok (by kernel_rfl) (by decide +kernel) ?_) | (with_reducible refine DrawP_auto2 tab_ok (by kernel_rfl) (by decide +kernel) ?_) | (with_reducible refine eq28 ?_) | (with_reducible refine eq33 ?_) | (with_reducible refine eq95 ?_) | (with_reducible refine eq115 ?_) | (with_reducible refine CallP_gives (fun vs w => by kernel_rfl) (by kernel_rfl) (d1) ?_) | (with_reducible refine RCallP_gives (fun vs w => by kernel_rfl) (by kernel_rfl) (d1) ?_))))
              exact ⟨rfl, rfl⟩
        · obtain ⟨kk, r', g1, g2, g3, g4, g5, g6⟩ := step (2 * r + B) (by rw [h3]; simp)
          rw [h3] at b2
          have d1 := DownM_gives (a := 2 * r + B) (b := c) (G := G) (by omega) (by omega)
          rw [g1] at d1
          by_cases h4 : -1125899906842624 ≤ 2 * q + kk ∧ 2 * q + kk ≤ 1125899906842624
          · (repeat ((try (conv => whnf)); (first | (with_reducible refine isP.mk _ b1 ?_) | (with_reducible refine isP.mk _ b2 ?_) | (with_reducible refine condP_true ?_) | (with_reducible refine condP_false ?_) | (with_reducible refine condP_not ?_) | (with_reducible refine condP_and ?_) | ((with_reducible refine condP_dt ?_ ?_); (· omega)) | ((with_reducible refine condP_df ?_ ?_); (· omega)) | ((with_reducible refine condP_yes ?_ ?_); (· assumption)) | ((with_reducible refine condP_no ?_ ?_); (· assumption)) | ((with_reducible refine ArP_i64 ?_ ?_); (· omega)) | ((with_reducible refine mustP.mk ?_ ?_); (· first | omega | rfl | (dsimp only; omega))) | (with_reducible refine EqP_nil tab_ok ?_) | (with_reducible refine EqP_sli tab_ok ?_) | (with_reducible refine DrawP_auto tab_ok (by kernel_rfl) (by decide +kernel) ?_) | (with_reducible refine DrawP_auto2 tab_ok (by kernel_rfl) (by decide +kernel) ?_) | (with_reducible refine eq28 ?_) | (with_reducible refine eq33 ?_) | (with_reducible refine eq95 ?_) | (with_reducible refine eq115 ?_) | (with_reducible refine CallP_gives (fun vs w => by kernel_rfl) (by kernel_rfl) (d1) ?_) | (with_reducible refine RCallP_gives (fun vs w => by kernel_rfl) (by kernel_rfl) (d1) ?_))))
            refine ⟨k, 2 * q + kk, r', ⟨by omega, by rw [hm]; exact g4, g3.1, g3.2, h4.1, h4.2⟩, by omega, ?_⟩
            ((refine Le_head ?_); (conv => whnf); (refine Le_mk (by rfl) (by rfl) ?_ ?_); (· (repeat (first | (with_reducible exact frLe_nil) | (with_reducible refine frLe_any ?_) | (with_reducible refine frLe_val ?_) | ((with_reducible refine frLe_eq rfl ?_ ?_); (· rfl)) | ((with_reducible refine frLe_val' (int_eq ?_) ?_ ?_); (· omega); (· rfl)) | ((with_reducible refine frLe_val' (int_eq ?_) ?_ ?_); (· simp only [Int.natCast_add, Int.natCast_one, Int.natCast_ofNat] <;> omega); (· rfl)) | ((with_reducible refine frLe_val' (bool_eq ?_) ?_ ?_); (· first | assumption | (symm; assumption)); (· rfl))))))
            exact hpLe_nil
          · have hov := md_over hc g4 g3 hmA (by omega)
            rw [if_neg (by omega)]
            by_cases h5 : 1125899906842624 < 2 * q + kk
            · (repeat ((try (conv => whnf)); (first | (with_reducible refine isP.mk _ b1 ?_) | (with_reducible refine isP.mk _ b2 ?_) | (with_reducible refine condP_true ?_) | (with_reducible refine condP_false ?_) | (with_reducible refine condP_not ?_) | (with_reducible refine condP_and ?_) | ((with_reducible refine condP_dt ?_ ?_); (· omega)) | ((with_reducible refine condP_df ?_ ?_); (· omega)) | ((with_reducible refine condP_yes ?_ ?_); (· assumption)) | ((with_reducible refine condP_no ?_ ?_); (· assumption)) | ((with_reducible refine ArP_i64 ?_ ?_); (· omega)) | ((with_reducible refine mustP.mk ?_ ?_); (· first | omega | rfl | (dsimp only; omega))) | (with_reducible refine EqP_nil tab_ok ?_) | (with_reducible refine EqP_sli tab_ok ?_) | (with_reducible refine DrawP_auto tab_ok (by kernel_rfl) (by decide +kernel) ?_) | (with_reducible refine DrawP_auto2 tab_ok (by kernel_rfl) (by decide +kernel) ?_) | (with_reducible refine eq28 ?_) | (with_reducible refine eq33 ?_) | (with_reducible refine eq95 ?_) | (with_reducible refine eq115 ?_) | (with_reducible refine CallP_gives (fun vs w => by kernel_rfl) (by kernel_rfl) (d1) ?_) | (with_reducible refine RCallP_gives (fun vs w => by kernel_rfl) (by kernel_rfl) (d1) ?_))))
              exact ⟨rfl, rfl⟩
            · (repeat ((try (conv => whnf)); (first | (with_reducible refine isP.mk _ b1 ?_) | (with_reducible refine isP.mk _ b2 ?_) | (with_reducible refine condP_true ?_) | (with_reducible refine condP_false ?_) | (with_reducible refine condP_not ?_) | (with_reducible refine condP_and ?_) | ((with_reducible refine condP_dt ?_ ?_); (· omega)) | ((with_reducible refine condP_df ?_ ?_); (· omega)) | ((with_reducible refine condP_yes ?_ ?_); (· assumption)) | ((with_reducible refine condP_no ?_ ?_); (· assumption)) | ((with_reducible refine ArP_i64 ?_ ?_); (· omega)) | ((with_reducible refine mustP.mk ?_ ?_); (· first | omega | rfl | (dsimp only; omega))) | (with_reducible refine EqP_nil tab_ok ?_) | (with_reducible refine EqP_sli tab_ok ?_) | (with_reducible refine DrawP_auto tab_ok (by kernel_rfl) (by decide +kernel) ?_) | (with_reducible refine DrawP_auto2 tab_ok (by kernel_rfl) (by decide +kernel) ?_) | (with_reducible refine eq28 ?_) | (with_reducible refine eq33 ?_) | (with_reducible refine eq95 ?_) | (with_reducible refine eq115 ?_) | (with_reducible refine CallP_gives (fun vs w => by kernel_rfl) (by kernel_rfl) (d1) ?_) | (with_reducible refine RCallP_gives (fun vs w => by kernel_rfl) (by kernel_rfl) (d1) ?_))))
              exact ⟨rfl, rfl⟩
set_option maxHeartbeats 4000000 in
theorem RMulDiv_gives (a b c : Int) (G : Mem) : Gives Try.prog 22 [.val (.int .i64 a), .val (.int .i64 b), .val (.int .i64 c)] G (mdA (mdV a b c)) := by
  cases hf : mdOk a b c with
  | false =>
    have hv : mdV a b c = (0, 3) := by simp [mdV, hf]
    rw [hv]
    have n1 := number_gives a G
    have n2 := number_gives b G
    have n3 := number_gives c G
    refine Gives_of tab_ok Try.func22 ?_
    cases h1 : fit a <;> rw [h1] at n1
    · (repeat ((try (conv => whnf)); (first | (with_reducible refine condP_true ?_) | (with_reducible refine condP_false ?_) | (with_reducible refine condP_not ?_) | (with_reducible refine condP_and ?_) | ((with_reducible refine condP_dt ?_ ?_); (· omega)) | ((with_reducible refine condP_df ?_ ?_); (· omega)) | ((with_reducible refine condP_yes ?_ ?_); (· assumption)) | ((with_reducible refine condP_no ?_ ?_); (· assumption)) | ((with_reducible refine ArP_i64 ?_ ?_); (· omega)) | ((with_reducible refine mustP.mk ?_ ?_); (· first | omega | rfl | (dsimp only; omega))) | (with_reducible refine EqP_nil tab_ok ?_) | (with_reducible refine EqP_sli tab_ok ?_) | (with_reducible refine DrawP_auto tab_ok (by kernel_rfl) (by decide +kernel) ?_) | (with_reducible refine DrawP_auto2 tab_ok (by kernel_rfl) (by decide +kernel) ?_) | (with_reducible refine eq28 ?_) | (with_reducible refine eq33 ?_) | (with_reducible refine eq95 ?_) | (with_reducible refine eq115 ?_) | (with_reducible refine CallP_gives (fun vs w => by kernel_rfl) (by kernel_rfl) (n1) ?_) | (with_reducible refine RCallP_gives (fun vs w => by kernel_rfl) (by kernel_rfl) (n1) ?_) | (with_reducible refine CallP_gives (fun vs w => by kernel_rfl) (by kernel_rfl) (n2) ?_) | (with_reducible refine RCallP_gives (fun vs w => by kernel_rfl) (by kernel_rfl) (n2) ?_) | (with_reducible refine CallP_gives (fun vs w => by kernel_rfl) (by kernel_rfl) (n3) ?_) | (with_reducible refine RCallP_gives (fun vs w => by kernel_rfl) (by kernel_rfl) (n3) ?_))))
      exact ⟨rfl, rfl⟩
    · cases h2 : fit b <;> rw [h2] at n2
      · (repeat ((try (conv => whnf)); (first | (with_reducible refine condP_true ?_) | (with_reducible refine condP_false ?_) | (with_reducible refine condP_not ?_) | (with_reducible refine condP_and ?_) | ((with_reducible refine condP_dt ?_ ?_); (· omega)) | ((with_reducible refine condP_df ?_ ?_); (· omega)) | ((with_reducible refine condP_yes ?_ ?_); (· assumption)) | ((with_reducible refine condP_no ?_ ?_); (· assumption)) | ((with_reducible refine ArP_i64 ?_ ?_); (· omega)) | ((with_reducible refine mustP.mk ?_ ?_); (· first | omega | rfl | (dsimp only; omega))) | (with_reducible refine EqP_nil tab_ok ?_) | (with_reducible refine EqP_sli tab_ok ?_) | (with_reducible refine DrawP_auto tab_ok (by kernel_rfl) (by decide +kernel) ?_) | (with_reducible refine DrawP_auto2 tab_ok (by kernel_rfl) (by decide +kernel) ?_) | (with_reducible refine eq28 ?_) | (with_reducible refine eq33 ?_) | (with_reducible refine eq95 ?_) | (with_reducible refine eq115 ?_) | (with_reducible refine CallP_gives (fun vs w => by kernel_rfl) (by kernel_rfl) (n1) ?_) | (with_reducible refine RCallP_gives (fun vs w => by kernel_rfl) (by kernel_rfl) (n1) ?_) | (with_reducible refine CallP_gives (fun vs w => by kernel_rfl) (by kernel_rfl) (n2) ?_) | (with_reducible refine RCallP_gives (fun vs w => by kernel_rfl) (by kernel_rfl) (n2) ?_) | (with_reducible refine CallP_gives (fun vs w => by kernel_rfl) (by kernel_rfl) (n3) ?_) | (with_reducible refine RCallP_gives (fun vs w => by kernel_rfl) (by kernel_rfl) (n3) ?_))))
        exact ⟨rfl, rfl⟩
      · cases h3 : fit c <;> rw [h3] at n3
        · (repeat ((try (conv => whnf)); (first | (with_reducible refine condP_true ?_) | (with_reducible refine condP_false ?_) | (with_reducible refine condP_not ?_) | (with_reducible refine condP_and ?_) | ((with_reducible refine condP_dt ?_ ?_); (· omega)) | ((with_reducible refine condP_df ?_ ?_); (· omega)) | ((with_reducible refine condP_yes ?_ ?_); (· assumption)) | ((with_reducible refine condP_no ?_ ?_); (· assumption)) | ((with_reducible refine ArP_i64 ?_ ?_); (· omega)) | ((with_reducible refine mustP.mk ?_ ?_); (· first | omega | rfl | (dsimp only; omega))) | (with_reducible refine EqP_nil tab_ok ?_) | (with_reducible refine EqP_sli tab_ok ?_) | (with_reducible refine DrawP_auto tab_ok (by kernel_rfl) (by decide +kernel) ?_) | (with_reducible refine DrawP_auto2 tab_ok (by kernel_rfl) (by decide +kernel) ?_) | (with_reducible refine eq28 ?_) | (with_reducible refine eq33 ?_) | (with_reducible refine eq95 ?_) | (with_reducible refine eq115 ?_) | (with_reducible refine CallP_gives (fun vs w => by kernel_rfl) (by kernel_rfl) (n1) ?_) | (with_reducible refine RCallP_gives (fun vs w => by kernel_rfl) (by kernel_rfl) (n1) ?_) | (with_reducible refine CallP_gives (fun vs w => by kernel_rfl) (by kernel_rfl) (n2) ?_) | (with_reducible refine RCallP_gives (fun vs w => by kernel_rfl) (by kernel_rfl) (n2) ?_) | (with_reducible refine CallP_gives (fun vs w => by kernel_rfl) (by kernel_rfl) (n3) ?_) | (with_reducible refine RCallP_gives (fun vs w => by kernel_rfl) (by kernel_rfl) (n3) ?_))))
          exact ⟨rfl, rfl⟩
        · simp [mdOk, h1, h2, h3] at hf
  | true =>
    by_cases hc : c < 1
    · have hv : mdV a b c = (0, 1) := by simp [mdV, hf, hc]
      rw [hv]
      have n1 := number_gives a G
      have n2 := number_gives b G
      have n3 := number_gives c G
      simp only [mdOk, Bool.and_eq_true] at hf
      rw [hf.1] at n1
      rw [hf.2.1] at n2
      rw [hf.2.2] at n3
      refine Gives_of tab_ok Try.func22 ?_
      (repeat ((try (conv => whnf)); (first | (with_reducible refine condP_true ?_) | (with_reducible refine condP_false ?_) | (with_reducible refine condP_not ?_) | (with_reducible refine condP_and ?_) | ((with_reducible refine condP_dt ?_ ?_); (· omega)) | ((with_reducible refine condP_df ?_ ?_); (· omega)) | ((with_reducible refine condP_yes ?_ ?_); (· assumption)) | ((with_reducible refine condP_no ?_ ?_); (· assumption)) | ((with_reducible refine ArP_i64 ?_ ?_); (· omega)) | ((with_reducible refine mustP.mk ?_ ?_); (· first | omega | rfl | (dsimp only; omega))) | (with_reducible refine EqP_nil tab_ok ?_) | (with_reducible refine EqP_sli tab_ok ?_) | (with_reducible refine DrawP_auto tab_ok (by kernel_rfl) (by decide +kernel) ?_) | (with_reducible refine DrawP_auto2 tab_ok (by kernel_rfl) (by decide +kernel) ?_) | (with_reducible refine eq28 ?_) | (with_reducible refine eq33 ?_) | (with_reducible refine eq95 ?_) | (with_reducible refine eq115 ?_) | (with_reducible refine CallP_gives (fun vs w => by kernel_rfl) (by kernel_rfl) (n1) ?_) | (with_reducible refine RCallP_gives (fun vs w => by kernel_rfl) (by kernel_rfl) (n1) ?_) | (with_reducible refine CallP_gives (fun vs w => by kernel_rfl) (by kernel_rfl) (n2) ?_) | (with_reducible refine RCallP_gives (fun vs w => by kernel_rfl) (by kernel_rfl) (n2) ?_) | (with_reducible refine CallP_gives (fun vs w => by kernel_rfl) (by kernel_rfl) (n3) ?_) | (with_reducible refine RCallP_gives (fun vs w => by kernel_rfl) (by kernel_rfl) (n3) ?_))))
      exact ⟨rfl, rfl⟩
    · have hbd := md_bd hf
      obtain ⟨A, hA⟩ := Int.eq_ofNat_of_zero_le (show 0 ≤ if a < 0 then -a else a by split <;> omega)
      refine RMulDiv_core (A := A) hf (by omega) hA.symm rfl ?_
      rw [← hA]
      split
      · rw [Int.neg_mul_neg, Int.mul_comm]
      · rw [Int.mul_comm]
end Go.Proofs.Ytmklpphdbmpbbaa
