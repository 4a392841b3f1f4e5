/-
  Contracts of size and Gcd, of package num and of the reference.
-/
import Derived.Test.YtadgoodfhlmlmaaFloor
import Derived.Test.YtadgoodfhlmlmaaGcdMath
import Derived.BigQuiet
import Derived.Deep.QuietTactic
namespace Go.Proofs.Ytadgoodfhlmlmaa
open Go.RowKit

set_option maxHeartbeats 400000 in
theorem size_any (x : Int) (w : World) (hx : fit x = true) :
    Calls Try.prog 56 #[.int .i64 x] w fun e w' => e = .returned (.int .u64 (absN x : Int)) ∧ w = w' := by
  have hx' := inB_iff.1 hx
  by_cases h : x < 0
  · have hn : Hid _ := absN_neg (x := x) (by omega)
    have hw : IntKind.u64.wrap x = x + 18446744073709551616 := by rw [IntKind.wrap_u64]; omega
    have hw2 : Hid (IntKind.u64.wrap (-(x + 18446744073709551616)) = -x) := by show _ = _; rw [IntKind.wrap_u64]; omega
    have hw3 : Hid (IntKind.u64.wrap (-IntKind.u64.wrap x) = -x) := by show _ = _; rw [hw]; exact hw2.out
    clear hw
    go_enter Try.func56, Try.ntmps56
    go_wp2
    go_ret
    exact ⟨ret_int (by rw [hn.out]; first | exact hw3.out | exact hw2.out), rfl⟩
  · have hn : Hid _ := absN_pos (x := x) (by omega)
    go_enter Try.func56, Try.ntmps56
    go_wp2
    go_ret
    exact ⟨ret_int hn.out.symm, rfl⟩
set_option maxHeartbeats 800000 in
theorem Gcd_any (a b : Int) (w : World) (ha : fit a = true) (hb : fit b = true) :
    Calls Try.prog 27 #[.int .i64 a, .int .i64 b] w fun e w' => e = .returned (.tuple #[.int .i64 ((absN a).gcd (absN b) : Nat), .int .i64 0]) ∧ Below w.heap.size w w' := by
  have hff : (fit a && fit b) = true := by simp [ha, hb]
  have b1 : absN a ≤ 1099511627776 := by have := inB_iff.1 ha; unfold absN; omega
  have b2 : absN b ≤ 1099511627776 := by have := inB_iff.1 hb; unfold absN; omega
  go_enter Try.func27, Try.ntmps27
  go_wp2_with (first | (go_at_call 55; refine (fits2_any a b _ _ (cell_new _ _ _ _ _ rfl) (cell_new _ _ _ _ _ rfl)).mono ?_; rintro e w' ⟨rfl, rfl⟩) | (go_at_call 56; refine (size_any _ _ (by assumption)).mono ?_; rintro e w' ⟨rfl, rfl⟩))
  go_loopw [6, 7] (fun x y wr => ∃ p q : Nat, p ≤ 1099511627776 ∧ q ≤ 1099511627776 ∧ p.gcd q = (absN a).gcd (absN b) ∧ x = .int .u64 p ∧ y = .int .u64 q ∧ Below w.heap.size w wr) (fun x y _ => (intOf y).toNat)
  case atStart => exact ⟨_, _, b1, b2, rfl, rfl, rfl, by go_grown⟩
  case round =>
    obtain ⟨p, q, p1, q1, hg, rfl, rfl, hbel⟩ := hrel
    have HG : Hid (p.gcd q = (absN a).gcd (absN b)) := hg
    clear hg
    by_cases h0 : q = 0
    · subst h0
      go_wp2
      go_ret2
      exact ⟨tup2 (int_eq (by rw [← HG.out, Nat.gcd_zero_right])) rfl, hbel⟩
    · have hq : ¬ (q : Int) = 0 := by omega
      go_wp2
      go_region
      all_goals
        go_wp2
        refine ⟨⟨q, p % q, q1, ?_, ?_, rfl, ?_, hbel.drew⟩, ?_⟩
        · exact Nat.le_trans (Nat.mod_le _ _) p1
        · rw [gcd_step]; exact HG.out
        · exact int_eq (by rw [Int.natCast_emod])
        · have := Nat.mod_lt p (y := q) (by omega)
          have e : ((p : Int) % (q : Int)) = ((p % q : Nat) : Int) := by rw [Int.natCast_emod]
          rw [e]
          simp only [intOf, Int.toNat_natCast]
          exact this
set_option maxHeartbeats 400000 in
theorem Gcd_no (a b : Int) (w : World) (h : ¬ (fit a = true ∧ fit b = true)) :
    Calls Try.prog 27 #[.int .i64 a, .int .i64 b] w fun e w' => e = .returned (.tuple #[.int .i64 0, .int .i64 3]) ∧ Below w.heap.size w w' := by
  have hff : (fit a && fit b) = false := by simpa using h
  clear h
  go_enter Try.func27, Try.ntmps27
  go_wp2_with (first | (go_at_call 55; refine (fits2_any a b _ _ (cell_new _ _ _ _ _ rfl) (cell_new _ _ _ _ _ rfl)).mono ?_; rintro e w' ⟨rfl, rfl⟩))
  go_ret2
  exact ⟨rfl, by go_grown⟩
theorem max_abs (a : Int) : (if a < -a then -a else a) = ((absN a : Nat) : Int) := by
  unfold absN; split <;> omega
set_option maxHeartbeats 800000 in
theorem RGcd_any (a b : Int) (w : World) (ha : fit a = true) (hb : fit b = true) :
    Calls Try.prog 28 #[.int .i64 a, .int .i64 b] w fun e w' => e = .returned (.int .i64 ((absN a).gcd (absN b) : Nat)) ∧ w = w' := by
  have b1 : absN a ≤ 1099511627776 := by have := inB_iff.1 ha; unfold absN; omega
  have b2 : absN b ≤ 1099511627776 := by have := inB_iff.1 hb; unfold absN; omega
  have c1 := inB_iff.1 ha
  have c2 := inB_iff.1 hb
  have m1 := max_abs a
  have m2 := max_abs b
  generalize absN a = P at *
  generalize absN b = Q at *
  by_cases hP : P = 0
  · subst hP
    go_enter Try.func28, Try.ntmps28
    go_wp2
    go_ret
    exact ⟨ret_int (by simp), rfl⟩
  by_cases hQ : Q = 0
  · subst hQ
    have hP' : ((P : Int) == 0) = false := by simpa using hP
    have m3 : b = 0 := by split at m2 <;> omega
    clear m2
    subst m3
    go_enter Try.func28, Try.ntmps28
    go_wp2
    go_ret
    exact ⟨ret_int (by simp), rfl⟩
  have hP' : ((P : Int) == 0) = false := by simpa using hP
  have hQ' : ((Q : Int) == 0) = false := by simpa using hQ
  go_enter Try.func28, Try.ntmps28
  go_wp2
  clear m1 m2
  go_loop [0, 1, 5] (fun x y t => ∃ p q k : Nat, 1 ≤ p ∧ 1 ≤ q ∧ 1 ≤ k ∧ k * p = P ∧ k * q = Q ∧ k * p.gcd q = P.gcd Q ∧ x = .int .i64 p ∧ y = .int .i64 q ∧ t = .int .i64 k) (fun x y _ => (intOf x).toNat)
  case atStart => exact ⟨P, Q, 1, by omega, by omega, by omega, by omega, by omega, by omega, rfl, rfl, rfl⟩
  case round =>
    obtain ⟨p, q, k, p1, q1, k1, e1, e2, hg, rfl, rfl, rfl⟩ := hrel
    have kp : k ≤ P ∧ p ≤ P := by
      have := Nat.mul_le_mul_left k p1; have := Nat.mul_le_mul_right p k1; omega
    have qq : q ≤ Q := by have := Nat.mul_le_mul_right q k1; omega
    have E1 : Hid (k * p = P) := e1
    have E2 : Hid (k * q = Q) := e2
    have HG : Hid (k * p.gcd q = P.gcd Q) := hg
    clear e1 e2 hg
    by_cases hh : p % 2 = 0 ∧ q % 2 = 0
    · obtain ⟨hp, hq⟩ := hh
      have t1 : (((p : Int) % 2) == 0) = true := by rw [beq_iff_eq]; omega
      have t2 : (((q : Int) % 2) == 0) = true := by rw [beq_iff_eq]; omega
      go_wp2
      go_round
      case rel =>
        refine ⟨p / 2, q / 2, 2 * k, by omega, by omega, by omega, ?_, ?_, ?_, by go_num, by go_num, by go_num⟩
        · rw [← E1.out, Nat.mul_right_comm, Nat.mul_comm 2 (p / 2), show p / 2 * 2 = p from by omega, Nat.mul_comm]
        · rw [← E2.out, Nat.mul_right_comm, Nat.mul_comm 2 (q / 2), show q / 2 * 2 = q from by omega, Nat.mul_comm]
        · rw [← HG.out, gcd_half_both hp hq, Nat.mul_comm 2 k, Nat.mul_assoc]
      case measure => simp [intOf]; omega
    · have hodd : p % 2 = 1 ∨ q % 2 = 1 := by omega
      have hGP : P.gcd Q ≤ P := Nat.le_of_dvd (by omega) (Nat.gcd_dvd_left P Q)
      go_wp2
      all_goals
        go_loop [0, 1] (fun x y => ∃ r s : Nat, 1 ≤ r ∧ 1 ≤ s ∧ r ≤ P ∧ s ≤ Q ∧ (r % 2 = 1 ∨ s % 2 = 1) ∧ r.gcd s = p.gcd q ∧ x = .int .i64 r ∧ y = .int .i64 s) (fun x y => (intOf x + intOf y).toNat)
        case atStart => exact ⟨p, q, p1, q1, kp.2, qq, hodd, rfl, rfl, rfl⟩
        case round =>
          obtain ⟨r, s, r1, s1, r2, s2, ho, hrs, rfl, rfl⟩ := hrel
          have HR : Hid (r.gcd s = p.gcd q) := hrs
          clear hrs
          by_cases heq : r = s
          · subst heq
            have hk : k * r = P.gcd Q := by rw [← HG.out, ← HR.out, Nat.gcd_self]
            have hk' : (r : Int) * (k : Int) = ((P.gcd Q : Nat) : Int) := by rw [← Int.natCast_mul, Nat.mul_comm, hk]
            have hk2 : 0 ≤ (r : Int) * (k : Int) ∧ (r : Int) * (k : Int) ≤ 1099511627776 := by omega
            have HK : Hid ((r : Int) * (k : Int) = ((P.gcd Q : Nat) : Int)) := hk'
            clear hk hk'
            go_wp2
            go_ret
            exact ⟨ret_int HK.out, rfl⟩
          · have hne : ¬ (r : Int) = (s : Int) := by omega
            by_cases e1 : r % 2 = 0
            · have t1 : (((r : Int) % 2) == 0) = true := by rw [beq_iff_eq]; omega
              go_wp2
              go_round
              case rel => exact ⟨r / 2, s, by omega, s1, by omega, s2, by omega, by rw [← HR.out, gcd_half_left e1 (by omega)], by go_num, rfl⟩
              case measure => simp [intOf]; omega
            · have t1 : (((r : Int) % 2) == 0) = false := by rw [beq_eq_false_iff_ne]; omega
              by_cases e2 : s % 2 = 0
              · have t2 : (((s : Int) % 2) == 0) = true := by rw [beq_iff_eq]; omega
                go_wp2
                go_round
                case rel => exact ⟨r, s / 2, r1, by omega, r2, by omega, by omega, by rw [← HR.out, gcd_half_right (by omega) e2], rfl, by go_num⟩
                case measure => simp [intOf]; omega
              · have t2 : (((s : Int) % 2) == 0) = false := by rw [beq_eq_false_iff_ne]; omega
                by_cases hlt : s < r
                · go_wp2
                  go_round
                  case rel => exact ⟨(r - s) / 2, s, by omega, s1, by omega, s2, by omega, by rw [← HR.out, gcd_sub_left (by omega) (by omega) hlt], by go_num, rfl⟩
                  case measure => simp [intOf]; omega
                · go_wp2
                  go_round
                  case rel => exact ⟨r, (s - r) / 2, r1, by omega, r2, by omega, by omega, by rw [← HR.out, gcd_sub_right (by omega) (by omega) (by omega)], rfl, by go_num⟩
                  case measure => simp [intOf]; omega
end Go.Proofs.Ytadgoodfhlmlmaa
