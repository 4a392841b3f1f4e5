/-
  Merged: XInvert, XInvertNeg.
-/
import Derived.Test.YtampdegpfndggaaMrg22
import Derived.Test.YtampdegpfndggaaMrg9
namespace Go.Proofs.Ytampdegpfndggaa
open Go.RowKit

/-- A number with a sign. -/
def sg (s x : Int) : Int := s * x
theorem over_any (x s d : Int) (p q : Nat) (w : World) (hs : ∀ o, w.cell? ⟨p, o, none⟩ = #[.int .i64 s][o]?) (hd : ∀ o, w.cell? ⟨q, o, none⟩ = #[.int .i64 d][o]?)
    (h1 : -4611686018427387904 ≤ s * x ∧ s * x ≤ 4611686018427387904) (h2 : 1 ≤ d ∧ d ≤ 4611686018427387904) :
    Calls Try.prog 132 #[.int .i64 x, .pointer (some ⟨p, 0, none⟩), .pointer (some ⟨q, 0, none⟩)] w fun e w' => e = .returned (.int .i64 (near (sg s x) d)) ∧ w = w' := by
  go_enter Try.func132, Try.ntmps132
  go_wp2_with (go_at_call 100; refine (Near_any _ _ _ ?_ ?_).mono ?_; omega; omega; rintro e w' ⟨rfl, rfl⟩)
  go_ret
  exact ⟨rfl, rfl⟩
/-- The six numbers of the inverse, and an error where they are out of bounds. -/
def out6 (a b c d e f : Int) : Value :=
  if matE a b c d e f = 0 then .tuple #[.agg #[.int .i64 a, .int .i64 b, .int .i64 c, .int .i64 d, .int .i64 e, .int .i64 f], .int .i64 0]
  else .tuple #[.agg #[.int .i64 0, .int .i64 0, .int .i64 0, .int .i64 0, .int .i64 0, .int .i64 0], .int .i64 10]
def invO (s D a b c d e f : Int) : Value :=
  out6 (near (sg s (16777216 * d)) D) (near (sg s (-16777216 * b)) D) (near (sg s (-16777216 * c)) D) (near (sg s (16777216 * a)) D) (near (sg s (4096 * (c * f - d * e))) D) (near (sg s (4096 * (b * e - a * f))) D)
set_option maxHeartbeats 4000000 in
theorem Invert_pos (a b c d e f : Int) (w : World) (hm : matE a b c d e f = 0) (hd : 0 < a * d - b * c) :
    Calls Try.prog 105 #[.agg #[.int .i64 a, .int .i64 b, .int .i64 c, .int .i64 d, .int .i64 e, .int .i64 f]] w fun r w' => r = .returned (invO (1) (a * d - b * c) a b c d e f) ∧ Below w.heap.size w w' := by
  obtain ⟨x1, x2, x3, x4, x5, x6⟩ := matE_bd hm
  have p1 := mul_bd20 x1 x4
  have p2 := mul_bd20 x2 x3
  have p3 := mul_bd28 x3 x6
  have p4 := mul_bd28 x4 x5
  have p5 := mul_bd28 x2 x5
  have p6 := mul_bd28 x1 x6
  go_enter Try.func105, Try.ntmps105
  go_wp2_with (first | (go_at_call 131; refine (Check_any _ _ _ _ _ _ _).mono ?_; rintro e w' ⟨rfl, rfl⟩; simp only []))
  refine mix1 49 8 (.cells #[.int .i64 0, .int .i64 0, .int .i64 0, .int .i64 0, .int .i64 0, .int .i64 0] 52) (by kernel_rfl) (by kernel_rfl) ⟨by rfl, by simp⟩ ⟨_, rfl, rfl, rfl, fun f w => by kernel_rfl⟩ ?_
  apply Exists.intro
  refine ⟨fun F => ?_, fun nb w9 hbn hbel hblk => ?_⟩
  · haveI := F.ne
    simp only [List.take_succ_cons, List.take_zero]
    repeat (go_big_quiet_step (first | (go_at_call 132; exact fam_same (over_any _ (1) (a * d - b * c) _ _ _ (by intro o; simp [go_sem]) (by intro o; simp [go_sem]) (by omega) (by omega)))))
    exact wpQuiet_nil rfl
  obtain ⟨hc9, hf9, hz9⟩ := bcell hbel
  obtain ⟨hn9, hnf9, hl9⟩ := new_cells hblk
  clear hblk
  have hB9 : Below w.heap.size w w9 := step_le hbel (by (repeat' (with_reducible first | exact Below.refl _ _ | refine past_le ?_ ?_ _ | refine Below.alloc ?_ ?_ _ | refine Below.drew ?_ | refine drewN_le ?_ _ | refine Below.setCell ?_ ?_ _ | refine step_le (by assumption) ?_ ?_ | omega | (simp only []; omega) | (simp only [World.size_alloc]; omega) | (simp only [World.size_setCell]; omega) | (simp only [World.size_drew]; omega) | (simp only [World.size_alloc, World.size_setCell]; omega) | (simp only [World.size_alloc, World.size_drew]; omega) | (simp only [World.size_setCell, World.size_drew]; omega) | (simp only [World.size_alloc, World.size_setCell, World.size_drew]; omega) | (simp only [World.size_alloc, World.size_setCell, World.size_drew, size_drewN]; omega)))) (by simp only [World.size_alloc]; omega)
  have hr9 : ∀ o, w9.cell? ⟨w.heap.size + 1, o, none⟩ = #[.int .i64 0, .int .i64 0, .int .i64 0, .int .i64 0, .int .i64 0, .int .i64 0][o]? := fun o => by
    rw [hc9]; simp [go_sem]
  have hrf9 : ∀ o, w9.frozen? ⟨w.heap.size + 1, o, none⟩ = false := fun o => by
    rw [hf9]; simp [go_sem]
  simp only [World.size_alloc] at hbn hz9 hc9 hf9
  have hm9 : ∀ o, w9.cell? ⟨nb, o, none⟩ = #[.int .i64 0, .int .i64 0, .int .i64 0, .int .i64 0, .int .i64 0, .int .i64 0][o]? := fun o => by
    rw [hc9, if_neg (by omega), hn9]
  have hmf9 : ∀ o, w9.frozen? ⟨nb, o, none⟩ = false := fun o => by
    rw [hf9, if_neg (by omega), hnf9]
  clear hc9 hf9 hn9 hnf9 hbel
  simp only [List.drop_succ_cons, List.drop_zero, Act.put, List.setIfInBounds_toArray, List.set_cons_succ, List.set_cons_zero]
  clear p1 p2 p3 p4 p5 p6 x1 x2 x3 x4 x5 x6
  have HR : Hid (invO (1) (a * d - b * c) a b c d e f = out6 (near (sg (1) (16777216 * d)) (a * d - b * c)) (near (sg (1) (-16777216 * b)) (a * d - b * c)) (near (sg (1) (-16777216 * c)) (a * d - b * c)) (near (sg (1) (16777216 * a)) (a * d - b * c)) (near (sg (1) (4096 * (c * f - d * e))) (a * d - b * c)) (near (sg (1) (4096 * (b * e - a * f))) (a * d - b * c))) := rfl
  generalize near (sg (1) (16777216 * d)) (a * d - b * c) = n0 at HR ⊢
  generalize near (sg (1) (-16777216 * b)) (a * d - b * c) = n1 at HR ⊢
  generalize near (sg (1) (-16777216 * c)) (a * d - b * c) = n2 at HR ⊢
  generalize near (sg (1) (16777216 * a)) (a * d - b * c) = n3 at HR ⊢
  generalize near (sg (1) (4096 * (c * f - d * e))) (a * d - b * c) = n4 at HR ⊢
  generalize near (sg (1) (4096 * (b * e - a * f))) (a * d - b * c) = n5 at HR ⊢
  rcases matE_or n0 n1 n2 n3 n4 n5 with ho | ho
  all_goals go_wp2_with (first | (go_at_call 131; refine (Check_any _ _ _ _ _ _ _).mono ?_; rintro e w' ⟨rfl, rfl⟩; simp only []))
  all_goals try simp only [Exit.inBlock, Exit.then]
  · refine bodyPost_ret (by simp [results, Try.results105, go_sem, hr9, ↓IntWalk.iteOmega]; try rfl) rfl ?_
    exact ⟨by rw [HR.out, out6, if_pos ho], by (repeat' (with_reducible first | exact Below.refl _ _ | refine past_le ?_ ?_ _ | refine Below.alloc ?_ ?_ _ | refine Below.drew ?_ | refine drewN_le ?_ _ | refine Below.setCell ?_ ?_ _ | refine step_le (by assumption) ?_ ?_ | omega | (simp only []; omega) | (simp only [World.size_alloc]; omega) | (simp only [World.size_setCell]; omega) | (simp only [World.size_drew]; omega) | (simp only [World.size_alloc, World.size_setCell]; omega) | (simp only [World.size_alloc, World.size_drew]; omega) | (simp only [World.size_setCell, World.size_drew]; omega) | (simp only [World.size_alloc, World.size_setCell, World.size_drew]; omega) | (simp only [World.size_alloc, World.size_setCell, World.size_drew, size_drewN]; omega)))⟩
  · refine bodyPost_ret (by simp [results, Try.results105, go_sem, hr9, ↓IntWalk.iteOmega]; try rfl) rfl ?_
    exact ⟨by rw [HR.out, out6, if_neg (by rw [ho]; decide)], by (repeat' (with_reducible first | exact Below.refl _ _ | refine past_le ?_ ?_ _ | refine Below.alloc ?_ ?_ _ | refine Below.drew ?_ | refine drewN_le ?_ _ | refine Below.setCell ?_ ?_ _ | refine step_le (by assumption) ?_ ?_ | omega | (simp only []; omega) | (simp only [World.size_alloc]; omega) | (simp only [World.size_setCell]; omega) | (simp only [World.size_drew]; omega) | (simp only [World.size_alloc, World.size_setCell]; omega) | (simp only [World.size_alloc, World.size_drew]; omega) | (simp only [World.size_setCell, World.size_drew]; omega) | (simp only [World.size_alloc, World.size_setCell, World.size_drew]; omega) | (simp only [World.size_alloc, World.size_setCell, World.size_drew, size_drewN]; omega)))⟩
set_option maxHeartbeats 4000000 in
theorem Invert_none (a b c d e f : Int) (w : World) (hm : matE a b c d e f = 0) (hd : a * d - b * c = 0) :
    Calls Try.prog 105 #[.agg #[.int .i64 a, .int .i64 b, .int .i64 c, .int .i64 d, .int .i64 e, .int .i64 f]] w fun r w' => r = .returned (.tuple #[.agg #[.int .i64 0, .int .i64 0, .int .i64 0, .int .i64 0, .int .i64 0, .int .i64 0], .int .i64 8]) ∧ Below w.heap.size w w' := by
  obtain ⟨x1, x2, x3, x4, x5, x6⟩ := matE_bd hm
  have p1 := mul_bd20 x1 x4
  have p2 := mul_bd20 x2 x3
  go_enter Try.func105, Try.ntmps105
  go_wp2_with (first | (go_at_call 131; refine (Check_any _ _ _ _ _ _ _).mono ?_; rintro e w' ⟨rfl, rfl⟩))
  go_returns
  exact ⟨rfl, by (repeat' (with_reducible first | exact Below.refl _ _ | refine past_le ?_ ?_ _ | refine Below.alloc ?_ ?_ _ | refine Below.drew ?_ | refine drewN_le ?_ _ | refine Below.setCell ?_ ?_ _ | refine step_le (by assumption) ?_ ?_ | omega | (simp only []; omega) | (simp only [World.size_alloc]; omega) | (simp only [World.size_setCell]; omega) | (simp only [World.size_drew]; omega) | (simp only [World.size_alloc, World.size_setCell]; omega) | (simp only [World.size_alloc, World.size_drew]; omega) | (simp only [World.size_setCell, World.size_drew]; omega) | (simp only [World.size_alloc, World.size_setCell, World.size_drew]; omega) | (simp only [World.size_alloc, World.size_setCell, World.size_drew, size_drewN]; omega)))⟩
set_option maxHeartbeats 4000000 in
theorem Invert_no (a b c d e f : Int) (w : World) (hm : matE a b c d e f = 3) :
    Calls Try.prog 105 #[.agg #[.int .i64 a, .int .i64 b, .int .i64 c, .int .i64 d, .int .i64 e, .int .i64 f]] w fun r w' => r = .returned (.tuple #[.agg #[.int .i64 0, .int .i64 0, .int .i64 0, .int .i64 0, .int .i64 0, .int .i64 0], .int .i64 3]) ∧ Below w.heap.size w w' := by
  go_enter Try.func105, Try.ntmps105
  go_wp2_with (first | (go_at_call 131; refine (Check_any _ _ _ _ _ _ _).mono ?_; rintro e w' ⟨rfl, rfl⟩))
  go_returns
  exact ⟨rfl, by (repeat' (with_reducible first | exact Below.refl _ _ | refine past_le ?_ ?_ _ | refine Below.alloc ?_ ?_ _ | refine Below.drew ?_ | refine drewN_le ?_ _ | refine Below.setCell ?_ ?_ _ | refine step_le (by assumption) ?_ ?_ | omega | (simp only []; omega) | (simp only [World.size_alloc]; omega) | (simp only [World.size_setCell]; omega) | (simp only [World.size_drew]; omega) | (simp only [World.size_alloc, World.size_setCell]; omega) | (simp only [World.size_alloc, World.size_drew]; omega) | (simp only [World.size_setCell, World.size_drew]; omega) | (simp only [World.size_alloc, World.size_setCell, World.size_drew]; omega) | (simp only [World.size_alloc, World.size_setCell, World.size_drew, size_drewN]; omega)))⟩
end Go.Proofs.Ytampdegpfndggaa

namespace Go.Proofs.Ytampdegpfndggaa
open Go.RowKit
set_option maxHeartbeats 4000000 in
theorem Invert_neg (a b c d e f : Int) (w : World) (hm : matE a b c d e f = 0) (hd : a * d - b * c < 0) :
    Calls Try.prog 105 #[.agg #[.int .i64 a, .int .i64 b, .int .i64 c, .int .i64 d, .int .i64 e, .int .i64 f]] w fun r w' => r = .returned (invO (-1) (-(a * d - b * c)) a b c d e f) ∧ Below w.heap.size w w' := by
  obtain ⟨x1, x2, x3, x4, x5, x6⟩ := matE_bd hm
  have p1 := mul_bd20 x1 x4
  have p2 := mul_bd20 x2 x3
  have p3 := mul_bd28 x3 x6
  have p4 := mul_bd28 x4 x5
  have p5 := mul_bd28 x2 x5
  have p6 := mul_bd28 x1 x6
  go_enter Try.func105, Try.ntmps105
  go_wp2_with (first | (go_at_call 131; refine (Check_any _ _ _ _ _ _ _).mono ?_; rintro e w' ⟨rfl, rfl⟩; simp only []))
  refine mix1 49 8 (.cells #[.int .i64 0, .int .i64 0, .int .i64 0, .int .i64 0, .int .i64 0, .int .i64 0] 52) (by kernel_rfl) (by kernel_rfl) ⟨by rfl, by simp⟩ ⟨_, rfl, rfl, rfl, fun f w => by kernel_rfl⟩ ?_
  apply Exists.intro
  refine ⟨fun F => ?_, fun nb w9 hbn hbel hblk => ?_⟩
  · haveI := F.ne
    simp only [List.take_succ_cons, List.take_zero]
    repeat (go_big_quiet_step (first | (go_at_call 132; exact fam_same (over_any _ (-1) (-(a * d - b * c)) _ _ _ (by intro o; simp [go_sem]) (by intro o; simp [go_sem]) (by omega) (by omega)))))
    exact wpQuiet_nil rfl
  obtain ⟨hc9, hf9, hz9⟩ := bcell hbel
  obtain ⟨hn9, hnf9, hl9⟩ := new_cells hblk
  clear hblk
  have hB9 : Below w.heap.size w w9 := step_le hbel (by (repeat' (with_reducible first | exact Below.refl _ _ | refine past_le ?_ ?_ _ | refine Below.alloc ?_ ?_ _ | refine Below.drew ?_ | refine drewN_le ?_ _ | refine Below.setCell ?_ ?_ _ | refine step_le (by assumption) ?_ ?_ | omega | (simp only []; omega) | (simp only [World.size_alloc]; omega) | (simp only [World.size_setCell]; omega) | (simp only [World.size_drew]; omega) | (simp only [World.size_alloc, World.size_setCell]; omega) | (simp only [World.size_alloc, World.size_drew]; omega) | (simp only [World.size_setCell, World.size_drew]; omega) | (simp only [World.size_alloc, World.size_setCell, World.size_drew]; omega) | (simp only [World.size_alloc, World.size_setCell, World.size_drew, size_drewN]; omega)))) (by simp only [World.size_alloc]; omega)
  have hr9 : ∀ o, w9.cell? ⟨w.heap.size + 1, o, none⟩ = #[.int .i64 0, .int .i64 0, .int .i64 0, .int .i64 0, .int .i64 0, .int .i64 0][o]? := fun o => by
    rw [hc9]; simp [go_sem]
  have hrf9 : ∀ o, w9.frozen? ⟨w.heap.size + 1, o, none⟩ = false := fun o => by
    rw [hf9]; simp [go_sem]
  simp only [World.size_alloc] at hbn hz9 hc9 hf9
  have hm9 : ∀ o, w9.cell? ⟨nb, o, none⟩ = #[.int .i64 0, .int .i64 0, .int .i64 0, .int .i64 0, .int .i64 0, .int .i64 0][o]? := fun o => by
    rw [hc9, if_neg (by omega), hn9]
  have hmf9 : ∀ o, w9.frozen? ⟨nb, o, none⟩ = false := fun o => by
    rw [hf9, if_neg (by omega), hnf9]
  clear hc9 hf9 hn9 hnf9 hbel
  simp only [List.drop_succ_cons, List.drop_zero, Act.put, List.setIfInBounds_toArray, List.set_cons_succ, List.set_cons_zero]
  clear p1 p2 p3 p4 p5 p6 x1 x2 x3 x4 x5 x6
  have HR : Hid (invO (-1) (-(a * d - b * c)) a b c d e f = out6 (near (sg (-1) (16777216 * d)) (-(a * d - b * c))) (near (sg (-1) (-16777216 * b)) (-(a * d - b * c))) (near (sg (-1) (-16777216 * c)) (-(a * d - b * c))) (near (sg (-1) (16777216 * a)) (-(a * d - b * c))) (near (sg (-1) (4096 * (c * f - d * e))) (-(a * d - b * c))) (near (sg (-1) (4096 * (b * e - a * f))) (-(a * d - b * c)))) := rfl
  generalize near (sg (-1) (16777216 * d)) (-(a * d - b * c)) = n0 at HR ⊢
  generalize near (sg (-1) (-16777216 * b)) (-(a * d - b * c)) = n1 at HR ⊢
  generalize near (sg (-1) (-16777216 * c)) (-(a * d - b * c)) = n2 at HR ⊢
  generalize near (sg (-1) (16777216 * a)) (-(a * d - b * c)) = n3 at HR ⊢
  generalize near (sg (-1) (4096 * (c * f - d * e))) (-(a * d - b * c)) = n4 at HR ⊢
  generalize near (sg (-1) (4096 * (b * e - a * f))) (-(a * d - b * c)) = n5 at HR ⊢
  rcases matE_or n0 n1 n2 n3 n4 n5 with ho | ho
  all_goals go_wp2_with (first | (go_at_call 131; refine (Check_any _ _ _ _ _ _ _).mono ?_; rintro e w' ⟨rfl, rfl⟩; simp only []))
  all_goals try simp only [Exit.inBlock, Exit.then]
  · refine bodyPost_ret (by simp [results, Try.results105, go_sem, hr9, ↓IntWalk.iteOmega]; try rfl) rfl ?_
    exact ⟨by rw [HR.out, out6, if_pos ho], by (repeat' (with_reducible first | exact Below.refl _ _ | refine past_le ?_ ?_ _ | refine Below.alloc ?_ ?_ _ | refine Below.drew ?_ | refine drewN_le ?_ _ | refine Below.setCell ?_ ?_ _ | refine step_le (by assumption) ?_ ?_ | omega | (simp only []; omega) | (simp only [World.size_alloc]; omega) | (simp only [World.size_setCell]; omega) | (simp only [World.size_drew]; omega) | (simp only [World.size_alloc, World.size_setCell]; omega) | (simp only [World.size_alloc, World.size_drew]; omega) | (simp only [World.size_setCell, World.size_drew]; omega) | (simp only [World.size_alloc, World.size_setCell, World.size_drew]; omega) | (simp only [World.size_alloc, World.size_setCell, World.size_drew, size_drewN]; omega)))⟩
  · refine bodyPost_ret (by simp [results, Try.results105, go_sem, hr9, ↓IntWalk.iteOmega]; try rfl) rfl ?_
    exact ⟨by rw [HR.out, out6, if_neg (by rw [ho]; decide)], by (repeat' (with_reducible first | exact Below.refl _ _ | refine past_le ?_ ?_ _ | refine Below.alloc ?_ ?_ _ | refine Below.drew ?_ | refine drewN_le ?_ _ | refine Below.setCell ?_ ?_ _ | refine step_le (by assumption) ?_ ?_ | omega | (simp only []; omega) | (simp only [World.size_alloc]; omega) | (simp only [World.size_setCell]; omega) | (simp only [World.size_drew]; omega) | (simp only [World.size_alloc, World.size_setCell]; omega) | (simp only [World.size_alloc, World.size_drew]; omega) | (simp only [World.size_setCell, World.size_drew]; omega) | (simp only [World.size_alloc, World.size_setCell, World.size_drew]; omega) | (simp only [World.size_alloc, World.size_setCell, World.size_drew, size_drewN]; omega)))⟩
end Go.Proofs.Ytampdegpfndggaa
