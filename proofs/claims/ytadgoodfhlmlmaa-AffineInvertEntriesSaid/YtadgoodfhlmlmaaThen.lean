/-
  Contracts of Then, of package affine and of the reference.
-/
import Derived.Test.YtadgoodfhlmlmaaAffine
import Derived.Test.YtadgoodfhlmlmaaMix
namespace Go.Proofs.Ytadgoodfhlmlmaa
open Go.RowKit

theorem matE_bd {a b c d e f : Int} (h : matE a b c d e f = 0) : (-1048576 ≤ a ∧ a ≤ 1048576) ∧ (-1048576 ≤ b ∧ b ≤ 1048576) ∧ (-1048576 ≤ c ∧ c ≤ 1048576) ∧ (-1048576 ≤ d ∧ d ≤ 1048576) ∧ (-268435456 ≤ e ∧ e ≤ 268435456) ∧ (-268435456 ≤ f ∧ f ≤ 268435456) := by
  unfold matE at h
  split at h
  · rename_i h'
    unfold matB at h'
    simp only [Bool.and_eq_true] at h'
    obtain ⟨h1, h2, h3, h4, h5, h6⟩ := h'
    exact ⟨inB_iff.1 h1, inB_iff.1 h2, inB_iff.1 h3, inB_iff.1 h4, inB_iff.1 h5, inB_iff.1 h6⟩
  · simp at h
theorem matE_or (a b c d e f : Int) : matE a b c d e f = 0 ∨ matE a b c d e f = 3 := by unfold matE; split <;> simp
theorem mul_bd20 {a x : Int} (ha : -1048576 ≤ a ∧ a ≤ 1048576) (hx : -1048576 ≤ x ∧ x ≤ 1048576) : -1099511627776 ≤ a * x ∧ a * x ≤ 1099511627776 := by
  have h1 : a.natAbs * x.natAbs ≤ 1048576 * 1048576 := Nat.mul_le_mul (by omega) (by omega)
  have h2 : (a * x).natAbs ≤ 1099511627776 := by rw [Int.natAbs_mul]; omega
  omega
theorem mul_bd28 {a x : Int} (ha : -1048576 ≤ a ∧ a ≤ 1048576) (hx : -268435456 ≤ x ∧ x ≤ 268435456) : -281474976710656 ≤ a * x ∧ a * x ≤ 281474976710656 := by
  have h1 : a.natAbs * x.natAbs ≤ 1048576 * 268435456 := Nat.mul_le_mul (by omega) (by omega)
  have h2 : (a * x).natAbs ≤ 281474976710656 := by rw [Int.natAbs_mul]; omega
  omega
theorem near_bd2 (a : Int) (h : -4611686018427387904 ≤ a ∧ a ≤ 4611686018427387903) : -4611686018427387904 ≤ near a 4096 ∧ near a 4096 ≤ 4611686018427387904 := by
  have := near_abs a 4096 (by omega)
  rcases Int.le_total 0 a with h0 | h0
  · have := this.1 h0; omega
  · have := this.2 h0; omega
set_option maxHeartbeats 400000 in
theorem dot_any (a b c d : Int) (w : World) (h1 : -4611686018427387904 ≤ a * b ∧ a * b ≤ 4611686018427387904) (h2 : -4611686018427387904 ≤ c * d ∧ c * d ≤ 4611686018427387904) (h : -4611686018427387904 ≤ a * b + c * d ∧ a * b + c * d ≤ 4611686018427387904) :
    Calls Try.prog 62 #[.int .i64 a, .int .i64 b, .int .i64 c, .int .i64 d] w fun e w' => e = .returned (.int .i64 (near (a * b + c * d) 4096)) ∧ w = w' := by
  go_enter Try.func62, Try.ntmps62
  go_wp2_with (go_at_call 53; refine (Near_any _ _ _ ?_ ?_).mono ?_; omega; omega; rintro e w' ⟨rfl, rfl⟩)
  go_ret
  exact ⟨rfl, rfl⟩
/-- What Then hands back where both maps are sound. -/
def thenV (a1 b1 c1 d1 e1 f1 a2 b2 c2 d2 e2 f2 : Int) : Value :=
  if matE (near (a2 * a1 + c2 * b1) 4096) (near (b2 * a1 + d2 * b1) 4096) (near (a2 * c1 + c2 * d1) 4096) (near (b2 * c1 + d2 * d1) 4096) (near (a2 * e1 + c2 * f1) 4096 + e2) (near (b2 * e1 + d2 * f1) 4096 + f2) = 0 then
    .tuple #[.agg #[.int .i64 (near (a2 * a1 + c2 * b1) 4096), .int .i64 (near (b2 * a1 + d2 * b1) 4096), .int .i64 (near (a2 * c1 + c2 * d1) 4096), .int .i64 (near (b2 * c1 + d2 * d1) 4096), .int .i64 (near (a2 * e1 + c2 * f1) 4096 + e2), .int .i64 (near (b2 * e1 + d2 * f1) 4096 + f2)], .int .i64 0]
  else .tuple #[.agg #[.int .i64 0, .int .i64 0, .int .i64 0, .int .i64 0, .int .i64 0, .int .i64 0], .int .i64 10]
set_option maxHeartbeats 4000000 in
theorem Then_12 (a1 b1 c1 d1 e1 f1 a2 b2 c2 d2 e2 f2 : Int) (w : World) (hm : matE a1 b1 c1 d1 e1 f1 = 0) (hn : matE a2 b2 c2 d2 e2 f2 = 0) :
    Calls Try.prog 45 #[.agg #[.int .i64 a1, .int .i64 b1, .int .i64 c1, .int .i64 d1, .int .i64 e1, .int .i64 f1], .agg #[.int .i64 a2, .int .i64 b2, .int .i64 c2, .int .i64 d2, .int .i64 e2, .int .i64 f2]] w fun r w' => r = .returned (thenV a1 b1 c1 d1 e1 f1 a2 b2 c2 d2 e2 f2) ∧ Below w.heap.size w w' := by
  obtain ⟨x1, x2, x3, x4, x5, x6⟩ := matE_bd hm
  obtain ⟨y1, y2, y3, y4, y5, y6⟩ := matE_bd hn
  have p1 := mul_bd20 y1 x1
  have p2 := mul_bd20 y3 x2
  have p3 := mul_bd20 y2 x1
  have p4 := mul_bd20 y4 x2
  have p5 := mul_bd20 y1 x3
  have p6 := mul_bd20 y3 x4
  have p7 := mul_bd20 y2 x3
  have p8 := mul_bd20 y4 x4
  have p9 := mul_bd28 y1 x5
  have p10 := mul_bd28 y3 x6
  have p11 := mul_bd28 y2 x5
  have p12 := mul_bd28 y4 x6
  have q5 := near_bd2 (a2 * e1 + c2 * f1) (by omega)
  have q6 := near_bd2 (b2 * e1 + d2 * f1) (by omega)
  have i0 : ∀ w, (Instr.index 75 (.agg #[.int .i64 a1, .int .i64 b1, .int .i64 c1, .int .i64 d1, .int .i64 e1, .int .i64 f1, .int .i64 a2, .int .i64 b2, .int .i64 c2, .int .i64 d2, .int .i64 e2, .int .i64 f2]) (.int .i64 0)).run Try.prog w = .ok (.agg #[.int .i64 a1, .int .i64 b1, .int .i64 c1, .int .i64 d1, .int .i64 e1, .int .i64 f1]) w := fun _ => by kernel_rfl
  have i1 : ∀ w, (Instr.index 75 (.agg #[.int .i64 a1, .int .i64 b1, .int .i64 c1, .int .i64 d1, .int .i64 e1, .int .i64 f1, .int .i64 a2, .int .i64 b2, .int .i64 c2, .int .i64 d2, .int .i64 e2, .int .i64 f2]) (.int .i64 1)).run Try.prog w = .ok (.agg #[.int .i64 a2, .int .i64 b2, .int .i64 c2, .int .i64 d2, .int .i64 e2, .int .i64 f2]) w := fun _ => by kernel_rfl
  go_enter Try.func45, Try.ntmps45
  go_wp2_with fail
  refine wp_loop_rounds 3 ?_
  repeat any_goals (rw [rounds_succ]; go_wp2_with (first | (go_at_call 36; refine (Check_any _ _ _ _ _ _ _).mono ?_; rintro e w' ⟨rfl, rfl⟩)))
  simp only [List.append_eq, List.cons_append, List.nil_append]
  refine mix1 67 10 (.cells #[.int .i64 0, .int .i64 0, .int .i64 0, .int .i64 0, .int .i64 0, .int .i64 0] 48) (by kernel_rfl) (by kernel_rfl) ⟨by rfl, by simp⟩ ⟨_, rfl, rfl, rfl, fun f w => by kernel_rfl⟩ ?_
  apply Exists.intro
  refine ⟨fun F => ?_, fun nb w9 hbn hbel hblk => ?_⟩
  · haveI := F.ne

    simp only [List.take_succ_cons, List.take_zero]
    repeat (go_big_quiet_step (first | (go_at_call 62; exact fam_same (dot_any _ _ _ _ _ (by omega) (by omega) (by omega)))))
    exact wpQuiet_nil rfl
  obtain ⟨hc9, hf9, hz9⟩ := bcell hbel
  obtain ⟨hn9, hnf9, hl9⟩ := new_cells hblk
  clear hblk
  have hB9 : Below w.heap.size w w9 := step_le hbel (by (repeat' (with_reducible first | exact Below.refl _ _ | refine past_le ?_ ?_ _ | refine Below.alloc ?_ ?_ _ | refine Below.drew ?_ | refine drewN_le ?_ _ | refine Below.setCell ?_ ?_ _ | refine step_le (by assumption) ?_ ?_ | omega | (simp only []; omega) | (simp only [World.size_alloc]; omega) | (simp only [World.size_setCell]; omega) | (simp only [World.size_drew]; omega) | (simp only [World.size_alloc, World.size_setCell]; omega) | (simp only [World.size_alloc, World.size_drew]; omega) | (simp only [World.size_setCell, World.size_drew]; omega) | (simp only [World.size_alloc, World.size_setCell, World.size_drew]; omega)))) (by simp only [World.size_alloc]; omega)
  have hr9 : ∀ o, w9.cell? ⟨w.heap.size + 1 + 1, o, none⟩ = #[.int .i64 0, .int .i64 0, .int .i64 0, .int .i64 0, .int .i64 0, .int .i64 0][o]? := fun o => by
    rw [hc9]; simp [go_sem]
  have hrf9 : ∀ o, w9.frozen? ⟨w.heap.size + 1 + 1, o, none⟩ = false := fun o => by
    rw [hf9]; simp [go_sem]
  simp only [World.size_alloc] at hbn hz9 hc9 hf9
  have hm9 : ∀ o, w9.cell? ⟨nb, o, none⟩ = #[.int .i64 0, .int .i64 0, .int .i64 0, .int .i64 0, .int .i64 0, .int .i64 0][o]? := fun o => by
    rw [hc9, if_neg (by omega), hn9]
  have hmf9 : ∀ o, w9.frozen? ⟨nb, o, none⟩ = false := fun o => by
    rw [hf9, if_neg (by omega), hnf9]
  clear hc9 hf9 hn9 hnf9 hbel
  simp only [List.drop_succ_cons, List.drop_zero, Act.put, List.setIfInBounds_toArray, List.set_cons_succ, List.set_cons_zero]
  clear p1 p2 p3 p4 p5 p6 p7 p8 p9 p10 p11 p12 x1 x2 x3 x4 x5 x6 y1 y2 y3 y4 y5 y6 q5 q6
  rcases matE_or (near (a2 * a1 + c2 * b1) 4096) (near (b2 * a1 + d2 * b1) 4096) (near (a2 * c1 + c2 * d1) 4096) (near (b2 * c1 + d2 * d1) 4096) (near (a2 * e1 + c2 * f1) 4096 + e2) (near (b2 * e1 + d2 * f1) 4096 + f2) with ho | ho
  all_goals go_wp2_with (first | (go_at_call 36; refine (Check_any _ _ _ _ _ _ _).mono ?_; rintro e w' ⟨rfl, rfl⟩; simp only []))
  all_goals try simp only [Exit.inBlock, Exit.then]
  · refine bodyPost_ret (by simp [results, Try.results45, go_sem, hr9, ↓IntWalk.iteOmega]; try rfl) rfl ?_
    exact ⟨by unfold thenV; rw [if_pos ho], by (repeat' (with_reducible first | exact Below.refl _ _ | refine past_le ?_ ?_ _ | refine Below.alloc ?_ ?_ _ | refine Below.drew ?_ | refine drewN_le ?_ _ | refine Below.setCell ?_ ?_ _ | refine step_le (by assumption) ?_ ?_ | omega | (simp only []; omega) | (simp only [World.size_alloc]; omega) | (simp only [World.size_setCell]; omega) | (simp only [World.size_drew]; omega) | (simp only [World.size_alloc, World.size_setCell]; omega) | (simp only [World.size_alloc, World.size_drew]; omega) | (simp only [World.size_setCell, World.size_drew]; omega) | (simp only [World.size_alloc, World.size_setCell, World.size_drew]; omega)))⟩
  · refine bodyPost_ret (by simp [results, Try.results45, go_sem, hr9, ↓IntWalk.iteOmega]; try rfl) rfl ?_
    exact ⟨by unfold thenV; rw [if_neg (by rw [ho]; decide)], by (repeat' (with_reducible first | exact Below.refl _ _ | refine past_le ?_ ?_ _ | refine Below.alloc ?_ ?_ _ | refine Below.drew ?_ | refine drewN_le ?_ _ | refine Below.setCell ?_ ?_ _ | refine step_le (by assumption) ?_ ?_ | omega | (simp only []; omega) | (simp only [World.size_alloc]; omega) | (simp only [World.size_setCell]; omega) | (simp only [World.size_drew]; omega) | (simp only [World.size_alloc, World.size_setCell]; omega) | (simp only [World.size_alloc, World.size_drew]; omega) | (simp only [World.size_setCell, World.size_drew]; omega) | (simp only [World.size_alloc, World.size_setCell, World.size_drew]; omega)))⟩
set_option maxHeartbeats 4000000 in
theorem Then_no1 (a1 b1 c1 d1 e1 f1 a2 b2 c2 d2 e2 f2 : Int) (w : World) (hm : matE a1 b1 c1 d1 e1 f1 = 3) :
    Calls Try.prog 45 #[.agg #[.int .i64 a1, .int .i64 b1, .int .i64 c1, .int .i64 d1, .int .i64 e1, .int .i64 f1], .agg #[.int .i64 a2, .int .i64 b2, .int .i64 c2, .int .i64 d2, .int .i64 e2, .int .i64 f2]] w fun r w' => r = .returned (.tuple #[.agg #[.int .i64 0, .int .i64 0, .int .i64 0, .int .i64 0, .int .i64 0, .int .i64 0], .int .i64 3]) ∧ Below w.heap.size w w' := by
  have i0 : ∀ w, (Instr.index 75 (.agg #[.int .i64 a1, .int .i64 b1, .int .i64 c1, .int .i64 d1, .int .i64 e1, .int .i64 f1, .int .i64 a2, .int .i64 b2, .int .i64 c2, .int .i64 d2, .int .i64 e2, .int .i64 f2]) (.int .i64 0)).run Try.prog w = .ok (.agg #[.int .i64 a1, .int .i64 b1, .int .i64 c1, .int .i64 d1, .int .i64 e1, .int .i64 f1]) w := fun _ => by kernel_rfl
  have i1 : ∀ w, (Instr.index 75 (.agg #[.int .i64 a1, .int .i64 b1, .int .i64 c1, .int .i64 d1, .int .i64 e1, .int .i64 f1, .int .i64 a2, .int .i64 b2, .int .i64 c2, .int .i64 d2, .int .i64 e2, .int .i64 f2]) (.int .i64 1)).run Try.prog w = .ok (.agg #[.int .i64 a2, .int .i64 b2, .int .i64 c2, .int .i64 d2, .int .i64 e2, .int .i64 f2]) w := fun _ => by kernel_rfl
  go_enter Try.func45, Try.ntmps45
  go_wp2_with fail
  refine wp_loop_rounds 3 ?_
  repeat any_goals (rw [rounds_succ]; go_wp2_with (first | (go_at_call 36; refine (Check_any _ _ _ _ _ _ _).mono ?_; rintro e w' ⟨rfl, rfl⟩)))
  go_returns
  exact ⟨rfl, by (repeat' (with_reducible first | exact Below.refl _ _ | refine past_le ?_ ?_ _ | refine Below.alloc ?_ ?_ _ | refine Below.drew ?_ | refine drewN_le ?_ _ | refine Below.setCell ?_ ?_ _ | refine step_le (by assumption) ?_ ?_ | omega | (simp only []; omega) | (simp only [World.size_alloc]; omega) | (simp only [World.size_setCell]; omega) | (simp only [World.size_drew]; omega) | (simp only [World.size_alloc, World.size_setCell]; omega) | (simp only [World.size_alloc, World.size_drew]; omega) | (simp only [World.size_setCell, World.size_drew]; omega) | (simp only [World.size_alloc, World.size_setCell, World.size_drew]; omega)))⟩
set_option maxHeartbeats 4000000 in
theorem Then_no2 (a1 b1 c1 d1 e1 f1 a2 b2 c2 d2 e2 f2 : Int) (w : World) (hm : matE a1 b1 c1 d1 e1 f1 = 0) (hn : matE a2 b2 c2 d2 e2 f2 = 3) :
    Calls Try.prog 45 #[.agg #[.int .i64 a1, .int .i64 b1, .int .i64 c1, .int .i64 d1, .int .i64 e1, .int .i64 f1], .agg #[.int .i64 a2, .int .i64 b2, .int .i64 c2, .int .i64 d2, .int .i64 e2, .int .i64 f2]] w fun r w' => r = .returned (.tuple #[.agg #[.int .i64 0, .int .i64 0, .int .i64 0, .int .i64 0, .int .i64 0, .int .i64 0], .int .i64 3]) ∧ Below w.heap.size w w' := by
  have i0 : ∀ w, (Instr.index 75 (.agg #[.int .i64 a1, .int .i64 b1, .int .i64 c1, .int .i64 d1, .int .i64 e1, .int .i64 f1, .int .i64 a2, .int .i64 b2, .int .i64 c2, .int .i64 d2, .int .i64 e2, .int .i64 f2]) (.int .i64 0)).run Try.prog w = .ok (.agg #[.int .i64 a1, .int .i64 b1, .int .i64 c1, .int .i64 d1, .int .i64 e1, .int .i64 f1]) w := fun _ => by kernel_rfl
  have i1 : ∀ w, (Instr.index 75 (.agg #[.int .i64 a1, .int .i64 b1, .int .i64 c1, .int .i64 d1, .int .i64 e1, .int .i64 f1, .int .i64 a2, .int .i64 b2, .int .i64 c2, .int .i64 d2, .int .i64 e2, .int .i64 f2]) (.int .i64 1)).run Try.prog w = .ok (.agg #[.int .i64 a2, .int .i64 b2, .int .i64 c2, .int .i64 d2, .int .i64 e2, .int .i64 f2]) w := fun _ => by kernel_rfl
  go_enter Try.func45, Try.ntmps45
  go_wp2_with fail
  refine wp_loop_rounds 3 ?_
  repeat any_goals (rw [rounds_succ]; go_wp2_with (first | (go_at_call 36; refine (Check_any _ _ _ _ _ _ _).mono ?_; rintro e w' ⟨rfl, rfl⟩)))
  go_returns
  exact ⟨rfl, by (repeat' (with_reducible first | exact Below.refl _ _ | refine past_le ?_ ?_ _ | refine Below.alloc ?_ ?_ _ | refine Below.drew ?_ | refine drewN_le ?_ _ | refine Below.setCell ?_ ?_ _ | refine step_le (by assumption) ?_ ?_ | omega | (simp only []; omega) | (simp only [World.size_alloc]; omega) | (simp only [World.size_setCell]; omega) | (simp only [World.size_drew]; omega) | (simp only [World.size_alloc, World.size_setCell]; omega) | (simp only [World.size_alloc, World.size_drew]; omega) | (simp only [World.size_setCell, World.size_drew]; omega) | (simp only [World.size_alloc, World.size_setCell, World.size_drew]; omega)))⟩
end Go.Proofs.Ytadgoodfhlmlmaa
