/-
  Contracts of Apply, of package affine and of the reference.
-/
import Derived.Test.YtadgoodfhlmlmaaAffine
import Derived.Deep.RegionHeld3
namespace Go.Proofs.Ytadgoodfhlmlmaa
open Go.RowKit

theorem mul_bd2 {a x : Int} (ha : -1048576 ≤ a ∧ a ≤ 1048576) (hx : -32767 ≤ x ∧ x ≤ 32767) : -34358689792 ≤ a * x ∧ a * x ≤ 34358689792 := by
  have h1 : a.natAbs * x.natAbs ≤ 1048576 * 32767 := Nat.mul_le_mul (by omega) (by omega)
  have h2 : (a * x).natAbs ≤ 34358689792 := by rw [Int.natAbs_mul]; omega
  omega
theorem matE_bd {a b c d e f : Int} (h : matE a b c d e f = 0) : (-1048576 ≤ a ∧ a ≤ 1048576) ∧ (-1048576 ≤ b ∧ b ≤ 1048576) ∧ (-1048576 ≤ c ∧ c ≤ 1048576) ∧ (-1048576 ≤ d ∧ d ≤ 1048576) ∧ (-268435456 ≤ e ∧ e ≤ 268435456) ∧ (-268435456 ≤ f ∧ f ≤ 268435456) := by
  unfold matE at h
  split at h
  · rename_i h'
    unfold matB at h'
    simp only [Bool.and_eq_true] at h'
    obtain ⟨h1, h2, h3, h4, h5, h6⟩ := h'
    exact ⟨inB_iff.1 h1, inB_iff.1 h2, inB_iff.1 h3, inB_iff.1 h4, inB_iff.1 h5, inB_iff.1 h6⟩
  · simp at h
theorem matE_or (a b c d e f : Int) : matE a b c d e f = 0 ∨ matE a b c d e f = 3 := by unfold matE; split <;> simp
def applyV (a b c d e f x y : Int) : Int × Int × Int :=
  if matE a b c d e f = 0 ∧ ptB x y = true then
    (if ptB (near (a * x + c * y + e) 4096) (near (b * x + d * y + f) 4096) = true then (near (a * x + c * y + e) 4096, near (b * x + d * y + f) 4096, 0) else (0, 0, 10))
  else (0, 0, 3)
theorem applyV_yes {a b c d e f x y : Int} (hm : matE a b c d e f = 0) (hp : ptB x y = true) (hr : ptB (near (a * x + c * y + e) 4096) (near (b * x + d * y + f) 4096) = true) : applyV a b c d e f x y = (near (a * x + c * y + e) 4096, near (b * x + d * y + f) 4096, 0) := by
  rw [applyV, if_pos ⟨hm, hp⟩, if_pos hr]
theorem applyV_over {a b c d e f x y : Int} (hm : matE a b c d e f = 0) (hp : ptB x y = true) (hr : ptB (near (a * x + c * y + e) 4096) (near (b * x + d * y + f) 4096) = false) : applyV a b c d e f x y = (0, 0, 10) := by
  rw [applyV, if_pos ⟨hm, hp⟩, if_neg (by simp [hr])]
theorem applyV_no {a b c d e f x y : Int} (h : ¬ (matE a b c d e f = 0 ∧ ptB x y = true)) : applyV a b c d e f x y = (0, 0, 3) := by
  rw [applyV, if_neg h]
theorem tupP {a b c a' b' c' : Int} (h : (a', b', c') = (a, b, c)) : Ending.returned (.tuple #[.agg #[.int .i64 a, .int .i64 b], .int .i64 c]) = .returned (.tuple #[.agg #[.int .i64 a', .int .i64 b'], .int .i64 c']) := by
  simp only [Prod.mk.injEq] at h
  obtain ⟨rfl, rfl, rfl⟩ := h
  rfl

set_option maxHeartbeats 2000000 in
theorem Apply_ok (a b c d e f x y : Int) (w : World) (hm : matE a b c d e f = 0) (hp : ptB x y = true) :
    Calls Try.prog 39 #[.agg #[.int .i64 a, .int .i64 b, .int .i64 c, .int .i64 d, .int .i64 e, .int .i64 f], .agg #[.int .i64 x, .int .i64 y]] w fun r w' => r = .returned (.tuple #[.agg #[.int .i64 (applyV a b c d e f x y).1, .int .i64 (applyV a b c d e f x y).2.1], .int .i64 (applyV a b c d e f x y).2.2]) ∧ Below w.heap.size w w' := by
  have hq := hp
  unfold ptB at hq
  simp only [Bool.and_eq_true] at hq
  obtain ⟨hx, hy⟩ := hq
  have hx' := inB_iff.1 hx
  have hy' := inB_iff.1 hy
  obtain ⟨ma, mb, mc, md, me, mf⟩ := matE_bd hm
  have h1 := mul_bd2 ma hx'
  have h2 := mul_bd2 mc hy'
  have h3 := mul_bd2 mb hx'
  have h4 := mul_bd2 md hy'
  have hr : Hid _ := @applyV_yes a b c d e f x y hm hp
  have hv : Hid _ := @applyV_over a b c d e f x y hm hp
  go_enter Try.func39, Try.ntmps39
  go_wp2_with (first | (go_at_call 36; refine (Check_any _ _ _ _ _ _ _).mono ?_; rintro e w' ⟨rfl, rfl⟩) | (go_at_call 59; refine (within_any _ _ _ ?_).mono ?_; omega; rintro e w' ⟨rfl, rfl⟩))
  have k0 : IntKind.i64.wrap (a * x) = a * x := IntWalk.i64_in _ (by omega)
  have k1 : IntKind.i64.wrap (c * y) = c * y := IntWalk.i64_in _ (by omega)
  have k2 : IntKind.i64.wrap (b * x) = b * x := IntWalk.i64_in _ (by omega)
  have k3 : IntKind.i64.wrap (d * y) = d * y := IntWalk.i64_in _ (by omega)
  have k4 : IntKind.i64.wrap (a * x + c * y) = a * x + c * y := IntWalk.i64_in _ (by omega)
  have k5 : IntKind.i64.wrap (b * x + d * y) = b * x + d * y := IntWalk.i64_in _ (by omega)
  have k6 : IntKind.i64.wrap (a * x + c * y + e) = a * x + c * y + e := IntWalk.i64_in _ (by omega)
  have k7 : IntKind.i64.wrap (b * x + d * y + f) = b * x + d * y + f := IntWalk.i64_in _ (by omega)
  go_region_held3 (fun w' => w'.cell? ⟨w.heap.size, 0, none⟩ = some (.int .i64 a) ∧ w'.cell? ⟨w.heap.size, 1, none⟩ = some (.int .i64 b) ∧ w'.cell? ⟨w.heap.size, 2, none⟩ = some (.int .i64 c) ∧ w'.cell? ⟨w.heap.size, 3, none⟩ = some (.int .i64 d) ∧ w'.cell? ⟨w.heap.size, 4, none⟩ = some (.int .i64 e) ∧ w'.cell? ⟨w.heap.size, 5, none⟩ = some (.int .i64 f) ∧ w'.cell? ⟨w.heap.size + 1, 0, none⟩ = some (.int .i64 x) ∧ w'.cell? ⟨w.heap.size + 1, 1, none⟩ = some (.int .i64 y)) (simp +arith [cell_alloc_if]) (first | (go_at_call 53; refine (Near_any _ _ _ ?_ ?_).mono ?_; omega; omega; rintro e w' ⟨rfl, rfl⟩))
  all_goals
    clear k0 k1 k2 k3 k4 k5 k6 k7
    by_cases g1 : inB (near (a * x + c * y + e) 4096) (-32767) 32767 = true <;> by_cases g2 : inB (near (b * x + d * y + f) 4096) (-32767) 32767 = true
    all_goals
      try simp only [Bool.not_eq_true] at g1
      try simp only [Bool.not_eq_true] at g2
      go_wp2_with (first | (go_at_call 59; refine (within_any _ _ _ ?_).mono ?_; omega; rintro e w' ⟨rfl, rfl⟩))
      go_returns
      refine ⟨?_, by (repeat' (with_reducible first | exact Below.refl _ _ | refine past_le ?_ ?_ _ | refine Below.alloc ?_ ?_ _ | refine Below.drew ?_ | refine Below.setCell ?_ ?_ _ | refine step_le (by assumption) ?_ ?_ | omega | (simp only [World.size_alloc]; omega) | (simp only [World.size_alloc, World.size_setCell]; omega) | (simp only [World.size_alloc, World.size_setCell, World.size_drew]; omega)))⟩
      first | exact tupP (hr.out (by unfold ptB; rw [g1, g2]; rfl)) | exact tupP (hv.out (by unfold ptB; rw [g1]; try rw [g2]; try rfl))

set_option maxHeartbeats 2000000 in
theorem Apply_no (a b c d e f x y : Int) (w : World) (h : ¬ (matE a b c d e f = 0 ∧ ptB x y = true)) :
    Calls Try.prog 39 #[.agg #[.int .i64 a, .int .i64 b, .int .i64 c, .int .i64 d, .int .i64 e, .int .i64 f], .agg #[.int .i64 x, .int .i64 y]] w fun r w' => r = .returned (.tuple #[.agg #[.int .i64 (applyV a b c d e f x y).1, .int .i64 (applyV a b c d e f x y).2.1], .int .i64 (applyV a b c d e f x y).2.2]) ∧ Below w.heap.size w w' := by
  have hv : Hid _ := applyV_no h
  rcases matE_or a b c d e f with hm | hm
  · have hp : ¬ ptB x y = true := fun hp => h ⟨hm, hp⟩
    unfold ptB at hp
    clear h
    by_cases hx : inB x (-32767) 32767 = true
    · have hy : inB y (-32767) 32767 = false := by rw [hx] at hp; simpa using hp
      clear hp
      go_enter Try.func39, Try.ntmps39
      go_wp2_with (first | (go_at_call 36; refine (Check_any _ _ _ _ _ _ _).mono ?_; rintro e w' ⟨rfl, rfl⟩) | (go_at_call 59; refine (within_any _ _ _ ?_).mono ?_; omega; rintro e w' ⟨rfl, rfl⟩))
      go_returns
      exact ⟨tupP hv.out, by (repeat' (with_reducible first | exact Below.refl _ _ | refine past_le ?_ ?_ _ | refine Below.alloc ?_ ?_ _ | refine Below.drew ?_ | refine Below.setCell ?_ ?_ _ | refine step_le (by assumption) ?_ ?_ | omega | (simp only [World.size_alloc]; omega) | (simp only [World.size_alloc, World.size_setCell]; omega) | (simp only [World.size_alloc, World.size_setCell, World.size_drew]; omega)))⟩
    · have hx : inB x (-32767) 32767 = false := by simpa using hx
      clear hp
      go_enter Try.func39, Try.ntmps39
      go_wp2_with (first | (go_at_call 36; refine (Check_any _ _ _ _ _ _ _).mono ?_; rintro e w' ⟨rfl, rfl⟩) | (go_at_call 59; refine (within_any _ _ _ ?_).mono ?_; omega; rintro e w' ⟨rfl, rfl⟩))
      go_returns
      exact ⟨tupP hv.out, by (repeat' (with_reducible first | exact Below.refl _ _ | refine past_le ?_ ?_ _ | refine Below.alloc ?_ ?_ _ | refine Below.drew ?_ | refine Below.setCell ?_ ?_ _ | refine step_le (by assumption) ?_ ?_ | omega | (simp only [World.size_alloc]; omega) | (simp only [World.size_alloc, World.size_setCell]; omega) | (simp only [World.size_alloc, World.size_setCell, World.size_drew]; omega)))⟩
  · clear h
    go_enter Try.func39, Try.ntmps39
    go_wp2_with (first | (go_at_call 36; refine (Check_any _ _ _ _ _ _ _).mono ?_; rintro e w' ⟨rfl, rfl⟩))
    go_returns
    exact ⟨tupP hv.out, by (repeat' (with_reducible first | exact Below.refl _ _ | refine past_le ?_ ?_ _ | refine Below.alloc ?_ ?_ _ | refine Below.drew ?_ | refine Below.setCell ?_ ?_ _ | refine step_le (by assumption) ?_ ?_ | omega | (simp only [World.size_alloc]; omega) | (simp only [World.size_alloc, World.size_setCell]; omega) | (simp only [World.size_alloc, World.size_setCell, World.size_drew]; omega)))⟩
theorem Apply_any (a b c d e f x y : Int) (w : World) :
    Calls Try.prog 39 #[.agg #[.int .i64 a, .int .i64 b, .int .i64 c, .int .i64 d, .int .i64 e, .int .i64 f], .agg #[.int .i64 x, .int .i64 y]] w fun r w' => r = .returned (.tuple #[.agg #[.int .i64 (applyV a b c d e f x y).1, .int .i64 (applyV a b c d e f x y).2.1], .int .i64 (applyV a b c d e f x y).2.2]) ∧ Below w.heap.size w w' := by
  by_cases h : matE a b c d e f = 0 ∧ ptB x y = true
  · exact Apply_ok a b c d e f x y w h.1 h.2
  · exact Apply_no a b c d e f x y w h

set_option maxHeartbeats 2000000 in
theorem RApply_ok (a b c d e f x y : Int) (w : World) (hm : matE a b c d e f = 0) (hp : ptB x y = true) :
    Calls Try.prog 40 #[.agg #[.int .i64 a, .int .i64 b, .int .i64 c, .int .i64 d, .int .i64 e, .int .i64 f], .agg #[.int .i64 x, .int .i64 y]] w fun r w' => r = .returned (.tuple #[.agg #[.int .i64 (applyV a b c d e f x y).1, .int .i64 (applyV a b c d e f x y).2.1], .int .i64 (applyV a b c d e f x y).2.2]) ∧ Below w.heap.size w w' := by
  have hq := hp
  unfold ptB at hq
  simp only [Bool.and_eq_true] at hq
  obtain ⟨hx, hy⟩ := hq
  have hx' := inB_iff.1 hx
  have hy' := inB_iff.1 hy
  obtain ⟨ma, mb, mc, md, me, mf⟩ := matE_bd hm
  have h1 := mul_bd2 ma hx'
  have h2 := mul_bd2 mc hy'
  have h3 := mul_bd2 mb hx'
  have h4 := mul_bd2 md hy'
  have hr : Hid _ := @applyV_yes a b c d e f x y hm hp
  have hv : Hid _ := @applyV_over a b c d e f x y hm hp
  have n1 := near_eq (a * x + c * y + e) 4096 (by omega)
  have n2 := near_eq (b * x + d * y + f) 4096 (by omega)
  have n1' : (2 * (a * x + c * y + e) + 4096) / 8192 = near (a * x + c * y + e) 4096 := n1
  have n2' : (2 * (b * x + d * y + f) + 4096) / 8192 = near (b * x + d * y + f) 4096 := n2
  have N1 : Hid _ := n1'
  have N2 : Hid _ := n2'
  clear n1 n2 n1' n2'
  go_enter Try.func40, Try.ntmps40
  go_wp2_with (first | (go_at_call 35; refine (MapCheck_any _ _ _ _ _ _ _).mono ?_; rintro e w' ⟨rfl, rfl⟩) | (go_at_call 34; refine (Coord_any _ _ _).mono ?_; rintro e w' ⟨rfl, rfl⟩))
  have k0 : IntKind.i64.wrap (a * x) = a * x := IntWalk.i64_in _ (by omega)
  have k1 : IntKind.i64.wrap (c * y) = c * y := IntWalk.i64_in _ (by omega)
  have k2 : IntKind.i64.wrap (b * x) = b * x := IntWalk.i64_in _ (by omega)
  have k3 : IntKind.i64.wrap (d * y) = d * y := IntWalk.i64_in _ (by omega)
  have k4 : IntKind.i64.wrap (a * x + c * y) = a * x + c * y := IntWalk.i64_in _ (by omega)
  have k5 : IntKind.i64.wrap (b * x + d * y) = b * x + d * y := IntWalk.i64_in _ (by omega)
  have k6 : IntKind.i64.wrap (a * x + c * y + e) = a * x + c * y + e := IntWalk.i64_in _ (by omega)
  have k7 : IntKind.i64.wrap (b * x + d * y + f) = b * x + d * y + f := IntWalk.i64_in _ (by omega)
  have k8 : IntKind.i64.wrap (2 * (a * x + c * y + e)) = 2 * (a * x + c * y + e) := IntWalk.i64_in _ (by omega)
  have k9 : IntKind.i64.wrap (2 * (b * x + d * y + f)) = 2 * (b * x + d * y + f) := IntWalk.i64_in _ (by omega)
  have k10 : IntKind.i64.wrap (2 * (a * x + c * y + e) + 4096) = 2 * (a * x + c * y + e) + 4096 := IntWalk.i64_in _ (by omega)
  have k11 : IntKind.i64.wrap (2 * (b * x + d * y + f) + 4096) = 2 * (b * x + d * y + f) + 4096 := IntWalk.i64_in _ (by omega)
  go_region_held3 (fun w' => w'.cell? ⟨w.heap.size, 0, none⟩ = some (.int .i64 a) ∧ w'.cell? ⟨w.heap.size, 1, none⟩ = some (.int .i64 b) ∧ w'.cell? ⟨w.heap.size, 2, none⟩ = some (.int .i64 c) ∧ w'.cell? ⟨w.heap.size, 3, none⟩ = some (.int .i64 d) ∧ w'.cell? ⟨w.heap.size, 4, none⟩ = some (.int .i64 e) ∧ w'.cell? ⟨w.heap.size, 5, none⟩ = some (.int .i64 f) ∧ w'.cell? ⟨w.heap.size + 1, 0, none⟩ = some (.int .i64 x) ∧ w'.cell? ⟨w.heap.size + 1, 1, none⟩ = some (.int .i64 y)) (simp +arith [cell_alloc_if]) (first | (go_at_call 54; refine (Down_any _ _ _ ?_ ?_).mono ?_; omega; omega; rintro e w' ⟨rfl, rfl⟩))
  all_goals
    clear k0 k1 k2 k3 k4 k5 k6 k7 k8 k9 k10 k11
    rw [N1.out, N2.out]
    by_cases g : ptB (near (a * x + c * y + e) 4096) (near (b * x + d * y + f) 4096) = true
    all_goals
      try simp only [Bool.not_eq_true] at g
      go_wp2_with (first | (go_at_call 34; refine (Coord_any _ _ _).mono ?_; rintro e w' ⟨rfl, rfl⟩))
      go_returns
      refine ⟨?_, by (repeat' (with_reducible first | exact Below.refl _ _ | refine past_le ?_ ?_ _ | refine Below.alloc ?_ ?_ _ | refine Below.drew ?_ | refine Below.setCell ?_ ?_ _ | refine step_le (by assumption) ?_ ?_ | omega | (simp only [World.size_alloc]; omega) | (simp only [World.size_alloc, World.size_setCell]; omega) | (simp only [World.size_alloc, World.size_setCell, World.size_drew]; omega)))⟩
      first | exact tupP (hr.out g) | exact tupP (hv.out g)
end Go.Proofs.Ytadgoodfhlmlmaa
