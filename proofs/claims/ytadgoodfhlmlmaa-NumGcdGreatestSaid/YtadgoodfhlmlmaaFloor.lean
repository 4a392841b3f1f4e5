/-
  Contracts of Floor and Round, of package num and of the reference.
-/
import Derived.Test.YtadgoodfhlmlmaaNum
namespace Go.Proofs.Ytadgoodfhlmlmaa
open Go.RowKit

theorem cell_new (w : World) (cs : Array Value) (t : TypeId) (j : Nat) (v : Value) (h : cs[j]? = some v) : (w.alloc (.cells cs t)).cell? ⟨w.heap.size, j, none⟩ = some v := by
  have e1 : (w.alloc (.cells cs t)).heap[w.heap.size]? = some (.cells cs t) := (MapKept.heap_alloc w _).1
  unfold World.cell?
  rw [e1]
  simpa using h
theorem tup3 {a b c a' b' c' : Value} (h : a = a') (k : b = b') (l : c = c') : Ending.returned (.tuple #[a, b, c]) = .returned (.tuple #[a', b', c']) := by rw [h, k, l]
theorem int_eq {k : IntKind} {a b : Int} (h : a = b) : Value.int k a = .int k b := by rw [h]
/-- What Floor and its reference return: quotient, remainder, error. -/
def floorV (a b : Int) : Int × Int × Int := if fit a = true ∧ fit b = true then (if b < 1 then (0, 0, 1) else (a / b, a % b, 0)) else (0, 0, 3)
set_option maxHeartbeats 400000 in
theorem Floor_ok (a b : Int) (w : World) (ha : fit a = true) (hb : fit b = true) (h1 : 1 ≤ b) :
    Calls Try.prog 29 #[.int .i64 a, .int .i64 b] w fun e w' => e = .returned (.tuple #[.int .i64 (a / b), .int .i64 (a % b), .int .i64 0]) ∧ Below w.heap.size w w' := by
  have hm : Hid _ := emod_eq a b
  have hb' := emod_bd a b h1
  have hd := ediv_abs a b h1
  have he := Int.mul_ediv_add_emod a b
  have ha' := inB_iff.1 ha
  have hb'' := inB_iff.1 hb
  rw [Int.mul_comm] at he
  go_enter Try.func29, Try.ntmps29
  go_wp2_with (first | (go_at_call 55; refine (fits2_any a b _ _ (cell_new _ _ _ _ _ rfl) (cell_new _ _ _ _ _ rfl)).mono ?_; rintro e w' ⟨rfl, rfl⟩) | (go_at_call 57; refine (Quo_any _ _ _ ?_ ?_).mono ?_; omega; omega; rintro e w' ⟨rfl, rfl⟩))
  go_ret3
  exact ⟨tup3 rfl (int_eq hm.out) rfl, by go_grown⟩
set_option maxHeartbeats 400000 in
theorem Floor_bad (a b : Int) (w : World) (h : ¬ (fit a = true ∧ fit b = true ∧ 1 ≤ b)) :
    Calls Try.prog 29 #[.int .i64 a, .int .i64 b] w fun e w' => e = .returned (.tuple #[.int .i64 0, .int .i64 0, .int .i64 (floorV a b).2.2]) ∧ Below w.heap.size w w' := by
  by_cases hf : fit a = true ∧ fit b = true
  · have hff : (fit a && fit b) = true := by simp [hf]
    have h1 : b < 1 := Int.not_le.1 fun h1 => h ⟨hf.1, hf.2, h1⟩
    have hv : Hid (floorV a b = (0, 0, 1)) := by show floorV a b = _; rw [floorV, if_pos hf, if_pos h1]
    clear h hf
    go_enter Try.func29, Try.ntmps29
    go_wp2_with (first | (go_at_call 55; refine (fits2_any a b _ _ (cell_new _ _ _ _ _ rfl) (cell_new _ _ _ _ _ rfl)).mono ?_; rintro e w' ⟨rfl, rfl⟩))
    go_ret3
    exact ⟨tup3 rfl rfl (by rw [hv.out]; rfl), by go_grown⟩
  · have hff : (fit a && fit b) = false := by simpa using hf
    have hv : Hid (floorV a b = (0, 0, 3)) := by show floorV a b = _; rw [floorV, if_neg hf]
    clear h hf
    go_enter Try.func29, Try.ntmps29
    go_wp2_with (first | (go_at_call 55; refine (fits2_any a b _ _ (cell_new _ _ _ _ _ rfl) (cell_new _ _ _ _ _ rfl)).mono ?_; rintro e w' ⟨rfl, rfl⟩))
    go_ret3
    exact ⟨tup3 rfl rfl (by rw [hv.out]; rfl), by go_grown⟩
theorem Floor_any (a b : Int) (w : World) :
    Calls Try.prog 29 #[.int .i64 a, .int .i64 b] w fun e w' => e = .returned (.tuple #[.int .i64 (floorV a b).1, .int .i64 (floorV a b).2.1, .int .i64 (floorV a b).2.2]) ∧ Below w.heap.size w w' := by
  by_cases h : fit a = true ∧ fit b = true ∧ 1 ≤ b
  · refine (Floor_ok a b w h.1 h.2.1 h.2.2).mono fun e w' ⟨h1, h2⟩ => ⟨?_, h2⟩
    rw [h1, floorV, if_pos ⟨h.1, h.2.1⟩, if_neg (by omega)]
  · refine (Floor_bad a b w h).mono fun e w' ⟨h1, h2⟩ => ⟨?_, h2⟩
    rw [h1]
    by_cases hf : fit a = true ∧ fit b = true
    · rw [floorV, if_pos hf, if_pos (Int.not_le.1 fun h1 => h ⟨hf.1, hf.2, h1⟩)]
    · rw [floorV, if_neg hf]
set_option maxHeartbeats 400000 in
theorem RFloor_any (a b : Int) (w : World) :
    Calls Try.prog 30 #[.int .i64 a, .int .i64 b] w fun e w' => e = .returned (.tuple #[.int .i64 (floorV a b).1, .int .i64 (floorV a b).2.1, .int .i64 (floorV a b).2.2]) ∧ w = w' := by
  by_cases ha : fit a = true
  · by_cases hb : fit b = true
    · by_cases h1 : b < 1
      · have hv : Hid (floorV a b = (0, 0, 1)) := by show floorV a b = _; rw [floorV, if_pos ⟨ha, hb⟩, if_pos h1]
        go_enter Try.func30, Try.ntmps30
        go_wp2_with (first | (go_at_call 58; refine (number_any _ _).mono ?_; rintro e w' ⟨rfl, rfl⟩))
        go_ret3
        rw [hv.out]
        exact ⟨rfl, rfl⟩
      · have hv : Hid (floorV a b = (a / b, a % b, 0)) := by show floorV a b = _; rw [floorV, if_pos ⟨ha, hb⟩, if_neg h1]
        have hm : Hid _ := emod_eq a b
        have hb' := emod_bd a b (by omega)
        have hd := ediv_abs a b (by omega)
        have he := Int.mul_ediv_add_emod a b
        have ha' := inB_iff.1 ha
        have hb'' := inB_iff.1 hb
        rw [Int.mul_comm] at he
        go_enter Try.func30, Try.ntmps30
        go_wp2_with (first | (go_at_call 58; refine (number_any _ _).mono ?_; rintro e w' ⟨rfl, rfl⟩) | (go_at_call 54; refine (Down_any _ _ _ ?_ ?_).mono ?_; omega; omega; rintro e w' ⟨rfl, rfl⟩))
        go_ret3
        rw [hv.out]
        exact ⟨tup3 rfl (int_eq hm.out) rfl, rfl⟩
    · have hv : Hid (floorV a b = (0, 0, 3)) := by show floorV a b = _; rw [floorV, if_neg (fun h => hb h.2)]
      have hb0 : fit b = false := by simpa using hb
      go_enter Try.func30, Try.ntmps30
      go_wp2_with (first | (go_at_call 58; refine (number_any _ _).mono ?_; rintro e w' ⟨rfl, rfl⟩))
      go_ret3
      rw [hv.out]
      exact ⟨rfl, rfl⟩
  · have hv : Hid (floorV a b = (0, 0, 3)) := by show floorV a b = _; rw [floorV, if_neg (fun h => ha h.1)]
    have ha0 : fit a = false := by simpa using ha
    go_enter Try.func30, Try.ntmps30
    go_wp2_with (first | (go_at_call 58; refine (number_any _ _).mono ?_; rintro e w' ⟨rfl, rfl⟩))
    go_ret3
    rw [hv.out]
    exact ⟨rfl, rfl⟩
end Go.Proofs.Ytadgoodfhlmlmaa
