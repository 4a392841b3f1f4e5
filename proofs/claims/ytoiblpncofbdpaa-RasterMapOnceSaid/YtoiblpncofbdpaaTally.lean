/-
  Sums of pixels by classes: the plain law, the contracts of render.Check and the reference's PlateCheck.
-/
import Derived.Test.YtoiblpncofbdpaaRaster
import Derived.Test.YtoiblpncofbdpaaInts
import Derived.Test.YtoiblpncofbdpaaClos
namespace Go.Proofs.Ytoiblpncofbdpaa
open Go.RowKit

/-- The sum of the first m numbers that are of a class. -/
def acc (cls : Nat → Nat) (f : Nat → Int) : Nat → Nat → Int
  | 0, _ => 0
  | m + 1, k => acc cls f m k + if cls m = k then f m else 0
theorem acc_bd (cls : Nat → Nat) (f : Nat → Int) (k : Nat) : ∀ m, (∀ i, i < m → 0 ≤ f i ∧ f i ≤ 255) → 0 ≤ acc cls f m k ∧ acc cls f m k ≤ 255 * m
  | 0, _ => by simp [acc]
  | m + 1, h => by
    have ih := acc_bd cls f k m (fun i hi => h i (by omega))
    have h1 := h m (by omega)
    unfold acc
    split <;> omega
theorem acc_hit (cls : Nat → Nat) (f : Nat → Int) (m : Nat) : acc cls f (m + 1) (cls m) = acc cls f m (cls m) + f m := by simp [acc]
theorem acc_miss (cls : Nat → Nat) (f : Nat → Int) (m k : Nat) (h : cls m ≠ k) : acc cls f (m + 1) k = acc cls f m k := by simp [acc, h]
/-- A row of n sums in a block that was made. -/
structure Sums (W wr : World) (b n : Nat) (g : Nat → Int) : Prop where
  below : Below W.heap.size W wr
  size : b < wr.heap.size
  cells : ∀ k, k < n → wr.cell? ⟨b, k, none⟩ = some (.int .i64 (g k))
  free : ∀ k, wr.frozen? ⟨b, k, none⟩ = false
theorem Sums.step {W wr : World} {b n : Nat} {cls : Nat → Nat} {f : Nat → Int} {m : Nat} (h : Sums W wr b n (acc cls f m)) (hb : W.heap.size ≤ b) :
    Sums W (wr.setCell ⟨b, cls m, none⟩ (.int .i64 (acc cls f m (cls m) + f m))) b n (acc cls f (m + 1)) := by
  refine ⟨h.below.setCell hb _, by rw [World.size_setCell]; exact h.size, fun k hk => ?_, fun k => by rw [World.frozen?_setCell]; exact h.free k⟩
  rw [cell_setCell_if, if_pos rfl]
  by_cases hc : k = cls m
  · subst hc
    rw [if_pos rfl, acc_hit, h.cells _ hk]
    rfl
  · rw [if_neg hc, acc_miss _ _ _ _ (fun e => hc e.symm)]
    exact h.cells k hk
theorem Sums.other {W wr : World} {b n : Nat} {g : Nat → Int} {b' k' : Nat} {v : Value} (h : Sums W wr b n g) (hb : W.heap.size ≤ b') (hne : b ≠ b') : Sums W (wr.setCell ⟨b', k', none⟩ v) b n g := by
  refine ⟨h.below.setCell hb _, by rw [World.size_setCell]; exact h.size, fun k hk => ?_, fun k => by rw [World.frozen?_setCell]; exact h.free k⟩
  rw [cell_setCell_if, if_neg hne]; exact h.cells k hk
theorem Sums.later {W wr w' : World} {b n : Nat} {g : Nat → Int} (h : Sums W wr b n g) (hb : Below wr.heap.size wr w') : Sums W w' b n g := by
  have hs := h.size
  have hB := h.below
  refine ⟨hB.trans (hb.mono hB.size), Nat.lt_of_lt_of_le hs hb.size, fun k hk => ?_, fun k => ?_⟩
  · exact (hb.cell (p := ⟨b, k, none⟩) hs).trans (h.cells k hk)
  · exact (hb.frozen (p := ⟨b, k, none⟩) hs).trans (h.free k)
theorem Sums.drew {W wr : World} {b n : Nat} {g : Nat → Int} (h : Sums W wr b n g) (q : Nat) : Sums W (wr.drewN q) b n g :=
  ⟨drewN_le h.below q, h.size, h.cells, h.free⟩
set_option maxHeartbeats 1000000 in
theorem renderCheck_any (x y : Int) (A : Option Addr) (n cap : Nat) (w : World) :
    Calls Try.prog 55 #[.agg #[.int .i64 x, .int .i64 y, .slice A n cap]] w fun e w' => e = .returned (.int .i64 (gridE x y n)) ∧ w.alloc (.cells #[.int .i64 x, .int .i64 y, .slice A n cap] 39) = w' := by
  by_cases hs : inB x 1 1024 = true ∧ inB y 1 1024 = true
  · obtain ⟨h1, h2⟩ := hs
    have h1' := inB_iff.1 h1
    have h2' := inB_iff.1 h2
    have hm := mul_1024 h1' h2'
    have H : Hid (gridE x y n = if (n : Int) ≠ x * y then 4 else 0) := by show gridE x y n = _; rw [gridE, if_neg (by simp [h1, h2])]
    clear h1 h2
    by_cases hxy : (n : Int) = x * y
    · have hd : ((n : Int) != x * y) = false := by simpa using hxy
      go_enter Try.func55, Try.ntmps55
      go_wp2_with fail
      go_ret
      exact ⟨ret_int (by rw [H.out, if_neg (by simpa using hxy)]), rfl⟩
    · have hd : ((n : Int) != x * y) = true := by simpa using hxy
      go_enter Try.func55, Try.ntmps55
      go_wp2_with fail
      go_ret
      exact ⟨ret_int (by rw [H.out, if_pos (by simpa using hxy)]), rfl⟩
  · have H : Hid (gridE x y n = 3) := by show gridE x y n = 3; rw [gridE, if_pos hs]
    have hs' : ¬((1 ≤ x ∧ x ≤ 1024) ∧ (1 ≤ y ∧ y ≤ 1024)) := by
      intro h; exact hs ⟨inB_yes h.1, inB_yes h.2⟩
    clear hs
    by_cases h1 : x < 1 <;> by_cases h2 : 1024 < x <;> by_cases h3 : y < 1 <;> by_cases h4 : 1024 < y
    all_goals
      first
      | omega
      | (clear hs'
         go_enter Try.func55, Try.ntmps55
         go_wp2_with fail
         go_ret
         exact ⟨ret_int H.out.symm, rfl⟩)
set_option maxHeartbeats 1000000 in
theorem PlateCheck_any (x y : Int) (A : Option Addr) (n cap : Nat) (w : World) :
    Calls Try.prog 21 #[.agg #[.int .i64 x, .int .i64 y, .slice A n cap]] w fun e w' => e = .returned (.int .i64 (gridE x y n)) ∧ w.alloc (.cells #[.int .i64 x, .int .i64 y, .slice A n cap] 39) = w' := by
  by_cases hs : inB x 1 1024 = true ∧ inB y 1 1024 = true
  · obtain ⟨h1, h2⟩ := hs
    have h1' := inB_iff.1 h1
    have h2' := inB_iff.1 h2
    have hm := mul_1024 h1' h2'
    have H : Hid (gridE x y n = if (n : Int) ≠ x * y then 4 else 0) := by show gridE x y n = _; rw [gridE, if_neg (by simp [h1, h2])]
    by_cases hxy : (n : Int) = x * y
    · have hd : ((n : Int) != x * y) = false := by simpa using hxy
      go_enter Try.func21, Try.ntmps21
      go_wp2_with (first | (go_at_call 22; refine (In_any _ _ _ _).mono ?_; rintro e w' ⟨rfl, rfl⟩))
      go_ret
      exact ⟨ret_int (by rw [H.out, if_neg (by simpa using hxy)]), rfl⟩
    · have hd : ((n : Int) != x * y) = true := by simpa using hxy
      go_enter Try.func21, Try.ntmps21
      go_wp2_with (first | (go_at_call 22; refine (In_any _ _ _ _).mono ?_; rintro e w' ⟨rfl, rfl⟩))
      go_ret
      exact ⟨ret_int (by rw [H.out, if_pos (by simpa using hxy)]), rfl⟩
  · have H : Hid (gridE x y n = 3) := by show gridE x y n = 3; rw [gridE, if_pos hs]
    by_cases hx : inB x 1 1024 = true
    · have hy : inB y 1 1024 = false := by simpa [hx] using hs
      clear hs
      go_enter Try.func21, Try.ntmps21
      go_wp2_with (first | (go_at_call 22; refine (In_any _ _ _ _).mono ?_; rintro e w' ⟨rfl, rfl⟩))
      go_ret
      exact ⟨ret_int H.out.symm, rfl⟩
    · have hx : inB x 1 1024 = false := by simpa using hx
      clear hs
      go_enter Try.func21, Try.ntmps21
      go_wp2_with (first | (go_at_call 22; refine (In_any _ _ _ _).mono ?_; rintro e w' ⟨rfl, rfl⟩))
      go_ret
      exact ⟨ret_int H.out.symm, rfl⟩
end Go.Proofs.Ytoiblpncofbdpaa
