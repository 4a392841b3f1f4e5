/-
  Merged: XJoinCmp, XFm.
-/
import Derived.Sort.Grow
import Derived.Deep.Draws
import Derived.Test.YtbkhpddodmbdoaaMrg7
import Derived.Test.YtbkhpddodmbdoaaShelf
import Derived.Test.YtbkhpddodmbdoaaMrg5
import Derived.Test.YtbkhpddodmbdoaaMrg10
import Derived.Test.YtbkhpddodmbdoaaMrg8
namespace Go.Proofs.Ytbkhpddodmbdoaa
open Go.RowKit Go.Shelf Go.Lib Go.Sort
set_option linter.unusedVariables false
set_option maxRecDepth 20000
set_option maxHeartbeats 2000000 in
theorem or_exact (b : Nat) (a c : Int) (W : World) (h0 : W.cell? ⟨b, 0, none⟩ = some (.int .i64 a)) (h1 : W.cell? ⟨b, 1, none⟩ = some (.int .i64 c)) :
    Calls Try.prog 42 #[.slice (some ⟨b, 0, none⟩) 2 2] W fun e w' => e = .returned (.int .i64 (orI a c)) ∧ ∃ q, w' = W.drewN q := by
  go_enter Try.func42, Try.ntmps42
  by_cases ha : a = 0
  · subst ha
    go_wp2
    refine wp_loop_rounds 3 ?_
    rw [rounds_succ]
    go_wp2
    repeat any_goals (rw [rounds_succ]; go_wp2)
    all_goals go_ret
    all_goals ((try have hc : c = 0 := by simpa using ‹(c != 0) = false›); (try subst hc); exact ⟨by simp [orI], 0, rfl⟩)
  · go_wp2
    refine wp_loop_rounds 3 ?_
    rw [rounds_succ]
    go_wp2
    repeat any_goals (rw [rounds_succ]; go_wp2)
    all_goals go_ret
    all_goals exact ⟨by simp [orI, ha], 0, rfl⟩
/-- A run whose numbers are far from the ends. -/
structure BRun where
  r : Run
  hy : -1152921504606846976 ≤ r.y ∧ r.y ≤ 1152921504606846976
  hx : -1152921504606846976 ≤ r.x0 ∧ r.x0 ≤ 1152921504606846976
instance : Inhabited BRun := ⟨⟨⟨0, 0, 0⟩, by simp, by simp⟩⟩
def encB (r : BRun) : List Value := [.int .i64 r.r.y, .int .i64 r.r.x0, .int .i64 r.r.x1]
def cmpB (r s : BRun) : Int := orI (r.r.y - s.r.y) (r.r.x0 - s.r.x0)
set_option maxHeartbeats 2000000 in
theorem cmp_runs (x y : BRun) (W : World) : Calls Try.prog 83 #[.agg (encB x).toArray, .agg (encB y).toArray] W fun e w' => e = .returned (.int .i64 (cmpB x y)) ∧ ∃ q os', w' = grow (W.drewN q) os' := by
  obtain ⟨⟨a, b, c⟩, h1, h2⟩ := x
  obtain ⟨⟨d, e, f⟩, h3, h4⟩ := y
  simp only at h1 h2 h3 h4
  have hcon := fun k W' h h' => or_exact k (a - d) (b - e) W' h h'
  simp only [cmpB, encB]
  generalize hr : orI (a - d) (b - e) = r at hcon
  have w1 : IntKind.i64.wrap (a - d) = a - d := IntWalk.i64_in _ (by omega)
  have w2 : IntKind.i64.wrap (b - e) = b - e := IntWalk.i64_in _ (by omega)
  show Calls Try.prog 83 #[.agg #[.int .i64 a, .int .i64 b, .int .i64 c], .agg #[.int .i64 d, .int .i64 e, .int .i64 f]] W _
  go_enter Try.func83, Try.ntmps83
  go_wp2_with (go_at_call 42; refine (hcon _ _ (by go_simp) (by go_simp)).mono ?_; rintro e w' ⟨rfl, q, rfl⟩)
  go_ret
  exact ⟨rfl, q, _, by rw [alloc_eq_grow, alloc_eq_grow, alloc_eq_grow, grow_grow, grow_grow]; rfl⟩
end Go.Proofs.Ytbkhpddodmbdoaa

namespace Go.Proofs.Ytbkhpddodmbdoaa
open Go.RowKit
set_option linter.unusedVariables false
set_option linter.unusedSimpArgs false
section
variable {α : Type} {enc : α → List Value} {k : Nat}
theorem fm_length (hk : ∀ x, (enc x).length = k) : ∀ (l : List α), (l.flatMap enc).length = l.length * k
  | [] => by simp
  | a :: l => by rw [List.flatMap_cons, List.length_append, hk, fm_length hk l, List.length_cons, Nat.add_mul]; omega
theorem fm_get (hk : ∀ x, (enc x).length = k) : ∀ (l : List α) (i j : Nat) (x : α), l[i]? = some x → j < k → (l.flatMap enc)[i * k + j]? = (enc x)[j]?
  | [], i, j, x, h, _ => by simp at h
  | a :: l, 0, j, x, h, hj => by
    simp at h; subst h
    rw [List.flatMap_cons, Nat.zero_mul, Nat.zero_add, List.getElem?_append_left (by rw [hk]; exact hj)]
  | a :: l, i + 1, j, x, h, hj => by
    rw [List.flatMap_cons, List.getElem?_append_right (by rw [hk, Nat.add_mul]; omega), hk]
    rw [show (i + 1) * k + j - k = i * k + j by rw [Nat.add_mul]; omega]
    exact fm_get hk l i j x (by simpa using h) hj
end
end Go.Proofs.Ytbkhpddodmbdoaa
