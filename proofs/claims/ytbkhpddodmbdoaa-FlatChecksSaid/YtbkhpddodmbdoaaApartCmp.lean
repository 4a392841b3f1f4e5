/-
  flat.apart's comparison, in the world's own words.
-/
import Derived.Test.YtbkhpddodmbdoaaMrg11
import Derived.Test.YtbkhpddodmbdoaaSort
import Derived.Test.YtbkhpddodmbdoaaApartLaw
namespace Go.Proofs.Ytbkhpddodmbdoaa
open Go.RowKit Go.Shelf Go.Lib Go.Sort
set_option linter.unusedVariables false
set_option maxRecDepth 20000
def or3 (a b c : Int) : Int := if a ≠ 0 then a else if b ≠ 0 then b else c
set_option maxHeartbeats 2000000 in
theorem or3_exact (b : Nat) (a c d : Int) (W : World) (h0 : W.cell? ⟨b, 0, none⟩ = some (.int .i64 a)) (h1 : W.cell? ⟨b, 1, none⟩ = some (.int .i64 c)) (h2 : W.cell? ⟨b, 2, none⟩ = some (.int .i64 d)) :
    Calls Try.prog 42 #[.slice (some ⟨b, 0, none⟩) 3 3] W fun e w' => e = .returned (.int .i64 (or3 a c d)) ∧ ∃ q, w' = W.drewN q := by
  go_enter Try.func42, Try.ntmps42
  by_cases ha : a = 0
  · subst ha
    by_cases hc : c = 0
    · subst hc
      go_wp2
      refine wp_loop_rounds 4 ?_
      rw [rounds_succ]
      go_wp2
      repeat any_goals (rw [rounds_succ]; go_wp2)
      all_goals go_ret
      all_goals ((try have hc : d = 0 := by simpa using ‹(d != 0) = false›); (try subst hc); exact ⟨by simp [or3], 0, rfl⟩)
    · go_wp2
      refine wp_loop_rounds 4 ?_
      rw [rounds_succ]
      go_wp2
      repeat any_goals (rw [rounds_succ]; go_wp2)
      all_goals go_ret
      all_goals exact ⟨by simp [or3, hc], 0, rfl⟩
  · go_wp2
    refine wp_loop_rounds 4 ?_
    rw [rounds_succ]
    go_wp2
    repeat any_goals (rw [rounds_succ]; go_wp2)
    all_goals go_ret
    all_goals exact ⟨by simp [or3, ha], 0, rfl⟩
def encO (r : Ow) : List Value := [.int .i64 r.r.y, .int .i64 r.r.x0, .int .i64 r.r.x1, .int .i64 r.p]
def cmpO (r s : Ow) : Int := or3 (r.r.y - s.r.y) (r.r.x0 - s.r.x0) (r.p - s.p)
set_option maxHeartbeats 2000000 in
theorem cmp_owned (x y : Ow) (W : World) : Calls Try.prog 41 #[.agg (encO x).toArray, .agg (encO y).toArray] W fun e w' => e = .returned (.int .i64 (cmpO x y)) ∧ ∃ q os', w' = grow (W.drewN q) os' := by
  obtain ⟨⟨a, b, c⟩, p, h1, h2, h5⟩ := x
  obtain ⟨⟨d, e, f⟩, s, h3, h4, h6⟩ := y
  simp only at h1 h2 h3 h4
  have hcon := fun k W' h h' h'' => or3_exact k (a - d) (b - e) (p - s) W' h h' h''
  simp only [cmpO, encO]
  generalize hr : or3 (a - d) (b - e) (p - s) = r at hcon
  have w1 : IntKind.i64.wrap (a - d) = a - d := IntWalk.i64_in _ (by omega)
  have w2 : IntKind.i64.wrap (b - e) = b - e := IntWalk.i64_in _ (by omega)
  have w3 : IntKind.i64.wrap (p - s) = p - s := IntWalk.i64_in _ (by omega)
  show Calls Try.prog 41 #[.agg #[.int .i64 a, .int .i64 b, .int .i64 c, .int .i64 p], .agg #[.int .i64 d, .int .i64 e, .int .i64 f, .int .i64 s]] W _
  go_enter Try.func41, Try.ntmps41
  go_wp2_with (go_at_call 42; refine (hcon _ _ (by go_simp) (by go_simp) (by go_simp)).mono ?_; rintro e w' ⟨rfl, q, rfl⟩)
  go_ret
  exact ⟨rfl, q, _, by rw [alloc_eq_grow, alloc_eq_grow, alloc_eq_grow, grow_grow, grow_grow]; rfl⟩
theorem lt_cmpO {a b : Ow} : ltOf cmpO b a = false ↔ leO a b := by
  unfold ltOf cmpO leO or3
  rw [decide_eq_false_iff_not]
  split <;> (try split) <;> omega
theorem swo_cmpO : SWO (ltOf cmpO) where
  irrefl x := by rw [lt_cmpO]; unfold leO; omega
  trans x y z h1 h2 := by
    rw [← Bool.not_eq_false] at *
    rw [lt_cmpO] at *
    unfold leO at *; omega
  ntrans x y z h1 h2 := by rw [lt_cmpO] at *; unfold leO at *; omega
end Go.Proofs.Ytbkhpddodmbdoaa
