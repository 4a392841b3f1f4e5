/-
  The contracts of tally's Sum, Zones and Tiles.
-/
import Derived.Test.YtoiblpncofbdpaaTallyF
namespace Go.Proofs.Ytoiblpncofbdpaa
open Go.RowKit

theorem gridE_cases (x y : Int) (n : Nat) : (gridE x y n = 0 ∧ (1 ≤ x ∧ x ≤ 1024) ∧ (1 ≤ y ∧ y ≤ 1024) ∧ (n : Int) = x * y) ∨ (gridE x y n = 3 ∨ gridE x y n = 4) := by
  unfold gridE
  split
  · exact .inr (.inl rfl)
  · rename_i h
    have h' : inB x 1 1024 = true ∧ inB y 1 1024 = true := by
      cases h1 : inB x 1 1024 <;> cases h2 : inB y 1 1024 <;> simp_all
    split
    · exact .inr (.inr rfl)
    · rename_i h3
      exact .inl ⟨rfl, inB_iff.1 h'.1, inB_iff.1 h'.2, by simpa using h3⟩
theorem sums_err (F : FuncId) (caps : Array Value) (x y N : Int) (A : Option Addr) (n cap : Nat) (w : World) (er : Int) (he : gridE x y n = er) (h0 : er = 3 ∨ er = 4) :
    Calls Try.prog 53 #[.agg #[.int .i64 x, .int .i64 y, .slice A n cap], .int .i64 N, .func (.func F) #[] caps] w fun e w' => e = .returned (.tuple #[.slice none 0 0, .int .i64 er]) ∧ Below w.heap.size w w' := by
  have HE : Hid _ := he
  clear he
  rcases h0 with rfl | rfl
  all_goals
    go_enter Try.func53, Try.ntmps53
    go_wp2_with fail
    refine (renderCheck_any x y A n cap _).mono ?_
    rw [HE.out]
    rintro e w' ⟨rfl, rfl⟩
    go_wp2_with fail
    go_ret2
    exact ⟨rfl, by (repeat' (with_reducible first | exact Below.refl _ _ | refine past_le ?_ ?_ _ | refine Below.alloc ?_ ?_ _ | refine Below.drew ?_ | refine drewN_le ?_ _ | refine Below.setCell ?_ ?_ _ | refine step_le (by assumption) ?_ ?_ | omega | (simp only []; omega) | (simp only [World.size_alloc]; omega) | (simp only [World.size_setCell]; omega) | (simp only [World.size_drew]; omega) | (simp only [World.size_alloc, World.size_setCell]; omega) | (simp only [World.size_alloc, World.size_drew]; omega) | (simp only [World.size_setCell, World.size_drew]; omega) | (simp only [World.size_alloc, World.size_setCell, World.size_drew]; omega)))⟩
theorem sumC_any (x y : Int) (w : World) :
    Calls Try.prog 54 #[.int .i64 x, .int .i64 y] w fun e w' => e = .returned (.int .i64 0) ∧ w = w' := by
  go_enter Try.func54, Try.ntmps54
  go_wp2_with fail
  go_ret
  exact ⟨rfl, rfl⟩
set_option maxRecDepth 20000 in
theorem zonesC_any (x y n W H pn pp : Nat) (v : Value) (w : World) (hx : x < W) (hW : 1 ≤ W ∧ W ≤ 1024) (hn : 1 ≤ n ∧ n ≤ 64) (hpn : ∀ o, w.cell? ⟨pn, o, none⟩ = #[Value.int .i64 n][o]?) (hpp : ∀ o, w.cell? ⟨pp, o, none⟩ = #[Value.int .i64 W, .int .i64 H, v][o]?) :
    Calls Try.prog 56 #[.int .i64 x, .int .i64 y, .pointer (some ⟨pn, 0, none⟩), .pointer (some ⟨pp, 0, none⟩)] w fun e w' => e = .returned (.int .i64 (x * n / W : Nat)) ∧ ∃ q, w' = w.drewN q := by
  have hxn : x * n ≤ 65536 := Nat.mul_le_mul (show x ≤ 1024 by omega) hn.2
  have e1 : (x : Int) * n = ((x * n : Nat) : Int) := by simp
  generalize x * n = q at *
  have e2 : (q : Int).tdiv W = ((q / W : Nat) : Int) := by rw [Int.tdiv_eq_ediv_of_nonneg (by omega)]; simp
  have e3 : q / W ≤ q := Nat.div_le_self _ _
  generalize q / W = r at *
  go_enter Try.func56, Try.ntmps56
  go_wp2_with fail
  go_ret
  exact ⟨rfl, 0, rfl⟩
set_option maxRecDepth 20000 in
theorem tilesC_any (x y a b c ph pa pw : Nat) (w : World) (hx : x ≤ 1024) (hy : y ≤ 1024) (ha : 1 ≤ a ∧ a ≤ 1024) (hb : b ≤ 1024) (hc : 1 ≤ c ∧ c ≤ 1024) (hph : ∀ o, w.cell? ⟨ph, o, none⟩ = #[Value.int .i64 a][o]?) (hpa : ∀ o, w.cell? ⟨pa, o, none⟩ = #[Value.int .i64 b][o]?) (hpw : ∀ o, w.cell? ⟨pw, o, none⟩ = #[Value.int .i64 c][o]?) :
    Calls Try.prog 57 #[.int .i64 x, .int .i64 y, .pointer (some ⟨ph, 0, none⟩), .pointer (some ⟨pa, 0, none⟩), .pointer (some ⟨pw, 0, none⟩)] w fun e w' => e = .returned (.int .i64 (y / a * b + x / c : Nat)) ∧ ∃ q, w' = w.drewN q := by
  have e2 : (y : Int).tdiv a = ((y / a : Nat) : Int) := by rw [Int.tdiv_eq_ediv_of_nonneg (by omega)]; simp
  have e3 : y / a ≤ y := Nat.div_le_self _ _
  generalize y / a = r at *
  have hm : r * b ≤ 1048576 := Nat.mul_le_mul (show r ≤ 1024 by omega) hb
  have e1 : (r : Int) * b = ((r * b : Nat) : Int) := by simp
  generalize r * b = q at *
  have e4 : (x : Int).tdiv c = ((x / c : Nat) : Int) := by rw [Int.tdiv_eq_ediv_of_nonneg (by omega)]; simp
  have e5 : x / c ≤ x := Nat.div_le_self _ _
  generalize x / c = s at *
  go_enter Try.func57, Try.ntmps57
  go_wp2_with fail
  go_quiet (fail)
  go_wp2_with fail
  go_ret
  exact ⟨by simp, _, rfl⟩
theorem callF (F : FuncId) (h : (Try.prog.funcs[F]?.any fun fn => !(fn.name == "runtime.NumGoroutine") && !fn.body.isNone) = true) : ∀ args w, (callFunc F args).run Try.prog w = .ok (.enter F args) w := by
  intro args w
  cases hF : Try.prog.funcs[F]? with
  | none => simp [hF] at h
  | some fn =>
    simp [hF] at h
    have h1 : ¬ fn.name = "runtime.NumGoroutine" := h.1
    have h2 : ¬ fn.body = none := by have := h.2; cases hb : fn.body <;> simp_all
    unfold callFunc
    simp [go_sem, hF]
    rw [if_neg h1, if_neg h2]
theorem callSum : ∀ args w, (callFunc 54 args).run Try.prog w = .ok (.enter 54 args) w := callF _ (by kernel_rfl)
theorem callZones : ∀ args w, (callFunc 56 args).run Try.prog w = .ok (.enter 56 args) w := callF _ (by kernel_rfl)
theorem callTiles : ∀ args w, (callFunc 57 args).run Try.prog w = .ok (.enter 57 args) w := callF _ (by kernel_rfl)
end Go.Proofs.Ytoiblpncofbdpaa
