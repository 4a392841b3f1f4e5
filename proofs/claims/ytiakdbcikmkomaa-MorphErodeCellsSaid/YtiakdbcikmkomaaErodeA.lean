/-
  The reference's around.
-/
import Derived.Test.YtiakdbcikmkomaaErodeR
namespace Go.Proofs.Ytiakdbcikmkomaa
open Go.RowKit
set_option linter.unusedVariables false
set_option maxRecDepth 20000
theorem In_gives (x a b : Int) (G : Mem) (v : Bool) (hv : v = true ↔ a ≤ x ∧ x ≤ b) : Gives Try.prog 22 [.val (.int .i64 x), .val (.int .i64 a), .val (.int .i64 b)] G (.val (.bool v)) := by
  have hv' : v = decide (a ≤ x ∧ x ≤ b) := by
    cases v
    · exact (decide_eq_false fun h => by simpa using hv.2 h).symm
    · exact (decide_eq_true (hv.1 rfl)).symm
  rw [hv']
  refine Gives_of tab_ok Try.func22 ?_
  by_cases h1 : a ≤ x
  · (repeat ((try (conv => whnf)); (first | (with_reducible first | refine condP_true ?_ | refine condP_false ?_ | refine condP_not ?_ | refine condP_and ?_) | ((with_reducible refine condP_dt ?_ ?_); (· omega)) | ((with_reducible refine condP_df ?_ ?_); (· omega)) | ((with_reducible refine condP_yes ?_ ?_); (· assumption)) | ((with_reducible refine condP_no ?_ ?_); (· assumption)) | ((with_reducible refine ArP_i64 ?_ ?_); (· omega)) | ((with_reducible refine mustP.mk ?_ ?_); (· first | omega | rfl | (dsimp only; omega))) | (with_reducible first | refine EqP_nil tab_ok ?_ | refine EqP_sli tab_ok ?_ | refine DrawP_auto tab_ok (by kernel_rfl) (by decide +kernel) ?_ | refine DrawP_auto2 tab_ok (by kernel_rfl) (by decide +kernel) ?_ | refine eq34 ?_ | refine eq68 ?_))))
    exact ⟨by simp [h1], rfl⟩
  · (repeat ((try (conv => whnf)); (first | (with_reducible first | refine condP_true ?_ | refine condP_false ?_ | refine condP_not ?_ | refine condP_and ?_) | ((with_reducible refine condP_dt ?_ ?_); (· omega)) | ((with_reducible refine condP_df ?_ ?_); (· omega)) | ((with_reducible refine condP_yes ?_ ?_); (· assumption)) | ((with_reducible refine condP_no ?_ ?_); (· assumption)) | ((with_reducible refine ArP_i64 ?_ ?_); (· omega)) | ((with_reducible refine mustP.mk ?_ ?_); (· first | omega | rfl | (dsimp only; omega))) | (with_reducible first | refine EqP_nil tab_ok ?_ | refine EqP_sli tab_ok ?_ | refine DrawP_auto tab_ok (by kernel_rfl) (by decide +kernel) ?_ | refine DrawP_auto2 tab_ok (by kernel_rfl) (by decide +kernel) ?_ | refine eq34 ?_ | refine eq68 ?_))))
    exact ⟨by simp [h1], rfl⟩
set_option maxHeartbeats 4000000 in
theorem around_gives (A : Option Addr) (L : List Run) (cap : Nat) (x y w : Int) (G : Mem) (hA : RunsM G A L) (hl : L.length ≤ 1000000000000) (hw : 0 ≤ w) (hw2 : w ≤ 64) (hx : -100000 ≤ x ∧ x ≤ 100000) (hy : -100000 ≤ y ∧ y ≤ 100000) (b : Bool) (hb : b = true ↔ cellE w L x y) : Gives Try.prog 26 [.val (.slice A L.length cap), .val (.int .i64 x), .val (.int .i64 y), .val (.int .i64 w)] G (.val (.bool b)) := by
  refine Gives_of tab_ok Try.func26 ?_
  (repeat ((try (conv => whnf)); (first | (with_reducible first | refine condP_true ?_ | refine condP_false ?_ | refine condP_not ?_ | refine condP_and ?_) | ((with_reducible refine condP_dt ?_ ?_); (· omega)) | ((with_reducible refine condP_df ?_ ?_); (· omega)) | ((with_reducible refine condP_yes ?_ ?_); (· assumption)) | ((with_reducible refine condP_no ?_ ?_); (· assumption)) | ((with_reducible refine ArP_i64 ?_ ?_); (· omega)) | ((with_reducible refine mustP.mk ?_ ?_); (· first | omega | rfl | (dsimp only; omega))) | (with_reducible first | refine EqP_nil tab_ok ?_ | refine EqP_sli tab_ok ?_ | refine DrawP_auto tab_ok (by kernel_rfl) (by decide +kernel) ?_ | refine DrawP_auto2 tab_ok (by kernel_rfl) (by decide +kernel) ?_ | refine eq34 ?_ | refine eq68 ?_))))
  conv => whnf
  refine LoopP_at tab_ok (fun (k : Nat) => (k : Int) ≤ 2 * w + 1 ∧ ∀ e : Int, -w ≤ e → e < -w + k → ∃ r ∈ L, r.y = y + e ∧ r.x0 + w ≤ x ∧ x < r.x1 - w) (fun (k : Nat) => [(9, .val (.int .i64 (y - w + k)))]) (fun k => []) (fun k => (2 * w + 1 - k).toNat) 0 ⟨by omega, fun e h1 h2 => by omega⟩ ?_ ?_
  · conv => whnf
    ((refine Le_head ?_); (conv => whnf); (refine Le_mk (by rfl) (by rfl) ?_ ?_); (· (repeat (first | (with_reducible exact frLe_nil) | (with_reducible first | refine frLe_any ?_ | refine frLe_val ?_) | ((with_reducible refine frLe_eq rfl ?_ ?_); (· rfl)) | ((with_reducible refine frLe_val' (int_eq ?_) ?_ ?_); (· omega); (· rfl)) | ((with_reducible refine frLe_val' (int_eq ?_) ?_ ?_); (· simp only [Int.natCast_add, Int.natCast_one, Int.natCast_ofNat] <;> omega); (· rfl)) | ((with_reducible refine frLe_val' (bool_eq ?_) ?_ ?_); (· first | assumption | (symm; assumption)); (· rfl))))))
    exact hpLe_nil
  · rintro k ⟨hk, hall⟩
    by_cases h1 : (k : Int) = 2 * w + 1
    · have hbt : b = true := hb.2 fun e e1 e2 => hall e e1 (by omega)
      subst hbt
      (repeat ((try (conv => whnf)); (first | (with_reducible first | refine condP_true ?_ | refine condP_false ?_ | refine condP_not ?_ | refine condP_and ?_) | ((with_reducible refine condP_dt ?_ ?_); (· omega)) | ((with_reducible refine condP_df ?_ ?_); (· omega)) | ((with_reducible refine condP_yes ?_ ?_); (· assumption)) | ((with_reducible refine condP_no ?_ ?_); (· assumption)) | ((with_reducible refine ArP_i64 ?_ ?_); (· omega)) | ((with_reducible refine mustP.mk ?_ ?_); (· first | omega | rfl | (dsimp only; omega))) | (with_reducible first | refine EqP_nil tab_ok ?_ | refine EqP_sli tab_ok ?_ | refine DrawP_auto tab_ok (by kernel_rfl) (by decide +kernel) ?_ | refine DrawP_auto2 tab_ok (by kernel_rfl) (by decide +kernel) ?_ | refine eq34 ?_ | refine eq68 ?_))))
      exact ⟨rfl, rfl⟩
    · (repeat ((try (conv => whnf)); (first | (with_reducible first | refine condP_true ?_ | refine condP_false ?_ | refine condP_not ?_ | refine condP_and ?_) | ((with_reducible refine condP_dt ?_ ?_); (· omega)) | ((with_reducible refine condP_df ?_ ?_); (· omega)) | ((with_reducible refine condP_yes ?_ ?_); (· assumption)) | ((with_reducible refine condP_no ?_ ?_); (· assumption)) | ((with_reducible refine ArP_i64 ?_ ?_); (· omega)) | ((with_reducible refine mustP.mk ?_ ?_); (· first | omega | rfl | (dsimp only; omega))) | (with_reducible first | refine EqP_nil tab_ok ?_ | refine EqP_sli tab_ok ?_ | refine DrawP_auto tab_ok (by kernel_rfl) (by decide +kernel) ?_ | refine DrawP_auto2 tab_ok (by kernel_rfl) (by decide +kernel) ?_ | refine eq34 ?_ | refine eq68 ?_))))
      conv => whnf
      refine LoopP_at2 tab_ok (fun (i : Nat) (v : Bool) => i ≤ L.length ∧ (v = true ↔ ∃ (j : Nat) (r : Run), j < i ∧ L[j]? = some r ∧ r.y = y - w + k ∧ r.x0 + w ≤ x ∧ x < r.x1 - w)) (fun i v => [(24, .val (.int .i64 i)), (10, .val (.bool v))]) (fun i v => []) (fun i v => L.length - i) 0 false ⟨Nat.zero_le _, ⟨(fun h => by cases h), fun ⟨j, r, h, _⟩ => by omega⟩⟩ ?_ ?_
      · conv => whnf
        ((refine Le_head ?_); (conv => whnf); (refine Le_mk (by rfl) (by rfl) ?_ ?_); (· (repeat (first | (with_reducible exact frLe_nil) | (with_reducible first | refine frLe_any ?_ | refine frLe_val ?_) | ((with_reducible refine frLe_eq rfl ?_ ?_); (· rfl)) | ((with_reducible refine frLe_val' (int_eq ?_) ?_ ?_); (· omega); (· rfl)) | ((with_reducible refine frLe_val' (int_eq ?_) ?_ ?_); (· simp only [Int.natCast_add, Int.natCast_one, Int.natCast_ofNat] <;> omega); (· rfl)) | ((with_reducible refine frLe_val' (bool_eq ?_) ?_ ?_); (· first | assumption | (symm; assumption)); (· rfl))))))
        exact hpLe_nil
      · rintro i v ⟨hi, hv⟩
        rcases Nat.lt_or_ge i L.length with h2 | h2
        · obtain ⟨r, hr⟩ : ∃ r, L[i]? = some r := ⟨L[i], List.getElem?_eq_getElem h2⟩
          obtain ⟨p, rfl, c0, c1, c2⟩ := hA.at_ hr
          have yes : r.y = y - w + k ∧ r.x0 + w ≤ x ∧ x < r.x1 - w → (true = true ↔ ∃ (j : Nat) (r : Run), j < i + 1 ∧ L[j]? = some r ∧ r.y = y - w + k ∧ r.x0 + w ≤ x ∧ x < r.x1 - w) := fun h => ⟨fun _ => ⟨i, r, by omega, hr, h⟩, fun _ => rfl⟩
          have stay : v = true → (true = true ↔ ∃ (j : Nat) (r : Run), j < i + 1 ∧ L[j]? = some r ∧ r.y = y - w + k ∧ r.x0 + w ≤ x ∧ x < r.x1 - w) := fun h => ⟨fun _ => by
            obtain ⟨j, q, g1, g2⟩ := hv.1 h
            exact ⟨j, q, by omega, g2⟩, fun _ => rfl⟩
          have no : v = false → ¬ (r.y = y - w + k ∧ r.x0 + w ≤ x ∧ x < r.x1 - w) → (false = true ↔ ∃ (j : Nat) (r : Run), j < i + 1 ∧ L[j]? = some r ∧ r.y = y - w + k ∧ r.x0 + w ≤ x ∧ x < r.x1 - w) := fun h h' => ⟨(fun h => by cases h), fun ⟨j, q, g1, g2, g3⟩ => by
            by_cases hj : j = i
            · subst hj; rw [hr] at g2; cases g2; exact absurd g3 h'
            · have := hv.2 ⟨j, q, by omega, g2, g3⟩
              rw [h] at this; cases this⟩
          clear hv hall hb
          cases v
          · by_cases e1 : r.y = y - w + k
            · by_cases e2 : r.x0 + w ≤ x
              · have both : (decide (x + w < r.x1) = true ↔ ∃ (j : Nat) (r : Run), j < i + 1 ∧ L[j]? = some r ∧ r.y = y - w + k ∧ r.x0 + w ≤ x ∧ x < r.x1 - w) := by
                  by_cases e3 : x < r.x1 - w
                  · rw [decide_eq_true (by omega : x + w < r.x1)]; exact yes ⟨e1, e2, e3⟩
                  · rw [decide_eq_false (by omega : ¬ x + w < r.x1)]; exact no rfl fun h => e3 h.2.2
                (repeat ((try (conv => whnf)); (first | (refine OldCells_one _ c0 ?_) | (refine OldCells_one _ c1 ?_) | (refine OldCells_one _ c2 ?_) | (with_reducible first | refine condP_true ?_ | refine condP_false ?_ | refine condP_not ?_ | refine condP_and ?_) | ((with_reducible refine condP_dt ?_ ?_); (· omega)) | ((with_reducible refine condP_df ?_ ?_); (· omega)) | ((with_reducible refine condP_yes ?_ ?_); (· assumption)) | ((with_reducible refine condP_no ?_ ?_); (· assumption)) | ((with_reducible refine ArP_i64 ?_ ?_); (· omega)) | ((with_reducible refine mustP.mk ?_ ?_); (· first | omega | rfl | (dsimp only; omega))) | (with_reducible first | refine EqP_nil tab_ok ?_ | refine EqP_sli tab_ok ?_ | refine DrawP_auto tab_ok (by kernel_rfl) (by decide +kernel) ?_ | refine DrawP_auto2 tab_ok (by kernel_rfl) (by decide +kernel) ?_ | refine eq34 ?_ | refine eq68 ?_))))
                refine ⟨i + 1, decide (x + w < r.x1), ⟨by omega, both⟩, by omega, ?_⟩
                ((refine Le_head ?_); (conv => whnf); (refine Le_mk (by rfl) (by rfl) ?_ ?_); (· (repeat (first | (with_reducible exact frLe_nil) | (with_reducible first | refine frLe_any ?_ | refine frLe_val ?_) | ((with_reducible refine frLe_eq rfl ?_ ?_); (· rfl)) | ((with_reducible refine frLe_val' (int_eq ?_) ?_ ?_); (· omega); (· rfl)) | ((with_reducible refine frLe_val' (int_eq ?_) ?_ ?_); (· simp only [Int.natCast_add, Int.natCast_one, Int.natCast_ofNat] <;> omega); (· rfl)) | ((with_reducible refine frLe_val' (bool_eq ?_) ?_ ?_); (· first | assumption | (symm; assumption)); (· rfl))))))
                exact hpLe_nil
              · (repeat ((try (conv => whnf)); (first | (refine OldCells_one _ c0 ?_) | (refine OldCells_one _ c1 ?_) | (refine OldCells_one _ c2 ?_) | (with_reducible first | refine condP_true ?_ | refine condP_false ?_ | refine condP_not ?_ | refine condP_and ?_) | ((with_reducible refine condP_dt ?_ ?_); (· omega)) | ((with_reducible refine condP_df ?_ ?_); (· omega)) | ((with_reducible refine condP_yes ?_ ?_); (· assumption)) | ((with_reducible refine condP_no ?_ ?_); (· assumption)) | ((with_reducible refine ArP_i64 ?_ ?_); (· omega)) | ((with_reducible refine mustP.mk ?_ ?_); (· first | omega | rfl | (dsimp only; omega))) | (with_reducible first | refine EqP_nil tab_ok ?_ | refine EqP_sli tab_ok ?_ | refine DrawP_auto tab_ok (by kernel_rfl) (by decide +kernel) ?_ | refine DrawP_auto2 tab_ok (by kernel_rfl) (by decide +kernel) ?_ | refine eq34 ?_ | refine eq68 ?_))))
                refine ⟨i + 1, false, ⟨by omega, no rfl fun h => e2 h.2.1⟩, by omega, ?_⟩
                ((refine Le_head ?_); (conv => whnf); (refine Le_mk (by rfl) (by rfl) ?_ ?_); (· (repeat (first | (with_reducible exact frLe_nil) | (with_reducible first | refine frLe_any ?_ | refine frLe_val ?_) | ((with_reducible refine frLe_eq rfl ?_ ?_); (· rfl)) | ((with_reducible refine frLe_val' (int_eq ?_) ?_ ?_); (· omega); (· rfl)) | ((with_reducible refine frLe_val' (int_eq ?_) ?_ ?_); (· simp only [Int.natCast_add, Int.natCast_one, Int.natCast_ofNat] <;> omega); (· rfl)) | ((with_reducible refine frLe_val' (bool_eq ?_) ?_ ?_); (· first | assumption | (symm; assumption)); (· rfl))))))
                exact hpLe_nil
            · (repeat ((try (conv => whnf)); (first | (refine OldCells_one _ c0 ?_) | (refine OldCells_one _ c1 ?_) | (refine OldCells_one _ c2 ?_) | (with_reducible first | refine condP_true ?_ | refine condP_false ?_ | refine condP_not ?_ | refine condP_and ?_) | ((with_reducible refine condP_dt ?_ ?_); (· omega)) | ((with_reducible refine condP_df ?_ ?_); (· omega)) | ((with_reducible refine condP_yes ?_ ?_); (· assumption)) | ((with_reducible refine condP_no ?_ ?_); (· assumption)) | ((with_reducible refine ArP_i64 ?_ ?_); (· omega)) | ((with_reducible refine mustP.mk ?_ ?_); (· first | omega | rfl | (dsimp only; omega))) | (with_reducible first | refine EqP_nil tab_ok ?_ | refine EqP_sli tab_ok ?_ | refine DrawP_auto tab_ok (by kernel_rfl) (by decide +kernel) ?_ | refine DrawP_auto2 tab_ok (by kernel_rfl) (by decide +kernel) ?_ | refine eq34 ?_ | refine eq68 ?_))))
              refine ⟨i + 1, false, ⟨by omega, no rfl fun h => e1 h.1⟩, by omega, ?_⟩
              ((refine Le_head ?_); (conv => whnf); (refine Le_mk (by rfl) (by rfl) ?_ ?_); (· (repeat (first | (with_reducible exact frLe_nil) | (with_reducible first | refine frLe_any ?_ | refine frLe_val ?_) | ((with_reducible refine frLe_eq rfl ?_ ?_); (· rfl)) | ((with_reducible refine frLe_val' (int_eq ?_) ?_ ?_); (· omega); (· rfl)) | ((with_reducible refine frLe_val' (int_eq ?_) ?_ ?_); (· simp only [Int.natCast_add, Int.natCast_one, Int.natCast_ofNat] <;> omega); (· rfl)) | ((with_reducible refine frLe_val' (bool_eq ?_) ?_ ?_); (· first | assumption | (symm; assumption)); (· rfl))))))
              exact hpLe_nil
          · (repeat ((try (conv => whnf)); (first | (refine OldCells_one _ c0 ?_) | (refine OldCells_one _ c1 ?_) | (refine OldCells_one _ c2 ?_) | (with_reducible first | refine condP_true ?_ | refine condP_false ?_ | refine condP_not ?_ | refine condP_and ?_) | ((with_reducible refine condP_dt ?_ ?_); (· omega)) | ((with_reducible refine condP_df ?_ ?_); (· omega)) | ((with_reducible refine condP_yes ?_ ?_); (· assumption)) | ((with_reducible refine condP_no ?_ ?_); (· assumption)) | ((with_reducible refine ArP_i64 ?_ ?_); (· omega)) | ((with_reducible refine mustP.mk ?_ ?_); (· first | omega | rfl | (dsimp only; omega))) | (with_reducible first | refine EqP_nil tab_ok ?_ | refine EqP_sli tab_ok ?_ | refine DrawP_auto tab_ok (by kernel_rfl) (by decide +kernel) ?_ | refine DrawP_auto2 tab_ok (by kernel_rfl) (by decide +kernel) ?_ | refine eq34 ?_ | refine eq68 ?_))))
            refine ⟨i + 1, true, ⟨by omega, stay rfl⟩, by omega, ?_⟩
            ((refine Le_head ?_); (conv => whnf); (refine Le_mk (by rfl) (by rfl) ?_ ?_); (· (repeat (first | (with_reducible exact frLe_nil) | (with_reducible first | refine frLe_any ?_ | refine frLe_val ?_) | ((with_reducible refine frLe_eq rfl ?_ ?_); (· rfl)) | ((with_reducible refine frLe_val' (int_eq ?_) ?_ ?_); (· omega); (· rfl)) | ((with_reducible refine frLe_val' (int_eq ?_) ?_ ?_); (· simp only [Int.natCast_add, Int.natCast_one, Int.natCast_ofNat] <;> omega); (· rfl)) | ((with_reducible refine frLe_val' (bool_eq ?_) ?_ ?_); (· first | assumption | (symm; assumption)); (· rfl))))))
            exact hpLe_nil
        · have hie : i = L.length := by omega
          subst hie
          cases v
          · have hbf : b = false := by
              cases hbb : b with
              | false => rfl
              | true =>
                obtain ⟨r, hr, r1, r2, r3⟩ := hb.1 hbb (-w + k) (by omega) (by omega)
                obtain ⟨j, hj⟩ := List.getElem?_of_mem hr
                have := hv.2 ⟨j, r, (List.getElem?_eq_some_iff.1 hj).1, hj, by omega, r2, r3⟩
                cases this
            subst hbf
            clear hv hb hall
            (repeat ((try (conv => whnf)); (first | (with_reducible first | refine condP_true ?_ | refine condP_false ?_ | refine condP_not ?_ | refine condP_and ?_) | ((with_reducible refine condP_dt ?_ ?_); (· omega)) | ((with_reducible refine condP_df ?_ ?_); (· omega)) | ((with_reducible refine condP_yes ?_ ?_); (· assumption)) | ((with_reducible refine condP_no ?_ ?_); (· assumption)) | ((with_reducible refine ArP_i64 ?_ ?_); (· omega)) | ((with_reducible refine mustP.mk ?_ ?_); (· first | omega | rfl | (dsimp only; omega))) | (with_reducible first | refine EqP_nil tab_ok ?_ | refine EqP_sli tab_ok ?_ | refine DrawP_auto tab_ok (by kernel_rfl) (by decide +kernel) ?_ | refine DrawP_auto2 tab_ok (by kernel_rfl) (by decide +kernel) ?_ | refine eq34 ?_ | refine eq68 ?_))))
            exact ⟨rfl, rfl⟩
          · have hnext : ∀ e : Int, -w ≤ e → e < -w + ((k + 1 : Nat) : Int) → ∃ r ∈ L, r.y = y + e ∧ r.x0 + w ≤ x ∧ x < r.x1 - w := fun e e1 e2 => by
              by_cases he : e = -w + k
              · obtain ⟨j, r, g1, g2, g3, g4⟩ := hv.1 rfl
                exact ⟨r, List.mem_of_getElem? g2, by omega, g4⟩
              · exact hall e e1 (by push_cast at e2; omega)
            clear hv hall
            (repeat ((try (conv => whnf)); (first | (with_reducible first | refine condP_true ?_ | refine condP_false ?_ | refine condP_not ?_ | refine condP_and ?_) | ((with_reducible refine condP_dt ?_ ?_); (· omega)) | ((with_reducible refine condP_df ?_ ?_); (· omega)) | ((with_reducible refine condP_yes ?_ ?_); (· assumption)) | ((with_reducible refine condP_no ?_ ?_); (· assumption)) | ((with_reducible refine ArP_i64 ?_ ?_); (· omega)) | ((with_reducible refine mustP.mk ?_ ?_); (· first | omega | rfl | (dsimp only; omega))) | (with_reducible first | refine EqP_nil tab_ok ?_ | refine EqP_sli tab_ok ?_ | refine DrawP_auto tab_ok (by kernel_rfl) (by decide +kernel) ?_ | refine DrawP_auto2 tab_ok (by kernel_rfl) (by decide +kernel) ?_ | refine eq34 ?_ | refine eq68 ?_))))
            refine ⟨k + 1, ⟨by push_cast; omega, hnext⟩, by push_cast; omega, ?_⟩
            conv => whnf
            ((refine Le_head ?_); (conv => whnf); (refine Le_mk (by rfl) (by rfl) ?_ ?_); (· (repeat (first | (with_reducible exact frLe_nil) | (with_reducible first | refine frLe_any ?_ | refine frLe_val ?_) | ((with_reducible refine frLe_eq rfl ?_ ?_); (· rfl)) | ((with_reducible refine frLe_val' (int_eq ?_) ?_ ?_); (· omega); (· rfl)) | ((with_reducible refine frLe_val' (int_eq ?_) ?_ ?_); (· simp only [Int.natCast_add, Int.natCast_one, Int.natCast_ofNat] <;> omega); (· rfl)) | ((with_reducible refine frLe_val' (bool_eq ?_) ?_ ?_); (· first | assumption | (symm; assumption)); (· rfl))))))
            exact hpLe_nil
end Go.Proofs.Ytiakdbcikmkomaa
