/-
  Merged: XRegRef, XMixed2.
-/
import Derived.Test.YtiakdbcikmkomaaMrg8
import Derived.Test.YtiakdbcikmkomaaMrg9
namespace Go.Proofs.Ytiakdbcikmkomaa
open Go.RowKit
set_option linter.unusedVariables false
set_option maxRecDepth 20000
theorem RunsM.frozen {G : Mem} {A : Option Addr} {L : List Run} (h : flatR L = [] ∨ ∃ b, A = some ⟨b, 0, none⟩ ∧ ∀ (j : Nat) u, (flatR L)[j]? = some u → G.cell? ⟨b, j, none⟩ = some u) : RunsM G A L := fun i r hr => by
  obtain ⟨h1, h2, h3⟩ := flatR_get hr
  rcases h with h | ⟨b, rfl, h⟩
  · rw [h] at h1; simp at h1
  · exact ⟨b, 0, rfl, by rw [Nat.zero_add]; exact h _ _ h1, by rw [Nat.zero_add]; exact h _ _ h2, by rw [Nat.zero_add]; exact h _ _ h3⟩
def inR (r : Run) (x y : Int) : Bool := decide (r.y = y ∧ r.x0 ≤ x ∧ x < r.x1)
def hasL (L : List Run) (x y : Int) : Bool := L.any fun r => inR r x y
theorem hasL_iff {L : List Run} {x y : Int} : hasL L x y = true ↔ hasR L x y := by simp [hasL, hasR, inR]
theorem hasL_runs {rs : Nat → Run} {n : Nat} {x y : Int} : hasL (runsL rs n) x y = hasB rs n x y := by
  cases h : hasB rs n x y with
  | true => exact hasL_iff.2 (hasB_iff.1 h)
  | false =>
    cases h2 : hasL (runsL rs n) x y with
    | false => rfl
    | true => rw [hasB_iff.2 (hasL_iff.1 h2)] at h; cases h
theorem hasL_none {L : List Run} {x y : Int} (h : ∀ (i : Nat) r, L[i]? = some r → inR r x y = false) : hasL L x y = false := by
  cases h2 : hasL L x y with
  | false => rfl
  | true =>
    obtain ⟨r, h3, h4⟩ := List.any_eq_true.1 h2
    obtain ⟨i, hi⟩ := List.mem_iff_getElem?.1 h3
    rw [h i r hi] at h4; cases h4
theorem hasL_some {L : List Run} {x y : Int} {i : Nat} {r : Run} (h : L[i]? = some r) (h2 : inR r x y = true) : hasL L x y = true := List.any_eq_true.2 ⟨r, List.mem_of_getElem? h, h2⟩
set_option maxHeartbeats 1000000 in
theorem Has_gives (A : Option Addr) (L : List Run) (cap : Nat) (x y : Int) (G : Mem) (hR : RunsM G A L) (hl : L.length ≤ 1000000000000) : Gives Try.prog 31 [.val (.slice A L.length cap), .val (.int .i64 x), .val (.int .i64 y)] G (.val (.bool (hasL L x y))) := by
  refine Gives_of tab_ok Try.func31 ?_
  (repeat ((try (conv => whnf)); (first | (with_reducible first | refine condP_true ?_ | refine condP_false ?_ | refine condP_not ?_ | refine condP_and ?_) | ((with_reducible refine condP_dt ?_ ?_); (· omega)) | ((with_reducible refine condP_df ?_ ?_); (· omega)) | ((with_reducible refine condP_yes ?_ ?_); (· assumption)) | ((with_reducible refine condP_no ?_ ?_); (· assumption)) | ((with_reducible refine ArP_i64 ?_ ?_); (· omega)) | ((with_reducible refine mustP.mk ?_ ?_); (· first | omega | rfl | (dsimp only; omega))) | (with_reducible first | refine EqP_nil tab_ok ?_ | refine EqP_sli tab_ok ?_ | refine DrawP_auto tab_ok (by kernel_rfl) (by decide +kernel) ?_ | refine DrawP_auto2 tab_ok (by kernel_rfl) (by decide +kernel) ?_ | refine eq34 ?_ | refine eq68 ?_))))
  conv => whnf
  refine LoopP_at tab_ok (fun i => i ≤ L.length ∧ ∀ (j : Nat) r, j < i → L[j]? = some r → inR r x y = false) (fun (i : Nat) => [(10, .val (.int .i64 i))]) (fun i => []) (fun i => L.length - i) 0 ⟨Nat.zero_le _, fun j z hj => by omega⟩ ?_ ?_
  · ((refine Le_head ?_); (conv => whnf); (refine Le_mk (by rfl) (by rfl) ?_ ?_); (· (repeat (first | (with_reducible exact frLe_nil) | (with_reducible first | refine frLe_any ?_ | refine frLe_val ?_) | ((with_reducible refine frLe_eq rfl ?_ ?_); (· rfl)) | ((with_reducible refine frLe_val' (int_eq ?_) ?_ ?_); (· omega); (· rfl)) | ((with_reducible refine frLe_val' (int_eq ?_) ?_ ?_); (· simp only [Int.natCast_add, Int.natCast_one, Int.natCast_ofNat] <;> omega); (· rfl)) | ((with_reducible refine frLe_val' (bool_eq ?_) ?_ ?_); (· first | assumption | (symm; assumption)); (· rfl))))))
    exact hpLe_nil
  · rintro i ⟨hi, hno⟩
    rcases Nat.lt_or_ge i L.length with h1 | h1
    · obtain ⟨r, hr⟩ : ∃ r, L[i]? = some r := ⟨L[i], List.getElem?_eq_getElem h1⟩
      obtain ⟨p, rfl, c0, c1, c2⟩ := hR.at_ hr
      have next : inR r x y = false → ∀ (j : Nat) q, j < i + 1 → L[j]? = some q → inR q x y = false := fun h j q hj hq => by
        rcases Nat.lt_or_ge j i with h2 | h2
        · exact hno j q h2 hq
        · have : j = i := by omega
          subst this; rw [hr] at hq; cases hq; exact h
      by_cases e1 : r.y = y
      · by_cases e2 : r.x0 ≤ x
        · by_cases e3 : x < r.x1
          · (repeat ((try (conv => whnf)); (first | (with_reducible first | refine condP_true ?_ | refine condP_false ?_ | refine condP_not ?_ | refine condP_and ?_) | ((with_reducible refine condP_dt ?_ ?_); (· omega)) | ((with_reducible refine condP_df ?_ ?_); (· omega)) | ((with_reducible refine condP_yes ?_ ?_); (· assumption)) | ((with_reducible refine condP_no ?_ ?_); (· assumption)) | ((with_reducible refine ArP_i64 ?_ ?_); (· omega)) | ((with_reducible refine mustP.mk ?_ ?_); (· first | omega | rfl | (dsimp only; omega))) | (with_reducible first | refine EqP_nil tab_ok ?_ | refine EqP_sli tab_ok ?_ | refine DrawP_auto tab_ok (by kernel_rfl) (by decide +kernel) ?_ | refine DrawP_auto2 tab_ok (by kernel_rfl) (by decide +kernel) ?_ | refine eq34 ?_ | refine eq68 ?_))))
            conv => whnf
            refine OldCells_one _ c0 ?_
            (repeat ((try (conv => whnf)); (first | (with_reducible first | refine condP_true ?_ | refine condP_false ?_ | refine condP_not ?_ | refine condP_and ?_) | ((with_reducible refine condP_dt ?_ ?_); (· omega)) | ((with_reducible refine condP_df ?_ ?_); (· omega)) | ((with_reducible refine condP_yes ?_ ?_); (· assumption)) | ((with_reducible refine condP_no ?_ ?_); (· assumption)) | ((with_reducible refine ArP_i64 ?_ ?_); (· omega)) | ((with_reducible refine mustP.mk ?_ ?_); (· first | omega | rfl | (dsimp only; omega))) | (with_reducible first | refine EqP_nil tab_ok ?_ | refine EqP_sli tab_ok ?_ | refine DrawP_auto tab_ok (by kernel_rfl) (by decide +kernel) ?_ | refine DrawP_auto2 tab_ok (by kernel_rfl) (by decide +kernel) ?_ | refine eq34 ?_ | refine eq68 ?_))))
            conv => whnf
            refine OldCells_one _ c1 ?_
            (repeat ((try (conv => whnf)); (first | (with_reducible first | refine condP_true ?_ | refine condP_false ?_ | refine condP_not ?_ | refine condP_and ?_) | ((with_reducible refine condP_dt ?_ ?_); (· omega)) | ((with_reducible refine condP_df ?_ ?_); (· omega)) | ((with_reducible refine condP_yes ?_ ?_); (· assumption)) | ((with_reducible refine condP_no ?_ ?_); (· assumption)) | ((with_reducible refine ArP_i64 ?_ ?_); (· omega)) | ((with_reducible refine mustP.mk ?_ ?_); (· first | omega | rfl | (dsimp only; omega))) | (with_reducible first | refine EqP_nil tab_ok ?_ | refine EqP_sli tab_ok ?_ | refine DrawP_auto tab_ok (by kernel_rfl) (by decide +kernel) ?_ | refine DrawP_auto2 tab_ok (by kernel_rfl) (by decide +kernel) ?_ | refine eq34 ?_ | refine eq68 ?_))))
            conv => whnf
            refine OldCells_one _ c2 ?_
            (repeat ((try (conv => whnf)); (first | (with_reducible first | refine condP_true ?_ | refine condP_false ?_ | refine condP_not ?_ | refine condP_and ?_) | ((with_reducible refine condP_dt ?_ ?_); (· omega)) | ((with_reducible refine condP_df ?_ ?_); (· omega)) | ((with_reducible refine condP_yes ?_ ?_); (· assumption)) | ((with_reducible refine condP_no ?_ ?_); (· assumption)) | ((with_reducible refine ArP_i64 ?_ ?_); (· omega)) | ((with_reducible refine mustP.mk ?_ ?_); (· first | omega | rfl | (dsimp only; omega))) | (with_reducible first | refine EqP_nil tab_ok ?_ | refine EqP_sli tab_ok ?_ | refine DrawP_auto tab_ok (by kernel_rfl) (by decide +kernel) ?_ | refine DrawP_auto2 tab_ok (by kernel_rfl) (by decide +kernel) ?_ | refine eq34 ?_ | refine eq68 ?_))))
            exact ⟨by rw [hasL_some hr (by simp [inR]; omega)], rfl⟩
          · (repeat ((try (conv => whnf)); (first | (with_reducible first | refine condP_true ?_ | refine condP_false ?_ | refine condP_not ?_ | refine condP_and ?_) | ((with_reducible refine condP_dt ?_ ?_); (· omega)) | ((with_reducible refine condP_df ?_ ?_); (· omega)) | ((with_reducible refine condP_yes ?_ ?_); (· assumption)) | ((with_reducible refine condP_no ?_ ?_); (· assumption)) | ((with_reducible refine ArP_i64 ?_ ?_); (· omega)) | ((with_reducible refine mustP.mk ?_ ?_); (· first | omega | rfl | (dsimp only; omega))) | (with_reducible first | refine EqP_nil tab_ok ?_ | refine EqP_sli tab_ok ?_ | refine DrawP_auto tab_ok (by kernel_rfl) (by decide +kernel) ?_ | refine DrawP_auto2 tab_ok (by kernel_rfl) (by decide +kernel) ?_ | refine eq34 ?_ | refine eq68 ?_))))
            conv => whnf
            refine OldCells_one _ c0 ?_
            (repeat ((try (conv => whnf)); (first | (with_reducible first | refine condP_true ?_ | refine condP_false ?_ | refine condP_not ?_ | refine condP_and ?_) | ((with_reducible refine condP_dt ?_ ?_); (· omega)) | ((with_reducible refine condP_df ?_ ?_); (· omega)) | ((with_reducible refine condP_yes ?_ ?_); (· assumption)) | ((with_reducible refine condP_no ?_ ?_); (· assumption)) | ((with_reducible refine ArP_i64 ?_ ?_); (· omega)) | ((with_reducible refine mustP.mk ?_ ?_); (· first | omega | rfl | (dsimp only; omega))) | (with_reducible first | refine EqP_nil tab_ok ?_ | refine EqP_sli tab_ok ?_ | refine DrawP_auto tab_ok (by kernel_rfl) (by decide +kernel) ?_ | refine DrawP_auto2 tab_ok (by kernel_rfl) (by decide +kernel) ?_ | refine eq34 ?_ | refine eq68 ?_))))
            conv => whnf
            refine OldCells_one _ c1 ?_
            (repeat ((try (conv => whnf)); (first | (with_reducible first | refine condP_true ?_ | refine condP_false ?_ | refine condP_not ?_ | refine condP_and ?_) | ((with_reducible refine condP_dt ?_ ?_); (· omega)) | ((with_reducible refine condP_df ?_ ?_); (· omega)) | ((with_reducible refine condP_yes ?_ ?_); (· assumption)) | ((with_reducible refine condP_no ?_ ?_); (· assumption)) | ((with_reducible refine ArP_i64 ?_ ?_); (· omega)) | ((with_reducible refine mustP.mk ?_ ?_); (· first | omega | rfl | (dsimp only; omega))) | (with_reducible first | refine EqP_nil tab_ok ?_ | refine EqP_sli tab_ok ?_ | refine DrawP_auto tab_ok (by kernel_rfl) (by decide +kernel) ?_ | refine DrawP_auto2 tab_ok (by kernel_rfl) (by decide +kernel) ?_ | refine eq34 ?_ | refine eq68 ?_))))
            conv => whnf
            refine OldCells_one _ c2 ?_
            (repeat ((try (conv => whnf)); (first | (with_reducible first | refine condP_true ?_ | refine condP_false ?_ | refine condP_not ?_ | refine condP_and ?_) | ((with_reducible refine condP_dt ?_ ?_); (· omega)) | ((with_reducible refine condP_df ?_ ?_); (· omega)) | ((with_reducible refine condP_yes ?_ ?_); (· assumption)) | ((with_reducible refine condP_no ?_ ?_); (· assumption)) | ((with_reducible refine ArP_i64 ?_ ?_); (· omega)) | ((with_reducible refine mustP.mk ?_ ?_); (· first | omega | rfl | (dsimp only; omega))) | (with_reducible first | refine EqP_nil tab_ok ?_ | refine EqP_sli tab_ok ?_ | refine DrawP_auto tab_ok (by kernel_rfl) (by decide +kernel) ?_ | refine DrawP_auto2 tab_ok (by kernel_rfl) (by decide +kernel) ?_ | refine eq34 ?_ | refine eq68 ?_))))
            refine ⟨i + 1, ⟨by omega, next (by simp [inR]; omega)⟩, by omega, ?_⟩
            ((refine Le_head ?_); (conv => whnf); (refine Le_mk (by rfl) (by rfl) ?_ ?_); (· (repeat (first | (with_reducible exact frLe_nil) | (with_reducible first | refine frLe_any ?_ | refine frLe_val ?_) | ((with_reducible refine frLe_eq rfl ?_ ?_); (· rfl)) | ((with_reducible refine frLe_val' (int_eq ?_) ?_ ?_); (· omega); (· rfl)) | ((with_reducible refine frLe_val' (int_eq ?_) ?_ ?_); (· simp only [Int.natCast_add, Int.natCast_one, Int.natCast_ofNat] <;> omega); (· rfl)) | ((with_reducible refine frLe_val' (bool_eq ?_) ?_ ?_); (· first | assumption | (symm; assumption)); (· rfl))))))
            exact hpLe_nil
        · (repeat ((try (conv => whnf)); (first | (with_reducible first | refine condP_true ?_ | refine condP_false ?_ | refine condP_not ?_ | refine condP_and ?_) | ((with_reducible refine condP_dt ?_ ?_); (· omega)) | ((with_reducible refine condP_df ?_ ?_); (· omega)) | ((with_reducible refine condP_yes ?_ ?_); (· assumption)) | ((with_reducible refine condP_no ?_ ?_); (· assumption)) | ((with_reducible refine ArP_i64 ?_ ?_); (· omega)) | ((with_reducible refine mustP.mk ?_ ?_); (· first | omega | rfl | (dsimp only; omega))) | (with_reducible first | refine EqP_nil tab_ok ?_ | refine EqP_sli tab_ok ?_ | refine DrawP_auto tab_ok (by kernel_rfl) (by decide +kernel) ?_ | refine DrawP_auto2 tab_ok (by kernel_rfl) (by decide +kernel) ?_ | refine eq34 ?_ | refine eq68 ?_))))
          conv => whnf
          refine OldCells_one _ c0 ?_
          (repeat ((try (conv => whnf)); (first | (with_reducible first | refine condP_true ?_ | refine condP_false ?_ | refine condP_not ?_ | refine condP_and ?_) | ((with_reducible refine condP_dt ?_ ?_); (· omega)) | ((with_reducible refine condP_df ?_ ?_); (· omega)) | ((with_reducible refine condP_yes ?_ ?_); (· assumption)) | ((with_reducible refine condP_no ?_ ?_); (· assumption)) | ((with_reducible refine ArP_i64 ?_ ?_); (· omega)) | ((with_reducible refine mustP.mk ?_ ?_); (· first | omega | rfl | (dsimp only; omega))) | (with_reducible first | refine EqP_nil tab_ok ?_ | refine EqP_sli tab_ok ?_ | refine DrawP_auto tab_ok (by kernel_rfl) (by decide +kernel) ?_ | refine DrawP_auto2 tab_ok (by kernel_rfl) (by decide +kernel) ?_ | refine eq34 ?_ | refine eq68 ?_))))
          conv => whnf
          refine OldCells_one _ c1 ?_
          (repeat ((try (conv => whnf)); (first | (with_reducible first | refine condP_true ?_ | refine condP_false ?_ | refine condP_not ?_ | refine condP_and ?_) | ((with_reducible refine condP_dt ?_ ?_); (· omega)) | ((with_reducible refine condP_df ?_ ?_); (· omega)) | ((with_reducible refine condP_yes ?_ ?_); (· assumption)) | ((with_reducible refine condP_no ?_ ?_); (· assumption)) | ((with_reducible refine ArP_i64 ?_ ?_); (· omega)) | ((with_reducible refine mustP.mk ?_ ?_); (· first | omega | rfl | (dsimp only; omega))) | (with_reducible first | refine EqP_nil tab_ok ?_ | refine EqP_sli tab_ok ?_ | refine DrawP_auto tab_ok (by kernel_rfl) (by decide +kernel) ?_ | refine DrawP_auto2 tab_ok (by kernel_rfl) (by decide +kernel) ?_ | refine eq34 ?_ | refine eq68 ?_))))
          refine ⟨i + 1, ⟨by omega, next (by simp [inR]; omega)⟩, by omega, ?_⟩
          ((refine Le_head ?_); (conv => whnf); (refine Le_mk (by rfl) (by rfl) ?_ ?_); (· (repeat (first | (with_reducible exact frLe_nil) | (with_reducible first | refine frLe_any ?_ | refine frLe_val ?_) | ((with_reducible refine frLe_eq rfl ?_ ?_); (· rfl)) | ((with_reducible refine frLe_val' (int_eq ?_) ?_ ?_); (· omega); (· rfl)) | ((with_reducible refine frLe_val' (int_eq ?_) ?_ ?_); (· simp only [Int.natCast_add, Int.natCast_one, Int.natCast_ofNat] <;> omega); (· rfl)) | ((with_reducible refine frLe_val' (bool_eq ?_) ?_ ?_); (· first | assumption | (symm; assumption)); (· rfl))))))
          exact hpLe_nil
      · (repeat ((try (conv => whnf)); (first | (with_reducible first | refine condP_true ?_ | refine condP_false ?_ | refine condP_not ?_ | refine condP_and ?_) | ((with_reducible refine condP_dt ?_ ?_); (· omega)) | ((with_reducible refine condP_df ?_ ?_); (· omega)) | ((with_reducible refine condP_yes ?_ ?_); (· assumption)) | ((with_reducible refine condP_no ?_ ?_); (· assumption)) | ((with_reducible refine ArP_i64 ?_ ?_); (· omega)) | ((with_reducible refine mustP.mk ?_ ?_); (· first | omega | rfl | (dsimp only; omega))) | (with_reducible first | refine EqP_nil tab_ok ?_ | refine EqP_sli tab_ok ?_ | refine DrawP_auto tab_ok (by kernel_rfl) (by decide +kernel) ?_ | refine DrawP_auto2 tab_ok (by kernel_rfl) (by decide +kernel) ?_ | refine eq34 ?_ | refine eq68 ?_))))
        conv => whnf
        refine OldCells_one _ c0 ?_
        (repeat ((try (conv => whnf)); (first | (with_reducible first | refine condP_true ?_ | refine condP_false ?_ | refine condP_not ?_ | refine condP_and ?_) | ((with_reducible refine condP_dt ?_ ?_); (· omega)) | ((with_reducible refine condP_df ?_ ?_); (· omega)) | ((with_reducible refine condP_yes ?_ ?_); (· assumption)) | ((with_reducible refine condP_no ?_ ?_); (· assumption)) | ((with_reducible refine ArP_i64 ?_ ?_); (· omega)) | ((with_reducible refine mustP.mk ?_ ?_); (· first | omega | rfl | (dsimp only; omega))) | (with_reducible first | refine EqP_nil tab_ok ?_ | refine EqP_sli tab_ok ?_ | refine DrawP_auto tab_ok (by kernel_rfl) (by decide +kernel) ?_ | refine DrawP_auto2 tab_ok (by kernel_rfl) (by decide +kernel) ?_ | refine eq34 ?_ | refine eq68 ?_))))
        refine ⟨i + 1, ⟨by omega, next (by simp [inR, e1])⟩, by omega, ?_⟩
        ((refine Le_head ?_); (conv => whnf); (refine Le_mk (by rfl) (by rfl) ?_ ?_); (· (repeat (first | (with_reducible exact frLe_nil) | (with_reducible first | refine frLe_any ?_ | refine frLe_val ?_) | ((with_reducible refine frLe_eq rfl ?_ ?_); (· rfl)) | ((with_reducible refine frLe_val' (int_eq ?_) ?_ ?_); (· omega); (· rfl)) | ((with_reducible refine frLe_val' (int_eq ?_) ?_ ?_); (· simp only [Int.natCast_add, Int.natCast_one, Int.natCast_ofNat] <;> omega); (· rfl)) | ((with_reducible refine frLe_val' (bool_eq ?_) ?_ ?_); (· first | assumption | (symm; assumption)); (· rfl))))))
        exact hpLe_nil
    · (repeat ((try (conv => whnf)); (first | (with_reducible first | refine condP_true ?_ | refine condP_false ?_ | refine condP_not ?_ | refine condP_and ?_) | ((with_reducible refine condP_dt ?_ ?_); (· omega)) | ((with_reducible refine condP_df ?_ ?_); (· omega)) | ((with_reducible refine condP_yes ?_ ?_); (· assumption)) | ((with_reducible refine condP_no ?_ ?_); (· assumption)) | ((with_reducible refine ArP_i64 ?_ ?_); (· omega)) | ((with_reducible refine mustP.mk ?_ ?_); (· first | omega | rfl | (dsimp only; omega))) | (with_reducible first | refine EqP_nil tab_ok ?_ | refine EqP_sli tab_ok ?_ | refine DrawP_auto tab_ok (by kernel_rfl) (by decide +kernel) ?_ | refine DrawP_auto2 tab_ok (by kernel_rfl) (by decide +kernel) ?_ | refine eq34 ?_ | refine eq68 ?_))))
      exact ⟨by rw [hasL_none fun j r hr => hno j r (by have := (List.getElem?_eq_some_iff.1 hr).1; omega) hr], rfl⟩
set_option maxHeartbeats 1000000 in
theorem SameRuns_gives (A B : Option Addr) (L : List Run) (c d : Nat) (G : Mem) (hA : RunsM G A L) (hB : RunsM G B L) (hl : L.length ≤ 1000000000000) : Gives Try.prog 11 [.val (.slice A L.length c), .val (.slice B L.length d)] G (.val (.bool true)) := by
  refine Gives_of tab_ok Try.func11 ?_
  (repeat ((try (conv => whnf)); (first | (with_reducible first | refine condP_true ?_ | refine condP_false ?_ | refine condP_not ?_ | refine condP_and ?_) | ((with_reducible refine condP_dt ?_ ?_); (· omega)) | ((with_reducible refine condP_df ?_ ?_); (· omega)) | ((with_reducible refine condP_yes ?_ ?_); (· assumption)) | ((with_reducible refine condP_no ?_ ?_); (· assumption)) | ((with_reducible refine ArP_i64 ?_ ?_); (· omega)) | ((with_reducible refine mustP.mk ?_ ?_); (· first | omega | rfl | (dsimp only; omega))) | (with_reducible first | refine EqP_nil tab_ok ?_ | refine EqP_sli tab_ok ?_ | refine DrawP_auto tab_ok (by kernel_rfl) (by decide +kernel) ?_ | refine DrawP_auto2 tab_ok (by kernel_rfl) (by decide +kernel) ?_ | refine eq34 ?_ | refine eq68 ?_))))
  conv => whnf
  refine LoopP_at tab_ok (fun i => i ≤ L.length) (fun (i : Nat) => [(13, .val (.int .i64 i))]) (fun i => []) (fun i => L.length - i) 0 (Nat.zero_le _) ?_ ?_
  · ((refine Le_head ?_); (conv => whnf); (refine Le_mk (by rfl) (by rfl) ?_ ?_); (· (repeat (first | (with_reducible exact frLe_nil) | (with_reducible first | refine frLe_any ?_ | refine frLe_val ?_) | ((with_reducible refine frLe_eq rfl ?_ ?_); (· rfl)) | ((with_reducible refine frLe_val' (int_eq ?_) ?_ ?_); (· omega); (· rfl)) | ((with_reducible refine frLe_val' (int_eq ?_) ?_ ?_); (· simp only [Int.natCast_add, Int.natCast_one, Int.natCast_ofNat] <;> omega); (· rfl)) | ((with_reducible refine frLe_val' (bool_eq ?_) ?_ ?_); (· first | assumption | (symm; assumption)); (· rfl))))))
    exact hpLe_nil
  · rintro i hi
    rcases Nat.lt_or_ge i L.length with h1 | h1
    · obtain ⟨r, hr⟩ : ∃ r, L[i]? = some r := ⟨L[i], List.getElem?_eq_getElem h1⟩
      obtain ⟨p, rfl, ca⟩ := hA.cells hr
      obtain ⟨q, rfl, cb⟩ := hB.cells hr
      (repeat ((try (conv => whnf)); (first | (with_reducible first | refine condP_true ?_ | refine condP_false ?_ | refine condP_not ?_ | refine condP_and ?_) | ((with_reducible refine condP_dt ?_ ?_); (· omega)) | ((with_reducible refine condP_df ?_ ?_); (· omega)) | ((with_reducible refine condP_yes ?_ ?_); (· assumption)) | ((with_reducible refine condP_no ?_ ?_); (· assumption)) | ((with_reducible refine ArP_i64 ?_ ?_); (· omega)) | ((with_reducible refine mustP.mk ?_ ?_); (· first | omega | rfl | (dsimp only; omega))) | (with_reducible first | refine EqP_nil tab_ok ?_ | refine EqP_sli tab_ok ?_ | refine DrawP_auto tab_ok (by kernel_rfl) (by decide +kernel) ?_ | refine DrawP_auto2 tab_ok (by kernel_rfl) (by decide +kernel) ?_ | refine eq34 ?_ | refine eq68 ?_))))
      conv => whnf
      refine ca _ ?_
      (repeat ((try (conv => whnf)); (first | (with_reducible first | refine condP_true ?_ | refine condP_false ?_ | refine condP_not ?_ | refine condP_and ?_) | ((with_reducible refine condP_dt ?_ ?_); (· omega)) | ((with_reducible refine condP_df ?_ ?_); (· omega)) | ((with_reducible refine condP_yes ?_ ?_); (· assumption)) | ((with_reducible refine condP_no ?_ ?_); (· assumption)) | ((with_reducible refine ArP_i64 ?_ ?_); (· omega)) | ((with_reducible refine mustP.mk ?_ ?_); (· first | omega | rfl | (dsimp only; omega))) | (with_reducible first | refine EqP_nil tab_ok ?_ | refine EqP_sli tab_ok ?_ | refine DrawP_auto tab_ok (by kernel_rfl) (by decide +kernel) ?_ | refine DrawP_auto2 tab_ok (by kernel_rfl) (by decide +kernel) ?_ | refine eq34 ?_ | refine eq68 ?_))))
      conv => whnf
      refine cb _ ?_
      (repeat ((try (conv => whnf)); (first | (with_reducible first | refine condP_true ?_ | refine condP_false ?_ | refine condP_not ?_ | refine condP_and ?_) | ((with_reducible refine condP_dt ?_ ?_); (· omega)) | ((with_reducible refine condP_df ?_ ?_); (· omega)) | ((with_reducible refine condP_yes ?_ ?_); (· assumption)) | ((with_reducible refine condP_no ?_ ?_); (· assumption)) | ((with_reducible refine ArP_i64 ?_ ?_); (· omega)) | ((with_reducible refine mustP.mk ?_ ?_); (· first | omega | rfl | (dsimp only; omega))) | (with_reducible first | refine EqP_nil tab_ok ?_ | refine EqP_sli tab_ok ?_ | refine DrawP_auto tab_ok (by kernel_rfl) (by decide +kernel) ?_ | refine DrawP_auto2 tab_ok (by kernel_rfl) (by decide +kernel) ?_ | refine eq34 ?_ | refine eq68 ?_))))
      refine ⟨i + 1, by omega, by omega, ?_⟩
      ((refine Le_head ?_); (conv => whnf); (refine Le_mk (by rfl) (by rfl) ?_ ?_); (· (repeat (first | (with_reducible exact frLe_nil) | (with_reducible first | refine frLe_any ?_ | refine frLe_val ?_) | ((with_reducible refine frLe_eq rfl ?_ ?_); (· rfl)) | ((with_reducible refine frLe_val' (int_eq ?_) ?_ ?_); (· omega); (· rfl)) | ((with_reducible refine frLe_val' (int_eq ?_) ?_ ?_); (· simp only [Int.natCast_add, Int.natCast_one, Int.natCast_ofNat] <;> omega); (· rfl)) | ((with_reducible refine frLe_val' (bool_eq ?_) ?_ ?_); (· first | assumption | (symm; assumption)); (· rfl))))))
      exact hpLe_nil
    · (repeat ((try (conv => whnf)); (first | (with_reducible first | refine condP_true ?_ | refine condP_false ?_ | refine condP_not ?_ | refine condP_and ?_) | ((with_reducible refine condP_dt ?_ ?_); (· omega)) | ((with_reducible refine condP_df ?_ ?_); (· omega)) | ((with_reducible refine condP_yes ?_ ?_); (· assumption)) | ((with_reducible refine condP_no ?_ ?_); (· assumption)) | ((with_reducible refine ArP_i64 ?_ ?_); (· omega)) | ((with_reducible refine mustP.mk ?_ ?_); (· first | omega | rfl | (dsimp only; omega))) | (with_reducible first | refine EqP_nil tab_ok ?_ | refine EqP_sli tab_ok ?_ | refine DrawP_auto tab_ok (by kernel_rfl) (by decide +kernel) ?_ | refine DrawP_auto2 tab_ok (by kernel_rfl) (by decide +kernel) ?_ | refine eq34 ?_ | refine eq68 ?_))))
      exact ⟨rfl, rfl⟩
end Go.Proofs.Ytiakdbcikmkomaa

namespace Go.Proofs.Ytiakdbcikmkomaa
theorem runsL_nth (L : List Run) : runsL (nthR L) L.length = L := by
  apply List.ext_getElem?
  intro i
  unfold runsL
  rw [List.getElem?_map]
  by_cases h : i < L.length
  · rw [List.getElem?_range h, List.getElem?_eq_getElem h]
    simp [nthR, List.getElem?_eq_getElem h]
  · rw [List.getElem?_eq_none (by simpa using h), List.getElem?_eq_none (by omega)]; rfl
theorem hasB_nth (L : List Run) (x y : Int) : hasB (nthR L) L.length x y = hasL L x y := by rw [← hasL_runs, runsL_nth]
def ValidL (L : List Run) : Prop := Valid (nthR L) L.length
theorem validL_of {rs : Nat → Run} {n : Nat} (h : Valid rs n) : ValidL (runsL rs n) := by
  have hl : (runsL rs n).length = n := by simp [runsL]
  have hn : ∀ i, i < n → nthR (runsL rs n) i = rs i := fun i hi => by simp [nthR, runsL, List.getElem?_range hi]
  refine ⟨fun i hi => ?_, fun i j hij hj => ?_⟩
  · rw [hl] at hi; rw [hn i hi]; exact h.bd i hi
  · rw [hl] at hj; rw [hn i (by omega), hn j hj]; exact h.lt i j hij hj
theorem ValidL.ok {L : List Run} (h : ValidL L) : okR L := by have := Valid.ok h; rwa [runsL_nth] at this
theorem ValidL.bd {L : List Run} (h : ValidL L) {r : Run} (hr : r ∈ L) : (-8192 ≤ r.y ∧ r.y ≤ 8191) ∧ (-8192 ≤ r.x0 ∧ r.x0 < r.x1 ∧ r.x1 ≤ 8192) := by
  obtain ⟨i, hi⟩ := List.mem_iff_getElem?.1 hr
  have := Valid.bd h i (List.getElem?_eq_some_iff.1 hi).1
  rwa [nthR_get hi] at this
theorem okR_lt {L : List Run} (h : okR L) : ∀ {i j : Nat} {r s : Run}, i < j → L[i]? = some r → L[j]? = some s → r.y < s.y ∨ (r.y = s.y ∧ r.x1 < s.x0) := by
  induction L with
  | nil => intro i j r s _ hi; simp at hi
  | cons a l ih =>
    intro i j r s hij hi hj
    cases j with
    | zero => omega
    | succ j =>
      cases i with
      | zero =>
        simp at hi; subst hi
        exact h.2.1 s (List.mem_of_getElem? (by simpa using hj))
      | succ i => exact ih h.2.2 (i := i) (j := j) (by omega) (by simpa using hi) (by simpa using hj)
theorem ValidL.mk {L : List Run} (h : okR L) (hb : ∀ r ∈ L, (-8192 ≤ r.y ∧ r.y ≤ 8191) ∧ (-8192 ≤ r.x0 ∧ r.x1 ≤ 8192)) : ValidL L := by
  refine ⟨fun i hi => ?_, fun i j hij hj => ?_⟩
  · have e : L[i]? = some L[i] := List.getElem?_eq_getElem hi
    rw [nthR_get e]
    have h1 := hb _ (List.getElem_mem hi)
    have h2 := okR_run h (List.getElem_mem hi)
    omega
  · have e : L[i]? = some L[i] := List.getElem?_eq_getElem (by omega)
    have e' : L[j]? = some L[j] := List.getElem?_eq_getElem hj
    rw [nthR_get e, nthR_get e']
    exact okR_lt h hij e e'
theorem grow_length {l : List Int} (h : l.Pairwise (· < ·)) {B : Nat} (hb : ∀ z ∈ l, 0 ≤ z ∧ z < B) : l.length ≤ B := by
  have key : ∀ (l : List Int) (a : Int), l.Pairwise (· < ·) → (∀ z ∈ l, a ≤ z ∧ z < B) → a ≤ B → (l.length : Int) ≤ B - a := by
    intro l
    induction l with
    | nil => intro a _ _ ha; simp; omega
    | cons x l ih =>
      intro a hp hz ha
      obtain ⟨h1, h2⟩ := List.pairwise_cons.1 hp
      have h3 := hz x (by simp)
      have := ih (x + 1) h2 (fun z hz' => ⟨by have := h1 z hz'; omega, (hz z (by simp [hz'])).2⟩) (by omega)
      simp; omega
  have := key l 0 h hb (by omega)
  omega
theorem okR_length {L : List Run} (h : okR L) (hb : ∀ r ∈ L, (-8192 ≤ r.y ∧ r.y ≤ 8191) ∧ (-8192 ≤ r.x0 ∧ r.x1 ≤ 8192)) : L.length ≤ 268451840 := by
  have hp : (L.map fun r => (r.y + 8192) * 16385 + (r.x1 + 8192)).Pairwise (· < ·) := by
    rw [List.pairwise_map, List.pairwise_iff_getElem]
    intro i j hi hj hij
    have h1 := okR_lt h hij (List.getElem?_eq_getElem hi) (List.getElem?_eq_getElem hj)
    have h2 := hb _ (List.getElem_mem hi)
    have h3 := hb _ (List.getElem_mem hj)
    have h4 := okR_run h (List.getElem_mem hj)
    have h5 := okR_run h (List.getElem_mem hi)
    omega
  have := grow_length hp (B := 268451840) (fun z hz => by
    obtain ⟨r, hr, rfl⟩ := List.mem_map.1 hz
    have h1 := hb r hr
    have h2 := okR_run h hr
    omega)
  simpa using this
theorem ValidL.length {L : List Run} (h : ValidL L) : L.length ≤ 268451840 := okR_length h.ok fun r hr => by have := h.bd hr; omega
/-- The operations. -/
def opB (c : Int) (p q : Bool) : Bool := if c = 1 then p && q else if c = 2 then p && !q else if c = 3 then p != q else p || q
theorem opB_no (c : Int) : opB c false false = false := by unfold opB; split <;> (try split) <;> (try split) <;> rfl
theorem opB_one {c : Int} {p q : Bool} (h : opB c p q = true) : p = true ∨ q = true := by
  cases p
  · cases q
    · rw [opB_no] at h; cases h
    · exact .inr rfl
  · exact .inl rfl
theorem sweep_ex {op : Bool → Bool → Bool} (hop : op false false = false) {ra rb : Nat → Run} {n m : Nat} (va : Valid ra n) (vb : Valid rb m) : ∀ (k i j : Nat) (fy fx : Int) (out : List Run), (2 * n - i) + (2 * m - j) = k → Sweep op ra rb n m i j fy fx out → ∃ M, okR M ∧ ∀ x y, hasR M x y ↔ op (hasB ra n x y) (hasB rb m x y) = true := by
  intro k
  induction k with
  | zero =>
    intro i j fy fx out hk h
    have h1 := h.hi
    have h2 := h.hj
    have e1 : i = 2 * n := by omega
    have e2 : j = 2 * m := by omega
    subst e1; subst e2
    exact ⟨out, h.done hop va vb⟩
  | succ k ih =>
    intro i j fy fx out hk h
    have h1 := h.hi
    have h2 := h.hj
    by_cases hA : i < 2 * n ∧ (j < 2 * m → lexLe (eY ra i) (eX ra i) (eY rb j) (eX rb j))
    · exact ih (i + 1) j _ _ _ (by omega) (h.stepA hop va vb hA.1 hA.2)
    · by_cases hB : j < 2 * m
      · refine ih i (j + 1) _ _ _ (by omega) (h.stepB hop va vb hB fun hi => ?_)
        have : ¬ lexLe (eY ra i) (eX ra i) (eY rb j) (eX rb j) := fun hle => hA ⟨hi, fun _ => hle⟩
        unfold lexLe at *; omega
      · exact absurd ⟨by omega, fun h => absurd h hB⟩ hA
theorem mix_ex {c : Int} {La Lb : List Run} (va : ValidL La) (vb : ValidL Lb) : ∃ M, okR M ∧ ∀ x y, hasR M x y ↔ opB c (hasL La x y) (hasL Lb x y) = true := by
  obtain ⟨M, h1, h2⟩ := sweep_ex (op := opB c) (opB_no c) va vb _ 0 0 0 0 [] rfl (Sweep.start _ _ _ _ _ _ _)
  exact ⟨M, h1, fun x y => by rw [h2, hasB_nth, hasB_nth]⟩
open Classical in
noncomputable def mixR (c : Int) (La Lb : List Run) : List Run := if h : ∃ M, okR M ∧ ∀ x y, hasR M x y ↔ opB c (hasL La x y) (hasL Lb x y) = true then h.choose else []
theorem mixR_ok {c : Int} {La Lb : List Run} (va : ValidL La) (vb : ValidL Lb) : okR (mixR c La Lb) ∧ ∀ x y, hasR (mixR c La Lb) x y ↔ opB c (hasL La x y) (hasL Lb x y) = true := by
  unfold mixR
  rw [dif_pos (mix_ex va vb)]
  exact (mix_ex (c := c) va vb).choose_spec
theorem mixR_is {c : Int} {La Lb M : List Run} (va : ValidL La) (vb : ValidL Lb) (h : okR M) (h2 : ∀ x y, hasR M x y ↔ opB c (hasL La x y) (hasL Lb x y) = true) : M = mixR c La Lb :=
  okR_ext h (mixR_ok va vb).1 fun x y => (h2 x y).trans ((mixR_ok va vb).2 x y).symm
theorem has_bd {L : List Run} (h : ValidL L) {x y : Int} (hx : hasL L x y = true) : (-8192 ≤ y ∧ y ≤ 8191) ∧ (-8192 ≤ x ∧ x ≤ 8191) := by
  obtain ⟨r, hr, h1, h2, h3⟩ := hasL_iff.1 hx
  have := h.bd hr
  omega
theorem mixed_bd {c : Int} {La Lb M : List Run} (va : ValidL La) (vb : ValidL Lb) (h : okR M) (h2 : ∀ x y, hasR M x y → opB c (hasL La x y) (hasL Lb x y) = true) : ∀ r ∈ M, (-8192 ≤ r.y ∧ r.y ≤ 8191) ∧ (-8192 ≤ r.x0 ∧ r.x1 ≤ 8192) := fun r hr => by
  have hlt := okR_run h hr
  have key : ∀ x, r.x0 ≤ x → x < r.x1 → (-8192 ≤ r.y ∧ r.y ≤ 8191) ∧ (-8192 ≤ x ∧ x ≤ 8191) := fun x h3 h4 => by
    rcases opB_one (h2 x r.y ⟨r, hr, rfl, h3, h4⟩) with h5 | h5
    · exact has_bd va h5
    · exact has_bd vb h5
  have k1 := key r.x0 (Int.le_refl _) hlt
  have k2 := key (r.x1 - 1) (by omega) (by omega)
  omega
theorem mixR_valid {c : Int} {La Lb : List Run} (va : ValidL La) (vb : ValidL Lb) : ValidL (mixR c La Lb) :=
  ValidL.mk (mixR_ok va vb).1 (mixed_bd va vb (mixR_ok va vb).1 fun x y h => ((mixR_ok va vb).2 x y).1 h)
end Go.Proofs.Ytiakdbcikmkomaa
