/-
  The reference's Has and SameRuns.
-/
import Derived.Test.YtmklpphdbmpbbaaJoined
import Derived.Test.YtmklpphdbmpbbaaRegM
namespace Go.Proofs.Ytmklpphdbmpbbaa
open Go.RowKit
set_option linter.unusedVariables false
set_option maxRecDepth 20000
theorem RunsM.frozen {G : Mem} {A : Option Addr} {L : List Run} (h : flatR L = [] ∨ ∃ b, A = some ⟨b, 0, none⟩ ∧ ∀ (j : Nat) u, (flatR L)[j]? = some u → G.cell? ⟨b, j, none⟩ = some u) : RunsM G A L := fun i r hr => by
  obtain ⟨h1, h2, h3⟩ := flatR_get hr
  rcases h with h | ⟨b, rfl, h⟩
  · rw [h] at h1; simp at h1
  · exact ⟨b, 0, rfl, by rw [Nat.zero_add]; exact h _ _ h1, by rw [Nat.zero_add]; exact h _ _ h2, by rw [Nat.zero_add]; exact h _ _ h3⟩
def inR (r : Run) (x y : Int) : Bool := decide (r.y = y ∧ r.x0 ≤ x ∧ x < r.x1)
def hasL (L : List Run) (x y : Int) : Bool := L.any fun r => inR r x y
theorem hasL_iff {L : List Run} {x y : Int} : hasL L x y = true ↔ hasR L x y := by simp [hasL, hasR, inR]
theorem hasL_runs {rs : Nat → Run} {n : Nat} {x y : Int} : hasL (runsL rs n) x y = hasB rs n x y := by
  cases h : hasB rs n x y with
  | true => exact hasL_iff.2 (hasB_iff.1 h)
  | false =>
    cases h2 : hasL (runsL rs n) x y with
    | false => rfl
    | true => rw [hasB_iff.2 (hasL_iff.1 h2)] at h; cases h
theorem hasL_none {L : List Run} {x y : Int} (h : ∀ (i : Nat) r, L[i]? = some r → inR r x y = false) : hasL L x y = false := by
  cases h2 : hasL L x y with
  | false => rfl
  | true =>
    obtain ⟨r, h3, h4⟩ := List.any_eq_true.1 h2
    obtain ⟨i, hi⟩ := List.mem_iff_getElem?.1 h3
    rw [h i r hi] at h4; cases h4
theorem hasL_some {L : List Run} {x y : Int} {i : Nat} {r : Run} (h : L[i]? = some r) (h2 : inR r x y = true) : hasL L x y = true := List.any_eq_true.2 ⟨r, List.mem_of_getElem? h, h2⟩
set_option maxHeartbeats 1000000 in
theorem SameRuns_gives (A B : Option Addr) (L : List Run) (c d : Nat) (G : Mem) (hA : RunsM G A L) (hB : RunsM G B L) (hl : L.length ≤ 1000000000000) : Gives Try.prog 14 [.val (.slice A L.length c), .val (.slice B L.length d)] G (.val (.bool true)) := by
  refine Gives_of tab_ok Try.func14 ?_
  (repeat ((try (conv => whnf)); (first | (with_reducible refine condP_true ?_) | (with_reducible refine condP_false ?_) | (with_reducible refine condP_not ?_) | (with_reducible refine condP_and ?_) | ((with_reducible refine condP_dt ?_ ?_); (· omega)) | ((with_reducible refine condP_df ?_ ?_); (· omega)) | ((with_reducible refine condP_yes ?_ ?_); (· assumption)) | ((with_reducible refine condP_no ?_ ?_); (· assumption)) | ((with_reducible refine ArP_i64 ?_ ?_); (· omega)) | ((with_reducible refine mustP.mk ?_ ?_); (· first | omega | rfl | (dsimp only; omega))) | (with_reducible refine EqP_nil tab_ok ?_) | (with_reducible refine EqP_sli tab_ok ?_) | (with_reducible refine DrawP_auto tab_ok (by kernel_rfl) (by decide +kernel) ?_) | (with_reducible refine DrawP_auto2 tab_ok (by kernel_rfl) (by decide +kernel) ?_) | (with_reducible refine eq28 ?_) | (with_reducible refine eq33 ?_) | (with_reducible refine eq95 ?_) | (with_reducible refine eq115 ?_))))
  conv => whnf
  refine LoopP_at tab_ok (fun i => i ≤ L.length) (fun (i : Nat) => [(13, .val (.int .i64 i))]) (fun i => []) (fun i => L.length - i) 0 (Nat.zero_le _) ?_ ?_
  · ((refine Le_head ?_); (conv => whnf); (refine Le_mk (by rfl) (by rfl) ?_ ?_); (· (repeat (first | (with_reducible exact frLe_nil) | (with_reducible refine frLe_any ?_) | (with_reducible refine frLe_val ?_) | ((with_reducible refine frLe_eq rfl ?_ ?_); (· rfl)) | ((with_reducible refine frLe_val' (int_eq ?_) ?_ ?_); (· omega); (· rfl)) | ((with_reducible refine frLe_val' (int_eq ?_) ?_ ?_); (· simp only [Int.natCast_add, Int.natCast_one, Int.natCast_ofNat] <;> omega); (· rfl)) | ((with_reducible refine frLe_val' (bool_eq ?_) ?_ ?_); (· first | assumption | (symm; assumption)); (· rfl))))))
    exact hpLe_nil
  · rintro i hi
    rcases Nat.lt_or_ge i L.length with h1 | h1
    · obtain ⟨r, hr⟩ : ∃ r, L[i]? = some r := ⟨L[i], List.getElem?_eq_getElem h1⟩
      obtain ⟨p, rfl, ca⟩ := hA.cells hr
      obtain ⟨q, rfl, cb⟩ := hB.cells hr
      (repeat ((try (conv => whnf)); (first | (with_reducible refine condP_true ?_) | (with_reducible refine condP_false ?_) | (with_reducible refine condP_not ?_) | (with_reducible refine condP_and ?_) | ((with_reducible refine condP_dt ?_ ?_); (· omega)) | ((with_reducible refine condP_df ?_ ?_); (· omega)) | ((with_reducible refine condP_yes ?_ ?_); (· assumption)) | ((with_reducible refine condP_no ?_ ?_); (· assumption)) | ((with_reducible refine ArP_i64 ?_ ?_); (· omega)) | ((with_reducible refine mustP.mk ?_ ?_); (· first | omega | rfl | (dsimp only; omega))) | (with_reducible refine EqP_nil tab_ok ?_) | (with_reducible refine EqP_sli tab_ok ?_) | (with_reducible refine DrawP_auto tab_ok (by kernel_rfl) (by decide +kernel) ?_) | (with_reducible refine DrawP_auto2 tab_ok (by kernel_rfl) (by decide +kernel) ?_) | (with_reducible refine eq28 ?_) | (with_reducible refine eq33 ?_) | (with_reducible refine eq95 ?_) | (with_reducible refine eq115 ?_))))
      conv => whnf
      refine ca _ ?_
      (repeat ((try (conv => whnf)); (first | (with_reducible refine condP_true ?_) | (with_reducible refine condP_false ?_) | (with_reducible refine condP_not ?_) | (with_reducible refine condP_and ?_) | ((with_reducible refine condP_dt ?_ ?_); (· omega)) | ((with_reducible refine condP_df ?_ ?_); (· omega)) | ((with_reducible refine condP_yes ?_ ?_); (· assumption)) | ((with_reducible refine condP_no ?_ ?_); (· assumption)) | ((with_reducible refine ArP_i64 ?_ ?_); (· omega)) | ((with_reducible refine mustP.mk ?_ ?_); (· first | omega | rfl | (dsimp only; omega))) | (with_reducible refine EqP_nil tab_ok ?_) | (with_reducible refine EqP_sli tab_ok ?_) | (with_reducible refine DrawP_auto tab_ok (by kernel_rfl) (by decide +kernel) ?_) | (with_reducible refine DrawP_auto2 tab_ok (by kernel_rfl) (by decide +kernel) ?_) | (with_reducible refine eq28 ?_) | (with_reducible refine eq33 ?_) | (with_reducible refine eq95 ?_) | (with_reducible refine eq115 ?_))))
      conv => whnf
      refine cb _ ?_
      (repeat ((try (conv => whnf)); (first | (with_reducible refine condP_true ?_) | (with_reducible refine condP_false ?_) | (with_reducible refine condP_not ?_) | (with_reducible refine condP_and ?_) | ((with_reducible refine condP_dt ?_ ?_); (· omega)) | ((with_reducible refine condP_df ?_ ?_); (· omega)) | ((with_reducible refine condP_yes ?_ ?_); (· assumption)) | ((with_reducible refine condP_no ?_ ?_); (· assumption)) | ((with_reducible refine ArP_i64 ?_ ?_); (· omega)) | ((with_reducible refine mustP.mk ?_ ?_); (· first | omega | rfl | (dsimp only; omega))) | (with_reducible refine EqP_nil tab_ok ?_) | (with_reducible refine EqP_sli tab_ok ?_) | (with_reducible refine DrawP_auto tab_ok (by kernel_rfl) (by decide +kernel) ?_) | (with_reducible refine DrawP_auto2 tab_ok (by kernel_rfl) (by decide +kernel) ?_) | (with_reducible refine eq28 ?_) | (with_reducible refine eq33 ?_) | (with_reducible refine eq95 ?_) | (with_reducible refine eq115 ?_))))
      refine ⟨i + 1, by omega, by omega, ?_⟩
      ((refine Le_head ?_); (conv => whnf); (refine Le_mk (by rfl) (by rfl) ?_ ?_); (· (repeat (first | (with_reducible exact frLe_nil) | (with_reducible refine frLe_any ?_) | (with_reducible refine frLe_val ?_) | ((with_reducible refine frLe_eq rfl ?_ ?_); (· rfl)) | ((with_reducible refine frLe_val' (int_eq ?_) ?_ ?_); (· omega); (· rfl)) | ((with_reducible refine frLe_val' (int_eq ?_) ?_ ?_); (· simp only [Int.natCast_add, Int.natCast_one, Int.natCast_ofNat] <;> omega); (· rfl)) | ((with_reducible refine frLe_val' (bool_eq ?_) ?_ ?_); (· first | assumption | (symm; assumption)); (· rfl))))))
      exact hpLe_nil
    · (repeat ((try (conv => whnf)); (first | (with_reducible refine condP_true ?_) | (with_reducible refine condP_false ?_) | (with_reducible refine condP_not ?_) | (with_reducible refine condP_and ?_) | ((with_reducible refine condP_dt ?_ ?_); (· omega)) | ((with_reducible refine condP_df ?_ ?_); (· omega)) | ((with_reducible refine condP_yes ?_ ?_); (· assumption)) | ((with_reducible refine condP_no ?_ ?_); (· assumption)) | ((with_reducible refine ArP_i64 ?_ ?_); (· omega)) | ((with_reducible refine mustP.mk ?_ ?_); (· first | omega | rfl | (dsimp only; omega))) | (with_reducible refine EqP_nil tab_ok ?_) | (with_reducible refine EqP_sli tab_ok ?_) | (with_reducible refine DrawP_auto tab_ok (by kernel_rfl) (by decide +kernel) ?_) | (with_reducible refine DrawP_auto2 tab_ok (by kernel_rfl) (by decide +kernel) ?_) | (with_reducible refine eq28 ?_) | (with_reducible refine eq33 ?_) | (with_reducible refine eq95 ?_) | (with_reducible refine eq115 ?_))))
      exact ⟨rfl, rfl⟩
end Go.Proofs.Ytmklpphdbmpbbaa
