/-
  Merged: XRegM, XRegRef.
-/
import Derived.Test.YtbkhpddodmbdoaaMrg9
import Derived.Test.YtbkhpddodmbdoaaMrg7
import Derived.Test.YtbkhpddodmbdoaaMrg4
namespace Go.Proofs.Ytbkhpddodmbdoaa
open Go.RowKit
set_option linter.unusedVariables false
set_option maxRecDepth 20000
/-- Runs in memory. -/
def RunsM (G : Mem) (A : Option Addr) (L : List Run) : Prop := ∀ (i : Nat) r, L[i]? = some r → ∃ b off, A = some ⟨b, off, none⟩ ∧ G.cell? ⟨b, off + i * 3, none⟩ = some (.int .i64 r.y) ∧ G.cell? ⟨b, off + i * 3 + 1, none⟩ = some (.int .i64 r.x0) ∧ G.cell? ⟨b, off + i * 3 + 2, none⟩ = some (.int .i64 r.x1)
theorem RunsM.mono {G G' : Mem} {A : Option Addr} {L : List Run} (h : RunsM G A L) (hle : G.le G') : RunsM G' A L := fun i r hr => by
  obtain ⟨b, off, h1, h2, h3, h4⟩ := h i r hr
  exact ⟨b, off, h1, hle.cell h2, hle.cell h3, hle.cell h4⟩
theorem RunsM.nil (G : Mem) (A : Option Addr) : RunsM G A [] := fun i r hr => by simp at hr
theorem RunsM.at_ {G : Mem} {A : Option Addr} {L : List Run} (h : RunsM G A L) {i : Nat} {r : Run} (hi : L[i]? = some r) : ∃ p : Addr, A = some p ∧ G.cell? (Addr.add (p.add (i * 3)) 0) = some (.int .i64 r.y) ∧ G.cell? (Addr.add (p.add (i * 3)) 1) = some (.int .i64 r.x0) ∧ G.cell? (Addr.add (p.add (i * 3)) 2) = some (.int .i64 r.x1) := by
  obtain ⟨b, off, rfl, h1, h2, h3⟩ := h i r hi
  exact ⟨_, rfl, by rw [addr_add, addr_add]; exact h1, by rw [addr_add, addr_add]; exact h2, by rw [addr_add, addr_add]; exact h3⟩
theorem run3 (r : Run) : ∀ K : List Value → Prop, K [.int .i64 r.y, .int .i64 r.x0, .int .i64 r.x1] → K [.int .i64 r.y, .int .i64 r.x0, .int .i64 r.x1] := fun _ h => h
theorem RunsM.cells {G : Mem} {A : Option Addr} {L : List Run} (h : RunsM G A L) {i : Nat} {r : Run} (hi : L[i]? = some r) : ∃ p : Addr, A = some p ∧ ∀ K : List Value → Prop, K [.int .i64 r.y, .int .i64 r.x0, .int .i64 r.x1] → OldCells G (p.add (i * 3)) 3 K := by
  obtain ⟨p, rfl, c0, c1, c2⟩ := h.at_ hi
  refine ⟨p, rfl, fun K k => OldCells_list _ rfl (fun j u hj => ?_) k⟩
  match j, hj with
  | 0, hj => simp at hj; subst hj; exact c0
  | 1, hj => simp at hj; subst hj; exact c1
  | 2, hj => simp at hj; subst hj; exact c2
def nthR (L : List Run) (i : Nat) : Run := (L[i]?).getD ⟨0, 0, 0⟩
theorem nthR_get {L : List Run} {i : Nat} {r : Run} (h : L[i]? = some r) : nthR L i = r := by simp [nthR, h]
theorem RunsAt.m {w : World} {A : Option Addr} {n : Nat} {rs : Nat → Run} (h : RunsAt w A n rs) : RunsM (memOf w) A (runsL rs n) := by
  intro i r hr
  have hi : i < n := by have := (List.getElem?_eq_some_iff.1 hr).1; simpa [runsL] using this
  have e : rs i = r := by simpa [runsL, List.getElem?_range hi] using hr
  subst e
  obtain ⟨b, off, hA, _, hc⟩ := h (by omega)
  obtain ⟨c0, c1, c2⟩ := hc i hi
  exact ⟨b, off, hA, c0, c1, c2⟩
theorem runsL_length (rs : Nat → Run) (n : Nat) : (runsL rs n).length = n := by simp [runsL]
/-- The error of a region. -/
def errL (L : List Run) : Int := regV (nthR L) L.length
theorem errL_first {L : List Run} {i : Nat} (h0 : regV (nthR L) i = 0) (hi : i < L.length) (h : runErr (nthR L) i ≠ 0) : errL L = runErr (nthR L) i := regV_first h0 h hi
end Go.Proofs.Ytbkhpddodmbdoaa

namespace Go.Proofs.Ytbkhpddodmbdoaa
open Go.RowKit
set_option linter.unusedVariables false
set_option maxRecDepth 20000
theorem RunsM.frozen {G : Mem} {A : Option Addr} {L : List Run} (h : flatR L = [] ∨ ∃ b, A = some ⟨b, 0, none⟩ ∧ ∀ (j : Nat) u, (flatR L)[j]? = some u → G.cell? ⟨b, j, none⟩ = some u) : RunsM G A L := fun i r hr => by
  obtain ⟨h1, h2, h3⟩ := flatR_get hr
  rcases h with h | ⟨b, rfl, h⟩
  · rw [h] at h1; simp at h1
  · exact ⟨b, 0, rfl, by rw [Nat.zero_add]; exact h _ _ h1, by rw [Nat.zero_add]; exact h _ _ h2, by rw [Nat.zero_add]; exact h _ _ h3⟩
def inR (r : Run) (x y : Int) : Bool := decide (r.y = y ∧ r.x0 ≤ x ∧ x < r.x1)
def hasL (L : List Run) (x y : Int) : Bool := L.any fun r => inR r x y
theorem hasL_iff {L : List Run} {x y : Int} : hasL L x y = true ↔ hasR L x y := by simp [hasL, hasR, inR]
theorem hasL_runs {rs : Nat → Run} {n : Nat} {x y : Int} : hasL (runsL rs n) x y = hasB rs n x y := by
  cases h : hasB rs n x y with
  | true => exact hasL_iff.2 (hasB_iff.1 h)
  | false =>
    cases h2 : hasL (runsL rs n) x y with
    | false => rfl
    | true => rw [hasB_iff.2 (hasL_iff.1 h2)] at h; cases h
theorem hasL_none {L : List Run} {x y : Int} (h : ∀ (i : Nat) r, L[i]? = some r → inR r x y = false) : hasL L x y = false := by
  cases h2 : hasL L x y with
  | false => rfl
  | true =>
    obtain ⟨r, h3, h4⟩ := List.any_eq_true.1 h2
    obtain ⟨i, hi⟩ := List.mem_iff_getElem?.1 h3
    rw [h i r hi] at h4; cases h4
theorem hasL_some {L : List Run} {x y : Int} {i : Nat} {r : Run} (h : L[i]? = some r) (h2 : inR r x y = true) : hasL L x y = true := List.any_eq_true.2 ⟨r, List.mem_of_getElem? h, h2⟩
set_option maxHeartbeats 1000000 in
theorem Has_gives (A : Option Addr) (L : List Run) (cap : Nat) (x y : Int) (G : Mem) (hR : RunsM G A L) (hl : L.length ≤ 1000000000000) : Gives Try.prog 19 [.val (.slice A L.length cap), .val (.int .i64 x), .val (.int .i64 y)] G (.val (.bool (hasL L x y))) := by
  refine Gives_of tab_ok Try.func19 ?_
  (repeat ((try (conv => whnf)); (first | (with_reducible first | refine condP_true ?_ | refine condP_false ?_ | refine condP_not ?_ | refine condP_and ?_) | ((with_reducible refine condP_dt ?_ ?_); (· omega)) | ((with_reducible refine condP_df ?_ ?_); (· omega)) | ((with_reducible refine condP_yes ?_ ?_); (· assumption)) | ((with_reducible refine condP_no ?_ ?_); (· assumption)) | ((with_reducible refine ArP_i64 ?_ ?_); (· omega)) | ((with_reducible refine mustP.mk ?_ ?_); (· first | omega | rfl | (dsimp only; omega))) | (with_reducible first | refine EqP_nil tab_ok ?_ | refine EqP_sli tab_ok ?_ | refine DrawP_auto tab_ok (by kernel_rfl) (by decide +kernel) ?_ | refine DrawP_auto2 tab_ok (by kernel_rfl) (by decide +kernel) ?_ | refine eq27 ?_ | refine eq44 ?_ | refine eq54 ?_ | refine eq76 ?_ | refine eq134 ?_))))
  conv => whnf
  refine LoopP_at tab_ok (fun i => i ≤ L.length ∧ ∀ (j : Nat) r, j < i → L[j]? = some r → inR r x y = false) (fun (i : Nat) => [(10, .val (.int .i64 i))]) (fun i => []) (fun i => L.length - i) 0 ⟨Nat.zero_le _, fun j z hj => by omega⟩ ?_ ?_
  · ((refine Le_head ?_); (conv => whnf); (refine Le_mk (by rfl) (by rfl) ?_ ?_); (· (repeat (first | (with_reducible exact frLe_nil) | (with_reducible first | refine frLe_any ?_ | refine frLe_val ?_) | ((with_reducible refine frLe_eq rfl ?_ ?_); (· rfl)) | ((with_reducible refine frLe_val' (int_eq ?_) ?_ ?_); (· omega); (· rfl)) | ((with_reducible refine frLe_val' (int_eq ?_) ?_ ?_); (· simp only [Int.natCast_add, Int.natCast_one, Int.natCast_ofNat] <;> omega); (· rfl)) | ((with_reducible refine frLe_val' (bool_eq ?_) ?_ ?_); (· first | assumption | (symm; assumption)); (· rfl))))))
    exact hpLe_nil
  · rintro i ⟨hi, hno⟩
    rcases Nat.lt_or_ge i L.length with h1 | h1
    · obtain ⟨r, hr⟩ : ∃ r, L[i]? = some r := ⟨L[i], List.getElem?_eq_getElem h1⟩
      obtain ⟨p, rfl, c0, c1, c2⟩ := hR.at_ hr
      have next : inR r x y = false → ∀ (j : Nat) q, j < i + 1 → L[j]? = some q → inR q x y = false := fun h j q hj hq => by
        rcases Nat.lt_or_ge j i with h2 | h2
        · exact hno j q h2 hq
        · have : j = i := by omega
          subst this; rw [hr] at hq; cases hq; exact h
      by_cases e1 : r.y = y
      · by_cases e2 : r.x0 ≤ x
        · by_cases e3 : x < r.x1
          · (repeat ((try (conv => whnf)); (first | (with_reducible first | refine condP_true ?_ | refine condP_false ?_ | refine condP_not ?_ | refine condP_and ?_) | ((with_reducible refine condP_dt ?_ ?_); (· omega)) | ((with_reducible refine condP_df ?_ ?_); (· omega)) | ((with_reducible refine condP_yes ?_ ?_); (· assumption)) | ((with_reducible refine condP_no ?_ ?_); (· assumption)) | ((with_reducible refine ArP_i64 ?_ ?_); (· omega)) | ((with_reducible refine mustP.mk ?_ ?_); (· first | omega | rfl | (dsimp only; omega))) | (with_reducible first | refine EqP_nil tab_ok ?_ | refine EqP_sli tab_ok ?_ | refine DrawP_auto tab_ok (by kernel_rfl) (by decide +kernel) ?_ | refine DrawP_auto2 tab_ok (by kernel_rfl) (by decide +kernel) ?_ | refine eq27 ?_ | refine eq44 ?_ | refine eq54 ?_ | refine eq76 ?_ | refine eq134 ?_))))
            conv => whnf
            refine OldCells_one _ c0 ?_
            (repeat ((try (conv => whnf)); (first | (with_reducible first | refine condP_true ?_ | refine condP_false ?_ | refine condP_not ?_ | refine condP_and ?_) | ((with_reducible refine condP_dt ?_ ?_); (· omega)) | ((with_reducible refine condP_df ?_ ?_); (· omega)) | ((with_reducible refine condP_yes ?_ ?_); (· assumption)) | ((with_reducible refine condP_no ?_ ?_); (· assumption)) | ((with_reducible refine ArP_i64 ?_ ?_); (· omega)) | ((with_reducible refine mustP.mk ?_ ?_); (· first | omega | rfl | (dsimp only; omega))) | (with_reducible first | refine EqP_nil tab_ok ?_ | refine EqP_sli tab_ok ?_ | refine DrawP_auto tab_ok (by kernel_rfl) (by decide +kernel) ?_ | refine DrawP_auto2 tab_ok (by kernel_rfl) (by decide +kernel) ?_ | refine eq27 ?_ | refine eq44 ?_ | refine eq54 ?_ | refine eq76 ?_ | refine eq134 ?_))))
            conv => whnf
            refine OldCells_one _ c1 ?_
            (repeat ((try (conv => whnf)); (first | (with_reducible first | refine condP_true ?_ | refine condP_false ?_ | refine condP_not ?_ | refine condP_and ?_) | ((with_reducible refine condP_dt ?_ ?_); (· omega)) | ((with_reducible refine condP_df ?_ ?_); (· omega)) | ((with_reducible refine condP_yes ?_ ?_); (· assumption)) | ((with_reducible refine condP_no ?_ ?_); (· assumption)) | ((with_reducible refine ArP_i64 ?_ ?_); (· omega)) | ((with_reducible refine mustP.mk ?_ ?_); (· first | omega | rfl | (dsimp only; omega))) | (with_reducible first | refine EqP_nil tab_ok ?_ | refine EqP_sli tab_ok ?_ | refine DrawP_auto tab_ok (by kernel_rfl) (by decide +kernel) ?_ | refine DrawP_auto2 tab_ok (by kernel_rfl) (by decide +kernel) ?_ | refine eq27 ?_ | refine eq44 ?_ | refine eq54 ?_ | refine eq76 ?_ | refine eq134 ?_))))
            conv => whnf
            refine OldCells_one _ c2 ?_
            (repeat ((try (conv => whnf)); (first | (with_reducible first | refine condP_true ?_ | refine condP_false ?_ | refine condP_not ?_ | refine condP_and ?_) | ((with_reducible refine condP_dt ?_ ?_); (· omega)) | ((with_reducible refine condP_df ?_ ?_); (· omega)) | ((with_reducible refine condP_yes ?_ ?_); (· assumption)) | ((with_reducible refine condP_no ?_ ?_); (· assumption)) | ((with_reducible refine ArP_i64 ?_ ?_); (· omega)) | ((with_reducible refine mustP.mk ?_ ?_); (· first | omega | rfl | (dsimp only; omega))) | (with_reducible first | refine EqP_nil tab_ok ?_ | refine EqP_sli tab_ok ?_ | refine DrawP_auto tab_ok (by kernel_rfl) (by decide +kernel) ?_ | refine DrawP_auto2 tab_ok (by kernel_rfl) (by decide +kernel) ?_ | refine eq27 ?_ | refine eq44 ?_ | refine eq54 ?_ | refine eq76 ?_ | refine eq134 ?_))))
            exact ⟨by rw [hasL_some hr (by simp [inR]; omega)], rfl⟩
          · (repeat ((try (conv => whnf)); (first | (with_reducible first | refine condP_true ?_ | refine condP_false ?_ | refine condP_not ?_ | refine condP_and ?_) | ((with_reducible refine condP_dt ?_ ?_); (· omega)) | ((with_reducible refine condP_df ?_ ?_); (· omega)) | ((with_reducible refine condP_yes ?_ ?_); (· assumption)) | ((with_reducible refine condP_no ?_ ?_); (· assumption)) | ((with_reducible refine ArP_i64 ?_ ?_); (· omega)) | ((with_reducible refine mustP.mk ?_ ?_); (· first | omega | rfl | (dsimp only; omega))) | (with_reducible first | refine EqP_nil tab_ok ?_ | refine EqP_sli tab_ok ?_ | refine DrawP_auto tab_ok (by kernel_rfl) (by decide +kernel) ?_ | refine DrawP_auto2 tab_ok (by kernel_rfl) (by decide +kernel) ?_ | refine eq27 ?_ | refine eq44 ?_ | refine eq54 ?_ | refine eq76 ?_ | refine eq134 ?_))))
            conv => whnf
            refine OldCells_one _ c0 ?_
            (repeat ((try (conv => whnf)); (first | (with_reducible first | refine condP_true ?_ | refine condP_false ?_ | refine condP_not ?_ | refine condP_and ?_) | ((with_reducible refine condP_dt ?_ ?_); (· omega)) | ((with_reducible refine condP_df ?_ ?_); (· omega)) | ((with_reducible refine condP_yes ?_ ?_); (· assumption)) | ((with_reducible refine condP_no ?_ ?_); (· assumption)) | ((with_reducible refine ArP_i64 ?_ ?_); (· omega)) | ((with_reducible refine mustP.mk ?_ ?_); (· first | omega | rfl | (dsimp only; omega))) | (with_reducible first | refine EqP_nil tab_ok ?_ | refine EqP_sli tab_ok ?_ | refine DrawP_auto tab_ok (by kernel_rfl) (by decide +kernel) ?_ | refine DrawP_auto2 tab_ok (by kernel_rfl) (by decide +kernel) ?_ | refine eq27 ?_ | refine eq44 ?_ | refine eq54 ?_ | refine eq76 ?_ | refine eq134 ?_))))
            conv => whnf
            refine OldCells_one _ c1 ?_
            (repeat ((try (conv => whnf)); (first | (with_reducible first | refine condP_true ?_ | refine condP_false ?_ | refine condP_not ?_ | refine condP_and ?_) | ((with_reducible refine condP_dt ?_ ?_); (· omega)) | ((with_reducible refine condP_df ?_ ?_); (· omega)) | ((with_reducible refine condP_yes ?_ ?_); (· assumption)) | ((with_reducible refine condP_no ?_ ?_); (· assumption)) | ((with_reducible refine ArP_i64 ?_ ?_); (· omega)) | ((with_reducible refine mustP.mk ?_ ?_); (· first | omega | rfl | (dsimp only; omega))) | (with_reducible first | refine EqP_nil tab_ok ?_ | refine EqP_sli tab_ok ?_ | refine DrawP_auto tab_ok (by kernel_rfl) (by decide +kernel) ?_ | refine DrawP_auto2 tab_ok (by kernel_rfl) (by decide +kernel) ?_ | refine eq27 ?_ | refine eq44 ?_ | refine eq54 ?_ | refine eq76 ?_ | refine eq134 ?_))))
            conv => whnf
            refine OldCells_one _ c2 ?_
            (repeat ((try (conv => whnf)); (first | (with_reducible first | refine condP_true ?_ | refine condP_false ?_ | refine condP_not ?_ | refine condP_and ?_) | ((with_reducible refine condP_dt ?_ ?_); (· omega)) | ((with_reducible refine condP_df ?_ ?_); (· omega)) | ((with_reducible refine condP_yes ?_ ?_); (· assumption)) | ((with_reducible refine condP_no ?_ ?_); (· assumption)) | ((with_reducible refine ArP_i64 ?_ ?_); (· omega)) | ((with_reducible refine mustP.mk ?_ ?_); (· first | omega | rfl | (dsimp only; omega))) | (with_reducible first | refine EqP_nil tab_ok ?_ | refine EqP_sli tab_ok ?_ | refine DrawP_auto tab_ok (by kernel_rfl) (by decide +kernel) ?_ | refine DrawP_auto2 tab_ok (by kernel_rfl) (by decide +kernel) ?_ | refine eq27 ?_ | refine eq44 ?_ | refine eq54 ?_ | refine eq76 ?_ | refine eq134 ?_))))
            refine ⟨i + 1, ⟨by omega, next (by simp [inR]; omega)⟩, by omega, ?_⟩
            ((refine Le_head ?_); (conv => whnf); (refine Le_mk (by rfl) (by rfl) ?_ ?_); (· (repeat (first | (with_reducible exact frLe_nil) | (with_reducible first | refine frLe_any ?_ | refine frLe_val ?_) | ((with_reducible refine frLe_eq rfl ?_ ?_); (· rfl)) | ((with_reducible refine frLe_val' (int_eq ?_) ?_ ?_); (· omega); (· rfl)) | ((with_reducible refine frLe_val' (int_eq ?_) ?_ ?_); (· simp only [Int.natCast_add, Int.natCast_one, Int.natCast_ofNat] <;> omega); (· rfl)) | ((with_reducible refine frLe_val' (bool_eq ?_) ?_ ?_); (· first | assumption | (symm; assumption)); (· rfl))))))
            exact hpLe_nil
        · (repeat ((try (conv => whnf)); (first | (with_reducible first | refine condP_true ?_ | refine condP_false ?_ | refine condP_not ?_ | refine condP_and ?_) | ((with_reducible refine condP_dt ?_ ?_); (· omega)) | ((with_reducible refine condP_df ?_ ?_); (· omega)) | ((with_reducible refine condP_yes ?_ ?_); (· assumption)) | ((with_reducible refine condP_no ?_ ?_); (· assumption)) | ((with_reducible refine ArP_i64 ?_ ?_); (· omega)) | ((with_reducible refine mustP.mk ?_ ?_); (· first | omega | rfl | (dsimp only; omega))) | (with_reducible first | refine EqP_nil tab_ok ?_ | refine EqP_sli tab_ok ?_ | refine DrawP_auto tab_ok (by kernel_rfl) (by decide +kernel) ?_ | refine DrawP_auto2 tab_ok (by kernel_rfl) (by decide +kernel) ?_ | refine eq27 ?_ | refine eq44 ?_ | refine eq54 ?_ | refine eq76 ?_ | refine eq134 ?_))))
          conv => whnf
          refine OldCells_one _ c0 ?_
          (repeat ((try (conv => whnf)); (first | (with_reducible first | refine condP_true ?_ | refine condP_false ?_ | refine condP_not ?_ | refine condP_and ?_) | ((with_reducible refine condP_dt ?_ ?_); (· omega)) | ((with_reducible refine condP_df ?_ ?_); (· omega)) | ((with_reducible refine condP_yes ?_ ?_); (· assumption)) | ((with_reducible refine condP_no ?_ ?_); (· assumption)) | ((with_reducible refine ArP_i64 ?_ ?_); (· omega)) | ((with_reducible refine mustP.mk ?_ ?_); (· first | omega | rfl | (dsimp only; omega))) | (with_reducible first | refine EqP_nil tab_ok ?_ | refine EqP_sli tab_ok ?_ | refine DrawP_auto tab_ok (by kernel_rfl) (by decide +kernel) ?_ | refine DrawP_auto2 tab_ok (by kernel_rfl) (by decide +kernel) ?_ | refine eq27 ?_ | refine eq44 ?_ | refine eq54 ?_ | refine eq76 ?_ | refine eq134 ?_))))
          conv => whnf
          refine OldCells_one _ c1 ?_
          (repeat ((try (conv => whnf)); (first | (with_reducible first | refine condP_true ?_ | refine condP_false ?_ | refine condP_not ?_ | refine condP_and ?_) | ((with_reducible refine condP_dt ?_ ?_); (· omega)) | ((with_reducible refine condP_df ?_ ?_); (· omega)) | ((with_reducible refine condP_yes ?_ ?_); (· assumption)) | ((with_reducible refine condP_no ?_ ?_); (· assumption)) | ((with_reducible refine ArP_i64 ?_ ?_); (· omega)) | ((with_reducible refine mustP.mk ?_ ?_); (· first | omega | rfl | (dsimp only; omega))) | (with_reducible first | refine EqP_nil tab_ok ?_ | refine EqP_sli tab_ok ?_ | refine DrawP_auto tab_ok (by kernel_rfl) (by decide +kernel) ?_ | refine DrawP_auto2 tab_ok (by kernel_rfl) (by decide +kernel) ?_ | refine eq27 ?_ | refine eq44 ?_ | refine eq54 ?_ | refine eq76 ?_ | refine eq134 ?_))))
          refine ⟨i + 1, ⟨by omega, next (by simp [inR]; omega)⟩, by omega, ?_⟩
          ((refine Le_head ?_); (conv => whnf); (refine Le_mk (by rfl) (by rfl) ?_ ?_); (· (repeat (first | (with_reducible exact frLe_nil) | (with_reducible first | refine frLe_any ?_ | refine frLe_val ?_) | ((with_reducible refine frLe_eq rfl ?_ ?_); (· rfl)) | ((with_reducible refine frLe_val' (int_eq ?_) ?_ ?_); (· omega); (· rfl)) | ((with_reducible refine frLe_val' (int_eq ?_) ?_ ?_); (· simp only [Int.natCast_add, Int.natCast_one, Int.natCast_ofNat] <;> omega); (· rfl)) | ((with_reducible refine frLe_val' (bool_eq ?_) ?_ ?_); (· first | assumption | (symm; assumption)); (· rfl))))))
          exact hpLe_nil
      · (repeat ((try (conv => whnf)); (first | (with_reducible first | refine condP_true ?_ | refine condP_false ?_ | refine condP_not ?_ | refine condP_and ?_) | ((with_reducible refine condP_dt ?_ ?_); (· omega)) | ((with_reducible refine condP_df ?_ ?_); (· omega)) | ((with_reducible refine condP_yes ?_ ?_); (· assumption)) | ((with_reducible refine condP_no ?_ ?_); (· assumption)) | ((with_reducible refine ArP_i64 ?_ ?_); (· omega)) | ((with_reducible refine mustP.mk ?_ ?_); (· first | omega | rfl | (dsimp only; omega))) | (with_reducible first | refine EqP_nil tab_ok ?_ | refine EqP_sli tab_ok ?_ | refine DrawP_auto tab_ok (by kernel_rfl) (by decide +kernel) ?_ | refine DrawP_auto2 tab_ok (by kernel_rfl) (by decide +kernel) ?_ | refine eq27 ?_ | refine eq44 ?_ | refine eq54 ?_ | refine eq76 ?_ | refine eq134 ?_))))
        conv => whnf
        refine OldCells_one _ c0 ?_
        (repeat ((try (conv => whnf)); (first | (with_reducible first | refine condP_true ?_ | refine condP_false ?_ | refine condP_not ?_ | refine condP_and ?_) | ((with_reducible refine condP_dt ?_ ?_); (· omega)) | ((with_reducible refine condP_df ?_ ?_); (· omega)) | ((with_reducible refine condP_yes ?_ ?_); (· assumption)) | ((with_reducible refine condP_no ?_ ?_); (· assumption)) | ((with_reducible refine ArP_i64 ?_ ?_); (· omega)) | ((with_reducible refine mustP.mk ?_ ?_); (· first | omega | rfl | (dsimp only; omega))) | (with_reducible first | refine EqP_nil tab_ok ?_ | refine EqP_sli tab_ok ?_ | refine DrawP_auto tab_ok (by kernel_rfl) (by decide +kernel) ?_ | refine DrawP_auto2 tab_ok (by kernel_rfl) (by decide +kernel) ?_ | refine eq27 ?_ | refine eq44 ?_ | refine eq54 ?_ | refine eq76 ?_ | refine eq134 ?_))))
        refine ⟨i + 1, ⟨by omega, next (by simp [inR, e1])⟩, by omega, ?_⟩
        ((refine Le_head ?_); (conv => whnf); (refine Le_mk (by rfl) (by rfl) ?_ ?_); (· (repeat (first | (with_reducible exact frLe_nil) | (with_reducible first | refine frLe_any ?_ | refine frLe_val ?_) | ((with_reducible refine frLe_eq rfl ?_ ?_); (· rfl)) | ((with_reducible refine frLe_val' (int_eq ?_) ?_ ?_); (· omega); (· rfl)) | ((with_reducible refine frLe_val' (int_eq ?_) ?_ ?_); (· simp only [Int.natCast_add, Int.natCast_one, Int.natCast_ofNat] <;> omega); (· rfl)) | ((with_reducible refine frLe_val' (bool_eq ?_) ?_ ?_); (· first | assumption | (symm; assumption)); (· rfl))))))
        exact hpLe_nil
    · (repeat ((try (conv => whnf)); (first | (with_reducible first | refine condP_true ?_ | refine condP_false ?_ | refine condP_not ?_ | refine condP_and ?_) | ((with_reducible refine condP_dt ?_ ?_); (· omega)) | ((with_reducible refine condP_df ?_ ?_); (· omega)) | ((with_reducible refine condP_yes ?_ ?_); (· assumption)) | ((with_reducible refine condP_no ?_ ?_); (· assumption)) | ((with_reducible refine ArP_i64 ?_ ?_); (· omega)) | ((with_reducible refine mustP.mk ?_ ?_); (· first | omega | rfl | (dsimp only; omega))) | (with_reducible first | refine EqP_nil tab_ok ?_ | refine EqP_sli tab_ok ?_ | refine DrawP_auto tab_ok (by kernel_rfl) (by decide +kernel) ?_ | refine DrawP_auto2 tab_ok (by kernel_rfl) (by decide +kernel) ?_ | refine eq27 ?_ | refine eq44 ?_ | refine eq54 ?_ | refine eq76 ?_ | refine eq134 ?_))))
      exact ⟨by rw [hasL_none fun j r hr => hno j r (by have := (List.getElem?_eq_some_iff.1 hr).1; omega) hr], rfl⟩
set_option maxHeartbeats 1000000 in
theorem SameRuns_gives (A B : Option Addr) (L : List Run) (c d : Nat) (G : Mem) (hA : RunsM G A L) (hB : RunsM G B L) (hl : L.length ≤ 1000000000000) : Gives Try.prog 33 [.val (.slice A L.length c), .val (.slice B L.length d)] G (.val (.bool true)) := by
  refine Gives_of tab_ok Try.func33 ?_
  (repeat ((try (conv => whnf)); (first | (with_reducible first | refine condP_true ?_ | refine condP_false ?_ | refine condP_not ?_ | refine condP_and ?_) | ((with_reducible refine condP_dt ?_ ?_); (· omega)) | ((with_reducible refine condP_df ?_ ?_); (· omega)) | ((with_reducible refine condP_yes ?_ ?_); (· assumption)) | ((with_reducible refine condP_no ?_ ?_); (· assumption)) | ((with_reducible refine ArP_i64 ?_ ?_); (· omega)) | ((with_reducible refine mustP.mk ?_ ?_); (· first | omega | rfl | (dsimp only; omega))) | (with_reducible first | refine EqP_nil tab_ok ?_ | refine EqP_sli tab_ok ?_ | refine DrawP_auto tab_ok (by kernel_rfl) (by decide +kernel) ?_ | refine DrawP_auto2 tab_ok (by kernel_rfl) (by decide +kernel) ?_ | refine eq27 ?_ | refine eq44 ?_ | refine eq54 ?_ | refine eq76 ?_ | refine eq134 ?_))))
  conv => whnf
  refine LoopP_at tab_ok (fun i => i ≤ L.length) (fun (i : Nat) => [(13, .val (.int .i64 i))]) (fun i => []) (fun i => L.length - i) 0 (Nat.zero_le _) ?_ ?_
  · ((refine Le_head ?_); (conv => whnf); (refine Le_mk (by rfl) (by rfl) ?_ ?_); (· (repeat (first | (with_reducible exact frLe_nil) | (with_reducible first | refine frLe_any ?_ | refine frLe_val ?_) | ((with_reducible refine frLe_eq rfl ?_ ?_); (· rfl)) | ((with_reducible refine frLe_val' (int_eq ?_) ?_ ?_); (· omega); (· rfl)) | ((with_reducible refine frLe_val' (int_eq ?_) ?_ ?_); (· simp only [Int.natCast_add, Int.natCast_one, Int.natCast_ofNat] <;> omega); (· rfl)) | ((with_reducible refine frLe_val' (bool_eq ?_) ?_ ?_); (· first | assumption | (symm; assumption)); (· rfl))))))
    exact hpLe_nil
  · rintro i hi
    rcases Nat.lt_or_ge i L.length with h1 | h1
    · obtain ⟨r, hr⟩ : ∃ r, L[i]? = some r := ⟨L[i], List.getElem?_eq_getElem h1⟩
      obtain ⟨p, rfl, ca⟩ := hA.cells hr
      obtain ⟨q, rfl, cb⟩ := hB.cells hr
      (repeat ((try (conv => whnf)); (first | (with_reducible first | refine condP_true ?_ | refine condP_false ?_ | refine condP_not ?_ | refine condP_and ?_) | ((with_reducible refine condP_dt ?_ ?_); (· omega)) | ((with_reducible refine condP_df ?_ ?_); (· omega)) | ((with_reducible refine condP_yes ?_ ?_); (· assumption)) | ((with_reducible refine condP_no ?_ ?_); (· assumption)) | ((with_reducible refine ArP_i64 ?_ ?_); (· omega)) | ((with_reducible refine mustP.mk ?_ ?_); (· first | omega | rfl | (dsimp only; omega))) | (with_reducible first | refine EqP_nil tab_ok ?_ | refine EqP_sli tab_ok ?_ | refine DrawP_auto tab_ok (by kernel_rfl) (by decide +kernel) ?_ | refine DrawP_auto2 tab_ok (by kernel_rfl) (by decide +kernel) ?_ | refine eq27 ?_ | refine eq44 ?_ | refine eq54 ?_ | refine eq76 ?_ | refine eq134 ?_))))
      conv => whnf
      refine ca _ ?_
      (repeat ((try (conv => whnf)); (first | (with_reducible first | refine condP_true ?_ | refine condP_false ?_ | refine condP_not ?_ | refine condP_and ?_) | ((with_reducible refine condP_dt ?_ ?_); (· omega)) | ((with_reducible refine condP_df ?_ ?_); (· omega)) | ((with_reducible refine condP_yes ?_ ?_); (· assumption)) | ((with_reducible refine condP_no ?_ ?_); (· assumption)) | ((with_reducible refine ArP_i64 ?_ ?_); (· omega)) | ((with_reducible refine mustP.mk ?_ ?_); (· first | omega | rfl | (dsimp only; omega))) | (with_reducible first | refine EqP_nil tab_ok ?_ | refine EqP_sli tab_ok ?_ | refine DrawP_auto tab_ok (by kernel_rfl) (by decide +kernel) ?_ | refine DrawP_auto2 tab_ok (by kernel_rfl) (by decide +kernel) ?_ | refine eq27 ?_ | refine eq44 ?_ | refine eq54 ?_ | refine eq76 ?_ | refine eq134 ?_))))
      conv => whnf
      refine cb _ ?_
      (repeat ((try (conv => whnf)); (first | (with_reducible first | refine condP_true ?_ | refine condP_false ?_ | refine condP_not ?_ | refine condP_and ?_) | ((with_reducible refine condP_dt ?_ ?_); (· omega)) | ((with_reducible refine condP_df ?_ ?_); (· omega)) | ((with_reducible refine condP_yes ?_ ?_); (· assumption)) | ((with_reducible refine condP_no ?_ ?_); (· assumption)) | ((with_reducible refine ArP_i64 ?_ ?_); (· omega)) | ((with_reducible refine mustP.mk ?_ ?_); (· first | omega | rfl | (dsimp only; omega))) | (with_reducible first | refine EqP_nil tab_ok ?_ | refine EqP_sli tab_ok ?_ | refine DrawP_auto tab_ok (by kernel_rfl) (by decide +kernel) ?_ | refine DrawP_auto2 tab_ok (by kernel_rfl) (by decide +kernel) ?_ | refine eq27 ?_ | refine eq44 ?_ | refine eq54 ?_ | refine eq76 ?_ | refine eq134 ?_))))
      refine ⟨i + 1, by omega, by omega, ?_⟩
      ((refine Le_head ?_); (conv => whnf); (refine Le_mk (by rfl) (by rfl) ?_ ?_); (· (repeat (first | (with_reducible exact frLe_nil) | (with_reducible first | refine frLe_any ?_ | refine frLe_val ?_) | ((with_reducible refine frLe_eq rfl ?_ ?_); (· rfl)) | ((with_reducible refine frLe_val' (int_eq ?_) ?_ ?_); (· omega); (· rfl)) | ((with_reducible refine frLe_val' (int_eq ?_) ?_ ?_); (· simp only [Int.natCast_add, Int.natCast_one, Int.natCast_ofNat] <;> omega); (· rfl)) | ((with_reducible refine frLe_val' (bool_eq ?_) ?_ ?_); (· first | assumption | (symm; assumption)); (· rfl))))))
      exact hpLe_nil
    · (repeat ((try (conv => whnf)); (first | (with_reducible first | refine condP_true ?_ | refine condP_false ?_ | refine condP_not ?_ | refine condP_and ?_) | ((with_reducible refine condP_dt ?_ ?_); (· omega)) | ((with_reducible refine condP_df ?_ ?_); (· omega)) | ((with_reducible refine condP_yes ?_ ?_); (· assumption)) | ((with_reducible refine condP_no ?_ ?_); (· assumption)) | ((with_reducible refine ArP_i64 ?_ ?_); (· omega)) | ((with_reducible refine mustP.mk ?_ ?_); (· first | omega | rfl | (dsimp only; omega))) | (with_reducible first | refine EqP_nil tab_ok ?_ | refine EqP_sli tab_ok ?_ | refine DrawP_auto tab_ok (by kernel_rfl) (by decide +kernel) ?_ | refine DrawP_auto2 tab_ok (by kernel_rfl) (by decide +kernel) ?_ | refine eq27 ?_ | refine eq44 ?_ | refine eq54 ?_ | refine eq76 ?_ | refine eq134 ?_))))
      exact ⟨rfl, rfl⟩
end Go.Proofs.Ytbkhpddodmbdoaa
