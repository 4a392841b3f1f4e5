/-
  The reference's ends.
-/
import Derived.Test.YtpgjbfbdappniaaSubs
namespace Go.Proofs.Ytpgjbfbdappniaa
open Go.RowKit
set_option linter.unusedVariables false
set_option linter.unusedSimpArgs false
set_option maxRecDepth 20000
section
variable {G : Mem} {A : Option Addr} {n c : Nat} {S : Nat → SegD}
set_option maxHeartbeats 4000000 in
theorem ends_gives (h : SegsM G A n S) (hn : n ≤ 1000) {i e : Nat} (hs : SubP S n i e) : Gives Try.prog 28 [.val (.slice A n c), .val (.int .i64 i)] G (.val (.int .i64 e)) := by
  have hlt := hs.lt
  have hle := hs.le
  refine Gives_of tab_ok Try.func28 ?_
  (repeat ((try (conv => whnf)); (first | (with_reducible refine condP_true ?_) | (with_reducible refine condP_false ?_) | (with_reducible refine condP_not ?_) | (with_reducible refine condP_and ?_) | ((with_reducible refine condP_dt ?_ ?_); (· omega)) | ((with_reducible refine condP_df ?_ ?_); (· omega)) | ((with_reducible refine condP_yes ?_ ?_); (· assumption)) | ((with_reducible refine condP_no ?_ ?_); (· assumption)) | ((with_reducible refine ArP_i64 ?_ ?_); (· omega)) | ((with_reducible refine mustP.mk ?_ ?_); (· first | omega | rfl | (dsimp only; omega))) | (with_reducible refine EqP_nil tab_ok ?_) | (with_reducible refine EqP_sli tab_ok ?_) | (with_reducible refine DrawP_auto tab_ok (by kernel_rfl) (by decide +kernel) ?_) | (with_reducible refine DrawP_auto2 tab_ok (by kernel_rfl) (by decide +kernel) ?_) | (with_reducible refine eq43 ?_) | (with_reducible refine eq55 ?_) | (with_reducible refine eq57 ?_) | (with_reducible refine eq93 ?_) | (with_reducible refine eq101 ?_) | (with_reducible refine eq116 ?_) | (with_reducible refine eq119 ?_))))
  conv => whnf
  refine LoopP_at tab_ok (fun k => i < k ∧ k ≤ e) (fun (k : Nat) => [(5, .val (.int .i64 k))]) (fun k => []) (fun k => e - k) (i + 1) ⟨by omega, by omega⟩ ?_ ?_
  · ((refine Le_head ?_); (conv => whnf); (refine Le_mk (by rfl) (by rfl) ?_ ?_); (· (repeat (first | (with_reducible exact frLe_nil) | (with_reducible refine frLe_any ?_) | (with_reducible refine frLe_val ?_) | ((with_reducible refine frLe_eq rfl ?_ ?_); (· rfl)) | ((with_reducible refine frLe_val' (int_eq ?_) ?_ ?_); (· omega); (· rfl)) | ((with_reducible refine frLe_val' (int_eq ?_) ?_ ?_); (· simp only [Int.natCast_add, Int.natCast_one, Int.natCast_ofNat] <;> omega); (· rfl)) | ((with_reducible refine frLe_val' (bool_eq ?_) ?_ ?_); (· first | assumption | (symm; assumption)); (· rfl))))))
    exact hpLe_nil
  · rintro k ⟨h0, hi⟩
    rcases Nat.lt_or_ge k e with h1 | h1
    · obtain ⟨p, rfl, c0⟩ := h.cell (x := k) (j := 0) (by omega) rfl
      have hk := hs.no k h0 h1
      clear h hs
      (repeat ((try (conv => whnf)); (first | (refine OldCells_one _ c0 ?_) | (with_reducible refine condP_true ?_) | (with_reducible refine condP_false ?_) | (with_reducible refine condP_not ?_) | (with_reducible refine condP_and ?_) | ((with_reducible refine condP_dt ?_ ?_); (· omega)) | ((with_reducible refine condP_df ?_ ?_); (· omega)) | ((with_reducible refine condP_yes ?_ ?_); (· assumption)) | ((with_reducible refine condP_no ?_ ?_); (· assumption)) | ((with_reducible refine ArP_i64 ?_ ?_); (· omega)) | ((with_reducible refine mustP.mk ?_ ?_); (· first | omega | rfl | (dsimp only; omega))) | (with_reducible refine EqP_nil tab_ok ?_) | (with_reducible refine EqP_sli tab_ok ?_) | (with_reducible refine DrawP_auto tab_ok (by kernel_rfl) (by decide +kernel) ?_) | (with_reducible refine DrawP_auto2 tab_ok (by kernel_rfl) (by decide +kernel) ?_) | (with_reducible refine eq43 ?_) | (with_reducible refine eq55 ?_) | (with_reducible refine eq57 ?_) | (with_reducible refine eq93 ?_) | (with_reducible refine eq101 ?_) | (with_reducible refine eq116 ?_) | (with_reducible refine eq119 ?_))))
      refine ⟨k + 1, ⟨by omega, by omega⟩, by omega, ?_⟩
      ((refine Le_head ?_); (conv => whnf); (refine Le_mk (by rfl) (by rfl) ?_ ?_); (· (repeat (first | (with_reducible exact frLe_nil) | (with_reducible refine frLe_any ?_) | (with_reducible refine frLe_val ?_) | ((with_reducible refine frLe_eq rfl ?_ ?_); (· rfl)) | ((with_reducible refine frLe_val' (int_eq ?_) ?_ ?_); (· omega); (· rfl)) | ((with_reducible refine frLe_val' (int_eq ?_) ?_ ?_); (· simp only [Int.natCast_add, Int.natCast_one, Int.natCast_ofNat] <;> omega); (· rfl)) | ((with_reducible refine frLe_val' (bool_eq ?_) ?_ ?_); (· first | assumption | (symm; assumption)); (· rfl))))))
      exact hpLe_nil
    · obtain rfl : k = e := by omega
      by_cases hkn : k = n
      · clear h hs
        (repeat ((try (conv => whnf)); (first | (with_reducible refine condP_true ?_) | (with_reducible refine condP_false ?_) | (with_reducible refine condP_not ?_) | (with_reducible refine condP_and ?_) | ((with_reducible refine condP_dt ?_ ?_); (· omega)) | ((with_reducible refine condP_df ?_ ?_); (· omega)) | ((with_reducible refine condP_yes ?_ ?_); (· assumption)) | ((with_reducible refine condP_no ?_ ?_); (· assumption)) | ((with_reducible refine ArP_i64 ?_ ?_); (· omega)) | ((with_reducible refine mustP.mk ?_ ?_); (· first | omega | rfl | (dsimp only; omega))) | (with_reducible refine EqP_nil tab_ok ?_) | (with_reducible refine EqP_sli tab_ok ?_) | (with_reducible refine DrawP_auto tab_ok (by kernel_rfl) (by decide +kernel) ?_) | (with_reducible refine DrawP_auto2 tab_ok (by kernel_rfl) (by decide +kernel) ?_) | (with_reducible refine eq43 ?_) | (with_reducible refine eq55 ?_) | (with_reducible refine eq57 ?_) | (with_reducible refine eq93 ?_) | (with_reducible refine eq101 ?_) | (with_reducible refine eq116 ?_) | (with_reducible refine eq119 ?_))))
        exact ⟨rfl, rfl⟩
      · have hm : (S k).k = 1 := by
          rcases hs.en with h2 | h2
          · exact absurd h2 hkn
          · exact h2
        obtain ⟨p, rfl, c0⟩ := h.cell (x := k) (j := 0) (by omega) rfl
        clear h hs
        (repeat ((try (conv => whnf)); (first | (refine OldCells_one _ c0 ?_) | (with_reducible refine condP_true ?_) | (with_reducible refine condP_false ?_) | (with_reducible refine condP_not ?_) | (with_reducible refine condP_and ?_) | ((with_reducible refine condP_dt ?_ ?_); (· omega)) | ((with_reducible refine condP_df ?_ ?_); (· omega)) | ((with_reducible refine condP_yes ?_ ?_); (· assumption)) | ((with_reducible refine condP_no ?_ ?_); (· assumption)) | ((with_reducible refine ArP_i64 ?_ ?_); (· omega)) | ((with_reducible refine mustP.mk ?_ ?_); (· first | omega | rfl | (dsimp only; omega))) | (with_reducible refine EqP_nil tab_ok ?_) | (with_reducible refine EqP_sli tab_ok ?_) | (with_reducible refine DrawP_auto tab_ok (by kernel_rfl) (by decide +kernel) ?_) | (with_reducible refine DrawP_auto2 tab_ok (by kernel_rfl) (by decide +kernel) ?_) | (with_reducible refine eq43 ?_) | (with_reducible refine eq55 ?_) | (with_reducible refine eq57 ?_) | (with_reducible refine eq93 ?_) | (with_reducible refine eq101 ?_) | (with_reducible refine eq116 ?_) | (with_reducible refine eq119 ?_))))
        exact ⟨rfl, rfl⟩
end
end Go.Proofs.Ytpgjbfbdappniaa
