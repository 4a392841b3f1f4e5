/-
  FillArea2Sum: the law's walk.
-/
import Derived.Test.YthbppimjaealnaaFills
import Derived.Test.YthbppimjaealnaaLinesM
namespace Go.Proofs.Ythbppimjaealnaa.fillArea2Sum
open Go.RowKit
set_option linter.unusedVariables false
set_option maxRecDepth 20000
set_option maxHeartbeats 2000000 in
theorem body {A : Option Addr} {n q : Nat} {G : Mem} {L : Nat → LineD} (hL : LinesM G A n L) (hn : n ≤ q ∧ q ≤ maxLen) :
    bodyV Try.prog tab 0 Try.f4 [.val (.slice A n q)] [] G fun v _ _ => v = .val (.bool true) := by
  have hn1 : n ≤ maxLen := Nat.le_trans hn.1 hn.2
  have hc := LinesCheck_gives (c := q) hL hn1
  unfold linesE at hc
  cases hb : linesB L n
  · have h1 := Area_err (c := q) hL hn1 hb
    rw [hb, if_neg (by simp)] at hc
    (repeat ((try (conv => whnf)); (first | (with_reducible refine condP_true ?_) | (with_reducible refine condP_false ?_) | (with_reducible refine condP_not ?_) | (with_reducible refine condP_and ?_) | ((with_reducible refine condP_dt ?_ ?_); (· omega)) | ((with_reducible refine condP_df ?_ ?_); (· omega)) | ((with_reducible refine condP_yes ?_ ?_); (· assumption)) | ((with_reducible refine condP_no ?_ ?_); (· assumption)) | ((with_reducible refine ArP_i64 ?_ ?_); (· omega)) | ((with_reducible refine mustP.mk ?_ ?_); (· first | omega | rfl | (dsimp only; omega))) | (with_reducible refine EqP_nil tab_ok ?_) | (with_reducible refine EqP_sli tab_ok ?_) | (with_reducible refine DrawP_auto tab_ok (by kernel_rfl) (by decide +kernel) ?_) | (with_reducible refine DrawP_auto2 tab_ok (by kernel_rfl) (by decide +kernel) ?_) | (with_reducible refine eq55 ?_) | (with_reducible refine eq70 ?_) | (with_reducible refine eq73 ?_) | (with_reducible refine eq79 ?_) | (with_reducible refine eq112 ?_) | (with_reducible refine eq118 ?_) | (with_reducible refine eq124 ?_) | (with_reducible refine eq139 ?_) | (with_reducible refine eq142 ?_) | (with_reducible refine CallP_gives (fun vs w => by kernel_rfl) (by kernel_rfl) (fills_gives) ?_) | (with_reducible refine RCallP_gives (fun vs w => by kernel_rfl) (by kernel_rfl) (fills_gives) ?_) | (with_reducible refine CallP_gives (fun vs w => by kernel_rfl) (by kernel_rfl) (h1) ?_) | (with_reducible refine RCallP_gives (fun vs w => by kernel_rfl) (by kernel_rfl) (h1) ?_) | (with_reducible refine CallP_gives (fun vs w => by kernel_rfl) (by kernel_rfl) (hc) ?_) | (with_reducible refine RCallP_gives (fun vs w => by kernel_rfl) (by kernel_rfl) (hc) ?_))))
    conv => whnf
    try simp
  · have h1 := Area_gives (c := q) hL hn1 hb
    have h2 := RArea_gives (c := q) hL hn1 hb
    rw [hb, if_pos rfl] at hc
    (repeat ((try (conv => whnf)); (first | (with_reducible refine condP_true ?_) | (with_reducible refine condP_false ?_) | (with_reducible refine condP_not ?_) | (with_reducible refine condP_and ?_) | ((with_reducible refine condP_dt ?_ ?_); (· omega)) | ((with_reducible refine condP_df ?_ ?_); (· omega)) | ((with_reducible refine condP_yes ?_ ?_); (· assumption)) | ((with_reducible refine condP_no ?_ ?_); (· assumption)) | ((with_reducible refine ArP_i64 ?_ ?_); (· omega)) | ((with_reducible refine mustP.mk ?_ ?_); (· first | omega | rfl | (dsimp only; omega))) | (with_reducible refine EqP_nil tab_ok ?_) | (with_reducible refine EqP_sli tab_ok ?_) | (with_reducible refine DrawP_auto tab_ok (by kernel_rfl) (by decide +kernel) ?_) | (with_reducible refine DrawP_auto2 tab_ok (by kernel_rfl) (by decide +kernel) ?_) | (with_reducible refine eq55 ?_) | (with_reducible refine eq70 ?_) | (with_reducible refine eq73 ?_) | (with_reducible refine eq79 ?_) | (with_reducible refine eq112 ?_) | (with_reducible refine eq118 ?_) | (with_reducible refine eq124 ?_) | (with_reducible refine eq139 ?_) | (with_reducible refine eq142 ?_) | (with_reducible refine CallP_gives (fun vs w => by kernel_rfl) (by kernel_rfl) (fills_gives) ?_) | (with_reducible refine RCallP_gives (fun vs w => by kernel_rfl) (by kernel_rfl) (fills_gives) ?_) | (with_reducible refine CallP_gives (fun vs w => by kernel_rfl) (by kernel_rfl) (h1) ?_) | (with_reducible refine RCallP_gives (fun vs w => by kernel_rfl) (by kernel_rfl) (h1) ?_) | (with_reducible refine CallP_gives (fun vs w => by kernel_rfl) (by kernel_rfl) (hc) ?_) | (with_reducible refine RCallP_gives (fun vs w => by kernel_rfl) (by kernel_rfl) (hc) ?_) | (with_reducible refine CallP_gives (fun vs w => by kernel_rfl) (by kernel_rfl) (h2) ?_) | (with_reducible refine RCallP_gives (fun vs w => by kernel_rfl) (by kernel_rfl) (h2) ?_))))
    conv => whnf
    try simp
set_option linter.unusedVariables false in
theorem walk (A0 : Option Addr) (n0 : Nat) (q0 : Nat) (g0 : Nat → Nat → Value) (w : World) (c0 : n0 ≤ q0) (m0 : q0 ≤ maxLen) (s0 : SliceG Try.prog w 43 A0 n0 g0) :
    Calls Try.prog 4 #[.slice A0 n0 q0] w fun e w' => e = .returned (.bool true) ∧ Below w.heap.size w w' := by
  obtain ⟨L, hL, _⟩ := lines_m s0
  refine walk_of tab_ok Try.func4 ?_ (body hL ⟨c0, m0⟩)
  exact rels_map_val (β := noName) [.slice A0 n0 q0]
end Go.Proofs.Ythbppimjaealnaa.fillArea2Sum
