/-
  PathBoundsHold: the law's walk.
-/
import Derived.Test.YthbppimjaealnaaDoorBounds
import Derived.Test.YthbppimjaealnaaDoorPathsH
import Derived.Test.YthbppimjaealnaaDoorSegMem
namespace Go.Proofs.YthbppimjaealnaaDoor.pathBoundsHold
open Go.RowKit
set_option linter.unusedVariables false
set_option maxRecDepth 20000
theorem Bounds_none {G : Mem} {A : Option Addr} {n c : Nat} {S : Nat → SegD} (h : SegsM G A n S) (hn : n ≤ maxLen) (ht : ¬ pathE S n = 0) :
    Gives Tryd.prog 15 [.val (.slice A n c)] G (.tup [ptA2 0 0, ptA2 0 0, .val (.int .i64 (pathE S n))]) := by
  have gp := PCheck_gives (c := c) h hn
  refine Gives_of tab_ok Tryd.func15 ?_
  generalize pathE S n = E at *
  (repeat ((try (conv => whnf)); (first | (with_reducible refine condP_true ?_) | (with_reducible refine condP_false ?_) | (with_reducible refine condP_not ?_) | (with_reducible refine condP_and ?_) | ((with_reducible refine condP_dt ?_ ?_); (· omega)) | ((with_reducible refine condP_df ?_ ?_); (· omega)) | ((with_reducible refine condP_yes ?_ ?_); (· assumption)) | ((with_reducible refine condP_no ?_ ?_); (· assumption)) | ((with_reducible refine ArP_i64 ?_ ?_); (· omega)) | ((with_reducible refine mustP.mk ?_ ?_); (· first | omega | rfl | (dsimp only; omega))) | (with_reducible refine EqP_nil tab_ok ?_) | (with_reducible refine EqP_sli tab_ok ?_) | (with_reducible refine DrawP_auto tab_ok (by kernel_rfl) (by decide +kernel) ?_) | (with_reducible refine DrawP_auto2 tab_ok (by kernel_rfl) (by decide +kernel) ?_) | (with_reducible refine eq34 ?_) | (with_reducible refine eq36 ?_) | (with_reducible refine eq46 ?_) | (with_reducible refine CallP_gives (fun vs w => by kernel_rfl) (by kernel_rfl) (gp) ?_) | (with_reducible refine RCallP_gives (fun vs w => by kernel_rfl) (by kernel_rfl) (gp) ?_))))
  exact ⟨rfl, rfl⟩
theorem Bounds_empty {G : Mem} {A : Option Addr} {n c : Nat} {S : Nat → SegD} (h : SegsM G A n S) (hn : n ≤ maxLen) (ht : pathE S n = 0) (h0 : n = 0) :
    Gives Tryd.prog 15 [.val (.slice A n c)] G (.tup [ptA2 0 0, ptA2 0 0, .val (.int .i64 8)]) := by
  have gp := PCheck_gives (c := c) h hn
  rw [ht] at gp
  refine Gives_of tab_ok Tryd.func15 ?_
  (repeat ((try (conv => whnf)); (first | (with_reducible refine condP_true ?_) | (with_reducible refine condP_false ?_) | (with_reducible refine condP_not ?_) | (with_reducible refine condP_and ?_) | ((with_reducible refine condP_dt ?_ ?_); (· omega)) | ((with_reducible refine condP_df ?_ ?_); (· omega)) | ((with_reducible refine condP_yes ?_ ?_); (· assumption)) | ((with_reducible refine condP_no ?_ ?_); (· assumption)) | ((with_reducible refine ArP_i64 ?_ ?_); (· omega)) | ((with_reducible refine mustP.mk ?_ ?_); (· first | omega | rfl | (dsimp only; omega))) | (with_reducible refine EqP_nil tab_ok ?_) | (with_reducible refine EqP_sli tab_ok ?_) | (with_reducible refine DrawP_auto tab_ok (by kernel_rfl) (by decide +kernel) ?_) | (with_reducible refine DrawP_auto2 tab_ok (by kernel_rfl) (by decide +kernel) ?_) | (with_reducible refine eq34 ?_) | (with_reducible refine eq36 ?_) | (with_reducible refine eq46 ?_) | (with_reducible refine CallP_gives (fun vs w => by kernel_rfl) (by kernel_rfl) (gp) ?_) | (with_reducible refine RCallP_gives (fun vs w => by kernel_rfl) (by kernel_rfl) (gp) ?_))))
  exact ⟨rfl, rfl⟩
set_option maxHeartbeats 8000000 in
theorem body {A : Option Addr} {n c : Nat} {S : Nat → SegD} {G : Mem} (h : SegsM G A n S) (hn : n ≤ maxLen) :
    bodyV Tryd.prog tab 0 Tryd.f5 [.val (.slice A n c)] [] G fun v _ _ => v = .val (.bool true) := by
  have gp := RPCheck_gives (c := c) h hn
  by_cases ht : pathE S n = 0
  · rw [ht] at gp
    by_cases h0 : n = 0
    · have gb := Bounds_empty (c := c) h hn ht h0
      (repeat ((try (conv => whnf)); (first | (with_reducible refine condP_true ?_) | (with_reducible refine condP_false ?_) | (with_reducible refine condP_not ?_) | (with_reducible refine condP_and ?_) | ((with_reducible refine condP_dt ?_ ?_); (· omega)) | ((with_reducible refine condP_df ?_ ?_); (· omega)) | ((with_reducible refine condP_yes ?_ ?_); (· assumption)) | ((with_reducible refine condP_no ?_ ?_); (· assumption)) | ((with_reducible refine ArP_i64 ?_ ?_); (· omega)) | ((with_reducible refine mustP.mk ?_ ?_); (· first | omega | rfl | (dsimp only; omega))) | (with_reducible refine EqP_nil tab_ok ?_) | (with_reducible refine EqP_sli tab_ok ?_) | (with_reducible refine DrawP_auto tab_ok (by kernel_rfl) (by decide +kernel) ?_) | (with_reducible refine DrawP_auto2 tab_ok (by kernel_rfl) (by decide +kernel) ?_) | (with_reducible refine eq34 ?_) | (with_reducible refine eq36 ?_) | (with_reducible refine eq46 ?_) | (with_reducible refine CallP_gives (fun vs w => by kernel_rfl) (by kernel_rfl) (paths_gives) ?_) | (with_reducible refine RCallP_gives (fun vs w => by kernel_rfl) (by kernel_rfl) (paths_gives) ?_) | (with_reducible refine CallP_gives (fun vs w => by kernel_rfl) (by kernel_rfl) (gb) ?_) | (with_reducible refine RCallP_gives (fun vs w => by kernel_rfl) (by kernel_rfl) (gb) ?_) | (with_reducible refine CallP_gives (fun vs w => by kernel_rfl) (by kernel_rfl) (gp) ?_) | (with_reducible refine RCallP_gives (fun vs w => by kernel_rfl) (by kernel_rfl) (gp) ?_))))
      conv => whnf
      try simp
    · have h0 : 0 < n := by omega
      have gb := Bounds_gives (c := c) h hn ht h0
      have gr := RBounds_gives (c := c) h hn ht h0
      obtain ⟨k1, hx, hy⟩ := first_pt ht h0
      have e0 := low_eq (f := segX) (g := segU) (S := S) h0 (by omega) (by unfold segX; omega)
      have e1 := low_eq (f := segY) (g := segV) (S := S) h0 (by omega) (by unfold segY; omega)
      have e2 := hi_eq (f := segX) (g := segU) (S := S) h0 (by omega) (by unfold segX; omega)
      have e3 := hi_eq (f := segY) (g := segV) (S := S) h0 (by omega) (by unfold segY; omega)
      rw [show (S 0).x = segX (S 0) from rfl, show (S 0).y = segY (S 0) from rfl, e0, e1, e2, e3] at gb
      clear e0 e1 e2 e3 hx hy k1
      generalize lowB 1048576 segX segU S n = a at *
      generalize lowB 1048576 segY segV S n = b at *
      generalize hiB (-1048576) segX segU S n = d at *
      generalize hiB (-1048576) segY segV S n = e at *
      (repeat ((try (conv => whnf)); (first | (with_reducible refine condP_true ?_) | (with_reducible refine condP_false ?_) | (with_reducible refine condP_not ?_) | (with_reducible refine condP_and ?_) | ((with_reducible refine condP_dt ?_ ?_); (· omega)) | ((with_reducible refine condP_df ?_ ?_); (· omega)) | ((with_reducible refine condP_yes ?_ ?_); (· assumption)) | ((with_reducible refine condP_no ?_ ?_); (· assumption)) | ((with_reducible refine ArP_i64 ?_ ?_); (· omega)) | ((with_reducible refine mustP.mk ?_ ?_); (· first | omega | rfl | (dsimp only; omega))) | (with_reducible refine EqP_nil tab_ok ?_) | (with_reducible refine EqP_sli tab_ok ?_) | (with_reducible refine DrawP_auto tab_ok (by kernel_rfl) (by decide +kernel) ?_) | (with_reducible refine DrawP_auto2 tab_ok (by kernel_rfl) (by decide +kernel) ?_) | (with_reducible refine eq34 ?_) | (with_reducible refine eq36 ?_) | (with_reducible refine eq46 ?_) | (with_reducible refine CallP_gives (fun vs w => by kernel_rfl) (by kernel_rfl) (paths_gives) ?_) | (with_reducible refine RCallP_gives (fun vs w => by kernel_rfl) (by kernel_rfl) (paths_gives) ?_) | (with_reducible refine CallP_gives (fun vs w => by kernel_rfl) (by kernel_rfl) (gb) ?_) | (with_reducible refine RCallP_gives (fun vs w => by kernel_rfl) (by kernel_rfl) (gb) ?_) | (with_reducible refine CallP_gives (fun vs w => by kernel_rfl) (by kernel_rfl) (gr) ?_) | (with_reducible refine RCallP_gives (fun vs w => by kernel_rfl) (by kernel_rfl) (gr) ?_) | (with_reducible refine CallP_gives (fun vs w => by kernel_rfl) (by kernel_rfl) (gp) ?_) | (with_reducible refine RCallP_gives (fun vs w => by kernel_rfl) (by kernel_rfl) (gp) ?_))))
      conv => whnf
      try simp
  · have gb := Bounds_none (c := c) h hn ht
    generalize pathE S n = E at *
    (repeat ((try (conv => whnf)); (first | (with_reducible refine condP_true ?_) | (with_reducible refine condP_false ?_) | (with_reducible refine condP_not ?_) | (with_reducible refine condP_and ?_) | ((with_reducible refine condP_dt ?_ ?_); (· omega)) | ((with_reducible refine condP_df ?_ ?_); (· omega)) | ((with_reducible refine condP_yes ?_ ?_); (· assumption)) | ((with_reducible refine condP_no ?_ ?_); (· assumption)) | ((with_reducible refine ArP_i64 ?_ ?_); (· omega)) | ((with_reducible refine mustP.mk ?_ ?_); (· first | omega | rfl | (dsimp only; omega))) | (with_reducible refine EqP_nil tab_ok ?_) | (with_reducible refine EqP_sli tab_ok ?_) | (with_reducible refine DrawP_auto tab_ok (by kernel_rfl) (by decide +kernel) ?_) | (with_reducible refine DrawP_auto2 tab_ok (by kernel_rfl) (by decide +kernel) ?_) | (with_reducible refine eq34 ?_) | (with_reducible refine eq36 ?_) | (with_reducible refine eq46 ?_) | (with_reducible refine CallP_gives (fun vs w => by kernel_rfl) (by kernel_rfl) (paths_gives) ?_) | (with_reducible refine RCallP_gives (fun vs w => by kernel_rfl) (by kernel_rfl) (paths_gives) ?_) | (with_reducible refine CallP_gives (fun vs w => by kernel_rfl) (by kernel_rfl) (gb) ?_) | (with_reducible refine RCallP_gives (fun vs w => by kernel_rfl) (by kernel_rfl) (gb) ?_) | (with_reducible refine CallP_gives (fun vs w => by kernel_rfl) (by kernel_rfl) (gp) ?_) | (with_reducible refine RCallP_gives (fun vs w => by kernel_rfl) (by kernel_rfl) (gp) ?_))))
    conv => whnf
    try simp
theorem walk (A0 : Option Addr) (n0 : Nat) (cap0 : Nat) (f0 : Nat → Nat → Int) (w : World) (c0 : n0 ≤ cap0) (m0 : cap0 ≤ maxLen) (w0 : RecsAt .i64 w A0 n0 6 f0) (z0 : RecsIn .i64 n0 6 f0) :
    Calls Tryd.prog 5 #[.slice A0 n0 cap0] w fun e w' => e = .returned (.bool true) ∧ Below w.heap.size w w' :=
  walk_of tab_ok Tryd.func5 (rels_map_val (β := noName) [.slice A0 n0 cap0]) (body (segs_m w0) (Nat.le_trans c0 m0))
end Go.Proofs.YthbppimjaealnaaDoor.pathBoundsHold
