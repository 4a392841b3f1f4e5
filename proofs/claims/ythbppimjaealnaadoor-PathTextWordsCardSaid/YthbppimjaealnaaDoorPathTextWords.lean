/-
  PathTextWords: the law's walk.
-/
import Derived.Test.YthbppimjaealnaaDoorText
import Derived.Test.YthbppimjaealnaaDoorRText
import Derived.Test.YthbppimjaealnaaDoorPathsH
import Derived.Test.YthbppimjaealnaaDoorSegMem
namespace Go.Proofs.YthbppimjaealnaaDoor.pathTextWords
open Go.RowKit Go.Lib
set_option linter.unusedVariables false
set_option maxRecDepth 20000
theorem Text_none {G : Mem} {A : Option Addr} {n c : Nat} {S : Nat → SegD} (h : SegsM G A n S) (hn : n ≤ maxLen) (ht : ¬ pathE S n = 0) :
    Gives Tryd.prog 9 [.val (.slice A n c)] G (.tup [.val (.string ⟨#[]⟩), .val (.int .i64 (pathE S n))]) := by
  have gp := PCheck_gives (c := c) h hn
  refine Gives_of tab_ok Tryd.func9 ?_
  generalize pathE S n = E at *
  (repeat ((try (conv => whnf)); (first | (with_reducible refine condP_true ?_) | (with_reducible refine condP_false ?_) | (with_reducible refine condP_not ?_) | (with_reducible refine condP_and ?_) | ((with_reducible refine condP_dt ?_ ?_); (· omega)) | ((with_reducible refine condP_df ?_ ?_); (· omega)) | ((with_reducible refine condP_yes ?_ ?_); (· assumption)) | ((with_reducible refine condP_no ?_ ?_); (· assumption)) | ((with_reducible refine ArP_i64 ?_ ?_); (· omega)) | ((with_reducible refine mustP.mk ?_ ?_); (· first | omega | rfl | (dsimp only; omega))) | (with_reducible refine EqP_nil tab_ok ?_) | (with_reducible refine EqP_sli tab_ok ?_) | (with_reducible refine DrawP_auto tab_ok (by kernel_rfl) (by decide +kernel) ?_) | (with_reducible refine DrawP_auto2 tab_ok (by kernel_rfl) (by decide +kernel) ?_) | (with_reducible refine eq34 ?_) | (with_reducible refine eq36 ?_) | (with_reducible refine eq46 ?_) | (with_reducible refine CallP_gives (fun vs w => by kernel_rfl) (by kernel_rfl) (gp) ?_) | (with_reducible refine RCallP_gives (fun vs w => by kernel_rfl) (by kernel_rfl) (gp) ?_))))
  exact ⟨rfl, rfl⟩
set_option maxHeartbeats 8000000 in
theorem body {A : Option Addr} {n c : Nat} {S : Nat → SegD} {G : Mem} (h : SegsM G A n S) (hn : n ≤ maxLen) (hT : TabM G) :
    bodyV Tryd.prog tab 0 Tryd.f3 [.val (.slice A n c)] [] G fun v _ _ => v = .val (.bool true) := by
  have gp := RPCheck_gives (c := c) h hn
  by_cases ht : pathE S n = 0
  · have gt := Text_gives (c := c) h hn ht hT
    have gr := RText_gives (c := c) h ht
    rw [ht] at gp
    generalize bytesS (Lib.join (wordsS S n) [32]) = T at *
    (repeat ((try (conv => whnf)); (first | (with_reducible refine condP_true ?_) | (with_reducible refine condP_false ?_) | (with_reducible refine condP_not ?_) | (with_reducible refine condP_and ?_) | ((with_reducible refine condP_dt ?_ ?_); (· omega)) | ((with_reducible refine condP_df ?_ ?_); (· omega)) | ((with_reducible refine condP_yes ?_ ?_); (· assumption)) | ((with_reducible refine condP_no ?_ ?_); (· assumption)) | ((with_reducible refine ArP_i64 ?_ ?_); (· omega)) | ((with_reducible refine mustP.mk ?_ ?_); (· first | omega | rfl | (dsimp only; omega))) | (with_reducible refine EqP_nil tab_ok ?_) | (with_reducible refine EqP_sli tab_ok ?_) | (with_reducible refine DrawP_auto tab_ok (by kernel_rfl) (by decide +kernel) ?_) | (with_reducible refine DrawP_auto2 tab_ok (by kernel_rfl) (by decide +kernel) ?_) | (with_reducible refine eq34 ?_) | (with_reducible refine eq36 ?_) | (with_reducible refine eq46 ?_) | (with_reducible refine CallP_gives (fun vs w => by kernel_rfl) (by kernel_rfl) (paths_gives) ?_) | (with_reducible refine RCallP_gives (fun vs w => by kernel_rfl) (by kernel_rfl) (paths_gives) ?_) | (with_reducible refine CallP_gives (fun vs w => by kernel_rfl) (by kernel_rfl) (gt) ?_) | (with_reducible refine RCallP_gives (fun vs w => by kernel_rfl) (by kernel_rfl) (gt) ?_) | (with_reducible refine CallP_gives (fun vs w => by kernel_rfl) (by kernel_rfl) (gr) ?_) | (with_reducible refine RCallP_gives (fun vs w => by kernel_rfl) (by kernel_rfl) (gr) ?_) | (with_reducible refine CallP_gives (fun vs w => by kernel_rfl) (by kernel_rfl) (gp) ?_) | (with_reducible refine RCallP_gives (fun vs w => by kernel_rfl) (by kernel_rfl) (gp) ?_))))
    conv => whnf
    try simp
  · have gt := Text_none (c := c) h hn ht
    generalize pathE S n = E at *
    (repeat ((try (conv => whnf)); (first | (with_reducible refine condP_true ?_) | (with_reducible refine condP_false ?_) | (with_reducible refine condP_not ?_) | (with_reducible refine condP_and ?_) | ((with_reducible refine condP_dt ?_ ?_); (· omega)) | ((with_reducible refine condP_df ?_ ?_); (· omega)) | ((with_reducible refine condP_yes ?_ ?_); (· assumption)) | ((with_reducible refine condP_no ?_ ?_); (· assumption)) | ((with_reducible refine ArP_i64 ?_ ?_); (· omega)) | ((with_reducible refine mustP.mk ?_ ?_); (· first | omega | rfl | (dsimp only; omega))) | (with_reducible refine EqP_nil tab_ok ?_) | (with_reducible refine EqP_sli tab_ok ?_) | (with_reducible refine DrawP_auto tab_ok (by kernel_rfl) (by decide +kernel) ?_) | (with_reducible refine DrawP_auto2 tab_ok (by kernel_rfl) (by decide +kernel) ?_) | (with_reducible refine eq34 ?_) | (with_reducible refine eq36 ?_) | (with_reducible refine eq46 ?_) | (with_reducible refine CallP_gives (fun vs w => by kernel_rfl) (by kernel_rfl) (paths_gives) ?_) | (with_reducible refine RCallP_gives (fun vs w => by kernel_rfl) (by kernel_rfl) (paths_gives) ?_) | (with_reducible refine CallP_gives (fun vs w => by kernel_rfl) (by kernel_rfl) (gt) ?_) | (with_reducible refine RCallP_gives (fun vs w => by kernel_rfl) (by kernel_rfl) (gt) ?_) | (with_reducible refine CallP_gives (fun vs w => by kernel_rfl) (by kernel_rfl) (gp) ?_) | (with_reducible refine RCallP_gives (fun vs w => by kernel_rfl) (by kernel_rfl) (gp) ?_))))
    conv => whnf
    try simp
theorem walk (A0 : Option Addr) (n0 : Nat) (cap0 : Nat) (f0 : Nat → Nat → Int) (w : World) (c0 : n0 ≤ cap0) (m0 : cap0 ≤ maxLen) (w0 : RecsAt .i64 w A0 n0 6 f0) (z0 : RecsIn .i64 n0 6 f0) (hT : TabIs Tryd.prog w "internal/strconv.uint64pow10" .u64 pow10Tab) :
    Calls Tryd.prog 3 #[.slice A0 n0 cap0] w fun e w' => e = .returned (.bool true) ∧ Below w.heap.size w w' :=
  walk_of tab_ok Tryd.func3 (rels_map_val (β := noName) [.slice A0 n0 cap0]) (body (segs_m w0) (Nat.le_trans c0 m0) (tab_m hT))
end Go.Proofs.YthbppimjaealnaaDoor.pathTextWords
