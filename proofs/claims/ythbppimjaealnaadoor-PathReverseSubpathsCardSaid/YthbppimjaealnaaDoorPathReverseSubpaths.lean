/-
  PathReverseSubpaths: the law's walk.
-/
import Derived.Test.YthbppimjaealnaaDoorReverse
import Derived.Test.YthbppimjaealnaaDoorSameSegs
import Derived.Test.YthbppimjaealnaaDoorPathsH
import Derived.Test.YthbppimjaealnaaDoorSegMem
namespace Go.Proofs.YthbppimjaealnaaDoor.pathReverseSubpaths
open Go.RowKit
set_option linter.unusedVariables false
set_option maxRecDepth 20000
theorem segs_frozen {G : Mem} {A : Option Addr} {n : Nat} {S : Nat → SegD} (h : flatC (revC S n) n = [] ∨ ∃ b, A = some ⟨b, 0, none⟩ ∧ ∀ (j : Nat) u, (flatC (revC S n) n)[j]? = some u → G.cell? ⟨b, j, none⟩ = some u) : SegsM G A n (revS S n) :=
  ElsM.frozen (fun _ _ => rfl) h (by omega)
set_option maxHeartbeats 8000000 in
theorem body {A : Option Addr} {n c : Nat} {S : Nat → SegD} {G : Mem} (h : SegsM G A n S) (hc : n ≤ c) (hm : c ≤ maxLen) :
    bodyV Tryd.prog tab 0 Tryd.f6 [.val (.slice A n c)] [] G fun v _ _ => v = .val (.bool true) := by
  have hn := Nat.le_trans hc hm
  by_cases ht : pathE S n = 0
  · have hsm := pathE_few ht
    have mk := Reverse_makes h hc hm ht
    (repeat ((try (conv => whnf)); (first | (with_reducible refine condP_true ?_) | (with_reducible refine condP_false ?_) | (with_reducible refine condP_not ?_) | (with_reducible refine condP_and ?_) | ((with_reducible refine condP_dt ?_ ?_); (· omega)) | ((with_reducible refine condP_df ?_ ?_); (· omega)) | ((with_reducible refine condP_yes ?_ ?_); (· assumption)) | ((with_reducible refine condP_no ?_ ?_); (· assumption)) | ((with_reducible refine ArP_i64 ?_ ?_); (· omega)) | ((with_reducible refine mustP.mk ?_ ?_); (· first | omega | rfl | (dsimp only; omega))) | (with_reducible refine EqP_nil tab_ok ?_) | (with_reducible refine EqP_sli tab_ok ?_) | (with_reducible refine DrawP_auto tab_ok (by kernel_rfl) (by decide +kernel) ?_) | (with_reducible refine DrawP_auto2 tab_ok (by kernel_rfl) (by decide +kernel) ?_) | (with_reducible refine eq34 ?_) | (with_reducible refine eq36 ?_) | (with_reducible refine eq46 ?_) | (with_reducible refine CallP_gives (fun vs w => by kernel_rfl) (by kernel_rfl) (paths_gives) ?_) | (with_reducible refine RCallP_gives (fun vs w => by kernel_rfl) (by kernel_rfl) (paths_gives) ?_))))
    conv => whnf
    refine CallP_freeze (fun vs w => by kernel_rfl) (pairR_wraps 0) (by kernel_rfl) mk fun A1 c1 G1 hG1 hc1 hm1 hx1 => ?_
    have s1 := segs_frozen hx1
    have gp := RPCheck_gives (c := c) (h.mono hG1) hn
    rw [ht] at gp
    have mk2 := Reversed_makes (c := c) (h.mono hG1) hsm (errS_first ht)
    (repeat ((try (conv => whnf)); (first | (with_reducible refine condP_true ?_) | (with_reducible refine condP_false ?_) | (with_reducible refine condP_not ?_) | (with_reducible refine condP_and ?_) | ((with_reducible refine condP_dt ?_ ?_); (· omega)) | ((with_reducible refine condP_df ?_ ?_); (· omega)) | ((with_reducible refine condP_yes ?_ ?_); (· assumption)) | ((with_reducible refine condP_no ?_ ?_); (· assumption)) | ((with_reducible refine ArP_i64 ?_ ?_); (· omega)) | ((with_reducible refine mustP.mk ?_ ?_); (· first | omega | rfl | (dsimp only; omega))) | (with_reducible refine EqP_nil tab_ok ?_) | (with_reducible refine EqP_sli tab_ok ?_) | (with_reducible refine DrawP_auto tab_ok (by kernel_rfl) (by decide +kernel) ?_) | (with_reducible refine DrawP_auto2 tab_ok (by kernel_rfl) (by decide +kernel) ?_) | (with_reducible refine eq34 ?_) | (with_reducible refine eq36 ?_) | (with_reducible refine eq46 ?_) | (with_reducible refine CallP_gives (fun vs w => by kernel_rfl) (by kernel_rfl) (gp) ?_) | (with_reducible refine RCallP_gives (fun vs w => by kernel_rfl) (by kernel_rfl) (gp) ?_))))
    conv => whnf
    refine CallP_freeze (fun vs w => by kernel_rfl) (.alone fun _ => rfl) (by kernel_rfl) mk2 fun A2 c2 G2 hG2 hc2 hm2 hx2 => ?_
    have s2 := segs_frozen hx2
    have gs := SameSegs_ok (c := c1) (d := c2) (s1.mono hG2) s2 hsm
    clear mk mk2 hx1 hx2
    (repeat ((try (conv => whnf)); (first | (with_reducible refine condP_true ?_) | (with_reducible refine condP_false ?_) | (with_reducible refine condP_not ?_) | (with_reducible refine condP_and ?_) | ((with_reducible refine condP_dt ?_ ?_); (· omega)) | ((with_reducible refine condP_df ?_ ?_); (· omega)) | ((with_reducible refine condP_yes ?_ ?_); (· assumption)) | ((with_reducible refine condP_no ?_ ?_); (· assumption)) | ((with_reducible refine ArP_i64 ?_ ?_); (· omega)) | ((with_reducible refine mustP.mk ?_ ?_); (· first | omega | rfl | (dsimp only; omega))) | (with_reducible refine EqP_nil tab_ok ?_) | (with_reducible refine EqP_sli tab_ok ?_) | (with_reducible refine DrawP_auto tab_ok (by kernel_rfl) (by decide +kernel) ?_) | (with_reducible refine DrawP_auto2 tab_ok (by kernel_rfl) (by decide +kernel) ?_) | (with_reducible refine eq34 ?_) | (with_reducible refine eq36 ?_) | (with_reducible refine eq46 ?_) | (with_reducible refine CallP_gives (fun vs w => by kernel_rfl) (by kernel_rfl) (gs) ?_) | (with_reducible refine RCallP_gives (fun vs w => by kernel_rfl) (by kernel_rfl) (gs) ?_))))
    conv => whnf
    try simp
  · have g1 := Reverse_err (c := c) h hn ht
    have g2 := RPCheck_gives (c := c) h hn
    generalize pathE S n = E at *
    (repeat ((try (conv => whnf)); (first | (with_reducible refine condP_true ?_) | (with_reducible refine condP_false ?_) | (with_reducible refine condP_not ?_) | (with_reducible refine condP_and ?_) | ((with_reducible refine condP_dt ?_ ?_); (· omega)) | ((with_reducible refine condP_df ?_ ?_); (· omega)) | ((with_reducible refine condP_yes ?_ ?_); (· assumption)) | ((with_reducible refine condP_no ?_ ?_); (· assumption)) | ((with_reducible refine ArP_i64 ?_ ?_); (· omega)) | ((with_reducible refine mustP.mk ?_ ?_); (· first | omega | rfl | (dsimp only; omega))) | (with_reducible refine EqP_nil tab_ok ?_) | (with_reducible refine EqP_sli tab_ok ?_) | (with_reducible refine DrawP_auto tab_ok (by kernel_rfl) (by decide +kernel) ?_) | (with_reducible refine DrawP_auto2 tab_ok (by kernel_rfl) (by decide +kernel) ?_) | (with_reducible refine eq34 ?_) | (with_reducible refine eq36 ?_) | (with_reducible refine eq46 ?_) | (with_reducible refine CallP_gives (fun vs w => by kernel_rfl) (by kernel_rfl) (paths_gives) ?_) | (with_reducible refine RCallP_gives (fun vs w => by kernel_rfl) (by kernel_rfl) (paths_gives) ?_) | (with_reducible refine CallP_gives (fun vs w => by kernel_rfl) (by kernel_rfl) (g1) ?_) | (with_reducible refine RCallP_gives (fun vs w => by kernel_rfl) (by kernel_rfl) (g1) ?_) | (with_reducible refine CallP_gives (fun vs w => by kernel_rfl) (by kernel_rfl) (g2) ?_) | (with_reducible refine RCallP_gives (fun vs w => by kernel_rfl) (by kernel_rfl) (g2) ?_))))
    conv => whnf
    try simp
theorem walk (A0 : Option Addr) (n0 : Nat) (cap0 : Nat) (f0 : Nat → Nat → Int) (w : World) (c0 : n0 ≤ cap0) (m0 : cap0 ≤ maxLen) (w0 : RecsAt .i64 w A0 n0 6 f0) (z0 : RecsIn .i64 n0 6 f0) :
    Calls Tryd.prog 6 #[.slice A0 n0 cap0] w fun e w' => e = .returned (.bool true) ∧ Below w.heap.size w w' :=
  walk_of tab_ok Tryd.func6 (rels_map_val (β := noName) [.slice A0 n0 cap0]) (body (segs_m w0) c0 m0)
end Go.Proofs.YthbppimjaealnaaDoor.pathReverseSubpaths
