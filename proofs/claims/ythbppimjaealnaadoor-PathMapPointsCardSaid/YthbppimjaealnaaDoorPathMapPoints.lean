/-
  PathMapPoints: the law's walk.
-/
import Derived.Test.YthbppimjaealnaaDoorPathMapR
import Derived.Test.YthbppimjaealnaaDoorPathsH
import Derived.Test.YthbppimjaealnaaDoorSegMem
namespace Go.Proofs.YthbppimjaealnaaDoor.pathMapPoints
open Go.RowKit
set_option linter.unusedVariables false
set_option maxRecDepth 20000
theorem segs_frozen {G : Mem} {A : Option Addr} {n : Nat} {m : MatD} {S : Nat → SegD} (h : flatC (mapC m S) n = [] ∨ ∃ b, A = some ⟨b, 0, none⟩ ∧ ∀ (j : Nat) u, (flatC (mapC m S) n)[j]? = some u → G.cell? ⟨b, j, none⟩ = some u) : SegsM G A n (fun i => mapS m (S i)) :=
  ElsM.frozen (fun _ _ => rfl) h (by omega)
set_option maxHeartbeats 8000000 in
theorem body {A : Option Addr} {n c : Nat} {S : Nat → SegD} {m : MatD} {G : Mem} (h : SegsM G A n S) (hn : n ≤ maxLen) :
    bodyV Tryd.prog tab 0 Tryd.f7 [.val (.slice A n c), matA m.a m.b m.c m.d m.e m.f] [] G fun v _ _ => v = .val (.bool true) := by
  by_cases ht : mapT m S n = 0
  · have t1 : pathE S n = 0 := by unfold mapT at ht; split at ht <;> omega
    have hsm := pathE_small t1
    have mk := Map_makes (c := c) h hn ht
    (repeat ((try (conv => whnf)); (first | (with_reducible refine condP_true ?_) | (with_reducible refine condP_false ?_) | (with_reducible refine condP_not ?_) | (with_reducible refine condP_and ?_) | ((with_reducible refine condP_dt ?_ ?_); (· omega)) | ((with_reducible refine condP_df ?_ ?_); (· omega)) | ((with_reducible refine condP_yes ?_ ?_); (· assumption)) | ((with_reducible refine condP_no ?_ ?_); (· assumption)) | ((with_reducible refine ArP_i64 ?_ ?_); (· omega)) | ((with_reducible refine mustP.mk ?_ ?_); (· first | omega | rfl | (dsimp only; omega))) | (with_reducible refine EqP_nil tab_ok ?_) | (with_reducible refine EqP_sli tab_ok ?_) | (with_reducible refine DrawP_auto tab_ok (by kernel_rfl) (by decide +kernel) ?_) | (with_reducible refine DrawP_auto2 tab_ok (by kernel_rfl) (by decide +kernel) ?_) | (with_reducible refine eq34 ?_) | (with_reducible refine eq36 ?_) | (with_reducible refine eq46 ?_) | (with_reducible refine CallP_gives (fun vs w => by kernel_rfl) (by kernel_rfl) (paths_gives) ?_) | (with_reducible refine RCallP_gives (fun vs w => by kernel_rfl) (by kernel_rfl) (paths_gives) ?_))))
    conv => whnf
    refine CallP_freeze (fun vs w => by kernel_rfl) (pairE_wraps 0) (by kernel_rfl) mk fun A1 c1 G1 hG1 hc1 hm1 hx1 => ?_
    have s1 := segs_frozen hx1
    have mk2 := RMap_makes (c := c) (h.mono hG1) hn ht
    (repeat ((try (conv => whnf)); (first | (with_reducible refine condP_true ?_) | (with_reducible refine condP_false ?_) | (with_reducible refine condP_not ?_) | (with_reducible refine condP_and ?_) | ((with_reducible refine condP_dt ?_ ?_); (· omega)) | ((with_reducible refine condP_df ?_ ?_); (· omega)) | ((with_reducible refine condP_yes ?_ ?_); (· assumption)) | ((with_reducible refine condP_no ?_ ?_); (· assumption)) | ((with_reducible refine ArP_i64 ?_ ?_); (· omega)) | ((with_reducible refine mustP.mk ?_ ?_); (· first | omega | rfl | (dsimp only; omega))) | (with_reducible refine EqP_nil tab_ok ?_) | (with_reducible refine EqP_sli tab_ok ?_) | (with_reducible refine DrawP_auto tab_ok (by kernel_rfl) (by decide +kernel) ?_) | (with_reducible refine DrawP_auto2 tab_ok (by kernel_rfl) (by decide +kernel) ?_) | (with_reducible refine eq34 ?_) | (with_reducible refine eq36 ?_) | (with_reducible refine eq46 ?_))))
    conv => whnf
    refine CallP_freeze (fun vs w => by kernel_rfl) (pairE_wraps 0) (by kernel_rfl) mk2 fun A2 c2 G2 hG2 hc2 hm2 hx2 => ?_
    have s2 := segs_frozen hx2
    have gs := SameSegs_gives (c := c1) (d := c2) (s1.mono hG2) s2 hsm
    clear mk mk2 hx1 hx2
    (repeat ((try (conv => whnf)); (first | (with_reducible refine condP_true ?_) | (with_reducible refine condP_false ?_) | (with_reducible refine condP_not ?_) | (with_reducible refine condP_and ?_) | ((with_reducible refine condP_dt ?_ ?_); (· omega)) | ((with_reducible refine condP_df ?_ ?_); (· omega)) | ((with_reducible refine condP_yes ?_ ?_); (· assumption)) | ((with_reducible refine condP_no ?_ ?_); (· assumption)) | ((with_reducible refine ArP_i64 ?_ ?_); (· omega)) | ((with_reducible refine mustP.mk ?_ ?_); (· first | omega | rfl | (dsimp only; omega))) | (with_reducible refine EqP_nil tab_ok ?_) | (with_reducible refine EqP_sli tab_ok ?_) | (with_reducible refine DrawP_auto tab_ok (by kernel_rfl) (by decide +kernel) ?_) | (with_reducible refine DrawP_auto2 tab_ok (by kernel_rfl) (by decide +kernel) ?_) | (with_reducible refine eq34 ?_) | (with_reducible refine eq36 ?_) | (with_reducible refine eq46 ?_) | (with_reducible refine CallP_gives (fun vs w => by kernel_rfl) (by kernel_rfl) (gs) ?_) | (with_reducible refine RCallP_gives (fun vs w => by kernel_rfl) (by kernel_rfl) (gs) ?_))))
    conv => whnf
    try simp
  · have g1 := Map_err (c := c) h hn ht
    have g2 := RMap_err (c := c) h hn ht
    have gs := SameSegs_gives (G := G) (A := none) (B := none) (S := S) (n := 0) (c := 0) (d := 0) ElsM.none ElsM.none (by omega)
    generalize mapT m S n = E at *
    (repeat ((try (conv => whnf)); (first | (with_reducible refine condP_true ?_) | (with_reducible refine condP_false ?_) | (with_reducible refine condP_not ?_) | (with_reducible refine condP_and ?_) | ((with_reducible refine condP_dt ?_ ?_); (· omega)) | ((with_reducible refine condP_df ?_ ?_); (· omega)) | ((with_reducible refine condP_yes ?_ ?_); (· assumption)) | ((with_reducible refine condP_no ?_ ?_); (· assumption)) | ((with_reducible refine ArP_i64 ?_ ?_); (· omega)) | ((with_reducible refine mustP.mk ?_ ?_); (· first | omega | rfl | (dsimp only; omega))) | (with_reducible refine EqP_nil tab_ok ?_) | (with_reducible refine EqP_sli tab_ok ?_) | (with_reducible refine DrawP_auto tab_ok (by kernel_rfl) (by decide +kernel) ?_) | (with_reducible refine DrawP_auto2 tab_ok (by kernel_rfl) (by decide +kernel) ?_) | (with_reducible refine eq34 ?_) | (with_reducible refine eq36 ?_) | (with_reducible refine eq46 ?_) | (with_reducible refine CallP_gives (fun vs w => by kernel_rfl) (by kernel_rfl) (paths_gives) ?_) | (with_reducible refine RCallP_gives (fun vs w => by kernel_rfl) (by kernel_rfl) (paths_gives) ?_) | (with_reducible refine CallP_gives (fun vs w => by kernel_rfl) (by kernel_rfl) (g1) ?_) | (with_reducible refine RCallP_gives (fun vs w => by kernel_rfl) (by kernel_rfl) (g1) ?_) | (with_reducible refine CallP_gives (fun vs w => by kernel_rfl) (by kernel_rfl) (g2) ?_) | (with_reducible refine RCallP_gives (fun vs w => by kernel_rfl) (by kernel_rfl) (g2) ?_) | (with_reducible refine CallP_gives (fun vs w => by kernel_rfl) (by kernel_rfl) (gs) ?_) | (with_reducible refine RCallP_gives (fun vs w => by kernel_rfl) (by kernel_rfl) (gs) ?_))))
    conv => whnf
    try simp
theorem walk (A0 : Option Addr) (n0 : Nat) (cap0 : Nat) (f0 : Nat → Nat → Int) (ma1 mb1 mc1 md1 me1 mf1 : Int) (w : World) (c0 : n0 ≤ cap0) (m0 : cap0 ≤ maxLen) (w0 : RecsAt .i64 w A0 n0 6 f0) (z0 : RecsIn .i64 n0 6 f0) (w1 : ∀ z ∈ [ma1, mb1, mc1, md1, me1, mf1], (Lit.int .i64 z).wf = true) :
    Calls Tryd.prog 7 #[.slice A0 n0 cap0, .agg #[.int .i64 ma1, .int .i64 mb1, .int .i64 mc1, .int .i64 md1, .int .i64 me1, .int .i64 mf1]] w fun e w' => e = .returned (.bool true) ∧ Below w.heap.size w w' := by
  have h := body (c := cap0) (m := ⟨ma1, mb1, mc1, md1, me1, mf1⟩) (segs_m w0) (Nat.le_trans c0 m0)
  exact walk_of tab_ok Tryd.func7 (by simp only [AV.rels, AV.rel]; exact ⟨_, _, rfl, rfl, _, _, rfl, ⟨_, rfl, by exact ⟨_, _, rfl, rfl, _, _, rfl, rfl, _, _, rfl, rfl, _, _, rfl, rfl, _, _, rfl, rfl, _, _, rfl, rfl, rfl⟩⟩, rfl⟩) h
end Go.Proofs.YthbppimjaealnaaDoor.pathMapPoints
