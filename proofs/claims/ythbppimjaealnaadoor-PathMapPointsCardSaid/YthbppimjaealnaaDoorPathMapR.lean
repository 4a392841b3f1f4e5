/-
  The reference's PathMap; SameSegs.
-/
import Derived.Test.YthbppimjaealnaaDoorPathMap
namespace Go.Proofs.YthbppimjaealnaaDoor
open Go.RowKit
set_option linter.unusedVariables false
set_option linter.unusedSimpArgs false
set_option maxRecDepth 20000
section
variable {G : Mem} {A : Option Addr} {n c : Nat} {S : Nat → SegD} {m : MatD}
set_option maxHeartbeats 8000000 in
theorem RMap_makes (h : SegsM G A n S) (hn : n ≤ maxLen) (ht : mapT m S n = 0) :
    Makes Tryd.prog 20 [.val (.slice A n c), matA m.a m.b m.c m.d m.e m.f] G (pairE 0) 36 6 n (flatC (mapC m S) n) := by
  have hn' : n ≤ 9223372036854775807 := by unfold maxLen at hn; omega
  have gp := RPCheck_gives (c := c) h hn
  have gm := RMapCheck_gives (m := m) (G := G)
  have t1 : pathE S n = 0 := by unfold mapT at ht; split at ht <;> omega
  have t2 : matR m = 0 := by unfold mapT at ht; rw [t1] at ht; simp only [ne_eq, not_true, if_false] at ht; split at ht <;> omega
  have t3 : firstV (fun i => mapF m (S i)) n = 0 := by unfold mapT at ht; rw [t1, t2] at ht; simpa using ht
  have t3 := firstV_ok t3
  have hsm := pathE_small t1
  rw [t1] at gp
  rw [t2] at gm
  refine Makes_of tab_ok Tryd.func20 (pairE_wraps 0) ?_
  (repeat ((try (conv => whnf)); (first | (with_reducible refine condP_true ?_) | (with_reducible refine condP_false ?_) | (with_reducible refine condP_not ?_) | (with_reducible refine condP_and ?_) | ((with_reducible refine condP_dt ?_ ?_); (· omega)) | ((with_reducible refine condP_df ?_ ?_); (· omega)) | ((with_reducible refine condP_yes ?_ ?_); (· assumption)) | ((with_reducible refine condP_no ?_ ?_); (· assumption)) | ((with_reducible refine ArP_i64 ?_ ?_); (· omega)) | ((with_reducible refine mustP.mk ?_ ?_); (· first | omega | rfl | (dsimp only; omega))) | (with_reducible refine EqP_nil tab_ok ?_) | (with_reducible refine EqP_sli tab_ok ?_) | (with_reducible refine DrawP_auto tab_ok (by kernel_rfl) (by decide +kernel) ?_) | (with_reducible refine DrawP_auto2 tab_ok (by kernel_rfl) (by decide +kernel) ?_) | (with_reducible refine eq34 ?_) | (with_reducible refine eq36 ?_) | (with_reducible refine eq46 ?_) | (with_reducible refine CallP_gives (fun vs w => by kernel_rfl) (by kernel_rfl) (gp) ?_) | (with_reducible refine RCallP_gives (fun vs w => by kernel_rfl) (by kernel_rfl) (gp) ?_) | (with_reducible refine CallP_gives (fun vs w => by kernel_rfl) (by kernel_rfl) (gm) ?_) | (with_reducible refine RCallP_gives (fun vs w => by kernel_rfl) (by kernel_rfl) (gm) ?_))))
  conv => whnf
  refine LoopP_at tab_ok (fun i => i ≤ n) (fun (i : Nat) => [(27, .val (.int .i64 i)), (8, .own 1)]) (fun i => [.cells 46 [.val (.int .i64 m.a), .val (.int .i64 m.b), .val (.int .i64 m.c), .val (.int .i64 m.d), .val (.int .i64 m.e), .val (.int .i64 m.f)], .own 36 6 i (flatC (mapC m S) i)]) (fun i => n - i) 0 (Nat.zero_le _) ?_ ?_
  · refine Le_own 36 6 ?_
    conv => whnf
    ((refine Le_head ?_); (conv => whnf); (refine Le_mk (by rfl) (by rfl) ?_ ?_); (· (repeat (first | (with_reducible exact frLe_nil) | (with_reducible refine frLe_any ?_) | (with_reducible refine frLe_val ?_) | ((with_reducible refine frLe_eq rfl ?_ ?_); (· rfl)) | ((with_reducible refine frLe_val' (int_eq ?_) ?_ ?_); (· omega); (· rfl)) | ((with_reducible refine frLe_val' (int_eq ?_) ?_ ?_); (· simp only [Int.natCast_add, Int.natCast_one, Int.natCast_ofNat] <;> omega); (· rfl)) | ((with_reducible refine frLe_val' (bool_eq ?_) ?_ ?_); (· first | assumption | (symm; assumption)); (· rfl))))))
    exact hpLe_cells (by (repeat (first | (with_reducible exact frLe_nil) | (with_reducible refine frLe_any ?_) | (with_reducible refine frLe_val ?_) | ((with_reducible refine frLe_eq rfl ?_ ?_); (· rfl)) | ((with_reducible refine frLe_val' (int_eq ?_) ?_ ?_); (· omega); (· rfl)) | ((with_reducible refine frLe_val' (int_eq ?_) ?_ ?_); (· simp only [Int.natCast_add, Int.natCast_one, Int.natCast_ofNat] <;> omega); (· rfl)) | ((with_reducible refine frLe_val' (bool_eq ?_) ?_ ?_); (· first | assumption | (symm; assumption)); (· rfl))))) (hpLe_own rfl rfl hpLe_nil)
  · rintro i hi
    rcases Nat.lt_or_ge i n with h1 | h1
    · obtain ⟨p, rfl, ca⟩ := h.cells h1
      have t := t3 i h1
      unfold mapF at t
      by_cases k4 : (S i).k = 4
      · have e := mapC_close (m := m) k4
        clear h t t3
        (repeat ((try (conv => whnf)); (first | (refine ca _ ?_) | (with_reducible refine condP_true ?_) | (with_reducible refine condP_false ?_) | (with_reducible refine condP_not ?_) | (with_reducible refine condP_and ?_) | ((with_reducible refine condP_dt ?_ ?_); (· omega)) | ((with_reducible refine condP_df ?_ ?_); (· omega)) | ((with_reducible refine condP_yes ?_ ?_); (· assumption)) | ((with_reducible refine condP_no ?_ ?_); (· assumption)) | ((with_reducible refine ArP_i64 ?_ ?_); (· omega)) | ((with_reducible refine mustP.mk ?_ ?_); (· first | omega | rfl | (dsimp only; omega))) | (with_reducible refine EqP_nil tab_ok ?_) | (with_reducible refine EqP_sli tab_ok ?_) | (with_reducible refine DrawP_auto tab_ok (by kernel_rfl) (by decide +kernel) ?_) | (with_reducible refine DrawP_auto2 tab_ok (by kernel_rfl) (by decide +kernel) ?_) | (with_reducible refine eq34 ?_) | (with_reducible refine eq36 ?_) | (with_reducible refine eq46 ?_))))
        conv => whnf
        refine ⟨i + 1, by omega, by omega, ?_⟩
        refine Le_move 4 1 rfl rfl rfl rfl ?_
        conv => whnf
        ((refine Le_head ?_); (conv => whnf); (refine Le_mk (by rfl) (by rfl) ?_ ?_); (· (repeat (first | (with_reducible exact frLe_nil) | (with_reducible refine frLe_any ?_) | (with_reducible refine frLe_val ?_) | ((with_reducible refine frLe_eq rfl ?_ ?_); (· rfl)) | ((with_reducible refine frLe_val' (int_eq ?_) ?_ ?_); (· omega); (· rfl)) | ((with_reducible refine frLe_val' (int_eq ?_) ?_ ?_); (· simp only [Int.natCast_add, Int.natCast_one, Int.natCast_ofNat] <;> omega); (· rfl)) | ((with_reducible refine frLe_val' (bool_eq ?_) ?_ ?_); (· first | assumption | (symm; assumption)); (· rfl))))))
        exact hpLe_cells (by (repeat (first | (with_reducible exact frLe_nil) | (with_reducible refine frLe_any ?_) | (with_reducible refine frLe_val ?_) | ((with_reducible refine frLe_eq rfl ?_ ?_); (· rfl)) | ((with_reducible refine frLe_val' (int_eq ?_) ?_ ?_); (· omega); (· rfl)) | ((with_reducible refine frLe_val' (int_eq ?_) ?_ ?_); (· simp only [Int.natCast_add, Int.natCast_one, Int.natCast_ofNat] <;> omega); (· rfl)) | ((with_reducible refine frLe_val' (bool_eq ?_) ?_ ?_); (· first | assumption | (symm; assumption)); (· rfl))))) (hpLe_own rfl (by rw [flatC, e]) hpLe_nil)
      rw [if_neg k4] at t
      have a1 : apE m (S i).x (S i).y = 0 := by
        split at t
        · assumption
        · rename_i hx; exact Decidable.not_not.1 hx
      have g1 := RApply_gives (m := m) (x := (S i).x) (y := (S i).y) (G := G)
      rw [apV_ok a1] at g1
      by_cases k3 : (S i).k = 3
      · have a2 : apE m (S i).u (S i).v = 0 := by
          rw [a1, if_pos k3] at t
          simpa using t
        have g2 := RApply_gives (m := m) (x := (S i).u) (y := (S i).v) (G := G)
        rw [apV_ok a2] at g2
        have e := mapC_curve (m := m) k3
        clear h t t3 a1 a2
        generalize apX m (S i).x (S i).y = X1 at *
        generalize apY m (S i).x (S i).y = Y1 at *
        generalize apX m (S i).u (S i).v = X2 at *
        generalize apY m (S i).u (S i).v = Y2 at *
        (repeat ((try (conv => whnf)); (first | (refine ca _ ?_) | (with_reducible refine DrawP_mk tab_ok (by kernel_rfl) 6 [2] (by decide +kernel) ?_) | (with_reducible refine condP_true ?_) | (with_reducible refine condP_false ?_) | (with_reducible refine condP_not ?_) | (with_reducible refine condP_and ?_) | ((with_reducible refine condP_dt ?_ ?_); (· omega)) | ((with_reducible refine condP_df ?_ ?_); (· omega)) | ((with_reducible refine condP_yes ?_ ?_); (· assumption)) | ((with_reducible refine condP_no ?_ ?_); (· assumption)) | ((with_reducible refine ArP_i64 ?_ ?_); (· omega)) | ((with_reducible refine mustP.mk ?_ ?_); (· first | omega | rfl | (dsimp only; omega))) | (with_reducible refine EqP_nil tab_ok ?_) | (with_reducible refine EqP_sli tab_ok ?_) | (with_reducible refine DrawP_auto tab_ok (by kernel_rfl) (by decide +kernel) ?_) | (with_reducible refine DrawP_auto2 tab_ok (by kernel_rfl) (by decide +kernel) ?_) | (with_reducible refine eq34 ?_) | (with_reducible refine eq36 ?_) | (with_reducible refine eq46 ?_) | (with_reducible refine CallP_gives (fun vs w => by kernel_rfl) (by kernel_rfl) (g1) ?_) | (with_reducible refine RCallP_gives (fun vs w => by kernel_rfl) (by kernel_rfl) (g1) ?_) | (with_reducible refine CallP_gives (fun vs w => by kernel_rfl) (by kernel_rfl) (g2) ?_) | (with_reducible refine RCallP_gives (fun vs w => by kernel_rfl) (by kernel_rfl) (g2) ?_))))
        conv => whnf
        refine ⟨i + 1, by omega, by omega, ?_⟩
        refine Le_move 6 1 rfl rfl rfl rfl ?_
        conv => whnf
        ((refine Le_head ?_); (conv => whnf); (refine Le_mk (by rfl) (by rfl) ?_ ?_); (· (repeat (first | (with_reducible exact frLe_nil) | (with_reducible refine frLe_any ?_) | (with_reducible refine frLe_val ?_) | ((with_reducible refine frLe_eq rfl ?_ ?_); (· rfl)) | ((with_reducible refine frLe_val' (int_eq ?_) ?_ ?_); (· omega); (· rfl)) | ((with_reducible refine frLe_val' (int_eq ?_) ?_ ?_); (· simp only [Int.natCast_add, Int.natCast_one, Int.natCast_ofNat] <;> omega); (· rfl)) | ((with_reducible refine frLe_val' (bool_eq ?_) ?_ ?_); (· first | assumption | (symm; assumption)); (· rfl))))))
        exact hpLe_cells (by (repeat (first | (with_reducible exact frLe_nil) | (with_reducible refine frLe_any ?_) | (with_reducible refine frLe_val ?_) | ((with_reducible refine frLe_eq rfl ?_ ?_); (· rfl)) | ((with_reducible refine frLe_val' (int_eq ?_) ?_ ?_); (· omega); (· rfl)) | ((with_reducible refine frLe_val' (int_eq ?_) ?_ ?_); (· simp only [Int.natCast_add, Int.natCast_one, Int.natCast_ofNat] <;> omega); (· rfl)) | ((with_reducible refine frLe_val' (bool_eq ?_) ?_ ?_); (· first | assumption | (symm; assumption)); (· rfl))))) (hpLe_own rfl (by rw [flatC, e]) hpLe_nil)
      · have e := mapC_other (m := m) k4 k3
        clear h t t3 a1
        generalize apX m (S i).x (S i).y = X1 at *
        generalize apY m (S i).x (S i).y = Y1 at *
        (repeat ((try (conv => whnf)); (first | (refine ca _ ?_) | (with_reducible refine DrawP_mk tab_ok (by kernel_rfl) 6 [2] (by decide +kernel) ?_) | (with_reducible refine condP_true ?_) | (with_reducible refine condP_false ?_) | (with_reducible refine condP_not ?_) | (with_reducible refine condP_and ?_) | ((with_reducible refine condP_dt ?_ ?_); (· omega)) | ((with_reducible refine condP_df ?_ ?_); (· omega)) | ((with_reducible refine condP_yes ?_ ?_); (· assumption)) | ((with_reducible refine condP_no ?_ ?_); (· assumption)) | ((with_reducible refine ArP_i64 ?_ ?_); (· omega)) | ((with_reducible refine mustP.mk ?_ ?_); (· first | omega | rfl | (dsimp only; omega))) | (with_reducible refine EqP_nil tab_ok ?_) | (with_reducible refine EqP_sli tab_ok ?_) | (with_reducible refine DrawP_auto tab_ok (by kernel_rfl) (by decide +kernel) ?_) | (with_reducible refine DrawP_auto2 tab_ok (by kernel_rfl) (by decide +kernel) ?_) | (with_reducible refine eq34 ?_) | (with_reducible refine eq36 ?_) | (with_reducible refine eq46 ?_) | (with_reducible refine CallP_gives (fun vs w => by kernel_rfl) (by kernel_rfl) (g1) ?_) | (with_reducible refine RCallP_gives (fun vs w => by kernel_rfl) (by kernel_rfl) (g1) ?_))))
        conv => whnf
        refine ⟨i + 1, by omega, by omega, ?_⟩
        refine Le_move 5 1 rfl rfl rfl rfl ?_
        conv => whnf
        ((refine Le_head ?_); (conv => whnf); (refine Le_mk (by rfl) (by rfl) ?_ ?_); (· (repeat (first | (with_reducible exact frLe_nil) | (with_reducible refine frLe_any ?_) | (with_reducible refine frLe_val ?_) | ((with_reducible refine frLe_eq rfl ?_ ?_); (· rfl)) | ((with_reducible refine frLe_val' (int_eq ?_) ?_ ?_); (· omega); (· rfl)) | ((with_reducible refine frLe_val' (int_eq ?_) ?_ ?_); (· simp only [Int.natCast_add, Int.natCast_one, Int.natCast_ofNat] <;> omega); (· rfl)) | ((with_reducible refine frLe_val' (bool_eq ?_) ?_ ?_); (· first | assumption | (symm; assumption)); (· rfl))))))
        exact hpLe_cells (by (repeat (first | (with_reducible exact frLe_nil) | (with_reducible refine frLe_any ?_) | (with_reducible refine frLe_val ?_) | ((with_reducible refine frLe_eq rfl ?_ ?_); (· rfl)) | ((with_reducible refine frLe_val' (int_eq ?_) ?_ ?_); (· omega); (· rfl)) | ((with_reducible refine frLe_val' (int_eq ?_) ?_ ?_); (· simp only [Int.natCast_add, Int.natCast_one, Int.natCast_ofNat] <;> omega); (· rfl)) | ((with_reducible refine frLe_val' (bool_eq ?_) ?_ ?_); (· first | assumption | (symm; assumption)); (· rfl))))) (hpLe_own rfl (by rw [flatC, e]) hpLe_nil)
    · obtain rfl : i = n := by omega
      (repeat ((try (conv => whnf)); (first | (with_reducible refine condP_true ?_) | (with_reducible refine condP_false ?_) | (with_reducible refine condP_not ?_) | (with_reducible refine condP_and ?_) | ((with_reducible refine condP_dt ?_ ?_); (· omega)) | ((with_reducible refine condP_df ?_ ?_); (· omega)) | ((with_reducible refine condP_yes ?_ ?_); (· assumption)) | ((with_reducible refine condP_no ?_ ?_); (· assumption)) | ((with_reducible refine ArP_i64 ?_ ?_); (· omega)) | ((with_reducible refine mustP.mk ?_ ?_); (· first | omega | rfl | (dsimp only; omega))) | (with_reducible refine EqP_nil tab_ok ?_) | (with_reducible refine EqP_sli tab_ok ?_) | (with_reducible refine DrawP_auto tab_ok (by kernel_rfl) (by decide +kernel) ?_) | (with_reducible refine DrawP_auto2 tab_ok (by kernel_rfl) (by decide +kernel) ?_) | (with_reducible refine eq34 ?_) | (with_reducible refine eq36 ?_) | (with_reducible refine eq46 ?_))))
      exact .inl ⟨1, rfl, rfl⟩
set_option maxHeartbeats 8000000 in
theorem RMap_err (h : SegsM G A n S) (hn : n ≤ maxLen) (ht : mapT m S n ≠ 0) :
    Gives Tryd.prog 20 [.val (.slice A n c), matA m.a m.b m.c m.d m.e m.f] G (.tup [.val (.slice none 0 0), .val (.int .i64 (mapT m S n))]) := by
  have hn' : n ≤ 9223372036854775807 := by unfold maxLen at hn; omega
  have gp := RPCheck_gives (c := c) h hn
  have gm := RMapCheck_gives (m := m) (G := G)
  refine Gives_of tab_ok Tryd.func20 ?_
  by_cases t1 : pathE S n = 0
  · have hsm := pathE_small t1
    by_cases t2 : matR m = 0
    · have t3 : mapT m S n = firstV (fun i => mapF m (S i)) n := by unfold mapT; rw [if_neg (by simp [t1]), if_neg (by simp [t2])]
      rw [t1] at gp
      rw [t2] at gm
      rw [t3] at ht ⊢
      generalize hV : firstV (fun i => mapF m (S i)) n = V at *
      clear t1 t2 t3
      (repeat ((try (conv => whnf)); (first | (with_reducible refine condP_true ?_) | (with_reducible refine condP_false ?_) | (with_reducible refine condP_not ?_) | (with_reducible refine condP_and ?_) | ((with_reducible refine condP_dt ?_ ?_); (· omega)) | ((with_reducible refine condP_df ?_ ?_); (· omega)) | ((with_reducible refine condP_yes ?_ ?_); (· assumption)) | ((with_reducible refine condP_no ?_ ?_); (· assumption)) | ((with_reducible refine ArP_i64 ?_ ?_); (· omega)) | ((with_reducible refine mustP.mk ?_ ?_); (· first | omega | rfl | (dsimp only; omega))) | (with_reducible refine EqP_nil tab_ok ?_) | (with_reducible refine EqP_sli tab_ok ?_) | (with_reducible refine DrawP_auto tab_ok (by kernel_rfl) (by decide +kernel) ?_) | (with_reducible refine DrawP_auto2 tab_ok (by kernel_rfl) (by decide +kernel) ?_) | (with_reducible refine eq34 ?_) | (with_reducible refine eq36 ?_) | (with_reducible refine eq46 ?_) | (with_reducible refine CallP_gives (fun vs w => by kernel_rfl) (by kernel_rfl) (gp) ?_) | (with_reducible refine RCallP_gives (fun vs w => by kernel_rfl) (by kernel_rfl) (gp) ?_) | (with_reducible refine CallP_gives (fun vs w => by kernel_rfl) (by kernel_rfl) (gm) ?_) | (with_reducible refine RCallP_gives (fun vs w => by kernel_rfl) (by kernel_rfl) (gm) ?_))))
      conv => whnf
      refine LoopP_at tab_ok (fun i => i ≤ n ∧ firstV (fun i => mapF m (S i)) i = 0) (fun (i : Nat) => [(27, .val (.int .i64 i)), (8, .own 1)]) (fun i => [.cells 46 [.val (.int .i64 m.a), .val (.int .i64 m.b), .val (.int .i64 m.c), .val (.int .i64 m.d), .val (.int .i64 m.e), .val (.int .i64 m.f)], .own 36 6 i (flatC (mapC m S) i)]) (fun i => n - i) 0 ⟨Nat.zero_le _, rfl⟩ ?_ ?_
      · refine Le_own 36 6 ?_
        conv => whnf
        ((refine Le_head ?_); (conv => whnf); (refine Le_mk (by rfl) (by rfl) ?_ ?_); (· (repeat (first | (with_reducible exact frLe_nil) | (with_reducible refine frLe_any ?_) | (with_reducible refine frLe_val ?_) | ((with_reducible refine frLe_eq rfl ?_ ?_); (· rfl)) | ((with_reducible refine frLe_val' (int_eq ?_) ?_ ?_); (· omega); (· rfl)) | ((with_reducible refine frLe_val' (int_eq ?_) ?_ ?_); (· simp only [Int.natCast_add, Int.natCast_one, Int.natCast_ofNat] <;> omega); (· rfl)) | ((with_reducible refine frLe_val' (bool_eq ?_) ?_ ?_); (· first | assumption | (symm; assumption)); (· rfl))))))
        exact hpLe_cells (by (repeat (first | (with_reducible exact frLe_nil) | (with_reducible refine frLe_any ?_) | (with_reducible refine frLe_val ?_) | ((with_reducible refine frLe_eq rfl ?_ ?_); (· rfl)) | ((with_reducible refine frLe_val' (int_eq ?_) ?_ ?_); (· omega); (· rfl)) | ((with_reducible refine frLe_val' (int_eq ?_) ?_ ?_); (· simp only [Int.natCast_add, Int.natCast_one, Int.natCast_ofNat] <;> omega); (· rfl)) | ((with_reducible refine frLe_val' (bool_eq ?_) ?_ ?_); (· first | assumption | (symm; assumption)); (· rfl))))) (hpLe_own rfl rfl hpLe_nil)
      · rintro i ⟨hi, h0⟩
        rcases Nat.lt_or_ge i n with h1 | h1
        · obtain ⟨p, rfl, ca⟩ := h.cells h1
          have first : ¬ mapF m (S i) = 0 → V = mapF m (S i) := fun hne => by rw [← hV]; exact firstV_first (err := fun i => mapF m (S i)) h0 hne h1
          have next := fun hh => firstV_next (err := fun i => mapF m (S i)) (k := i) h0 hh
          have hf : mapF m (S i) = if (S i).k = 4 then 0 else if apE m (S i).x (S i).y ≠ 0 then apE m (S i).x (S i).y else if (S i).k = 3 then apE m (S i).u (S i).v else 0 := rfl
          have g1 := RApply_gives (m := m) (x := (S i).x) (y := (S i).y) (G := G)
          have g2 := RApply_gives (m := m) (x := (S i).u) (y := (S i).v) (G := G)
          by_cases k4 : (S i).k = 4
          · have e := mapC_close (m := m) k4
            rw [if_pos k4] at hf
            have nx := next hf
            clear h first next hf g1 g2 hV h0
            (repeat ((try (conv => whnf)); (first | (refine ca _ ?_) | (with_reducible refine condP_true ?_) | (with_reducible refine condP_false ?_) | (with_reducible refine condP_not ?_) | (with_reducible refine condP_and ?_) | ((with_reducible refine condP_dt ?_ ?_); (· omega)) | ((with_reducible refine condP_df ?_ ?_); (· omega)) | ((with_reducible refine condP_yes ?_ ?_); (· assumption)) | ((with_reducible refine condP_no ?_ ?_); (· assumption)) | ((with_reducible refine ArP_i64 ?_ ?_); (· omega)) | ((with_reducible refine mustP.mk ?_ ?_); (· first | omega | rfl | (dsimp only; omega))) | (with_reducible refine EqP_nil tab_ok ?_) | (with_reducible refine EqP_sli tab_ok ?_) | (with_reducible refine DrawP_auto tab_ok (by kernel_rfl) (by decide +kernel) ?_) | (with_reducible refine DrawP_auto2 tab_ok (by kernel_rfl) (by decide +kernel) ?_) | (with_reducible refine eq34 ?_) | (with_reducible refine eq36 ?_) | (with_reducible refine eq46 ?_))))
            conv => whnf
            refine ⟨i + 1, ⟨by omega, nx⟩, by omega, ?_⟩
            refine Le_move 4 1 rfl rfl rfl rfl ?_
            conv => whnf
            ((refine Le_head ?_); (conv => whnf); (refine Le_mk (by rfl) (by rfl) ?_ ?_); (· (repeat (first | (with_reducible exact frLe_nil) | (with_reducible refine frLe_any ?_) | (with_reducible refine frLe_val ?_) | ((with_reducible refine frLe_eq rfl ?_ ?_); (· rfl)) | ((with_reducible refine frLe_val' (int_eq ?_) ?_ ?_); (· omega); (· rfl)) | ((with_reducible refine frLe_val' (int_eq ?_) ?_ ?_); (· simp only [Int.natCast_add, Int.natCast_one, Int.natCast_ofNat] <;> omega); (· rfl)) | ((with_reducible refine frLe_val' (bool_eq ?_) ?_ ?_); (· first | assumption | (symm; assumption)); (· rfl))))))
            exact hpLe_cells (by (repeat (first | (with_reducible exact frLe_nil) | (with_reducible refine frLe_any ?_) | (with_reducible refine frLe_val ?_) | ((with_reducible refine frLe_eq rfl ?_ ?_); (· rfl)) | ((with_reducible refine frLe_val' (int_eq ?_) ?_ ?_); (· omega); (· rfl)) | ((with_reducible refine frLe_val' (int_eq ?_) ?_ ?_); (· simp only [Int.natCast_add, Int.natCast_one, Int.natCast_ofNat] <;> omega); (· rfl)) | ((with_reducible refine frLe_val' (bool_eq ?_) ?_ ?_); (· first | assumption | (symm; assumption)); (· rfl))))) (hpLe_own rfl (by rw [flatC, e]) hpLe_nil)
          rw [if_neg k4] at hf
          by_cases a1 : apE m (S i).x (S i).y = 0
          · rw [apV_ok a1] at g1
            rw [a1, if_neg (by simp)] at hf
            by_cases k3 : (S i).k = 3
            · rw [if_pos k3] at hf
              have e := mapC_curve (m := m) k3
              by_cases a2 : apE m (S i).u (S i).v = 0
              · rw [apV_ok a2] at g2
                have nx := next (by rw [hf, a2])
                clear h first next hf hV h0 a1 a2
                generalize apX m (S i).x (S i).y = X1 at *
                generalize apY m (S i).x (S i).y = Y1 at *
                generalize apX m (S i).u (S i).v = X2 at *
                generalize apY m (S i).u (S i).v = Y2 at *
                (repeat ((try (conv => whnf)); (first | (refine ca _ ?_) | (with_reducible refine DrawP_mk tab_ok (by kernel_rfl) 6 [2] (by decide +kernel) ?_) | (with_reducible refine condP_true ?_) | (with_reducible refine condP_false ?_) | (with_reducible refine condP_not ?_) | (with_reducible refine condP_and ?_) | ((with_reducible refine condP_dt ?_ ?_); (· omega)) | ((with_reducible refine condP_df ?_ ?_); (· omega)) | ((with_reducible refine condP_yes ?_ ?_); (· assumption)) | ((with_reducible refine condP_no ?_ ?_); (· assumption)) | ((with_reducible refine ArP_i64 ?_ ?_); (· omega)) | ((with_reducible refine mustP.mk ?_ ?_); (· first | omega | rfl | (dsimp only; omega))) | (with_reducible refine EqP_nil tab_ok ?_) | (with_reducible refine EqP_sli tab_ok ?_) | (with_reducible refine DrawP_auto tab_ok (by kernel_rfl) (by decide +kernel) ?_) | (with_reducible refine DrawP_auto2 tab_ok (by kernel_rfl) (by decide +kernel) ?_) | (with_reducible refine eq34 ?_) | (with_reducible refine eq36 ?_) | (with_reducible refine eq46 ?_) | (with_reducible refine CallP_gives (fun vs w => by kernel_rfl) (by kernel_rfl) (g1) ?_) | (with_reducible refine RCallP_gives (fun vs w => by kernel_rfl) (by kernel_rfl) (g1) ?_) | (with_reducible refine CallP_gives (fun vs w => by kernel_rfl) (by kernel_rfl) (g2) ?_) | (with_reducible refine RCallP_gives (fun vs w => by kernel_rfl) (by kernel_rfl) (g2) ?_))))
                conv => whnf
                refine ⟨i + 1, ⟨by omega, nx⟩, by omega, ?_⟩
                refine Le_move 6 1 rfl rfl rfl rfl ?_
                conv => whnf
                ((refine Le_head ?_); (conv => whnf); (refine Le_mk (by rfl) (by rfl) ?_ ?_); (· (repeat (first | (with_reducible exact frLe_nil) | (with_reducible refine frLe_any ?_) | (with_reducible refine frLe_val ?_) | ((with_reducible refine frLe_eq rfl ?_ ?_); (· rfl)) | ((with_reducible refine frLe_val' (int_eq ?_) ?_ ?_); (· omega); (· rfl)) | ((with_reducible refine frLe_val' (int_eq ?_) ?_ ?_); (· simp only [Int.natCast_add, Int.natCast_one, Int.natCast_ofNat] <;> omega); (· rfl)) | ((with_reducible refine frLe_val' (bool_eq ?_) ?_ ?_); (· first | assumption | (symm; assumption)); (· rfl))))))
                exact hpLe_cells (by (repeat (first | (with_reducible exact frLe_nil) | (with_reducible refine frLe_any ?_) | (with_reducible refine frLe_val ?_) | ((with_reducible refine frLe_eq rfl ?_ ?_); (· rfl)) | ((with_reducible refine frLe_val' (int_eq ?_) ?_ ?_); (· omega); (· rfl)) | ((with_reducible refine frLe_val' (int_eq ?_) ?_ ?_); (· simp only [Int.natCast_add, Int.natCast_one, Int.natCast_ofNat] <;> omega); (· rfl)) | ((with_reducible refine frLe_val' (bool_eq ?_) ?_ ?_); (· first | assumption | (symm; assumption)); (· rfl))))) (hpLe_own rfl (by rw [flatC, e]) hpLe_nil)
              · rw [apV_bad a2] at g2
                rw [first (by rw [hf]; exact a2), hf]
                clear h first next hf hV h0 a1
                generalize apX m (S i).x (S i).y = X1 at *
                generalize apY m (S i).x (S i).y = Y1 at *
                generalize apE m (S i).u (S i).v = E2 at *
                (repeat ((try (conv => whnf)); (first | (refine ca _ ?_) | (with_reducible refine DrawP_mk tab_ok (by kernel_rfl) 6 [2] (by decide +kernel) ?_) | (with_reducible refine condP_true ?_) | (with_reducible refine condP_false ?_) | (with_reducible refine condP_not ?_) | (with_reducible refine condP_and ?_) | ((with_reducible refine condP_dt ?_ ?_); (· omega)) | ((with_reducible refine condP_df ?_ ?_); (· omega)) | ((with_reducible refine condP_yes ?_ ?_); (· assumption)) | ((with_reducible refine condP_no ?_ ?_); (· assumption)) | ((with_reducible refine ArP_i64 ?_ ?_); (· omega)) | ((with_reducible refine mustP.mk ?_ ?_); (· first | omega | rfl | (dsimp only; omega))) | (with_reducible refine EqP_nil tab_ok ?_) | (with_reducible refine EqP_sli tab_ok ?_) | (with_reducible refine DrawP_auto tab_ok (by kernel_rfl) (by decide +kernel) ?_) | (with_reducible refine DrawP_auto2 tab_ok (by kernel_rfl) (by decide +kernel) ?_) | (with_reducible refine eq34 ?_) | (with_reducible refine eq36 ?_) | (with_reducible refine eq46 ?_) | (with_reducible refine CallP_gives (fun vs w => by kernel_rfl) (by kernel_rfl) (g1) ?_) | (with_reducible refine RCallP_gives (fun vs w => by kernel_rfl) (by kernel_rfl) (g1) ?_) | (with_reducible refine CallP_gives (fun vs w => by kernel_rfl) (by kernel_rfl) (g2) ?_) | (with_reducible refine RCallP_gives (fun vs w => by kernel_rfl) (by kernel_rfl) (g2) ?_))))
                exact ⟨rfl, rfl⟩
            · rw [if_neg k3] at hf
              have nx := next hf
              have e := mapC_other (m := m) k4 k3
              clear h first next hf hV h0 a1 g2
              generalize apX m (S i).x (S i).y = X1 at *
              generalize apY m (S i).x (S i).y = Y1 at *
              (repeat ((try (conv => whnf)); (first | (refine ca _ ?_) | (with_reducible refine DrawP_mk tab_ok (by kernel_rfl) 6 [2] (by decide +kernel) ?_) | (with_reducible refine condP_true ?_) | (with_reducible refine condP_false ?_) | (with_reducible refine condP_not ?_) | (with_reducible refine condP_and ?_) | ((with_reducible refine condP_dt ?_ ?_); (· omega)) | ((with_reducible refine condP_df ?_ ?_); (· omega)) | ((with_reducible refine condP_yes ?_ ?_); (· assumption)) | ((with_reducible refine condP_no ?_ ?_); (· assumption)) | ((with_reducible refine ArP_i64 ?_ ?_); (· omega)) | ((with_reducible refine mustP.mk ?_ ?_); (· first | omega | rfl | (dsimp only; omega))) | (with_reducible refine EqP_nil tab_ok ?_) | (with_reducible refine EqP_sli tab_ok ?_) | (with_reducible refine DrawP_auto tab_ok (by kernel_rfl) (by decide +kernel) ?_) | (with_reducible refine DrawP_auto2 tab_ok (by kernel_rfl) (by decide +kernel) ?_) | (with_reducible refine eq34 ?_) | (with_reducible refine eq36 ?_) | (with_reducible refine eq46 ?_) | (with_reducible refine CallP_gives (fun vs w => by kernel_rfl) (by kernel_rfl) (g1) ?_) | (with_reducible refine RCallP_gives (fun vs w => by kernel_rfl) (by kernel_rfl) (g1) ?_))))
              conv => whnf
              refine ⟨i + 1, ⟨by omega, nx⟩, by omega, ?_⟩
              refine Le_move 5 1 rfl rfl rfl rfl ?_
              conv => whnf
              ((refine Le_head ?_); (conv => whnf); (refine Le_mk (by rfl) (by rfl) ?_ ?_); (· (repeat (first | (with_reducible exact frLe_nil) | (with_reducible refine frLe_any ?_) | (with_reducible refine frLe_val ?_) | ((with_reducible refine frLe_eq rfl ?_ ?_); (· rfl)) | ((with_reducible refine frLe_val' (int_eq ?_) ?_ ?_); (· omega); (· rfl)) | ((with_reducible refine frLe_val' (int_eq ?_) ?_ ?_); (· simp only [Int.natCast_add, Int.natCast_one, Int.natCast_ofNat] <;> omega); (· rfl)) | ((with_reducible refine frLe_val' (bool_eq ?_) ?_ ?_); (· first | assumption | (symm; assumption)); (· rfl))))))
              exact hpLe_cells (by (repeat (first | (with_reducible exact frLe_nil) | (with_reducible refine frLe_any ?_) | (with_reducible refine frLe_val ?_) | ((with_reducible refine frLe_eq rfl ?_ ?_); (· rfl)) | ((with_reducible refine frLe_val' (int_eq ?_) ?_ ?_); (· omega); (· rfl)) | ((with_reducible refine frLe_val' (int_eq ?_) ?_ ?_); (· simp only [Int.natCast_add, Int.natCast_one, Int.natCast_ofNat] <;> omega); (· rfl)) | ((with_reducible refine frLe_val' (bool_eq ?_) ?_ ?_); (· first | assumption | (symm; assumption)); (· rfl))))) (hpLe_own rfl (by rw [flatC, e]) hpLe_nil)
          · rw [apV_bad a1] at g1
            rw [if_pos a1] at hf
            rw [first (by rw [hf]; exact a1), hf]
            clear h first next hf hV h0 g2
            generalize apE m (S i).x (S i).y = E1 at *
            (repeat ((try (conv => whnf)); (first | (refine ca _ ?_) | (with_reducible refine condP_true ?_) | (with_reducible refine condP_false ?_) | (with_reducible refine condP_not ?_) | (with_reducible refine condP_and ?_) | ((with_reducible refine condP_dt ?_ ?_); (· omega)) | ((with_reducible refine condP_df ?_ ?_); (· omega)) | ((with_reducible refine condP_yes ?_ ?_); (· assumption)) | ((with_reducible refine condP_no ?_ ?_); (· assumption)) | ((with_reducible refine ArP_i64 ?_ ?_); (· omega)) | ((with_reducible refine mustP.mk ?_ ?_); (· first | omega | rfl | (dsimp only; omega))) | (with_reducible refine EqP_nil tab_ok ?_) | (with_reducible refine EqP_sli tab_ok ?_) | (with_reducible refine DrawP_auto tab_ok (by kernel_rfl) (by decide +kernel) ?_) | (with_reducible refine DrawP_auto2 tab_ok (by kernel_rfl) (by decide +kernel) ?_) | (with_reducible refine eq34 ?_) | (with_reducible refine eq36 ?_) | (with_reducible refine eq46 ?_) | (with_reducible refine CallP_gives (fun vs w => by kernel_rfl) (by kernel_rfl) (g1) ?_) | (with_reducible refine RCallP_gives (fun vs w => by kernel_rfl) (by kernel_rfl) (g1) ?_))))
            exact ⟨rfl, rfl⟩
        · obtain rfl : i = n := by omega
          exfalso; omega
    · have t3 : mapT m S n = matR m := by unfold mapT; rw [if_neg (by simp [t1]), if_pos t2]
      rw [t1] at gp
      rw [t3]
      clear t3 ht
      generalize matR m = E at *
      (repeat ((try (conv => whnf)); (first | (with_reducible refine condP_true ?_) | (with_reducible refine condP_false ?_) | (with_reducible refine condP_not ?_) | (with_reducible refine condP_and ?_) | ((with_reducible refine condP_dt ?_ ?_); (· omega)) | ((with_reducible refine condP_df ?_ ?_); (· omega)) | ((with_reducible refine condP_yes ?_ ?_); (· assumption)) | ((with_reducible refine condP_no ?_ ?_); (· assumption)) | ((with_reducible refine ArP_i64 ?_ ?_); (· omega)) | ((with_reducible refine mustP.mk ?_ ?_); (· first | omega | rfl | (dsimp only; omega))) | (with_reducible refine EqP_nil tab_ok ?_) | (with_reducible refine EqP_sli tab_ok ?_) | (with_reducible refine DrawP_auto tab_ok (by kernel_rfl) (by decide +kernel) ?_) | (with_reducible refine DrawP_auto2 tab_ok (by kernel_rfl) (by decide +kernel) ?_) | (with_reducible refine eq34 ?_) | (with_reducible refine eq36 ?_) | (with_reducible refine eq46 ?_) | (with_reducible refine CallP_gives (fun vs w => by kernel_rfl) (by kernel_rfl) (gp) ?_) | (with_reducible refine RCallP_gives (fun vs w => by kernel_rfl) (by kernel_rfl) (gp) ?_) | (with_reducible refine CallP_gives (fun vs w => by kernel_rfl) (by kernel_rfl) (gm) ?_) | (with_reducible refine RCallP_gives (fun vs w => by kernel_rfl) (by kernel_rfl) (gm) ?_))))
      exact ⟨rfl, rfl⟩
  · have t3 : mapT m S n = pathE S n := by unfold mapT; rw [if_pos t1]
    rw [t3]
    clear t3 ht
    generalize pathE S n = E at *
    (repeat ((try (conv => whnf)); (first | (with_reducible refine condP_true ?_) | (with_reducible refine condP_false ?_) | (with_reducible refine condP_not ?_) | (with_reducible refine condP_and ?_) | ((with_reducible refine condP_dt ?_ ?_); (· omega)) | ((with_reducible refine condP_df ?_ ?_); (· omega)) | ((with_reducible refine condP_yes ?_ ?_); (· assumption)) | ((with_reducible refine condP_no ?_ ?_); (· assumption)) | ((with_reducible refine ArP_i64 ?_ ?_); (· omega)) | ((with_reducible refine mustP.mk ?_ ?_); (· first | omega | rfl | (dsimp only; omega))) | (with_reducible refine EqP_nil tab_ok ?_) | (with_reducible refine EqP_sli tab_ok ?_) | (with_reducible refine DrawP_auto tab_ok (by kernel_rfl) (by decide +kernel) ?_) | (with_reducible refine DrawP_auto2 tab_ok (by kernel_rfl) (by decide +kernel) ?_) | (with_reducible refine eq34 ?_) | (with_reducible refine eq36 ?_) | (with_reducible refine eq46 ?_) | (with_reducible refine CallP_gives (fun vs w => by kernel_rfl) (by kernel_rfl) (gp) ?_) | (with_reducible refine RCallP_gives (fun vs w => by kernel_rfl) (by kernel_rfl) (gp) ?_) | (with_reducible refine CallP_gives (fun vs w => by kernel_rfl) (by kernel_rfl) (gm) ?_) | (with_reducible refine RCallP_gives (fun vs w => by kernel_rfl) (by kernel_rfl) (gm) ?_))))
    exact ⟨rfl, rfl⟩
set_option maxHeartbeats 2000000 in
theorem SameSegs_gives {B : Option Addr} {d : Nat} (hA : SegsM G A n S) (hB : SegsM G B n S) (hl : n ≤ 1000) : Gives Tryd.prog 14 [.val (.slice A n c), .val (.slice B n d)] G (.val (.bool true)) := by
  refine Gives_of tab_ok Tryd.func14 ?_
  (repeat ((try (conv => whnf)); (first | (with_reducible refine condP_true ?_) | (with_reducible refine condP_false ?_) | (with_reducible refine condP_not ?_) | (with_reducible refine condP_and ?_) | ((with_reducible refine condP_dt ?_ ?_); (· omega)) | ((with_reducible refine condP_df ?_ ?_); (· omega)) | ((with_reducible refine condP_yes ?_ ?_); (· assumption)) | ((with_reducible refine condP_no ?_ ?_); (· assumption)) | ((with_reducible refine ArP_i64 ?_ ?_); (· omega)) | ((with_reducible refine mustP.mk ?_ ?_); (· first | omega | rfl | (dsimp only; omega))) | (with_reducible refine EqP_nil tab_ok ?_) | (with_reducible refine EqP_sli tab_ok ?_) | (with_reducible refine DrawP_auto tab_ok (by kernel_rfl) (by decide +kernel) ?_) | (with_reducible refine DrawP_auto2 tab_ok (by kernel_rfl) (by decide +kernel) ?_) | (with_reducible refine eq34 ?_) | (with_reducible refine eq36 ?_) | (with_reducible refine eq46 ?_))))
  conv => whnf
  refine LoopP_at tab_ok (fun i => i ≤ n) (fun (i : Nat) => [(13, .val (.int .i64 i))]) (fun i => []) (fun i => n - i) 0 (Nat.zero_le _) ?_ ?_
  · ((refine Le_head ?_); (conv => whnf); (refine Le_mk (by rfl) (by rfl) ?_ ?_); (· (repeat (first | (with_reducible exact frLe_nil) | (with_reducible refine frLe_any ?_) | (with_reducible refine frLe_val ?_) | ((with_reducible refine frLe_eq rfl ?_ ?_); (· rfl)) | ((with_reducible refine frLe_val' (int_eq ?_) ?_ ?_); (· omega); (· rfl)) | ((with_reducible refine frLe_val' (int_eq ?_) ?_ ?_); (· simp only [Int.natCast_add, Int.natCast_one, Int.natCast_ofNat] <;> omega); (· rfl)) | ((with_reducible refine frLe_val' (bool_eq ?_) ?_ ?_); (· first | assumption | (symm; assumption)); (· rfl))))))
    exact hpLe_nil
  · rintro i hi
    rcases Nat.lt_or_ge i n with h1 | h1
    · obtain ⟨p, rfl, ca⟩ := hA.cells h1
      obtain ⟨q, rfl, cb⟩ := hB.cells h1
      clear hA hB
      (repeat ((try (conv => whnf)); (first | (with_reducible refine condP_true ?_) | (with_reducible refine condP_false ?_) | (with_reducible refine condP_not ?_) | (with_reducible refine condP_and ?_) | ((with_reducible refine condP_dt ?_ ?_); (· omega)) | ((with_reducible refine condP_df ?_ ?_); (· omega)) | ((with_reducible refine condP_yes ?_ ?_); (· assumption)) | ((with_reducible refine condP_no ?_ ?_); (· assumption)) | ((with_reducible refine ArP_i64 ?_ ?_); (· omega)) | ((with_reducible refine mustP.mk ?_ ?_); (· first | omega | rfl | (dsimp only; omega))) | (with_reducible refine EqP_nil tab_ok ?_) | (with_reducible refine EqP_sli tab_ok ?_) | (with_reducible refine DrawP_auto tab_ok (by kernel_rfl) (by decide +kernel) ?_) | (with_reducible refine DrawP_auto2 tab_ok (by kernel_rfl) (by decide +kernel) ?_) | (with_reducible refine eq34 ?_) | (with_reducible refine eq36 ?_) | (with_reducible refine eq46 ?_))))
      conv => whnf
      refine ca _ ?_
      (repeat ((try (conv => whnf)); (first | (with_reducible refine condP_true ?_) | (with_reducible refine condP_false ?_) | (with_reducible refine condP_not ?_) | (with_reducible refine condP_and ?_) | ((with_reducible refine condP_dt ?_ ?_); (· omega)) | ((with_reducible refine condP_df ?_ ?_); (· omega)) | ((with_reducible refine condP_yes ?_ ?_); (· assumption)) | ((with_reducible refine condP_no ?_ ?_); (· assumption)) | ((with_reducible refine ArP_i64 ?_ ?_); (· omega)) | ((with_reducible refine mustP.mk ?_ ?_); (· first | omega | rfl | (dsimp only; omega))) | (with_reducible refine EqP_nil tab_ok ?_) | (with_reducible refine EqP_sli tab_ok ?_) | (with_reducible refine DrawP_auto tab_ok (by kernel_rfl) (by decide +kernel) ?_) | (with_reducible refine DrawP_auto2 tab_ok (by kernel_rfl) (by decide +kernel) ?_) | (with_reducible refine eq34 ?_) | (with_reducible refine eq36 ?_) | (with_reducible refine eq46 ?_))))
      conv => whnf
      refine cb _ ?_
      (repeat ((try (conv => whnf)); (first | (with_reducible refine condP_true ?_) | (with_reducible refine condP_false ?_) | (with_reducible refine condP_not ?_) | (with_reducible refine condP_and ?_) | ((with_reducible refine condP_dt ?_ ?_); (· omega)) | ((with_reducible refine condP_df ?_ ?_); (· omega)) | ((with_reducible refine condP_yes ?_ ?_); (· assumption)) | ((with_reducible refine condP_no ?_ ?_); (· assumption)) | ((with_reducible refine ArP_i64 ?_ ?_); (· omega)) | ((with_reducible refine mustP.mk ?_ ?_); (· first | omega | rfl | (dsimp only; omega))) | (with_reducible refine EqP_nil tab_ok ?_) | (with_reducible refine EqP_sli tab_ok ?_) | (with_reducible refine DrawP_auto tab_ok (by kernel_rfl) (by decide +kernel) ?_) | (with_reducible refine DrawP_auto2 tab_ok (by kernel_rfl) (by decide +kernel) ?_) | (with_reducible refine eq34 ?_) | (with_reducible refine eq36 ?_) | (with_reducible refine eq46 ?_))))
      refine ⟨i + 1, by omega, by omega, ?_⟩
      ((refine Le_head ?_); (conv => whnf); (refine Le_mk (by rfl) (by rfl) ?_ ?_); (· (repeat (first | (with_reducible exact frLe_nil) | (with_reducible refine frLe_any ?_) | (with_reducible refine frLe_val ?_) | ((with_reducible refine frLe_eq rfl ?_ ?_); (· rfl)) | ((with_reducible refine frLe_val' (int_eq ?_) ?_ ?_); (· omega); (· rfl)) | ((with_reducible refine frLe_val' (int_eq ?_) ?_ ?_); (· simp only [Int.natCast_add, Int.natCast_one, Int.natCast_ofNat] <;> omega); (· rfl)) | ((with_reducible refine frLe_val' (bool_eq ?_) ?_ ?_); (· first | assumption | (symm; assumption)); (· rfl))))))
      exact hpLe_nil
    · (repeat ((try (conv => whnf)); (first | (with_reducible refine condP_true ?_) | (with_reducible refine condP_false ?_) | (with_reducible refine condP_not ?_) | (with_reducible refine condP_and ?_) | ((with_reducible refine condP_dt ?_ ?_); (· omega)) | ((with_reducible refine condP_df ?_ ?_); (· omega)) | ((with_reducible refine condP_yes ?_ ?_); (· assumption)) | ((with_reducible refine condP_no ?_ ?_); (· assumption)) | ((with_reducible refine ArP_i64 ?_ ?_); (· omega)) | ((with_reducible refine mustP.mk ?_ ?_); (· first | omega | rfl | (dsimp only; omega))) | (with_reducible refine EqP_nil tab_ok ?_) | (with_reducible refine EqP_sli tab_ok ?_) | (with_reducible refine DrawP_auto tab_ok (by kernel_rfl) (by decide +kernel) ?_) | (with_reducible refine DrawP_auto2 tab_ok (by kernel_rfl) (by decide +kernel) ?_) | (with_reducible refine eq34 ?_) | (with_reducible refine eq36 ?_) | (with_reducible refine eq46 ?_))))
      exact ⟨rfl, rfl⟩
end
end Go.Proofs.YthbppimjaealnaaDoor
