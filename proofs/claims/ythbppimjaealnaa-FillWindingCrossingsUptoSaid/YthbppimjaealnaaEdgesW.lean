/-
  fill.edges: the edges of lines in a row of its own; edge.first.
-/
import Derived.Test.YthbppimjaealnaaWindLaw
import Derived.Test.YthbppimjaealnaaStand
import Derived.Test.YthbppimjaealnaaNumE
namespace Go.Proofs.Ythbppimjaealnaa
open Go.RowKit
set_option linter.unusedVariables false
set_option linter.unusedSimpArgs false
set_option maxRecDepth 20000
theorem encE_len : ∀ r : Edge, (encE r).length = 6 := fun _ => rfl
theorem encC_len : ∀ r : Cr, (encC r).length = 2 := fun _ => rfl
section
variable {G : Mem} {A : Option Addr} {n c : Nat} {L : Nat → LineD}
/-- The edges of the first lines and of the first sides of the next. -/
def upE (L : Nat → LineD) (x i : Nat) : List Edge := edgesN L x ++ edgesL (L x).X (L x).Y (L x).n i
theorem upE_next {x i : Nat} : upE L x (i + 1) = upE L x i ++ edgeOf ((L x).X i) ((L x).Y i) ((L x).X (nx (L x).n i)) ((L x).Y (nx (L x).n i)) := by
  unfold upE; rw [edgesL, List.append_assoc]
theorem upE_bd {x i n : Nat} (hx : x < n) (hi : i ≤ (L x).n) : (upE L x i).length ≤ cntN L n := by
  unfold upE
  have h1 := edgesN_length (L := L) x
  have h2 := edgesL_length (X := (L x).X) (Y := (L x).Y) (n := (L x).n) i
  have h3 := cntN_part (L := L) hx hi
  rw [List.length_append]; omega
set_option maxHeartbeats 8000000 in
theorem edges_makes (h : LinesM G A n L) (hn : n ≤ maxLen) (hb : linesB L n = true) (hcnt : cntN L n ≤ 1048576) :
    Makes Try.prog 36 [.val (.slice A n c)] G id 112 6 (edgesN L n).length ((edgesN L n).flatMap encE) := by
  have hok := linesB_of hb
  have hn' : n ≤ 9223372036854775807 := by unfold maxLen at hn; omega
  refine Makes_of tab_ok Try.func36 (.alone fun _ => rfl) ?_
  (repeat ((try (conv => whnf)); (first | (with_reducible refine condP_true ?_) | (with_reducible refine condP_false ?_) | (with_reducible refine condP_not ?_) | (with_reducible refine condP_and ?_) | ((with_reducible refine condP_dt ?_ ?_); (· omega)) | ((with_reducible refine condP_df ?_ ?_); (· omega)) | ((with_reducible refine condP_yes ?_ ?_); (· assumption)) | ((with_reducible refine condP_no ?_ ?_); (· assumption)) | ((with_reducible refine ArP_i64 ?_ ?_); (· omega)) | ((with_reducible refine mustP.mk ?_ ?_); (· first | omega | rfl | (dsimp only; omega))) | (with_reducible refine EqP_nil tab_ok ?_) | (with_reducible refine EqP_sli tab_ok ?_) | (with_reducible refine DrawP_auto tab_ok (by kernel_rfl) (by decide +kernel) ?_) | (with_reducible refine DrawP_auto2 tab_ok (by kernel_rfl) (by decide +kernel) ?_) | (with_reducible refine eq55 ?_) | (with_reducible refine eq70 ?_) | (with_reducible refine eq73 ?_) | (with_reducible refine eq79 ?_) | (with_reducible refine eq112 ?_) | (with_reducible refine eq118 ?_) | (with_reducible refine eq124 ?_) | (with_reducible refine eq139 ?_) | (with_reducible refine eq142 ?_))))
  conv => whnf
  refine LoopP_at tab_ok (fun x => x ≤ n) (fun (x : Nat) => [(12, .val (.int .i64 x)), (3, .own 0)]) (fun x => [.own 112 6 (edgesN L x).length ((edgesN L x).flatMap encE)]) (fun x => n - x) 0 (Nat.zero_le _) ?_ ?_
  · refine Le_own 112 6 ?_
    conv => whnf
    ((refine Le_head ?_); (conv => whnf); (refine Le_mk (by rfl) (by rfl) ?_ ?_); (· (repeat (first | (with_reducible exact frLe_nil) | (with_reducible refine frLe_any ?_) | (with_reducible refine frLe_val ?_) | ((with_reducible refine frLe_eq rfl ?_ ?_); (· rfl)) | ((with_reducible refine frLe_val' (int_eq ?_) ?_ ?_); (· omega); (· rfl)) | ((with_reducible refine frLe_val' (int_eq ?_) ?_ ?_); (· simp only [Int.natCast_add, Int.natCast_one, Int.natCast_ofNat] <;> omega); (· rfl)) | ((with_reducible refine frLe_val' (bool_eq ?_) ?_ ?_); (· first | assumption | (symm; assumption)); (· rfl))))))
    exact hpLe_own rfl rfl hpLe_nil
  · rintro x hx
    rcases Nat.lt_or_ge x n with h1 | h1
    · obtain ⟨p, rfl, ca⟩ := h.rows.cells h1
      have hp := h.pts x h1
      have hcap := h.cap x h1
      unfold maxLen at hcap
      (repeat ((try (conv => whnf)); (first | (refine ca _ ?_) | (with_reducible refine condP_true ?_) | (with_reducible refine condP_false ?_) | (with_reducible refine condP_not ?_) | (with_reducible refine condP_and ?_) | ((with_reducible refine condP_dt ?_ ?_); (· omega)) | ((with_reducible refine condP_df ?_ ?_); (· omega)) | ((with_reducible refine condP_yes ?_ ?_); (· assumption)) | ((with_reducible refine condP_no ?_ ?_); (· assumption)) | ((with_reducible refine ArP_i64 ?_ ?_); (· omega)) | ((with_reducible refine mustP.mk ?_ ?_); (· first | omega | rfl | (dsimp only; omega))) | (with_reducible refine EqP_nil tab_ok ?_) | (with_reducible refine EqP_sli tab_ok ?_) | (with_reducible refine DrawP_auto tab_ok (by kernel_rfl) (by decide +kernel) ?_) | (with_reducible refine DrawP_auto2 tab_ok (by kernel_rfl) (by decide +kernel) ?_) | (with_reducible refine eq55 ?_) | (with_reducible refine eq70 ?_) | (with_reducible refine eq73 ?_) | (with_reducible refine eq79 ?_) | (with_reducible refine eq112 ?_) | (with_reducible refine eq118 ?_) | (with_reducible refine eq124 ?_) | (with_reducible refine eq139 ?_) | (with_reducible refine eq142 ?_))))
      conv => whnf
      refine LoopP_at tab_ok (fun i => i ≤ (L x).n) (fun (i : Nat) => [(19, .val (.int .i64 i)), (3, .own 0)]) (fun i => [.own 112 6 (upE L x i).length ((upE L x i).flatMap encE), .cells 43 [.val (.slice (L x).A (L x).n (L x).q), .val (.bool (L x).cl)]]) (fun i => (L x).n - i) 0 (Nat.zero_le _) ?_ ?_
      · ((refine Le_head ?_); (conv => whnf); (refine Le_mk (by rfl) (by rfl) ?_ ?_); (· (repeat (first | (with_reducible exact frLe_nil) | (with_reducible refine frLe_any ?_) | (with_reducible refine frLe_val ?_) | ((with_reducible refine frLe_eq rfl ?_ ?_); (· rfl)) | ((with_reducible refine frLe_val' (int_eq ?_) ?_ ?_); (· omega); (· rfl)) | ((with_reducible refine frLe_val' (int_eq ?_) ?_ ?_); (· simp only [Int.natCast_add, Int.natCast_one, Int.natCast_ofNat] <;> omega); (· rfl)) | ((with_reducible refine frLe_val' (bool_eq ?_) ?_ ?_); (· first | assumption | (symm; assumption)); (· rfl))))))
        exact hpLe_own (by simp [upE, edgesL]) (by simp [upE, edgesL]) (hpLe_cells (by (repeat (first | (with_reducible exact frLe_nil) | (with_reducible refine frLe_any ?_) | (with_reducible refine frLe_val ?_) | ((with_reducible refine frLe_eq rfl ?_ ?_); (· rfl)) | ((with_reducible refine frLe_val' (int_eq ?_) ?_ ?_); (· omega); (· rfl)) | ((with_reducible refine frLe_val' (int_eq ?_) ?_ ?_); (· simp only [Int.natCast_add, Int.natCast_one, Int.natCast_ofNat] <;> omega); (· rfl)) | ((with_reducible refine frLe_val' (bool_eq ?_) ?_ ?_); (· first | assumption | (symm; assumption)); (· rfl))))) hpLe_nil)
      · rintro i hi
        rcases Nat.lt_or_ge i (L x).n with h2 | h2
        · obtain ⟨p2, hp2, cb⟩ := hp.cells h2
          obtain ⟨p3, hp3, cc⟩ := hp.cells (nx_lt h2)
          rw [hp2] at hp3; cases hp3
          have hm := nx_mod h2
          have hm' : (Int.tmod ((i : Int) + 1) ((L x).n : Int)).toNat = nx (L x).n i := by rw [hm]; omega
          have hlt := nx_lt h2
          have hnext := upE_next (L := L) (x := x) (i := i)
          have hbd := upE_bd (L := L) h1 hi
          obtain ⟨b1, b2⟩ := okXY_of (hok x h1 i h2)
          obtain ⟨b3, b4⟩ := okXY_of (hok x h1 _ hlt)
          rw [← hm'] at cc hnext b3 b4
          rw [hp2]
          generalize hu' : upE L x (i + 1) = u' at *
          generalize upE L x i = u at *
          unfold edgeOf at hnext
          clear hok hp ca h
          rcases Int.lt_trichotomy ((L x).Y (Int.tmod ((i : Int) + 1) ((L x).n : Int)).toNat) ((L x).Y i) with e | e | e
          · rw [if_pos e] at hnext
            (repeat ((try (conv => whnf)); (first | (refine cb _ ?_) | (refine cc _ ?_) | ((with_reducible refine mustP.mk ?_ ?_); (· rw [hm]; omega)) | (with_reducible refine condP_true ?_) | (with_reducible refine condP_false ?_) | (with_reducible refine condP_not ?_) | (with_reducible refine condP_and ?_) | ((with_reducible refine condP_dt ?_ ?_); (· omega)) | ((with_reducible refine condP_df ?_ ?_); (· omega)) | ((with_reducible refine condP_yes ?_ ?_); (· assumption)) | ((with_reducible refine condP_no ?_ ?_); (· assumption)) | ((with_reducible refine ArP_i64 ?_ ?_); (· omega)) | ((with_reducible refine mustP.mk ?_ ?_); (· first | omega | rfl | (dsimp only; omega))) | (with_reducible refine EqP_nil tab_ok ?_) | (with_reducible refine EqP_sli tab_ok ?_) | (with_reducible refine DrawP_auto tab_ok (by kernel_rfl) (by decide +kernel) ?_) | (with_reducible refine DrawP_auto2 tab_ok (by kernel_rfl) (by decide +kernel) ?_) | (with_reducible refine eq55 ?_) | (with_reducible refine eq70 ?_) | (with_reducible refine eq73 ?_) | (with_reducible refine eq79 ?_) | (with_reducible refine eq112 ?_) | (with_reducible refine eq118 ?_) | (with_reducible refine eq124 ?_) | (with_reducible refine eq139 ?_) | (with_reducible refine eq142 ?_))))
            refine ⟨i + 1, by omega, by omega, ?_⟩
            rw [hu']
            refine Le_move 5 0 rfl rfl rfl rfl ?_
            conv => whnf
            ((refine Le_head ?_); (conv => whnf); (refine Le_mk (by rfl) (by rfl) ?_ ?_); (· (repeat (first | (with_reducible exact frLe_nil) | (with_reducible refine frLe_any ?_) | (with_reducible refine frLe_val ?_) | ((with_reducible refine frLe_eq rfl ?_ ?_); (· rfl)) | ((with_reducible refine frLe_val' (int_eq ?_) ?_ ?_); (· omega); (· rfl)) | ((with_reducible refine frLe_val' (int_eq ?_) ?_ ?_); (· simp only [Int.natCast_add, Int.natCast_one, Int.natCast_ofNat] <;> omega); (· rfl)) | ((with_reducible refine frLe_val' (bool_eq ?_) ?_ ?_); (· first | assumption | (symm; assumption)); (· rfl))))))
            exact hpLe_own (by rw [hnext]; simp) (by rw [hnext, List.flatMap_append]; rfl) (hpLe_cells (by (repeat (first | (with_reducible exact frLe_nil) | (with_reducible refine frLe_any ?_) | (with_reducible refine frLe_val ?_) | ((with_reducible refine frLe_eq rfl ?_ ?_); (· rfl)) | ((with_reducible refine frLe_val' (int_eq ?_) ?_ ?_); (· omega); (· rfl)) | ((with_reducible refine frLe_val' (int_eq ?_) ?_ ?_); (· simp only [Int.natCast_add, Int.natCast_one, Int.natCast_ofNat] <;> omega); (· rfl)) | ((with_reducible refine frLe_val' (bool_eq ?_) ?_ ?_); (· first | assumption | (symm; assumption)); (· rfl))))) hpLe_nil)
          · rw [if_neg (by omega), if_neg (by omega), List.append_nil] at hnext
            (repeat ((try (conv => whnf)); (first | (refine cb _ ?_) | (refine cc _ ?_) | ((with_reducible refine mustP.mk ?_ ?_); (· rw [hm]; omega)) | (with_reducible refine condP_true ?_) | (with_reducible refine condP_false ?_) | (with_reducible refine condP_not ?_) | (with_reducible refine condP_and ?_) | ((with_reducible refine condP_dt ?_ ?_); (· omega)) | ((with_reducible refine condP_df ?_ ?_); (· omega)) | ((with_reducible refine condP_yes ?_ ?_); (· assumption)) | ((with_reducible refine condP_no ?_ ?_); (· assumption)) | ((with_reducible refine ArP_i64 ?_ ?_); (· omega)) | ((with_reducible refine mustP.mk ?_ ?_); (· first | omega | rfl | (dsimp only; omega))) | (with_reducible refine EqP_nil tab_ok ?_) | (with_reducible refine EqP_sli tab_ok ?_) | (with_reducible refine DrawP_auto tab_ok (by kernel_rfl) (by decide +kernel) ?_) | (with_reducible refine DrawP_auto2 tab_ok (by kernel_rfl) (by decide +kernel) ?_) | (with_reducible refine eq55 ?_) | (with_reducible refine eq70 ?_) | (with_reducible refine eq73 ?_) | (with_reducible refine eq79 ?_) | (with_reducible refine eq112 ?_) | (with_reducible refine eq118 ?_) | (with_reducible refine eq124 ?_) | (with_reducible refine eq139 ?_) | (with_reducible refine eq142 ?_))))
            refine ⟨i + 1, by omega, by omega, ?_⟩
            rw [hu', hnext]
            ((refine Le_head ?_); (conv => whnf); (refine Le_mk (by rfl) (by rfl) ?_ ?_); (· (repeat (first | (with_reducible exact frLe_nil) | (with_reducible refine frLe_any ?_) | (with_reducible refine frLe_val ?_) | ((with_reducible refine frLe_eq rfl ?_ ?_); (· rfl)) | ((with_reducible refine frLe_val' (int_eq ?_) ?_ ?_); (· omega); (· rfl)) | ((with_reducible refine frLe_val' (int_eq ?_) ?_ ?_); (· simp only [Int.natCast_add, Int.natCast_one, Int.natCast_ofNat] <;> omega); (· rfl)) | ((with_reducible refine frLe_val' (bool_eq ?_) ?_ ?_); (· first | assumption | (symm; assumption)); (· rfl))))))
            exact hpLe_own rfl rfl (hpLe_cells (by (repeat (first | (with_reducible exact frLe_nil) | (with_reducible refine frLe_any ?_) | (with_reducible refine frLe_val ?_) | ((with_reducible refine frLe_eq rfl ?_ ?_); (· rfl)) | ((with_reducible refine frLe_val' (int_eq ?_) ?_ ?_); (· omega); (· rfl)) | ((with_reducible refine frLe_val' (int_eq ?_) ?_ ?_); (· simp only [Int.natCast_add, Int.natCast_one, Int.natCast_ofNat] <;> omega); (· rfl)) | ((with_reducible refine frLe_val' (bool_eq ?_) ?_ ?_); (· first | assumption | (symm; assumption)); (· rfl))))) hpLe_nil)
          · rw [if_neg (by omega), if_pos e] at hnext
            (repeat ((try (conv => whnf)); (first | (refine cb _ ?_) | (refine cc _ ?_) | ((with_reducible refine mustP.mk ?_ ?_); (· rw [hm]; omega)) | (with_reducible refine condP_true ?_) | (with_reducible refine condP_false ?_) | (with_reducible refine condP_not ?_) | (with_reducible refine condP_and ?_) | ((with_reducible refine condP_dt ?_ ?_); (· omega)) | ((with_reducible refine condP_df ?_ ?_); (· omega)) | ((with_reducible refine condP_yes ?_ ?_); (· assumption)) | ((with_reducible refine condP_no ?_ ?_); (· assumption)) | ((with_reducible refine ArP_i64 ?_ ?_); (· omega)) | ((with_reducible refine mustP.mk ?_ ?_); (· first | omega | rfl | (dsimp only; omega))) | (with_reducible refine EqP_nil tab_ok ?_) | (with_reducible refine EqP_sli tab_ok ?_) | (with_reducible refine DrawP_auto tab_ok (by kernel_rfl) (by decide +kernel) ?_) | (with_reducible refine DrawP_auto2 tab_ok (by kernel_rfl) (by decide +kernel) ?_) | (with_reducible refine eq55 ?_) | (with_reducible refine eq70 ?_) | (with_reducible refine eq73 ?_) | (with_reducible refine eq79 ?_) | (with_reducible refine eq112 ?_) | (with_reducible refine eq118 ?_) | (with_reducible refine eq124 ?_) | (with_reducible refine eq139 ?_) | (with_reducible refine eq142 ?_))))
            refine ⟨i + 1, by omega, by omega, ?_⟩
            rw [hu']
            refine Le_move 5 0 rfl rfl rfl rfl ?_
            conv => whnf
            ((refine Le_head ?_); (conv => whnf); (refine Le_mk (by rfl) (by rfl) ?_ ?_); (· (repeat (first | (with_reducible exact frLe_nil) | (with_reducible refine frLe_any ?_) | (with_reducible refine frLe_val ?_) | ((with_reducible refine frLe_eq rfl ?_ ?_); (· rfl)) | ((with_reducible refine frLe_val' (int_eq ?_) ?_ ?_); (· omega); (· rfl)) | ((with_reducible refine frLe_val' (int_eq ?_) ?_ ?_); (· simp only [Int.natCast_add, Int.natCast_one, Int.natCast_ofNat] <;> omega); (· rfl)) | ((with_reducible refine frLe_val' (bool_eq ?_) ?_ ?_); (· first | assumption | (symm; assumption)); (· rfl))))))
            exact hpLe_own (by rw [hnext]; simp) (by rw [hnext, List.flatMap_append]; rfl) (hpLe_cells (by (repeat (first | (with_reducible exact frLe_nil) | (with_reducible refine frLe_any ?_) | (with_reducible refine frLe_val ?_) | ((with_reducible refine frLe_eq rfl ?_ ?_); (· rfl)) | ((with_reducible refine frLe_val' (int_eq ?_) ?_ ?_); (· omega); (· rfl)) | ((with_reducible refine frLe_val' (int_eq ?_) ?_ ?_); (· simp only [Int.natCast_add, Int.natCast_one, Int.natCast_ofNat] <;> omega); (· rfl)) | ((with_reducible refine frLe_val' (bool_eq ?_) ?_ ?_); (· first | assumption | (symm; assumption)); (· rfl))))) hpLe_nil)
        · obtain rfl : i = (L x).n := by omega
          (repeat ((try (conv => whnf)); (first | (with_reducible refine condP_true ?_) | (with_reducible refine condP_false ?_) | (with_reducible refine condP_not ?_) | (with_reducible refine condP_and ?_) | ((with_reducible refine condP_dt ?_ ?_); (· omega)) | ((with_reducible refine condP_df ?_ ?_); (· omega)) | ((with_reducible refine condP_yes ?_ ?_); (· assumption)) | ((with_reducible refine condP_no ?_ ?_); (· assumption)) | ((with_reducible refine ArP_i64 ?_ ?_); (· omega)) | ((with_reducible refine mustP.mk ?_ ?_); (· first | omega | rfl | (dsimp only; omega))) | (with_reducible refine EqP_nil tab_ok ?_) | (with_reducible refine EqP_sli tab_ok ?_) | (with_reducible refine DrawP_auto tab_ok (by kernel_rfl) (by decide +kernel) ?_) | (with_reducible refine DrawP_auto2 tab_ok (by kernel_rfl) (by decide +kernel) ?_) | (with_reducible refine eq55 ?_) | (with_reducible refine eq70 ?_) | (with_reducible refine eq73 ?_) | (with_reducible refine eq79 ?_) | (with_reducible refine eq112 ?_) | (with_reducible refine eq118 ?_) | (with_reducible refine eq124 ?_) | (with_reducible refine eq139 ?_) | (with_reducible refine eq142 ?_))))
          refine ⟨x + 1, by omega, by omega, ?_⟩
          ((refine Le_head ?_); (conv => whnf); (refine Le_mk (by rfl) (by rfl) ?_ ?_); (· (repeat (first | (with_reducible exact frLe_nil) | (with_reducible refine frLe_any ?_) | (with_reducible refine frLe_val ?_) | ((with_reducible refine frLe_eq rfl ?_ ?_); (· rfl)) | ((with_reducible refine frLe_val' (int_eq ?_) ?_ ?_); (· omega); (· rfl)) | ((with_reducible refine frLe_val' (int_eq ?_) ?_ ?_); (· simp only [Int.natCast_add, Int.natCast_one, Int.natCast_ofNat] <;> omega); (· rfl)) | ((with_reducible refine frLe_val' (bool_eq ?_) ?_ ?_); (· first | assumption | (symm; assumption)); (· rfl))))))
          exact hpLe_own rfl rfl hpLe_nil
    · obtain rfl : x = n := by omega
      (repeat ((try (conv => whnf)); (first | (with_reducible refine condP_true ?_) | (with_reducible refine condP_false ?_) | (with_reducible refine condP_not ?_) | (with_reducible refine condP_and ?_) | ((with_reducible refine condP_dt ?_ ?_); (· omega)) | ((with_reducible refine condP_df ?_ ?_); (· omega)) | ((with_reducible refine condP_yes ?_ ?_); (· assumption)) | ((with_reducible refine condP_no ?_ ?_); (· assumption)) | ((with_reducible refine ArP_i64 ?_ ?_); (· omega)) | ((with_reducible refine mustP.mk ?_ ?_); (· first | omega | rfl | (dsimp only; omega))) | (with_reducible refine EqP_nil tab_ok ?_) | (with_reducible refine EqP_sli tab_ok ?_) | (with_reducible refine DrawP_auto tab_ok (by kernel_rfl) (by decide +kernel) ?_) | (with_reducible refine DrawP_auto2 tab_ok (by kernel_rfl) (by decide +kernel) ?_) | (with_reducible refine eq55 ?_) | (with_reducible refine eq70 ?_) | (with_reducible refine eq73 ?_) | (with_reducible refine eq79 ?_) | (with_reducible refine eq112 ?_) | (with_reducible refine eq118 ?_) | (with_reducible refine eq124 ?_) | (with_reducible refine eq139 ?_) | (with_reducible refine eq142 ?_))))
      exact .inl ⟨0, rfl, rfl⟩
end
section
variable {G : Mem} {r : Edge} {y : Int}
theorem numE_bd (h : EdgeOk r) (hy : r.y ≤ y ∧ y < r.e) : (-4294836224 ≤ 2 * r.dy * r.x ∧ 2 * r.dy * r.x ≤ 4294836224) ∧ (-8590000000 ≤ r.dx * (2 * (y - r.y) + 1) ∧ r.dx * (2 * (y - r.y) + 1) ≤ 8590000000) := by
  obtain ⟨h1, h2, h3, h4, h5, h6, h7⟩ := h
  have e1 := absMulL (a := 2 * r.dy) (b := r.x) (A := 131068) (B := 32767) (by omega) (by omega)
  have e2 := absMulL (a := r.dx) (b := 2 * (y - r.y) + 1) (A := 65534) (B := 131069) (by omega) (by omega)
  omega
set_option maxHeartbeats 2000000 in
theorem first_gives (h : EdgeOk r) (hy : r.y ≤ y ∧ y < r.e) : Gives Try.prog 61 [.agg [.val (.int .i64 r.x), .val (.int .i64 r.y), .val (.int .i64 r.e), .val (.int .i64 r.dx), .val (.int .i64 r.dy), .val (.int .i64 r.s)], .val (.int .i64 y)] G (.val (.int .i64 (firstE r y))) := by
  obtain ⟨b1, b2⟩ := numE_bd h hy
  have hq := Quo_gives (a := 0 - numE r y) (b := 2 * r.dy) (G := G) (by unfold numE; have := h.dy; omega) (by have := h.dy; omega)
  have hqb : -17179869184 ≤ (0 - numE r y) / (2 * r.dy) ∧ (0 - numE r y) / (2 * r.dy) ≤ 17179869184 := by
    have hd := h.dy
    have hn : -12884936224 ≤ numE r y ∧ numE r y ≤ 12884936224 := by unfold numE; omega
    generalize numE r y = z at *
    have h1 : 0 < 2 * r.dy := by omega
    constructor
    · rw [Int.le_ediv_iff_mul_le h1]
      have : 17179869184 * (2 * r.dy) ≥ 17179869184 * 2 := Int.mul_le_mul_of_nonneg_left (by omega) (by omega)
      omega
    · have : (0 - z) / (2 * r.dy) < 17179869185 := by
        rw [Int.ediv_lt_iff_lt_mul h1]
        have : 17179869185 * (2 * r.dy) ≥ 17179869185 * 2 := Int.mul_le_mul_of_nonneg_left (by omega) (by omega)
        omega
      omega
  rw [show firstE r y = 0 - (0 - numE r y) / (2 * r.dy) by unfold firstE; rw [Int.zero_sub, Int.zero_sub]]
  unfold numE at hq hqb ⊢
  have hd := h.dy
  have h2 := h.y
  have h3 := h.e
  have h4 := h.x
  generalize (0 - (2 * r.dy * r.x + r.dx * (2 * (y - r.y) + 1) - r.dy)) / (2 * r.dy) = q at *
  clear h
  refine Gives_of tab_ok Try.func61 ?_
  (repeat ((try (conv => whnf)); (first | (with_reducible refine condP_true ?_) | (with_reducible refine condP_false ?_) | (with_reducible refine condP_not ?_) | (with_reducible refine condP_and ?_) | ((with_reducible refine condP_dt ?_ ?_); (· omega)) | ((with_reducible refine condP_df ?_ ?_); (· omega)) | ((with_reducible refine condP_yes ?_ ?_); (· assumption)) | ((with_reducible refine condP_no ?_ ?_); (· assumption)) | ((with_reducible refine ArP_i64 ?_ ?_); (· omega)) | ((with_reducible refine mustP.mk ?_ ?_); (· first | omega | rfl | (dsimp only; omega))) | (with_reducible refine EqP_nil tab_ok ?_) | (with_reducible refine EqP_sli tab_ok ?_) | (with_reducible refine DrawP_auto tab_ok (by kernel_rfl) (by decide +kernel) ?_) | (with_reducible refine DrawP_auto2 tab_ok (by kernel_rfl) (by decide +kernel) ?_) | (with_reducible refine eq55 ?_) | (with_reducible refine eq70 ?_) | (with_reducible refine eq73 ?_) | (with_reducible refine eq79 ?_) | (with_reducible refine eq112 ?_) | (with_reducible refine eq118 ?_) | (with_reducible refine eq124 ?_) | (with_reducible refine eq139 ?_) | (with_reducible refine eq142 ?_) | (with_reducible refine CallP_gives (fun vs w => by kernel_rfl) (by kernel_rfl) (hq) ?_) | (with_reducible refine RCallP_gives (fun vs w => by kernel_rfl) (by kernel_rfl) (hq) ?_))))
  exact ⟨rfl, rfl⟩
end
end Go.Proofs.Ythbppimjaealnaa
