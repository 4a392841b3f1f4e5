/-
  The two countings of the dashes are one; dash.Dash of arguments that are refused.
-/
import Derived.Test.YtpgjbfbdappniaaDash2
namespace Go.Proofs.Ytpgjbfbdappniaa
open Go.RowKit
set_option linter.unusedVariables false
set_option linter.unusedSimpArgs false
set_option maxRecDepth 20000
section
variable {P : Nat → Int} {m : Nat} {ph : Int}
/-- The reference begins a whole pattern later or not. -/
structure Shift (P : Nat → Int) (m : Nat) (h h' : Int) (s : Nat) : Prop where
  even : s % 2 = 0
  low : 0 ≤ h
  cum : ∀ i, cumI P m (i + s) - h' = cumI P m i - h
theorem shift_ex (hm : 0 < m) (hp : ∀ i, i < m → 1 ≤ P i) (hph : 0 ≤ ph) : ∃ s, Shift P m (Int.tmod ph (turnI P m)) (Int.tmod ph (2 * cumI P m m)) s := by
  have hc := cumI_le hp hm (Nat.zero_le m)
  have hc0 : cumI P m 0 = 0 := rfl
  have hc1 : 0 < cumI P m m := by omega
  unfold turnI
  rw [Int.tmod_eq_emod_of_nonneg hph, Int.tmod_eq_emod_of_nonneg hph]
  split
  · rename_i hodd
    refine ⟨0, rfl, Int.emod_nonneg _ (by omega), fun i => ?_⟩
    rw [Int.mul_comm]; rfl
  · rename_i hev
    have a1 := Int.emod_nonneg ph (show cumI P m m ≠ 0 by omega)
    have a2 := Int.emod_lt_of_pos ph hc1
    have a3 := Int.emod_nonneg ph (show 2 * cumI P m m ≠ 0 by omega)
    have a4 := Int.emod_lt_of_pos ph (show 0 < 2 * cumI P m m by omega)
    have a5 : ph % (2 * cumI P m m) % cumI P m m = ph % cumI P m m := Int.emod_emod_of_dvd ph ⟨2, by rw [Int.mul_comm]⟩
    by_cases hlt : ph % (2 * cumI P m m) < cumI P m m
    · rw [Int.emod_eq_of_lt a3 hlt] at a5
      exact ⟨0, rfl, a1, fun i => by rw [a5]; rfl⟩
    · have a6 : (ph % (2 * cumI P m m) - cumI P m m) % cumI P m m = ph % (2 * cumI P m m) % cumI P m m := Int.sub_emod_right _ _
      rw [Int.emod_eq_of_lt (by omega) (by omega), a5] at a6
      refine ⟨m, by omega, a1, fun i => ?_⟩
      rw [cumI_add hm]; omega
theorem Shift.list {h h' E : Int} {s : Nat} (hs : Shift P m h h' s) (hp : ∀ i, i < m → 1 ≤ P i) (hm : 0 < m) : ∀ i, dL P m h' E (i + s) = dL P m h E i
  | 0 => by
    refine dL_low fun j hj => ?_
    have h1 := cumI_le hp hm (show j + 1 ≤ 0 + s by omega)
    have h2 := hs.cum 0
    have h3 := hs.low
    have h4 : cumI P m 0 = 0 := rfl
    omega
  | i + 1 => by
    have h1 := hs.cum i
    have h2 := hs.cum (i + 1)
    have h3 := hs.even
    have e : i + 1 + s = i + s + 1 := by omega
    rw [e] at h2
    have ed : dashI P m h' E (i + s) = dashI P m h E i := by unfold dashI; rw [h1, h2]
    have ei : isD P m h' E (i + s) ↔ isD P m h E i := by
      unfold isD
      rw [ed, show (i + s) % 2 = i % 2 by omega]
    rw [e, dL, dL, hs.list hp hm i, ed]
    by_cases hd : isD P m h E i
    · rw [if_pos hd, if_pos (ei.2 hd)]
    · rw [if_neg hd, if_neg (fun h5 => hd (ei.1 h5))]
theorem Shift.many {h h' E : Int} {s : Nat} (hs : Shift P m h h' s) (hp : ∀ i, i < m → 1 ≤ P i) (hm : 0 < m) : bigD P m h' E ↔ bigD P m h E := by
  constructor
  · rintro ⟨i, hi⟩
    refine ⟨i, ?_⟩
    rw [← hs.list hp hm (E := E) i]
    have := dL_le (P := P) (m := m) (h := h') (e := E) s i
    omega
  · rintro ⟨i, hi⟩
    exact ⟨i + s, by rw [hs.list hp hm]; exact hi⟩
/-- The first length that is not permitted. -/
theorem first_bad : ∀ (m : Nat), ¬ (∀ i, i < m → 1 ≤ P i ∧ P i ≤ 65535) → ∃ k, k < m ∧ (∀ i, i < k → 1 ≤ P i ∧ P i ≤ 65535) ∧ ¬ (1 ≤ P k ∧ P k ≤ 65535)
  | 0, h => absurd (fun i hi => absurd hi (Nat.not_lt_zero _)) h
  | m + 1, h => by
    by_cases h1 : ∀ i, i < m → 1 ≤ P i ∧ P i ≤ 65535
    · refine ⟨m, by omega, h1, fun h2 => h fun i hi => ?_⟩
      rcases Nat.lt_or_ge i m with h3 | h3
      · exact h1 i h3
      · obtain rfl : i = m := by omega
        exact h2
    · obtain ⟨k, k1, k2, k3⟩ := first_bad m h1
      exact ⟨k, by omega, k2, k3⟩
end
section
variable {G : Mem} {A B : Option Addr} {X Y P : Nat → Int} {n q m qm : Nat} {cl : Bool} {ph : Int}
set_option maxHeartbeats 4000000 in
theorem Dash_line (hp : ElsM G A 2 n (ptC X Y)) (hq : n ≤ q ∧ q ≤ maxLen) (he : lineErr X Y n = 3) : Gives Try.prog 12 [.agg [.val (.slice A n q), .val (.bool cl)], .val (.slice B m qm), .val (.int .i64 ph)] G (.tup [.val (.slice none 0 0), .val (.int .i64 3)]) := by
  refine Gives_of tab_ok Try.func12 ?_
  (repeat ((try (conv => whnf)); (first | (with_reducible refine condP_true ?_) | (with_reducible refine condP_false ?_) | (with_reducible refine condP_not ?_) | (with_reducible refine condP_and ?_) | ((with_reducible refine condP_dt ?_ ?_); (· omega)) | ((with_reducible refine condP_df ?_ ?_); (· omega)) | ((with_reducible refine condP_yes ?_ ?_); (· assumption)) | ((with_reducible refine condP_no ?_ ?_); (· assumption)) | ((with_reducible refine ArP_i64 ?_ ?_); (· omega)) | ((with_reducible refine mustP.mk ?_ ?_); (· first | omega | rfl | (dsimp only; omega))) | (with_reducible refine EqP_nil tab_ok ?_) | (with_reducible refine EqP_sli tab_ok ?_) | (with_reducible refine DrawP_auto tab_ok (by kernel_rfl) (by decide +kernel) ?_) | (with_reducible refine DrawP_auto2 tab_ok (by kernel_rfl) (by decide +kernel) ?_) | (with_reducible refine eq43 ?_) | (with_reducible refine eq55 ?_) | (with_reducible refine eq57 ?_) | (with_reducible refine eq93 ?_) | (with_reducible refine eq101 ?_) | (with_reducible refine eq116 ?_) | (with_reducible refine eq119 ?_))))
  conv => whnf
  refine CallP_stand 1 (xs := [.slice A n q, .bool cl]) (fun vs w => by kernel_rfl) rfl rfl rfl fun b G1 hG1 hc1 => ?_
  conv => whnf
  have g := LCheck_gives (c := 1) (one_line hc1 (hp.mono hG1) hq) (by simp [maxLen])
  rw [lineErr_is, he] at g
  refine CallP_gives (fun vs w => by kernel_rfl) (by kernel_rfl) g ?_
  (repeat ((try (conv => whnf)); (first | (with_reducible refine condP_true ?_) | (with_reducible refine condP_false ?_) | (with_reducible refine condP_not ?_) | (with_reducible refine condP_and ?_) | ((with_reducible refine condP_dt ?_ ?_); (· omega)) | ((with_reducible refine condP_df ?_ ?_); (· omega)) | ((with_reducible refine condP_yes ?_ ?_); (· assumption)) | ((with_reducible refine condP_no ?_ ?_); (· assumption)) | ((with_reducible refine ArP_i64 ?_ ?_); (· omega)) | ((with_reducible refine mustP.mk ?_ ?_); (· first | omega | rfl | (dsimp only; omega))) | (with_reducible refine EqP_nil tab_ok ?_) | (with_reducible refine EqP_sli tab_ok ?_) | (with_reducible refine DrawP_auto tab_ok (by kernel_rfl) (by decide +kernel) ?_) | (with_reducible refine DrawP_auto2 tab_ok (by kernel_rfl) (by decide +kernel) ?_) | (with_reducible refine eq43 ?_) | (with_reducible refine eq55 ?_) | (with_reducible refine eq57 ?_) | (with_reducible refine eq93 ?_) | (with_reducible refine eq101 ?_) | (with_reducible refine eq116 ?_) | (with_reducible refine eq119 ?_))))
  exact ⟨rfl, rfl⟩
set_option maxHeartbeats 4000000 in
theorem Dash_many (hp : ElsM G A 2 n (ptC X Y)) (hq : n ≤ q ∧ q ≤ maxLen) (he : lineErr X Y n = 0) (hm : m < 1 ∨ 16 < m) : Gives Try.prog 12 [.agg [.val (.slice A n q), .val (.bool cl)], .val (.slice B m qm), .val (.int .i64 ph)] G (.tup [.val (.slice none 0 0), .val (.int .i64 2)]) := by
  refine Gives_of tab_ok Try.func12 ?_
  rcases hm with hm | hm
  all_goals
    (repeat ((try (conv => whnf)); (first | (with_reducible refine condP_true ?_) | (with_reducible refine condP_false ?_) | (with_reducible refine condP_not ?_) | (with_reducible refine condP_and ?_) | ((with_reducible refine condP_dt ?_ ?_); (· omega)) | ((with_reducible refine condP_df ?_ ?_); (· omega)) | ((with_reducible refine condP_yes ?_ ?_); (· assumption)) | ((with_reducible refine condP_no ?_ ?_); (· assumption)) | ((with_reducible refine ArP_i64 ?_ ?_); (· omega)) | ((with_reducible refine mustP.mk ?_ ?_); (· first | omega | rfl | (dsimp only; omega))) | (with_reducible refine EqP_nil tab_ok ?_) | (with_reducible refine EqP_sli tab_ok ?_) | (with_reducible refine DrawP_auto tab_ok (by kernel_rfl) (by decide +kernel) ?_) | (with_reducible refine DrawP_auto2 tab_ok (by kernel_rfl) (by decide +kernel) ?_) | (with_reducible refine eq43 ?_) | (with_reducible refine eq55 ?_) | (with_reducible refine eq57 ?_) | (with_reducible refine eq93 ?_) | (with_reducible refine eq101 ?_) | (with_reducible refine eq116 ?_) | (with_reducible refine eq119 ?_))))
    conv => whnf
    refine CallP_stand 1 (xs := [.slice A n q, .bool cl]) (fun vs w => by kernel_rfl) rfl rfl rfl fun b G1 hG1 hc1 => ?_
    conv => whnf
    have g := LCheck_gives (c := 1) (one_line hc1 (hp.mono hG1) hq) (by simp [maxLen])
    rw [lineErr_is, he] at g
    refine CallP_gives (fun vs w => by kernel_rfl) (by kernel_rfl) g ?_
    (repeat ((try (conv => whnf)); (first | (with_reducible refine condP_true ?_) | (with_reducible refine condP_false ?_) | (with_reducible refine condP_not ?_) | (with_reducible refine condP_and ?_) | ((with_reducible refine condP_dt ?_ ?_); (· omega)) | ((with_reducible refine condP_df ?_ ?_); (· omega)) | ((with_reducible refine condP_yes ?_ ?_); (· assumption)) | ((with_reducible refine condP_no ?_ ?_); (· assumption)) | ((with_reducible refine ArP_i64 ?_ ?_); (· omega)) | ((with_reducible refine mustP.mk ?_ ?_); (· first | omega | rfl | (dsimp only; omega))) | (with_reducible refine EqP_nil tab_ok ?_) | (with_reducible refine EqP_sli tab_ok ?_) | (with_reducible refine DrawP_auto tab_ok (by kernel_rfl) (by decide +kernel) ?_) | (with_reducible refine DrawP_auto2 tab_ok (by kernel_rfl) (by decide +kernel) ?_) | (with_reducible refine eq43 ?_) | (with_reducible refine eq55 ?_) | (with_reducible refine eq57 ?_) | (with_reducible refine eq93 ?_) | (with_reducible refine eq101 ?_) | (with_reducible refine eq116 ?_) | (with_reducible refine eq119 ?_))))
    exact ⟨rfl, rfl⟩
set_option maxHeartbeats 4000000 in
theorem Dash_range (hp : ElsM G A 2 n (ptC X Y)) (hq : n ≤ q ∧ q ≤ maxLen) (he : lineErr X Y n = 0) (hP : ElsM G B 1 m fun i => [.int .i64 (P i)]) (hm : 1 ≤ m ∧ m ≤ 16) (hbad : ¬ (∀ i, i < m → 1 ≤ P i ∧ P i ≤ 65535) ∨ (∀ i, i < m → 1 ≤ P i ∧ P i ≤ 65535) ∧ (ph < 0 ∨ 1048576 < ph)) :
    Gives Try.prog 12 [.agg [.val (.slice A n q), .val (.bool cl)], .val (.slice B m qm), .val (.int .i64 ph)] G (.tup [.val (.slice none 0 0), .val (.int .i64 3)]) := by
  obtain ⟨k, hkm, hgood, hend⟩ : ∃ k, k ≤ m ∧ (∀ i, i < k → 1 ≤ P i ∧ P i ≤ 65535) ∧ ((k < m ∧ ¬ (1 ≤ P k ∧ P k ≤ 65535)) ∨ (k = m ∧ (ph < 0 ∨ 1048576 < ph))) := by
    rcases hbad with h1 | ⟨h1, h2⟩
    · obtain ⟨k, k1, k2, k3⟩ := first_bad m h1
      exact ⟨k, by omega, k2, .inl ⟨k1, k3⟩⟩
    · exact ⟨m, Nat.le_refl _, h1, .inr ⟨rfl, h2⟩⟩
  refine Gives_of tab_ok Try.func12 ?_
  (repeat ((try (conv => whnf)); (first | (with_reducible refine condP_true ?_) | (with_reducible refine condP_false ?_) | (with_reducible refine condP_not ?_) | (with_reducible refine condP_and ?_) | ((with_reducible refine condP_dt ?_ ?_); (· omega)) | ((with_reducible refine condP_df ?_ ?_); (· omega)) | ((with_reducible refine condP_yes ?_ ?_); (· assumption)) | ((with_reducible refine condP_no ?_ ?_); (· assumption)) | ((with_reducible refine ArP_i64 ?_ ?_); (· omega)) | ((with_reducible refine mustP.mk ?_ ?_); (· first | omega | rfl | (dsimp only; omega))) | (with_reducible refine EqP_nil tab_ok ?_) | (with_reducible refine EqP_sli tab_ok ?_) | (with_reducible refine DrawP_auto tab_ok (by kernel_rfl) (by decide +kernel) ?_) | (with_reducible refine DrawP_auto2 tab_ok (by kernel_rfl) (by decide +kernel) ?_) | (with_reducible refine eq43 ?_) | (with_reducible refine eq55 ?_) | (with_reducible refine eq57 ?_) | (with_reducible refine eq93 ?_) | (with_reducible refine eq101 ?_) | (with_reducible refine eq116 ?_) | (with_reducible refine eq119 ?_))))
  conv => whnf
  refine CallP_stand 1 (xs := [.slice A n q, .bool cl]) (fun vs w => by kernel_rfl) rfl rfl rfl fun b G1 hG1 hc1 => ?_
  conv => whnf
  have g := LCheck_gives (c := 1) (one_line hc1 (hp.mono hG1) hq) (by simp [maxLen])
  rw [lineErr_is, he] at g
  refine CallP_gives (fun vs w => by kernel_rfl) (by kernel_rfl) g ?_
  have hcm : ∀ i, i ≤ k → 0 ≤ cumI P m i ∧ cumI P m i ≤ 65535 * i := fun i => by
    induction i with
    | zero => intro _; simp [cumI]
    | succ i ih =>
      intro hi
      have h1 := ih (by omega)
      have h2 := hgood i (by omega)
      rw [cumI, Nat.mod_eq_of_lt (by omega)]; omega
  (repeat ((try (conv => whnf)); (first | (with_reducible refine condP_true ?_) | (with_reducible refine condP_false ?_) | (with_reducible refine condP_not ?_) | (with_reducible refine condP_and ?_) | ((with_reducible refine condP_dt ?_ ?_); (· omega)) | ((with_reducible refine condP_df ?_ ?_); (· omega)) | ((with_reducible refine condP_yes ?_ ?_); (· assumption)) | ((with_reducible refine condP_no ?_ ?_); (· assumption)) | ((with_reducible refine ArP_i64 ?_ ?_); (· omega)) | ((with_reducible refine mustP.mk ?_ ?_); (· first | omega | rfl | (dsimp only; omega))) | (with_reducible refine EqP_nil tab_ok ?_) | (with_reducible refine EqP_sli tab_ok ?_) | (with_reducible refine DrawP_auto tab_ok (by kernel_rfl) (by decide +kernel) ?_) | (with_reducible refine DrawP_auto2 tab_ok (by kernel_rfl) (by decide +kernel) ?_) | (with_reducible refine eq43 ?_) | (with_reducible refine eq55 ?_) | (with_reducible refine eq57 ?_) | (with_reducible refine eq93 ?_) | (with_reducible refine eq101 ?_) | (with_reducible refine eq116 ?_) | (with_reducible refine eq119 ?_))))
  conv => whnf
  refine LoopP_at tab_ok (fun i => i ≤ k) (fun (i : Nat) => [(37, .val (.int .i64 i)), (9, .val (.int .i64 (cumI P m i)))]) (fun i => [.cells 34 [.val (.slice A n q), .val (.bool cl)], .gone]) (fun i => m - i) 0 (Nat.zero_le _) ?_ ?_
  · ((refine Le_head ?_); (conv => whnf); (refine Le_mk (by rfl) (by rfl) ?_ ?_); (· (repeat (first | (with_reducible exact frLe_nil) | (with_reducible refine frLe_any ?_) | (with_reducible refine frLe_val ?_) | ((with_reducible refine frLe_eq rfl ?_ ?_); (· rfl)) | ((with_reducible refine frLe_val' (int_eq ?_) ?_ ?_); (· omega); (· rfl)) | ((with_reducible refine frLe_val' (int_eq ?_) ?_ ?_); (· simp only [Int.natCast_add, Int.natCast_one, Int.natCast_ofNat] <;> omega); (· rfl)) | ((with_reducible refine frLe_val' (bool_eq ?_) ?_ ?_); (· first | assumption | (symm; assumption)); (· rfl))))))
    exact hpLe_cells (by (repeat (first | (with_reducible exact frLe_nil) | (with_reducible refine frLe_any ?_) | (with_reducible refine frLe_val ?_) | ((with_reducible refine frLe_eq rfl ?_ ?_); (· rfl)) | ((with_reducible refine frLe_val' (int_eq ?_) ?_ ?_); (· omega); (· rfl)) | ((with_reducible refine frLe_val' (int_eq ?_) ?_ ?_); (· simp only [Int.natCast_add, Int.natCast_one, Int.natCast_ofNat] <;> omega); (· rfl)) | ((with_reducible refine frLe_val' (bool_eq ?_) ?_ ?_); (· first | assumption | (symm; assumption)); (· rfl))))) (hpLe_gone hpLe_nil)
  · rintro i hi
    have hci := hcm i hi
    rcases Nat.lt_or_ge i k with h1 | h1
    · obtain ⟨p, rfl, x0⟩ := (hP.mono hG1).cell (x := i) (j := 0) (by omega) rfl
      obtain ⟨v1, v2⟩ := hgood i h1
      have hnx : cumI P m (i + 1) = cumI P m i + P i := by rw [cumI, Nat.mod_eq_of_lt (by omega)]
      generalize hw : cumI P m (i + 1) = w at *
      generalize cumI P m i = u at *
      generalize P i = pv at *
      clear hp hP hc1 g hgood hcm hend hbad
      (repeat ((try (conv => whnf)); (first | (refine OldCells_one _ x0 ?_) | (with_reducible refine condP_true ?_) | (with_reducible refine condP_false ?_) | (with_reducible refine condP_not ?_) | (with_reducible refine condP_and ?_) | ((with_reducible refine condP_dt ?_ ?_); (· omega)) | ((with_reducible refine condP_df ?_ ?_); (· omega)) | ((with_reducible refine condP_yes ?_ ?_); (· assumption)) | ((with_reducible refine condP_no ?_ ?_); (· assumption)) | ((with_reducible refine ArP_i64 ?_ ?_); (· omega)) | ((with_reducible refine mustP.mk ?_ ?_); (· first | omega | rfl | (dsimp only; omega))) | (with_reducible refine EqP_nil tab_ok ?_) | (with_reducible refine EqP_sli tab_ok ?_) | (with_reducible refine DrawP_auto tab_ok (by kernel_rfl) (by decide +kernel) ?_) | (with_reducible refine DrawP_auto2 tab_ok (by kernel_rfl) (by decide +kernel) ?_) | (with_reducible refine eq43 ?_) | (with_reducible refine eq55 ?_) | (with_reducible refine eq57 ?_) | (with_reducible refine eq93 ?_) | (with_reducible refine eq101 ?_) | (with_reducible refine eq116 ?_) | (with_reducible refine eq119 ?_))))
      conv => whnf
      refine ⟨i + 1, by omega, by omega, ?_⟩
      rw [hw]
      ((refine Le_head ?_); (conv => whnf); (refine Le_mk (by rfl) (by rfl) ?_ ?_); (· (repeat (first | (with_reducible exact frLe_nil) | (with_reducible refine frLe_any ?_) | (with_reducible refine frLe_val ?_) | ((with_reducible refine frLe_eq rfl ?_ ?_); (· rfl)) | ((with_reducible refine frLe_val' (int_eq ?_) ?_ ?_); (· omega); (· rfl)) | ((with_reducible refine frLe_val' (int_eq ?_) ?_ ?_); (· simp only [Int.natCast_add, Int.natCast_one, Int.natCast_ofNat] <;> omega); (· rfl)) | ((with_reducible refine frLe_val' (bool_eq ?_) ?_ ?_); (· first | assumption | (symm; assumption)); (· rfl))))))
      exact hpLe_cells (by (repeat (first | (with_reducible exact frLe_nil) | (with_reducible refine frLe_any ?_) | (with_reducible refine frLe_val ?_) | ((with_reducible refine frLe_eq rfl ?_ ?_); (· rfl)) | ((with_reducible refine frLe_val' (int_eq ?_) ?_ ?_); (· omega); (· rfl)) | ((with_reducible refine frLe_val' (int_eq ?_) ?_ ?_); (· simp only [Int.natCast_add, Int.natCast_one, Int.natCast_ofNat] <;> omega); (· rfl)) | ((with_reducible refine frLe_val' (bool_eq ?_) ?_ ?_); (· first | assumption | (symm; assumption)); (· rfl))))) (hpLe_gone hpLe_nil)
    · obtain rfl : i = k := by omega
      rcases hend with ⟨e1, e2⟩ | ⟨e1, e2⟩
      · obtain ⟨p, rfl, x0⟩ := (hP.mono hG1).cell (x := i) (j := 0) (by omega) rfl
        have e3 : P i < 1 ∨ (¬ P i < 1 ∧ 65535 < P i) := by omega
        generalize cumI P m i = u at *
        generalize P i = pv at *
        clear hp hP hc1 g hgood hcm hbad
        rcases e3 with e3 | ⟨e3, e4⟩
        all_goals
          (repeat ((try (conv => whnf)); (first | (refine OldCells_one _ x0 ?_) | (with_reducible refine condP_true ?_) | (with_reducible refine condP_false ?_) | (with_reducible refine condP_not ?_) | (with_reducible refine condP_and ?_) | ((with_reducible refine condP_dt ?_ ?_); (· omega)) | ((with_reducible refine condP_df ?_ ?_); (· omega)) | ((with_reducible refine condP_yes ?_ ?_); (· assumption)) | ((with_reducible refine condP_no ?_ ?_); (· assumption)) | ((with_reducible refine ArP_i64 ?_ ?_); (· omega)) | ((with_reducible refine mustP.mk ?_ ?_); (· first | omega | rfl | (dsimp only; omega))) | (with_reducible refine EqP_nil tab_ok ?_) | (with_reducible refine EqP_sli tab_ok ?_) | (with_reducible refine DrawP_auto tab_ok (by kernel_rfl) (by decide +kernel) ?_) | (with_reducible refine DrawP_auto2 tab_ok (by kernel_rfl) (by decide +kernel) ?_) | (with_reducible refine eq43 ?_) | (with_reducible refine eq55 ?_) | (with_reducible refine eq57 ?_) | (with_reducible refine eq93 ?_) | (with_reducible refine eq101 ?_) | (with_reducible refine eq116 ?_) | (with_reducible refine eq119 ?_))))
          exact ⟨rfl, rfl⟩
      · subst e1
        generalize cumI P i i = u at *
        clear hp hP hc1 g hgood hcm hbad
        rcases e2 with e2 | e2
        all_goals
          (repeat ((try (conv => whnf)); (first | (with_reducible refine condP_true ?_) | (with_reducible refine condP_false ?_) | (with_reducible refine condP_not ?_) | (with_reducible refine condP_and ?_) | ((with_reducible refine condP_dt ?_ ?_); (· omega)) | ((with_reducible refine condP_df ?_ ?_); (· omega)) | ((with_reducible refine condP_yes ?_ ?_); (· assumption)) | ((with_reducible refine condP_no ?_ ?_); (· assumption)) | ((with_reducible refine ArP_i64 ?_ ?_); (· omega)) | ((with_reducible refine mustP.mk ?_ ?_); (· first | omega | rfl | (dsimp only; omega))) | (with_reducible refine EqP_nil tab_ok ?_) | (with_reducible refine EqP_sli tab_ok ?_) | (with_reducible refine DrawP_auto tab_ok (by kernel_rfl) (by decide +kernel) ?_) | (with_reducible refine DrawP_auto2 tab_ok (by kernel_rfl) (by decide +kernel) ?_) | (with_reducible refine eq43 ?_) | (with_reducible refine eq55 ?_) | (with_reducible refine eq57 ?_) | (with_reducible refine eq93 ?_) | (with_reducible refine eq101 ?_) | (with_reducible refine eq116 ?_) | (with_reducible refine eq119 ?_))))
          exact ⟨rfl, rfl⟩
end
end Go.Proofs.Ytpgjbfbdappniaa
