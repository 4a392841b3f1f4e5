/-
  The reference's Dilated.
-/
import Derived.Test.YtiakdbcikmkomaaDilatedLaw
import Derived.Test.YtiakdbcikmkomaaErodeA
namespace Go.Proofs.Ytiakdbcikmkomaa
open Go.RowKit
set_option linter.unusedVariables false
set_option maxRecDepth 20000
set_option maxHeartbeats 8000000 in
theorem Dilated_makes (A : Option Addr) (L : List Run) (c : Nat) (w : Int) (G : Mem) (hA : RunsM G A L) (v : ValidL L) (hw : 0 ≤ w ∧ w ≤ 64) (hshort : L.length ≤ 1000000) {E : List Run} (hE : okR E) (hcl : ∀ x y, hasR E x y ↔ cellD w L x y) : Makes Try.prog 12 [.val (.slice A L.length c), .val (.int .i64 w)] G id 34 3 E.length (flatR E) := by
  have vE := dilate_valid hE hcl
  have vn : ValidL [] := ValidL.mk trivial (by simp)
  refine Makes_of tab_ok Try.func12 (.alone fun _ => rfl) ?_
  (repeat ((try (conv => whnf)); (first | (with_reducible first | refine condP_true ?_ | refine condP_false ?_ | refine condP_not ?_ | refine condP_and ?_) | ((with_reducible refine condP_dt ?_ ?_); (· omega)) | ((with_reducible refine condP_df ?_ ?_); (· omega)) | ((with_reducible refine condP_yes ?_ ?_); (· assumption)) | ((with_reducible refine condP_no ?_ ?_); (· assumption)) | ((with_reducible refine ArP_i64 ?_ ?_); (· omega)) | ((with_reducible refine mustP.mk ?_ ?_); (· first | omega | rfl | (dsimp only; omega))) | (with_reducible first | refine EqP_nil tab_ok ?_ | refine EqP_sli tab_ok ?_ | refine DrawP_auto tab_ok (by kernel_rfl) (by decide +kernel) ?_ | refine DrawP_auto2 tab_ok (by kernel_rfl) (by decide +kernel) ?_ | refine eq34 ?_ | refine eq68 ?_))))
  conv => whnf
  refine LoopP_at2 tab_ok (fun (i : Nat) (l : List Int) => RowsD w L i 0 l) (fun i l => [(18, .val (.int .i64 i)), (5, .own 0)]) (fun i l => [.own 3 1 l.length (ints l)]) (fun i l => L.length - i) 0 [] (RowsD.start hw.1 L) ?_ ?_
  · refine Le_own 3 1 ?_
    conv => whnf
    ((refine Le_head ?_); (conv => whnf); (refine Le_mk (by rfl) (by rfl) ?_ ?_); (· (repeat (first | (with_reducible exact frLe_nil) | (with_reducible first | refine frLe_any ?_ | refine frLe_val ?_) | ((with_reducible refine frLe_eq rfl ?_ ?_); (· rfl)) | ((with_reducible refine frLe_val' (int_eq ?_) ?_ ?_); (· omega); (· rfl)) | ((with_reducible refine frLe_val' (int_eq ?_) ?_ ?_); (· simp only [Int.natCast_add, Int.natCast_one, Int.natCast_ofNat] <;> omega); (· rfl)) | ((with_reducible refine frLe_val' (bool_eq ?_) ?_ ?_); (· first | assumption | (symm; assumption)); (· rfl))))))
    exact hpLe_own rfl rfl hpLe_nil
  · intro i l hi
    rcases Nat.lt_or_ge i L.length with h1 | h1
    · obtain ⟨r, hr⟩ : ∃ r, L[i]? = some r := ⟨_, List.getElem?_eq_getElem h1⟩
      obtain ⟨p, rfl, c0, c1, c2⟩ := hA.at_ hr
      have hbd := v.bd (List.mem_of_getElem? hr)
      clear c1 c2
      (repeat ((try (conv => whnf)); (first | (refine OldCells_one _ c0 ?_) | (with_reducible first | refine condP_true ?_ | refine condP_false ?_ | refine condP_not ?_ | refine condP_and ?_) | ((with_reducible refine condP_dt ?_ ?_); (· omega)) | ((with_reducible refine condP_df ?_ ?_); (· omega)) | ((with_reducible refine condP_yes ?_ ?_); (· assumption)) | ((with_reducible refine condP_no ?_ ?_); (· assumption)) | ((with_reducible refine ArP_i64 ?_ ?_); (· omega)) | ((with_reducible refine mustP.mk ?_ ?_); (· first | omega | rfl | (dsimp only; omega))) | (with_reducible first | refine EqP_nil tab_ok ?_ | refine EqP_sli tab_ok ?_ | refine DrawP_auto tab_ok (by kernel_rfl) (by decide +kernel) ?_ | refine DrawP_auto2 tab_ok (by kernel_rfl) (by decide +kernel) ?_ | refine eq34 ?_ | refine eq68 ?_))))
      conv => whnf
      refine LoopP_at2 tab_ok (fun (k : Nat) (l : List Int) => RowsD w L i k l) (fun k l => [(7, .val (.int .i64 (r.y - w + k))), (5, .own 0)]) (fun k l => [.own 3 1 l.length (ints l)]) (fun k l => (2 * w + 1 - k).toNat) 0 l hi ?_ ?_
      · conv => whnf
        ((refine Le_head ?_); (conv => whnf); (refine Le_mk (by rfl) (by rfl) ?_ ?_); (· (repeat (first | (with_reducible exact frLe_nil) | (with_reducible first | refine frLe_any ?_ | refine frLe_val ?_) | ((with_reducible refine frLe_eq rfl ?_ ?_); (· rfl)) | ((with_reducible refine frLe_val' (int_eq ?_) ?_ ?_); (· omega); (· rfl)) | ((with_reducible refine frLe_val' (int_eq ?_) ?_ ?_); (· simp only [Int.natCast_add, Int.natCast_one, Int.natCast_ofNat] <;> omega); (· rfl)) | ((with_reducible refine frLe_val' (bool_eq ?_) ?_ ?_); (· first | assumption | (symm; assumption)); (· rfl))))))
        exact hpLe_own rfl rfl hpLe_nil
      · intro k l hk
        have hkl := hk.kle
        have hll := hk.len
        by_cases h2 : (k : Int) = 2 * w + 1
        · have hn := hk.next hw.2 hr h2
          clear hk hi
          (repeat ((try (conv => whnf)); (first | (refine OldCells_one _ c0 ?_) | (with_reducible first | refine condP_true ?_ | refine condP_false ?_ | refine condP_not ?_ | refine condP_and ?_) | ((with_reducible refine condP_dt ?_ ?_); (· omega)) | ((with_reducible refine condP_df ?_ ?_); (· omega)) | ((with_reducible refine condP_yes ?_ ?_); (· assumption)) | ((with_reducible refine condP_no ?_ ?_); (· assumption)) | ((with_reducible refine ArP_i64 ?_ ?_); (· omega)) | ((with_reducible refine mustP.mk ?_ ?_); (· first | omega | rfl | (dsimp only; omega))) | (with_reducible first | refine EqP_nil tab_ok ?_ | refine EqP_sli tab_ok ?_ | refine DrawP_auto tab_ok (by kernel_rfl) (by decide +kernel) ?_ | refine DrawP_auto2 tab_ok (by kernel_rfl) (by decide +kernel) ?_ | refine eq34 ?_ | refine eq68 ?_))))
          refine ⟨i + 1, l, hn, by omega, ?_⟩
          ((refine Le_head ?_); (conv => whnf); (refine Le_mk (by rfl) (by rfl) ?_ ?_); (· (repeat (first | (with_reducible exact frLe_nil) | (with_reducible first | refine frLe_any ?_ | refine frLe_val ?_) | ((with_reducible refine frLe_eq rfl ?_ ?_); (· rfl)) | ((with_reducible refine frLe_val' (int_eq ?_) ?_ ?_); (· omega); (· rfl)) | ((with_reducible refine frLe_val' (int_eq ?_) ?_ ?_); (· simp only [Int.natCast_add, Int.natCast_one, Int.natCast_ofNat] <;> omega); (· rfl)) | ((with_reducible refine frLe_val' (bool_eq ?_) ?_ ?_); (· first | assumption | (symm; assumption)); (· rfl))))))
          exact hpLe_own rfl rfl hpLe_nil
        · by_cases h3 : -8192 ≤ r.y - w + k ∧ r.y - w + k ≤ 8191
          · have hn := hk.put hr (by omega) h3.1 h3.2
            have gi := In_gives (r.y - w + k) (-8192) 8191 G true ⟨fun _ => h3, fun _ => rfl⟩
            clear hk hi
            (repeat ((try (conv => whnf)); (first | (refine OldCells_one _ c0 ?_) | (with_reducible first | refine condP_true ?_ | refine condP_false ?_ | refine condP_not ?_ | refine condP_and ?_) | ((with_reducible refine condP_dt ?_ ?_); (· omega)) | ((with_reducible refine condP_df ?_ ?_); (· omega)) | ((with_reducible refine condP_yes ?_ ?_); (· assumption)) | ((with_reducible refine condP_no ?_ ?_); (· assumption)) | ((with_reducible refine ArP_i64 ?_ ?_); (· omega)) | ((with_reducible refine mustP.mk ?_ ?_); (· first | omega | rfl | (dsimp only; omega))) | (with_reducible first | refine EqP_nil tab_ok ?_ | refine EqP_sli tab_ok ?_ | refine DrawP_auto tab_ok (by kernel_rfl) (by decide +kernel) ?_ | refine DrawP_auto2 tab_ok (by kernel_rfl) (by decide +kernel) ?_ | refine eq34 ?_ | refine eq68 ?_ | refine CallP_gives (fun vs w => by kernel_rfl) (by kernel_rfl) (gi) ?_ | refine RCallP_gives (fun vs w => by kernel_rfl) (by kernel_rfl) (gi) ?_))))
            conv => whnf
            refine CallP_takes (fun vs w => by kernel_rfl) (by rfl) (by kernel_rfl) (put_takes l (r.y - w + k) _ (by omega)) ?_
            (repeat ((try (conv => whnf)); (first | (with_reducible first | refine condP_true ?_ | refine condP_false ?_ | refine condP_not ?_ | refine condP_and ?_) | ((with_reducible refine condP_dt ?_ ?_); (· omega)) | ((with_reducible refine condP_df ?_ ?_); (· omega)) | ((with_reducible refine condP_yes ?_ ?_); (· assumption)) | ((with_reducible refine condP_no ?_ ?_); (· assumption)) | ((with_reducible refine ArP_i64 ?_ ?_); (· omega)) | ((with_reducible refine mustP.mk ?_ ?_); (· first | omega | rfl | (dsimp only; omega))) | (with_reducible first | refine EqP_nil tab_ok ?_ | refine EqP_sli tab_ok ?_ | refine DrawP_auto tab_ok (by kernel_rfl) (by decide +kernel) ?_ | refine DrawP_auto2 tab_ok (by kernel_rfl) (by decide +kernel) ?_ | refine eq34 ?_ | refine eq68 ?_))))
            refine ⟨k + 1, ins (r.y - w + k) l, hn, by push_cast; omega, ?_⟩
            refine Le_move 1 0 rfl rfl rfl rfl ?_
            conv => whnf
            ((refine Le_head ?_); (conv => whnf); (refine Le_mk (by rfl) (by rfl) ?_ ?_); (· (repeat (first | (with_reducible exact frLe_nil) | (with_reducible first | refine frLe_any ?_ | refine frLe_val ?_) | ((with_reducible refine frLe_eq rfl ?_ ?_); (· rfl)) | ((with_reducible refine frLe_val' (int_eq ?_) ?_ ?_); (· omega); (· rfl)) | ((with_reducible refine frLe_val' (int_eq ?_) ?_ ?_); (· simp only [Int.natCast_add, Int.natCast_one, Int.natCast_ofNat] <;> omega); (· rfl)) | ((with_reducible refine frLe_val' (bool_eq ?_) ?_ ?_); (· first | assumption | (symm; assumption)); (· rfl))))))
            exact hpLe_own rfl rfl hpLe_nil
          · have hn := hk.skip hr (by omega) h3
            have gi := In_gives (r.y - w + k) (-8192) 8191 G false ⟨(fun h => by cases h), fun h => absurd h h3⟩
            clear hk hi
            (repeat ((try (conv => whnf)); (first | (refine OldCells_one _ c0 ?_) | (with_reducible first | refine condP_true ?_ | refine condP_false ?_ | refine condP_not ?_ | refine condP_and ?_) | ((with_reducible refine condP_dt ?_ ?_); (· omega)) | ((with_reducible refine condP_df ?_ ?_); (· omega)) | ((with_reducible refine condP_yes ?_ ?_); (· assumption)) | ((with_reducible refine condP_no ?_ ?_); (· assumption)) | ((with_reducible refine ArP_i64 ?_ ?_); (· omega)) | ((with_reducible refine mustP.mk ?_ ?_); (· first | omega | rfl | (dsimp only; omega))) | (with_reducible first | refine EqP_nil tab_ok ?_ | refine EqP_sli tab_ok ?_ | refine DrawP_auto tab_ok (by kernel_rfl) (by decide +kernel) ?_ | refine DrawP_auto2 tab_ok (by kernel_rfl) (by decide +kernel) ?_ | refine eq34 ?_ | refine eq68 ?_ | refine CallP_gives (fun vs w => by kernel_rfl) (by kernel_rfl) (gi) ?_ | refine RCallP_gives (fun vs w => by kernel_rfl) (by kernel_rfl) (gi) ?_))))
            refine ⟨k + 1, l, hn, by push_cast; omega, ?_⟩
            conv => whnf
            ((refine Le_head ?_); (conv => whnf); (refine Le_mk (by rfl) (by rfl) ?_ ?_); (· (repeat (first | (with_reducible exact frLe_nil) | (with_reducible first | refine frLe_any ?_ | refine frLe_val ?_) | ((with_reducible refine frLe_eq rfl ?_ ?_); (· rfl)) | ((with_reducible refine frLe_val' (int_eq ?_) ?_ ?_); (· omega); (· rfl)) | ((with_reducible refine frLe_val' (int_eq ?_) ?_ ?_); (· simp only [Int.natCast_add, Int.natCast_one, Int.natCast_ofNat] <;> omega); (· rfl)) | ((with_reducible refine frLe_val' (bool_eq ?_) ?_ ?_); (· first | assumption | (symm; assumption)); (· rfl))))))
            exact hpLe_own rfl rfl hpLe_nil
    · have hi1 := hi.le
      have hie : i = L.length := by omega
      subst hie
      have hsrt := hi.srt
      have hll := hi.len
      (repeat ((try (conv => whnf)); (first | (with_reducible first | refine condP_true ?_ | refine condP_false ?_ | refine condP_not ?_ | refine condP_and ?_) | ((with_reducible refine condP_dt ?_ ?_); (· omega)) | ((with_reducible refine condP_df ?_ ?_); (· omega)) | ((with_reducible refine condP_yes ?_ ?_); (· assumption)) | ((with_reducible refine condP_no ?_ ?_); (· assumption)) | ((with_reducible refine ArP_i64 ?_ ?_); (· omega)) | ((with_reducible refine mustP.mk ?_ ?_); (· first | omega | rfl | (dsimp only; omega))) | (with_reducible first | refine EqP_nil tab_ok ?_ | refine EqP_sli tab_ok ?_ | refine DrawP_auto tab_ok (by kernel_rfl) (by decide +kernel) ?_ | refine DrawP_auto2 tab_ok (by kernel_rfl) (by decide +kernel) ?_ | refine eq34 ?_ | refine eq68 ?_))))
      conv => whnf
      refine LoopP_at2 tab_ok (fun (q : Nat) (out : List Run) => q ≤ l.length ∧ RowsAt (opB 2) (nthR E) (nthR []) E.length 0 l q out) (fun q out => [(47, .val (.int .i64 q)), (8, .own 1)]) (fun q out => [.own 3 1 l.length (ints l), .own 34 3 out.length (flatR out)]) (fun q out => l.length - q) 0 [] ⟨Nat.zero_le _, RowsAt.start _ _ _ _ _ _⟩ ?_ ?_
      · refine Le_own 34 3 ?_
        conv => whnf
        ((refine Le_head ?_); (conv => whnf); (refine Le_mk (by rfl) (by rfl) ?_ ?_); (· (repeat (first | (with_reducible exact frLe_nil) | (with_reducible first | refine frLe_any ?_ | refine frLe_val ?_) | ((with_reducible refine frLe_eq rfl ?_ ?_); (· rfl)) | ((with_reducible refine frLe_val' (int_eq ?_) ?_ ?_); (· omega); (· rfl)) | ((with_reducible refine frLe_val' (int_eq ?_) ?_ ?_); (· simp only [Int.natCast_add, Int.natCast_one, Int.natCast_ofNat] <;> omega); (· rfl)) | ((with_reducible refine frLe_val' (bool_eq ?_) ?_ ?_); (· first | assumption | (symm; assumption)); (· rfl))))))
        exact hpLe_own rfl rfl (hpLe_own rfl rfl hpLe_nil)
      · rintro q out ⟨hq, hrows⟩
        rcases Nat.lt_or_ge q l.length with h2 | h2
        · obtain ⟨Y, hY⟩ : ∃ Y, l[q]? = some Y := ⟨_, List.getElem?_eq_getElem h2⟩
          obtain ⟨hYb, jY, rY, eY2, eY3, eY4⟩ := hi.back Y (List.mem_of_getElem? hY)
          have eY1 := (List.getElem?_eq_some_iff.1 eY2).1
          (repeat ((try (conv => whnf)); (first | (with_reducible first | refine condP_true ?_ | refine condP_false ?_ | refine condP_not ?_ | refine condP_and ?_) | ((with_reducible refine condP_dt ?_ ?_); (· omega)) | ((with_reducible refine condP_df ?_ ?_); (· omega)) | ((with_reducible refine condP_yes ?_ ?_); (· assumption)) | ((with_reducible refine condP_no ?_ ?_); (· assumption)) | ((with_reducible refine ArP_i64 ?_ ?_); (· omega)) | ((with_reducible refine mustP.mk ?_ ?_); (· first | omega | rfl | (dsimp only; omega))) | (with_reducible first | refine EqP_nil tab_ok ?_ | refine EqP_sli tab_ok ?_ | refine DrawP_auto tab_ok (by kernel_rfl) (by decide +kernel) ?_ | refine DrawP_auto2 tab_ok (by kernel_rfl) (by decide +kernel) ?_ | refine eq34 ?_ | refine eq68 ?_))))
          conv => whnf
          refine OwnCells_one (.int .i64 Y) (by rw [Int.toNat_natCast, Nat.mul_one]; exact ints_get hY) ?_
          (repeat ((try (conv => whnf)); (first | (with_reducible first | refine condP_true ?_ | refine condP_false ?_ | refine condP_not ?_ | refine condP_and ?_) | ((with_reducible refine condP_dt ?_ ?_); (· omega)) | ((with_reducible refine condP_df ?_ ?_); (· omega)) | ((with_reducible refine condP_yes ?_ ?_); (· assumption)) | ((with_reducible refine condP_no ?_ ?_); (· assumption)) | ((with_reducible refine ArP_i64 ?_ ?_); (· omega)) | ((with_reducible refine mustP.mk ?_ ?_); (· first | omega | rfl | (dsimp only; omega))) | (with_reducible first | refine EqP_nil tab_ok ?_ | refine EqP_sli tab_ok ?_ | refine DrawP_auto tab_ok (by kernel_rfl) (by decide +kernel) ?_ | refine DrawP_auto2 tab_ok (by kernel_rfl) (by decide +kernel) ?_ | refine eq34 ?_ | refine eq68 ?_))))
          conv => whnf
          refine LoopP_at2 tab_ok (fun (i : Nat) (xs : List Int) => EdgF (fun r => max (r.x0 - w) (-8192)) (fun r => min (r.x1 + w) 8192) (fun r => Y - w ≤ r.y ∧ r.y ≤ Y + w) L i xs ∧ ∀ z ∈ xs, -8192 ≤ z ∧ z ≤ 8192) (fun i xs => [(53, .val (.int .i64 i)), (11, .own 2)]) (fun i xs => [.own 3 1 l.length (ints l), .own 34 3 out.length (flatR out), .own 3 1 xs.length (ints xs)]) (fun i xs => L.length - i) 0 [] ⟨EdgF.start _ _ _ _, by simp⟩ ?_ ?_
          · refine Le_own 3 1 ?_
            conv => whnf
            ((refine Le_head ?_); (conv => whnf); (refine Le_mk (by rfl) (by rfl) ?_ ?_); (· (repeat (first | (with_reducible exact frLe_nil) | (with_reducible first | refine frLe_any ?_ | refine frLe_val ?_) | ((with_reducible refine frLe_eq rfl ?_ ?_); (· rfl)) | ((with_reducible refine frLe_val' (int_eq ?_) ?_ ?_); (· omega); (· rfl)) | ((with_reducible refine frLe_val' (int_eq ?_) ?_ ?_); (· simp only [Int.natCast_add, Int.natCast_one, Int.natCast_ofNat] <;> omega); (· rfl)) | ((with_reducible refine frLe_val' (bool_eq ?_) ?_ ?_); (· first | assumption | (symm; assumption)); (· rfl))))))
            exact hpLe_own rfl rfl (hpLe_own rfl rfl (hpLe_own rfl rfl hpLe_nil))
          · rintro i xs ⟨hx, hx8⟩
            have hxl := hx.len
            have hxe := hx.le
            rcases Nat.lt_or_ge i L.length with h3 | h3
            · obtain ⟨r, hr⟩ : ∃ r, L[i]? = some r := ⟨_, List.getElem?_eq_getElem h3⟩
              obtain ⟨p, rfl, c0, c1, c2⟩ := hA.at_ hr
              have hbd := v.bd (List.mem_of_getElem? hr)
              by_cases hy : Y - w ≤ r.y ∧ r.y ≤ Y + w
              · have gi := In_gives r.y (Y - w) (Y + w) G true ⟨fun _ => hy, fun _ => rfl⟩
                have hi0 := ins_length (x := max (r.x0 - w) (-8192)) (l := xs)
                have hst := hx.step hr (a := max (r.x0 - w) (-8192)) (b := min (r.x1 + w) 8192) rfl rfl (by omega) (by omega)
                have hst8 : ∀ z ∈ ins (min (r.x1 + w) 8192) (ins (max (r.x0 - w) (-8192)) xs), -8192 ≤ z ∧ z ≤ 8192 := fun z hz => by
                  rcases mem_ins.1 hz with rfl | hz
                  · omega
                  · rcases mem_ins.1 hz with rfl | hz
                    · omega
                    · exact hx8 z hz
                clear hx hi hrows hx8
                (repeat ((try (conv => whnf)); (first | (refine OldCells_one _ c0 ?_) | (with_reducible refine DrawP_mk tab_ok (by kernel_rfl) 18 [2] (by decide +kernel) ?_) | (refine OldCells_one _ c1 ?_) | (refine OldCells_one _ c2 ?_) | (with_reducible first | refine condP_true ?_ | refine condP_false ?_ | refine condP_not ?_ | refine condP_and ?_) | ((with_reducible refine condP_dt ?_ ?_); (· omega)) | ((with_reducible refine condP_df ?_ ?_); (· omega)) | ((with_reducible refine condP_yes ?_ ?_); (· assumption)) | ((with_reducible refine condP_no ?_ ?_); (· assumption)) | ((with_reducible refine ArP_i64 ?_ ?_); (· omega)) | ((with_reducible refine mustP.mk ?_ ?_); (· first | omega | rfl | (dsimp only; omega))) | (with_reducible first | refine EqP_nil tab_ok ?_ | refine EqP_sli tab_ok ?_ | refine DrawP_auto tab_ok (by kernel_rfl) (by decide +kernel) ?_ | refine DrawP_auto2 tab_ok (by kernel_rfl) (by decide +kernel) ?_ | refine eq34 ?_ | refine eq68 ?_ | refine CallP_gives (fun vs w => by kernel_rfl) (by kernel_rfl) (gi) ?_ | refine RCallP_gives (fun vs w => by kernel_rfl) (by kernel_rfl) (gi) ?_ | refine CallP_takes (fun vs w => by kernel_rfl) (by kernel_rfl) (by kernel_rfl) (put_takes xs (max (r.x0 - w) (-8192)) _ (by omega)) ?_ | refine TakeP_by (by kernel_rfl) (fun vs w => by kernel_rfl) (by kernel_rfl) (put_takes xs (max (r.x0 - w) (-8192)) _ (by omega)) ?_ | refine CallP_takes (fun vs w => by kernel_rfl) (by kernel_rfl) (by kernel_rfl) (put_takes (ins (max (r.x0 - w) (-8192)) xs) (min (r.x1 + w) 8192) _ (by omega)) ?_ | refine TakeP_by (by kernel_rfl) (fun vs w => by kernel_rfl) (by kernel_rfl) (put_takes (ins (max (r.x0 - w) (-8192)) xs) (min (r.x1 + w) 8192) _ (by omega)) ?_))))
                refine ⟨i + 1, ins (min (r.x1 + w) 8192) (ins (max (r.x0 - w) (-8192)) xs), ⟨hst, hst8⟩, by omega, ?_⟩
                refine Le_move 4 2 rfl rfl rfl rfl ?_
                conv => whnf
                ((refine Le_head ?_); (conv => whnf); (refine Le_mk (by rfl) (by rfl) ?_ ?_); (· (repeat (first | (with_reducible exact frLe_nil) | (with_reducible first | refine frLe_any ?_ | refine frLe_val ?_) | ((with_reducible refine frLe_eq rfl ?_ ?_); (· rfl)) | ((with_reducible refine frLe_val' (int_eq ?_) ?_ ?_); (· omega); (· rfl)) | ((with_reducible refine frLe_val' (int_eq ?_) ?_ ?_); (· simp only [Int.natCast_add, Int.natCast_one, Int.natCast_ofNat] <;> omega); (· rfl)) | ((with_reducible refine frLe_val' (bool_eq ?_) ?_ ?_); (· first | assumption | (symm; assumption)); (· rfl))))))
                exact hpLe_own rfl rfl (hpLe_own rfl rfl (hpLe_own rfl rfl hpLe_nil))
              · have gi := In_gives r.y (Y - w) (Y + w) G false ⟨(fun h => by cases h), fun h => absurd h hy⟩
                have hst := hx.skip hr hy
                clear hx hi hrows
                (repeat ((try (conv => whnf)); (first | (refine OldCells_one _ c0 ?_) | (with_reducible first | refine condP_true ?_ | refine condP_false ?_ | refine condP_not ?_ | refine condP_and ?_) | ((with_reducible refine condP_dt ?_ ?_); (· omega)) | ((with_reducible refine condP_df ?_ ?_); (· omega)) | ((with_reducible refine condP_yes ?_ ?_); (· assumption)) | ((with_reducible refine condP_no ?_ ?_); (· assumption)) | ((with_reducible refine ArP_i64 ?_ ?_); (· omega)) | ((with_reducible refine mustP.mk ?_ ?_); (· first | omega | rfl | (dsimp only; omega))) | (with_reducible first | refine EqP_nil tab_ok ?_ | refine EqP_sli tab_ok ?_ | refine DrawP_auto tab_ok (by kernel_rfl) (by decide +kernel) ?_ | refine DrawP_auto2 tab_ok (by kernel_rfl) (by decide +kernel) ?_ | refine eq34 ?_ | refine eq68 ?_ | refine CallP_gives (fun vs w => by kernel_rfl) (by kernel_rfl) (gi) ?_ | refine RCallP_gives (fun vs w => by kernel_rfl) (by kernel_rfl) (gi) ?_))))
                refine ⟨i + 1, xs, ⟨hst, hx8⟩, by omega, ?_⟩
                ((refine Le_head ?_); (conv => whnf); (refine Le_mk (by rfl) (by rfl) ?_ ?_); (· (repeat (first | (with_reducible exact frLe_nil) | (with_reducible first | refine frLe_any ?_ | refine frLe_val ?_) | ((with_reducible refine frLe_eq rfl ?_ ?_); (· rfl)) | ((with_reducible refine frLe_val' (int_eq ?_) ?_ ?_); (· omega); (· rfl)) | ((with_reducible refine frLe_val' (int_eq ?_) ?_ ?_); (· simp only [Int.natCast_add, Int.natCast_one, Int.natCast_ofNat] <;> omega); (· rfl)) | ((with_reducible refine frLe_val' (bool_eq ?_) ?_ ?_); (· first | assumption | (symm; assumption)); (· rfl))))))
                exact hpLe_own rfl rfl (hpLe_own rfl rfl (hpLe_own rfl rfl hpLe_nil))
            · have hie : i = L.length := by omega
              subst hie
              have hb : Borders (nthR E) (nthR []) E.length 0 Y xs := hx.borders (dilate_edges hE hcl Y)
              obtain ⟨p0, hp0⟩ : ∃ p0, xs[0]? = some p0 := by
                have := (hx.has jY rY eY1 eY2 (by omega)).1
                cases xs with
                | nil => cases this
                | cons z xs => exact ⟨z, rfl⟩
              clear hx
              (repeat ((try (conv => whnf)); (first | (with_reducible first | refine condP_true ?_ | refine condP_false ?_ | refine condP_not ?_ | refine condP_and ?_) | ((with_reducible refine condP_dt ?_ ?_); (· omega)) | ((with_reducible refine condP_df ?_ ?_); (· omega)) | ((with_reducible refine condP_yes ?_ ?_); (· assumption)) | ((with_reducible refine condP_no ?_ ?_); (· assumption)) | ((with_reducible refine ArP_i64 ?_ ?_); (· omega)) | ((with_reducible refine mustP.mk ?_ ?_); (· first | omega | rfl | (dsimp only; omega))) | (with_reducible first | refine EqP_nil tab_ok ?_ | refine EqP_sli tab_ok ?_ | refine DrawP_auto tab_ok (by kernel_rfl) (by decide +kernel) ?_ | refine DrawP_auto2 tab_ok (by kernel_rfl) (by decide +kernel) ?_ | refine eq34 ?_ | refine eq68 ?_))))
              conv => whnf
              refine LoopP_at2 tab_ok (fun (j : Nat) (o : List Run) => ∃ p, xs[j]? = some p ∧ CellsAt (opB 2) (nthR E) (nthR []) E.length 0 l q Y p o) (fun j o => [(13, .val (.int .i64 j)), (8, .own 1)]) (fun j o => [.own 3 1 l.length (ints l), .own 34 3 o.length (flatR o), .own 3 1 xs.length (ints xs)]) (fun j o => xs.length - j) 0 out ⟨p0, hp0, hrows.enter (opB_no 2) hsrt hY hb hp0⟩ ?_ ?_
              · ((refine Le_head ?_); (conv => whnf); (refine Le_mk (by rfl) (by rfl) ?_ ?_); (· (repeat (first | (with_reducible exact frLe_nil) | (with_reducible first | refine frLe_any ?_ | refine frLe_val ?_) | ((with_reducible refine frLe_eq rfl ?_ ?_); (· rfl)) | ((with_reducible refine frLe_val' (int_eq ?_) ?_ ?_); (· omega); (· rfl)) | ((with_reducible refine frLe_val' (int_eq ?_) ?_ ?_); (· simp only [Int.natCast_add, Int.natCast_one, Int.natCast_ofNat] <;> omega); (· rfl)) | ((with_reducible refine frLe_val' (bool_eq ?_) ?_ ?_); (· first | assumption | (symm; assumption)); (· rfl))))))
                exact hpLe_own rfl rfl (hpLe_own rfl rfl (hpLe_own rfl rfl hpLe_nil))
              · rintro j o ⟨p, hp, hc⟩
                have hjl := (List.getElem?_eq_some_iff.1 hp).1
                have hol := cells_len vE vn hc
                rcases Nat.lt_or_ge (j + 1) xs.length with h4 | h4
                · obtain ⟨p', hp'⟩ : ∃ p', xs[j + 1]? = some p' := ⟨_, List.getElem?_eq_getElem h4⟩
                  have hlt := sorted_get hb.srt (Nat.lt_succ_self j) hp hp'
                  have hst := hc.step hb hp hp'
                  have hpb := hx8 p (List.mem_of_getElem? hp)
                  have hpb' := hx8 p' (List.mem_of_getElem? hp')
                  rw [hasB_nth, show hasB (nthR []) 0 p Y = false from hasB_nth [] p Y, opB_left] at hst
                  have hyes : hasL E p Y = true → CellsAt (opB 2) (nthR E) (nthR []) E.length 0 l q Y p' (joinR o Y p p') := fun h => by
                    rw [if_pos h] at hst; rw [joinR_add hc.up hlt]; exact hst
                  have hno : hasL E p Y = false → CellsAt (opB 2) (nthR E) (nthR []) E.length 0 l q Y p' o := fun h => by
                    rw [if_neg (by rw [h]; simp)] at hst; exact hst
                  have hin : (hasL E p Y = true ↔ ∃ r ∈ L, (Y - w ≤ r.y ∧ r.y ≤ Y + w) ∧ r.x0 - w ≤ p ∧ p < r.x1 + w) := by
                    rw [hasL_iff, hcl]
                    constructor
                    · rintro ⟨_, r, hr, h5, h6⟩; exact ⟨r, hr, h5, by omega⟩
                    · rintro ⟨r, hr, h5, h6⟩; exact ⟨hYb, r, hr, h5, by omega⟩
                  clear hst hc hrows hb hi hx8
                  (repeat ((try (conv => whnf)); (first | (with_reducible first | refine condP_true ?_ | refine condP_false ?_ | refine condP_not ?_ | refine condP_and ?_) | ((with_reducible refine condP_dt ?_ ?_); (· omega)) | ((with_reducible refine condP_df ?_ ?_); (· omega)) | ((with_reducible refine condP_yes ?_ ?_); (· assumption)) | ((with_reducible refine condP_no ?_ ?_); (· assumption)) | ((with_reducible refine ArP_i64 ?_ ?_); (· omega)) | ((with_reducible refine mustP.mk ?_ ?_); (· first | omega | rfl | (dsimp only; omega))) | (with_reducible first | refine EqP_nil tab_ok ?_ | refine EqP_sli tab_ok ?_ | refine DrawP_auto tab_ok (by kernel_rfl) (by decide +kernel) ?_ | refine DrawP_auto2 tab_ok (by kernel_rfl) (by decide +kernel) ?_ | refine eq34 ?_ | refine eq68 ?_))))
                  conv => whnf
                  refine LoopP_at2 tab_ok (fun (i : Nat) (b : Bool) => i ≤ L.length ∧ (b = true ↔ ∃ (j : Nat) (r : Run), j < i ∧ L[j]? = some r ∧ (Y - w ≤ r.y ∧ r.y ≤ Y + w) ∧ r.x0 - w ≤ p ∧ p < r.x1 + w)) (fun i b => [(97, .val (.int .i64 i)), (14, .val (.bool b))]) (fun i b => [.own 3 1 l.length (ints l), .own 34 3 o.length (flatR o), .own 3 1 xs.length (ints xs)]) (fun i b => L.length - i) 0 false ⟨Nat.zero_le _, ⟨(fun h => by cases h), fun ⟨j, r, h, _⟩ => by omega⟩⟩ ?_ ?_
                  · ((refine Le_head ?_); (conv => whnf); (refine Le_mk (by rfl) (by rfl) ?_ ?_); (· (repeat (first | (with_reducible exact frLe_nil) | (with_reducible first | refine frLe_any ?_ | refine frLe_val ?_) | ((with_reducible refine frLe_eq rfl ?_ ?_); (· rfl)) | ((with_reducible refine frLe_val' (int_eq ?_) ?_ ?_); (· omega); (· rfl)) | ((with_reducible refine frLe_val' (int_eq ?_) ?_ ?_); (· simp only [Int.natCast_add, Int.natCast_one, Int.natCast_ofNat] <;> omega); (· rfl)) | ((with_reducible refine frLe_val' (bool_eq ?_) ?_ ?_); (· first | assumption | (symm; assumption)); (· rfl))))))
                    exact hpLe_own rfl rfl (hpLe_own rfl rfl (hpLe_own rfl rfl hpLe_nil))
                  · rintro i b ⟨hi2, hv⟩
                    rcases Nat.lt_or_ge i L.length with h5 | h5
                    · obtain ⟨r, hr⟩ : ∃ r, L[i]? = some r := ⟨_, List.getElem?_eq_getElem h5⟩
                      obtain ⟨pa, rfl, c0, c1, c2⟩ := hA.at_ hr
                      have hbd := v.bd (List.mem_of_getElem? hr)
                      have stay : b = true → (true = true ↔ ∃ (j : Nat) (r : Run), j < i + 1 ∧ L[j]? = some r ∧ (Y - w ≤ r.y ∧ r.y ≤ Y + w) ∧ r.x0 - w ≤ p ∧ p < r.x1 + w) := fun h => ⟨fun _ => by
                        obtain ⟨j, q, g1, g2⟩ := hv.1 h
                        exact ⟨j, q, by omega, g2⟩, fun _ => rfl⟩
                      have no : ∀ b' : Bool, b = false → (b' = true ↔ ((Y - w ≤ r.y ∧ r.y ≤ Y + w) ∧ r.x0 - w ≤ p ∧ p < r.x1 + w)) → (b' = true ↔ ∃ (j : Nat) (r : Run), j < i + 1 ∧ L[j]? = some r ∧ (Y - w ≤ r.y ∧ r.y ≤ Y + w) ∧ r.x0 - w ≤ p ∧ p < r.x1 + w) := fun b' h h' => by
                        rw [h']
                        refine ⟨fun g => ⟨i, r, by omega, hr, g⟩, fun ⟨j, q, g1, g2, g3⟩ => ?_⟩
                        by_cases hj : j = i
                        · subst hj; rw [hr] at g2; cases g2; exact g3
                        · have := hv.2 ⟨j, q, by omega, g2, g3⟩
                          rw [h] at this; cases this
                      clear hv hin hyes hno
                      cases b
                      · by_cases hy : Y - w ≤ r.y ∧ r.y ≤ Y + w
                        · have gi := In_gives r.y (Y - w) (Y + w) G true ⟨fun _ => hy, fun _ => rfl⟩
                          by_cases e2 : r.x0 - w ≤ p
                          · have hs := no (decide (p < r.x1 + w)) rfl (by simp [hy, e2])
                            (repeat ((try (conv => whnf)); (first | (refine OldCells_one _ c0 ?_) | (refine OldCells_one _ c1 ?_) | (refine OldCells_one _ c2 ?_) | (with_reducible first | refine OwnCells_one (.int .i64 p) (ints_nat hp) ?_ | refine condP_true ?_ | refine condP_false ?_ | refine condP_not ?_ | refine condP_and ?_) | ((with_reducible refine condP_dt ?_ ?_); (· omega)) | ((with_reducible refine condP_df ?_ ?_); (· omega)) | ((with_reducible refine condP_yes ?_ ?_); (· assumption)) | ((with_reducible refine condP_no ?_ ?_); (· assumption)) | ((with_reducible refine ArP_i64 ?_ ?_); (· omega)) | ((with_reducible refine mustP.mk ?_ ?_); (· first | omega | rfl | (dsimp only; omega))) | (with_reducible first | refine EqP_nil tab_ok ?_ | refine EqP_sli tab_ok ?_ | refine DrawP_auto tab_ok (by kernel_rfl) (by decide +kernel) ?_ | refine DrawP_auto2 tab_ok (by kernel_rfl) (by decide +kernel) ?_ | refine eq34 ?_ | refine eq68 ?_ | refine CallP_gives (fun vs w => by kernel_rfl) (by kernel_rfl) (gi) ?_ | refine RCallP_gives (fun vs w => by kernel_rfl) (by kernel_rfl) (gi) ?_))))
                            refine ⟨i + 1, decide (p < r.x1 + w), ⟨by omega, hs⟩, by omega, ?_⟩
                            ((refine Le_head ?_); (conv => whnf); (refine Le_mk (by rfl) (by rfl) ?_ ?_); (· (repeat (first | (with_reducible exact frLe_nil) | (with_reducible first | refine frLe_any ?_ | refine frLe_val ?_) | ((with_reducible refine frLe_eq rfl ?_ ?_); (· rfl)) | ((with_reducible refine frLe_val' (int_eq ?_) ?_ ?_); (· omega); (· rfl)) | ((with_reducible refine frLe_val' (int_eq ?_) ?_ ?_); (· simp only [Int.natCast_add, Int.natCast_one, Int.natCast_ofNat] <;> omega); (· rfl)) | ((with_reducible refine frLe_val' (bool_eq ?_) ?_ ?_); (· first | assumption | (symm; assumption)); (· rfl))))))
                            exact hpLe_own rfl rfl (hpLe_own rfl rfl (hpLe_own rfl rfl hpLe_nil))
                          · have hs := no false rfl (by simp [e2])
                            (repeat ((try (conv => whnf)); (first | (refine OldCells_one _ c0 ?_) | (refine OldCells_one _ c1 ?_) | (refine OldCells_one _ c2 ?_) | (with_reducible first | refine OwnCells_one (.int .i64 p) (ints_nat hp) ?_ | refine condP_true ?_ | refine condP_false ?_ | refine condP_not ?_ | refine condP_and ?_) | ((with_reducible refine condP_dt ?_ ?_); (· omega)) | ((with_reducible refine condP_df ?_ ?_); (· omega)) | ((with_reducible refine condP_yes ?_ ?_); (· assumption)) | ((with_reducible refine condP_no ?_ ?_); (· assumption)) | ((with_reducible refine ArP_i64 ?_ ?_); (· omega)) | ((with_reducible refine mustP.mk ?_ ?_); (· first | omega | rfl | (dsimp only; omega))) | (with_reducible first | refine EqP_nil tab_ok ?_ | refine EqP_sli tab_ok ?_ | refine DrawP_auto tab_ok (by kernel_rfl) (by decide +kernel) ?_ | refine DrawP_auto2 tab_ok (by kernel_rfl) (by decide +kernel) ?_ | refine eq34 ?_ | refine eq68 ?_ | refine CallP_gives (fun vs w => by kernel_rfl) (by kernel_rfl) (gi) ?_ | refine RCallP_gives (fun vs w => by kernel_rfl) (by kernel_rfl) (gi) ?_))))
                            refine ⟨i + 1, false, ⟨by omega, hs⟩, by omega, ?_⟩
                            ((refine Le_head ?_); (conv => whnf); (refine Le_mk (by rfl) (by rfl) ?_ ?_); (· (repeat (first | (with_reducible exact frLe_nil) | (with_reducible first | refine frLe_any ?_ | refine frLe_val ?_) | ((with_reducible refine frLe_eq rfl ?_ ?_); (· rfl)) | ((with_reducible refine frLe_val' (int_eq ?_) ?_ ?_); (· omega); (· rfl)) | ((with_reducible refine frLe_val' (int_eq ?_) ?_ ?_); (· simp only [Int.natCast_add, Int.natCast_one, Int.natCast_ofNat] <;> omega); (· rfl)) | ((with_reducible refine frLe_val' (bool_eq ?_) ?_ ?_); (· first | assumption | (symm; assumption)); (· rfl))))))
                            exact hpLe_own rfl rfl (hpLe_own rfl rfl (hpLe_own rfl rfl hpLe_nil))
                        · have gi := In_gives r.y (Y - w) (Y + w) G false ⟨(fun h => by cases h), fun h => absurd h hy⟩
                          have hs := no false rfl (by simp only [Bool.false_eq_true, false_iff]; exact fun h => hy h.1)
                          (repeat ((try (conv => whnf)); (first | (refine OldCells_one _ c0 ?_) | (refine OldCells_one _ c1 ?_) | (refine OldCells_one _ c2 ?_) | (with_reducible first | refine OwnCells_one (.int .i64 p) (ints_nat hp) ?_ | refine condP_true ?_ | refine condP_false ?_ | refine condP_not ?_ | refine condP_and ?_) | ((with_reducible refine condP_dt ?_ ?_); (· omega)) | ((with_reducible refine condP_df ?_ ?_); (· omega)) | ((with_reducible refine condP_yes ?_ ?_); (· assumption)) | ((with_reducible refine condP_no ?_ ?_); (· assumption)) | ((with_reducible refine ArP_i64 ?_ ?_); (· omega)) | ((with_reducible refine mustP.mk ?_ ?_); (· first | omega | rfl | (dsimp only; omega))) | (with_reducible first | refine EqP_nil tab_ok ?_ | refine EqP_sli tab_ok ?_ | refine DrawP_auto tab_ok (by kernel_rfl) (by decide +kernel) ?_ | refine DrawP_auto2 tab_ok (by kernel_rfl) (by decide +kernel) ?_ | refine eq34 ?_ | refine eq68 ?_ | refine CallP_gives (fun vs w => by kernel_rfl) (by kernel_rfl) (gi) ?_ | refine RCallP_gives (fun vs w => by kernel_rfl) (by kernel_rfl) (gi) ?_))))
                          refine ⟨i + 1, false, ⟨by omega, hs⟩, by omega, ?_⟩
                          ((refine Le_head ?_); (conv => whnf); (refine Le_mk (by rfl) (by rfl) ?_ ?_); (· (repeat (first | (with_reducible exact frLe_nil) | (with_reducible first | refine frLe_any ?_ | refine frLe_val ?_) | ((with_reducible refine frLe_eq rfl ?_ ?_); (· rfl)) | ((with_reducible refine frLe_val' (int_eq ?_) ?_ ?_); (· omega); (· rfl)) | ((with_reducible refine frLe_val' (int_eq ?_) ?_ ?_); (· simp only [Int.natCast_add, Int.natCast_one, Int.natCast_ofNat] <;> omega); (· rfl)) | ((with_reducible refine frLe_val' (bool_eq ?_) ?_ ?_); (· first | assumption | (symm; assumption)); (· rfl))))))
                          exact hpLe_own rfl rfl (hpLe_own rfl rfl (hpLe_own rfl rfl hpLe_nil))
                      · have hs := stay rfl
                        (repeat ((try (conv => whnf)); (first | (refine OldCells_one _ c0 ?_) | (refine OldCells_one _ c1 ?_) | (refine OldCells_one _ c2 ?_) | (with_reducible first | refine OwnCells_one (.int .i64 p) (ints_nat hp) ?_ | refine condP_true ?_ | refine condP_false ?_ | refine condP_not ?_ | refine condP_and ?_) | ((with_reducible refine condP_dt ?_ ?_); (· omega)) | ((with_reducible refine condP_df ?_ ?_); (· omega)) | ((with_reducible refine condP_yes ?_ ?_); (· assumption)) | ((with_reducible refine condP_no ?_ ?_); (· assumption)) | ((with_reducible refine ArP_i64 ?_ ?_); (· omega)) | ((with_reducible refine mustP.mk ?_ ?_); (· first | omega | rfl | (dsimp only; omega))) | (with_reducible first | refine EqP_nil tab_ok ?_ | refine EqP_sli tab_ok ?_ | refine DrawP_auto tab_ok (by kernel_rfl) (by decide +kernel) ?_ | refine DrawP_auto2 tab_ok (by kernel_rfl) (by decide +kernel) ?_ | refine eq34 ?_ | refine eq68 ?_))))
                        refine ⟨i + 1, true, ⟨by omega, hs⟩, by omega, ?_⟩
                        ((refine Le_head ?_); (conv => whnf); (refine Le_mk (by rfl) (by rfl) ?_ ?_); (· (repeat (first | (with_reducible exact frLe_nil) | (with_reducible first | refine frLe_any ?_ | refine frLe_val ?_) | ((with_reducible refine frLe_eq rfl ?_ ?_); (· rfl)) | ((with_reducible refine frLe_val' (int_eq ?_) ?_ ?_); (· omega); (· rfl)) | ((with_reducible refine frLe_val' (int_eq ?_) ?_ ?_); (· simp only [Int.natCast_add, Int.natCast_one, Int.natCast_ofNat] <;> omega); (· rfl)) | ((with_reducible refine frLe_val' (bool_eq ?_) ?_ ?_); (· first | assumption | (symm; assumption)); (· rfl))))))
                        exact hpLe_own rfl rfl (hpLe_own rfl rfl (hpLe_own rfl rfl hpLe_nil))
                    · have hie : i = L.length := by omega
                      subst hie
                      have hbe : b = hasL E p Y := by
                        rw [Bool.eq_iff_iff, hv, hin]
                        constructor
                        · rintro ⟨j, r, g1, g2, g3⟩; exact ⟨r, List.mem_of_getElem? g2, g3⟩
                        · rintro ⟨r, g1, g3⟩
                          obtain ⟨j, hj⟩ := List.getElem?_of_mem g1
                          exact ⟨j, r, (List.getElem?_eq_some_iff.1 hj).1, hj, g3⟩
                      clear hv hin
                      cases b
                      · have hs := hno hbe.symm
                        (repeat ((try (conv => whnf)); (first | (with_reducible first | refine condP_true ?_ | refine condP_false ?_ | refine condP_not ?_ | refine condP_and ?_) | ((with_reducible refine condP_dt ?_ ?_); (· omega)) | ((with_reducible refine condP_df ?_ ?_); (· omega)) | ((with_reducible refine condP_yes ?_ ?_); (· assumption)) | ((with_reducible refine condP_no ?_ ?_); (· assumption)) | ((with_reducible refine ArP_i64 ?_ ?_); (· omega)) | ((with_reducible refine mustP.mk ?_ ?_); (· first | omega | rfl | (dsimp only; omega))) | (with_reducible first | refine EqP_nil tab_ok ?_ | refine EqP_sli tab_ok ?_ | refine DrawP_auto tab_ok (by kernel_rfl) (by decide +kernel) ?_ | refine DrawP_auto2 tab_ok (by kernel_rfl) (by decide +kernel) ?_ | refine eq34 ?_ | refine eq68 ?_))))
                        refine ⟨j + 1, o, ⟨p', hp', hs⟩, by omega, ?_⟩
                        ((refine Le_head ?_); (conv => whnf); (refine Le_mk (by rfl) (by rfl) ?_ ?_); (· (repeat (first | (with_reducible exact frLe_nil) | (with_reducible first | refine frLe_any ?_ | refine frLe_val ?_) | ((with_reducible refine frLe_eq rfl ?_ ?_); (· rfl)) | ((with_reducible refine frLe_val' (int_eq ?_) ?_ ?_); (· omega); (· rfl)) | ((with_reducible refine frLe_val' (int_eq ?_) ?_ ?_); (· simp only [Int.natCast_add, Int.natCast_one, Int.natCast_ofNat] <;> omega); (· rfl)) | ((with_reducible refine frLe_val' (bool_eq ?_) ?_ ?_); (· first | assumption | (symm; assumption)); (· rfl))))))
                        exact hpLe_own rfl rfl (hpLe_own rfl rfl (hpLe_own rfl rfl hpLe_nil))
                      · have hs := hyes hbe.symm
                        (repeat ((try (conv => whnf)); (first | (with_reducible first | refine DrawP_mk tab_ok (by kernel_rfl) 11 [] (by decide +kernel) ?_ | refine OwnCells_one (.int .i64 p) (ints_nat hp) ?_ | refine OwnCells_one (.int .i64 p') (ints_next hp') ?_ | refine condP_true ?_ | refine condP_false ?_ | refine condP_not ?_ | refine condP_and ?_) | ((with_reducible refine condP_dt ?_ ?_); (· omega)) | ((with_reducible refine condP_df ?_ ?_); (· omega)) | ((with_reducible refine condP_yes ?_ ?_); (· assumption)) | ((with_reducible refine condP_no ?_ ?_); (· assumption)) | ((with_reducible refine ArP_i64 ?_ ?_); (· omega)) | ((with_reducible refine mustP.mk ?_ ?_); (· first | omega | rfl | (dsimp only; omega))) | (with_reducible first | refine EqP_nil tab_ok ?_ | refine EqP_sli tab_ok ?_ | refine DrawP_auto tab_ok (by kernel_rfl) (by decide +kernel) ?_ | refine DrawP_auto2 tab_ok (by kernel_rfl) (by decide +kernel) ?_ | refine eq34 ?_ | refine eq68 ?_ | refine CallP_takes (fun vs w => by kernel_rfl) (by kernel_rfl) (by kernel_rfl) (joined_takes o Y p p' _ (by omega)) ?_ | refine TakeP_by (by kernel_rfl) (fun vs w => by kernel_rfl) (by kernel_rfl) (joined_takes o Y p p' _ (by omega)) ?_))))
                        refine ⟨j + 1, joinR o Y p p', ⟨p', hp', hs⟩, by omega, ?_⟩
                        refine Le_move 3 1 rfl rfl rfl rfl ?_
                        conv => whnf
                        ((refine Le_head ?_); (conv => whnf); (refine Le_mk (by rfl) (by rfl) ?_ ?_); (· (repeat (first | (with_reducible exact frLe_nil) | (with_reducible first | refine frLe_any ?_ | refine frLe_val ?_) | ((with_reducible refine frLe_eq rfl ?_ ?_); (· rfl)) | ((with_reducible refine frLe_val' (int_eq ?_) ?_ ?_); (· omega); (· rfl)) | ((with_reducible refine frLe_val' (int_eq ?_) ?_ ?_); (· simp only [Int.natCast_add, Int.natCast_one, Int.natCast_ofNat] <;> omega); (· rfl)) | ((with_reducible refine frLe_val' (bool_eq ?_) ?_ ?_); (· first | assumption | (symm; assumption)); (· rfl))))))
                        exact hpLe_own rfl rfl (hpLe_own rfl rfl (hpLe_own rfl rfl hpLe_nil))
                · have hend := hc.leave (opB_no 2) hY hb hp (by omega)
                  clear hi hrows hb hc hx8
                  (repeat ((try (conv => whnf)); (first | (with_reducible first | refine condP_true ?_ | refine condP_false ?_ | refine condP_not ?_ | refine condP_and ?_) | ((with_reducible refine condP_dt ?_ ?_); (· omega)) | ((with_reducible refine condP_df ?_ ?_); (· omega)) | ((with_reducible refine condP_yes ?_ ?_); (· assumption)) | ((with_reducible refine condP_no ?_ ?_); (· assumption)) | ((with_reducible refine ArP_i64 ?_ ?_); (· omega)) | ((with_reducible refine mustP.mk ?_ ?_); (· first | omega | rfl | (dsimp only; omega))) | (with_reducible first | refine EqP_nil tab_ok ?_ | refine EqP_sli tab_ok ?_ | refine DrawP_auto tab_ok (by kernel_rfl) (by decide +kernel) ?_ | refine DrawP_auto2 tab_ok (by kernel_rfl) (by decide +kernel) ?_ | refine eq34 ?_ | refine eq68 ?_))))
                  refine ⟨q + 1, o, ⟨by omega, hend⟩, by omega, ?_⟩
                  ((refine Le_head ?_); (conv => whnf); (refine Le_mk (by rfl) (by rfl) ?_ ?_); (· (repeat (first | (with_reducible exact frLe_nil) | (with_reducible first | refine frLe_any ?_ | refine frLe_val ?_) | ((with_reducible refine frLe_eq rfl ?_ ?_); (· rfl)) | ((with_reducible refine frLe_val' (int_eq ?_) ?_ ?_); (· omega); (· rfl)) | ((with_reducible refine frLe_val' (int_eq ?_) ?_ ?_); (· simp only [Int.natCast_add, Int.natCast_one, Int.natCast_ofNat] <;> omega); (· rfl)) | ((with_reducible refine frLe_val' (bool_eq ?_) ?_ ?_); (· first | assumption | (symm; assumption)); (· rfl))))))
                  exact hpLe_own rfl rfl (hpLe_own rfl rfl hpLe_nil)
        · have hqe : q = l.length := by omega
          subst hqe
          obtain ⟨d1, d2⟩ := hrows.done (opB_no 2) (fun i h3 => by
            have hq : E[i]? = some E[i] := List.getElem?_eq_getElem h3
            rw [nthR_get hq]
            exact dilate_row hE hcl hi _ (List.getElem_mem h3)) (fun i h3 => by omega)
          have hoe : out = E := okR_ext d1 hE fun x y => by
            rw [d2, hasB_nth, show hasB (nthR []) 0 x y = false from hasB_nth [] x y, opB_left]
            exact hasL_iff
          subst hoe
          clear hi hrows
          (repeat ((try (conv => whnf)); (first | (with_reducible first | refine condP_true ?_ | refine condP_false ?_ | refine condP_not ?_ | refine condP_and ?_) | ((with_reducible refine condP_dt ?_ ?_); (· omega)) | ((with_reducible refine condP_df ?_ ?_); (· omega)) | ((with_reducible refine condP_yes ?_ ?_); (· assumption)) | ((with_reducible refine condP_no ?_ ?_); (· assumption)) | ((with_reducible refine ArP_i64 ?_ ?_); (· omega)) | ((with_reducible refine mustP.mk ?_ ?_); (· first | omega | rfl | (dsimp only; omega))) | (with_reducible first | refine EqP_nil tab_ok ?_ | refine EqP_sli tab_ok ?_ | refine DrawP_auto tab_ok (by kernel_rfl) (by decide +kernel) ?_ | refine DrawP_auto2 tab_ok (by kernel_rfl) (by decide +kernel) ?_ | refine eq34 ?_ | refine eq68 ?_))))
          exact .inl ⟨1, rfl, rfl⟩
end Go.Proofs.Ytiakdbcikmkomaa
