/-
  The reference's Eroded.
-/
import Derived.Test.YtiakdbcikmkomaaErodeA
namespace Go.Proofs.Ytiakdbcikmkomaa
open Go.RowKit
set_option linter.unusedVariables false
set_option maxRecDepth 20000
set_option maxHeartbeats 4000000 in
theorem Eroded_makes (A : Option Addr) (L : List Run) (c : Nat) (w : Int) (G : Mem) (hA : RunsM G A L) (v : ValidL L) (hw : 0 ≤ w ∧ w ≤ 64) {E : List Run} (hE : okR E) (hcl : ∀ x y, hasR E x y ↔ cellE w L x y) : Makes Try.prog 14 [.val (.slice A L.length c), .val (.int .i64 w)] G id 34 3 E.length (flatR E) := by
  have hla := v.length
  have vE := erode_valid hw.1 v hE hcl
  have vn : ValidL [] := ValidL.mk trivial (by simp)
  refine Makes_of tab_ok Try.func14 (.alone fun _ => rfl) ?_
  (repeat ((try (conv => whnf)); (first | (with_reducible first | refine condP_true ?_ | refine condP_false ?_ | refine condP_not ?_ | refine condP_and ?_) | ((with_reducible refine condP_dt ?_ ?_); (· omega)) | ((with_reducible refine condP_df ?_ ?_); (· omega)) | ((with_reducible refine condP_yes ?_ ?_); (· assumption)) | ((with_reducible refine condP_no ?_ ?_); (· assumption)) | ((with_reducible refine ArP_i64 ?_ ?_); (· omega)) | ((with_reducible refine mustP.mk ?_ ?_); (· first | omega | rfl | (dsimp only; omega))) | (with_reducible first | refine EqP_nil tab_ok ?_ | refine EqP_sli tab_ok ?_ | refine DrawP_auto tab_ok (by kernel_rfl) (by decide +kernel) ?_ | refine DrawP_auto2 tab_ok (by kernel_rfl) (by decide +kernel) ?_ | refine eq34 ?_ | refine eq68 ?_))))
  conv => whnf
  refine LoopP_at2 tab_ok (fun (i : Nat) (l : List Int) => RowsOf L i l) (fun i l => [(15, .val (.int .i64 i)), (5, .own 0)]) (fun i l => [.own 3 1 l.length (ints l)]) (fun i l => L.length - i) 0 [] ⟨Nat.zero_le _, by simp [sorted], Nat.le_refl _, fun j r hj => by omega, fun y hy => by cases hy⟩ ?_ ?_
  · refine Le_own 3 1 ?_
    conv => whnf
    ((refine Le_head ?_); (conv => whnf); (refine Le_mk (by rfl) (by rfl) ?_ ?_); (· (repeat (first | (with_reducible exact frLe_nil) | (with_reducible first | refine frLe_any ?_ | refine frLe_val ?_) | ((with_reducible refine frLe_eq rfl ?_ ?_); (· rfl)) | ((with_reducible refine frLe_val' (int_eq ?_) ?_ ?_); (· omega); (· rfl)) | ((with_reducible refine frLe_val' (int_eq ?_) ?_ ?_); (· simp only [Int.natCast_add, Int.natCast_one, Int.natCast_ofNat] <;> omega); (· rfl)) | ((with_reducible refine frLe_val' (bool_eq ?_) ?_ ?_); (· first | assumption | (symm; assumption)); (· rfl))))))
    exact hpLe_own rfl rfl hpLe_nil
  · intro i l hi
    rcases Nat.lt_or_ge i L.length with h1 | h1
    · obtain ⟨r, hr⟩ : ∃ r, L[i]? = some r := ⟨_, List.getElem?_eq_getElem h1⟩
      obtain ⟨p, rfl, c0, c1, c2⟩ := hA.at_ hr
      have hll : l.length ≤ i := hi.len
      (repeat ((try (conv => whnf)); (first | (refine OldCells_one _ c0 ?_) | (with_reducible first | refine condP_true ?_ | refine condP_false ?_ | refine condP_not ?_ | refine condP_and ?_) | ((with_reducible refine condP_dt ?_ ?_); (· omega)) | ((with_reducible refine condP_df ?_ ?_); (· omega)) | ((with_reducible refine condP_yes ?_ ?_); (· assumption)) | ((with_reducible refine condP_no ?_ ?_); (· assumption)) | ((with_reducible refine ArP_i64 ?_ ?_); (· omega)) | ((with_reducible refine mustP.mk ?_ ?_); (· first | omega | rfl | (dsimp only; omega))) | (with_reducible first | refine EqP_nil tab_ok ?_ | refine EqP_sli tab_ok ?_ | refine DrawP_auto tab_ok (by kernel_rfl) (by decide +kernel) ?_ | refine DrawP_auto2 tab_ok (by kernel_rfl) (by decide +kernel) ?_ | refine eq34 ?_ | refine eq68 ?_))))
      conv => whnf
      refine CallP_takes (fun vs w => by kernel_rfl) (by rfl) (by kernel_rfl) (put_takes l r.y _ (by omega)) ?_
      (repeat ((try (conv => whnf)); (first | (with_reducible first | refine condP_true ?_ | refine condP_false ?_ | refine condP_not ?_ | refine condP_and ?_) | ((with_reducible refine condP_dt ?_ ?_); (· omega)) | ((with_reducible refine condP_df ?_ ?_); (· omega)) | ((with_reducible refine condP_yes ?_ ?_); (· assumption)) | ((with_reducible refine condP_no ?_ ?_); (· assumption)) | ((with_reducible refine ArP_i64 ?_ ?_); (· omega)) | ((with_reducible refine mustP.mk ?_ ?_); (· first | omega | rfl | (dsimp only; omega))) | (with_reducible first | refine EqP_nil tab_ok ?_ | refine EqP_sli tab_ok ?_ | refine DrawP_auto tab_ok (by kernel_rfl) (by decide +kernel) ?_ | refine DrawP_auto2 tab_ok (by kernel_rfl) (by decide +kernel) ?_ | refine eq34 ?_ | refine eq68 ?_))))
      refine ⟨i + 1, ins r.y l, hi.step hr, by omega, ?_⟩
      refine Le_move 1 0 rfl rfl rfl rfl ?_
      conv => whnf
      ((refine Le_head ?_); (conv => whnf); (refine Le_mk (by rfl) (by rfl) ?_ ?_); (· (repeat (first | (with_reducible exact frLe_nil) | (with_reducible first | refine frLe_any ?_ | refine frLe_val ?_) | ((with_reducible refine frLe_eq rfl ?_ ?_); (· rfl)) | ((with_reducible refine frLe_val' (int_eq ?_) ?_ ?_); (· omega); (· rfl)) | ((with_reducible refine frLe_val' (int_eq ?_) ?_ ?_); (· simp only [Int.natCast_add, Int.natCast_one, Int.natCast_ofNat] <;> omega); (· rfl)) | ((with_reducible refine frLe_val' (bool_eq ?_) ?_ ?_); (· first | assumption | (symm; assumption)); (· rfl))))))
      exact hpLe_own rfl rfl hpLe_nil
    · have hi1 := hi.le
      have hie : i = L.length := by omega
      subst hie
      have hsrt := hi.srt
      (repeat ((try (conv => whnf)); (first | (with_reducible first | refine condP_true ?_ | refine condP_false ?_ | refine condP_not ?_ | refine condP_and ?_) | ((with_reducible refine condP_dt ?_ ?_); (· omega)) | ((with_reducible refine condP_df ?_ ?_); (· omega)) | ((with_reducible refine condP_yes ?_ ?_); (· assumption)) | ((with_reducible refine condP_no ?_ ?_); (· assumption)) | ((with_reducible refine ArP_i64 ?_ ?_); (· omega)) | ((with_reducible refine mustP.mk ?_ ?_); (· first | omega | rfl | (dsimp only; omega))) | (with_reducible first | refine EqP_nil tab_ok ?_ | refine EqP_sli tab_ok ?_ | refine DrawP_auto tab_ok (by kernel_rfl) (by decide +kernel) ?_ | refine DrawP_auto2 tab_ok (by kernel_rfl) (by decide +kernel) ?_ | refine eq34 ?_ | refine eq68 ?_))))
      conv => whnf
      refine LoopP_at2 tab_ok (fun (q : Nat) (out : List Run) => q ≤ l.length ∧ RowsAt (opB 2) (nthR E) (nthR []) E.length 0 l q out) (fun q out => [(28, .val (.int .i64 q)), (7, .own 1)]) (fun q out => [.own 3 1 l.length (ints l), .own 34 3 out.length (flatR out)]) (fun q out => l.length - q) 0 [] ⟨Nat.zero_le _, RowsAt.start _ _ _ _ _ _⟩ ?_ ?_
      · refine Le_own 34 3 ?_
        conv => whnf
        ((refine Le_head ?_); (conv => whnf); (refine Le_mk (by rfl) (by rfl) ?_ ?_); (· (repeat (first | (with_reducible exact frLe_nil) | (with_reducible first | refine frLe_any ?_ | refine frLe_val ?_) | ((with_reducible refine frLe_eq rfl ?_ ?_); (· rfl)) | ((with_reducible refine frLe_val' (int_eq ?_) ?_ ?_); (· omega); (· rfl)) | ((with_reducible refine frLe_val' (int_eq ?_) ?_ ?_); (· simp only [Int.natCast_add, Int.natCast_one, Int.natCast_ofNat] <;> omega); (· rfl)) | ((with_reducible refine frLe_val' (bool_eq ?_) ?_ ?_); (· first | assumption | (symm; assumption)); (· rfl))))))
        exact hpLe_own rfl rfl (hpLe_own rfl rfl hpLe_nil)
      · rintro q out ⟨hq, hrows⟩
        have hll : l.length ≤ L.length := hi.len
        rcases Nat.lt_or_ge q l.length with h2 | h2
        · obtain ⟨Y, hY⟩ : ∃ Y, l[q]? = some Y := ⟨_, List.getElem?_eq_getElem h2⟩
          obtain ⟨jY, rY, eY1, eY2, eY3⟩ := hi.back Y (List.mem_of_getElem? hY)
          have hYb := v.bd (List.mem_of_getElem? eY2)
          rw [eY3] at hYb
          have hYb := hYb.1
          (repeat ((try (conv => whnf)); (first | (with_reducible first | refine condP_true ?_ | refine condP_false ?_ | refine condP_not ?_ | refine condP_and ?_) | ((with_reducible refine condP_dt ?_ ?_); (· omega)) | ((with_reducible refine condP_df ?_ ?_); (· omega)) | ((with_reducible refine condP_yes ?_ ?_); (· assumption)) | ((with_reducible refine condP_no ?_ ?_); (· assumption)) | ((with_reducible refine ArP_i64 ?_ ?_); (· omega)) | ((with_reducible refine mustP.mk ?_ ?_); (· first | omega | rfl | (dsimp only; omega))) | (with_reducible first | refine EqP_nil tab_ok ?_ | refine EqP_sli tab_ok ?_ | refine DrawP_auto tab_ok (by kernel_rfl) (by decide +kernel) ?_ | refine DrawP_auto2 tab_ok (by kernel_rfl) (by decide +kernel) ?_ | refine eq34 ?_ | refine eq68 ?_))))
          conv => whnf
          refine OwnCells_one (.int .i64 Y) (by rw [Int.toNat_natCast, Nat.mul_one]; exact ints_get hY) ?_
          (repeat ((try (conv => whnf)); (first | (with_reducible first | refine condP_true ?_ | refine condP_false ?_ | refine condP_not ?_ | refine condP_and ?_) | ((with_reducible refine condP_dt ?_ ?_); (· omega)) | ((with_reducible refine condP_df ?_ ?_); (· omega)) | ((with_reducible refine condP_yes ?_ ?_); (· assumption)) | ((with_reducible refine condP_no ?_ ?_); (· assumption)) | ((with_reducible refine ArP_i64 ?_ ?_); (· omega)) | ((with_reducible refine mustP.mk ?_ ?_); (· first | omega | rfl | (dsimp only; omega))) | (with_reducible first | refine EqP_nil tab_ok ?_ | refine EqP_sli tab_ok ?_ | refine DrawP_auto tab_ok (by kernel_rfl) (by decide +kernel) ?_ | refine DrawP_auto2 tab_ok (by kernel_rfl) (by decide +kernel) ?_ | refine eq34 ?_ | refine eq68 ?_))))
          conv => whnf
          refine LoopP_at2 tab_ok (fun (i : Nat) (xs : List Int) => EdgF (fun r => r.x0 + w) (fun r => r.x1 - w) (fun r => Y - w ≤ r.y ∧ r.y ≤ Y + w) L i xs) (fun i xs => [(34, .val (.int .i64 i)), (10, .own 2)]) (fun i xs => [.own 3 1 l.length (ints l), .own 34 3 out.length (flatR out), .own 3 1 xs.length (ints xs)]) (fun i xs => L.length - i) 0 [] (EdgF.start _ _ _ _) ?_ ?_
          · refine Le_own 3 1 ?_
            conv => whnf
            ((refine Le_head ?_); (conv => whnf); (refine Le_mk (by rfl) (by rfl) ?_ ?_); (· (repeat (first | (with_reducible exact frLe_nil) | (with_reducible first | refine frLe_any ?_ | refine frLe_val ?_) | ((with_reducible refine frLe_eq rfl ?_ ?_); (· rfl)) | ((with_reducible refine frLe_val' (int_eq ?_) ?_ ?_); (· omega); (· rfl)) | ((with_reducible refine frLe_val' (int_eq ?_) ?_ ?_); (· simp only [Int.natCast_add, Int.natCast_one, Int.natCast_ofNat] <;> omega); (· rfl)) | ((with_reducible refine frLe_val' (bool_eq ?_) ?_ ?_); (· first | assumption | (symm; assumption)); (· rfl))))))
            exact hpLe_own rfl rfl (hpLe_own rfl rfl (hpLe_own rfl rfl hpLe_nil))
          · intro i xs hx
            have hxl := hx.len
            have hxe := hx.le
            rcases Nat.lt_or_ge i L.length with h3 | h3
            · obtain ⟨r, hr⟩ : ∃ r, L[i]? = some r := ⟨_, List.getElem?_eq_getElem h3⟩
              obtain ⟨p, rfl, c0, c1, c2⟩ := hA.at_ hr
              have hbd := v.bd (List.mem_of_getElem? hr)
              by_cases hy : Y - w ≤ r.y ∧ r.y ≤ Y + w
              · have gi := In_gives r.y (Y - w) (Y + w) G true ⟨fun _ => hy, fun _ => rfl⟩
                have hi0 := ins_length (x := r.x0 + w) (l := xs)
                have hst := hx.step hr (a := r.x0 + w) (b := r.x1 - w) rfl rfl (by omega) (by omega)
                clear hx hi hrows
                (repeat ((try (conv => whnf)); (first | (refine OldCells_one _ c0 ?_) | (with_reducible refine DrawP_mk tab_ok (by kernel_rfl) 16 [2] (by decide +kernel) ?_) | (refine OldCells_one _ c1 ?_) | (refine OldCells_one _ c2 ?_) | (with_reducible first | refine condP_true ?_ | refine condP_false ?_ | refine condP_not ?_ | refine condP_and ?_) | ((with_reducible refine condP_dt ?_ ?_); (· omega)) | ((with_reducible refine condP_df ?_ ?_); (· omega)) | ((with_reducible refine condP_yes ?_ ?_); (· assumption)) | ((with_reducible refine condP_no ?_ ?_); (· assumption)) | ((with_reducible refine ArP_i64 ?_ ?_); (· omega)) | ((with_reducible refine mustP.mk ?_ ?_); (· first | omega | rfl | (dsimp only; omega))) | (with_reducible first | refine EqP_nil tab_ok ?_ | refine EqP_sli tab_ok ?_ | refine DrawP_auto tab_ok (by kernel_rfl) (by decide +kernel) ?_ | refine DrawP_auto2 tab_ok (by kernel_rfl) (by decide +kernel) ?_ | refine eq34 ?_ | refine eq68 ?_ | refine CallP_gives (fun vs w => by kernel_rfl) (by kernel_rfl) (gi) ?_ | refine RCallP_gives (fun vs w => by kernel_rfl) (by kernel_rfl) (gi) ?_ | refine CallP_takes (fun vs w => by kernel_rfl) (by kernel_rfl) (by kernel_rfl) (put_takes xs (r.x0 + w) _ (by omega)) ?_ | refine TakeP_by (by kernel_rfl) (fun vs w => by kernel_rfl) (by kernel_rfl) (put_takes xs (r.x0 + w) _ (by omega)) ?_ | refine CallP_takes (fun vs w => by kernel_rfl) (by kernel_rfl) (by kernel_rfl) (put_takes (ins (r.x0 + w) xs) (r.x1 - w) _ (by omega)) ?_ | refine TakeP_by (by kernel_rfl) (fun vs w => by kernel_rfl) (by kernel_rfl) (put_takes (ins (r.x0 + w) xs) (r.x1 - w) _ (by omega)) ?_))))
                refine ⟨i + 1, ins (r.x1 - w) (ins (r.x0 + w) xs), hst, by omega, ?_⟩
                refine Le_move 4 2 rfl rfl rfl rfl ?_
                conv => whnf
                ((refine Le_head ?_); (conv => whnf); (refine Le_mk (by rfl) (by rfl) ?_ ?_); (· (repeat (first | (with_reducible exact frLe_nil) | (with_reducible first | refine frLe_any ?_ | refine frLe_val ?_) | ((with_reducible refine frLe_eq rfl ?_ ?_); (· rfl)) | ((with_reducible refine frLe_val' (int_eq ?_) ?_ ?_); (· omega); (· rfl)) | ((with_reducible refine frLe_val' (int_eq ?_) ?_ ?_); (· simp only [Int.natCast_add, Int.natCast_one, Int.natCast_ofNat] <;> omega); (· rfl)) | ((with_reducible refine frLe_val' (bool_eq ?_) ?_ ?_); (· first | assumption | (symm; assumption)); (· rfl))))))
                exact hpLe_own rfl rfl (hpLe_own rfl rfl (hpLe_own rfl rfl hpLe_nil))
              · have gi := In_gives r.y (Y - w) (Y + w) G false ⟨(fun h => by cases h), fun h => absurd h hy⟩
                have hst := hx.skip hr hy
                clear hx hi hrows
                (repeat ((try (conv => whnf)); (first | (refine OldCells_one _ c0 ?_) | (with_reducible first | refine condP_true ?_ | refine condP_false ?_ | refine condP_not ?_ | refine condP_and ?_) | ((with_reducible refine condP_dt ?_ ?_); (· omega)) | ((with_reducible refine condP_df ?_ ?_); (· omega)) | ((with_reducible refine condP_yes ?_ ?_); (· assumption)) | ((with_reducible refine condP_no ?_ ?_); (· assumption)) | ((with_reducible refine ArP_i64 ?_ ?_); (· omega)) | ((with_reducible refine mustP.mk ?_ ?_); (· first | omega | rfl | (dsimp only; omega))) | (with_reducible first | refine EqP_nil tab_ok ?_ | refine EqP_sli tab_ok ?_ | refine DrawP_auto tab_ok (by kernel_rfl) (by decide +kernel) ?_ | refine DrawP_auto2 tab_ok (by kernel_rfl) (by decide +kernel) ?_ | refine eq34 ?_ | refine eq68 ?_ | refine CallP_gives (fun vs w => by kernel_rfl) (by kernel_rfl) (gi) ?_ | refine RCallP_gives (fun vs w => by kernel_rfl) (by kernel_rfl) (gi) ?_))))
                refine ⟨i + 1, xs, hst, by omega, ?_⟩
                ((refine Le_head ?_); (conv => whnf); (refine Le_mk (by rfl) (by rfl) ?_ ?_); (· (repeat (first | (with_reducible exact frLe_nil) | (with_reducible first | refine frLe_any ?_ | refine frLe_val ?_) | ((with_reducible refine frLe_eq rfl ?_ ?_); (· rfl)) | ((with_reducible refine frLe_val' (int_eq ?_) ?_ ?_); (· omega); (· rfl)) | ((with_reducible refine frLe_val' (int_eq ?_) ?_ ?_); (· simp only [Int.natCast_add, Int.natCast_one, Int.natCast_ofNat] <;> omega); (· rfl)) | ((with_reducible refine frLe_val' (bool_eq ?_) ?_ ?_); (· first | assumption | (symm; assumption)); (· rfl))))))
                exact hpLe_own rfl rfl (hpLe_own rfl rfl (hpLe_own rfl rfl hpLe_nil))
            · have hie : i = L.length := by omega
              subst hie
              have hb : Borders (nthR E) (nthR []) E.length 0 Y xs := hx.borders (erode_edges hw.1 hE hcl Y)
              have hxb := hx.bd
              obtain ⟨p0, hp0⟩ : ∃ p0, xs[0]? = some p0 := by
                have := (hx.has jY rY eY1 eY2 (by omega)).1
                cases xs with
                | nil => cases this
                | cons z xs => exact ⟨z, rfl⟩
              clear hx
              (repeat ((try (conv => whnf)); (first | (with_reducible first | refine condP_true ?_ | refine condP_false ?_ | refine condP_not ?_ | refine condP_and ?_) | ((with_reducible refine condP_dt ?_ ?_); (· omega)) | ((with_reducible refine condP_df ?_ ?_); (· omega)) | ((with_reducible refine condP_yes ?_ ?_); (· assumption)) | ((with_reducible refine condP_no ?_ ?_); (· assumption)) | ((with_reducible refine ArP_i64 ?_ ?_); (· omega)) | ((with_reducible refine mustP.mk ?_ ?_); (· first | omega | rfl | (dsimp only; omega))) | (with_reducible first | refine EqP_nil tab_ok ?_ | refine EqP_sli tab_ok ?_ | refine DrawP_auto tab_ok (by kernel_rfl) (by decide +kernel) ?_ | refine DrawP_auto2 tab_ok (by kernel_rfl) (by decide +kernel) ?_ | refine eq34 ?_ | refine eq68 ?_))))
              conv => whnf
              refine LoopP_at2 tab_ok (fun (j : Nat) (o : List Run) => ∃ p, xs[j]? = some p ∧ CellsAt (opB 2) (nthR E) (nthR []) E.length 0 l q Y p o) (fun j o => [(12, .val (.int .i64 j)), (7, .own 1)]) (fun j o => [.own 3 1 l.length (ints l), .own 34 3 o.length (flatR o), .own 3 1 xs.length (ints xs)]) (fun j o => xs.length - j) 0 out ⟨p0, hp0, hrows.enter (opB_no 2) hsrt hY hb hp0⟩ ?_ ?_
              · ((refine Le_head ?_); (conv => whnf); (refine Le_mk (by rfl) (by rfl) ?_ ?_); (· (repeat (first | (with_reducible exact frLe_nil) | (with_reducible first | refine frLe_any ?_ | refine frLe_val ?_) | ((with_reducible refine frLe_eq rfl ?_ ?_); (· rfl)) | ((with_reducible refine frLe_val' (int_eq ?_) ?_ ?_); (· omega); (· rfl)) | ((with_reducible refine frLe_val' (int_eq ?_) ?_ ?_); (· simp only [Int.natCast_add, Int.natCast_one, Int.natCast_ofNat] <;> omega); (· rfl)) | ((with_reducible refine frLe_val' (bool_eq ?_) ?_ ?_); (· first | assumption | (symm; assumption)); (· rfl))))))
                exact hpLe_own rfl rfl (hpLe_own rfl rfl (hpLe_own rfl rfl hpLe_nil))
              · rintro j o ⟨p, hp, hc⟩
                have hjl := (List.getElem?_eq_some_iff.1 hp).1
                have hol := cells_len vE vn hc
                rcases Nat.lt_or_ge (j + 1) xs.length with h4 | h4
                · obtain ⟨p', hp'⟩ : ∃ p', xs[j + 1]? = some p' := ⟨_, List.getElem?_eq_getElem h4⟩
                  have hlt := sorted_get hb.srt (Nat.lt_succ_self j) hp hp'
                  have hst := hc.step hb hp hp'
                  have hpb := hxb p (List.mem_of_getElem? hp)
                  rw [hasB_nth, show hasB (nthR []) 0 p Y = false from hasB_nth [] p Y, opB_left] at hst
                  have hyes : hasL E p Y = true → CellsAt (opB 2) (nthR E) (nthR []) E.length 0 l q Y p' (joinR o Y p p') := fun h => by
                    rw [if_pos h] at hst; rw [joinR_add hc.up hlt]; exact hst
                  have hno : hasL E p Y = false → CellsAt (opB 2) (nthR E) (nthR []) E.length 0 l q Y p' o := fun h => by
                    rw [if_neg (by rw [h]; simp)] at hst; exact hst
                  have ga := around_gives A L c p Y w G hA (by omega) hw.1 hw.2 (by omega) (by omega) (hasL E p Y) (hasL_iff.trans (hcl p Y))
                  clear hst hc hrows hb hi hxb
                  cases hpa : hasL E p Y <;> rw [hpa] at ga hyes hno
                  · (repeat ((try (conv => whnf)); (first | (with_reducible first | refine OwnCells_one (.int .i64 p) (ints_nat hp) ?_ | refine OwnCells_one (.int .i64 p') (ints_next hp') ?_ | refine condP_true ?_ | refine condP_false ?_ | refine condP_not ?_ | refine condP_and ?_) | ((with_reducible refine condP_dt ?_ ?_); (· omega)) | ((with_reducible refine condP_df ?_ ?_); (· omega)) | ((with_reducible refine condP_yes ?_ ?_); (· assumption)) | ((with_reducible refine condP_no ?_ ?_); (· assumption)) | ((with_reducible refine ArP_i64 ?_ ?_); (· omega)) | ((with_reducible refine mustP.mk ?_ ?_); (· first | omega | rfl | (dsimp only; omega))) | (with_reducible first | refine EqP_nil tab_ok ?_ | refine EqP_sli tab_ok ?_ | refine DrawP_auto tab_ok (by kernel_rfl) (by decide +kernel) ?_ | refine DrawP_auto2 tab_ok (by kernel_rfl) (by decide +kernel) ?_ | refine eq34 ?_ | refine eq68 ?_ | refine CallP_gives (fun vs w => by kernel_rfl) (by kernel_rfl) (ga) ?_ | refine RCallP_gives (fun vs w => by kernel_rfl) (by kernel_rfl) (ga) ?_))))
                    refine ⟨j + 1, o, ⟨p', hp', hno rfl⟩, by omega, ?_⟩
                    ((refine Le_head ?_); (conv => whnf); (refine Le_mk (by rfl) (by rfl) ?_ ?_); (· (repeat (first | (with_reducible exact frLe_nil) | (with_reducible first | refine frLe_any ?_ | refine frLe_val ?_) | ((with_reducible refine frLe_eq rfl ?_ ?_); (· rfl)) | ((with_reducible refine frLe_val' (int_eq ?_) ?_ ?_); (· omega); (· rfl)) | ((with_reducible refine frLe_val' (int_eq ?_) ?_ ?_); (· simp only [Int.natCast_add, Int.natCast_one, Int.natCast_ofNat] <;> omega); (· rfl)) | ((with_reducible refine frLe_val' (bool_eq ?_) ?_ ?_); (· first | assumption | (symm; assumption)); (· rfl))))))
                    exact hpLe_own rfl rfl (hpLe_own rfl rfl (hpLe_own rfl rfl hpLe_nil))
                  · (repeat ((try (conv => whnf)); (first | (with_reducible first | refine DrawP_mk tab_ok (by kernel_rfl) 11 [] (by decide +kernel) ?_ | refine OwnCells_one (.int .i64 p) (ints_nat hp) ?_ | refine OwnCells_one (.int .i64 p') (ints_next hp') ?_ | refine condP_true ?_ | refine condP_false ?_ | refine condP_not ?_ | refine condP_and ?_) | ((with_reducible refine condP_dt ?_ ?_); (· omega)) | ((with_reducible refine condP_df ?_ ?_); (· omega)) | ((with_reducible refine condP_yes ?_ ?_); (· assumption)) | ((with_reducible refine condP_no ?_ ?_); (· assumption)) | ((with_reducible refine ArP_i64 ?_ ?_); (· omega)) | ((with_reducible refine mustP.mk ?_ ?_); (· first | omega | rfl | (dsimp only; omega))) | (with_reducible first | refine EqP_nil tab_ok ?_ | refine EqP_sli tab_ok ?_ | refine DrawP_auto tab_ok (by kernel_rfl) (by decide +kernel) ?_ | refine DrawP_auto2 tab_ok (by kernel_rfl) (by decide +kernel) ?_ | refine eq34 ?_ | refine eq68 ?_ | refine CallP_gives (fun vs w => by kernel_rfl) (by kernel_rfl) (ga) ?_ | refine RCallP_gives (fun vs w => by kernel_rfl) (by kernel_rfl) (ga) ?_ | refine CallP_takes (fun vs w => by kernel_rfl) (by kernel_rfl) (by kernel_rfl) (joined_takes o Y p p' _ (by omega)) ?_ | refine TakeP_by (by kernel_rfl) (fun vs w => by kernel_rfl) (by kernel_rfl) (joined_takes o Y p p' _ (by omega)) ?_))))
                    refine ⟨j + 1, joinR o Y p p', ⟨p', hp', hyes rfl⟩, by omega, ?_⟩
                    refine Le_move 3 1 rfl rfl rfl rfl ?_
                    conv => whnf
                    ((refine Le_head ?_); (conv => whnf); (refine Le_mk (by rfl) (by rfl) ?_ ?_); (· (repeat (first | (with_reducible exact frLe_nil) | (with_reducible first | refine frLe_any ?_ | refine frLe_val ?_) | ((with_reducible refine frLe_eq rfl ?_ ?_); (· rfl)) | ((with_reducible refine frLe_val' (int_eq ?_) ?_ ?_); (· omega); (· rfl)) | ((with_reducible refine frLe_val' (int_eq ?_) ?_ ?_); (· simp only [Int.natCast_add, Int.natCast_one, Int.natCast_ofNat] <;> omega); (· rfl)) | ((with_reducible refine frLe_val' (bool_eq ?_) ?_ ?_); (· first | assumption | (symm; assumption)); (· rfl))))))
                    exact hpLe_own rfl rfl (hpLe_own rfl rfl (hpLe_own rfl rfl hpLe_nil))
                · have hend := hc.leave (opB_no 2) hY hb hp (by omega)
                  clear hi hrows hb hc hxb
                  (repeat ((try (conv => whnf)); (first | (with_reducible first | refine condP_true ?_ | refine condP_false ?_ | refine condP_not ?_ | refine condP_and ?_) | ((with_reducible refine condP_dt ?_ ?_); (· omega)) | ((with_reducible refine condP_df ?_ ?_); (· omega)) | ((with_reducible refine condP_yes ?_ ?_); (· assumption)) | ((with_reducible refine condP_no ?_ ?_); (· assumption)) | ((with_reducible refine ArP_i64 ?_ ?_); (· omega)) | ((with_reducible refine mustP.mk ?_ ?_); (· first | omega | rfl | (dsimp only; omega))) | (with_reducible first | refine EqP_nil tab_ok ?_ | refine EqP_sli tab_ok ?_ | refine DrawP_auto tab_ok (by kernel_rfl) (by decide +kernel) ?_ | refine DrawP_auto2 tab_ok (by kernel_rfl) (by decide +kernel) ?_ | refine eq34 ?_ | refine eq68 ?_))))
                  refine ⟨q + 1, o, ⟨by omega, hend⟩, by omega, ?_⟩
                  ((refine Le_head ?_); (conv => whnf); (refine Le_mk (by rfl) (by rfl) ?_ ?_); (· (repeat (first | (with_reducible exact frLe_nil) | (with_reducible first | refine frLe_any ?_ | refine frLe_val ?_) | ((with_reducible refine frLe_eq rfl ?_ ?_); (· rfl)) | ((with_reducible refine frLe_val' (int_eq ?_) ?_ ?_); (· omega); (· rfl)) | ((with_reducible refine frLe_val' (int_eq ?_) ?_ ?_); (· simp only [Int.natCast_add, Int.natCast_one, Int.natCast_ofNat] <;> omega); (· rfl)) | ((with_reducible refine frLe_val' (bool_eq ?_) ?_ ?_); (· first | assumption | (symm; assumption)); (· rfl))))))
                  exact hpLe_own rfl rfl (hpLe_own rfl rfl hpLe_nil)
        · have hqe : q = l.length := by omega
          subst hqe
          obtain ⟨d1, d2⟩ := hrows.done (opB_no 2) (fun i h3 => by
            have hq : E[i]? = some E[i] := List.getElem?_eq_getElem h3
            rw [nthR_get hq]
            obtain ⟨r, hr, hry⟩ := erode_y hw.1 hE hcl _ (List.getElem_mem h3)
            obtain ⟨j, hj⟩ := List.getElem?_of_mem hr
            rw [← hry]
            exact hi.has j r (List.getElem?_eq_some_iff.1 hj).1 hj) (fun i h3 => by omega)
          have hoe : out = E := okR_ext d1 hE fun x y => by
            rw [d2, hasB_nth, show hasB (nthR []) 0 x y = false from hasB_nth [] x y, opB_left]
            exact hasL_iff
          subst hoe
          clear hi hrows
          (repeat ((try (conv => whnf)); (first | (with_reducible first | refine condP_true ?_ | refine condP_false ?_ | refine condP_not ?_ | refine condP_and ?_) | ((with_reducible refine condP_dt ?_ ?_); (· omega)) | ((with_reducible refine condP_df ?_ ?_); (· omega)) | ((with_reducible refine condP_yes ?_ ?_); (· assumption)) | ((with_reducible refine condP_no ?_ ?_); (· assumption)) | ((with_reducible refine ArP_i64 ?_ ?_); (· omega)) | ((with_reducible refine mustP.mk ?_ ?_); (· first | omega | rfl | (dsimp only; omega))) | (with_reducible first | refine EqP_nil tab_ok ?_ | refine EqP_sli tab_ok ?_ | refine DrawP_auto tab_ok (by kernel_rfl) (by decide +kernel) ?_ | refine DrawP_auto2 tab_ok (by kernel_rfl) (by decide +kernel) ?_ | refine eq34 ?_ | refine eq68 ?_))))
          exact .inl ⟨1, rfl, rfl⟩
end Go.Proofs.Ytiakdbcikmkomaa
