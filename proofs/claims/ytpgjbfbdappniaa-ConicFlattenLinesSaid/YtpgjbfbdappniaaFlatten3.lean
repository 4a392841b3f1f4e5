/-
  The reference's Flattened.
-/
import Derived.Test.YtpgjbfbdappniaaFlatten2
namespace Go.Proofs.Ytpgjbfbdappniaa
open Go.RowKit
set_option linter.unusedVariables false
set_option linter.unusedSimpArgs false
set_option maxRecDepth 20000
section
variable {G : Mem} {A : Option Addr} {n c : Nat} {S : Nat → SegD}
theorem addr_add1 {b o x y : Nat} (h : x = y) : Addr.add (⟨b, o, none⟩ : Addr) (x * 6) = (⟨b, o, none⟩ : Addr).add (y * 6) := by rw [h]
set_option maxHeartbeats 8000000 in
theorem Flattened_makes (h : SegsM G A n S) (hn : n ≤ 12) (hc : n ≤ c) (hm : c ≤ maxLen) (he : pathE S n = 0) : MakesF Try.prog 10 [.val (.slice A n c)] G id (FlR S n) := by
  have hm' := hm
  unfold maxLen at hm'
  have hrl := rowL_len (S := S) n
  obtain ⟨hch, hoff⟩ := rowL_chain (S := S) (n := n) (errS_first he)
  refine MakesF_of tab_ok Try.func10 (.alone fun _ => rfl) (by kernel_rfl) ?_
  (repeat ((try (conv => whnf)); (first | (with_reducible refine condP_true ?_) | (with_reducible refine condP_false ?_) | (with_reducible refine condP_not ?_) | (with_reducible refine condP_and ?_) | ((with_reducible refine condP_dt ?_ ?_); (· omega)) | ((with_reducible refine condP_df ?_ ?_); (· omega)) | ((with_reducible refine condP_yes ?_ ?_); (· assumption)) | ((with_reducible refine condP_no ?_ ?_); (· assumption)) | ((with_reducible refine ArP_i64 ?_ ?_); (· omega)) | ((with_reducible refine mustP.mk ?_ ?_); (· first | omega | rfl | (dsimp only; omega))) | (with_reducible refine EqP_nil tab_ok ?_) | (with_reducible refine EqP_sli tab_ok ?_) | (with_reducible refine DrawP_auto tab_ok (by kernel_rfl) (by decide +kernel) ?_) | (with_reducible refine DrawP_auto2 tab_ok (by kernel_rfl) (by decide +kernel) ?_) | (with_reducible refine eq43 ?_) | (with_reducible refine eq55 ?_) | (with_reducible refine eq57 ?_) | (with_reducible refine eq93 ?_) | (with_reducible refine eq101 ?_) | (with_reducible refine eq116 ?_) | (with_reducible refine eq119 ?_))))
  conv => whnf
  refine LoopP_atG (ι := FlS) tab_ok (FlI S n G) (fun s => [(4, .val (.int .i64 (offL (rowL S n) s.i : Nat))), (3, .own 0)]) (fun s => [.own 34 2 s.i (flatC (lnV S n s.a s.q) s.i)]) (fun s => s.G) (fun s => (rowL S n).length - s.i) ⟨0, G, fun _ => none, fun _ => 0⟩ ⟨Nat.zero_le _, Mem.le_refl _, fun j hj => by cases hj⟩ ?_ ?_
  · refine Le_own 34 2 ?_
    conv => whnf
    ((refine Le_head ?_); (conv => whnf); (refine Le_mk (by rfl) (by rfl) ?_ ?_); (· (repeat (first | (with_reducible exact frLe_nil) | (with_reducible refine frLe_any ?_) | (with_reducible refine frLe_val ?_) | ((with_reducible refine frLe_eq rfl ?_ ?_); (· rfl)) | ((with_reducible refine frLe_val' (int_eq ?_) ?_ ?_); (· omega); (· rfl)) | ((with_reducible refine frLe_val' (int_eq ?_) ?_ ?_); (· simp only [Int.natCast_add, Int.natCast_one, Int.natCast_ofNat] <;> omega); (· rfl)) | ((with_reducible refine frLe_val' (bool_eq ?_) ?_ ?_); (· first | assumption | (symm; assumption)); (· rfl))))))
    exact hpLe_own rfl rfl hpLe_nil
  · intro s hs
    have hsl := hs.le
    rcases Nat.lt_or_ge s.i (rowL S n).length with j1 | j1
    · have hr := rowG_of j1
      have hsub := rowG_sub (errS_first he) j1
      have ho := (hch s.i _ hr).1
      have ho2 := offL_next hr
      have eP : lnP S n s.i = subPts S (rowG S n s.i).1 ((rowG S n s.i).2 - 1) := rfl
      have eC : lnC S n s.i = decide ((S ((rowG S n s.i).1 + (rowG S n s.i).2 - 1)).k = 4) := rfl
      have hnext := fun A cap G' (hle : s.G.le G') hp => hs.next (A := A) (cap := cap) (G' := G') j1 hle hp
      have hcells := fun A cap G' => lnV_next (S := S) (n := n) s A cap G'
      rw [eP] at hnext hcells
      rw [eC] at hcells
      generalize rowG S n s.i = r at *
      obtain ⟨i0, l⟩ := r
      dsimp only at hsub eP eC hnext hcells ho ho2
      rw [← ho] at ho2
      have hlt := hsub.lt
      have hle := hsub.le
      have h2 := (h.mono hs.mem)
      obtain ⟨pb, po, rfl, _⟩ := h2.at_ i0 (by omega)
      have ge := ends_gives (c := c) h2 (by omega) hsub
      have ge2 := fun (G2 : Mem) (hle : s.G.le G2) => ends_gives (c := c) (h2.mono hle) (by omega) hsub
      obtain ⟨p, e', x1⟩ := h2.cell (x := i0) (j := 1) (by omega) rfl
      cases e'
      obtain ⟨p', e', x2⟩ := h2.cell (x := i0) (j := 2) (by omega) rfl
      cases e'
      rw [← ho]
      (repeat ((try (conv => whnf)); (first | (refine OldCells_one _ x1 ?_) | (refine OldCells_one _ x2 ?_) | (with_reducible refine condP_true ?_) | (with_reducible refine condP_false ?_) | (with_reducible refine condP_not ?_) | (with_reducible refine condP_and ?_) | ((with_reducible refine condP_dt ?_ ?_); (· omega)) | ((with_reducible refine condP_df ?_ ?_); (· omega)) | ((with_reducible refine condP_yes ?_ ?_); (· assumption)) | ((with_reducible refine condP_no ?_ ?_); (· assumption)) | ((with_reducible refine ArP_i64 ?_ ?_); (· omega)) | ((with_reducible refine mustP.mk ?_ ?_); (· first | omega | rfl | (dsimp only; omega))) | (with_reducible refine EqP_nil tab_ok ?_) | (with_reducible refine EqP_sli tab_ok ?_) | (with_reducible refine DrawP_auto tab_ok (by kernel_rfl) (by decide +kernel) ?_) | (with_reducible refine DrawP_auto2 tab_ok (by kernel_rfl) (by decide +kernel) ?_) | (with_reducible refine eq43 ?_) | (with_reducible refine eq55 ?_) | (with_reducible refine eq57 ?_) | (with_reducible refine eq93 ?_) | (with_reducible refine eq101 ?_) | (with_reducible refine eq116 ?_) | (with_reducible refine eq119 ?_))))
      conv => whnf
      refine LoopP_at (ι := Nat × Int × Int × Bool) tab_ok (fun t => t.1 ≤ l - 1 ∧ (((S (i0 + t.1)).k ≠ 4 ∧ t.2.1 = (S (i0 + t.1)).x ∧ t.2.2.1 = (S (i0 + t.1)).y ∧ t.2.2.2 = false) ∨ ((S (i0 + t.1)).k = 4 ∧ t.1 = l - 1 ∧ t.2.2.2 = true))) (fun t => [(7, .val (.int .i64 ((i0 + 1 + t.1 : Nat) : Int)))])
        (fun t => [.own 34 2 s.i (flatC (lnV S n s.a s.q) s.i), .cells 55 [.val (.int .i64 t.2.1), .val (.int .i64 t.2.2.1)], .gone, .cells 34 [.own 4, .val (.bool t.2.2.2)], .own 55 2 (subPts S i0 t.1).length (flatP (subPts S i0 t.1))])
        (fun t => l - 1 - t.1) (0, (S i0).x, (S i0).y, false) ⟨Nat.zero_le _, .inl ⟨by rw [Nat.add_zero, hsub.mv]; omega, rfl, rfl, rfl⟩⟩ ?_ ?_
      · refine Le_head ?_
        conv => whnf
        refine Le_lit 2 2 1 rfl (by omega) ?_ (by rfl)
        conv => whnf
        refine mustP.mk (by unfold maxLen; omega) ?_
        conv => whnf
        refine Le_mk (by rfl) (by rfl) ?_ ?_
        · (repeat (first | (with_reducible exact frLe_nil) | (with_reducible refine frLe_any ?_) | (with_reducible refine frLe_val ?_) | ((with_reducible refine frLe_eq rfl ?_ ?_); (· rfl)) | ((with_reducible refine frLe_val' (int_eq ?_) ?_ ?_); (· omega); (· rfl)) | ((with_reducible refine frLe_val' (int_eq ?_) ?_ ?_); (· simp only [Int.natCast_add, Int.natCast_one, Int.natCast_ofNat] <;> omega); (· rfl)) | ((with_reducible refine frLe_val' (bool_eq ?_) ?_ ?_); (· first | assumption | (symm; assumption)); (· rfl))))
        · refine hpLe_own rfl rfl (hpLe_cells ?_ ?_)
          · (repeat (first | (with_reducible exact frLe_nil) | (with_reducible refine frLe_any ?_) | (with_reducible refine frLe_val ?_) | ((with_reducible refine frLe_eq rfl ?_ ?_); (· rfl)) | ((with_reducible refine frLe_val' (int_eq ?_) ?_ ?_); (· omega); (· rfl)) | ((with_reducible refine frLe_val' (int_eq ?_) ?_ ?_); (· simp only [Int.natCast_add, Int.natCast_one, Int.natCast_ofNat] <;> omega); (· rfl)) | ((with_reducible refine frLe_val' (bool_eq ?_) ?_ ?_); (· first | assumption | (symm; assumption)); (· rfl))))
          refine hpLe_gone (hpLe_cells ?_ (hpLe_own rfl rfl hpLe_nil))
          · (repeat (first | (with_reducible exact frLe_nil) | (with_reducible refine frLe_any ?_) | (with_reducible refine frLe_val ?_) | ((with_reducible refine frLe_eq rfl ?_ ?_); (· rfl)) | ((with_reducible refine frLe_val' (int_eq ?_) ?_ ?_); (· omega); (· rfl)) | ((with_reducible refine frLe_val' (int_eq ?_) ?_ ?_); (· simp only [Int.natCast_add, Int.natCast_one, Int.natCast_ofNat] <;> omega); (· rfl)) | ((with_reducible refine frLe_val' (bool_eq ?_) ?_ ?_); (· first | assumption | (symm; assumption)); (· rfl))))
      · rintro ⟨d, x, y, cl⟩ ⟨d1, d2⟩
        dsimp only at d1 d2
        have hsl2 := subPts_len S i0 d
        rcases Nat.lt_or_ge d (l - 1) with d3 | d3
        · rcases d2 with ⟨d4, rfl, rfl, rfl⟩ | ⟨_, d4, _⟩
          · obtain ⟨p2, e2, cx⟩ := h2.cells (x := i0 + 1 + d) (by omega)
            cases e2
            obtain ⟨p2, e2, y0⟩ := h2.cell (x := i0 + 1 + d) (j := 0) (by omega) rfl
            cases e2
            obtain ⟨p2, e2, y1⟩ := h2.cell (x := i0 + 1 + d) (j := 1) (by omega) rfl
            cases e2
            obtain ⟨p2, e2, y2⟩ := h2.cell (x := i0 + 1 + d) (j := 2) (by omega) rfl
            cases e2
            have esb : subPts S i0 (d + 1) = subPts S i0 d ++ (if (S (i0 + 1 + d)).k = 4 then [] else ptsS (S (i0 + d)).x (S (i0 + d)).y (S (i0 + 1 + d))) := by rw [subPts, show i0 + d + 1 = i0 + 1 + d by omega]
            rcases seg_in he hsub (x := i0 + 1 + d) (by omega) (by omega) with ⟨k4, k5⟩ | ⟨k4, k5⟩
            · (repeat ((try (conv => whnf)); (first | (refine OldCells_one _ y0 ?_) | (with_reducible refine condP_true ?_) | (with_reducible refine condP_false ?_) | (with_reducible refine condP_not ?_) | (with_reducible refine condP_and ?_) | ((with_reducible refine condP_dt ?_ ?_); (· omega)) | ((with_reducible refine condP_df ?_ ?_); (· omega)) | ((with_reducible refine condP_yes ?_ ?_); (· assumption)) | ((with_reducible refine condP_no ?_ ?_); (· assumption)) | ((with_reducible refine ArP_i64 ?_ ?_); (· omega)) | ((with_reducible refine mustP.mk ?_ ?_); (· first | omega | rfl | (dsimp only; omega))) | (with_reducible refine EqP_nil tab_ok ?_) | (with_reducible refine EqP_sli tab_ok ?_) | (with_reducible refine DrawP_auto tab_ok (by kernel_rfl) (by decide +kernel) ?_) | (with_reducible refine DrawP_auto2 tab_ok (by kernel_rfl) (by decide +kernel) ?_) | (with_reducible refine eq43 ?_) | (with_reducible refine eq55 ?_) | (with_reducible refine eq57 ?_) | (with_reducible refine eq93 ?_) | (with_reducible refine eq101 ?_) | (with_reducible refine eq116 ?_) | (with_reducible refine eq119 ?_) | (with_reducible refine CallP_gives (fun vs w => by kernel_rfl) (by kernel_rfl) (ge) ?_) | (with_reducible refine RCallP_gives (fun vs w => by kernel_rfl) (by kernel_rfl) (ge) ?_))))
              conv => whnf
              refine ⟨(d + 1, (S (i0 + d)).x, (S (i0 + d)).y, true), ⟨by show d + 1 ≤ _; omega, .inr ⟨by show (S (i0 + (d + 1))).k = 4; rw [show i0 + (d + 1) = i0 + 1 + d by omega]; exact k4, by show d + 1 = _; omega, rfl⟩⟩, by show _ - (d + 1) < _ - d; omega, ?_⟩
              have es : subPts S i0 (d + 1) = subPts S i0 d := by rw [esb, if_pos k4, List.append_nil]
              refine Le_head ?_
              conv => whnf
              refine Le_mk (by rfl) (by rfl) ?_ ?_
              · (repeat (first | (with_reducible exact frLe_nil) | (with_reducible refine frLe_any ?_) | (with_reducible refine frLe_val ?_) | ((with_reducible refine frLe_eq rfl ?_ ?_); (· rfl)) | ((with_reducible refine frLe_val' (int_eq ?_) ?_ ?_); (· omega); (· rfl)) | ((with_reducible refine frLe_val' (int_eq ?_) ?_ ?_); (· simp only [Int.natCast_add, Int.natCast_one, Int.natCast_ofNat] <;> omega); (· rfl)) | ((with_reducible refine frLe_val' (bool_eq ?_) ?_ ?_); (· first | assumption | (symm; assumption)); (· rfl))))
              · refine hpLe_own rfl rfl (hpLe_cells ?_ (hpLe_gone (hpLe_cells ?_ (hpLe_own ?_ ?_ hpLe_nil))))
                · (repeat (first | (with_reducible exact frLe_nil) | (with_reducible refine frLe_any ?_) | (with_reducible refine frLe_val ?_) | ((with_reducible refine frLe_eq rfl ?_ ?_); (· rfl)) | ((with_reducible refine frLe_val' (int_eq ?_) ?_ ?_); (· omega); (· rfl)) | ((with_reducible refine frLe_val' (int_eq ?_) ?_ ?_); (· simp only [Int.natCast_add, Int.natCast_one, Int.natCast_ofNat] <;> omega); (· rfl)) | ((with_reducible refine frLe_val' (bool_eq ?_) ?_ ?_); (· first | assumption | (symm; assumption)); (· rfl))))
                · (repeat (first | (with_reducible exact frLe_nil) | (with_reducible refine frLe_any ?_) | (with_reducible refine frLe_val ?_) | ((with_reducible refine frLe_eq rfl ?_ ?_); (· rfl)) | ((with_reducible refine frLe_val' (int_eq ?_) ?_ ?_); (· omega); (· rfl)) | ((with_reducible refine frLe_val' (int_eq ?_) ?_ ?_); (· simp only [Int.natCast_add, Int.natCast_one, Int.natCast_ofNat] <;> omega); (· rfl)) | ((with_reducible refine frLe_val' (bool_eq ?_) ?_ ?_); (· first | assumption | (symm; assumption)); (· rfl))))
                · rw [es]
                · rw [es]
            · have mk2 := CurvePoints_seg (G := s.G) k5
              rw [show i0 + 1 + d - 1 = i0 + d by omega] at mk2
              have hs2 := ptsS_len (S (i0 + d)).x (S (i0 + d)).y (S (i0 + 1 + d))
              (repeat ((try (conv => whnf)); (first | (refine OldCells_one _ y0 ?_) | (refine OldCells_one _ y1 ?_) | (refine OldCells_one _ y2 ?_) | (refine cx _ ?_) | (refine RCallP_makes (fun vs w => by kernel_rfl) (.alone fun _ => rfl) (by kernel_rfl) mk2 ?_) | (with_reducible refine condP_true ?_) | (with_reducible refine condP_false ?_) | (with_reducible refine condP_not ?_) | (with_reducible refine condP_and ?_) | ((with_reducible refine condP_dt ?_ ?_); (· omega)) | ((with_reducible refine condP_df ?_ ?_); (· omega)) | ((with_reducible refine condP_yes ?_ ?_); (· assumption)) | ((with_reducible refine condP_no ?_ ?_); (· assumption)) | ((with_reducible refine ArP_i64 ?_ ?_); (· omega)) | ((with_reducible refine mustP.mk ?_ ?_); (· first | omega | rfl | (dsimp only; omega))) | (with_reducible refine EqP_nil tab_ok ?_) | (with_reducible refine EqP_sli tab_ok ?_) | (with_reducible refine DrawP_auto tab_ok (by kernel_rfl) (by decide +kernel) ?_) | (with_reducible refine DrawP_auto2 tab_ok (by kernel_rfl) (by decide +kernel) ?_) | (with_reducible refine eq43 ?_) | (with_reducible refine eq55 ?_) | (with_reducible refine eq57 ?_) | (with_reducible refine eq93 ?_) | (with_reducible refine eq101 ?_) | (with_reducible refine eq116 ?_) | (with_reducible refine eq119 ?_) | (with_reducible refine CallP_gives (fun vs w => by kernel_rfl) (by kernel_rfl) (ge) ?_) | (with_reducible refine RCallP_gives (fun vs w => by kernel_rfl) (by kernel_rfl) (ge) ?_))))
              conv => whnf
              refine mustP.mk ⟨ptsS_pos _ _ _, flatP_ones⟩ ?_
              (repeat ((try (conv => whnf)); (first | (refine OldCells_one _ y0 ?_) | (refine OldCells_one _ y1 ?_) | (refine OldCells_one _ y2 ?_) | (with_reducible refine condP_true ?_) | (with_reducible refine condP_false ?_) | (with_reducible refine condP_not ?_) | (with_reducible refine condP_and ?_) | ((with_reducible refine condP_dt ?_ ?_); (· omega)) | ((with_reducible refine condP_df ?_ ?_); (· omega)) | ((with_reducible refine condP_yes ?_ ?_); (· assumption)) | ((with_reducible refine condP_no ?_ ?_); (· assumption)) | ((with_reducible refine ArP_i64 ?_ ?_); (· omega)) | ((with_reducible refine mustP.mk ?_ ?_); (· first | omega | rfl | (dsimp only; omega))) | (with_reducible refine EqP_nil tab_ok ?_) | (with_reducible refine EqP_sli tab_ok ?_) | (with_reducible refine DrawP_auto tab_ok (by kernel_rfl) (by decide +kernel) ?_) | (with_reducible refine DrawP_auto2 tab_ok (by kernel_rfl) (by decide +kernel) ?_) | (with_reducible refine eq43 ?_) | (with_reducible refine eq55 ?_) | (with_reducible refine eq57 ?_) | (with_reducible refine eq93 ?_) | (with_reducible refine eq101 ?_) | (with_reducible refine eq116 ?_) | (with_reducible refine eq119 ?_))))
              conv => whnf
              refine ⟨(d + 1, (S (i0 + 1 + d)).x, (S (i0 + 1 + d)).y, false), ⟨by show d + 1 ≤ _; omega, .inl ⟨?_, ?_, ?_, rfl⟩⟩, by show _ - (d + 1) < _ - d; omega, ?_⟩
              · show (S (i0 + (d + 1))).k ≠ 4
                rw [show i0 + (d + 1) = i0 + 1 + d by omega]; exact k4
              · show _ = (S (i0 + (d + 1))).x
                rw [show i0 + (d + 1) = i0 + 1 + d by omega]
              · show _ = (S (i0 + (d + 1))).y
                rw [show i0 + (d + 1) = i0 + 1 + d by omega]
              refine Le_move 6 4 rfl rfl rfl rfl ?_
              conv => whnf
              refine Le_head ?_
              conv => whnf
              refine Le_mk (by rfl) (by rfl) ?_ ?_
              · (repeat (first | (with_reducible exact frLe_nil) | (with_reducible refine frLe_any ?_) | (with_reducible refine frLe_val ?_) | ((with_reducible refine frLe_eq rfl ?_ ?_); (· rfl)) | ((with_reducible refine frLe_val' (int_eq ?_) ?_ ?_); (· omega); (· rfl)) | ((with_reducible refine frLe_val' (int_eq ?_) ?_ ?_); (· simp only [Int.natCast_add, Int.natCast_one, Int.natCast_ofNat] <;> omega); (· rfl)) | ((with_reducible refine frLe_val' (bool_eq ?_) ?_ ?_); (· first | assumption | (symm; assumption)); (· rfl))))
              · refine hpLe_own rfl rfl (hpLe_cells ?_ (hpLe_gone (hpLe_cells ?_ (hpLe_own ?_ ?_ hpLe_nil))))
                · (repeat (first | (with_reducible exact frLe_nil) | (with_reducible refine frLe_any ?_) | (with_reducible refine frLe_val ?_) | ((with_reducible refine frLe_eq rfl ?_ ?_); (· rfl)) | ((with_reducible refine frLe_val' (int_eq ?_) ?_ ?_); (· omega); (· rfl)) | ((with_reducible refine frLe_val' (int_eq ?_) ?_ ?_); (· simp only [Int.natCast_add, Int.natCast_one, Int.natCast_ofNat] <;> omega); (· rfl)) | ((with_reducible refine frLe_val' (bool_eq ?_) ?_ ?_); (· first | assumption | (symm; assumption)); (· rfl))))
                · (repeat (first | (with_reducible exact frLe_nil) | (with_reducible refine frLe_any ?_) | (with_reducible refine frLe_val ?_) | ((with_reducible refine frLe_eq rfl ?_ ?_); (· rfl)) | ((with_reducible refine frLe_val' (int_eq ?_) ?_ ?_); (· omega); (· rfl)) | ((with_reducible refine frLe_val' (int_eq ?_) ?_ ?_); (· simp only [Int.natCast_add, Int.natCast_one, Int.natCast_ofNat] <;> omega); (· rfl)) | ((with_reducible refine frLe_val' (bool_eq ?_) ?_ ?_); (· first | assumption | (symm; assumption)); (· rfl))))
                · rw [esb, if_neg k4, List.length_append]
                · rw [esb, if_neg k4, flatP_append]
          · omega
        · obtain rfl : d = l - 1 := by omega
          have ecl : cl = decide ((S (i0 + l - 1)).k = 4) := by
            rw [show i0 + l - 1 = i0 + (l - 1) by omega]
            rcases d2 with ⟨d4, _, _, rfl⟩ | ⟨d4, _, rfl⟩
            · rw [decide_eq_false d4]
            · rw [decide_eq_true d4]
          (repeat ((try (conv => whnf)); (first | (with_reducible refine condP_true ?_) | (with_reducible refine condP_false ?_) | (with_reducible refine condP_not ?_) | (with_reducible refine condP_and ?_) | ((with_reducible refine condP_dt ?_ ?_); (· omega)) | ((with_reducible refine condP_df ?_ ?_); (· omega)) | ((with_reducible refine condP_yes ?_ ?_); (· assumption)) | ((with_reducible refine condP_no ?_ ?_); (· assumption)) | ((with_reducible refine ArP_i64 ?_ ?_); (· omega)) | ((with_reducible refine mustP.mk ?_ ?_); (· first | omega | rfl | (dsimp only; omega))) | (with_reducible refine EqP_nil tab_ok ?_) | (with_reducible refine EqP_sli tab_ok ?_) | (with_reducible refine DrawP_auto tab_ok (by kernel_rfl) (by decide +kernel) ?_) | (with_reducible refine DrawP_auto2 tab_ok (by kernel_rfl) (by decide +kernel) ?_) | (with_reducible refine eq43 ?_) | (with_reducible refine eq55 ?_) | (with_reducible refine eq57 ?_) | (with_reducible refine eq93 ?_) | (with_reducible refine eq101 ?_) | (with_reducible refine eq116 ?_) | (with_reducible refine eq119 ?_) | (with_reducible refine CallP_gives (fun vs w => by kernel_rfl) (by kernel_rfl) (ge) ?_) | (with_reducible refine RCallP_gives (fun vs w => by kernel_rfl) (by kernel_rfl) (ge) ?_))))
          conv => whnf
          refine OpP_freeze tab_ok 5 4 rfl rfl rfl rfl rfl rfl fun A2 c2 G2 z1 z2 z3 z4 => ?_
          (repeat ((try (conv => whnf)); (first | (with_reducible refine condP_true ?_) | (with_reducible refine condP_false ?_) | (with_reducible refine condP_not ?_) | (with_reducible refine condP_and ?_) | ((with_reducible refine condP_dt ?_ ?_); (· omega)) | ((with_reducible refine condP_df ?_ ?_); (· omega)) | ((with_reducible refine condP_yes ?_ ?_); (· assumption)) | ((with_reducible refine condP_no ?_ ?_); (· assumption)) | ((with_reducible refine ArP_i64 ?_ ?_); (· omega)) | ((with_reducible refine mustP.mk ?_ ?_); (· first | omega | rfl | (dsimp only; omega))) | (with_reducible refine EqP_nil tab_ok ?_) | (with_reducible refine EqP_sli tab_ok ?_) | (with_reducible refine DrawP_auto tab_ok (by kernel_rfl) (by decide +kernel) ?_) | (with_reducible refine DrawP_auto2 tab_ok (by kernel_rfl) (by decide +kernel) ?_) | (with_reducible refine eq43 ?_) | (with_reducible refine eq55 ?_) | (with_reducible refine eq57 ?_) | (with_reducible refine eq93 ?_) | (with_reducible refine eq101 ?_) | (with_reducible refine eq116 ?_) | (with_reducible refine eq119 ?_))))
          conv => whnf
          have ge3 := ge2 G2 z1
          (repeat ((try (conv => whnf)); (first | (with_reducible refine condP_true ?_) | (with_reducible refine condP_false ?_) | (with_reducible refine condP_not ?_) | (with_reducible refine condP_and ?_) | ((with_reducible refine condP_dt ?_ ?_); (· omega)) | ((with_reducible refine condP_df ?_ ?_); (· omega)) | ((with_reducible refine condP_yes ?_ ?_); (· assumption)) | ((with_reducible refine condP_no ?_ ?_); (· assumption)) | ((with_reducible refine ArP_i64 ?_ ?_); (· omega)) | ((with_reducible refine mustP.mk ?_ ?_); (· first | omega | rfl | (dsimp only; omega))) | (with_reducible refine EqP_nil tab_ok ?_) | (with_reducible refine EqP_sli tab_ok ?_) | (with_reducible refine DrawP_auto tab_ok (by kernel_rfl) (by decide +kernel) ?_) | (with_reducible refine DrawP_auto2 tab_ok (by kernel_rfl) (by decide +kernel) ?_) | (with_reducible refine eq43 ?_) | (with_reducible refine eq55 ?_) | (with_reducible refine eq57 ?_) | (with_reducible refine eq93 ?_) | (with_reducible refine eq101 ?_) | (with_reducible refine eq116 ?_) | (with_reducible refine eq119 ?_) | (with_reducible refine CallP_gives (fun vs w => by kernel_rfl) (by kernel_rfl) (ge3) ?_) | (with_reducible refine RCallP_gives (fun vs w => by kernel_rfl) (by kernel_rfl) (ge3) ?_))))
          conv => whnf
          refine ⟨s.next A2 c2 G2, hnext A2 c2 G2 z1 (PtsM_flat z4), by show _ - (s.i + 1) < _; omega, ?_⟩
          have ho3 : offL (rowL S n) (s.next A2 c2 G2).i = i0 + l := ho2
          refine Le_move 6 0 rfl rfl rfl rfl ?_
          conv => whnf
          ((refine Le_head ?_); (conv => whnf); (refine Le_mk (by rfl) (by rfl) ?_ ?_); (· (repeat (first | (with_reducible exact frLe_nil) | (with_reducible refine frLe_any ?_) | (with_reducible refine frLe_val ?_) | ((with_reducible refine frLe_eq rfl ?_ ?_); (· rfl)) | ((with_reducible refine frLe_val' (int_eq ?_) ?_ ?_); (· omega); (· rfl)) | ((with_reducible refine frLe_val' (int_eq ?_) ?_ ?_); (· simp only [Int.natCast_add, Int.natCast_one, Int.natCast_ofNat] <;> omega); (· rfl)) | ((with_reducible refine frLe_val' (bool_eq ?_) ?_ ?_); (· first | assumption | (symm; assumption)); (· rfl))))))
          refine hpLe_own rfl ?_ hpLe_nil
          show _ = flatC (lnV S n (s.next A2 c2 G2).a (s.next A2 c2 G2).q) (s.i + 1)
          rw [hcells, ← ecl]
    · have j2 : s.i = (rowL S n).length := by omega
      have fin := fun (G2 : Mem) (A2 : Option Addr) (hle : s.G.le G2) hF => hs.res (A := A2) j2 hle hF
      have ho := hoff
      rw [← j2] at ho
      rw [ho]
      obtain ⟨i, G3, a, q⟩ := s
      dsimp only at *
      (repeat ((try (conv => whnf)); (first | (with_reducible refine condP_true ?_) | (with_reducible refine condP_false ?_) | (with_reducible refine condP_not ?_) | (with_reducible refine condP_and ?_) | ((with_reducible refine condP_dt ?_ ?_); (· omega)) | ((with_reducible refine condP_df ?_ ?_); (· omega)) | ((with_reducible refine condP_yes ?_ ?_); (· assumption)) | ((with_reducible refine condP_no ?_ ?_); (· assumption)) | ((with_reducible refine ArP_i64 ?_ ?_); (· omega)) | ((with_reducible refine mustP.mk ?_ ?_); (· first | omega | rfl | (dsimp only; omega))) | (with_reducible refine EqP_nil tab_ok ?_) | (with_reducible refine EqP_sli tab_ok ?_) | (with_reducible refine DrawP_auto tab_ok (by kernel_rfl) (by decide +kernel) ?_) | (with_reducible refine DrawP_auto2 tab_ok (by kernel_rfl) (by decide +kernel) ?_) | (with_reducible refine eq43 ?_) | (with_reducible refine eq55 ?_) | (with_reducible refine eq57 ?_) | (with_reducible refine eq93 ?_) | (with_reducible refine eq101 ?_) | (with_reducible refine eq116 ?_) | (with_reducible refine eq119 ?_))))
      conv => whnf
      refine .inl ⟨0, _, _, _, _, rfl, rfl, fun G2 A2 hle hF => ?_⟩
      exact fin G2 A2 hle hF
end
end Go.Proofs.Ytpgjbfbdappniaa
