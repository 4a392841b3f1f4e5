/-
  conic.Flatten.
-/
import Derived.Test.YtpgjbfbdappniaaFlatten1
import Derived.Test.YtpgjbfbdappniaaMakesF
import Derived.Test.YtpgjbfbdappniaaLit
import Derived.Test.YtpgjbfbdappniaaArg
namespace Go.Proofs.Ytpgjbfbdappniaa
open Go.RowKit
set_option linter.unusedVariables false
set_option linter.unusedSimpArgs false
set_option maxRecDepth 20000
section
variable {G : Mem} {A : Option Addr} {n c : Nat} {S : Nat → SegD}
theorem addr_add3 {b o i d : Nat} : Addr.add (((⟨b, o, none⟩ : Addr).add (i * 6)).add 6) (d * 6) = (⟨b, o, none⟩ : Addr).add ((i + d + 1) * 6) := by
  rw [addr_add, addr_add, addr_add, addr_add, show o + i * 6 + 6 + d * 6 = o + (i + d + 1) * 6 by omega]
theorem ptsS_pos (px py : Int) (s : SegD) : 0 < (ptsS px py s).length := by
  unfold ptsS
  split
  · rw [ptsL_length]; exact (divN_bd _).1
  · simp
theorem flatP_ones {L : List (Int × Int)} : ∀ v ∈ flatP L, v.oneCell' = true := fun v hv => by
  unfold flatP at hv
  simp only [List.mem_flatMap, List.mem_cons, List.not_mem_nil, or_false] at hv
  obtain ⟨r, _, rfl | rfl⟩ := hv <;> rfl
theorem PtsM_flat {G : Mem} {A : Option Addr} {L : List (Int × Int)} (h : FlatM G A (flatP L)) : PtsM G A L := fun i r hr => by
  obtain ⟨h1, h2⟩ := flatP_get hr
  rcases h with ⟨_, h⟩ | ⟨b, off, rfl, h⟩
  · rw [h] at h1; simp at h1
  · exact ⟨b, off, rfl, h _ _ h1, h _ _ h2⟩
set_option maxHeartbeats 8000000 in
theorem Flatten_makes (h : SegsM G A n S) (hn : n ≤ 12) (hc : n ≤ c) (hm : c ≤ maxLen) (he : pathE S n = 0) : MakesF Try.prog 7 [.val (.slice A n c)] G (pairP 0) (FlR S n) := by
  have hm' := hm
  unfold maxLen at hm'
  have g0 := PCheck_gives (c := c) h (by unfold maxLen; omega)
  rw [he] at g0
  have mk := Subpaths_makes (c := c) h (by omega) hc hm (errS_first he)
  have hrl := rowL_len (S := S) n
  refine MakesF_of tab_ok Try.func7 (pairP_wraps 0) (by kernel_rfl) ?_
  (repeat ((try (conv => whnf)); (first | (with_reducible refine condP_true ?_) | (with_reducible refine condP_false ?_) | (with_reducible refine condP_not ?_) | (with_reducible refine condP_and ?_) | ((with_reducible refine condP_dt ?_ ?_); (· omega)) | ((with_reducible refine condP_df ?_ ?_); (· omega)) | ((with_reducible refine condP_yes ?_ ?_); (· assumption)) | ((with_reducible refine condP_no ?_ ?_); (· assumption)) | ((with_reducible refine ArP_i64 ?_ ?_); (· omega)) | ((with_reducible refine mustP.mk ?_ ?_); (· first | omega | rfl | (dsimp only; omega))) | (with_reducible refine EqP_nil tab_ok ?_) | (with_reducible refine EqP_sli tab_ok ?_) | (with_reducible refine DrawP_auto tab_ok (by kernel_rfl) (by decide +kernel) ?_) | (with_reducible refine DrawP_auto2 tab_ok (by kernel_rfl) (by decide +kernel) ?_) | (with_reducible refine eq43 ?_) | (with_reducible refine eq55 ?_) | (with_reducible refine eq57 ?_) | (with_reducible refine eq93 ?_) | (with_reducible refine eq101 ?_) | (with_reducible refine eq116 ?_) | (with_reducible refine eq119 ?_) | (with_reducible refine CallP_gives (fun vs w => by kernel_rfl) (by kernel_rfl) (g0) ?_) | (with_reducible refine RCallP_gives (fun vs w => by kernel_rfl) (by kernel_rfl) (g0) ?_))))
  conv => whnf
  refine CallP_freeze (fun vs w => by kernel_rfl) (.alone fun _ => rfl) (by kernel_rfl) mk fun A1 c1 G1 hG1 hc1 hm1 hx1 => ?_
  have h1 := h.mono hG1
  (repeat ((try (conv => whnf)); (first | (with_reducible refine condP_true ?_) | (with_reducible refine condP_false ?_) | (with_reducible refine condP_not ?_) | (with_reducible refine condP_and ?_) | ((with_reducible refine condP_dt ?_ ?_); (· omega)) | ((with_reducible refine condP_df ?_ ?_); (· omega)) | ((with_reducible refine condP_yes ?_ ?_); (· assumption)) | ((with_reducible refine condP_no ?_ ?_); (· assumption)) | ((with_reducible refine ArP_i64 ?_ ?_); (· omega)) | ((with_reducible refine mustP.mk ?_ ?_); (· first | omega | rfl | (dsimp only; omega))) | (with_reducible refine EqP_nil tab_ok ?_) | (with_reducible refine EqP_sli tab_ok ?_) | (with_reducible refine DrawP_auto tab_ok (by kernel_rfl) (by decide +kernel) ?_) | (with_reducible refine DrawP_auto2 tab_ok (by kernel_rfl) (by decide +kernel) ?_) | (with_reducible refine eq43 ?_) | (with_reducible refine eq55 ?_) | (with_reducible refine eq57 ?_) | (with_reducible refine eq93 ?_) | (with_reducible refine eq101 ?_) | (with_reducible refine eq116 ?_) | (with_reducible refine eq119 ?_))))
  conv => whnf
  refine LoopP_atG (ι := FlS) tab_ok (FlI S n G1) (fun s => [(20, .val (.int .i64 s.i)), (5, .own 0)]) (fun s => [.own 34 2 s.i (flatC (lnV S n s.a s.q) s.i)]) (fun s => s.G) (fun s => (rowL S n).length - s.i) ⟨0, G1, fun _ => none, fun _ => 0⟩ ⟨Nat.zero_le _, Mem.le_refl _, fun j hj => by cases hj⟩ ?_ ?_
  · refine Le_own 34 2 ?_
    conv => whnf
    ((refine Le_head ?_); (conv => whnf); (refine Le_mk (by rfl) (by rfl) ?_ ?_); (· (repeat (first | (with_reducible exact frLe_nil) | (with_reducible refine frLe_any ?_) | (with_reducible refine frLe_val ?_) | ((with_reducible refine frLe_eq rfl ?_ ?_); (· rfl)) | ((with_reducible refine frLe_val' (int_eq ?_) ?_ ?_); (· omega); (· rfl)) | ((with_reducible refine frLe_val' (int_eq ?_) ?_ ?_); (· simp only [Int.natCast_add, Int.natCast_one, Int.natCast_ofNat] <;> omega); (· rfl)) | ((with_reducible refine frLe_val' (bool_eq ?_) ?_ ?_); (· first | assumption | (symm; assumption)); (· rfl))))))
    exact hpLe_own rfl rfl hpLe_nil
  · intro s hs
    have hsl := hs.le
    rcases Nat.lt_or_ge s.i (rowL S n).length with j1 | j1
    · obtain ⟨b1, rfl, hcell⟩ : ∃ b, A1 = some ⟨b, 0, none⟩ ∧ ∀ (j : Nat) u, ((rowL S n).map (cutV A))[j]? = some u → G1.cell? ⟨b, j, none⟩ = some u := by
        rcases hx1 with hx1 | hx1
        · exfalso
          have := congrArg List.length hx1
          rw [List.length_map, List.length_nil] at this
          omega
        · exact hx1
      have hr := rowG_of j1
      have hsub := rowG_sub (errS_first he) j1
      have c0 : s.G.cell? (Addr.add ⟨b1, 0, none⟩ (s.i * 1)) = some (cutV A (rowG S n s.i)) := by
        rw [addr_add, Nat.zero_add, Nat.mul_one]
        exact hs.mem.cell (hcell s.i _ (by rw [List.getElem?_map, hr]; rfl))
      have eP : lnP S n s.i = subPts S (rowG S n s.i).1 ((rowG S n s.i).2 - 1) := rfl
      have eC : lnC S n s.i = decide ((S ((rowG S n s.i).1 + (rowG S n s.i).2 - 1)).k = 4) := rfl
      have hnext := fun A cap G' (hle : s.G.le G') hp => hs.next (A := A) (cap := cap) (G' := G') j1 hle hp
      have hcells := fun A cap G' => lnV_next (S := S) (n := n) s A cap G'
      rw [eP] at hnext hcells
      rw [eC] at hcells
      generalize rowG S n s.i = r at *
      obtain ⟨i0, l⟩ := r
      dsimp only at hsub eP eC hnext hcells
      have hlt := hsub.lt
      have hle := hsub.le
      have h2 := (h1.mono hs.mem)
      obtain ⟨pb, po, rfl, _⟩ := h2.at_ i0 (by omega)
      obtain ⟨p, e', x1⟩ := h2.cell (x := i0) (j := 1) (by omega) rfl
      cases e'
      obtain ⟨p', e', x2⟩ := h2.cell (x := i0) (j := 2) (by omega) rfl
      cases e'
      (repeat ((try (conv => whnf)); (first | (refine OldCells_one _ c0 ?_) | (refine OldCells_one _ x1 ?_) | (refine OldCells_one _ x2 ?_) | (with_reducible refine condP_true ?_) | (with_reducible refine condP_false ?_) | (with_reducible refine condP_not ?_) | (with_reducible refine condP_and ?_) | ((with_reducible refine condP_dt ?_ ?_); (· omega)) | ((with_reducible refine condP_df ?_ ?_); (· omega)) | ((with_reducible refine condP_yes ?_ ?_); (· assumption)) | ((with_reducible refine condP_no ?_ ?_); (· assumption)) | ((with_reducible refine ArP_i64 ?_ ?_); (· omega)) | ((with_reducible refine mustP.mk ?_ ?_); (· first | omega | rfl | (dsimp only; omega))) | (with_reducible refine EqP_nil tab_ok ?_) | (with_reducible refine EqP_sli tab_ok ?_) | (with_reducible refine DrawP_auto tab_ok (by kernel_rfl) (by decide +kernel) ?_) | (with_reducible refine DrawP_auto2 tab_ok (by kernel_rfl) (by decide +kernel) ?_) | (with_reducible refine eq43 ?_) | (with_reducible refine eq55 ?_) | (with_reducible refine eq57 ?_) | (with_reducible refine eq93 ?_) | (with_reducible refine eq101 ?_) | (with_reducible refine eq116 ?_) | (with_reducible refine eq119 ?_))))
      conv => whnf
      obtain ⟨A7, hA7⟩ : ∃ A7 : Option Addr, A7 = if l = 1 then some ((⟨pb, po, none⟩ : Addr).add (i0 * 6)) else some (((⟨pb, po, none⟩ : Addr).add (i0 * 6)).add 6) := ⟨_, rfl⟩
      refine LoopP_at tab_ok (fun d => d ≤ l - 1 ∧ (S (i0 + d)).k ≠ 4) (fun (d : Nat) => [(39, .val (.int .i64 d)), (37, .val (.slice A7 (l - 1) (l - 1))), (38, .val (.int .i64 ((l - 1 : Nat) : Int)))])
        (fun d => [.own 34 2 s.i (flatC (lnV S n s.a s.q) s.i), .cells 55 [.val (.int .i64 (S (i0 + d)).x), .val (.int .i64 (S (i0 + d)).y)], .gone, .cells 34 [.own 4, .val (.bool false)], .own 55 2 (subPts S i0 d).length (flatP (subPts S i0 d))])
        (fun d => l - 1 - d) 0 ⟨Nat.zero_le _, by rw [Nat.add_zero, hsub.mv]; omega⟩ ?_ ?_
      · refine Le_head ?_
        conv => whnf
        refine Le_lit 2 2 1 rfl (by omega) ?_ (by rfl)
        conv => whnf
        refine mustP.mk (by unfold maxLen; omega) ?_
        conv => whnf
        refine Le_mk (by rfl) (by rfl) ?_ ?_
        · (repeat (first | (with_reducible exact frLe_nil) | (with_reducible refine frLe_any ?_) | (with_reducible refine frLe_val ?_) | ((with_reducible refine frLe_eq rfl ?_ ?_); (· rfl)) | ((with_reducible refine frLe_val' (int_eq ?_) ?_ ?_); (· omega); (· rfl)) | ((with_reducible refine frLe_val' (int_eq ?_) ?_ ?_); (· simp only [Int.natCast_add, Int.natCast_one, Int.natCast_ofNat] <;> omega); (· rfl)) | ((with_reducible refine frLe_val' (bool_eq ?_) ?_ ?_); (· first | assumption | (symm; assumption)); (· rfl))))
          refine frLe_val' ?_ (by rfl) ?_
          · rw [hA7]; rfl
          (repeat (first | (with_reducible exact frLe_nil) | (with_reducible refine frLe_any ?_) | (with_reducible refine frLe_val ?_) | ((with_reducible refine frLe_eq rfl ?_ ?_); (· rfl)) | ((with_reducible refine frLe_val' (int_eq ?_) ?_ ?_); (· omega); (· rfl)) | ((with_reducible refine frLe_val' (int_eq ?_) ?_ ?_); (· simp only [Int.natCast_add, Int.natCast_one, Int.natCast_ofNat] <;> omega); (· rfl)) | ((with_reducible refine frLe_val' (bool_eq ?_) ?_ ?_); (· first | assumption | (symm; assumption)); (· rfl))))
        · refine hpLe_own rfl rfl (hpLe_cells ?_ ?_)
          · (repeat (first | (with_reducible exact frLe_nil) | (with_reducible refine frLe_any ?_) | (with_reducible refine frLe_val ?_) | ((with_reducible refine frLe_eq rfl ?_ ?_); (· rfl)) | ((with_reducible refine frLe_val' (int_eq ?_) ?_ ?_); (· omega); (· rfl)) | ((with_reducible refine frLe_val' (int_eq ?_) ?_ ?_); (· simp only [Int.natCast_add, Int.natCast_one, Int.natCast_ofNat] <;> omega); (· rfl)) | ((with_reducible refine frLe_val' (bool_eq ?_) ?_ ?_); (· first | assumption | (symm; assumption)); (· rfl))))
          refine hpLe_gone (hpLe_cells ?_ (hpLe_own rfl rfl hpLe_nil))
          · (repeat (first | (with_reducible exact frLe_nil) | (with_reducible refine frLe_any ?_) | (with_reducible refine frLe_val ?_) | ((with_reducible refine frLe_eq rfl ?_ ?_); (· rfl)) | ((with_reducible refine frLe_val' (int_eq ?_) ?_ ?_); (· omega); (· rfl)) | ((with_reducible refine frLe_val' (int_eq ?_) ?_ ?_); (· simp only [Int.natCast_add, Int.natCast_one, Int.natCast_ofNat] <;> omega); (· rfl)) | ((with_reducible refine frLe_val' (bool_eq ?_) ?_ ?_); (· first | assumption | (symm; assumption)); (· rfl))))
      · rintro d ⟨d1, d2⟩
        have hsl2 := subPts_len S i0 d
        rcases Nat.lt_or_ge d (l - 1) with d3 | d3
        · have e7 : A7 = some (((⟨pb, po, none⟩ : Addr).add (i0 * 6)).add 6) := by rw [hA7, if_neg (by omega)]
          obtain ⟨p2, e2, cx⟩ := h2.cells (x := i0 + d + 1) (by omega)
          cases e2
          have cx : ∀ K : List Value → Prop, K (S (i0 + d + 1)).cells → OldCells s.G (Addr.add (((⟨pb, po, none⟩ : Addr).add (i0 * 6)).add 6) (d * 6)) 6 K := by
            rw [addr_add3]; exact cx
          rcases seg_in he hsub (x := i0 + d + 1) (by omega) (by omega) with ⟨k4, k5⟩ | ⟨k4, k5⟩
          · subst e7
            (repeat ((try (conv => whnf)); (first | (refine cx _ ?_) | (with_reducible refine condP_true ?_) | (with_reducible refine condP_false ?_) | (with_reducible refine condP_not ?_) | (with_reducible refine condP_and ?_) | ((with_reducible refine condP_dt ?_ ?_); (· omega)) | ((with_reducible refine condP_df ?_ ?_); (· omega)) | ((with_reducible refine condP_yes ?_ ?_); (· assumption)) | ((with_reducible refine condP_no ?_ ?_); (· assumption)) | ((with_reducible refine ArP_i64 ?_ ?_); (· omega)) | ((with_reducible refine mustP.mk ?_ ?_); (· first | omega | rfl | (dsimp only; omega))) | (with_reducible refine EqP_nil tab_ok ?_) | (with_reducible refine EqP_sli tab_ok ?_) | (with_reducible refine DrawP_auto tab_ok (by kernel_rfl) (by decide +kernel) ?_) | (with_reducible refine DrawP_auto2 tab_ok (by kernel_rfl) (by decide +kernel) ?_) | (with_reducible refine eq43 ?_) | (with_reducible refine eq55 ?_) | (with_reducible refine eq57 ?_) | (with_reducible refine eq93 ?_) | (with_reducible refine eq101 ?_) | (with_reducible refine eq116 ?_) | (with_reducible refine eq119 ?_))))
            conv => whnf
            have ed : (S (i0 + l - 1)).k = 4 := by rw [show i0 + l - 1 = i0 + d + 1 by omega]; exact k4
            have el : subPts S i0 (l - 1) = subPts S i0 d := by rw [show l - 1 = d + 1 by omega, subPts, if_pos k4, List.append_nil]
            refine OpP_freeze tab_ok 6 4 rfl rfl rfl rfl rfl rfl fun A2 c2 G2 z1 z2 z3 z4 => ?_
            (repeat ((try (conv => whnf)); (first | (with_reducible refine condP_true ?_) | (with_reducible refine condP_false ?_) | (with_reducible refine condP_not ?_) | (with_reducible refine condP_and ?_) | ((with_reducible refine condP_dt ?_ ?_); (· omega)) | ((with_reducible refine condP_df ?_ ?_); (· omega)) | ((with_reducible refine condP_yes ?_ ?_); (· assumption)) | ((with_reducible refine condP_no ?_ ?_); (· assumption)) | ((with_reducible refine ArP_i64 ?_ ?_); (· omega)) | ((with_reducible refine mustP.mk ?_ ?_); (· first | omega | rfl | (dsimp only; omega))) | (with_reducible refine EqP_nil tab_ok ?_) | (with_reducible refine EqP_sli tab_ok ?_) | (with_reducible refine DrawP_auto tab_ok (by kernel_rfl) (by decide +kernel) ?_) | (with_reducible refine DrawP_auto2 tab_ok (by kernel_rfl) (by decide +kernel) ?_) | (with_reducible refine eq43 ?_) | (with_reducible refine eq55 ?_) | (with_reducible refine eq57 ?_) | (with_reducible refine eq93 ?_) | (with_reducible refine eq101 ?_) | (with_reducible refine eq116 ?_) | (with_reducible refine eq119 ?_))))
            conv => whnf
            refine ⟨s.next A2 c2 G2, hnext A2 c2 G2 z1 (by rw [el]; exact PtsM_flat z4), by show _ - (s.i + 1) < _; omega, ?_⟩
            refine Le_move 7 0 rfl rfl rfl rfl ?_
            conv => whnf
            ((refine Le_head ?_); (conv => whnf); (refine Le_mk (by rfl) (by rfl) ?_ ?_); (· (repeat (first | (with_reducible exact frLe_nil) | (with_reducible refine frLe_any ?_) | (with_reducible refine frLe_val ?_) | ((with_reducible refine frLe_eq rfl ?_ ?_); (· rfl)) | ((with_reducible refine frLe_val' (int_eq ?_) ?_ ?_); (· omega); (· rfl)) | ((with_reducible refine frLe_val' (int_eq ?_) ?_ ?_); (· simp only [Int.natCast_add, Int.natCast_one, Int.natCast_ofNat] <;> omega); (· rfl)) | ((with_reducible refine frLe_val' (bool_eq ?_) ?_ ?_); (· first | assumption | (symm; assumption)); (· rfl))))))
            refine hpLe_own rfl ?_ hpLe_nil
            show _ = flatC (lnV S n (s.next A2 c2 G2).a (s.next A2 c2 G2).q) (s.i + 1)
            rw [hcells, el, decide_eq_true ed]
          · have mk2 := points_seg (G := s.G) k5
            rw [show i0 + d + 1 - 1 = i0 + d by omega] at mk2
            subst e7
            have hs1 := subPts_len S i0 d
            have hs2 := ptsS_len (S (i0 + d)).x (S (i0 + d)).y (S (i0 + d + 1))
            (repeat ((try (conv => whnf)); (first | (refine cx _ ?_) | (refine RCallP_makes (fun vs w => by kernel_rfl) (.alone fun _ => rfl) (by kernel_rfl) mk2 ?_) | (with_reducible refine condP_true ?_) | (with_reducible refine condP_false ?_) | (with_reducible refine condP_not ?_) | (with_reducible refine condP_and ?_) | ((with_reducible refine condP_dt ?_ ?_); (· omega)) | ((with_reducible refine condP_df ?_ ?_); (· omega)) | ((with_reducible refine condP_yes ?_ ?_); (· assumption)) | ((with_reducible refine condP_no ?_ ?_); (· assumption)) | ((with_reducible refine ArP_i64 ?_ ?_); (· omega)) | ((with_reducible refine mustP.mk ?_ ?_); (· first | omega | rfl | (dsimp only; omega))) | (with_reducible refine EqP_nil tab_ok ?_) | (with_reducible refine EqP_sli tab_ok ?_) | (with_reducible refine DrawP_auto tab_ok (by kernel_rfl) (by decide +kernel) ?_) | (with_reducible refine DrawP_auto2 tab_ok (by kernel_rfl) (by decide +kernel) ?_) | (with_reducible refine eq43 ?_) | (with_reducible refine eq55 ?_) | (with_reducible refine eq57 ?_) | (with_reducible refine eq93 ?_) | (with_reducible refine eq101 ?_) | (with_reducible refine eq116 ?_) | (with_reducible refine eq119 ?_))))
            conv => whnf
            refine mustP.mk ⟨ptsS_pos _ _ _, flatP_ones⟩ ?_
            (repeat ((try (conv => whnf)); (first | (with_reducible refine condP_true ?_) | (with_reducible refine condP_false ?_) | (with_reducible refine condP_not ?_) | (with_reducible refine condP_and ?_) | ((with_reducible refine condP_dt ?_ ?_); (· omega)) | ((with_reducible refine condP_df ?_ ?_); (· omega)) | ((with_reducible refine condP_yes ?_ ?_); (· assumption)) | ((with_reducible refine condP_no ?_ ?_); (· assumption)) | ((with_reducible refine ArP_i64 ?_ ?_); (· omega)) | ((with_reducible refine mustP.mk ?_ ?_); (· first | omega | rfl | (dsimp only; omega))) | (with_reducible refine EqP_nil tab_ok ?_) | (with_reducible refine EqP_sli tab_ok ?_) | (with_reducible refine DrawP_auto tab_ok (by kernel_rfl) (by decide +kernel) ?_) | (with_reducible refine DrawP_auto2 tab_ok (by kernel_rfl) (by decide +kernel) ?_) | (with_reducible refine eq43 ?_) | (with_reducible refine eq55 ?_) | (with_reducible refine eq57 ?_) | (with_reducible refine eq93 ?_) | (with_reducible refine eq101 ?_) | (with_reducible refine eq116 ?_) | (with_reducible refine eq119 ?_))))
            conv => whnf
            refine ⟨d + 1, ⟨by omega, k4⟩, by omega, ?_⟩
            refine Le_move 7 4 rfl rfl rfl rfl ?_
            conv => whnf
            refine Le_head ?_
            conv => whnf
            refine Le_mk (by rfl) (by rfl) ?_ ?_
            · (repeat (first | (with_reducible exact frLe_nil) | (with_reducible refine frLe_any ?_) | (with_reducible refine frLe_val ?_) | ((with_reducible refine frLe_eq rfl ?_ ?_); (· rfl)) | ((with_reducible refine frLe_val' (int_eq ?_) ?_ ?_); (· omega); (· rfl)) | ((with_reducible refine frLe_val' (int_eq ?_) ?_ ?_); (· simp only [Int.natCast_add, Int.natCast_one, Int.natCast_ofNat] <;> omega); (· rfl)) | ((with_reducible refine frLe_val' (bool_eq ?_) ?_ ?_); (· first | assumption | (symm; assumption)); (· rfl))))
            · refine hpLe_own rfl rfl (hpLe_cells ?_ (hpLe_gone (hpLe_cells ?_ (hpLe_own ?_ ?_ hpLe_nil))))
              · (repeat (first | (with_reducible exact frLe_nil) | (with_reducible refine frLe_any ?_) | (with_reducible refine frLe_val ?_) | ((with_reducible refine frLe_eq rfl ?_ ?_); (· rfl)) | ((with_reducible refine frLe_val' (int_eq ?_) ?_ ?_); (· omega); (· rfl)) | ((with_reducible refine frLe_val' (int_eq ?_) ?_ ?_); (· simp only [Int.natCast_add, Int.natCast_one, Int.natCast_ofNat] <;> omega); (· rfl)) | ((with_reducible refine frLe_val' (bool_eq ?_) ?_ ?_); (· first | assumption | (symm; assumption)); (· rfl))))
              · (repeat (first | (with_reducible exact frLe_nil) | (with_reducible refine frLe_any ?_) | (with_reducible refine frLe_val ?_) | ((with_reducible refine frLe_eq rfl ?_ ?_); (· rfl)) | ((with_reducible refine frLe_val' (int_eq ?_) ?_ ?_); (· omega); (· rfl)) | ((with_reducible refine frLe_val' (int_eq ?_) ?_ ?_); (· simp only [Int.natCast_add, Int.natCast_one, Int.natCast_ofNat] <;> omega); (· rfl)) | ((with_reducible refine frLe_val' (bool_eq ?_) ?_ ?_); (· first | assumption | (symm; assumption)); (· rfl))))
              · rw [subPts, if_neg k4, List.length_append]
              · rw [subPts, if_neg k4, flatP_append]
        · obtain rfl : d = l - 1 := by omega
          have ed : ¬ (S (i0 + l - 1)).k = 4 := by rw [show i0 + l - 1 = i0 + (l - 1) by omega]; exact d2
          (repeat ((try (conv => whnf)); (first | (with_reducible refine condP_true ?_) | (with_reducible refine condP_false ?_) | (with_reducible refine condP_not ?_) | (with_reducible refine condP_and ?_) | ((with_reducible refine condP_dt ?_ ?_); (· omega)) | ((with_reducible refine condP_df ?_ ?_); (· omega)) | ((with_reducible refine condP_yes ?_ ?_); (· assumption)) | ((with_reducible refine condP_no ?_ ?_); (· assumption)) | ((with_reducible refine ArP_i64 ?_ ?_); (· omega)) | ((with_reducible refine mustP.mk ?_ ?_); (· first | omega | rfl | (dsimp only; omega))) | (with_reducible refine EqP_nil tab_ok ?_) | (with_reducible refine EqP_sli tab_ok ?_) | (with_reducible refine DrawP_auto tab_ok (by kernel_rfl) (by decide +kernel) ?_) | (with_reducible refine DrawP_auto2 tab_ok (by kernel_rfl) (by decide +kernel) ?_) | (with_reducible refine eq43 ?_) | (with_reducible refine eq55 ?_) | (with_reducible refine eq57 ?_) | (with_reducible refine eq93 ?_) | (with_reducible refine eq101 ?_) | (with_reducible refine eq116 ?_) | (with_reducible refine eq119 ?_))))
          conv => whnf
          refine OpP_freeze tab_ok 5 4 rfl rfl rfl rfl rfl rfl fun A2 c2 G2 z1 z2 z3 z4 => ?_
          (repeat ((try (conv => whnf)); (first | (with_reducible refine condP_true ?_) | (with_reducible refine condP_false ?_) | (with_reducible refine condP_not ?_) | (with_reducible refine condP_and ?_) | ((with_reducible refine condP_dt ?_ ?_); (· omega)) | ((with_reducible refine condP_df ?_ ?_); (· omega)) | ((with_reducible refine condP_yes ?_ ?_); (· assumption)) | ((with_reducible refine condP_no ?_ ?_); (· assumption)) | ((with_reducible refine ArP_i64 ?_ ?_); (· omega)) | ((with_reducible refine mustP.mk ?_ ?_); (· first | omega | rfl | (dsimp only; omega))) | (with_reducible refine EqP_nil tab_ok ?_) | (with_reducible refine EqP_sli tab_ok ?_) | (with_reducible refine DrawP_auto tab_ok (by kernel_rfl) (by decide +kernel) ?_) | (with_reducible refine DrawP_auto2 tab_ok (by kernel_rfl) (by decide +kernel) ?_) | (with_reducible refine eq43 ?_) | (with_reducible refine eq55 ?_) | (with_reducible refine eq57 ?_) | (with_reducible refine eq93 ?_) | (with_reducible refine eq101 ?_) | (with_reducible refine eq116 ?_) | (with_reducible refine eq119 ?_))))
          conv => whnf
          refine ⟨s.next A2 c2 G2, hnext A2 c2 G2 z1 (PtsM_flat z4), by show _ - (s.i + 1) < _; omega, ?_⟩
          refine Le_move 6 0 rfl rfl rfl rfl ?_
          conv => whnf
          ((refine Le_head ?_); (conv => whnf); (refine Le_mk (by rfl) (by rfl) ?_ ?_); (· (repeat (first | (with_reducible exact frLe_nil) | (with_reducible refine frLe_any ?_) | (with_reducible refine frLe_val ?_) | ((with_reducible refine frLe_eq rfl ?_ ?_); (· rfl)) | ((with_reducible refine frLe_val' (int_eq ?_) ?_ ?_); (· omega); (· rfl)) | ((with_reducible refine frLe_val' (int_eq ?_) ?_ ?_); (· simp only [Int.natCast_add, Int.natCast_one, Int.natCast_ofNat] <;> omega); (· rfl)) | ((with_reducible refine frLe_val' (bool_eq ?_) ?_ ?_); (· first | assumption | (symm; assumption)); (· rfl))))))
          refine hpLe_own rfl ?_ hpLe_nil
          show _ = flatC (lnV S n (s.next A2 c2 G2).a (s.next A2 c2 G2).q) (s.i + 1)
          rw [hcells, decide_eq_false ed]
    · have j2 : s.i = (rowL S n).length := by omega
      have fin := fun (G2 : Mem) (A2 : Option Addr) (hle : s.G.le G2) hF => hs.res (A := A2) j2 hle hF
      generalize (rowL S n).length = nr at *
      obtain ⟨i, G3, a, q⟩ := s
      dsimp only at *
      subst j2
      (repeat ((try (conv => whnf)); (first | (with_reducible refine condP_true ?_) | (with_reducible refine condP_false ?_) | (with_reducible refine condP_not ?_) | (with_reducible refine condP_and ?_) | ((with_reducible refine condP_dt ?_ ?_); (· omega)) | ((with_reducible refine condP_df ?_ ?_); (· omega)) | ((with_reducible refine condP_yes ?_ ?_); (· assumption)) | ((with_reducible refine condP_no ?_ ?_); (· assumption)) | ((with_reducible refine ArP_i64 ?_ ?_); (· omega)) | ((with_reducible refine mustP.mk ?_ ?_); (· first | omega | rfl | (dsimp only; omega))) | (with_reducible refine EqP_nil tab_ok ?_) | (with_reducible refine EqP_sli tab_ok ?_) | (with_reducible refine DrawP_auto tab_ok (by kernel_rfl) (by decide +kernel) ?_) | (with_reducible refine DrawP_auto2 tab_ok (by kernel_rfl) (by decide +kernel) ?_) | (with_reducible refine eq43 ?_) | (with_reducible refine eq55 ?_) | (with_reducible refine eq57 ?_) | (with_reducible refine eq93 ?_) | (with_reducible refine eq101 ?_) | (with_reducible refine eq116 ?_) | (with_reducible refine eq119 ?_))))
      conv => whnf
      refine .inl ⟨0, _, _, _, _, rfl, rfl, fun G2 A2 hle hF => ?_⟩
      exact fin G2 A2 hle hF
end
end Go.Proofs.Ytpgjbfbdappniaa
