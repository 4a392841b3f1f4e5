/-
  ConicFlattenLines: the law's walk.
-/
import Derived.Test.YtpgjbfbdappniaaFlatten3
import Derived.Test.YtpgjbfbdappniaaCurves
import Derived.Test.YtpgjbfbdappniaaSegMem
namespace Go.Proofs.Ytpgjbfbdappniaa.conicFlattenLines
open Go.RowKit
set_option linter.unusedVariables false
set_option maxRecDepth 20000
section
variable {G : Mem} {A : Option Addr} {n c : Nat} {S : Nat → SegD}
set_option maxHeartbeats 4000000 in
theorem Flatten_err (h : SegsM G A n S) (hn : n ≤ maxLen) (he : pathE S n ≠ 0) : Gives Try.prog 7 [.val (.slice A n c)] G (.tup [.val (.slice none 0 0), .val (.int .i64 (pathE S n))]) := by
  have g0 := PCheck_gives (c := c) h hn
  generalize pathE S n = E at *
  refine Gives_of tab_ok Try.func7 ?_
  (repeat ((try (conv => whnf)); (first | (with_reducible refine condP_true ?_) | (with_reducible refine condP_false ?_) | (with_reducible refine condP_not ?_) | (with_reducible refine condP_and ?_) | ((with_reducible refine condP_dt ?_ ?_); (· omega)) | ((with_reducible refine condP_df ?_ ?_); (· omega)) | ((with_reducible refine condP_yes ?_ ?_); (· assumption)) | ((with_reducible refine condP_no ?_ ?_); (· assumption)) | ((with_reducible refine ArP_i64 ?_ ?_); (· omega)) | ((with_reducible refine mustP.mk ?_ ?_); (· first | omega | rfl | (dsimp only; omega))) | (with_reducible refine EqP_nil tab_ok ?_) | (with_reducible refine EqP_sli tab_ok ?_) | (with_reducible refine DrawP_auto tab_ok (by kernel_rfl) (by decide +kernel) ?_) | (with_reducible refine DrawP_auto2 tab_ok (by kernel_rfl) (by decide +kernel) ?_) | (with_reducible refine eq43 ?_) | (with_reducible refine eq55 ?_) | (with_reducible refine eq57 ?_) | (with_reducible refine eq93 ?_) | (with_reducible refine eq101 ?_) | (with_reducible refine eq116 ?_) | (with_reducible refine eq119 ?_) | (with_reducible refine CallP_gives (fun vs w => by kernel_rfl) (by kernel_rfl) (g0) ?_) | (with_reducible refine RCallP_gives (fun vs w => by kernel_rfl) (by kernel_rfl) (g0) ?_))))
  exact ⟨rfl, rfl⟩
theorem rows_few (hn : n ≤ 12) (he : pathE S n = 0) {j : Nat} (hj : j < (rowL S n).length) : (lnP S n j).length ≤ 1000000 := by
  have h1 := rowG_sub (errS_first he) hj
  have h2 := h1.le
  have h3 := subPts_len S (rowG S n j).1 ((rowG S n j).2 - 1)
  show (subPts S (rowG S n j).1 ((rowG S n j).2 - 1)).length ≤ _
  omega
end
set_option maxHeartbeats 8000000 in
/-- The law, of a path that is short or was cut. -/
theorem short {A : Option Addr} {n c : Nat} {S : Nat → SegD} {G : Mem} (h : SegsM G A n S) (hn : n ≤ 12) (hc : n ≤ c) (hm : c ≤ maxLen) :
    bodyV Try.prog tab 0 Try.f3 [.val (.slice A n c)] [] G fun v _ _ => v = .val (.bool true) := by
  have hm' : n ≤ maxLen := by unfold maxLen; omega
  have cu := curves_gives (G := G)
  by_cases ht : pathE S n = 0
  · have mk := Flatten_makes h hn hc hm ht
    have hrl := rowL_len (S := S) n
    have hfew := fun (j : Nat) (hj : j < (rowL S n).length) => rows_few hn ht hj
    (repeat ((try (conv => whnf)); (first | (with_reducible refine condP_true ?_) | (with_reducible refine condP_false ?_) | (with_reducible refine condP_not ?_) | (with_reducible refine condP_and ?_) | ((with_reducible refine condP_dt ?_ ?_); (· omega)) | ((with_reducible refine condP_df ?_ ?_); (· omega)) | ((with_reducible refine condP_yes ?_ ?_); (· assumption)) | ((with_reducible refine condP_no ?_ ?_); (· assumption)) | ((with_reducible refine ArP_i64 ?_ ?_); (· omega)) | ((with_reducible refine mustP.mk ?_ ?_); (· first | omega | rfl | (dsimp only; omega))) | (with_reducible refine EqP_nil tab_ok ?_) | (with_reducible refine EqP_sli tab_ok ?_) | (with_reducible refine DrawP_auto tab_ok (by kernel_rfl) (by decide +kernel) ?_) | (with_reducible refine DrawP_auto2 tab_ok (by kernel_rfl) (by decide +kernel) ?_) | (with_reducible refine eq43 ?_) | (with_reducible refine eq55 ?_) | (with_reducible refine eq57 ?_) | (with_reducible refine eq93 ?_) | (with_reducible refine eq101 ?_) | (with_reducible refine eq116 ?_) | (with_reducible refine eq119 ?_) | (with_reducible refine CallP_gives (fun vs w => by kernel_rfl) (by kernel_rfl) (cu) ?_) | (with_reducible refine RCallP_gives (fun vs w => by kernel_rfl) (by kernel_rfl) (cu) ?_))))
    conv => whnf
    refine CallP_makesF (fun vs w => by kernel_rfl) (pairP_wraps 0) (by kernel_rfl) mk fun A1 n1 c1 G1 hG1 hc1 hm1 hr1 => ?_
    have gp := RPCheck_gives (c := c) (h.mono hG1) hm'
    rw [ht] at gp
    have mk2 := Flattened_makes (h.mono hG1) hn hc hm ht
    obtain ⟨rfl, a1, q1, k1⟩ := hr1
    (repeat ((try (conv => whnf)); (first | (with_reducible refine condP_true ?_) | (with_reducible refine condP_false ?_) | (with_reducible refine condP_not ?_) | (with_reducible refine condP_and ?_) | ((with_reducible refine condP_dt ?_ ?_); (· omega)) | ((with_reducible refine condP_df ?_ ?_); (· omega)) | ((with_reducible refine condP_yes ?_ ?_); (· assumption)) | ((with_reducible refine condP_no ?_ ?_); (· assumption)) | ((with_reducible refine ArP_i64 ?_ ?_); (· omega)) | ((with_reducible refine mustP.mk ?_ ?_); (· first | omega | rfl | (dsimp only; omega))) | (with_reducible refine EqP_nil tab_ok ?_) | (with_reducible refine EqP_sli tab_ok ?_) | (with_reducible refine DrawP_auto tab_ok (by kernel_rfl) (by decide +kernel) ?_) | (with_reducible refine DrawP_auto2 tab_ok (by kernel_rfl) (by decide +kernel) ?_) | (with_reducible refine eq43 ?_) | (with_reducible refine eq55 ?_) | (with_reducible refine eq57 ?_) | (with_reducible refine eq93 ?_) | (with_reducible refine eq101 ?_) | (with_reducible refine eq116 ?_) | (with_reducible refine eq119 ?_) | (with_reducible refine CallP_gives (fun vs w => by kernel_rfl) (by kernel_rfl) (gp) ?_) | (with_reducible refine RCallP_gives (fun vs w => by kernel_rfl) (by kernel_rfl) (gp) ?_))))
    conv => whnf
    refine CallP_makesF (fun vs w => by kernel_rfl) (.alone fun _ => rfl) (by kernel_rfl) mk2 fun A2 n2 c2 G2 hG2 hc2 hm2 hr2 => ?_
    obtain ⟨rfl, a2, q2, k2⟩ := hr2
    have k3 : LnsM G2 A1 (rowL S n).length (lnP S n) (lnC S n) a1 q1 := ⟨k1.rows.mono hG2, fun i hi => (k1.pts i hi).mono hG2⟩
    have gs := SameLines_gives (c := c1) (d := c2) k3 k2 (by omega) hfew
    clear mk mk2
    (repeat ((try (conv => whnf)); (first | (with_reducible refine condP_true ?_) | (with_reducible refine condP_false ?_) | (with_reducible refine condP_not ?_) | (with_reducible refine condP_and ?_) | ((with_reducible refine condP_dt ?_ ?_); (· omega)) | ((with_reducible refine condP_df ?_ ?_); (· omega)) | ((with_reducible refine condP_yes ?_ ?_); (· assumption)) | ((with_reducible refine condP_no ?_ ?_); (· assumption)) | ((with_reducible refine ArP_i64 ?_ ?_); (· omega)) | ((with_reducible refine mustP.mk ?_ ?_); (· first | omega | rfl | (dsimp only; omega))) | (with_reducible refine EqP_nil tab_ok ?_) | (with_reducible refine EqP_sli tab_ok ?_) | (with_reducible refine DrawP_auto tab_ok (by kernel_rfl) (by decide +kernel) ?_) | (with_reducible refine DrawP_auto2 tab_ok (by kernel_rfl) (by decide +kernel) ?_) | (with_reducible refine eq43 ?_) | (with_reducible refine eq55 ?_) | (with_reducible refine eq57 ?_) | (with_reducible refine eq93 ?_) | (with_reducible refine eq101 ?_) | (with_reducible refine eq116 ?_) | (with_reducible refine eq119 ?_) | (with_reducible refine CallP_gives (fun vs w => by kernel_rfl) (by kernel_rfl) (gs) ?_) | (with_reducible refine RCallP_gives (fun vs w => by kernel_rfl) (by kernel_rfl) (gs) ?_))))
    conv => whnf
    try simp
  · have g1 := Flatten_err (c := c) h hm' ht
    have g2 := RPCheck_gives (c := c) h hm'
    generalize pathE S n = E at *
    (repeat ((try (conv => whnf)); (first | (with_reducible refine condP_true ?_) | (with_reducible refine condP_false ?_) | (with_reducible refine condP_not ?_) | (with_reducible refine condP_and ?_) | ((with_reducible refine condP_dt ?_ ?_); (· omega)) | ((with_reducible refine condP_df ?_ ?_); (· omega)) | ((with_reducible refine condP_yes ?_ ?_); (· assumption)) | ((with_reducible refine condP_no ?_ ?_); (· assumption)) | ((with_reducible refine ArP_i64 ?_ ?_); (· omega)) | ((with_reducible refine mustP.mk ?_ ?_); (· first | omega | rfl | (dsimp only; omega))) | (with_reducible refine EqP_nil tab_ok ?_) | (with_reducible refine EqP_sli tab_ok ?_) | (with_reducible refine DrawP_auto tab_ok (by kernel_rfl) (by decide +kernel) ?_) | (with_reducible refine DrawP_auto2 tab_ok (by kernel_rfl) (by decide +kernel) ?_) | (with_reducible refine eq43 ?_) | (with_reducible refine eq55 ?_) | (with_reducible refine eq57 ?_) | (with_reducible refine eq93 ?_) | (with_reducible refine eq101 ?_) | (with_reducible refine eq116 ?_) | (with_reducible refine eq119 ?_) | (with_reducible refine CallP_gives (fun vs w => by kernel_rfl) (by kernel_rfl) (cu) ?_) | (with_reducible refine RCallP_gives (fun vs w => by kernel_rfl) (by kernel_rfl) (cu) ?_) | (with_reducible refine CallP_gives (fun vs w => by kernel_rfl) (by kernel_rfl) (g1) ?_) | (with_reducible refine RCallP_gives (fun vs w => by kernel_rfl) (by kernel_rfl) (g1) ?_) | (with_reducible refine CallP_gives (fun vs w => by kernel_rfl) (by kernel_rfl) (g2) ?_) | (with_reducible refine RCallP_gives (fun vs w => by kernel_rfl) (by kernel_rfl) (g2) ?_))))
    conv => whnf
    try simp
set_option maxHeartbeats 8000000 in
theorem long {A : Option Addr} {n c : Nat} {S : Nat → SegD} {G : Mem} (h : SegsM G A n S) (hn : 12 < n) (hc : n ≤ c) (hm : c ≤ maxLen) :
    bodyV Try.prog tab 0 Try.f3 [.val (.slice A n c)] [] G fun v _ _ => v = .val (.bool true) := by
  have hm' : 12 ≤ maxLen := by unfold maxLen; omega
  have cu := curves_gives (G := G)
  obtain ⟨pb, po, rfl, _⟩ := h.at_ 0 (by omega)
  have h := h.less (k := 12) (by omega)
  have hcz : ¬ c = 0 := by omega
  by_cases ht : pathE S 12 = 0
  · have mk := Flatten_makes h (by omega) (Nat.le_trans (Nat.le_of_lt hn) hc) hm ht
    have hrl := rowL_len (S := S) 12
    have hfew := fun (j : Nat) (hj : j < (rowL S 12).length) => rows_few (Nat.le_refl _) ht hj
    (repeat ((try (conv => whnf)); (first | (with_reducible refine condP_true ?_) | (with_reducible refine condP_false ?_) | (with_reducible refine condP_not ?_) | (with_reducible refine condP_and ?_) | ((with_reducible refine condP_dt ?_ ?_); (· omega)) | ((with_reducible refine condP_df ?_ ?_); (· omega)) | ((with_reducible refine condP_yes ?_ ?_); (· assumption)) | ((with_reducible refine condP_no ?_ ?_); (· assumption)) | ((with_reducible refine ArP_i64 ?_ ?_); (· omega)) | ((with_reducible refine mustP.mk ?_ ?_); (· first | omega | rfl | (dsimp only; omega))) | (with_reducible refine EqP_nil tab_ok ?_) | (with_reducible refine EqP_sli tab_ok ?_) | (with_reducible refine DrawP_auto tab_ok (by kernel_rfl) (by decide +kernel) ?_) | (with_reducible refine DrawP_auto2 tab_ok (by kernel_rfl) (by decide +kernel) ?_) | (with_reducible refine eq43 ?_) | (with_reducible refine eq55 ?_) | (with_reducible refine eq57 ?_) | (with_reducible refine eq93 ?_) | (with_reducible refine eq101 ?_) | (with_reducible refine eq116 ?_) | (with_reducible refine eq119 ?_) | (with_reducible refine CallP_gives (fun vs w => by kernel_rfl) (by kernel_rfl) (cu) ?_) | (with_reducible refine RCallP_gives (fun vs w => by kernel_rfl) (by kernel_rfl) (cu) ?_))))
    conv => whnf
    split
    · rename_i hx
      exact absurd (show c = 0 from hx) hcz
    have e0 : (⟨pb, po, none⟩ : Addr).add 0 = ⟨pb, po, none⟩ := by rw [addr_add, Nat.add_zero]
    simp only [Option.map_some, Int.toNat_natCast, Nat.zero_mul, e0, Nat.sub_zero, show Int.toNat 12 = 12 from rfl]
    refine CallP_makesF (fun vs w => by kernel_rfl) (pairP_wraps 0) (by kernel_rfl) mk fun A1 n1 c1 G1 hG1 hc1 hm1 hr1 => ?_
    have gp := RPCheck_gives (c := c) (h.mono hG1) hm'
    rw [ht] at gp
    have mk2 := Flattened_makes (h.mono hG1) (Nat.le_refl _) (Nat.le_trans (Nat.le_of_lt hn) hc) hm ht
    obtain ⟨rfl, a1, q1, k1⟩ := hr1
    (repeat ((try (conv => whnf)); (first | (with_reducible refine condP_true ?_) | (with_reducible refine condP_false ?_) | (with_reducible refine condP_not ?_) | (with_reducible refine condP_and ?_) | ((with_reducible refine condP_dt ?_ ?_); (· omega)) | ((with_reducible refine condP_df ?_ ?_); (· omega)) | ((with_reducible refine condP_yes ?_ ?_); (· assumption)) | ((with_reducible refine condP_no ?_ ?_); (· assumption)) | ((with_reducible refine ArP_i64 ?_ ?_); (· omega)) | ((with_reducible refine mustP.mk ?_ ?_); (· first | omega | rfl | (dsimp only; omega))) | (with_reducible refine EqP_nil tab_ok ?_) | (with_reducible refine EqP_sli tab_ok ?_) | (with_reducible refine DrawP_auto tab_ok (by kernel_rfl) (by decide +kernel) ?_) | (with_reducible refine DrawP_auto2 tab_ok (by kernel_rfl) (by decide +kernel) ?_) | (with_reducible refine eq43 ?_) | (with_reducible refine eq55 ?_) | (with_reducible refine eq57 ?_) | (with_reducible refine eq93 ?_) | (with_reducible refine eq101 ?_) | (with_reducible refine eq116 ?_) | (with_reducible refine eq119 ?_) | (with_reducible refine CallP_gives (fun vs w => by kernel_rfl) (by kernel_rfl) (gp) ?_) | (with_reducible refine RCallP_gives (fun vs w => by kernel_rfl) (by kernel_rfl) (gp) ?_))))
    conv => whnf
    refine CallP_makesF (fun vs w => by kernel_rfl) (.alone fun _ => rfl) (by kernel_rfl) mk2 fun A2 n2 c2 G2 hG2 hc2 hm2 hr2 => ?_
    obtain ⟨rfl, a2, q2, k2⟩ := hr2
    have k3 : LnsM G2 A1 (rowL S 12).length (lnP S 12) (lnC S 12) a1 q1 := ⟨k1.rows.mono hG2, fun i hi => (k1.pts i hi).mono hG2⟩
    have gs := SameLines_gives (c := c1) (d := c2) k3 k2 (by omega) hfew
    clear mk mk2
    (repeat ((try (conv => whnf)); (first | (with_reducible refine condP_true ?_) | (with_reducible refine condP_false ?_) | (with_reducible refine condP_not ?_) | (with_reducible refine condP_and ?_) | ((with_reducible refine condP_dt ?_ ?_); (· omega)) | ((with_reducible refine condP_df ?_ ?_); (· omega)) | ((with_reducible refine condP_yes ?_ ?_); (· assumption)) | ((with_reducible refine condP_no ?_ ?_); (· assumption)) | ((with_reducible refine ArP_i64 ?_ ?_); (· omega)) | ((with_reducible refine mustP.mk ?_ ?_); (· first | omega | rfl | (dsimp only; omega))) | (with_reducible refine EqP_nil tab_ok ?_) | (with_reducible refine EqP_sli tab_ok ?_) | (with_reducible refine DrawP_auto tab_ok (by kernel_rfl) (by decide +kernel) ?_) | (with_reducible refine DrawP_auto2 tab_ok (by kernel_rfl) (by decide +kernel) ?_) | (with_reducible refine eq43 ?_) | (with_reducible refine eq55 ?_) | (with_reducible refine eq57 ?_) | (with_reducible refine eq93 ?_) | (with_reducible refine eq101 ?_) | (with_reducible refine eq116 ?_) | (with_reducible refine eq119 ?_) | (with_reducible refine CallP_gives (fun vs w => by kernel_rfl) (by kernel_rfl) (gs) ?_) | (with_reducible refine RCallP_gives (fun vs w => by kernel_rfl) (by kernel_rfl) (gs) ?_))))
    conv => whnf
    try simp
  · have g1 := Flatten_err (c := c) h hm' ht
    have g2 := RPCheck_gives (c := c) h hm'
    generalize pathE S 12 = E at *
    (repeat ((try (conv => whnf)); (first | (with_reducible refine condP_true ?_) | (with_reducible refine condP_false ?_) | (with_reducible refine condP_not ?_) | (with_reducible refine condP_and ?_) | ((with_reducible refine condP_dt ?_ ?_); (· omega)) | ((with_reducible refine condP_df ?_ ?_); (· omega)) | ((with_reducible refine condP_yes ?_ ?_); (· assumption)) | ((with_reducible refine condP_no ?_ ?_); (· assumption)) | ((with_reducible refine ArP_i64 ?_ ?_); (· omega)) | ((with_reducible refine mustP.mk ?_ ?_); (· first | omega | rfl | (dsimp only; omega))) | (with_reducible refine EqP_nil tab_ok ?_) | (with_reducible refine EqP_sli tab_ok ?_) | (with_reducible refine DrawP_auto tab_ok (by kernel_rfl) (by decide +kernel) ?_) | (with_reducible refine DrawP_auto2 tab_ok (by kernel_rfl) (by decide +kernel) ?_) | (with_reducible refine eq43 ?_) | (with_reducible refine eq55 ?_) | (with_reducible refine eq57 ?_) | (with_reducible refine eq93 ?_) | (with_reducible refine eq101 ?_) | (with_reducible refine eq116 ?_) | (with_reducible refine eq119 ?_) | (with_reducible refine CallP_gives (fun vs w => by kernel_rfl) (by kernel_rfl) (cu) ?_) | (with_reducible refine RCallP_gives (fun vs w => by kernel_rfl) (by kernel_rfl) (cu) ?_))))
    conv => whnf
    split
    · rename_i hx
      exact absurd (show c = 0 from hx) hcz
    have e0 : (⟨pb, po, none⟩ : Addr).add 0 = ⟨pb, po, none⟩ := by rw [addr_add, Nat.add_zero]
    simp only [Option.map_some, Int.toNat_natCast, Nat.zero_mul, e0, Nat.sub_zero, show Int.toNat 12 = 12 from rfl]
    (repeat ((try (conv => whnf)); (first | (with_reducible refine condP_true ?_) | (with_reducible refine condP_false ?_) | (with_reducible refine condP_not ?_) | (with_reducible refine condP_and ?_) | ((with_reducible refine condP_dt ?_ ?_); (· omega)) | ((with_reducible refine condP_df ?_ ?_); (· omega)) | ((with_reducible refine condP_yes ?_ ?_); (· assumption)) | ((with_reducible refine condP_no ?_ ?_); (· assumption)) | ((with_reducible refine ArP_i64 ?_ ?_); (· omega)) | ((with_reducible refine mustP.mk ?_ ?_); (· first | omega | rfl | (dsimp only; omega))) | (with_reducible refine EqP_nil tab_ok ?_) | (with_reducible refine EqP_sli tab_ok ?_) | (with_reducible refine DrawP_auto tab_ok (by kernel_rfl) (by decide +kernel) ?_) | (with_reducible refine DrawP_auto2 tab_ok (by kernel_rfl) (by decide +kernel) ?_) | (with_reducible refine eq43 ?_) | (with_reducible refine eq55 ?_) | (with_reducible refine eq57 ?_) | (with_reducible refine eq93 ?_) | (with_reducible refine eq101 ?_) | (with_reducible refine eq116 ?_) | (with_reducible refine eq119 ?_) | (with_reducible refine CallP_gives (fun vs w => by kernel_rfl) (by kernel_rfl) (g1) ?_) | (with_reducible refine RCallP_gives (fun vs w => by kernel_rfl) (by kernel_rfl) (g1) ?_) | (with_reducible refine CallP_gives (fun vs w => by kernel_rfl) (by kernel_rfl) (g2) ?_) | (with_reducible refine RCallP_gives (fun vs w => by kernel_rfl) (by kernel_rfl) (g2) ?_))))
    conv => whnf
    try simp
theorem walk (A0 : Option Addr) (n0 : Nat) (cap0 : Nat) (f0 : Nat → Nat → Int) (w : World) (c0 : n0 ≤ cap0) (m0 : cap0 ≤ maxLen) (w0 : RecsAt .i64 w A0 n0 6 f0) (z0 : RecsIn .i64 n0 6 f0) :
    Calls Try.prog 3 #[.slice A0 n0 cap0] w fun e w' => e = .returned (.bool true) ∧ Below w.heap.size w w' := by
  refine walk_of tab_ok Try.func3 (rels_map_val (β := noName) [.slice A0 n0 cap0]) ?_
  by_cases hn : n0 ≤ 12
  · exact short (segs_m w0) hn c0 m0
  · exact long (segs_m w0) (by omega) c0 m0
end Go.Proofs.Ytpgjbfbdappniaa.conicFlattenLines
