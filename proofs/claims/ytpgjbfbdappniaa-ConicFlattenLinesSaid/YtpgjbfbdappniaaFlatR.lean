/-
  conic: the reference's Flat.
-/
import Derived.Test.YtpgjbfbdappniaaFlatC
namespace Go.Proofs.Ytpgjbfbdappniaa
open Go.RowKit
set_option linter.unusedVariables false
set_option maxRecDepth 20000
section
variable {c : Cv} {n : Nat} {G : Mem}
/-- The reference's. -/
theorem part_eq (c : Cv) (n k : Nat) : partB c n k = nearB (atX c k n) (atY c k n) (atX c (2 * k + 1) (2 * n)) (atY c (2 * k + 1) (2 * n)) (atX c (k + 1) n) (atY c (k + 1) n) := rfl
set_option maxHeartbeats 8000000 in
theorem Flat_gives {kd : Int} (hc : CvOk c) (hn : 1 ≤ n ∧ n ≤ 512) : Gives Try.prog 50 [ptA c.ax c.ay, segA kd c, .val (.int .i64 n)] G (.val (.bool (flatB c n))) := by
  refine Gives_of tab_ok Try.func50 ?_
  (repeat ((try (conv => whnf)); (first | (with_reducible refine condP_true ?_) | (with_reducible refine condP_false ?_) | (with_reducible refine condP_not ?_) | (with_reducible refine condP_and ?_) | ((with_reducible refine condP_dt ?_ ?_); (· omega)) | ((with_reducible refine condP_df ?_ ?_); (· omega)) | ((with_reducible refine condP_yes ?_ ?_); (· assumption)) | ((with_reducible refine condP_no ?_ ?_); (· assumption)) | ((with_reducible refine ArP_i64 ?_ ?_); (· omega)) | ((with_reducible refine mustP.mk ?_ ?_); (· first | omega | rfl | (dsimp only; omega))) | (with_reducible refine EqP_nil tab_ok ?_) | (with_reducible refine EqP_sli tab_ok ?_) | (with_reducible refine DrawP_auto tab_ok (by kernel_rfl) (by decide +kernel) ?_) | (with_reducible refine DrawP_auto2 tab_ok (by kernel_rfl) (by decide +kernel) ?_) | (with_reducible refine eq43 ?_) | (with_reducible refine eq55 ?_) | (with_reducible refine eq57 ?_) | (with_reducible refine eq93 ?_) | (with_reducible refine eq101 ?_) | (with_reducible refine eq116 ?_) | (with_reducible refine eq119 ?_))))
  conv => whnf
  refine LoopP_at tab_ok (fun k => k ≤ n ∧ ∀ j, j < k → partB c n j = true) (fun (k : Nat) => [(7, .val (.int .i64 k))]) (fun k => [.cells 55 [.val (.int .i64 c.ax), .val (.int .i64 c.ay)], .cells 57 [.val (.int .i64 kd), .val (.int .i64 c.cx), .val (.int .i64 c.cy), .val (.int .i64 c.bx), .val (.int .i64 c.by_), .val (.int .i64 c.w)]]) (fun k => n - k) 0 ⟨Nat.zero_le _, fun j hj => by omega⟩ ?_ ?_
  · ((refine Le_head ?_); (conv => whnf); (refine Le_mk (by rfl) (by rfl) ?_ ?_); (· (repeat (first | (with_reducible exact frLe_nil) | (with_reducible refine frLe_any ?_) | (with_reducible refine frLe_val ?_) | ((with_reducible refine frLe_eq rfl ?_ ?_); (· rfl)) | ((with_reducible refine frLe_val' (int_eq ?_) ?_ ?_); (· omega); (· rfl)) | ((with_reducible refine frLe_val' (int_eq ?_) ?_ ?_); (· simp only [Int.natCast_add, Int.natCast_one, Int.natCast_ofNat] <;> omega); (· rfl)) | ((with_reducible refine frLe_val' (bool_eq ?_) ?_ ?_); (· first | assumption | (symm; assumption)); (· rfl))))))
    exact hpLe_cells (by (repeat (first | (with_reducible exact frLe_nil) | (with_reducible refine frLe_any ?_) | (with_reducible refine frLe_val ?_) | ((with_reducible refine frLe_eq rfl ?_ ?_); (· rfl)) | ((with_reducible refine frLe_val' (int_eq ?_) ?_ ?_); (· omega); (· rfl)) | ((with_reducible refine frLe_val' (int_eq ?_) ?_ ?_); (· simp only [Int.natCast_add, Int.natCast_one, Int.natCast_ofNat] <;> omega); (· rfl)) | ((with_reducible refine frLe_val' (bool_eq ?_) ?_ ?_); (· first | assumption | (symm; assumption)); (· rfl))))) (hpLe_cells (by (repeat (first | (with_reducible exact frLe_nil) | (with_reducible refine frLe_any ?_) | (with_reducible refine frLe_val ?_) | ((with_reducible refine frLe_eq rfl ?_ ?_); (· rfl)) | ((with_reducible refine frLe_val' (int_eq ?_) ?_ ?_); (· omega); (· rfl)) | ((with_reducible refine frLe_val' (int_eq ?_) ?_ ?_); (· simp only [Int.natCast_add, Int.natCast_one, Int.natCast_ofNat] <;> omega); (· rfl)) | ((with_reducible refine frLe_val' (bool_eq ?_) ?_ ?_); (· first | assumption | (symm; assumption)); (· rfl))))) hpLe_nil)
  · rintro k ⟨hk, hall⟩
    rcases Nat.lt_or_ge k n with h1 | h1
    · have g1 := CurveAt_gives (G := G) (kd := kd) (k := k) (n := n) hc (by omega) (by omega)
      have g2 := CurveAt_gives (G := G) (kd := kd) (k := 2 * (k : Int) + 1) (n := 2 * (n : Int)) hc (by omega) (by omega)
      have g3 := CurveAt_gives (G := G) (kd := kd) (k := (k : Int) + 1) (n := n) hc (by omega) (by omega)
      obtain ⟨b1, b1'⟩ := at_bd (k := k) (n := n) hc (by omega) (by omega)
      obtain ⟨b2, b2'⟩ := at_bd (k := 2 * (k : Int) + 1) (n := 2 * (n : Int)) hc (by omega) (by omega)
      obtain ⟨b3, b3'⟩ := at_bd (k := (k : Int) + 1) (n := n) hc (by omega) (by omega)
      have hpe := part_eq c n k
      generalize atX c k n = ax at *
      generalize atY c k n = ay at *
      generalize atX c (2 * (k : Int) + 1) (2 * (n : Int)) = mx at *
      generalize atY c (2 * (k : Int) + 1) (2 * (n : Int)) = my at *
      generalize atX c ((k : Int) + 1) n = bx at *
      generalize atY c ((k : Int) + 1) n = by_ at *
      have p1 := absMulC (a := bx - ax) (b := my - ay) (A := 65534) (B := 65534) (by omega) (by omega)
      have p2 := absMulC (a := by_ - ay) (b := mx - ax) (A := 65534) (B := 65534) (by omega) (by omega)
      have e1 := distance_gives (G := G) (x := (bx - ax) * (my - ay) - (by_ - ay) * (mx - ax)) (by omega)
      have e2 := distance_gives (G := G) (x := bx - ax) (by omega)
      have e3 := distance_gives (G := G) (x := by_ - ay) (by omega)
      unfold nearB at hpe
      generalize iabs ((bx - ax) * (my - ay) - (by_ - ay) * (mx - ax)) = cr at *
      generalize iabs (bx - ax) = dxa at *
      generalize iabs (by_ - ay) = dya at *
      have no : partB c n k = false → flatB c n = false := fun h => flatB_no h1 h
      have yes : partB c n k = true → ∀ j, j < k + 1 → partB c n j = true := fun h j hj => by
        rcases Nat.lt_or_ge j k with h2 | h2
        · exact hall j h2
        · have : j = k := by omega
          subst this; exact h
      (repeat' ((try (conv => whnf)); (first | (with_reducible refine condP_true ?_) | (with_reducible refine condP_false ?_) | (with_reducible refine condP_not ?_) | (with_reducible refine condP_and ?_) | ((with_reducible refine condP_dt ?_ ?_); (· omega)) | ((with_reducible refine condP_df ?_ ?_); (· omega)) | ((with_reducible refine condP_yes ?_ ?_); (· assumption)) | ((with_reducible refine condP_no ?_ ?_); (· assumption)) | ((with_reducible refine ArP_i64 ?_ ?_); (· omega)) | ((with_reducible refine mustP.mk ?_ ?_); (· first | omega | rfl | (dsimp only; omega))) | (with_reducible refine EqP_nil tab_ok ?_) | (with_reducible refine EqP_sli tab_ok ?_) | (with_reducible refine DrawP_auto tab_ok (by kernel_rfl) (by decide +kernel) ?_) | (with_reducible refine DrawP_auto2 tab_ok (by kernel_rfl) (by decide +kernel) ?_) | (with_reducible refine eq43 ?_) | (with_reducible refine eq55 ?_) | (with_reducible refine eq57 ?_) | (with_reducible refine eq93 ?_) | (with_reducible refine eq101 ?_) | (with_reducible refine eq116 ?_) | (with_reducible refine eq119 ?_) | (with_reducible refine CallP_gives (fun vs w => by kernel_rfl) (by kernel_rfl) (g1) ?_) | (with_reducible refine RCallP_gives (fun vs w => by kernel_rfl) (by kernel_rfl) (g1) ?_) | (with_reducible refine CallP_gives (fun vs w => by kernel_rfl) (by kernel_rfl) (g2) ?_) | (with_reducible refine RCallP_gives (fun vs w => by kernel_rfl) (by kernel_rfl) (g2) ?_) | (with_reducible refine CallP_gives (fun vs w => by kernel_rfl) (by kernel_rfl) (g3) ?_) | (with_reducible refine RCallP_gives (fun vs w => by kernel_rfl) (by kernel_rfl) (g3) ?_) | (with_reducible refine CallP_gives (fun vs w => by kernel_rfl) (by kernel_rfl) (e1) ?_) | (with_reducible refine RCallP_gives (fun vs w => by kernel_rfl) (by kernel_rfl) (e1) ?_) | (with_reducible refine CallP_gives (fun vs w => by kernel_rfl) (by kernel_rfl) (e2) ?_) | (with_reducible refine RCallP_gives (fun vs w => by kernel_rfl) (by kernel_rfl) (e2) ?_) | (with_reducible refine CallP_gives (fun vs w => by kernel_rfl) (by kernel_rfl) (e3) ?_) | (with_reducible refine RCallP_gives (fun vs w => by kernel_rfl) (by kernel_rfl) (e3) ?_) | (with_reducible refine condP_dec (fun h0 => ?_) (fun h0 => ?_)))))
      all_goals
        first
        | (refine ⟨k + 1, ⟨by omega, yes (by rw [hpe, decide_eq_true (by omega), decide_eq_true (by omega)]; rfl)⟩, by omega, ?_⟩
           ((refine Le_head ?_); (conv => whnf); (refine Le_mk (by rfl) (by rfl) ?_ ?_); (· (repeat (first | (with_reducible exact frLe_nil) | (with_reducible refine frLe_any ?_) | (with_reducible refine frLe_val ?_) | ((with_reducible refine frLe_eq rfl ?_ ?_); (· rfl)) | ((with_reducible refine frLe_val' (int_eq ?_) ?_ ?_); (· omega); (· rfl)) | ((with_reducible refine frLe_val' (int_eq ?_) ?_ ?_); (· simp only [Int.natCast_add, Int.natCast_one, Int.natCast_ofNat] <;> omega); (· rfl)) | ((with_reducible refine frLe_val' (bool_eq ?_) ?_ ?_); (· first | assumption | (symm; assumption)); (· rfl))))))
           exact hpLe_cells (by (repeat (first | (with_reducible exact frLe_nil) | (with_reducible refine frLe_any ?_) | (with_reducible refine frLe_val ?_) | ((with_reducible refine frLe_eq rfl ?_ ?_); (· rfl)) | ((with_reducible refine frLe_val' (int_eq ?_) ?_ ?_); (· omega); (· rfl)) | ((with_reducible refine frLe_val' (int_eq ?_) ?_ ?_); (· simp only [Int.natCast_add, Int.natCast_one, Int.natCast_ofNat] <;> omega); (· rfl)) | ((with_reducible refine frLe_val' (bool_eq ?_) ?_ ?_); (· first | assumption | (symm; assumption)); (· rfl))))) (hpLe_cells (by (repeat (first | (with_reducible exact frLe_nil) | (with_reducible refine frLe_any ?_) | (with_reducible refine frLe_val ?_) | ((with_reducible refine frLe_eq rfl ?_ ?_); (· rfl)) | ((with_reducible refine frLe_val' (int_eq ?_) ?_ ?_); (· omega); (· rfl)) | ((with_reducible refine frLe_val' (int_eq ?_) ?_ ?_); (· simp only [Int.natCast_add, Int.natCast_one, Int.natCast_ofNat] <;> omega); (· rfl)) | ((with_reducible refine frLe_val' (bool_eq ?_) ?_ ?_); (· first | assumption | (symm; assumption)); (· rfl))))) hpLe_nil))
        | (have hno := no (by rw [hpe]; first | rw [decide_eq_false (by omega), Bool.false_and] | rw [show decide (cr ≤ max (max dxa dya) 1) = false from decide_eq_false (by omega), Bool.and_false])
           exact ⟨by rw [hno], rfl⟩)
    · (repeat ((try (conv => whnf)); (first | (with_reducible refine condP_true ?_) | (with_reducible refine condP_false ?_) | (with_reducible refine condP_not ?_) | (with_reducible refine condP_and ?_) | ((with_reducible refine condP_dt ?_ ?_); (· omega)) | ((with_reducible refine condP_df ?_ ?_); (· omega)) | ((with_reducible refine condP_yes ?_ ?_); (· assumption)) | ((with_reducible refine condP_no ?_ ?_); (· assumption)) | ((with_reducible refine ArP_i64 ?_ ?_); (· omega)) | ((with_reducible refine mustP.mk ?_ ?_); (· first | omega | rfl | (dsimp only; omega))) | (with_reducible refine EqP_nil tab_ok ?_) | (with_reducible refine EqP_sli tab_ok ?_) | (with_reducible refine DrawP_auto tab_ok (by kernel_rfl) (by decide +kernel) ?_) | (with_reducible refine DrawP_auto2 tab_ok (by kernel_rfl) (by decide +kernel) ?_) | (with_reducible refine eq43 ?_) | (with_reducible refine eq55 ?_) | (with_reducible refine eq57 ?_) | (with_reducible refine eq93 ?_) | (with_reducible refine eq101 ?_) | (with_reducible refine eq116 ?_) | (with_reducible refine eq119 ?_))))
      exact ⟨by rw [flatB_yes fun j hj => hall j (by omega)], rfl⟩
end
end Go.Proofs.Ytpgjbfbdappniaa
