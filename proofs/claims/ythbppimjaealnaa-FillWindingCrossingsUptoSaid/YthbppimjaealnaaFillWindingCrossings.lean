/-
  FillWindingCrossings: the law's walk (the second form: the bulk is bounded).
-/
import Derived.Test.YthbppimjaealnaaFills
import Derived.Test.YthbppimjaealnaaRWind
import Derived.Test.YthbppimjaealnaaBulk
namespace Go.Proofs.Ythbppimjaealnaa.fillWindingCrossings
open Go.RowKit
set_option linter.unusedVariables false
set_option maxRecDepth 20000
theorem Permitted_gives {x y : Int} {G : Mem} : Gives Try.prog 12 [.val (.int .i64 x), .val (.int .i64 y)] G (.val (.bool (decide ((-8192 ≤ x ∧ x ≤ 8191) ∧ (-8192 ≤ y ∧ y ≤ 8191))))) := by
  refine Gives_of tab_ok Try.func12 ?_
  (repeat' ((try (conv => whnf)); (first | (with_reducible refine condP_true ?_) | (with_reducible refine condP_false ?_) | (with_reducible refine condP_not ?_) | (with_reducible refine condP_and ?_) | ((with_reducible refine condP_dt ?_ ?_); (· omega)) | ((with_reducible refine condP_df ?_ ?_); (· omega)) | ((with_reducible refine condP_yes ?_ ?_); (· assumption)) | ((with_reducible refine condP_no ?_ ?_); (· assumption)) | ((with_reducible refine ArP_i64 ?_ ?_); (· omega)) | ((with_reducible refine mustP.mk ?_ ?_); (· first | omega | rfl | (dsimp only; omega))) | (with_reducible refine EqP_nil tab_ok ?_) | (with_reducible refine EqP_sli tab_ok ?_) | (with_reducible refine DrawP_auto tab_ok (by kernel_rfl) (by decide +kernel) ?_) | (with_reducible refine DrawP_auto2 tab_ok (by kernel_rfl) (by decide +kernel) ?_) | (with_reducible refine eq55 ?_) | (with_reducible refine eq70 ?_) | (with_reducible refine eq73 ?_) | (with_reducible refine eq79 ?_) | (with_reducible refine eq112 ?_) | (with_reducible refine eq118 ?_) | (with_reducible refine eq124 ?_) | (with_reducible refine eq139 ?_) | (with_reducible refine eq142 ?_) | (with_reducible refine CallP_enter tab_ok Try.func25 (fun vs w => by kernel_rfl) (by rfl) ?_) | (with_reducible refine condP_dec (fun h0 => ?_) (fun h0 => ?_)))))
  all_goals ((conv => whnf); first | exact ⟨by rw [decide_eq_false (show ¬ ((-8192 ≤ x ∧ x ≤ 8191) ∧ (-8192 ≤ y ∧ y ≤ 8191)) by omega)], rfl⟩ | exact ⟨by rw [decide_eq_true (show ((-8192 ≤ x ∧ x ≤ 8191) ∧ (-8192 ≤ y ∧ y ≤ 8191)) by omega)], rfl⟩ | exact ⟨by rw [AV.val.injEq, Value.bool.injEq]; apply decide_eq_decide.2; omega, rfl⟩)
theorem cnt_sum {L : Nat → LineD} : ∀ n, cntN L n = sumN (fun x => (L x).n) n
  | 0 => rfl
  | n + 1 => by rw [cntN, sumN, cnt_sum n]
set_option maxHeartbeats 4000000 in
theorem body {A : Option Addr} {n q : Nat} {G : Mem} {L : Nat → LineD} {x y : Int} (hL : LinesM G A n L) (hn : n ≤ q ∧ q ≤ maxLen) (hcnt : cntN L n ≤ 1048576) :
    bodyV Try.prog tab 0 Try.f3 [.val (.slice A n q), .val (.int .i64 x), .val (.int .i64 y)] [] G fun v _ _ => v = .val (.bool true) := by
  have hn1 : n ≤ maxLen := Nat.le_trans hn.1 hn.2
  have hc := LinesCheck_gives (c := q) hL hn1
  have hp := Permitted_gives (x := x) (y := y) (G := G)
  unfold linesE at hc
  cases hb : linesB L n
  · have h1 := Winding_err (c := q) (x := x) (y := y) hL hn1 (by unfold windE; rw [hb]; simp)
    have e : windE L n x y = 3 := by unfold windE; rw [hb]; simp
    rw [e] at h1
    rw [hb, if_neg (by simp)] at hc
    (repeat ((try (conv => whnf)); (first | (with_reducible refine condP_true ?_) | (with_reducible refine condP_false ?_) | (with_reducible refine condP_not ?_) | (with_reducible refine condP_and ?_) | ((with_reducible refine condP_dt ?_ ?_); (· omega)) | ((with_reducible refine condP_df ?_ ?_); (· omega)) | ((with_reducible refine condP_yes ?_ ?_); (· assumption)) | ((with_reducible refine condP_no ?_ ?_); (· assumption)) | ((with_reducible refine ArP_i64 ?_ ?_); (· omega)) | ((with_reducible refine mustP.mk ?_ ?_); (· first | omega | rfl | (dsimp only; omega))) | (with_reducible refine EqP_nil tab_ok ?_) | (with_reducible refine EqP_sli tab_ok ?_) | (with_reducible refine DrawP_auto tab_ok (by kernel_rfl) (by decide +kernel) ?_) | (with_reducible refine DrawP_auto2 tab_ok (by kernel_rfl) (by decide +kernel) ?_) | (with_reducible refine eq55 ?_) | (with_reducible refine eq70 ?_) | (with_reducible refine eq73 ?_) | (with_reducible refine eq79 ?_) | (with_reducible refine eq112 ?_) | (with_reducible refine eq118 ?_) | (with_reducible refine eq124 ?_) | (with_reducible refine eq139 ?_) | (with_reducible refine eq142 ?_) | (with_reducible refine CallP_gives (fun vs w => by kernel_rfl) (by kernel_rfl) (fills_gives) ?_) | (with_reducible refine RCallP_gives (fun vs w => by kernel_rfl) (by kernel_rfl) (fills_gives) ?_) | (with_reducible refine CallP_gives (fun vs w => by kernel_rfl) (by kernel_rfl) (h1) ?_) | (with_reducible refine RCallP_gives (fun vs w => by kernel_rfl) (by kernel_rfl) (h1) ?_) | (with_reducible refine CallP_gives (fun vs w => by kernel_rfl) (by kernel_rfl) (hc) ?_) | (with_reducible refine RCallP_gives (fun vs w => by kernel_rfl) (by kernel_rfl) (hc) ?_) | (with_reducible refine CallP_gives (fun vs w => by kernel_rfl) (by kernel_rfl) (hp) ?_) | (with_reducible refine RCallP_gives (fun vs w => by kernel_rfl) (by kernel_rfl) (hp) ?_))))
    conv => whnf
    try simp
  · rw [hb, if_pos rfl] at hc
    by_cases hr : (-8192 ≤ x ∧ x ≤ 8191) ∧ (-8192 ≤ y ∧ y ≤ 8191)
    · have h1 := Winding_gives (c := q) hL hn1 hb hcnt hr.1 hr.2
      have h2 := RWinding_gives (c := q) hL hn1 hb hcnt hr.1 hr.2
      rw [decide_eq_true hr] at hp
      (repeat ((try (conv => whnf)); (first | (with_reducible refine condP_true ?_) | (with_reducible refine condP_false ?_) | (with_reducible refine condP_not ?_) | (with_reducible refine condP_and ?_) | ((with_reducible refine condP_dt ?_ ?_); (· omega)) | ((with_reducible refine condP_df ?_ ?_); (· omega)) | ((with_reducible refine condP_yes ?_ ?_); (· assumption)) | ((with_reducible refine condP_no ?_ ?_); (· assumption)) | ((with_reducible refine ArP_i64 ?_ ?_); (· omega)) | ((with_reducible refine mustP.mk ?_ ?_); (· first | omega | rfl | (dsimp only; omega))) | (with_reducible refine EqP_nil tab_ok ?_) | (with_reducible refine EqP_sli tab_ok ?_) | (with_reducible refine DrawP_auto tab_ok (by kernel_rfl) (by decide +kernel) ?_) | (with_reducible refine DrawP_auto2 tab_ok (by kernel_rfl) (by decide +kernel) ?_) | (with_reducible refine eq55 ?_) | (with_reducible refine eq70 ?_) | (with_reducible refine eq73 ?_) | (with_reducible refine eq79 ?_) | (with_reducible refine eq112 ?_) | (with_reducible refine eq118 ?_) | (with_reducible refine eq124 ?_) | (with_reducible refine eq139 ?_) | (with_reducible refine eq142 ?_) | (with_reducible refine CallP_gives (fun vs w => by kernel_rfl) (by kernel_rfl) (fills_gives) ?_) | (with_reducible refine RCallP_gives (fun vs w => by kernel_rfl) (by kernel_rfl) (fills_gives) ?_) | (with_reducible refine CallP_gives (fun vs w => by kernel_rfl) (by kernel_rfl) (h1) ?_) | (with_reducible refine RCallP_gives (fun vs w => by kernel_rfl) (by kernel_rfl) (h1) ?_) | (with_reducible refine CallP_gives (fun vs w => by kernel_rfl) (by kernel_rfl) (hc) ?_) | (with_reducible refine RCallP_gives (fun vs w => by kernel_rfl) (by kernel_rfl) (hc) ?_) | (with_reducible refine CallP_gives (fun vs w => by kernel_rfl) (by kernel_rfl) (hp) ?_) | (with_reducible refine RCallP_gives (fun vs w => by kernel_rfl) (by kernel_rfl) (hp) ?_) | (with_reducible refine CallP_gives (fun vs w => by kernel_rfl) (by kernel_rfl) (h2) ?_) | (with_reducible refine RCallP_gives (fun vs w => by kernel_rfl) (by kernel_rfl) (h2) ?_))))
      conv => whnf
      try simp
    · have e : windE L n x y = 3 := by unfold windE; rw [hb, if_pos rfl, if_neg hr]
      have h1 := Winding_err (c := q) (x := x) (y := y) hL hn1 (by rw [e]; simp)
      rw [e] at h1
      rw [decide_eq_false hr] at hp
      (repeat ((try (conv => whnf)); (first | (with_reducible refine condP_true ?_) | (with_reducible refine condP_false ?_) | (with_reducible refine condP_not ?_) | (with_reducible refine condP_and ?_) | ((with_reducible refine condP_dt ?_ ?_); (· omega)) | ((with_reducible refine condP_df ?_ ?_); (· omega)) | ((with_reducible refine condP_yes ?_ ?_); (· assumption)) | ((with_reducible refine condP_no ?_ ?_); (· assumption)) | ((with_reducible refine ArP_i64 ?_ ?_); (· omega)) | ((with_reducible refine mustP.mk ?_ ?_); (· first | omega | rfl | (dsimp only; omega))) | (with_reducible refine EqP_nil tab_ok ?_) | (with_reducible refine EqP_sli tab_ok ?_) | (with_reducible refine DrawP_auto tab_ok (by kernel_rfl) (by decide +kernel) ?_) | (with_reducible refine DrawP_auto2 tab_ok (by kernel_rfl) (by decide +kernel) ?_) | (with_reducible refine eq55 ?_) | (with_reducible refine eq70 ?_) | (with_reducible refine eq73 ?_) | (with_reducible refine eq79 ?_) | (with_reducible refine eq112 ?_) | (with_reducible refine eq118 ?_) | (with_reducible refine eq124 ?_) | (with_reducible refine eq139 ?_) | (with_reducible refine eq142 ?_) | (with_reducible refine CallP_gives (fun vs w => by kernel_rfl) (by kernel_rfl) (fills_gives) ?_) | (with_reducible refine RCallP_gives (fun vs w => by kernel_rfl) (by kernel_rfl) (fills_gives) ?_) | (with_reducible refine CallP_gives (fun vs w => by kernel_rfl) (by kernel_rfl) (h1) ?_) | (with_reducible refine RCallP_gives (fun vs w => by kernel_rfl) (by kernel_rfl) (h1) ?_) | (with_reducible refine CallP_gives (fun vs w => by kernel_rfl) (by kernel_rfl) (hc) ?_) | (with_reducible refine RCallP_gives (fun vs w => by kernel_rfl) (by kernel_rfl) (hc) ?_) | (with_reducible refine CallP_gives (fun vs w => by kernel_rfl) (by kernel_rfl) (hp) ?_) | (with_reducible refine RCallP_gives (fun vs w => by kernel_rfl) (by kernel_rfl) (hp) ?_))))
      conv => whnf
      try simp
set_option linter.unusedVariables false in
theorem walk (A0 : Option Addr) (n0 : Nat) (q0 : Nat) (g0 : Nat → Nat → Value) (a1 : Int) (a2 : Int) (w : World) (c0 : n0 ≤ q0) (m0 : q0 ≤ maxLen) (s0 : SliceG Try.prog w 43 A0 n0 g0) (w1 : (Lit.int .i64 a1).wf = true) (w2 : (Lit.int .i64 a2).wf = true) (u0 : sumN (fun x => slN (g0 x 0)) n0 ≤ 1048576) :
    Calls Try.prog 3 #[.slice A0 n0 q0, .int .i64 a1, .int .i64 a2] w fun e w' => e = .returned (.bool true) ∧ Below w.heap.size w w' := by
  obtain ⟨L, hL, hLn⟩ := lines_m s0
  refine walk_of tab_ok Try.func3 ?_ (body (x := a1) (y := a2) hL ⟨c0, m0⟩ ?_)
  · exact rels_map_val (β := noName) [.slice A0 n0 q0, .int .i64 a1, .int .i64 a2]
  · rw [cnt_sum, sumN_congr hLn]; exact u0
end Go.Proofs.Ythbppimjaealnaa.fillWindingCrossings
