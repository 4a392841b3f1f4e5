/-
  Lines in memory; fill.Check and the reference's LinesCheck.
-/
import Derived.Test.YtpgjbfbdappniaaFreeze
import Derived.Test.YtpgjbfbdappniaaTab
import Derived.Test.YtpgjbfbdappniaaEw
namespace Go.Proofs.Ytpgjbfbdappniaa
open Go.RowKit
set_option linter.unusedVariables false
set_option linter.unusedSimpArgs false
set_option maxRecDepth 20000
/-- The cells of the i-th of some points. -/
abbrev ptC (X Y : Nat → Int) (i : Nat) : List Value := [.int .i64 (X i), .int .i64 (Y i)]
structure LineD where
  A : Option Addr
  n : Nat
  q : Nat
  X : Nat → Int
  Y : Nat → Int
  cl : Bool
abbrev LineD.cells (l : LineD) : List Value := [.slice l.A l.n l.q, .bool l.cl]
/-- Lines in memory. -/
structure LinesM (G : Mem) (A : Option Addr) (n : Nat) (L : Nat → LineD) : Prop where
  rows : ElsM G A 2 n fun x => (L x).cells
  pts : ∀ x, x < n → ElsM G (L x).A 2 (L x).n (ptC (L x).X (L x).Y)
  cap : ∀ x, x < n → (L x).n ≤ (L x).q ∧ (L x).q ≤ maxLen
theorem LinesM.mono {G G' : Mem} {A : Option Addr} {n : Nat} {L : Nat → LineD} (h : LinesM G A n L) (hle : G.le G') : LinesM G' A n L := ⟨h.rows.mono hle, fun x hx => (h.pts x hx).mono hle, h.cap⟩
def okXY (x y : Int) : Bool := decide ((-32767 ≤ x ∧ x ≤ 32767) ∧ (-32767 ≤ y ∧ y ≤ 32767))
theorem okXY_yes {x y : Int} (h : (-32767 ≤ x ∧ x ≤ 32767) ∧ (-32767 ≤ y ∧ y ≤ 32767)) : okXY x y = true := decide_eq_true h
theorem okXY_no {x y : Int} (h : ¬ ((-32767 ≤ x ∧ x ≤ 32767) ∧ (-32767 ≤ y ∧ y ≤ 32767))) : okXY x y = false := decide_eq_false h
theorem okXY_of {x y : Int} (h : okXY x y = true) : (-32767 ≤ x ∧ x ≤ 32767) ∧ (-32767 ≤ y ∧ y ≤ 32767) := of_decide_eq_true h
def lineB (l : LineD) : Bool := (List.range l.n).all fun i => okXY (l.X i) (l.Y i)
def linesB (L : Nat → LineD) (n : Nat) : Bool := (List.range n).all fun x => lineB (L x)
def linesE (L : Nat → LineD) (n : Nat) : Int := if linesB L n = true then 0 else 3
theorem linesB_yes {L : Nat → LineD} {n : Nat} (h : ∀ x, x < n → ∀ i, i < (L x).n → okXY ((L x).X i) ((L x).Y i) = true) : linesB L n = true := by
  unfold linesB
  rw [List.all_eq_true]
  intro x hx
  unfold lineB
  rw [List.all_eq_true]
  exact fun i hi => h x (List.mem_range.1 hx) i (List.mem_range.1 hi)
theorem linesB_no {L : Nat → LineD} {n x i : Nat} (hx : x < n) (hi : i < (L x).n) (h : okXY ((L x).X i) ((L x).Y i) = false) : linesB L n = false := by
  unfold linesB
  rw [List.all_eq_false]
  refine ⟨x, List.mem_range.2 hx, ?_⟩
  unfold lineB
  rw [Bool.not_eq_true, List.all_eq_false]
  exact ⟨i, List.mem_range.2 hi, by rw [h]; simp⟩
theorem linesB_of {L : Nat → LineD} {n : Nat} (h : linesB L n = true) : ∀ x, x < n → ∀ i, i < (L x).n → okXY ((L x).X i) ((L x).Y i) = true := by
  intro x hx i hi
  cases hk : okXY ((L x).X i) ((L x).Y i) with
  | true => rfl
  | false => rw [linesB_no hx hi hk] at h; cases h
section
variable {G : Mem} {A : Option Addr} {n c : Nat} {L : Nat → LineD}
set_option maxHeartbeats 4000000 in
theorem LCheck_gives (h : LinesM G A n L) (hn : n ≤ maxLen) : Gives Try.prog 31 [.val (.slice A n c)] G (.val (.int .i64 (linesE L n))) := by
  have hn' : n ≤ 9223372036854775807 := by unfold maxLen at hn; omega
  refine Gives_of tab_ok Try.func31 ?_
  (repeat ((try (conv => whnf)); (first | (with_reducible refine condP_true ?_) | (with_reducible refine condP_false ?_) | (with_reducible refine condP_not ?_) | (with_reducible refine condP_and ?_) | ((with_reducible refine condP_dt ?_ ?_); (· omega)) | ((with_reducible refine condP_df ?_ ?_); (· omega)) | ((with_reducible refine condP_yes ?_ ?_); (· assumption)) | ((with_reducible refine condP_no ?_ ?_); (· assumption)) | ((with_reducible refine ArP_i64 ?_ ?_); (· omega)) | ((with_reducible refine mustP.mk ?_ ?_); (· first | omega | rfl | (dsimp only; omega))) | (with_reducible refine EqP_nil tab_ok ?_) | (with_reducible refine EqP_sli tab_ok ?_) | (with_reducible refine DrawP_auto tab_ok (by kernel_rfl) (by decide +kernel) ?_) | (with_reducible refine DrawP_auto2 tab_ok (by kernel_rfl) (by decide +kernel) ?_) | (with_reducible refine eq43 ?_) | (with_reducible refine eq55 ?_) | (with_reducible refine eq57 ?_) | (with_reducible refine eq93 ?_) | (with_reducible refine eq101 ?_) | (with_reducible refine eq116 ?_) | (with_reducible refine eq119 ?_))))
  conv => whnf
  refine LoopP_at tab_ok (fun x => x ≤ n ∧ ∀ y, y < x → ∀ i, i < (L y).n → okXY ((L y).X i) ((L y).Y i) = true) (fun (x : Nat) => [(9, .val (.int .i64 x))]) (fun x => []) (fun x => n - x) 0 ⟨Nat.zero_le _, fun y hy => by omega⟩ ?_ ?_
  · ((refine Le_head ?_); (conv => whnf); (refine Le_mk (by rfl) (by rfl) ?_ ?_); (· (repeat (first | (with_reducible exact frLe_nil) | (with_reducible refine frLe_any ?_) | (with_reducible refine frLe_val ?_) | ((with_reducible refine frLe_eq rfl ?_ ?_); (· rfl)) | ((with_reducible refine frLe_val' (int_eq ?_) ?_ ?_); (· omega); (· rfl)) | ((with_reducible refine frLe_val' (int_eq ?_) ?_ ?_); (· simp only [Int.natCast_add, Int.natCast_one, Int.natCast_ofNat] <;> omega); (· rfl)) | ((with_reducible refine frLe_val' (bool_eq ?_) ?_ ?_); (· first | assumption | (symm; assumption)); (· rfl))))))
    exact hpLe_nil
  · rintro x ⟨hx, hall⟩
    rcases Nat.lt_or_ge x n with h1 | h1
    · obtain ⟨p, rfl, ca⟩ := h.rows.cells h1
      have hp := h.pts x h1
      have hcap := h.cap x h1
      unfold maxLen at hcap
      (repeat ((try (conv => whnf)); (first | (refine ca _ ?_) | (with_reducible refine condP_true ?_) | (with_reducible refine condP_false ?_) | (with_reducible refine condP_not ?_) | (with_reducible refine condP_and ?_) | ((with_reducible refine condP_dt ?_ ?_); (· omega)) | ((with_reducible refine condP_df ?_ ?_); (· omega)) | ((with_reducible refine condP_yes ?_ ?_); (· assumption)) | ((with_reducible refine condP_no ?_ ?_); (· assumption)) | ((with_reducible refine ArP_i64 ?_ ?_); (· omega)) | ((with_reducible refine mustP.mk ?_ ?_); (· first | omega | rfl | (dsimp only; omega))) | (with_reducible refine EqP_nil tab_ok ?_) | (with_reducible refine EqP_sli tab_ok ?_) | (with_reducible refine DrawP_auto tab_ok (by kernel_rfl) (by decide +kernel) ?_) | (with_reducible refine DrawP_auto2 tab_ok (by kernel_rfl) (by decide +kernel) ?_) | (with_reducible refine eq43 ?_) | (with_reducible refine eq55 ?_) | (with_reducible refine eq57 ?_) | (with_reducible refine eq93 ?_) | (with_reducible refine eq101 ?_) | (with_reducible refine eq116 ?_) | (with_reducible refine eq119 ?_))))
      conv => whnf
      refine LoopP_at tab_ok (fun i => i ≤ (L x).n ∧ ∀ j, j < i → okXY ((L x).X j) ((L x).Y j) = true) (fun (i : Nat) => [(16, .val (.int .i64 i))]) (fun i => [.cells 34 [.val (.slice (L x).A (L x).n (L x).q), .val (.bool (L x).cl)]]) (fun i => (L x).n - i) 0 ⟨Nat.zero_le _, fun j hj => by omega⟩ ?_ ?_
      · ((refine Le_head ?_); (conv => whnf); (refine Le_mk (by rfl) (by rfl) ?_ ?_); (· (repeat (first | (with_reducible exact frLe_nil) | (with_reducible refine frLe_any ?_) | (with_reducible refine frLe_val ?_) | ((with_reducible refine frLe_eq rfl ?_ ?_); (· rfl)) | ((with_reducible refine frLe_val' (int_eq ?_) ?_ ?_); (· omega); (· rfl)) | ((with_reducible refine frLe_val' (int_eq ?_) ?_ ?_); (· simp only [Int.natCast_add, Int.natCast_one, Int.natCast_ofNat] <;> omega); (· rfl)) | ((with_reducible refine frLe_val' (bool_eq ?_) ?_ ?_); (· first | assumption | (symm; assumption)); (· rfl))))))
        exact hpLe_cells (by (repeat (first | (with_reducible exact frLe_nil) | (with_reducible refine frLe_any ?_) | (with_reducible refine frLe_val ?_) | ((with_reducible refine frLe_eq rfl ?_ ?_); (· rfl)) | ((with_reducible refine frLe_val' (int_eq ?_) ?_ ?_); (· omega); (· rfl)) | ((with_reducible refine frLe_val' (int_eq ?_) ?_ ?_); (· simp only [Int.natCast_add, Int.natCast_one, Int.natCast_ofNat] <;> omega); (· rfl)) | ((with_reducible refine frLe_val' (bool_eq ?_) ?_ ?_); (· first | assumption | (symm; assumption)); (· rfl))))) hpLe_nil
      · rintro i ⟨hi, hall2⟩
        rcases Nat.lt_or_ge i (L x).n with h2 | h2
        · obtain ⟨p2, hp2, cb⟩ := hp.cells h2
          have no := fun h => linesB_no (L := L) h1 h2 (okXY_no h)
          have yes : ((-32767 ≤ (L x).X i ∧ (L x).X i ≤ 32767) ∧ (-32767 ≤ (L x).Y i ∧ (L x).Y i ≤ 32767)) → ∀ j, j < i + 1 → okXY ((L x).X j) ((L x).Y j) = true := fun h j hj => by
            rcases Nat.lt_or_ge j i with h3 | h3
            · exact hall2 j h3
            · obtain rfl : j = i := by omega
              exact okXY_yes h
          rw [hp2]
          clear hall hall2 hp ca h
          unfold linesE
          (repeat' ((try (conv => whnf)); (first | (refine cb _ ?_) | (with_reducible refine condP_true ?_) | (with_reducible refine condP_false ?_) | (with_reducible refine condP_not ?_) | (with_reducible refine condP_and ?_) | ((with_reducible refine condP_dt ?_ ?_); (· omega)) | ((with_reducible refine condP_df ?_ ?_); (· omega)) | ((with_reducible refine condP_yes ?_ ?_); (· assumption)) | ((with_reducible refine condP_no ?_ ?_); (· assumption)) | ((with_reducible refine ArP_i64 ?_ ?_); (· omega)) | ((with_reducible refine mustP.mk ?_ ?_); (· first | omega | rfl | (dsimp only; omega))) | (with_reducible refine EqP_nil tab_ok ?_) | (with_reducible refine EqP_sli tab_ok ?_) | (with_reducible refine DrawP_auto tab_ok (by kernel_rfl) (by decide +kernel) ?_) | (with_reducible refine DrawP_auto2 tab_ok (by kernel_rfl) (by decide +kernel) ?_) | (with_reducible refine eq43 ?_) | (with_reducible refine eq55 ?_) | (with_reducible refine eq57 ?_) | (with_reducible refine eq93 ?_) | (with_reducible refine eq101 ?_) | (with_reducible refine eq116 ?_) | (with_reducible refine eq119 ?_) | (with_reducible refine CallP_enter tab_ok Try.func52 (fun vs w => by kernel_rfl) (by rfl) ?_) | (with_reducible refine condP_dec (fun h0 => ?_) (fun h0 => ?_)))))
          all_goals first
            | (refine ⟨i + 1, ⟨by omega, yes (by omega)⟩, by omega, ?_⟩
               ((refine Le_head ?_); (conv => whnf); (refine Le_mk (by rfl) (by rfl) ?_ ?_); (· (repeat (first | (with_reducible exact frLe_nil) | (with_reducible refine frLe_any ?_) | (with_reducible refine frLe_val ?_) | ((with_reducible refine frLe_eq rfl ?_ ?_); (· rfl)) | ((with_reducible refine frLe_val' (int_eq ?_) ?_ ?_); (· omega); (· rfl)) | ((with_reducible refine frLe_val' (int_eq ?_) ?_ ?_); (· simp only [Int.natCast_add, Int.natCast_one, Int.natCast_ofNat] <;> omega); (· rfl)) | ((with_reducible refine frLe_val' (bool_eq ?_) ?_ ?_); (· first | assumption | (symm; assumption)); (· rfl))))))
               exact hpLe_cells (by (repeat (first | (with_reducible exact frLe_nil) | (with_reducible refine frLe_any ?_) | (with_reducible refine frLe_val ?_) | ((with_reducible refine frLe_eq rfl ?_ ?_); (· rfl)) | ((with_reducible refine frLe_val' (int_eq ?_) ?_ ?_); (· omega); (· rfl)) | ((with_reducible refine frLe_val' (int_eq ?_) ?_ ?_); (· simp only [Int.natCast_add, Int.natCast_one, Int.natCast_ofNat] <;> omega); (· rfl)) | ((with_reducible refine frLe_val' (bool_eq ?_) ?_ ?_); (· first | assumption | (symm; assumption)); (· rfl))))) hpLe_nil)
            | exact ⟨by rw [no (by omega)]; rfl, rfl⟩
        · obtain rfl : i = (L x).n := by omega
          (repeat ((try (conv => whnf)); (first | (with_reducible refine condP_true ?_) | (with_reducible refine condP_false ?_) | (with_reducible refine condP_not ?_) | (with_reducible refine condP_and ?_) | ((with_reducible refine condP_dt ?_ ?_); (· omega)) | ((with_reducible refine condP_df ?_ ?_); (· omega)) | ((with_reducible refine condP_yes ?_ ?_); (· assumption)) | ((with_reducible refine condP_no ?_ ?_); (· assumption)) | ((with_reducible refine ArP_i64 ?_ ?_); (· omega)) | ((with_reducible refine mustP.mk ?_ ?_); (· first | omega | rfl | (dsimp only; omega))) | (with_reducible refine EqP_nil tab_ok ?_) | (with_reducible refine EqP_sli tab_ok ?_) | (with_reducible refine DrawP_auto tab_ok (by kernel_rfl) (by decide +kernel) ?_) | (with_reducible refine DrawP_auto2 tab_ok (by kernel_rfl) (by decide +kernel) ?_) | (with_reducible refine eq43 ?_) | (with_reducible refine eq55 ?_) | (with_reducible refine eq57 ?_) | (with_reducible refine eq93 ?_) | (with_reducible refine eq101 ?_) | (with_reducible refine eq116 ?_) | (with_reducible refine eq119 ?_))))
          refine ⟨x + 1, ⟨by omega, fun y hy => ?_⟩, by omega, ?_⟩
          · rcases Nat.lt_or_ge y x with h3 | h3
            · exact hall y h3
            · obtain rfl : y = x := by omega
              exact hall2
          · ((refine Le_head ?_); (conv => whnf); (refine Le_mk (by rfl) (by rfl) ?_ ?_); (· (repeat (first | (with_reducible exact frLe_nil) | (with_reducible refine frLe_any ?_) | (with_reducible refine frLe_val ?_) | ((with_reducible refine frLe_eq rfl ?_ ?_); (· rfl)) | ((with_reducible refine frLe_val' (int_eq ?_) ?_ ?_); (· omega); (· rfl)) | ((with_reducible refine frLe_val' (int_eq ?_) ?_ ?_); (· simp only [Int.natCast_add, Int.natCast_one, Int.natCast_ofNat] <;> omega); (· rfl)) | ((with_reducible refine frLe_val' (bool_eq ?_) ?_ ?_); (· first | assumption | (symm; assumption)); (· rfl))))))
            exact hpLe_nil
    · obtain rfl : x = n := by omega
      (repeat ((try (conv => whnf)); (first | (with_reducible refine condP_true ?_) | (with_reducible refine condP_false ?_) | (with_reducible refine condP_not ?_) | (with_reducible refine condP_and ?_) | ((with_reducible refine condP_dt ?_ ?_); (· omega)) | ((with_reducible refine condP_df ?_ ?_); (· omega)) | ((with_reducible refine condP_yes ?_ ?_); (· assumption)) | ((with_reducible refine condP_no ?_ ?_); (· assumption)) | ((with_reducible refine ArP_i64 ?_ ?_); (· omega)) | ((with_reducible refine mustP.mk ?_ ?_); (· first | omega | rfl | (dsimp only; omega))) | (with_reducible refine EqP_nil tab_ok ?_) | (with_reducible refine EqP_sli tab_ok ?_) | (with_reducible refine DrawP_auto tab_ok (by kernel_rfl) (by decide +kernel) ?_) | (with_reducible refine DrawP_auto2 tab_ok (by kernel_rfl) (by decide +kernel) ?_) | (with_reducible refine eq43 ?_) | (with_reducible refine eq55 ?_) | (with_reducible refine eq57 ?_) | (with_reducible refine eq93 ?_) | (with_reducible refine eq101 ?_) | (with_reducible refine eq116 ?_) | (with_reducible refine eq119 ?_))))
      exact ⟨by unfold linesE; rw [linesB_yes hall]; rfl, rfl⟩
theorem LCoord_gives {x y : Int} : Gives Try.prog 34 [.agg [.val (.int .i64 x), .val (.int .i64 y)]] G (.val (.bool (okXY x y))) := by
  refine Gives_of tab_ok Try.func34 ?_
  (repeat' ((try (conv => whnf)); (first | (with_reducible refine condP_true ?_) | (with_reducible refine condP_false ?_) | (with_reducible refine condP_not ?_) | (with_reducible refine condP_and ?_) | ((with_reducible refine condP_dt ?_ ?_); (· omega)) | ((with_reducible refine condP_df ?_ ?_); (· omega)) | ((with_reducible refine condP_yes ?_ ?_); (· assumption)) | ((with_reducible refine condP_no ?_ ?_); (· assumption)) | ((with_reducible refine ArP_i64 ?_ ?_); (· omega)) | ((with_reducible refine mustP.mk ?_ ?_); (· first | omega | rfl | (dsimp only; omega))) | (with_reducible refine EqP_nil tab_ok ?_) | (with_reducible refine EqP_sli tab_ok ?_) | (with_reducible refine DrawP_auto tab_ok (by kernel_rfl) (by decide +kernel) ?_) | (with_reducible refine DrawP_auto2 tab_ok (by kernel_rfl) (by decide +kernel) ?_) | (with_reducible refine eq43 ?_) | (with_reducible refine eq55 ?_) | (with_reducible refine eq57 ?_) | (with_reducible refine eq93 ?_) | (with_reducible refine eq101 ?_) | (with_reducible refine eq116 ?_) | (with_reducible refine eq119 ?_) | (with_reducible refine CallP_enter tab_ok Try.func14 (fun vs w => by kernel_rfl) (by rfl) ?_) | (with_reducible refine condP_dec (fun h0 => ?_) (fun h0 => ?_)))))
  all_goals ((conv => whnf); first | exact ⟨by rw [okXY_no (by omega)], rfl⟩ | exact ⟨by rw [okXY_yes (by omega)], rfl⟩ | exact ⟨by unfold okXY; rw [AV.val.injEq, Value.bool.injEq]; apply decide_eq_decide.2; omega, rfl⟩)
set_option maxHeartbeats 4000000 in
theorem LinesCheck_gives (h : LinesM G A n L) (hn : n ≤ maxLen) : Gives Try.prog 13 [.val (.slice A n c)] G (.val (.int .i64 (linesE L n))) := by
  have hn' : n ≤ 9223372036854775807 := by unfold maxLen at hn; omega
  refine Gives_of tab_ok Try.func13 ?_
  (repeat ((try (conv => whnf)); (first | (with_reducible refine condP_true ?_) | (with_reducible refine condP_false ?_) | (with_reducible refine condP_not ?_) | (with_reducible refine condP_and ?_) | ((with_reducible refine condP_dt ?_ ?_); (· omega)) | ((with_reducible refine condP_df ?_ ?_); (· omega)) | ((with_reducible refine condP_yes ?_ ?_); (· assumption)) | ((with_reducible refine condP_no ?_ ?_); (· assumption)) | ((with_reducible refine ArP_i64 ?_ ?_); (· omega)) | ((with_reducible refine mustP.mk ?_ ?_); (· first | omega | rfl | (dsimp only; omega))) | (with_reducible refine EqP_nil tab_ok ?_) | (with_reducible refine EqP_sli tab_ok ?_) | (with_reducible refine DrawP_auto tab_ok (by kernel_rfl) (by decide +kernel) ?_) | (with_reducible refine DrawP_auto2 tab_ok (by kernel_rfl) (by decide +kernel) ?_) | (with_reducible refine eq43 ?_) | (with_reducible refine eq55 ?_) | (with_reducible refine eq57 ?_) | (with_reducible refine eq93 ?_) | (with_reducible refine eq101 ?_) | (with_reducible refine eq116 ?_) | (with_reducible refine eq119 ?_))))
  conv => whnf
  refine LoopP_at tab_ok (fun x => x ≤ n ∧ ∀ y, y < x → ∀ i, i < (L y).n → okXY ((L y).X i) ((L y).Y i) = true) (fun (x : Nat) => [(7, .val (.int .i64 x))]) (fun x => []) (fun x => n - x) 0 ⟨Nat.zero_le _, fun y hy => by omega⟩ ?_ ?_
  · ((refine Le_head ?_); (conv => whnf); (refine Le_mk (by rfl) (by rfl) ?_ ?_); (· (repeat (first | (with_reducible exact frLe_nil) | (with_reducible refine frLe_any ?_) | (with_reducible refine frLe_val ?_) | ((with_reducible refine frLe_eq rfl ?_ ?_); (· rfl)) | ((with_reducible refine frLe_val' (int_eq ?_) ?_ ?_); (· omega); (· rfl)) | ((with_reducible refine frLe_val' (int_eq ?_) ?_ ?_); (· simp only [Int.natCast_add, Int.natCast_one, Int.natCast_ofNat] <;> omega); (· rfl)) | ((with_reducible refine frLe_val' (bool_eq ?_) ?_ ?_); (· first | assumption | (symm; assumption)); (· rfl))))))
    exact hpLe_nil
  · rintro x ⟨hx, hall⟩
    rcases Nat.lt_or_ge x n with h1 | h1
    · obtain ⟨p, rfl, ca⟩ := h.rows.cells h1
      obtain ⟨p0, hp0, c0⟩ := h.rows.cell (x := x) (j := 0) h1 rfl
      cases hp0
      have hp := h.pts x h1
      have hcap := h.cap x h1
      unfold maxLen at hcap
      (repeat ((try (conv => whnf)); (first | (refine OldCells_one _ c0 ?_) | (with_reducible refine condP_true ?_) | (with_reducible refine condP_false ?_) | (with_reducible refine condP_not ?_) | (with_reducible refine condP_and ?_) | ((with_reducible refine condP_dt ?_ ?_); (· omega)) | ((with_reducible refine condP_df ?_ ?_); (· omega)) | ((with_reducible refine condP_yes ?_ ?_); (· assumption)) | ((with_reducible refine condP_no ?_ ?_); (· assumption)) | ((with_reducible refine ArP_i64 ?_ ?_); (· omega)) | ((with_reducible refine mustP.mk ?_ ?_); (· first | omega | rfl | (dsimp only; omega))) | (with_reducible refine EqP_nil tab_ok ?_) | (with_reducible refine EqP_sli tab_ok ?_) | (with_reducible refine DrawP_auto tab_ok (by kernel_rfl) (by decide +kernel) ?_) | (with_reducible refine DrawP_auto2 tab_ok (by kernel_rfl) (by decide +kernel) ?_) | (with_reducible refine eq43 ?_) | (with_reducible refine eq55 ?_) | (with_reducible refine eq57 ?_) | (with_reducible refine eq93 ?_) | (with_reducible refine eq101 ?_) | (with_reducible refine eq116 ?_) | (with_reducible refine eq119 ?_))))
      conv => whnf
      refine LoopP_at tab_ok (fun i => i ≤ (L x).n ∧ ∀ j, j < i → okXY ((L x).X j) ((L x).Y j) = true) (fun (i : Nat) => [(16, .val (.int .i64 i))]) (fun i => []) (fun i => (L x).n - i) 0 ⟨Nat.zero_le _, fun j hj => by omega⟩ ?_ ?_
      · ((refine Le_head ?_); (conv => whnf); (refine Le_mk (by rfl) (by rfl) ?_ ?_); (· (repeat (first | (with_reducible exact frLe_nil) | (with_reducible refine frLe_any ?_) | (with_reducible refine frLe_val ?_) | ((with_reducible refine frLe_eq rfl ?_ ?_); (· rfl)) | ((with_reducible refine frLe_val' (int_eq ?_) ?_ ?_); (· omega); (· rfl)) | ((with_reducible refine frLe_val' (int_eq ?_) ?_ ?_); (· simp only [Int.natCast_add, Int.natCast_one, Int.natCast_ofNat] <;> omega); (· rfl)) | ((with_reducible refine frLe_val' (bool_eq ?_) ?_ ?_); (· first | assumption | (symm; assumption)); (· rfl))))))
        exact hpLe_nil
      · rintro i ⟨hi, hall2⟩
        rcases Nat.lt_or_ge i (L x).n with h2 | h2
        · obtain ⟨p2, hp2, cb⟩ := hp.cells h2
          have hcd := LCoord_gives (G := G) (x := (L x).X i) (y := (L x).Y i)
          rw [hp2] at c0
          rw [hp2]
          unfold linesE
          cases hk : okXY ((L x).X i) ((L x).Y i)
          · rw [hk] at hcd
            rw [linesB_no h1 h2 hk]
            (repeat ((try (conv => whnf)); (first | (refine OldCells_one _ c0 ?_) | (refine cb _ ?_) | (with_reducible refine condP_true ?_) | (with_reducible refine condP_false ?_) | (with_reducible refine condP_not ?_) | (with_reducible refine condP_and ?_) | ((with_reducible refine condP_dt ?_ ?_); (· omega)) | ((with_reducible refine condP_df ?_ ?_); (· omega)) | ((with_reducible refine condP_yes ?_ ?_); (· assumption)) | ((with_reducible refine condP_no ?_ ?_); (· assumption)) | ((with_reducible refine ArP_i64 ?_ ?_); (· omega)) | ((with_reducible refine mustP.mk ?_ ?_); (· first | omega | rfl | (dsimp only; omega))) | (with_reducible refine EqP_nil tab_ok ?_) | (with_reducible refine EqP_sli tab_ok ?_) | (with_reducible refine DrawP_auto tab_ok (by kernel_rfl) (by decide +kernel) ?_) | (with_reducible refine DrawP_auto2 tab_ok (by kernel_rfl) (by decide +kernel) ?_) | (with_reducible refine eq43 ?_) | (with_reducible refine eq55 ?_) | (with_reducible refine eq57 ?_) | (with_reducible refine eq93 ?_) | (with_reducible refine eq101 ?_) | (with_reducible refine eq116 ?_) | (with_reducible refine eq119 ?_) | (with_reducible refine CallP_gives (fun vs w => by kernel_rfl) (by kernel_rfl) (hcd) ?_) | (with_reducible refine RCallP_gives (fun vs w => by kernel_rfl) (by kernel_rfl) (hcd) ?_))))
            exact ⟨rfl, rfl⟩
          · rw [hk] at hcd
            (repeat ((try (conv => whnf)); (first | (refine OldCells_one _ c0 ?_) | (refine cb _ ?_) | (with_reducible refine condP_true ?_) | (with_reducible refine condP_false ?_) | (with_reducible refine condP_not ?_) | (with_reducible refine condP_and ?_) | ((with_reducible refine condP_dt ?_ ?_); (· omega)) | ((with_reducible refine condP_df ?_ ?_); (· omega)) | ((with_reducible refine condP_yes ?_ ?_); (· assumption)) | ((with_reducible refine condP_no ?_ ?_); (· assumption)) | ((with_reducible refine ArP_i64 ?_ ?_); (· omega)) | ((with_reducible refine mustP.mk ?_ ?_); (· first | omega | rfl | (dsimp only; omega))) | (with_reducible refine EqP_nil tab_ok ?_) | (with_reducible refine EqP_sli tab_ok ?_) | (with_reducible refine DrawP_auto tab_ok (by kernel_rfl) (by decide +kernel) ?_) | (with_reducible refine DrawP_auto2 tab_ok (by kernel_rfl) (by decide +kernel) ?_) | (with_reducible refine eq43 ?_) | (with_reducible refine eq55 ?_) | (with_reducible refine eq57 ?_) | (with_reducible refine eq93 ?_) | (with_reducible refine eq101 ?_) | (with_reducible refine eq116 ?_) | (with_reducible refine eq119 ?_) | (with_reducible refine CallP_gives (fun vs w => by kernel_rfl) (by kernel_rfl) (hcd) ?_) | (with_reducible refine RCallP_gives (fun vs w => by kernel_rfl) (by kernel_rfl) (hcd) ?_))))
            refine ⟨i + 1, ⟨by omega, fun j hj => ?_⟩, by omega, ?_⟩
            · rcases Nat.lt_or_ge j i with h3 | h3
              · exact hall2 j h3
              · obtain rfl : j = i := by omega
                exact hk
            · ((refine Le_head ?_); (conv => whnf); (refine Le_mk (by rfl) (by rfl) ?_ ?_); (· (repeat (first | (with_reducible exact frLe_nil) | (with_reducible refine frLe_any ?_) | (with_reducible refine frLe_val ?_) | ((with_reducible refine frLe_eq rfl ?_ ?_); (· rfl)) | ((with_reducible refine frLe_val' (int_eq ?_) ?_ ?_); (· omega); (· rfl)) | ((with_reducible refine frLe_val' (int_eq ?_) ?_ ?_); (· simp only [Int.natCast_add, Int.natCast_one, Int.natCast_ofNat] <;> omega); (· rfl)) | ((with_reducible refine frLe_val' (bool_eq ?_) ?_ ?_); (· first | assumption | (symm; assumption)); (· rfl))))))
              exact hpLe_nil
        · obtain rfl : i = (L x).n := by omega
          (repeat ((try (conv => whnf)); (first | (with_reducible refine condP_true ?_) | (with_reducible refine condP_false ?_) | (with_reducible refine condP_not ?_) | (with_reducible refine condP_and ?_) | ((with_reducible refine condP_dt ?_ ?_); (· omega)) | ((with_reducible refine condP_df ?_ ?_); (· omega)) | ((with_reducible refine condP_yes ?_ ?_); (· assumption)) | ((with_reducible refine condP_no ?_ ?_); (· assumption)) | ((with_reducible refine ArP_i64 ?_ ?_); (· omega)) | ((with_reducible refine mustP.mk ?_ ?_); (· first | omega | rfl | (dsimp only; omega))) | (with_reducible refine EqP_nil tab_ok ?_) | (with_reducible refine EqP_sli tab_ok ?_) | (with_reducible refine DrawP_auto tab_ok (by kernel_rfl) (by decide +kernel) ?_) | (with_reducible refine DrawP_auto2 tab_ok (by kernel_rfl) (by decide +kernel) ?_) | (with_reducible refine eq43 ?_) | (with_reducible refine eq55 ?_) | (with_reducible refine eq57 ?_) | (with_reducible refine eq93 ?_) | (with_reducible refine eq101 ?_) | (with_reducible refine eq116 ?_) | (with_reducible refine eq119 ?_))))
          refine ⟨x + 1, ⟨by omega, fun y hy => ?_⟩, by omega, ?_⟩
          · rcases Nat.lt_or_ge y x with h3 | h3
            · exact hall y h3
            · obtain rfl : y = x := by omega
              exact hall2
          · ((refine Le_head ?_); (conv => whnf); (refine Le_mk (by rfl) (by rfl) ?_ ?_); (· (repeat (first | (with_reducible exact frLe_nil) | (with_reducible refine frLe_any ?_) | (with_reducible refine frLe_val ?_) | ((with_reducible refine frLe_eq rfl ?_ ?_); (· rfl)) | ((with_reducible refine frLe_val' (int_eq ?_) ?_ ?_); (· omega); (· rfl)) | ((with_reducible refine frLe_val' (int_eq ?_) ?_ ?_); (· simp only [Int.natCast_add, Int.natCast_one, Int.natCast_ofNat] <;> omega); (· rfl)) | ((with_reducible refine frLe_val' (bool_eq ?_) ?_ ?_); (· first | assumption | (symm; assumption)); (· rfl))))))
            exact hpLe_nil
    · obtain rfl : x = n := by omega
      (repeat ((try (conv => whnf)); (first | (with_reducible refine condP_true ?_) | (with_reducible refine condP_false ?_) | (with_reducible refine condP_not ?_) | (with_reducible refine condP_and ?_) | ((with_reducible refine condP_dt ?_ ?_); (· omega)) | ((with_reducible refine condP_df ?_ ?_); (· omega)) | ((with_reducible refine condP_yes ?_ ?_); (· assumption)) | ((with_reducible refine condP_no ?_ ?_); (· assumption)) | ((with_reducible refine ArP_i64 ?_ ?_); (· omega)) | ((with_reducible refine mustP.mk ?_ ?_); (· first | omega | rfl | (dsimp only; omega))) | (with_reducible refine EqP_nil tab_ok ?_) | (with_reducible refine EqP_sli tab_ok ?_) | (with_reducible refine DrawP_auto tab_ok (by kernel_rfl) (by decide +kernel) ?_) | (with_reducible refine DrawP_auto2 tab_ok (by kernel_rfl) (by decide +kernel) ?_) | (with_reducible refine eq43 ?_) | (with_reducible refine eq55 ?_) | (with_reducible refine eq57 ?_) | (with_reducible refine eq93 ?_) | (with_reducible refine eq101 ?_) | (with_reducible refine eq116 ?_) | (with_reducible refine eq119 ?_))))
      exact ⟨by unfold linesE; rw [linesB_yes hall]; rfl, rfl⟩
end
end Go.Proofs.Ytpgjbfbdappniaa
