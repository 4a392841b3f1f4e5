/-
  Merged: XListN, XListI.
-/
import Derived.Test.YtampdegpfndggaaEng2
import Derived.Test.YtampdegpfndggaaMrg33
import Derived.Test.YtampdegpfndggaaMrg26
import Derived.Test.YtampdegpfndggaaMrg27
namespace Go.Proofs.Ytampdegpfndggaa
open Go.RowKit
set_option linter.unusedVariables false
set_option maxRecDepth 20000
/-- A byte of a string. -/
def chB (s : ByteArray) (i : Nat) : UInt8 := (s[i]?).getD 0
theorem chB_get {s : ByteArray} {i : Nat} (h : i < s.size) : s[i]? = some (chB s i) := by
  unfold chB
  rw [getElem?_pos s i h]; rfl
def chI (s : ByteArray) (i : Nat) : Int := (chB s i).toNat
theorem chI_bd (s : ByteArray) (i : Nat) : 0 ≤ chI s i ∧ chI s i ≤ 255 := by
  unfold chI
  have := (chB s i).toNat_lt
  omega
/-- A letter may stand anywhere, a figure or a hyphen behind the first place. -/
def chOk (s : ByteArray) (i : Nat) : Bool := decide ((97 ≤ chI s i ∧ chI s i ≤ 122) ∨ (0 < i ∧ (chI s i = 45 ∨ (48 ≤ chI s i ∧ chI s i ≤ 57))))
def nameB (s : ByteArray) : Bool := decide (1 ≤ s.size ∧ s.size ≤ 16) && (List.range s.size).all (chOk s)
theorem nameB_no {s : ByteArray} {i : Nat} (h : i < s.size) (k : chOk s i = false) : nameB s = false := by
  unfold nameB
  rw [show (List.range s.size).all (chOk s) = false from ?_, Bool.and_false]
  rw [List.all_eq_false]
  exact ⟨i, List.mem_range.2 h, by simp [k]⟩
theorem nameB_yes {s : ByteArray} (h : 1 ≤ s.size ∧ s.size ≤ 16) (k : ∀ i, i < s.size → chOk s i = true) : nameB s = true := by
  unfold nameB
  rw [decide_eq_true h, List.all_eq_true.2 fun i hi => k i (List.mem_range.1 hi)]; rfl
theorem nameB_size {s : ByteArray} (h : ¬ (1 ≤ s.size ∧ s.size ≤ 16)) : nameB s = false := by
  unfold nameB
  rw [decide_eq_false h]; rfl
theorem chOk_no {s : ByteArray} {i : Nat} (h : ¬ ((97 ≤ chI s i ∧ chI s i ≤ 122) ∨ (0 < i ∧ (chI s i = 45 ∨ (48 ≤ chI s i ∧ chI s i ≤ 57))))) : chOk s i = false := decide_eq_false h
theorem chOk_yes {s : ByteArray} {i : Nat} (h : (97 ≤ chI s i ∧ chI s i ≤ 122) ∨ (0 < i ∧ (chI s i = 45 ∨ (48 ≤ chI s i ∧ chI s i ≤ 57)))) : chOk s i = true := decide_eq_true h
section
variable {s : ByteArray} {G : Mem}
set_option maxHeartbeats 2000000 in
theorem IsName_gives : Gives Try.prog 76 [.val (.string s)] G (.val (.bool (nameB s))) := by
  refine Gives_of tab_ok Try.func76 ?_
  by_cases hs : 1 ≤ s.size ∧ s.size ≤ 16
  · obtain ⟨s1, s2⟩ := hs
    (repeat ((try (conv => whnf)); (first | (with_reducible refine condP_true ?_) | (with_reducible refine condP_false ?_) | (with_reducible refine condP_not ?_) | (with_reducible refine condP_and ?_) | ((with_reducible refine condP_dt ?_ ?_); (· omega)) | ((with_reducible refine condP_df ?_ ?_); (· omega)) | ((with_reducible refine condP_yes ?_ ?_); (· assumption)) | ((with_reducible refine condP_no ?_ ?_); (· assumption)) | ((with_reducible refine ArP_i64 ?_ ?_); (· omega)) | ((with_reducible refine mustP.mk ?_ ?_); (· first | omega | rfl | (dsimp only; omega))) | (with_reducible refine EqP_nil tab_ok ?_) | (with_reducible refine EqP_sli tab_ok ?_) | (with_reducible refine DrawP_auto tab_ok (by kernel_rfl) (by decide +kernel) ?_) | (with_reducible refine DrawP_auto2 tab_ok (by kernel_rfl) (by decide +kernel) ?_) | (with_reducible refine eq29 ?_) | (with_reducible refine eq31 ?_) | (with_reducible refine eq48 ?_) | (with_reducible refine eq52 ?_) | (with_reducible refine eq83 ?_) | (with_reducible refine eq110 ?_) | (with_reducible refine eq136 ?_) | (with_reducible refine eq155 ?_) | (with_reducible refine eq163 ?_) | (with_reducible refine eq170 ?_))))
    conv => whnf
    refine LoopP_at tab_ok (fun i => i ≤ s.size ∧ ∀ j, j < i → chOk s j = true) (fun (i : Nat) => [(16, .val (.int .i64 i))]) (fun i => []) (fun i => s.size - i) 0 ⟨Nat.zero_le _, fun j hj => by omega⟩ ?_ ?_
    · ((refine Le_head ?_); (conv => whnf); (refine Le_mk (by rfl) (by rfl) ?_ ?_); (· (repeat (first | (with_reducible exact frLe_nil) | (with_reducible refine frLe_any ?_) | (with_reducible refine frLe_val ?_) | ((with_reducible refine frLe_eq rfl ?_ ?_); (· rfl)) | ((with_reducible refine frLe_val' (int_eq ?_) ?_ ?_); (· omega); (· rfl)) | ((with_reducible refine frLe_val' (int_eq ?_) ?_ ?_); (· simp only [Int.natCast_add, Int.natCast_one, Int.natCast_ofNat] <;> omega); (· rfl)) | ((with_reducible refine frLe_val' (bool_eq ?_) ?_ ?_); (· first | assumption | (symm; assumption)); (· rfl))))))
      exact hpLe_nil
    · rintro i ⟨hi, hall⟩
      rcases Nat.lt_or_ge i s.size with h1 | h1
      · have hb := chI_bd s i
        have hg := chB_get h1
        have no := fun h => nameB_no h1 (chOk_no h)
        have yes : ((97 ≤ chI s i ∧ chI s i ≤ 122) ∨ (0 < i ∧ (chI s i = 45 ∨ (48 ≤ chI s i ∧ chI s i ≤ 57)))) → ∀ j, j < i + 1 → chOk s j = true := fun h j hj => by
          rcases Nat.lt_or_ge j i with h2 | h2
          · exact hall j h2
          · obtain rfl : j = i := by omega
            exact chOk_yes h
        simp only [chI] at hb no yes
        (repeat' ((try (conv => whnf)); (first | (refine ⟨chB s i, hg, ?_⟩) | (with_reducible refine condP_true ?_) | (with_reducible refine condP_false ?_) | (with_reducible refine condP_not ?_) | (with_reducible refine condP_and ?_) | ((with_reducible refine condP_dt ?_ ?_); (· omega)) | ((with_reducible refine condP_df ?_ ?_); (· omega)) | ((with_reducible refine condP_yes ?_ ?_); (· assumption)) | ((with_reducible refine condP_no ?_ ?_); (· assumption)) | ((with_reducible refine ArP_i64 ?_ ?_); (· omega)) | ((with_reducible refine mustP.mk ?_ ?_); (· first | omega | rfl | (dsimp only; omega))) | (with_reducible refine EqP_nil tab_ok ?_) | (with_reducible refine EqP_sli tab_ok ?_) | (with_reducible refine DrawP_auto tab_ok (by kernel_rfl) (by decide +kernel) ?_) | (with_reducible refine DrawP_auto2 tab_ok (by kernel_rfl) (by decide +kernel) ?_) | (with_reducible refine eq29 ?_) | (with_reducible refine eq31 ?_) | (with_reducible refine eq48 ?_) | (with_reducible refine eq52 ?_) | (with_reducible refine eq83 ?_) | (with_reducible refine eq110 ?_) | (with_reducible refine eq136 ?_) | (with_reducible refine eq155 ?_) | (with_reducible refine eq163 ?_) | (with_reducible refine eq170 ?_) | (with_reducible refine condP_dec (fun h0 => ?_) (fun h0 => ?_)))))
        all_goals first
          | (refine ⟨i + 1, ⟨by omega, yes (by omega)⟩, by omega, ?_⟩
             ((refine Le_head ?_); (conv => whnf); (refine Le_mk (by rfl) (by rfl) ?_ ?_); (· (repeat (first | (with_reducible exact frLe_nil) | (with_reducible refine frLe_any ?_) | (with_reducible refine frLe_val ?_) | ((with_reducible refine frLe_eq rfl ?_ ?_); (· rfl)) | ((with_reducible refine frLe_val' (int_eq ?_) ?_ ?_); (· omega); (· rfl)) | ((with_reducible refine frLe_val' (int_eq ?_) ?_ ?_); (· simp only [Int.natCast_add, Int.natCast_one, Int.natCast_ofNat] <;> omega); (· rfl)) | ((with_reducible refine frLe_val' (bool_eq ?_) ?_ ?_); (· first | assumption | (symm; assumption)); (· rfl))))))
             exact hpLe_nil)
          | exact ⟨by rw [no (by omega)], rfl⟩
      · obtain rfl : i = s.size := by omega
        (repeat ((try (conv => whnf)); (first | (with_reducible refine condP_true ?_) | (with_reducible refine condP_false ?_) | (with_reducible refine condP_not ?_) | (with_reducible refine condP_and ?_) | ((with_reducible refine condP_dt ?_ ?_); (· omega)) | ((with_reducible refine condP_df ?_ ?_); (· omega)) | ((with_reducible refine condP_yes ?_ ?_); (· assumption)) | ((with_reducible refine condP_no ?_ ?_); (· assumption)) | ((with_reducible refine ArP_i64 ?_ ?_); (· omega)) | ((with_reducible refine mustP.mk ?_ ?_); (· first | omega | rfl | (dsimp only; omega))) | (with_reducible refine EqP_nil tab_ok ?_) | (with_reducible refine EqP_sli tab_ok ?_) | (with_reducible refine DrawP_auto tab_ok (by kernel_rfl) (by decide +kernel) ?_) | (with_reducible refine DrawP_auto2 tab_ok (by kernel_rfl) (by decide +kernel) ?_) | (with_reducible refine eq29 ?_) | (with_reducible refine eq31 ?_) | (with_reducible refine eq48 ?_) | (with_reducible refine eq52 ?_) | (with_reducible refine eq83 ?_) | (with_reducible refine eq110 ?_) | (with_reducible refine eq136 ?_) | (with_reducible refine eq155 ?_) | (with_reducible refine eq163 ?_) | (with_reducible refine eq170 ?_))))
        exact ⟨by rw [nameB_yes ⟨s1, s2⟩ hall], rfl⟩
  · rw [nameB_size hs]
    by_cases s1 : s.size < 1
    · (repeat ((try (conv => whnf)); (first | (with_reducible refine condP_true ?_) | (with_reducible refine condP_false ?_) | (with_reducible refine condP_not ?_) | (with_reducible refine condP_and ?_) | ((with_reducible refine condP_dt ?_ ?_); (· omega)) | ((with_reducible refine condP_df ?_ ?_); (· omega)) | ((with_reducible refine condP_yes ?_ ?_); (· assumption)) | ((with_reducible refine condP_no ?_ ?_); (· assumption)) | ((with_reducible refine ArP_i64 ?_ ?_); (· omega)) | ((with_reducible refine mustP.mk ?_ ?_); (· first | omega | rfl | (dsimp only; omega))) | (with_reducible refine EqP_nil tab_ok ?_) | (with_reducible refine EqP_sli tab_ok ?_) | (with_reducible refine DrawP_auto tab_ok (by kernel_rfl) (by decide +kernel) ?_) | (with_reducible refine DrawP_auto2 tab_ok (by kernel_rfl) (by decide +kernel) ?_) | (with_reducible refine eq29 ?_) | (with_reducible refine eq31 ?_) | (with_reducible refine eq48 ?_) | (with_reducible refine eq52 ?_) | (with_reducible refine eq83 ?_) | (with_reducible refine eq110 ?_) | (with_reducible refine eq136 ?_) | (with_reducible refine eq155 ?_) | (with_reducible refine eq163 ?_) | (with_reducible refine eq170 ?_))))
      exact ⟨rfl, rfl⟩
    · (repeat ((try (conv => whnf)); (first | (with_reducible refine condP_true ?_) | (with_reducible refine condP_false ?_) | (with_reducible refine condP_not ?_) | (with_reducible refine condP_and ?_) | ((with_reducible refine condP_dt ?_ ?_); (· omega)) | ((with_reducible refine condP_df ?_ ?_); (· omega)) | ((with_reducible refine condP_yes ?_ ?_); (· assumption)) | ((with_reducible refine condP_no ?_ ?_); (· assumption)) | ((with_reducible refine ArP_i64 ?_ ?_); (· omega)) | ((with_reducible refine mustP.mk ?_ ?_); (· first | omega | rfl | (dsimp only; omega))) | (with_reducible refine EqP_nil tab_ok ?_) | (with_reducible refine EqP_sli tab_ok ?_) | (with_reducible refine DrawP_auto tab_ok (by kernel_rfl) (by decide +kernel) ?_) | (with_reducible refine DrawP_auto2 tab_ok (by kernel_rfl) (by decide +kernel) ?_) | (with_reducible refine eq29 ?_) | (with_reducible refine eq31 ?_) | (with_reducible refine eq48 ?_) | (with_reducible refine eq52 ?_) | (with_reducible refine eq83 ?_) | (with_reducible refine eq110 ?_) | (with_reducible refine eq136 ?_) | (with_reducible refine eq155 ?_) | (with_reducible refine eq163 ?_) | (with_reducible refine eq170 ?_))))
      exact ⟨rfl, rfl⟩
set_option maxHeartbeats 2000000 in
theorem Name_gives : Gives Try.prog 79 [.val (.string s)] G (.val (.bool (nameB s))) := by
  refine Gives_of tab_ok Try.func79 ?_
  by_cases hs : 1 ≤ s.size ∧ s.size ≤ 16
  · obtain ⟨s1, s2⟩ := hs
    have hb0 := chI_bd s 0
    have hg0 : s[(0 : Int).toNat]? = some (chB s 0) := chB_get (by omega)
    by_cases c0 : 97 ≤ chI s 0 ∧ chI s 0 ≤ 122
    · have y0 := chOk_yes (s := s) (i := 0) (.inl c0)
      obtain ⟨c1, c2⟩ := c0
      simp only [chI] at hb0 c1 c2
      (repeat ((try (conv => whnf)); (first | (refine ⟨chB s 0, hg0, ?_⟩) | (with_reducible refine condP_true ?_) | (with_reducible refine condP_false ?_) | (with_reducible refine condP_not ?_) | (with_reducible refine condP_and ?_) | ((with_reducible refine condP_dt ?_ ?_); (· omega)) | ((with_reducible refine condP_df ?_ ?_); (· omega)) | ((with_reducible refine condP_yes ?_ ?_); (· assumption)) | ((with_reducible refine condP_no ?_ ?_); (· assumption)) | ((with_reducible refine ArP_i64 ?_ ?_); (· omega)) | ((with_reducible refine mustP.mk ?_ ?_); (· first | omega | rfl | (dsimp only; omega))) | (with_reducible refine EqP_nil tab_ok ?_) | (with_reducible refine EqP_sli tab_ok ?_) | (with_reducible refine DrawP_auto tab_ok (by kernel_rfl) (by decide +kernel) ?_) | (with_reducible refine DrawP_auto2 tab_ok (by kernel_rfl) (by decide +kernel) ?_) | (with_reducible refine eq29 ?_) | (with_reducible refine eq31 ?_) | (with_reducible refine eq48 ?_) | (with_reducible refine eq52 ?_) | (with_reducible refine eq83 ?_) | (with_reducible refine eq110 ?_) | (with_reducible refine eq136 ?_) | (with_reducible refine eq155 ?_) | (with_reducible refine eq163 ?_) | (with_reducible refine eq170 ?_))))
      conv => whnf
      refine LoopP_at tab_ok (fun i => 1 ≤ i ∧ i ≤ s.size ∧ ∀ j, j < i → chOk s j = true) (fun (i : Nat) => [(3, .val (.int .i64 i))]) (fun i => []) (fun i => s.size - i) 1 ⟨Nat.le_refl _, s1, fun j hj => (show j = 0 by omega) ▸ y0⟩ ?_ ?_
      · ((refine Le_head ?_); (conv => whnf); (refine Le_mk (by rfl) (by rfl) ?_ ?_); (· (repeat (first | (with_reducible exact frLe_nil) | (with_reducible refine frLe_any ?_) | (with_reducible refine frLe_val ?_) | ((with_reducible refine frLe_eq rfl ?_ ?_); (· rfl)) | ((with_reducible refine frLe_val' (int_eq ?_) ?_ ?_); (· omega); (· rfl)) | ((with_reducible refine frLe_val' (int_eq ?_) ?_ ?_); (· simp only [Int.natCast_add, Int.natCast_one, Int.natCast_ofNat] <;> omega); (· rfl)) | ((with_reducible refine frLe_val' (bool_eq ?_) ?_ ?_); (· first | assumption | (symm; assumption)); (· rfl))))))
        exact hpLe_nil
      · rintro i ⟨hi1, hi, hall⟩
        rcases Nat.lt_or_ge i s.size with h1 | h1
        · have hb := chI_bd s i
          have hg := chB_get h1
          have no := fun h => nameB_no h1 (chOk_no h)
          have yes : ((97 ≤ chI s i ∧ chI s i ≤ 122) ∨ (0 < i ∧ (chI s i = 45 ∨ (48 ≤ chI s i ∧ chI s i ≤ 57)))) → ∀ j, j < i + 1 → chOk s j = true := fun h j hj => by
            rcases Nat.lt_or_ge j i with h2 | h2
            · exact hall j h2
            · obtain rfl : j = i := by omega
              exact chOk_yes h
          simp only [chI] at hb no yes
          (repeat' ((try (conv => whnf)); (first | (refine ⟨chB s i, hg, ?_⟩) | (with_reducible refine condP_true ?_) | (with_reducible refine condP_false ?_) | (with_reducible refine condP_not ?_) | (with_reducible refine condP_and ?_) | ((with_reducible refine condP_dt ?_ ?_); (· omega)) | ((with_reducible refine condP_df ?_ ?_); (· omega)) | ((with_reducible refine condP_yes ?_ ?_); (· assumption)) | ((with_reducible refine condP_no ?_ ?_); (· assumption)) | ((with_reducible refine ArP_i64 ?_ ?_); (· omega)) | ((with_reducible refine mustP.mk ?_ ?_); (· first | omega | rfl | (dsimp only; omega))) | (with_reducible refine EqP_nil tab_ok ?_) | (with_reducible refine EqP_sli tab_ok ?_) | (with_reducible refine DrawP_auto tab_ok (by kernel_rfl) (by decide +kernel) ?_) | (with_reducible refine DrawP_auto2 tab_ok (by kernel_rfl) (by decide +kernel) ?_) | (with_reducible refine eq29 ?_) | (with_reducible refine eq31 ?_) | (with_reducible refine eq48 ?_) | (with_reducible refine eq52 ?_) | (with_reducible refine eq83 ?_) | (with_reducible refine eq110 ?_) | (with_reducible refine eq136 ?_) | (with_reducible refine eq155 ?_) | (with_reducible refine eq163 ?_) | (with_reducible refine eq170 ?_) | (with_reducible refine condP_dec (fun h0 => ?_) (fun h0 => ?_)))))
          all_goals first
            | (refine ⟨i + 1, ⟨by omega, by omega, yes (by omega)⟩, by omega, ?_⟩
               ((refine Le_head ?_); (conv => whnf); (refine Le_mk (by rfl) (by rfl) ?_ ?_); (· (repeat (first | (with_reducible exact frLe_nil) | (with_reducible refine frLe_any ?_) | (with_reducible refine frLe_val ?_) | ((with_reducible refine frLe_eq rfl ?_ ?_); (· rfl)) | ((with_reducible refine frLe_val' (int_eq ?_) ?_ ?_); (· omega); (· rfl)) | ((with_reducible refine frLe_val' (int_eq ?_) ?_ ?_); (· simp only [Int.natCast_add, Int.natCast_one, Int.natCast_ofNat] <;> omega); (· rfl)) | ((with_reducible refine frLe_val' (bool_eq ?_) ?_ ?_); (· first | assumption | (symm; assumption)); (· rfl))))))
               exact hpLe_nil)
            | exact ⟨by rw [no (by omega)], rfl⟩
        · obtain rfl : i = s.size := by omega
          (repeat ((try (conv => whnf)); (first | (with_reducible refine condP_true ?_) | (with_reducible refine condP_false ?_) | (with_reducible refine condP_not ?_) | (with_reducible refine condP_and ?_) | ((with_reducible refine condP_dt ?_ ?_); (· omega)) | ((with_reducible refine condP_df ?_ ?_); (· omega)) | ((with_reducible refine condP_yes ?_ ?_); (· assumption)) | ((with_reducible refine condP_no ?_ ?_); (· assumption)) | ((with_reducible refine ArP_i64 ?_ ?_); (· omega)) | ((with_reducible refine mustP.mk ?_ ?_); (· first | omega | rfl | (dsimp only; omega))) | (with_reducible refine EqP_nil tab_ok ?_) | (with_reducible refine EqP_sli tab_ok ?_) | (with_reducible refine DrawP_auto tab_ok (by kernel_rfl) (by decide +kernel) ?_) | (with_reducible refine DrawP_auto2 tab_ok (by kernel_rfl) (by decide +kernel) ?_) | (with_reducible refine eq29 ?_) | (with_reducible refine eq31 ?_) | (with_reducible refine eq48 ?_) | (with_reducible refine eq52 ?_) | (with_reducible refine eq83 ?_) | (with_reducible refine eq110 ?_) | (with_reducible refine eq136 ?_) | (with_reducible refine eq155 ?_) | (with_reducible refine eq163 ?_) | (with_reducible refine eq170 ?_))))
          exact ⟨by rw [nameB_yes ⟨s1, s2⟩ hall], rfl⟩
    · have n0 := nameB_no (s := s) (i := 0) (by omega) (chOk_no (by omega))
      rw [n0]
      simp only [chI] at hb0 c0
      (repeat' ((try (conv => whnf)); (first | (refine ⟨chB s 0, hg0, ?_⟩) | (with_reducible refine condP_true ?_) | (with_reducible refine condP_false ?_) | (with_reducible refine condP_not ?_) | (with_reducible refine condP_and ?_) | ((with_reducible refine condP_dt ?_ ?_); (· omega)) | ((with_reducible refine condP_df ?_ ?_); (· omega)) | ((with_reducible refine condP_yes ?_ ?_); (· assumption)) | ((with_reducible refine condP_no ?_ ?_); (· assumption)) | ((with_reducible refine ArP_i64 ?_ ?_); (· omega)) | ((with_reducible refine mustP.mk ?_ ?_); (· first | omega | rfl | (dsimp only; omega))) | (with_reducible refine EqP_nil tab_ok ?_) | (with_reducible refine EqP_sli tab_ok ?_) | (with_reducible refine DrawP_auto tab_ok (by kernel_rfl) (by decide +kernel) ?_) | (with_reducible refine DrawP_auto2 tab_ok (by kernel_rfl) (by decide +kernel) ?_) | (with_reducible refine eq29 ?_) | (with_reducible refine eq31 ?_) | (with_reducible refine eq48 ?_) | (with_reducible refine eq52 ?_) | (with_reducible refine eq83 ?_) | (with_reducible refine eq110 ?_) | (with_reducible refine eq136 ?_) | (with_reducible refine eq155 ?_) | (with_reducible refine eq163 ?_) | (with_reducible refine eq170 ?_) | (with_reducible refine condP_dec (fun h0 => ?_) (fun h0 => ?_)))))
      all_goals exact ⟨rfl, rfl⟩
  · rw [nameB_size hs]
    by_cases s1 : s.size < 1
    · (repeat ((try (conv => whnf)); (first | (with_reducible refine condP_true ?_) | (with_reducible refine condP_false ?_) | (with_reducible refine condP_not ?_) | (with_reducible refine condP_and ?_) | ((with_reducible refine condP_dt ?_ ?_); (· omega)) | ((with_reducible refine condP_df ?_ ?_); (· omega)) | ((with_reducible refine condP_yes ?_ ?_); (· assumption)) | ((with_reducible refine condP_no ?_ ?_); (· assumption)) | ((with_reducible refine ArP_i64 ?_ ?_); (· omega)) | ((with_reducible refine mustP.mk ?_ ?_); (· first | omega | rfl | (dsimp only; omega))) | (with_reducible refine EqP_nil tab_ok ?_) | (with_reducible refine EqP_sli tab_ok ?_) | (with_reducible refine DrawP_auto tab_ok (by kernel_rfl) (by decide +kernel) ?_) | (with_reducible refine DrawP_auto2 tab_ok (by kernel_rfl) (by decide +kernel) ?_) | (with_reducible refine eq29 ?_) | (with_reducible refine eq31 ?_) | (with_reducible refine eq48 ?_) | (with_reducible refine eq52 ?_) | (with_reducible refine eq83 ?_) | (with_reducible refine eq110 ?_) | (with_reducible refine eq136 ?_) | (with_reducible refine eq155 ?_) | (with_reducible refine eq163 ?_) | (with_reducible refine eq170 ?_))))
      exact ⟨rfl, rfl⟩
    · (repeat ((try (conv => whnf)); (first | (with_reducible refine condP_true ?_) | (with_reducible refine condP_false ?_) | (with_reducible refine condP_not ?_) | (with_reducible refine condP_and ?_) | ((with_reducible refine condP_dt ?_ ?_); (· omega)) | ((with_reducible refine condP_df ?_ ?_); (· omega)) | ((with_reducible refine condP_yes ?_ ?_); (· assumption)) | ((with_reducible refine condP_no ?_ ?_); (· assumption)) | ((with_reducible refine ArP_i64 ?_ ?_); (· omega)) | ((with_reducible refine mustP.mk ?_ ?_); (· first | omega | rfl | (dsimp only; omega))) | (with_reducible refine EqP_nil tab_ok ?_) | (with_reducible refine EqP_sli tab_ok ?_) | (with_reducible refine DrawP_auto tab_ok (by kernel_rfl) (by decide +kernel) ?_) | (with_reducible refine DrawP_auto2 tab_ok (by kernel_rfl) (by decide +kernel) ?_) | (with_reducible refine eq29 ?_) | (with_reducible refine eq31 ?_) | (with_reducible refine eq48 ?_) | (with_reducible refine eq52 ?_) | (with_reducible refine eq83 ?_) | (with_reducible refine eq110 ?_) | (with_reducible refine eq136 ?_) | (with_reducible refine eq155 ?_) | (with_reducible refine eq163 ?_) | (with_reducible refine eq170 ?_))))
      exact ⟨rfl, rfl⟩
end
end Go.Proofs.Ytampdegpfndggaa

namespace Go.Proofs.Ytampdegpfndggaa
open Go.RowKit
set_option linter.unusedVariables false
set_option linter.unusedSimpArgs false
set_option maxRecDepth 20000
structure ItemD where
  K : Int
  RA : Option Addr
  rn : Nat
  rq : Nat
  k : Int
  I : Nat → Int
  fx : Int
  fy : Int
  tx : Int
  ty : Int
  r : Int
  A : Option Addr
  n : Nat
  q : Nat
  W : Int
  H : Int
  B : Option Addr
  pn : Nat
  pq : Nat
  C : Option Addr
  sn : Nat
  sq : Nat
  a : Int
  b : Int
  c : Int
  d : Int
  e : Int
  f : Int
  s : Bool
  t : Bool
  al : Int
  bl : Int
  ov : Bool
  iso : Bool
  kn : Bool
abbrev itemSrc (i : ItemD) : AV := srcA i.k i.I i.fx i.fy i.tx i.ty i.r (.slice i.A i.n i.q) i.W i.H (.slice i.B i.pn i.pq) (.slice i.C i.sn i.sq) i.a i.b i.c i.d i.e i.f i.s i.t
abbrev itemA (i : ItemD) : AV := .agg [.val (.int .i64 i.K), .val (.slice i.RA i.rn i.rq), .val (.int .i64 i.k), .val (.int .u8 (i.I 0)), .val (.int .u8 (i.I 1)), .val (.int .u8 (i.I 2)), .val (.int .u8 (i.I 3)), .val (.int .u8 (i.I 4)), .val (.int .u8 (i.I 5)), .val (.int .u8 (i.I 6)), .val (.int .u8 (i.I 7)), .val (.int .i64 i.fx), .val (.int .i64 i.fy), .val (.int .i64 i.tx), .val (.int .i64 i.ty), .val (.int .i64 i.r), .val (.slice i.A i.n i.q), .val (.int .i64 i.W), .val (.int .i64 i.H), .val (.slice i.B i.pn i.pq), .val (.slice i.C i.sn i.sq), .val (.int .i64 i.a), .val (.int .i64 i.b), .val (.int .i64 i.c), .val (.int .i64 i.d), .val (.int .i64 i.e), .val (.int .i64 i.f), .val (.bool i.s), .val (.bool i.t), .val (.int .u8 i.al), .val (.int .i64 i.bl), .val (.bool i.ov), .val (.bool i.iso), .val (.bool i.kn)]
abbrev ItemD.cells (i : ItemD) : List Value := [.int .i64 i.K, .slice i.RA i.rn i.rq, .int .i64 i.k, .int .u8 (i.I 0), .int .u8 (i.I 1), .int .u8 (i.I 2), .int .u8 (i.I 3), .int .u8 (i.I 4), .int .u8 (i.I 5), .int .u8 (i.I 6), .int .u8 (i.I 7), .int .i64 i.fx, .int .i64 i.fy, .int .i64 i.tx, .int .i64 i.ty, .int .i64 i.r, .slice i.A i.n i.q, .int .i64 i.W, .int .i64 i.H, .slice i.B i.pn i.pq, .slice i.C i.sn i.sq, .int .i64 i.a, .int .i64 i.b, .int .i64 i.c, .int .i64 i.d, .int .i64 i.e, .int .i64 i.f, .bool i.s, .bool i.t, .int .u8 i.al, .int .i64 i.bl, .bool i.ov, .bool i.iso, .bool i.kn]
def nosB (k : Int) (i z p : Bool) : Bool := decide (k = 0) && i && z && p
def ItemD.nos (i : ItemD) : Bool := nosB i.k (inkZ (i.I 0) (i.I 1) (i.I 2) (i.I 3) (i.I 4) (i.I 5) (i.I 6) (i.I 7)) (zeroB i.fx i.fy i.tx i.ty i.r i.n) (plainB i.W i.H i.pn i.sn i.a i.b i.c i.d i.e i.f i.s i.t)
/-- The error of an item. -/
def itemE (K : Int) (rn : Nat) (nos : Bool) (al bl : Int) (ov iso kn : Bool) (o rE sE : Int) : Int :=
  if K < 0 ∨ 2 < K then 14
  else if (K = 0 ∧ (iso = true ∨ kn = true)) ∨ (K = 1 ∧ (0 < rn ∨ ov = true ∨ nos = false)) ∨ (K = 2 ∧ (0 < rn ∨ ov = true ∨ nos = false ∨ iso = true ∨ kn = true ∨ ¬ al = 0 ∨ ¬ bl = 0)) then 4
  else if K = 2 ∧ o = 0 then 18
  else if K = 1 ∧ 16 ≤ o then 15
  else if bl < 0 ∨ 12 ≤ bl ∨ (K = 1 ∧ iso = false ∧ ¬ bl = 0) then 1
  else if ¬ K = 0 then 0
  else if ¬ rE = 0 then rE else sE
section
variable {k : Int} {I : Nat → Int} {fx fy tx ty r : Int} {A : Option Addr} {n q : Nat} {W H : Int} {B : Option Addr} {pn pq : Nat} {C : Option Addr} {sn sq : Nat} {a b c d e f : Int} {s t : Bool} {G : Mem}
set_option maxHeartbeats 4000000 in
theorem noSourceK_gives : Gives Try.prog 109 [srcA k I fx fy tx ty r (.slice A n q) W H (.slice B pn pq) (.slice C sn sq) a b c d e f s t] G (.val (.bool (nosB k (inkZ (I 0) (I 1) (I 2) (I 3) (I 4) (I 5) (I 6) (I 7)) (zeroB fx fy tx ty r n) (plainB W H pn sn a b c d e f s t)))) := by
  have gz := isZero_gives (k := k) (I := I) (fx := fx) (fy := fy) (tx := tx) (ty := ty) (r := r) (A := A) (n := n) (q := q) (W := W) (H := H) (B := B) (pn := pn) (pq := pq) (C := C) (sn := sn) (sq := sq) (a := a) (b := b) (c := c) (d := d) (e := e) (f := f) (s := s) (t := t) (G := G)
  have gp := noImage_gives (W := W) (H := H) (B := B) (pn := pn) (pq := pq) (C := C) (sn := sn) (sq := sq) (a := a) (b := b) (c := c) (d := d) (e := e) (f := f) (s := s) (t := t) (G := G)
  have gi := inks_zero (I := I)
  refine Gives_of tab_ok Try.func109 ?_
  generalize zeroB fx fy tx ty r n = z at *
  generalize plainB W H pn sn a b c d e f s t = p at *
  generalize inkZ (I 0) (I 1) (I 2) (I 3) (I 4) (I 5) (I 6) (I 7) = i at *
  unfold nosB
  by_cases k0 : k = 0
  · subst k0
    cases i
    · clear gz gp
      (repeat' ((try (conv => whnf)); (first | (with_reducible refine condP_true ?_) | (with_reducible refine condP_false ?_) | (with_reducible refine condP_not ?_) | (with_reducible refine condP_and ?_) | ((with_reducible refine condP_dt ?_ ?_); (· omega)) | ((with_reducible refine condP_df ?_ ?_); (· omega)) | ((with_reducible refine condP_yes ?_ ?_); (· assumption)) | ((with_reducible refine condP_no ?_ ?_); (· assumption)) | ((with_reducible refine ArP_i64 ?_ ?_); (· omega)) | ((with_reducible refine mustP.mk ?_ ?_); (· first | omega | rfl | (dsimp only; omega))) | (with_reducible refine EqP_nil tab_ok ?_) | (with_reducible refine EqP_sli tab_ok ?_) | (with_reducible refine DrawP_auto tab_ok (by kernel_rfl) (by decide +kernel) ?_) | (with_reducible refine DrawP_auto2 tab_ok (by kernel_rfl) (by decide +kernel) ?_) | (with_reducible refine eq29 ?_) | (with_reducible refine eq31 ?_) | (with_reducible refine eq48 ?_) | (with_reducible refine eq52 ?_) | (with_reducible refine eq83 ?_) | (with_reducible refine eq110 ?_) | (with_reducible refine eq136 ?_) | (with_reducible refine eq155 ?_) | (with_reducible refine eq163 ?_) | (with_reducible refine eq170 ?_) | (with_reducible refine condP_dec (fun h0 => ?_) (fun h0 => ?_)))))
      all_goals first | exact ⟨rfl, rfl⟩ | exact absurd (gi.2 ⟨by assumption, by assumption, by assumption, by assumption, by assumption, by assumption, by assumption, by assumption⟩) (by simp)
    · obtain ⟨e0, e1, e2, e3, e4, e5, e6, e7⟩ := gi.1 rfl
      cases z <;> cases p <;> ((repeat ((try (conv => whnf)); (first | (with_reducible refine condP_true ?_) | (with_reducible refine condP_false ?_) | (with_reducible refine condP_not ?_) | (with_reducible refine condP_and ?_) | ((with_reducible refine condP_dt ?_ ?_); (· omega)) | ((with_reducible refine condP_df ?_ ?_); (· omega)) | ((with_reducible refine condP_yes ?_ ?_); (· assumption)) | ((with_reducible refine condP_no ?_ ?_); (· assumption)) | ((with_reducible refine ArP_i64 ?_ ?_); (· omega)) | ((with_reducible refine mustP.mk ?_ ?_); (· first | omega | rfl | (dsimp only; omega))) | (with_reducible refine EqP_nil tab_ok ?_) | (with_reducible refine EqP_sli tab_ok ?_) | (with_reducible refine DrawP_auto tab_ok (by kernel_rfl) (by decide +kernel) ?_) | (with_reducible refine DrawP_auto2 tab_ok (by kernel_rfl) (by decide +kernel) ?_) | (with_reducible refine eq29 ?_) | (with_reducible refine eq31 ?_) | (with_reducible refine eq48 ?_) | (with_reducible refine eq52 ?_) | (with_reducible refine eq83 ?_) | (with_reducible refine eq110 ?_) | (with_reducible refine eq136 ?_) | (with_reducible refine eq155 ?_) | (with_reducible refine eq163 ?_) | (with_reducible refine eq170 ?_) | (with_reducible refine CallP_gives (fun vs w => by kernel_rfl) (by kernel_rfl) (gz) ?_) | (with_reducible refine RCallP_gives (fun vs w => by kernel_rfl) (by kernel_rfl) (gz) ?_) | (with_reducible refine CallP_gives (fun vs w => by kernel_rfl) (by kernel_rfl) (gp) ?_) | (with_reducible refine RCallP_gives (fun vs w => by kernel_rfl) (by kernel_rfl) (gp) ?_))))) <;> exact ⟨rfl, rfl⟩
  · (repeat ((try (conv => whnf)); (first | (with_reducible refine condP_true ?_) | (with_reducible refine condP_false ?_) | (with_reducible refine condP_not ?_) | (with_reducible refine condP_and ?_) | ((with_reducible refine condP_dt ?_ ?_); (· omega)) | ((with_reducible refine condP_df ?_ ?_); (· omega)) | ((with_reducible refine condP_yes ?_ ?_); (· assumption)) | ((with_reducible refine condP_no ?_ ?_); (· assumption)) | ((with_reducible refine ArP_i64 ?_ ?_); (· omega)) | ((with_reducible refine mustP.mk ?_ ?_); (· first | omega | rfl | (dsimp only; omega))) | (with_reducible refine EqP_nil tab_ok ?_) | (with_reducible refine EqP_sli tab_ok ?_) | (with_reducible refine DrawP_auto tab_ok (by kernel_rfl) (by decide +kernel) ?_) | (with_reducible refine DrawP_auto2 tab_ok (by kernel_rfl) (by decide +kernel) ?_) | (with_reducible refine eq29 ?_) | (with_reducible refine eq31 ?_) | (with_reducible refine eq48 ?_) | (with_reducible refine eq52 ?_) | (with_reducible refine eq83 ?_) | (with_reducible refine eq110 ?_) | (with_reducible refine eq136 ?_) | (with_reducible refine eq155 ?_) | (with_reducible refine eq163 ?_) | (with_reducible refine eq170 ?_))))
    exact ⟨by rw [decide_eq_false k0]; rfl, rfl⟩
theorem PlainK_gives : Gives Try.prog 67 [imgA W H (.slice B pn pq) (.slice C sn sq) a b c d e f s t] G (.val (.bool (plainB W H pn sn a b c d e f s t))) :=
  Gives.of_callsA (fun vs h => img_is vs h) (by rw [AV.rel]) fun w' _ => plainImage_any W H B C pn pq sn sq a b c d e f s t w'
set_option maxHeartbeats 4000000 in
theorem RnoSourceK_gives : Gives Try.prog 111 [srcA k I fx fy tx ty r (.slice A n q) W H (.slice B pn pq) (.slice C sn sq) a b c d e f s t] G (.val (.bool (nosB k (inkZ (I 0) (I 1) (I 2) (I 3) (I 4) (I 5) (I 6) (I 7)) (zeroB fx fy tx ty r n) (plainB W H pn sn a b c d e f s t)))) := by
  have gp := PlainK_gives (W := W) (H := H) (B := B) (pn := pn) (pq := pq) (C := C) (sn := sn) (sq := sq) (a := a) (b := b) (c := c) (d := d) (e := e) (f := f) (s := s) (t := t) (G := G)
  have gi := inks_zero (I := I)
  have gz := zero_iff (fx := fx) (fy := fy) (tx := tx) (ty := ty) (r := r) (n := n)
  refine Gives_of tab_ok Try.func111 ?_
  generalize zeroB fx fy tx ty r n = z at *
  generalize plainB W H pn sn a b c d e f s t = p at *
  generalize inkZ (I 0) (I 1) (I 2) (I 3) (I 4) (I 5) (I 6) (I 7) = i at *
  unfold nosB
  by_cases k0 : k = 0
  · subst k0
    cases i
    · clear gz gp
      (repeat' ((try (conv => whnf)); (first | (with_reducible refine condP_true ?_) | (with_reducible refine condP_false ?_) | (with_reducible refine condP_not ?_) | (with_reducible refine condP_and ?_) | ((with_reducible refine condP_dt ?_ ?_); (· omega)) | ((with_reducible refine condP_df ?_ ?_); (· omega)) | ((with_reducible refine condP_yes ?_ ?_); (· assumption)) | ((with_reducible refine condP_no ?_ ?_); (· assumption)) | ((with_reducible refine ArP_i64 ?_ ?_); (· omega)) | ((with_reducible refine mustP.mk ?_ ?_); (· first | omega | rfl | (dsimp only; omega))) | (with_reducible refine EqP_nil tab_ok ?_) | (with_reducible refine EqP_sli tab_ok ?_) | (with_reducible refine DrawP_auto tab_ok (by kernel_rfl) (by decide +kernel) ?_) | (with_reducible refine DrawP_auto2 tab_ok (by kernel_rfl) (by decide +kernel) ?_) | (with_reducible refine eq29 ?_) | (with_reducible refine eq31 ?_) | (with_reducible refine eq48 ?_) | (with_reducible refine eq52 ?_) | (with_reducible refine eq83 ?_) | (with_reducible refine eq110 ?_) | (with_reducible refine eq136 ?_) | (with_reducible refine eq155 ?_) | (with_reducible refine eq163 ?_) | (with_reducible refine eq170 ?_) | (with_reducible refine condP_dec (fun h0 => ?_) (fun h0 => ?_)))))
      all_goals first | exact ⟨rfl, rfl⟩ | exact absurd (gi.2 ⟨by assumption, by assumption, by assumption, by assumption, by assumption, by assumption, by assumption, by assumption⟩) (by simp)
    · obtain ⟨e0, e1, e2, e3, e4, e5, e6, e7⟩ := gi.1 rfl
      cases z
      · clear gi gp
        (repeat' ((try (conv => whnf)); (first | (with_reducible refine condP_true ?_) | (with_reducible refine condP_false ?_) | (with_reducible refine condP_not ?_) | (with_reducible refine condP_and ?_) | ((with_reducible refine condP_dt ?_ ?_); (· omega)) | ((with_reducible refine condP_df ?_ ?_); (· omega)) | ((with_reducible refine condP_yes ?_ ?_); (· assumption)) | ((with_reducible refine condP_no ?_ ?_); (· assumption)) | ((with_reducible refine ArP_i64 ?_ ?_); (· omega)) | ((with_reducible refine mustP.mk ?_ ?_); (· first | omega | rfl | (dsimp only; omega))) | (with_reducible refine EqP_nil tab_ok ?_) | (with_reducible refine EqP_sli tab_ok ?_) | (with_reducible refine DrawP_auto tab_ok (by kernel_rfl) (by decide +kernel) ?_) | (with_reducible refine DrawP_auto2 tab_ok (by kernel_rfl) (by decide +kernel) ?_) | (with_reducible refine eq29 ?_) | (with_reducible refine eq31 ?_) | (with_reducible refine eq48 ?_) | (with_reducible refine eq52 ?_) | (with_reducible refine eq83 ?_) | (with_reducible refine eq110 ?_) | (with_reducible refine eq136 ?_) | (with_reducible refine eq155 ?_) | (with_reducible refine eq163 ?_) | (with_reducible refine eq170 ?_) | (with_reducible refine condP_dec (fun h0 => ?_) (fun h0 => ?_)))))
        all_goals first | exact ⟨rfl, rfl⟩ | exact absurd (gz.2 ⟨by assumption, by assumption, by assumption, by assumption, by assumption, by omega⟩) (by simp)
      · obtain ⟨z0, z1, z2, z3, z4, z5⟩ := gz.1 rfl
        cases p <;> ((repeat ((try (conv => whnf)); (first | (with_reducible refine condP_true ?_) | (with_reducible refine condP_false ?_) | (with_reducible refine condP_not ?_) | (with_reducible refine condP_and ?_) | ((with_reducible refine condP_dt ?_ ?_); (· omega)) | ((with_reducible refine condP_df ?_ ?_); (· omega)) | ((with_reducible refine condP_yes ?_ ?_); (· assumption)) | ((with_reducible refine condP_no ?_ ?_); (· assumption)) | ((with_reducible refine ArP_i64 ?_ ?_); (· omega)) | ((with_reducible refine mustP.mk ?_ ?_); (· first | omega | rfl | (dsimp only; omega))) | (with_reducible refine EqP_nil tab_ok ?_) | (with_reducible refine EqP_sli tab_ok ?_) | (with_reducible refine DrawP_auto tab_ok (by kernel_rfl) (by decide +kernel) ?_) | (with_reducible refine DrawP_auto2 tab_ok (by kernel_rfl) (by decide +kernel) ?_) | (with_reducible refine eq29 ?_) | (with_reducible refine eq31 ?_) | (with_reducible refine eq48 ?_) | (with_reducible refine eq52 ?_) | (with_reducible refine eq83 ?_) | (with_reducible refine eq110 ?_) | (with_reducible refine eq136 ?_) | (with_reducible refine eq155 ?_) | (with_reducible refine eq163 ?_) | (with_reducible refine eq170 ?_) | (with_reducible refine CallP_gives (fun vs w => by kernel_rfl) (by kernel_rfl) (gp) ?_) | (with_reducible refine RCallP_gives (fun vs w => by kernel_rfl) (by kernel_rfl) (gp) ?_))))) <;> exact ⟨rfl, rfl⟩
  · (repeat ((try (conv => whnf)); (first | (with_reducible refine condP_true ?_) | (with_reducible refine condP_false ?_) | (with_reducible refine condP_not ?_) | (with_reducible refine condP_and ?_) | ((with_reducible refine condP_dt ?_ ?_); (· omega)) | ((with_reducible refine condP_df ?_ ?_); (· omega)) | ((with_reducible refine condP_yes ?_ ?_); (· assumption)) | ((with_reducible refine condP_no ?_ ?_); (· assumption)) | ((with_reducible refine ArP_i64 ?_ ?_); (· omega)) | ((with_reducible refine mustP.mk ?_ ?_); (· first | omega | rfl | (dsimp only; omega))) | (with_reducible refine EqP_nil tab_ok ?_) | (with_reducible refine EqP_sli tab_ok ?_) | (with_reducible refine DrawP_auto tab_ok (by kernel_rfl) (by decide +kernel) ?_) | (with_reducible refine DrawP_auto2 tab_ok (by kernel_rfl) (by decide +kernel) ?_) | (with_reducible refine eq29 ?_) | (with_reducible refine eq31 ?_) | (with_reducible refine eq48 ?_) | (with_reducible refine eq52 ?_) | (with_reducible refine eq83 ?_) | (with_reducible refine eq110 ?_) | (with_reducible refine eq136 ?_) | (with_reducible refine eq155 ?_) | (with_reducible refine eq163 ?_) | (with_reducible refine eq170 ?_))))
    exact ⟨by rw [decide_eq_false k0]; rfl, rfl⟩
end
section
variable {i : ItemD} {G : Mem} {o rE sE : Int} {m : Nat}
theorem nos_gives : Gives Try.prog 109 [itemSrc i] G (.val (.bool i.nos)) := noSourceK_gives
theorem Rnos_gives : Gives Try.prog 111 [itemSrc i] G (.val (.bool i.nos)) := RnoSourceK_gives
set_option maxHeartbeats 16000000 in
theorem checkItem_gives (hR : Gives Try.prog 110 [.val (.slice i.RA i.rn i.rq)] G (.val (.int .i64 rE))) (hS : Gives Try.prog 81 [itemSrc i, .val (.int .i64 m)] G (.val (.int .i64 sE))) :
    Gives Try.prog 78 [itemA i, .val (.int .i64 m), .val (.int .i64 o)] G (.val (.int .i64 (itemE i.K i.rn i.nos i.al i.bl i.ov i.iso i.kn o rE sE))) := by
  have gn := nos_gives (i := i) (G := G)
  unfold ItemD.nos at gn ⊢
  obtain ⟨K, RA, rn, rq, k, I, fx, fy, tx, ty, r, A, n, q, W, H, B, pn, pq, C, sn, sq, a, b, c, d, e, f, s, t, al, bl, ov, iso, kn⟩ := i
  simp only [itemA, itemSrc] at hS gn ⊢
  dsimp only at *
  refine Gives_of tab_ok Try.func78 ?_
  generalize nosB k (inkZ (I 0) (I 1) (I 2) (I 3) (I 4) (I 5) (I 6) (I 7)) (zeroB fx fy tx ty r n) (plainB W H pn sn a b c d e f s t) = z at *
  by_cases k0 : K = 0
  · subst k0
    clear gn
    cases iso <;> cases kn <;> ((repeat' ((try (conv => whnf)); (first | (with_reducible refine condP_true ?_) | (with_reducible refine condP_false ?_) | (with_reducible refine condP_not ?_) | (with_reducible refine condP_and ?_) | ((with_reducible refine condP_dt ?_ ?_); (· omega)) | ((with_reducible refine condP_df ?_ ?_); (· omega)) | ((with_reducible refine condP_yes ?_ ?_); (· assumption)) | ((with_reducible refine condP_no ?_ ?_); (· assumption)) | ((with_reducible refine ArP_i64 ?_ ?_); (· omega)) | ((with_reducible refine mustP.mk ?_ ?_); (· first | omega | rfl | (dsimp only; omega))) | (with_reducible refine EqP_nil tab_ok ?_) | (with_reducible refine EqP_sli tab_ok ?_) | (with_reducible refine DrawP_auto tab_ok (by kernel_rfl) (by decide +kernel) ?_) | (with_reducible refine DrawP_auto2 tab_ok (by kernel_rfl) (by decide +kernel) ?_) | (with_reducible refine eq29 ?_) | (with_reducible refine eq31 ?_) | (with_reducible refine eq48 ?_) | (with_reducible refine eq52 ?_) | (with_reducible refine eq83 ?_) | (with_reducible refine eq110 ?_) | (with_reducible refine eq136 ?_) | (with_reducible refine eq155 ?_) | (with_reducible refine eq163 ?_) | (with_reducible refine eq170 ?_) | (with_reducible refine CallP_gives (fun vs w => by kernel_rfl) (by kernel_rfl) (hR) ?_) | (with_reducible refine RCallP_gives (fun vs w => by kernel_rfl) (by kernel_rfl) (hR) ?_) | (with_reducible refine CallP_gives (fun vs w => by kernel_rfl) (by kernel_rfl) (hS) ?_) | (with_reducible refine RCallP_gives (fun vs w => by kernel_rfl) (by kernel_rfl) (hS) ?_) | (with_reducible refine condP_dec (fun h0 => ?_) (fun h0 => ?_)))))) <;> exact ⟨by first | rfl | (rw [AV.val.injEq, Value.int.injEq]; exact ⟨rfl, by (try dsimp only at *); unfold itemE; simp <;> (repeat' split) <;> omega⟩), rfl⟩
  clear hR hS
  by_cases k1 : K = 1
  · subst k1
    cases z <;> cases iso <;> cases ov <;> ((repeat' ((try (conv => whnf)); (first | (with_reducible refine condP_true ?_) | (with_reducible refine condP_false ?_) | (with_reducible refine condP_not ?_) | (with_reducible refine condP_and ?_) | ((with_reducible refine condP_dt ?_ ?_); (· omega)) | ((with_reducible refine condP_df ?_ ?_); (· omega)) | ((with_reducible refine condP_yes ?_ ?_); (· assumption)) | ((with_reducible refine condP_no ?_ ?_); (· assumption)) | ((with_reducible refine ArP_i64 ?_ ?_); (· omega)) | ((with_reducible refine mustP.mk ?_ ?_); (· first | omega | rfl | (dsimp only; omega))) | (with_reducible refine EqP_nil tab_ok ?_) | (with_reducible refine EqP_sli tab_ok ?_) | (with_reducible refine DrawP_auto tab_ok (by kernel_rfl) (by decide +kernel) ?_) | (with_reducible refine DrawP_auto2 tab_ok (by kernel_rfl) (by decide +kernel) ?_) | (with_reducible refine eq29 ?_) | (with_reducible refine eq31 ?_) | (with_reducible refine eq48 ?_) | (with_reducible refine eq52 ?_) | (with_reducible refine eq83 ?_) | (with_reducible refine eq110 ?_) | (with_reducible refine eq136 ?_) | (with_reducible refine eq155 ?_) | (with_reducible refine eq163 ?_) | (with_reducible refine eq170 ?_) | (with_reducible refine CallP_gives (fun vs w => by kernel_rfl) (by kernel_rfl) (gn) ?_) | (with_reducible refine RCallP_gives (fun vs w => by kernel_rfl) (by kernel_rfl) (gn) ?_) | (with_reducible refine condP_dec (fun h0 => ?_) (fun h0 => ?_)))))) <;> exact ⟨by first | rfl | (rw [AV.val.injEq, Value.int.injEq]; exact ⟨rfl, by (try dsimp only at *); unfold itemE; simp <;> (repeat' split) <;> omega⟩), rfl⟩
  by_cases k2 : K = 2
  · subst k2
    cases z <;> cases iso <;> cases kn <;> cases ov <;> ((repeat' ((try (conv => whnf)); (first | (with_reducible refine condP_true ?_) | (with_reducible refine condP_false ?_) | (with_reducible refine condP_not ?_) | (with_reducible refine condP_and ?_) | ((with_reducible refine condP_dt ?_ ?_); (· omega)) | ((with_reducible refine condP_df ?_ ?_); (· omega)) | ((with_reducible refine condP_yes ?_ ?_); (· assumption)) | ((with_reducible refine condP_no ?_ ?_); (· assumption)) | ((with_reducible refine ArP_i64 ?_ ?_); (· omega)) | ((with_reducible refine mustP.mk ?_ ?_); (· first | omega | rfl | (dsimp only; omega))) | (with_reducible refine EqP_nil tab_ok ?_) | (with_reducible refine EqP_sli tab_ok ?_) | (with_reducible refine DrawP_auto tab_ok (by kernel_rfl) (by decide +kernel) ?_) | (with_reducible refine DrawP_auto2 tab_ok (by kernel_rfl) (by decide +kernel) ?_) | (with_reducible refine eq29 ?_) | (with_reducible refine eq31 ?_) | (with_reducible refine eq48 ?_) | (with_reducible refine eq52 ?_) | (with_reducible refine eq83 ?_) | (with_reducible refine eq110 ?_) | (with_reducible refine eq136 ?_) | (with_reducible refine eq155 ?_) | (with_reducible refine eq163 ?_) | (with_reducible refine eq170 ?_) | (with_reducible refine CallP_gives (fun vs w => by kernel_rfl) (by kernel_rfl) (gn) ?_) | (with_reducible refine RCallP_gives (fun vs w => by kernel_rfl) (by kernel_rfl) (gn) ?_) | (with_reducible refine condP_dec (fun h0 => ?_) (fun h0 => ?_)))))) <;> exact ⟨by first | rfl | (rw [AV.val.injEq, Value.int.injEq]; exact ⟨rfl, by (try dsimp only at *); unfold itemE; simp <;> (repeat' split) <;> omega⟩), rfl⟩
  · clear gn
    ((repeat' ((try (conv => whnf)); (first | (with_reducible refine condP_true ?_) | (with_reducible refine condP_false ?_) | (with_reducible refine condP_not ?_) | (with_reducible refine condP_and ?_) | ((with_reducible refine condP_dt ?_ ?_); (· omega)) | ((with_reducible refine condP_df ?_ ?_); (· omega)) | ((with_reducible refine condP_yes ?_ ?_); (· assumption)) | ((with_reducible refine condP_no ?_ ?_); (· assumption)) | ((with_reducible refine ArP_i64 ?_ ?_); (· omega)) | ((with_reducible refine mustP.mk ?_ ?_); (· first | omega | rfl | (dsimp only; omega))) | (with_reducible refine EqP_nil tab_ok ?_) | (with_reducible refine EqP_sli tab_ok ?_) | (with_reducible refine DrawP_auto tab_ok (by kernel_rfl) (by decide +kernel) ?_) | (with_reducible refine DrawP_auto2 tab_ok (by kernel_rfl) (by decide +kernel) ?_) | (with_reducible refine eq29 ?_) | (with_reducible refine eq31 ?_) | (with_reducible refine eq48 ?_) | (with_reducible refine eq52 ?_) | (with_reducible refine eq83 ?_) | (with_reducible refine eq110 ?_) | (with_reducible refine eq136 ?_) | (with_reducible refine eq155 ?_) | (with_reducible refine eq163 ?_) | (with_reducible refine eq170 ?_) | (with_reducible refine condP_dec (fun h0 => ?_) (fun h0 => ?_)))))) <;> exact ⟨by rw [AV.val.injEq, Value.int.injEq]; exact ⟨rfl, by (try dsimp only at *); unfold itemE; rw [if_pos (by omega)]⟩, rfl⟩
set_option maxHeartbeats 16000000 in
theorem itemCheck_gives (hal : 0 ≤ i.al) (ho : 0 ≤ o ∧ o ≤ 16) (hR : Gives Try.prog 112 [.val (.slice i.RA i.rn i.rq)] G (.val (.int .i64 rE))) (hS : Gives Try.prog 44 [itemSrc i, .val (.int .i64 m)] G (.val (.int .i64 sE))) :
    Gives Try.prog 80 [itemA i, .val (.int .i64 m), .val (.int .i64 o)] G (.val (.int .i64 (itemE i.K i.rn i.nos i.al i.bl i.ov i.iso i.kn o rE sE))) := by
  have gn := Rnos_gives (i := i) (G := G)
  unfold ItemD.nos at gn ⊢
  obtain ⟨K, RA, rn, rq, k, I, fx, fy, tx, ty, r, A, n, q, W, H, B, pn, pq, C, sn, sq, a, b, c, d, e, f, s, t, al, bl, ov, iso, kn⟩ := i
  simp only [itemA, itemSrc] at hS gn ⊢
  dsimp only at *
  refine Gives_of tab_ok Try.func80 ?_
  generalize nosB k (inkZ (I 0) (I 1) (I 2) (I 3) (I 4) (I 5) (I 6) (I 7)) (zeroB fx fy tx ty r n) (plainB W H pn sn a b c d e f s t) = z at *
  by_cases k0 : K = 0
  · subst k0
    clear gn
    cases iso <;> cases kn <;> ((repeat' ((try (conv => whnf)); (first | (with_reducible refine condP_true ?_) | (with_reducible refine condP_false ?_) | (with_reducible refine condP_not ?_) | (with_reducible refine condP_and ?_) | ((with_reducible refine condP_dt ?_ ?_); (· omega)) | ((with_reducible refine condP_df ?_ ?_); (· omega)) | ((with_reducible refine condP_yes ?_ ?_); (· assumption)) | ((with_reducible refine condP_no ?_ ?_); (· assumption)) | ((with_reducible refine ArP_i64 ?_ ?_); (· omega)) | ((with_reducible refine mustP.mk ?_ ?_); (· first | omega | rfl | (dsimp only; omega))) | (with_reducible refine EqP_nil tab_ok ?_) | (with_reducible refine EqP_sli tab_ok ?_) | (with_reducible refine DrawP_auto tab_ok (by kernel_rfl) (by decide +kernel) ?_) | (with_reducible refine DrawP_auto2 tab_ok (by kernel_rfl) (by decide +kernel) ?_) | (with_reducible refine eq29 ?_) | (with_reducible refine eq31 ?_) | (with_reducible refine eq48 ?_) | (with_reducible refine eq52 ?_) | (with_reducible refine eq83 ?_) | (with_reducible refine eq110 ?_) | (with_reducible refine eq136 ?_) | (with_reducible refine eq155 ?_) | (with_reducible refine eq163 ?_) | (with_reducible refine eq170 ?_) | (with_reducible refine CallP_enter tab_ok Try.func16 (fun vs w => by kernel_rfl) (by rfl) ?_) | (with_reducible refine CallP_gives (fun vs w => by kernel_rfl) (by kernel_rfl) (hR) ?_) | (with_reducible refine RCallP_gives (fun vs w => by kernel_rfl) (by kernel_rfl) (hR) ?_) | (with_reducible refine CallP_gives (fun vs w => by kernel_rfl) (by kernel_rfl) (hS) ?_) | (with_reducible refine RCallP_gives (fun vs w => by kernel_rfl) (by kernel_rfl) (hS) ?_) | (with_reducible refine condP_dec (fun h0 => ?_) (fun h0 => ?_)))))) <;> exact ⟨by first | rfl | (rw [AV.val.injEq, Value.int.injEq]; exact ⟨rfl, by (try dsimp only at *); unfold itemE; simp <;> (repeat' split) <;> omega⟩), rfl⟩
  clear hR hS
  by_cases k1 : K = 1
  · subst k1
    cases z <;> cases iso <;> cases ov <;> ((repeat' ((try (conv => whnf)); (first | (with_reducible refine condP_true ?_) | (with_reducible refine condP_false ?_) | (with_reducible refine condP_not ?_) | (with_reducible refine condP_and ?_) | ((with_reducible refine condP_dt ?_ ?_); (· omega)) | ((with_reducible refine condP_df ?_ ?_); (· omega)) | ((with_reducible refine condP_yes ?_ ?_); (· assumption)) | ((with_reducible refine condP_no ?_ ?_); (· assumption)) | ((with_reducible refine ArP_i64 ?_ ?_); (· omega)) | ((with_reducible refine mustP.mk ?_ ?_); (· first | omega | rfl | (dsimp only; omega))) | (with_reducible refine EqP_nil tab_ok ?_) | (with_reducible refine EqP_sli tab_ok ?_) | (with_reducible refine DrawP_auto tab_ok (by kernel_rfl) (by decide +kernel) ?_) | (with_reducible refine DrawP_auto2 tab_ok (by kernel_rfl) (by decide +kernel) ?_) | (with_reducible refine eq29 ?_) | (with_reducible refine eq31 ?_) | (with_reducible refine eq48 ?_) | (with_reducible refine eq52 ?_) | (with_reducible refine eq83 ?_) | (with_reducible refine eq110 ?_) | (with_reducible refine eq136 ?_) | (with_reducible refine eq155 ?_) | (with_reducible refine eq163 ?_) | (with_reducible refine eq170 ?_) | (with_reducible refine CallP_enter tab_ok Try.func16 (fun vs w => by kernel_rfl) (by rfl) ?_) | (with_reducible refine CallP_gives (fun vs w => by kernel_rfl) (by kernel_rfl) (gn) ?_) | (with_reducible refine RCallP_gives (fun vs w => by kernel_rfl) (by kernel_rfl) (gn) ?_) | (with_reducible refine condP_dec (fun h0 => ?_) (fun h0 => ?_)))))) <;> exact ⟨by first | rfl | (rw [AV.val.injEq, Value.int.injEq]; exact ⟨rfl, by (try dsimp only at *); unfold itemE; simp <;> (repeat' split) <;> omega⟩), rfl⟩
  by_cases k2 : K = 2
  · subst k2
    cases z <;> cases iso <;> cases kn <;> cases ov <;> ((repeat' ((try (conv => whnf)); (first | (with_reducible refine condP_true ?_) | (with_reducible refine condP_false ?_) | (with_reducible refine condP_not ?_) | (with_reducible refine condP_and ?_) | ((with_reducible refine condP_dt ?_ ?_); (· omega)) | ((with_reducible refine condP_df ?_ ?_); (· omega)) | ((with_reducible refine condP_yes ?_ ?_); (· assumption)) | ((with_reducible refine condP_no ?_ ?_); (· assumption)) | ((with_reducible refine ArP_i64 ?_ ?_); (· omega)) | ((with_reducible refine mustP.mk ?_ ?_); (· first | omega | rfl | (dsimp only; omega))) | (with_reducible refine EqP_nil tab_ok ?_) | (with_reducible refine EqP_sli tab_ok ?_) | (with_reducible refine DrawP_auto tab_ok (by kernel_rfl) (by decide +kernel) ?_) | (with_reducible refine DrawP_auto2 tab_ok (by kernel_rfl) (by decide +kernel) ?_) | (with_reducible refine eq29 ?_) | (with_reducible refine eq31 ?_) | (with_reducible refine eq48 ?_) | (with_reducible refine eq52 ?_) | (with_reducible refine eq83 ?_) | (with_reducible refine eq110 ?_) | (with_reducible refine eq136 ?_) | (with_reducible refine eq155 ?_) | (with_reducible refine eq163 ?_) | (with_reducible refine eq170 ?_) | (with_reducible refine CallP_enter tab_ok Try.func16 (fun vs w => by kernel_rfl) (by rfl) ?_) | (with_reducible refine CallP_gives (fun vs w => by kernel_rfl) (by kernel_rfl) (gn) ?_) | (with_reducible refine RCallP_gives (fun vs w => by kernel_rfl) (by kernel_rfl) (gn) ?_) | (with_reducible refine condP_dec (fun h0 => ?_) (fun h0 => ?_)))))) <;> exact ⟨by first | rfl | (rw [AV.val.injEq, Value.int.injEq]; exact ⟨rfl, by (try dsimp only at *); unfold itemE; simp <;> (repeat' split) <;> omega⟩), rfl⟩
  · clear gn
    ((repeat' ((try (conv => whnf)); (first | (with_reducible refine condP_true ?_) | (with_reducible refine condP_false ?_) | (with_reducible refine condP_not ?_) | (with_reducible refine condP_and ?_) | ((with_reducible refine condP_dt ?_ ?_); (· omega)) | ((with_reducible refine condP_df ?_ ?_); (· omega)) | ((with_reducible refine condP_yes ?_ ?_); (· assumption)) | ((with_reducible refine condP_no ?_ ?_); (· assumption)) | ((with_reducible refine ArP_i64 ?_ ?_); (· omega)) | ((with_reducible refine mustP.mk ?_ ?_); (· first | omega | rfl | (dsimp only; omega))) | (with_reducible refine EqP_nil tab_ok ?_) | (with_reducible refine EqP_sli tab_ok ?_) | (with_reducible refine DrawP_auto tab_ok (by kernel_rfl) (by decide +kernel) ?_) | (with_reducible refine DrawP_auto2 tab_ok (by kernel_rfl) (by decide +kernel) ?_) | (with_reducible refine eq29 ?_) | (with_reducible refine eq31 ?_) | (with_reducible refine eq48 ?_) | (with_reducible refine eq52 ?_) | (with_reducible refine eq83 ?_) | (with_reducible refine eq110 ?_) | (with_reducible refine eq136 ?_) | (with_reducible refine eq155 ?_) | (with_reducible refine eq163 ?_) | (with_reducible refine eq170 ?_) | (with_reducible refine CallP_enter tab_ok Try.func16 (fun vs w => by kernel_rfl) (by rfl) ?_) | (with_reducible refine condP_dec (fun h0 => ?_) (fun h0 => ?_)))))) <;> exact ⟨by rw [AV.val.injEq, Value.int.injEq]; exact ⟨rfl, by (try dsimp only at *); unfold itemE; rw [if_pos (by omega)]⟩, rfl⟩
end
end Go.Proofs.Ytampdegpfndggaa
