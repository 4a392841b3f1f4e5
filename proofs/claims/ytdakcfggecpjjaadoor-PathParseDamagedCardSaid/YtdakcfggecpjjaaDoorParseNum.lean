/-
  path.number: a decimal number of at most five digits.
-/
import Derived.Test.YtdakcfggecpjjaaDoorParseLaw
import Derived.Test.YtdakcfggecpjjaaDoorTab
import Derived.Test.YtdakcfggecpjjaaDoorEw
namespace Go.Proofs.YtdakcfggecpjjaaDoor
open Go.RowKit
set_option linter.unusedVariables false
set_option linter.unusedSimpArgs false
set_option maxRecDepth 20000
theorem ArP_u8 {r : Int} {K : Int → Prop} (e : 0 ≤ r ∧ r ≤ 255) (h : K r) : ArP .u8 r K := ArP_id (IntWalk.u8_in _ e) h
theorem byte_get {s : ByteArray} {i : Nat} (h : i < s.data.toList.length) : s[i]? = some (s.data.toList.getD i 0) := by
  have h' : i < s.size := by simpa using h
  rw [getElem?_pos s i h', List.getD_eq_getElem?_getD, List.getElem?_eq_getElem h]
  rfl
theorem size_len (s : ByteArray) : s.size = s.data.toList.length := by simp
def digB (s : ByteArray) : ByteArray := if minusW s.data.toList then s.extract 1 s.size else s
theorem digB_list (s : ByteArray) : (digB s).data.toList = digW s.data.toList := by
  unfold digB digW
  split
  · rw [Lib.extract_to_end]; simp
  · rfl
section
variable {G : Mem} {s : ByteArray}
theorem pre_one (h : 1 ≤ s.data.toList.length) : ((s.extract (Int.toNat 0) (Int.toNat 1)).toList == (⟨#[45]⟩ : ByteArray).toList) = minusW s.data.toList := by
  rw [ByteArray.toList_eq, ByteArray.toList_eq]
  show ((s.extract 0 1).data.toList == [45]) = _
  rw [Lib.extract_from_zero]
  cases hs : s.data.toList with
  | nil => rw [hs] at h; simp at h
  | cons b l => simp [minusW]
set_option maxHeartbeats 4000000 in
theorem CutPrefix_gives (hs : s.size ≤ 9223372036854775807) : Gives Tryd.prog 26 [.val (.string s), .val (.string ⟨#[45]⟩)] G (.tup [.val (.string (digB s)), .val (.bool (minusW s.data.toList))]) := by
  refine Gives_of tab_ok Tryd.func26 ?_
  have hl := size_len s
  have h45 : (⟨#[45]⟩ : ByteArray).size = 1 := rfl
  rcases Nat.lt_or_ge s.data.toList.length 1 with h | h
  · have hm : minusW s.data.toList = false := by
      cases hs : s.data.toList with
      | nil => rfl
      | cons b l => rw [hs] at h; simp at h
    have hd : digB s = s := by unfold digB; rw [hm]; rfl
    rw [hd, hm]
    (repeat ((try (conv => whnf)); (first | (with_reducible refine condP_true ?_) | (with_reducible refine condP_false ?_) | (with_reducible refine condP_not ?_) | (with_reducible refine condP_and ?_) | ((with_reducible refine condP_dt ?_ ?_); (· omega)) | ((with_reducible refine condP_df ?_ ?_); (· omega)) | ((with_reducible refine condP_yes ?_ ?_); (· assumption)) | ((with_reducible refine condP_no ?_ ?_); (· assumption)) | ((with_reducible refine ArP_i64 ?_ ?_); (· omega)) | ((with_reducible refine mustP.mk ?_ ?_); (· first | omega | rfl | (dsimp only; omega))) | (with_reducible refine EqP_nil tab_ok ?_) | (with_reducible refine EqP_sli tab_ok ?_) | (with_reducible refine DrawP_auto tab_ok (by kernel_rfl) (by decide +kernel) ?_) | (with_reducible refine DrawP_auto2 tab_ok (by kernel_rfl) (by decide +kernel) ?_) | (with_reducible refine eq45 ?_) | (with_reducible refine eq62 ?_) | (with_reducible refine eq100 ?_) | (with_reducible refine CallP_enter tab_ok Tryd.func37 (fun vs w => by kernel_rfl) (by rfl) ?_) | (with_reducible refine CallP_enter tab_ok Tryd.func45 (fun vs w => by kernel_rfl) (by rfl) ?_))))
    exact ⟨rfl, rfl⟩
  · have hp := pre_one h
    cases hm : minusW s.data.toList with
    | false =>
      have hd : digB s = s := by unfold digB; rw [hm]; rfl
      rw [hd]
      rw [hm] at hp
      (repeat ((try (conv => whnf)); (first | (with_reducible refine condP_true ?_) | (with_reducible refine condP_false ?_) | (with_reducible refine condP_not ?_) | (with_reducible refine condP_and ?_) | ((with_reducible refine condP_dt ?_ ?_); (· omega)) | ((with_reducible refine condP_df ?_ ?_); (· omega)) | ((with_reducible refine condP_yes ?_ ?_); (· assumption)) | ((with_reducible refine condP_no ?_ ?_); (· assumption)) | ((with_reducible refine ArP_i64 ?_ ?_); (· omega)) | ((with_reducible refine mustP.mk ?_ ?_); (· first | omega | rfl | (dsimp only; omega))) | (with_reducible refine EqP_nil tab_ok ?_) | (with_reducible refine EqP_sli tab_ok ?_) | (with_reducible refine DrawP_auto tab_ok (by kernel_rfl) (by decide +kernel) ?_) | (with_reducible refine DrawP_auto2 tab_ok (by kernel_rfl) (by decide +kernel) ?_) | (with_reducible refine eq45 ?_) | (with_reducible refine eq62 ?_) | (with_reducible refine eq100 ?_) | (with_reducible refine CallP_enter tab_ok Tryd.func37 (fun vs w => by kernel_rfl) (by rfl) ?_) | (with_reducible refine CallP_enter tab_ok Tryd.func45 (fun vs w => by kernel_rfl) (by rfl) ?_))))
      exact ⟨rfl, rfl⟩
    | true =>
      have hd : digB s = s.extract 1 s.size := by unfold digB; rw [hm]; rfl
      rw [hd]
      rw [hm] at hp
      (repeat ((try (conv => whnf)); (first | (with_reducible refine condP_true ?_) | (with_reducible refine condP_false ?_) | (with_reducible refine condP_not ?_) | (with_reducible refine condP_and ?_) | ((with_reducible refine condP_dt ?_ ?_); (· omega)) | ((with_reducible refine condP_df ?_ ?_); (· omega)) | ((with_reducible refine condP_yes ?_ ?_); (· assumption)) | ((with_reducible refine condP_no ?_ ?_); (· assumption)) | ((with_reducible refine ArP_i64 ?_ ?_); (· omega)) | ((with_reducible refine mustP.mk ?_ ?_); (· first | omega | rfl | (dsimp only; omega))) | (with_reducible refine EqP_nil tab_ok ?_) | (with_reducible refine EqP_sli tab_ok ?_) | (with_reducible refine DrawP_auto tab_ok (by kernel_rfl) (by decide +kernel) ?_) | (with_reducible refine DrawP_auto2 tab_ok (by kernel_rfl) (by decide +kernel) ?_) | (with_reducible refine eq45 ?_) | (with_reducible refine eq62 ?_) | (with_reducible refine eq100 ?_) | (with_reducible refine CallP_enter tab_ok Tryd.func37 (fun vs w => by kernel_rfl) (by rfl) ?_) | (with_reducible refine CallP_enter tab_ok Tryd.func45 (fun vs w => by kernel_rfl) (by rfl) ?_))))
      exact ⟨rfl, rfl⟩
theorem byte_lt (b : UInt8) : b.toNat < 256 := b.toNat_lt
set_option maxHeartbeats 8000000 in
theorem number_bad (hs : s.size ≤ 9223372036854775807) (hn : ¬ numOK s.data.toList) : Gives Tryd.prog 16 [.val (.string s)] G (.tup [.val (.int .i64 0), .val (.bool false)]) := by
  have gc := CutPrefix_gives (G := G) hs
  refine Gives_of tab_ok Tryd.func16 ?_
  have hd := digB_list s
  unfold numOK at hn
  rw [← hd] at hn
  generalize minusW s.data.toList = m at *
  generalize digB s = d at *
  have hl := size_len d
  have hget := fun i => byte_get (s := d) (i := i)
  clear hd
  generalize hdl : d.data.toList = l at *
  clear hdl
  rcases Nat.lt_or_ge l.length 1 with h1 | h1
  · (repeat ((try (conv => whnf)); (first | (with_reducible refine condP_true ?_) | (with_reducible refine condP_false ?_) | (with_reducible refine condP_not ?_) | (with_reducible refine condP_and ?_) | ((with_reducible refine condP_dt ?_ ?_); (· omega)) | ((with_reducible refine condP_df ?_ ?_); (· omega)) | ((with_reducible refine condP_yes ?_ ?_); (· assumption)) | ((with_reducible refine condP_no ?_ ?_); (· assumption)) | ((with_reducible refine ArP_i64 ?_ ?_); (· omega)) | ((with_reducible refine mustP.mk ?_ ?_); (· first | omega | rfl | (dsimp only; omega))) | (with_reducible refine EqP_nil tab_ok ?_) | (with_reducible refine EqP_sli tab_ok ?_) | (with_reducible refine DrawP_auto tab_ok (by kernel_rfl) (by decide +kernel) ?_) | (with_reducible refine DrawP_auto2 tab_ok (by kernel_rfl) (by decide +kernel) ?_) | (with_reducible refine eq45 ?_) | (with_reducible refine eq62 ?_) | (with_reducible refine eq100 ?_) | (with_reducible refine CallP_gives (fun vs w => by kernel_rfl) (by kernel_rfl) (gc) ?_) | (with_reducible refine RCallP_gives (fun vs w => by kernel_rfl) (by kernel_rfl) (gc) ?_))))
    exact ⟨rfl, rfl⟩
  rcases Nat.lt_or_ge 5 l.length with h2 | h2
  · (repeat ((try (conv => whnf)); (first | (with_reducible refine condP_true ?_) | (with_reducible refine condP_false ?_) | (with_reducible refine condP_not ?_) | (with_reducible refine condP_and ?_) | ((with_reducible refine condP_dt ?_ ?_); (· omega)) | ((with_reducible refine condP_df ?_ ?_); (· omega)) | ((with_reducible refine condP_yes ?_ ?_); (· assumption)) | ((with_reducible refine condP_no ?_ ?_); (· assumption)) | ((with_reducible refine ArP_i64 ?_ ?_); (· omega)) | ((with_reducible refine mustP.mk ?_ ?_); (· first | omega | rfl | (dsimp only; omega))) | (with_reducible refine EqP_nil tab_ok ?_) | (with_reducible refine EqP_sli tab_ok ?_) | (with_reducible refine DrawP_auto tab_ok (by kernel_rfl) (by decide +kernel) ?_) | (with_reducible refine DrawP_auto2 tab_ok (by kernel_rfl) (by decide +kernel) ?_) | (with_reducible refine eq45 ?_) | (with_reducible refine eq62 ?_) | (with_reducible refine eq100 ?_) | (with_reducible refine CallP_gives (fun vs w => by kernel_rfl) (by kernel_rfl) (gc) ?_) | (with_reducible refine RCallP_gives (fun vs w => by kernel_rfl) (by kernel_rfl) (gc) ?_))))
    exact ⟨rfl, rfl⟩
  have hb0 : d[Int.toNat 0]? = some (l.getD 0 0) := hget 0 (by omega)
  have h48 : (48 : UInt8).toNat = 48 := rfl
  by_cases h3 : l.getD 0 0 = 48 ∧ (m = true ∨ 1 < l.length)
  · obtain ⟨h4, h5⟩ := h3
    rw [h4] at hb0
    clear hn hget
    cases m with
    | true =>
      (repeat ((try (conv => whnf)); (first | (refine Exists.intro _ (And.intro hb0 ?_)) | (with_reducible refine condP_true ?_) | (with_reducible refine condP_false ?_) | (with_reducible refine condP_not ?_) | (with_reducible refine condP_and ?_) | ((with_reducible refine condP_dt ?_ ?_); (· omega)) | ((with_reducible refine condP_df ?_ ?_); (· omega)) | ((with_reducible refine condP_yes ?_ ?_); (· assumption)) | ((with_reducible refine condP_no ?_ ?_); (· assumption)) | ((with_reducible refine ArP_i64 ?_ ?_); (· omega)) | ((with_reducible refine mustP.mk ?_ ?_); (· first | omega | rfl | (dsimp only; omega))) | (with_reducible refine EqP_nil tab_ok ?_) | (with_reducible refine EqP_sli tab_ok ?_) | (with_reducible refine DrawP_auto tab_ok (by kernel_rfl) (by decide +kernel) ?_) | (with_reducible refine DrawP_auto2 tab_ok (by kernel_rfl) (by decide +kernel) ?_) | (with_reducible refine eq45 ?_) | (with_reducible refine eq62 ?_) | (with_reducible refine eq100 ?_) | (with_reducible refine CallP_gives (fun vs w => by kernel_rfl) (by kernel_rfl) (gc) ?_) | (with_reducible refine RCallP_gives (fun vs w => by kernel_rfl) (by kernel_rfl) (gc) ?_))))
      exact ⟨rfl, rfl⟩
    | false =>
      have h5 : 1 < l.length := by rcases h5 with h | h; cases h; exact h
      (repeat ((try (conv => whnf)); (first | (refine Exists.intro _ (And.intro hb0 ?_)) | (with_reducible refine condP_true ?_) | (with_reducible refine condP_false ?_) | (with_reducible refine condP_not ?_) | (with_reducible refine condP_and ?_) | ((with_reducible refine condP_dt ?_ ?_); (· omega)) | ((with_reducible refine condP_df ?_ ?_); (· omega)) | ((with_reducible refine condP_yes ?_ ?_); (· assumption)) | ((with_reducible refine condP_no ?_ ?_); (· assumption)) | ((with_reducible refine ArP_i64 ?_ ?_); (· omega)) | ((with_reducible refine mustP.mk ?_ ?_); (· first | omega | rfl | (dsimp only; omega))) | (with_reducible refine EqP_nil tab_ok ?_) | (with_reducible refine EqP_sli tab_ok ?_) | (with_reducible refine DrawP_auto tab_ok (by kernel_rfl) (by decide +kernel) ?_) | (with_reducible refine DrawP_auto2 tab_ok (by kernel_rfl) (by decide +kernel) ?_) | (with_reducible refine eq45 ?_) | (with_reducible refine eq62 ?_) | (with_reducible refine eq100 ?_) | (with_reducible refine CallP_gives (fun vs w => by kernel_rfl) (by kernel_rfl) (gc) ?_) | (with_reducible refine RCallP_gives (fun vs w => by kernel_rfl) (by kernel_rfl) (gc) ?_))))
      exact ⟨rfl, rfl⟩
  have hcase : (l.getD 0 0).toNat ≠ 48 ∨ (m = false ∧ l.length = 1) := by
    by_cases h4 : (l.getD 0 0).toNat = 48
    · refine .inr ?_
      have h5 : l.getD 0 0 = 48 := UInt8.toNat_inj.1 (by rw [h4, h48])
      have h6 : ¬ (m = true ∨ 1 < l.length) := fun h => h3 ⟨h5, h⟩
      refine ⟨by cases m <;> simp_all, by omega⟩
    · exact .inl h4
  have h3' := h3
  clear h3
  have hall : ¬ ∀ i, i < l.length → isD (l.getD i 0) := fun h => hn ⟨h1, h2, h3', h⟩
  clear hn
  have hb := byte_lt (l.getD 0 0)
  generalize he0 : l.getD 0 0 = b0 at *
  have hsplit : (m = true ∧ b0.toNat ≠ 48) ∨ (m = false ∧ b0.toNat ≠ 48) ∨ (m = false ∧ b0.toNat = 48 ∧ l.length = 1) := by
    cases m <;> (by_cases h9 : b0.toNat = 48) <;> simp_all
  clear hcase
  rcases hsplit with ⟨rfl, h4⟩ | ⟨rfl, h4⟩ | ⟨rfl, h4, h5⟩
  all_goals
    (repeat ((try (conv => whnf)); (first | (refine Exists.intro _ (And.intro hb0 ?_)) | (with_reducible refine condP_true ?_) | (with_reducible refine condP_false ?_) | (with_reducible refine condP_not ?_) | (with_reducible refine condP_and ?_) | ((with_reducible refine condP_dt ?_ ?_); (· omega)) | ((with_reducible refine condP_df ?_ ?_); (· omega)) | ((with_reducible refine condP_yes ?_ ?_); (· assumption)) | ((with_reducible refine condP_no ?_ ?_); (· assumption)) | ((with_reducible refine ArP_i64 ?_ ?_); (· omega)) | ((with_reducible refine mustP.mk ?_ ?_); (· first | omega | rfl | (dsimp only; omega))) | (with_reducible refine EqP_nil tab_ok ?_) | (with_reducible refine EqP_sli tab_ok ?_) | (with_reducible refine DrawP_auto tab_ok (by kernel_rfl) (by decide +kernel) ?_) | (with_reducible refine DrawP_auto2 tab_ok (by kernel_rfl) (by decide +kernel) ?_) | (with_reducible refine eq45 ?_) | (with_reducible refine eq62 ?_) | (with_reducible refine eq100 ?_) | (with_reducible refine CallP_gives (fun vs w => by kernel_rfl) (by kernel_rfl) (gc) ?_) | (with_reducible refine RCallP_gives (fun vs w => by kernel_rfl) (by kernel_rfl) (gc) ?_))))
    conv => whnf
    refine LoopP_at2 tab_ok (fun i v => i ≤ l.length ∧ (∀ j, j < i → isD (l.getD j 0)) ∧ v = valN l i) (fun (i : Nat) (v : Int) => [(36, .val (.int .i64 i)), (6, .val (.int .i64 v)), (7, .any)]) (fun i v => []) (fun i v => l.length - i) 0 0 ⟨Nat.zero_le _, fun j hj => absurd hj (Nat.not_lt_zero _), rfl⟩ ?_ ?_
    · ((refine Le_head ?_); (conv => whnf); (refine Le_mk (by rfl) (by rfl) ?_ ?_); (· (repeat (first | (with_reducible exact frLe_nil) | (with_reducible refine frLe_any ?_) | (with_reducible refine frLe_val ?_) | ((with_reducible refine frLe_eq rfl ?_ ?_); (· rfl)) | ((with_reducible refine frLe_val' (int_eq ?_) ?_ ?_); (· omega); (· rfl)) | ((with_reducible refine frLe_val' (int_eq ?_) ?_ ?_); (· simp only [Int.natCast_add, Int.natCast_one, Int.natCast_ofNat] <;> omega); (· rfl)) | ((with_reducible refine frLe_val' (bool_eq ?_) ?_ ?_); (· first | assumption | (symm; assumption)); (· rfl))))))
      exact hpLe_nil
    · rintro i v ⟨hi, h0, hv⟩
      rcases Nat.lt_or_ge i l.length with h7 | h7
      · obtain ⟨hv0, hv1⟩ := valN_small (by omega) h0
        have hbi : d[Int.toNat i]? = some (l.getD i 0) := hget i h7
        have hvs : valN l (i + 1) = 10 * valN l i + (((l.getD i 0).toNat : Int) - 48) := rfl
        have hbl := byte_lt (l.getD i 0)
        by_cases h8 : isD (l.getD i 0)
        · have h9 : ∀ j, j < i + 1 → isD (l.getD j 0) := fun j hj => by
            rcases Nat.lt_or_ge j i with h | h
            · exact h0 j h
            · obtain rfl : j = i := by omega
              exact h8
          unfold isD at h8
          rw [← hv] at hvs hv0 hv1
          clear hv
          generalize l.getD i 0 = b at *
          clear hget hall
          (repeat ((try (conv => whnf)); (first | (refine Exists.intro _ (And.intro hbi ?_)) | ((with_reducible refine ArP_u8 ?_ ?_); (· omega)) | (with_reducible refine condP_true ?_) | (with_reducible refine condP_false ?_) | (with_reducible refine condP_not ?_) | (with_reducible refine condP_and ?_) | ((with_reducible refine condP_dt ?_ ?_); (· omega)) | ((with_reducible refine condP_df ?_ ?_); (· omega)) | ((with_reducible refine condP_yes ?_ ?_); (· assumption)) | ((with_reducible refine condP_no ?_ ?_); (· assumption)) | ((with_reducible refine ArP_i64 ?_ ?_); (· omega)) | ((with_reducible refine mustP.mk ?_ ?_); (· first | omega | rfl | (dsimp only; omega))) | (with_reducible refine EqP_nil tab_ok ?_) | (with_reducible refine EqP_sli tab_ok ?_) | (with_reducible refine DrawP_auto tab_ok (by kernel_rfl) (by decide +kernel) ?_) | (with_reducible refine DrawP_auto2 tab_ok (by kernel_rfl) (by decide +kernel) ?_) | (with_reducible refine eq45 ?_) | (with_reducible refine eq62 ?_) | (with_reducible refine eq100 ?_))))
          refine ⟨i + 1, _, ⟨by omega, h9, hvs.symm⟩, by omega, ?_⟩
          ((refine Le_head ?_); (conv => whnf); (refine Le_mk (by rfl) (by rfl) ?_ ?_); (· (repeat (first | (with_reducible exact frLe_nil) | (with_reducible refine frLe_any ?_) | (with_reducible refine frLe_val ?_) | ((with_reducible refine frLe_eq rfl ?_ ?_); (· rfl)) | ((with_reducible refine frLe_val' (int_eq ?_) ?_ ?_); (· omega); (· rfl)) | ((with_reducible refine frLe_val' (int_eq ?_) ?_ ?_); (· simp only [Int.natCast_add, Int.natCast_one, Int.natCast_ofNat] <;> omega); (· rfl)) | ((with_reducible refine frLe_val' (bool_eq ?_) ?_ ?_); (· first | assumption | (symm; assumption)); (· rfl))))))
          exact hpLe_nil
        · unfold isD at h8
          clear hv
          generalize l.getD i 0 = b at *
          clear hget hall
          (repeat' ((try (conv => whnf)); (first | (refine Exists.intro _ (And.intro hbi ?_)) | (with_reducible refine condP_true ?_) | (with_reducible refine condP_false ?_) | (with_reducible refine condP_not ?_) | (with_reducible refine condP_and ?_) | ((with_reducible refine condP_dt ?_ ?_); (· omega)) | ((with_reducible refine condP_df ?_ ?_); (· omega)) | ((with_reducible refine condP_yes ?_ ?_); (· assumption)) | ((with_reducible refine condP_no ?_ ?_); (· assumption)) | ((with_reducible refine ArP_i64 ?_ ?_); (· omega)) | ((with_reducible refine mustP.mk ?_ ?_); (· first | omega | rfl | (dsimp only; omega))) | (with_reducible refine EqP_nil tab_ok ?_) | (with_reducible refine EqP_sli tab_ok ?_) | (with_reducible refine DrawP_auto tab_ok (by kernel_rfl) (by decide +kernel) ?_) | (with_reducible refine DrawP_auto2 tab_ok (by kernel_rfl) (by decide +kernel) ?_) | (with_reducible refine eq45 ?_) | (with_reducible refine eq62 ?_) | (with_reducible refine eq100 ?_) | (with_reducible refine condP_dec (fun h0 => ?_) (fun h0 => ?_)))))
          all_goals first | exact ⟨rfl, rfl⟩ | (exfalso; omega)
      · obtain rfl : i = l.length := by omega
        exact absurd h0 hall
set_option maxHeartbeats 8000000 in
theorem number_good (hs : s.size ≤ 9223372036854775807) (hn : numOK s.data.toList) : Gives Tryd.prog 16 [.val (.string s)] G (.tup [.val (.int .i64 (numV s.data.toList)), .val (.bool true)]) := by
  have gc := CutPrefix_gives (G := G) hs
  refine Gives_of tab_ok Tryd.func16 ?_
  have hd := digB_list s
  have hnv : numV s.data.toList = (if minusW s.data.toList then 0 - valN (digW s.data.toList) (digW s.data.toList).length else valN (digW s.data.toList) (digW s.data.toList).length) := rfl
  rw [← hd] at hnv
  generalize numV s.data.toList = V at *
  unfold numOK at hn
  rw [← hd] at hn
  generalize minusW s.data.toList = m at *
  generalize digB s = d at *
  have hl := size_len d
  have hget := fun i => byte_get (s := d) (i := i)
  clear hd
  generalize hdl : d.data.toList = l at *
  clear hdl
  obtain ⟨h1, h2, h3, hall⟩ := hn

  have hb0 : d[Int.toNat 0]? = some (l.getD 0 0) := hget 0 (by omega)
  have h48 : (48 : UInt8).toNat = 48 := rfl

  have hcase : (l.getD 0 0).toNat ≠ 48 ∨ (m = false ∧ l.length = 1) := by
    by_cases h4 : (l.getD 0 0).toNat = 48
    · refine .inr ?_
      have h5 : l.getD 0 0 = 48 := UInt8.toNat_inj.1 (by rw [h4, h48])
      have h6 : ¬ (m = true ∨ 1 < l.length) := fun h => h3 ⟨h5, h⟩
      refine ⟨by cases m <;> simp_all, by omega⟩
    · exact .inl h4
  clear h3
  have hV := hnv
  have hb := byte_lt (l.getD 0 0)
  generalize he0 : l.getD 0 0 = b0 at *
  have hsplit : (m = true ∧ b0.toNat ≠ 48) ∨ (m = false ∧ b0.toNat ≠ 48) ∨ (m = false ∧ b0.toNat = 48 ∧ l.length = 1) := by
    cases m <;> (by_cases h9 : b0.toNat = 48) <;> simp_all
  clear hcase
  rcases hsplit with ⟨rfl, h4⟩ | ⟨rfl, h4⟩ | ⟨rfl, h4, h5⟩
  all_goals
    (repeat ((try (conv => whnf)); (first | (refine Exists.intro _ (And.intro hb0 ?_)) | (with_reducible refine condP_true ?_) | (with_reducible refine condP_false ?_) | (with_reducible refine condP_not ?_) | (with_reducible refine condP_and ?_) | ((with_reducible refine condP_dt ?_ ?_); (· omega)) | ((with_reducible refine condP_df ?_ ?_); (· omega)) | ((with_reducible refine condP_yes ?_ ?_); (· assumption)) | ((with_reducible refine condP_no ?_ ?_); (· assumption)) | ((with_reducible refine ArP_i64 ?_ ?_); (· omega)) | ((with_reducible refine mustP.mk ?_ ?_); (· first | omega | rfl | (dsimp only; omega))) | (with_reducible refine EqP_nil tab_ok ?_) | (with_reducible refine EqP_sli tab_ok ?_) | (with_reducible refine DrawP_auto tab_ok (by kernel_rfl) (by decide +kernel) ?_) | (with_reducible refine DrawP_auto2 tab_ok (by kernel_rfl) (by decide +kernel) ?_) | (with_reducible refine eq45 ?_) | (with_reducible refine eq62 ?_) | (with_reducible refine eq100 ?_) | (with_reducible refine CallP_gives (fun vs w => by kernel_rfl) (by kernel_rfl) (gc) ?_) | (with_reducible refine RCallP_gives (fun vs w => by kernel_rfl) (by kernel_rfl) (gc) ?_))))
    conv => whnf
    refine LoopP_at2 tab_ok (fun i v => i ≤ l.length ∧ (∀ j, j < i → isD (l.getD j 0)) ∧ v = valN l i) (fun (i : Nat) (v : Int) => [(36, .val (.int .i64 i)), (6, .val (.int .i64 v)), (7, .any)]) (fun i v => []) (fun i v => l.length - i) 0 0 ⟨Nat.zero_le _, fun j hj => absurd hj (Nat.not_lt_zero _), rfl⟩ ?_ ?_
    · ((refine Le_head ?_); (conv => whnf); (refine Le_mk (by rfl) (by rfl) ?_ ?_); (· (repeat (first | (with_reducible exact frLe_nil) | (with_reducible refine frLe_any ?_) | (with_reducible refine frLe_val ?_) | ((with_reducible refine frLe_eq rfl ?_ ?_); (· rfl)) | ((with_reducible refine frLe_val' (int_eq ?_) ?_ ?_); (· omega); (· rfl)) | ((with_reducible refine frLe_val' (int_eq ?_) ?_ ?_); (· simp only [Int.natCast_add, Int.natCast_one, Int.natCast_ofNat] <;> omega); (· rfl)) | ((with_reducible refine frLe_val' (bool_eq ?_) ?_ ?_); (· first | assumption | (symm; assumption)); (· rfl))))))
      exact hpLe_nil
    · rintro i v ⟨hi, h0, hv⟩
      rcases Nat.lt_or_ge i l.length with h7 | h7
      · obtain ⟨hv0, hv1⟩ := valN_small (by omega) h0
        have hbi : d[Int.toNat i]? = some (l.getD i 0) := hget i h7
        have hvs : valN l (i + 1) = 10 * valN l i + (((l.getD i 0).toNat : Int) - 48) := rfl
        have hbl := byte_lt (l.getD i 0)
        by_cases h8 : isD (l.getD i 0)
        · have h9 : ∀ j, j < i + 1 → isD (l.getD j 0) := fun j hj => by
            rcases Nat.lt_or_ge j i with h | h
            · exact h0 j h
            · obtain rfl : j = i := by omega
              exact h8
          unfold isD at h8
          rw [← hv] at hvs hv0 hv1
          clear hv
          generalize l.getD i 0 = b at *
          clear hget hall
          (repeat ((try (conv => whnf)); (first | (refine Exists.intro _ (And.intro hbi ?_)) | ((with_reducible refine ArP_u8 ?_ ?_); (· omega)) | (with_reducible refine condP_true ?_) | (with_reducible refine condP_false ?_) | (with_reducible refine condP_not ?_) | (with_reducible refine condP_and ?_) | ((with_reducible refine condP_dt ?_ ?_); (· omega)) | ((with_reducible refine condP_df ?_ ?_); (· omega)) | ((with_reducible refine condP_yes ?_ ?_); (· assumption)) | ((with_reducible refine condP_no ?_ ?_); (· assumption)) | ((with_reducible refine ArP_i64 ?_ ?_); (· omega)) | ((with_reducible refine mustP.mk ?_ ?_); (· first | omega | rfl | (dsimp only; omega))) | (with_reducible refine EqP_nil tab_ok ?_) | (with_reducible refine EqP_sli tab_ok ?_) | (with_reducible refine DrawP_auto tab_ok (by kernel_rfl) (by decide +kernel) ?_) | (with_reducible refine DrawP_auto2 tab_ok (by kernel_rfl) (by decide +kernel) ?_) | (with_reducible refine eq45 ?_) | (with_reducible refine eq62 ?_) | (with_reducible refine eq100 ?_))))
          refine ⟨i + 1, _, ⟨by omega, h9, hvs.symm⟩, by omega, ?_⟩
          ((refine Le_head ?_); (conv => whnf); (refine Le_mk (by rfl) (by rfl) ?_ ?_); (· (repeat (first | (with_reducible exact frLe_nil) | (with_reducible refine frLe_any ?_) | (with_reducible refine frLe_val ?_) | ((with_reducible refine frLe_eq rfl ?_ ?_); (· rfl)) | ((with_reducible refine frLe_val' (int_eq ?_) ?_ ?_); (· omega); (· rfl)) | ((with_reducible refine frLe_val' (int_eq ?_) ?_ ?_); (· simp only [Int.natCast_add, Int.natCast_one, Int.natCast_ofNat] <;> omega); (· rfl)) | ((with_reducible refine frLe_val' (bool_eq ?_) ?_ ?_); (· first | assumption | (symm; assumption)); (· rfl))))))
          exact hpLe_nil
        · exact absurd (hall i h7) h8
      · obtain rfl : i = l.length := by omega
        obtain ⟨hv0, hv1⟩ := valN_small (by omega) h0
        simp only [if_true, if_false, Bool.false_eq_true] at hnv hV
        rw [← hv] at hnv hv0 hv1
        rw [hnv]
        clear hget hall hnv hV hv
        (repeat ((try (conv => whnf)); (first | (with_reducible refine condP_true ?_) | (with_reducible refine condP_false ?_) | (with_reducible refine condP_not ?_) | (with_reducible refine condP_and ?_) | ((with_reducible refine condP_dt ?_ ?_); (· omega)) | ((with_reducible refine condP_df ?_ ?_); (· omega)) | ((with_reducible refine condP_yes ?_ ?_); (· assumption)) | ((with_reducible refine condP_no ?_ ?_); (· assumption)) | ((with_reducible refine ArP_i64 ?_ ?_); (· omega)) | ((with_reducible refine mustP.mk ?_ ?_); (· first | omega | rfl | (dsimp only; omega))) | (with_reducible refine EqP_nil tab_ok ?_) | (with_reducible refine EqP_sli tab_ok ?_) | (with_reducible refine DrawP_auto tab_ok (by kernel_rfl) (by decide +kernel) ?_) | (with_reducible refine DrawP_auto2 tab_ok (by kernel_rfl) (by decide +kernel) ?_) | (with_reducible refine eq45 ?_) | (with_reducible refine eq62 ?_) | (with_reducible refine eq100 ?_))))
        exact ⟨rfl, rfl⟩
end
end Go.Proofs.YtdakcfggecpjjaaDoor
