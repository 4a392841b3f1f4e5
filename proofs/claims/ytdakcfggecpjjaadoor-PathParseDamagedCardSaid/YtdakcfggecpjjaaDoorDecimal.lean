/-
  The reference's Decimal.
-/
import Derived.Test.YtdakcfggecpjjaaDoorTab
import Derived.Test.YtdakcfggecpjjaaDoorEz
import Derived.Test.YtdakcfggecpjjaaDoorEw
import Derived.Lib.ItoaNum
namespace Go.Proofs.YtdakcfggecpjjaaDoor
open Go.RowKit Go.Lib
set_option linter.unusedVariables false
set_option linter.unusedSimpArgs false
set_option maxRecDepth 20000
abbrev bytesS (l : List UInt8) : ByteArray := ⟨l.toArray⟩
theorem bytes_add (a b : List UInt8) : bytesS a ++ bytesS b = bytesS (a ++ b) := ByteArray.ext (by simp [ByteArray.data_append])
theorem bytes_size (a : List UInt8) : (bytesS a).size = a.length := by simp [bytesS, ByteArray.size]
theorem decDigits_small {u : Nat} (h : u < 10) : decDigits u = [UInt8.ofNat (48 + u)] := by rw [decDigits, dif_pos h]
theorem decDigits_next {u : Nat} (h : ¬ u < 10) : decDigits u = decDigits (u / 10) ++ [UInt8.ofNat (48 + u % 10)] := by rw [decDigits, dif_neg h]
theorem decDigits_len : ∀ (k u : Nat), u < 10 ^ (k + 1) → (decDigits u).length ≤ k + 1
  | 0, u, h => by rw [decDigits_small (by omega)]; simp
  | k + 1, u, h => by
    by_cases h1 : u < 10
    · rw [decDigits_small h1]; simp
    · rw [decDigits_next h1]
      have := decDigits_len k (u / 10) (by rw [Nat.pow_succ] at h; omega)
      simp; omega
theorem itoa_len {n : Int} (h : n.natAbs ≤ 99999) : (itoa n).length ≤ 6 := by
  unfold itoa
  split
  · have := decDigits_len 4 n.natAbs (by omega)
    simp; omega
  · have := decDigits_len 4 n.toNat (by omega)
    omega
theorem itoa_digit {n : Int} (h0 : 0 ≤ n) (h : n < 10) : itoa n = [UInt8.ofNat (48 + n.toNat)] := by
  unfold itoa; rw [if_neg (by omega), decDigits_small (by omega)]
theorem itoa_small {n : Int} (h0 : n < 0) (h : -10 < n) : itoa n = [45] ++ itoa (-n) := by
  rw [itoa_digit (n := -n) (by omega) (by omega)]
  unfold itoa; rw [if_pos h0, decDigits_small (by omega), show n.natAbs = (-n).toNat by omega]; rfl
theorem itoa_pos {n : Int} (h : 10 ≤ n) : itoa n = itoa (n.tdiv 10) ++ itoa (n.tmod 10) := by
  have e1 : n.tdiv 10 = n / 10 := Int.tdiv_eq_ediv_of_nonneg (by omega)
  have e2 : n.tmod 10 = n % 10 := Int.tmod_eq_emod_of_nonneg (by omega)
  rw [e1, e2, itoa_digit (n := n % 10) (by omega) (by omega)]
  unfold itoa
  rw [if_neg (by omega), if_neg (by omega), decDigits_next (by omega), show n.toNat / 10 = (n / 10).toNat by omega, show n.toNat % 10 = (n % 10).toNat by omega]
theorem itoa_neg {n : Int} (h : n ≤ -10) : itoa n = itoa (n.tdiv 10) ++ itoa (-(n.tmod 10)) := by
  have e1 : n.tdiv 10 = -((-n) / 10) := by
    rw [← Int.tdiv_eq_ediv_of_nonneg (show 0 ≤ -n by omega), Int.neg_tdiv, Int.neg_neg]
  have e2 : n.tmod 10 = -((-n) % 10) := by
    rw [← Int.tmod_eq_emod_of_nonneg (show 0 ≤ -n by omega), Int.neg_tmod, Int.neg_neg]
  rw [e1, e2, Int.neg_neg, itoa_digit (n := (-n) % 10) (by omega) (by omega)]
  unfold itoa
  rw [if_pos (by omega), if_pos (by omega), decDigits_next (by omega), show n.natAbs / 10 = (-((-n) / 10)).natAbs by omega, show n.natAbs % 10 = ((-n) % 10).toNat by omega]
  simp
section
variable {G : Mem}
set_option maxHeartbeats 4000000 in
theorem Decimal_digit {n : Int} (h0 : 0 ≤ n) (h : n < 10) : Gives Tryd.prog 20 [.val (.int .i64 n)] G (.val (.string (bytesS (itoa n)))) := by
  rw [itoa_digit h0 h]
  have : n = 0 ∨ n = 1 ∨ n = 2 ∨ n = 3 ∨ n = 4 ∨ n = 5 ∨ n = 6 ∨ n = 7 ∨ n = 8 ∨ n = 9 := by omega
  rcases this with rfl | rfl | rfl | rfl | rfl | rfl | rfl | rfl | rfl | rfl
  all_goals
    refine Gives_of tab_ok Tryd.func20 ?_
    (repeat ((try (conv => whnf)); (first | (with_reducible refine condP_true ?_) | (with_reducible refine condP_false ?_) | (with_reducible refine condP_not ?_) | (with_reducible refine condP_and ?_) | ((with_reducible refine condP_dt ?_ ?_); (· omega)) | ((with_reducible refine condP_df ?_ ?_); (· omega)) | ((with_reducible refine condP_yes ?_ ?_); (· assumption)) | ((with_reducible refine condP_no ?_ ?_); (· assumption)) | ((with_reducible refine ArP_i64 ?_ ?_); (· omega)) | ((with_reducible refine mustP.mk ?_ ?_); (· first | omega | rfl | (dsimp only; omega))) | (with_reducible refine EqP_nil tab_ok ?_) | (with_reducible refine EqP_sli tab_ok ?_) | (with_reducible refine DrawP_auto tab_ok (by kernel_rfl) (by decide +kernel) ?_) | (with_reducible refine DrawP_auto2 tab_ok (by kernel_rfl) (by decide +kernel) ?_) | (with_reducible refine eq45 ?_) | (with_reducible refine eq62 ?_) | (with_reducible refine eq100 ?_) | (with_reducible refine OwnCells_run ?_) | (with_reducible refine LoopP_step tab_ok ?_) | ((with_reducible refine condP_dt ?_ ?_); (· decide)) | ((with_reducible refine condP_df ?_ ?_); (· decide)) | ((with_reducible refine ArP_id ?_ ?_); (· decide)) | ((with_reducible refine mustP.mk ?_ ?_); (· decide)) | ((with_reducible refine isP.mk 0 ?_ ?_); (· decide +kernel)) | ((with_reducible refine isP.mk 1 ?_ ?_); (· decide +kernel)) | (with_reducible refine isP.mk _ (by exact rfl) ?_) | (with_reducible refine EqP_boolF (by kernel_rfl) ?_))))
    exact ⟨by kernel_rfl, rfl⟩
set_option maxHeartbeats 4000000 in
theorem Decimal_gives : ∀ (d : Nat) (n : Int), n.natAbs = d → d ≤ 99999 → Gives Tryd.prog 20 [.val (.int .i64 n)] G (.val (.string (bytesS (itoa n)))) := by
  intro d
  induction d using Nat.strongRecOn with
  | _ d ih =>
    intro n hd hb
    by_cases c1 : 0 ≤ n ∧ n < 10
    · exact Decimal_digit c1.1 c1.2
    by_cases c2 : n < 0
    · by_cases c3 : -10 < n
      · have g := Decimal_digit (n := 0 - n) (G := G) (by omega) (by omega)
        have hl := itoa_len (n := 0 - n) (by omega)
        rw [itoa_small c2 c3, ← bytes_add, show -n = 0 - n by omega]
        have hs := bytes_size (itoa (0 - n))
        have hs1 : (bytesS [45]).size = 1 := rfl
        generalize bytesS (itoa (0 - n)) = s at *
        clear ih
        refine Gives_of tab_ok Tryd.func20 ?_
        (repeat ((try (conv => whnf)); (first | (with_reducible refine condP_true ?_) | (with_reducible refine condP_false ?_) | (with_reducible refine condP_not ?_) | (with_reducible refine condP_and ?_) | ((with_reducible refine condP_dt ?_ ?_); (· omega)) | ((with_reducible refine condP_df ?_ ?_); (· omega)) | ((with_reducible refine condP_yes ?_ ?_); (· assumption)) | ((with_reducible refine condP_no ?_ ?_); (· assumption)) | ((with_reducible refine ArP_i64 ?_ ?_); (· omega)) | ((with_reducible refine mustP.mk ?_ ?_); (· first | omega | rfl | (dsimp only; omega))) | (with_reducible refine EqP_nil tab_ok ?_) | (with_reducible refine EqP_sli tab_ok ?_) | (with_reducible refine DrawP_auto tab_ok (by kernel_rfl) (by decide +kernel) ?_) | (with_reducible refine DrawP_auto2 tab_ok (by kernel_rfl) (by decide +kernel) ?_) | (with_reducible refine eq45 ?_) | (with_reducible refine eq62 ?_) | (with_reducible refine eq100 ?_) | (with_reducible refine CallP_gives (fun vs w => by kernel_rfl) (by kernel_rfl) (g) ?_) | (with_reducible refine RCallP_gives (fun vs w => by kernel_rfl) (by kernel_rfl) (g) ?_))))
        conv => whnf
        first | exact ⟨rfl, rfl⟩ | (refine mustP.mk (by show 1 + _ ≤ _; omega) ?_; (repeat ((try (conv => whnf)); (first | (with_reducible refine condP_true ?_) | (with_reducible refine condP_false ?_) | (with_reducible refine condP_not ?_) | (with_reducible refine condP_and ?_) | ((with_reducible refine condP_dt ?_ ?_); (· omega)) | ((with_reducible refine condP_df ?_ ?_); (· omega)) | ((with_reducible refine condP_yes ?_ ?_); (· assumption)) | ((with_reducible refine condP_no ?_ ?_); (· assumption)) | ((with_reducible refine ArP_i64 ?_ ?_); (· omega)) | ((with_reducible refine mustP.mk ?_ ?_); (· first | omega | rfl | (dsimp only; omega))) | (with_reducible refine EqP_nil tab_ok ?_) | (with_reducible refine EqP_sli tab_ok ?_) | (with_reducible refine DrawP_auto tab_ok (by kernel_rfl) (by decide +kernel) ?_) | (with_reducible refine DrawP_auto2 tab_ok (by kernel_rfl) (by decide +kernel) ?_) | (with_reducible refine eq45 ?_) | (with_reducible refine eq62 ?_) | (with_reducible refine eq100 ?_)))); exact ⟨rfl, rfl⟩)
      · have h1 : n.tdiv 10 = -((-n) / 10) := by
          rw [← Int.tdiv_eq_ediv_of_nonneg (show 0 ≤ -n by omega), Int.neg_tdiv, Int.neg_neg]
        have h2 : n.tmod 10 = -((-n) % 10) := by
          rw [← Int.tmod_eq_emod_of_nonneg (show 0 ≤ -n by omega), Int.neg_tmod, Int.neg_neg]
        have g1 := ih (n.tdiv 10).natAbs (by rw [h1]; omega) (n.tdiv 10) rfl (by rw [h1]; omega)
        have g2 := Decimal_digit (n := 0 - n.tmod 10) (G := G) (by rw [h2]; omega) (by rw [h2]; omega)
        have hl1 := itoa_len (n := n.tdiv 10) (by rw [h1]; omega)
        have hl2 := itoa_len (n := 0 - n.tmod 10) (by rw [h2]; omega)
        have b2 : -9 ≤ n.tmod 10 ∧ n.tmod 10 ≤ 0 := by rw [h2]; omega
        have b1 : -99999 ≤ n.tdiv 10 ∧ n.tdiv 10 ≤ 0 := by rw [h1]; omega
        rw [itoa_neg (by omega), ← bytes_add, show -(n.tmod 10) = 0 - n.tmod 10 by omega]
        have hs1 := bytes_size (itoa (n.tdiv 10))
        have hs2 := bytes_size (itoa (0 - n.tmod 10))
        generalize bytesS (itoa (n.tdiv 10)) = s1 at *
        generalize bytesS (itoa (0 - n.tmod 10)) = s2 at *
        clear ih h1 h2
        refine Gives_of tab_ok Tryd.func20 ?_
        (repeat ((try (conv => whnf)); (first | (with_reducible refine condP_true ?_) | (with_reducible refine condP_false ?_) | (with_reducible refine condP_not ?_) | (with_reducible refine condP_and ?_) | ((with_reducible refine condP_dt ?_ ?_); (· omega)) | ((with_reducible refine condP_df ?_ ?_); (· omega)) | ((with_reducible refine condP_yes ?_ ?_); (· assumption)) | ((with_reducible refine condP_no ?_ ?_); (· assumption)) | ((with_reducible refine ArP_i64 ?_ ?_); (· omega)) | ((with_reducible refine mustP.mk ?_ ?_); (· first | omega | rfl | (dsimp only; omega))) | (with_reducible refine EqP_nil tab_ok ?_) | (with_reducible refine EqP_sli tab_ok ?_) | (with_reducible refine DrawP_auto tab_ok (by kernel_rfl) (by decide +kernel) ?_) | (with_reducible refine DrawP_auto2 tab_ok (by kernel_rfl) (by decide +kernel) ?_) | (with_reducible refine eq45 ?_) | (with_reducible refine eq62 ?_) | (with_reducible refine eq100 ?_) | (with_reducible refine CallP_gives (fun vs w => by kernel_rfl) (by kernel_rfl) (g1) ?_) | (with_reducible refine RCallP_gives (fun vs w => by kernel_rfl) (by kernel_rfl) (g1) ?_) | (with_reducible refine CallP_gives (fun vs w => by kernel_rfl) (by kernel_rfl) (g2) ?_) | (with_reducible refine RCallP_gives (fun vs w => by kernel_rfl) (by kernel_rfl) (g2) ?_))))
        conv => whnf
        first | exact ⟨rfl, rfl⟩ | (refine mustP.mk (by omega) ?_; (repeat ((try (conv => whnf)); (first | (with_reducible refine condP_true ?_) | (with_reducible refine condP_false ?_) | (with_reducible refine condP_not ?_) | (with_reducible refine condP_and ?_) | ((with_reducible refine condP_dt ?_ ?_); (· omega)) | ((with_reducible refine condP_df ?_ ?_); (· omega)) | ((with_reducible refine condP_yes ?_ ?_); (· assumption)) | ((with_reducible refine condP_no ?_ ?_); (· assumption)) | ((with_reducible refine ArP_i64 ?_ ?_); (· omega)) | ((with_reducible refine mustP.mk ?_ ?_); (· first | omega | rfl | (dsimp only; omega))) | (with_reducible refine EqP_nil tab_ok ?_) | (with_reducible refine EqP_sli tab_ok ?_) | (with_reducible refine DrawP_auto tab_ok (by kernel_rfl) (by decide +kernel) ?_) | (with_reducible refine DrawP_auto2 tab_ok (by kernel_rfl) (by decide +kernel) ?_) | (with_reducible refine eq45 ?_) | (with_reducible refine eq62 ?_) | (with_reducible refine eq100 ?_)))); exact ⟨rfl, rfl⟩)
    · have h1 : n.tdiv 10 = n / 10 := Int.tdiv_eq_ediv_of_nonneg (by omega)
      have h2 : n.tmod 10 = n % 10 := Int.tmod_eq_emod_of_nonneg (by omega)
      have g1 := ih (n.tdiv 10).natAbs (by rw [h1]; omega) (n.tdiv 10) rfl (by rw [h1]; omega)
      have g2 := Decimal_digit (n := n.tmod 10) (G := G) (by rw [h2]; omega) (by rw [h2]; omega)
      have hl1 := itoa_len (n := n.tdiv 10) (by rw [h1]; omega)
      have hl2 := itoa_len (n := n.tmod 10) (by rw [h2]; omega)
      have b2 : 0 ≤ n.tmod 10 ∧ n.tmod 10 ≤ 9 := by rw [h2]; omega
      have b1 : 0 ≤ n.tdiv 10 ∧ n.tdiv 10 ≤ 99999 := by rw [h1]; omega
      rw [itoa_pos (by omega), ← bytes_add]
      have hs1 := bytes_size (itoa (n.tdiv 10))
      have hs2 := bytes_size (itoa (n.tmod 10))
      generalize bytesS (itoa (n.tdiv 10)) = s1 at *
      generalize bytesS (itoa (n.tmod 10)) = s2 at *
      clear ih h1 h2
      refine Gives_of tab_ok Tryd.func20 ?_
      (repeat ((try (conv => whnf)); (first | (with_reducible refine condP_true ?_) | (with_reducible refine condP_false ?_) | (with_reducible refine condP_not ?_) | (with_reducible refine condP_and ?_) | ((with_reducible refine condP_dt ?_ ?_); (· omega)) | ((with_reducible refine condP_df ?_ ?_); (· omega)) | ((with_reducible refine condP_yes ?_ ?_); (· assumption)) | ((with_reducible refine condP_no ?_ ?_); (· assumption)) | ((with_reducible refine ArP_i64 ?_ ?_); (· omega)) | ((with_reducible refine mustP.mk ?_ ?_); (· first | omega | rfl | (dsimp only; omega))) | (with_reducible refine EqP_nil tab_ok ?_) | (with_reducible refine EqP_sli tab_ok ?_) | (with_reducible refine DrawP_auto tab_ok (by kernel_rfl) (by decide +kernel) ?_) | (with_reducible refine DrawP_auto2 tab_ok (by kernel_rfl) (by decide +kernel) ?_) | (with_reducible refine eq45 ?_) | (with_reducible refine eq62 ?_) | (with_reducible refine eq100 ?_) | (with_reducible refine CallP_gives (fun vs w => by kernel_rfl) (by kernel_rfl) (g1) ?_) | (with_reducible refine RCallP_gives (fun vs w => by kernel_rfl) (by kernel_rfl) (g1) ?_) | (with_reducible refine CallP_gives (fun vs w => by kernel_rfl) (by kernel_rfl) (g2) ?_) | (with_reducible refine RCallP_gives (fun vs w => by kernel_rfl) (by kernel_rfl) (g2) ?_))))
      conv => whnf
      first | exact ⟨rfl, rfl⟩ | (refine mustP.mk (by omega) ?_; (repeat ((try (conv => whnf)); (first | (with_reducible refine condP_true ?_) | (with_reducible refine condP_false ?_) | (with_reducible refine condP_not ?_) | (with_reducible refine condP_and ?_) | ((with_reducible refine condP_dt ?_ ?_); (· omega)) | ((with_reducible refine condP_df ?_ ?_); (· omega)) | ((with_reducible refine condP_yes ?_ ?_); (· assumption)) | ((with_reducible refine condP_no ?_ ?_); (· assumption)) | ((with_reducible refine ArP_i64 ?_ ?_); (· omega)) | ((with_reducible refine mustP.mk ?_ ?_); (· first | omega | rfl | (dsimp only; omega))) | (with_reducible refine EqP_nil tab_ok ?_) | (with_reducible refine EqP_sli tab_ok ?_) | (with_reducible refine DrawP_auto tab_ok (by kernel_rfl) (by decide +kernel) ?_) | (with_reducible refine DrawP_auto2 tab_ok (by kernel_rfl) (by decide +kernel) ?_) | (with_reducible refine eq45 ?_) | (with_reducible refine eq62 ?_) | (with_reducible refine eq100 ?_)))); exact ⟨rfl, rfl⟩)
end
end Go.Proofs.YtdakcfggecpjjaaDoor
