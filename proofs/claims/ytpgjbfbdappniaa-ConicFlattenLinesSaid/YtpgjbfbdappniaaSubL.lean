/-
  path.Subpaths.
-/
import Derived.Test.YtpgjbfbdappniaaSubs
namespace Go.Proofs.Ytpgjbfbdappniaa
open Go.RowKit
set_option linter.unusedVariables false
set_option linter.unusedSimpArgs false
set_option maxRecDepth 20000
/-- The subpaths ahead of the one that x is in. -/
def doneL (S : Nat → SegD) : Nat → List (Nat × Nat)
  | 0 => []
  | x + 1 => if (S (x + 1)).k = 1 then doneL S x ++ [(btP S x, x + 1 - btP S x)] else doneL S x
def rowL (S : Nat → SegD) : Nat → List (Nat × Nat)
  | 0 => []
  | x + 1 => doneL S x ++ [(btP S x, x + 1 - btP S x)]
theorem rowL_mv {S : Nat → SegD} {i : Nat} (h : (S i).k = 1) : rowL S (i + 1) = rowL S i ++ [(i, 1)] := by
  cases i with
  | zero => simp [rowL, doneL, btP]
  | succ x =>
    have e : btP S (x + 1) = x + 1 := by rw [btP, if_pos h]
    rw [rowL, e, doneL, if_pos h, rowL, show x + 1 + 1 - (x + 1) = 1 by omega]
theorem btP_le {S : Nat → SegD} : ∀ x, btP S x ≤ x
  | 0 => Nat.le_refl _
  | x + 1 => by rw [btP]; split; omega; have := btP_le (S := S) x; omega
theorem rowL_no {S : Nat → SegD} {x : Nat} (h : ¬ (S (x + 1)).k = 1) : rowL S (x + 1 + 1) = doneL S x ++ [(btP S x, x + 1 + 1 - btP S x)] := by
  have e : btP S (x + 1) = btP S x := by rw [btP, if_neg h]
  rw [rowL, e, doneL, if_neg h]
theorem doneL_len {S : Nat → SegD} : ∀ x, (doneL S x).length ≤ x
  | 0 => Nat.le_refl _
  | x + 1 => by
    rw [doneL]
    have := doneL_len (S := S) x
    split <;> simp <;> omega
theorem rowL_len {S : Nat → SegD} : ∀ x, (rowL S x).length ≤ x
  | 0 => Nat.le_refl _
  | x + 1 => by
    rw [rowL]
    have := doneL_len (S := S) x
    simp; omega
/-- A subpath as a slice. -/
def cutV (A : Option Addr) (q : Nat × Nat) : Value := .slice (A.map fun p => p.add (q.1 * 6)) q.2 q.2
theorem get_last {l : List Value} {a : Value} {o : Nat} (h : o = l.length) : (l ++ [a])[o]? = some a := by subst h; simp
theorem put_last {l : List Value} {a v : Value} {o m : Nat} (h : o = l.length) (hm : m = o + 1) : (l ++ [a]).take o ++ [v] ++ (l ++ [a]).drop m = l ++ [v] := by
  subst hm; subst h
  rw [List.drop_of_length_le (by simp), List.take_append_of_le_length (Nat.le_refl _)]; simp
theorem cut_eq {p : Addr} {i l : Nat} {lo hi : Int} (h : lo = i) (h2 : hi = i + l) (hl : 0 < l) : Value.slice (if hi.toNat = lo.toNat then some p else Option.map (fun x => x.add (lo.toNat * 6)) (some p)) (hi.toNat - lo.toNat) (hi.toNat - lo.toNat) = cutV (some p) (i, l) := by
  subst h; subst h2
  rw [if_neg (by omega)]
  unfold cutV
  rw [show ((i : Int)).toNat = i by omega, show ((i : Int) + (l : Int)).toNat - i = l by omega]
section
variable {G : Mem} {A : Option Addr} {n c : Nat} {S : Nat → SegD}
set_option maxHeartbeats 8000000 in
theorem Subpaths_makes (h : SegsM G A n S) (hn : n ≤ 1000) (hc : n ≤ c) (hm : c ≤ maxLen) (h0 : 0 < n → (S 0).k = 1) : Makes Try.prog 25 [.val (.slice A n c)] G id 22 1 (rowL S n).length ((rowL S n).map (cutV A)) := by
  unfold maxLen at hm
  refine Makes_of tab_ok Try.func25 (.alone fun _ => rfl) ?_
  (repeat ((try (conv => whnf)); (first | (with_reducible refine condP_true ?_) | (with_reducible refine condP_false ?_) | (with_reducible refine condP_not ?_) | (with_reducible refine condP_and ?_) | ((with_reducible refine condP_dt ?_ ?_); (· omega)) | ((with_reducible refine condP_df ?_ ?_); (· omega)) | ((with_reducible refine condP_yes ?_ ?_); (· assumption)) | ((with_reducible refine condP_no ?_ ?_); (· assumption)) | ((with_reducible refine ArP_i64 ?_ ?_); (· omega)) | ((with_reducible refine mustP.mk ?_ ?_); (· first | omega | rfl | (dsimp only; omega))) | (with_reducible refine EqP_nil tab_ok ?_) | (with_reducible refine EqP_sli tab_ok ?_) | (with_reducible refine DrawP_auto tab_ok (by kernel_rfl) (by decide +kernel) ?_) | (with_reducible refine DrawP_auto2 tab_ok (by kernel_rfl) (by decide +kernel) ?_) | (with_reducible refine eq43 ?_) | (with_reducible refine eq55 ?_) | (with_reducible refine eq57 ?_) | (with_reducible refine eq93 ?_) | (with_reducible refine eq101 ?_) | (with_reducible refine eq116 ?_) | (with_reducible refine eq119 ?_))))
  conv => whnf
  refine LoopP_at tab_ok (fun i => i ≤ n) (fun (i : Nat) => [(9, .val (.int .i64 i)), (3, .own 0)]) (fun i => [.own 22 1 (rowL S i).length ((rowL S i).map (cutV A))]) (fun i => n - i) 0 (Nat.zero_le _) ?_ ?_
  · refine Le_own 22 1 ?_
    conv => whnf
    ((refine Le_head ?_); (conv => whnf); (refine Le_mk (by rfl) (by rfl) ?_ ?_); (· (repeat (first | (with_reducible exact frLe_nil) | (with_reducible refine frLe_any ?_) | (with_reducible refine frLe_val ?_) | ((with_reducible refine frLe_eq rfl ?_ ?_); (· rfl)) | ((with_reducible refine frLe_val' (int_eq ?_) ?_ ?_); (· omega); (· rfl)) | ((with_reducible refine frLe_val' (int_eq ?_) ?_ ?_); (· simp only [Int.natCast_add, Int.natCast_one, Int.natCast_ofNat] <;> omega); (· rfl)) | ((with_reducible refine frLe_val' (bool_eq ?_) ?_ ?_); (· first | assumption | (symm; assumption)); (· rfl))))))
    exact hpLe_own rfl rfl hpLe_nil
  · rintro i hi
    have hrl := rowL_len (S := S) i
    rcases Nat.lt_or_ge i n with h1 | h1
    · obtain ⟨p, rfl, ca⟩ := h.cells h1
      by_cases k1 : (S i).k = 1
      · clear h h0
        (repeat ((try (conv => whnf)); (first | (refine ca _ ?_) | (with_reducible refine condP_true ?_) | (with_reducible refine condP_false ?_) | (with_reducible refine condP_not ?_) | (with_reducible refine condP_and ?_) | ((with_reducible refine condP_dt ?_ ?_); (· omega)) | ((with_reducible refine condP_df ?_ ?_); (· omega)) | ((with_reducible refine condP_yes ?_ ?_); (· assumption)) | ((with_reducible refine condP_no ?_ ?_); (· assumption)) | ((with_reducible refine ArP_i64 ?_ ?_); (· omega)) | ((with_reducible refine mustP.mk ?_ ?_); (· first | omega | rfl | (dsimp only; omega))) | (with_reducible refine EqP_nil tab_ok ?_) | (with_reducible refine EqP_sli tab_ok ?_) | (with_reducible refine DrawP_auto tab_ok (by kernel_rfl) (by decide +kernel) ?_) | (with_reducible refine DrawP_auto2 tab_ok (by kernel_rfl) (by decide +kernel) ?_) | (with_reducible refine eq43 ?_) | (with_reducible refine eq55 ?_) | (with_reducible refine eq57 ?_) | (with_reducible refine eq93 ?_) | (with_reducible refine eq101 ?_) | (with_reducible refine eq116 ?_) | (with_reducible refine eq119 ?_))))
        conv => whnf
        refine OwnCells_one _ (get_last (by show _ * 1 = _; rw [List.length_map]; omega)) ?_
        (repeat ((try (conv => whnf)); (first | (with_reducible refine condP_true ?_) | (with_reducible refine condP_false ?_) | (with_reducible refine condP_not ?_) | (with_reducible refine condP_and ?_) | ((with_reducible refine condP_dt ?_ ?_); (· omega)) | ((with_reducible refine condP_df ?_ ?_); (· omega)) | ((with_reducible refine condP_yes ?_ ?_); (· assumption)) | ((with_reducible refine condP_no ?_ ?_); (· assumption)) | ((with_reducible refine ArP_i64 ?_ ?_); (· omega)) | ((with_reducible refine mustP.mk ?_ ?_); (· first | omega | rfl | (dsimp only; omega))) | (with_reducible refine EqP_nil tab_ok ?_) | (with_reducible refine EqP_sli tab_ok ?_) | (with_reducible refine DrawP_auto tab_ok (by kernel_rfl) (by decide +kernel) ?_) | (with_reducible refine DrawP_auto2 tab_ok (by kernel_rfl) (by decide +kernel) ?_) | (with_reducible refine eq43 ?_) | (with_reducible refine eq55 ?_) | (with_reducible refine eq57 ?_) | (with_reducible refine eq93 ?_) | (with_reducible refine eq101 ?_) | (with_reducible refine eq116 ?_) | (with_reducible refine eq119 ?_))))
        conv => whnf
        refine mustP.mk (by show _ * 1 + _ ≤ _; simp only [List.length_append, List.length_map, List.length_singleton]; omega) ?_
        (repeat ((try (conv => whnf)); (first | (with_reducible refine condP_true ?_) | (with_reducible refine condP_false ?_) | (with_reducible refine condP_not ?_) | (with_reducible refine condP_and ?_) | ((with_reducible refine condP_dt ?_ ?_); (· omega)) | ((with_reducible refine condP_df ?_ ?_); (· omega)) | ((with_reducible refine condP_yes ?_ ?_); (· assumption)) | ((with_reducible refine condP_no ?_ ?_); (· assumption)) | ((with_reducible refine ArP_i64 ?_ ?_); (· omega)) | ((with_reducible refine mustP.mk ?_ ?_); (· first | omega | rfl | (dsimp only; omega))) | (with_reducible refine EqP_nil tab_ok ?_) | (with_reducible refine EqP_sli tab_ok ?_) | (with_reducible refine DrawP_auto tab_ok (by kernel_rfl) (by decide +kernel) ?_) | (with_reducible refine DrawP_auto2 tab_ok (by kernel_rfl) (by decide +kernel) ?_) | (with_reducible refine eq43 ?_) | (with_reducible refine eq55 ?_) | (with_reducible refine eq57 ?_) | (with_reducible refine eq93 ?_) | (with_reducible refine eq101 ?_) | (with_reducible refine eq116 ?_) | (with_reducible refine eq119 ?_))))
        conv => whnf
        refine ⟨i + 1, by omega, by omega, ?_⟩
        refine Le_move 3 0 rfl rfl rfl rfl ?_
        conv => whnf
        ((refine Le_head ?_); (conv => whnf); (refine Le_mk (by rfl) (by rfl) ?_ ?_); (· (repeat (first | (with_reducible exact frLe_nil) | (with_reducible refine frLe_any ?_) | (with_reducible refine frLe_val ?_) | ((with_reducible refine frLe_eq rfl ?_ ?_); (· rfl)) | ((with_reducible refine frLe_val' (int_eq ?_) ?_ ?_); (· omega); (· rfl)) | ((with_reducible refine frLe_val' (int_eq ?_) ?_ ?_); (· simp only [Int.natCast_add, Int.natCast_one, Int.natCast_ofNat] <;> omega); (· rfl)) | ((with_reducible refine frLe_val' (bool_eq ?_) ?_ ?_); (· first | assumption | (symm; assumption)); (· rfl))))))
        refine hpLe_own (by rw [rowL_mv k1]; simp) ?_ hpLe_nil
        dsimp only
        rw [put_last (by rw [List.length_map]; omega) (by simp), rowL_mv k1, List.map_append, cut_eq (i := i) (l := 1) (by omega) (by omega) (by omega)]
        rfl
      · obtain ⟨x, rfl⟩ : ∃ x, i = x + 1 := by
          cases i with
          | zero => exact absurd (h0 (by omega)) k1
          | succ x => exact ⟨x, rfl⟩
        have hbl := btP_le (S := S) x
        have el : (rowL S (x + 1)).length = (doneL S x).length + 1 := by rw [rowL]; simp
        have e : (rowL S (x + 1)).map (cutV (some p)) = (doneL S x).map (cutV (some p)) ++ [Value.slice (some (p.add (btP S x * 6))) (x + 1 - btP S x) (x + 1 - btP S x)] := by rw [rowL, List.map_append]; rfl
        have en := rowL_no k1
        have eln : (rowL S (x + 1 + 1)).length = (doneL S x).length + 1 := by rw [en]; simp
        clear h h0
        (repeat ((try (conv => whnf)); (first | (refine ca _ ?_) | (with_reducible refine condP_true ?_) | (with_reducible refine condP_false ?_) | (with_reducible refine condP_not ?_) | (with_reducible refine condP_and ?_) | ((with_reducible refine condP_dt ?_ ?_); (· omega)) | ((with_reducible refine condP_df ?_ ?_); (· omega)) | ((with_reducible refine condP_yes ?_ ?_); (· assumption)) | ((with_reducible refine condP_no ?_ ?_); (· assumption)) | ((with_reducible refine ArP_i64 ?_ ?_); (· omega)) | ((with_reducible refine mustP.mk ?_ ?_); (· first | omega | rfl | (dsimp only; omega))) | (with_reducible refine EqP_nil tab_ok ?_) | (with_reducible refine EqP_sli tab_ok ?_) | (with_reducible refine DrawP_auto tab_ok (by kernel_rfl) (by decide +kernel) ?_) | (with_reducible refine DrawP_auto2 tab_ok (by kernel_rfl) (by decide +kernel) ?_) | (with_reducible refine eq43 ?_) | (with_reducible refine eq55 ?_) | (with_reducible refine eq57 ?_) | (with_reducible refine eq93 ?_) | (with_reducible refine eq101 ?_) | (with_reducible refine eq116 ?_) | (with_reducible refine eq119 ?_))))
        conv => whnf
        refine OwnCells_one (Value.slice (some (p.add (btP S x * 6))) (x + 1 - btP S x) (x + 1 - btP S x)) (by rw [e]; exact get_last (by show _ * 1 = _; rw [List.length_map]; omega)) ?_
        (repeat ((try (conv => whnf)); (first | (with_reducible refine condP_true ?_) | (with_reducible refine condP_false ?_) | (with_reducible refine condP_not ?_) | (with_reducible refine condP_and ?_) | ((with_reducible refine condP_dt ?_ ?_); (· omega)) | ((with_reducible refine condP_df ?_ ?_); (· omega)) | ((with_reducible refine condP_yes ?_ ?_); (· assumption)) | ((with_reducible refine condP_no ?_ ?_); (· assumption)) | ((with_reducible refine ArP_i64 ?_ ?_); (· omega)) | ((with_reducible refine mustP.mk ?_ ?_); (· first | omega | rfl | (dsimp only; omega))) | (with_reducible refine EqP_nil tab_ok ?_) | (with_reducible refine EqP_sli tab_ok ?_) | (with_reducible refine DrawP_auto tab_ok (by kernel_rfl) (by decide +kernel) ?_) | (with_reducible refine DrawP_auto2 tab_ok (by kernel_rfl) (by decide +kernel) ?_) | (with_reducible refine eq43 ?_) | (with_reducible refine eq55 ?_) | (with_reducible refine eq57 ?_) | (with_reducible refine eq93 ?_) | (with_reducible refine eq101 ?_) | (with_reducible refine eq116 ?_) | (with_reducible refine eq119 ?_))))
        conv => whnf
        refine mustP.mk (by show _ * 1 + _ ≤ _; simp only [List.length_map, List.length_singleton]; omega) ?_
        (repeat ((try (conv => whnf)); (first | (with_reducible refine condP_true ?_) | (with_reducible refine condP_false ?_) | (with_reducible refine condP_not ?_) | (with_reducible refine condP_and ?_) | ((with_reducible refine condP_dt ?_ ?_); (· omega)) | ((with_reducible refine condP_df ?_ ?_); (· omega)) | ((with_reducible refine condP_yes ?_ ?_); (· assumption)) | ((with_reducible refine condP_no ?_ ?_); (· assumption)) | ((with_reducible refine ArP_i64 ?_ ?_); (· omega)) | ((with_reducible refine mustP.mk ?_ ?_); (· first | omega | rfl | (dsimp only; omega))) | (with_reducible refine EqP_nil tab_ok ?_) | (with_reducible refine EqP_sli tab_ok ?_) | (with_reducible refine DrawP_auto tab_ok (by kernel_rfl) (by decide +kernel) ?_) | (with_reducible refine DrawP_auto2 tab_ok (by kernel_rfl) (by decide +kernel) ?_) | (with_reducible refine eq43 ?_) | (with_reducible refine eq55 ?_) | (with_reducible refine eq57 ?_) | (with_reducible refine eq93 ?_) | (with_reducible refine eq101 ?_) | (with_reducible refine eq116 ?_) | (with_reducible refine eq119 ?_))))
        conv => whnf
        refine ⟨x + 1 + 1, by omega, by omega, ?_⟩
        ((refine Le_head ?_); (conv => whnf); (refine Le_mk (by rfl) (by rfl) ?_ ?_); (· (repeat (first | (with_reducible exact frLe_nil) | (with_reducible refine frLe_any ?_) | (with_reducible refine frLe_val ?_) | ((with_reducible refine frLe_eq rfl ?_ ?_); (· rfl)) | ((with_reducible refine frLe_val' (int_eq ?_) ?_ ?_); (· omega); (· rfl)) | ((with_reducible refine frLe_val' (int_eq ?_) ?_ ?_); (· simp only [Int.natCast_add, Int.natCast_one, Int.natCast_ofNat] <;> omega); (· rfl)) | ((with_reducible refine frLe_val' (bool_eq ?_) ?_ ?_); (· first | assumption | (symm; assumption)); (· rfl))))))
        refine hpLe_own (by omega) ?_ hpLe_nil
        dsimp only
        rw [e, put_last (by rw [List.length_map]; omega) (by simp), en, List.map_append, cut_eq (i := btP S x) (l := x + 1 + 1 - btP S x) (by omega) (by omega) (by omega)]
        rfl
    · obtain rfl : i = n := by omega
      (repeat ((try (conv => whnf)); (first | (with_reducible refine condP_true ?_) | (with_reducible refine condP_false ?_) | (with_reducible refine condP_not ?_) | (with_reducible refine condP_and ?_) | ((with_reducible refine condP_dt ?_ ?_); (· omega)) | ((with_reducible refine condP_df ?_ ?_); (· omega)) | ((with_reducible refine condP_yes ?_ ?_); (· assumption)) | ((with_reducible refine condP_no ?_ ?_); (· assumption)) | ((with_reducible refine ArP_i64 ?_ ?_); (· omega)) | ((with_reducible refine mustP.mk ?_ ?_); (· first | omega | rfl | (dsimp only; omega))) | (with_reducible refine EqP_nil tab_ok ?_) | (with_reducible refine EqP_sli tab_ok ?_) | (with_reducible refine DrawP_auto tab_ok (by kernel_rfl) (by decide +kernel) ?_) | (with_reducible refine DrawP_auto2 tab_ok (by kernel_rfl) (by decide +kernel) ?_) | (with_reducible refine eq43 ?_) | (with_reducible refine eq55 ?_) | (with_reducible refine eq57 ?_) | (with_reducible refine eq93 ?_) | (with_reducible refine eq101 ?_) | (with_reducible refine eq116 ?_) | (with_reducible refine eq119 ?_))))
      exact .inl ⟨0, rfl, rfl⟩
end
end Go.Proofs.Ytpgjbfbdappniaa
