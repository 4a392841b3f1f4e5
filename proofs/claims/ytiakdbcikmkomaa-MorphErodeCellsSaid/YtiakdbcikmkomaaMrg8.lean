/-
  Merged: XPut, XJoined.
-/
import Derived.Test.YtiakdbcikmkomaaMrg7
import Derived.Test.YtiakdbcikmkomaaMrg5
namespace Go.Proofs.Ytiakdbcikmkomaa
open Go.RowKit
set_option linter.unusedVariables false
set_option maxRecDepth 20000
def ints (l : List Int) : List Value := l.map (.int .i64)
theorem ints_get {l : List Int} {i : Nat} {z : Int} (h : l[i]? = some z) : (ints l)[i]? = some (.int .i64 z) := by simp [ints, h]
theorem ints_nat {l : List Int} {i : Nat} {z : Int} (h : l[i]? = some z) : (ints l)[(i : Int).toNat * (⟨.int .i64, 1, 8, [.int .i64 0]⟩ : TI).size]? = some (.int .i64 z) := by
  rw [Int.toNat_natCast, Nat.mul_one]; exact ints_get h
theorem ints_next {l : List Int} {i : Nat} {z : Int} (h : l[i + 1]? = some z) : (ints l)[((i : Int) + 1).toNat * (⟨.int .i64, 1, 8, [.int .i64 0]⟩ : TI).size]? = some (.int .i64 z) := by
  rw [show ((i : Int) + 1).toNat = i + 1 by omega, Nat.mul_one]; exact ints_get h
theorem ints_length (l : List Int) : (ints l).length = l.length := by simp [ints]
theorem put_row {l : List Int} {x : Int} {i : Nat} (hi : i ≤ l.length) (a : Value) : ((((ints l ++ [a]).take (i + 1) ++ ints (l.drop i) ++ (ints l ++ [a]).drop (i + 1 + (ints (l.drop i)).length)).take i ++ [.int .i64 x] ++ ((ints l ++ [a]).take (i + 1) ++ ints (l.drop i) ++ (ints l ++ [a]).drop (i + 1 + (ints (l.drop i)).length)).drop (i + 1))) = ints (l.take i ++ x :: l.drop i) := by
  have e1 : (ints l ++ [a]).drop (i + 1 + (ints (l.drop i)).length) = [] := by
    apply List.drop_eq_nil_of_le; simp [ints]; omega
  rw [e1, List.append_nil]
  have e2 : ((ints l ++ [a]).take (i + 1)).length = i + 1 := by simp [ints]; omega
  rw [List.take_append_of_le_length (by omega), List.drop_append_of_le_length (by omega), List.drop_of_length_le (by omega)]
  rw [List.take_take, show min i (i + 1) = i by omega, List.take_append_of_le_length (by simp [ints]; omega)]
  simp [ints]
theorem ints_drop {l : List Int} {i j : Nat} {v : Value} {r : List Value} (h : (ints (l.drop i))[j]? = some v) : (ints l ++ r)[(i : Int).toNat * 1 + j]? = some v := by
  have hj := (List.getElem?_eq_some_iff.1 h).1
  simp only [ints_length, List.length_drop] at hj
  rw [List.getElem?_append_left (by simp [ints_length]; omega)]
  simp only [ints, List.getElem?_map, List.getElem?_drop] at h ⊢
  rw [← h]; congr 2; omega
theorem ints_cell {l : List Int} : ∀ v ∈ ints l, v.oneCell' = true := fun v hv => by
  simp only [ints, List.mem_map] at hv
  obtain ⟨z, _, rfl⟩ := hv; rfl
theorem put_room {l : List Int} {i : Nat} {x : Int} (hi : i ≤ l.length) : (i : Int).toNat * 1 + [Value.int .i64 x].length ≤ ((ints l ++ [Value.int .i64 0]).take (((i : Int) + 1).toNat * 1) ++ ints (l.drop i) ++ (ints l ++ [Value.int .i64 0]).drop (((i : Int) + 1).toNat * 1 + (ints (l.drop i)).length)).length := by
  simp only [List.length_append, List.length_take, List.length_drop, ints_length, List.length_singleton]; omega
theorem put_fin {l : List Int} {i : Nat} {x : Int} (hi : i ≤ l.length) (hins : ins x l = l.take i ++ x :: l.drop i) :
    Blk.own 3 1 (l.length + 1) (((ints l ++ [Value.int .i64 0]).take (((i : Int) + 1).toNat * 1) ++ ints (l.drop i) ++ (ints l ++ [Value.int .i64 0]).drop (((i : Int) + 1).toNat * 1 + (ints (l.drop i)).length)).take ((i : Int).toNat * 1) ++ [.int .i64 x] ++ ((ints l ++ [Value.int .i64 0]).take (((i : Int) + 1).toNat * 1) ++ ints (l.drop i) ++ (ints l ++ [Value.int .i64 0]).drop (((i : Int) + 1).toNat * 1 + (ints (l.drop i)).length)).drop ((i : Int).toNat * 1 + [Value.int .i64 x].length)) =
      .own 3 1 (ins x l).length (ints (ins x l)) := by
  rw [show (((i : Int) + 1).toNat * 1) = i + 1 by omega, show ((i : Int).toNat * 1) = i by omega, List.length_singleton, put_row hi, hins]
  have e : l.length + 1 = (l.take i ++ x :: l.drop i).length := by simp; omega
  rw [e]
theorem ins_pos (x : Int) (l : List Int) : 0 < (ins x l).length := by
  cases l with
  | nil => simp [ins]
  | cons a l => unfold ins; split <;> (try split) <;> simp
set_option maxHeartbeats 1000000 in
theorem put_takes (l : List Int) (x : Int) (G : Mem) (hl : l.length ≤ 4000000000) : Takes Try.prog 23 [.val (.int .i64 x)] G 3 1 l.length (ints l) (ins x l).length (ints (ins x l)) := by
  refine Takes_of tab_ok Try.func23 (ins_pos x l) fun G' _ => ?_
  (repeat ((try (conv => whnf)); (first | (with_reducible first | refine condP_true ?_ | refine condP_false ?_ | refine condP_not ?_ | refine condP_and ?_) | ((with_reducible refine condP_dt ?_ ?_); (· omega)) | ((with_reducible refine condP_df ?_ ?_); (· omega)) | ((with_reducible refine condP_yes ?_ ?_); (· assumption)) | ((with_reducible refine condP_no ?_ ?_); (· assumption)) | ((with_reducible refine ArP_i64 ?_ ?_); (· omega)) | ((with_reducible refine mustP.mk ?_ ?_); (· first | omega | rfl | (dsimp only; omega))) | (with_reducible first | refine EqP_nil tab_ok ?_ | refine EqP_sli tab_ok ?_ | refine DrawP_auto tab_ok (by kernel_rfl) (by decide +kernel) ?_ | refine DrawP_auto2 tab_ok (by kernel_rfl) (by decide +kernel) ?_ | refine eq34 ?_ | refine eq68 ?_))))
  conv => whnf
  refine LoopP_at tab_ok (fun i => i ≤ l.length ∧ ∀ (j : Nat) z, j < i → l[j]? = some z → z < x) (fun (i : Nat) => [(5, .val (.int .i64 i))]) (fun i => [.own 3 1 l.length (ints l)]) (fun i => l.length - i) 0 ⟨Nat.zero_le _, fun j z hj => by omega⟩ ?_ ?_
  · ((refine Le_head ?_); (conv => whnf); (refine Le_mk (by rfl) (by rfl) ?_ ?_); (· (repeat (first | (with_reducible exact frLe_nil) | (with_reducible first | refine frLe_any ?_ | refine frLe_val ?_) | ((with_reducible refine frLe_eq rfl ?_ ?_); (· rfl)) | ((with_reducible refine frLe_val' (int_eq ?_) ?_ ?_); (· omega); (· rfl)) | ((with_reducible refine frLe_val' (int_eq ?_) ?_ ?_); (· simp only [Int.natCast_add, Int.natCast_one, Int.natCast_ofNat] <;> omega); (· rfl)) | ((with_reducible refine frLe_val' (bool_eq ?_) ?_ ?_); (· first | assumption | (symm; assumption)); (· rfl))))))
    exact hpLe_own rfl rfl hpLe_nil
  · rintro i ⟨hi, hlt⟩
    rcases Nat.lt_or_ge i l.length with h1 | h1
    · obtain ⟨z, hz⟩ : ∃ z, l[i]? = some z := ⟨l[i], List.getElem?_eq_getElem h1⟩
      by_cases hzx : z < x
      · (repeat ((try (conv => whnf)); (first | (with_reducible first | refine condP_true ?_ | refine condP_false ?_ | refine condP_not ?_ | refine condP_and ?_) | ((with_reducible refine condP_dt ?_ ?_); (· omega)) | ((with_reducible refine condP_df ?_ ?_); (· omega)) | ((with_reducible refine condP_yes ?_ ?_); (· assumption)) | ((with_reducible refine condP_no ?_ ?_); (· assumption)) | ((with_reducible refine ArP_i64 ?_ ?_); (· omega)) | ((with_reducible refine mustP.mk ?_ ?_); (· first | omega | rfl | (dsimp only; omega))) | (with_reducible first | refine EqP_nil tab_ok ?_ | refine EqP_sli tab_ok ?_ | refine DrawP_auto tab_ok (by kernel_rfl) (by decide +kernel) ?_ | refine DrawP_auto2 tab_ok (by kernel_rfl) (by decide +kernel) ?_ | refine eq34 ?_ | refine eq68 ?_))))
        conv => whnf
        refine OwnCells_one (.int .i64 z) (by rw [Int.toNat_natCast, Nat.mul_one]; exact ints_get hz) ?_
        (repeat ((try (conv => whnf)); (first | (with_reducible first | refine condP_true ?_ | refine condP_false ?_ | refine condP_not ?_ | refine condP_and ?_) | ((with_reducible refine condP_dt ?_ ?_); (· omega)) | ((with_reducible refine condP_df ?_ ?_); (· omega)) | ((with_reducible refine condP_yes ?_ ?_); (· assumption)) | ((with_reducible refine condP_no ?_ ?_); (· assumption)) | ((with_reducible refine ArP_i64 ?_ ?_); (· omega)) | ((with_reducible refine mustP.mk ?_ ?_); (· first | omega | rfl | (dsimp only; omega))) | (with_reducible first | refine EqP_nil tab_ok ?_ | refine EqP_sli tab_ok ?_ | refine DrawP_auto tab_ok (by kernel_rfl) (by decide +kernel) ?_ | refine DrawP_auto2 tab_ok (by kernel_rfl) (by decide +kernel) ?_ | refine eq34 ?_ | refine eq68 ?_))))
        refine ⟨i + 1, ⟨by omega, fun j q hj hq => ?_⟩, by omega, ?_⟩
        · rcases Nat.lt_or_ge j i with h2 | h2
          · exact hlt j q h2 hq
          · have : j = i := by omega
            subst this; rw [hz] at hq; cases hq; exact hzx
        · ((refine Le_head ?_); (conv => whnf); (refine Le_mk (by rfl) (by rfl) ?_ ?_); (· (repeat (first | (with_reducible exact frLe_nil) | (with_reducible first | refine frLe_any ?_ | refine frLe_val ?_) | ((with_reducible refine frLe_eq rfl ?_ ?_); (· rfl)) | ((with_reducible refine frLe_val' (int_eq ?_) ?_ ?_); (· omega); (· rfl)) | ((with_reducible refine frLe_val' (int_eq ?_) ?_ ?_); (· simp only [Int.natCast_add, Int.natCast_one, Int.natCast_ofNat] <;> omega); (· rfl)) | ((with_reducible refine frLe_val' (bool_eq ?_) ?_ ?_); (· first | assumption | (symm; assumption)); (· rfl))))))
          exact hpLe_own rfl rfl hpLe_nil
      · have hins := ins_at (x := x) hi hlt (fun q hq => by rw [hz] at hq; cases hq; exact hzx)
        rw [hz] at hins
        by_cases he : z = x
        · simp only [if_pos he] at hins
          (repeat ((try (conv => whnf)); (first | (with_reducible first | refine condP_true ?_ | refine condP_false ?_ | refine condP_not ?_ | refine condP_and ?_) | ((with_reducible refine condP_dt ?_ ?_); (· omega)) | ((with_reducible refine condP_df ?_ ?_); (· omega)) | ((with_reducible refine condP_yes ?_ ?_); (· assumption)) | ((with_reducible refine condP_no ?_ ?_); (· assumption)) | ((with_reducible refine ArP_i64 ?_ ?_); (· omega)) | ((with_reducible refine mustP.mk ?_ ?_); (· first | omega | rfl | (dsimp only; omega))) | (with_reducible first | refine EqP_nil tab_ok ?_ | refine EqP_sli tab_ok ?_ | refine DrawP_auto tab_ok (by kernel_rfl) (by decide +kernel) ?_ | refine DrawP_auto2 tab_ok (by kernel_rfl) (by decide +kernel) ?_ | refine eq34 ?_ | refine eq68 ?_))))
          conv => whnf
          refine OwnCells_one (.int .i64 z) (by rw [Int.toNat_natCast, Nat.mul_one]; exact ints_get hz) ?_
          (repeat ((try (conv => whnf)); (first | (with_reducible first | refine condP_true ?_ | refine condP_false ?_ | refine condP_not ?_ | refine condP_and ?_) | ((with_reducible refine condP_dt ?_ ?_); (· omega)) | ((with_reducible refine condP_df ?_ ?_); (· omega)) | ((with_reducible refine condP_yes ?_ ?_); (· assumption)) | ((with_reducible refine condP_no ?_ ?_); (· assumption)) | ((with_reducible refine ArP_i64 ?_ ?_); (· omega)) | ((with_reducible refine mustP.mk ?_ ?_); (· first | omega | rfl | (dsimp only; omega))) | (with_reducible first | refine EqP_nil tab_ok ?_ | refine EqP_sli tab_ok ?_ | refine DrawP_auto tab_ok (by kernel_rfl) (by decide +kernel) ?_ | refine DrawP_auto2 tab_ok (by kernel_rfl) (by decide +kernel) ?_ | refine eq34 ?_ | refine eq68 ?_))))
          conv => whnf
          refine OwnCells_one (.int .i64 z) (by rw [Int.toNat_natCast, Nat.mul_one]; exact ints_get hz) ?_
          (repeat ((try (conv => whnf)); (first | (with_reducible first | refine condP_true ?_ | refine condP_false ?_ | refine condP_not ?_ | refine condP_and ?_) | ((with_reducible refine condP_dt ?_ ?_); (· omega)) | ((with_reducible refine condP_df ?_ ?_); (· omega)) | ((with_reducible refine condP_yes ?_ ?_); (· assumption)) | ((with_reducible refine condP_no ?_ ?_); (· assumption)) | ((with_reducible refine ArP_i64 ?_ ?_); (· omega)) | ((with_reducible refine mustP.mk ?_ ?_); (· first | omega | rfl | (dsimp only; omega))) | (with_reducible first | refine EqP_nil tab_ok ?_ | refine EqP_sli tab_ok ?_ | refine DrawP_auto tab_ok (by kernel_rfl) (by decide +kernel) ?_ | refine DrawP_auto2 tab_ok (by kernel_rfl) (by decide +kernel) ?_ | refine eq34 ?_ | refine eq68 ?_))))
          conv => whnf
          exact ⟨0, rfl, by rw [hins]; rfl⟩
        · simp only [if_neg he] at hins
          (repeat ((try (conv => whnf)); (first | (with_reducible first | refine condP_true ?_ | refine condP_false ?_ | refine condP_not ?_ | refine condP_and ?_) | ((with_reducible refine condP_dt ?_ ?_); (· omega)) | ((with_reducible refine condP_df ?_ ?_); (· omega)) | ((with_reducible refine condP_yes ?_ ?_); (· assumption)) | ((with_reducible refine condP_no ?_ ?_); (· assumption)) | ((with_reducible refine ArP_i64 ?_ ?_); (· omega)) | ((with_reducible refine mustP.mk ?_ ?_); (· first | omega | rfl | (dsimp only; omega))) | (with_reducible first | refine EqP_nil tab_ok ?_ | refine EqP_sli tab_ok ?_ | refine DrawP_auto tab_ok (by kernel_rfl) (by decide +kernel) ?_ | refine DrawP_auto2 tab_ok (by kernel_rfl) (by decide +kernel) ?_ | refine eq34 ?_ | refine eq68 ?_))))
          conv => whnf
          refine OwnCells_one (.int .i64 z) (by rw [Int.toNat_natCast, Nat.mul_one]; exact ints_get hz) ?_
          (repeat ((try (conv => whnf)); (first | (with_reducible first | refine condP_true ?_ | refine condP_false ?_ | refine condP_not ?_ | refine condP_and ?_) | ((with_reducible refine condP_dt ?_ ?_); (· omega)) | ((with_reducible refine condP_df ?_ ?_); (· omega)) | ((with_reducible refine condP_yes ?_ ?_); (· assumption)) | ((with_reducible refine condP_no ?_ ?_); (· assumption)) | ((with_reducible refine ArP_i64 ?_ ?_); (· omega)) | ((with_reducible refine mustP.mk ?_ ?_); (· first | omega | rfl | (dsimp only; omega))) | (with_reducible first | refine EqP_nil tab_ok ?_ | refine EqP_sli tab_ok ?_ | refine DrawP_auto tab_ok (by kernel_rfl) (by decide +kernel) ?_ | refine DrawP_auto2 tab_ok (by kernel_rfl) (by decide +kernel) ?_ | refine eq34 ?_ | refine eq68 ?_))))
          conv => whnf
          refine OwnCells_one (.int .i64 z) (by rw [Int.toNat_natCast, Nat.mul_one]; exact ints_get hz) ?_
          (repeat ((try (conv => whnf)); (first | (with_reducible first | refine condP_true ?_ | refine condP_false ?_ | refine condP_not ?_ | refine condP_and ?_) | ((with_reducible refine condP_dt ?_ ?_); (· omega)) | ((with_reducible refine condP_df ?_ ?_); (· omega)) | ((with_reducible refine condP_yes ?_ ?_); (· assumption)) | ((with_reducible refine condP_no ?_ ?_); (· assumption)) | ((with_reducible refine ArP_i64 ?_ ?_); (· omega)) | ((with_reducible refine mustP.mk ?_ ?_); (· first | omega | rfl | (dsimp only; omega))) | (with_reducible first | refine EqP_nil tab_ok ?_ | refine EqP_sli tab_ok ?_ | refine DrawP_auto tab_ok (by kernel_rfl) (by decide +kernel) ?_ | refine DrawP_auto2 tab_ok (by kernel_rfl) (by decide +kernel) ?_ | refine eq34 ?_ | refine eq68 ?_))))
          conv => whnf
          refine OwnCells_list (ints (l.drop i)) (by simp only [ints_length, List.length_drop]; omega) (fun j v hj => ints_drop hj) ?_
          conv => whnf
          refine mustP.mk ⟨by simp only [ints_length, List.length_drop, List.length_append, List.length_singleton]; omega, ints_cell⟩ ?_
          (repeat ((try (conv => whnf)); (first | (with_reducible first | refine condP_true ?_ | refine condP_false ?_ | refine condP_not ?_ | refine condP_and ?_) | ((with_reducible refine condP_dt ?_ ?_); (· omega)) | ((with_reducible refine condP_df ?_ ?_); (· omega)) | ((with_reducible refine condP_yes ?_ ?_); (· assumption)) | ((with_reducible refine condP_no ?_ ?_); (· assumption)) | ((with_reducible refine ArP_i64 ?_ ?_); (· omega)) | ((with_reducible refine mustP.mk ?_ ?_); (· first | omega | rfl | (dsimp only; omega))) | (with_reducible first | refine EqP_nil tab_ok ?_ | refine EqP_sli tab_ok ?_ | refine DrawP_auto tab_ok (by kernel_rfl) (by decide +kernel) ?_ | refine DrawP_auto2 tab_ok (by kernel_rfl) (by decide +kernel) ?_ | refine eq34 ?_ | refine eq68 ?_))))
          conv => whnf
          refine mustP.mk (put_room (by omega)) ?_
          (repeat ((try (conv => whnf)); (first | (with_reducible first | refine condP_true ?_ | refine condP_false ?_ | refine condP_not ?_ | refine condP_and ?_) | ((with_reducible refine condP_dt ?_ ?_); (· omega)) | ((with_reducible refine condP_df ?_ ?_); (· omega)) | ((with_reducible refine condP_yes ?_ ?_); (· assumption)) | ((with_reducible refine condP_no ?_ ?_); (· assumption)) | ((with_reducible refine ArP_i64 ?_ ?_); (· omega)) | ((with_reducible refine mustP.mk ?_ ?_); (· first | omega | rfl | (dsimp only; omega))) | (with_reducible first | refine EqP_nil tab_ok ?_ | refine EqP_sli tab_ok ?_ | refine DrawP_auto tab_ok (by kernel_rfl) (by decide +kernel) ?_ | refine DrawP_auto2 tab_ok (by kernel_rfl) (by decide +kernel) ?_ | refine eq34 ?_ | refine eq68 ?_))))
          conv => whnf
          exact ⟨2, rfl, put_fin (by omega) hins⟩
    · have hins := ins_at (x := x) hi hlt (fun q hq => by rw [List.getElem?_eq_none (by omega)] at hq; cases hq)
      rw [List.getElem?_eq_none (by omega)] at hins
      simp only at hins
      (repeat ((try (conv => whnf)); (first | (with_reducible first | refine condP_true ?_ | refine condP_false ?_ | refine condP_not ?_ | refine condP_and ?_) | ((with_reducible refine condP_dt ?_ ?_); (· omega)) | ((with_reducible refine condP_df ?_ ?_); (· omega)) | ((with_reducible refine condP_yes ?_ ?_); (· assumption)) | ((with_reducible refine condP_no ?_ ?_); (· assumption)) | ((with_reducible refine ArP_i64 ?_ ?_); (· omega)) | ((with_reducible refine mustP.mk ?_ ?_); (· first | omega | rfl | (dsimp only; omega))) | (with_reducible first | refine EqP_nil tab_ok ?_ | refine EqP_sli tab_ok ?_ | refine DrawP_auto tab_ok (by kernel_rfl) (by decide +kernel) ?_ | refine DrawP_auto2 tab_ok (by kernel_rfl) (by decide +kernel) ?_ | refine eq34 ?_ | refine eq68 ?_))))
      conv => whnf
      refine OwnCells_list (ints (l.drop i)) (by simp only [ints_length, List.length_drop]; omega) (fun j v hj => ints_drop hj) ?_
      conv => whnf
      refine mustP.mk ⟨by simp only [ints_length, List.length_drop, List.length_append, List.length_singleton]; omega, ints_cell⟩ ?_
      (repeat ((try (conv => whnf)); (first | (with_reducible first | refine condP_true ?_ | refine condP_false ?_ | refine condP_not ?_ | refine condP_and ?_) | ((with_reducible refine condP_dt ?_ ?_); (· omega)) | ((with_reducible refine condP_df ?_ ?_); (· omega)) | ((with_reducible refine condP_yes ?_ ?_); (· assumption)) | ((with_reducible refine condP_no ?_ ?_); (· assumption)) | ((with_reducible refine ArP_i64 ?_ ?_); (· omega)) | ((with_reducible refine mustP.mk ?_ ?_); (· first | omega | rfl | (dsimp only; omega))) | (with_reducible first | refine EqP_nil tab_ok ?_ | refine EqP_sli tab_ok ?_ | refine DrawP_auto tab_ok (by kernel_rfl) (by decide +kernel) ?_ | refine DrawP_auto2 tab_ok (by kernel_rfl) (by decide +kernel) ?_ | refine eq34 ?_ | refine eq68 ?_))))
      conv => whnf
      refine mustP.mk (put_room (by omega)) ?_
      (repeat ((try (conv => whnf)); (first | (with_reducible first | refine condP_true ?_ | refine condP_false ?_ | refine condP_not ?_ | refine condP_and ?_) | ((with_reducible refine condP_dt ?_ ?_); (· omega)) | ((with_reducible refine condP_df ?_ ?_); (· omega)) | ((with_reducible refine condP_yes ?_ ?_); (· assumption)) | ((with_reducible refine condP_no ?_ ?_); (· assumption)) | ((with_reducible refine ArP_i64 ?_ ?_); (· omega)) | ((with_reducible refine mustP.mk ?_ ?_); (· first | omega | rfl | (dsimp only; omega))) | (with_reducible first | refine EqP_nil tab_ok ?_ | refine EqP_sli tab_ok ?_ | refine DrawP_auto tab_ok (by kernel_rfl) (by decide +kernel) ?_ | refine DrawP_auto2 tab_ok (by kernel_rfl) (by decide +kernel) ?_ | refine eq34 ?_ | refine eq68 ?_))))
      conv => whnf
      exact ⟨2, rfl, put_fin (by omega) (by rw [hins, List.take_of_length_le (by omega), List.drop_of_length_le (by omega)])⟩
end Go.Proofs.Ytiakdbcikmkomaa

namespace Go.Proofs.Ytiakdbcikmkomaa
open Go.RowKit
set_option linter.unusedVariables false
set_option maxRecDepth 20000
def flatR (L : List Run) : List Value := L.flatMap fun r => [.int .i64 r.y, .int .i64 r.x0, .int .i64 r.x1]
theorem flatR_append (K L : List Run) : flatR (K ++ L) = flatR K ++ flatR L := by simp [flatR]
theorem flatR_one (r : Run) : flatR [r] = [.int .i64 r.y, .int .i64 r.x0, .int .i64 r.x1] := by simp [flatR]
theorem flatR_length : ∀ (L : List Run), (flatR L).length = L.length * 3
  | [] => rfl
  | r :: L => by
    have := flatR_length L
    show (flatR ([r] ++ L)).length = _
    rw [flatR_append, List.length_append, this, flatR_one]; simp; omega
theorem flatR_get {L : List Run} {i : Nat} {r : Run} (h : L[i]? = some r) : (flatR L)[i * 3]? = some (.int .i64 r.y) ∧ (flatR L)[i * 3 + 1]? = some (.int .i64 r.x0) ∧ (flatR L)[i * 3 + 2]? = some (.int .i64 r.x1) := by
  obtain ⟨h1, rfl⟩ := List.getElem?_eq_some_iff.1 h
  have e : L = L.take i ++ ([L[i]] ++ L.drop (i + 1)) := by simp
  have hl : (flatR (L.take i)).length = i * 3 := by rw [flatR_length, List.length_take]; congr 1; omega
  have key : ∀ j, j < 3 → (flatR L)[i * 3 + j]? = [Value.int .i64 L[i].y, .int .i64 L[i].x0, .int .i64 L[i].x1][j]? := fun j hj => by
    conv => lhs; rw [e, flatR_append, flatR_append, flatR_one]
    rw [List.getElem?_append_right (by omega), hl, show i * 3 + j - i * 3 = j by omega, List.getElem?_append_left (by simp; omega)]
  exact ⟨key 0 (by omega), key 1 (by omega), key 2 (by omega)⟩
theorem flatR_cell {L : List Run} : ∀ v ∈ flatR L, v.oneCell' = true := fun v hv => by
  simp only [flatR, List.mem_flatMap, List.mem_cons, List.not_mem_nil, or_false] at hv
  obtain ⟨r, _, rfl | rfl | rfl⟩ := hv <;> rfl
def joinR (L : List Run) (y a b : Int) : List Run :=
  match L.getLast? with
  | some r => if r.y = y ∧ r.x1 = a then L.dropLast ++ [⟨y, r.x0, b⟩] else L ++ [⟨y, a, b⟩]
  | none => [⟨y, a, b⟩]
theorem joinR_nil {y a b : Int} : joinR [] y a b = [⟨y, a, b⟩] := by simp [joinR]
theorem joinR_join {L : List Run} {r : Run} {y a b : Int} (h1 : r.y = y) (h2 : r.x1 = a) : joinR (L ++ [r]) y a b = L ++ [⟨y, r.x0, b⟩] := by simp [joinR, h1, h2]
theorem joinR_new {L : List Run} {r : Run} {y a b : Int} (h1 : ¬ (r.y = y ∧ r.x1 = a)) : joinR (L ++ [r]) y a b = L ++ [r] ++ [⟨y, a, b⟩] := by
  unfold joinR
  have e : (L ++ [r]).getLast? = some r := by simp
  rw [e]
  simp only [if_neg h1]
theorem joinR_pos (L : List Run) (y a b : Int) : 0 < (joinR L y a b).length := by
  rcases last_or L with rfl | ⟨K, r, rfl⟩
  · simp [joinR_nil]
  · by_cases h : r.y = y ∧ r.x1 = a
    · rw [joinR_join h.1 h.2]; simp
    · rw [joinR_new h]; simp
theorem joinR_length (L : List Run) (y a b : Int) : (joinR L y a b).length ≤ L.length + 1 := by
  rcases last_or L with rfl | ⟨K, r, rfl⟩
  · simp [joinR_nil]
  · by_cases h : r.y = y ∧ r.x1 = a
    · rw [joinR_join h.1 h.2]; simp
    · rw [joinR_new h]; simp
theorem joinR_add {L : List Run} {y a b : Int} (hu : upTo L y a) (h : a < b) : joinR L y a b = addR L y a b := by
  rcases last_or L with rfl | ⟨K, r, rfl⟩
  · rw [joinR_nil, addR_nil (by omega)]
  · have hr := hu r (by simp)
    by_cases h1 : r.y = y ∧ a ≤ r.x1
    · rw [addR_join (by omega) h1.1 h1.2, joinR_join h1.1 (by omega)]
      have : max r.x1 b = b := by omega
      rw [this]
    · rw [addR_new (by omega) h1, joinR_new (by omega)]
theorem flat_last (K : List Run) (r : Run) : (flatR (K ++ [r]))[K.length * 3]? = some (.int .i64 r.y) ∧ (flatR (K ++ [r]))[K.length * 3 + 1]? = some (.int .i64 r.x0) ∧ (flatR (K ++ [r]))[K.length * 3 + 2]? = some (.int .i64 r.x1) :=
  flatR_get (by simp)
theorem flat_set (K : List Run) (r : Run) (b : Int) : (flatR (K ++ [r])).take (K.length * 3 + 2) ++ [.int .i64 b] ++ (flatR (K ++ [r])).drop (K.length * 3 + 2 + 1) = flatR (K ++ [⟨r.y, r.x0, b⟩]) := by
  have hl := flatR_length K
  rw [flatR_append, flatR_append, flatR_one, flatR_one, List.take_append, List.drop_append, hl]
  rw [List.take_of_length_le (by omega), List.drop_of_length_le (by omega)]
  simp [show K.length * 3 + 2 - K.length * 3 = 2 by omega, show K.length * 3 + 2 + 1 - K.length * 3 = 3 by omega]
theorem last_ix (K : List Run) (r : Run) : (((K ++ [r]).length : Nat) : Int) - 1 = (K.length : Int) := by simp
theorem join_fin {K : List Run} {r : Run} {y a b : Int} (h1 : r.y = y) (h2 : r.x1 = a) :
    Blk.own 34 3 (K ++ [r]).length ((flatR (K ++ [r])).take (((((K ++ [r]).length : Nat) : Int) - 1).toNat * 3 + 2) ++ [.int .i64 b] ++ (flatR (K ++ [r])).drop (((((K ++ [r]).length : Nat) : Int) - 1).toNat * 3 + 2 + [Value.int .i64 b].length)) =
      .own 34 3 (joinR (K ++ [r]) y a b).length (flatR (joinR (K ++ [r]) y a b)) := by
  rw [joinR_join h1 h2, ← h1, last_ix, Int.toNat_natCast, List.length_singleton, flat_set K r b]
  rw [show (K ++ [(⟨r.y, r.x0, b⟩ : Run)]).length = (K ++ [r]).length by simp]
set_option maxHeartbeats 1000000 in
theorem joined_takes (L : List Run) (y a b : Int) (G : Mem) (hl : L.length ≤ 1000000000000) : Takes Try.prog 24 [.val (.int .i64 y), .val (.int .i64 a), .val (.int .i64 b)] G 34 3 L.length (flatR L) (joinR L y a b).length (flatR (joinR L y a b)) := by
  refine Takes_of tab_ok Try.func24 (joinR_pos L y a b) fun G' _ => ?_
  rcases last_or L with rfl | ⟨K, r, rfl⟩
  · simp only [List.length_nil, show flatR [] = [] from rfl]
    (repeat ((try (conv => whnf)); (first | (with_reducible first | refine condP_true ?_ | refine condP_false ?_ | refine condP_not ?_ | refine condP_and ?_) | ((with_reducible refine condP_dt ?_ ?_); (· omega)) | ((with_reducible refine condP_df ?_ ?_); (· omega)) | ((with_reducible refine condP_yes ?_ ?_); (· assumption)) | ((with_reducible refine condP_no ?_ ?_); (· assumption)) | ((with_reducible refine ArP_i64 ?_ ?_); (· omega)) | ((with_reducible refine mustP.mk ?_ ?_); (· first | omega | rfl | (dsimp only; omega))) | (with_reducible first | refine EqP_nil tab_ok ?_ | refine EqP_sli tab_ok ?_ | refine DrawP_auto tab_ok (by kernel_rfl) (by decide +kernel) ?_ | refine DrawP_auto2 tab_ok (by kernel_rfl) (by decide +kernel) ?_ | refine eq34 ?_ | refine eq68 ?_))))
    conv => whnf
    exact ⟨2, rfl, by rw [joinR_nil]; rfl⟩
  · obtain ⟨c0, c1, c2⟩ := flat_last K r
    have hkl : ((K ++ [r]).length : Int) = K.length + 1 := by simp
    have ei : ((((K ++ [r]).length : Nat) : Int) - 1).toNat = K.length := by omega
    by_cases h1 : r.y = y
    · by_cases h2 : r.x1 = a
      · (repeat ((try (conv => whnf)); (first | (with_reducible first | refine condP_true ?_ | refine condP_false ?_ | refine condP_not ?_ | refine condP_and ?_) | ((with_reducible refine condP_dt ?_ ?_); (· omega)) | ((with_reducible refine condP_df ?_ ?_); (· omega)) | ((with_reducible refine condP_yes ?_ ?_); (· assumption)) | ((with_reducible refine condP_no ?_ ?_); (· assumption)) | ((with_reducible refine ArP_i64 ?_ ?_); (· omega)) | ((with_reducible refine mustP.mk ?_ ?_); (· first | omega | rfl | (dsimp only; omega))) | (with_reducible first | refine EqP_nil tab_ok ?_ | refine EqP_sli tab_ok ?_ | refine DrawP_auto tab_ok (by kernel_rfl) (by decide +kernel) ?_ | refine DrawP_auto2 tab_ok (by kernel_rfl) (by decide +kernel) ?_ | refine eq34 ?_ | refine eq68 ?_))))
        conv => whnf
        refine OwnCells_one (.int .i64 r.y) (by rw [ei]; exact c0) ?_
        (repeat ((try (conv => whnf)); (first | (with_reducible first | refine condP_true ?_ | refine condP_false ?_ | refine condP_not ?_ | refine condP_and ?_) | ((with_reducible refine condP_dt ?_ ?_); (· omega)) | ((with_reducible refine condP_df ?_ ?_); (· omega)) | ((with_reducible refine condP_yes ?_ ?_); (· assumption)) | ((with_reducible refine condP_no ?_ ?_); (· assumption)) | ((with_reducible refine ArP_i64 ?_ ?_); (· omega)) | ((with_reducible refine mustP.mk ?_ ?_); (· first | omega | rfl | (dsimp only; omega))) | (with_reducible first | refine EqP_nil tab_ok ?_ | refine EqP_sli tab_ok ?_ | refine DrawP_auto tab_ok (by kernel_rfl) (by decide +kernel) ?_ | refine DrawP_auto2 tab_ok (by kernel_rfl) (by decide +kernel) ?_ | refine eq34 ?_ | refine eq68 ?_))))
        conv => whnf
        refine OwnCells_one (.int .i64 r.x1) (by rw [ei]; exact c2) ?_
        (repeat ((try (conv => whnf)); (first | (with_reducible first | refine condP_true ?_ | refine condP_false ?_ | refine condP_not ?_ | refine condP_and ?_) | ((with_reducible refine condP_dt ?_ ?_); (· omega)) | ((with_reducible refine condP_df ?_ ?_); (· omega)) | ((with_reducible refine condP_yes ?_ ?_); (· assumption)) | ((with_reducible refine condP_no ?_ ?_); (· assumption)) | ((with_reducible refine ArP_i64 ?_ ?_); (· omega)) | ((with_reducible refine mustP.mk ?_ ?_); (· first | omega | rfl | (dsimp only; omega))) | (with_reducible first | refine EqP_nil tab_ok ?_ | refine EqP_sli tab_ok ?_ | refine DrawP_auto tab_ok (by kernel_rfl) (by decide +kernel) ?_ | refine DrawP_auto2 tab_ok (by kernel_rfl) (by decide +kernel) ?_ | refine eq34 ?_ | refine eq68 ?_))))
        conv => whnf
        refine mustP.mk (by rw [ei, flatR_length]; simp; omega) ?_
        (repeat ((try (conv => whnf)); (first | (with_reducible first | refine condP_true ?_ | refine condP_false ?_ | refine condP_not ?_ | refine condP_and ?_) | ((with_reducible refine condP_dt ?_ ?_); (· omega)) | ((with_reducible refine condP_df ?_ ?_); (· omega)) | ((with_reducible refine condP_yes ?_ ?_); (· assumption)) | ((with_reducible refine condP_no ?_ ?_); (· assumption)) | ((with_reducible refine ArP_i64 ?_ ?_); (· omega)) | ((with_reducible refine mustP.mk ?_ ?_); (· first | omega | rfl | (dsimp only; omega))) | (with_reducible first | refine EqP_nil tab_ok ?_ | refine EqP_sli tab_ok ?_ | refine DrawP_auto tab_ok (by kernel_rfl) (by decide +kernel) ?_ | refine DrawP_auto2 tab_ok (by kernel_rfl) (by decide +kernel) ?_ | refine eq34 ?_ | refine eq68 ?_))))
        conv => whnf
        exact ⟨0, rfl, join_fin h1 h2⟩
      · (repeat ((try (conv => whnf)); (first | (with_reducible first | refine condP_true ?_ | refine condP_false ?_ | refine condP_not ?_ | refine condP_and ?_) | ((with_reducible refine condP_dt ?_ ?_); (· omega)) | ((with_reducible refine condP_df ?_ ?_); (· omega)) | ((with_reducible refine condP_yes ?_ ?_); (· assumption)) | ((with_reducible refine condP_no ?_ ?_); (· assumption)) | ((with_reducible refine ArP_i64 ?_ ?_); (· omega)) | ((with_reducible refine mustP.mk ?_ ?_); (· first | omega | rfl | (dsimp only; omega))) | (with_reducible first | refine EqP_nil tab_ok ?_ | refine EqP_sli tab_ok ?_ | refine DrawP_auto tab_ok (by kernel_rfl) (by decide +kernel) ?_ | refine DrawP_auto2 tab_ok (by kernel_rfl) (by decide +kernel) ?_ | refine eq34 ?_ | refine eq68 ?_))))
        conv => whnf
        refine OwnCells_one (.int .i64 r.y) (by rw [ei]; exact c0) ?_
        (repeat ((try (conv => whnf)); (first | (with_reducible first | refine condP_true ?_ | refine condP_false ?_ | refine condP_not ?_ | refine condP_and ?_) | ((with_reducible refine condP_dt ?_ ?_); (· omega)) | ((with_reducible refine condP_df ?_ ?_); (· omega)) | ((with_reducible refine condP_yes ?_ ?_); (· assumption)) | ((with_reducible refine condP_no ?_ ?_); (· assumption)) | ((with_reducible refine ArP_i64 ?_ ?_); (· omega)) | ((with_reducible refine mustP.mk ?_ ?_); (· first | omega | rfl | (dsimp only; omega))) | (with_reducible first | refine EqP_nil tab_ok ?_ | refine EqP_sli tab_ok ?_ | refine DrawP_auto tab_ok (by kernel_rfl) (by decide +kernel) ?_ | refine DrawP_auto2 tab_ok (by kernel_rfl) (by decide +kernel) ?_ | refine eq34 ?_ | refine eq68 ?_))))
        conv => whnf
        refine OwnCells_one (.int .i64 r.x1) (by rw [ei]; exact c2) ?_
        (repeat ((try (conv => whnf)); (first | (with_reducible first | refine condP_true ?_ | refine condP_false ?_ | refine condP_not ?_ | refine condP_and ?_) | ((with_reducible refine condP_dt ?_ ?_); (· omega)) | ((with_reducible refine condP_df ?_ ?_); (· omega)) | ((with_reducible refine condP_yes ?_ ?_); (· assumption)) | ((with_reducible refine condP_no ?_ ?_); (· assumption)) | ((with_reducible refine ArP_i64 ?_ ?_); (· omega)) | ((with_reducible refine mustP.mk ?_ ?_); (· first | omega | rfl | (dsimp only; omega))) | (with_reducible first | refine EqP_nil tab_ok ?_ | refine EqP_sli tab_ok ?_ | refine DrawP_auto tab_ok (by kernel_rfl) (by decide +kernel) ?_ | refine DrawP_auto2 tab_ok (by kernel_rfl) (by decide +kernel) ?_ | refine eq34 ?_ | refine eq68 ?_))))
        conv => whnf
        refine ⟨2, rfl, ?_⟩
        rw [joinR_new (by omega), flatR_append _ [⟨y, a, b⟩], flatR_one]
        rw [show (K ++ [r] ++ [(⟨y, a, b⟩ : Run)]).length = (K ++ [r]).length + 1 by simp]
        rfl
    · (repeat ((try (conv => whnf)); (first | (with_reducible first | refine condP_true ?_ | refine condP_false ?_ | refine condP_not ?_ | refine condP_and ?_) | ((with_reducible refine condP_dt ?_ ?_); (· omega)) | ((with_reducible refine condP_df ?_ ?_); (· omega)) | ((with_reducible refine condP_yes ?_ ?_); (· assumption)) | ((with_reducible refine condP_no ?_ ?_); (· assumption)) | ((with_reducible refine ArP_i64 ?_ ?_); (· omega)) | ((with_reducible refine mustP.mk ?_ ?_); (· first | omega | rfl | (dsimp only; omega))) | (with_reducible first | refine EqP_nil tab_ok ?_ | refine EqP_sli tab_ok ?_ | refine DrawP_auto tab_ok (by kernel_rfl) (by decide +kernel) ?_ | refine DrawP_auto2 tab_ok (by kernel_rfl) (by decide +kernel) ?_ | refine eq34 ?_ | refine eq68 ?_))))
      conv => whnf
      refine OwnCells_one (.int .i64 r.y) (by rw [ei]; exact c0) ?_
      (repeat ((try (conv => whnf)); (first | (with_reducible first | refine condP_true ?_ | refine condP_false ?_ | refine condP_not ?_ | refine condP_and ?_) | ((with_reducible refine condP_dt ?_ ?_); (· omega)) | ((with_reducible refine condP_df ?_ ?_); (· omega)) | ((with_reducible refine condP_yes ?_ ?_); (· assumption)) | ((with_reducible refine condP_no ?_ ?_); (· assumption)) | ((with_reducible refine ArP_i64 ?_ ?_); (· omega)) | ((with_reducible refine mustP.mk ?_ ?_); (· first | omega | rfl | (dsimp only; omega))) | (with_reducible first | refine EqP_nil tab_ok ?_ | refine EqP_sli tab_ok ?_ | refine DrawP_auto tab_ok (by kernel_rfl) (by decide +kernel) ?_ | refine DrawP_auto2 tab_ok (by kernel_rfl) (by decide +kernel) ?_ | refine eq34 ?_ | refine eq68 ?_))))
      conv => whnf
      refine ⟨2, rfl, ?_⟩
      rw [joinR_new (by omega), flatR_append _ [⟨y, a, b⟩], flatR_one]
      rw [show (K ++ [r] ++ [(⟨y, a, b⟩ : Run)]).length = (K ++ [r]).length + 1 by simp]
      rfl
end Go.Proofs.Ytiakdbcikmkomaa
