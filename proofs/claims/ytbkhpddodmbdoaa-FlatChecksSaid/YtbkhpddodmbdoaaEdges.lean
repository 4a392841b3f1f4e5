/-
  region.edges.
-/
import Derived.Test.YtbkhpddodmbdoaaMixed2
namespace Go.Proofs.Ytbkhpddodmbdoaa
open Go.RowKit
set_option linter.unusedVariables false
set_option maxRecDepth 20000
def flatE (L : List Run) (o : Int) : List Value := L.flatMap fun r => [.int .i64 r.y, .int .i64 r.x0, .int .i64 o, .int .i64 r.y, .int .i64 r.x1, .int .i64 o]
theorem flatE_append (K L : List Run) (o : Int) : flatE (K ++ L) o = flatE K o ++ flatE L o := by simp [flatE]
theorem flatE_one (r : Run) (o : Int) : flatE [r] o = [.int .i64 r.y, .int .i64 r.x0, .int .i64 o, .int .i64 r.y, .int .i64 r.x1, .int .i64 o] := by simp [flatE]
theorem flatE_length (o : Int) : ∀ (L : List Run), (flatE L o).length = L.length * 6
  | [] => rfl
  | r :: L => by
    have := flatE_length o L
    show (flatE ([r] ++ L) o).length = _
    rw [flatE_append, List.length_append, this, flatE_one]; simp; omega
theorem flatE_take {L : List Run} {i : Nat} {r : Run} (h : L[i]? = some r) (o : Int) : flatE (L.take (i + 1)) o = flatE (L.take i) o ++ [.int .i64 r.y, .int .i64 r.x0, .int .i64 o, .int .i64 r.y, .int .i64 r.x1, .int .i64 o] := by
  rw [List.take_add_one, h, flatE_append]; simp [flatE]
theorem flatE_get {L : List Run} {o : Int} {e : Nat} (h : e < 2 * L.length) : (flatE L o)[e * 3]? = some (.int .i64 (eY (nthR L) e)) ∧ (flatE L o)[e * 3 + 1]? = some (.int .i64 (eX (nthR L) e)) ∧ (flatE L o)[e * 3 + 2]? = some (.int .i64 o) := by
  obtain ⟨r, hr⟩ : ∃ r, L[e / 2]? = some r := ⟨_, List.getElem?_eq_getElem (by omega)⟩
  have hsp : L = L.take (e / 2) ++ ([r] ++ L.drop (e / 2 + 1)) := by
    obtain ⟨h1, rfl⟩ := List.getElem?_eq_some_iff.1 hr
    simp
  have hl : (flatE (L.take (e / 2)) o).length = e / 2 * 6 := by rw [flatE_length, List.length_take]; congr 1; omega
  have key : ∀ j, j < 6 → (flatE L o)[e / 2 * 6 + j]? = [Value.int .i64 r.y, .int .i64 r.x0, .int .i64 o, .int .i64 r.y, .int .i64 r.x1, .int .i64 o][j]? := fun j hj => by
    conv => lhs; rw [hsp, flatE_append, flatE_append, flatE_one]
    rw [List.getElem?_append_right (by omega), hl, show e / 2 * 6 + j - e / 2 * 6 = j by omega, List.getElem?_append_left (by simp; omega)]
  unfold eY eX
  rw [nthR_get hr]
  rcases Nat.mod_two_eq_zero_or_one e with h0 | h0
  · rw [if_pos h0]
    have e1 : e * 3 = e / 2 * 6 + 0 := by omega
    rw [e1]
    exact ⟨key 0 (by omega), key 1 (by omega), key 2 (by omega)⟩
  · rw [if_neg (by omega)]
    have e1 : e * 3 = e / 2 * 6 + 3 := by omega
    rw [e1]
    exact ⟨key 3 (by omega), key 4 (by omega), key 5 (by omega)⟩
set_option maxHeartbeats 1000000 in
theorem edges_makes (A : Option Addr) (L : List Run) (c : Nat) (o : Int) (G : Mem) (hA : RunsM G A L) (hl : L.length ≤ 1000000000) : Makes Try.prog 84 [.val (.slice A L.length c), .val (.int .i64 o)] G id 134 3 (2 * L.length) (flatE L o) := by
  refine Makes_of tab_ok Try.func84 (.alone fun _ => rfl) ?_
  (repeat ((try (conv => whnf)); (first | (with_reducible first | refine condP_true ?_ | refine condP_false ?_ | refine condP_not ?_ | refine condP_and ?_) | ((with_reducible refine condP_dt ?_ ?_); (· omega)) | ((with_reducible refine condP_df ?_ ?_); (· omega)) | ((with_reducible refine condP_yes ?_ ?_); (· assumption)) | ((with_reducible refine condP_no ?_ ?_); (· assumption)) | ((with_reducible refine ArP_i64 ?_ ?_); (· omega)) | ((with_reducible refine mustP.mk ?_ ?_); (· first | omega | rfl | (dsimp only; omega))) | (with_reducible first | refine EqP_nil tab_ok ?_ | refine EqP_sli tab_ok ?_ | refine DrawP_auto tab_ok (by kernel_rfl) (by decide +kernel) ?_ | refine DrawP_auto2 tab_ok (by kernel_rfl) (by decide +kernel) ?_ | refine eq27 ?_ | refine eq44 ?_ | refine eq54 ?_ | refine eq76 ?_ | refine eq134 ?_))))
  conv => whnf
  refine LoopP_at tab_ok (fun i => i ≤ L.length) (fun (i : Nat) => [(14, .val (.int .i64 i)), (5, .own 0), (11, .any)]) (fun i => [.own 134 3 (2 * i) (flatE (L.take i) o)]) (fun i => L.length - i) 0 (Nat.zero_le _) ?_ ?_
  · ((refine Le_head ?_); (conv => whnf); (refine Le_mk (by rfl) (by rfl) ?_ ?_); (· (repeat (first | (with_reducible exact frLe_nil) | (with_reducible first | refine frLe_any ?_ | refine frLe_val ?_) | ((with_reducible refine frLe_eq rfl ?_ ?_); (· rfl)) | ((with_reducible refine frLe_val' (int_eq ?_) ?_ ?_); (· omega); (· rfl)) | ((with_reducible refine frLe_val' (int_eq ?_) ?_ ?_); (· simp only [Int.natCast_add, Int.natCast_one, Int.natCast_ofNat] <;> omega); (· rfl)) | ((with_reducible refine frLe_val' (bool_eq ?_) ?_ ?_); (· first | assumption | (symm; assumption)); (· rfl))))))
    exact hpLe_own rfl rfl hpLe_nil
  · rintro i hi
    rcases Nat.lt_or_ge i L.length with h1 | h1
    · obtain ⟨r, hr⟩ : ∃ r, L[i]? = some r := ⟨L[i], List.getElem?_eq_getElem h1⟩
      obtain ⟨p, rfl, ca⟩ := hA.cells hr
      (repeat ((try (conv => whnf)); (first | (with_reducible first | refine condP_true ?_ | refine condP_false ?_ | refine condP_not ?_ | refine condP_and ?_) | ((with_reducible refine condP_dt ?_ ?_); (· omega)) | ((with_reducible refine condP_df ?_ ?_); (· omega)) | ((with_reducible refine condP_yes ?_ ?_); (· assumption)) | ((with_reducible refine condP_no ?_ ?_); (· assumption)) | ((with_reducible refine ArP_i64 ?_ ?_); (· omega)) | ((with_reducible refine mustP.mk ?_ ?_); (· first | omega | rfl | (dsimp only; omega))) | (with_reducible first | refine EqP_nil tab_ok ?_ | refine EqP_sli tab_ok ?_ | refine DrawP_auto tab_ok (by kernel_rfl) (by decide +kernel) ?_ | refine DrawP_auto2 tab_ok (by kernel_rfl) (by decide +kernel) ?_ | refine eq27 ?_ | refine eq44 ?_ | refine eq54 ?_ | refine eq76 ?_ | refine eq134 ?_))))
      conv => whnf
      refine ca _ ?_
      (repeat ((try (conv => whnf)); (first | (with_reducible first | refine condP_true ?_ | refine condP_false ?_ | refine condP_not ?_ | refine condP_and ?_) | ((with_reducible refine condP_dt ?_ ?_); (· omega)) | ((with_reducible refine condP_df ?_ ?_); (· omega)) | ((with_reducible refine condP_yes ?_ ?_); (· assumption)) | ((with_reducible refine condP_no ?_ ?_); (· assumption)) | ((with_reducible refine ArP_i64 ?_ ?_); (· omega)) | ((with_reducible refine mustP.mk ?_ ?_); (· first | omega | rfl | (dsimp only; omega))) | (with_reducible first | refine EqP_nil tab_ok ?_ | refine EqP_sli tab_ok ?_ | refine DrawP_auto tab_ok (by kernel_rfl) (by decide +kernel) ?_ | refine DrawP_auto2 tab_ok (by kernel_rfl) (by decide +kernel) ?_ | refine eq27 ?_ | refine eq44 ?_ | refine eq54 ?_ | refine eq76 ?_ | refine eq134 ?_))))
      refine ⟨i + 1, by omega, by omega, ?_⟩
      refine Le_move 3 0 rfl rfl rfl rfl ?_
      conv => whnf
      ((refine Le_head ?_); (conv => whnf); (refine Le_mk (by rfl) (by rfl) ?_ ?_); (· (repeat (first | (with_reducible exact frLe_nil) | (with_reducible first | refine frLe_any ?_ | refine frLe_val ?_) | ((with_reducible refine frLe_eq rfl ?_ ?_); (· rfl)) | ((with_reducible refine frLe_val' (int_eq ?_) ?_ ?_); (· omega); (· rfl)) | ((with_reducible refine frLe_val' (int_eq ?_) ?_ ?_); (· simp only [Int.natCast_add, Int.natCast_one, Int.natCast_ofNat] <;> omega); (· rfl)) | ((with_reducible refine frLe_val' (bool_eq ?_) ?_ ?_); (· first | assumption | (symm; assumption)); (· rfl))))))
      exact hpLe_own (by omega) (flatE_take hr o).symm hpLe_nil
    · obtain rfl : i = L.length := by omega
      (repeat ((try (conv => whnf)); (first | (with_reducible first | refine condP_true ?_ | refine condP_false ?_ | refine condP_not ?_ | refine condP_and ?_) | ((with_reducible refine condP_dt ?_ ?_); (· omega)) | ((with_reducible refine condP_df ?_ ?_); (· omega)) | ((with_reducible refine condP_yes ?_ ?_); (· assumption)) | ((with_reducible refine condP_no ?_ ?_); (· assumption)) | ((with_reducible refine ArP_i64 ?_ ?_); (· omega)) | ((with_reducible refine mustP.mk ?_ ?_); (· first | omega | rfl | (dsimp only; omega))) | (with_reducible first | refine EqP_nil tab_ok ?_ | refine EqP_sli tab_ok ?_ | refine DrawP_auto tab_ok (by kernel_rfl) (by decide +kernel) ?_ | refine DrawP_auto2 tab_ok (by kernel_rfl) (by decide +kernel) ?_ | refine eq27 ?_ | refine eq44 ?_ | refine eq54 ?_ | refine eq76 ?_ | refine eq134 ?_))))
      exact .inl ⟨0, rfl, by rw [List.take_length]; rfl⟩
end Go.Proofs.Ytbkhpddodmbdoaa
