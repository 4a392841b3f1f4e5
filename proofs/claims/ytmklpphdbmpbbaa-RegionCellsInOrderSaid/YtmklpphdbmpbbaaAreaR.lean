/-
  The number of a region's cells; the reference's Area.
-/
import Derived.Test.YtmklpphdbmpbbaaRegM
import Derived.Test.YtmklpphdbmpbbaaMixed2
import Derived.Test.YtmklpphdbmpbbaaRegChk
namespace Go.Proofs.Ytmklpphdbmpbbaa
open Go.RowKit
set_option linter.unusedVariables false
set_option maxRecDepth 20000
section
variable {A : Option Addr} {L : List Run} {c : Nat} {G : Mem} {x y : Int}
/-- The number of cells. -/
def areaL : List Run → Int
  | [] => 0
  | r :: l => (r.x1 - r.x0) + areaL l
theorem areaL_append : ∀ (K L : List Run), areaL (K ++ L) = areaL K + areaL L
  | [], L => by simp [areaL]
  | r :: K, L => by simp only [List.cons_append, areaL, areaL_append K L]; omega
theorem areaL_take {i : Nat} {r : Run} (h : L[i]? = some r) : areaL (L.take (i + 1)) = areaL (L.take i) + (r.x1 - r.x0) := by
  rw [List.take_add_one, h, areaL_append]; simp [areaL]
theorem areaL_bd : ∀ {L : List Run}, (∀ r ∈ L, 0 ≤ r.x1 - r.x0 ∧ r.x1 - r.x0 ≤ 16384) → 0 ≤ areaL L ∧ areaL L ≤ 16384 * (L.length : Int)
  | [], _ => by simp [areaL]
  | r :: l, h => by
    have h1 := h r (by simp)
    have h2 := areaL_bd (L := l) (fun q hq => h q (by simp [hq]))
    simp only [areaL, List.length_cons]; omega
theorem area_bd (v : ValidL L) (i : Nat) : 0 ≤ areaL (L.take i) ∧ areaL (L.take i) ≤ 16384 * 268451840 := by
  have h1 := areaL_bd (L := L.take i) (fun r hr => by have := v.bd (List.mem_of_mem_take hr); omega)
  have h2 := v.length
  have h3 : (L.take i).length ≤ L.length := by rw [List.length_take]; omega
  omega
set_option maxHeartbeats 2000000 in
theorem RArea_gives (hR : RunsM G A L) (v : ValidL L) : Gives Try.prog 12 [.val (.slice A L.length c)] G (.val (.int .i64 (areaL L))) := by
  have hll := v.length
  refine Gives_of tab_ok Try.func12 ?_
  (repeat ((try (conv => whnf)); (first | (with_reducible refine condP_true ?_) | (with_reducible refine condP_false ?_) | (with_reducible refine condP_not ?_) | (with_reducible refine condP_and ?_) | ((with_reducible refine condP_dt ?_ ?_); (· omega)) | ((with_reducible refine condP_df ?_ ?_); (· omega)) | ((with_reducible refine condP_yes ?_ ?_); (· assumption)) | ((with_reducible refine condP_no ?_ ?_); (· assumption)) | ((with_reducible refine ArP_i64 ?_ ?_); (· omega)) | ((with_reducible refine mustP.mk ?_ ?_); (· first | omega | rfl | (dsimp only; omega))) | (with_reducible refine EqP_nil tab_ok ?_) | (with_reducible refine EqP_sli tab_ok ?_) | (with_reducible refine DrawP_auto tab_ok (by kernel_rfl) (by decide +kernel) ?_) | (with_reducible refine DrawP_auto2 tab_ok (by kernel_rfl) (by decide +kernel) ?_) | (with_reducible refine eq28 ?_) | (with_reducible refine eq33 ?_) | (with_reducible refine eq95 ?_) | (with_reducible refine eq115 ?_))))
  conv => whnf
  refine LoopP_at tab_ok (fun i => i ≤ L.length) (fun (i : Nat) => [(7, .val (.int .i64 i)), (3, .val (.int .i64 (areaL (L.take i))))]) (fun i => []) (fun i => L.length - i) 0 (Nat.zero_le _) ?_ ?_
  · ((refine Le_head ?_); (conv => whnf); (refine Le_mk (by rfl) (by rfl) ?_ ?_); (· (repeat (first | (with_reducible exact frLe_nil) | (with_reducible refine frLe_any ?_) | (with_reducible refine frLe_val ?_) | ((with_reducible refine frLe_eq rfl ?_ ?_); (· rfl)) | ((with_reducible refine frLe_val' (int_eq ?_) ?_ ?_); (· omega); (· rfl)) | ((with_reducible refine frLe_val' (int_eq ?_) ?_ ?_); (· simp only [Int.natCast_add, Int.natCast_one, Int.natCast_ofNat] <;> omega); (· rfl)) | ((with_reducible refine frLe_val' (bool_eq ?_) ?_ ?_); (· first | assumption | (symm; assumption)); (· rfl))))))
    exact hpLe_nil
  · rintro i hi
    have hab := area_bd v i
    rcases Nat.lt_or_ge i L.length with h1 | h1
    · obtain ⟨r, hr⟩ : ∃ r, L[i]? = some r := ⟨L[i], List.getElem?_eq_getElem h1⟩
      obtain ⟨p, rfl, q0, q1, q2⟩ := hR.at_ hr
      have hb := v.bd (List.mem_of_getElem? hr)
      have htk := areaL_take hr
      (repeat ((try (conv => whnf)); (first | (refine OldCells_one _ q1 ?_) | (refine OldCells_one _ q2 ?_) | (with_reducible refine condP_true ?_) | (with_reducible refine condP_false ?_) | (with_reducible refine condP_not ?_) | (with_reducible refine condP_and ?_) | ((with_reducible refine condP_dt ?_ ?_); (· omega)) | ((with_reducible refine condP_df ?_ ?_); (· omega)) | ((with_reducible refine condP_yes ?_ ?_); (· assumption)) | ((with_reducible refine condP_no ?_ ?_); (· assumption)) | ((with_reducible refine ArP_i64 ?_ ?_); (· omega)) | ((with_reducible refine mustP.mk ?_ ?_); (· first | omega | rfl | (dsimp only; omega))) | (with_reducible refine EqP_nil tab_ok ?_) | (with_reducible refine EqP_sli tab_ok ?_) | (with_reducible refine DrawP_auto tab_ok (by kernel_rfl) (by decide +kernel) ?_) | (with_reducible refine DrawP_auto2 tab_ok (by kernel_rfl) (by decide +kernel) ?_) | (with_reducible refine eq28 ?_) | (with_reducible refine eq33 ?_) | (with_reducible refine eq95 ?_) | (with_reducible refine eq115 ?_))))
      refine ⟨i + 1, by omega, by omega, ?_⟩
      rw [htk]
      ((refine Le_head ?_); (conv => whnf); (refine Le_mk (by rfl) (by rfl) ?_ ?_); (· (repeat (first | (with_reducible exact frLe_nil) | (with_reducible refine frLe_any ?_) | (with_reducible refine frLe_val ?_) | ((with_reducible refine frLe_eq rfl ?_ ?_); (· rfl)) | ((with_reducible refine frLe_val' (int_eq ?_) ?_ ?_); (· omega); (· rfl)) | ((with_reducible refine frLe_val' (int_eq ?_) ?_ ?_); (· simp only [Int.natCast_add, Int.natCast_one, Int.natCast_ofNat] <;> omega); (· rfl)) | ((with_reducible refine frLe_val' (bool_eq ?_) ?_ ?_); (· first | assumption | (symm; assumption)); (· rfl))))))
      exact hpLe_nil
    · obtain rfl : i = L.length := by omega
      (repeat ((try (conv => whnf)); (first | (with_reducible refine condP_true ?_) | (with_reducible refine condP_false ?_) | (with_reducible refine condP_not ?_) | (with_reducible refine condP_and ?_) | ((with_reducible refine condP_dt ?_ ?_); (· omega)) | ((with_reducible refine condP_df ?_ ?_); (· omega)) | ((with_reducible refine condP_yes ?_ ?_); (· assumption)) | ((with_reducible refine condP_no ?_ ?_); (· assumption)) | ((with_reducible refine ArP_i64 ?_ ?_); (· omega)) | ((with_reducible refine mustP.mk ?_ ?_); (· first | omega | rfl | (dsimp only; omega))) | (with_reducible refine EqP_nil tab_ok ?_) | (with_reducible refine EqP_sli tab_ok ?_) | (with_reducible refine DrawP_auto tab_ok (by kernel_rfl) (by decide +kernel) ?_) | (with_reducible refine DrawP_auto2 tab_ok (by kernel_rfl) (by decide +kernel) ?_) | (with_reducible refine eq28 ?_) | (with_reducible refine eq33 ?_) | (with_reducible refine eq95 ?_) | (with_reducible refine eq115 ?_))))
      exact ⟨by rw [List.take_length], rfl⟩
end
end Go.Proofs.Ytmklpphdbmpbbaa
