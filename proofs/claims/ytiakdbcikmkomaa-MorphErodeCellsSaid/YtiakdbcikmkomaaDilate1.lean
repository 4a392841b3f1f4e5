/-
  morph.dilate.
-/
import Derived.Test.YtiakdbcikmkomaaDilateLaw
import Derived.Test.YtiakdbcikmkomaaJoin
import Derived.Test.YtiakdbcikmkomaaCombined
namespace Go.Proofs.Ytiakdbcikmkomaa
open Go.RowKit
set_option linter.unusedVariables false
set_option maxRecDepth 20000
abbrev HA (out : List Run) : List Blk := [.cells 45 [.own 1], .own 34 3 out.length (flatR out)]
set_option maxHeartbeats 8000000 in
theorem dilate_makes {A : Option Addr} {L : List Run} {c : Nat} {w : Int} {G : Mem} (hA : RunsM G A L) (v : ValidL L) (hw : 0 ≤ w ∧ w ≤ 64) (hshort : L.length ≤ 1000000) :
    Makes Try.prog 20 [.val (.slice A L.length c), .val (.int .i64 w)] G id 34 3 (joinL (dilD w L)).length (flatR (joinL (dilD w L))) := by
  refine Makes_of tab_ok Try.func20 (.alone fun _ => rfl) ?_
  (repeat ((try (conv => whnf)); (first | (with_reducible first | refine condP_true ?_ | refine condP_false ?_ | refine condP_not ?_ | refine condP_and ?_) | ((with_reducible refine condP_dt ?_ ?_); (· omega)) | ((with_reducible refine condP_df ?_ ?_); (· omega)) | ((with_reducible refine condP_yes ?_ ?_); (· assumption)) | ((with_reducible refine condP_no ?_ ?_); (· assumption)) | ((with_reducible refine ArP_i64 ?_ ?_); (· omega)) | ((with_reducible refine mustP.mk ?_ ?_); (· first | omega | rfl | (dsimp only; omega))) | (with_reducible first | refine EqP_nil tab_ok ?_ | refine EqP_sli tab_ok ?_ | refine DrawP_auto tab_ok (by kernel_rfl) (by decide +kernel) ?_ | refine DrawP_auto2 tab_ok (by kernel_rfl) (by decide +kernel) ?_ | refine eq34 ?_ | refine eq68 ?_))))
  conv => whnf
  refine LoopP_at2 tab_ok (fun (i : Nat) (out : List Run) => i ≤ L.length ∧ out = wideO w L i) (fun i out => [(14, .val (.int .i64 i))]) (fun i out => HA out) (fun i out => L.length - i) 0 [] ⟨Nat.zero_le _, rfl⟩ ?_ ?_
  · refine Le_own 34 3 ?_
    conv => whnf
    ((refine Le_head ?_); (conv => whnf); (refine Le_mk (by rfl) (by rfl) ?_ ?_); (· (repeat (first | (with_reducible exact frLe_nil) | (with_reducible first | refine frLe_any ?_ | refine frLe_val ?_) | ((with_reducible refine frLe_eq rfl ?_ ?_); (· rfl)) | ((with_reducible refine frLe_val' (int_eq ?_) ?_ ?_); (· omega); (· rfl)) | ((with_reducible refine frLe_val' (int_eq ?_) ?_ ?_); (· simp only [Int.natCast_add, Int.natCast_one, Int.natCast_ofNat] <;> omega); (· rfl)) | ((with_reducible refine frLe_val' (bool_eq ?_) ?_ ?_); (· first | assumption | (symm; assumption)); (· rfl))))))
    exact hpLe_cells (frLe_eq rfl (by simp [AV.under]) frLe_nil) (hpLe_own rfl rfl hpLe_nil)
  · rintro i out ⟨hi, ho⟩
    rcases Nat.lt_or_ge i L.length with h1 | h1
    · obtain ⟨r, hr⟩ : ∃ r, L[i]? = some r := ⟨L[i], List.getElem?_eq_getElem h1⟩
      obtain ⟨p, rfl, ca⟩ := hA.cells hr
      have hbd := v.bd (List.mem_of_getElem? hr)
      have hst := wideO_step (w := w) hr
      have hlen := wideO_len w L i
      rw [← ho] at hst hlen
      clear ho
      have hxx : ¬ min (r.x1 + w) 8192 ≤ max (r.x0 - w) (-8192) := by omega
      rcases last_or out with hout | ⟨Kp, rl, hout⟩
      · have hlen0 : out.length = 0 := by rw [hout]; rfl
        rw [hout, addR_nil hxx] at hst
        (repeat ((try (conv => whnf)); (first | (refine ca _ ?_) | (with_reducible first | refine condP_true ?_ | refine condP_false ?_ | refine condP_not ?_ | refine condP_and ?_) | ((with_reducible refine condP_dt ?_ ?_); (· omega)) | ((with_reducible refine condP_df ?_ ?_); (· omega)) | ((with_reducible refine condP_yes ?_ ?_); (· assumption)) | ((with_reducible refine condP_no ?_ ?_); (· assumption)) | ((with_reducible refine ArP_i64 ?_ ?_); (· omega)) | ((with_reducible refine mustP.mk ?_ ?_); (· first | omega | rfl | (dsimp only; omega))) | (with_reducible first | refine EqP_nil tab_ok ?_ | refine EqP_sli tab_ok ?_ | refine DrawP_auto tab_ok (by kernel_rfl) (by decide +kernel) ?_ | refine DrawP_auto2 tab_ok (by kernel_rfl) (by decide +kernel) ?_ | refine eq34 ?_ | refine eq68 ?_ | refine CallP_enter tab_ok Try.func32 (fun vs w => by kernel_rfl) (by rfl) ?_))))
        conv => whnf
        refine ⟨i + 1, [⟨r.y, max (r.x0 - w) (-8192), min (r.x1 + w) 8192⟩], ⟨by omega, hst.symm⟩, by omega, ?_⟩
        refine Le_move 4 1 (by rfl) (by rfl) (by rfl) (by rfl) ?_
        conv => whnf
        ((refine Le_head ?_); (conv => whnf); (refine Le_mk (by rfl) (by rfl) ?_ ?_); (· (repeat (first | (with_reducible exact frLe_nil) | (with_reducible first | refine frLe_any ?_ | refine frLe_val ?_) | ((with_reducible refine frLe_eq rfl ?_ ?_); (· rfl)) | ((with_reducible refine frLe_val' (int_eq ?_) ?_ ?_); (· omega); (· rfl)) | ((with_reducible refine frLe_val' (int_eq ?_) ?_ ?_); (· simp only [Int.natCast_add, Int.natCast_one, Int.natCast_ofNat] <;> omega); (· rfl)) | ((with_reducible refine frLe_val' (bool_eq ?_) ?_ ?_); (· first | assumption | (symm; assumption)); (· rfl))))))
        exact hpLe_cells (frLe_eq rfl (by simp [AV.under]) frLe_nil) (hpLe_own (by simp only [hlen0]; rfl) (by rw [hout]; rfl) hpLe_nil)
      · have hlen0 : out.length = Kp.length + 1 := by rw [hout]; simp
        have hix : (((out.length : Nat) : Int) - 1).toNat = Kp.length := by omega
        obtain ⟨g0, g1, g2⟩ := flat_last Kp rl
        rw [← hout, ← hix] at g0 g1 g2
        rw [← Nat.add_zero ((((out.length : Nat) : Int) - 1).toNat * 3)] at g0
        by_cases hj1 : rl.y = r.y
        · by_cases hj2 : max (r.x0 - w) (-8192) ≤ rl.x1
          · rw [hout, addR_join hxx hj1 hj2] at hst
            (repeat ((try (conv => whnf)); (first | (refine ca _ ?_) | (refine OwnCells_one (.int .i64 rl.y) g0 ?_) | (refine OwnCells_one (.int .i64 rl.x1) g2 ?_) | (with_reducible first | refine condP_true ?_ | refine condP_false ?_ | refine condP_not ?_ | refine condP_and ?_) | ((with_reducible refine condP_dt ?_ ?_); (· omega)) | ((with_reducible refine condP_df ?_ ?_); (· omega)) | ((with_reducible refine condP_yes ?_ ?_); (· assumption)) | ((with_reducible refine condP_no ?_ ?_); (· assumption)) | ((with_reducible refine ArP_i64 ?_ ?_); (· omega)) | ((with_reducible refine mustP.mk ?_ ?_); (· first | omega | rfl | (dsimp only; omega))) | (with_reducible first | refine EqP_nil tab_ok ?_ | refine EqP_sli tab_ok ?_ | refine DrawP_auto tab_ok (by kernel_rfl) (by decide +kernel) ?_ | refine DrawP_auto2 tab_ok (by kernel_rfl) (by decide +kernel) ?_ | refine eq34 ?_ | refine eq68 ?_ | refine CallP_enter tab_ok Try.func32 (fun vs w => by kernel_rfl) (by rfl) ?_))))
            conv => whnf
            refine mustP.mk (by rw [hix, flatR_length, hlen0]; simp; omega) ?_
            (repeat ((try (conv => whnf)); (first | (refine ca _ ?_) | (refine OwnCells_one (.int .i64 rl.y) g0 ?_) | (refine OwnCells_one (.int .i64 rl.x1) g2 ?_) | (with_reducible first | refine condP_true ?_ | refine condP_false ?_ | refine condP_not ?_ | refine condP_and ?_) | ((with_reducible refine condP_dt ?_ ?_); (· omega)) | ((with_reducible refine condP_df ?_ ?_); (· omega)) | ((with_reducible refine condP_yes ?_ ?_); (· assumption)) | ((with_reducible refine condP_no ?_ ?_); (· assumption)) | ((with_reducible refine ArP_i64 ?_ ?_); (· omega)) | ((with_reducible refine mustP.mk ?_ ?_); (· first | omega | rfl | (dsimp only; omega))) | (with_reducible first | refine EqP_nil tab_ok ?_ | refine EqP_sli tab_ok ?_ | refine DrawP_auto tab_ok (by kernel_rfl) (by decide +kernel) ?_ | refine DrawP_auto2 tab_ok (by kernel_rfl) (by decide +kernel) ?_ | refine eq34 ?_ | refine eq68 ?_ | refine CallP_enter tab_ok Try.func32 (fun vs w => by kernel_rfl) (by rfl) ?_))))
            conv => whnf
            refine ⟨i + 1, Kp ++ [⟨r.y, rl.x0, max rl.x1 (min (r.x1 + w) 8192)⟩], ⟨by omega, hst.symm⟩, by omega, ?_⟩
            ((refine Le_head ?_); (conv => whnf); (refine Le_mk (by rfl) (by rfl) ?_ ?_); (· (repeat (first | (with_reducible exact frLe_nil) | (with_reducible first | refine frLe_any ?_ | refine frLe_val ?_) | ((with_reducible refine frLe_eq rfl ?_ ?_); (· rfl)) | ((with_reducible refine frLe_val' (int_eq ?_) ?_ ?_); (· omega); (· rfl)) | ((with_reducible refine frLe_val' (int_eq ?_) ?_ ?_); (· simp only [Int.natCast_add, Int.natCast_one, Int.natCast_ofNat] <;> omega); (· rfl)) | ((with_reducible refine frLe_val' (bool_eq ?_) ?_ ?_); (· first | assumption | (symm; assumption)); (· rfl))))))
            exact hpLe_cells (frLe_eq rfl (by simp [AV.under]) frLe_nil) (hpLe_own (by rw [hlen0]; simp) (by rw [hix, hout, ← hj1]; exact flat_set Kp rl _) hpLe_nil)
          · rw [hout, addR_new hxx (fun h => hj2 h.2)] at hst
            (repeat ((try (conv => whnf)); (first | (refine ca _ ?_) | (refine OwnCells_one (.int .i64 rl.y) g0 ?_) | (refine OwnCells_one (.int .i64 rl.x1) g2 ?_) | (with_reducible first | refine condP_true ?_ | refine condP_false ?_ | refine condP_not ?_ | refine condP_and ?_) | ((with_reducible refine condP_dt ?_ ?_); (· omega)) | ((with_reducible refine condP_df ?_ ?_); (· omega)) | ((with_reducible refine condP_yes ?_ ?_); (· assumption)) | ((with_reducible refine condP_no ?_ ?_); (· assumption)) | ((with_reducible refine ArP_i64 ?_ ?_); (· omega)) | ((with_reducible refine mustP.mk ?_ ?_); (· first | omega | rfl | (dsimp only; omega))) | (with_reducible first | refine EqP_nil tab_ok ?_ | refine EqP_sli tab_ok ?_ | refine DrawP_auto tab_ok (by kernel_rfl) (by decide +kernel) ?_ | refine DrawP_auto2 tab_ok (by kernel_rfl) (by decide +kernel) ?_ | refine eq34 ?_ | refine eq68 ?_ | refine CallP_enter tab_ok Try.func32 (fun vs w => by kernel_rfl) (by rfl) ?_))))
            conv => whnf
            refine ⟨i + 1, Kp ++ [rl] ++ [⟨r.y, max (r.x0 - w) (-8192), min (r.x1 + w) 8192⟩], ⟨by omega, hst.symm⟩, by omega, ?_⟩
            refine Le_move 4 1 (by rfl) (by rfl) (by rfl) (by rfl) ?_
            conv => whnf
            ((refine Le_head ?_); (conv => whnf); (refine Le_mk (by rfl) (by rfl) ?_ ?_); (· (repeat (first | (with_reducible exact frLe_nil) | (with_reducible first | refine frLe_any ?_ | refine frLe_val ?_) | ((with_reducible refine frLe_eq rfl ?_ ?_); (· rfl)) | ((with_reducible refine frLe_val' (int_eq ?_) ?_ ?_); (· omega); (· rfl)) | ((with_reducible refine frLe_val' (int_eq ?_) ?_ ?_); (· simp only [Int.natCast_add, Int.natCast_one, Int.natCast_ofNat] <;> omega); (· rfl)) | ((with_reducible refine frLe_val' (bool_eq ?_) ?_ ?_); (· first | assumption | (symm; assumption)); (· rfl))))))
            exact hpLe_cells (frLe_eq rfl (by simp [AV.under]) frLe_nil) (hpLe_own (by rw [hlen0]; simp) (by rw [hout, flatR_append (Kp ++ [rl])]; rfl) hpLe_nil)
        · rw [hout, addR_new hxx (fun h => hj1 h.1)] at hst
          (repeat ((try (conv => whnf)); (first | (refine ca _ ?_) | (refine OwnCells_one (.int .i64 rl.y) g0 ?_) | (refine OwnCells_one (.int .i64 rl.x1) g2 ?_) | (with_reducible first | refine condP_true ?_ | refine condP_false ?_ | refine condP_not ?_ | refine condP_and ?_) | ((with_reducible refine condP_dt ?_ ?_); (· omega)) | ((with_reducible refine condP_df ?_ ?_); (· omega)) | ((with_reducible refine condP_yes ?_ ?_); (· assumption)) | ((with_reducible refine condP_no ?_ ?_); (· assumption)) | ((with_reducible refine ArP_i64 ?_ ?_); (· omega)) | ((with_reducible refine mustP.mk ?_ ?_); (· first | omega | rfl | (dsimp only; omega))) | (with_reducible first | refine EqP_nil tab_ok ?_ | refine EqP_sli tab_ok ?_ | refine DrawP_auto tab_ok (by kernel_rfl) (by decide +kernel) ?_ | refine DrawP_auto2 tab_ok (by kernel_rfl) (by decide +kernel) ?_ | refine eq34 ?_ | refine eq68 ?_ | refine CallP_enter tab_ok Try.func32 (fun vs w => by kernel_rfl) (by rfl) ?_))))
          conv => whnf
          refine ⟨i + 1, Kp ++ [rl] ++ [⟨r.y, max (r.x0 - w) (-8192), min (r.x1 + w) 8192⟩], ⟨by omega, hst.symm⟩, by omega, ?_⟩
          refine Le_move 4 1 (by rfl) (by rfl) (by rfl) (by rfl) ?_
          conv => whnf
          ((refine Le_head ?_); (conv => whnf); (refine Le_mk (by rfl) (by rfl) ?_ ?_); (· (repeat (first | (with_reducible exact frLe_nil) | (with_reducible first | refine frLe_any ?_ | refine frLe_val ?_) | ((with_reducible refine frLe_eq rfl ?_ ?_); (· rfl)) | ((with_reducible refine frLe_val' (int_eq ?_) ?_ ?_); (· omega); (· rfl)) | ((with_reducible refine frLe_val' (int_eq ?_) ?_ ?_); (· simp only [Int.natCast_add, Int.natCast_one, Int.natCast_ofNat] <;> omega); (· rfl)) | ((with_reducible refine frLe_val' (bool_eq ?_) ?_ ?_); (· first | assumption | (symm; assumption)); (· rfl))))))
          exact hpLe_cells (frLe_eq rfl (by simp [AV.under]) frLe_nil) (hpLe_own (by rw [hlen0]; simp) (by rw [hout, flatR_append (Kp ++ [rl])]; rfl) hpLe_nil)
    · obtain rfl : i = L.length := by omega
      rw [wideO_all] at ho
      have hWl := wideO_len w L L.length
      rw [wideO_all, ← ho] at hWl
      have hWok := (wide_ok (w := w) v.ok).1
      rw [← ho] at hWok
      have hWb : ∀ s ∈ out, -8192 ≤ s.y ∧ s.y ≤ 8191 := fun s hs => by
        rw [ho] at hs hWok
        obtain ⟨r, hr, h3, _⟩ := ((wide_ok (w := w) v.ok).2 s.x0 s.y).1 ⟨s, hs, rfl, Int.le_refl _, okR_run hWok hs⟩
        have := v.bd hr
        omega
      have hall : allC w out out.length = dilD w L := by rw [ho]
      have hpr : 0 ≤ (out.length : Int) * (2 * w + 1) ∧ (out.length : Int) * (2 * w + 1) ≤ 129000000 := by
        refine ⟨Int.mul_nonneg (by omega) (by omega), ?_⟩
        have h1 : (out.length : Int) * (2 * w + 1) ≤ (out.length : Int) * 129 := Int.mul_le_mul_of_nonneg_left (by omega) (by omega)
        omega
      have hdb := dil_bd hw v
      clear ho
      (repeat ((try (conv => whnf)); (first | (with_reducible first | refine condP_true ?_ | refine condP_false ?_ | refine condP_not ?_ | refine condP_and ?_) | ((with_reducible refine condP_dt ?_ ?_); (· omega)) | ((with_reducible refine condP_df ?_ ?_); (· omega)) | ((with_reducible refine condP_yes ?_ ?_); (· assumption)) | ((with_reducible refine condP_no ?_ ?_); (· assumption)) | ((with_reducible refine ArP_i64 ?_ ?_); (· omega)) | ((with_reducible refine mustP.mk ?_ ?_); (· first | omega | rfl | (dsimp only; omega))) | (with_reducible first | refine EqP_nil tab_ok ?_ | refine EqP_sli tab_ok ?_ | refine DrawP_auto tab_ok (by kernel_rfl) (by decide +kernel) ?_ | refine DrawP_auto2 tab_ok (by kernel_rfl) (by decide +kernel) ?_ | refine eq34 ?_ | refine eq68 ?_))))
      conv => whnf
      refine LoopP_at2 tab_ok (fun (i : Nat) (o : List Run) => i ≤ out.length ∧ o = allC w out i) (fun i o => [(43, .val (.int .i64 i)), (8, .own 2), (39, .any)]) (fun i o => [.cells 45 [.own 1], .own 34 3 out.length (flatR out), .own 34 3 o.length (flatR o)]) (fun i o => out.length - i) 0 [] ⟨Nat.zero_le _, rfl⟩ ?_ ?_
      · conv => whnf
        ((refine Le_head ?_); (conv => whnf); (refine Le_mk (by rfl) (by rfl) ?_ ?_); (· (repeat (first | (with_reducible exact frLe_nil) | (with_reducible first | refine frLe_any ?_ | refine frLe_val ?_) | ((with_reducible refine frLe_eq rfl ?_ ?_); (· rfl)) | ((with_reducible refine frLe_val' (int_eq ?_) ?_ ?_); (· omega); (· rfl)) | ((with_reducible refine frLe_val' (int_eq ?_) ?_ ?_); (· simp only [Int.natCast_add, Int.natCast_one, Int.natCast_ofNat] <;> omega); (· rfl)) | ((with_reducible refine frLe_val' (bool_eq ?_) ?_ ?_); (· first | assumption | (symm; assumption)); (· rfl))))))
        exact hpLe_cells (frLe_eq rfl (by simp [AV.under]) frLe_nil) (hpLe_own rfl rfl (hpLe_own rfl rfl hpLe_nil))
      · rintro i o ⟨hi2, ho⟩
        rcases Nat.lt_or_ge i out.length with h2 | h2
        · obtain ⟨s, hs⟩ : ∃ s, out[i]? = some s := ⟨out[i], List.getElem?_eq_getElem h2⟩
          obtain ⟨d0, d1, d2⟩ := flatR_get hs
          have hsb := hWb s (List.mem_of_getElem? hs)
          have hal := allC_len hw out i
          have hstep := allC_step (w := w) hs
          have hnum := numC_le hw s
          have hnumE : (numC w s : Int) = min (s.y + w) 8191 + 1 - max (s.y - w) (-8192) := by unfold numC; omega
          rw [← ho] at hstep hal
          clear ho hdb
          have hld : OwnCells (flatR out) ((i : Int).toNat * 3) 3 (fun vs => vs = [.int .i64 s.y, .int .i64 s.x0, .int .i64 s.x1]) := by
            refine OwnCells_list [.int .i64 s.y, .int .i64 s.x0, .int .i64 s.x1] rfl (fun j u hj => ?_) rfl
            rw [Int.toNat_natCast]
            match j, hj with
            | 0, hj => simp at hj; subst hj; exact d0
            | 1, hj => simp at hj; subst hj; exact d1
            | 2, hj => simp at hj; subst hj; exact d2
          obtain ⟨ws, ⟨w1, w2⟩, rfl⟩ := hld
          (repeat ((try (conv => whnf)); (first | (refine ⟨[.int .i64 s.y, .int .i64 s.x0, .int .i64 s.x1], ⟨by exact w1, by exact w2⟩, ?_⟩) | (with_reducible first | refine condP_true ?_ | refine condP_false ?_ | refine condP_not ?_ | refine condP_and ?_) | ((with_reducible refine condP_dt ?_ ?_); (· omega)) | ((with_reducible refine condP_df ?_ ?_); (· omega)) | ((with_reducible refine condP_yes ?_ ?_); (· assumption)) | ((with_reducible refine condP_no ?_ ?_); (· assumption)) | ((with_reducible refine ArP_i64 ?_ ?_); (· omega)) | ((with_reducible refine mustP.mk ?_ ?_); (· first | omega | rfl | (dsimp only; omega))) | (with_reducible first | refine EqP_nil tab_ok ?_ | refine EqP_sli tab_ok ?_ | refine DrawP_auto tab_ok (by kernel_rfl) (by decide +kernel) ?_ | refine DrawP_auto2 tab_ok (by kernel_rfl) (by decide +kernel) ?_ | refine eq34 ?_ | refine eq68 ?_))))
          conv => whnf
          refine LoopP_at2 tab_ok (fun (k : Nat) (o' : List Run) => k ≤ numC w s ∧ o' = o ++ copies w s k) (fun k o' => [(11, .val (.int .i64 (max (s.y - w) (-8192) + k))), (8, .own 2)]) (fun k o' => [.cells 45 [.own 1], .own 34 3 out.length (flatR out), .own 34 3 o'.length (flatR o'), .cells 34 [.val (.int .i64 s.y), .val (.int .i64 s.x0), .val (.int .i64 s.x1)]]) (fun k o' => numC w s - k) 0 o ⟨Nat.zero_le _, by simp [copies]⟩ ?_ ?_
          · conv => whnf
            ((refine Le_head ?_); (conv => whnf); (refine Le_mk (by rfl) (by rfl) ?_ ?_); (· (repeat (first | (with_reducible exact frLe_nil) | (with_reducible first | refine frLe_any ?_ | refine frLe_val ?_) | ((with_reducible refine frLe_eq rfl ?_ ?_); (· rfl)) | ((with_reducible refine frLe_val' (int_eq ?_) ?_ ?_); (· omega); (· rfl)) | ((with_reducible refine frLe_val' (int_eq ?_) ?_ ?_); (· simp only [Int.natCast_add, Int.natCast_one, Int.natCast_ofNat] <;> omega); (· rfl)) | ((with_reducible refine frLe_val' (bool_eq ?_) ?_ ?_); (· first | assumption | (symm; assumption)); (· rfl))))))
            exact hpLe_cells (frLe_eq rfl (by simp [AV.under]) frLe_nil) (hpLe_own rfl rfl (hpLe_own rfl rfl (hpLe_cells (frLe_val (frLe_val (frLe_val frLe_nil))) hpLe_nil)))
          · rintro k o' ⟨hk, ho'⟩
            have hlo := congrArg List.length ho'
            rw [List.length_append, copies_len] at hlo
            rcases Nat.lt_or_ge k (numC w s) with h3 | h3
            · (repeat ((try (conv => whnf)); (first | (with_reducible first | refine condP_true ?_ | refine condP_false ?_ | refine condP_not ?_ | refine condP_and ?_) | ((with_reducible refine condP_dt ?_ ?_); (· omega)) | ((with_reducible refine condP_df ?_ ?_); (· omega)) | ((with_reducible refine condP_yes ?_ ?_); (· assumption)) | ((with_reducible refine condP_no ?_ ?_); (· assumption)) | ((with_reducible refine ArP_i64 ?_ ?_); (· omega)) | ((with_reducible refine mustP.mk ?_ ?_); (· first | omega | rfl | (dsimp only; omega))) | (with_reducible first | refine EqP_nil tab_ok ?_ | refine EqP_sli tab_ok ?_ | refine DrawP_auto tab_ok (by kernel_rfl) (by decide +kernel) ?_ | refine DrawP_auto2 tab_ok (by kernel_rfl) (by decide +kernel) ?_ | refine eq34 ?_ | refine eq68 ?_))))
              conv => whnf
              refine ⟨k + 1, o' ++ [copyR w s k], ⟨by omega, by rw [copies_succ, ho', List.append_assoc]⟩, by omega, ?_⟩
              refine Le_move 5 2 (by rfl) (by rfl) (by rfl) (by rfl) ?_
              conv => whnf
              ((refine Le_head ?_); (conv => whnf); (refine Le_mk (by rfl) (by rfl) ?_ ?_); (· (repeat (first | (with_reducible exact frLe_nil) | (with_reducible first | refine frLe_any ?_ | refine frLe_val ?_) | ((with_reducible refine frLe_eq rfl ?_ ?_); (· rfl)) | ((with_reducible refine frLe_val' (int_eq ?_) ?_ ?_); (· omega); (· rfl)) | ((with_reducible refine frLe_val' (int_eq ?_) ?_ ?_); (· simp only [Int.natCast_add, Int.natCast_one, Int.natCast_ofNat] <;> omega); (· rfl)) | ((with_reducible refine frLe_val' (bool_eq ?_) ?_ ?_); (· first | assumption | (symm; assumption)); (· rfl))))))
              exact hpLe_cells (frLe_eq rfl (by simp [AV.under]) frLe_nil) (hpLe_own rfl rfl (hpLe_own (by simp) (by rw [flatR_append, flatR_one]; rfl) (hpLe_cells (frLe_val (frLe_val (frLe_val frLe_nil))) hpLe_nil)))
            · obtain rfl : k = numC w s := by omega
              rw [← hstep] at ho'
              (repeat ((try (conv => whnf)); (first | (with_reducible first | refine condP_true ?_ | refine condP_false ?_ | refine condP_not ?_ | refine condP_and ?_) | ((with_reducible refine condP_dt ?_ ?_); (· omega)) | ((with_reducible refine condP_df ?_ ?_); (· omega)) | ((with_reducible refine condP_yes ?_ ?_); (· assumption)) | ((with_reducible refine condP_no ?_ ?_); (· assumption)) | ((with_reducible refine ArP_i64 ?_ ?_); (· omega)) | ((with_reducible refine mustP.mk ?_ ?_); (· first | omega | rfl | (dsimp only; omega))) | (with_reducible first | refine EqP_nil tab_ok ?_ | refine EqP_sli tab_ok ?_ | refine DrawP_auto tab_ok (by kernel_rfl) (by decide +kernel) ?_ | refine DrawP_auto2 tab_ok (by kernel_rfl) (by decide +kernel) ?_ | refine eq34 ?_ | refine eq68 ?_))))
              refine ⟨i + 1, o', ⟨by omega, ho'⟩, by omega, ?_⟩
              ((refine Le_head ?_); (conv => whnf); (refine Le_mk (by rfl) (by rfl) ?_ ?_); (· (repeat (first | (with_reducible exact frLe_nil) | (with_reducible first | refine frLe_any ?_ | refine frLe_val ?_) | ((with_reducible refine frLe_eq rfl ?_ ?_); (· rfl)) | ((with_reducible refine frLe_val' (int_eq ?_) ?_ ?_); (· omega); (· rfl)) | ((with_reducible refine frLe_val' (int_eq ?_) ?_ ?_); (· simp only [Int.natCast_add, Int.natCast_one, Int.natCast_ofNat] <;> omega); (· rfl)) | ((with_reducible refine frLe_val' (bool_eq ?_) ?_ ?_); (· first | assumption | (symm; assumption)); (· rfl))))))
              exact hpLe_cells (frLe_eq rfl (by simp [AV.under]) frLe_nil) (hpLe_own rfl rfl (hpLe_own rfl rfl hpLe_nil))
        · obtain rfl : i = out.length := by omega
          rw [hall] at ho
          have hal := allC_len hw out out.length
          rw [hall, ← ho] at hal
          rw [← ho] at hdb ⊢
          (repeat ((try (conv => whnf)); (first | (with_reducible first | refine condP_true ?_ | refine condP_false ?_ | refine condP_not ?_ | refine condP_and ?_) | ((with_reducible refine condP_dt ?_ ?_); (· omega)) | ((with_reducible refine condP_df ?_ ?_); (· omega)) | ((with_reducible refine condP_yes ?_ ?_); (· assumption)) | ((with_reducible refine condP_no ?_ ?_); (· assumption)) | ((with_reducible refine ArP_i64 ?_ ?_); (· omega)) | ((with_reducible refine mustP.mk ?_ ?_); (· first | omega | rfl | (dsimp only; omega))) | (with_reducible first | refine EqP_nil tab_ok ?_ | refine EqP_sli tab_ok ?_ | refine DrawP_auto tab_ok (by kernel_rfl) (by decide +kernel) ?_ | refine DrawP_auto2 tab_ok (by kernel_rfl) (by decide +kernel) ?_ | refine eq34 ?_ | refine eq68 ?_))))
          conv => whnf
          refine CallP_arg (fun vs w => by kernel_rfl) (by exact rfl) (by kernel_rfl) fun A1 c1 G1 hG1 hc1 hm1 hx1 => ?_
          have mk := Join_makes (c := c1) hx1 (fun r hr => by have := hdb r hr; omega) (by omega)
          conv => whnf
          refine CallP_makes (fun vs w => by kernel_rfl) (.alone fun _ => rfl) (by kernel_rfl) mk ?_
          (repeat ((try (conv => whnf)); (first | (with_reducible first | refine condP_true ?_ | refine condP_false ?_ | refine condP_not ?_ | refine condP_and ?_) | ((with_reducible refine condP_dt ?_ ?_); (· omega)) | ((with_reducible refine condP_df ?_ ?_); (· omega)) | ((with_reducible refine condP_yes ?_ ?_); (· assumption)) | ((with_reducible refine condP_no ?_ ?_); (· assumption)) | ((with_reducible refine ArP_i64 ?_ ?_); (· omega)) | ((with_reducible refine mustP.mk ?_ ?_); (· first | omega | rfl | (dsimp only; omega))) | (with_reducible first | refine EqP_nil tab_ok ?_ | refine EqP_sli tab_ok ?_ | refine DrawP_auto tab_ok (by kernel_rfl) (by decide +kernel) ?_ | refine DrawP_auto2 tab_ok (by kernel_rfl) (by decide +kernel) ?_ | refine eq34 ?_ | refine eq68 ?_))))
          exact .inl ⟨3, rfl, rfl⟩
end Go.Proofs.Ytiakdbcikmkomaa
