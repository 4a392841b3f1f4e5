/-
  The reference's PiecesCheck.
-/
import Derived.Test.YtbkhpddodmbdoaaApart0
import Derived.Test.YtbkhpddodmbdoaaFlatCheck
import Derived.Test.YtbkhpddodmbdoaaInG
import Derived.Test.YtbkhpddodmbdoaaCombined
namespace Go.Proofs.Ytbkhpddodmbdoaa
open Go.RowKit
set_option linter.unusedVariables false
set_option linter.unusedSimpArgs false
set_option maxRecDepth 20000
theorem meet_mix {La Lb : List Run} (va : ValidL La) (vb : ValidL Lb) : 0 < (mixR 1 La Lb).length ↔ meetL La Lb := by
  obtain ⟨h1, h2⟩ := mixR_ok (c := 1) va vb
  have key : ∀ x y, hasR (mixR 1 La Lb) x y ↔ hasR La x y ∧ hasR Lb x y := fun x y => by
    rw [h2, ← hasL_iff, ← hasL_iff]; simp [opB]
  constructor
  · intro h
    obtain ⟨r, hr⟩ : ∃ r, r ∈ mixR 1 La Lb := List.exists_mem_of_length_pos h
    have := okR_run h1 hr
    have h3 : hasR (mixR 1 La Lb) r.x0 r.y := ⟨r, hr, rfl, by omega, by omega⟩
    exact ⟨_, _, (key _ _).1 h3⟩
  · rintro ⟨x, y, h⟩
    obtain ⟨r, hr, _⟩ := (key x y).2 h
    exact List.length_pos_of_mem hr
section
variable {A : Option Addr} {n c : Nat} {p : Nat → PcD} {G : Mem} {w h : Int}
set_option maxHeartbeats 4000000 in
theorem RPieces_gives (hp : PcsM G A n p) (hm : n ≤ maxLen) : Gives Try.prog 7 [.val (.int .i64 w), .val (.int .i64 h), .val (.slice A n c)] G (.val (.int .i64 (pcsE w h n p))) := by
  unfold maxLen at hm
  refine Gives_of tab_ok Try.func7 ?_
  unfold pcsE
  by_cases hz1 : 1 ≤ w ∧ w ≤ 256
  rotate_left
  · have g1 := In_gives w 1 256 G false ⟨(fun h => by cases h), fun h => absurd h hz1⟩
    rw [if_pos (fun h => hz1 h.1)]
    (repeat ((try (conv => whnf)); (first | (with_reducible first | refine condP_true ?_ | refine condP_false ?_ | refine condP_not ?_ | refine condP_and ?_) | ((with_reducible refine condP_dt ?_ ?_); (· omega)) | ((with_reducible refine condP_df ?_ ?_); (· omega)) | ((with_reducible refine condP_yes ?_ ?_); (· assumption)) | ((with_reducible refine condP_no ?_ ?_); (· assumption)) | ((with_reducible refine ArP_i64 ?_ ?_); (· omega)) | ((with_reducible refine mustP.mk ?_ ?_); (· first | omega | rfl | (dsimp only; omega))) | (with_reducible first | refine EqP_nil tab_ok ?_ | refine EqP_sli tab_ok ?_ | refine DrawP_auto tab_ok (by kernel_rfl) (by decide +kernel) ?_ | refine DrawP_auto2 tab_ok (by kernel_rfl) (by decide +kernel) ?_ | refine eq27 ?_ | refine eq44 ?_ | refine eq54 ?_ | refine eq76 ?_ | refine eq134 ?_ | refine CallP_gives (fun vs w => by kernel_rfl) (by kernel_rfl) (g1) ?_ | refine RCallP_gives (fun vs w => by kernel_rfl) (by kernel_rfl) (g1) ?_))))
    exact ⟨rfl, rfl⟩
  have g1 := In_gives w 1 256 G true ⟨fun _ => hz1, fun _ => rfl⟩
  by_cases hz2 : 1 ≤ h ∧ h ≤ 256
  rotate_left
  · have g2 := In_gives h 1 256 G false ⟨(fun h => by cases h), fun h => absurd h hz2⟩
    rw [if_pos (fun h => hz2 h.2)]
    (repeat ((try (conv => whnf)); (first | (with_reducible first | refine condP_true ?_ | refine condP_false ?_ | refine condP_not ?_ | refine condP_and ?_) | ((with_reducible refine condP_dt ?_ ?_); (· omega)) | ((with_reducible refine condP_df ?_ ?_); (· omega)) | ((with_reducible refine condP_yes ?_ ?_); (· assumption)) | ((with_reducible refine condP_no ?_ ?_); (· assumption)) | ((with_reducible refine ArP_i64 ?_ ?_); (· omega)) | ((with_reducible refine mustP.mk ?_ ?_); (· first | omega | rfl | (dsimp only; omega))) | (with_reducible first | refine EqP_nil tab_ok ?_ | refine EqP_sli tab_ok ?_ | refine DrawP_auto tab_ok (by kernel_rfl) (by decide +kernel) ?_ | refine DrawP_auto2 tab_ok (by kernel_rfl) (by decide +kernel) ?_ | refine eq27 ?_ | refine eq44 ?_ | refine eq54 ?_ | refine eq76 ?_ | refine eq134 ?_ | refine CallP_gives (fun vs w => by kernel_rfl) (by kernel_rfl) (g1) ?_ | refine RCallP_gives (fun vs w => by kernel_rfl) (by kernel_rfl) (g1) ?_ | refine CallP_gives (fun vs w => by kernel_rfl) (by kernel_rfl) (g2) ?_ | refine RCallP_gives (fun vs w => by kernel_rfl) (by kernel_rfl) (g2) ?_))))
    exact ⟨rfl, rfl⟩
  have g2 := In_gives h 1 256 G true ⟨fun _ => hz2, fun _ => rfl⟩
  rw [if_neg (fun h => h ⟨hz1, hz2⟩)]
  by_cases hn : 4096 < n
  · rw [if_pos hn]
    (repeat ((try (conv => whnf)); (first | (with_reducible first | refine condP_true ?_ | refine condP_false ?_ | refine condP_not ?_ | refine condP_and ?_) | ((with_reducible refine condP_dt ?_ ?_); (· omega)) | ((with_reducible refine condP_df ?_ ?_); (· omega)) | ((with_reducible refine condP_yes ?_ ?_); (· assumption)) | ((with_reducible refine condP_no ?_ ?_); (· assumption)) | ((with_reducible refine ArP_i64 ?_ ?_); (· omega)) | ((with_reducible refine mustP.mk ?_ ?_); (· first | omega | rfl | (dsimp only; omega))) | (with_reducible first | refine EqP_nil tab_ok ?_ | refine EqP_sli tab_ok ?_ | refine DrawP_auto tab_ok (by kernel_rfl) (by decide +kernel) ?_ | refine DrawP_auto2 tab_ok (by kernel_rfl) (by decide +kernel) ?_ | refine eq27 ?_ | refine eq44 ?_ | refine eq54 ?_ | refine eq76 ?_ | refine eq134 ?_ | refine CallP_gives (fun vs w => by kernel_rfl) (by kernel_rfl) (g1) ?_ | refine RCallP_gives (fun vs w => by kernel_rfl) (by kernel_rfl) (g1) ?_ | refine CallP_gives (fun vs w => by kernel_rfl) (by kernel_rfl) (g2) ?_ | refine RCallP_gives (fun vs w => by kernel_rfl) (by kernel_rfl) (g2) ?_))))
    exact ⟨rfl, rfl⟩
  rw [if_neg hn]
  (repeat ((try (conv => whnf)); (first | (with_reducible first | refine condP_true ?_ | refine condP_false ?_ | refine condP_not ?_ | refine condP_and ?_) | ((with_reducible refine condP_dt ?_ ?_); (· omega)) | ((with_reducible refine condP_df ?_ ?_); (· omega)) | ((with_reducible refine condP_yes ?_ ?_); (· assumption)) | ((with_reducible refine condP_no ?_ ?_); (· assumption)) | ((with_reducible refine ArP_i64 ?_ ?_); (· omega)) | ((with_reducible refine mustP.mk ?_ ?_); (· first | omega | rfl | (dsimp only; omega))) | (with_reducible first | refine EqP_nil tab_ok ?_ | refine EqP_sli tab_ok ?_ | refine DrawP_auto tab_ok (by kernel_rfl) (by decide +kernel) ?_ | refine DrawP_auto2 tab_ok (by kernel_rfl) (by decide +kernel) ?_ | refine eq27 ?_ | refine eq44 ?_ | refine eq54 ?_ | refine eq76 ?_ | refine eq134 ?_ | refine CallP_gives (fun vs w => by kernel_rfl) (by kernel_rfl) (g1) ?_ | refine RCallP_gives (fun vs w => by kernel_rfl) (by kernel_rfl) (g1) ?_ | refine CallP_gives (fun vs w => by kernel_rfl) (by kernel_rfl) (g2) ?_ | refine RCallP_gives (fun vs w => by kernel_rfl) (by kernel_rfl) (g2) ?_))))
  conv => whnf
  refine LoopP_at tab_ok (fun i => i ≤ n ∧ firstZ (fun i => pcE w h (p i)) i = 0) (fun (i : Nat) => [(28, .val (.int .i64 i))]) (fun i => []) (fun i => n - i) 0 ⟨Nat.zero_le _, rfl⟩ ?_ ?_
  · ((refine Le_head ?_); (conv => whnf); (refine Le_mk (by rfl) (by rfl) ?_ ?_); (· (repeat (first | (with_reducible exact frLe_nil) | (with_reducible first | refine frLe_any ?_ | refine frLe_val ?_) | ((with_reducible refine frLe_eq rfl ?_ ?_); (· rfl)) | ((with_reducible refine frLe_val' (int_eq ?_) ?_ ?_); (· omega); (· rfl)) | ((with_reducible refine frLe_val' (int_eq ?_) ?_ ?_); (· simp only [Int.natCast_add, Int.natCast_one, Int.natCast_ofNat] <;> omega); (· rfl)) | ((with_reducible refine frLe_val' (bool_eq ?_) ?_ ?_); (· first | assumption | (symm; assumption)); (· rfl))))))
    exact hpLe_nil
  · rintro i ⟨hi, h0⟩
    rcases Nat.lt_or_ge i n with h1 | h1
    · obtain ⟨a, rfl, ch⟩ := hp.head h1
      obtain ⟨a', ha', ci⟩ := hp.inks h1
      cases ha'
      have hR := hp.runs i h1
      have hroom := hp.room i h1
      have gc := RCheck_gives (c := (p i).q) hR hroom.1 hroom.2
      have hfirst : pcE w h (p i) ≠ 0 → firstZ (fun i => pcE w h (p i)) n = pcE w h (p i) := fun e => firstZ_at (f := fun i => pcE w h (p i)) h0 e h1
      by_cases e1 : errL (p i).L = 0
      · rw [e1] at gc
        by_cases e2 : (p i).L.length = 0
        · have e := pcE_none (w := w) (h := h) e1 e2
          have hf := hfirst (by omega)
          rw [if_pos (by rw [hf]; omega), hf, e]
          (repeat ((try (conv => whnf)); (first | (refine OldCells_one _ ch ?_) | (with_reducible first | refine condP_true ?_ | refine condP_false ?_ | refine condP_not ?_ | refine condP_and ?_) | ((with_reducible refine condP_dt ?_ ?_); (· omega)) | ((with_reducible refine condP_df ?_ ?_); (· omega)) | ((with_reducible refine condP_yes ?_ ?_); (· assumption)) | ((with_reducible refine condP_no ?_ ?_); (· assumption)) | ((with_reducible refine ArP_i64 ?_ ?_); (· omega)) | ((with_reducible refine mustP.mk ?_ ?_); (· first | omega | rfl | (dsimp only; omega))) | (with_reducible first | refine EqP_nil tab_ok ?_ | refine EqP_sli tab_ok ?_ | refine DrawP_auto tab_ok (by kernel_rfl) (by decide +kernel) ?_ | refine DrawP_auto2 tab_ok (by kernel_rfl) (by decide +kernel) ?_ | refine eq27 ?_ | refine eq44 ?_ | refine eq54 ?_ | refine eq76 ?_ | refine eq134 ?_ | refine CallP_gives (fun vs w => by kernel_rfl) (by kernel_rfl) (gc) ?_ | refine RCallP_gives (fun vs w => by kernel_rfl) (by kernel_rfl) (gc) ?_))))
          conv => whnf
          exact ⟨rfl, rfl⟩
        · have hlen := (errL_ok e1).length
          (repeat ((try (conv => whnf)); (first | (refine OldCells_one _ ch ?_) | (with_reducible first | refine condP_true ?_ | refine condP_false ?_ | refine condP_not ?_ | refine condP_and ?_) | ((with_reducible refine condP_dt ?_ ?_); (· omega)) | ((with_reducible refine condP_df ?_ ?_); (· omega)) | ((with_reducible refine condP_yes ?_ ?_); (· assumption)) | ((with_reducible refine condP_no ?_ ?_); (· assumption)) | ((with_reducible refine ArP_i64 ?_ ?_); (· omega)) | ((with_reducible refine mustP.mk ?_ ?_); (· first | omega | rfl | (dsimp only; omega))) | (with_reducible first | refine EqP_nil tab_ok ?_ | refine EqP_sli tab_ok ?_ | refine DrawP_auto tab_ok (by kernel_rfl) (by decide +kernel) ?_ | refine DrawP_auto2 tab_ok (by kernel_rfl) (by decide +kernel) ?_ | refine eq27 ?_ | refine eq44 ?_ | refine eq54 ?_ | refine eq76 ?_ | refine eq134 ?_ | refine CallP_gives (fun vs w => by kernel_rfl) (by kernel_rfl) (gc) ?_ | refine RCallP_gives (fun vs w => by kernel_rfl) (by kernel_rfl) (gc) ?_))))
          conv => whnf
          refine LoopP_at tab_ok (fun k => k ≤ (p i).L.length ∧ ∀ r ∈ (p i).L.take k, ¬ outP w h r) (fun (k : Nat) => [(53, .val (.int .i64 k))]) (fun k => []) (fun k => (p i).L.length - k) 0 ⟨Nat.zero_le _, fun r hr => by cases hr⟩ ?_ ?_
          · ((refine Le_head ?_); (conv => whnf); (refine Le_mk (by rfl) (by rfl) ?_ ?_); (· (repeat (first | (with_reducible exact frLe_nil) | (with_reducible first | refine frLe_any ?_ | refine frLe_val ?_) | ((with_reducible refine frLe_eq rfl ?_ ?_); (· rfl)) | ((with_reducible refine frLe_val' (int_eq ?_) ?_ ?_); (· omega); (· rfl)) | ((with_reducible refine frLe_val' (int_eq ?_) ?_ ?_); (· simp only [Int.natCast_add, Int.natCast_one, Int.natCast_ofNat] <;> omega); (· rfl)) | ((with_reducible refine frLe_val' (bool_eq ?_) ?_ ?_); (· first | assumption | (symm; assumption)); (· rfl))))))
            exact hpLe_nil
          · rintro k ⟨hk, hout⟩
            rcases Nat.lt_or_ge k (p i).L.length with h2 | h2
            · obtain ⟨r, hr⟩ : ∃ r, (p i).L[k]? = some r := ⟨_, List.getElem?_eq_getElem h2⟩
              obtain ⟨b, hb, cb⟩ := hR.cells hr
              have hbd := (errL_ok e1).bd (List.mem_of_getElem? hr)
              have htk : (p i).L.take (k + 1) = (p i).L.take k ++ [r] := by rw [List.take_add_one, hr]; rfl
              rw [hb] at ch
              have bad : outP w h r → firstZ (fun i => pcE w h (p i)) n = 3 := fun ho => by
                have e := pcE_out (w := w) (h := h) e1 e2 ⟨r, List.mem_of_getElem? hr, ho⟩
                rw [hfirst (by omega), e]
              by_cases o1 : r.y < 0
              · rw [bad (.inl o1), if_pos (by omega)]
                (repeat ((try (conv => whnf)); (first | (refine OldCells_one _ ch ?_) | (refine cb _ ?_) | (with_reducible first | refine condP_true ?_ | refine condP_false ?_ | refine condP_not ?_ | refine condP_and ?_) | ((with_reducible refine condP_dt ?_ ?_); (· omega)) | ((with_reducible refine condP_df ?_ ?_); (· omega)) | ((with_reducible refine condP_yes ?_ ?_); (· assumption)) | ((with_reducible refine condP_no ?_ ?_); (· assumption)) | ((with_reducible refine ArP_i64 ?_ ?_); (· omega)) | ((with_reducible refine mustP.mk ?_ ?_); (· first | omega | rfl | (dsimp only; omega))) | (with_reducible first | refine EqP_nil tab_ok ?_ | refine EqP_sli tab_ok ?_ | refine DrawP_auto tab_ok (by kernel_rfl) (by decide +kernel) ?_ | refine DrawP_auto2 tab_ok (by kernel_rfl) (by decide +kernel) ?_ | refine eq27 ?_ | refine eq44 ?_ | refine eq54 ?_ | refine eq76 ?_ | refine eq134 ?_))))
                conv => whnf
                exact ⟨rfl, rfl⟩
              by_cases o2 : 16 * h ≤ r.y
              · rw [bad (.inr (.inl o2)), if_pos (by omega)]
                (repeat ((try (conv => whnf)); (first | (refine OldCells_one _ ch ?_) | (refine cb _ ?_) | (with_reducible first | refine condP_true ?_ | refine condP_false ?_ | refine condP_not ?_ | refine condP_and ?_) | ((with_reducible refine condP_dt ?_ ?_); (· omega)) | ((with_reducible refine condP_df ?_ ?_); (· omega)) | ((with_reducible refine condP_yes ?_ ?_); (· assumption)) | ((with_reducible refine condP_no ?_ ?_); (· assumption)) | ((with_reducible refine ArP_i64 ?_ ?_); (· omega)) | ((with_reducible refine mustP.mk ?_ ?_); (· first | omega | rfl | (dsimp only; omega))) | (with_reducible first | refine EqP_nil tab_ok ?_ | refine EqP_sli tab_ok ?_ | refine DrawP_auto tab_ok (by kernel_rfl) (by decide +kernel) ?_ | refine DrawP_auto2 tab_ok (by kernel_rfl) (by decide +kernel) ?_ | refine eq27 ?_ | refine eq44 ?_ | refine eq54 ?_ | refine eq76 ?_ | refine eq134 ?_))))
                conv => whnf
                exact ⟨rfl, rfl⟩
              by_cases o3 : r.x0 < 0
              · rw [bad (.inr (.inr (.inl o3))), if_pos (by omega)]
                (repeat ((try (conv => whnf)); (first | (refine OldCells_one _ ch ?_) | (refine cb _ ?_) | (with_reducible first | refine condP_true ?_ | refine condP_false ?_ | refine condP_not ?_ | refine condP_and ?_) | ((with_reducible refine condP_dt ?_ ?_); (· omega)) | ((with_reducible refine condP_df ?_ ?_); (· omega)) | ((with_reducible refine condP_yes ?_ ?_); (· assumption)) | ((with_reducible refine condP_no ?_ ?_); (· assumption)) | ((with_reducible refine ArP_i64 ?_ ?_); (· omega)) | ((with_reducible refine mustP.mk ?_ ?_); (· first | omega | rfl | (dsimp only; omega))) | (with_reducible first | refine EqP_nil tab_ok ?_ | refine EqP_sli tab_ok ?_ | refine DrawP_auto tab_ok (by kernel_rfl) (by decide +kernel) ?_ | refine DrawP_auto2 tab_ok (by kernel_rfl) (by decide +kernel) ?_ | refine eq27 ?_ | refine eq44 ?_ | refine eq54 ?_ | refine eq76 ?_ | refine eq134 ?_))))
                conv => whnf
                exact ⟨rfl, rfl⟩
              by_cases o4 : 16 * w < r.x1
              · rw [bad (.inr (.inr (.inr o4))), if_pos (by omega)]
                (repeat ((try (conv => whnf)); (first | (refine OldCells_one _ ch ?_) | (refine cb _ ?_) | (with_reducible first | refine condP_true ?_ | refine condP_false ?_ | refine condP_not ?_ | refine condP_and ?_) | ((with_reducible refine condP_dt ?_ ?_); (· omega)) | ((with_reducible refine condP_df ?_ ?_); (· omega)) | ((with_reducible refine condP_yes ?_ ?_); (· assumption)) | ((with_reducible refine condP_no ?_ ?_); (· assumption)) | ((with_reducible refine ArP_i64 ?_ ?_); (· omega)) | ((with_reducible refine mustP.mk ?_ ?_); (· first | omega | rfl | (dsimp only; omega))) | (with_reducible first | refine EqP_nil tab_ok ?_ | refine EqP_sli tab_ok ?_ | refine DrawP_auto tab_ok (by kernel_rfl) (by decide +kernel) ?_ | refine DrawP_auto2 tab_ok (by kernel_rfl) (by decide +kernel) ?_ | refine eq27 ?_ | refine eq44 ?_ | refine eq54 ?_ | refine eq76 ?_ | refine eq134 ?_))))
                conv => whnf
                exact ⟨rfl, rfl⟩
              · (repeat ((try (conv => whnf)); (first | (refine OldCells_one _ ch ?_) | (refine cb _ ?_) | (with_reducible first | refine condP_true ?_ | refine condP_false ?_ | refine condP_not ?_ | refine condP_and ?_) | ((with_reducible refine condP_dt ?_ ?_); (· omega)) | ((with_reducible refine condP_df ?_ ?_); (· omega)) | ((with_reducible refine condP_yes ?_ ?_); (· assumption)) | ((with_reducible refine condP_no ?_ ?_); (· assumption)) | ((with_reducible refine ArP_i64 ?_ ?_); (· omega)) | ((with_reducible refine mustP.mk ?_ ?_); (· first | omega | rfl | (dsimp only; omega))) | (with_reducible first | refine EqP_nil tab_ok ?_ | refine EqP_sli tab_ok ?_ | refine DrawP_auto tab_ok (by kernel_rfl) (by decide +kernel) ?_ | refine DrawP_auto2 tab_ok (by kernel_rfl) (by decide +kernel) ?_ | refine eq27 ?_ | refine eq44 ?_ | refine eq54 ?_ | refine eq76 ?_ | refine eq134 ?_))))
                conv => whnf
                refine ⟨k + 1, ⟨by omega, fun s hs => ?_⟩, by omega, ?_⟩
                · rw [htk, List.mem_append] at hs
                  rcases hs with hs | hs
                  · exact hout s hs
                  · simp at hs; subst hs; unfold outP; omega
                · ((refine Le_head ?_); (conv => whnf); (refine Le_mk (by rfl) (by rfl) ?_ ?_); (· (repeat (first | (with_reducible exact frLe_nil) | (with_reducible first | refine frLe_any ?_ | refine frLe_val ?_) | ((with_reducible refine frLe_eq rfl ?_ ?_); (· rfl)) | ((with_reducible refine frLe_val' (int_eq ?_) ?_ ?_); (· omega); (· rfl)) | ((with_reducible refine frLe_val' (int_eq ?_) ?_ ?_); (· simp only [Int.natCast_add, Int.natCast_one, Int.natCast_ofNat] <;> omega); (· rfl)) | ((with_reducible refine frLe_val' (bool_eq ?_) ?_ ?_); (· first | assumption | (symm; assumption)); (· rfl))))))
                  exact hpLe_nil
            · obtain rfl : k = (p i).L.length := by omega
              rw [List.take_length] at hout
              have e3 : ¬ ∃ r ∈ (p i).L, outP w h r := fun ⟨r, h3, h4⟩ => hout r h3 h4
              by_cases e4 : zeroI (p i).I
              · have e := pcE_zero (w := w) (h := h) e1 e2 e3 e4
                have hf := hfirst (by omega)
                rw [if_pos (by rw [hf]; omega), hf, e]
                unfold zeroI at e4
                (repeat ((try (conv => whnf)); (first | (refine ci _ ?_) | (with_reducible first | refine condP_true ?_ | refine condP_false ?_ | refine condP_not ?_ | refine condP_and ?_) | ((with_reducible refine condP_dt ?_ ?_); (· omega)) | ((with_reducible refine condP_df ?_ ?_); (· omega)) | ((with_reducible refine condP_yes ?_ ?_); (· assumption)) | ((with_reducible refine condP_no ?_ ?_); (· assumption)) | ((with_reducible refine ArP_i64 ?_ ?_); (· omega)) | ((with_reducible refine mustP.mk ?_ ?_); (· first | omega | rfl | (dsimp only; omega))) | (with_reducible first | refine EqP_nil tab_ok ?_ | refine EqP_sli tab_ok ?_ | refine DrawP_auto tab_ok (by kernel_rfl) (by decide +kernel) ?_ | refine DrawP_auto2 tab_ok (by kernel_rfl) (by decide +kernel) ?_ | refine eq27 ?_ | refine eq44 ?_ | refine eq54 ?_ | refine eq76 ?_ | refine eq134 ?_))))
                conv => whnf
                exact ⟨rfl, rfl⟩
              · have e := pcE_ok (w := w) (h := h) e1 e2 e3 e4
                have hnz := not_zeroI e4
                (repeat ((try (conv => whnf)); (first | (refine ci _ ?_) | (with_reducible first | refine condP_no hnz ?_ | refine condP_true ?_ | refine condP_false ?_ | refine condP_not ?_ | refine condP_and ?_) | ((with_reducible refine condP_dt ?_ ?_); (· omega)) | ((with_reducible refine condP_df ?_ ?_); (· omega)) | ((with_reducible refine condP_yes ?_ ?_); (· assumption)) | ((with_reducible refine condP_no ?_ ?_); (· assumption)) | ((with_reducible refine ArP_i64 ?_ ?_); (· omega)) | ((with_reducible refine mustP.mk ?_ ?_); (· first | omega | rfl | (dsimp only; omega))) | (with_reducible first | refine EqP_nil tab_ok ?_ | refine EqP_sli tab_ok ?_ | refine DrawP_auto tab_ok (by kernel_rfl) (by decide +kernel) ?_ | refine DrawP_auto2 tab_ok (by kernel_rfl) (by decide +kernel) ?_ | refine eq27 ?_ | refine eq44 ?_ | refine eq54 ?_ | refine eq76 ?_ | refine eq134 ?_))))
                conv => whnf
                refine ⟨i + 1, ⟨by omega, firstZ_next (f := fun i => pcE w h (p i)) h0 e⟩, by omega, ?_⟩
                ((refine Le_head ?_); (conv => whnf); (refine Le_mk (by rfl) (by rfl) ?_ ?_); (· (repeat (first | (with_reducible exact frLe_nil) | (with_reducible first | refine frLe_any ?_ | refine frLe_val ?_) | ((with_reducible refine frLe_eq rfl ?_ ?_); (· rfl)) | ((with_reducible refine frLe_val' (int_eq ?_) ?_ ?_); (· omega); (· rfl)) | ((with_reducible refine frLe_val' (int_eq ?_) ?_ ?_); (· simp only [Int.natCast_add, Int.natCast_one, Int.natCast_ofNat] <;> omega); (· rfl)) | ((with_reducible refine frLe_val' (bool_eq ?_) ?_ ?_); (· first | assumption | (symm; assumption)); (· rfl))))))
                exact hpLe_nil
      · have e := pcE_reg (w := w) (h := h) e1
        have hf := hfirst (by omega)
        rw [if_pos (by rw [hf, e]; exact e1), hf, e]
        (repeat ((try (conv => whnf)); (first | (refine OldCells_one _ ch ?_) | (with_reducible first | refine condP_true ?_ | refine condP_false ?_ | refine condP_not ?_ | refine condP_and ?_) | ((with_reducible refine condP_dt ?_ ?_); (· omega)) | ((with_reducible refine condP_df ?_ ?_); (· omega)) | ((with_reducible refine condP_yes ?_ ?_); (· assumption)) | ((with_reducible refine condP_no ?_ ?_); (· assumption)) | ((with_reducible refine ArP_i64 ?_ ?_); (· omega)) | ((with_reducible refine mustP.mk ?_ ?_); (· first | omega | rfl | (dsimp only; omega))) | (with_reducible first | refine EqP_nil tab_ok ?_ | refine EqP_sli tab_ok ?_ | refine DrawP_auto tab_ok (by kernel_rfl) (by decide +kernel) ?_ | refine DrawP_auto2 tab_ok (by kernel_rfl) (by decide +kernel) ?_ | refine eq27 ?_ | refine eq44 ?_ | refine eq54 ?_ | refine eq76 ?_ | refine eq134 ?_ | refine CallP_gives (fun vs w => by kernel_rfl) (by kernel_rfl) (gc) ?_ | refine RCallP_gives (fun vs w => by kernel_rfl) (by kernel_rfl) (gc) ?_))))
        conv => whnf
        exact ⟨rfl, rfl⟩
    · obtain rfl : i = n := by omega
      rw [if_neg (by omega)]
      have hok := pcs_ok h0
      (repeat ((try (conv => whnf)); (first | (with_reducible first | refine condP_true ?_ | refine condP_false ?_ | refine condP_not ?_ | refine condP_and ?_) | ((with_reducible refine condP_dt ?_ ?_); (· omega)) | ((with_reducible refine condP_df ?_ ?_); (· omega)) | ((with_reducible refine condP_yes ?_ ?_); (· assumption)) | ((with_reducible refine condP_no ?_ ?_); (· assumption)) | ((with_reducible refine ArP_i64 ?_ ?_); (· omega)) | ((with_reducible refine mustP.mk ?_ ?_); (· first | omega | rfl | (dsimp only; omega))) | (with_reducible first | refine EqP_nil tab_ok ?_ | refine EqP_sli tab_ok ?_ | refine DrawP_auto tab_ok (by kernel_rfl) (by decide +kernel) ?_ | refine DrawP_auto2 tab_ok (by kernel_rfl) (by decide +kernel) ?_ | refine eq27 ?_ | refine eq44 ?_ | refine eq54 ?_ | refine eq76 ?_ | refine eq134 ?_))))
      conv => whnf
      refine LoopP_at tab_ok (fun j => j ≤ i ∧ firstZ (apE p) j = 0) (fun (j : Nat) => [(98, .val (.int .i64 j))]) (fun j => []) (fun j => i - j) 0 ⟨Nat.zero_le _, rfl⟩ ?_ ?_
      · ((refine Le_head ?_); (conv => whnf); (refine Le_mk (by rfl) (by rfl) ?_ ?_); (· (repeat (first | (with_reducible exact frLe_nil) | (with_reducible first | refine frLe_any ?_ | refine frLe_val ?_) | ((with_reducible refine frLe_eq rfl ?_ ?_); (· rfl)) | ((with_reducible refine frLe_val' (int_eq ?_) ?_ ?_); (· omega); (· rfl)) | ((with_reducible refine frLe_val' (int_eq ?_) ?_ ?_); (· simp only [Int.natCast_add, Int.natCast_one, Int.natCast_ofNat] <;> omega); (· rfl)) | ((with_reducible refine frLe_val' (bool_eq ?_) ?_ ?_); (· first | assumption | (symm; assumption)); (· rfl))))))
        exact hpLe_nil
      · rintro j ⟨hj, g0⟩
        rcases Nat.lt_or_ge j i with h2 | h2
        · have hfirst := fun h => firstZ_at (n := i) g0 h h2
          obtain ⟨a, rfl, cj⟩ := hp.head h2
          obtain ⟨a', ha', ij⟩ := hp.inks h2
          cases ha'
          (repeat ((try (conv => whnf)); (first | (with_reducible first | refine condP_true ?_ | refine condP_false ?_ | refine condP_not ?_ | refine condP_and ?_) | ((with_reducible refine condP_dt ?_ ?_); (· omega)) | ((with_reducible refine condP_df ?_ ?_); (· omega)) | ((with_reducible refine condP_yes ?_ ?_); (· assumption)) | ((with_reducible refine condP_no ?_ ?_); (· assumption)) | ((with_reducible refine ArP_i64 ?_ ?_); (· omega)) | ((with_reducible refine mustP.mk ?_ ?_); (· first | omega | rfl | (dsimp only; omega))) | (with_reducible first | refine EqP_nil tab_ok ?_ | refine EqP_sli tab_ok ?_ | refine DrawP_auto tab_ok (by kernel_rfl) (by decide +kernel) ?_ | refine DrawP_auto2 tab_ok (by kernel_rfl) (by decide +kernel) ?_ | refine eq27 ?_ | refine eq44 ?_ | refine eq54 ?_ | refine eq76 ?_ | refine eq134 ?_))))
          conv => whnf
          refine LoopP_at tab_ok (fun k => k ≤ j ∧ ∀ m, m < k → ¬ (sameI (p m).I (p j).I ∨ meetL (p m).L (p j).L)) (fun (k : Nat) => [(12, .val (.int .i64 k))]) (fun k => []) (fun k => j - k) 0 ⟨Nat.zero_le _, fun m hm => by omega⟩ ?_ ?_
          · ((refine Le_head ?_); (conv => whnf); (refine Le_mk (by rfl) (by rfl) ?_ ?_); (· (repeat (first | (with_reducible exact frLe_nil) | (with_reducible first | refine frLe_any ?_ | refine frLe_val ?_) | ((with_reducible refine frLe_eq rfl ?_ ?_); (· rfl)) | ((with_reducible refine frLe_val' (int_eq ?_) ?_ ?_); (· omega); (· rfl)) | ((with_reducible refine frLe_val' (int_eq ?_) ?_ ?_); (· simp only [Int.natCast_add, Int.natCast_one, Int.natCast_ofNat] <;> omega); (· rfl)) | ((with_reducible refine frLe_val' (bool_eq ?_) ?_ ?_); (· first | assumption | (symm; assumption)); (· rfl))))))
            exact hpLe_nil
          · rintro k ⟨hk, hno⟩
            rcases Nat.lt_or_ge k j with h3 | h3
            · obtain ⟨a', ha', ck⟩ := hp.head (show k < i by omega)
              cases ha'
              obtain ⟨a', ha', ik⟩ := hp.inks (show k < i by omega)
              cases ha'
              by_cases hs : sameI (p k).I (p j).I
              · have e7 := apE_tw (p := p) (i := j) ⟨k, h3, .inl hs⟩
                rw [hfirst (by omega), e7]
                unfold sameI at hs
                (repeat ((try (conv => whnf)); (first | (refine OldCells_one _ ck ?_) | (refine OldCells_one _ cj ?_) | (refine ik _ ?_) | (refine ij _ ?_) | (with_reducible first | refine condP_true ?_ | refine condP_false ?_ | refine condP_not ?_ | refine condP_and ?_) | ((with_reducible refine condP_dt ?_ ?_); (· omega)) | ((with_reducible refine condP_df ?_ ?_); (· omega)) | ((with_reducible refine condP_yes ?_ ?_); (· assumption)) | ((with_reducible refine condP_no ?_ ?_); (· assumption)) | ((with_reducible refine ArP_i64 ?_ ?_); (· omega)) | ((with_reducible refine mustP.mk ?_ ?_); (· first | omega | rfl | (dsimp only; omega))) | (with_reducible first | refine EqP_nil tab_ok ?_ | refine EqP_sli tab_ok ?_ | refine DrawP_auto tab_ok (by kernel_rfl) (by decide +kernel) ?_ | refine DrawP_auto2 tab_ok (by kernel_rfl) (by decide +kernel) ?_ | refine eq27 ?_ | refine eq44 ?_ | refine eq54 ?_ | refine eq76 ?_ | refine eq134 ?_))))
                conv => whnf
                exact ⟨rfl, rfl⟩
              · have hns := not_sameI hs
                have hmk := Combined_makes (p k).A (p j).A (p k).L (p j).L (p k).q (p j).q 1 G (hp.runs k (by omega)) (hp.runs j h2) (hok k (by omega)).1 (hok j h2).1
                have hlm := (mixR_valid (c := 1) (hok k (by omega)).1 (hok j h2).1).length
                have hmt := meet_mix (hok k (by omega)).1 (hok j h2).1
                generalize mixR 1 (p k).L (p j).L = M at *
                by_cases hm : meetL (p k).L (p j).L
                · have e7 := apE_tw (p := p) (i := j) ⟨k, h3, .inr hm⟩
                  rw [hfirst (by omega), e7]
                  have hM := hmt.2 hm
                  (repeat ((try (conv => whnf)); (first | (refine OldCells_one _ ck ?_) | (refine OldCells_one _ cj ?_) | (refine ik _ ?_) | (refine ij _ ?_) | (with_reducible refine condP_no hns ?_) | (refine RCallP_makes (fun vs w => by kernel_rfl) (.alone fun _ => rfl) (by kernel_rfl) hmk ?_) | (with_reducible first | refine condP_true ?_ | refine condP_false ?_ | refine condP_not ?_ | refine condP_and ?_) | ((with_reducible refine condP_dt ?_ ?_); (· omega)) | ((with_reducible refine condP_df ?_ ?_); (· omega)) | ((with_reducible refine condP_yes ?_ ?_); (· assumption)) | ((with_reducible refine condP_no ?_ ?_); (· assumption)) | ((with_reducible refine ArP_i64 ?_ ?_); (· omega)) | ((with_reducible refine mustP.mk ?_ ?_); (· first | omega | rfl | (dsimp only; omega))) | (with_reducible first | refine EqP_nil tab_ok ?_ | refine EqP_sli tab_ok ?_ | refine DrawP_auto tab_ok (by kernel_rfl) (by decide +kernel) ?_ | refine DrawP_auto2 tab_ok (by kernel_rfl) (by decide +kernel) ?_ | refine eq27 ?_ | refine eq44 ?_ | refine eq54 ?_ | refine eq76 ?_ | refine eq134 ?_))))
                  conv => whnf
                  exact ⟨rfl, rfl⟩
                · have hM : M.length = 0 := by
                    rcases Nat.eq_zero_or_pos M.length with h | h
                    · exact h
                    · exact absurd (hmt.1 h) hm
                  (repeat ((try (conv => whnf)); (first | (refine OldCells_one _ ck ?_) | (refine OldCells_one _ cj ?_) | (refine ik _ ?_) | (refine ij _ ?_) | (with_reducible refine condP_no hns ?_) | (refine RCallP_makes (fun vs w => by kernel_rfl) (.alone fun _ => rfl) (by kernel_rfl) hmk ?_) | (with_reducible first | refine condP_true ?_ | refine condP_false ?_ | refine condP_not ?_ | refine condP_and ?_) | ((with_reducible refine condP_dt ?_ ?_); (· omega)) | ((with_reducible refine condP_df ?_ ?_); (· omega)) | ((with_reducible refine condP_yes ?_ ?_); (· assumption)) | ((with_reducible refine condP_no ?_ ?_); (· assumption)) | ((with_reducible refine ArP_i64 ?_ ?_); (· omega)) | ((with_reducible refine mustP.mk ?_ ?_); (· first | omega | rfl | (dsimp only; omega))) | (with_reducible first | refine EqP_nil tab_ok ?_ | refine EqP_sli tab_ok ?_ | refine DrawP_auto tab_ok (by kernel_rfl) (by decide +kernel) ?_ | refine DrawP_auto2 tab_ok (by kernel_rfl) (by decide +kernel) ?_ | refine eq27 ?_ | refine eq44 ?_ | refine eq54 ?_ | refine eq76 ?_ | refine eq134 ?_))))
                  conv => whnf
                  refine ⟨k + 1, ⟨by omega, fun m hm' => ?_⟩, by omega, ?_⟩
                  · by_cases e : m = k
                    · subst e
                      exact fun h => h.elim hs hm
                    · exact hno m (by omega)
                  · ((refine Le_head ?_); (conv => whnf); (refine Le_mk (by rfl) (by rfl) ?_ ?_); (· (repeat (first | (with_reducible exact frLe_nil) | (with_reducible first | refine frLe_any ?_ | refine frLe_val ?_) | ((with_reducible refine frLe_eq rfl ?_ ?_); (· rfl)) | ((with_reducible refine frLe_val' (int_eq ?_) ?_ ?_); (· omega); (· rfl)) | ((with_reducible refine frLe_val' (int_eq ?_) ?_ ?_); (· simp only [Int.natCast_add, Int.natCast_one, Int.natCast_ofNat] <;> omega); (· rfl)) | ((with_reducible refine frLe_val' (bool_eq ?_) ?_ ?_); (· first | assumption | (symm; assumption)); (· rfl))))))
                    exact hpLe_nil
            · obtain rfl : k = j := by omega
              have htw : ¬ twP p k := fun ⟨m, m1, m2⟩ => hno m m1 m2
              by_cases hj0 : k = 0
              · have e0 := apE_ok htw (fun ho => by unfold ordP at ho; omega)
                (repeat ((try (conv => whnf)); (first | (with_reducible first | refine condP_true ?_ | refine condP_false ?_ | refine condP_not ?_ | refine condP_and ?_) | ((with_reducible refine condP_dt ?_ ?_); (· omega)) | ((with_reducible refine condP_df ?_ ?_); (· omega)) | ((with_reducible refine condP_yes ?_ ?_); (· assumption)) | ((with_reducible refine condP_no ?_ ?_); (· assumption)) | ((with_reducible refine ArP_i64 ?_ ?_); (· omega)) | ((with_reducible refine mustP.mk ?_ ?_); (· first | omega | rfl | (dsimp only; omega))) | (with_reducible first | refine EqP_nil tab_ok ?_ | refine EqP_sli tab_ok ?_ | refine DrawP_auto tab_ok (by kernel_rfl) (by decide +kernel) ?_ | refine DrawP_auto2 tab_ok (by kernel_rfl) (by decide +kernel) ?_ | refine eq27 ?_ | refine eq44 ?_ | refine eq54 ?_ | refine eq76 ?_ | refine eq134 ?_))))
                conv => whnf
                refine ⟨k + 1, ⟨by omega, firstZ_next g0 e0⟩, by omega, ?_⟩
                ((refine Le_head ?_); (conv => whnf); (refine Le_mk (by rfl) (by rfl) ?_ ?_); (· (repeat (first | (with_reducible exact frLe_nil) | (with_reducible first | refine frLe_any ?_ | refine frLe_val ?_) | ((with_reducible refine frLe_eq rfl ?_ ?_); (· rfl)) | ((with_reducible refine frLe_val' (int_eq ?_) ?_ ?_); (· omega); (· rfl)) | ((with_reducible refine frLe_val' (int_eq ?_) ?_ ?_); (· simp only [Int.natCast_add, Int.natCast_one, Int.natCast_ofNat] <;> omega); (· rfl)) | ((with_reducible refine frLe_val' (bool_eq ?_) ?_ ?_); (· first | assumption | (symm; assumption)); (· rfl))))))
                exact hpLe_nil
              · obtain ⟨m, rfl⟩ : ∃ m, k = m + 1 := ⟨k - 1, by omega⟩
                obtain ⟨a3, ha3, hd⟩ := hp.head (show m < i by omega)
                cases ha3
                obtain ⟨a1, ha1, c1⟩ := first_cell (hok (m + 1) h2).2.1 (hp.runs (m + 1) h2)
                obtain ⟨a2, ha2, c2⟩ := first_cell (hok m (by omega)).2.1 (hp.runs m (by omega))
                have hl1 : 0 < (p (m + 1)).L.length := Nat.pos_of_ne_zero (hok _ h2).2.1
                have hl2 : 0 < (p m).L.length := Nat.pos_of_ne_zero (hok _ (by omega)).2.1
                have hod : ordP p (m + 1) ↔ ((firstR (p (m + 1)).L).y < (firstR (p m).L).y ∨ ((firstR (p (m + 1)).L).y = (firstR (p m).L).y ∧ (firstR (p (m + 1)).L).x0 < (firstR (p m).L).x0)) := by
                  unfold ordP; rw [Nat.add_sub_cancel]; simp
                have hix : (((m + 1 : Nat) : Int) - 1).toNat = m := by omega
                rw [ha1] at cj
                rw [ha2, ← hix] at hd
                rw [← hix] at hl2
                by_cases ho : ordP p (m + 1)
                · have e7 := apE_ord htw ho
                  rw [hfirst (by omega), e7]
                  rw [hod] at ho
                  rcases ho with ho | ⟨ho1, ho2⟩
                  · (repeat ((try (conv => whnf)); (first | (refine OldCells_one _ cj ?_) | (refine OldCells_one _ hd ?_) | (refine c1 _ ?_) | (refine c2 _ ?_) | (with_reducible first | refine condP_true ?_ | refine condP_false ?_ | refine condP_not ?_ | refine condP_and ?_) | ((with_reducible refine condP_dt ?_ ?_); (· omega)) | ((with_reducible refine condP_df ?_ ?_); (· omega)) | ((with_reducible refine condP_yes ?_ ?_); (· assumption)) | ((with_reducible refine condP_no ?_ ?_); (· assumption)) | ((with_reducible refine ArP_i64 ?_ ?_); (· omega)) | ((with_reducible refine mustP.mk ?_ ?_); (· first | omega | rfl | (dsimp only; omega))) | (with_reducible first | refine EqP_nil tab_ok ?_ | refine EqP_sli tab_ok ?_ | refine DrawP_auto tab_ok (by kernel_rfl) (by decide +kernel) ?_ | refine DrawP_auto3 tab_ok (by kernel_rfl) (by decide +kernel) ?_ | refine eq27 ?_ | refine eq44 ?_ | refine eq54 ?_ | refine eq76 ?_ | refine eq134 ?_))))
                    conv => whnf
                    exact ⟨rfl, rfl⟩
                  · (repeat ((try (conv => whnf)); (first | (refine OldCells_one _ cj ?_) | (refine OldCells_one _ hd ?_) | (refine c1 _ ?_) | (refine c2 _ ?_) | (with_reducible first | refine condP_true ?_ | refine condP_false ?_ | refine condP_not ?_ | refine condP_and ?_) | ((with_reducible refine condP_dt ?_ ?_); (· omega)) | ((with_reducible refine condP_df ?_ ?_); (· omega)) | ((with_reducible refine condP_yes ?_ ?_); (· assumption)) | ((with_reducible refine condP_no ?_ ?_); (· assumption)) | ((with_reducible refine ArP_i64 ?_ ?_); (· omega)) | ((with_reducible refine mustP.mk ?_ ?_); (· first | omega | rfl | (dsimp only; omega))) | (with_reducible first | refine EqP_nil tab_ok ?_ | refine EqP_sli tab_ok ?_ | refine DrawP_auto tab_ok (by kernel_rfl) (by decide +kernel) ?_ | refine DrawP_auto3 tab_ok (by kernel_rfl) (by decide +kernel) ?_ | refine eq27 ?_ | refine eq44 ?_ | refine eq54 ?_ | refine eq76 ?_ | refine eq134 ?_))))
                    conv => whnf
                    exact ⟨rfl, rfl⟩
                · have e7 := apE_ok htw ho
                  rw [hod] at ho
                  have hnext : firstZ (apE p) (m + 1 + 1) = 0 := firstZ_next g0 e7
                  by_cases ho1 : (firstR (p (m + 1)).L).y = (firstR (p m).L).y
                  · (repeat ((try (conv => whnf)); (first | (refine OldCells_one _ cj ?_) | (refine OldCells_one _ hd ?_) | (refine c1 _ ?_) | (refine c2 _ ?_) | (with_reducible first | refine condP_true ?_ | refine condP_false ?_ | refine condP_not ?_ | refine condP_and ?_) | ((with_reducible refine condP_dt ?_ ?_); (· omega)) | ((with_reducible refine condP_df ?_ ?_); (· omega)) | ((with_reducible refine condP_yes ?_ ?_); (· assumption)) | ((with_reducible refine condP_no ?_ ?_); (· assumption)) | ((with_reducible refine ArP_i64 ?_ ?_); (· omega)) | ((with_reducible refine mustP.mk ?_ ?_); (· first | omega | rfl | (dsimp only; omega))) | (with_reducible first | refine EqP_nil tab_ok ?_ | refine EqP_sli tab_ok ?_ | refine DrawP_auto tab_ok (by kernel_rfl) (by decide +kernel) ?_ | refine DrawP_auto3 tab_ok (by kernel_rfl) (by decide +kernel) ?_ | refine eq27 ?_ | refine eq44 ?_ | refine eq54 ?_ | refine eq76 ?_ | refine eq134 ?_))))
                    conv => whnf
                    refine ⟨m + 1 + 1, ⟨by omega, hnext⟩, by omega, ?_⟩
                    ((refine Le_head ?_); (conv => whnf); (refine Le_mk (by rfl) (by rfl) ?_ ?_); (· (repeat (first | (with_reducible exact frLe_nil) | (with_reducible first | refine frLe_any ?_ | refine frLe_val ?_) | ((with_reducible refine frLe_eq rfl ?_ ?_); (· rfl)) | ((with_reducible refine frLe_val' (int_eq ?_) ?_ ?_); (· omega); (· rfl)) | ((with_reducible refine frLe_val' (int_eq ?_) ?_ ?_); (· simp only [Int.natCast_add, Int.natCast_one, Int.natCast_ofNat] <;> omega); (· rfl)) | ((with_reducible refine frLe_val' (bool_eq ?_) ?_ ?_); (· first | assumption | (symm; assumption)); (· rfl))))))
                    exact hpLe_nil
                  · (repeat ((try (conv => whnf)); (first | (refine OldCells_one _ cj ?_) | (refine OldCells_one _ hd ?_) | (refine c1 _ ?_) | (refine c2 _ ?_) | (with_reducible first | refine condP_true ?_ | refine condP_false ?_ | refine condP_not ?_ | refine condP_and ?_) | ((with_reducible refine condP_dt ?_ ?_); (· omega)) | ((with_reducible refine condP_df ?_ ?_); (· omega)) | ((with_reducible refine condP_yes ?_ ?_); (· assumption)) | ((with_reducible refine condP_no ?_ ?_); (· assumption)) | ((with_reducible refine ArP_i64 ?_ ?_); (· omega)) | ((with_reducible refine mustP.mk ?_ ?_); (· first | omega | rfl | (dsimp only; omega))) | (with_reducible first | refine EqP_nil tab_ok ?_ | refine EqP_sli tab_ok ?_ | refine DrawP_auto tab_ok (by kernel_rfl) (by decide +kernel) ?_ | refine DrawP_auto3 tab_ok (by kernel_rfl) (by decide +kernel) ?_ | refine eq27 ?_ | refine eq44 ?_ | refine eq54 ?_ | refine eq76 ?_ | refine eq134 ?_))))
                    conv => whnf
                    refine ⟨m + 1 + 1, ⟨by omega, hnext⟩, by omega, ?_⟩
                    ((refine Le_head ?_); (conv => whnf); (refine Le_mk (by rfl) (by rfl) ?_ ?_); (· (repeat (first | (with_reducible exact frLe_nil) | (with_reducible first | refine frLe_any ?_ | refine frLe_val ?_) | ((with_reducible refine frLe_eq rfl ?_ ?_); (· rfl)) | ((with_reducible refine frLe_val' (int_eq ?_) ?_ ?_); (· omega); (· rfl)) | ((with_reducible refine frLe_val' (int_eq ?_) ?_ ?_); (· simp only [Int.natCast_add, Int.natCast_one, Int.natCast_ofNat] <;> omega); (· rfl)) | ((with_reducible refine frLe_val' (bool_eq ?_) ?_ ?_); (· first | assumption | (symm; assumption)); (· rfl))))))
                    exact hpLe_nil
        · obtain rfl : j = i := by omega
          rw [g0]
          (repeat ((try (conv => whnf)); (first | (with_reducible first | refine condP_true ?_ | refine condP_false ?_ | refine condP_not ?_ | refine condP_and ?_) | ((with_reducible refine condP_dt ?_ ?_); (· omega)) | ((with_reducible refine condP_df ?_ ?_); (· omega)) | ((with_reducible refine condP_yes ?_ ?_); (· assumption)) | ((with_reducible refine condP_no ?_ ?_); (· assumption)) | ((with_reducible refine ArP_i64 ?_ ?_); (· omega)) | ((with_reducible refine mustP.mk ?_ ?_); (· first | omega | rfl | (dsimp only; omega))) | (with_reducible first | refine EqP_nil tab_ok ?_ | refine EqP_sli tab_ok ?_ | refine DrawP_auto tab_ok (by kernel_rfl) (by decide +kernel) ?_ | refine DrawP_auto2 tab_ok (by kernel_rfl) (by decide +kernel) ?_ | refine eq27 ?_ | refine eq44 ?_ | refine eq54 ?_ | refine eq76 ?_ | refine eq134 ?_))))
          conv => whnf
          exact ⟨rfl, rfl⟩
end
end Go.Proofs.Ytbkhpddodmbdoaa
