/-
  RegionRowsInOrder: the law's walk.
-/
import Derived.Test.YtmklpphdbmpbbaaRegions
import Derived.Test.YtmklpphdbmpbbaaRegChk
import Derived.Test.YtmklpphdbmpbbaaCloneR
import Derived.Test.YtmklpphdbmpbbaaEk
namespace Go.Proofs.Ytmklpphdbmpbbaa.regionRowsInOrder
open Go.RowKit
set_option linter.unusedVariables false
set_option maxRecDepth 20000
/-- A row of a region: the runs from i to k. -/
structure RowAt (L : List Run) (i k : Nat) (y : Int) : Prop where
  lt : i < k
  le : k ≤ L.length
  same : ∀ t r, i ≤ t → t < k → L[t]? = some r → r.y = y
  next : ∀ r, L[k]? = some r → y < r.y
theorem row_at {L : List Run} (v : ValidL L) {i : Nat} {r : Run} (hr : L[i]? = some r) : ∃ k, RowAt L i k r.y := by
  have hlt := (List.getElem?_eq_some_iff.1 hr).1
  have key : ∀ (n k : Nat), n = L.length - k → i < k → k ≤ L.length → (∀ t q, i ≤ t → t < k → L[t]? = some q → q.y = r.y) → ∃ k, RowAt L i k r.y := by
    intro n
    induction n with
    | zero => intro k hn h1 h2 h3; exact ⟨k, h1, h2, h3, fun q hq => by have := (List.getElem?_eq_some_iff.1 hq).1; omega⟩
    | succ n ih =>
      intro k hn h1 h2 h3
      obtain ⟨q, hq⟩ : ∃ q, L[k]? = some q := ⟨L[k]'(by omega), List.getElem?_eq_getElem (by omega)⟩
      have h4 := okR_lt v.ok h1 hr hq
      by_cases h5 : q.y = r.y
      · refine ih (k + 1) (by omega) (by omega) (by omega) fun t u ht ht' hu => ?_
        by_cases h6 : t = k
        · subst h6; rw [hq] at hu; cases hu; exact h5
        · exact h3 t u ht (by omega) hu
      · exact ⟨k, h1, h2, h3, fun u hu => by rw [hq] at hu; cases hu; omega⟩
  exact key _ (i + 1) rfl (by omega) (by omega) fun t q h1 h2 hq => by
    obtain rfl : t = i := by omega
    rw [hr] at hq; cases hq; rfl
abbrev lastY (L : List Run) (i : Nat) : Int := if i = 0 then -10000 else (nthR L (i - 1)).y
abbrev HH (A : Option Addr) (L : List Run) (c : Nat) (B0 : Blk) (i : Nat) : List Blk :=
  [.cells 4 [.val (.bool false)], .cells 4 [.val (.bool (decide ((0 : Int) = 0)))], .cells 22 [.own 6], .cells 3 [.val (.int .i64 (lastY L i))], .cells 22 [.val (.slice A L.length c)], B0, .own 28 3 i (flatR (L.take i))]
abbrev HR (A : Option Addr) (L : List Run) (c : Nat) (B1 : Blk) (i n : Nat) (y : Int) : List Blk :=
  [.cells 4 [.val (.bool false)], .cells 4 [.val (.bool (decide ((0 : Int) = 0)))], .cells 22 [.own 6], .cells 3 [.val (.int .i64 y)], .cells 22 [.val (.slice A L.length c)], B1, .own 28 3 i (flatR (L.take i)), .own 28 3 n (flatR ((L.drop i).take n))]
theorem HR_le {m : Nat} {A : Option Addr} {L : List Run} {c : Nat} {B1 : Blk} {i n : Nat} {y : Int} {j : LpI} {fr : List AV} {st : LoopState} {q : Option Code} (hB : B1 = .lp j fr st q) (hu : AV.unders (m + 8) fr = true) : hpLe (m + 8) (HR A L c B1 i n y) (HR A L c B1 i n y) := by
  have one : ∀ (x : Value), frLe (m + 8) [.val x] [.val x] := fun x => frLe_val frLe_nil
  exact hpLe_cells (one _) (hpLe_cells (one _) (hpLe_cells (frLe_eq rfl (by simp [AV.under]) frLe_nil) (hpLe_cells (one _) (hpLe_cells (one _) (hpLe_lpw hB (under_all hu) (hpLe_own rfl rfl (hpLe_own rfl rfl hpLe_nil)))))))
theorem HH_le {m : Nat} {A : Option Addr} {L : List Run} {c : Nat} {B0 : Blk} {i n : Nat} {y : Int} {xs : List Value} {j : LpI} {fr : List AV} {st : LoopState} {q : Option Code} {l : List Blk} (hB : B0 = .lp j fr st q) (hu : AV.unders (m + 7) fr = true) (h1 : y = lastY L i) (h2 : n = i) (h3 : xs = flatR (L.take i)) :
    hpLe (m + 7) (.cells 4 [.val (.bool false)] :: .cells 4 [.val (.bool (decide ((0 : Int) = 0)))] :: .cells 22 [.own 6] :: .cells 3 [.val (.int .i64 y)] :: .cells 22 [.val (.slice A L.length c)] :: B0 :: .own 28 3 n xs :: l) (HH A L c B0 i) := by
  subst h1 h2 h3
  have one : ∀ (x : Value), frLe (m + 7) [.val x] [.val x] := fun x => frLe_val frLe_nil
  exact hpLe_cells (one _) (hpLe_cells (one _) (hpLe_cells (frLe_eq rfl (by simp [AV.under]) frLe_nil) (hpLe_cells (one _) (hpLe_cells (one _) (hpLe_lpw hB (under_all hu) (hpLe_own rfl rfl hpLe_nil))))))
theorem sub_y {L : List Run} {i t x : Nat} {y : Int} (h : RowAt L i t y) (hx : x < t - i) : (flatR ((L.drop i).take (t - i)))[x * 3]? = some (.int .i64 y) := by
  have h1 := h.le
  obtain ⟨r, hr⟩ : ∃ r, L[i + x]? = some r := ⟨L[i + x]'(by omega), List.getElem?_eq_getElem (by omega)⟩
  have hq : ((L.drop i).take (t - i))[x]? = some r := by rw [List.getElem?_take, if_pos hx, List.getElem?_drop]; exact hr
  rw [(flatR_get hq).1, h.same (i + x) r (by omega) (by omega) hr]
theorem RowAt.edge {L : List Run} {i t : Nat} {y : Int} (h : RowAt L i t y) {q u : Run} (hq : L[t - 1]? = some q) (hu : L[t]? = some u) : q.y < u.y := by
  have := h.lt
  rw [h.same (t - 1) q (by omega) (by omega) hq]
  exact h.next u hu
theorem RowAt.lastY {L : List Run} {i t : Nat} {y : Int} (h : RowAt L i t y) : y = lastY L t := by
  have h1 := h.lt
  have h2 := h.le
  obtain ⟨q, hq⟩ : ∃ q, L[t - 1]? = some q := ⟨L[t - 1]'(by omega), List.getElem?_eq_getElem (by omega)⟩
  simp only [regionRowsInOrder.lastY, if_neg (show ¬ t = 0 by omega), nthR_get hq]
  exact (h.same (t - 1) q (by omega) (by omega) hq).symm
theorem take_sub {L : List Run} {i t : Nat} (h : i ≤ t) : flatR (L.take t) = flatR (L.take i) ++ flatR ((L.drop i).take (t - i)) := by
  rw [← flatR_append, show t = i + (t - i) by omega, List.take_add, show i + (t - i) - i = t - i by omega]
theorem runs_row {G : Mem} {A : Option Addr} {L : List Run} (h : RowM G A (flatR L)) : RunsM G A L := by
  intro i r hr
  obtain ⟨f0, f1, f2⟩ := flatR_get hr
  rcases h with ⟨_, h⟩ | ⟨b, off, hA, h⟩
  · rw [h] at f0; simp at f0
  · exact ⟨b, off, hA, h _ _ f0, by rw [Nat.add_assoc]; exact h _ _ f1, by rw [Nat.add_assoc]; exact h _ _ f2⟩
theorem runs_sub {G : Mem} {p : Addr} {L : List Run} (h : RunsM G (some p) L) (i n : Nat) : RunsM G (some (p.add (i * 3))) ((L.drop i).take n) := by
  intro j r hj
  have hj' : L[i + j]? = some r := by
    rw [List.getElem?_take] at hj
    split at hj
    · rwa [List.getElem?_drop] at hj
    · cases hj
  obtain ⟨b, off, hp, c0, c1, c2⟩ := h (i + j) r hj'
  cases hp
  refine ⟨b, off + i * 3, by rw [addr_add], ?_, ?_, ?_⟩
  · rw [show off + i * 3 + j * 3 = off + (i + j) * 3 by omega]; exact c0
  · rw [show off + i * 3 + j * 3 = off + (i + j) * 3 by omega]; exact c1
  · rw [show off + i * 3 + j * 3 = off + (i + j) * 3 by omega]; exact c2
set_option maxHeartbeats 4000000 in
theorem body {A : Option Addr} {L : List Run} {c : Nat} {G : Mem} (hA : RunsM G A L) (hc : L.length ≤ c) (hm : c ≤ maxLen) :
    bodyV Try.prog tab 0 Try.f4 [.val (.slice A L.length c)] [] G fun v _ _ => v = .val (.bool true) := by
  have hD := RCheck_gives hA hc hm
  by_cases he : errL L = 0
  · have v := errL_ok he
    have hll := v.length
    rw [he] at hD
    (repeat ((try (conv => whnf)); (first | (with_reducible refine condP_true ?_) | (with_reducible refine condP_false ?_) | (with_reducible refine condP_not ?_) | (with_reducible refine condP_and ?_) | ((with_reducible refine condP_dt ?_ ?_); (· omega)) | ((with_reducible refine condP_df ?_ ?_); (· omega)) | ((with_reducible refine condP_yes ?_ ?_); (· assumption)) | ((with_reducible refine condP_no ?_ ?_); (· assumption)) | ((with_reducible refine ArP_i64 ?_ ?_); (· omega)) | ((with_reducible refine mustP.mk ?_ ?_); (· first | omega | rfl | (dsimp only; omega))) | (with_reducible refine EqP_nil tab_ok ?_) | (with_reducible refine EqP_sli tab_ok ?_) | (with_reducible refine DrawP_auto tab_ok (by kernel_rfl) (by decide +kernel) ?_) | (with_reducible refine DrawP_auto2 tab_ok (by kernel_rfl) (by decide +kernel) ?_) | (with_reducible refine eq28 ?_) | (with_reducible refine eq33 ?_) | (with_reducible refine eq95 ?_) | (with_reducible refine eq115 ?_) | (with_reducible refine CallP_gives (fun vs w => by kernel_rfl) (by kernel_rfl) (regions_gives _) ?_) | (with_reducible refine RCallP_gives (fun vs w => by kernel_rfl) (by kernel_rfl) (regions_gives _) ?_) | (with_reducible refine CallP_gives (fun vs w => by kernel_rfl) (by kernel_rfl) (hD) ?_) | (with_reducible refine RCallP_gives (fun vs w => by kernel_rfl) (by kernel_rfl) (hD) ?_) | (with_reducible refine CallP_enter tab_ok Try.func13 (fun vs w => by kernel_rfl) (by rfl) ?_))))
    refine RangeP_enter tab_ok Try.func27 (fun vs w => by kernel_rfl) ?_
    conv => whnf
    intro j G' B0 hB0 hps hca hbd hle
    have hA' := hA.mono hle
    have hC := Check_gives hA' hc hm
    rw [he] at hC
    (repeat ((try (conv => whnf)); (first | (with_reducible refine condP_true ?_) | (with_reducible refine condP_false ?_) | (with_reducible refine condP_not ?_) | (with_reducible refine condP_and ?_) | ((with_reducible refine condP_dt ?_ ?_); (· omega)) | ((with_reducible refine condP_df ?_ ?_); (· omega)) | ((with_reducible refine condP_yes ?_ ?_); (· assumption)) | ((with_reducible refine condP_no ?_ ?_); (· assumption)) | ((with_reducible refine ArP_i64 ?_ ?_); (· omega)) | ((with_reducible refine mustP.mk ?_ ?_); (· first | omega | rfl | (dsimp only; omega))) | (with_reducible refine EqP_nil tab_ok ?_) | (with_reducible refine EqP_sli tab_ok ?_) | (with_reducible refine DrawP_auto tab_ok (by kernel_rfl) (by decide +kernel) ?_) | (with_reducible refine DrawP_auto2 tab_ok (by kernel_rfl) (by decide +kernel) ?_) | (with_reducible refine eq28 ?_) | (with_reducible refine eq33 ?_) | (with_reducible refine eq95 ?_) | (with_reducible refine eq115 ?_) | (with_reducible refine CallP_gives (fun vs w => by kernel_rfl) (by kernel_rfl) (hC) ?_) | (with_reducible refine RCallP_gives (fun vs w => by kernel_rfl) (by kernel_rfl) (hC) ?_))))
    conv => whnf
    refine LoopP_at tab_ok (fun i => i ≤ L.length ∧ (∀ r q, 0 < i → L[i - 1]? = some r → L[i]? = some q → r.y < q.y)) (fun (i : Nat) => [(3, .val (.int .i64 i))]) (fun i => HH A L c B0 i) (fun i => L.length - i) 0 ⟨Nat.zero_le _, fun r q h => by omega⟩ ?_ ?_
    · refine Le_head ?_
      conv => whnf
      rw [hB0]
      refine Le_own 28 3 ?_
      conv => whnf
      refine Le_mk (by rfl) (by rfl) (by (repeat (first | (with_reducible exact frLe_nil) | (with_reducible refine frLe_any ?_) | (with_reducible refine frLe_val ?_) | ((with_reducible refine frLe_eq rfl ?_ ?_); (· rfl)) | ((with_reducible refine frLe_val' (int_eq ?_) ?_ ?_); (· omega); (· rfl)) | ((with_reducible refine frLe_val' (int_eq ?_) ?_ ?_); (· simp only [Int.natCast_add, Int.natCast_one, Int.natCast_ofNat] <;> omega); (· rfl)) | ((with_reducible refine frLe_val' (bool_eq ?_) ?_ ?_); (· first | assumption | (symm; assumption)); (· rfl))))) ?_
      exact HH_le rfl (by kernel_rfl) (by simp [lastY]) rfl (by simp [flatR])
    · rintro i ⟨hi, hlast⟩
      rcases Nat.lt_or_ge i L.length with h1 | h1
      · obtain ⟨r, hr⟩ : ∃ r, L[i]? = some r := ⟨L[i], List.getElem?_eq_getElem h1⟩
        obtain ⟨p, rfl, q0, _⟩ := hA'.at_ hr
        obtain ⟨K, hK⟩ := row_at v hr
        have k1 := hK.lt
        have k2 := hK.le
        (repeat ((try (conv => whnf)); (first | (with_reducible refine condP_true ?_) | (with_reducible refine condP_false ?_) | (with_reducible refine condP_not ?_) | (with_reducible refine condP_and ?_) | ((with_reducible refine condP_dt ?_ ?_); (· omega)) | ((with_reducible refine condP_df ?_ ?_); (· omega)) | ((with_reducible refine condP_yes ?_ ?_); (· assumption)) | ((with_reducible refine condP_no ?_ ?_); (· assumption)) | ((with_reducible refine ArP_i64 ?_ ?_); (· omega)) | ((with_reducible refine mustP.mk ?_ ?_); (· first | omega | rfl | (dsimp only; omega))) | (with_reducible refine EqP_nil tab_ok ?_) | (with_reducible refine EqP_sli tab_ok ?_) | (with_reducible refine DrawP_auto tab_ok (by kernel_rfl) (by decide +kernel) ?_) | (with_reducible refine DrawP_auto2 tab_ok (by kernel_rfl) (by decide +kernel) ?_) | (with_reducible refine eq28 ?_) | (with_reducible refine eq33 ?_) | (with_reducible refine eq95 ?_) | (with_reducible refine eq115 ?_))))
        conv => whnf
        refine LoopP_at tab_ok (fun t => i ≤ t ∧ t ≤ K) (fun (t : Nat) => [(4, .val (.int .i64 t))]) (fun t => HH (some p) L c B0 i) (fun t => K - t) i ⟨Nat.le_refl _, by omega⟩ ?_ ?_
        · ((refine Le_head ?_); (conv => whnf); (refine Le_mk (by rfl) (by rfl) ?_ ?_); (· (repeat (first | (with_reducible exact frLe_nil) | (with_reducible refine frLe_any ?_) | (with_reducible refine frLe_val ?_) | ((with_reducible refine frLe_eq rfl ?_ ?_); (· rfl)) | ((with_reducible refine frLe_val' (int_eq ?_) ?_ ?_); (· omega); (· rfl)) | ((with_reducible refine frLe_val' (int_eq ?_) ?_ ?_); (· simp only [Int.natCast_add, Int.natCast_one, Int.natCast_ofNat] <;> omega); (· rfl)) | ((with_reducible refine frLe_val' (bool_eq ?_) ?_ ?_); (· first | assumption | (symm; assumption)); (· rfl))))))
          exact HH_le hB0 (by kernel_rfl) rfl rfl rfl
        · rintro t ⟨ht, htK⟩
          rcases Nat.lt_or_ge t K with h2 | h2
          · obtain ⟨u, hu⟩ : ∃ u, L[t]? = some u := ⟨L[t]'(by omega), List.getElem?_eq_getElem (by omega)⟩
            obtain ⟨p', hp', u0, _⟩ := hA'.at_ hu
            obtain rfl := Option.some.inj hp'
            have hy := hK.same t u ht h2 hu
            rw [hy] at u0
            (repeat ((try (conv => whnf)); (first | (refine OldCells_one _ u0 ?_) | (refine OldCells_one _ q0 ?_) | (with_reducible refine condP_true ?_) | (with_reducible refine condP_false ?_) | (with_reducible refine condP_not ?_) | (with_reducible refine condP_and ?_) | ((with_reducible refine condP_dt ?_ ?_); (· omega)) | ((with_reducible refine condP_df ?_ ?_); (· omega)) | ((with_reducible refine condP_yes ?_ ?_); (· assumption)) | ((with_reducible refine condP_no ?_ ?_); (· assumption)) | ((with_reducible refine ArP_i64 ?_ ?_); (· omega)) | ((with_reducible refine mustP.mk ?_ ?_); (· first | omega | rfl | (dsimp only; omega))) | (with_reducible refine EqP_nil tab_ok ?_) | (with_reducible refine EqP_sli tab_ok ?_) | (with_reducible refine DrawP_auto tab_ok (by kernel_rfl) (by decide +kernel) ?_) | (with_reducible refine DrawP_auto2 tab_ok (by kernel_rfl) (by decide +kernel) ?_) | (with_reducible refine eq28 ?_) | (with_reducible refine eq33 ?_) | (with_reducible refine eq95 ?_) | (with_reducible refine eq115 ?_))))
            refine ⟨t + 1, ⟨by omega, by omega⟩, by omega, ?_⟩
            ((refine Le_head ?_); (conv => whnf); (refine Le_mk (by rfl) (by rfl) ?_ ?_); (· (repeat (first | (with_reducible exact frLe_nil) | (with_reducible refine frLe_any ?_) | (with_reducible refine frLe_val ?_) | ((with_reducible refine frLe_eq rfl ?_ ?_); (· rfl)) | ((with_reducible refine frLe_val' (int_eq ?_) ?_ ?_); (· omega); (· rfl)) | ((with_reducible refine frLe_val' (int_eq ?_) ?_ ?_); (· simp only [Int.natCast_add, Int.natCast_one, Int.natCast_ofNat] <;> omega); (· rfl)) | ((with_reducible refine frLe_val' (bool_eq ?_) ?_ ?_); (· first | assumption | (symm; assumption)); (· rfl))))))
            exact HH_le hB0 (by kernel_rfl) rfl rfl rfl
          · obtain rfl : t = K := by omega
            have hne : c ≠ i := by omega
            have hlen : ((L.drop i).take (t - i)).length = t - i := by rw [List.length_take, List.length_drop]; omega
            have mk : Makes Try.prog 28 [.val (.slice (if c = (i : Int).toNat then some p else Option.map (fun x => x.add ((i : Int).toNat * 3)) (some p)) ((t : Int).toNat - (i : Int).toNat) (c - (i : Int).toNat))] G' id 28 3 (t - i) (flatR ((L.drop i).take (t - i))) := by
              have h := CloneR_makes (c := c - i) (runs_sub hA' i (t - i)) (by rw [hlen]; omega)
              rw [hlen] at h
              simp only [Int.toNat_natCast, if_neg hne, Option.map_some]
              exact h
            have hl0 : lastY L i < r.y := by
              have hb := v.bd (List.mem_of_getElem? hr)
              by_cases hi0 : i = 0
              · simp only [lastY, if_pos hi0]; omega
              · obtain ⟨q, hq⟩ : ∃ q, L[i - 1]? = some q := ⟨L[i - 1]'(by omega), List.getElem?_eq_getElem (by omega)⟩
                have := hlast q r (by omega) hq hr
                simp only [lastY, if_neg hi0, nthR_get hq]; exact this
            rcases Nat.lt_or_ge t L.length with h3 | h3
            · obtain ⟨u, hu⟩ : ∃ u, L[t]? = some u := ⟨L[t]'(by omega), List.getElem?_eq_getElem (by omega)⟩
              obtain ⟨p', hp', u0, _⟩ := hA'.at_ hu
              obtain rfl := Option.some.inj hp'
              have hy := hK.next u hu
              (repeat ((try (conv => whnf)); (first | (refine OldCells_one _ u0 ?_) | (refine OldCells_one _ q0 ?_) | (with_reducible refine DrawP_mk tab_ok (by kernel_rfl) 11 [] (by decide +kernel) ?_) | (refine RCallP_makes (fun vs w => by kernel_rfl) (.alone fun _ => rfl) (by kernel_rfl) mk ?_) | (with_reducible refine condP_true ?_) | (with_reducible refine condP_false ?_) | (with_reducible refine condP_not ?_) | (with_reducible refine condP_and ?_) | ((with_reducible refine condP_dt ?_ ?_); (· omega)) | ((with_reducible refine condP_df ?_ ?_); (· omega)) | ((with_reducible refine condP_yes ?_ ?_); (· assumption)) | ((with_reducible refine condP_no ?_ ?_); (· assumption)) | ((with_reducible refine ArP_i64 ?_ ?_); (· omega)) | ((with_reducible refine mustP.mk ?_ ?_); (· first | omega | rfl | (dsimp only; omega))) | (with_reducible refine EqP_nil tab_ok ?_) | (with_reducible refine EqP_sli tab_ok ?_) | (with_reducible refine DrawP_auto tab_ok (by kernel_rfl) (by decide +kernel) ?_) | (with_reducible refine DrawP_auto2 tab_ok (by kernel_rfl) (by decide +kernel) ?_) | (with_reducible refine eq28 ?_) | (with_reducible refine eq33 ?_) | (with_reducible refine eq95 ?_) | (with_reducible refine eq115 ?_))))
              refine YieldP_round (n := 8) tab_ok rfl hB0 hps hca hbd (by kernel_rfl) (by kernel_rfl) (by kernel_rfl) (by kernel_rfl) (by rfl) ?_
              (repeat ((try (conv => whnf)); (first | (with_reducible refine condP_true ?_) | (with_reducible refine condP_false ?_) | (with_reducible refine condP_not ?_) | (with_reducible refine condP_and ?_) | ((with_reducible refine condP_dt ?_ ?_); (· omega)) | ((with_reducible refine condP_df ?_ ?_); (· omega)) | ((with_reducible refine condP_yes ?_ ?_); (· assumption)) | ((with_reducible refine condP_no ?_ ?_); (· assumption)) | ((with_reducible refine ArP_i64 ?_ ?_); (· omega)) | ((with_reducible refine mustP.mk ?_ ?_); (· first | omega | rfl | (dsimp only; omega))) | (with_reducible refine EqP_nil tab_ok ?_) | (with_reducible refine EqP_sli tab_ok ?_) | (with_reducible refine DrawP_auto tab_ok (by kernel_rfl) (by decide +kernel) ?_) | (with_reducible refine DrawP_auto2 tab_ok (by kernel_rfl) (by decide +kernel) ?_) | (with_reducible refine eq28 ?_) | (with_reducible refine eq33 ?_) | (with_reducible refine eq95 ?_) | (with_reducible refine eq115 ?_))))
              intro B1 hB1
              (repeat ((try (conv => whnf)); (first | (with_reducible refine condP_true ?_) | (with_reducible refine condP_false ?_) | (with_reducible refine condP_not ?_) | (with_reducible refine condP_and ?_) | ((with_reducible refine condP_dt ?_ ?_); (· omega)) | ((with_reducible refine condP_df ?_ ?_); (· omega)) | ((with_reducible refine condP_yes ?_ ?_); (· assumption)) | ((with_reducible refine condP_no ?_ ?_); (· assumption)) | ((with_reducible refine ArP_i64 ?_ ?_); (· omega)) | ((with_reducible refine mustP.mk ?_ ?_); (· first | omega | rfl | (dsimp only; omega))) | (with_reducible refine EqP_nil tab_ok ?_) | (with_reducible refine EqP_sli tab_ok ?_) | (with_reducible refine DrawP_auto tab_ok (by kernel_rfl) (by decide +kernel) ?_) | (with_reducible refine DrawP_auto2 tab_ok (by kernel_rfl) (by decide +kernel) ?_) | (with_reducible refine eq28 ?_) | (with_reducible refine eq33 ?_) | (with_reducible refine eq95 ?_) | (with_reducible refine eq115 ?_))))
              conv => whnf
              refine LoopP_at tab_ok (fun x => x ≤ t - i) (fun (x : Nat) => [(33, .val (.int .i64 x))]) (fun x => HR (some p) L c B1 i (t - i) r.y) (fun x => t - i - x) 0 (Nat.zero_le _) ?_ ?_
              · ((refine Le_head ?_); (conv => whnf); (refine Le_mk (by rfl) (by rfl) ?_ ?_); (· (repeat (first | (with_reducible exact frLe_nil) | (with_reducible refine frLe_any ?_) | (with_reducible refine frLe_val ?_) | ((with_reducible refine frLe_eq rfl ?_ ?_); (· rfl)) | ((with_reducible refine frLe_val' (int_eq ?_) ?_ ?_); (· omega); (· rfl)) | ((with_reducible refine frLe_val' (int_eq ?_) ?_ ?_); (· simp only [Int.natCast_add, Int.natCast_one, Int.natCast_ofNat] <;> omega); (· rfl)) | ((with_reducible refine frLe_val' (bool_eq ?_) ?_ ?_); (· first | assumption | (symm; assumption)); (· rfl))))))
                exact HR_le hB1 (by kernel_rfl)
              · rintro x hx
                rcases Nat.lt_or_ge x (t - i) with h4 | h4
                · have e0 := sub_y hK (i := i) (x := x) h4
                  (repeat ((try (conv => whnf)); (first | (refine OwnCells_one _ e0 ?_) | (with_reducible refine condP_true ?_) | (with_reducible refine condP_false ?_) | (with_reducible refine condP_not ?_) | (with_reducible refine condP_and ?_) | ((with_reducible refine condP_dt ?_ ?_); (· omega)) | ((with_reducible refine condP_df ?_ ?_); (· omega)) | ((with_reducible refine condP_yes ?_ ?_); (· assumption)) | ((with_reducible refine condP_no ?_ ?_); (· assumption)) | ((with_reducible refine ArP_i64 ?_ ?_); (· omega)) | ((with_reducible refine mustP.mk ?_ ?_); (· first | omega | rfl | (dsimp only; omega))) | (with_reducible refine EqP_nil tab_ok ?_) | (with_reducible refine EqP_sli tab_ok ?_) | (with_reducible refine DrawP_auto tab_ok (by kernel_rfl) (by decide +kernel) ?_) | (with_reducible refine DrawP_auto2 tab_ok (by kernel_rfl) (by decide +kernel) ?_) | (with_reducible refine eq28 ?_) | (with_reducible refine eq33 ?_) | (with_reducible refine eq95 ?_) | (with_reducible refine eq115 ?_))))
                  refine ⟨x + 1, by omega, by omega, ?_⟩
                  ((refine Le_head ?_); (conv => whnf); (refine Le_mk (by rfl) (by rfl) ?_ ?_); (· (repeat (first | (with_reducible exact frLe_nil) | (with_reducible refine frLe_any ?_) | (with_reducible refine frLe_val ?_) | ((with_reducible refine frLe_eq rfl ?_ ?_); (· rfl)) | ((with_reducible refine frLe_val' (int_eq ?_) ?_ ?_); (· omega); (· rfl)) | ((with_reducible refine frLe_val' (int_eq ?_) ?_ ?_); (· simp only [Int.natCast_add, Int.natCast_one, Int.natCast_ofNat] <;> omega); (· rfl)) | ((with_reducible refine frLe_val' (bool_eq ?_) ?_ ?_); (· first | assumption | (symm; assumption)); (· rfl))))))
                  exact HR_le hB1 (by kernel_rfl)
                · obtain rfl : x = t - i := by omega
                  (repeat ((try (conv => whnf)); (first | (refine mustP.mk ⟨by omega, flatR_cell⟩ ?_) | (with_reducible refine condP_true ?_) | (with_reducible refine condP_false ?_) | (with_reducible refine condP_not ?_) | (with_reducible refine condP_and ?_) | ((with_reducible refine condP_dt ?_ ?_); (· omega)) | ((with_reducible refine condP_df ?_ ?_); (· omega)) | ((with_reducible refine condP_yes ?_ ?_); (· assumption)) | ((with_reducible refine condP_no ?_ ?_); (· assumption)) | ((with_reducible refine ArP_i64 ?_ ?_); (· omega)) | ((with_reducible refine mustP.mk ?_ ?_); (· first | omega | rfl | (dsimp only; omega))) | (with_reducible refine EqP_nil tab_ok ?_) | (with_reducible refine EqP_sli tab_ok ?_) | (with_reducible refine DrawP_auto tab_ok (by kernel_rfl) (by decide +kernel) ?_) | (with_reducible refine DrawP_auto2 tab_ok (by kernel_rfl) (by decide +kernel) ?_) | (with_reducible refine eq28 ?_) | (with_reducible refine eq33 ?_) | (with_reducible refine eq95 ?_) | (with_reducible refine eq115 ?_))))
                  refine ⟨t, ⟨by omega, fun q u h5 hq hu => hK.edge hq hu⟩, by omega, ?_⟩
                  refine Le_head ?_
                  conv => whnf
                  rw [hB0]
                  refine Le_move 8 6 (by rfl) (by rfl) (by rfl) (by rfl) ?_
                  conv => whnf
                  refine Le_mk (by rfl) (by rfl) (by (repeat (first | (with_reducible exact frLe_nil) | (with_reducible refine frLe_any ?_) | (with_reducible refine frLe_val ?_) | ((with_reducible refine frLe_eq rfl ?_ ?_); (· rfl)) | ((with_reducible refine frLe_val' (int_eq ?_) ?_ ?_); (· omega); (· rfl)) | ((with_reducible refine frLe_val' (int_eq ?_) ?_ ?_); (· simp only [Int.natCast_add, Int.natCast_one, Int.natCast_ofNat] <;> omega); (· rfl)) | ((with_reducible refine frLe_val' (bool_eq ?_) ?_ ?_); (· first | assumption | (symm; assumption)); (· rfl))))) ?_
                  exact HH_le rfl (by kernel_rfl) hK.lastY (by omega) (take_sub (by omega)).symm
            · (repeat ((try (conv => whnf)); (first | (refine OldCells_one _ q0 ?_) | (with_reducible refine DrawP_mk tab_ok (by kernel_rfl) 11 [] (by decide +kernel) ?_) | (refine RCallP_makes (fun vs w => by kernel_rfl) (.alone fun _ => rfl) (by kernel_rfl) mk ?_) | (with_reducible refine condP_true ?_) | (with_reducible refine condP_false ?_) | (with_reducible refine condP_not ?_) | (with_reducible refine condP_and ?_) | ((with_reducible refine condP_dt ?_ ?_); (· omega)) | ((with_reducible refine condP_df ?_ ?_); (· omega)) | ((with_reducible refine condP_yes ?_ ?_); (· assumption)) | ((with_reducible refine condP_no ?_ ?_); (· assumption)) | ((with_reducible refine ArP_i64 ?_ ?_); (· omega)) | ((with_reducible refine mustP.mk ?_ ?_); (· first | omega | rfl | (dsimp only; omega))) | (with_reducible refine EqP_nil tab_ok ?_) | (with_reducible refine EqP_sli tab_ok ?_) | (with_reducible refine DrawP_auto tab_ok (by kernel_rfl) (by decide +kernel) ?_) | (with_reducible refine DrawP_auto2 tab_ok (by kernel_rfl) (by decide +kernel) ?_) | (with_reducible refine eq28 ?_) | (with_reducible refine eq33 ?_) | (with_reducible refine eq95 ?_) | (with_reducible refine eq115 ?_))))
              refine YieldP_round (n := 8) tab_ok rfl hB0 hps hca hbd (by kernel_rfl) (by kernel_rfl) (by kernel_rfl) (by kernel_rfl) (by rfl) ?_
              (repeat ((try (conv => whnf)); (first | (with_reducible refine condP_true ?_) | (with_reducible refine condP_false ?_) | (with_reducible refine condP_not ?_) | (with_reducible refine condP_and ?_) | ((with_reducible refine condP_dt ?_ ?_); (· omega)) | ((with_reducible refine condP_df ?_ ?_); (· omega)) | ((with_reducible refine condP_yes ?_ ?_); (· assumption)) | ((with_reducible refine condP_no ?_ ?_); (· assumption)) | ((with_reducible refine ArP_i64 ?_ ?_); (· omega)) | ((with_reducible refine mustP.mk ?_ ?_); (· first | omega | rfl | (dsimp only; omega))) | (with_reducible refine EqP_nil tab_ok ?_) | (with_reducible refine EqP_sli tab_ok ?_) | (with_reducible refine DrawP_auto tab_ok (by kernel_rfl) (by decide +kernel) ?_) | (with_reducible refine DrawP_auto2 tab_ok (by kernel_rfl) (by decide +kernel) ?_) | (with_reducible refine eq28 ?_) | (with_reducible refine eq33 ?_) | (with_reducible refine eq95 ?_) | (with_reducible refine eq115 ?_))))
              intro B1 hB1
              (repeat ((try (conv => whnf)); (first | (with_reducible refine condP_true ?_) | (with_reducible refine condP_false ?_) | (with_reducible refine condP_not ?_) | (with_reducible refine condP_and ?_) | ((with_reducible refine condP_dt ?_ ?_); (· omega)) | ((with_reducible refine condP_df ?_ ?_); (· omega)) | ((with_reducible refine condP_yes ?_ ?_); (· assumption)) | ((with_reducible refine condP_no ?_ ?_); (· assumption)) | ((with_reducible refine ArP_i64 ?_ ?_); (· omega)) | ((with_reducible refine mustP.mk ?_ ?_); (· first | omega | rfl | (dsimp only; omega))) | (with_reducible refine EqP_nil tab_ok ?_) | (with_reducible refine EqP_sli tab_ok ?_) | (with_reducible refine DrawP_auto tab_ok (by kernel_rfl) (by decide +kernel) ?_) | (with_reducible refine DrawP_auto2 tab_ok (by kernel_rfl) (by decide +kernel) ?_) | (with_reducible refine eq28 ?_) | (with_reducible refine eq33 ?_) | (with_reducible refine eq95 ?_) | (with_reducible refine eq115 ?_))))
              conv => whnf
              refine LoopP_at tab_ok (fun x => x ≤ t - i) (fun (x : Nat) => [(33, .val (.int .i64 x))]) (fun x => HR (some p) L c B1 i (t - i) r.y) (fun x => t - i - x) 0 (Nat.zero_le _) ?_ ?_
              · ((refine Le_head ?_); (conv => whnf); (refine Le_mk (by rfl) (by rfl) ?_ ?_); (· (repeat (first | (with_reducible exact frLe_nil) | (with_reducible refine frLe_any ?_) | (with_reducible refine frLe_val ?_) | ((with_reducible refine frLe_eq rfl ?_ ?_); (· rfl)) | ((with_reducible refine frLe_val' (int_eq ?_) ?_ ?_); (· omega); (· rfl)) | ((with_reducible refine frLe_val' (int_eq ?_) ?_ ?_); (· simp only [Int.natCast_add, Int.natCast_one, Int.natCast_ofNat] <;> omega); (· rfl)) | ((with_reducible refine frLe_val' (bool_eq ?_) ?_ ?_); (· first | assumption | (symm; assumption)); (· rfl))))))
                exact HR_le hB1 (by kernel_rfl)
              · rintro x hx
                rcases Nat.lt_or_ge x (t - i) with h4 | h4
                · have e0 := sub_y hK (i := i) (x := x) h4
                  (repeat ((try (conv => whnf)); (first | (refine OwnCells_one _ e0 ?_) | (with_reducible refine condP_true ?_) | (with_reducible refine condP_false ?_) | (with_reducible refine condP_not ?_) | (with_reducible refine condP_and ?_) | ((with_reducible refine condP_dt ?_ ?_); (· omega)) | ((with_reducible refine condP_df ?_ ?_); (· omega)) | ((with_reducible refine condP_yes ?_ ?_); (· assumption)) | ((with_reducible refine condP_no ?_ ?_); (· assumption)) | ((with_reducible refine ArP_i64 ?_ ?_); (· omega)) | ((with_reducible refine mustP.mk ?_ ?_); (· first | omega | rfl | (dsimp only; omega))) | (with_reducible refine EqP_nil tab_ok ?_) | (with_reducible refine EqP_sli tab_ok ?_) | (with_reducible refine DrawP_auto tab_ok (by kernel_rfl) (by decide +kernel) ?_) | (with_reducible refine DrawP_auto2 tab_ok (by kernel_rfl) (by decide +kernel) ?_) | (with_reducible refine eq28 ?_) | (with_reducible refine eq33 ?_) | (with_reducible refine eq95 ?_) | (with_reducible refine eq115 ?_))))
                  refine ⟨x + 1, by omega, by omega, ?_⟩
                  ((refine Le_head ?_); (conv => whnf); (refine Le_mk (by rfl) (by rfl) ?_ ?_); (· (repeat (first | (with_reducible exact frLe_nil) | (with_reducible refine frLe_any ?_) | (with_reducible refine frLe_val ?_) | ((with_reducible refine frLe_eq rfl ?_ ?_); (· rfl)) | ((with_reducible refine frLe_val' (int_eq ?_) ?_ ?_); (· omega); (· rfl)) | ((with_reducible refine frLe_val' (int_eq ?_) ?_ ?_); (· simp only [Int.natCast_add, Int.natCast_one, Int.natCast_ofNat] <;> omega); (· rfl)) | ((with_reducible refine frLe_val' (bool_eq ?_) ?_ ?_); (· first | assumption | (symm; assumption)); (· rfl))))))
                  exact HR_le hB1 (by kernel_rfl)
                · obtain rfl : x = t - i := by omega
                  (repeat ((try (conv => whnf)); (first | (refine mustP.mk ⟨by omega, flatR_cell⟩ ?_) | (with_reducible refine condP_true ?_) | (with_reducible refine condP_false ?_) | (with_reducible refine condP_not ?_) | (with_reducible refine condP_and ?_) | ((with_reducible refine condP_dt ?_ ?_); (· omega)) | ((with_reducible refine condP_df ?_ ?_); (· omega)) | ((with_reducible refine condP_yes ?_ ?_); (· assumption)) | ((with_reducible refine condP_no ?_ ?_); (· assumption)) | ((with_reducible refine ArP_i64 ?_ ?_); (· omega)) | ((with_reducible refine mustP.mk ?_ ?_); (· first | omega | rfl | (dsimp only; omega))) | (with_reducible refine EqP_nil tab_ok ?_) | (with_reducible refine EqP_sli tab_ok ?_) | (with_reducible refine DrawP_auto tab_ok (by kernel_rfl) (by decide +kernel) ?_) | (with_reducible refine DrawP_auto2 tab_ok (by kernel_rfl) (by decide +kernel) ?_) | (with_reducible refine eq28 ?_) | (with_reducible refine eq33 ?_) | (with_reducible refine eq95 ?_) | (with_reducible refine eq115 ?_))))
                  refine ⟨t, ⟨by omega, fun q u h5 hq hu => hK.edge hq hu⟩, by omega, ?_⟩
                  refine Le_head ?_
                  conv => whnf
                  rw [hB0]
                  refine Le_move 8 6 (by rfl) (by rfl) (by rfl) (by rfl) ?_
                  conv => whnf
                  refine Le_mk (by rfl) (by rfl) (by (repeat (first | (with_reducible exact frLe_nil) | (with_reducible refine frLe_any ?_) | (with_reducible refine frLe_val ?_) | ((with_reducible refine frLe_eq rfl ?_ ?_); (· rfl)) | ((with_reducible refine frLe_val' (int_eq ?_) ?_ ?_); (· omega); (· rfl)) | ((with_reducible refine frLe_val' (int_eq ?_) ?_ ?_); (· simp only [Int.natCast_add, Int.natCast_one, Int.natCast_ofNat] <;> omega); (· rfl)) | ((with_reducible refine frLe_val' (bool_eq ?_) ?_ ?_); (· first | assumption | (symm; assumption)); (· rfl))))) ?_
                  exact HH_le rfl (by kernel_rfl) hK.lastY (by omega) (take_sub (by omega)).symm
      · obtain rfl : i = L.length := by omega
        (repeat ((try (conv => whnf)); (first | (with_reducible refine condP_true ?_) | (with_reducible refine condP_false ?_) | (with_reducible refine condP_not ?_) | (with_reducible refine condP_and ?_) | ((with_reducible refine condP_dt ?_ ?_); (· omega)) | ((with_reducible refine condP_df ?_ ?_); (· omega)) | ((with_reducible refine condP_yes ?_ ?_); (· assumption)) | ((with_reducible refine condP_no ?_ ?_); (· assumption)) | ((with_reducible refine ArP_i64 ?_ ?_); (· omega)) | ((with_reducible refine mustP.mk ?_ ?_); (· first | omega | rfl | (dsimp only; omega))) | (with_reducible refine EqP_nil tab_ok ?_) | (with_reducible refine EqP_sli tab_ok ?_) | (with_reducible refine DrawP_auto tab_ok (by kernel_rfl) (by decide +kernel) ?_) | (with_reducible refine DrawP_auto2 tab_ok (by kernel_rfl) (by decide +kernel) ?_) | (with_reducible refine eq28 ?_) | (with_reducible refine eq33 ?_) | (with_reducible refine eq95 ?_) | (with_reducible refine eq115 ?_))))
        intro G3 hG3 hcl
        refine RangeEnd.all rfl ?_
        (repeat ((try (conv => whnf)); (first | (with_reducible refine condP_true ?_) | (with_reducible refine condP_false ?_) | (with_reducible refine condP_not ?_) | (with_reducible refine condP_and ?_) | ((with_reducible refine condP_dt ?_ ?_); (· omega)) | ((with_reducible refine condP_df ?_ ?_); (· omega)) | ((with_reducible refine condP_yes ?_ ?_); (· assumption)) | ((with_reducible refine condP_no ?_ ?_); (· assumption)) | ((with_reducible refine ArP_i64 ?_ ?_); (· omega)) | ((with_reducible refine mustP.mk ?_ ?_); (· first | omega | rfl | (dsimp only; omega))) | (with_reducible refine EqP_nil tab_ok ?_) | (with_reducible refine EqP_sli tab_ok ?_) | (with_reducible refine DrawP_auto tab_ok (by kernel_rfl) (by decide +kernel) ?_) | (with_reducible refine DrawP_auto2 tab_ok (by kernel_rfl) (by decide +kernel) ?_) | (with_reducible refine eq28 ?_) | (with_reducible refine eq33 ?_) | (with_reducible refine eq95 ?_) | (with_reducible refine eq115 ?_))))
        conv => whnf
        refine CallP_arg (fun vs w => by kernel_rfl) (by rfl) (by kernel_rfl) fun A2 c2 G4 hG4 hc2 hm2 hx2 => ?_
        have hR := runs_row hx2
        rw [List.take_length] at hR
        have gs := SameRuns_gives A2 A L c2 c G4 hR ((hA.mono hG3).mono hG4) (by omega)
        (repeat ((try (conv => whnf)); (first | (with_reducible refine condP_true ?_) | (with_reducible refine condP_false ?_) | (with_reducible refine condP_not ?_) | (with_reducible refine condP_and ?_) | ((with_reducible refine condP_dt ?_ ?_); (· omega)) | ((with_reducible refine condP_df ?_ ?_); (· omega)) | ((with_reducible refine condP_yes ?_ ?_); (· assumption)) | ((with_reducible refine condP_no ?_ ?_); (· assumption)) | ((with_reducible refine ArP_i64 ?_ ?_); (· omega)) | ((with_reducible refine mustP.mk ?_ ?_); (· first | omega | rfl | (dsimp only; omega))) | (with_reducible refine EqP_nil tab_ok ?_) | (with_reducible refine EqP_sli tab_ok ?_) | (with_reducible refine DrawP_auto tab_ok (by kernel_rfl) (by decide +kernel) ?_) | (with_reducible refine DrawP_auto2 tab_ok (by kernel_rfl) (by decide +kernel) ?_) | (with_reducible refine eq28 ?_) | (with_reducible refine eq33 ?_) | (with_reducible refine eq95 ?_) | (with_reducible refine eq115 ?_) | (with_reducible refine CallP_gives (fun vs w => by kernel_rfl) (by kernel_rfl) (gs) ?_) | (with_reducible refine RCallP_gives (fun vs w => by kernel_rfl) (by kernel_rfl) (gs) ?_))))
        conv => whnf
        try simp
  · have hC := fun {G' : Mem} (h : G.le G') => Check_gives (hA.mono h) hc hm
    generalize errL L = er at *
    (repeat ((try (conv => whnf)); (first | (with_reducible refine condP_true ?_) | (with_reducible refine condP_false ?_) | (with_reducible refine condP_not ?_) | (with_reducible refine condP_and ?_) | ((with_reducible refine condP_dt ?_ ?_); (· omega)) | ((with_reducible refine condP_df ?_ ?_); (· omega)) | ((with_reducible refine condP_yes ?_ ?_); (· assumption)) | ((with_reducible refine condP_no ?_ ?_); (· assumption)) | ((with_reducible refine ArP_i64 ?_ ?_); (· omega)) | ((with_reducible refine mustP.mk ?_ ?_); (· first | omega | rfl | (dsimp only; omega))) | (with_reducible refine EqP_nil tab_ok ?_) | (with_reducible refine EqP_sli tab_ok ?_) | (with_reducible refine DrawP_auto tab_ok (by kernel_rfl) (by decide +kernel) ?_) | (with_reducible refine DrawP_auto2 tab_ok (by kernel_rfl) (by decide +kernel) ?_) | (with_reducible refine eq28 ?_) | (with_reducible refine eq33 ?_) | (with_reducible refine eq95 ?_) | (with_reducible refine eq115 ?_) | (with_reducible refine CallP_gives (fun vs w => by kernel_rfl) (by kernel_rfl) (regions_gives _) ?_) | (with_reducible refine RCallP_gives (fun vs w => by kernel_rfl) (by kernel_rfl) (regions_gives _) ?_) | (with_reducible refine CallP_gives (fun vs w => by kernel_rfl) (by kernel_rfl) (hD) ?_) | (with_reducible refine RCallP_gives (fun vs w => by kernel_rfl) (by kernel_rfl) (hD) ?_) | (with_reducible refine CallP_enter tab_ok Try.func13 (fun vs w => by kernel_rfl) (by rfl) ?_))))
    refine RangeP_enter tab_ok Try.func27 (fun vs w => by kernel_rfl) ?_
    conv => whnf
    intro j G' B0 hB0 hps hca hbd hle
    have hC' := hC hle
    (repeat ((try (conv => whnf)); (first | (with_reducible refine condP_true ?_) | (with_reducible refine condP_false ?_) | (with_reducible refine condP_not ?_) | (with_reducible refine condP_and ?_) | ((with_reducible refine condP_dt ?_ ?_); (· omega)) | ((with_reducible refine condP_df ?_ ?_); (· omega)) | ((with_reducible refine condP_yes ?_ ?_); (· assumption)) | ((with_reducible refine condP_no ?_ ?_); (· assumption)) | ((with_reducible refine ArP_i64 ?_ ?_); (· omega)) | ((with_reducible refine mustP.mk ?_ ?_); (· first | omega | rfl | (dsimp only; omega))) | (with_reducible refine EqP_nil tab_ok ?_) | (with_reducible refine EqP_sli tab_ok ?_) | (with_reducible refine DrawP_auto tab_ok (by kernel_rfl) (by decide +kernel) ?_) | (with_reducible refine DrawP_auto2 tab_ok (by kernel_rfl) (by decide +kernel) ?_) | (with_reducible refine eq28 ?_) | (with_reducible refine eq33 ?_) | (with_reducible refine eq95 ?_) | (with_reducible refine eq115 ?_) | (with_reducible refine CallP_gives (fun vs w => by kernel_rfl) (by kernel_rfl) (hC') ?_) | (with_reducible refine RCallP_gives (fun vs w => by kernel_rfl) (by kernel_rfl) (hC') ?_))))
    intro G3 hG3 hcl
    refine RangeEnd.all rfl ?_
    (repeat ((try (conv => whnf)); (first | (with_reducible refine condP_true ?_) | (with_reducible refine condP_false ?_) | (with_reducible refine condP_not ?_) | (with_reducible refine condP_and ?_) | ((with_reducible refine condP_dt ?_ ?_); (· omega)) | ((with_reducible refine condP_df ?_ ?_); (· omega)) | ((with_reducible refine condP_yes ?_ ?_); (· assumption)) | ((with_reducible refine condP_no ?_ ?_); (· assumption)) | ((with_reducible refine ArP_i64 ?_ ?_); (· omega)) | ((with_reducible refine mustP.mk ?_ ?_); (· first | omega | rfl | (dsimp only; omega))) | (with_reducible refine EqP_nil tab_ok ?_) | (with_reducible refine EqP_sli tab_ok ?_) | (with_reducible refine DrawP_auto tab_ok (by kernel_rfl) (by decide +kernel) ?_) | (with_reducible refine DrawP_auto2 tab_ok (by kernel_rfl) (by decide +kernel) ?_) | (with_reducible refine eq28 ?_) | (with_reducible refine eq33 ?_) | (with_reducible refine eq95 ?_) | (with_reducible refine eq115 ?_))))
    first | done | trivial | (conv => whnf; simp [he])
theorem walk (A0 : Option Addr) (n0 : Nat) (cap0 : Nat) (rs0 : Nat → Run) (w : World) (c0 : n0 ≤ cap0) (m0 : cap0 ≤ maxLen) (w0 : RunsAt w A0 n0 rs0) :
    Calls Try.prog 4 #[.slice A0 n0 cap0] w fun e w' => e = .returned (.bool true) ∧ Below w.heap.size w w' := by
  have h := body w0.m (c := cap0) (by rw [runsL_length]; exact c0) m0
  rw [runsL_length] at h
  exact walk_of tab_ok Try.func4 (rels_map_val [.slice A0 n0 cap0]) h
end Go.Proofs.Ytmklpphdbmpbbaa.regionRowsInOrder
