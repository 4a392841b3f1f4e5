/-
  path.Reverse.
-/
import Derived.Test.YthbppimjaealnaaDoorSubC
import Derived.Test.YthbppimjaealnaaDoorRev
namespace Go.Proofs.YthbppimjaealnaaDoor
open Go.RowKit
set_option linter.unusedVariables false
set_option linter.unusedSimpArgs false
set_option maxRecDepth 20000
def pairR (e : Int) (a : AV) : AV := .tup [a, .val (.int .i64 e)]
theorem pairR_wraps (e : Int) : Wraps (pairR e) := .pair (.val (.int .i64 e)) (fun _ => rfl) rfl
theorem pathE_few {S : Nat → SegD} {n : Nat} (h : pathE S n = 0) : n ≤ 1000 := by
  unfold pathE at h
  split at h
  · omega
  · omega
section
variable {G : Mem} {A : Option Addr} {n c : Nat} {S : Nat → SegD}
theorem Reverse_err (h : SegsM G A n S) (hn : n ≤ maxLen) (ht : pathE S n ≠ 0) : Gives Tryd.prog 17 [.val (.slice A n c)] G (.tup [.val (.slice none 0 0), .val (.int .i64 (pathE S n))]) := by
  have gp := PCheck_gives (c := c) h hn
  refine Gives_of tab_ok Tryd.func17 ?_
  generalize pathE S n = E at *
  (repeat ((try (conv => whnf)); (first | (with_reducible refine condP_true ?_) | (with_reducible refine condP_false ?_) | (with_reducible refine condP_not ?_) | (with_reducible refine condP_and ?_) | ((with_reducible refine condP_dt ?_ ?_); (· omega)) | ((with_reducible refine condP_df ?_ ?_); (· omega)) | ((with_reducible refine condP_yes ?_ ?_); (· assumption)) | ((with_reducible refine condP_no ?_ ?_); (· assumption)) | ((with_reducible refine ArP_i64 ?_ ?_); (· omega)) | ((with_reducible refine mustP.mk ?_ ?_); (· first | omega | rfl | (dsimp only; omega))) | (with_reducible refine EqP_nil tab_ok ?_) | (with_reducible refine EqP_sli tab_ok ?_) | (with_reducible refine DrawP_auto tab_ok (by kernel_rfl) (by decide +kernel) ?_) | (with_reducible refine DrawP_auto2 tab_ok (by kernel_rfl) (by decide +kernel) ?_) | (with_reducible refine eq34 ?_) | (with_reducible refine eq36 ?_) | (with_reducible refine eq46 ?_) | (with_reducible refine CallP_gives (fun vs w => by kernel_rfl) (by kernel_rfl) (gp) ?_) | (with_reducible refine RCallP_gives (fun vs w => by kernel_rfl) (by kernel_rfl) (gp) ?_))))
  exact ⟨rfl, rfl⟩
set_option maxHeartbeats 8000000 in
theorem Reverse_makes (h : SegsM G A n S) (hcn : n ≤ c) (hm : c ≤ maxLen) (ht : pathE S n = 0) : Makes Tryd.prog 17 [.val (.slice A n c)] G (pairR 0) 36 6 n (flatC (revC S n) n) := by
  have gp := PCheck_gives (c := c) h (Nat.le_trans hcn hm)
  have hn := pathE_few ht
  have h0 := errS_first ht
  have mk := Subpaths_makes h hn hcn hm h0
  obtain ⟨ch, ct⟩ := rowL_chain (n := n) h0
  have hrl := rowL_len (S := S) n
  rw [ht] at gp
  refine Makes_of tab_ok Tryd.func17 (pairR_wraps 0) ?_
  (repeat ((try (conv => whnf)); (first | (with_reducible refine condP_true ?_) | (with_reducible refine condP_false ?_) | (with_reducible refine condP_not ?_) | (with_reducible refine condP_and ?_) | ((with_reducible refine condP_dt ?_ ?_); (· omega)) | ((with_reducible refine condP_df ?_ ?_); (· omega)) | ((with_reducible refine condP_yes ?_ ?_); (· assumption)) | ((with_reducible refine condP_no ?_ ?_); (· assumption)) | ((with_reducible refine ArP_i64 ?_ ?_); (· omega)) | ((with_reducible refine mustP.mk ?_ ?_); (· first | omega | rfl | (dsimp only; omega))) | (with_reducible refine EqP_nil tab_ok ?_) | (with_reducible refine EqP_sli tab_ok ?_) | (with_reducible refine DrawP_auto tab_ok (by kernel_rfl) (by decide +kernel) ?_) | (with_reducible refine DrawP_auto2 tab_ok (by kernel_rfl) (by decide +kernel) ?_) | (with_reducible refine eq34 ?_) | (with_reducible refine eq36 ?_) | (with_reducible refine eq46 ?_) | (with_reducible refine CallP_gives (fun vs w => by kernel_rfl) (by kernel_rfl) (gp) ?_) | (with_reducible refine RCallP_gives (fun vs w => by kernel_rfl) (by kernel_rfl) (gp) ?_))))
  conv => whnf
  refine CallP_freeze (fun vs w => by kernel_rfl) (.alone fun _ => rfl) (by kernel_rfl) mk fun A1 c1 G1 hG1 hc1 hm1 hx1 => ?_
  replace h := h.mono hG1
  generalize hR : rowL S n = R at *
  clear mk gp hR h0 ht
  (repeat ((try (conv => whnf)); (first | (with_reducible refine condP_true ?_) | (with_reducible refine condP_false ?_) | (with_reducible refine condP_not ?_) | (with_reducible refine condP_and ?_) | ((with_reducible refine condP_dt ?_ ?_); (· omega)) | ((with_reducible refine condP_df ?_ ?_); (· omega)) | ((with_reducible refine condP_yes ?_ ?_); (· assumption)) | ((with_reducible refine condP_no ?_ ?_); (· assumption)) | ((with_reducible refine ArP_i64 ?_ ?_); (· omega)) | ((with_reducible refine mustP.mk ?_ ?_); (· first | omega | rfl | (dsimp only; omega))) | (with_reducible refine EqP_nil tab_ok ?_) | (with_reducible refine EqP_sli tab_ok ?_) | (with_reducible refine DrawP_auto tab_ok (by kernel_rfl) (by decide +kernel) ?_) | (with_reducible refine DrawP_auto2 tab_ok (by kernel_rfl) (by decide +kernel) ?_) | (with_reducible refine eq34 ?_) | (with_reducible refine eq36 ?_) | (with_reducible refine eq46 ?_))))
  conv => whnf
  refine LoopP_at tab_ok (fun j => j ≤ R.length) (fun (j : Nat) => [(23, .val (.int .i64 j)), (5, .own 0), (19, .any)]) (fun j => [.own 36 6 (offL R j) (flatC (revC S n) (offL R j))]) (fun j => R.length - j) 0 (Nat.zero_le _) ?_ ?_
  · ((refine Le_head ?_); (conv => whnf); (refine Le_mk (by rfl) (by rfl) ?_ ?_); (· (repeat (first | (with_reducible exact frLe_nil) | (with_reducible refine frLe_any ?_) | (with_reducible refine frLe_val ?_) | ((with_reducible refine frLe_eq rfl ?_ ?_); (· rfl)) | ((with_reducible refine frLe_val' (int_eq ?_) ?_ ?_); (· omega); (· rfl)) | ((with_reducible refine frLe_val' (int_eq ?_) ?_ ?_); (· simp only [Int.natCast_add, Int.natCast_one, Int.natCast_ofNat] <;> omega); (· rfl)) | ((with_reducible refine frLe_val' (bool_eq ?_) ?_ ?_); (· first | assumption | (symm; assumption)); (· rfl))))))
    exact hpLe_own rfl rfl hpLe_nil
  · rintro j hj
    rcases Nat.lt_or_ge j R.length with h1 | h1
    · obtain ⟨q, hq⟩ : ∃ q, R[j]? = some q := ⟨R[j], List.getElem?_eq_getElem h1⟩
      obtain ⟨hq1, hs⟩ := ch j q hq
      have hoff := offL_next hq
      obtain ⟨b1, rfl, hb1⟩ : ∃ b, A1 = some ⟨b, 0, none⟩ ∧ ∀ (k : Nat) u, (R.map (cutV A))[k]? = some u → G1.cell? ⟨b, k, none⟩ = some u := by
        rcases hx1 with hx | hx
        · exfalso
          have : (R.map (cutV A)).length = 0 := by rw [hx]; rfl
          rw [List.length_map] at this; omega
        · exact hx
      have cs : G1.cell? (Addr.add ⟨b1, 0, none⟩ (((j : Nat) : Int).toNat * 1)) = some (cutV A q) := by
        rw [addr_add, show 0 + ((j : Nat) : Int).toNat * 1 = j by omega]
        exact hb1 j _ (by rw [List.getElem?_map, hq]; rfl)
      obtain ⟨i, l⟩ := q
      dsimp only at hq1 hs hoff
      have hlt := hs.lt
      have hle := hs.le
      obtain ⟨l1, l2, l3, l4⟩ := hs.la
      obtain ⟨b, o, rfl, _⟩ := h.at_ i (by omega)
      rw [← hq1] at hoff
      have cx : ∀ (x : Nat) (y : Int), x < n → (x : Int) = i + y → 0 ≤ y → ∀ (k : Nat) v, (S x).cells[k]? = some v → G1.cell? (Addr.add (Addr.add (Addr.add ⟨b, o, none⟩ (i * 6)) (y.toNat * 6)) k) = some v := fun x y hx hy hy0 k v hv => by
        obtain ⟨p', hp', hc⟩ := h.cell (x := x) (j := k) hx hv
        cases hp'
        rw [addr_add, addr_add] at hc
        rw [addr_add, addr_add, addr_add, show o + i * 6 + y.toNat * 6 + k = o + x * 6 + k by omega]
        exact hc
      have co : ∀ (x : Nat) (y : Int), x < n → (x : Int) = i + y → 0 ≤ y → ∀ K : List Value → Prop, K (S x).cells → OldCells G1 (Addr.add (Addr.add ⟨b, o, none⟩ (i * 6)) (y.toNat * 6)) 6 K := fun x y hx hy hy0 K k => by
        obtain ⟨p', hp', hc⟩ := h.cells (x := x) hx
        cases hp'
        have := hc K k
        rw [addr_add] at this
        rw [addr_add, addr_add, show o + i * 6 + y.toNat * 6 = o + x * 6 by omega]
        exact this
      have r0 := revS_first hs
      have rm := fun (k : Nat) (a : i < k) (b : k ≤ laP S (i + l)) => revS_mid hs a b
      have rl := revS_last hs
      have gg : (Value.slice ((some (⟨b, o, none⟩ : Addr)).map fun p => p.add (i * 6)) l l) = cutV (some ⟨b, o, none⟩) (i, l) := rfl
      generalize hL : laP S (i + l) = L at *
      have ca := cx (i + l - 1) ((l : Int) - 1) (by omega) (by omega) (by omega) 0 _ rfl
      clear hb1 hx1 ch hs
      by_cases hc : (S (i + l - 1)).k = 4
      · have hLe := l3 hc
        have rl := rl hc
        have x1 := cx L ((l : Int) - 1 - 1) (by omega) (by omega) (by omega) 1 _ rfl
        have x2 := cx L ((l : Int) - 1 - 1) (by omega) (by omega) (by omega) 2 _ rfl
        have e0 : flatC (revC S n) (L + 1 - (L - i)) = flatC (revC S n) i ++ [.int .i64 1, .int .i64 (S L).x, .int .i64 (S L).y, .int .i64 0, .int .i64 0, .int .i64 0] := by rw [show L + 1 - (L - i) = i + 1 by omega, flatC, show revC S n i = (revS S n i).cells from rfl, r0]
        have e9 : flatC (revC S n) (i + l) = flatC (revC S n) (i + l - 1) ++ [.int .i64 4, .int .i64 0, .int .i64 0, .int .i64 0, .int .i64 0, .int .i64 0] := by rw [show i + l = i + l - 1 + 1 by omega, flatC, show i + l - 1 + 1 - 1 = i + l - 1 by omega, show revC S n (i + l - 1) = (revS S n (i + l - 1)).cells from rfl, rl]
        clear l3 l4 h
        rw [← hq1]
        (repeat ((try (conv => whnf)); (first | (refine OldCells_one _ cs ?_) | (refine OldCells_one _ ca ?_) | (refine OldCells_one _ x1 ?_) | (refine OldCells_one _ x2 ?_) | (with_reducible refine condP_true ?_) | (with_reducible refine condP_false ?_) | (with_reducible refine condP_not ?_) | (with_reducible refine condP_and ?_) | ((with_reducible refine condP_dt ?_ ?_); (· omega)) | ((with_reducible refine condP_df ?_ ?_); (· omega)) | ((with_reducible refine condP_yes ?_ ?_); (· assumption)) | ((with_reducible refine condP_no ?_ ?_); (· assumption)) | ((with_reducible refine ArP_i64 ?_ ?_); (· omega)) | ((with_reducible refine mustP.mk ?_ ?_); (· first | omega | rfl | (dsimp only; omega))) | (with_reducible refine EqP_nil tab_ok ?_) | (with_reducible refine EqP_sli tab_ok ?_) | (with_reducible refine DrawP_auto tab_ok (by kernel_rfl) (by decide +kernel) ?_) | (with_reducible refine DrawP_auto2 tab_ok (by kernel_rfl) (by decide +kernel) ?_) | (with_reducible refine eq34 ?_) | (with_reducible refine eq36 ?_) | (with_reducible refine eq46 ?_))))
        conv => whnf
        refine LoopP_at tab_ok (fun k => k ≤ L - i) (fun (k : Nat) => [(10, .val (.int .i64 k)), (5, .own 0), (40, .any), (54, .any), (55, .any)]) (fun k => [.own 36 6 (L + 1 - k) (flatC (revC S n) (L + 1 - k))]) (fun k => k) (L - i) (Nat.le_refl _) ?_ ?_
        · refine Le_move 2 0 rfl rfl rfl rfl ?_
          conv => whnf
          ((refine Le_head ?_); (conv => whnf); (refine Le_mk (by rfl) (by rfl) ?_ ?_); (· (repeat (first | (with_reducible exact frLe_nil) | (with_reducible refine frLe_any ?_) | (with_reducible refine frLe_val ?_) | ((with_reducible refine frLe_eq rfl ?_ ?_); (· rfl)) | ((with_reducible refine frLe_val' (int_eq ?_) ?_ ?_); (· omega); (· rfl)) | ((with_reducible refine frLe_val' (int_eq ?_) ?_ ?_); (· simp only [Int.natCast_add, Int.natCast_one, Int.natCast_ofNat] <;> omega); (· rfl)) | ((with_reducible refine frLe_val' (bool_eq ?_) ?_ ?_); (· first | assumption | (symm; assumption)); (· rfl))))))
          exact hpLe_own (by omega) (by rw [e0]) hpLe_nil
        · rintro k k2
          rcases Nat.eq_zero_or_pos k with k3 | k3
          · subst k3
            (repeat ((try (conv => whnf)); (first | (with_reducible refine condP_true ?_) | (with_reducible refine condP_false ?_) | (with_reducible refine condP_not ?_) | (with_reducible refine condP_and ?_) | ((with_reducible refine condP_dt ?_ ?_); (· omega)) | ((with_reducible refine condP_df ?_ ?_); (· omega)) | ((with_reducible refine condP_yes ?_ ?_); (· assumption)) | ((with_reducible refine condP_no ?_ ?_); (· assumption)) | ((with_reducible refine ArP_i64 ?_ ?_); (· omega)) | ((with_reducible refine mustP.mk ?_ ?_); (· first | omega | rfl | (dsimp only; omega))) | (with_reducible refine EqP_nil tab_ok ?_) | (with_reducible refine EqP_sli tab_ok ?_) | (with_reducible refine DrawP_auto tab_ok (by kernel_rfl) (by decide +kernel) ?_) | (with_reducible refine DrawP_auto2 tab_ok (by kernel_rfl) (by decide +kernel) ?_) | (with_reducible refine eq34 ?_) | (with_reducible refine eq36 ?_) | (with_reducible refine eq46 ?_))))
            conv => whnf
            refine ⟨j + 1, by omega, by omega, ?_⟩
            rw [hoff]
            refine Le_move 2 0 rfl rfl rfl rfl ?_
            conv => whnf
            ((refine Le_head ?_); (conv => whnf); (refine Le_mk (by rfl) (by rfl) ?_ ?_); (· (repeat (first | (with_reducible exact frLe_nil) | (with_reducible refine frLe_any ?_) | (with_reducible refine frLe_val ?_) | ((with_reducible refine frLe_eq rfl ?_ ?_); (· rfl)) | ((with_reducible refine frLe_val' (int_eq ?_) ?_ ?_); (· omega); (· rfl)) | ((with_reducible refine frLe_val' (int_eq ?_) ?_ ?_); (· simp only [Int.natCast_add, Int.natCast_one, Int.natCast_ofNat] <;> omega); (· rfl)) | ((with_reducible refine frLe_val' (bool_eq ?_) ?_ ?_); (· first | assumption | (symm; assumption)); (· rfl))))))
            exact hpLe_own (by omega) (by rw [e9, show i + l - 1 = L + 1 - 0 by omega]) hpLe_nil
          · have y0 := co (i + k) ((k : Nat) : Int) (by omega) (by omega) (by omega)
            have y1 := cx (i + k - 1) (((k : Nat) : Int) - 1) (by omega) (by omega) (by omega) 1 _ rfl
            have y2 := cx (i + k - 1) (((k : Nat) : Int) - 1) (by omega) (by omega) (by omega) 2 _ rfl
            have em : flatC (revC S n) (L + 1 - (k - 1)) = flatC (revC S n) (L + 1 - k) ++ [.int .i64 (S (i + k)).k, .int .i64 (S (i + k - 1)).x, .int .i64 (S (i + k - 1)).y, .int .i64 (S (i + k)).u, .int .i64 (S (i + k)).v, .int .i64 (S (i + k)).w] := by rw [show L + 1 - (k - 1) = L + 1 - k + 1 by omega, flatC, show revC S n (L + 1 - k) = (revS S n (L + 1 - k)).cells from rfl, show L + 1 - k = i + 1 + (L - (i + k)) by omega, rm (i + k) (by omega) (by omega)]
            (repeat ((try (conv => whnf)); (first | (refine y0 _ ?_) | (refine OldCells_one _ y1 ?_) | (refine OldCells_one _ y2 ?_) | (with_reducible refine DrawP_mk tab_ok (by kernel_rfl) 14 [1] (by decide +kernel) ?_) | (with_reducible refine condP_true ?_) | (with_reducible refine condP_false ?_) | (with_reducible refine condP_not ?_) | (with_reducible refine condP_and ?_) | ((with_reducible refine condP_dt ?_ ?_); (· omega)) | ((with_reducible refine condP_df ?_ ?_); (· omega)) | ((with_reducible refine condP_yes ?_ ?_); (· assumption)) | ((with_reducible refine condP_no ?_ ?_); (· assumption)) | ((with_reducible refine ArP_i64 ?_ ?_); (· omega)) | ((with_reducible refine mustP.mk ?_ ?_); (· first | omega | rfl | (dsimp only; omega))) | (with_reducible refine EqP_nil tab_ok ?_) | (with_reducible refine EqP_sli tab_ok ?_) | (with_reducible refine DrawP_auto tab_ok (by kernel_rfl) (by decide +kernel) ?_) | (with_reducible refine DrawP_auto2 tab_ok (by kernel_rfl) (by decide +kernel) ?_) | (with_reducible refine eq34 ?_) | (with_reducible refine eq36 ?_) | (with_reducible refine eq46 ?_))))
            conv => whnf
            refine ⟨k - 1, by omega, by omega, ?_⟩
            refine Le_move 3 0 rfl rfl rfl rfl ?_
            conv => whnf
            ((refine Le_head ?_); (conv => whnf); (refine Le_mk (by rfl) (by rfl) ?_ ?_); (· (repeat (first | (with_reducible exact frLe_nil) | (with_reducible refine frLe_any ?_) | (with_reducible refine frLe_val ?_) | ((with_reducible refine frLe_eq rfl ?_ ?_); (· rfl)) | ((with_reducible refine frLe_val' (int_eq ?_) ?_ ?_); (· omega); (· rfl)) | ((with_reducible refine frLe_val' (int_eq ?_) ?_ ?_); (· simp only [Int.natCast_add, Int.natCast_one, Int.natCast_ofNat] <;> omega); (· rfl)) | ((with_reducible refine frLe_val' (bool_eq ?_) ?_ ?_); (· first | assumption | (symm; assumption)); (· rfl))))))
            exact hpLe_own (by omega) (by rw [em]) hpLe_nil
      · have hLe := l4 hc
        have x1 := cx L ((l : Int) - 1) (by omega) (by omega) (by omega) 1 _ rfl
        have x2 := cx L ((l : Int) - 1) (by omega) (by omega) (by omega) 2 _ rfl
        have e0 : flatC (revC S n) (L + 1 - (L - i)) = flatC (revC S n) i ++ [.int .i64 1, .int .i64 (S L).x, .int .i64 (S L).y, .int .i64 0, .int .i64 0, .int .i64 0] := by rw [show L + 1 - (L - i) = i + 1 by omega, flatC, show revC S n i = (revS S n i).cells from rfl, r0]
        clear l3 l4 h
        rw [← hq1]
        (repeat ((try (conv => whnf)); (first | (refine OldCells_one _ cs ?_) | (refine OldCells_one _ ca ?_) | (refine OldCells_one _ x1 ?_) | (refine OldCells_one _ x2 ?_) | (with_reducible refine condP_true ?_) | (with_reducible refine condP_false ?_) | (with_reducible refine condP_not ?_) | (with_reducible refine condP_and ?_) | ((with_reducible refine condP_dt ?_ ?_); (· omega)) | ((with_reducible refine condP_df ?_ ?_); (· omega)) | ((with_reducible refine condP_yes ?_ ?_); (· assumption)) | ((with_reducible refine condP_no ?_ ?_); (· assumption)) | ((with_reducible refine ArP_i64 ?_ ?_); (· omega)) | ((with_reducible refine mustP.mk ?_ ?_); (· first | omega | rfl | (dsimp only; omega))) | (with_reducible refine EqP_nil tab_ok ?_) | (with_reducible refine EqP_sli tab_ok ?_) | (with_reducible refine DrawP_auto tab_ok (by kernel_rfl) (by decide +kernel) ?_) | (with_reducible refine DrawP_auto2 tab_ok (by kernel_rfl) (by decide +kernel) ?_) | (with_reducible refine eq34 ?_) | (with_reducible refine eq36 ?_) | (with_reducible refine eq46 ?_))))
        conv => whnf
        refine LoopP_at tab_ok (fun k => k ≤ L - i) (fun (k : Nat) => [(10, .val (.int .i64 k)), (5, .own 0), (40, .any), (54, .any), (55, .any)]) (fun k => [.own 36 6 (L + 1 - k) (flatC (revC S n) (L + 1 - k))]) (fun k => k) (L - i) (Nat.le_refl _) ?_ ?_
        · refine Le_move 2 0 rfl rfl rfl rfl ?_
          conv => whnf
          ((refine Le_head ?_); (conv => whnf); (refine Le_mk (by rfl) (by rfl) ?_ ?_); (· (repeat (first | (with_reducible exact frLe_nil) | (with_reducible refine frLe_any ?_) | (with_reducible refine frLe_val ?_) | ((with_reducible refine frLe_eq rfl ?_ ?_); (· rfl)) | ((with_reducible refine frLe_val' (int_eq ?_) ?_ ?_); (· omega); (· rfl)) | ((with_reducible refine frLe_val' (int_eq ?_) ?_ ?_); (· simp only [Int.natCast_add, Int.natCast_one, Int.natCast_ofNat] <;> omega); (· rfl)) | ((with_reducible refine frLe_val' (bool_eq ?_) ?_ ?_); (· first | assumption | (symm; assumption)); (· rfl))))))
          exact hpLe_own (by omega) (by rw [e0]) hpLe_nil
        · rintro k k2
          rcases Nat.eq_zero_or_pos k with k3 | k3
          · subst k3
            (repeat ((try (conv => whnf)); (first | (with_reducible refine condP_true ?_) | (with_reducible refine condP_false ?_) | (with_reducible refine condP_not ?_) | (with_reducible refine condP_and ?_) | ((with_reducible refine condP_dt ?_ ?_); (· omega)) | ((with_reducible refine condP_df ?_ ?_); (· omega)) | ((with_reducible refine condP_yes ?_ ?_); (· assumption)) | ((with_reducible refine condP_no ?_ ?_); (· assumption)) | ((with_reducible refine ArP_i64 ?_ ?_); (· omega)) | ((with_reducible refine mustP.mk ?_ ?_); (· first | omega | rfl | (dsimp only; omega))) | (with_reducible refine EqP_nil tab_ok ?_) | (with_reducible refine EqP_sli tab_ok ?_) | (with_reducible refine DrawP_auto tab_ok (by kernel_rfl) (by decide +kernel) ?_) | (with_reducible refine DrawP_auto2 tab_ok (by kernel_rfl) (by decide +kernel) ?_) | (with_reducible refine eq34 ?_) | (with_reducible refine eq36 ?_) | (with_reducible refine eq46 ?_))))
            conv => whnf
            refine ⟨j + 1, by omega, by omega, ?_⟩
            rw [hoff]
            ((refine Le_head ?_); (conv => whnf); (refine Le_mk (by rfl) (by rfl) ?_ ?_); (· (repeat (first | (with_reducible exact frLe_nil) | (with_reducible refine frLe_any ?_) | (with_reducible refine frLe_val ?_) | ((with_reducible refine frLe_eq rfl ?_ ?_); (· rfl)) | ((with_reducible refine frLe_val' (int_eq ?_) ?_ ?_); (· omega); (· rfl)) | ((with_reducible refine frLe_val' (int_eq ?_) ?_ ?_); (· simp only [Int.natCast_add, Int.natCast_one, Int.natCast_ofNat] <;> omega); (· rfl)) | ((with_reducible refine frLe_val' (bool_eq ?_) ?_ ?_); (· first | assumption | (symm; assumption)); (· rfl))))))
            exact hpLe_own (by omega) (by rw [show i + l = L + 1 - 0 by omega]) hpLe_nil
          · have y0 := co (i + k) ((k : Nat) : Int) (by omega) (by omega) (by omega)
            have y1 := cx (i + k - 1) (((k : Nat) : Int) - 1) (by omega) (by omega) (by omega) 1 _ rfl
            have y2 := cx (i + k - 1) (((k : Nat) : Int) - 1) (by omega) (by omega) (by omega) 2 _ rfl
            have em : flatC (revC S n) (L + 1 - (k - 1)) = flatC (revC S n) (L + 1 - k) ++ [.int .i64 (S (i + k)).k, .int .i64 (S (i + k - 1)).x, .int .i64 (S (i + k - 1)).y, .int .i64 (S (i + k)).u, .int .i64 (S (i + k)).v, .int .i64 (S (i + k)).w] := by rw [show L + 1 - (k - 1) = L + 1 - k + 1 by omega, flatC, show revC S n (L + 1 - k) = (revS S n (L + 1 - k)).cells from rfl, show L + 1 - k = i + 1 + (L - (i + k)) by omega, rm (i + k) (by omega) (by omega)]
            (repeat ((try (conv => whnf)); (first | (refine y0 _ ?_) | (refine OldCells_one _ y1 ?_) | (refine OldCells_one _ y2 ?_) | (with_reducible refine DrawP_mk tab_ok (by kernel_rfl) 14 [1] (by decide +kernel) ?_) | (with_reducible refine condP_true ?_) | (with_reducible refine condP_false ?_) | (with_reducible refine condP_not ?_) | (with_reducible refine condP_and ?_) | ((with_reducible refine condP_dt ?_ ?_); (· omega)) | ((with_reducible refine condP_df ?_ ?_); (· omega)) | ((with_reducible refine condP_yes ?_ ?_); (· assumption)) | ((with_reducible refine condP_no ?_ ?_); (· assumption)) | ((with_reducible refine ArP_i64 ?_ ?_); (· omega)) | ((with_reducible refine mustP.mk ?_ ?_); (· first | omega | rfl | (dsimp only; omega))) | (with_reducible refine EqP_nil tab_ok ?_) | (with_reducible refine EqP_sli tab_ok ?_) | (with_reducible refine DrawP_auto tab_ok (by kernel_rfl) (by decide +kernel) ?_) | (with_reducible refine DrawP_auto2 tab_ok (by kernel_rfl) (by decide +kernel) ?_) | (with_reducible refine eq34 ?_) | (with_reducible refine eq36 ?_) | (with_reducible refine eq46 ?_))))
            conv => whnf
            refine ⟨k - 1, by omega, by omega, ?_⟩
            refine Le_move 3 0 rfl rfl rfl rfl ?_
            conv => whnf
            ((refine Le_head ?_); (conv => whnf); (refine Le_mk (by rfl) (by rfl) ?_ ?_); (· (repeat (first | (with_reducible exact frLe_nil) | (with_reducible refine frLe_any ?_) | (with_reducible refine frLe_val ?_) | ((with_reducible refine frLe_eq rfl ?_ ?_); (· rfl)) | ((with_reducible refine frLe_val' (int_eq ?_) ?_ ?_); (· omega); (· rfl)) | ((with_reducible refine frLe_val' (int_eq ?_) ?_ ?_); (· simp only [Int.natCast_add, Int.natCast_one, Int.natCast_ofNat] <;> omega); (· rfl)) | ((with_reducible refine frLe_val' (bool_eq ?_) ?_ ?_); (· first | assumption | (symm; assumption)); (· rfl))))))
            exact hpLe_own (by omega) (by rw [em]) hpLe_nil
    · obtain rfl : j = R.length := by omega
      rw [ct]
      (repeat ((try (conv => whnf)); (first | (with_reducible refine condP_true ?_) | (with_reducible refine condP_false ?_) | (with_reducible refine condP_not ?_) | (with_reducible refine condP_and ?_) | ((with_reducible refine condP_dt ?_ ?_); (· omega)) | ((with_reducible refine condP_df ?_ ?_); (· omega)) | ((with_reducible refine condP_yes ?_ ?_); (· assumption)) | ((with_reducible refine condP_no ?_ ?_); (· assumption)) | ((with_reducible refine ArP_i64 ?_ ?_); (· omega)) | ((with_reducible refine mustP.mk ?_ ?_); (· first | omega | rfl | (dsimp only; omega))) | (with_reducible refine EqP_nil tab_ok ?_) | (with_reducible refine EqP_sli tab_ok ?_) | (with_reducible refine DrawP_auto tab_ok (by kernel_rfl) (by decide +kernel) ?_) | (with_reducible refine DrawP_auto2 tab_ok (by kernel_rfl) (by decide +kernel) ?_) | (with_reducible refine eq34 ?_) | (with_reducible refine eq36 ?_) | (with_reducible refine eq46 ?_))))
      exact .inl ⟨0, rfl, rfl⟩
end
end Go.Proofs.YthbppimjaealnaaDoor
