/-
  The reference's ends and Reversed.
-/
import Derived.Test.YthbppimjaealnaaDoorSubs
namespace Go.Proofs.YthbppimjaealnaaDoor
open Go.RowKit
set_option linter.unusedVariables false
set_option linter.unusedSimpArgs false
set_option maxRecDepth 20000
section
variable {G : Mem} {A : Option Addr} {n c : Nat} {S : Nat → SegD}
set_option maxHeartbeats 4000000 in
theorem ends_gives (h : SegsM G A n S) (hn : n ≤ 1000) {i e : Nat} (hs : SubP S n i e) : Gives Tryd.prog 31 [.val (.slice A n c), .val (.int .i64 i)] G (.val (.int .i64 e)) := by
  have hlt := hs.lt
  have hle := hs.le
  refine Gives_of tab_ok Tryd.func31 ?_
  (repeat ((try (conv => whnf)); (first | (with_reducible refine condP_true ?_) | (with_reducible refine condP_false ?_) | (with_reducible refine condP_not ?_) | (with_reducible refine condP_and ?_) | ((with_reducible refine condP_dt ?_ ?_); (· omega)) | ((with_reducible refine condP_df ?_ ?_); (· omega)) | ((with_reducible refine condP_yes ?_ ?_); (· assumption)) | ((with_reducible refine condP_no ?_ ?_); (· assumption)) | ((with_reducible refine ArP_i64 ?_ ?_); (· omega)) | ((with_reducible refine mustP.mk ?_ ?_); (· first | omega | rfl | (dsimp only; omega))) | (with_reducible refine EqP_nil tab_ok ?_) | (with_reducible refine EqP_sli tab_ok ?_) | (with_reducible refine DrawP_auto tab_ok (by kernel_rfl) (by decide +kernel) ?_) | (with_reducible refine DrawP_auto2 tab_ok (by kernel_rfl) (by decide +kernel) ?_) | (with_reducible refine eq34 ?_) | (with_reducible refine eq36 ?_) | (with_reducible refine eq46 ?_))))
  conv => whnf
  refine LoopP_at tab_ok (fun k => i < k ∧ k ≤ e) (fun (k : Nat) => [(5, .val (.int .i64 k))]) (fun k => []) (fun k => e - k) (i + 1) ⟨by omega, by omega⟩ ?_ ?_
  · ((refine Le_head ?_); (conv => whnf); (refine Le_mk (by rfl) (by rfl) ?_ ?_); (· (repeat (first | (with_reducible exact frLe_nil) | (with_reducible refine frLe_any ?_) | (with_reducible refine frLe_val ?_) | ((with_reducible refine frLe_eq rfl ?_ ?_); (· rfl)) | ((with_reducible refine frLe_val' (int_eq ?_) ?_ ?_); (· omega); (· rfl)) | ((with_reducible refine frLe_val' (int_eq ?_) ?_ ?_); (· simp only [Int.natCast_add, Int.natCast_one, Int.natCast_ofNat] <;> omega); (· rfl)) | ((with_reducible refine frLe_val' (bool_eq ?_) ?_ ?_); (· first | assumption | (symm; assumption)); (· rfl))))))
    exact hpLe_nil
  · rintro k ⟨h0, hi⟩
    rcases Nat.lt_or_ge k e with h1 | h1
    · obtain ⟨p, rfl, c0⟩ := h.cell (x := k) (j := 0) (by omega) rfl
      have hk := hs.no k h0 h1
      clear h hs
      (repeat ((try (conv => whnf)); (first | (refine OldCells_one _ c0 ?_) | (with_reducible refine condP_true ?_) | (with_reducible refine condP_false ?_) | (with_reducible refine condP_not ?_) | (with_reducible refine condP_and ?_) | ((with_reducible refine condP_dt ?_ ?_); (· omega)) | ((with_reducible refine condP_df ?_ ?_); (· omega)) | ((with_reducible refine condP_yes ?_ ?_); (· assumption)) | ((with_reducible refine condP_no ?_ ?_); (· assumption)) | ((with_reducible refine ArP_i64 ?_ ?_); (· omega)) | ((with_reducible refine mustP.mk ?_ ?_); (· first | omega | rfl | (dsimp only; omega))) | (with_reducible refine EqP_nil tab_ok ?_) | (with_reducible refine EqP_sli tab_ok ?_) | (with_reducible refine DrawP_auto tab_ok (by kernel_rfl) (by decide +kernel) ?_) | (with_reducible refine DrawP_auto2 tab_ok (by kernel_rfl) (by decide +kernel) ?_) | (with_reducible refine eq34 ?_) | (with_reducible refine eq36 ?_) | (with_reducible refine eq46 ?_))))
      refine ⟨k + 1, ⟨by omega, by omega⟩, by omega, ?_⟩
      ((refine Le_head ?_); (conv => whnf); (refine Le_mk (by rfl) (by rfl) ?_ ?_); (· (repeat (first | (with_reducible exact frLe_nil) | (with_reducible refine frLe_any ?_) | (with_reducible refine frLe_val ?_) | ((with_reducible refine frLe_eq rfl ?_ ?_); (· rfl)) | ((with_reducible refine frLe_val' (int_eq ?_) ?_ ?_); (· omega); (· rfl)) | ((with_reducible refine frLe_val' (int_eq ?_) ?_ ?_); (· simp only [Int.natCast_add, Int.natCast_one, Int.natCast_ofNat] <;> omega); (· rfl)) | ((with_reducible refine frLe_val' (bool_eq ?_) ?_ ?_); (· first | assumption | (symm; assumption)); (· rfl))))))
      exact hpLe_nil
    · obtain rfl : k = e := by omega
      by_cases hkn : k = n
      · clear h hs
        (repeat ((try (conv => whnf)); (first | (with_reducible refine condP_true ?_) | (with_reducible refine condP_false ?_) | (with_reducible refine condP_not ?_) | (with_reducible refine condP_and ?_) | ((with_reducible refine condP_dt ?_ ?_); (· omega)) | ((with_reducible refine condP_df ?_ ?_); (· omega)) | ((with_reducible refine condP_yes ?_ ?_); (· assumption)) | ((with_reducible refine condP_no ?_ ?_); (· assumption)) | ((with_reducible refine ArP_i64 ?_ ?_); (· omega)) | ((with_reducible refine mustP.mk ?_ ?_); (· first | omega | rfl | (dsimp only; omega))) | (with_reducible refine EqP_nil tab_ok ?_) | (with_reducible refine EqP_sli tab_ok ?_) | (with_reducible refine DrawP_auto tab_ok (by kernel_rfl) (by decide +kernel) ?_) | (with_reducible refine DrawP_auto2 tab_ok (by kernel_rfl) (by decide +kernel) ?_) | (with_reducible refine eq34 ?_) | (with_reducible refine eq36 ?_) | (with_reducible refine eq46 ?_))))
        exact ⟨rfl, rfl⟩
      · have hm : (S k).k = 1 := by
          rcases hs.en with h2 | h2
          · exact absurd h2 hkn
          · exact h2
        obtain ⟨p, rfl, c0⟩ := h.cell (x := k) (j := 0) (by omega) rfl
        clear h hs
        (repeat ((try (conv => whnf)); (first | (refine OldCells_one _ c0 ?_) | (with_reducible refine condP_true ?_) | (with_reducible refine condP_false ?_) | (with_reducible refine condP_not ?_) | (with_reducible refine condP_and ?_) | ((with_reducible refine condP_dt ?_ ?_); (· omega)) | ((with_reducible refine condP_df ?_ ?_); (· omega)) | ((with_reducible refine condP_yes ?_ ?_); (· assumption)) | ((with_reducible refine condP_no ?_ ?_); (· assumption)) | ((with_reducible refine ArP_i64 ?_ ?_); (· omega)) | ((with_reducible refine mustP.mk ?_ ?_); (· first | omega | rfl | (dsimp only; omega))) | (with_reducible refine EqP_nil tab_ok ?_) | (with_reducible refine EqP_sli tab_ok ?_) | (with_reducible refine DrawP_auto tab_ok (by kernel_rfl) (by decide +kernel) ?_) | (with_reducible refine DrawP_auto2 tab_ok (by kernel_rfl) (by decide +kernel) ?_) | (with_reducible refine eq34 ?_) | (with_reducible refine eq36 ?_) | (with_reducible refine eq46 ?_))))
        exact ⟨rfl, rfl⟩
abbrev revC (S : Nat → SegD) (n x : Nat) : List Value := (revS S n x).cells
theorem i64_lt {n : Nat} (hn : n ≤ 1000) : n ≤ 9223372036854775807 := by omega
set_option maxHeartbeats 8000000 in
theorem Reversed_makes (h : SegsM G A n S) (hn : n ≤ 1000) (h0 : 0 < n → (S 0).k = 1) : Makes Tryd.prog 18 [.val (.slice A n c)] G id 36 6 n (flatC (revC S n) n) := by
  refine Makes_of tab_ok Tryd.func18 (.alone fun _ => rfl) ?_
  (repeat ((try (conv => whnf)); (first | (with_reducible refine condP_true ?_) | (with_reducible refine condP_false ?_) | (with_reducible refine condP_not ?_) | (with_reducible refine condP_and ?_) | ((with_reducible refine condP_dt ?_ ?_); (· omega)) | ((with_reducible refine condP_df ?_ ?_); (· omega)) | ((with_reducible refine condP_yes ?_ ?_); (· assumption)) | ((with_reducible refine condP_no ?_ ?_); (· assumption)) | ((with_reducible refine ArP_i64 ?_ ?_); (· omega)) | ((with_reducible refine mustP.mk ?_ ?_); (· first | omega | rfl | (dsimp only; omega))) | (with_reducible refine EqP_nil tab_ok ?_) | (with_reducible refine EqP_sli tab_ok ?_) | (with_reducible refine DrawP_auto tab_ok (by kernel_rfl) (by decide +kernel) ?_) | (with_reducible refine DrawP_auto2 tab_ok (by kernel_rfl) (by decide +kernel) ?_) | (with_reducible refine eq34 ?_) | (with_reducible refine eq36 ?_) | (with_reducible refine eq46 ?_))))
  conv => whnf
  refine LoopP_at tab_ok (fun i => i = n ∨ (i < n ∧ (S i).k = 1)) (fun (i : Nat) => [(4, .val (.int .i64 i)), (3, .own 0)]) (fun i => [.own 36 6 i (flatC (revC S n) i)]) (fun i => n - i) 0 (by by_cases hz : 0 < n; exact .inr ⟨hz, h0 hz⟩; exact .inl (by omega)) ?_ ?_
  · refine Le_own 36 6 ?_
    conv => whnf
    ((refine Le_head ?_); (conv => whnf); (refine Le_mk (by rfl) (by rfl) ?_ ?_); (· (repeat (first | (with_reducible exact frLe_nil) | (with_reducible refine frLe_any ?_) | (with_reducible refine frLe_val ?_) | ((with_reducible refine frLe_eq rfl ?_ ?_); (· rfl)) | ((with_reducible refine frLe_val' (int_eq ?_) ?_ ?_); (· omega); (· rfl)) | ((with_reducible refine frLe_val' (int_eq ?_) ?_ ?_); (· simp only [Int.natCast_add, Int.natCast_one, Int.natCast_ofNat] <;> omega); (· rfl)) | ((with_reducible refine frLe_val' (bool_eq ?_) ?_ ?_); (· first | assumption | (symm; assumption)); (· rfl))))))
    exact hpLe_own rfl rfl hpLe_nil
  · rintro i hi
    by_cases hin : i = n
    · subst hin
      (repeat ((try (conv => whnf)); (first | (with_reducible refine condP_true ?_) | (with_reducible refine condP_false ?_) | (with_reducible refine condP_not ?_) | (with_reducible refine condP_and ?_) | ((with_reducible refine condP_dt ?_ ?_); (· omega)) | ((with_reducible refine condP_df ?_ ?_); (· omega)) | ((with_reducible refine condP_yes ?_ ?_); (· assumption)) | ((with_reducible refine condP_no ?_ ?_); (· assumption)) | ((with_reducible refine ArP_i64 ?_ ?_); (· omega)) | ((with_reducible refine mustP.mk ?_ ?_); (· first | omega | rfl | (dsimp only; omega))) | (with_reducible refine EqP_nil tab_ok ?_) | (with_reducible refine EqP_sli tab_ok ?_) | (with_reducible refine DrawP_auto tab_ok (by kernel_rfl) (by decide +kernel) ?_) | (with_reducible refine DrawP_auto2 tab_ok (by kernel_rfl) (by decide +kernel) ?_) | (with_reducible refine eq34 ?_) | (with_reducible refine eq36 ?_) | (with_reducible refine eq46 ?_))))
      exact .inl ⟨0, rfl, rfl⟩
    obtain ⟨h1, hm⟩ : i < n ∧ (S i).k = 1 := by rcases hi with h | h; exact absurd h hin; exact h
    have hs := enP_sub h1 hm
    generalize enP S n i = e at *
    have ge := ends_gives (c := c) h hn hs
    have hlt := hs.lt
    have hle := hs.le
    obtain ⟨l1, l2, l3, l4⟩ := hs.la
    have r0 := revS_first hs
    have rm := fun (k : Nat) (a : i < k) (b : k ≤ laP S e) => revS_mid hs a b
    have rl := revS_last hs
    have hen := hs.en
    generalize hL : laP S e = L at *
    obtain ⟨p, rfl, ca⟩ := h.cell (x := e - 1) (j := 0) (by omega) rfl
    have ca : G.cell? (Addr.add (p.add ((((e : Nat) : Int) - 1).toNat * 6)) 0) = some (.int .i64 (S (e - 1)).k) := by rw [show (((e : Nat) : Int) - 1).toNat = e - 1 by omega]; exact ca
    have cx : ∀ (x : Nat) (y : Int), x < n → y = x → ∀ (j : Nat) v, (S x).cells[j]? = some v → G.cell? (Addr.add (p.add (y.toNat * 6)) j) = some v := fun x y hx hy j v hv => by
      obtain ⟨p', hp', hc⟩ := h.cell (x := x) (j := j) hx hv
      cases hp'
      subst hy
      exact hc
    by_cases hc : (S (e - 1)).k = 4
    · have hLe := l3 hc
      have rl := rl hc
      have x1 := cx L (((e : Nat) : Int) - 1 - 1) (by omega) (by omega) 1 _ rfl
      have x2 := cx L (((e : Nat) : Int) - 1 - 1) (by omega) (by omega) 2 _ rfl
      have e0 : flatC (revC S n) (i + 1 + (L - L)) = flatC (revC S n) i ++ [.int .i64 1, .int .i64 (S L).x, .int .i64 (S L).y, .int .i64 0, .int .i64 0, .int .i64 0] := by rw [Nat.sub_self, Nat.add_zero, flatC, show revC S n i = (revS S n i).cells from rfl, r0]
      have e9 : flatC (revC S n) e = flatC (revC S n) (e - 1) ++ [.int .i64 4, .int .i64 0, .int .i64 0, .int .i64 0, .int .i64 0, .int .i64 0] := by rw [show e = e - 1 + 1 by omega, flatC, show e - 1 + 1 - 1 = e - 1 by omega, show revC S n (e - 1) = (revS S n (e - 1)).cells from rfl, rl]
      clear l3 l4 hi hs h h0
      (repeat ((try (conv => whnf)); (first | (refine OldCells_one _ ca ?_) | (refine OldCells_one _ x1 ?_) | (refine OldCells_one _ x2 ?_) | (with_reducible refine condP_true ?_) | (with_reducible refine condP_false ?_) | (with_reducible refine condP_not ?_) | (with_reducible refine condP_and ?_) | ((with_reducible refine condP_dt ?_ ?_); (· omega)) | ((with_reducible refine condP_df ?_ ?_); (· omega)) | ((with_reducible refine condP_yes ?_ ?_); (· assumption)) | ((with_reducible refine condP_no ?_ ?_); (· assumption)) | ((with_reducible refine ArP_i64 ?_ ?_); (· omega)) | ((with_reducible refine mustP.mk ?_ ?_); (· first | omega | rfl | (dsimp only; omega))) | (with_reducible refine EqP_nil tab_ok ?_) | (with_reducible refine EqP_sli tab_ok ?_) | (with_reducible refine DrawP_auto tab_ok (by kernel_rfl) (by decide +kernel) ?_) | (with_reducible refine DrawP_auto2 tab_ok (by kernel_rfl) (by decide +kernel) ?_) | (with_reducible refine eq34 ?_) | (with_reducible refine eq36 ?_) | (with_reducible refine eq46 ?_) | (with_reducible refine CallP_gives (fun vs w => by kernel_rfl) (by kernel_rfl) (ge) ?_) | (with_reducible refine RCallP_gives (fun vs w => by kernel_rfl) (by kernel_rfl) (ge) ?_))))
      conv => whnf
      refine LoopP_at tab_ok (fun k => i ≤ k ∧ k ≤ L) (fun (k : Nat) => [(5, .val (.int .i64 k)), (3, .own 0), (27, .any), (39, .any), (40, .any)]) (fun k => [.own 36 6 (i + 1 + (L - k)) (flatC (revC S n) (i + 1 + (L - k)))]) (fun k => k - i) L ⟨l1, Nat.le_refl _⟩ ?_ ?_
      · refine Le_move 2 0 rfl rfl rfl rfl ?_
        conv => whnf
        ((refine Le_head ?_); (conv => whnf); (refine Le_mk (by rfl) (by rfl) ?_ ?_); (· (repeat (first | (with_reducible exact frLe_nil) | (with_reducible refine frLe_any ?_) | (with_reducible refine frLe_val ?_) | ((with_reducible refine frLe_eq rfl ?_ ?_); (· rfl)) | ((with_reducible refine frLe_val' (int_eq ?_) ?_ ?_); (· omega); (· rfl)) | ((with_reducible refine frLe_val' (int_eq ?_) ?_ ?_); (· simp only [Int.natCast_add, Int.natCast_one, Int.natCast_ofNat] <;> omega); (· rfl)) | ((with_reducible refine frLe_val' (bool_eq ?_) ?_ ?_); (· first | assumption | (symm; assumption)); (· rfl))))))
        exact hpLe_own (by omega) (by rw [e0]) hpLe_nil
      · rintro k ⟨k1, k2⟩
        rcases Nat.lt_or_ge i k with k3 | k3
        · have y0 := cx k ((k : Nat) : Int) (by omega) rfl 0 _ rfl
          have y3 := cx k ((k : Nat) : Int) (by omega) rfl 3 _ rfl
          have y4 := cx k ((k : Nat) : Int) (by omega) rfl 4 _ rfl
          have y5 := cx k ((k : Nat) : Int) (by omega) rfl 5 _ rfl
          have y1 := cx (k - 1) (((k : Nat) : Int) - 1) (by omega) (by omega) 1 _ rfl
          have y2 := cx (k - 1) (((k : Nat) : Int) - 1) (by omega) (by omega) 2 _ rfl
          have em : flatC (revC S n) (i + 1 + (L - (k - 1))) = flatC (revC S n) (i + 1 + (L - k)) ++ [.int .i64 (S k).k, .int .i64 (S (k - 1)).x, .int .i64 (S (k - 1)).y, .int .i64 (S k).u, .int .i64 (S k).v, .int .i64 (S k).w] := by rw [show i + 1 + (L - (k - 1)) = i + 1 + (L - k) + 1 by omega, flatC, show revC S n (i + 1 + (L - k)) = (revS S n (i + 1 + (L - k))).cells from rfl, rm k k3 k2]
          (repeat ((try (conv => whnf)); (first | (refine OldCells_one _ y0 ?_) | (refine OldCells_one _ y1 ?_) | (refine OldCells_one _ y2 ?_) | (refine OldCells_one _ y3 ?_) | (refine OldCells_one _ y4 ?_) | (refine OldCells_one _ y5 ?_) | (with_reducible refine condP_true ?_) | (with_reducible refine condP_false ?_) | (with_reducible refine condP_not ?_) | (with_reducible refine condP_and ?_) | ((with_reducible refine condP_dt ?_ ?_); (· omega)) | ((with_reducible refine condP_df ?_ ?_); (· omega)) | ((with_reducible refine condP_yes ?_ ?_); (· assumption)) | ((with_reducible refine condP_no ?_ ?_); (· assumption)) | ((with_reducible refine ArP_i64 ?_ ?_); (· omega)) | ((with_reducible refine mustP.mk ?_ ?_); (· first | omega | rfl | (dsimp only; omega))) | (with_reducible refine EqP_nil tab_ok ?_) | (with_reducible refine EqP_sli tab_ok ?_) | (with_reducible refine DrawP_auto tab_ok (by kernel_rfl) (by decide +kernel) ?_) | (with_reducible refine DrawP_auto2 tab_ok (by kernel_rfl) (by decide +kernel) ?_) | (with_reducible refine eq34 ?_) | (with_reducible refine eq36 ?_) | (with_reducible refine eq46 ?_))))
          conv => whnf
          refine ⟨k - 1, ⟨by omega, by omega⟩, by omega, ?_⟩
          refine Le_move 2 0 rfl rfl rfl rfl ?_
          conv => whnf
          ((refine Le_head ?_); (conv => whnf); (refine Le_mk (by rfl) (by rfl) ?_ ?_); (· (repeat (first | (with_reducible exact frLe_nil) | (with_reducible refine frLe_any ?_) | (with_reducible refine frLe_val ?_) | ((with_reducible refine frLe_eq rfl ?_ ?_); (· rfl)) | ((with_reducible refine frLe_val' (int_eq ?_) ?_ ?_); (· omega); (· rfl)) | ((with_reducible refine frLe_val' (int_eq ?_) ?_ ?_); (· simp only [Int.natCast_add, Int.natCast_one, Int.natCast_ofNat] <;> omega); (· rfl)) | ((with_reducible refine frLe_val' (bool_eq ?_) ?_ ?_); (· first | assumption | (symm; assumption)); (· rfl))))))
          exact hpLe_own (by omega) (by rw [em]) hpLe_nil
        · obtain rfl : k = i := by omega
          (repeat ((try (conv => whnf)); (first | (with_reducible refine condP_true ?_) | (with_reducible refine condP_false ?_) | (with_reducible refine condP_not ?_) | (with_reducible refine condP_and ?_) | ((with_reducible refine condP_dt ?_ ?_); (· omega)) | ((with_reducible refine condP_df ?_ ?_); (· omega)) | ((with_reducible refine condP_yes ?_ ?_); (· assumption)) | ((with_reducible refine condP_no ?_ ?_); (· assumption)) | ((with_reducible refine ArP_i64 ?_ ?_); (· omega)) | ((with_reducible refine mustP.mk ?_ ?_); (· first | omega | rfl | (dsimp only; omega))) | (with_reducible refine EqP_nil tab_ok ?_) | (with_reducible refine EqP_sli tab_ok ?_) | (with_reducible refine DrawP_auto tab_ok (by kernel_rfl) (by decide +kernel) ?_) | (with_reducible refine DrawP_auto2 tab_ok (by kernel_rfl) (by decide +kernel) ?_) | (with_reducible refine eq34 ?_) | (with_reducible refine eq36 ?_) | (with_reducible refine eq46 ?_) | (with_reducible refine CallP_gives (fun vs w => by kernel_rfl) (by kernel_rfl) (ge) ?_) | (with_reducible refine RCallP_gives (fun vs w => by kernel_rfl) (by kernel_rfl) (ge) ?_))))
          conv => whnf
          refine ⟨e, by rcases hen with hh | hh; exact .inl hh; by_cases hh2 : e = n; exact .inl hh2; exact .inr ⟨by omega, hh⟩, by omega, ?_⟩
          refine Le_move 2 0 rfl rfl rfl rfl ?_
          conv => whnf
          ((refine Le_head ?_); (conv => whnf); (refine Le_mk (by rfl) (by rfl) ?_ ?_); (· (repeat (first | (with_reducible exact frLe_nil) | (with_reducible refine frLe_any ?_) | (with_reducible refine frLe_val ?_) | ((with_reducible refine frLe_eq rfl ?_ ?_); (· rfl)) | ((with_reducible refine frLe_val' (int_eq ?_) ?_ ?_); (· omega); (· rfl)) | ((with_reducible refine frLe_val' (int_eq ?_) ?_ ?_); (· simp only [Int.natCast_add, Int.natCast_one, Int.natCast_ofNat] <;> omega); (· rfl)) | ((with_reducible refine frLe_val' (bool_eq ?_) ?_ ?_); (· first | assumption | (symm; assumption)); (· rfl))))))
          exact hpLe_own (by omega) (by rw [e9, show e - 1 = k + 1 + (L - k) by omega]) hpLe_nil
    · have hLe := l4 hc
      have x1 := cx L (((e : Nat) : Int) - 1) (by omega) (by omega) 1 _ rfl
      have x2 := cx L (((e : Nat) : Int) - 1) (by omega) (by omega) 2 _ rfl
      have e0 : flatC (revC S n) (i + 1 + (L - L)) = flatC (revC S n) i ++ [.int .i64 1, .int .i64 (S L).x, .int .i64 (S L).y, .int .i64 0, .int .i64 0, .int .i64 0] := by rw [Nat.sub_self, Nat.add_zero, flatC, show revC S n i = (revS S n i).cells from rfl, r0]
      clear l3 l4 hi hs h h0
      (repeat ((try (conv => whnf)); (first | (refine OldCells_one _ ca ?_) | (refine OldCells_one _ x1 ?_) | (refine OldCells_one _ x2 ?_) | (with_reducible refine condP_true ?_) | (with_reducible refine condP_false ?_) | (with_reducible refine condP_not ?_) | (with_reducible refine condP_and ?_) | ((with_reducible refine condP_dt ?_ ?_); (· omega)) | ((with_reducible refine condP_df ?_ ?_); (· omega)) | ((with_reducible refine condP_yes ?_ ?_); (· assumption)) | ((with_reducible refine condP_no ?_ ?_); (· assumption)) | ((with_reducible refine ArP_i64 ?_ ?_); (· omega)) | ((with_reducible refine mustP.mk ?_ ?_); (· first | omega | rfl | (dsimp only; omega))) | (with_reducible refine EqP_nil tab_ok ?_) | (with_reducible refine EqP_sli tab_ok ?_) | (with_reducible refine DrawP_auto tab_ok (by kernel_rfl) (by decide +kernel) ?_) | (with_reducible refine DrawP_auto2 tab_ok (by kernel_rfl) (by decide +kernel) ?_) | (with_reducible refine eq34 ?_) | (with_reducible refine eq36 ?_) | (with_reducible refine eq46 ?_) | (with_reducible refine CallP_gives (fun vs w => by kernel_rfl) (by kernel_rfl) (ge) ?_) | (with_reducible refine RCallP_gives (fun vs w => by kernel_rfl) (by kernel_rfl) (ge) ?_))))
      conv => whnf
      refine LoopP_at tab_ok (fun k => i ≤ k ∧ k ≤ L) (fun (k : Nat) => [(5, .val (.int .i64 k)), (3, .own 0), (27, .any), (39, .any), (40, .any)]) (fun k => [.own 36 6 (i + 1 + (L - k)) (flatC (revC S n) (i + 1 + (L - k)))]) (fun k => k - i) L ⟨l1, Nat.le_refl _⟩ ?_ ?_
      · refine Le_move 2 0 rfl rfl rfl rfl ?_
        conv => whnf
        ((refine Le_head ?_); (conv => whnf); (refine Le_mk (by rfl) (by rfl) ?_ ?_); (· (repeat (first | (with_reducible exact frLe_nil) | (with_reducible refine frLe_any ?_) | (with_reducible refine frLe_val ?_) | ((with_reducible refine frLe_eq rfl ?_ ?_); (· rfl)) | ((with_reducible refine frLe_val' (int_eq ?_) ?_ ?_); (· omega); (· rfl)) | ((with_reducible refine frLe_val' (int_eq ?_) ?_ ?_); (· simp only [Int.natCast_add, Int.natCast_one, Int.natCast_ofNat] <;> omega); (· rfl)) | ((with_reducible refine frLe_val' (bool_eq ?_) ?_ ?_); (· first | assumption | (symm; assumption)); (· rfl))))))
        exact hpLe_own (by omega) (by rw [e0]) hpLe_nil
      · rintro k ⟨k1, k2⟩
        rcases Nat.lt_or_ge i k with k3 | k3
        · have y0 := cx k ((k : Nat) : Int) (by omega) rfl 0 _ rfl
          have y3 := cx k ((k : Nat) : Int) (by omega) rfl 3 _ rfl
          have y4 := cx k ((k : Nat) : Int) (by omega) rfl 4 _ rfl
          have y5 := cx k ((k : Nat) : Int) (by omega) rfl 5 _ rfl
          have y1 := cx (k - 1) (((k : Nat) : Int) - 1) (by omega) (by omega) 1 _ rfl
          have y2 := cx (k - 1) (((k : Nat) : Int) - 1) (by omega) (by omega) 2 _ rfl
          have em : flatC (revC S n) (i + 1 + (L - (k - 1))) = flatC (revC S n) (i + 1 + (L - k)) ++ [.int .i64 (S k).k, .int .i64 (S (k - 1)).x, .int .i64 (S (k - 1)).y, .int .i64 (S k).u, .int .i64 (S k).v, .int .i64 (S k).w] := by rw [show i + 1 + (L - (k - 1)) = i + 1 + (L - k) + 1 by omega, flatC, show revC S n (i + 1 + (L - k)) = (revS S n (i + 1 + (L - k))).cells from rfl, rm k k3 k2]
          (repeat ((try (conv => whnf)); (first | (refine OldCells_one _ y0 ?_) | (refine OldCells_one _ y1 ?_) | (refine OldCells_one _ y2 ?_) | (refine OldCells_one _ y3 ?_) | (refine OldCells_one _ y4 ?_) | (refine OldCells_one _ y5 ?_) | (with_reducible refine condP_true ?_) | (with_reducible refine condP_false ?_) | (with_reducible refine condP_not ?_) | (with_reducible refine condP_and ?_) | ((with_reducible refine condP_dt ?_ ?_); (· omega)) | ((with_reducible refine condP_df ?_ ?_); (· omega)) | ((with_reducible refine condP_yes ?_ ?_); (· assumption)) | ((with_reducible refine condP_no ?_ ?_); (· assumption)) | ((with_reducible refine ArP_i64 ?_ ?_); (· omega)) | ((with_reducible refine mustP.mk ?_ ?_); (· first | omega | rfl | (dsimp only; omega))) | (with_reducible refine EqP_nil tab_ok ?_) | (with_reducible refine EqP_sli tab_ok ?_) | (with_reducible refine DrawP_auto tab_ok (by kernel_rfl) (by decide +kernel) ?_) | (with_reducible refine DrawP_auto2 tab_ok (by kernel_rfl) (by decide +kernel) ?_) | (with_reducible refine eq34 ?_) | (with_reducible refine eq36 ?_) | (with_reducible refine eq46 ?_))))
          conv => whnf
          refine ⟨k - 1, ⟨by omega, by omega⟩, by omega, ?_⟩
          refine Le_move 2 0 rfl rfl rfl rfl ?_
          conv => whnf
          ((refine Le_head ?_); (conv => whnf); (refine Le_mk (by rfl) (by rfl) ?_ ?_); (· (repeat (first | (with_reducible exact frLe_nil) | (with_reducible refine frLe_any ?_) | (with_reducible refine frLe_val ?_) | ((with_reducible refine frLe_eq rfl ?_ ?_); (· rfl)) | ((with_reducible refine frLe_val' (int_eq ?_) ?_ ?_); (· omega); (· rfl)) | ((with_reducible refine frLe_val' (int_eq ?_) ?_ ?_); (· simp only [Int.natCast_add, Int.natCast_one, Int.natCast_ofNat] <;> omega); (· rfl)) | ((with_reducible refine frLe_val' (bool_eq ?_) ?_ ?_); (· first | assumption | (symm; assumption)); (· rfl))))))
          exact hpLe_own (by omega) (by rw [em]) hpLe_nil
        · obtain rfl : k = i := by omega
          (repeat ((try (conv => whnf)); (first | (with_reducible refine condP_true ?_) | (with_reducible refine condP_false ?_) | (with_reducible refine condP_not ?_) | (with_reducible refine condP_and ?_) | ((with_reducible refine condP_dt ?_ ?_); (· omega)) | ((with_reducible refine condP_df ?_ ?_); (· omega)) | ((with_reducible refine condP_yes ?_ ?_); (· assumption)) | ((with_reducible refine condP_no ?_ ?_); (· assumption)) | ((with_reducible refine ArP_i64 ?_ ?_); (· omega)) | ((with_reducible refine mustP.mk ?_ ?_); (· first | omega | rfl | (dsimp only; omega))) | (with_reducible refine EqP_nil tab_ok ?_) | (with_reducible refine EqP_sli tab_ok ?_) | (with_reducible refine DrawP_auto tab_ok (by kernel_rfl) (by decide +kernel) ?_) | (with_reducible refine DrawP_auto2 tab_ok (by kernel_rfl) (by decide +kernel) ?_) | (with_reducible refine eq34 ?_) | (with_reducible refine eq36 ?_) | (with_reducible refine eq46 ?_) | (with_reducible refine CallP_gives (fun vs w => by kernel_rfl) (by kernel_rfl) (ge) ?_) | (with_reducible refine RCallP_gives (fun vs w => by kernel_rfl) (by kernel_rfl) (ge) ?_))))
          conv => whnf
          refine ⟨e, by rcases hen with hh | hh; exact .inl hh; by_cases hh2 : e = n; exact .inl hh2; exact .inr ⟨by omega, hh⟩, by omega, ?_⟩
          ((refine Le_head ?_); (conv => whnf); (refine Le_mk (by rfl) (by rfl) ?_ ?_); (· (repeat (first | (with_reducible exact frLe_nil) | (with_reducible refine frLe_any ?_) | (with_reducible refine frLe_val ?_) | ((with_reducible refine frLe_eq rfl ?_ ?_); (· rfl)) | ((with_reducible refine frLe_val' (int_eq ?_) ?_ ?_); (· omega); (· rfl)) | ((with_reducible refine frLe_val' (int_eq ?_) ?_ ?_); (· simp only [Int.natCast_add, Int.natCast_one, Int.natCast_ofNat] <;> omega); (· rfl)) | ((with_reducible refine frLe_val' (bool_eq ?_) ?_ ?_); (· first | assumption | (symm; assumption)); (· rfl))))))
          exact hpLe_own (by omega) (by rw [show e = k + 1 + (L - k) by omega]) hpLe_nil
end
end Go.Proofs.YthbppimjaealnaaDoor
