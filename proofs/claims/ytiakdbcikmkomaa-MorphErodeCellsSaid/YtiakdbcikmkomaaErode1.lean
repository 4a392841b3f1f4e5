/-
  morph.erode: the walk (printed by mkerode1.py).
-/
import Derived.Test.YtiakdbcikmkomaaErodeLaw
import Derived.Test.YtiakdbcikmkomaaRegChk
import Derived.Test.YtiakdbcikmkomaaCloneR
import Derived.Test.YtiakdbcikmkomaaMrg13
namespace Go.Proofs.Ytiakdbcikmkomaa
open Go.RowKit
set_option linter.unusedVariables false
set_option linter.unusedSimpArgs false
set_option maxRecDepth 20000
abbrev HE (w : Int) (f : Int → Option Value) (A : Option Addr) (L : List Run) (c : Nat) (B0 : Blk) : Option (Int × List Run) → List Blk
  | none => [.cells 3 [.val (.int .i64 w)], .mp f [] [], .cells 47 [.mpv 1], .cells 22 [.val (.slice A L.length c)], B0, .gone]
  | some (y, l) => [.cells 3 [.val (.int .i64 w)], .mp f [y] [.own 5], .cells 47 [.mpv 1], .cells 22 [.val (.slice A L.length c)], B0, .own 34 3 l.length (flatR l)]
abbrev HN (w : Int) (f : Int → Option Value) (A : Option Addr) (L : List Run) (c : Nat) (B1 : Blk) (y : Int) (n : Nat) (xs : List Value) : List Run → List Blk
  | [] => [.cells 3 [.val (.int .i64 w)], .mp f [] [], .cells 47 [.mpv 1], .cells 22 [.val (.slice A L.length c)], B1, .gone, .own 34 3 n xs]
  | s :: l => [.cells 3 [.val (.int .i64 w)], .mp f [y] [.own 7], .cells 47 [.mpv 1], .cells 22 [.val (.slice A L.length c)], B1, .gone, .own 34 3 n xs, .own 34 3 (s :: l).length (flatR (s :: l))]
theorem HN_nil {m : Nat} {w : Int} {f : Int → Option Value} {A : Option Addr} {L : List Run} {c : Nat} {B1 : Blk} {j : LpI} {fr : List AV} {st : LoopState} {q : Option Code} {l : List Blk} {y : Int} {n : Nat} {xs : List Value} (hB : B1 = .lp j fr st q) (hu : AV.unders (m + 7) fr = true) (x : Blk) :
    hpLe (m + 7) (.cells 3 [.val (.int .i64 w)] :: .mp f [] [] :: .cells 47 [.mpv 1] :: .cells 22 [.val (.slice A L.length c)] :: B1 :: x :: .own 34 3 n xs :: l) (HN w f A L c B1 y n xs []) := by
  have one : ∀ (x : Value), frLe (m + 7) [.val x] [.val x] := fun x => frLe_val frLe_nil
  refine hpLe_cells (one _) ⟨⟨⟨rfl, rfl⟩, frLe_nil⟩, hpLe_cells (frLe_eq rfl (by simp [AV.under]) frLe_nil) (hpLe_cells (one _) (hpLe_lpw hB (under_all hu) ⟨?_, hpLe_own rfl rfl hpLe_nil⟩))⟩
  cases x <;> trivial
theorem HN_cons {m : Nat} {w : Int} {f : Int → Option Value} {A : Option Addr} {L : List Run} {c : Nat} {B1 : Blk} {j : LpI} {fr : List AV} {st : LoopState} {q : Option Code} {l : List Blk} {y : Int} {n : Nat} {xs : List Value} {s : Run} {k : List Run} {n' : Nat} {ys : List Value} (hB : B1 = .lp j fr st q) (hu : AV.unders (m + 8) fr = true) (x : Blk) (hn : n' = (s :: k).length) (hy : ys = flatR (s :: k)) :
    hpLe (m + 8) (.cells 3 [.val (.int .i64 w)] :: .mp f [y] [.own 7] :: .cells 47 [.mpv 1] :: .cells 22 [.val (.slice A L.length c)] :: B1 :: x :: .own 34 3 n xs :: .own 34 3 n' ys :: l) (HN w f A L c B1 y n xs (s :: k)) := by
  subst hn hy
  have one : ∀ (x : Value), frLe (m + 8) [.val x] [.val x] := fun x => frLe_val frLe_nil
  refine hpLe_cells (one _) ⟨⟨⟨rfl, rfl⟩, frLe_eq rfl (by simp [AV.under]) frLe_nil⟩, hpLe_cells (frLe_eq rfl (by simp [AV.under]) frLe_nil) (hpLe_cells (one _) (hpLe_lpw hB (under_all hu) ⟨?_, hpLe_own rfl rfl (hpLe_own rfl rfl hpLe_nil)⟩))⟩
  cases x <;> trivial
theorem HE_none {m : Nat} {w : Int} {f : Int → Option Value} {A : Option Addr} {L : List Run} {c : Nat} {B0 : Blk} {j : LpI} {fr : List AV} {st : LoopState} {q : Option Code} {l : List Blk} (hB : B0 = .lp j fr st q) (hu : AV.unders (m + 6) fr = true) (x : Blk) :
    hpLe (m + 6) (.cells 3 [.val (.int .i64 w)] :: .mp f [] [] :: .cells 47 [.mpv 1] :: .cells 22 [.val (.slice A L.length c)] :: B0 :: x :: l) (HE w f A L c B0 none) := by
  have one : ∀ (x : Value), frLe (m + 6) [.val x] [.val x] := fun x => frLe_val frLe_nil
  refine hpLe_cells (one _) ⟨⟨⟨rfl, rfl⟩, frLe_nil⟩, hpLe_cells (frLe_eq rfl (by simp [AV.under]) frLe_nil) (hpLe_cells (one _) (hpLe_lpw hB (under_all hu) ⟨?_, hpLe_nil⟩))⟩
  cases x <;> trivial
theorem HE_some {m : Nat} {w : Int} {f : Int → Option Value} {A : Option Addr} {L : List Run} {c : Nat} {B0 : Blk} {j : LpI} {fr : List AV} {st : LoopState} {q : Option Code} {l : List Blk} {y : Int} {k : List Run} {n : Nat} {xs : List Value} (hB : B0 = .lp j fr st q) (hu : AV.unders (m + 6) fr = true) (hn : n = k.length) (hx : xs = flatR k) :
    hpLe (m + 6) (.cells 3 [.val (.int .i64 w)] :: .mp f [y] [.own 5] :: .cells 47 [.mpv 1] :: .cells 22 [.val (.slice A L.length c)] :: B0 :: .own 34 3 n xs :: l) (HE w f A L c B0 (some (y, k))) := by
  subst hn hx
  have one : ∀ (x : Value), frLe (m + 6) [.val x] [.val x] := fun x => frLe_val frLe_nil
  exact hpLe_cells (one _) ⟨⟨⟨rfl, rfl⟩, frLe_eq rfl (by simp [AV.under]) frLe_nil⟩, hpLe_cells (frLe_eq rfl (by simp [AV.under]) frLe_nil) (hpLe_cells (one _) (hpLe_lpw hB (under_all hu) (hpLe_own rfl rfl hpLe_nil)))⟩
abbrev HS (w : Int) (f : Int → Option Value) (A : Option Addr) (L : List Run) (c : Nat) (C0 : Blk) (out : List Run) : List Blk :=
  [.cells 3 [.val (.int .i64 w)], .mp f [] [], .cells 47 [.mpv 1], .gone, .gone, .gone, .cells 45 [.own 9], .cells 22 [.val (.slice A L.length c)], C0, .own 34 3 out.length (flatR out)]
theorem HS_le {m : Nat} {w : Int} {f : Int → Option Value} {A : Option Addr} {L : List Run} {c : Nat} {C0 : Blk} {out : List Run} {j : LpI} {fr : List AV} {st : LoopState} {q : Option Code} {l : List Blk} {n : Nat} {xs : List Value} (x3 x4 x5 : Blk) (hB : C0 = .lp j fr st q) (hu : AV.unders (m + 10) fr = true) (hn : n = out.length) (hx : xs = flatR out) :
    hpLe (m + 10) (.cells 3 [.val (.int .i64 w)] :: .mp f [] [] :: .cells 47 [.mpv 1] :: x3 :: x4 :: x5 :: .cells 45 [.own 9] :: .cells 22 [.val (.slice A L.length c)] :: C0 :: .own 34 3 n xs :: l) (HS w f A L c C0 out) := by
  subst hn hx
  have one : ∀ (x : Value), frLe (m + 10) [.val x] [.val x] := fun x => frLe_val frLe_nil
  have gone : ∀ x : Blk, x.wk (m + 10) .gone := fun x => by cases x <;> trivial
  exact hpLe_cells (one _) ⟨⟨⟨rfl, rfl⟩, frLe_nil⟩, hpLe_cells (frLe_eq rfl (by simp [AV.under]) frLe_nil) ⟨gone _, gone _, gone _, hpLe_cells (frLe_eq rfl (by simp [AV.under]) frLe_nil) (hpLe_cells (one _) (hpLe_lpw hB (under_all hu) (hpLe_own rfl rfl hpLe_nil)))⟩⟩
abbrev HT (w : Int) (f : Int → Option Value) (A : Option Addr) (L : List Run) (c : Nat) (C1 : Blk) (out : List Run) (k : Nat) (ys : List Value) : List Blk :=
  [.cells 3 [.val (.int .i64 w)], .mp f [] [], .cells 47 [.mpv 1], .gone, .gone, .gone, .cells 45 [.own 9], .cells 22 [.val (.slice A L.length c)], C1, .own 34 3 out.length (flatR out), .own 34 3 k ys]
theorem HT_le {m : Nat} {w : Int} {f : Int → Option Value} {A : Option Addr} {L : List Run} {c : Nat} {C1 : Blk} {out : List Run} {j : LpI} {fr : List AV} {st : LoopState} {q : Option Code} {l : List Blk} {n : Nat} {xs : List Value} {k : Nat} {ys : List Value} (x3 x4 x5 : Blk) (hB : C1 = .lp j fr st q) (hu : AV.unders (m + 11) fr = true) (hn : n = out.length) (hx : xs = flatR out) :
    hpLe (m + 11) (.cells 3 [.val (.int .i64 w)] :: .mp f [] [] :: .cells 47 [.mpv 1] :: x3 :: x4 :: x5 :: .cells 45 [.own 9] :: .cells 22 [.val (.slice A L.length c)] :: C1 :: .own 34 3 n xs :: .own 34 3 k ys :: l) (HT w f A L c C1 out k ys) := by
  subst hn hx
  have one : ∀ (x : Value), frLe (m + 11) [.val x] [.val x] := fun x => frLe_val frLe_nil
  have gone : ∀ x : Blk, x.wk (m + 11) .gone := fun x => by cases x <;> trivial
  exact hpLe_cells (one _) ⟨⟨⟨rfl, rfl⟩, frLe_nil⟩, hpLe_cells (frLe_eq rfl (by simp [AV.under]) frLe_nil) ⟨gone _, gone _, gone _, hpLe_cells (frLe_eq rfl (by simp [AV.under]) frLe_nil) (hpLe_cells (one _) (hpLe_lpw hB (under_all hu) (hpLe_own rfl rfl (hpLe_own rfl rfl hpLe_nil))))⟩⟩
abbrev HU (w : Int) (f : Int → Option Value) (A : Option Addr) (L : List Run) (c : Nat) (C1 : Blk) (out : List Run) (k : Nat) (ys : List Value) : List Blk :=
  [.cells 3 [.val (.int .i64 w)], .mp f [] [], .cells 47 [.mpv 1], .gone, .gone, .gone, .cells 45 [.own 11], .cells 22 [.val (.slice A L.length c)], C1, .gone, .own 34 3 k ys, .own 34 3 out.length (flatR out)]
theorem HU_le {m : Nat} {w : Int} {f : Int → Option Value} {A : Option Addr} {L : List Run} {c : Nat} {C1 : Blk} {out : List Run} {j : LpI} {fr : List AV} {st : LoopState} {q : Option Code} {l : List Blk} {n : Nat} {xs : List Value} {k : Nat} {ys : List Value} (x3 x4 x5 x9 : Blk) (hB : C1 = .lp j fr st q) (hu : AV.unders (m + 12) fr = true) (hn : n = out.length) (hx : xs = flatR out) :
    hpLe (m + 12) (.cells 3 [.val (.int .i64 w)] :: .mp f [] [] :: .cells 47 [.mpv 1] :: x3 :: x4 :: x5 :: .cells 45 [.own 11] :: .cells 22 [.val (.slice A L.length c)] :: C1 :: x9 :: .own 34 3 k ys :: .own 34 3 n xs :: l) (HU w f A L c C1 out k ys) := by
  subst hn hx
  have one : ∀ (x : Value), frLe (m + 12) [.val x] [.val x] := fun x => frLe_val frLe_nil
  have gone : ∀ x : Blk, x.wk (m + 12) .gone := fun x => by cases x <;> trivial
  exact hpLe_cells (one _) ⟨⟨⟨rfl, rfl⟩, frLe_nil⟩, hpLe_cells (frLe_eq rfl (by simp [AV.under]) frLe_nil) ⟨gone _, gone _, gone _, hpLe_cells (frLe_eq rfl (by simp [AV.under]) frLe_nil) (hpLe_cells (one _) (hpLe_lpw hB (under_all hu) ⟨gone _, hpLe_own rfl rfl (hpLe_own rfl rfl hpLe_nil)⟩))⟩⟩
set_option maxHeartbeats 16000000 in
theorem erode_makes {A : Option Addr} {L : List Run} {c : Nat} {w : Int} {G : Mem} (hA : RunsM G A L) (hc : L.length ≤ c) (hm : c ≤ maxLen) (v : ValidL L) (he : errL L = 0) (hw : 0 ≤ w ∧ w ≤ 64) (hshort : L.length ≤ 10000) :
    Makes Try.prog 25 [.val (.slice A L.length c), .val (.int .i64 w)] G id 34 3 (outE w L L.length).length (flatR (outE w L L.length)) := by
  refine Makes_of tab_ok Try.func25 (.alone fun _ => rfl) ?_
  have hll := v.length
  (repeat ((try (conv => whnf)); (first | (with_reducible first | refine condP_true ?_ | refine condP_false ?_ | refine condP_not ?_ | refine condP_and ?_) | ((with_reducible refine condP_dt ?_ ?_); (· omega)) | ((with_reducible refine condP_df ?_ ?_); (· omega)) | ((with_reducible refine condP_yes ?_ ?_); (· assumption)) | ((with_reducible refine condP_no ?_ ?_); (· assumption)) | ((with_reducible refine ArP_i64 ?_ ?_); (· omega)) | ((with_reducible refine mustP.mk ?_ ?_); (· first | omega | rfl | (dsimp only; omega))) | (with_reducible first | refine EqP_nil tab_ok ?_ | refine EqP_sli tab_ok ?_ | refine DrawP_auto tab_ok (by kernel_rfl) (by decide +kernel) ?_ | refine DrawP_auto2 tab_ok (by kernel_rfl) (by decide +kernel) ?_ | refine eq34 ?_ | refine eq68 ?_ | refine CallP_enter tab_ok Try.func34 (fun vs w => by kernel_rfl) (by rfl) ?_))))
  conv => whnf
  refine RangeP_enter tab_ok Try.func43 (fun vs w => by kernel_rfl) ?_
  conv => whnf
  intro j G' B0 hB0 hps hca hbd hle
  have hA' := hA.mono hle
  have hC := Check_gives hA' hc hm
  rw [he] at hC
  (repeat ((try (conv => whnf)); (first | (with_reducible first | refine condP_true ?_ | refine condP_false ?_ | refine condP_not ?_ | refine condP_and ?_) | ((with_reducible refine condP_dt ?_ ?_); (· omega)) | ((with_reducible refine condP_df ?_ ?_); (· omega)) | ((with_reducible refine condP_yes ?_ ?_); (· assumption)) | ((with_reducible refine condP_no ?_ ?_); (· assumption)) | ((with_reducible refine ArP_i64 ?_ ?_); (· omega)) | ((with_reducible refine mustP.mk ?_ ?_); (· first | omega | rfl | (dsimp only; omega))) | (with_reducible first | refine EqP_nil tab_ok ?_ | refine EqP_sli tab_ok ?_ | refine DrawP_auto tab_ok (by kernel_rfl) (by decide +kernel) ?_ | refine DrawP_auto2 tab_ok (by kernel_rfl) (by decide +kernel) ?_ | refine eq34 ?_ | refine eq68 ?_ | refine CallP_gives (fun vs w => by kernel_rfl) (by kernel_rfl) (hC) ?_ | refine RCallP_gives (fun vs w => by kernel_rfl) (by kernel_rfl) (hC) ?_))))
  conv => whnf
  refine LoopP_atG tab_ok (ι := Nat × (Int → Option Value) × Option (Int × List Run) × Mem) (fun s => s.1 ≤ L.length ∧ (∀ r q, 0 < s.1 → L[s.1 - 1]? = some r → L[s.1]? = some q → r.y < q.y) ∧ G'.le s.2.2.2 ∧ RowsM w L s.2.2.2 s.2.1 s.2.2.1 s.1) (fun s => match s with | (i, f, hot, M) => [(3, .val (.int .i64 i))]) (fun s => match s with | (i, f, hot, M) => HE w f A L c B0 hot) (fun s => s.2.2.2) (fun s => L.length - s.1) (0, (fun _ => none), none, G') ⟨Nat.zero_le _, fun r q h => absurd h (Nat.lt_irrefl _), Mem.le_refl _, ⟨fun y _ => .inl ⟨rfl, rfl⟩, fun y l h => by cases h⟩⟩ ?_ ?_
  · refine Le_head ?_
    conv => whnf
    refine Le_pad ?_
    conv => whnf
    refine Le_mk (by rfl) (by rfl) (by (repeat (first | (with_reducible exact frLe_nil) | (with_reducible first | refine frLe_any ?_ | refine frLe_val ?_) | ((with_reducible refine frLe_eq rfl ?_ ?_); (· rfl)) | ((with_reducible refine frLe_val' (int_eq ?_) ?_ ?_); (· omega); (· rfl)) | ((with_reducible refine frLe_val' (int_eq ?_) ?_ ?_); (· simp only [Int.natCast_add, Int.natCast_one, Int.natCast_ofNat] <;> omega); (· rfl)) | ((with_reducible refine frLe_val' (bool_eq ?_) ?_ ?_); (· first | assumption | (symm; assumption)); (· rfl))))) ?_
    exact HE_none hB0 (by kernel_rfl) _
  · rintro ⟨i, f, hot, M⟩ ⟨hi, hlast, hGM, hrows⟩
    dsimp only at hi hlast hGM hrows ⊢
    have hAM := hA'.mono hGM
    rcases Nat.lt_or_ge i L.length with h1 | h1
    · obtain ⟨r, hr⟩ : ∃ r, L[i]? = some r := ⟨L[i], List.getElem?_eq_getElem h1⟩
      obtain ⟨p, rfl, q0, _⟩ := hAM.at_ hr
      obtain ⟨K, hK⟩ := row_at v hr
      have k1 := hK.lt
      have k2 := hK.le
      have hnew := narY_new (w := w) (y0 := 0) v hlast hr
      cases hot with
      | none =>
        (repeat ((try (conv => whnf)); (first | (with_reducible first | refine condP_true ?_ | refine condP_false ?_ | refine condP_not ?_ | refine condP_and ?_) | ((with_reducible refine condP_dt ?_ ?_); (· omega)) | ((with_reducible refine condP_df ?_ ?_); (· omega)) | ((with_reducible refine condP_yes ?_ ?_); (· assumption)) | ((with_reducible refine condP_no ?_ ?_); (· assumption)) | ((with_reducible refine ArP_i64 ?_ ?_); (· omega)) | ((with_reducible refine mustP.mk ?_ ?_); (· first | omega | rfl | (dsimp only; omega))) | (with_reducible first | refine EqP_nil tab_ok ?_ | refine EqP_sli tab_ok ?_ | refine DrawP_auto tab_ok (by kernel_rfl) (by decide +kernel) ?_ | refine DrawP_auto2 tab_ok (by kernel_rfl) (by decide +kernel) ?_ | refine eq34 ?_ | refine eq68 ?_))))
        conv => whnf
        refine LoopP_at tab_ok (fun t => i ≤ t ∧ t ≤ K) (fun (t : Nat) => [(4, .val (.int .i64 t))]) (fun t => HE w f (some p) L c B0 none) (fun t => K - t) i ⟨Nat.le_refl _, by omega⟩ ?_ ?_
        · ((refine Le_head ?_); (conv => whnf); (refine Le_mk (by rfl) (by rfl) ?_ ?_); (· (repeat (first | (with_reducible exact frLe_nil) | (with_reducible first | refine frLe_any ?_ | refine frLe_val ?_) | ((with_reducible refine frLe_eq rfl ?_ ?_); (· rfl)) | ((with_reducible refine frLe_val' (int_eq ?_) ?_ ?_); (· omega); (· rfl)) | ((with_reducible refine frLe_val' (int_eq ?_) ?_ ?_); (· simp only [Int.natCast_add, Int.natCast_one, Int.natCast_ofNat] <;> omega); (· rfl)) | ((with_reducible refine frLe_val' (bool_eq ?_) ?_ ?_); (· first | assumption | (symm; assumption)); (· rfl))))))
          exact HE_none hB0 (by kernel_rfl) _
        · rintro t ⟨ht, htK⟩
          rcases Nat.lt_or_ge t K with h2 | h2
          · obtain ⟨u, hu⟩ : ∃ u, L[t]? = some u := ⟨L[t]'(by omega), List.getElem?_eq_getElem (by omega)⟩
            obtain ⟨p', hp', u0, _⟩ := hAM.at_ hu
            obtain rfl := Option.some.inj hp'
            have hy := hK.same t u ht h2 hu
            rw [hy] at u0
            (repeat ((try (conv => whnf)); (first | (refine OldCells_one _ u0 ?_) | (refine OldCells_one _ q0 ?_) | (with_reducible first | refine condP_true ?_ | refine condP_false ?_ | refine condP_not ?_ | refine condP_and ?_) | ((with_reducible refine condP_dt ?_ ?_); (· omega)) | ((with_reducible refine condP_df ?_ ?_); (· omega)) | ((with_reducible refine condP_yes ?_ ?_); (· assumption)) | ((with_reducible refine condP_no ?_ ?_); (· assumption)) | ((with_reducible refine ArP_i64 ?_ ?_); (· omega)) | ((with_reducible refine mustP.mk ?_ ?_); (· first | omega | rfl | (dsimp only; omega))) | (with_reducible first | refine EqP_nil tab_ok ?_ | refine EqP_sli tab_ok ?_ | refine DrawP_auto tab_ok (by kernel_rfl) (by decide +kernel) ?_ | refine DrawP_auto2 tab_ok (by kernel_rfl) (by decide +kernel) ?_ | refine eq34 ?_ | refine eq68 ?_))))
            refine ⟨t + 1, ⟨by omega, by omega⟩, by omega, ?_⟩
            ((refine Le_head ?_); (conv => whnf); (refine Le_mk (by rfl) (by rfl) ?_ ?_); (· (repeat (first | (with_reducible exact frLe_nil) | (with_reducible first | refine frLe_any ?_ | refine frLe_val ?_) | ((with_reducible refine frLe_eq rfl ?_ ?_); (· rfl)) | ((with_reducible refine frLe_val' (int_eq ?_) ?_ ?_); (· omega); (· rfl)) | ((with_reducible refine frLe_val' (int_eq ?_) ?_ ?_); (· simp only [Int.natCast_add, Int.natCast_one, Int.natCast_ofNat] <;> omega); (· rfl)) | ((with_reducible refine frLe_val' (bool_eq ?_) ?_ ?_); (· first | assumption | (symm; assumption)); (· rfl))))))
            exact HE_none hB0 (by kernel_rfl) _
          · obtain rfl : t = K := by omega
            have hne : c ≠ i := by omega
            have hlen : ((L.drop i).take (t - i)).length = t - i := by rw [List.length_take, List.length_drop]; omega
            have mk : Makes Try.prog 39 [.val (.slice (if c = (i : Int).toNat then some p else Option.map (fun x => x.add ((i : Int).toNat * 3)) (some p)) ((t : Int).toNat - (i : Int).toNat) (c - (i : Int).toNat))] M id 34 3 (t - i) (flatR ((L.drop i).take (t - i))) := by
              have h := CloneR_makes (c := c - i) (runs_sub hAM i (t - i)) (by rw [hlen]; omega)
              rw [hlen] at h
              simp only [Int.toNat_natCast, if_neg hne, Option.map_some]
              exact h
            rcases Nat.lt_or_ge t L.length with h3 | h3
            · obtain ⟨u, hu⟩ : ∃ u, L[t]? = some u := ⟨L[t]'(by omega), List.getElem?_eq_getElem (by omega)⟩
              obtain ⟨p', hp', u0, _⟩ := hAM.at_ hu
              obtain rfl := Option.some.inj hp'
              have hy := hK.next u hu
              (repeat ((try (conv => whnf)); (first | (refine OldCells_one _ u0 ?_) | (refine OldCells_one _ q0 ?_) | (with_reducible refine DrawP_mk tab_ok (by kernel_rfl) 11 [] (by decide +kernel) ?_) | (refine RCallP_makes (fun vs w => by kernel_rfl) (.alone fun _ => rfl) (by kernel_rfl) mk ?_) | (with_reducible first | refine condP_true ?_ | refine condP_false ?_ | refine condP_not ?_ | refine condP_and ?_) | ((with_reducible refine condP_dt ?_ ?_); (· omega)) | ((with_reducible refine condP_df ?_ ?_); (· omega)) | ((with_reducible refine condP_yes ?_ ?_); (· assumption)) | ((with_reducible refine condP_no ?_ ?_); (· assumption)) | ((with_reducible refine ArP_i64 ?_ ?_); (· omega)) | ((with_reducible refine mustP.mk ?_ ?_); (· first | omega | rfl | (dsimp only; omega))) | (with_reducible first | refine EqP_nil tab_ok ?_ | refine EqP_sli tab_ok ?_ | refine DrawP_auto tab_ok (by kernel_rfl) (by decide +kernel) ?_ | refine DrawP_auto2 tab_ok (by kernel_rfl) (by decide +kernel) ?_ | refine eq34 ?_ | refine eq68 ?_))))
              refine YieldP_round (n := 7) tab_ok rfl hB0 hps hca hbd (by kernel_rfl) (by kernel_rfl) (by kernel_rfl) (by kernel_rfl) (by rfl) ?_
              (repeat ((try (conv => whnf)); (first | (with_reducible first | refine condP_true ?_ | refine condP_false ?_ | refine condP_not ?_ | refine condP_and ?_) | ((with_reducible refine condP_dt ?_ ?_); (· omega)) | ((with_reducible refine condP_df ?_ ?_); (· omega)) | ((with_reducible refine condP_yes ?_ ?_); (· assumption)) | ((with_reducible refine condP_no ?_ ?_); (· assumption)) | ((with_reducible refine ArP_i64 ?_ ?_); (· omega)) | ((with_reducible refine mustP.mk ?_ ?_); (· first | omega | rfl | (dsimp only; omega))) | (with_reducible first | refine EqP_nil tab_ok ?_ | refine EqP_sli tab_ok ?_ | refine DrawP_auto tab_ok (by kernel_rfl) (by decide +kernel) ?_ | refine DrawP_auto2 tab_ok (by kernel_rfl) (by decide +kernel) ?_ | refine eq34 ?_ | refine eq68 ?_))))
              intro B1 hB1
              (repeat ((try (conv => whnf)); (first | (with_reducible first | refine condP_true ?_ | refine condP_false ?_ | refine condP_not ?_ | refine condP_and ?_) | ((with_reducible refine condP_dt ?_ ?_); (· omega)) | ((with_reducible refine condP_df ?_ ?_); (· omega)) | ((with_reducible refine condP_yes ?_ ?_); (· assumption)) | ((with_reducible refine condP_no ?_ ?_); (· assumption)) | ((with_reducible refine ArP_i64 ?_ ?_); (· omega)) | ((with_reducible refine mustP.mk ?_ ?_); (· first | omega | rfl | (dsimp only; omega))) | (with_reducible first | refine EqP_nil tab_ok ?_ | refine EqP_sli tab_ok ?_ | refine DrawP_auto tab_ok (by kernel_rfl) (by decide +kernel) ?_ | refine DrawP_auto2 tab_ok (by kernel_rfl) (by decide +kernel) ?_ | refine eq34 ?_ | refine eq68 ?_))))
              conv => whnf
              refine LoopP_at2 tab_ok (fun (x : Nat) (l : List Run) => x ≤ t - i ∧ l = narY w (L.take (i + x)) r.y) (fun (x : Nat) l => [(23, .val (.int .i64 x))]) (fun x l => HN w f (some p) L c B1 r.y (t - i) (flatR (List.take (t - i) (List.drop i L))) l) (fun x l => t - i - x) 0 [] ⟨Nat.zero_le _, hnew.symm⟩ ?_ ?_
              · ((refine Le_head ?_); (conv => whnf); (refine Le_mk (by rfl) (by rfl) ?_ ?_); (· (repeat (first | (with_reducible exact frLe_nil) | (with_reducible first | refine frLe_any ?_ | refine frLe_val ?_) | ((with_reducible refine frLe_eq rfl ?_ ?_); (· rfl)) | ((with_reducible refine frLe_val' (int_eq ?_) ?_ ?_); (· omega); (· rfl)) | ((with_reducible refine frLe_val' (int_eq ?_) ?_ ?_); (· simp only [Int.natCast_add, Int.natCast_one, Int.natCast_ofNat] <;> omega); (· rfl)) | ((with_reducible refine frLe_val' (bool_eq ?_) ?_ ?_); (· first | assumption | (symm; assumption)); (· rfl))))))
                exact HN_nil hB1 (by kernel_rfl) _
              · rintro x l ⟨hx, hl⟩
                rcases Nat.lt_or_ge x (t - i) with h4 | h4
                · obtain ⟨s, hs⟩ : ∃ s, L[i + x]? = some s := ⟨L[i + x]'(by omega), List.getElem?_eq_getElem (by omega)⟩
                  have hsy := hK.same (i + x) s (by omega) (by omega) hs
                  have hsub : (List.take (t - i) (List.drop i L))[x]? = some s := by rw [List.getElem?_take, if_pos h4, List.getElem?_drop]; exact hs
                  obtain ⟨c0, c1, c2⟩ := flatR_get hsub
                  have e3 : ∀ K : List Value → Prop, K [.int .i64 s.y, .int .i64 s.x0, .int .i64 s.x1] → OwnCells (flatR (List.take (t - i) (List.drop i L))) ((x : Int).toNat * 3) 3 K := fun K k => OwnCells_list _ rfl (fun j u hj => by
                    rw [Int.toNat_natCast]
                    match j, hj with
                    | 0, hj => simp at hj; subst hj; exact c0
                    | 1, hj => simp at hj; subst hj; exact c1
                    | 2, hj => simp at hj; subst hj; exact c2) k
                  have hnx := narY_next (w := w) (x := i + x) hs r.y
                  rw [← hl, narY_one, if_pos hsy] at hnx
                  have hbd := v.bd (List.mem_of_getElem? hs)
                  have hll2 : l.length ≤ L.length := by rw [hl]; exact Nat.le_trans (narY_len _ _ _) (by rw [List.length_take]; omega)
                  by_cases ht : s.x0 + w < s.x1 - w
                  · rw [if_pos ht, hsy] at hnx
                    cases l with
                    | nil =>
                      have hfy : f r.y = none := by
                        have := hrows.1 r.y (fun l hl => by cases hl)
                        rw [hnew] at this
                        rcases this with h | h
                        · exact h.2
                        · exact absurd rfl h.1
                      have hlook : lookA r.y (.val ((f r.y).getD (.slice none 0 0))) [] [] = .val (.slice none 0 0) := by rw [hfy]; rfl
                      (repeat ((try (conv => whnf)); (first | (with_reducible refine e3 _ ?_) | (refine LookP.mk 3 22 (.slice none 0 0) (by kernel_rfl) (by kernel_rfl) (fun w => by kernel_rfl) _ hlook ?_) | (with_reducible refine DrawP_mk tab_ok (by kernel_rfl) 17 [] (by decide +kernel) ?_) | (refine PutP.new 3 22 (by kernel_rfl) (by kernel_rfl) rfl ?_) | (with_reducible first | refine condP_true ?_ | refine condP_false ?_ | refine condP_not ?_ | refine condP_and ?_) | ((with_reducible refine condP_dt ?_ ?_); (· omega)) | ((with_reducible refine condP_df ?_ ?_); (· omega)) | ((with_reducible refine condP_yes ?_ ?_); (· assumption)) | ((with_reducible refine condP_no ?_ ?_); (· assumption)) | ((with_reducible refine ArP_i64 ?_ ?_); (· omega)) | ((with_reducible refine mustP.mk ?_ ?_); (· first | omega | rfl | (dsimp only; omega))) | (with_reducible first | refine EqP_nil tab_ok ?_ | refine EqP_sli tab_ok ?_ | refine DrawP_auto tab_ok (by kernel_rfl) (by decide +kernel) ?_ | refine DrawP_auto2 tab_ok (by kernel_rfl) (by decide +kernel) ?_ | refine eq34 ?_ | refine eq68 ?_))))
                      conv => whnf
                      refine ⟨x + 1, [⟨r.y, s.x0 + w, s.x1 - w⟩], ⟨by omega, hnx.symm⟩, by omega, ?_⟩
                      refine Le_head ?_
                      conv => whnf
                      rw [hB1]
                      refine Le_move 9 7 (by rfl) (by rfl) (by rfl) (by rfl) ?_
                      conv => whnf
                      refine Le_mk (by rfl) (by rfl) (by (repeat (first | (with_reducible exact frLe_nil) | (with_reducible first | refine frLe_any ?_ | refine frLe_val ?_) | ((with_reducible refine frLe_eq rfl ?_ ?_); (· rfl)) | ((with_reducible refine frLe_val' (int_eq ?_) ?_ ?_); (· omega); (· rfl)) | ((with_reducible refine frLe_val' (int_eq ?_) ?_ ?_); (· simp only [Int.natCast_add, Int.natCast_one, Int.natCast_ofNat] <;> omega); (· rfl)) | ((with_reducible refine frLe_val' (bool_eq ?_) ?_ ?_); (· first | assumption | (symm; assumption)); (· rfl))))) ?_
                      exact HN_cons rfl (by kernel_rfl) _ rfl rfl
                    | cons s0 l0' =>
                      have hlook : lookA r.y (.val ((f r.y).getD (.slice none 0 0))) [r.y] [.own 7] = .own 7 := by simp [lookA]
                      have hhas : hasK r.y [r.y] = true := by simp [hasK]
                      have hput : putA r.y (.own 10) [r.y] [.own 7] = [.own 10] := by simp [putA]
                      have e0 : (s0 :: l0').length = l0'.length + 1 := rfl
                      (repeat ((try (conv => whnf)); (first | (with_reducible refine e3 _ ?_) | (refine LookP.mk 3 22 (.slice none 0 0) (by kernel_rfl) (by kernel_rfl) (fun w => by kernel_rfl) _ hlook ?_) | (with_reducible refine DrawP_mk tab_ok (by kernel_rfl) 17 [7] (by decide +kernel) ?_) | (refine PutP.old 3 22 (by kernel_rfl) (by kernel_rfl) hhas [.own 10] hput ?_) | (with_reducible first | refine condP_true ?_ | refine condP_false ?_ | refine condP_not ?_ | refine condP_and ?_) | ((with_reducible refine condP_dt ?_ ?_); (· omega)) | ((with_reducible refine condP_df ?_ ?_); (· omega)) | ((with_reducible refine condP_yes ?_ ?_); (· assumption)) | ((with_reducible refine condP_no ?_ ?_); (· assumption)) | ((with_reducible refine ArP_i64 ?_ ?_); (· omega)) | ((with_reducible refine mustP.mk ?_ ?_); (· first | omega | rfl | (dsimp only; omega))) | (with_reducible first | refine EqP_nil tab_ok ?_ | refine EqP_sli tab_ok ?_ | refine DrawP_auto tab_ok (by kernel_rfl) (by decide +kernel) ?_ | refine DrawP_auto2 tab_ok (by kernel_rfl) (by decide +kernel) ?_ | refine eq34 ?_ | refine eq68 ?_))))
                      conv => whnf
                      refine ⟨x + 1, (s0 :: l0') ++ [⟨r.y, s.x0 + w, s.x1 - w⟩], ⟨by omega, hnx.symm⟩, by omega, ?_⟩
                      refine Le_head ?_
                      conv => whnf
                      rw [hB1]
                      refine Le_move 10 7 (by rfl) (by rfl) (by rfl) (by rfl) ?_
                      conv => whnf
                      refine Le_mk (by rfl) (by rfl) (by (repeat (first | (with_reducible exact frLe_nil) | (with_reducible first | refine frLe_any ?_ | refine frLe_val ?_) | ((with_reducible refine frLe_eq rfl ?_ ?_); (· rfl)) | ((with_reducible refine frLe_val' (int_eq ?_) ?_ ?_); (· omega); (· rfl)) | ((with_reducible refine frLe_val' (int_eq ?_) ?_ ?_); (· simp only [Int.natCast_add, Int.natCast_one, Int.natCast_ofNat] <;> omega); (· rfl)) | ((with_reducible refine frLe_val' (bool_eq ?_) ?_ ?_); (· first | assumption | (symm; assumption)); (· rfl))))) ?_
                      exact HN_cons rfl (by kernel_rfl) _ (by simp) (by show _ = flatR ((s0 :: l0') ++ [(⟨r.y, s.x0 + w, s.x1 - w⟩ : Run)]); rw [flatR_append, flatR_one])
                  · rw [if_neg ht, List.append_nil] at hnx
                    cases l with
                    | nil =>
                      (repeat ((try (conv => whnf)); (first | (with_reducible first | refine e3 _ ?_ | refine condP_true ?_ | refine condP_false ?_ | refine condP_not ?_ | refine condP_and ?_) | ((with_reducible refine condP_dt ?_ ?_); (· omega)) | ((with_reducible refine condP_df ?_ ?_); (· omega)) | ((with_reducible refine condP_yes ?_ ?_); (· assumption)) | ((with_reducible refine condP_no ?_ ?_); (· assumption)) | ((with_reducible refine ArP_i64 ?_ ?_); (· omega)) | ((with_reducible refine mustP.mk ?_ ?_); (· first | omega | rfl | (dsimp only; omega))) | (with_reducible first | refine EqP_nil tab_ok ?_ | refine EqP_sli tab_ok ?_ | refine DrawP_auto tab_ok (by kernel_rfl) (by decide +kernel) ?_ | refine DrawP_auto2 tab_ok (by kernel_rfl) (by decide +kernel) ?_ | refine eq34 ?_ | refine eq68 ?_))))
                      conv => whnf
                      refine ⟨x + 1, [], ⟨by omega, hnx.symm⟩, by omega, ?_⟩
                      refine Le_head ?_
                      conv => whnf
                      rw [hB1]
                      refine Le_mk (by rfl) (by rfl) (by (repeat (first | (with_reducible exact frLe_nil) | (with_reducible first | refine frLe_any ?_ | refine frLe_val ?_) | ((with_reducible refine frLe_eq rfl ?_ ?_); (· rfl)) | ((with_reducible refine frLe_val' (int_eq ?_) ?_ ?_); (· omega); (· rfl)) | ((with_reducible refine frLe_val' (int_eq ?_) ?_ ?_); (· simp only [Int.natCast_add, Int.natCast_one, Int.natCast_ofNat] <;> omega); (· rfl)) | ((with_reducible refine frLe_val' (bool_eq ?_) ?_ ?_); (· first | assumption | (symm; assumption)); (· rfl))))) ?_
                      exact HN_nil rfl (by kernel_rfl) _
                    | cons s0 l0' =>
                      (repeat ((try (conv => whnf)); (first | (with_reducible first | refine e3 _ ?_ | refine condP_true ?_ | refine condP_false ?_ | refine condP_not ?_ | refine condP_and ?_) | ((with_reducible refine condP_dt ?_ ?_); (· omega)) | ((with_reducible refine condP_df ?_ ?_); (· omega)) | ((with_reducible refine condP_yes ?_ ?_); (· assumption)) | ((with_reducible refine condP_no ?_ ?_); (· assumption)) | ((with_reducible refine ArP_i64 ?_ ?_); (· omega)) | ((with_reducible refine mustP.mk ?_ ?_); (· first | omega | rfl | (dsimp only; omega))) | (with_reducible first | refine EqP_nil tab_ok ?_ | refine EqP_sli tab_ok ?_ | refine DrawP_auto tab_ok (by kernel_rfl) (by decide +kernel) ?_ | refine DrawP_auto2 tab_ok (by kernel_rfl) (by decide +kernel) ?_ | refine eq34 ?_ | refine eq68 ?_))))
                      conv => whnf
                      refine ⟨x + 1, s0 :: l0', ⟨by omega, hnx.symm⟩, by omega, ?_⟩
                      refine Le_head ?_
                      conv => whnf
                      rw [hB1]
                      refine Le_mk (by rfl) (by rfl) (by (repeat (first | (with_reducible exact frLe_nil) | (with_reducible first | refine frLe_any ?_ | refine frLe_val ?_) | ((with_reducible refine frLe_eq rfl ?_ ?_); (· rfl)) | ((with_reducible refine frLe_val' (int_eq ?_) ?_ ?_); (· omega); (· rfl)) | ((with_reducible refine frLe_val' (int_eq ?_) ?_ ?_); (· simp only [Int.natCast_add, Int.natCast_one, Int.natCast_ofNat] <;> omega); (· rfl)) | ((with_reducible refine frLe_val' (bool_eq ?_) ?_ ?_); (· first | assumption | (symm; assumption)); (· rfl))))) ?_
                      exact HN_cons rfl (by kernel_rfl) _ rfl rfl
                · obtain rfl : x = t - i := by omega
                  have hit : i + (t - i) = t := by omega
                  rw [hit] at hl
                  cases l with
                  | nil =>
                    (repeat ((try (conv => whnf)); (first | (with_reducible first | refine condP_true ?_ | refine condP_false ?_ | refine condP_not ?_ | refine condP_and ?_) | ((with_reducible refine condP_dt ?_ ?_); (· omega)) | ((with_reducible refine condP_df ?_ ?_); (· omega)) | ((with_reducible refine condP_yes ?_ ?_); (· assumption)) | ((with_reducible refine condP_no ?_ ?_); (· assumption)) | ((with_reducible refine ArP_i64 ?_ ?_); (· omega)) | ((with_reducible refine mustP.mk ?_ ?_); (· first | omega | rfl | (dsimp only; omega))) | (with_reducible first | refine EqP_nil tab_ok ?_ | refine EqP_sli tab_ok ?_ | refine DrawP_auto tab_ok (by kernel_rfl) (by decide +kernel) ?_ | refine DrawP_auto2 tab_ok (by kernel_rfl) (by decide +kernel) ?_ | refine eq34 ?_ | refine eq68 ?_))))
                    refine ⟨(t, f, none, M), ⟨by dsimp only; omega, fun q u h5 hq hu => hK.edge hq hu, by exact hGM, hrows.skip hK hnew hl.symm⟩, by dsimp only; omega, ?_⟩
                    refine Le_head ?_
                    conv => whnf
                    rw [hB0]
                    refine Le_mk (by rfl) (by rfl) (by (repeat (first | (with_reducible exact frLe_nil) | (with_reducible first | refine frLe_any ?_ | refine frLe_val ?_) | ((with_reducible refine frLe_eq rfl ?_ ?_); (· rfl)) | ((with_reducible refine frLe_val' (int_eq ?_) ?_ ?_); (· omega); (· rfl)) | ((with_reducible refine frLe_val' (int_eq ?_) ?_ ?_); (· simp only [Int.natCast_add, Int.natCast_one, Int.natCast_ofNat] <;> omega); (· rfl)) | ((with_reducible refine frLe_val' (bool_eq ?_) ?_ ?_); (· first | assumption | (symm; assumption)); (· rfl))))) ?_
                    exact HE_none rfl (by kernel_rfl) _
                  | cons s0 l0' =>
                    (repeat ((try (conv => whnf)); (first | (with_reducible first | refine condP_true ?_ | refine condP_false ?_ | refine condP_not ?_ | refine condP_and ?_) | ((with_reducible refine condP_dt ?_ ?_); (· omega)) | ((with_reducible refine condP_df ?_ ?_); (· omega)) | ((with_reducible refine condP_yes ?_ ?_); (· assumption)) | ((with_reducible refine condP_no ?_ ?_); (· assumption)) | ((with_reducible refine ArP_i64 ?_ ?_); (· omega)) | ((with_reducible refine mustP.mk ?_ ?_); (· first | omega | rfl | (dsimp only; omega))) | (with_reducible first | refine EqP_nil tab_ok ?_ | refine EqP_sli tab_ok ?_ | refine DrawP_auto tab_ok (by kernel_rfl) (by decide +kernel) ?_ | refine DrawP_auto2 tab_ok (by kernel_rfl) (by decide +kernel) ?_ | refine eq34 ?_ | refine eq68 ?_))))
                    refine ⟨(t, f, some (r.y, s0 :: l0'), M), ⟨by dsimp only; omega, fun q u h5 hq hu => hK.edge hq hu, by exact hGM, hrows.next hK hl.symm (by simp)⟩, by dsimp only; omega, ?_⟩
                    refine Le_head ?_
                    conv => whnf
                    rw [hB0]
                    refine Le_move 7 5 (by rfl) (by rfl) (by rfl) (by rfl) ?_
                    conv => whnf
                    refine Le_mk (by rfl) (by rfl) (by (repeat (first | (with_reducible exact frLe_nil) | (with_reducible first | refine frLe_any ?_ | refine frLe_val ?_) | ((with_reducible refine frLe_eq rfl ?_ ?_); (· rfl)) | ((with_reducible refine frLe_val' (int_eq ?_) ?_ ?_); (· omega); (· rfl)) | ((with_reducible refine frLe_val' (int_eq ?_) ?_ ?_); (· simp only [Int.natCast_add, Int.natCast_one, Int.natCast_ofNat] <;> omega); (· rfl)) | ((with_reducible refine frLe_val' (bool_eq ?_) ?_ ?_); (· first | assumption | (symm; assumption)); (· rfl))))) ?_
                    exact HE_some rfl (by kernel_rfl) rfl rfl
            · (repeat ((try (conv => whnf)); (first | (refine OldCells_one _ q0 ?_) | (with_reducible refine DrawP_mk tab_ok (by kernel_rfl) 11 [] (by decide +kernel) ?_) | (refine RCallP_makes (fun vs w => by kernel_rfl) (.alone fun _ => rfl) (by kernel_rfl) mk ?_) | (with_reducible first | refine condP_true ?_ | refine condP_false ?_ | refine condP_not ?_ | refine condP_and ?_) | ((with_reducible refine condP_dt ?_ ?_); (· omega)) | ((with_reducible refine condP_df ?_ ?_); (· omega)) | ((with_reducible refine condP_yes ?_ ?_); (· assumption)) | ((with_reducible refine condP_no ?_ ?_); (· assumption)) | ((with_reducible refine ArP_i64 ?_ ?_); (· omega)) | ((with_reducible refine mustP.mk ?_ ?_); (· first | omega | rfl | (dsimp only; omega))) | (with_reducible first | refine EqP_nil tab_ok ?_ | refine EqP_sli tab_ok ?_ | refine DrawP_auto tab_ok (by kernel_rfl) (by decide +kernel) ?_ | refine DrawP_auto2 tab_ok (by kernel_rfl) (by decide +kernel) ?_ | refine eq34 ?_ | refine eq68 ?_))))
              refine YieldP_round (n := 7) tab_ok rfl hB0 hps hca hbd (by kernel_rfl) (by kernel_rfl) (by kernel_rfl) (by kernel_rfl) (by rfl) ?_
              (repeat ((try (conv => whnf)); (first | (with_reducible first | refine condP_true ?_ | refine condP_false ?_ | refine condP_not ?_ | refine condP_and ?_) | ((with_reducible refine condP_dt ?_ ?_); (· omega)) | ((with_reducible refine condP_df ?_ ?_); (· omega)) | ((with_reducible refine condP_yes ?_ ?_); (· assumption)) | ((with_reducible refine condP_no ?_ ?_); (· assumption)) | ((with_reducible refine ArP_i64 ?_ ?_); (· omega)) | ((with_reducible refine mustP.mk ?_ ?_); (· first | omega | rfl | (dsimp only; omega))) | (with_reducible first | refine EqP_nil tab_ok ?_ | refine EqP_sli tab_ok ?_ | refine DrawP_auto tab_ok (by kernel_rfl) (by decide +kernel) ?_ | refine DrawP_auto2 tab_ok (by kernel_rfl) (by decide +kernel) ?_ | refine eq34 ?_ | refine eq68 ?_))))
              intro B1 hB1
              (repeat ((try (conv => whnf)); (first | (with_reducible first | refine condP_true ?_ | refine condP_false ?_ | refine condP_not ?_ | refine condP_and ?_) | ((with_reducible refine condP_dt ?_ ?_); (· omega)) | ((with_reducible refine condP_df ?_ ?_); (· omega)) | ((with_reducible refine condP_yes ?_ ?_); (· assumption)) | ((with_reducible refine condP_no ?_ ?_); (· assumption)) | ((with_reducible refine ArP_i64 ?_ ?_); (· omega)) | ((with_reducible refine mustP.mk ?_ ?_); (· first | omega | rfl | (dsimp only; omega))) | (with_reducible first | refine EqP_nil tab_ok ?_ | refine EqP_sli tab_ok ?_ | refine DrawP_auto tab_ok (by kernel_rfl) (by decide +kernel) ?_ | refine DrawP_auto2 tab_ok (by kernel_rfl) (by decide +kernel) ?_ | refine eq34 ?_ | refine eq68 ?_))))
              conv => whnf
              refine LoopP_at2 tab_ok (fun (x : Nat) (l : List Run) => x ≤ t - i ∧ l = narY w (L.take (i + x)) r.y) (fun (x : Nat) l => [(23, .val (.int .i64 x))]) (fun x l => HN w f (some p) L c B1 r.y (t - i) (flatR (List.take (t - i) (List.drop i L))) l) (fun x l => t - i - x) 0 [] ⟨Nat.zero_le _, hnew.symm⟩ ?_ ?_
              · ((refine Le_head ?_); (conv => whnf); (refine Le_mk (by rfl) (by rfl) ?_ ?_); (· (repeat (first | (with_reducible exact frLe_nil) | (with_reducible first | refine frLe_any ?_ | refine frLe_val ?_) | ((with_reducible refine frLe_eq rfl ?_ ?_); (· rfl)) | ((with_reducible refine frLe_val' (int_eq ?_) ?_ ?_); (· omega); (· rfl)) | ((with_reducible refine frLe_val' (int_eq ?_) ?_ ?_); (· simp only [Int.natCast_add, Int.natCast_one, Int.natCast_ofNat] <;> omega); (· rfl)) | ((with_reducible refine frLe_val' (bool_eq ?_) ?_ ?_); (· first | assumption | (symm; assumption)); (· rfl))))))
                exact HN_nil hB1 (by kernel_rfl) _
              · rintro x l ⟨hx, hl⟩
                rcases Nat.lt_or_ge x (t - i) with h4 | h4
                · obtain ⟨s, hs⟩ : ∃ s, L[i + x]? = some s := ⟨L[i + x]'(by omega), List.getElem?_eq_getElem (by omega)⟩
                  have hsy := hK.same (i + x) s (by omega) (by omega) hs
                  have hsub : (List.take (t - i) (List.drop i L))[x]? = some s := by rw [List.getElem?_take, if_pos h4, List.getElem?_drop]; exact hs
                  obtain ⟨c0, c1, c2⟩ := flatR_get hsub
                  have e3 : ∀ K : List Value → Prop, K [.int .i64 s.y, .int .i64 s.x0, .int .i64 s.x1] → OwnCells (flatR (List.take (t - i) (List.drop i L))) ((x : Int).toNat * 3) 3 K := fun K k => OwnCells_list _ rfl (fun j u hj => by
                    rw [Int.toNat_natCast]
                    match j, hj with
                    | 0, hj => simp at hj; subst hj; exact c0
                    | 1, hj => simp at hj; subst hj; exact c1
                    | 2, hj => simp at hj; subst hj; exact c2) k
                  have hnx := narY_next (w := w) (x := i + x) hs r.y
                  rw [← hl, narY_one, if_pos hsy] at hnx
                  have hbd := v.bd (List.mem_of_getElem? hs)
                  have hll2 : l.length ≤ L.length := by rw [hl]; exact Nat.le_trans (narY_len _ _ _) (by rw [List.length_take]; omega)
                  by_cases ht : s.x0 + w < s.x1 - w
                  · rw [if_pos ht, hsy] at hnx
                    cases l with
                    | nil =>
                      have hfy : f r.y = none := by
                        have := hrows.1 r.y (fun l hl => by cases hl)
                        rw [hnew] at this
                        rcases this with h | h
                        · exact h.2
                        · exact absurd rfl h.1
                      have hlook : lookA r.y (.val ((f r.y).getD (.slice none 0 0))) [] [] = .val (.slice none 0 0) := by rw [hfy]; rfl
                      (repeat ((try (conv => whnf)); (first | (with_reducible refine e3 _ ?_) | (refine LookP.mk 3 22 (.slice none 0 0) (by kernel_rfl) (by kernel_rfl) (fun w => by kernel_rfl) _ hlook ?_) | (with_reducible refine DrawP_mk tab_ok (by kernel_rfl) 17 [] (by decide +kernel) ?_) | (refine PutP.new 3 22 (by kernel_rfl) (by kernel_rfl) rfl ?_) | (with_reducible first | refine condP_true ?_ | refine condP_false ?_ | refine condP_not ?_ | refine condP_and ?_) | ((with_reducible refine condP_dt ?_ ?_); (· omega)) | ((with_reducible refine condP_df ?_ ?_); (· omega)) | ((with_reducible refine condP_yes ?_ ?_); (· assumption)) | ((with_reducible refine condP_no ?_ ?_); (· assumption)) | ((with_reducible refine ArP_i64 ?_ ?_); (· omega)) | ((with_reducible refine mustP.mk ?_ ?_); (· first | omega | rfl | (dsimp only; omega))) | (with_reducible first | refine EqP_nil tab_ok ?_ | refine EqP_sli tab_ok ?_ | refine DrawP_auto tab_ok (by kernel_rfl) (by decide +kernel) ?_ | refine DrawP_auto2 tab_ok (by kernel_rfl) (by decide +kernel) ?_ | refine eq34 ?_ | refine eq68 ?_))))
                      conv => whnf
                      refine ⟨x + 1, [⟨r.y, s.x0 + w, s.x1 - w⟩], ⟨by omega, hnx.symm⟩, by omega, ?_⟩
                      refine Le_head ?_
                      conv => whnf
                      rw [hB1]
                      refine Le_move 9 7 (by rfl) (by rfl) (by rfl) (by rfl) ?_
                      conv => whnf
                      refine Le_mk (by rfl) (by rfl) (by (repeat (first | (with_reducible exact frLe_nil) | (with_reducible first | refine frLe_any ?_ | refine frLe_val ?_) | ((with_reducible refine frLe_eq rfl ?_ ?_); (· rfl)) | ((with_reducible refine frLe_val' (int_eq ?_) ?_ ?_); (· omega); (· rfl)) | ((with_reducible refine frLe_val' (int_eq ?_) ?_ ?_); (· simp only [Int.natCast_add, Int.natCast_one, Int.natCast_ofNat] <;> omega); (· rfl)) | ((with_reducible refine frLe_val' (bool_eq ?_) ?_ ?_); (· first | assumption | (symm; assumption)); (· rfl))))) ?_
                      exact HN_cons rfl (by kernel_rfl) _ rfl rfl
                    | cons s0 l0' =>
                      have hlook : lookA r.y (.val ((f r.y).getD (.slice none 0 0))) [r.y] [.own 7] = .own 7 := by simp [lookA]
                      have hhas : hasK r.y [r.y] = true := by simp [hasK]
                      have hput : putA r.y (.own 10) [r.y] [.own 7] = [.own 10] := by simp [putA]
                      have e0 : (s0 :: l0').length = l0'.length + 1 := rfl
                      (repeat ((try (conv => whnf)); (first | (with_reducible refine e3 _ ?_) | (refine LookP.mk 3 22 (.slice none 0 0) (by kernel_rfl) (by kernel_rfl) (fun w => by kernel_rfl) _ hlook ?_) | (with_reducible refine DrawP_mk tab_ok (by kernel_rfl) 17 [7] (by decide +kernel) ?_) | (refine PutP.old 3 22 (by kernel_rfl) (by kernel_rfl) hhas [.own 10] hput ?_) | (with_reducible first | refine condP_true ?_ | refine condP_false ?_ | refine condP_not ?_ | refine condP_and ?_) | ((with_reducible refine condP_dt ?_ ?_); (· omega)) | ((with_reducible refine condP_df ?_ ?_); (· omega)) | ((with_reducible refine condP_yes ?_ ?_); (· assumption)) | ((with_reducible refine condP_no ?_ ?_); (· assumption)) | ((with_reducible refine ArP_i64 ?_ ?_); (· omega)) | ((with_reducible refine mustP.mk ?_ ?_); (· first | omega | rfl | (dsimp only; omega))) | (with_reducible first | refine EqP_nil tab_ok ?_ | refine EqP_sli tab_ok ?_ | refine DrawP_auto tab_ok (by kernel_rfl) (by decide +kernel) ?_ | refine DrawP_auto2 tab_ok (by kernel_rfl) (by decide +kernel) ?_ | refine eq34 ?_ | refine eq68 ?_))))
                      conv => whnf
                      refine ⟨x + 1, (s0 :: l0') ++ [⟨r.y, s.x0 + w, s.x1 - w⟩], ⟨by omega, hnx.symm⟩, by omega, ?_⟩
                      refine Le_head ?_
                      conv => whnf
                      rw [hB1]
                      refine Le_move 10 7 (by rfl) (by rfl) (by rfl) (by rfl) ?_
                      conv => whnf
                      refine Le_mk (by rfl) (by rfl) (by (repeat (first | (with_reducible exact frLe_nil) | (with_reducible first | refine frLe_any ?_ | refine frLe_val ?_) | ((with_reducible refine frLe_eq rfl ?_ ?_); (· rfl)) | ((with_reducible refine frLe_val' (int_eq ?_) ?_ ?_); (· omega); (· rfl)) | ((with_reducible refine frLe_val' (int_eq ?_) ?_ ?_); (· simp only [Int.natCast_add, Int.natCast_one, Int.natCast_ofNat] <;> omega); (· rfl)) | ((with_reducible refine frLe_val' (bool_eq ?_) ?_ ?_); (· first | assumption | (symm; assumption)); (· rfl))))) ?_
                      exact HN_cons rfl (by kernel_rfl) _ (by simp) (by show _ = flatR ((s0 :: l0') ++ [(⟨r.y, s.x0 + w, s.x1 - w⟩ : Run)]); rw [flatR_append, flatR_one])
                  · rw [if_neg ht, List.append_nil] at hnx
                    cases l with
                    | nil =>
                      (repeat ((try (conv => whnf)); (first | (with_reducible first | refine e3 _ ?_ | refine condP_true ?_ | refine condP_false ?_ | refine condP_not ?_ | refine condP_and ?_) | ((with_reducible refine condP_dt ?_ ?_); (· omega)) | ((with_reducible refine condP_df ?_ ?_); (· omega)) | ((with_reducible refine condP_yes ?_ ?_); (· assumption)) | ((with_reducible refine condP_no ?_ ?_); (· assumption)) | ((with_reducible refine ArP_i64 ?_ ?_); (· omega)) | ((with_reducible refine mustP.mk ?_ ?_); (· first | omega | rfl | (dsimp only; omega))) | (with_reducible first | refine EqP_nil tab_ok ?_ | refine EqP_sli tab_ok ?_ | refine DrawP_auto tab_ok (by kernel_rfl) (by decide +kernel) ?_ | refine DrawP_auto2 tab_ok (by kernel_rfl) (by decide +kernel) ?_ | refine eq34 ?_ | refine eq68 ?_))))
                      conv => whnf
                      refine ⟨x + 1, [], ⟨by omega, hnx.symm⟩, by omega, ?_⟩
                      refine Le_head ?_
                      conv => whnf
                      rw [hB1]
                      refine Le_mk (by rfl) (by rfl) (by (repeat (first | (with_reducible exact frLe_nil) | (with_reducible first | refine frLe_any ?_ | refine frLe_val ?_) | ((with_reducible refine frLe_eq rfl ?_ ?_); (· rfl)) | ((with_reducible refine frLe_val' (int_eq ?_) ?_ ?_); (· omega); (· rfl)) | ((with_reducible refine frLe_val' (int_eq ?_) ?_ ?_); (· simp only [Int.natCast_add, Int.natCast_one, Int.natCast_ofNat] <;> omega); (· rfl)) | ((with_reducible refine frLe_val' (bool_eq ?_) ?_ ?_); (· first | assumption | (symm; assumption)); (· rfl))))) ?_
                      exact HN_nil rfl (by kernel_rfl) _
                    | cons s0 l0' =>
                      (repeat ((try (conv => whnf)); (first | (with_reducible first | refine e3 _ ?_ | refine condP_true ?_ | refine condP_false ?_ | refine condP_not ?_ | refine condP_and ?_) | ((with_reducible refine condP_dt ?_ ?_); (· omega)) | ((with_reducible refine condP_df ?_ ?_); (· omega)) | ((with_reducible refine condP_yes ?_ ?_); (· assumption)) | ((with_reducible refine condP_no ?_ ?_); (· assumption)) | ((with_reducible refine ArP_i64 ?_ ?_); (· omega)) | ((with_reducible refine mustP.mk ?_ ?_); (· first | omega | rfl | (dsimp only; omega))) | (with_reducible first | refine EqP_nil tab_ok ?_ | refine EqP_sli tab_ok ?_ | refine DrawP_auto tab_ok (by kernel_rfl) (by decide +kernel) ?_ | refine DrawP_auto2 tab_ok (by kernel_rfl) (by decide +kernel) ?_ | refine eq34 ?_ | refine eq68 ?_))))
                      conv => whnf
                      refine ⟨x + 1, s0 :: l0', ⟨by omega, hnx.symm⟩, by omega, ?_⟩
                      refine Le_head ?_
                      conv => whnf
                      rw [hB1]
                      refine Le_mk (by rfl) (by rfl) (by (repeat (first | (with_reducible exact frLe_nil) | (with_reducible first | refine frLe_any ?_ | refine frLe_val ?_) | ((with_reducible refine frLe_eq rfl ?_ ?_); (· rfl)) | ((with_reducible refine frLe_val' (int_eq ?_) ?_ ?_); (· omega); (· rfl)) | ((with_reducible refine frLe_val' (int_eq ?_) ?_ ?_); (· simp only [Int.natCast_add, Int.natCast_one, Int.natCast_ofNat] <;> omega); (· rfl)) | ((with_reducible refine frLe_val' (bool_eq ?_) ?_ ?_); (· first | assumption | (symm; assumption)); (· rfl))))) ?_
                      exact HN_cons rfl (by kernel_rfl) _ rfl rfl
                · obtain rfl : x = t - i := by omega
                  have hit : i + (t - i) = t := by omega
                  rw [hit] at hl
                  cases l with
                  | nil =>
                    (repeat ((try (conv => whnf)); (first | (with_reducible first | refine condP_true ?_ | refine condP_false ?_ | refine condP_not ?_ | refine condP_and ?_) | ((with_reducible refine condP_dt ?_ ?_); (· omega)) | ((with_reducible refine condP_df ?_ ?_); (· omega)) | ((with_reducible refine condP_yes ?_ ?_); (· assumption)) | ((with_reducible refine condP_no ?_ ?_); (· assumption)) | ((with_reducible refine ArP_i64 ?_ ?_); (· omega)) | ((with_reducible refine mustP.mk ?_ ?_); (· first | omega | rfl | (dsimp only; omega))) | (with_reducible first | refine EqP_nil tab_ok ?_ | refine EqP_sli tab_ok ?_ | refine DrawP_auto tab_ok (by kernel_rfl) (by decide +kernel) ?_ | refine DrawP_auto2 tab_ok (by kernel_rfl) (by decide +kernel) ?_ | refine eq34 ?_ | refine eq68 ?_))))
                    refine ⟨(t, f, none, M), ⟨by dsimp only; omega, fun q u h5 hq hu => hK.edge hq hu, by exact hGM, hrows.skip hK hnew hl.symm⟩, by dsimp only; omega, ?_⟩
                    refine Le_head ?_
                    conv => whnf
                    rw [hB0]
                    refine Le_mk (by rfl) (by rfl) (by (repeat (first | (with_reducible exact frLe_nil) | (with_reducible first | refine frLe_any ?_ | refine frLe_val ?_) | ((with_reducible refine frLe_eq rfl ?_ ?_); (· rfl)) | ((with_reducible refine frLe_val' (int_eq ?_) ?_ ?_); (· omega); (· rfl)) | ((with_reducible refine frLe_val' (int_eq ?_) ?_ ?_); (· simp only [Int.natCast_add, Int.natCast_one, Int.natCast_ofNat] <;> omega); (· rfl)) | ((with_reducible refine frLe_val' (bool_eq ?_) ?_ ?_); (· first | assumption | (symm; assumption)); (· rfl))))) ?_
                    exact HE_none rfl (by kernel_rfl) _
                  | cons s0 l0' =>
                    (repeat ((try (conv => whnf)); (first | (with_reducible first | refine condP_true ?_ | refine condP_false ?_ | refine condP_not ?_ | refine condP_and ?_) | ((with_reducible refine condP_dt ?_ ?_); (· omega)) | ((with_reducible refine condP_df ?_ ?_); (· omega)) | ((with_reducible refine condP_yes ?_ ?_); (· assumption)) | ((with_reducible refine condP_no ?_ ?_); (· assumption)) | ((with_reducible refine ArP_i64 ?_ ?_); (· omega)) | ((with_reducible refine mustP.mk ?_ ?_); (· first | omega | rfl | (dsimp only; omega))) | (with_reducible first | refine EqP_nil tab_ok ?_ | refine EqP_sli tab_ok ?_ | refine DrawP_auto tab_ok (by kernel_rfl) (by decide +kernel) ?_ | refine DrawP_auto2 tab_ok (by kernel_rfl) (by decide +kernel) ?_ | refine eq34 ?_ | refine eq68 ?_))))
                    refine ⟨(t, f, some (r.y, s0 :: l0'), M), ⟨by dsimp only; omega, fun q u h5 hq hu => hK.edge hq hu, by exact hGM, hrows.next hK hl.symm (by simp)⟩, by dsimp only; omega, ?_⟩
                    refine Le_head ?_
                    conv => whnf
                    rw [hB0]
                    refine Le_move 7 5 (by rfl) (by rfl) (by rfl) (by rfl) ?_
                    conv => whnf
                    refine Le_mk (by rfl) (by rfl) (by (repeat (first | (with_reducible exact frLe_nil) | (with_reducible first | refine frLe_any ?_ | refine frLe_val ?_) | ((with_reducible refine frLe_eq rfl ?_ ?_); (· rfl)) | ((with_reducible refine frLe_val' (int_eq ?_) ?_ ?_); (· omega); (· rfl)) | ((with_reducible refine frLe_val' (int_eq ?_) ?_ ?_); (· simp only [Int.natCast_add, Int.natCast_one, Int.natCast_ofNat] <;> omega); (· rfl)) | ((with_reducible refine frLe_val' (bool_eq ?_) ?_ ?_); (· first | assumption | (symm; assumption)); (· rfl))))) ?_
                    exact HE_some rfl (by kernel_rfl) rfl rfl
      | some h0 =>
        obtain ⟨y0, l0⟩ := h0
        (repeat ((try (conv => whnf)); (first | (with_reducible first | refine condP_true ?_ | refine condP_false ?_ | refine condP_not ?_ | refine condP_and ?_) | ((with_reducible refine condP_dt ?_ ?_); (· omega)) | ((with_reducible refine condP_df ?_ ?_); (· omega)) | ((with_reducible refine condP_yes ?_ ?_); (· assumption)) | ((with_reducible refine condP_no ?_ ?_); (· assumption)) | ((with_reducible refine ArP_i64 ?_ ?_); (· omega)) | ((with_reducible refine mustP.mk ?_ ?_); (· first | omega | rfl | (dsimp only; omega))) | (with_reducible first | refine EqP_nil tab_ok ?_ | refine EqP_sli tab_ok ?_ | refine DrawP_auto tab_ok (by kernel_rfl) (by decide +kernel) ?_ | refine DrawP_auto2 tab_ok (by kernel_rfl) (by decide +kernel) ?_ | refine eq34 ?_ | refine eq68 ?_))))
        conv => whnf
        refine LoopP_at tab_ok (fun t => i ≤ t ∧ t ≤ K) (fun (t : Nat) => [(4, .val (.int .i64 t))]) (fun t => HE w f (some p) L c B0 (some (y0, l0))) (fun t => K - t) i ⟨Nat.le_refl _, by omega⟩ ?_ ?_
        · ((refine Le_head ?_); (conv => whnf); (refine Le_mk (by rfl) (by rfl) ?_ ?_); (· (repeat (first | (with_reducible exact frLe_nil) | (with_reducible first | refine frLe_any ?_ | refine frLe_val ?_) | ((with_reducible refine frLe_eq rfl ?_ ?_); (· rfl)) | ((with_reducible refine frLe_val' (int_eq ?_) ?_ ?_); (· omega); (· rfl)) | ((with_reducible refine frLe_val' (int_eq ?_) ?_ ?_); (· simp only [Int.natCast_add, Int.natCast_one, Int.natCast_ofNat] <;> omega); (· rfl)) | ((with_reducible refine frLe_val' (bool_eq ?_) ?_ ?_); (· first | assumption | (symm; assumption)); (· rfl))))))
          exact HE_some hB0 (by kernel_rfl) rfl rfl
        · rintro t ⟨ht, htK⟩
          rcases Nat.lt_or_ge t K with h2 | h2
          · obtain ⟨u, hu⟩ : ∃ u, L[t]? = some u := ⟨L[t]'(by omega), List.getElem?_eq_getElem (by omega)⟩
            obtain ⟨p', hp', u0, _⟩ := hAM.at_ hu
            obtain rfl := Option.some.inj hp'
            have hy := hK.same t u ht h2 hu
            rw [hy] at u0
            (repeat ((try (conv => whnf)); (first | (refine OldCells_one _ u0 ?_) | (refine OldCells_one _ q0 ?_) | (with_reducible first | refine condP_true ?_ | refine condP_false ?_ | refine condP_not ?_ | refine condP_and ?_) | ((with_reducible refine condP_dt ?_ ?_); (· omega)) | ((with_reducible refine condP_df ?_ ?_); (· omega)) | ((with_reducible refine condP_yes ?_ ?_); (· assumption)) | ((with_reducible refine condP_no ?_ ?_); (· assumption)) | ((with_reducible refine ArP_i64 ?_ ?_); (· omega)) | ((with_reducible refine mustP.mk ?_ ?_); (· first | omega | rfl | (dsimp only; omega))) | (with_reducible first | refine EqP_nil tab_ok ?_ | refine EqP_sli tab_ok ?_ | refine DrawP_auto tab_ok (by kernel_rfl) (by decide +kernel) ?_ | refine DrawP_auto2 tab_ok (by kernel_rfl) (by decide +kernel) ?_ | refine eq34 ?_ | refine eq68 ?_))))
            refine ⟨t + 1, ⟨by omega, by omega⟩, by omega, ?_⟩
            ((refine Le_head ?_); (conv => whnf); (refine Le_mk (by rfl) (by rfl) ?_ ?_); (· (repeat (first | (with_reducible exact frLe_nil) | (with_reducible first | refine frLe_any ?_ | refine frLe_val ?_) | ((with_reducible refine frLe_eq rfl ?_ ?_); (· rfl)) | ((with_reducible refine frLe_val' (int_eq ?_) ?_ ?_); (· omega); (· rfl)) | ((with_reducible refine frLe_val' (int_eq ?_) ?_ ?_); (· simp only [Int.natCast_add, Int.natCast_one, Int.natCast_ofNat] <;> omega); (· rfl)) | ((with_reducible refine frLe_val' (bool_eq ?_) ?_ ?_); (· first | assumption | (symm; assumption)); (· rfl))))))
            exact HE_some hB0 (by kernel_rfl) rfl rfl
          · obtain rfl : t = K := by omega
            have hne : c ≠ i := by omega
            have hlen : ((L.drop i).take (t - i)).length = t - i := by rw [List.length_take, List.length_drop]; omega
            have mk : Makes Try.prog 39 [.val (.slice (if c = (i : Int).toNat then some p else Option.map (fun x => x.add ((i : Int).toNat * 3)) (some p)) ((t : Int).toNat - (i : Int).toNat) (c - (i : Int).toNat))] M id 34 3 (t - i) (flatR ((L.drop i).take (t - i))) := by
              have h := CloneR_makes (c := c - i) (runs_sub hAM i (t - i)) (by rw [hlen]; omega)
              rw [hlen] at h
              simp only [Int.toNat_natCast, if_neg hne, Option.map_some]
              exact h
            rcases Nat.lt_or_ge t L.length with h3 | h3
            · obtain ⟨u, hu⟩ : ∃ u, L[t]? = some u := ⟨L[t]'(by omega), List.getElem?_eq_getElem (by omega)⟩
              obtain ⟨p', hp', u0, _⟩ := hAM.at_ hu
              obtain rfl := Option.some.inj hp'
              have hy := hK.next u hu
              (repeat ((try (conv => whnf)); (first | (refine OldCells_one _ u0 ?_) | (refine OldCells_one _ q0 ?_) | (with_reducible refine DrawP_mk tab_ok (by kernel_rfl) 11 [] (by decide +kernel) ?_) | (refine RCallP_makes (fun vs w => by kernel_rfl) (.alone fun _ => rfl) (by kernel_rfl) mk ?_) | (with_reducible first | refine condP_true ?_ | refine condP_false ?_ | refine condP_not ?_ | refine condP_and ?_) | ((with_reducible refine condP_dt ?_ ?_); (· omega)) | ((with_reducible refine condP_df ?_ ?_); (· omega)) | ((with_reducible refine condP_yes ?_ ?_); (· assumption)) | ((with_reducible refine condP_no ?_ ?_); (· assumption)) | ((with_reducible refine ArP_i64 ?_ ?_); (· omega)) | ((with_reducible refine mustP.mk ?_ ?_); (· first | omega | rfl | (dsimp only; omega))) | (with_reducible first | refine EqP_nil tab_ok ?_ | refine EqP_sli tab_ok ?_ | refine DrawP_auto tab_ok (by kernel_rfl) (by decide +kernel) ?_ | refine DrawP_auto2 tab_ok (by kernel_rfl) (by decide +kernel) ?_ | refine eq34 ?_ | refine eq68 ?_))))
              refine YieldP_round (n := 7) tab_ok rfl hB0 hps hca hbd (by kernel_rfl) (by kernel_rfl) (by kernel_rfl) (by kernel_rfl) (by rfl) ?_
              (repeat ((try (conv => whnf)); (first | (with_reducible first | refine condP_true ?_ | refine condP_false ?_ | refine condP_not ?_ | refine condP_and ?_) | ((with_reducible refine condP_dt ?_ ?_); (· omega)) | ((with_reducible refine condP_df ?_ ?_); (· omega)) | ((with_reducible refine condP_yes ?_ ?_); (· assumption)) | ((with_reducible refine condP_no ?_ ?_); (· assumption)) | ((with_reducible refine ArP_i64 ?_ ?_); (· omega)) | ((with_reducible refine mustP.mk ?_ ?_); (· first | omega | rfl | (dsimp only; omega))) | (with_reducible first | refine EqP_nil tab_ok ?_ | refine EqP_sli tab_ok ?_ | refine DrawP_auto tab_ok (by kernel_rfl) (by decide +kernel) ?_ | refine DrawP_auto2 tab_ok (by kernel_rfl) (by decide +kernel) ?_ | refine eq34 ?_ | refine eq68 ?_))))
              intro B1 hB1
              (repeat ((try (conv => whnf)); (first | (with_reducible first | refine condP_true ?_ | refine condP_false ?_ | refine condP_not ?_ | refine condP_and ?_) | ((with_reducible refine condP_dt ?_ ?_); (· omega)) | ((with_reducible refine condP_df ?_ ?_); (· omega)) | ((with_reducible refine condP_yes ?_ ?_); (· assumption)) | ((with_reducible refine condP_no ?_ ?_); (· assumption)) | ((with_reducible refine ArP_i64 ?_ ?_); (· omega)) | ((with_reducible refine mustP.mk ?_ ?_); (· first | omega | rfl | (dsimp only; omega))) | (with_reducible first | refine EqP_nil tab_ok ?_ | refine EqP_sli tab_ok ?_ | refine DrawP_auto tab_ok (by kernel_rfl) (by decide +kernel) ?_ | refine DrawP_auto2 tab_ok (by kernel_rfl) (by decide +kernel) ?_ | refine eq34 ?_ | refine eq68 ?_))))
              conv => whnf
              rw [hB1]
              refine LoopP_settle (i := y0) 2 1 5 5 (by rfl) rfl rfl rfl fun A1 cap1 M1 hM1 hc1 hm1 hF1 => ?_
              conv => whnf
              rw [← hB1]
              have hrows := hrows.settle hM1 hc1 hm1 hF1
              have hGM := Mem.le_trans hGM hM1
              generalize updM f y0 (.slice A1 l0.length cap1) = f1 at *
              refine LoopP_at2 tab_ok (fun (x : Nat) (l : List Run) => x ≤ t - i ∧ l = narY w (L.take (i + x)) r.y) (fun (x : Nat) l => [(23, .val (.int .i64 x))]) (fun x l => HN w f1 (some p) L c B1 r.y (t - i) (flatR (List.take (t - i) (List.drop i L))) l) (fun x l => t - i - x) 0 [] ⟨Nat.zero_le _, hnew.symm⟩ ?_ ?_
              · ((refine Le_head ?_); (conv => whnf); (refine Le_mk (by rfl) (by rfl) ?_ ?_); (· (repeat (first | (with_reducible exact frLe_nil) | (with_reducible first | refine frLe_any ?_ | refine frLe_val ?_) | ((with_reducible refine frLe_eq rfl ?_ ?_); (· rfl)) | ((with_reducible refine frLe_val' (int_eq ?_) ?_ ?_); (· omega); (· rfl)) | ((with_reducible refine frLe_val' (int_eq ?_) ?_ ?_); (· simp only [Int.natCast_add, Int.natCast_one, Int.natCast_ofNat] <;> omega); (· rfl)) | ((with_reducible refine frLe_val' (bool_eq ?_) ?_ ?_); (· first | assumption | (symm; assumption)); (· rfl))))))
                exact HN_nil hB1 (by kernel_rfl) _
              · rintro x l ⟨hx, hl⟩
                rcases Nat.lt_or_ge x (t - i) with h4 | h4
                · obtain ⟨s, hs⟩ : ∃ s, L[i + x]? = some s := ⟨L[i + x]'(by omega), List.getElem?_eq_getElem (by omega)⟩
                  have hsy := hK.same (i + x) s (by omega) (by omega) hs
                  have hsub : (List.take (t - i) (List.drop i L))[x]? = some s := by rw [List.getElem?_take, if_pos h4, List.getElem?_drop]; exact hs
                  obtain ⟨c0, c1, c2⟩ := flatR_get hsub
                  have e3 : ∀ K : List Value → Prop, K [.int .i64 s.y, .int .i64 s.x0, .int .i64 s.x1] → OwnCells (flatR (List.take (t - i) (List.drop i L))) ((x : Int).toNat * 3) 3 K := fun K k => OwnCells_list _ rfl (fun j u hj => by
                    rw [Int.toNat_natCast]
                    match j, hj with
                    | 0, hj => simp at hj; subst hj; exact c0
                    | 1, hj => simp at hj; subst hj; exact c1
                    | 2, hj => simp at hj; subst hj; exact c2) k
                  have hnx := narY_next (w := w) (x := i + x) hs r.y
                  rw [← hl, narY_one, if_pos hsy] at hnx
                  have hbd := v.bd (List.mem_of_getElem? hs)
                  have hll2 : l.length ≤ L.length := by rw [hl]; exact Nat.le_trans (narY_len _ _ _) (by rw [List.length_take]; omega)
                  by_cases ht : s.x0 + w < s.x1 - w
                  · rw [if_pos ht, hsy] at hnx
                    cases l with
                    | nil =>
                      have hfy : f1 r.y = none := by
                        have := hrows.1 r.y (fun l hl => by cases hl)
                        rw [hnew] at this
                        rcases this with h | h
                        · exact h.2
                        · exact absurd rfl h.1
                      have hlook : lookA r.y (.val ((f1 r.y).getD (.slice none 0 0))) [] [] = .val (.slice none 0 0) := by rw [hfy]; rfl
                      (repeat ((try (conv => whnf)); (first | (with_reducible refine e3 _ ?_) | (refine LookP.mk 3 22 (.slice none 0 0) (by kernel_rfl) (by kernel_rfl) (fun w => by kernel_rfl) _ hlook ?_) | (with_reducible refine DrawP_mk tab_ok (by kernel_rfl) 17 [] (by decide +kernel) ?_) | (refine PutP.new 3 22 (by kernel_rfl) (by kernel_rfl) rfl ?_) | (with_reducible first | refine condP_true ?_ | refine condP_false ?_ | refine condP_not ?_ | refine condP_and ?_) | ((with_reducible refine condP_dt ?_ ?_); (· omega)) | ((with_reducible refine condP_df ?_ ?_); (· omega)) | ((with_reducible refine condP_yes ?_ ?_); (· assumption)) | ((with_reducible refine condP_no ?_ ?_); (· assumption)) | ((with_reducible refine ArP_i64 ?_ ?_); (· omega)) | ((with_reducible refine mustP.mk ?_ ?_); (· first | omega | rfl | (dsimp only; omega))) | (with_reducible first | refine EqP_nil tab_ok ?_ | refine EqP_sli tab_ok ?_ | refine DrawP_auto tab_ok (by kernel_rfl) (by decide +kernel) ?_ | refine DrawP_auto2 tab_ok (by kernel_rfl) (by decide +kernel) ?_ | refine eq34 ?_ | refine eq68 ?_))))
                      conv => whnf
                      refine ⟨x + 1, [⟨r.y, s.x0 + w, s.x1 - w⟩], ⟨by omega, hnx.symm⟩, by omega, ?_⟩
                      refine Le_head ?_
                      conv => whnf
                      rw [hB1]
                      refine Le_move 9 7 (by rfl) (by rfl) (by rfl) (by rfl) ?_
                      conv => whnf
                      refine Le_mk (by rfl) (by rfl) (by (repeat (first | (with_reducible exact frLe_nil) | (with_reducible first | refine frLe_any ?_ | refine frLe_val ?_) | ((with_reducible refine frLe_eq rfl ?_ ?_); (· rfl)) | ((with_reducible refine frLe_val' (int_eq ?_) ?_ ?_); (· omega); (· rfl)) | ((with_reducible refine frLe_val' (int_eq ?_) ?_ ?_); (· simp only [Int.natCast_add, Int.natCast_one, Int.natCast_ofNat] <;> omega); (· rfl)) | ((with_reducible refine frLe_val' (bool_eq ?_) ?_ ?_); (· first | assumption | (symm; assumption)); (· rfl))))) ?_
                      exact HN_cons rfl (by kernel_rfl) _ rfl rfl
                    | cons s0 l0' =>
                      have hlook : lookA r.y (.val ((f1 r.y).getD (.slice none 0 0))) [r.y] [.own 7] = .own 7 := by simp [lookA]
                      have hhas : hasK r.y [r.y] = true := by simp [hasK]
                      have hput : putA r.y (.own 10) [r.y] [.own 7] = [.own 10] := by simp [putA]
                      have e0 : (s0 :: l0').length = l0'.length + 1 := rfl
                      (repeat ((try (conv => whnf)); (first | (with_reducible refine e3 _ ?_) | (refine LookP.mk 3 22 (.slice none 0 0) (by kernel_rfl) (by kernel_rfl) (fun w => by kernel_rfl) _ hlook ?_) | (with_reducible refine DrawP_mk tab_ok (by kernel_rfl) 17 [7] (by decide +kernel) ?_) | (refine PutP.old 3 22 (by kernel_rfl) (by kernel_rfl) hhas [.own 10] hput ?_) | (with_reducible first | refine condP_true ?_ | refine condP_false ?_ | refine condP_not ?_ | refine condP_and ?_) | ((with_reducible refine condP_dt ?_ ?_); (· omega)) | ((with_reducible refine condP_df ?_ ?_); (· omega)) | ((with_reducible refine condP_yes ?_ ?_); (· assumption)) | ((with_reducible refine condP_no ?_ ?_); (· assumption)) | ((with_reducible refine ArP_i64 ?_ ?_); (· omega)) | ((with_reducible refine mustP.mk ?_ ?_); (· first | omega | rfl | (dsimp only; omega))) | (with_reducible first | refine EqP_nil tab_ok ?_ | refine EqP_sli tab_ok ?_ | refine DrawP_auto tab_ok (by kernel_rfl) (by decide +kernel) ?_ | refine DrawP_auto2 tab_ok (by kernel_rfl) (by decide +kernel) ?_ | refine eq34 ?_ | refine eq68 ?_))))
                      conv => whnf
                      refine ⟨x + 1, (s0 :: l0') ++ [⟨r.y, s.x0 + w, s.x1 - w⟩], ⟨by omega, hnx.symm⟩, by omega, ?_⟩
                      refine Le_head ?_
                      conv => whnf
                      rw [hB1]
                      refine Le_move 10 7 (by rfl) (by rfl) (by rfl) (by rfl) ?_
                      conv => whnf
                      refine Le_mk (by rfl) (by rfl) (by (repeat (first | (with_reducible exact frLe_nil) | (with_reducible first | refine frLe_any ?_ | refine frLe_val ?_) | ((with_reducible refine frLe_eq rfl ?_ ?_); (· rfl)) | ((with_reducible refine frLe_val' (int_eq ?_) ?_ ?_); (· omega); (· rfl)) | ((with_reducible refine frLe_val' (int_eq ?_) ?_ ?_); (· simp only [Int.natCast_add, Int.natCast_one, Int.natCast_ofNat] <;> omega); (· rfl)) | ((with_reducible refine frLe_val' (bool_eq ?_) ?_ ?_); (· first | assumption | (symm; assumption)); (· rfl))))) ?_
                      exact HN_cons rfl (by kernel_rfl) _ (by simp) (by show _ = flatR ((s0 :: l0') ++ [(⟨r.y, s.x0 + w, s.x1 - w⟩ : Run)]); rw [flatR_append, flatR_one])
                  · rw [if_neg ht, List.append_nil] at hnx
                    cases l with
                    | nil =>
                      (repeat ((try (conv => whnf)); (first | (with_reducible first | refine e3 _ ?_ | refine condP_true ?_ | refine condP_false ?_ | refine condP_not ?_ | refine condP_and ?_) | ((with_reducible refine condP_dt ?_ ?_); (· omega)) | ((with_reducible refine condP_df ?_ ?_); (· omega)) | ((with_reducible refine condP_yes ?_ ?_); (· assumption)) | ((with_reducible refine condP_no ?_ ?_); (· assumption)) | ((with_reducible refine ArP_i64 ?_ ?_); (· omega)) | ((with_reducible refine mustP.mk ?_ ?_); (· first | omega | rfl | (dsimp only; omega))) | (with_reducible first | refine EqP_nil tab_ok ?_ | refine EqP_sli tab_ok ?_ | refine DrawP_auto tab_ok (by kernel_rfl) (by decide +kernel) ?_ | refine DrawP_auto2 tab_ok (by kernel_rfl) (by decide +kernel) ?_ | refine eq34 ?_ | refine eq68 ?_))))
                      conv => whnf
                      refine ⟨x + 1, [], ⟨by omega, hnx.symm⟩, by omega, ?_⟩
                      refine Le_head ?_
                      conv => whnf
                      rw [hB1]
                      refine Le_mk (by rfl) (by rfl) (by (repeat (first | (with_reducible exact frLe_nil) | (with_reducible first | refine frLe_any ?_ | refine frLe_val ?_) | ((with_reducible refine frLe_eq rfl ?_ ?_); (· rfl)) | ((with_reducible refine frLe_val' (int_eq ?_) ?_ ?_); (· omega); (· rfl)) | ((with_reducible refine frLe_val' (int_eq ?_) ?_ ?_); (· simp only [Int.natCast_add, Int.natCast_one, Int.natCast_ofNat] <;> omega); (· rfl)) | ((with_reducible refine frLe_val' (bool_eq ?_) ?_ ?_); (· first | assumption | (symm; assumption)); (· rfl))))) ?_
                      exact HN_nil rfl (by kernel_rfl) _
                    | cons s0 l0' =>
                      (repeat ((try (conv => whnf)); (first | (with_reducible first | refine e3 _ ?_ | refine condP_true ?_ | refine condP_false ?_ | refine condP_not ?_ | refine condP_and ?_) | ((with_reducible refine condP_dt ?_ ?_); (· omega)) | ((with_reducible refine condP_df ?_ ?_); (· omega)) | ((with_reducible refine condP_yes ?_ ?_); (· assumption)) | ((with_reducible refine condP_no ?_ ?_); (· assumption)) | ((with_reducible refine ArP_i64 ?_ ?_); (· omega)) | ((with_reducible refine mustP.mk ?_ ?_); (· first | omega | rfl | (dsimp only; omega))) | (with_reducible first | refine EqP_nil tab_ok ?_ | refine EqP_sli tab_ok ?_ | refine DrawP_auto tab_ok (by kernel_rfl) (by decide +kernel) ?_ | refine DrawP_auto2 tab_ok (by kernel_rfl) (by decide +kernel) ?_ | refine eq34 ?_ | refine eq68 ?_))))
                      conv => whnf
                      refine ⟨x + 1, s0 :: l0', ⟨by omega, hnx.symm⟩, by omega, ?_⟩
                      refine Le_head ?_
                      conv => whnf
                      rw [hB1]
                      refine Le_mk (by rfl) (by rfl) (by (repeat (first | (with_reducible exact frLe_nil) | (with_reducible first | refine frLe_any ?_ | refine frLe_val ?_) | ((with_reducible refine frLe_eq rfl ?_ ?_); (· rfl)) | ((with_reducible refine frLe_val' (int_eq ?_) ?_ ?_); (· omega); (· rfl)) | ((with_reducible refine frLe_val' (int_eq ?_) ?_ ?_); (· simp only [Int.natCast_add, Int.natCast_one, Int.natCast_ofNat] <;> omega); (· rfl)) | ((with_reducible refine frLe_val' (bool_eq ?_) ?_ ?_); (· first | assumption | (symm; assumption)); (· rfl))))) ?_
                      exact HN_cons rfl (by kernel_rfl) _ rfl rfl
                · obtain rfl : x = t - i := by omega
                  have hit : i + (t - i) = t := by omega
                  rw [hit] at hl
                  cases l with
                  | nil =>
                    (repeat ((try (conv => whnf)); (first | (with_reducible first | refine condP_true ?_ | refine condP_false ?_ | refine condP_not ?_ | refine condP_and ?_) | ((with_reducible refine condP_dt ?_ ?_); (· omega)) | ((with_reducible refine condP_df ?_ ?_); (· omega)) | ((with_reducible refine condP_yes ?_ ?_); (· assumption)) | ((with_reducible refine condP_no ?_ ?_); (· assumption)) | ((with_reducible refine ArP_i64 ?_ ?_); (· omega)) | ((with_reducible refine mustP.mk ?_ ?_); (· first | omega | rfl | (dsimp only; omega))) | (with_reducible first | refine EqP_nil tab_ok ?_ | refine EqP_sli tab_ok ?_ | refine DrawP_auto tab_ok (by kernel_rfl) (by decide +kernel) ?_ | refine DrawP_auto2 tab_ok (by kernel_rfl) (by decide +kernel) ?_ | refine eq34 ?_ | refine eq68 ?_))))
                    refine ⟨(t, f1, none, M1), ⟨by dsimp only; omega, fun q u h5 hq hu => hK.edge hq hu, by exact hGM, hrows.skip hK hnew hl.symm⟩, by dsimp only; omega, ?_⟩
                    refine Le_head ?_
                    conv => whnf
                    rw [hB0]
                    refine Le_mk (by rfl) (by rfl) (by (repeat (first | (with_reducible exact frLe_nil) | (with_reducible first | refine frLe_any ?_ | refine frLe_val ?_) | ((with_reducible refine frLe_eq rfl ?_ ?_); (· rfl)) | ((with_reducible refine frLe_val' (int_eq ?_) ?_ ?_); (· omega); (· rfl)) | ((with_reducible refine frLe_val' (int_eq ?_) ?_ ?_); (· simp only [Int.natCast_add, Int.natCast_one, Int.natCast_ofNat] <;> omega); (· rfl)) | ((with_reducible refine frLe_val' (bool_eq ?_) ?_ ?_); (· first | assumption | (symm; assumption)); (· rfl))))) ?_
                    exact HE_none rfl (by kernel_rfl) _
                  | cons s0 l0' =>
                    (repeat ((try (conv => whnf)); (first | (with_reducible first | refine condP_true ?_ | refine condP_false ?_ | refine condP_not ?_ | refine condP_and ?_) | ((with_reducible refine condP_dt ?_ ?_); (· omega)) | ((with_reducible refine condP_df ?_ ?_); (· omega)) | ((with_reducible refine condP_yes ?_ ?_); (· assumption)) | ((with_reducible refine condP_no ?_ ?_); (· assumption)) | ((with_reducible refine ArP_i64 ?_ ?_); (· omega)) | ((with_reducible refine mustP.mk ?_ ?_); (· first | omega | rfl | (dsimp only; omega))) | (with_reducible first | refine EqP_nil tab_ok ?_ | refine EqP_sli tab_ok ?_ | refine DrawP_auto tab_ok (by kernel_rfl) (by decide +kernel) ?_ | refine DrawP_auto2 tab_ok (by kernel_rfl) (by decide +kernel) ?_ | refine eq34 ?_ | refine eq68 ?_))))
                    refine ⟨(t, f1, some (r.y, s0 :: l0'), M1), ⟨by dsimp only; omega, fun q u h5 hq hu => hK.edge hq hu, by exact hGM, hrows.next hK hl.symm (by simp)⟩, by dsimp only; omega, ?_⟩
                    refine Le_head ?_
                    conv => whnf
                    rw [hB0]
                    refine Le_move 7 5 (by rfl) (by rfl) (by rfl) (by rfl) ?_
                    conv => whnf
                    refine Le_mk (by rfl) (by rfl) (by (repeat (first | (with_reducible exact frLe_nil) | (with_reducible first | refine frLe_any ?_ | refine frLe_val ?_) | ((with_reducible refine frLe_eq rfl ?_ ?_); (· rfl)) | ((with_reducible refine frLe_val' (int_eq ?_) ?_ ?_); (· omega); (· rfl)) | ((with_reducible refine frLe_val' (int_eq ?_) ?_ ?_); (· simp only [Int.natCast_add, Int.natCast_one, Int.natCast_ofNat] <;> omega); (· rfl)) | ((with_reducible refine frLe_val' (bool_eq ?_) ?_ ?_); (· first | assumption | (symm; assumption)); (· rfl))))) ?_
                    exact HE_some rfl (by kernel_rfl) rfl rfl
            · (repeat ((try (conv => whnf)); (first | (refine OldCells_one _ q0 ?_) | (with_reducible refine DrawP_mk tab_ok (by kernel_rfl) 11 [] (by decide +kernel) ?_) | (refine RCallP_makes (fun vs w => by kernel_rfl) (.alone fun _ => rfl) (by kernel_rfl) mk ?_) | (with_reducible first | refine condP_true ?_ | refine condP_false ?_ | refine condP_not ?_ | refine condP_and ?_) | ((with_reducible refine condP_dt ?_ ?_); (· omega)) | ((with_reducible refine condP_df ?_ ?_); (· omega)) | ((with_reducible refine condP_yes ?_ ?_); (· assumption)) | ((with_reducible refine condP_no ?_ ?_); (· assumption)) | ((with_reducible refine ArP_i64 ?_ ?_); (· omega)) | ((with_reducible refine mustP.mk ?_ ?_); (· first | omega | rfl | (dsimp only; omega))) | (with_reducible first | refine EqP_nil tab_ok ?_ | refine EqP_sli tab_ok ?_ | refine DrawP_auto tab_ok (by kernel_rfl) (by decide +kernel) ?_ | refine DrawP_auto2 tab_ok (by kernel_rfl) (by decide +kernel) ?_ | refine eq34 ?_ | refine eq68 ?_))))
              refine YieldP_round (n := 7) tab_ok rfl hB0 hps hca hbd (by kernel_rfl) (by kernel_rfl) (by kernel_rfl) (by kernel_rfl) (by rfl) ?_
              (repeat ((try (conv => whnf)); (first | (with_reducible first | refine condP_true ?_ | refine condP_false ?_ | refine condP_not ?_ | refine condP_and ?_) | ((with_reducible refine condP_dt ?_ ?_); (· omega)) | ((with_reducible refine condP_df ?_ ?_); (· omega)) | ((with_reducible refine condP_yes ?_ ?_); (· assumption)) | ((with_reducible refine condP_no ?_ ?_); (· assumption)) | ((with_reducible refine ArP_i64 ?_ ?_); (· omega)) | ((with_reducible refine mustP.mk ?_ ?_); (· first | omega | rfl | (dsimp only; omega))) | (with_reducible first | refine EqP_nil tab_ok ?_ | refine EqP_sli tab_ok ?_ | refine DrawP_auto tab_ok (by kernel_rfl) (by decide +kernel) ?_ | refine DrawP_auto2 tab_ok (by kernel_rfl) (by decide +kernel) ?_ | refine eq34 ?_ | refine eq68 ?_))))
              intro B1 hB1
              (repeat ((try (conv => whnf)); (first | (with_reducible first | refine condP_true ?_ | refine condP_false ?_ | refine condP_not ?_ | refine condP_and ?_) | ((with_reducible refine condP_dt ?_ ?_); (· omega)) | ((with_reducible refine condP_df ?_ ?_); (· omega)) | ((with_reducible refine condP_yes ?_ ?_); (· assumption)) | ((with_reducible refine condP_no ?_ ?_); (· assumption)) | ((with_reducible refine ArP_i64 ?_ ?_); (· omega)) | ((with_reducible refine mustP.mk ?_ ?_); (· first | omega | rfl | (dsimp only; omega))) | (with_reducible first | refine EqP_nil tab_ok ?_ | refine EqP_sli tab_ok ?_ | refine DrawP_auto tab_ok (by kernel_rfl) (by decide +kernel) ?_ | refine DrawP_auto2 tab_ok (by kernel_rfl) (by decide +kernel) ?_ | refine eq34 ?_ | refine eq68 ?_))))
              conv => whnf
              rw [hB1]
              refine LoopP_settle (i := y0) 2 1 5 5 (by rfl) rfl rfl rfl fun A1 cap1 M1 hM1 hc1 hm1 hF1 => ?_
              conv => whnf
              rw [← hB1]
              have hrows := hrows.settle hM1 hc1 hm1 hF1
              have hGM := Mem.le_trans hGM hM1
              generalize updM f y0 (.slice A1 l0.length cap1) = f1 at *
              refine LoopP_at2 tab_ok (fun (x : Nat) (l : List Run) => x ≤ t - i ∧ l = narY w (L.take (i + x)) r.y) (fun (x : Nat) l => [(23, .val (.int .i64 x))]) (fun x l => HN w f1 (some p) L c B1 r.y (t - i) (flatR (List.take (t - i) (List.drop i L))) l) (fun x l => t - i - x) 0 [] ⟨Nat.zero_le _, hnew.symm⟩ ?_ ?_
              · ((refine Le_head ?_); (conv => whnf); (refine Le_mk (by rfl) (by rfl) ?_ ?_); (· (repeat (first | (with_reducible exact frLe_nil) | (with_reducible first | refine frLe_any ?_ | refine frLe_val ?_) | ((with_reducible refine frLe_eq rfl ?_ ?_); (· rfl)) | ((with_reducible refine frLe_val' (int_eq ?_) ?_ ?_); (· omega); (· rfl)) | ((with_reducible refine frLe_val' (int_eq ?_) ?_ ?_); (· simp only [Int.natCast_add, Int.natCast_one, Int.natCast_ofNat] <;> omega); (· rfl)) | ((with_reducible refine frLe_val' (bool_eq ?_) ?_ ?_); (· first | assumption | (symm; assumption)); (· rfl))))))
                exact HN_nil hB1 (by kernel_rfl) _
              · rintro x l ⟨hx, hl⟩
                rcases Nat.lt_or_ge x (t - i) with h4 | h4
                · obtain ⟨s, hs⟩ : ∃ s, L[i + x]? = some s := ⟨L[i + x]'(by omega), List.getElem?_eq_getElem (by omega)⟩
                  have hsy := hK.same (i + x) s (by omega) (by omega) hs
                  have hsub : (List.take (t - i) (List.drop i L))[x]? = some s := by rw [List.getElem?_take, if_pos h4, List.getElem?_drop]; exact hs
                  obtain ⟨c0, c1, c2⟩ := flatR_get hsub
                  have e3 : ∀ K : List Value → Prop, K [.int .i64 s.y, .int .i64 s.x0, .int .i64 s.x1] → OwnCells (flatR (List.take (t - i) (List.drop i L))) ((x : Int).toNat * 3) 3 K := fun K k => OwnCells_list _ rfl (fun j u hj => by
                    rw [Int.toNat_natCast]
                    match j, hj with
                    | 0, hj => simp at hj; subst hj; exact c0
                    | 1, hj => simp at hj; subst hj; exact c1
                    | 2, hj => simp at hj; subst hj; exact c2) k
                  have hnx := narY_next (w := w) (x := i + x) hs r.y
                  rw [← hl, narY_one, if_pos hsy] at hnx
                  have hbd := v.bd (List.mem_of_getElem? hs)
                  have hll2 : l.length ≤ L.length := by rw [hl]; exact Nat.le_trans (narY_len _ _ _) (by rw [List.length_take]; omega)
                  by_cases ht : s.x0 + w < s.x1 - w
                  · rw [if_pos ht, hsy] at hnx
                    cases l with
                    | nil =>
                      have hfy : f1 r.y = none := by
                        have := hrows.1 r.y (fun l hl => by cases hl)
                        rw [hnew] at this
                        rcases this with h | h
                        · exact h.2
                        · exact absurd rfl h.1
                      have hlook : lookA r.y (.val ((f1 r.y).getD (.slice none 0 0))) [] [] = .val (.slice none 0 0) := by rw [hfy]; rfl
                      (repeat ((try (conv => whnf)); (first | (with_reducible refine e3 _ ?_) | (refine LookP.mk 3 22 (.slice none 0 0) (by kernel_rfl) (by kernel_rfl) (fun w => by kernel_rfl) _ hlook ?_) | (with_reducible refine DrawP_mk tab_ok (by kernel_rfl) 17 [] (by decide +kernel) ?_) | (refine PutP.new 3 22 (by kernel_rfl) (by kernel_rfl) rfl ?_) | (with_reducible first | refine condP_true ?_ | refine condP_false ?_ | refine condP_not ?_ | refine condP_and ?_) | ((with_reducible refine condP_dt ?_ ?_); (· omega)) | ((with_reducible refine condP_df ?_ ?_); (· omega)) | ((with_reducible refine condP_yes ?_ ?_); (· assumption)) | ((with_reducible refine condP_no ?_ ?_); (· assumption)) | ((with_reducible refine ArP_i64 ?_ ?_); (· omega)) | ((with_reducible refine mustP.mk ?_ ?_); (· first | omega | rfl | (dsimp only; omega))) | (with_reducible first | refine EqP_nil tab_ok ?_ | refine EqP_sli tab_ok ?_ | refine DrawP_auto tab_ok (by kernel_rfl) (by decide +kernel) ?_ | refine DrawP_auto2 tab_ok (by kernel_rfl) (by decide +kernel) ?_ | refine eq34 ?_ | refine eq68 ?_))))
                      conv => whnf
                      refine ⟨x + 1, [⟨r.y, s.x0 + w, s.x1 - w⟩], ⟨by omega, hnx.symm⟩, by omega, ?_⟩
                      refine Le_head ?_
                      conv => whnf
                      rw [hB1]
                      refine Le_move 9 7 (by rfl) (by rfl) (by rfl) (by rfl) ?_
                      conv => whnf
                      refine Le_mk (by rfl) (by rfl) (by (repeat (first | (with_reducible exact frLe_nil) | (with_reducible first | refine frLe_any ?_ | refine frLe_val ?_) | ((with_reducible refine frLe_eq rfl ?_ ?_); (· rfl)) | ((with_reducible refine frLe_val' (int_eq ?_) ?_ ?_); (· omega); (· rfl)) | ((with_reducible refine frLe_val' (int_eq ?_) ?_ ?_); (· simp only [Int.natCast_add, Int.natCast_one, Int.natCast_ofNat] <;> omega); (· rfl)) | ((with_reducible refine frLe_val' (bool_eq ?_) ?_ ?_); (· first | assumption | (symm; assumption)); (· rfl))))) ?_
                      exact HN_cons rfl (by kernel_rfl) _ rfl rfl
                    | cons s0 l0' =>
                      have hlook : lookA r.y (.val ((f1 r.y).getD (.slice none 0 0))) [r.y] [.own 7] = .own 7 := by simp [lookA]
                      have hhas : hasK r.y [r.y] = true := by simp [hasK]
                      have hput : putA r.y (.own 10) [r.y] [.own 7] = [.own 10] := by simp [putA]
                      have e0 : (s0 :: l0').length = l0'.length + 1 := rfl
                      (repeat ((try (conv => whnf)); (first | (with_reducible refine e3 _ ?_) | (refine LookP.mk 3 22 (.slice none 0 0) (by kernel_rfl) (by kernel_rfl) (fun w => by kernel_rfl) _ hlook ?_) | (with_reducible refine DrawP_mk tab_ok (by kernel_rfl) 17 [7] (by decide +kernel) ?_) | (refine PutP.old 3 22 (by kernel_rfl) (by kernel_rfl) hhas [.own 10] hput ?_) | (with_reducible first | refine condP_true ?_ | refine condP_false ?_ | refine condP_not ?_ | refine condP_and ?_) | ((with_reducible refine condP_dt ?_ ?_); (· omega)) | ((with_reducible refine condP_df ?_ ?_); (· omega)) | ((with_reducible refine condP_yes ?_ ?_); (· assumption)) | ((with_reducible refine condP_no ?_ ?_); (· assumption)) | ((with_reducible refine ArP_i64 ?_ ?_); (· omega)) | ((with_reducible refine mustP.mk ?_ ?_); (· first | omega | rfl | (dsimp only; omega))) | (with_reducible first | refine EqP_nil tab_ok ?_ | refine EqP_sli tab_ok ?_ | refine DrawP_auto tab_ok (by kernel_rfl) (by decide +kernel) ?_ | refine DrawP_auto2 tab_ok (by kernel_rfl) (by decide +kernel) ?_ | refine eq34 ?_ | refine eq68 ?_))))
                      conv => whnf
                      refine ⟨x + 1, (s0 :: l0') ++ [⟨r.y, s.x0 + w, s.x1 - w⟩], ⟨by omega, hnx.symm⟩, by omega, ?_⟩
                      refine Le_head ?_
                      conv => whnf
                      rw [hB1]
                      refine Le_move 10 7 (by rfl) (by rfl) (by rfl) (by rfl) ?_
                      conv => whnf
                      refine Le_mk (by rfl) (by rfl) (by (repeat (first | (with_reducible exact frLe_nil) | (with_reducible first | refine frLe_any ?_ | refine frLe_val ?_) | ((with_reducible refine frLe_eq rfl ?_ ?_); (· rfl)) | ((with_reducible refine frLe_val' (int_eq ?_) ?_ ?_); (· omega); (· rfl)) | ((with_reducible refine frLe_val' (int_eq ?_) ?_ ?_); (· simp only [Int.natCast_add, Int.natCast_one, Int.natCast_ofNat] <;> omega); (· rfl)) | ((with_reducible refine frLe_val' (bool_eq ?_) ?_ ?_); (· first | assumption | (symm; assumption)); (· rfl))))) ?_
                      exact HN_cons rfl (by kernel_rfl) _ (by simp) (by show _ = flatR ((s0 :: l0') ++ [(⟨r.y, s.x0 + w, s.x1 - w⟩ : Run)]); rw [flatR_append, flatR_one])
                  · rw [if_neg ht, List.append_nil] at hnx
                    cases l with
                    | nil =>
                      (repeat ((try (conv => whnf)); (first | (with_reducible first | refine e3 _ ?_ | refine condP_true ?_ | refine condP_false ?_ | refine condP_not ?_ | refine condP_and ?_) | ((with_reducible refine condP_dt ?_ ?_); (· omega)) | ((with_reducible refine condP_df ?_ ?_); (· omega)) | ((with_reducible refine condP_yes ?_ ?_); (· assumption)) | ((with_reducible refine condP_no ?_ ?_); (· assumption)) | ((with_reducible refine ArP_i64 ?_ ?_); (· omega)) | ((with_reducible refine mustP.mk ?_ ?_); (· first | omega | rfl | (dsimp only; omega))) | (with_reducible first | refine EqP_nil tab_ok ?_ | refine EqP_sli tab_ok ?_ | refine DrawP_auto tab_ok (by kernel_rfl) (by decide +kernel) ?_ | refine DrawP_auto2 tab_ok (by kernel_rfl) (by decide +kernel) ?_ | refine eq34 ?_ | refine eq68 ?_))))
                      conv => whnf
                      refine ⟨x + 1, [], ⟨by omega, hnx.symm⟩, by omega, ?_⟩
                      refine Le_head ?_
                      conv => whnf
                      rw [hB1]
                      refine Le_mk (by rfl) (by rfl) (by (repeat (first | (with_reducible exact frLe_nil) | (with_reducible first | refine frLe_any ?_ | refine frLe_val ?_) | ((with_reducible refine frLe_eq rfl ?_ ?_); (· rfl)) | ((with_reducible refine frLe_val' (int_eq ?_) ?_ ?_); (· omega); (· rfl)) | ((with_reducible refine frLe_val' (int_eq ?_) ?_ ?_); (· simp only [Int.natCast_add, Int.natCast_one, Int.natCast_ofNat] <;> omega); (· rfl)) | ((with_reducible refine frLe_val' (bool_eq ?_) ?_ ?_); (· first | assumption | (symm; assumption)); (· rfl))))) ?_
                      exact HN_nil rfl (by kernel_rfl) _
                    | cons s0 l0' =>
                      (repeat ((try (conv => whnf)); (first | (with_reducible first | refine e3 _ ?_ | refine condP_true ?_ | refine condP_false ?_ | refine condP_not ?_ | refine condP_and ?_) | ((with_reducible refine condP_dt ?_ ?_); (· omega)) | ((with_reducible refine condP_df ?_ ?_); (· omega)) | ((with_reducible refine condP_yes ?_ ?_); (· assumption)) | ((with_reducible refine condP_no ?_ ?_); (· assumption)) | ((with_reducible refine ArP_i64 ?_ ?_); (· omega)) | ((with_reducible refine mustP.mk ?_ ?_); (· first | omega | rfl | (dsimp only; omega))) | (with_reducible first | refine EqP_nil tab_ok ?_ | refine EqP_sli tab_ok ?_ | refine DrawP_auto tab_ok (by kernel_rfl) (by decide +kernel) ?_ | refine DrawP_auto2 tab_ok (by kernel_rfl) (by decide +kernel) ?_ | refine eq34 ?_ | refine eq68 ?_))))
                      conv => whnf
                      refine ⟨x + 1, s0 :: l0', ⟨by omega, hnx.symm⟩, by omega, ?_⟩
                      refine Le_head ?_
                      conv => whnf
                      rw [hB1]
                      refine Le_mk (by rfl) (by rfl) (by (repeat (first | (with_reducible exact frLe_nil) | (with_reducible first | refine frLe_any ?_ | refine frLe_val ?_) | ((with_reducible refine frLe_eq rfl ?_ ?_); (· rfl)) | ((with_reducible refine frLe_val' (int_eq ?_) ?_ ?_); (· omega); (· rfl)) | ((with_reducible refine frLe_val' (int_eq ?_) ?_ ?_); (· simp only [Int.natCast_add, Int.natCast_one, Int.natCast_ofNat] <;> omega); (· rfl)) | ((with_reducible refine frLe_val' (bool_eq ?_) ?_ ?_); (· first | assumption | (symm; assumption)); (· rfl))))) ?_
                      exact HN_cons rfl (by kernel_rfl) _ rfl rfl
                · obtain rfl : x = t - i := by omega
                  have hit : i + (t - i) = t := by omega
                  rw [hit] at hl
                  cases l with
                  | nil =>
                    (repeat ((try (conv => whnf)); (first | (with_reducible first | refine condP_true ?_ | refine condP_false ?_ | refine condP_not ?_ | refine condP_and ?_) | ((with_reducible refine condP_dt ?_ ?_); (· omega)) | ((with_reducible refine condP_df ?_ ?_); (· omega)) | ((with_reducible refine condP_yes ?_ ?_); (· assumption)) | ((with_reducible refine condP_no ?_ ?_); (· assumption)) | ((with_reducible refine ArP_i64 ?_ ?_); (· omega)) | ((with_reducible refine mustP.mk ?_ ?_); (· first | omega | rfl | (dsimp only; omega))) | (with_reducible first | refine EqP_nil tab_ok ?_ | refine EqP_sli tab_ok ?_ | refine DrawP_auto tab_ok (by kernel_rfl) (by decide +kernel) ?_ | refine DrawP_auto2 tab_ok (by kernel_rfl) (by decide +kernel) ?_ | refine eq34 ?_ | refine eq68 ?_))))
                    refine ⟨(t, f1, none, M1), ⟨by dsimp only; omega, fun q u h5 hq hu => hK.edge hq hu, by exact hGM, hrows.skip hK hnew hl.symm⟩, by dsimp only; omega, ?_⟩
                    refine Le_head ?_
                    conv => whnf
                    rw [hB0]
                    refine Le_mk (by rfl) (by rfl) (by (repeat (first | (with_reducible exact frLe_nil) | (with_reducible first | refine frLe_any ?_ | refine frLe_val ?_) | ((with_reducible refine frLe_eq rfl ?_ ?_); (· rfl)) | ((with_reducible refine frLe_val' (int_eq ?_) ?_ ?_); (· omega); (· rfl)) | ((with_reducible refine frLe_val' (int_eq ?_) ?_ ?_); (· simp only [Int.natCast_add, Int.natCast_one, Int.natCast_ofNat] <;> omega); (· rfl)) | ((with_reducible refine frLe_val' (bool_eq ?_) ?_ ?_); (· first | assumption | (symm; assumption)); (· rfl))))) ?_
                    exact HE_none rfl (by kernel_rfl) _
                  | cons s0 l0' =>
                    (repeat ((try (conv => whnf)); (first | (with_reducible first | refine condP_true ?_ | refine condP_false ?_ | refine condP_not ?_ | refine condP_and ?_) | ((with_reducible refine condP_dt ?_ ?_); (· omega)) | ((with_reducible refine condP_df ?_ ?_); (· omega)) | ((with_reducible refine condP_yes ?_ ?_); (· assumption)) | ((with_reducible refine condP_no ?_ ?_); (· assumption)) | ((with_reducible refine ArP_i64 ?_ ?_); (· omega)) | ((with_reducible refine mustP.mk ?_ ?_); (· first | omega | rfl | (dsimp only; omega))) | (with_reducible first | refine EqP_nil tab_ok ?_ | refine EqP_sli tab_ok ?_ | refine DrawP_auto tab_ok (by kernel_rfl) (by decide +kernel) ?_ | refine DrawP_auto2 tab_ok (by kernel_rfl) (by decide +kernel) ?_ | refine eq34 ?_ | refine eq68 ?_))))
                    refine ⟨(t, f1, some (r.y, s0 :: l0'), M1), ⟨by dsimp only; omega, fun q u h5 hq hu => hK.edge hq hu, by exact hGM, hrows.next hK hl.symm (by simp)⟩, by dsimp only; omega, ?_⟩
                    refine Le_head ?_
                    conv => whnf
                    rw [hB0]
                    refine Le_move 7 5 (by rfl) (by rfl) (by rfl) (by rfl) ?_
                    conv => whnf
                    refine Le_mk (by rfl) (by rfl) (by (repeat (first | (with_reducible exact frLe_nil) | (with_reducible first | refine frLe_any ?_ | refine frLe_val ?_) | ((with_reducible refine frLe_eq rfl ?_ ?_); (· rfl)) | ((with_reducible refine frLe_val' (int_eq ?_) ?_ ?_); (· omega); (· rfl)) | ((with_reducible refine frLe_val' (int_eq ?_) ?_ ?_); (· simp only [Int.natCast_add, Int.natCast_one, Int.natCast_ofNat] <;> omega); (· rfl)) | ((with_reducible refine frLe_val' (bool_eq ?_) ?_ ?_); (· first | assumption | (symm; assumption)); (· rfl))))) ?_
                    exact HE_some rfl (by kernel_rfl) rfl rfl
    · obtain rfl : i = L.length := by omega
      cases hot with
      | none =>
        (repeat ((try (conv => whnf)); (first | (with_reducible first | refine condP_true ?_ | refine condP_false ?_ | refine condP_not ?_ | refine condP_and ?_) | ((with_reducible refine condP_dt ?_ ?_); (· omega)) | ((with_reducible refine condP_df ?_ ?_); (· omega)) | ((with_reducible refine condP_yes ?_ ?_); (· assumption)) | ((with_reducible refine condP_no ?_ ?_); (· assumption)) | ((with_reducible refine ArP_i64 ?_ ?_); (· omega)) | ((with_reducible refine mustP.mk ?_ ?_); (· first | omega | rfl | (dsimp only; omega))) | (with_reducible first | refine EqP_nil tab_ok ?_ | refine EqP_sli tab_ok ?_ | refine DrawP_auto tab_ok (by kernel_rfl) (by decide +kernel) ?_ | refine DrawP_auto2 tab_ok (by kernel_rfl) (by decide +kernel) ?_ | refine eq34 ?_ | refine eq68 ?_))))
        intro G3 hG3 hcl
        refine RangeEnd.all rfl ?_
        (repeat ((try (conv => whnf)); (first | (with_reducible first | refine condP_true ?_ | refine condP_false ?_ | refine condP_not ?_ | refine condP_and ?_) | ((with_reducible refine condP_dt ?_ ?_); (· omega)) | ((with_reducible refine condP_df ?_ ?_); (· omega)) | ((with_reducible refine condP_yes ?_ ?_); (· assumption)) | ((with_reducible refine condP_no ?_ ?_); (· assumption)) | ((with_reducible refine ArP_i64 ?_ ?_); (· omega)) | ((with_reducible refine mustP.mk ?_ ?_); (· first | omega | rfl | (dsimp only; omega))) | (with_reducible first | refine EqP_nil tab_ok ?_ | refine EqP_sli tab_ok ?_ | refine DrawP_auto tab_ok (by kernel_rfl) (by decide +kernel) ?_ | refine DrawP_auto2 tab_ok (by kernel_rfl) (by decide +kernel) ?_ | refine eq34 ?_ | refine eq68 ?_ | refine CallP_enter tab_ok Try.func34 (fun vs w => by kernel_rfl) (by rfl) ?_))))
        conv => whnf
        have hAM2 := hAM.cmono hcl
        have hrows2 := hrows.cmono hcl
        refine RangeP_enter tab_ok Try.func43 (fun vs w => by kernel_rfl) ?_
        conv => whnf
        intro j2 G2 C0 hC0 hps2 hca2 hbd2 hle2
        have hA2 := hAM2.mono hle2
        have hrows2 := hrows2.mono hle2
        have hC2 := Check_gives hA2 hc hm
        rw [he] at hC2
        clear hlast hrows hAM hps hca hbd
        (repeat ((try (conv => whnf)); (first | (with_reducible first | refine condP_true ?_ | refine condP_false ?_ | refine condP_not ?_ | refine condP_and ?_) | ((with_reducible refine condP_dt ?_ ?_); (· omega)) | ((with_reducible refine condP_df ?_ ?_); (· omega)) | ((with_reducible refine condP_yes ?_ ?_); (· assumption)) | ((with_reducible refine condP_no ?_ ?_); (· assumption)) | ((with_reducible refine ArP_i64 ?_ ?_); (· omega)) | ((with_reducible refine mustP.mk ?_ ?_); (· first | omega | rfl | (dsimp only; omega))) | (with_reducible first | refine EqP_nil tab_ok ?_ | refine EqP_sli tab_ok ?_ | refine DrawP_auto tab_ok (by kernel_rfl) (by decide +kernel) ?_ | refine DrawP_auto2 tab_ok (by kernel_rfl) (by decide +kernel) ?_ | refine eq34 ?_ | refine eq68 ?_ | refine CallP_gives (fun vs w => by kernel_rfl) (by kernel_rfl) (hC2) ?_ | refine RCallP_gives (fun vs w => by kernel_rfl) (by kernel_rfl) (hC2) ?_))))
        conv => whnf
        refine LoopP_atG tab_ok (ι := Nat × Mem) (fun s => s.1 ≤ L.length ∧ (∀ r q, 0 < s.1 → L[s.1 - 1]? = some r → L[s.1]? = some q → r.y < q.y) ∧ G2.le s.2) (fun s => match s with | (i, N) => [(3, .val (.int .i64 i))]) (fun s => match s with | (i, N) => HS w f A L c C0 (outE w L i)) (fun s => s.2) (fun s => L.length - s.1) (0, G2) ⟨Nat.zero_le _, fun r q h => absurd h (Nat.lt_irrefl _), Mem.le_refl _⟩ ?_ ?_
        · refine Le_head ?_
          conv => whnf
          rw [hC0]
          refine Le_own 34 3 ?_
          conv => whnf
          refine Le_mk (by rfl) (by rfl) (by (repeat (first | (with_reducible exact frLe_nil) | (with_reducible first | refine frLe_any ?_ | refine frLe_val ?_) | ((with_reducible refine frLe_eq rfl ?_ ?_); (· rfl)) | ((with_reducible refine frLe_val' (int_eq ?_) ?_ ?_); (· omega); (· rfl)) | ((with_reducible refine frLe_val' (int_eq ?_) ?_ ?_); (· simp only [Int.natCast_add, Int.natCast_one, Int.natCast_ofNat] <;> omega); (· rfl)) | ((with_reducible refine frLe_val' (bool_eq ?_) ?_ ?_); (· first | assumption | (symm; assumption)); (· rfl))))) ?_
          exact HS_le _ _ _ rfl (by kernel_rfl) rfl rfl
        · rintro ⟨i, N⟩ ⟨hi, hlast, hGN⟩
          dsimp only at hi hlast hGN ⊢
          have hAN := hA2.mono hGN
          have hrowsN := hrows2.mono hGN
          have hol : (outE w L i).length ≤ 100000000000 := by
            have h1 := outE_len w L i
            have h2 : (2 * w.toNat + 1) * L.length ≤ 129 * 10000 := Nat.mul_le_mul (by omega) (by omega)
            have h3 : i * ((2 * w.toNat + 1) * L.length) ≤ 10000 * (129 * 10000) := Nat.mul_le_mul (by omega) h2
            omega
          rcases Nat.lt_or_ge i L.length with h1 | h1
          · obtain ⟨r, hr⟩ : ∃ r, L[i]? = some r := ⟨L[i], List.getElem?_eq_getElem h1⟩
            obtain ⟨p, rfl, q0, _⟩ := hAN.at_ hr
            obtain ⟨K, hK⟩ := row_at v hr
            have k1 := hK.lt
            have k2 := hK.le
            have hbr := v.bd (List.mem_of_getElem? hr)
            (repeat ((try (conv => whnf)); (first | (with_reducible first | refine condP_true ?_ | refine condP_false ?_ | refine condP_not ?_ | refine condP_and ?_) | ((with_reducible refine condP_dt ?_ ?_); (· omega)) | ((with_reducible refine condP_df ?_ ?_); (· omega)) | ((with_reducible refine condP_yes ?_ ?_); (· assumption)) | ((with_reducible refine condP_no ?_ ?_); (· assumption)) | ((with_reducible refine ArP_i64 ?_ ?_); (· omega)) | ((with_reducible refine mustP.mk ?_ ?_); (· first | omega | rfl | (dsimp only; omega))) | (with_reducible first | refine EqP_nil tab_ok ?_ | refine EqP_sli tab_ok ?_ | refine DrawP_auto tab_ok (by kernel_rfl) (by decide +kernel) ?_ | refine DrawP_auto2 tab_ok (by kernel_rfl) (by decide +kernel) ?_ | refine eq34 ?_ | refine eq68 ?_))))
            conv => whnf
            refine LoopP_at tab_ok (fun t => i ≤ t ∧ t ≤ K) (fun (t : Nat) => [(4, .val (.int .i64 t))]) (fun t => HS w f (some p) L c C0 (outE w L i)) (fun t => K - t) i ⟨Nat.le_refl _, by omega⟩ ?_ ?_
            · ((refine Le_head ?_); (conv => whnf); (refine Le_mk (by rfl) (by rfl) ?_ ?_); (· (repeat (first | (with_reducible exact frLe_nil) | (with_reducible first | refine frLe_any ?_ | refine frLe_val ?_) | ((with_reducible refine frLe_eq rfl ?_ ?_); (· rfl)) | ((with_reducible refine frLe_val' (int_eq ?_) ?_ ?_); (· omega); (· rfl)) | ((with_reducible refine frLe_val' (int_eq ?_) ?_ ?_); (· simp only [Int.natCast_add, Int.natCast_one, Int.natCast_ofNat] <;> omega); (· rfl)) | ((with_reducible refine frLe_val' (bool_eq ?_) ?_ ?_); (· first | assumption | (symm; assumption)); (· rfl))))))
              exact HS_le _ _ _ hC0 (by kernel_rfl) rfl rfl
            · rintro t ⟨ht, htK⟩
              rcases Nat.lt_or_ge t K with h2 | h2
              · obtain ⟨u, hu⟩ : ∃ u, L[t]? = some u := ⟨L[t]'(by omega), List.getElem?_eq_getElem (by omega)⟩
                obtain ⟨p', hp', u0, _⟩ := hAN.at_ hu
                obtain rfl := Option.some.inj hp'
                have hy := hK.same t u ht h2 hu
                rw [hy] at u0
                (repeat ((try (conv => whnf)); (first | (refine OldCells_one _ u0 ?_) | (refine OldCells_one _ q0 ?_) | (with_reducible first | refine condP_true ?_ | refine condP_false ?_ | refine condP_not ?_ | refine condP_and ?_) | ((with_reducible refine condP_dt ?_ ?_); (· omega)) | ((with_reducible refine condP_df ?_ ?_); (· omega)) | ((with_reducible refine condP_yes ?_ ?_); (· assumption)) | ((with_reducible refine condP_no ?_ ?_); (· assumption)) | ((with_reducible refine ArP_i64 ?_ ?_); (· omega)) | ((with_reducible refine mustP.mk ?_ ?_); (· first | omega | rfl | (dsimp only; omega))) | (with_reducible first | refine EqP_nil tab_ok ?_ | refine EqP_sli tab_ok ?_ | refine DrawP_auto tab_ok (by kernel_rfl) (by decide +kernel) ?_ | refine DrawP_auto2 tab_ok (by kernel_rfl) (by decide +kernel) ?_ | refine eq34 ?_ | refine eq68 ?_))))
                refine ⟨t + 1, ⟨by omega, by omega⟩, by omega, ?_⟩
                ((refine Le_head ?_); (conv => whnf); (refine Le_mk (by rfl) (by rfl) ?_ ?_); (· (repeat (first | (with_reducible exact frLe_nil) | (with_reducible first | refine frLe_any ?_ | refine frLe_val ?_) | ((with_reducible refine frLe_eq rfl ?_ ?_); (· rfl)) | ((with_reducible refine frLe_val' (int_eq ?_) ?_ ?_); (· omega); (· rfl)) | ((with_reducible refine frLe_val' (int_eq ?_) ?_ ?_); (· simp only [Int.natCast_add, Int.natCast_one, Int.natCast_ofNat] <;> omega); (· rfl)) | ((with_reducible refine frLe_val' (bool_eq ?_) ?_ ?_); (· first | assumption | (symm; assumption)); (· rfl))))))
                exact HS_le _ _ _ hC0 (by kernel_rfl) rfl rfl
              · obtain rfl : t = K := by omega
                have hne : c ≠ i := by omega
                have hlen : ((L.drop i).take (t - i)).length = t - i := by rw [List.length_take, List.length_drop]; omega
                have mk : Makes Try.prog 39 [.val (.slice (if c = (i : Int).toNat then some p else Option.map (fun x => x.add ((i : Int).toNat * 3)) (some p)) ((t : Int).toNat - (i : Int).toNat) (c - (i : Int).toNat))] N id 34 3 (t - i) (flatR ((L.drop i).take (t - i))) := by
                  have h := CloneR_makes (c := c - i) (runs_sub hAN i (t - i)) (by rw [hlen]; omega)
                  rw [hlen] at h
                  simp only [Int.toNat_natCast, if_neg hne, Option.map_some]
                  exact h
                obtain ⟨A0, cp0, e0, hR0, hc0, hm0⟩ := hrowsN.look r.y
                have hl0 : lookA r.y (.val ((f r.y).getD (.slice none 0 0))) [] [] = .val (.slice A0 (narY w L r.y).length cp0) := by show AV.val _ = _; rw [e0]
                rcases Nat.lt_or_ge t L.length with h3 | h3
                · obtain ⟨u, hu⟩ : ∃ u, L[t]? = some u := ⟨L[t]'(by omega), List.getElem?_eq_getElem (by omega)⟩
                  obtain ⟨p', hp', u0, _⟩ := hAN.at_ hu
                  obtain rfl := Option.some.inj hp'
                  have hy := hK.next u hu
                  (repeat ((try (conv => whnf)); (first | (refine OldCells_one _ u0 ?_) | (refine OldCells_one _ q0 ?_) | (with_reducible refine DrawP_mk tab_ok (by kernel_rfl) 11 [] (by decide +kernel) ?_) | (refine RCallP_makes (fun vs w => by kernel_rfl) (.alone fun _ => rfl) (by kernel_rfl) mk ?_) | (with_reducible first | refine condP_true ?_ | refine condP_false ?_ | refine condP_not ?_ | refine condP_and ?_) | ((with_reducible refine condP_dt ?_ ?_); (· omega)) | ((with_reducible refine condP_df ?_ ?_); (· omega)) | ((with_reducible refine condP_yes ?_ ?_); (· assumption)) | ((with_reducible refine condP_no ?_ ?_); (· assumption)) | ((with_reducible refine ArP_i64 ?_ ?_); (· omega)) | ((with_reducible refine mustP.mk ?_ ?_); (· first | omega | rfl | (dsimp only; omega))) | (with_reducible first | refine EqP_nil tab_ok ?_ | refine EqP_sli tab_ok ?_ | refine DrawP_auto tab_ok (by kernel_rfl) (by decide +kernel) ?_ | refine DrawP_auto2 tab_ok (by kernel_rfl) (by decide +kernel) ?_ | refine eq34 ?_ | refine eq68 ?_))))
                  refine YieldP_round (n := 11) tab_ok rfl hC0 hps2 hca2 hbd2 (by kernel_rfl) (by kernel_rfl) (by kernel_rfl) (by kernel_rfl) (by rfl) ?_
                  (repeat ((try (conv => whnf)); (first | (with_reducible first | refine condP_true ?_ | refine condP_false ?_ | refine condP_not ?_ | refine condP_and ?_) | ((with_reducible refine condP_dt ?_ ?_); (· omega)) | ((with_reducible refine condP_df ?_ ?_); (· omega)) | ((with_reducible refine condP_yes ?_ ?_); (· assumption)) | ((with_reducible refine condP_no ?_ ?_); (· assumption)) | ((with_reducible refine ArP_i64 ?_ ?_); (· omega)) | ((with_reducible refine mustP.mk ?_ ?_); (· first | omega | rfl | (dsimp only; omega))) | (with_reducible first | refine EqP_nil tab_ok ?_ | refine EqP_sli tab_ok ?_ | refine DrawP_auto tab_ok (by kernel_rfl) (by decide +kernel) ?_ | refine DrawP_auto2 tab_ok (by kernel_rfl) (by decide +kernel) ?_ | refine eq34 ?_ | refine eq68 ?_))))
                  intro C1 hC1
                  (repeat ((try (conv => whnf)); (first | (refine LookP.mk 3 22 (.slice none 0 0) (by kernel_rfl) (by kernel_rfl) (fun w => by kernel_rfl) _ hl0 ?_) | (with_reducible first | refine condP_true ?_ | refine condP_false ?_ | refine condP_not ?_ | refine condP_and ?_) | ((with_reducible refine condP_dt ?_ ?_); (· omega)) | ((with_reducible refine condP_df ?_ ?_); (· omega)) | ((with_reducible refine condP_yes ?_ ?_); (· assumption)) | ((with_reducible refine condP_no ?_ ?_); (· assumption)) | ((with_reducible refine ArP_i64 ?_ ?_); (· omega)) | ((with_reducible refine mustP.mk ?_ ?_); (· first | omega | rfl | (dsimp only; omega))) | (with_reducible first | refine EqP_nil tab_ok ?_ | refine EqP_sli tab_ok ?_ | refine DrawP_auto tab_ok (by kernel_rfl) (by decide +kernel) ?_ | refine DrawP_auto2 tab_ok (by kernel_rfl) (by decide +kernel) ?_ | refine eq34 ?_ | refine eq68 ?_))))
                  conv => whnf
                  refine LoopP_atG tab_ok (ι := Nat × Option Addr × Nat × Mem) (fun s => s.1 ≤ w.toNat ∧ RunsM s.2.2.2 s.2.1 (leftD w L r.y s.1) ∧ (leftD w L r.y s.1).length ≤ s.2.2.1 ∧ s.2.2.1 ≤ maxLen ∧ N.le s.2.2.2) (fun s => match s with | (d, B, cb, M9) => [(12, .val (.slice B (leftD w L r.y d).length cb)), (13, .val (.int .i64 ((d : Int) + 1)))]) (fun s => HT w f (some p) L c C1 (outE w L i) (t - i) (flatR (List.take (t - i) (List.drop i L)))) (fun s => s.2.2.2) (fun s => w.toNat - s.1) (0, A0, cp0, N) ⟨Nat.zero_le _, hR0, hc0, hm0, Mem.le_refl _⟩ ?_ ?_
                  · ((refine Le_head ?_); (conv => whnf); (refine Le_mk (by rfl) (by rfl) ?_ ?_); (· (repeat (first | (with_reducible exact frLe_nil) | (with_reducible first | refine frLe_any ?_ | refine frLe_val ?_) | ((with_reducible refine frLe_eq rfl ?_ ?_); (· rfl)) | ((with_reducible refine frLe_val' (int_eq ?_) ?_ ?_); (· omega); (· rfl)) | ((with_reducible refine frLe_val' (int_eq ?_) ?_ ?_); (· simp only [Int.natCast_add, Int.natCast_one, Int.natCast_ofNat] <;> omega); (· rfl)) | ((with_reducible refine frLe_val' (bool_eq ?_) ?_ ?_); (· first | assumption | (symm; assumption)); (· rfl))))))
                    exact HT_le _ _ _ hC1 (by kernel_rfl) rfl rfl
                  · rintro ⟨d, B, cb, M9⟩ ⟨hd, hRB, hcb, hmb, hNM⟩
                    dsimp only at hd hRB hcb hmb hNM ⊢
                    have hrows9 := hrowsN.mono hNM
                    have hld := leftD_len w L r.y d
                    have hld2 : (2 * d + 1) * L.length ≤ 129 * 10000 := Nat.mul_le_mul (by omega) (by omega)
                    by_cases hgo : d < w.toNat ∧ leftD w L r.y d ≠ []
                    · obtain ⟨hgo1, hgo2⟩ := hgo
                      have hpos : 0 < (leftD w L r.y d).length := List.length_pos_iff.2 hgo2
                      obtain ⟨A3, cp3, e3, hR3, hc3, hm3⟩ := hrows9.look (r.y - ((d : Int) + 1))
                      have hl3 : lookA (r.y - ((d : Int) + 1)) (.val ((f (r.y - ((d : Int) + 1))).getD (.slice none 0 0))) [] [] = .val (.slice A3 (narY w L (r.y - ((d : Int) + 1))).length cp3) := by show AV.val _ = _; rw [e3]
                      have hn3 := narY_len w L (r.y - ((d : Int) + 1))
                      have mk1 := meet_makes (y := r.y) hRB hR3 hcb hmb hc3 hm3 (by omega)
                      (repeat ((try (conv => whnf)); (first | (refine LookP.mk 3 22 (.slice none 0 0) (by kernel_rfl) (by kernel_rfl) (fun w => by kernel_rfl) _ hl3 ?_) | (with_reducible first | refine condP_true ?_ | refine condP_false ?_ | refine condP_not ?_ | refine condP_and ?_) | ((with_reducible refine condP_dt ?_ ?_); (· omega)) | ((with_reducible refine condP_df ?_ ?_); (· omega)) | ((with_reducible refine condP_yes ?_ ?_); (· assumption)) | ((with_reducible refine condP_no ?_ ?_); (· assumption)) | ((with_reducible refine ArP_i64 ?_ ?_); (· omega)) | ((with_reducible refine mustP.mk ?_ ?_); (· first | omega | rfl | (dsimp only; omega))) | (with_reducible first | refine EqP_nil tab_ok ?_ | refine EqP_sli tab_ok ?_ | refine DrawP_auto tab_ok (by kernel_rfl) (by decide +kernel) ?_ | refine DrawP_auto2 tab_ok (by kernel_rfl) (by decide +kernel) ?_ | refine eq34 ?_ | refine eq68 ?_))))
                      conv => whnf
                      refine CallP_freeze (fun vs w => by kernel_rfl) (.alone fun _ => rfl) (by kernel_rfl) mk1 fun A5 c5 M5 hM5 hc5 hm5 hx5 => ?_
                      have hR5 := RunsM.frozen hx5
                      have hl5 := meetL_len r.y _ (leftD w L r.y d) (narY w L (r.y - ((d : Int) + 1))) (Nat.le_refl _)
                      obtain ⟨A6, cp6, e6, hR6, hc6, hm6⟩ := (hrows9.mono hM5).look (r.y + ((d : Int) + 1))
                      have hl6 : lookA (r.y + ((d : Int) + 1)) (.val ((f (r.y + ((d : Int) + 1))).getD (.slice none 0 0))) [] [] = .val (.slice A6 (narY w L (r.y + ((d : Int) + 1))).length cp6) := by show AV.val _ = _; rw [e6]
                      have hn6 := narY_len w L (r.y + ((d : Int) + 1))
                      have mk2 := meet_makes (y := r.y) hR5 hR6 hc5 hm5 hc6 hm6 (by omega)
                      (repeat ((try (conv => whnf)); (first | (refine LookP.mk 3 22 (.slice none 0 0) (by kernel_rfl) (by kernel_rfl) (fun w => by kernel_rfl) _ hl6 ?_) | (with_reducible first | refine condP_true ?_ | refine condP_false ?_ | refine condP_not ?_ | refine condP_and ?_) | ((with_reducible refine condP_dt ?_ ?_); (· omega)) | ((with_reducible refine condP_df ?_ ?_); (· omega)) | ((with_reducible refine condP_yes ?_ ?_); (· assumption)) | ((with_reducible refine condP_no ?_ ?_); (· assumption)) | ((with_reducible refine ArP_i64 ?_ ?_); (· omega)) | ((with_reducible refine mustP.mk ?_ ?_); (· first | omega | rfl | (dsimp only; omega))) | (with_reducible first | refine EqP_nil tab_ok ?_ | refine EqP_sli tab_ok ?_ | refine DrawP_auto tab_ok (by kernel_rfl) (by decide +kernel) ?_ | refine DrawP_auto2 tab_ok (by kernel_rfl) (by decide +kernel) ?_ | refine eq34 ?_ | refine eq68 ?_))))
                      conv => whnf
                      refine CallP_freeze (fun vs w => by kernel_rfl) (.alone fun _ => rfl) (by kernel_rfl) mk2 fun A7 c7 M7 hM7 hc7 hm7 hx7 => ?_
                      have hR7 := RunsM.frozen hx7
                      (repeat ((try (conv => whnf)); (first | (with_reducible first | refine condP_true ?_ | refine condP_false ?_ | refine condP_not ?_ | refine condP_and ?_) | ((with_reducible refine condP_dt ?_ ?_); (· omega)) | ((with_reducible refine condP_df ?_ ?_); (· omega)) | ((with_reducible refine condP_yes ?_ ?_); (· assumption)) | ((with_reducible refine condP_no ?_ ?_); (· assumption)) | ((with_reducible refine ArP_i64 ?_ ?_); (· omega)) | ((with_reducible refine mustP.mk ?_ ?_); (· first | omega | rfl | (dsimp only; omega))) | (with_reducible first | refine EqP_nil tab_ok ?_ | refine EqP_sli tab_ok ?_ | refine DrawP_auto tab_ok (by kernel_rfl) (by decide +kernel) ?_ | refine DrawP_auto2 tab_ok (by kernel_rfl) (by decide +kernel) ?_ | refine eq34 ?_ | refine eq68 ?_))))
                      conv => whnf
                      refine ⟨(d + 1, A7, c7, M7), ⟨by dsimp only; omega, hR7, hc7, hm7, Mem.le_trans hNM (Mem.le_trans hM5 hM7)⟩, by dsimp only; omega, ?_⟩
                      ((refine Le_head ?_); (conv => whnf); (refine Le_mk (by rfl) (by rfl) ?_ ?_); (· (repeat (first | (with_reducible exact frLe_nil) | (with_reducible first | refine frLe_any ?_ | refine frLe_val ?_) | ((with_reducible refine frLe_eq rfl ?_ ?_); (· rfl)) | ((with_reducible refine frLe_val' (int_eq ?_) ?_ ?_); (· omega); (· rfl)) | ((with_reducible refine frLe_val' (int_eq ?_) ?_ ?_); (· simp only [Int.natCast_add, Int.natCast_one, Int.natCast_ofNat] <;> omega); (· rfl)) | ((with_reducible refine frLe_val' (bool_eq ?_) ?_ ?_); (· first | assumption | (symm; assumption)); (· rfl))))))
                      exact HT_le _ _ _ hC1 (by kernel_rfl) rfl rfl
                    · have hfin : leftD w L r.y d = leftY w L r.y := by
                        by_cases hdw : d = w.toNat
                        · rw [hdw]
                        · have hnil : leftD w L r.y d = [] := Decidable.not_not.1 fun h => hgo ⟨by omega, h⟩
                          have := leftD_nil hnil (w.toNat - d)
                          rw [show d + (w.toNat - d) = w.toNat by omega] at this
                          rw [hnil]; exact this.symm
                      have hgo3 : d = w.toNat ∨ (d < w.toNat ∧ (leftD w L r.y d).length = 0) := by
                        by_cases hdw : d = w.toNat
                        · exact .inl hdw
                        · have hnil : leftD w L r.y d = [] := Decidable.not_not.1 fun h => hgo ⟨by omega, h⟩
                          exact .inr ⟨by omega, by rw [hnil]; rfl⟩
                      clear hgo
                      have hrow := outE_row (w := w) hK hlast
                      rw [← hfin] at hrow
                      have hlfy := leftD_y (w := w) (L := L) (y := r.y) d
                      clear hfin mk hrows9
                      generalize leftD w L r.y d = lf at *
                      rcases hgo3 with hgo3 | hgo3
                      · skip
                        (repeat ((try (conv => whnf)); (first | (with_reducible first | refine condP_true ?_ | refine condP_false ?_ | refine condP_not ?_ | refine condP_and ?_) | ((with_reducible refine condP_dt ?_ ?_); (· omega)) | ((with_reducible refine condP_df ?_ ?_); (· omega)) | ((with_reducible refine condP_yes ?_ ?_); (· assumption)) | ((with_reducible refine condP_no ?_ ?_); (· assumption)) | ((with_reducible refine ArP_i64 ?_ ?_); (· omega)) | ((with_reducible refine mustP.mk ?_ ?_); (· first | omega | rfl | (dsimp only; omega))) | (with_reducible first | refine EqP_nil tab_ok ?_ | refine EqP_sli tab_ok ?_ | refine DrawP_auto tab_ok (by kernel_rfl) (by decide +kernel) ?_ | refine DrawP_auto2 tab_ok (by kernel_rfl) (by decide +kernel) ?_ | refine eq34 ?_ | refine eq68 ?_))))
                        conv => whnf
                        refine LoopP_at2 tab_ok (fun x out => x ≤ lf.length ∧ out = jn (outE w L i) (lf.take x)) (fun (x : Nat) out => [(89, .val (.int .i64 x))]) (fun x out => HU w f (some p) L c C1 out (t - i) (flatR (List.take (t - i) (List.drop i L)))) (fun x _ => lf.length - x) 0 (outE w L i) ⟨Nat.zero_le _, rfl⟩ ?_ ?_
                        · refine Le_head ?_
                          conv => whnf
                          rw [hC1]
                          refine Le_up 9 (by rfl) ?_
                          conv => whnf
                          refine Le_mk (by rfl) (by rfl) (by (repeat (first | (with_reducible exact frLe_nil) | (with_reducible first | refine frLe_any ?_ | refine frLe_val ?_) | ((with_reducible refine frLe_eq rfl ?_ ?_); (· rfl)) | ((with_reducible refine frLe_val' (int_eq ?_) ?_ ?_); (· omega); (· rfl)) | ((with_reducible refine frLe_val' (int_eq ?_) ?_ ?_); (· simp only [Int.natCast_add, Int.natCast_one, Int.natCast_ofNat] <;> omega); (· rfl)) | ((with_reducible refine frLe_val' (bool_eq ?_) ?_ ?_); (· first | assumption | (symm; assumption)); (· rfl))))) ?_
                          exact HU_le _ _ _ _ rfl (by kernel_rfl) rfl rfl
                        · rintro x out ⟨hx, ho⟩
                          have hol2 : out.length ≤ 200000000000 := by
                            have := jn_len (lf.take x) (outE w L i)
                            rw [← ho, List.length_take] at this
                            omega
                          rcases Nat.lt_or_ge x lf.length with h9 | h9
                          · obtain ⟨s, hs⟩ : ∃ s, lf[x]? = some s := ⟨lf[x], List.getElem?_eq_getElem h9⟩
                            obtain ⟨p9, hp9, ca⟩ := hRB.cells hs
                            have hst := jn_takeO (o := outE w L i) hs
                            have hsy := hlfy s (List.mem_of_getElem? hs)
                            rw [← ho, hsy] at hst
                            subst hp9
                            clear hRB hlfy
                            by_cases hxx : s.x1 ≤ s.x0
                            · rw [addR_no hxx] at hst
                              (repeat ((try (conv => whnf)); (first | (refine ca _ ?_) | (with_reducible first | refine condP_true ?_ | refine condP_false ?_ | refine condP_not ?_ | refine condP_and ?_) | ((with_reducible refine condP_dt ?_ ?_); (· omega)) | ((with_reducible refine condP_df ?_ ?_); (· omega)) | ((with_reducible refine condP_yes ?_ ?_); (· assumption)) | ((with_reducible refine condP_no ?_ ?_); (· assumption)) | ((with_reducible refine ArP_i64 ?_ ?_); (· omega)) | ((with_reducible refine mustP.mk ?_ ?_); (· first | omega | rfl | (dsimp only; omega))) | (with_reducible first | refine EqP_nil tab_ok ?_ | refine EqP_sli tab_ok ?_ | refine DrawP_auto tab_ok (by kernel_rfl) (by decide +kernel) ?_ | refine DrawP_auto2 tab_ok (by kernel_rfl) (by decide +kernel) ?_ | refine eq34 ?_ | refine eq68 ?_ | refine CallP_enter tab_ok Try.func32 (fun vs w => by kernel_rfl) (by rfl) ?_))))
                              conv => whnf
                              refine ⟨x + 1, out, ⟨by omega, hst.symm⟩, by omega, ?_⟩
                              ((refine Le_head ?_); (conv => whnf); (refine Le_mk (by rfl) (by rfl) ?_ ?_); (· (repeat (first | (with_reducible exact frLe_nil) | (with_reducible first | refine frLe_any ?_ | refine frLe_val ?_) | ((with_reducible refine frLe_eq rfl ?_ ?_); (· rfl)) | ((with_reducible refine frLe_val' (int_eq ?_) ?_ ?_); (· omega); (· rfl)) | ((with_reducible refine frLe_val' (int_eq ?_) ?_ ?_); (· simp only [Int.natCast_add, Int.natCast_one, Int.natCast_ofNat] <;> omega); (· rfl)) | ((with_reducible refine frLe_val' (bool_eq ?_) ?_ ?_); (· first | assumption | (symm; assumption)); (· rfl))))))
                              exact HU_le _ _ _ _ hC1 (by kernel_rfl) rfl rfl
                            · rcases last_or out with hout | ⟨Kp, rl, hout⟩
                              · have hlen0 : out.length = 0 := by rw [hout]; rfl
                                rw [hout, addR_nil hxx] at hst
                                (repeat ((try (conv => whnf)); (first | (refine ca _ ?_) | (with_reducible first | refine condP_true ?_ | refine condP_false ?_ | refine condP_not ?_ | refine condP_and ?_) | ((with_reducible refine condP_dt ?_ ?_); (· omega)) | ((with_reducible refine condP_df ?_ ?_); (· omega)) | ((with_reducible refine condP_yes ?_ ?_); (· assumption)) | ((with_reducible refine condP_no ?_ ?_); (· assumption)) | ((with_reducible refine ArP_i64 ?_ ?_); (· omega)) | ((with_reducible refine mustP.mk ?_ ?_); (· first | omega | rfl | (dsimp only; omega))) | (with_reducible first | refine EqP_nil tab_ok ?_ | refine EqP_sli tab_ok ?_ | refine DrawP_auto tab_ok (by kernel_rfl) (by decide +kernel) ?_ | refine DrawP_auto2 tab_ok (by kernel_rfl) (by decide +kernel) ?_ | refine eq34 ?_ | refine eq68 ?_ | refine CallP_enter tab_ok Try.func32 (fun vs w => by kernel_rfl) (by rfl) ?_))))
                                conv => whnf
                                refine ⟨x + 1, [⟨r.y, s.x0, s.x1⟩], ⟨by omega, hst.symm⟩, by omega, ?_⟩
                                refine Le_head ?_
                                conv => whnf
                                rw [hC1]
                                refine Le_move 14 11 (by rfl) (by rfl) (by rfl) (by rfl) ?_
                                conv => whnf
                                refine Le_mk (by rfl) (by rfl) (by (repeat (first | (with_reducible exact frLe_nil) | (with_reducible first | refine frLe_any ?_ | refine frLe_val ?_) | ((with_reducible refine frLe_eq rfl ?_ ?_); (· rfl)) | ((with_reducible refine frLe_val' (int_eq ?_) ?_ ?_); (· omega); (· rfl)) | ((with_reducible refine frLe_val' (int_eq ?_) ?_ ?_); (· simp only [Int.natCast_add, Int.natCast_one, Int.natCast_ofNat] <;> omega); (· rfl)) | ((with_reducible refine frLe_val' (bool_eq ?_) ?_ ?_); (· first | assumption | (symm; assumption)); (· rfl))))) ?_
                                exact HU_le _ _ _ _ rfl (by kernel_rfl) (by simp only [hlen0]; rfl) (by rw [hout]; rfl)
                              · have hlen0 : out.length = Kp.length + 1 := by rw [hout]; simp
                                have hix : (((out.length : Nat) : Int) - 1).toNat = Kp.length := by omega
                                obtain ⟨g0, g1, g2⟩ := flat_last Kp rl
                                rw [← hout, ← hix] at g0 g1 g2
                                rw [← Nat.add_zero ((((out.length : Nat) : Int) - 1).toNat * 3)] at g0
                                by_cases hj1 : rl.y = r.y
                                · by_cases hj2 : s.x0 ≤ rl.x1
                                  · rw [hout, addR_join hxx hj1 hj2] at hst
                                    (repeat ((try (conv => whnf)); (first | (refine ca _ ?_) | (refine OwnCells_one (.int .i64 rl.y) g0 ?_) | (refine OwnCells_one (.int .i64 rl.x1) g2 ?_) | (with_reducible first | refine condP_true ?_ | refine condP_false ?_ | refine condP_not ?_ | refine condP_and ?_) | ((with_reducible refine condP_dt ?_ ?_); (· omega)) | ((with_reducible refine condP_df ?_ ?_); (· omega)) | ((with_reducible refine condP_yes ?_ ?_); (· assumption)) | ((with_reducible refine condP_no ?_ ?_); (· assumption)) | ((with_reducible refine ArP_i64 ?_ ?_); (· omega)) | ((with_reducible refine mustP.mk ?_ ?_); (· first | omega | rfl | (dsimp only; omega))) | (with_reducible first | refine EqP_nil tab_ok ?_ | refine EqP_sli tab_ok ?_ | refine DrawP_auto tab_ok (by kernel_rfl) (by decide +kernel) ?_ | refine DrawP_auto2 tab_ok (by kernel_rfl) (by decide +kernel) ?_ | refine eq34 ?_ | refine eq68 ?_ | refine CallP_enter tab_ok Try.func32 (fun vs w => by kernel_rfl) (by rfl) ?_))))
                                    conv => whnf
                                    refine mustP.mk (by rw [hix, flatR_length, hlen0]; simp; omega) ?_
                                    (repeat ((try (conv => whnf)); (first | (refine ca _ ?_) | (refine OwnCells_one (.int .i64 rl.y) g0 ?_) | (refine OwnCells_one (.int .i64 rl.x1) g2 ?_) | (with_reducible first | refine condP_true ?_ | refine condP_false ?_ | refine condP_not ?_ | refine condP_and ?_) | ((with_reducible refine condP_dt ?_ ?_); (· omega)) | ((with_reducible refine condP_df ?_ ?_); (· omega)) | ((with_reducible refine condP_yes ?_ ?_); (· assumption)) | ((with_reducible refine condP_no ?_ ?_); (· assumption)) | ((with_reducible refine ArP_i64 ?_ ?_); (· omega)) | ((with_reducible refine mustP.mk ?_ ?_); (· first | omega | rfl | (dsimp only; omega))) | (with_reducible first | refine EqP_nil tab_ok ?_ | refine EqP_sli tab_ok ?_ | refine DrawP_auto tab_ok (by kernel_rfl) (by decide +kernel) ?_ | refine DrawP_auto2 tab_ok (by kernel_rfl) (by decide +kernel) ?_ | refine eq34 ?_ | refine eq68 ?_ | refine CallP_enter tab_ok Try.func32 (fun vs w => by kernel_rfl) (by rfl) ?_))))
                                    conv => whnf
                                    refine ⟨x + 1, Kp ++ [⟨r.y, rl.x0, max rl.x1 s.x1⟩], ⟨by omega, hst.symm⟩, by omega, ?_⟩
                                    refine Le_head ?_
                                    conv => whnf
                                    rw [hC1]
                                    refine Le_mk (by rfl) (by rfl) (by (repeat (first | (with_reducible exact frLe_nil) | (with_reducible first | refine frLe_any ?_ | refine frLe_val ?_) | ((with_reducible refine frLe_eq rfl ?_ ?_); (· rfl)) | ((with_reducible refine frLe_val' (int_eq ?_) ?_ ?_); (· omega); (· rfl)) | ((with_reducible refine frLe_val' (int_eq ?_) ?_ ?_); (· simp only [Int.natCast_add, Int.natCast_one, Int.natCast_ofNat] <;> omega); (· rfl)) | ((with_reducible refine frLe_val' (bool_eq ?_) ?_ ?_); (· first | assumption | (symm; assumption)); (· rfl))))) ?_
                                    exact HU_le _ _ _ _ rfl (by kernel_rfl) (by rw [hlen0]; simp) (by rw [hix, hout, ← hj1]; exact flat_set Kp rl _)
                                  · rw [hout, addR_new hxx (fun h => hj2 h.2)] at hst
                                    (repeat ((try (conv => whnf)); (first | (refine ca _ ?_) | (refine OwnCells_one (.int .i64 rl.y) g0 ?_) | (refine OwnCells_one (.int .i64 rl.x1) g2 ?_) | (with_reducible first | refine condP_true ?_ | refine condP_false ?_ | refine condP_not ?_ | refine condP_and ?_) | ((with_reducible refine condP_dt ?_ ?_); (· omega)) | ((with_reducible refine condP_df ?_ ?_); (· omega)) | ((with_reducible refine condP_yes ?_ ?_); (· assumption)) | ((with_reducible refine condP_no ?_ ?_); (· assumption)) | ((with_reducible refine ArP_i64 ?_ ?_); (· omega)) | ((with_reducible refine mustP.mk ?_ ?_); (· first | omega | rfl | (dsimp only; omega))) | (with_reducible first | refine EqP_nil tab_ok ?_ | refine EqP_sli tab_ok ?_ | refine DrawP_auto tab_ok (by kernel_rfl) (by decide +kernel) ?_ | refine DrawP_auto2 tab_ok (by kernel_rfl) (by decide +kernel) ?_ | refine eq34 ?_ | refine eq68 ?_ | refine CallP_enter tab_ok Try.func32 (fun vs w => by kernel_rfl) (by rfl) ?_))))
                                    conv => whnf
                                    refine ⟨x + 1, Kp ++ [rl] ++ [⟨r.y, s.x0, s.x1⟩], ⟨by omega, hst.symm⟩, by omega, ?_⟩
                                    refine Le_head ?_
                                    conv => whnf
                                    rw [hC1]
                                    refine Le_move 14 11 (by rfl) (by rfl) (by rfl) (by rfl) ?_
                                    conv => whnf
                                    refine Le_mk (by rfl) (by rfl) (by (repeat (first | (with_reducible exact frLe_nil) | (with_reducible first | refine frLe_any ?_ | refine frLe_val ?_) | ((with_reducible refine frLe_eq rfl ?_ ?_); (· rfl)) | ((with_reducible refine frLe_val' (int_eq ?_) ?_ ?_); (· omega); (· rfl)) | ((with_reducible refine frLe_val' (int_eq ?_) ?_ ?_); (· simp only [Int.natCast_add, Int.natCast_one, Int.natCast_ofNat] <;> omega); (· rfl)) | ((with_reducible refine frLe_val' (bool_eq ?_) ?_ ?_); (· first | assumption | (symm; assumption)); (· rfl))))) ?_
                                    exact HU_le _ _ _ _ rfl (by kernel_rfl) (by rw [hlen0]; simp) (by rw [hout, flatR_append (Kp ++ [rl])]; rfl)
                                · rw [hout, addR_new hxx (fun h => hj1 h.1)] at hst
                                  (repeat ((try (conv => whnf)); (first | (refine ca _ ?_) | (refine OwnCells_one (.int .i64 rl.y) g0 ?_) | (refine OwnCells_one (.int .i64 rl.x1) g2 ?_) | (with_reducible first | refine condP_true ?_ | refine condP_false ?_ | refine condP_not ?_ | refine condP_and ?_) | ((with_reducible refine condP_dt ?_ ?_); (· omega)) | ((with_reducible refine condP_df ?_ ?_); (· omega)) | ((with_reducible refine condP_yes ?_ ?_); (· assumption)) | ((with_reducible refine condP_no ?_ ?_); (· assumption)) | ((with_reducible refine ArP_i64 ?_ ?_); (· omega)) | ((with_reducible refine mustP.mk ?_ ?_); (· first | omega | rfl | (dsimp only; omega))) | (with_reducible first | refine EqP_nil tab_ok ?_ | refine EqP_sli tab_ok ?_ | refine DrawP_auto tab_ok (by kernel_rfl) (by decide +kernel) ?_ | refine DrawP_auto2 tab_ok (by kernel_rfl) (by decide +kernel) ?_ | refine eq34 ?_ | refine eq68 ?_ | refine CallP_enter tab_ok Try.func32 (fun vs w => by kernel_rfl) (by rfl) ?_))))
                                  conv => whnf
                                  refine ⟨x + 1, Kp ++ [rl] ++ [⟨r.y, s.x0, s.x1⟩], ⟨by omega, hst.symm⟩, by omega, ?_⟩
                                  refine Le_head ?_
                                  conv => whnf
                                  rw [hC1]
                                  refine Le_move 14 11 (by rfl) (by rfl) (by rfl) (by rfl) ?_
                                  conv => whnf
                                  refine Le_mk (by rfl) (by rfl) (by (repeat (first | (with_reducible exact frLe_nil) | (with_reducible first | refine frLe_any ?_ | refine frLe_val ?_) | ((with_reducible refine frLe_eq rfl ?_ ?_); (· rfl)) | ((with_reducible refine frLe_val' (int_eq ?_) ?_ ?_); (· omega); (· rfl)) | ((with_reducible refine frLe_val' (int_eq ?_) ?_ ?_); (· simp only [Int.natCast_add, Int.natCast_one, Int.natCast_ofNat] <;> omega); (· rfl)) | ((with_reducible refine frLe_val' (bool_eq ?_) ?_ ?_); (· first | assumption | (symm; assumption)); (· rfl))))) ?_
                                  exact HU_le _ _ _ _ rfl (by kernel_rfl) (by rw [hlen0]; simp) (by rw [hout, flatR_append (Kp ++ [rl])]; rfl)
                          · obtain rfl : x = lf.length := by omega
                            rw [List.take_length, ← hrow] at ho
                            subst ho
                            (repeat ((try (conv => whnf)); (first | (with_reducible first | refine condP_true ?_ | refine condP_false ?_ | refine condP_not ?_ | refine condP_and ?_) | ((with_reducible refine condP_dt ?_ ?_); (· omega)) | ((with_reducible refine condP_df ?_ ?_); (· omega)) | ((with_reducible refine condP_yes ?_ ?_); (· assumption)) | ((with_reducible refine condP_no ?_ ?_); (· assumption)) | ((with_reducible refine ArP_i64 ?_ ?_); (· omega)) | ((with_reducible refine mustP.mk ?_ ?_); (· first | omega | rfl | (dsimp only; omega))) | (with_reducible first | refine EqP_nil tab_ok ?_ | refine EqP_sli tab_ok ?_ | refine DrawP_auto tab_ok (by kernel_rfl) (by decide +kernel) ?_ | refine DrawP_auto2 tab_ok (by kernel_rfl) (by decide +kernel) ?_ | refine eq34 ?_ | refine eq68 ?_))))
                            refine ⟨(t, M9), ⟨by dsimp only; omega, fun q u h5 hq hu => hK.edge hq hu, Mem.le_trans hGN hNM⟩, by dsimp only; omega, ?_⟩
                            refine Le_head ?_
                            conv => whnf
                            rw [hC0]
                            refine Le_move 11 9 (by rfl) (by rfl) (by rfl) (by rfl) ?_
                            conv => whnf
                            refine Le_mk (by rfl) (by rfl) (by (repeat (first | (with_reducible exact frLe_nil) | (with_reducible first | refine frLe_any ?_ | refine frLe_val ?_) | ((with_reducible refine frLe_eq rfl ?_ ?_); (· rfl)) | ((with_reducible refine frLe_val' (int_eq ?_) ?_ ?_); (· omega); (· rfl)) | ((with_reducible refine frLe_val' (int_eq ?_) ?_ ?_); (· simp only [Int.natCast_add, Int.natCast_one, Int.natCast_ofNat] <;> omega); (· rfl)) | ((with_reducible refine frLe_val' (bool_eq ?_) ?_ ?_); (· first | assumption | (symm; assumption)); (· rfl))))) ?_
                            exact HS_le _ _ _ rfl (by kernel_rfl) rfl rfl
                      · skip
                        (repeat ((try (conv => whnf)); (first | (with_reducible first | refine condP_true ?_ | refine condP_false ?_ | refine condP_not ?_ | refine condP_and ?_) | ((with_reducible refine condP_dt ?_ ?_); (· omega)) | ((with_reducible refine condP_df ?_ ?_); (· omega)) | ((with_reducible refine condP_yes ?_ ?_); (· assumption)) | ((with_reducible refine condP_no ?_ ?_); (· assumption)) | ((with_reducible refine ArP_i64 ?_ ?_); (· omega)) | ((with_reducible refine mustP.mk ?_ ?_); (· first | omega | rfl | (dsimp only; omega))) | (with_reducible first | refine EqP_nil tab_ok ?_ | refine EqP_sli tab_ok ?_ | refine DrawP_auto tab_ok (by kernel_rfl) (by decide +kernel) ?_ | refine DrawP_auto2 tab_ok (by kernel_rfl) (by decide +kernel) ?_ | refine eq34 ?_ | refine eq68 ?_))))
                        conv => whnf
                        refine LoopP_at2 tab_ok (fun x out => x ≤ lf.length ∧ out = jn (outE w L i) (lf.take x)) (fun (x : Nat) out => [(89, .val (.int .i64 x))]) (fun x out => HU w f (some p) L c C1 out (t - i) (flatR (List.take (t - i) (List.drop i L)))) (fun x _ => lf.length - x) 0 (outE w L i) ⟨Nat.zero_le _, rfl⟩ ?_ ?_
                        · refine Le_head ?_
                          conv => whnf
                          rw [hC1]
                          refine Le_up 9 (by rfl) ?_
                          conv => whnf
                          refine Le_mk (by rfl) (by rfl) (by (repeat (first | (with_reducible exact frLe_nil) | (with_reducible first | refine frLe_any ?_ | refine frLe_val ?_) | ((with_reducible refine frLe_eq rfl ?_ ?_); (· rfl)) | ((with_reducible refine frLe_val' (int_eq ?_) ?_ ?_); (· omega); (· rfl)) | ((with_reducible refine frLe_val' (int_eq ?_) ?_ ?_); (· simp only [Int.natCast_add, Int.natCast_one, Int.natCast_ofNat] <;> omega); (· rfl)) | ((with_reducible refine frLe_val' (bool_eq ?_) ?_ ?_); (· first | assumption | (symm; assumption)); (· rfl))))) ?_
                          exact HU_le _ _ _ _ rfl (by kernel_rfl) rfl rfl
                        · rintro x out ⟨hx, ho⟩
                          have hol2 : out.length ≤ 200000000000 := by
                            have := jn_len (lf.take x) (outE w L i)
                            rw [← ho, List.length_take] at this
                            omega
                          rcases Nat.lt_or_ge x lf.length with h9 | h9
                          · exfalso; omega
                          · obtain rfl : x = lf.length := by omega
                            rw [List.take_length, ← hrow] at ho
                            subst ho
                            (repeat ((try (conv => whnf)); (first | (with_reducible first | refine condP_true ?_ | refine condP_false ?_ | refine condP_not ?_ | refine condP_and ?_) | ((with_reducible refine condP_dt ?_ ?_); (· omega)) | ((with_reducible refine condP_df ?_ ?_); (· omega)) | ((with_reducible refine condP_yes ?_ ?_); (· assumption)) | ((with_reducible refine condP_no ?_ ?_); (· assumption)) | ((with_reducible refine ArP_i64 ?_ ?_); (· omega)) | ((with_reducible refine mustP.mk ?_ ?_); (· first | omega | rfl | (dsimp only; omega))) | (with_reducible first | refine EqP_nil tab_ok ?_ | refine EqP_sli tab_ok ?_ | refine DrawP_auto tab_ok (by kernel_rfl) (by decide +kernel) ?_ | refine DrawP_auto2 tab_ok (by kernel_rfl) (by decide +kernel) ?_ | refine eq34 ?_ | refine eq68 ?_))))
                            refine ⟨(t, M9), ⟨by dsimp only; omega, fun q u h5 hq hu => hK.edge hq hu, Mem.le_trans hGN hNM⟩, by dsimp only; omega, ?_⟩
                            refine Le_head ?_
                            conv => whnf
                            rw [hC0]
                            refine Le_move 11 9 (by rfl) (by rfl) (by rfl) (by rfl) ?_
                            conv => whnf
                            refine Le_mk (by rfl) (by rfl) (by (repeat (first | (with_reducible exact frLe_nil) | (with_reducible first | refine frLe_any ?_ | refine frLe_val ?_) | ((with_reducible refine frLe_eq rfl ?_ ?_); (· rfl)) | ((with_reducible refine frLe_val' (int_eq ?_) ?_ ?_); (· omega); (· rfl)) | ((with_reducible refine frLe_val' (int_eq ?_) ?_ ?_); (· simp only [Int.natCast_add, Int.natCast_one, Int.natCast_ofNat] <;> omega); (· rfl)) | ((with_reducible refine frLe_val' (bool_eq ?_) ?_ ?_); (· first | assumption | (symm; assumption)); (· rfl))))) ?_
                            exact HS_le _ _ _ rfl (by kernel_rfl) rfl rfl
                · (repeat ((try (conv => whnf)); (first | (refine OldCells_one _ q0 ?_) | (with_reducible refine DrawP_mk tab_ok (by kernel_rfl) 11 [] (by decide +kernel) ?_) | (refine RCallP_makes (fun vs w => by kernel_rfl) (.alone fun _ => rfl) (by kernel_rfl) mk ?_) | (with_reducible first | refine condP_true ?_ | refine condP_false ?_ | refine condP_not ?_ | refine condP_and ?_) | ((with_reducible refine condP_dt ?_ ?_); (· omega)) | ((with_reducible refine condP_df ?_ ?_); (· omega)) | ((with_reducible refine condP_yes ?_ ?_); (· assumption)) | ((with_reducible refine condP_no ?_ ?_); (· assumption)) | ((with_reducible refine ArP_i64 ?_ ?_); (· omega)) | ((with_reducible refine mustP.mk ?_ ?_); (· first | omega | rfl | (dsimp only; omega))) | (with_reducible first | refine EqP_nil tab_ok ?_ | refine EqP_sli tab_ok ?_ | refine DrawP_auto tab_ok (by kernel_rfl) (by decide +kernel) ?_ | refine DrawP_auto2 tab_ok (by kernel_rfl) (by decide +kernel) ?_ | refine eq34 ?_ | refine eq68 ?_))))
                  refine YieldP_round (n := 11) tab_ok rfl hC0 hps2 hca2 hbd2 (by kernel_rfl) (by kernel_rfl) (by kernel_rfl) (by kernel_rfl) (by rfl) ?_
                  (repeat ((try (conv => whnf)); (first | (with_reducible first | refine condP_true ?_ | refine condP_false ?_ | refine condP_not ?_ | refine condP_and ?_) | ((with_reducible refine condP_dt ?_ ?_); (· omega)) | ((with_reducible refine condP_df ?_ ?_); (· omega)) | ((with_reducible refine condP_yes ?_ ?_); (· assumption)) | ((with_reducible refine condP_no ?_ ?_); (· assumption)) | ((with_reducible refine ArP_i64 ?_ ?_); (· omega)) | ((with_reducible refine mustP.mk ?_ ?_); (· first | omega | rfl | (dsimp only; omega))) | (with_reducible first | refine EqP_nil tab_ok ?_ | refine EqP_sli tab_ok ?_ | refine DrawP_auto tab_ok (by kernel_rfl) (by decide +kernel) ?_ | refine DrawP_auto2 tab_ok (by kernel_rfl) (by decide +kernel) ?_ | refine eq34 ?_ | refine eq68 ?_))))
                  intro C1 hC1
                  (repeat ((try (conv => whnf)); (first | (refine LookP.mk 3 22 (.slice none 0 0) (by kernel_rfl) (by kernel_rfl) (fun w => by kernel_rfl) _ hl0 ?_) | (with_reducible first | refine condP_true ?_ | refine condP_false ?_ | refine condP_not ?_ | refine condP_and ?_) | ((with_reducible refine condP_dt ?_ ?_); (· omega)) | ((with_reducible refine condP_df ?_ ?_); (· omega)) | ((with_reducible refine condP_yes ?_ ?_); (· assumption)) | ((with_reducible refine condP_no ?_ ?_); (· assumption)) | ((with_reducible refine ArP_i64 ?_ ?_); (· omega)) | ((with_reducible refine mustP.mk ?_ ?_); (· first | omega | rfl | (dsimp only; omega))) | (with_reducible first | refine EqP_nil tab_ok ?_ | refine EqP_sli tab_ok ?_ | refine DrawP_auto tab_ok (by kernel_rfl) (by decide +kernel) ?_ | refine DrawP_auto2 tab_ok (by kernel_rfl) (by decide +kernel) ?_ | refine eq34 ?_ | refine eq68 ?_))))
                  conv => whnf
                  refine LoopP_atG tab_ok (ι := Nat × Option Addr × Nat × Mem) (fun s => s.1 ≤ w.toNat ∧ RunsM s.2.2.2 s.2.1 (leftD w L r.y s.1) ∧ (leftD w L r.y s.1).length ≤ s.2.2.1 ∧ s.2.2.1 ≤ maxLen ∧ N.le s.2.2.2) (fun s => match s with | (d, B, cb, M9) => [(12, .val (.slice B (leftD w L r.y d).length cb)), (13, .val (.int .i64 ((d : Int) + 1)))]) (fun s => HT w f (some p) L c C1 (outE w L i) (t - i) (flatR (List.take (t - i) (List.drop i L)))) (fun s => s.2.2.2) (fun s => w.toNat - s.1) (0, A0, cp0, N) ⟨Nat.zero_le _, hR0, hc0, hm0, Mem.le_refl _⟩ ?_ ?_
                  · ((refine Le_head ?_); (conv => whnf); (refine Le_mk (by rfl) (by rfl) ?_ ?_); (· (repeat (first | (with_reducible exact frLe_nil) | (with_reducible first | refine frLe_any ?_ | refine frLe_val ?_) | ((with_reducible refine frLe_eq rfl ?_ ?_); (· rfl)) | ((with_reducible refine frLe_val' (int_eq ?_) ?_ ?_); (· omega); (· rfl)) | ((with_reducible refine frLe_val' (int_eq ?_) ?_ ?_); (· simp only [Int.natCast_add, Int.natCast_one, Int.natCast_ofNat] <;> omega); (· rfl)) | ((with_reducible refine frLe_val' (bool_eq ?_) ?_ ?_); (· first | assumption | (symm; assumption)); (· rfl))))))
                    exact HT_le _ _ _ hC1 (by kernel_rfl) rfl rfl
                  · rintro ⟨d, B, cb, M9⟩ ⟨hd, hRB, hcb, hmb, hNM⟩
                    dsimp only at hd hRB hcb hmb hNM ⊢
                    have hrows9 := hrowsN.mono hNM
                    have hld := leftD_len w L r.y d
                    have hld2 : (2 * d + 1) * L.length ≤ 129 * 10000 := Nat.mul_le_mul (by omega) (by omega)
                    by_cases hgo : d < w.toNat ∧ leftD w L r.y d ≠ []
                    · obtain ⟨hgo1, hgo2⟩ := hgo
                      have hpos : 0 < (leftD w L r.y d).length := List.length_pos_iff.2 hgo2
                      obtain ⟨A3, cp3, e3, hR3, hc3, hm3⟩ := hrows9.look (r.y - ((d : Int) + 1))
                      have hl3 : lookA (r.y - ((d : Int) + 1)) (.val ((f (r.y - ((d : Int) + 1))).getD (.slice none 0 0))) [] [] = .val (.slice A3 (narY w L (r.y - ((d : Int) + 1))).length cp3) := by show AV.val _ = _; rw [e3]
                      have hn3 := narY_len w L (r.y - ((d : Int) + 1))
                      have mk1 := meet_makes (y := r.y) hRB hR3 hcb hmb hc3 hm3 (by omega)
                      (repeat ((try (conv => whnf)); (first | (refine LookP.mk 3 22 (.slice none 0 0) (by kernel_rfl) (by kernel_rfl) (fun w => by kernel_rfl) _ hl3 ?_) | (with_reducible first | refine condP_true ?_ | refine condP_false ?_ | refine condP_not ?_ | refine condP_and ?_) | ((with_reducible refine condP_dt ?_ ?_); (· omega)) | ((with_reducible refine condP_df ?_ ?_); (· omega)) | ((with_reducible refine condP_yes ?_ ?_); (· assumption)) | ((with_reducible refine condP_no ?_ ?_); (· assumption)) | ((with_reducible refine ArP_i64 ?_ ?_); (· omega)) | ((with_reducible refine mustP.mk ?_ ?_); (· first | omega | rfl | (dsimp only; omega))) | (with_reducible first | refine EqP_nil tab_ok ?_ | refine EqP_sli tab_ok ?_ | refine DrawP_auto tab_ok (by kernel_rfl) (by decide +kernel) ?_ | refine DrawP_auto2 tab_ok (by kernel_rfl) (by decide +kernel) ?_ | refine eq34 ?_ | refine eq68 ?_))))
                      conv => whnf
                      refine CallP_freeze (fun vs w => by kernel_rfl) (.alone fun _ => rfl) (by kernel_rfl) mk1 fun A5 c5 M5 hM5 hc5 hm5 hx5 => ?_
                      have hR5 := RunsM.frozen hx5
                      have hl5 := meetL_len r.y _ (leftD w L r.y d) (narY w L (r.y - ((d : Int) + 1))) (Nat.le_refl _)
                      obtain ⟨A6, cp6, e6, hR6, hc6, hm6⟩ := (hrows9.mono hM5).look (r.y + ((d : Int) + 1))
                      have hl6 : lookA (r.y + ((d : Int) + 1)) (.val ((f (r.y + ((d : Int) + 1))).getD (.slice none 0 0))) [] [] = .val (.slice A6 (narY w L (r.y + ((d : Int) + 1))).length cp6) := by show AV.val _ = _; rw [e6]
                      have hn6 := narY_len w L (r.y + ((d : Int) + 1))
                      have mk2 := meet_makes (y := r.y) hR5 hR6 hc5 hm5 hc6 hm6 (by omega)
                      (repeat ((try (conv => whnf)); (first | (refine LookP.mk 3 22 (.slice none 0 0) (by kernel_rfl) (by kernel_rfl) (fun w => by kernel_rfl) _ hl6 ?_) | (with_reducible first | refine condP_true ?_ | refine condP_false ?_ | refine condP_not ?_ | refine condP_and ?_) | ((with_reducible refine condP_dt ?_ ?_); (· omega)) | ((with_reducible refine condP_df ?_ ?_); (· omega)) | ((with_reducible refine condP_yes ?_ ?_); (· assumption)) | ((with_reducible refine condP_no ?_ ?_); (· assumption)) | ((with_reducible refine ArP_i64 ?_ ?_); (· omega)) | ((with_reducible refine mustP.mk ?_ ?_); (· first | omega | rfl | (dsimp only; omega))) | (with_reducible first | refine EqP_nil tab_ok ?_ | refine EqP_sli tab_ok ?_ | refine DrawP_auto tab_ok (by kernel_rfl) (by decide +kernel) ?_ | refine DrawP_auto2 tab_ok (by kernel_rfl) (by decide +kernel) ?_ | refine eq34 ?_ | refine eq68 ?_))))
                      conv => whnf
                      refine CallP_freeze (fun vs w => by kernel_rfl) (.alone fun _ => rfl) (by kernel_rfl) mk2 fun A7 c7 M7 hM7 hc7 hm7 hx7 => ?_
                      have hR7 := RunsM.frozen hx7
                      (repeat ((try (conv => whnf)); (first | (with_reducible first | refine condP_true ?_ | refine condP_false ?_ | refine condP_not ?_ | refine condP_and ?_) | ((with_reducible refine condP_dt ?_ ?_); (· omega)) | ((with_reducible refine condP_df ?_ ?_); (· omega)) | ((with_reducible refine condP_yes ?_ ?_); (· assumption)) | ((with_reducible refine condP_no ?_ ?_); (· assumption)) | ((with_reducible refine ArP_i64 ?_ ?_); (· omega)) | ((with_reducible refine mustP.mk ?_ ?_); (· first | omega | rfl | (dsimp only; omega))) | (with_reducible first | refine EqP_nil tab_ok ?_ | refine EqP_sli tab_ok ?_ | refine DrawP_auto tab_ok (by kernel_rfl) (by decide +kernel) ?_ | refine DrawP_auto2 tab_ok (by kernel_rfl) (by decide +kernel) ?_ | refine eq34 ?_ | refine eq68 ?_))))
                      conv => whnf
                      refine ⟨(d + 1, A7, c7, M7), ⟨by dsimp only; omega, hR7, hc7, hm7, Mem.le_trans hNM (Mem.le_trans hM5 hM7)⟩, by dsimp only; omega, ?_⟩
                      ((refine Le_head ?_); (conv => whnf); (refine Le_mk (by rfl) (by rfl) ?_ ?_); (· (repeat (first | (with_reducible exact frLe_nil) | (with_reducible first | refine frLe_any ?_ | refine frLe_val ?_) | ((with_reducible refine frLe_eq rfl ?_ ?_); (· rfl)) | ((with_reducible refine frLe_val' (int_eq ?_) ?_ ?_); (· omega); (· rfl)) | ((with_reducible refine frLe_val' (int_eq ?_) ?_ ?_); (· simp only [Int.natCast_add, Int.natCast_one, Int.natCast_ofNat] <;> omega); (· rfl)) | ((with_reducible refine frLe_val' (bool_eq ?_) ?_ ?_); (· first | assumption | (symm; assumption)); (· rfl))))))
                      exact HT_le _ _ _ hC1 (by kernel_rfl) rfl rfl
                    · have hfin : leftD w L r.y d = leftY w L r.y := by
                        by_cases hdw : d = w.toNat
                        · rw [hdw]
                        · have hnil : leftD w L r.y d = [] := Decidable.not_not.1 fun h => hgo ⟨by omega, h⟩
                          have := leftD_nil hnil (w.toNat - d)
                          rw [show d + (w.toNat - d) = w.toNat by omega] at this
                          rw [hnil]; exact this.symm
                      have hgo3 : d = w.toNat ∨ (d < w.toNat ∧ (leftD w L r.y d).length = 0) := by
                        by_cases hdw : d = w.toNat
                        · exact .inl hdw
                        · have hnil : leftD w L r.y d = [] := Decidable.not_not.1 fun h => hgo ⟨by omega, h⟩
                          exact .inr ⟨by omega, by rw [hnil]; rfl⟩
                      clear hgo
                      have hrow := outE_row (w := w) hK hlast
                      rw [← hfin] at hrow
                      have hlfy := leftD_y (w := w) (L := L) (y := r.y) d
                      clear hfin mk hrows9
                      generalize leftD w L r.y d = lf at *
                      rcases hgo3 with hgo3 | hgo3
                      · skip
                        (repeat ((try (conv => whnf)); (first | (with_reducible first | refine condP_true ?_ | refine condP_false ?_ | refine condP_not ?_ | refine condP_and ?_) | ((with_reducible refine condP_dt ?_ ?_); (· omega)) | ((with_reducible refine condP_df ?_ ?_); (· omega)) | ((with_reducible refine condP_yes ?_ ?_); (· assumption)) | ((with_reducible refine condP_no ?_ ?_); (· assumption)) | ((with_reducible refine ArP_i64 ?_ ?_); (· omega)) | ((with_reducible refine mustP.mk ?_ ?_); (· first | omega | rfl | (dsimp only; omega))) | (with_reducible first | refine EqP_nil tab_ok ?_ | refine EqP_sli tab_ok ?_ | refine DrawP_auto tab_ok (by kernel_rfl) (by decide +kernel) ?_ | refine DrawP_auto2 tab_ok (by kernel_rfl) (by decide +kernel) ?_ | refine eq34 ?_ | refine eq68 ?_))))
                        conv => whnf
                        refine LoopP_at2 tab_ok (fun x out => x ≤ lf.length ∧ out = jn (outE w L i) (lf.take x)) (fun (x : Nat) out => [(89, .val (.int .i64 x))]) (fun x out => HU w f (some p) L c C1 out (t - i) (flatR (List.take (t - i) (List.drop i L)))) (fun x _ => lf.length - x) 0 (outE w L i) ⟨Nat.zero_le _, rfl⟩ ?_ ?_
                        · refine Le_head ?_
                          conv => whnf
                          rw [hC1]
                          refine Le_up 9 (by rfl) ?_
                          conv => whnf
                          refine Le_mk (by rfl) (by rfl) (by (repeat (first | (with_reducible exact frLe_nil) | (with_reducible first | refine frLe_any ?_ | refine frLe_val ?_) | ((with_reducible refine frLe_eq rfl ?_ ?_); (· rfl)) | ((with_reducible refine frLe_val' (int_eq ?_) ?_ ?_); (· omega); (· rfl)) | ((with_reducible refine frLe_val' (int_eq ?_) ?_ ?_); (· simp only [Int.natCast_add, Int.natCast_one, Int.natCast_ofNat] <;> omega); (· rfl)) | ((with_reducible refine frLe_val' (bool_eq ?_) ?_ ?_); (· first | assumption | (symm; assumption)); (· rfl))))) ?_
                          exact HU_le _ _ _ _ rfl (by kernel_rfl) rfl rfl
                        · rintro x out ⟨hx, ho⟩
                          have hol2 : out.length ≤ 200000000000 := by
                            have := jn_len (lf.take x) (outE w L i)
                            rw [← ho, List.length_take] at this
                            omega
                          rcases Nat.lt_or_ge x lf.length with h9 | h9
                          · obtain ⟨s, hs⟩ : ∃ s, lf[x]? = some s := ⟨lf[x], List.getElem?_eq_getElem h9⟩
                            obtain ⟨p9, hp9, ca⟩ := hRB.cells hs
                            have hst := jn_takeO (o := outE w L i) hs
                            have hsy := hlfy s (List.mem_of_getElem? hs)
                            rw [← ho, hsy] at hst
                            subst hp9
                            clear hRB hlfy
                            by_cases hxx : s.x1 ≤ s.x0
                            · rw [addR_no hxx] at hst
                              (repeat ((try (conv => whnf)); (first | (refine ca _ ?_) | (with_reducible first | refine condP_true ?_ | refine condP_false ?_ | refine condP_not ?_ | refine condP_and ?_) | ((with_reducible refine condP_dt ?_ ?_); (· omega)) | ((with_reducible refine condP_df ?_ ?_); (· omega)) | ((with_reducible refine condP_yes ?_ ?_); (· assumption)) | ((with_reducible refine condP_no ?_ ?_); (· assumption)) | ((with_reducible refine ArP_i64 ?_ ?_); (· omega)) | ((with_reducible refine mustP.mk ?_ ?_); (· first | omega | rfl | (dsimp only; omega))) | (with_reducible first | refine EqP_nil tab_ok ?_ | refine EqP_sli tab_ok ?_ | refine DrawP_auto tab_ok (by kernel_rfl) (by decide +kernel) ?_ | refine DrawP_auto2 tab_ok (by kernel_rfl) (by decide +kernel) ?_ | refine eq34 ?_ | refine eq68 ?_ | refine CallP_enter tab_ok Try.func32 (fun vs w => by kernel_rfl) (by rfl) ?_))))
                              conv => whnf
                              refine ⟨x + 1, out, ⟨by omega, hst.symm⟩, by omega, ?_⟩
                              ((refine Le_head ?_); (conv => whnf); (refine Le_mk (by rfl) (by rfl) ?_ ?_); (· (repeat (first | (with_reducible exact frLe_nil) | (with_reducible first | refine frLe_any ?_ | refine frLe_val ?_) | ((with_reducible refine frLe_eq rfl ?_ ?_); (· rfl)) | ((with_reducible refine frLe_val' (int_eq ?_) ?_ ?_); (· omega); (· rfl)) | ((with_reducible refine frLe_val' (int_eq ?_) ?_ ?_); (· simp only [Int.natCast_add, Int.natCast_one, Int.natCast_ofNat] <;> omega); (· rfl)) | ((with_reducible refine frLe_val' (bool_eq ?_) ?_ ?_); (· first | assumption | (symm; assumption)); (· rfl))))))
                              exact HU_le _ _ _ _ hC1 (by kernel_rfl) rfl rfl
                            · rcases last_or out with hout | ⟨Kp, rl, hout⟩
                              · have hlen0 : out.length = 0 := by rw [hout]; rfl
                                rw [hout, addR_nil hxx] at hst
                                (repeat ((try (conv => whnf)); (first | (refine ca _ ?_) | (with_reducible first | refine condP_true ?_ | refine condP_false ?_ | refine condP_not ?_ | refine condP_and ?_) | ((with_reducible refine condP_dt ?_ ?_); (· omega)) | ((with_reducible refine condP_df ?_ ?_); (· omega)) | ((with_reducible refine condP_yes ?_ ?_); (· assumption)) | ((with_reducible refine condP_no ?_ ?_); (· assumption)) | ((with_reducible refine ArP_i64 ?_ ?_); (· omega)) | ((with_reducible refine mustP.mk ?_ ?_); (· first | omega | rfl | (dsimp only; omega))) | (with_reducible first | refine EqP_nil tab_ok ?_ | refine EqP_sli tab_ok ?_ | refine DrawP_auto tab_ok (by kernel_rfl) (by decide +kernel) ?_ | refine DrawP_auto2 tab_ok (by kernel_rfl) (by decide +kernel) ?_ | refine eq34 ?_ | refine eq68 ?_ | refine CallP_enter tab_ok Try.func32 (fun vs w => by kernel_rfl) (by rfl) ?_))))
                                conv => whnf
                                refine ⟨x + 1, [⟨r.y, s.x0, s.x1⟩], ⟨by omega, hst.symm⟩, by omega, ?_⟩
                                refine Le_head ?_
                                conv => whnf
                                rw [hC1]
                                refine Le_move 14 11 (by rfl) (by rfl) (by rfl) (by rfl) ?_
                                conv => whnf
                                refine Le_mk (by rfl) (by rfl) (by (repeat (first | (with_reducible exact frLe_nil) | (with_reducible first | refine frLe_any ?_ | refine frLe_val ?_) | ((with_reducible refine frLe_eq rfl ?_ ?_); (· rfl)) | ((with_reducible refine frLe_val' (int_eq ?_) ?_ ?_); (· omega); (· rfl)) | ((with_reducible refine frLe_val' (int_eq ?_) ?_ ?_); (· simp only [Int.natCast_add, Int.natCast_one, Int.natCast_ofNat] <;> omega); (· rfl)) | ((with_reducible refine frLe_val' (bool_eq ?_) ?_ ?_); (· first | assumption | (symm; assumption)); (· rfl))))) ?_
                                exact HU_le _ _ _ _ rfl (by kernel_rfl) (by simp only [hlen0]; rfl) (by rw [hout]; rfl)
                              · have hlen0 : out.length = Kp.length + 1 := by rw [hout]; simp
                                have hix : (((out.length : Nat) : Int) - 1).toNat = Kp.length := by omega
                                obtain ⟨g0, g1, g2⟩ := flat_last Kp rl
                                rw [← hout, ← hix] at g0 g1 g2
                                rw [← Nat.add_zero ((((out.length : Nat) : Int) - 1).toNat * 3)] at g0
                                by_cases hj1 : rl.y = r.y
                                · by_cases hj2 : s.x0 ≤ rl.x1
                                  · rw [hout, addR_join hxx hj1 hj2] at hst
                                    (repeat ((try (conv => whnf)); (first | (refine ca _ ?_) | (refine OwnCells_one (.int .i64 rl.y) g0 ?_) | (refine OwnCells_one (.int .i64 rl.x1) g2 ?_) | (with_reducible first | refine condP_true ?_ | refine condP_false ?_ | refine condP_not ?_ | refine condP_and ?_) | ((with_reducible refine condP_dt ?_ ?_); (· omega)) | ((with_reducible refine condP_df ?_ ?_); (· omega)) | ((with_reducible refine condP_yes ?_ ?_); (· assumption)) | ((with_reducible refine condP_no ?_ ?_); (· assumption)) | ((with_reducible refine ArP_i64 ?_ ?_); (· omega)) | ((with_reducible refine mustP.mk ?_ ?_); (· first | omega | rfl | (dsimp only; omega))) | (with_reducible first | refine EqP_nil tab_ok ?_ | refine EqP_sli tab_ok ?_ | refine DrawP_auto tab_ok (by kernel_rfl) (by decide +kernel) ?_ | refine DrawP_auto2 tab_ok (by kernel_rfl) (by decide +kernel) ?_ | refine eq34 ?_ | refine eq68 ?_ | refine CallP_enter tab_ok Try.func32 (fun vs w => by kernel_rfl) (by rfl) ?_))))
                                    conv => whnf
                                    refine mustP.mk (by rw [hix, flatR_length, hlen0]; simp; omega) ?_
                                    (repeat ((try (conv => whnf)); (first | (refine ca _ ?_) | (refine OwnCells_one (.int .i64 rl.y) g0 ?_) | (refine OwnCells_one (.int .i64 rl.x1) g2 ?_) | (with_reducible first | refine condP_true ?_ | refine condP_false ?_ | refine condP_not ?_ | refine condP_and ?_) | ((with_reducible refine condP_dt ?_ ?_); (· omega)) | ((with_reducible refine condP_df ?_ ?_); (· omega)) | ((with_reducible refine condP_yes ?_ ?_); (· assumption)) | ((with_reducible refine condP_no ?_ ?_); (· assumption)) | ((with_reducible refine ArP_i64 ?_ ?_); (· omega)) | ((with_reducible refine mustP.mk ?_ ?_); (· first | omega | rfl | (dsimp only; omega))) | (with_reducible first | refine EqP_nil tab_ok ?_ | refine EqP_sli tab_ok ?_ | refine DrawP_auto tab_ok (by kernel_rfl) (by decide +kernel) ?_ | refine DrawP_auto2 tab_ok (by kernel_rfl) (by decide +kernel) ?_ | refine eq34 ?_ | refine eq68 ?_ | refine CallP_enter tab_ok Try.func32 (fun vs w => by kernel_rfl) (by rfl) ?_))))
                                    conv => whnf
                                    refine ⟨x + 1, Kp ++ [⟨r.y, rl.x0, max rl.x1 s.x1⟩], ⟨by omega, hst.symm⟩, by omega, ?_⟩
                                    refine Le_head ?_
                                    conv => whnf
                                    rw [hC1]
                                    refine Le_mk (by rfl) (by rfl) (by (repeat (first | (with_reducible exact frLe_nil) | (with_reducible first | refine frLe_any ?_ | refine frLe_val ?_) | ((with_reducible refine frLe_eq rfl ?_ ?_); (· rfl)) | ((with_reducible refine frLe_val' (int_eq ?_) ?_ ?_); (· omega); (· rfl)) | ((with_reducible refine frLe_val' (int_eq ?_) ?_ ?_); (· simp only [Int.natCast_add, Int.natCast_one, Int.natCast_ofNat] <;> omega); (· rfl)) | ((with_reducible refine frLe_val' (bool_eq ?_) ?_ ?_); (· first | assumption | (symm; assumption)); (· rfl))))) ?_
                                    exact HU_le _ _ _ _ rfl (by kernel_rfl) (by rw [hlen0]; simp) (by rw [hix, hout, ← hj1]; exact flat_set Kp rl _)
                                  · rw [hout, addR_new hxx (fun h => hj2 h.2)] at hst
                                    (repeat ((try (conv => whnf)); (first | (refine ca _ ?_) | (refine OwnCells_one (.int .i64 rl.y) g0 ?_) | (refine OwnCells_one (.int .i64 rl.x1) g2 ?_) | (with_reducible first | refine condP_true ?_ | refine condP_false ?_ | refine condP_not ?_ | refine condP_and ?_) | ((with_reducible refine condP_dt ?_ ?_); (· omega)) | ((with_reducible refine condP_df ?_ ?_); (· omega)) | ((with_reducible refine condP_yes ?_ ?_); (· assumption)) | ((with_reducible refine condP_no ?_ ?_); (· assumption)) | ((with_reducible refine ArP_i64 ?_ ?_); (· omega)) | ((with_reducible refine mustP.mk ?_ ?_); (· first | omega | rfl | (dsimp only; omega))) | (with_reducible first | refine EqP_nil tab_ok ?_ | refine EqP_sli tab_ok ?_ | refine DrawP_auto tab_ok (by kernel_rfl) (by decide +kernel) ?_ | refine DrawP_auto2 tab_ok (by kernel_rfl) (by decide +kernel) ?_ | refine eq34 ?_ | refine eq68 ?_ | refine CallP_enter tab_ok Try.func32 (fun vs w => by kernel_rfl) (by rfl) ?_))))
                                    conv => whnf
                                    refine ⟨x + 1, Kp ++ [rl] ++ [⟨r.y, s.x0, s.x1⟩], ⟨by omega, hst.symm⟩, by omega, ?_⟩
                                    refine Le_head ?_
                                    conv => whnf
                                    rw [hC1]
                                    refine Le_move 14 11 (by rfl) (by rfl) (by rfl) (by rfl) ?_
                                    conv => whnf
                                    refine Le_mk (by rfl) (by rfl) (by (repeat (first | (with_reducible exact frLe_nil) | (with_reducible first | refine frLe_any ?_ | refine frLe_val ?_) | ((with_reducible refine frLe_eq rfl ?_ ?_); (· rfl)) | ((with_reducible refine frLe_val' (int_eq ?_) ?_ ?_); (· omega); (· rfl)) | ((with_reducible refine frLe_val' (int_eq ?_) ?_ ?_); (· simp only [Int.natCast_add, Int.natCast_one, Int.natCast_ofNat] <;> omega); (· rfl)) | ((with_reducible refine frLe_val' (bool_eq ?_) ?_ ?_); (· first | assumption | (symm; assumption)); (· rfl))))) ?_
                                    exact HU_le _ _ _ _ rfl (by kernel_rfl) (by rw [hlen0]; simp) (by rw [hout, flatR_append (Kp ++ [rl])]; rfl)
                                · rw [hout, addR_new hxx (fun h => hj1 h.1)] at hst
                                  (repeat ((try (conv => whnf)); (first | (refine ca _ ?_) | (refine OwnCells_one (.int .i64 rl.y) g0 ?_) | (refine OwnCells_one (.int .i64 rl.x1) g2 ?_) | (with_reducible first | refine condP_true ?_ | refine condP_false ?_ | refine condP_not ?_ | refine condP_and ?_) | ((with_reducible refine condP_dt ?_ ?_); (· omega)) | ((with_reducible refine condP_df ?_ ?_); (· omega)) | ((with_reducible refine condP_yes ?_ ?_); (· assumption)) | ((with_reducible refine condP_no ?_ ?_); (· assumption)) | ((with_reducible refine ArP_i64 ?_ ?_); (· omega)) | ((with_reducible refine mustP.mk ?_ ?_); (· first | omega | rfl | (dsimp only; omega))) | (with_reducible first | refine EqP_nil tab_ok ?_ | refine EqP_sli tab_ok ?_ | refine DrawP_auto tab_ok (by kernel_rfl) (by decide +kernel) ?_ | refine DrawP_auto2 tab_ok (by kernel_rfl) (by decide +kernel) ?_ | refine eq34 ?_ | refine eq68 ?_ | refine CallP_enter tab_ok Try.func32 (fun vs w => by kernel_rfl) (by rfl) ?_))))
                                  conv => whnf
                                  refine ⟨x + 1, Kp ++ [rl] ++ [⟨r.y, s.x0, s.x1⟩], ⟨by omega, hst.symm⟩, by omega, ?_⟩
                                  refine Le_head ?_
                                  conv => whnf
                                  rw [hC1]
                                  refine Le_move 14 11 (by rfl) (by rfl) (by rfl) (by rfl) ?_
                                  conv => whnf
                                  refine Le_mk (by rfl) (by rfl) (by (repeat (first | (with_reducible exact frLe_nil) | (with_reducible first | refine frLe_any ?_ | refine frLe_val ?_) | ((with_reducible refine frLe_eq rfl ?_ ?_); (· rfl)) | ((with_reducible refine frLe_val' (int_eq ?_) ?_ ?_); (· omega); (· rfl)) | ((with_reducible refine frLe_val' (int_eq ?_) ?_ ?_); (· simp only [Int.natCast_add, Int.natCast_one, Int.natCast_ofNat] <;> omega); (· rfl)) | ((with_reducible refine frLe_val' (bool_eq ?_) ?_ ?_); (· first | assumption | (symm; assumption)); (· rfl))))) ?_
                                  exact HU_le _ _ _ _ rfl (by kernel_rfl) (by rw [hlen0]; simp) (by rw [hout, flatR_append (Kp ++ [rl])]; rfl)
                          · obtain rfl : x = lf.length := by omega
                            rw [List.take_length, ← hrow] at ho
                            subst ho
                            (repeat ((try (conv => whnf)); (first | (with_reducible first | refine condP_true ?_ | refine condP_false ?_ | refine condP_not ?_ | refine condP_and ?_) | ((with_reducible refine condP_dt ?_ ?_); (· omega)) | ((with_reducible refine condP_df ?_ ?_); (· omega)) | ((with_reducible refine condP_yes ?_ ?_); (· assumption)) | ((with_reducible refine condP_no ?_ ?_); (· assumption)) | ((with_reducible refine ArP_i64 ?_ ?_); (· omega)) | ((with_reducible refine mustP.mk ?_ ?_); (· first | omega | rfl | (dsimp only; omega))) | (with_reducible first | refine EqP_nil tab_ok ?_ | refine EqP_sli tab_ok ?_ | refine DrawP_auto tab_ok (by kernel_rfl) (by decide +kernel) ?_ | refine DrawP_auto2 tab_ok (by kernel_rfl) (by decide +kernel) ?_ | refine eq34 ?_ | refine eq68 ?_))))
                            refine ⟨(t, M9), ⟨by dsimp only; omega, fun q u h5 hq hu => hK.edge hq hu, Mem.le_trans hGN hNM⟩, by dsimp only; omega, ?_⟩
                            refine Le_head ?_
                            conv => whnf
                            rw [hC0]
                            refine Le_move 11 9 (by rfl) (by rfl) (by rfl) (by rfl) ?_
                            conv => whnf
                            refine Le_mk (by rfl) (by rfl) (by (repeat (first | (with_reducible exact frLe_nil) | (with_reducible first | refine frLe_any ?_ | refine frLe_val ?_) | ((with_reducible refine frLe_eq rfl ?_ ?_); (· rfl)) | ((with_reducible refine frLe_val' (int_eq ?_) ?_ ?_); (· omega); (· rfl)) | ((with_reducible refine frLe_val' (int_eq ?_) ?_ ?_); (· simp only [Int.natCast_add, Int.natCast_one, Int.natCast_ofNat] <;> omega); (· rfl)) | ((with_reducible refine frLe_val' (bool_eq ?_) ?_ ?_); (· first | assumption | (symm; assumption)); (· rfl))))) ?_
                            exact HS_le _ _ _ rfl (by kernel_rfl) rfl rfl
                      · skip
                        (repeat ((try (conv => whnf)); (first | (with_reducible first | refine condP_true ?_ | refine condP_false ?_ | refine condP_not ?_ | refine condP_and ?_) | ((with_reducible refine condP_dt ?_ ?_); (· omega)) | ((with_reducible refine condP_df ?_ ?_); (· omega)) | ((with_reducible refine condP_yes ?_ ?_); (· assumption)) | ((with_reducible refine condP_no ?_ ?_); (· assumption)) | ((with_reducible refine ArP_i64 ?_ ?_); (· omega)) | ((with_reducible refine mustP.mk ?_ ?_); (· first | omega | rfl | (dsimp only; omega))) | (with_reducible first | refine EqP_nil tab_ok ?_ | refine EqP_sli tab_ok ?_ | refine DrawP_auto tab_ok (by kernel_rfl) (by decide +kernel) ?_ | refine DrawP_auto2 tab_ok (by kernel_rfl) (by decide +kernel) ?_ | refine eq34 ?_ | refine eq68 ?_))))
                        conv => whnf
                        refine LoopP_at2 tab_ok (fun x out => x ≤ lf.length ∧ out = jn (outE w L i) (lf.take x)) (fun (x : Nat) out => [(89, .val (.int .i64 x))]) (fun x out => HU w f (some p) L c C1 out (t - i) (flatR (List.take (t - i) (List.drop i L)))) (fun x _ => lf.length - x) 0 (outE w L i) ⟨Nat.zero_le _, rfl⟩ ?_ ?_
                        · refine Le_head ?_
                          conv => whnf
                          rw [hC1]
                          refine Le_up 9 (by rfl) ?_
                          conv => whnf
                          refine Le_mk (by rfl) (by rfl) (by (repeat (first | (with_reducible exact frLe_nil) | (with_reducible first | refine frLe_any ?_ | refine frLe_val ?_) | ((with_reducible refine frLe_eq rfl ?_ ?_); (· rfl)) | ((with_reducible refine frLe_val' (int_eq ?_) ?_ ?_); (· omega); (· rfl)) | ((with_reducible refine frLe_val' (int_eq ?_) ?_ ?_); (· simp only [Int.natCast_add, Int.natCast_one, Int.natCast_ofNat] <;> omega); (· rfl)) | ((with_reducible refine frLe_val' (bool_eq ?_) ?_ ?_); (· first | assumption | (symm; assumption)); (· rfl))))) ?_
                          exact HU_le _ _ _ _ rfl (by kernel_rfl) rfl rfl
                        · rintro x out ⟨hx, ho⟩
                          have hol2 : out.length ≤ 200000000000 := by
                            have := jn_len (lf.take x) (outE w L i)
                            rw [← ho, List.length_take] at this
                            omega
                          rcases Nat.lt_or_ge x lf.length with h9 | h9
                          · exfalso; omega
                          · obtain rfl : x = lf.length := by omega
                            rw [List.take_length, ← hrow] at ho
                            subst ho
                            (repeat ((try (conv => whnf)); (first | (with_reducible first | refine condP_true ?_ | refine condP_false ?_ | refine condP_not ?_ | refine condP_and ?_) | ((with_reducible refine condP_dt ?_ ?_); (· omega)) | ((with_reducible refine condP_df ?_ ?_); (· omega)) | ((with_reducible refine condP_yes ?_ ?_); (· assumption)) | ((with_reducible refine condP_no ?_ ?_); (· assumption)) | ((with_reducible refine ArP_i64 ?_ ?_); (· omega)) | ((with_reducible refine mustP.mk ?_ ?_); (· first | omega | rfl | (dsimp only; omega))) | (with_reducible first | refine EqP_nil tab_ok ?_ | refine EqP_sli tab_ok ?_ | refine DrawP_auto tab_ok (by kernel_rfl) (by decide +kernel) ?_ | refine DrawP_auto2 tab_ok (by kernel_rfl) (by decide +kernel) ?_ | refine eq34 ?_ | refine eq68 ?_))))
                            refine ⟨(t, M9), ⟨by dsimp only; omega, fun q u h5 hq hu => hK.edge hq hu, Mem.le_trans hGN hNM⟩, by dsimp only; omega, ?_⟩
                            refine Le_head ?_
                            conv => whnf
                            rw [hC0]
                            refine Le_move 11 9 (by rfl) (by rfl) (by rfl) (by rfl) ?_
                            conv => whnf
                            refine Le_mk (by rfl) (by rfl) (by (repeat (first | (with_reducible exact frLe_nil) | (with_reducible first | refine frLe_any ?_ | refine frLe_val ?_) | ((with_reducible refine frLe_eq rfl ?_ ?_); (· rfl)) | ((with_reducible refine frLe_val' (int_eq ?_) ?_ ?_); (· omega); (· rfl)) | ((with_reducible refine frLe_val' (int_eq ?_) ?_ ?_); (· simp only [Int.natCast_add, Int.natCast_one, Int.natCast_ofNat] <;> omega); (· rfl)) | ((with_reducible refine frLe_val' (bool_eq ?_) ?_ ?_); (· first | assumption | (symm; assumption)); (· rfl))))) ?_
                            exact HS_le _ _ _ rfl (by kernel_rfl) rfl rfl
          · obtain rfl : i = L.length := by omega
            (repeat ((try (conv => whnf)); (first | (with_reducible first | refine condP_true ?_ | refine condP_false ?_ | refine condP_not ?_ | refine condP_and ?_) | ((with_reducible refine condP_dt ?_ ?_); (· omega)) | ((with_reducible refine condP_df ?_ ?_); (· omega)) | ((with_reducible refine condP_yes ?_ ?_); (· assumption)) | ((with_reducible refine condP_no ?_ ?_); (· assumption)) | ((with_reducible refine ArP_i64 ?_ ?_); (· omega)) | ((with_reducible refine mustP.mk ?_ ?_); (· first | omega | rfl | (dsimp only; omega))) | (with_reducible first | refine EqP_nil tab_ok ?_ | refine EqP_sli tab_ok ?_ | refine DrawP_auto tab_ok (by kernel_rfl) (by decide +kernel) ?_ | refine DrawP_auto2 tab_ok (by kernel_rfl) (by decide +kernel) ?_ | refine eq34 ?_ | refine eq68 ?_))))
            intro G4 hG4 hcl4
            refine RangeEnd.all rfl ?_
            (repeat ((try (conv => whnf)); (first | (with_reducible first | refine condP_true ?_ | refine condP_false ?_ | refine condP_not ?_ | refine condP_and ?_) | ((with_reducible refine condP_dt ?_ ?_); (· omega)) | ((with_reducible refine condP_df ?_ ?_); (· omega)) | ((with_reducible refine condP_yes ?_ ?_); (· assumption)) | ((with_reducible refine condP_no ?_ ?_); (· assumption)) | ((with_reducible refine ArP_i64 ?_ ?_); (· omega)) | ((with_reducible refine mustP.mk ?_ ?_); (· first | omega | rfl | (dsimp only; omega))) | (with_reducible first | refine EqP_nil tab_ok ?_ | refine EqP_sli tab_ok ?_ | refine DrawP_auto tab_ok (by kernel_rfl) (by decide +kernel) ?_ | refine DrawP_auto2 tab_ok (by kernel_rfl) (by decide +kernel) ?_ | refine eq34 ?_ | refine eq68 ?_))))
            exact .inl ⟨9, rfl, rfl⟩
      | some h0 =>
        obtain ⟨y0, l0⟩ := h0
        (repeat ((try (conv => whnf)); (first | (with_reducible first | refine condP_true ?_ | refine condP_false ?_ | refine condP_not ?_ | refine condP_and ?_) | ((with_reducible refine condP_dt ?_ ?_); (· omega)) | ((with_reducible refine condP_df ?_ ?_); (· omega)) | ((with_reducible refine condP_yes ?_ ?_); (· assumption)) | ((with_reducible refine condP_no ?_ ?_); (· assumption)) | ((with_reducible refine ArP_i64 ?_ ?_); (· omega)) | ((with_reducible refine mustP.mk ?_ ?_); (· first | omega | rfl | (dsimp only; omega))) | (with_reducible first | refine EqP_nil tab_ok ?_ | refine EqP_sli tab_ok ?_ | refine DrawP_auto tab_ok (by kernel_rfl) (by decide +kernel) ?_ | refine DrawP_auto2 tab_ok (by kernel_rfl) (by decide +kernel) ?_ | refine eq34 ?_ | refine eq68 ?_))))
        intro G3 hG3 hcl
        refine RangeEnd.all rfl ?_
        (repeat ((try (conv => whnf)); (first | (with_reducible first | refine condP_true ?_ | refine condP_false ?_ | refine condP_not ?_ | refine condP_and ?_) | ((with_reducible refine condP_dt ?_ ?_); (· omega)) | ((with_reducible refine condP_df ?_ ?_); (· omega)) | ((with_reducible refine condP_yes ?_ ?_); (· assumption)) | ((with_reducible refine condP_no ?_ ?_); (· assumption)) | ((with_reducible refine ArP_i64 ?_ ?_); (· omega)) | ((with_reducible refine mustP.mk ?_ ?_); (· first | omega | rfl | (dsimp only; omega))) | (with_reducible first | refine EqP_nil tab_ok ?_ | refine EqP_sli tab_ok ?_ | refine DrawP_auto tab_ok (by kernel_rfl) (by decide +kernel) ?_ | refine DrawP_auto2 tab_ok (by kernel_rfl) (by decide +kernel) ?_ | refine eq34 ?_ | refine eq68 ?_ | refine CallP_enter tab_ok Try.func34 (fun vs w => by kernel_rfl) (by rfl) ?_))))
        conv => whnf
        refine RangeP_settle (i := y0) 2 1 5 5 (by rfl) rfl rfl rfl fun A1 cap1 M1 hM1 hc1 hm1 hF1 => ?_
        conv => whnf
        have hAM2 := (hAM.cmono hcl).mono hM1
        have hrows2 := (hrows.cmono hcl).settle hM1 hc1 hm1 hF1
        generalize updM f y0 (.slice A1 l0.length cap1) = f1 at *
        refine RangeP_enter tab_ok Try.func43 (fun vs w => by kernel_rfl) ?_
        conv => whnf
        intro j2 G2 C0 hC0 hps2 hca2 hbd2 hle2
        have hA2 := hAM2.mono hle2
        have hrows2 := hrows2.mono hle2
        have hC2 := Check_gives hA2 hc hm
        rw [he] at hC2
        clear hlast hrows hAM hps hca hbd
        (repeat ((try (conv => whnf)); (first | (with_reducible first | refine condP_true ?_ | refine condP_false ?_ | refine condP_not ?_ | refine condP_and ?_) | ((with_reducible refine condP_dt ?_ ?_); (· omega)) | ((with_reducible refine condP_df ?_ ?_); (· omega)) | ((with_reducible refine condP_yes ?_ ?_); (· assumption)) | ((with_reducible refine condP_no ?_ ?_); (· assumption)) | ((with_reducible refine ArP_i64 ?_ ?_); (· omega)) | ((with_reducible refine mustP.mk ?_ ?_); (· first | omega | rfl | (dsimp only; omega))) | (with_reducible first | refine EqP_nil tab_ok ?_ | refine EqP_sli tab_ok ?_ | refine DrawP_auto tab_ok (by kernel_rfl) (by decide +kernel) ?_ | refine DrawP_auto2 tab_ok (by kernel_rfl) (by decide +kernel) ?_ | refine eq34 ?_ | refine eq68 ?_ | refine CallP_gives (fun vs w => by kernel_rfl) (by kernel_rfl) (hC2) ?_ | refine RCallP_gives (fun vs w => by kernel_rfl) (by kernel_rfl) (hC2) ?_))))
        conv => whnf
        refine LoopP_atG tab_ok (ι := Nat × Mem) (fun s => s.1 ≤ L.length ∧ (∀ r q, 0 < s.1 → L[s.1 - 1]? = some r → L[s.1]? = some q → r.y < q.y) ∧ G2.le s.2) (fun s => match s with | (i, N) => [(3, .val (.int .i64 i))]) (fun s => match s with | (i, N) => HS w f1 A L c C0 (outE w L i)) (fun s => s.2) (fun s => L.length - s.1) (0, G2) ⟨Nat.zero_le _, fun r q h => absurd h (Nat.lt_irrefl _), Mem.le_refl _⟩ ?_ ?_
        · refine Le_head ?_
          conv => whnf
          rw [hC0]
          refine Le_own 34 3 ?_
          conv => whnf
          refine Le_mk (by rfl) (by rfl) (by (repeat (first | (with_reducible exact frLe_nil) | (with_reducible first | refine frLe_any ?_ | refine frLe_val ?_) | ((with_reducible refine frLe_eq rfl ?_ ?_); (· rfl)) | ((with_reducible refine frLe_val' (int_eq ?_) ?_ ?_); (· omega); (· rfl)) | ((with_reducible refine frLe_val' (int_eq ?_) ?_ ?_); (· simp only [Int.natCast_add, Int.natCast_one, Int.natCast_ofNat] <;> omega); (· rfl)) | ((with_reducible refine frLe_val' (bool_eq ?_) ?_ ?_); (· first | assumption | (symm; assumption)); (· rfl))))) ?_
          exact HS_le _ _ _ rfl (by kernel_rfl) rfl rfl
        · rintro ⟨i, N⟩ ⟨hi, hlast, hGN⟩
          dsimp only at hi hlast hGN ⊢
          have hAN := hA2.mono hGN
          have hrowsN := hrows2.mono hGN
          have hol : (outE w L i).length ≤ 100000000000 := by
            have h1 := outE_len w L i
            have h2 : (2 * w.toNat + 1) * L.length ≤ 129 * 10000 := Nat.mul_le_mul (by omega) (by omega)
            have h3 : i * ((2 * w.toNat + 1) * L.length) ≤ 10000 * (129 * 10000) := Nat.mul_le_mul (by omega) h2
            omega
          rcases Nat.lt_or_ge i L.length with h1 | h1
          · obtain ⟨r, hr⟩ : ∃ r, L[i]? = some r := ⟨L[i], List.getElem?_eq_getElem h1⟩
            obtain ⟨p, rfl, q0, _⟩ := hAN.at_ hr
            obtain ⟨K, hK⟩ := row_at v hr
            have k1 := hK.lt
            have k2 := hK.le
            have hbr := v.bd (List.mem_of_getElem? hr)
            (repeat ((try (conv => whnf)); (first | (with_reducible first | refine condP_true ?_ | refine condP_false ?_ | refine condP_not ?_ | refine condP_and ?_) | ((with_reducible refine condP_dt ?_ ?_); (· omega)) | ((with_reducible refine condP_df ?_ ?_); (· omega)) | ((with_reducible refine condP_yes ?_ ?_); (· assumption)) | ((with_reducible refine condP_no ?_ ?_); (· assumption)) | ((with_reducible refine ArP_i64 ?_ ?_); (· omega)) | ((with_reducible refine mustP.mk ?_ ?_); (· first | omega | rfl | (dsimp only; omega))) | (with_reducible first | refine EqP_nil tab_ok ?_ | refine EqP_sli tab_ok ?_ | refine DrawP_auto tab_ok (by kernel_rfl) (by decide +kernel) ?_ | refine DrawP_auto2 tab_ok (by kernel_rfl) (by decide +kernel) ?_ | refine eq34 ?_ | refine eq68 ?_))))
            conv => whnf
            refine LoopP_at tab_ok (fun t => i ≤ t ∧ t ≤ K) (fun (t : Nat) => [(4, .val (.int .i64 t))]) (fun t => HS w f1 (some p) L c C0 (outE w L i)) (fun t => K - t) i ⟨Nat.le_refl _, by omega⟩ ?_ ?_
            · ((refine Le_head ?_); (conv => whnf); (refine Le_mk (by rfl) (by rfl) ?_ ?_); (· (repeat (first | (with_reducible exact frLe_nil) | (with_reducible first | refine frLe_any ?_ | refine frLe_val ?_) | ((with_reducible refine frLe_eq rfl ?_ ?_); (· rfl)) | ((with_reducible refine frLe_val' (int_eq ?_) ?_ ?_); (· omega); (· rfl)) | ((with_reducible refine frLe_val' (int_eq ?_) ?_ ?_); (· simp only [Int.natCast_add, Int.natCast_one, Int.natCast_ofNat] <;> omega); (· rfl)) | ((with_reducible refine frLe_val' (bool_eq ?_) ?_ ?_); (· first | assumption | (symm; assumption)); (· rfl))))))
              exact HS_le _ _ _ hC0 (by kernel_rfl) rfl rfl
            · rintro t ⟨ht, htK⟩
              rcases Nat.lt_or_ge t K with h2 | h2
              · obtain ⟨u, hu⟩ : ∃ u, L[t]? = some u := ⟨L[t]'(by omega), List.getElem?_eq_getElem (by omega)⟩
                obtain ⟨p', hp', u0, _⟩ := hAN.at_ hu
                obtain rfl := Option.some.inj hp'
                have hy := hK.same t u ht h2 hu
                rw [hy] at u0
                (repeat ((try (conv => whnf)); (first | (refine OldCells_one _ u0 ?_) | (refine OldCells_one _ q0 ?_) | (with_reducible first | refine condP_true ?_ | refine condP_false ?_ | refine condP_not ?_ | refine condP_and ?_) | ((with_reducible refine condP_dt ?_ ?_); (· omega)) | ((with_reducible refine condP_df ?_ ?_); (· omega)) | ((with_reducible refine condP_yes ?_ ?_); (· assumption)) | ((with_reducible refine condP_no ?_ ?_); (· assumption)) | ((with_reducible refine ArP_i64 ?_ ?_); (· omega)) | ((with_reducible refine mustP.mk ?_ ?_); (· first | omega | rfl | (dsimp only; omega))) | (with_reducible first | refine EqP_nil tab_ok ?_ | refine EqP_sli tab_ok ?_ | refine DrawP_auto tab_ok (by kernel_rfl) (by decide +kernel) ?_ | refine DrawP_auto2 tab_ok (by kernel_rfl) (by decide +kernel) ?_ | refine eq34 ?_ | refine eq68 ?_))))
                refine ⟨t + 1, ⟨by omega, by omega⟩, by omega, ?_⟩
                ((refine Le_head ?_); (conv => whnf); (refine Le_mk (by rfl) (by rfl) ?_ ?_); (· (repeat (first | (with_reducible exact frLe_nil) | (with_reducible first | refine frLe_any ?_ | refine frLe_val ?_) | ((with_reducible refine frLe_eq rfl ?_ ?_); (· rfl)) | ((with_reducible refine frLe_val' (int_eq ?_) ?_ ?_); (· omega); (· rfl)) | ((with_reducible refine frLe_val' (int_eq ?_) ?_ ?_); (· simp only [Int.natCast_add, Int.natCast_one, Int.natCast_ofNat] <;> omega); (· rfl)) | ((with_reducible refine frLe_val' (bool_eq ?_) ?_ ?_); (· first | assumption | (symm; assumption)); (· rfl))))))
                exact HS_le _ _ _ hC0 (by kernel_rfl) rfl rfl
              · obtain rfl : t = K := by omega
                have hne : c ≠ i := by omega
                have hlen : ((L.drop i).take (t - i)).length = t - i := by rw [List.length_take, List.length_drop]; omega
                have mk : Makes Try.prog 39 [.val (.slice (if c = (i : Int).toNat then some p else Option.map (fun x => x.add ((i : Int).toNat * 3)) (some p)) ((t : Int).toNat - (i : Int).toNat) (c - (i : Int).toNat))] N id 34 3 (t - i) (flatR ((L.drop i).take (t - i))) := by
                  have h := CloneR_makes (c := c - i) (runs_sub hAN i (t - i)) (by rw [hlen]; omega)
                  rw [hlen] at h
                  simp only [Int.toNat_natCast, if_neg hne, Option.map_some]
                  exact h
                obtain ⟨A0, cp0, e0, hR0, hc0, hm0⟩ := hrowsN.look r.y
                have hl0 : lookA r.y (.val ((f1 r.y).getD (.slice none 0 0))) [] [] = .val (.slice A0 (narY w L r.y).length cp0) := by show AV.val _ = _; rw [e0]
                rcases Nat.lt_or_ge t L.length with h3 | h3
                · obtain ⟨u, hu⟩ : ∃ u, L[t]? = some u := ⟨L[t]'(by omega), List.getElem?_eq_getElem (by omega)⟩
                  obtain ⟨p', hp', u0, _⟩ := hAN.at_ hu
                  obtain rfl := Option.some.inj hp'
                  have hy := hK.next u hu
                  (repeat ((try (conv => whnf)); (first | (refine OldCells_one _ u0 ?_) | (refine OldCells_one _ q0 ?_) | (with_reducible refine DrawP_mk tab_ok (by kernel_rfl) 11 [] (by decide +kernel) ?_) | (refine RCallP_makes (fun vs w => by kernel_rfl) (.alone fun _ => rfl) (by kernel_rfl) mk ?_) | (with_reducible first | refine condP_true ?_ | refine condP_false ?_ | refine condP_not ?_ | refine condP_and ?_) | ((with_reducible refine condP_dt ?_ ?_); (· omega)) | ((with_reducible refine condP_df ?_ ?_); (· omega)) | ((with_reducible refine condP_yes ?_ ?_); (· assumption)) | ((with_reducible refine condP_no ?_ ?_); (· assumption)) | ((with_reducible refine ArP_i64 ?_ ?_); (· omega)) | ((with_reducible refine mustP.mk ?_ ?_); (· first | omega | rfl | (dsimp only; omega))) | (with_reducible first | refine EqP_nil tab_ok ?_ | refine EqP_sli tab_ok ?_ | refine DrawP_auto tab_ok (by kernel_rfl) (by decide +kernel) ?_ | refine DrawP_auto2 tab_ok (by kernel_rfl) (by decide +kernel) ?_ | refine eq34 ?_ | refine eq68 ?_))))
                  refine YieldP_round (n := 11) tab_ok rfl hC0 hps2 hca2 hbd2 (by kernel_rfl) (by kernel_rfl) (by kernel_rfl) (by kernel_rfl) (by rfl) ?_
                  (repeat ((try (conv => whnf)); (first | (with_reducible first | refine condP_true ?_ | refine condP_false ?_ | refine condP_not ?_ | refine condP_and ?_) | ((with_reducible refine condP_dt ?_ ?_); (· omega)) | ((with_reducible refine condP_df ?_ ?_); (· omega)) | ((with_reducible refine condP_yes ?_ ?_); (· assumption)) | ((with_reducible refine condP_no ?_ ?_); (· assumption)) | ((with_reducible refine ArP_i64 ?_ ?_); (· omega)) | ((with_reducible refine mustP.mk ?_ ?_); (· first | omega | rfl | (dsimp only; omega))) | (with_reducible first | refine EqP_nil tab_ok ?_ | refine EqP_sli tab_ok ?_ | refine DrawP_auto tab_ok (by kernel_rfl) (by decide +kernel) ?_ | refine DrawP_auto2 tab_ok (by kernel_rfl) (by decide +kernel) ?_ | refine eq34 ?_ | refine eq68 ?_))))
                  intro C1 hC1
                  (repeat ((try (conv => whnf)); (first | (refine LookP.mk 3 22 (.slice none 0 0) (by kernel_rfl) (by kernel_rfl) (fun w => by kernel_rfl) _ hl0 ?_) | (with_reducible first | refine condP_true ?_ | refine condP_false ?_ | refine condP_not ?_ | refine condP_and ?_) | ((with_reducible refine condP_dt ?_ ?_); (· omega)) | ((with_reducible refine condP_df ?_ ?_); (· omega)) | ((with_reducible refine condP_yes ?_ ?_); (· assumption)) | ((with_reducible refine condP_no ?_ ?_); (· assumption)) | ((with_reducible refine ArP_i64 ?_ ?_); (· omega)) | ((with_reducible refine mustP.mk ?_ ?_); (· first | omega | rfl | (dsimp only; omega))) | (with_reducible first | refine EqP_nil tab_ok ?_ | refine EqP_sli tab_ok ?_ | refine DrawP_auto tab_ok (by kernel_rfl) (by decide +kernel) ?_ | refine DrawP_auto2 tab_ok (by kernel_rfl) (by decide +kernel) ?_ | refine eq34 ?_ | refine eq68 ?_))))
                  conv => whnf
                  refine LoopP_atG tab_ok (ι := Nat × Option Addr × Nat × Mem) (fun s => s.1 ≤ w.toNat ∧ RunsM s.2.2.2 s.2.1 (leftD w L r.y s.1) ∧ (leftD w L r.y s.1).length ≤ s.2.2.1 ∧ s.2.2.1 ≤ maxLen ∧ N.le s.2.2.2) (fun s => match s with | (d, B, cb, M9) => [(12, .val (.slice B (leftD w L r.y d).length cb)), (13, .val (.int .i64 ((d : Int) + 1)))]) (fun s => HT w f1 (some p) L c C1 (outE w L i) (t - i) (flatR (List.take (t - i) (List.drop i L)))) (fun s => s.2.2.2) (fun s => w.toNat - s.1) (0, A0, cp0, N) ⟨Nat.zero_le _, hR0, hc0, hm0, Mem.le_refl _⟩ ?_ ?_
                  · ((refine Le_head ?_); (conv => whnf); (refine Le_mk (by rfl) (by rfl) ?_ ?_); (· (repeat (first | (with_reducible exact frLe_nil) | (with_reducible first | refine frLe_any ?_ | refine frLe_val ?_) | ((with_reducible refine frLe_eq rfl ?_ ?_); (· rfl)) | ((with_reducible refine frLe_val' (int_eq ?_) ?_ ?_); (· omega); (· rfl)) | ((with_reducible refine frLe_val' (int_eq ?_) ?_ ?_); (· simp only [Int.natCast_add, Int.natCast_one, Int.natCast_ofNat] <;> omega); (· rfl)) | ((with_reducible refine frLe_val' (bool_eq ?_) ?_ ?_); (· first | assumption | (symm; assumption)); (· rfl))))))
                    exact HT_le _ _ _ hC1 (by kernel_rfl) rfl rfl
                  · rintro ⟨d, B, cb, M9⟩ ⟨hd, hRB, hcb, hmb, hNM⟩
                    dsimp only at hd hRB hcb hmb hNM ⊢
                    have hrows9 := hrowsN.mono hNM
                    have hld := leftD_len w L r.y d
                    have hld2 : (2 * d + 1) * L.length ≤ 129 * 10000 := Nat.mul_le_mul (by omega) (by omega)
                    by_cases hgo : d < w.toNat ∧ leftD w L r.y d ≠ []
                    · obtain ⟨hgo1, hgo2⟩ := hgo
                      have hpos : 0 < (leftD w L r.y d).length := List.length_pos_iff.2 hgo2
                      obtain ⟨A3, cp3, e3, hR3, hc3, hm3⟩ := hrows9.look (r.y - ((d : Int) + 1))
                      have hl3 : lookA (r.y - ((d : Int) + 1)) (.val ((f1 (r.y - ((d : Int) + 1))).getD (.slice none 0 0))) [] [] = .val (.slice A3 (narY w L (r.y - ((d : Int) + 1))).length cp3) := by show AV.val _ = _; rw [e3]
                      have hn3 := narY_len w L (r.y - ((d : Int) + 1))
                      have mk1 := meet_makes (y := r.y) hRB hR3 hcb hmb hc3 hm3 (by omega)
                      (repeat ((try (conv => whnf)); (first | (refine LookP.mk 3 22 (.slice none 0 0) (by kernel_rfl) (by kernel_rfl) (fun w => by kernel_rfl) _ hl3 ?_) | (with_reducible first | refine condP_true ?_ | refine condP_false ?_ | refine condP_not ?_ | refine condP_and ?_) | ((with_reducible refine condP_dt ?_ ?_); (· omega)) | ((with_reducible refine condP_df ?_ ?_); (· omega)) | ((with_reducible refine condP_yes ?_ ?_); (· assumption)) | ((with_reducible refine condP_no ?_ ?_); (· assumption)) | ((with_reducible refine ArP_i64 ?_ ?_); (· omega)) | ((with_reducible refine mustP.mk ?_ ?_); (· first | omega | rfl | (dsimp only; omega))) | (with_reducible first | refine EqP_nil tab_ok ?_ | refine EqP_sli tab_ok ?_ | refine DrawP_auto tab_ok (by kernel_rfl) (by decide +kernel) ?_ | refine DrawP_auto2 tab_ok (by kernel_rfl) (by decide +kernel) ?_ | refine eq34 ?_ | refine eq68 ?_))))
                      conv => whnf
                      refine CallP_freeze (fun vs w => by kernel_rfl) (.alone fun _ => rfl) (by kernel_rfl) mk1 fun A5 c5 M5 hM5 hc5 hm5 hx5 => ?_
                      have hR5 := RunsM.frozen hx5
                      have hl5 := meetL_len r.y _ (leftD w L r.y d) (narY w L (r.y - ((d : Int) + 1))) (Nat.le_refl _)
                      obtain ⟨A6, cp6, e6, hR6, hc6, hm6⟩ := (hrows9.mono hM5).look (r.y + ((d : Int) + 1))
                      have hl6 : lookA (r.y + ((d : Int) + 1)) (.val ((f1 (r.y + ((d : Int) + 1))).getD (.slice none 0 0))) [] [] = .val (.slice A6 (narY w L (r.y + ((d : Int) + 1))).length cp6) := by show AV.val _ = _; rw [e6]
                      have hn6 := narY_len w L (r.y + ((d : Int) + 1))
                      have mk2 := meet_makes (y := r.y) hR5 hR6 hc5 hm5 hc6 hm6 (by omega)
                      (repeat ((try (conv => whnf)); (first | (refine LookP.mk 3 22 (.slice none 0 0) (by kernel_rfl) (by kernel_rfl) (fun w => by kernel_rfl) _ hl6 ?_) | (with_reducible first | refine condP_true ?_ | refine condP_false ?_ | refine condP_not ?_ | refine condP_and ?_) | ((with_reducible refine condP_dt ?_ ?_); (· omega)) | ((with_reducible refine condP_df ?_ ?_); (· omega)) | ((with_reducible refine condP_yes ?_ ?_); (· assumption)) | ((with_reducible refine condP_no ?_ ?_); (· assumption)) | ((with_reducible refine ArP_i64 ?_ ?_); (· omega)) | ((with_reducible refine mustP.mk ?_ ?_); (· first | omega | rfl | (dsimp only; omega))) | (with_reducible first | refine EqP_nil tab_ok ?_ | refine EqP_sli tab_ok ?_ | refine DrawP_auto tab_ok (by kernel_rfl) (by decide +kernel) ?_ | refine DrawP_auto2 tab_ok (by kernel_rfl) (by decide +kernel) ?_ | refine eq34 ?_ | refine eq68 ?_))))
                      conv => whnf
                      refine CallP_freeze (fun vs w => by kernel_rfl) (.alone fun _ => rfl) (by kernel_rfl) mk2 fun A7 c7 M7 hM7 hc7 hm7 hx7 => ?_
                      have hR7 := RunsM.frozen hx7
                      (repeat ((try (conv => whnf)); (first | (with_reducible first | refine condP_true ?_ | refine condP_false ?_ | refine condP_not ?_ | refine condP_and ?_) | ((with_reducible refine condP_dt ?_ ?_); (· omega)) | ((with_reducible refine condP_df ?_ ?_); (· omega)) | ((with_reducible refine condP_yes ?_ ?_); (· assumption)) | ((with_reducible refine condP_no ?_ ?_); (· assumption)) | ((with_reducible refine ArP_i64 ?_ ?_); (· omega)) | ((with_reducible refine mustP.mk ?_ ?_); (· first | omega | rfl | (dsimp only; omega))) | (with_reducible first | refine EqP_nil tab_ok ?_ | refine EqP_sli tab_ok ?_ | refine DrawP_auto tab_ok (by kernel_rfl) (by decide +kernel) ?_ | refine DrawP_auto2 tab_ok (by kernel_rfl) (by decide +kernel) ?_ | refine eq34 ?_ | refine eq68 ?_))))
                      conv => whnf
                      refine ⟨(d + 1, A7, c7, M7), ⟨by dsimp only; omega, hR7, hc7, hm7, Mem.le_trans hNM (Mem.le_trans hM5 hM7)⟩, by dsimp only; omega, ?_⟩
                      ((refine Le_head ?_); (conv => whnf); (refine Le_mk (by rfl) (by rfl) ?_ ?_); (· (repeat (first | (with_reducible exact frLe_nil) | (with_reducible first | refine frLe_any ?_ | refine frLe_val ?_) | ((with_reducible refine frLe_eq rfl ?_ ?_); (· rfl)) | ((with_reducible refine frLe_val' (int_eq ?_) ?_ ?_); (· omega); (· rfl)) | ((with_reducible refine frLe_val' (int_eq ?_) ?_ ?_); (· simp only [Int.natCast_add, Int.natCast_one, Int.natCast_ofNat] <;> omega); (· rfl)) | ((with_reducible refine frLe_val' (bool_eq ?_) ?_ ?_); (· first | assumption | (symm; assumption)); (· rfl))))))
                      exact HT_le _ _ _ hC1 (by kernel_rfl) rfl rfl
                    · have hfin : leftD w L r.y d = leftY w L r.y := by
                        by_cases hdw : d = w.toNat
                        · rw [hdw]
                        · have hnil : leftD w L r.y d = [] := Decidable.not_not.1 fun h => hgo ⟨by omega, h⟩
                          have := leftD_nil hnil (w.toNat - d)
                          rw [show d + (w.toNat - d) = w.toNat by omega] at this
                          rw [hnil]; exact this.symm
                      have hgo3 : d = w.toNat ∨ (d < w.toNat ∧ (leftD w L r.y d).length = 0) := by
                        by_cases hdw : d = w.toNat
                        · exact .inl hdw
                        · have hnil : leftD w L r.y d = [] := Decidable.not_not.1 fun h => hgo ⟨by omega, h⟩
                          exact .inr ⟨by omega, by rw [hnil]; rfl⟩
                      clear hgo
                      have hrow := outE_row (w := w) hK hlast
                      rw [← hfin] at hrow
                      have hlfy := leftD_y (w := w) (L := L) (y := r.y) d
                      clear hfin mk hrows9
                      generalize leftD w L r.y d = lf at *
                      rcases hgo3 with hgo3 | hgo3
                      · skip
                        (repeat ((try (conv => whnf)); (first | (with_reducible first | refine condP_true ?_ | refine condP_false ?_ | refine condP_not ?_ | refine condP_and ?_) | ((with_reducible refine condP_dt ?_ ?_); (· omega)) | ((with_reducible refine condP_df ?_ ?_); (· omega)) | ((with_reducible refine condP_yes ?_ ?_); (· assumption)) | ((with_reducible refine condP_no ?_ ?_); (· assumption)) | ((with_reducible refine ArP_i64 ?_ ?_); (· omega)) | ((with_reducible refine mustP.mk ?_ ?_); (· first | omega | rfl | (dsimp only; omega))) | (with_reducible first | refine EqP_nil tab_ok ?_ | refine EqP_sli tab_ok ?_ | refine DrawP_auto tab_ok (by kernel_rfl) (by decide +kernel) ?_ | refine DrawP_auto2 tab_ok (by kernel_rfl) (by decide +kernel) ?_ | refine eq34 ?_ | refine eq68 ?_))))
                        conv => whnf
                        refine LoopP_at2 tab_ok (fun x out => x ≤ lf.length ∧ out = jn (outE w L i) (lf.take x)) (fun (x : Nat) out => [(89, .val (.int .i64 x))]) (fun x out => HU w f1 (some p) L c C1 out (t - i) (flatR (List.take (t - i) (List.drop i L)))) (fun x _ => lf.length - x) 0 (outE w L i) ⟨Nat.zero_le _, rfl⟩ ?_ ?_
                        · refine Le_head ?_
                          conv => whnf
                          rw [hC1]
                          refine Le_up 9 (by rfl) ?_
                          conv => whnf
                          refine Le_mk (by rfl) (by rfl) (by (repeat (first | (with_reducible exact frLe_nil) | (with_reducible first | refine frLe_any ?_ | refine frLe_val ?_) | ((with_reducible refine frLe_eq rfl ?_ ?_); (· rfl)) | ((with_reducible refine frLe_val' (int_eq ?_) ?_ ?_); (· omega); (· rfl)) | ((with_reducible refine frLe_val' (int_eq ?_) ?_ ?_); (· simp only [Int.natCast_add, Int.natCast_one, Int.natCast_ofNat] <;> omega); (· rfl)) | ((with_reducible refine frLe_val' (bool_eq ?_) ?_ ?_); (· first | assumption | (symm; assumption)); (· rfl))))) ?_
                          exact HU_le _ _ _ _ rfl (by kernel_rfl) rfl rfl
                        · rintro x out ⟨hx, ho⟩
                          have hol2 : out.length ≤ 200000000000 := by
                            have := jn_len (lf.take x) (outE w L i)
                            rw [← ho, List.length_take] at this
                            omega
                          rcases Nat.lt_or_ge x lf.length with h9 | h9
                          · obtain ⟨s, hs⟩ : ∃ s, lf[x]? = some s := ⟨lf[x], List.getElem?_eq_getElem h9⟩
                            obtain ⟨p9, hp9, ca⟩ := hRB.cells hs
                            have hst := jn_takeO (o := outE w L i) hs
                            have hsy := hlfy s (List.mem_of_getElem? hs)
                            rw [← ho, hsy] at hst
                            subst hp9
                            clear hRB hlfy
                            by_cases hxx : s.x1 ≤ s.x0
                            · rw [addR_no hxx] at hst
                              (repeat ((try (conv => whnf)); (first | (refine ca _ ?_) | (with_reducible first | refine condP_true ?_ | refine condP_false ?_ | refine condP_not ?_ | refine condP_and ?_) | ((with_reducible refine condP_dt ?_ ?_); (· omega)) | ((with_reducible refine condP_df ?_ ?_); (· omega)) | ((with_reducible refine condP_yes ?_ ?_); (· assumption)) | ((with_reducible refine condP_no ?_ ?_); (· assumption)) | ((with_reducible refine ArP_i64 ?_ ?_); (· omega)) | ((with_reducible refine mustP.mk ?_ ?_); (· first | omega | rfl | (dsimp only; omega))) | (with_reducible first | refine EqP_nil tab_ok ?_ | refine EqP_sli tab_ok ?_ | refine DrawP_auto tab_ok (by kernel_rfl) (by decide +kernel) ?_ | refine DrawP_auto2 tab_ok (by kernel_rfl) (by decide +kernel) ?_ | refine eq34 ?_ | refine eq68 ?_ | refine CallP_enter tab_ok Try.func32 (fun vs w => by kernel_rfl) (by rfl) ?_))))
                              conv => whnf
                              refine ⟨x + 1, out, ⟨by omega, hst.symm⟩, by omega, ?_⟩
                              ((refine Le_head ?_); (conv => whnf); (refine Le_mk (by rfl) (by rfl) ?_ ?_); (· (repeat (first | (with_reducible exact frLe_nil) | (with_reducible first | refine frLe_any ?_ | refine frLe_val ?_) | ((with_reducible refine frLe_eq rfl ?_ ?_); (· rfl)) | ((with_reducible refine frLe_val' (int_eq ?_) ?_ ?_); (· omega); (· rfl)) | ((with_reducible refine frLe_val' (int_eq ?_) ?_ ?_); (· simp only [Int.natCast_add, Int.natCast_one, Int.natCast_ofNat] <;> omega); (· rfl)) | ((with_reducible refine frLe_val' (bool_eq ?_) ?_ ?_); (· first | assumption | (symm; assumption)); (· rfl))))))
                              exact HU_le _ _ _ _ hC1 (by kernel_rfl) rfl rfl
                            · rcases last_or out with hout | ⟨Kp, rl, hout⟩
                              · have hlen0 : out.length = 0 := by rw [hout]; rfl
                                rw [hout, addR_nil hxx] at hst
                                (repeat ((try (conv => whnf)); (first | (refine ca _ ?_) | (with_reducible first | refine condP_true ?_ | refine condP_false ?_ | refine condP_not ?_ | refine condP_and ?_) | ((with_reducible refine condP_dt ?_ ?_); (· omega)) | ((with_reducible refine condP_df ?_ ?_); (· omega)) | ((with_reducible refine condP_yes ?_ ?_); (· assumption)) | ((with_reducible refine condP_no ?_ ?_); (· assumption)) | ((with_reducible refine ArP_i64 ?_ ?_); (· omega)) | ((with_reducible refine mustP.mk ?_ ?_); (· first | omega | rfl | (dsimp only; omega))) | (with_reducible first | refine EqP_nil tab_ok ?_ | refine EqP_sli tab_ok ?_ | refine DrawP_auto tab_ok (by kernel_rfl) (by decide +kernel) ?_ | refine DrawP_auto2 tab_ok (by kernel_rfl) (by decide +kernel) ?_ | refine eq34 ?_ | refine eq68 ?_ | refine CallP_enter tab_ok Try.func32 (fun vs w => by kernel_rfl) (by rfl) ?_))))
                                conv => whnf
                                refine ⟨x + 1, [⟨r.y, s.x0, s.x1⟩], ⟨by omega, hst.symm⟩, by omega, ?_⟩
                                refine Le_head ?_
                                conv => whnf
                                rw [hC1]
                                refine Le_move 14 11 (by rfl) (by rfl) (by rfl) (by rfl) ?_
                                conv => whnf
                                refine Le_mk (by rfl) (by rfl) (by (repeat (first | (with_reducible exact frLe_nil) | (with_reducible first | refine frLe_any ?_ | refine frLe_val ?_) | ((with_reducible refine frLe_eq rfl ?_ ?_); (· rfl)) | ((with_reducible refine frLe_val' (int_eq ?_) ?_ ?_); (· omega); (· rfl)) | ((with_reducible refine frLe_val' (int_eq ?_) ?_ ?_); (· simp only [Int.natCast_add, Int.natCast_one, Int.natCast_ofNat] <;> omega); (· rfl)) | ((with_reducible refine frLe_val' (bool_eq ?_) ?_ ?_); (· first | assumption | (symm; assumption)); (· rfl))))) ?_
                                exact HU_le _ _ _ _ rfl (by kernel_rfl) (by simp only [hlen0]; rfl) (by rw [hout]; rfl)
                              · have hlen0 : out.length = Kp.length + 1 := by rw [hout]; simp
                                have hix : (((out.length : Nat) : Int) - 1).toNat = Kp.length := by omega
                                obtain ⟨g0, g1, g2⟩ := flat_last Kp rl
                                rw [← hout, ← hix] at g0 g1 g2
                                rw [← Nat.add_zero ((((out.length : Nat) : Int) - 1).toNat * 3)] at g0
                                by_cases hj1 : rl.y = r.y
                                · by_cases hj2 : s.x0 ≤ rl.x1
                                  · rw [hout, addR_join hxx hj1 hj2] at hst
                                    (repeat ((try (conv => whnf)); (first | (refine ca _ ?_) | (refine OwnCells_one (.int .i64 rl.y) g0 ?_) | (refine OwnCells_one (.int .i64 rl.x1) g2 ?_) | (with_reducible first | refine condP_true ?_ | refine condP_false ?_ | refine condP_not ?_ | refine condP_and ?_) | ((with_reducible refine condP_dt ?_ ?_); (· omega)) | ((with_reducible refine condP_df ?_ ?_); (· omega)) | ((with_reducible refine condP_yes ?_ ?_); (· assumption)) | ((with_reducible refine condP_no ?_ ?_); (· assumption)) | ((with_reducible refine ArP_i64 ?_ ?_); (· omega)) | ((with_reducible refine mustP.mk ?_ ?_); (· first | omega | rfl | (dsimp only; omega))) | (with_reducible first | refine EqP_nil tab_ok ?_ | refine EqP_sli tab_ok ?_ | refine DrawP_auto tab_ok (by kernel_rfl) (by decide +kernel) ?_ | refine DrawP_auto2 tab_ok (by kernel_rfl) (by decide +kernel) ?_ | refine eq34 ?_ | refine eq68 ?_ | refine CallP_enter tab_ok Try.func32 (fun vs w => by kernel_rfl) (by rfl) ?_))))
                                    conv => whnf
                                    refine mustP.mk (by rw [hix, flatR_length, hlen0]; simp; omega) ?_
                                    (repeat ((try (conv => whnf)); (first | (refine ca _ ?_) | (refine OwnCells_one (.int .i64 rl.y) g0 ?_) | (refine OwnCells_one (.int .i64 rl.x1) g2 ?_) | (with_reducible first | refine condP_true ?_ | refine condP_false ?_ | refine condP_not ?_ | refine condP_and ?_) | ((with_reducible refine condP_dt ?_ ?_); (· omega)) | ((with_reducible refine condP_df ?_ ?_); (· omega)) | ((with_reducible refine condP_yes ?_ ?_); (· assumption)) | ((with_reducible refine condP_no ?_ ?_); (· assumption)) | ((with_reducible refine ArP_i64 ?_ ?_); (· omega)) | ((with_reducible refine mustP.mk ?_ ?_); (· first | omega | rfl | (dsimp only; omega))) | (with_reducible first | refine EqP_nil tab_ok ?_ | refine EqP_sli tab_ok ?_ | refine DrawP_auto tab_ok (by kernel_rfl) (by decide +kernel) ?_ | refine DrawP_auto2 tab_ok (by kernel_rfl) (by decide +kernel) ?_ | refine eq34 ?_ | refine eq68 ?_ | refine CallP_enter tab_ok Try.func32 (fun vs w => by kernel_rfl) (by rfl) ?_))))
                                    conv => whnf
                                    refine ⟨x + 1, Kp ++ [⟨r.y, rl.x0, max rl.x1 s.x1⟩], ⟨by omega, hst.symm⟩, by omega, ?_⟩
                                    refine Le_head ?_
                                    conv => whnf
                                    rw [hC1]
                                    refine Le_mk (by rfl) (by rfl) (by (repeat (first | (with_reducible exact frLe_nil) | (with_reducible first | refine frLe_any ?_ | refine frLe_val ?_) | ((with_reducible refine frLe_eq rfl ?_ ?_); (· rfl)) | ((with_reducible refine frLe_val' (int_eq ?_) ?_ ?_); (· omega); (· rfl)) | ((with_reducible refine frLe_val' (int_eq ?_) ?_ ?_); (· simp only [Int.natCast_add, Int.natCast_one, Int.natCast_ofNat] <;> omega); (· rfl)) | ((with_reducible refine frLe_val' (bool_eq ?_) ?_ ?_); (· first | assumption | (symm; assumption)); (· rfl))))) ?_
                                    exact HU_le _ _ _ _ rfl (by kernel_rfl) (by rw [hlen0]; simp) (by rw [hix, hout, ← hj1]; exact flat_set Kp rl _)
                                  · rw [hout, addR_new hxx (fun h => hj2 h.2)] at hst
                                    (repeat ((try (conv => whnf)); (first | (refine ca _ ?_) | (refine OwnCells_one (.int .i64 rl.y) g0 ?_) | (refine OwnCells_one (.int .i64 rl.x1) g2 ?_) | (with_reducible first | refine condP_true ?_ | refine condP_false ?_ | refine condP_not ?_ | refine condP_and ?_) | ((with_reducible refine condP_dt ?_ ?_); (· omega)) | ((with_reducible refine condP_df ?_ ?_); (· omega)) | ((with_reducible refine condP_yes ?_ ?_); (· assumption)) | ((with_reducible refine condP_no ?_ ?_); (· assumption)) | ((with_reducible refine ArP_i64 ?_ ?_); (· omega)) | ((with_reducible refine mustP.mk ?_ ?_); (· first | omega | rfl | (dsimp only; omega))) | (with_reducible first | refine EqP_nil tab_ok ?_ | refine EqP_sli tab_ok ?_ | refine DrawP_auto tab_ok (by kernel_rfl) (by decide +kernel) ?_ | refine DrawP_auto2 tab_ok (by kernel_rfl) (by decide +kernel) ?_ | refine eq34 ?_ | refine eq68 ?_ | refine CallP_enter tab_ok Try.func32 (fun vs w => by kernel_rfl) (by rfl) ?_))))
                                    conv => whnf
                                    refine ⟨x + 1, Kp ++ [rl] ++ [⟨r.y, s.x0, s.x1⟩], ⟨by omega, hst.symm⟩, by omega, ?_⟩
                                    refine Le_head ?_
                                    conv => whnf
                                    rw [hC1]
                                    refine Le_move 14 11 (by rfl) (by rfl) (by rfl) (by rfl) ?_
                                    conv => whnf
                                    refine Le_mk (by rfl) (by rfl) (by (repeat (first | (with_reducible exact frLe_nil) | (with_reducible first | refine frLe_any ?_ | refine frLe_val ?_) | ((with_reducible refine frLe_eq rfl ?_ ?_); (· rfl)) | ((with_reducible refine frLe_val' (int_eq ?_) ?_ ?_); (· omega); (· rfl)) | ((with_reducible refine frLe_val' (int_eq ?_) ?_ ?_); (· simp only [Int.natCast_add, Int.natCast_one, Int.natCast_ofNat] <;> omega); (· rfl)) | ((with_reducible refine frLe_val' (bool_eq ?_) ?_ ?_); (· first | assumption | (symm; assumption)); (· rfl))))) ?_
                                    exact HU_le _ _ _ _ rfl (by kernel_rfl) (by rw [hlen0]; simp) (by rw [hout, flatR_append (Kp ++ [rl])]; rfl)
                                · rw [hout, addR_new hxx (fun h => hj1 h.1)] at hst
                                  (repeat ((try (conv => whnf)); (first | (refine ca _ ?_) | (refine OwnCells_one (.int .i64 rl.y) g0 ?_) | (refine OwnCells_one (.int .i64 rl.x1) g2 ?_) | (with_reducible first | refine condP_true ?_ | refine condP_false ?_ | refine condP_not ?_ | refine condP_and ?_) | ((with_reducible refine condP_dt ?_ ?_); (· omega)) | ((with_reducible refine condP_df ?_ ?_); (· omega)) | ((with_reducible refine condP_yes ?_ ?_); (· assumption)) | ((with_reducible refine condP_no ?_ ?_); (· assumption)) | ((with_reducible refine ArP_i64 ?_ ?_); (· omega)) | ((with_reducible refine mustP.mk ?_ ?_); (· first | omega | rfl | (dsimp only; omega))) | (with_reducible first | refine EqP_nil tab_ok ?_ | refine EqP_sli tab_ok ?_ | refine DrawP_auto tab_ok (by kernel_rfl) (by decide +kernel) ?_ | refine DrawP_auto2 tab_ok (by kernel_rfl) (by decide +kernel) ?_ | refine eq34 ?_ | refine eq68 ?_ | refine CallP_enter tab_ok Try.func32 (fun vs w => by kernel_rfl) (by rfl) ?_))))
                                  conv => whnf
                                  refine ⟨x + 1, Kp ++ [rl] ++ [⟨r.y, s.x0, s.x1⟩], ⟨by omega, hst.symm⟩, by omega, ?_⟩
                                  refine Le_head ?_
                                  conv => whnf
                                  rw [hC1]
                                  refine Le_move 14 11 (by rfl) (by rfl) (by rfl) (by rfl) ?_
                                  conv => whnf
                                  refine Le_mk (by rfl) (by rfl) (by (repeat (first | (with_reducible exact frLe_nil) | (with_reducible first | refine frLe_any ?_ | refine frLe_val ?_) | ((with_reducible refine frLe_eq rfl ?_ ?_); (· rfl)) | ((with_reducible refine frLe_val' (int_eq ?_) ?_ ?_); (· omega); (· rfl)) | ((with_reducible refine frLe_val' (int_eq ?_) ?_ ?_); (· simp only [Int.natCast_add, Int.natCast_one, Int.natCast_ofNat] <;> omega); (· rfl)) | ((with_reducible refine frLe_val' (bool_eq ?_) ?_ ?_); (· first | assumption | (symm; assumption)); (· rfl))))) ?_
                                  exact HU_le _ _ _ _ rfl (by kernel_rfl) (by rw [hlen0]; simp) (by rw [hout, flatR_append (Kp ++ [rl])]; rfl)
                          · obtain rfl : x = lf.length := by omega
                            rw [List.take_length, ← hrow] at ho
                            subst ho
                            (repeat ((try (conv => whnf)); (first | (with_reducible first | refine condP_true ?_ | refine condP_false ?_ | refine condP_not ?_ | refine condP_and ?_) | ((with_reducible refine condP_dt ?_ ?_); (· omega)) | ((with_reducible refine condP_df ?_ ?_); (· omega)) | ((with_reducible refine condP_yes ?_ ?_); (· assumption)) | ((with_reducible refine condP_no ?_ ?_); (· assumption)) | ((with_reducible refine ArP_i64 ?_ ?_); (· omega)) | ((with_reducible refine mustP.mk ?_ ?_); (· first | omega | rfl | (dsimp only; omega))) | (with_reducible first | refine EqP_nil tab_ok ?_ | refine EqP_sli tab_ok ?_ | refine DrawP_auto tab_ok (by kernel_rfl) (by decide +kernel) ?_ | refine DrawP_auto2 tab_ok (by kernel_rfl) (by decide +kernel) ?_ | refine eq34 ?_ | refine eq68 ?_))))
                            refine ⟨(t, M9), ⟨by dsimp only; omega, fun q u h5 hq hu => hK.edge hq hu, Mem.le_trans hGN hNM⟩, by dsimp only; omega, ?_⟩
                            refine Le_head ?_
                            conv => whnf
                            rw [hC0]
                            refine Le_move 11 9 (by rfl) (by rfl) (by rfl) (by rfl) ?_
                            conv => whnf
                            refine Le_mk (by rfl) (by rfl) (by (repeat (first | (with_reducible exact frLe_nil) | (with_reducible first | refine frLe_any ?_ | refine frLe_val ?_) | ((with_reducible refine frLe_eq rfl ?_ ?_); (· rfl)) | ((with_reducible refine frLe_val' (int_eq ?_) ?_ ?_); (· omega); (· rfl)) | ((with_reducible refine frLe_val' (int_eq ?_) ?_ ?_); (· simp only [Int.natCast_add, Int.natCast_one, Int.natCast_ofNat] <;> omega); (· rfl)) | ((with_reducible refine frLe_val' (bool_eq ?_) ?_ ?_); (· first | assumption | (symm; assumption)); (· rfl))))) ?_
                            exact HS_le _ _ _ rfl (by kernel_rfl) rfl rfl
                      · skip
                        (repeat ((try (conv => whnf)); (first | (with_reducible first | refine condP_true ?_ | refine condP_false ?_ | refine condP_not ?_ | refine condP_and ?_) | ((with_reducible refine condP_dt ?_ ?_); (· omega)) | ((with_reducible refine condP_df ?_ ?_); (· omega)) | ((with_reducible refine condP_yes ?_ ?_); (· assumption)) | ((with_reducible refine condP_no ?_ ?_); (· assumption)) | ((with_reducible refine ArP_i64 ?_ ?_); (· omega)) | ((with_reducible refine mustP.mk ?_ ?_); (· first | omega | rfl | (dsimp only; omega))) | (with_reducible first | refine EqP_nil tab_ok ?_ | refine EqP_sli tab_ok ?_ | refine DrawP_auto tab_ok (by kernel_rfl) (by decide +kernel) ?_ | refine DrawP_auto2 tab_ok (by kernel_rfl) (by decide +kernel) ?_ | refine eq34 ?_ | refine eq68 ?_))))
                        conv => whnf
                        refine LoopP_at2 tab_ok (fun x out => x ≤ lf.length ∧ out = jn (outE w L i) (lf.take x)) (fun (x : Nat) out => [(89, .val (.int .i64 x))]) (fun x out => HU w f1 (some p) L c C1 out (t - i) (flatR (List.take (t - i) (List.drop i L)))) (fun x _ => lf.length - x) 0 (outE w L i) ⟨Nat.zero_le _, rfl⟩ ?_ ?_
                        · refine Le_head ?_
                          conv => whnf
                          rw [hC1]
                          refine Le_up 9 (by rfl) ?_
                          conv => whnf
                          refine Le_mk (by rfl) (by rfl) (by (repeat (first | (with_reducible exact frLe_nil) | (with_reducible first | refine frLe_any ?_ | refine frLe_val ?_) | ((with_reducible refine frLe_eq rfl ?_ ?_); (· rfl)) | ((with_reducible refine frLe_val' (int_eq ?_) ?_ ?_); (· omega); (· rfl)) | ((with_reducible refine frLe_val' (int_eq ?_) ?_ ?_); (· simp only [Int.natCast_add, Int.natCast_one, Int.natCast_ofNat] <;> omega); (· rfl)) | ((with_reducible refine frLe_val' (bool_eq ?_) ?_ ?_); (· first | assumption | (symm; assumption)); (· rfl))))) ?_
                          exact HU_le _ _ _ _ rfl (by kernel_rfl) rfl rfl
                        · rintro x out ⟨hx, ho⟩
                          have hol2 : out.length ≤ 200000000000 := by
                            have := jn_len (lf.take x) (outE w L i)
                            rw [← ho, List.length_take] at this
                            omega
                          rcases Nat.lt_or_ge x lf.length with h9 | h9
                          · exfalso; omega
                          · obtain rfl : x = lf.length := by omega
                            rw [List.take_length, ← hrow] at ho
                            subst ho
                            (repeat ((try (conv => whnf)); (first | (with_reducible first | refine condP_true ?_ | refine condP_false ?_ | refine condP_not ?_ | refine condP_and ?_) | ((with_reducible refine condP_dt ?_ ?_); (· omega)) | ((with_reducible refine condP_df ?_ ?_); (· omega)) | ((with_reducible refine condP_yes ?_ ?_); (· assumption)) | ((with_reducible refine condP_no ?_ ?_); (· assumption)) | ((with_reducible refine ArP_i64 ?_ ?_); (· omega)) | ((with_reducible refine mustP.mk ?_ ?_); (· first | omega | rfl | (dsimp only; omega))) | (with_reducible first | refine EqP_nil tab_ok ?_ | refine EqP_sli tab_ok ?_ | refine DrawP_auto tab_ok (by kernel_rfl) (by decide +kernel) ?_ | refine DrawP_auto2 tab_ok (by kernel_rfl) (by decide +kernel) ?_ | refine eq34 ?_ | refine eq68 ?_))))
                            refine ⟨(t, M9), ⟨by dsimp only; omega, fun q u h5 hq hu => hK.edge hq hu, Mem.le_trans hGN hNM⟩, by dsimp only; omega, ?_⟩
                            refine Le_head ?_
                            conv => whnf
                            rw [hC0]
                            refine Le_move 11 9 (by rfl) (by rfl) (by rfl) (by rfl) ?_
                            conv => whnf
                            refine Le_mk (by rfl) (by rfl) (by (repeat (first | (with_reducible exact frLe_nil) | (with_reducible first | refine frLe_any ?_ | refine frLe_val ?_) | ((with_reducible refine frLe_eq rfl ?_ ?_); (· rfl)) | ((with_reducible refine frLe_val' (int_eq ?_) ?_ ?_); (· omega); (· rfl)) | ((with_reducible refine frLe_val' (int_eq ?_) ?_ ?_); (· simp only [Int.natCast_add, Int.natCast_one, Int.natCast_ofNat] <;> omega); (· rfl)) | ((with_reducible refine frLe_val' (bool_eq ?_) ?_ ?_); (· first | assumption | (symm; assumption)); (· rfl))))) ?_
                            exact HS_le _ _ _ rfl (by kernel_rfl) rfl rfl
                · (repeat ((try (conv => whnf)); (first | (refine OldCells_one _ q0 ?_) | (with_reducible refine DrawP_mk tab_ok (by kernel_rfl) 11 [] (by decide +kernel) ?_) | (refine RCallP_makes (fun vs w => by kernel_rfl) (.alone fun _ => rfl) (by kernel_rfl) mk ?_) | (with_reducible first | refine condP_true ?_ | refine condP_false ?_ | refine condP_not ?_ | refine condP_and ?_) | ((with_reducible refine condP_dt ?_ ?_); (· omega)) | ((with_reducible refine condP_df ?_ ?_); (· omega)) | ((with_reducible refine condP_yes ?_ ?_); (· assumption)) | ((with_reducible refine condP_no ?_ ?_); (· assumption)) | ((with_reducible refine ArP_i64 ?_ ?_); (· omega)) | ((with_reducible refine mustP.mk ?_ ?_); (· first | omega | rfl | (dsimp only; omega))) | (with_reducible first | refine EqP_nil tab_ok ?_ | refine EqP_sli tab_ok ?_ | refine DrawP_auto tab_ok (by kernel_rfl) (by decide +kernel) ?_ | refine DrawP_auto2 tab_ok (by kernel_rfl) (by decide +kernel) ?_ | refine eq34 ?_ | refine eq68 ?_))))
                  refine YieldP_round (n := 11) tab_ok rfl hC0 hps2 hca2 hbd2 (by kernel_rfl) (by kernel_rfl) (by kernel_rfl) (by kernel_rfl) (by rfl) ?_
                  (repeat ((try (conv => whnf)); (first | (with_reducible first | refine condP_true ?_ | refine condP_false ?_ | refine condP_not ?_ | refine condP_and ?_) | ((with_reducible refine condP_dt ?_ ?_); (· omega)) | ((with_reducible refine condP_df ?_ ?_); (· omega)) | ((with_reducible refine condP_yes ?_ ?_); (· assumption)) | ((with_reducible refine condP_no ?_ ?_); (· assumption)) | ((with_reducible refine ArP_i64 ?_ ?_); (· omega)) | ((with_reducible refine mustP.mk ?_ ?_); (· first | omega | rfl | (dsimp only; omega))) | (with_reducible first | refine EqP_nil tab_ok ?_ | refine EqP_sli tab_ok ?_ | refine DrawP_auto tab_ok (by kernel_rfl) (by decide +kernel) ?_ | refine DrawP_auto2 tab_ok (by kernel_rfl) (by decide +kernel) ?_ | refine eq34 ?_ | refine eq68 ?_))))
                  intro C1 hC1
                  (repeat ((try (conv => whnf)); (first | (refine LookP.mk 3 22 (.slice none 0 0) (by kernel_rfl) (by kernel_rfl) (fun w => by kernel_rfl) _ hl0 ?_) | (with_reducible first | refine condP_true ?_ | refine condP_false ?_ | refine condP_not ?_ | refine condP_and ?_) | ((with_reducible refine condP_dt ?_ ?_); (· omega)) | ((with_reducible refine condP_df ?_ ?_); (· omega)) | ((with_reducible refine condP_yes ?_ ?_); (· assumption)) | ((with_reducible refine condP_no ?_ ?_); (· assumption)) | ((with_reducible refine ArP_i64 ?_ ?_); (· omega)) | ((with_reducible refine mustP.mk ?_ ?_); (· first | omega | rfl | (dsimp only; omega))) | (with_reducible first | refine EqP_nil tab_ok ?_ | refine EqP_sli tab_ok ?_ | refine DrawP_auto tab_ok (by kernel_rfl) (by decide +kernel) ?_ | refine DrawP_auto2 tab_ok (by kernel_rfl) (by decide +kernel) ?_ | refine eq34 ?_ | refine eq68 ?_))))
                  conv => whnf
                  refine LoopP_atG tab_ok (ι := Nat × Option Addr × Nat × Mem) (fun s => s.1 ≤ w.toNat ∧ RunsM s.2.2.2 s.2.1 (leftD w L r.y s.1) ∧ (leftD w L r.y s.1).length ≤ s.2.2.1 ∧ s.2.2.1 ≤ maxLen ∧ N.le s.2.2.2) (fun s => match s with | (d, B, cb, M9) => [(12, .val (.slice B (leftD w L r.y d).length cb)), (13, .val (.int .i64 ((d : Int) + 1)))]) (fun s => HT w f1 (some p) L c C1 (outE w L i) (t - i) (flatR (List.take (t - i) (List.drop i L)))) (fun s => s.2.2.2) (fun s => w.toNat - s.1) (0, A0, cp0, N) ⟨Nat.zero_le _, hR0, hc0, hm0, Mem.le_refl _⟩ ?_ ?_
                  · ((refine Le_head ?_); (conv => whnf); (refine Le_mk (by rfl) (by rfl) ?_ ?_); (· (repeat (first | (with_reducible exact frLe_nil) | (with_reducible first | refine frLe_any ?_ | refine frLe_val ?_) | ((with_reducible refine frLe_eq rfl ?_ ?_); (· rfl)) | ((with_reducible refine frLe_val' (int_eq ?_) ?_ ?_); (· omega); (· rfl)) | ((with_reducible refine frLe_val' (int_eq ?_) ?_ ?_); (· simp only [Int.natCast_add, Int.natCast_one, Int.natCast_ofNat] <;> omega); (· rfl)) | ((with_reducible refine frLe_val' (bool_eq ?_) ?_ ?_); (· first | assumption | (symm; assumption)); (· rfl))))))
                    exact HT_le _ _ _ hC1 (by kernel_rfl) rfl rfl
                  · rintro ⟨d, B, cb, M9⟩ ⟨hd, hRB, hcb, hmb, hNM⟩
                    dsimp only at hd hRB hcb hmb hNM ⊢
                    have hrows9 := hrowsN.mono hNM
                    have hld := leftD_len w L r.y d
                    have hld2 : (2 * d + 1) * L.length ≤ 129 * 10000 := Nat.mul_le_mul (by omega) (by omega)
                    by_cases hgo : d < w.toNat ∧ leftD w L r.y d ≠ []
                    · obtain ⟨hgo1, hgo2⟩ := hgo
                      have hpos : 0 < (leftD w L r.y d).length := List.length_pos_iff.2 hgo2
                      obtain ⟨A3, cp3, e3, hR3, hc3, hm3⟩ := hrows9.look (r.y - ((d : Int) + 1))
                      have hl3 : lookA (r.y - ((d : Int) + 1)) (.val ((f1 (r.y - ((d : Int) + 1))).getD (.slice none 0 0))) [] [] = .val (.slice A3 (narY w L (r.y - ((d : Int) + 1))).length cp3) := by show AV.val _ = _; rw [e3]
                      have hn3 := narY_len w L (r.y - ((d : Int) + 1))
                      have mk1 := meet_makes (y := r.y) hRB hR3 hcb hmb hc3 hm3 (by omega)
                      (repeat ((try (conv => whnf)); (first | (refine LookP.mk 3 22 (.slice none 0 0) (by kernel_rfl) (by kernel_rfl) (fun w => by kernel_rfl) _ hl3 ?_) | (with_reducible first | refine condP_true ?_ | refine condP_false ?_ | refine condP_not ?_ | refine condP_and ?_) | ((with_reducible refine condP_dt ?_ ?_); (· omega)) | ((with_reducible refine condP_df ?_ ?_); (· omega)) | ((with_reducible refine condP_yes ?_ ?_); (· assumption)) | ((with_reducible refine condP_no ?_ ?_); (· assumption)) | ((with_reducible refine ArP_i64 ?_ ?_); (· omega)) | ((with_reducible refine mustP.mk ?_ ?_); (· first | omega | rfl | (dsimp only; omega))) | (with_reducible first | refine EqP_nil tab_ok ?_ | refine EqP_sli tab_ok ?_ | refine DrawP_auto tab_ok (by kernel_rfl) (by decide +kernel) ?_ | refine DrawP_auto2 tab_ok (by kernel_rfl) (by decide +kernel) ?_ | refine eq34 ?_ | refine eq68 ?_))))
                      conv => whnf
                      refine CallP_freeze (fun vs w => by kernel_rfl) (.alone fun _ => rfl) (by kernel_rfl) mk1 fun A5 c5 M5 hM5 hc5 hm5 hx5 => ?_
                      have hR5 := RunsM.frozen hx5
                      have hl5 := meetL_len r.y _ (leftD w L r.y d) (narY w L (r.y - ((d : Int) + 1))) (Nat.le_refl _)
                      obtain ⟨A6, cp6, e6, hR6, hc6, hm6⟩ := (hrows9.mono hM5).look (r.y + ((d : Int) + 1))
                      have hl6 : lookA (r.y + ((d : Int) + 1)) (.val ((f1 (r.y + ((d : Int) + 1))).getD (.slice none 0 0))) [] [] = .val (.slice A6 (narY w L (r.y + ((d : Int) + 1))).length cp6) := by show AV.val _ = _; rw [e6]
                      have hn6 := narY_len w L (r.y + ((d : Int) + 1))
                      have mk2 := meet_makes (y := r.y) hR5 hR6 hc5 hm5 hc6 hm6 (by omega)
                      (repeat ((try (conv => whnf)); (first | (refine LookP.mk 3 22 (.slice none 0 0) (by kernel_rfl) (by kernel_rfl) (fun w => by kernel_rfl) _ hl6 ?_) | (with_reducible first | refine condP_true ?_ | refine condP_false ?_ | refine condP_not ?_ | refine condP_and ?_) | ((with_reducible refine condP_dt ?_ ?_); (· omega)) | ((with_reducible refine condP_df ?_ ?_); (· omega)) | ((with_reducible refine condP_yes ?_ ?_); (· assumption)) | ((with_reducible refine condP_no ?_ ?_); (· assumption)) | ((with_reducible refine ArP_i64 ?_ ?_); (· omega)) | ((with_reducible refine mustP.mk ?_ ?_); (· first | omega | rfl | (dsimp only; omega))) | (with_reducible first | refine EqP_nil tab_ok ?_ | refine EqP_sli tab_ok ?_ | refine DrawP_auto tab_ok (by kernel_rfl) (by decide +kernel) ?_ | refine DrawP_auto2 tab_ok (by kernel_rfl) (by decide +kernel) ?_ | refine eq34 ?_ | refine eq68 ?_))))
                      conv => whnf
                      refine CallP_freeze (fun vs w => by kernel_rfl) (.alone fun _ => rfl) (by kernel_rfl) mk2 fun A7 c7 M7 hM7 hc7 hm7 hx7 => ?_
                      have hR7 := RunsM.frozen hx7
                      (repeat ((try (conv => whnf)); (first | (with_reducible first | refine condP_true ?_ | refine condP_false ?_ | refine condP_not ?_ | refine condP_and ?_) | ((with_reducible refine condP_dt ?_ ?_); (· omega)) | ((with_reducible refine condP_df ?_ ?_); (· omega)) | ((with_reducible refine condP_yes ?_ ?_); (· assumption)) | ((with_reducible refine condP_no ?_ ?_); (· assumption)) | ((with_reducible refine ArP_i64 ?_ ?_); (· omega)) | ((with_reducible refine mustP.mk ?_ ?_); (· first | omega | rfl | (dsimp only; omega))) | (with_reducible first | refine EqP_nil tab_ok ?_ | refine EqP_sli tab_ok ?_ | refine DrawP_auto tab_ok (by kernel_rfl) (by decide +kernel) ?_ | refine DrawP_auto2 tab_ok (by kernel_rfl) (by decide +kernel) ?_ | refine eq34 ?_ | refine eq68 ?_))))
                      conv => whnf
                      refine ⟨(d + 1, A7, c7, M7), ⟨by dsimp only; omega, hR7, hc7, hm7, Mem.le_trans hNM (Mem.le_trans hM5 hM7)⟩, by dsimp only; omega, ?_⟩
                      ((refine Le_head ?_); (conv => whnf); (refine Le_mk (by rfl) (by rfl) ?_ ?_); (· (repeat (first | (with_reducible exact frLe_nil) | (with_reducible first | refine frLe_any ?_ | refine frLe_val ?_) | ((with_reducible refine frLe_eq rfl ?_ ?_); (· rfl)) | ((with_reducible refine frLe_val' (int_eq ?_) ?_ ?_); (· omega); (· rfl)) | ((with_reducible refine frLe_val' (int_eq ?_) ?_ ?_); (· simp only [Int.natCast_add, Int.natCast_one, Int.natCast_ofNat] <;> omega); (· rfl)) | ((with_reducible refine frLe_val' (bool_eq ?_) ?_ ?_); (· first | assumption | (symm; assumption)); (· rfl))))))
                      exact HT_le _ _ _ hC1 (by kernel_rfl) rfl rfl
                    · have hfin : leftD w L r.y d = leftY w L r.y := by
                        by_cases hdw : d = w.toNat
                        · rw [hdw]
                        · have hnil : leftD w L r.y d = [] := Decidable.not_not.1 fun h => hgo ⟨by omega, h⟩
                          have := leftD_nil hnil (w.toNat - d)
                          rw [show d + (w.toNat - d) = w.toNat by omega] at this
                          rw [hnil]; exact this.symm
                      have hgo3 : d = w.toNat ∨ (d < w.toNat ∧ (leftD w L r.y d).length = 0) := by
                        by_cases hdw : d = w.toNat
                        · exact .inl hdw
                        · have hnil : leftD w L r.y d = [] := Decidable.not_not.1 fun h => hgo ⟨by omega, h⟩
                          exact .inr ⟨by omega, by rw [hnil]; rfl⟩
                      clear hgo
                      have hrow := outE_row (w := w) hK hlast
                      rw [← hfin] at hrow
                      have hlfy := leftD_y (w := w) (L := L) (y := r.y) d
                      clear hfin mk hrows9
                      generalize leftD w L r.y d = lf at *
                      rcases hgo3 with hgo3 | hgo3
                      · skip
                        (repeat ((try (conv => whnf)); (first | (with_reducible first | refine condP_true ?_ | refine condP_false ?_ | refine condP_not ?_ | refine condP_and ?_) | ((with_reducible refine condP_dt ?_ ?_); (· omega)) | ((with_reducible refine condP_df ?_ ?_); (· omega)) | ((with_reducible refine condP_yes ?_ ?_); (· assumption)) | ((with_reducible refine condP_no ?_ ?_); (· assumption)) | ((with_reducible refine ArP_i64 ?_ ?_); (· omega)) | ((with_reducible refine mustP.mk ?_ ?_); (· first | omega | rfl | (dsimp only; omega))) | (with_reducible first | refine EqP_nil tab_ok ?_ | refine EqP_sli tab_ok ?_ | refine DrawP_auto tab_ok (by kernel_rfl) (by decide +kernel) ?_ | refine DrawP_auto2 tab_ok (by kernel_rfl) (by decide +kernel) ?_ | refine eq34 ?_ | refine eq68 ?_))))
                        conv => whnf
                        refine LoopP_at2 tab_ok (fun x out => x ≤ lf.length ∧ out = jn (outE w L i) (lf.take x)) (fun (x : Nat) out => [(89, .val (.int .i64 x))]) (fun x out => HU w f1 (some p) L c C1 out (t - i) (flatR (List.take (t - i) (List.drop i L)))) (fun x _ => lf.length - x) 0 (outE w L i) ⟨Nat.zero_le _, rfl⟩ ?_ ?_
                        · refine Le_head ?_
                          conv => whnf
                          rw [hC1]
                          refine Le_up 9 (by rfl) ?_
                          conv => whnf
                          refine Le_mk (by rfl) (by rfl) (by (repeat (first | (with_reducible exact frLe_nil) | (with_reducible first | refine frLe_any ?_ | refine frLe_val ?_) | ((with_reducible refine frLe_eq rfl ?_ ?_); (· rfl)) | ((with_reducible refine frLe_val' (int_eq ?_) ?_ ?_); (· omega); (· rfl)) | ((with_reducible refine frLe_val' (int_eq ?_) ?_ ?_); (· simp only [Int.natCast_add, Int.natCast_one, Int.natCast_ofNat] <;> omega); (· rfl)) | ((with_reducible refine frLe_val' (bool_eq ?_) ?_ ?_); (· first | assumption | (symm; assumption)); (· rfl))))) ?_
                          exact HU_le _ _ _ _ rfl (by kernel_rfl) rfl rfl
                        · rintro x out ⟨hx, ho⟩
                          have hol2 : out.length ≤ 200000000000 := by
                            have := jn_len (lf.take x) (outE w L i)
                            rw [← ho, List.length_take] at this
                            omega
                          rcases Nat.lt_or_ge x lf.length with h9 | h9
                          · obtain ⟨s, hs⟩ : ∃ s, lf[x]? = some s := ⟨lf[x], List.getElem?_eq_getElem h9⟩
                            obtain ⟨p9, hp9, ca⟩ := hRB.cells hs
                            have hst := jn_takeO (o := outE w L i) hs
                            have hsy := hlfy s (List.mem_of_getElem? hs)
                            rw [← ho, hsy] at hst
                            subst hp9
                            clear hRB hlfy
                            by_cases hxx : s.x1 ≤ s.x0
                            · rw [addR_no hxx] at hst
                              (repeat ((try (conv => whnf)); (first | (refine ca _ ?_) | (with_reducible first | refine condP_true ?_ | refine condP_false ?_ | refine condP_not ?_ | refine condP_and ?_) | ((with_reducible refine condP_dt ?_ ?_); (· omega)) | ((with_reducible refine condP_df ?_ ?_); (· omega)) | ((with_reducible refine condP_yes ?_ ?_); (· assumption)) | ((with_reducible refine condP_no ?_ ?_); (· assumption)) | ((with_reducible refine ArP_i64 ?_ ?_); (· omega)) | ((with_reducible refine mustP.mk ?_ ?_); (· first | omega | rfl | (dsimp only; omega))) | (with_reducible first | refine EqP_nil tab_ok ?_ | refine EqP_sli tab_ok ?_ | refine DrawP_auto tab_ok (by kernel_rfl) (by decide +kernel) ?_ | refine DrawP_auto2 tab_ok (by kernel_rfl) (by decide +kernel) ?_ | refine eq34 ?_ | refine eq68 ?_ | refine CallP_enter tab_ok Try.func32 (fun vs w => by kernel_rfl) (by rfl) ?_))))
                              conv => whnf
                              refine ⟨x + 1, out, ⟨by omega, hst.symm⟩, by omega, ?_⟩
                              ((refine Le_head ?_); (conv => whnf); (refine Le_mk (by rfl) (by rfl) ?_ ?_); (· (repeat (first | (with_reducible exact frLe_nil) | (with_reducible first | refine frLe_any ?_ | refine frLe_val ?_) | ((with_reducible refine frLe_eq rfl ?_ ?_); (· rfl)) | ((with_reducible refine frLe_val' (int_eq ?_) ?_ ?_); (· omega); (· rfl)) | ((with_reducible refine frLe_val' (int_eq ?_) ?_ ?_); (· simp only [Int.natCast_add, Int.natCast_one, Int.natCast_ofNat] <;> omega); (· rfl)) | ((with_reducible refine frLe_val' (bool_eq ?_) ?_ ?_); (· first | assumption | (symm; assumption)); (· rfl))))))
                              exact HU_le _ _ _ _ hC1 (by kernel_rfl) rfl rfl
                            · rcases last_or out with hout | ⟨Kp, rl, hout⟩
                              · have hlen0 : out.length = 0 := by rw [hout]; rfl
                                rw [hout, addR_nil hxx] at hst
                                (repeat ((try (conv => whnf)); (first | (refine ca _ ?_) | (with_reducible first | refine condP_true ?_ | refine condP_false ?_ | refine condP_not ?_ | refine condP_and ?_) | ((with_reducible refine condP_dt ?_ ?_); (· omega)) | ((with_reducible refine condP_df ?_ ?_); (· omega)) | ((with_reducible refine condP_yes ?_ ?_); (· assumption)) | ((with_reducible refine condP_no ?_ ?_); (· assumption)) | ((with_reducible refine ArP_i64 ?_ ?_); (· omega)) | ((with_reducible refine mustP.mk ?_ ?_); (· first | omega | rfl | (dsimp only; omega))) | (with_reducible first | refine EqP_nil tab_ok ?_ | refine EqP_sli tab_ok ?_ | refine DrawP_auto tab_ok (by kernel_rfl) (by decide +kernel) ?_ | refine DrawP_auto2 tab_ok (by kernel_rfl) (by decide +kernel) ?_ | refine eq34 ?_ | refine eq68 ?_ | refine CallP_enter tab_ok Try.func32 (fun vs w => by kernel_rfl) (by rfl) ?_))))
                                conv => whnf
                                refine ⟨x + 1, [⟨r.y, s.x0, s.x1⟩], ⟨by omega, hst.symm⟩, by omega, ?_⟩
                                refine Le_head ?_
                                conv => whnf
                                rw [hC1]
                                refine Le_move 14 11 (by rfl) (by rfl) (by rfl) (by rfl) ?_
                                conv => whnf
                                refine Le_mk (by rfl) (by rfl) (by (repeat (first | (with_reducible exact frLe_nil) | (with_reducible first | refine frLe_any ?_ | refine frLe_val ?_) | ((with_reducible refine frLe_eq rfl ?_ ?_); (· rfl)) | ((with_reducible refine frLe_val' (int_eq ?_) ?_ ?_); (· omega); (· rfl)) | ((with_reducible refine frLe_val' (int_eq ?_) ?_ ?_); (· simp only [Int.natCast_add, Int.natCast_one, Int.natCast_ofNat] <;> omega); (· rfl)) | ((with_reducible refine frLe_val' (bool_eq ?_) ?_ ?_); (· first | assumption | (symm; assumption)); (· rfl))))) ?_
                                exact HU_le _ _ _ _ rfl (by kernel_rfl) (by simp only [hlen0]; rfl) (by rw [hout]; rfl)
                              · have hlen0 : out.length = Kp.length + 1 := by rw [hout]; simp
                                have hix : (((out.length : Nat) : Int) - 1).toNat = Kp.length := by omega
                                obtain ⟨g0, g1, g2⟩ := flat_last Kp rl
                                rw [← hout, ← hix] at g0 g1 g2
                                rw [← Nat.add_zero ((((out.length : Nat) : Int) - 1).toNat * 3)] at g0
                                by_cases hj1 : rl.y = r.y
                                · by_cases hj2 : s.x0 ≤ rl.x1
                                  · rw [hout, addR_join hxx hj1 hj2] at hst
                                    (repeat ((try (conv => whnf)); (first | (refine ca _ ?_) | (refine OwnCells_one (.int .i64 rl.y) g0 ?_) | (refine OwnCells_one (.int .i64 rl.x1) g2 ?_) | (with_reducible first | refine condP_true ?_ | refine condP_false ?_ | refine condP_not ?_ | refine condP_and ?_) | ((with_reducible refine condP_dt ?_ ?_); (· omega)) | ((with_reducible refine condP_df ?_ ?_); (· omega)) | ((with_reducible refine condP_yes ?_ ?_); (· assumption)) | ((with_reducible refine condP_no ?_ ?_); (· assumption)) | ((with_reducible refine ArP_i64 ?_ ?_); (· omega)) | ((with_reducible refine mustP.mk ?_ ?_); (· first | omega | rfl | (dsimp only; omega))) | (with_reducible first | refine EqP_nil tab_ok ?_ | refine EqP_sli tab_ok ?_ | refine DrawP_auto tab_ok (by kernel_rfl) (by decide +kernel) ?_ | refine DrawP_auto2 tab_ok (by kernel_rfl) (by decide +kernel) ?_ | refine eq34 ?_ | refine eq68 ?_ | refine CallP_enter tab_ok Try.func32 (fun vs w => by kernel_rfl) (by rfl) ?_))))
                                    conv => whnf
                                    refine mustP.mk (by rw [hix, flatR_length, hlen0]; simp; omega) ?_
                                    (repeat ((try (conv => whnf)); (first | (refine ca _ ?_) | (refine OwnCells_one (.int .i64 rl.y) g0 ?_) | (refine OwnCells_one (.int .i64 rl.x1) g2 ?_) | (with_reducible first | refine condP_true ?_ | refine condP_false ?_ | refine condP_not ?_ | refine condP_and ?_) | ((with_reducible refine condP_dt ?_ ?_); (· omega)) | ((with_reducible refine condP_df ?_ ?_); (· omega)) | ((with_reducible refine condP_yes ?_ ?_); (· assumption)) | ((with_reducible refine condP_no ?_ ?_); (· assumption)) | ((with_reducible refine ArP_i64 ?_ ?_); (· omega)) | ((with_reducible refine mustP.mk ?_ ?_); (· first | omega | rfl | (dsimp only; omega))) | (with_reducible first | refine EqP_nil tab_ok ?_ | refine EqP_sli tab_ok ?_ | refine DrawP_auto tab_ok (by kernel_rfl) (by decide +kernel) ?_ | refine DrawP_auto2 tab_ok (by kernel_rfl) (by decide +kernel) ?_ | refine eq34 ?_ | refine eq68 ?_ | refine CallP_enter tab_ok Try.func32 (fun vs w => by kernel_rfl) (by rfl) ?_))))
                                    conv => whnf
                                    refine ⟨x + 1, Kp ++ [⟨r.y, rl.x0, max rl.x1 s.x1⟩], ⟨by omega, hst.symm⟩, by omega, ?_⟩
                                    refine Le_head ?_
                                    conv => whnf
                                    rw [hC1]
                                    refine Le_mk (by rfl) (by rfl) (by (repeat (first | (with_reducible exact frLe_nil) | (with_reducible first | refine frLe_any ?_ | refine frLe_val ?_) | ((with_reducible refine frLe_eq rfl ?_ ?_); (· rfl)) | ((with_reducible refine frLe_val' (int_eq ?_) ?_ ?_); (· omega); (· rfl)) | ((with_reducible refine frLe_val' (int_eq ?_) ?_ ?_); (· simp only [Int.natCast_add, Int.natCast_one, Int.natCast_ofNat] <;> omega); (· rfl)) | ((with_reducible refine frLe_val' (bool_eq ?_) ?_ ?_); (· first | assumption | (symm; assumption)); (· rfl))))) ?_
                                    exact HU_le _ _ _ _ rfl (by kernel_rfl) (by rw [hlen0]; simp) (by rw [hix, hout, ← hj1]; exact flat_set Kp rl _)
                                  · rw [hout, addR_new hxx (fun h => hj2 h.2)] at hst
                                    (repeat ((try (conv => whnf)); (first | (refine ca _ ?_) | (refine OwnCells_one (.int .i64 rl.y) g0 ?_) | (refine OwnCells_one (.int .i64 rl.x1) g2 ?_) | (with_reducible first | refine condP_true ?_ | refine condP_false ?_ | refine condP_not ?_ | refine condP_and ?_) | ((with_reducible refine condP_dt ?_ ?_); (· omega)) | ((with_reducible refine condP_df ?_ ?_); (· omega)) | ((with_reducible refine condP_yes ?_ ?_); (· assumption)) | ((with_reducible refine condP_no ?_ ?_); (· assumption)) | ((with_reducible refine ArP_i64 ?_ ?_); (· omega)) | ((with_reducible refine mustP.mk ?_ ?_); (· first | omega | rfl | (dsimp only; omega))) | (with_reducible first | refine EqP_nil tab_ok ?_ | refine EqP_sli tab_ok ?_ | refine DrawP_auto tab_ok (by kernel_rfl) (by decide +kernel) ?_ | refine DrawP_auto2 tab_ok (by kernel_rfl) (by decide +kernel) ?_ | refine eq34 ?_ | refine eq68 ?_ | refine CallP_enter tab_ok Try.func32 (fun vs w => by kernel_rfl) (by rfl) ?_))))
                                    conv => whnf
                                    refine ⟨x + 1, Kp ++ [rl] ++ [⟨r.y, s.x0, s.x1⟩], ⟨by omega, hst.symm⟩, by omega, ?_⟩
                                    refine Le_head ?_
                                    conv => whnf
                                    rw [hC1]
                                    refine Le_move 14 11 (by rfl) (by rfl) (by rfl) (by rfl) ?_
                                    conv => whnf
                                    refine Le_mk (by rfl) (by rfl) (by (repeat (first | (with_reducible exact frLe_nil) | (with_reducible first | refine frLe_any ?_ | refine frLe_val ?_) | ((with_reducible refine frLe_eq rfl ?_ ?_); (· rfl)) | ((with_reducible refine frLe_val' (int_eq ?_) ?_ ?_); (· omega); (· rfl)) | ((with_reducible refine frLe_val' (int_eq ?_) ?_ ?_); (· simp only [Int.natCast_add, Int.natCast_one, Int.natCast_ofNat] <;> omega); (· rfl)) | ((with_reducible refine frLe_val' (bool_eq ?_) ?_ ?_); (· first | assumption | (symm; assumption)); (· rfl))))) ?_
                                    exact HU_le _ _ _ _ rfl (by kernel_rfl) (by rw [hlen0]; simp) (by rw [hout, flatR_append (Kp ++ [rl])]; rfl)
                                · rw [hout, addR_new hxx (fun h => hj1 h.1)] at hst
                                  (repeat ((try (conv => whnf)); (first | (refine ca _ ?_) | (refine OwnCells_one (.int .i64 rl.y) g0 ?_) | (refine OwnCells_one (.int .i64 rl.x1) g2 ?_) | (with_reducible first | refine condP_true ?_ | refine condP_false ?_ | refine condP_not ?_ | refine condP_and ?_) | ((with_reducible refine condP_dt ?_ ?_); (· omega)) | ((with_reducible refine condP_df ?_ ?_); (· omega)) | ((with_reducible refine condP_yes ?_ ?_); (· assumption)) | ((with_reducible refine condP_no ?_ ?_); (· assumption)) | ((with_reducible refine ArP_i64 ?_ ?_); (· omega)) | ((with_reducible refine mustP.mk ?_ ?_); (· first | omega | rfl | (dsimp only; omega))) | (with_reducible first | refine EqP_nil tab_ok ?_ | refine EqP_sli tab_ok ?_ | refine DrawP_auto tab_ok (by kernel_rfl) (by decide +kernel) ?_ | refine DrawP_auto2 tab_ok (by kernel_rfl) (by decide +kernel) ?_ | refine eq34 ?_ | refine eq68 ?_ | refine CallP_enter tab_ok Try.func32 (fun vs w => by kernel_rfl) (by rfl) ?_))))
                                  conv => whnf
                                  refine ⟨x + 1, Kp ++ [rl] ++ [⟨r.y, s.x0, s.x1⟩], ⟨by omega, hst.symm⟩, by omega, ?_⟩
                                  refine Le_head ?_
                                  conv => whnf
                                  rw [hC1]
                                  refine Le_move 14 11 (by rfl) (by rfl) (by rfl) (by rfl) ?_
                                  conv => whnf
                                  refine Le_mk (by rfl) (by rfl) (by (repeat (first | (with_reducible exact frLe_nil) | (with_reducible first | refine frLe_any ?_ | refine frLe_val ?_) | ((with_reducible refine frLe_eq rfl ?_ ?_); (· rfl)) | ((with_reducible refine frLe_val' (int_eq ?_) ?_ ?_); (· omega); (· rfl)) | ((with_reducible refine frLe_val' (int_eq ?_) ?_ ?_); (· simp only [Int.natCast_add, Int.natCast_one, Int.natCast_ofNat] <;> omega); (· rfl)) | ((with_reducible refine frLe_val' (bool_eq ?_) ?_ ?_); (· first | assumption | (symm; assumption)); (· rfl))))) ?_
                                  exact HU_le _ _ _ _ rfl (by kernel_rfl) (by rw [hlen0]; simp) (by rw [hout, flatR_append (Kp ++ [rl])]; rfl)
                          · obtain rfl : x = lf.length := by omega
                            rw [List.take_length, ← hrow] at ho
                            subst ho
                            (repeat ((try (conv => whnf)); (first | (with_reducible first | refine condP_true ?_ | refine condP_false ?_ | refine condP_not ?_ | refine condP_and ?_) | ((with_reducible refine condP_dt ?_ ?_); (· omega)) | ((with_reducible refine condP_df ?_ ?_); (· omega)) | ((with_reducible refine condP_yes ?_ ?_); (· assumption)) | ((with_reducible refine condP_no ?_ ?_); (· assumption)) | ((with_reducible refine ArP_i64 ?_ ?_); (· omega)) | ((with_reducible refine mustP.mk ?_ ?_); (· first | omega | rfl | (dsimp only; omega))) | (with_reducible first | refine EqP_nil tab_ok ?_ | refine EqP_sli tab_ok ?_ | refine DrawP_auto tab_ok (by kernel_rfl) (by decide +kernel) ?_ | refine DrawP_auto2 tab_ok (by kernel_rfl) (by decide +kernel) ?_ | refine eq34 ?_ | refine eq68 ?_))))
                            refine ⟨(t, M9), ⟨by dsimp only; omega, fun q u h5 hq hu => hK.edge hq hu, Mem.le_trans hGN hNM⟩, by dsimp only; omega, ?_⟩
                            refine Le_head ?_
                            conv => whnf
                            rw [hC0]
                            refine Le_move 11 9 (by rfl) (by rfl) (by rfl) (by rfl) ?_
                            conv => whnf
                            refine Le_mk (by rfl) (by rfl) (by (repeat (first | (with_reducible exact frLe_nil) | (with_reducible first | refine frLe_any ?_ | refine frLe_val ?_) | ((with_reducible refine frLe_eq rfl ?_ ?_); (· rfl)) | ((with_reducible refine frLe_val' (int_eq ?_) ?_ ?_); (· omega); (· rfl)) | ((with_reducible refine frLe_val' (int_eq ?_) ?_ ?_); (· simp only [Int.natCast_add, Int.natCast_one, Int.natCast_ofNat] <;> omega); (· rfl)) | ((with_reducible refine frLe_val' (bool_eq ?_) ?_ ?_); (· first | assumption | (symm; assumption)); (· rfl))))) ?_
                            exact HS_le _ _ _ rfl (by kernel_rfl) rfl rfl
                      · skip
                        (repeat ((try (conv => whnf)); (first | (with_reducible first | refine condP_true ?_ | refine condP_false ?_ | refine condP_not ?_ | refine condP_and ?_) | ((with_reducible refine condP_dt ?_ ?_); (· omega)) | ((with_reducible refine condP_df ?_ ?_); (· omega)) | ((with_reducible refine condP_yes ?_ ?_); (· assumption)) | ((with_reducible refine condP_no ?_ ?_); (· assumption)) | ((with_reducible refine ArP_i64 ?_ ?_); (· omega)) | ((with_reducible refine mustP.mk ?_ ?_); (· first | omega | rfl | (dsimp only; omega))) | (with_reducible first | refine EqP_nil tab_ok ?_ | refine EqP_sli tab_ok ?_ | refine DrawP_auto tab_ok (by kernel_rfl) (by decide +kernel) ?_ | refine DrawP_auto2 tab_ok (by kernel_rfl) (by decide +kernel) ?_ | refine eq34 ?_ | refine eq68 ?_))))
                        conv => whnf
                        refine LoopP_at2 tab_ok (fun x out => x ≤ lf.length ∧ out = jn (outE w L i) (lf.take x)) (fun (x : Nat) out => [(89, .val (.int .i64 x))]) (fun x out => HU w f1 (some p) L c C1 out (t - i) (flatR (List.take (t - i) (List.drop i L)))) (fun x _ => lf.length - x) 0 (outE w L i) ⟨Nat.zero_le _, rfl⟩ ?_ ?_
                        · refine Le_head ?_
                          conv => whnf
                          rw [hC1]
                          refine Le_up 9 (by rfl) ?_
                          conv => whnf
                          refine Le_mk (by rfl) (by rfl) (by (repeat (first | (with_reducible exact frLe_nil) | (with_reducible first | refine frLe_any ?_ | refine frLe_val ?_) | ((with_reducible refine frLe_eq rfl ?_ ?_); (· rfl)) | ((with_reducible refine frLe_val' (int_eq ?_) ?_ ?_); (· omega); (· rfl)) | ((with_reducible refine frLe_val' (int_eq ?_) ?_ ?_); (· simp only [Int.natCast_add, Int.natCast_one, Int.natCast_ofNat] <;> omega); (· rfl)) | ((with_reducible refine frLe_val' (bool_eq ?_) ?_ ?_); (· first | assumption | (symm; assumption)); (· rfl))))) ?_
                          exact HU_le _ _ _ _ rfl (by kernel_rfl) rfl rfl
                        · rintro x out ⟨hx, ho⟩
                          have hol2 : out.length ≤ 200000000000 := by
                            have := jn_len (lf.take x) (outE w L i)
                            rw [← ho, List.length_take] at this
                            omega
                          rcases Nat.lt_or_ge x lf.length with h9 | h9
                          · exfalso; omega
                          · obtain rfl : x = lf.length := by omega
                            rw [List.take_length, ← hrow] at ho
                            subst ho
                            (repeat ((try (conv => whnf)); (first | (with_reducible first | refine condP_true ?_ | refine condP_false ?_ | refine condP_not ?_ | refine condP_and ?_) | ((with_reducible refine condP_dt ?_ ?_); (· omega)) | ((with_reducible refine condP_df ?_ ?_); (· omega)) | ((with_reducible refine condP_yes ?_ ?_); (· assumption)) | ((with_reducible refine condP_no ?_ ?_); (· assumption)) | ((with_reducible refine ArP_i64 ?_ ?_); (· omega)) | ((with_reducible refine mustP.mk ?_ ?_); (· first | omega | rfl | (dsimp only; omega))) | (with_reducible first | refine EqP_nil tab_ok ?_ | refine EqP_sli tab_ok ?_ | refine DrawP_auto tab_ok (by kernel_rfl) (by decide +kernel) ?_ | refine DrawP_auto2 tab_ok (by kernel_rfl) (by decide +kernel) ?_ | refine eq34 ?_ | refine eq68 ?_))))
                            refine ⟨(t, M9), ⟨by dsimp only; omega, fun q u h5 hq hu => hK.edge hq hu, Mem.le_trans hGN hNM⟩, by dsimp only; omega, ?_⟩
                            refine Le_head ?_
                            conv => whnf
                            rw [hC0]
                            refine Le_move 11 9 (by rfl) (by rfl) (by rfl) (by rfl) ?_
                            conv => whnf
                            refine Le_mk (by rfl) (by rfl) (by (repeat (first | (with_reducible exact frLe_nil) | (with_reducible first | refine frLe_any ?_ | refine frLe_val ?_) | ((with_reducible refine frLe_eq rfl ?_ ?_); (· rfl)) | ((with_reducible refine frLe_val' (int_eq ?_) ?_ ?_); (· omega); (· rfl)) | ((with_reducible refine frLe_val' (int_eq ?_) ?_ ?_); (· simp only [Int.natCast_add, Int.natCast_one, Int.natCast_ofNat] <;> omega); (· rfl)) | ((with_reducible refine frLe_val' (bool_eq ?_) ?_ ?_); (· first | assumption | (symm; assumption)); (· rfl))))) ?_
                            exact HS_le _ _ _ rfl (by kernel_rfl) rfl rfl
          · obtain rfl : i = L.length := by omega
            (repeat ((try (conv => whnf)); (first | (with_reducible first | refine condP_true ?_ | refine condP_false ?_ | refine condP_not ?_ | refine condP_and ?_) | ((with_reducible refine condP_dt ?_ ?_); (· omega)) | ((with_reducible refine condP_df ?_ ?_); (· omega)) | ((with_reducible refine condP_yes ?_ ?_); (· assumption)) | ((with_reducible refine condP_no ?_ ?_); (· assumption)) | ((with_reducible refine ArP_i64 ?_ ?_); (· omega)) | ((with_reducible refine mustP.mk ?_ ?_); (· first | omega | rfl | (dsimp only; omega))) | (with_reducible first | refine EqP_nil tab_ok ?_ | refine EqP_sli tab_ok ?_ | refine DrawP_auto tab_ok (by kernel_rfl) (by decide +kernel) ?_ | refine DrawP_auto2 tab_ok (by kernel_rfl) (by decide +kernel) ?_ | refine eq34 ?_ | refine eq68 ?_))))
            intro G4 hG4 hcl4
            refine RangeEnd.all rfl ?_
            (repeat ((try (conv => whnf)); (first | (with_reducible first | refine condP_true ?_ | refine condP_false ?_ | refine condP_not ?_ | refine condP_and ?_) | ((with_reducible refine condP_dt ?_ ?_); (· omega)) | ((with_reducible refine condP_df ?_ ?_); (· omega)) | ((with_reducible refine condP_yes ?_ ?_); (· assumption)) | ((with_reducible refine condP_no ?_ ?_); (· assumption)) | ((with_reducible refine ArP_i64 ?_ ?_); (· omega)) | ((with_reducible refine mustP.mk ?_ ?_); (· first | omega | rfl | (dsimp only; omega))) | (with_reducible first | refine EqP_nil tab_ok ?_ | refine EqP_sli tab_ok ?_ | refine DrawP_auto tab_ok (by kernel_rfl) (by decide +kernel) ?_ | refine DrawP_auto2 tab_ok (by kernel_rfl) (by decide +kernel) ?_ | refine eq34 ?_ | refine eq68 ?_))))
            exact .inl ⟨9, rfl, rfl⟩
end Go.Proofs.Ytiakdbcikmkomaa
