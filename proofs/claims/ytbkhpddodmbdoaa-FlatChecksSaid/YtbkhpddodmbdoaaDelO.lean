/-
  slices.DeleteFunc over the live runs of flat.apart.
-/
import Derived.Test.YtbkhpddodmbdoaaApartCmp
import Derived.Test.YtbkhpddodmbdoaaTrim
import Derived.Test.YtbkhpddodmbdoaaGmap
namespace Go.Proofs.Ytbkhpddodmbdoaa
open Go.RowKit
set_option linter.unusedVariables false
set_option linter.unusedSimpArgs false
set_option maxRecDepth 20000
theorem encO_len (x : Ow) : (encO x).length = 4 := rfl
theorem encO_get {l : List Ow} {i : Nat} {x : Ow} (h : l[i]? = some x) (j : Nat) (hj : j < 4) : (l.flatMap encO)[i * 4 + j]? = (encO x)[j]? := fm_get encO_len l i j x h hj
theorem own_load {l : List Ow} {i : Nat} {x : Ow} (h : l[i]? = some x) {K : List Value → Prop} (k : K [.int .i64 x.r.y, .int .i64 x.r.x0, .int .i64 x.r.x1, .int .i64 x.p]) : OwnCells (l.flatMap encO) (i * 4) 4 K :=
  OwnCells_list _ rfl (fun j v hj => by
    have hj4 : j < 4 := (List.getElem?_eq_some_iff.1 hj).1
    rw [encO_get h j hj4]; exact hj) k
set_option maxHeartbeats 4000000 in
theorem del_calls {S : Nat → Prop} {E1 E2 : TypeId} {s1 s2 n1 n2 : Nat} {x1 x2 : List Value} {l : List Ow} {q : Ow} {G : Mem} {K : AV → List Blk → Mem → Prop} (hl : l.length ≤ 4000000000000)
    (h : ∀ xs : List Value, xs.length = l.length * 4 → xs.take ((l.filter (keepO q.r)).length * 4) = (l.filter (keepO q.r)).flatMap encO → K (.vw 5 0 (l.filter (keepO q.r)).length) [.muts S, .own E1 s1 n1 x1, .own E2 s2 n2 x2, .gone, .cells 76 [.val (.int .i64 q.r.y), .val (.int .i64 q.r.x0), .val (.int .i64 q.r.x1), .val (.int .i64 q.p)], .own 76 4 l.length xs] G) :
    CallP Try.prog 43 [.own 5, .fn (.func 44) [] [.ptr 4 0]] [.muts S, .own E1 s1 n1 x1, .own E2 s2 n2 x2, .gone, .cells 76 [.val (.int .i64 q.r.y), .val (.int .i64 q.r.x0), .val (.int .i64 q.r.x1), .val (.int .i64 q.p)], .own 76 4 l.length (l.flatMap encO)] G K := by
  have hHP : ∀ {m : Nat} {t : List Blk} {xs ys : List Value}, xs = ys → hpLe (m + 6) (.muts S :: .own E1 s1 n1 x1 :: .own E2 s2 n2 x2 :: .gone :: .cells 76 [.val (.int .i64 q.r.y), .val (.int .i64 q.r.x0), .val (.int .i64 q.r.x1), .val (.int .i64 q.p)] :: .own 76 4 l.length xs :: t) [.muts S, .own E1 s1 n1 x1, .own E2 s2 n2 x2, .gone, .cells 76 [.val (.int .i64 q.r.y), .val (.int .i64 q.r.x0), .val (.int .i64 q.r.x1), .val (.int .i64 q.p)], .own 76 4 l.length ys] := fun e => by
    subst e
    exact hpLe_muts (fun _ h => h) (hpLe_own rfl rfl (hpLe_own rfl rfl (hpLe_gone (hpLe_cells (by (repeat (first | (with_reducible exact frLe_nil) | (with_reducible first | refine frLe_any ?_ | refine frLe_val ?_) | ((with_reducible refine frLe_eq rfl ?_ ?_); (· rfl)) | ((with_reducible refine frLe_val' (int_eq ?_) ?_ ?_); (· omega); (· rfl)) | ((with_reducible refine frLe_val' (int_eq ?_) ?_ ?_); (· simp only [Int.natCast_add, Int.natCast_one, Int.natCast_ofNat] <;> omega); (· rfl)) | ((with_reducible refine frLe_val' (bool_eq ?_) ?_ ?_); (· first | assumption | (symm; assumption)); (· rfl))))) (hpLe_own rfl rfl hpLe_nil)))))
  have hLe : ∀ {t : List Blk} {xs ys : List Value} {fr fr' : List AV}, xs = ys → frLe 6 fr fr' → Le 6 fr (.muts S :: .own E1 s1 n1 x1 :: .own E2 s2 n2 x2 :: .gone :: .cells 76 [.val (.int .i64 q.r.y), .val (.int .i64 q.r.x0), .val (.int .i64 q.r.x1), .val (.int .i64 q.p)] :: .own 76 4 l.length xs :: t) G fr' [.muts S, .own E1 s1 n1 x1, .own E2 s2 n2 x2, .gone, .cells 76 [.val (.int .i64 q.r.y), .val (.int .i64 q.r.x0), .val (.int .i64 q.r.x1), .val (.int .i64 q.p)], .own 76 4 l.length ys] G := fun e hf => Le_mk rfl rfl hf (hHP e)
  refine CallP_norm rfl (CallP_enter tab_ok Try.func43 (fun vs w => by kernel_rfl) rfl ?_)
  (repeat ((try (conv => whnf)); (first | (with_reducible first | refine condP_true ?_ | refine condP_false ?_ | refine condP_not ?_ | refine condP_and ?_) | ((with_reducible refine condP_dt ?_ ?_); (· omega)) | ((with_reducible refine condP_df ?_ ?_); (· omega)) | ((with_reducible refine condP_yes ?_ ?_); (· assumption)) | ((with_reducible refine condP_no ?_ ?_); (· assumption)) | ((with_reducible refine ArP_i64 ?_ ?_); (· omega)) | ((with_reducible refine mustP.mk ?_ ?_); (· first | omega | rfl | (dsimp only; omega))) | (with_reducible first | refine EqP_nil tab_ok ?_ | refine EqP_sli tab_ok ?_ | refine DrawP_auto tab_ok (by kernel_rfl) (by decide +kernel) ?_ | refine DrawP_auto2 tab_ok (by kernel_rfl) (by decide +kernel) ?_ | refine eq27 ?_ | refine eq44 ?_ | refine eq54 ?_ | refine eq76 ?_ | refine eq134 ?_ | refine CallP_enter tab_ok Try.func63 (fun vs w => by kernel_rfl) (by rfl) ?_))))
  conv => whnf
  refine LoopP_at tab_ok (fun i => i ≤ l.length ∧ ∀ k x, k < i → l[k]? = some x → keepO q.r x = true) (fun (i : Nat) => [(8, .val (.int .i64 i))]) (fun i => [.muts S, .own E1 s1 n1 x1, .own E2 s2 n2 x2, .gone, .cells 76 [.val (.int .i64 q.r.y), .val (.int .i64 q.r.x0), .val (.int .i64 q.r.x1), .val (.int .i64 q.p)], .own 76 4 l.length (l.flatMap encO)]) (fun i => l.length - i) 0 ⟨Nat.zero_le _, fun k x h => by omega⟩ ?_ ?_
  · ((refine Le_head ?_); (conv => whnf); (refine Le_mk (by rfl) (by rfl) ?_ ?_); (· (repeat (first | (with_reducible exact frLe_nil) | (with_reducible first | refine frLe_any ?_ | refine frLe_val ?_) | ((with_reducible refine frLe_eq rfl ?_ ?_); (· rfl)) | ((with_reducible refine frLe_val' (int_eq ?_) ?_ ?_); (· omega); (· rfl)) | ((with_reducible refine frLe_val' (int_eq ?_) ?_ ?_); (· simp only [Int.natCast_add, Int.natCast_one, Int.natCast_ofNat] <;> omega); (· rfl)) | ((with_reducible refine frLe_val' (bool_eq ?_) ?_ ?_); (· first | assumption | (symm; assumption)); (· rfl))))))
    exact hHP rfl
  · rintro i ⟨hi, hk⟩
    rcases Nat.lt_or_ge i l.length with h1 | h1
    · obtain ⟨x, hx⟩ : ∃ x, l[i]? = some x := ⟨l[i], List.getElem?_eq_getElem h1⟩
      by_cases hc : x.r.x1 ≤ q.r.x0
      · have hkx : keepO q.r x = false := by unfold keepO; simp [hc]
        (repeat ((try (conv => whnf)); (first | (refine own_load hx ?_) | (with_reducible first | refine condP_true ?_ | refine condP_false ?_ | refine condP_not ?_ | refine condP_and ?_) | ((with_reducible refine condP_dt ?_ ?_); (· omega)) | ((with_reducible refine condP_df ?_ ?_); (· omega)) | ((with_reducible refine condP_yes ?_ ?_); (· assumption)) | ((with_reducible refine condP_no ?_ ?_); (· assumption)) | ((with_reducible refine ArP_i64 ?_ ?_); (· omega)) | ((with_reducible refine mustP.mk ?_ ?_); (· first | omega | rfl | (dsimp only; omega))) | (with_reducible first | refine EqP_nil tab_ok ?_ | refine EqP_sli tab_ok ?_ | refine DrawP_auto tab_ok (by kernel_rfl) (by decide +kernel) ?_ | refine DrawP_auto2 tab_ok (by kernel_rfl) (by decide +kernel) ?_ | refine eq27 ?_ | refine eq44 ?_ | refine eq54 ?_ | refine eq76 ?_ | refine eq134 ?_ | refine CallP_enter tab_ok Try.func44 (fun vs w => by kernel_rfl) (by rfl) ?_))))
        conv => whnf
        (repeat ((try (conv => whnf)); (first | (with_reducible first | refine condP_true ?_ | refine condP_false ?_ | refine condP_not ?_ | refine condP_and ?_) | ((with_reducible refine condP_dt ?_ ?_); (· omega)) | ((with_reducible refine condP_df ?_ ?_); (· omega)) | ((with_reducible refine condP_yes ?_ ?_); (· assumption)) | ((with_reducible refine condP_no ?_ ?_); (· assumption)) | ((with_reducible refine ArP_i64 ?_ ?_); (· omega)) | ((with_reducible refine mustP.mk ?_ ?_); (· first | omega | rfl | (dsimp only; omega))) | (with_reducible first | refine EqP_nil tab_ok ?_ | refine EqP_sli tab_ok ?_ | refine DrawP_auto tab_ok (by kernel_rfl) (by decide +kernel) ?_ | refine DrawP_auto2 tab_ok (by kernel_rfl) (by decide +kernel) ?_ | refine eq27 ?_ | refine eq44 ?_ | refine eq54 ?_ | refine eq76 ?_ | refine eq134 ?_))))
        conv => whnf
        refine LoopP_at3 tab_ok (fun i j M => Moved (keepO q.r) l M i j) (fun (i j : Nat) (M : List Ow) => [(5, .val (.int .i64 i)), (6, .val (.int .i64 j))]) (fun i j M => [.muts S, .own E1 s1 n1 x1, .own E2 s2 n2 x2, .gone, .cells 76 [.val (.int .i64 q.r.y), .val (.int .i64 q.r.x0), .val (.int .i64 q.r.x1), .val (.int .i64 q.p)], .own 76 4 l.length (M.flatMap encO)]) (fun i j M => l.length - j) i (i + 1) l (Moved.start hk hx hkx) ?_ ?_
        · ((refine Le_head ?_); (conv => whnf); (refine Le_mk (by rfl) (by rfl) ?_ ?_); (· (repeat (first | (with_reducible exact frLe_nil) | (with_reducible first | refine frLe_any ?_ | refine frLe_val ?_) | ((with_reducible refine frLe_eq rfl ?_ ?_); (· rfl)) | ((with_reducible refine frLe_val' (int_eq ?_) ?_ ?_); (· omega); (· rfl)) | ((with_reducible refine frLe_val' (int_eq ?_) ?_ ?_); (· simp only [Int.natCast_add, Int.natCast_one, Int.natCast_ofNat] <;> omega); (· rfl)) | ((with_reducible refine frLe_val' (bool_eq ?_) ?_ ?_); (· first | assumption | (symm; assumption)); (· rfl))))))
          exact hHP rfl
        · rintro i j M hM
          have hle := hM.le
          have hlen := hM.len
          rcases Nat.lt_or_ge j l.length with h2 | h2
          · obtain ⟨y, hy⟩ : ∃ y, l[j]? = some y := ⟨l[j], List.getElem?_eq_getElem h2⟩
            have hy' := hM.at_.trans hy
            by_cases hd : y.r.x1 ≤ q.r.x0
            · have hky : keepO q.r y = false := by unfold keepO; simp [hd]
              (repeat ((try (conv => whnf)); (first | (refine own_load hy' ?_) | (with_reducible first | refine condP_true ?_ | refine condP_false ?_ | refine condP_not ?_ | refine condP_and ?_) | ((with_reducible refine condP_dt ?_ ?_); (· omega)) | ((with_reducible refine condP_df ?_ ?_); (· omega)) | ((with_reducible refine condP_yes ?_ ?_); (· assumption)) | ((with_reducible refine condP_no ?_ ?_); (· assumption)) | ((with_reducible refine ArP_i64 ?_ ?_); (· omega)) | ((with_reducible refine mustP.mk ?_ ?_); (· first | omega | rfl | (dsimp only; omega))) | (with_reducible first | refine EqP_nil tab_ok ?_ | refine EqP_sli tab_ok ?_ | refine DrawP_auto tab_ok (by kernel_rfl) (by decide +kernel) ?_ | refine DrawP_auto2 tab_ok (by kernel_rfl) (by decide +kernel) ?_ | refine eq27 ?_ | refine eq44 ?_ | refine eq54 ?_ | refine eq76 ?_ | refine eq134 ?_ | refine CallP_enter tab_ok Try.func44 (fun vs w => by kernel_rfl) (by rfl) ?_))))
              conv => whnf
              (repeat ((try (conv => whnf)); (first | (with_reducible first | refine condP_true ?_ | refine condP_false ?_ | refine condP_not ?_ | refine condP_and ?_) | ((with_reducible refine condP_dt ?_ ?_); (· omega)) | ((with_reducible refine condP_df ?_ ?_); (· omega)) | ((with_reducible refine condP_yes ?_ ?_); (· assumption)) | ((with_reducible refine condP_no ?_ ?_); (· assumption)) | ((with_reducible refine ArP_i64 ?_ ?_); (· omega)) | ((with_reducible refine mustP.mk ?_ ?_); (· first | omega | rfl | (dsimp only; omega))) | (with_reducible first | refine EqP_nil tab_ok ?_ | refine EqP_sli tab_ok ?_ | refine DrawP_auto tab_ok (by kernel_rfl) (by decide +kernel) ?_ | refine DrawP_auto2 tab_ok (by kernel_rfl) (by decide +kernel) ?_ | refine eq27 ?_ | refine eq44 ?_ | refine eq54 ?_ | refine eq76 ?_ | refine eq134 ?_))))
              conv => whnf
              refine ⟨i, j + 1, M, hM.drop_ hy hky, by omega, ?_⟩
              ((refine Le_head ?_); (conv => whnf); (refine Le_mk (by rfl) (by rfl) ?_ ?_); (· (repeat (first | (with_reducible exact frLe_nil) | (with_reducible first | refine frLe_any ?_ | refine frLe_val ?_) | ((with_reducible refine frLe_eq rfl ?_ ?_); (· rfl)) | ((with_reducible refine frLe_val' (int_eq ?_) ?_ ?_); (· omega); (· rfl)) | ((with_reducible refine frLe_val' (int_eq ?_) ?_ ?_); (· simp only [Int.natCast_add, Int.natCast_one, Int.natCast_ofNat] <;> omega); (· rfl)) | ((with_reducible refine frLe_val' (bool_eq ?_) ?_ ?_); (· first | assumption | (symm; assumption)); (· rfl))))))
              exact hHP rfl
            · have hky : keepO q.r y = true := by unfold keepO; simp [hd]
              (repeat ((try (conv => whnf)); (first | (refine own_load hy' ?_) | (with_reducible first | refine condP_true ?_ | refine condP_false ?_ | refine condP_not ?_ | refine condP_and ?_) | ((with_reducible refine condP_dt ?_ ?_); (· omega)) | ((with_reducible refine condP_df ?_ ?_); (· omega)) | ((with_reducible refine condP_yes ?_ ?_); (· assumption)) | ((with_reducible refine condP_no ?_ ?_); (· assumption)) | ((with_reducible refine ArP_i64 ?_ ?_); (· omega)) | ((with_reducible refine mustP.mk ?_ ?_); (· first | omega | rfl | (dsimp only; omega))) | (with_reducible first | refine EqP_nil tab_ok ?_ | refine EqP_sli tab_ok ?_ | refine DrawP_auto tab_ok (by kernel_rfl) (by decide +kernel) ?_ | refine DrawP_auto2 tab_ok (by kernel_rfl) (by decide +kernel) ?_ | refine eq27 ?_ | refine eq44 ?_ | refine eq54 ?_ | refine eq76 ?_ | refine eq134 ?_ | refine CallP_enter tab_ok Try.func44 (fun vs w => by kernel_rfl) (by rfl) ?_))))
              conv => whnf
              (repeat ((try (conv => whnf)); (first | (with_reducible first | refine condP_true ?_ | refine condP_false ?_ | refine condP_not ?_ | refine condP_and ?_) | ((with_reducible refine condP_dt ?_ ?_); (· omega)) | ((with_reducible refine condP_df ?_ ?_); (· omega)) | ((with_reducible refine condP_yes ?_ ?_); (· assumption)) | ((with_reducible refine condP_no ?_ ?_); (· assumption)) | ((with_reducible refine ArP_i64 ?_ ?_); (· omega)) | ((with_reducible refine mustP.mk ?_ ?_); (· first | omega | rfl | (dsimp only; omega))) | (with_reducible first | refine EqP_nil tab_ok ?_ | refine EqP_sli tab_ok ?_ | refine DrawP_auto tab_ok (by kernel_rfl) (by decide +kernel) ?_ | refine DrawP_auto2 tab_ok (by kernel_rfl) (by decide +kernel) ?_ | refine eq27 ?_ | refine eq44 ?_ | refine eq54 ?_ | refine eq76 ?_ | refine eq134 ?_))))
              conv => whnf
              refine ⟨by rw [fm_length encO_len, hlen]; simp; omega, ?_⟩
              (repeat ((try (conv => whnf)); (first | (with_reducible first | refine condP_true ?_ | refine condP_false ?_ | refine condP_not ?_ | refine condP_and ?_) | ((with_reducible refine condP_dt ?_ ?_); (· omega)) | ((with_reducible refine condP_df ?_ ?_); (· omega)) | ((with_reducible refine condP_yes ?_ ?_); (· assumption)) | ((with_reducible refine condP_no ?_ ?_); (· assumption)) | ((with_reducible refine ArP_i64 ?_ ?_); (· omega)) | ((with_reducible refine mustP.mk ?_ ?_); (· first | omega | rfl | (dsimp only; omega))) | (with_reducible first | refine EqP_nil tab_ok ?_ | refine EqP_sli tab_ok ?_ | refine DrawP_auto tab_ok (by kernel_rfl) (by decide +kernel) ?_ | refine DrawP_auto2 tab_ok (by kernel_rfl) (by decide +kernel) ?_ | refine eq27 ?_ | refine eq44 ?_ | refine eq54 ?_ | refine eq76 ?_ | refine eq134 ?_))))
              conv => whnf
              refine ⟨i + 1, j + 1, M.set i y, hM.keep_ hy hky, by omega, ?_⟩
              ((refine Le_head ?_); (conv => whnf); (refine Le_mk (by rfl) (by rfl) ?_ ?_); (· (repeat (first | (with_reducible exact frLe_nil) | (with_reducible first | refine frLe_any ?_ | refine frLe_val ?_) | ((with_reducible refine frLe_eq rfl ?_ ?_); (· rfl)) | ((with_reducible refine frLe_val' (int_eq ?_) ?_ ?_); (· omega); (· rfl)) | ((with_reducible refine frLe_val' (int_eq ?_) ?_ ?_); (· simp only [Int.natCast_add, Int.natCast_one, Int.natCast_ofNat] <;> omega); (· rfl)) | ((with_reducible refine frLe_val' (bool_eq ?_) ?_ ?_); (· first | assumption | (symm; assumption)); (· rfl))))))
              refine hHP ?_
              show List.take ((i : Int).toNat * 4) _ ++ encO y ++ List.drop ((i : Int).toNat * 4 + 4) _ = _
              rw [Int.toNat_natCast]
              exact fm_set encO_len M i y (by omega)
          · obtain rfl : j = l.length := by omega
            have hfr := hM.front
            rw [List.take_length] at hfr
            have hi0 : (l.filter (keepO q.r)).length = i := by rw [← hfr, List.length_take]; omega
            (repeat ((try (conv => whnf)); (first | (with_reducible first | refine condP_true ?_ | refine condP_false ?_ | refine condP_not ?_ | refine condP_and ?_) | ((with_reducible refine condP_dt ?_ ?_); (· omega)) | ((with_reducible refine condP_df ?_ ?_); (· omega)) | ((with_reducible refine condP_yes ?_ ?_); (· assumption)) | ((with_reducible refine condP_no ?_ ?_); (· assumption)) | ((with_reducible refine ArP_i64 ?_ ?_); (· omega)) | ((with_reducible refine mustP.mk ?_ ?_); (· first | omega | rfl | (dsimp only; omega))) | (with_reducible first | refine EqP_nil tab_ok ?_ | refine EqP_sli tab_ok ?_ | refine DrawP_auto tab_ok (by kernel_rfl) (by decide +kernel) ?_ | refine DrawP_auto2 tab_ok (by kernel_rfl) (by decide +kernel) ?_ | refine eq27 ?_ | refine eq44 ?_ | refine eq54 ?_ | refine eq76 ?_ | refine eq134 ?_))))
            conv => whnf
            refine ⟨by rw [fm_length encO_len, hlen]; simp; omega, ?_⟩
            (repeat ((try (conv => whnf)); (first | (with_reducible first | refine condP_true ?_ | refine condP_false ?_ | refine condP_not ?_ | refine condP_and ?_) | ((with_reducible refine condP_dt ?_ ?_); (· omega)) | ((with_reducible refine condP_df ?_ ?_); (· omega)) | ((with_reducible refine condP_yes ?_ ?_); (· assumption)) | ((with_reducible refine condP_no ?_ ?_); (· assumption)) | ((with_reducible refine ArP_i64 ?_ ?_); (· omega)) | ((with_reducible refine mustP.mk ?_ ?_); (· first | omega | rfl | (dsimp only; omega))) | (with_reducible first | refine EqP_nil tab_ok ?_ | refine EqP_sli tab_ok ?_ | refine DrawP_auto tab_ok (by kernel_rfl) (by decide +kernel) ?_ | refine DrawP_auto2 tab_ok (by kernel_rfl) (by decide +kernel) ?_ | refine eq27 ?_ | refine eq44 ?_ | refine eq54 ?_ | refine eq76 ?_ | refine eq134 ?_))))
            conv => whnf
            refine ⟨.vw 5 0 (l.filter (keepO q.r)).length, _, G, hLe rfl (frLe_val' ?_ (by rfl) frLe_nil), h _ ?_ ?_⟩
            · rw [hi0]; rfl
            · have e : (i : Int).toNat = i := rfl
              have e2 : (l.length : Int).toNat = l.length := rfl
              simp only [List.length_append, List.length_take, List.length_drop, rep_length, fm_length encO_len, e, e2, hlen, List.length_cons, List.length_nil]
              omega
            · have e : (i : Int).toNat = i := rfl
              rw [hi0, ← hfr, ← fm_take encO_len, List.append_assoc, e]
              show List.take (i * 4) (List.take (i * 4) _ ++ _) = _
              rw [List.take_append_of_le_length (by rw [List.length_take, fm_length encO_len]; omega), List.take_take, Nat.min_self]
      · have hkx : keepO q.r x = true := by unfold keepO; simp [hc]
        (repeat ((try (conv => whnf)); (first | (refine own_load hx ?_) | (with_reducible first | refine condP_true ?_ | refine condP_false ?_ | refine condP_not ?_ | refine condP_and ?_) | ((with_reducible refine condP_dt ?_ ?_); (· omega)) | ((with_reducible refine condP_df ?_ ?_); (· omega)) | ((with_reducible refine condP_yes ?_ ?_); (· assumption)) | ((with_reducible refine condP_no ?_ ?_); (· assumption)) | ((with_reducible refine ArP_i64 ?_ ?_); (· omega)) | ((with_reducible refine mustP.mk ?_ ?_); (· first | omega | rfl | (dsimp only; omega))) | (with_reducible first | refine EqP_nil tab_ok ?_ | refine EqP_sli tab_ok ?_ | refine DrawP_auto tab_ok (by kernel_rfl) (by decide +kernel) ?_ | refine DrawP_auto2 tab_ok (by kernel_rfl) (by decide +kernel) ?_ | refine eq27 ?_ | refine eq44 ?_ | refine eq54 ?_ | refine eq76 ?_ | refine eq134 ?_ | refine CallP_enter tab_ok Try.func44 (fun vs w => by kernel_rfl) (by rfl) ?_))))
        conv => whnf
        refine ⟨i + 1, ⟨by omega, fun k y hky hy => ?_⟩, by omega, ?_⟩
        · by_cases e : k = i
          · subst e; rw [hx] at hy; cases hy; exact hkx
          · exact hk k y (by omega) hy
        · ((refine Le_head ?_); (conv => whnf); (refine Le_mk (by rfl) (by rfl) ?_ ?_); (· (repeat (first | (with_reducible exact frLe_nil) | (with_reducible first | refine frLe_any ?_ | refine frLe_val ?_) | ((with_reducible refine frLe_eq rfl ?_ ?_); (· rfl)) | ((with_reducible refine frLe_val' (int_eq ?_) ?_ ?_); (· omega); (· rfl)) | ((with_reducible refine frLe_val' (int_eq ?_) ?_ ?_); (· simp only [Int.natCast_add, Int.natCast_one, Int.natCast_ofNat] <;> omega); (· rfl)) | ((with_reducible refine frLe_val' (bool_eq ?_) ?_ ?_); (· first | assumption | (symm; assumption)); (· rfl))))))
          exact hHP rfl
    · obtain rfl : i = l.length := by omega
      have hf : l.filter (keepO q.r) = l := by
        rw [List.filter_eq_self]
        intro y hy
        obtain ⟨k, hk'⟩ := List.mem_iff_getElem?.1 hy
        exact hk k y (List.getElem?_eq_some_iff.1 hk').1 hk'
      (repeat ((try (conv => whnf)); (first | (with_reducible first | refine condP_true ?_ | refine condP_false ?_ | refine condP_not ?_ | refine condP_and ?_) | ((with_reducible refine condP_dt ?_ ?_); (· omega)) | ((with_reducible refine condP_df ?_ ?_); (· omega)) | ((with_reducible refine condP_yes ?_ ?_); (· assumption)) | ((with_reducible refine condP_no ?_ ?_); (· assumption)) | ((with_reducible refine ArP_i64 ?_ ?_); (· omega)) | ((with_reducible refine mustP.mk ?_ ?_); (· first | omega | rfl | (dsimp only; omega))) | (with_reducible first | refine EqP_nil tab_ok ?_ | refine EqP_sli tab_ok ?_ | refine DrawP_auto tab_ok (by kernel_rfl) (by decide +kernel) ?_ | refine DrawP_auto2 tab_ok (by kernel_rfl) (by decide +kernel) ?_ | refine eq27 ?_ | refine eq44 ?_ | refine eq54 ?_ | refine eq76 ?_ | refine eq134 ?_))))
      conv => whnf
      (repeat ((try (conv => whnf)); (first | (with_reducible first | refine condP_true ?_ | refine condP_false ?_ | refine condP_not ?_ | refine condP_and ?_) | ((with_reducible refine condP_dt ?_ ?_); (· omega)) | ((with_reducible refine condP_df ?_ ?_); (· omega)) | ((with_reducible refine condP_yes ?_ ?_); (· assumption)) | ((with_reducible refine condP_no ?_ ?_); (· assumption)) | ((with_reducible refine ArP_i64 ?_ ?_); (· omega)) | ((with_reducible refine mustP.mk ?_ ?_); (· first | omega | rfl | (dsimp only; omega))) | (with_reducible first | refine EqP_nil tab_ok ?_ | refine EqP_sli tab_ok ?_ | refine DrawP_auto tab_ok (by kernel_rfl) (by decide +kernel) ?_ | refine DrawP_auto2 tab_ok (by kernel_rfl) (by decide +kernel) ?_ | refine eq27 ?_ | refine eq44 ?_ | refine eq54 ?_ | refine eq76 ?_ | refine eq134 ?_))))
      conv => whnf
      refine ⟨.vw 5 0 (l.filter (keepO q.r)).length, _, G, Le_ownvw rfl (hLe rfl (frLe_val' (by rw [hf]) (by rfl) frLe_nil)), h _ ?_ ?_⟩
      · rw [fm_length encO_len]
      · rw [hf, fm_take encO_len, List.take_length]
end Go.Proofs.Ytbkhpddodmbdoaa
