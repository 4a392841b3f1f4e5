/-
  fill.Winding.
-/
import Derived.Test.YthbppimjaealnaaEdgesW
import Derived.Test.YthbppimjaealnaaCmpC
import Derived.Test.YthbppimjaealnaaSort
import Derived.Test.YthbppimjaealnaaEw
namespace Go.Proofs.Ythbppimjaealnaa
open Go.RowKit Go.Shelf Go.Lib Go.Sort
set_option linter.unusedVariables false
set_option linter.unusedSimpArgs false
set_option maxRecDepth 20000
theorem cr_one : ∀ (x : Cr), ∀ v ∈ encC x, v.oneCell' = true := fun x v hv => by
  simp [encC] at hv; rcases hv with rfl | rfl <;> rfl
/-- Behind a crossing that is too far no other one counts. -/
theorem sumC_stop {x : Int} {l : List Cr} (hs : l.Pairwise fun a b => ltOf cmpC b a = false) {k : Nat} {q : Cr} (hq : l[k]? = some q) (hx : x < q.x) : sumC x l = sumC x (l.take k) := by
  conv => lhs; rw [← List.take_append_drop k l]
  rw [sumC_append, sumC_none (l := l.drop k), Int.add_zero]
  intro c hc
  obtain ⟨j, hj⟩ := List.mem_iff_getElem?.1 hc
  rw [List.getElem?_drop] at hj
  rcases Nat.eq_zero_or_pos j with h | h
  · subst h
    rw [Nat.add_zero, hq] at hj; cases hj; exact hx
  · have hkl := (List.getElem?_eq_some_iff.1 hq)
    have hjl := (List.getElem?_eq_some_iff.1 hj)
    obtain ⟨h1, h2⟩ := hkl
    obtain ⟨h3, h4⟩ := hjl
    have := List.pairwise_iff_getElem.1 hs k (k + j) h1 h3 (by omega)
    rw [lt_cmpC, h2, h4] at this
    omega
section
variable {G : Mem} {A : Option Addr} {n c : Nat} {L : Nat → LineD} {x y : Int}
def windE (L : Nat → LineD) (n : Nat) (x y : Int) : Int := if linesB L n = true then (if (-8192 ≤ x ∧ x ≤ 8191) ∧ (-8192 ≤ y ∧ y ≤ 8191) then 0 else 3) else 3
set_option maxHeartbeats 4000000 in
theorem Winding_err (h : LinesM G A n L) (hn : n ≤ maxLen) (he : ¬ windE L n x y = 0) : Gives Try.prog 10 [.val (.slice A n c), .val (.int .i64 x), .val (.int .i64 y)] G (.tup [.val (.int .i64 0), .val (.int .i64 (windE L n x y))]) := by
  have hc := LCheck_gives (c := c) h hn
  unfold linesE at hc
  unfold windE at he ⊢
  cases hb : linesB L n
  · rw [hb, if_neg (by simp)] at hc
    rw [if_neg (by simp)]
    clear he
    refine Gives_of tab_ok Try.func10 ?_
    (repeat ((try (conv => whnf)); (first | (with_reducible refine condP_true ?_) | (with_reducible refine condP_false ?_) | (with_reducible refine condP_not ?_) | (with_reducible refine condP_and ?_) | ((with_reducible refine condP_dt ?_ ?_); (· omega)) | ((with_reducible refine condP_df ?_ ?_); (· omega)) | ((with_reducible refine condP_yes ?_ ?_); (· assumption)) | ((with_reducible refine condP_no ?_ ?_); (· assumption)) | ((with_reducible refine ArP_i64 ?_ ?_); (· omega)) | ((with_reducible refine mustP.mk ?_ ?_); (· first | omega | rfl | (dsimp only; omega))) | (with_reducible refine EqP_nil tab_ok ?_) | (with_reducible refine EqP_sli tab_ok ?_) | (with_reducible refine DrawP_auto tab_ok (by kernel_rfl) (by decide +kernel) ?_) | (with_reducible refine DrawP_auto2 tab_ok (by kernel_rfl) (by decide +kernel) ?_) | (with_reducible refine eq55 ?_) | (with_reducible refine eq70 ?_) | (with_reducible refine eq73 ?_) | (with_reducible refine eq79 ?_) | (with_reducible refine eq112 ?_) | (with_reducible refine eq118 ?_) | (with_reducible refine eq124 ?_) | (with_reducible refine eq139 ?_) | (with_reducible refine eq142 ?_) | (with_reducible refine CallP_gives (fun vs w => by kernel_rfl) (by kernel_rfl) (hc) ?_) | (with_reducible refine RCallP_gives (fun vs w => by kernel_rfl) (by kernel_rfl) (hc) ?_))))
    exact ⟨rfl, rfl⟩
  · rw [hb, if_pos rfl] at hc he
    rw [if_pos rfl]
    have hr : ¬ ((-8192 ≤ x ∧ x ≤ 8191) ∧ (-8192 ≤ y ∧ y ≤ 8191)) := fun hr => he (if_pos hr)
    rw [if_neg hr]
    clear he
    refine Gives_of tab_ok Try.func10 ?_
    (repeat' ((try (conv => whnf)); (first | (with_reducible refine condP_true ?_) | (with_reducible refine condP_false ?_) | (with_reducible refine condP_not ?_) | (with_reducible refine condP_and ?_) | ((with_reducible refine condP_dt ?_ ?_); (· omega)) | ((with_reducible refine condP_df ?_ ?_); (· omega)) | ((with_reducible refine condP_yes ?_ ?_); (· assumption)) | ((with_reducible refine condP_no ?_ ?_); (· assumption)) | ((with_reducible refine ArP_i64 ?_ ?_); (· omega)) | ((with_reducible refine mustP.mk ?_ ?_); (· first | omega | rfl | (dsimp only; omega))) | (with_reducible refine EqP_nil tab_ok ?_) | (with_reducible refine EqP_sli tab_ok ?_) | (with_reducible refine DrawP_auto tab_ok (by kernel_rfl) (by decide +kernel) ?_) | (with_reducible refine DrawP_auto2 tab_ok (by kernel_rfl) (by decide +kernel) ?_) | (with_reducible refine eq55 ?_) | (with_reducible refine eq70 ?_) | (with_reducible refine eq73 ?_) | (with_reducible refine eq79 ?_) | (with_reducible refine eq112 ?_) | (with_reducible refine eq118 ?_) | (with_reducible refine eq124 ?_) | (with_reducible refine eq139 ?_) | (with_reducible refine eq142 ?_) | (with_reducible refine CallP_gives (fun vs w => by kernel_rfl) (by kernel_rfl) (hc) ?_) | (with_reducible refine RCallP_gives (fun vs w => by kernel_rfl) (by kernel_rfl) (hc) ?_) | (with_reducible refine condP_dec (fun h0 => ?_) (fun h0 => ?_)))))
    all_goals first | exact ⟨rfl, rfl⟩ | (exfalso; omega)
set_option maxHeartbeats 16000000 in
theorem Winding_gives (h : LinesM G A n L) (hn : n ≤ maxLen) (hb : linesB L n = true) (hcnt : cntN L n ≤ 1048576) (hx : -8192 ≤ x ∧ x ≤ 8191) (hy : -8192 ≤ y ∧ y ≤ 8191) : Gives Try.prog 10 [.val (.slice A n c), .val (.int .i64 x), .val (.int .i64 y)] G (.tup [.val (.int .i64 (windN L x y n)), .val (.int .i64 0)]) := by
  have hc := LCheck_gives (c := c) h hn
  unfold linesE at hc
  rw [hb, if_pos rfl] at hc
  have he := edges_makes (c := c) h hn hb hcnt
  have hE := edgesN_ok (linesB_of hb)
  have hsgn := crossL_sign (y := y) hE
  have hlen := edgesN_length (L := L) n
  have hcl := crossL_length y (edgesN L n)
  rw [windN_sum]
  clear h
  generalize edgesN L n = E at *
  refine Gives_of tab_ok Try.func10 ?_
  (repeat ((try (conv => whnf)); (first | (with_reducible refine condP_true ?_) | (with_reducible refine condP_false ?_) | (with_reducible refine condP_not ?_) | (with_reducible refine condP_and ?_) | ((with_reducible refine condP_dt ?_ ?_); (· omega)) | ((with_reducible refine condP_df ?_ ?_); (· omega)) | ((with_reducible refine condP_yes ?_ ?_); (· assumption)) | ((with_reducible refine condP_no ?_ ?_); (· assumption)) | ((with_reducible refine ArP_i64 ?_ ?_); (· omega)) | ((with_reducible refine mustP.mk ?_ ?_); (· first | omega | rfl | (dsimp only; omega))) | (with_reducible refine EqP_nil tab_ok ?_) | (with_reducible refine EqP_sli tab_ok ?_) | (with_reducible refine DrawP_auto tab_ok (by kernel_rfl) (by decide +kernel) ?_) | (with_reducible refine DrawP_auto2 tab_ok (by kernel_rfl) (by decide +kernel) ?_) | (with_reducible refine eq55 ?_) | (with_reducible refine eq70 ?_) | (with_reducible refine eq73 ?_) | (with_reducible refine eq79 ?_) | (with_reducible refine eq112 ?_) | (with_reducible refine eq118 ?_) | (with_reducible refine eq124 ?_) | (with_reducible refine eq139 ?_) | (with_reducible refine eq142 ?_) | (with_reducible refine CallP_gives (fun vs w => by kernel_rfl) (by kernel_rfl) (hc) ?_) | (with_reducible refine RCallP_gives (fun vs w => by kernel_rfl) (by kernel_rfl) (hc) ?_))))
  conv => whnf
  refine CallP_freeze (fun vs w => by kernel_rfl) (.alone fun _ => rfl) (by kernel_rfl) he fun A1 c1 G1 hG1 hc1 hm1 hx1 => ?_
  (repeat ((try (conv => whnf)); (first | (with_reducible refine condP_true ?_) | (with_reducible refine condP_false ?_) | (with_reducible refine condP_not ?_) | (with_reducible refine condP_and ?_) | ((with_reducible refine condP_dt ?_ ?_); (· omega)) | ((with_reducible refine condP_df ?_ ?_); (· omega)) | ((with_reducible refine condP_yes ?_ ?_); (· assumption)) | ((with_reducible refine condP_no ?_ ?_); (· assumption)) | ((with_reducible refine ArP_i64 ?_ ?_); (· omega)) | ((with_reducible refine mustP.mk ?_ ?_); (· first | omega | rfl | (dsimp only; omega))) | (with_reducible refine EqP_nil tab_ok ?_) | (with_reducible refine EqP_sli tab_ok ?_) | (with_reducible refine DrawP_auto tab_ok (by kernel_rfl) (by decide +kernel) ?_) | (with_reducible refine DrawP_auto2 tab_ok (by kernel_rfl) (by decide +kernel) ?_) | (with_reducible refine eq55 ?_) | (with_reducible refine eq70 ?_) | (with_reducible refine eq73 ?_) | (with_reducible refine eq79 ?_) | (with_reducible refine eq112 ?_) | (with_reducible refine eq118 ?_) | (with_reducible refine eq124 ?_) | (with_reducible refine eq139 ?_) | (with_reducible refine eq142 ?_) | (with_reducible refine CallP_enter tab_ok Try.func35 (fun vs w => by kernel_rfl) (by rfl) ?_))))
  conv => whnf
  refine LoopP_at tab_ok (fun k => k ≤ E.length) (fun (k : Nat) => [(10, .val (.int .i64 k)), (5, .own 0)]) (fun k => [.own 70 2 (crossL y (E.take k)).length ((crossL y (E.take k)).flatMap encC)]) (fun k => E.length - k) 0 (Nat.zero_le _) ?_ ?_
  · refine Le_own 70 2 ?_
    conv => whnf
    ((refine Le_head ?_); (conv => whnf); (refine Le_mk (by rfl) (by rfl) ?_ ?_); (· (repeat (first | (with_reducible exact frLe_nil) | (with_reducible refine frLe_any ?_) | (with_reducible refine frLe_val ?_) | ((with_reducible refine frLe_eq rfl ?_ ?_); (· rfl)) | ((with_reducible refine frLe_val' (int_eq ?_) ?_ ?_); (· omega); (· rfl)) | ((with_reducible refine frLe_val' (int_eq ?_) ?_ ?_); (· simp only [Int.natCast_add, Int.natCast_one, Int.natCast_ofNat] <;> omega); (· rfl)) | ((with_reducible refine frLe_val' (bool_eq ?_) ?_ ?_); (· first | assumption | (symm; assumption)); (· rfl))))))
    exact hpLe_own rfl rfl hpLe_nil
  · rintro k hk
    rcases Nat.lt_or_ge k E.length with h1 | h1
    · obtain ⟨r, hr⟩ : ∃ r, E[k]? = some r := ⟨E[k], List.getElem?_eq_getElem h1⟩
      obtain ⟨p, rfl, ca⟩ := fm_cells encE_len (by omega) hx1 hr
      have hro := hE r (List.mem_of_getElem? hr)
      have hnext := crossL_take (y := y) hr
      have hcl2 := crossL_length y (E.take k)
      rw [List.length_take] at hcl2
      have hfst := fun hm => first_gives (G := G1) (y := y) hro hm
      unfold meetsB at hnext
      generalize hu' : crossL y (E.take (k + 1)) = u' at *
      generalize crossL y (E.take k) = u at *
      clear he hE hsgn hc
      by_cases hm : r.y ≤ y ∧ y < r.e
      · have hf := hfst hm
        rw [if_pos (decide_eq_true hm)] at hnext
        (repeat ((try (conv => whnf)); (first | (refine ca _ ?_) | (with_reducible refine condP_true ?_) | (with_reducible refine condP_false ?_) | (with_reducible refine condP_not ?_) | (with_reducible refine condP_and ?_) | ((with_reducible refine condP_dt ?_ ?_); (· omega)) | ((with_reducible refine condP_df ?_ ?_); (· omega)) | ((with_reducible refine condP_yes ?_ ?_); (· assumption)) | ((with_reducible refine condP_no ?_ ?_); (· assumption)) | ((with_reducible refine ArP_i64 ?_ ?_); (· omega)) | ((with_reducible refine mustP.mk ?_ ?_); (· first | omega | rfl | (dsimp only; omega))) | (with_reducible refine EqP_nil tab_ok ?_) | (with_reducible refine EqP_sli tab_ok ?_) | (with_reducible refine DrawP_auto tab_ok (by kernel_rfl) (by decide +kernel) ?_) | (with_reducible refine DrawP_auto2 tab_ok (by kernel_rfl) (by decide +kernel) ?_) | (with_reducible refine eq55 ?_) | (with_reducible refine eq70 ?_) | (with_reducible refine eq73 ?_) | (with_reducible refine eq79 ?_) | (with_reducible refine eq112 ?_) | (with_reducible refine eq118 ?_) | (with_reducible refine eq124 ?_) | (with_reducible refine eq139 ?_) | (with_reducible refine eq142 ?_) | (with_reducible refine CallP_gives (fun vs w => by kernel_rfl) (by kernel_rfl) (hf) ?_) | (with_reducible refine RCallP_gives (fun vs w => by kernel_rfl) (by kernel_rfl) (hf) ?_))))
        refine ⟨k + 1, by omega, by omega, ?_⟩
        rw [hu']
        refine Le_move 3 0 rfl rfl rfl rfl ?_
        conv => whnf
        ((refine Le_head ?_); (conv => whnf); (refine Le_mk (by rfl) (by rfl) ?_ ?_); (· (repeat (first | (with_reducible exact frLe_nil) | (with_reducible refine frLe_any ?_) | (with_reducible refine frLe_val ?_) | ((with_reducible refine frLe_eq rfl ?_ ?_); (· rfl)) | ((with_reducible refine frLe_val' (int_eq ?_) ?_ ?_); (· omega); (· rfl)) | ((with_reducible refine frLe_val' (int_eq ?_) ?_ ?_); (· simp only [Int.natCast_add, Int.natCast_one, Int.natCast_ofNat] <;> omega); (· rfl)) | ((with_reducible refine frLe_val' (bool_eq ?_) ?_ ?_); (· first | assumption | (symm; assumption)); (· rfl))))))
        exact hpLe_own (by rw [hnext]; simp) (by rw [hnext, List.flatMap_append]; rfl) hpLe_nil
      · rw [if_neg (by rw [decide_eq_false hm]; simp), List.append_nil] at hnext
        clear hfst
        (repeat' ((try (conv => whnf)); (first | (refine ca _ ?_) | (with_reducible refine condP_true ?_) | (with_reducible refine condP_false ?_) | (with_reducible refine condP_not ?_) | (with_reducible refine condP_and ?_) | ((with_reducible refine condP_dt ?_ ?_); (· omega)) | ((with_reducible refine condP_df ?_ ?_); (· omega)) | ((with_reducible refine condP_yes ?_ ?_); (· assumption)) | ((with_reducible refine condP_no ?_ ?_); (· assumption)) | ((with_reducible refine ArP_i64 ?_ ?_); (· omega)) | ((with_reducible refine mustP.mk ?_ ?_); (· first | omega | rfl | (dsimp only; omega))) | (with_reducible refine EqP_nil tab_ok ?_) | (with_reducible refine EqP_sli tab_ok ?_) | (with_reducible refine DrawP_auto tab_ok (by kernel_rfl) (by decide +kernel) ?_) | (with_reducible refine DrawP_auto2 tab_ok (by kernel_rfl) (by decide +kernel) ?_) | (with_reducible refine eq55 ?_) | (with_reducible refine eq70 ?_) | (with_reducible refine eq73 ?_) | (with_reducible refine eq79 ?_) | (with_reducible refine eq112 ?_) | (with_reducible refine eq118 ?_) | (with_reducible refine eq124 ?_) | (with_reducible refine eq139 ?_) | (with_reducible refine eq142 ?_) | (with_reducible refine condP_dec (fun h0 => ?_) (fun h0 => ?_)))))
        all_goals first
          | (exfalso; omega)
          | (refine ⟨k + 1, by omega, by omega, ?_⟩
             rw [hu', hnext]
             ((refine Le_head ?_); (conv => whnf); (refine Le_mk (by rfl) (by rfl) ?_ ?_); (· (repeat (first | (with_reducible exact frLe_nil) | (with_reducible refine frLe_any ?_) | (with_reducible refine frLe_val ?_) | ((with_reducible refine frLe_eq rfl ?_ ?_); (· rfl)) | ((with_reducible refine frLe_val' (int_eq ?_) ?_ ?_); (· omega); (· rfl)) | ((with_reducible refine frLe_val' (int_eq ?_) ?_ ?_); (· simp only [Int.natCast_add, Int.natCast_one, Int.natCast_ofNat] <;> omega); (· rfl)) | ((with_reducible refine frLe_val' (bool_eq ?_) ?_ ?_); (· first | assumption | (symm; assumption)); (· rfl))))))
             exact hpLe_own rfl rfl hpLe_nil)
    · obtain rfl : k = E.length := by omega
      rw [List.take_of_length_le (Nat.le_refl _)]
      generalize crossL y E = C at *
      clear he hc hE
      (repeat ((try (conv => whnf)); (first | (with_reducible refine condP_true ?_) | (with_reducible refine condP_false ?_) | (with_reducible refine condP_not ?_) | (with_reducible refine condP_and ?_) | ((with_reducible refine condP_dt ?_ ?_); (· omega)) | ((with_reducible refine condP_df ?_ ?_); (· omega)) | ((with_reducible refine condP_yes ?_ ?_); (· assumption)) | ((with_reducible refine condP_no ?_ ?_); (· assumption)) | ((with_reducible refine ArP_i64 ?_ ?_); (· omega)) | ((with_reducible refine mustP.mk ?_ ?_); (· first | omega | rfl | (dsimp only; omega))) | (with_reducible refine EqP_nil tab_ok ?_) | (with_reducible refine EqP_sli tab_ok ?_) | (with_reducible refine DrawP_auto tab_ok (by kernel_rfl) (by decide +kernel) ?_) | (with_reducible refine DrawP_auto2 tab_ok (by kernel_rfl) (by decide +kernel) ?_) | (with_reducible refine eq55 ?_) | (with_reducible refine eq70 ?_) | (with_reducible refine eq73 ?_) | (with_reducible refine eq79 ?_) | (with_reducible refine eq112 ?_) | (with_reducible refine eq118 ?_) | (with_reducible refine eq124 ?_) | (with_reducible refine eq139 ?_) | (with_reducible refine eq142 ?_))))
      conv => whnf
      refine CallP_sorts Try.sortCr rfl (fun vs w => by kernel_rfl) Try.isAgg70 Try.sizeOf70 (fun _ => rfl) cr_one swo_cmpC (fun vs w => by kernel_rfl) cmp_cross (by exact rfl) (by omega) fun l' hp hs => ?_
      have hpl := hp.length_eq
      have hsum := sumC_perm (x := x) hp
      have hs2 : ∀ q ∈ l', q.s = 1 ∨ q.s = -1 := fun q hq => hsgn q (hp.mem_iff.1 hq)
      rw [← hsum]
      (repeat ((try (conv => whnf)); (first | (with_reducible refine condP_true ?_) | (with_reducible refine condP_false ?_) | (with_reducible refine condP_not ?_) | (with_reducible refine condP_and ?_) | ((with_reducible refine condP_dt ?_ ?_); (· omega)) | ((with_reducible refine condP_df ?_ ?_); (· omega)) | ((with_reducible refine condP_yes ?_ ?_); (· assumption)) | ((with_reducible refine condP_no ?_ ?_); (· assumption)) | ((with_reducible refine ArP_i64 ?_ ?_); (· omega)) | ((with_reducible refine mustP.mk ?_ ?_); (· first | omega | rfl | (dsimp only; omega))) | (with_reducible refine EqP_nil tab_ok ?_) | (with_reducible refine EqP_sli tab_ok ?_) | (with_reducible refine DrawP_auto tab_ok (by kernel_rfl) (by decide +kernel) ?_) | (with_reducible refine DrawP_auto2 tab_ok (by kernel_rfl) (by decide +kernel) ?_) | (with_reducible refine eq55 ?_) | (with_reducible refine eq70 ?_) | (with_reducible refine eq73 ?_) | (with_reducible refine eq79 ?_) | (with_reducible refine eq112 ?_) | (with_reducible refine eq118 ?_) | (with_reducible refine eq124 ?_) | (with_reducible refine eq139 ?_) | (with_reducible refine eq142 ?_))))
      conv => whnf
      refine LoopP_at tab_ok (fun k => k ≤ l'.length) (fun (k : Nat) => [(36, .val (.int .i64 k)), (9, .val (.int .i64 (sumC x (l'.take k))))]) (fun k => [.own 70 2 l'.length (l'.flatMap encC)]) (fun k => l'.length - k) 0 (Nat.zero_le _) ?_ ?_
      · ((refine Le_head ?_); (conv => whnf); (refine Le_mk (by rfl) (by rfl) ?_ ?_); (· (repeat (first | (with_reducible exact frLe_nil) | (with_reducible refine frLe_any ?_) | (with_reducible refine frLe_val ?_) | ((with_reducible refine frLe_eq rfl ?_ ?_); (· rfl)) | ((with_reducible refine frLe_val' (int_eq ?_) ?_ ?_); (· omega); (· rfl)) | ((with_reducible refine frLe_val' (int_eq ?_) ?_ ?_); (· simp only [Int.natCast_add, Int.natCast_one, Int.natCast_ofNat] <;> omega); (· rfl)) | ((with_reducible refine frLe_val' (bool_eq ?_) ?_ ?_); (· first | assumption | (symm; assumption)); (· rfl))))))
        exact hpLe_own rfl rfl hpLe_nil
      · rintro k hk
        rcases Nat.lt_or_ge k l'.length with h2 | h2
        · obtain ⟨q, hq⟩ : ∃ q, l'[k]? = some q := ⟨l'[k], List.getElem?_eq_getElem h2⟩
          have ca := fm_own encC_len hq
          have hsb := sumC_bd (x := x) (l := l'.take k) (fun q hq => hs2 q (List.mem_of_mem_take hq))
          rw [List.length_take] at hsb
          have hqs := hs2 q (List.mem_of_getElem? hq)
          by_cases hqx : x < q.x
          · rw [sumC_stop hs hq hqx]
            generalize sumC x (l'.take k) = s at *
            clear hs hp hsgn hs2 hsum
            (repeat ((try (conv => whnf)); (first | (refine ca _ ?_) | (with_reducible refine condP_true ?_) | (with_reducible refine condP_false ?_) | (with_reducible refine condP_not ?_) | (with_reducible refine condP_and ?_) | ((with_reducible refine condP_dt ?_ ?_); (· omega)) | ((with_reducible refine condP_df ?_ ?_); (· omega)) | ((with_reducible refine condP_yes ?_ ?_); (· assumption)) | ((with_reducible refine condP_no ?_ ?_); (· assumption)) | ((with_reducible refine ArP_i64 ?_ ?_); (· omega)) | ((with_reducible refine mustP.mk ?_ ?_); (· first | omega | rfl | (dsimp only; omega))) | (with_reducible refine EqP_nil tab_ok ?_) | (with_reducible refine EqP_sli tab_ok ?_) | (with_reducible refine DrawP_auto tab_ok (by kernel_rfl) (by decide +kernel) ?_) | (with_reducible refine DrawP_auto2 tab_ok (by kernel_rfl) (by decide +kernel) ?_) | (with_reducible refine eq55 ?_) | (with_reducible refine eq70 ?_) | (with_reducible refine eq73 ?_) | (with_reducible refine eq79 ?_) | (with_reducible refine eq112 ?_) | (with_reducible refine eq118 ?_) | (with_reducible refine eq124 ?_) | (with_reducible refine eq139 ?_) | (with_reducible refine eq142 ?_))))
            exact ⟨rfl, rfl⟩
          · have hnx : sumC x (l'.take (k + 1)) = sumC x (l'.take k) + q.s := by
              rw [List.take_add_one, hq, sumC_append]
              simp only [Option.toList, sumC]
              rw [if_pos (by omega)]; omega
            generalize hs' : sumC x (l'.take (k + 1)) = s' at *
            generalize sumC x (l'.take k) = s at *
            subst hnx
            clear hs hp hsgn hs2 hsum
            (repeat ((try (conv => whnf)); (first | (refine ca _ ?_) | (with_reducible refine condP_true ?_) | (with_reducible refine condP_false ?_) | (with_reducible refine condP_not ?_) | (with_reducible refine condP_and ?_) | ((with_reducible refine condP_dt ?_ ?_); (· omega)) | ((with_reducible refine condP_df ?_ ?_); (· omega)) | ((with_reducible refine condP_yes ?_ ?_); (· assumption)) | ((with_reducible refine condP_no ?_ ?_); (· assumption)) | ((with_reducible refine ArP_i64 ?_ ?_); (· omega)) | ((with_reducible refine mustP.mk ?_ ?_); (· first | omega | rfl | (dsimp only; omega))) | (with_reducible refine EqP_nil tab_ok ?_) | (with_reducible refine EqP_sli tab_ok ?_) | (with_reducible refine DrawP_auto tab_ok (by kernel_rfl) (by decide +kernel) ?_) | (with_reducible refine DrawP_auto2 tab_ok (by kernel_rfl) (by decide +kernel) ?_) | (with_reducible refine eq55 ?_) | (with_reducible refine eq70 ?_) | (with_reducible refine eq73 ?_) | (with_reducible refine eq79 ?_) | (with_reducible refine eq112 ?_) | (with_reducible refine eq118 ?_) | (with_reducible refine eq124 ?_) | (with_reducible refine eq139 ?_) | (with_reducible refine eq142 ?_))))
            refine ⟨k + 1, by omega, by omega, ?_⟩
            rw [hs']
            ((refine Le_head ?_); (conv => whnf); (refine Le_mk (by rfl) (by rfl) ?_ ?_); (· (repeat (first | (with_reducible exact frLe_nil) | (with_reducible refine frLe_any ?_) | (with_reducible refine frLe_val ?_) | ((with_reducible refine frLe_eq rfl ?_ ?_); (· rfl)) | ((with_reducible refine frLe_val' (int_eq ?_) ?_ ?_); (· omega); (· rfl)) | ((with_reducible refine frLe_val' (int_eq ?_) ?_ ?_); (· simp only [Int.natCast_add, Int.natCast_one, Int.natCast_ofNat] <;> omega); (· rfl)) | ((with_reducible refine frLe_val' (bool_eq ?_) ?_ ?_); (· first | assumption | (symm; assumption)); (· rfl))))))
            exact hpLe_own rfl rfl hpLe_nil
        · obtain rfl : k = l'.length := by omega
          rw [List.take_of_length_le (Nat.le_refl _)]
          (repeat ((try (conv => whnf)); (first | (with_reducible refine condP_true ?_) | (with_reducible refine condP_false ?_) | (with_reducible refine condP_not ?_) | (with_reducible refine condP_and ?_) | ((with_reducible refine condP_dt ?_ ?_); (· omega)) | ((with_reducible refine condP_df ?_ ?_); (· omega)) | ((with_reducible refine condP_yes ?_ ?_); (· assumption)) | ((with_reducible refine condP_no ?_ ?_); (· assumption)) | ((with_reducible refine ArP_i64 ?_ ?_); (· omega)) | ((with_reducible refine mustP.mk ?_ ?_); (· first | omega | rfl | (dsimp only; omega))) | (with_reducible refine EqP_nil tab_ok ?_) | (with_reducible refine EqP_sli tab_ok ?_) | (with_reducible refine DrawP_auto tab_ok (by kernel_rfl) (by decide +kernel) ?_) | (with_reducible refine DrawP_auto2 tab_ok (by kernel_rfl) (by decide +kernel) ?_) | (with_reducible refine eq55 ?_) | (with_reducible refine eq70 ?_) | (with_reducible refine eq73 ?_) | (with_reducible refine eq79 ?_) | (with_reducible refine eq112 ?_) | (with_reducible refine eq118 ?_) | (with_reducible refine eq124 ?_) | (with_reducible refine eq139 ?_) | (with_reducible refine eq142 ?_))))
          exact ⟨rfl, rfl⟩
end
end Go.Proofs.Ythbppimjaealnaa
