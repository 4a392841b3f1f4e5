/-
  region.Join.
-/
import Derived.Test.YtiakdbcikmkomaaJoinCmp
import Derived.Test.YtiakdbcikmkomaaSort
import Derived.Test.YtiakdbcikmkomaaMrg10
import Derived.Shelf.SlicesE.Clone
namespace Go.Proofs.Ytiakdbcikmkomaa
open Go.RowKit Go.Shelf Go.Lib Go.Sort
set_option linter.unusedVariables false
set_option maxRecDepth 20000
noncomputable def runI : TypeInfo := (Try.prog.info? 34).get (by kernel_rfl)
theorem Clone_makes {A : Option Addr} {L : List Run} {c : Nat} {G : Mem} (h : RowM G A (flatR L)) (hl : L.length ≤ 1000000000000) :
    Makes Try.prog 39 [.val (.slice A L.length c)] G id 34 3 L.length (flatR L) := by
  intro w vs hG ha
  simp only [AV.rels, AV.rel] at ha
  obtain ⟨v, ts, hvs, rfl, rfl⟩ := ha
  have e : vs = #[.slice A L.length c] := Array.toList_inj.1 (by rw [hvs])
  subst e
  rcases h with ⟨rfl, h2⟩ | ⟨b, off, rfl, h2⟩
  · have hn : L.length = 0 := by have := flatR_length L; rw [h2] at this; simp at this; omega
    refine (AnyE.slices_Clone_nil Try.cloneRun L.length c w).mono ?_
    rintro e w' ⟨rfl, rfl⟩
    refine ⟨_, .slice none 0 0, rfl, by simp only [id, AV.rel], ?_, Below.refl _ _⟩
    rw [h2, hn]
    exact World.ownsRow_nil _ _ _ _
  · refine (AnyE.slices_Clone Try.cloneRun runI (.agg #[.int .i64 0, .int .i64 0, .int .i64 0]) 3 24 (by kernel_rfl) (by kernel_rfl) (by kernel_rfl) (by kernel_rfl) rfl (by decide) Try.sizeOf34 b off L.length c (flatR L) w (flatR_length L) (by unfold maxLen; omega) (by omega) (fun j u hj => ?_) flatR_cell).mono ?_
    · exact hG.cell (h2 j u hj)
    · rintro e w' ⟨v', rfl, h3, _, h4⟩
      exact ⟨_, v', rfl, by simp only [id, AV.rel], h3, h4⟩
theorem brun_ex : ∀ (L : List Run), (∀ r ∈ L, (-1152921504606846976 ≤ r.y ∧ r.y ≤ 1152921504606846976) ∧ (-1152921504606846976 ≤ r.x0 ∧ r.x0 ≤ 1152921504606846976)) → ∃ l : List BRun, l.map BRun.r = L
  | [], _ => ⟨[], rfl⟩
  | r :: L, h => by
    obtain ⟨l, hl⟩ := brun_ex L fun s hs => h s (by simp [hs])
    have := h r (by simp)
    exact ⟨⟨r, this.1, this.2⟩ :: l, by simp [hl]⟩
theorem flat_b (l : List BRun) : l.flatMap encB = flatR (l.map BRun.r) := by
  unfold flatR encB; rw [List.flatMap_map]
theorem lt_cmp {a b : BRun} : ltOf cmpB b a = false ↔ leR a.r b.r := by
  unfold ltOf cmpB leR orI
  rw [decide_eq_false_iff_not]
  split <;> omega
theorem swo_cmp : SWO (ltOf cmpB) where
  irrefl x := by rw [lt_cmp]; unfold leR; omega
  trans x y z h1 h2 := by
    rw [← Bool.not_eq_false] at *
    rw [lt_cmp] at *
    unfold leR at *; omega
  ntrans x y z h1 h2 := by rw [lt_cmp] at *; unfold leR at *; omega
set_option maxHeartbeats 4000000 in
theorem Join_makes {A : Option Addr} {L : List Run} {c : Nat} {G : Mem} (h : RowM G A (flatR L)) (hb : ∀ r ∈ L, (-1152921504606846976 ≤ r.y ∧ r.y ≤ 1152921504606846976) ∧ (-1152921504606846976 ≤ r.x0 ∧ r.x0 ≤ 1152921504606846976)) (hl : L.length ≤ 1000000000000) :
    Makes Try.prog 33 [.val (.slice A L.length c)] G id 34 3 (joinL L).length (flatR (joinL L)) := by
  have hc := Clone_makes (c := c) h hl
  obtain ⟨l, rfl⟩ := brun_ex L hb
  rw [← flat_b, List.length_map] at hc
  rw [List.length_map] at hl
  refine Makes_of tab_ok Try.func33 (.alone fun _ => rfl) ?_
  rw [List.length_map]
  (repeat ((try (conv => whnf)); (first | (with_reducible first | refine condP_true ?_ | refine condP_false ?_ | refine condP_not ?_ | refine condP_and ?_) | ((with_reducible refine condP_dt ?_ ?_); (· omega)) | ((with_reducible refine condP_df ?_ ?_); (· omega)) | ((with_reducible refine condP_yes ?_ ?_); (· assumption)) | ((with_reducible refine condP_no ?_ ?_); (· assumption)) | ((with_reducible refine ArP_i64 ?_ ?_); (· omega)) | ((with_reducible refine mustP.mk ?_ ?_); (· first | omega | rfl | (dsimp only; omega))) | (with_reducible first | refine EqP_nil tab_ok ?_ | refine EqP_sli tab_ok ?_ | refine DrawP_auto tab_ok (by kernel_rfl) (by decide +kernel) ?_ | refine DrawP_auto2 tab_ok (by kernel_rfl) (by decide +kernel) ?_ | refine eq34 ?_ | refine eq68 ?_))))
  conv => whnf
  refine CallP_makes (fun vs w => by kernel_rfl) (.alone fun _ => rfl) (by kernel_rfl) hc ?_
  (repeat ((try (conv => whnf)); (first | (with_reducible first | refine condP_true ?_ | refine condP_false ?_ | refine condP_not ?_ | refine condP_and ?_) | ((with_reducible refine condP_dt ?_ ?_); (· omega)) | ((with_reducible refine condP_df ?_ ?_); (· omega)) | ((with_reducible refine condP_yes ?_ ?_); (· assumption)) | ((with_reducible refine condP_no ?_ ?_); (· assumption)) | ((with_reducible refine ArP_i64 ?_ ?_); (· omega)) | ((with_reducible refine mustP.mk ?_ ?_); (· first | omega | rfl | (dsimp only; omega))) | (with_reducible first | refine EqP_nil tab_ok ?_ | refine EqP_sli tab_ok ?_ | refine DrawP_auto tab_ok (by kernel_rfl) (by decide +kernel) ?_ | refine DrawP_auto2 tab_ok (by kernel_rfl) (by decide +kernel) ?_ | refine eq34 ?_ | refine eq68 ?_))))
  conv => whnf
  refine CallP_sorts Try.sortRun rfl (fun vs w => by kernel_rfl) Try.isAgg34 Try.sizeOf34 (fun _ => rfl) (fun x v hv => by simp [encB] at hv; rcases hv with rfl | rfl | rfl <;> rfl) swo_cmp (fun vs w => by kernel_rfl) cmp_runs (by exact rfl) (by omega) fun l' hp hs => ?_
  (repeat ((try (conv => whnf)); (first | (with_reducible first | refine condP_true ?_ | refine condP_false ?_ | refine condP_not ?_ | refine condP_and ?_) | ((with_reducible refine condP_dt ?_ ?_); (· omega)) | ((with_reducible refine condP_df ?_ ?_); (· omega)) | ((with_reducible refine condP_yes ?_ ?_); (· assumption)) | ((with_reducible refine condP_no ?_ ?_); (· assumption)) | ((with_reducible refine ArP_i64 ?_ ?_); (· omega)) | ((with_reducible refine mustP.mk ?_ ?_); (· first | omega | rfl | (dsimp only; omega))) | (with_reducible first | refine EqP_nil tab_ok ?_ | refine EqP_sli tab_ok ?_ | refine DrawP_auto tab_ok (by kernel_rfl) (by decide +kernel) ?_ | refine DrawP_auto2 tab_ok (by kernel_rfl) (by decide +kernel) ?_ | refine eq34 ?_ | refine eq68 ?_))))
  conv => whnf
  have hpl := hp.length_eq
  refine LoopP_at2 tab_ok (fun i out => i ≤ l'.length ∧ out = jn [] ((l'.map BRun.r).take i)) (fun (i : Nat) out => [(12, .val (.int .i64 i))]) (fun i out => [.own 34 3 l'.length (l'.flatMap encB), .cells 45 [.own 2], .own 34 3 out.length (flatR out)]) (fun i _ => l'.length - i) 0 [] ⟨Nat.zero_le _, rfl⟩ ?_ ?_
  · refine Le_own 34 3 ?_
    conv => whnf
    ((refine Le_head ?_); (conv => whnf); (refine Le_mk (by rfl) (by rfl) ?_ ?_); (· (repeat (first | (with_reducible exact frLe_nil) | (with_reducible first | refine frLe_any ?_ | refine frLe_val ?_) | ((with_reducible refine frLe_eq rfl ?_ ?_); (· rfl)) | ((with_reducible refine frLe_val' (int_eq ?_) ?_ ?_); (· omega); (· rfl)) | ((with_reducible refine frLe_val' (int_eq ?_) ?_ ?_); (· simp only [Int.natCast_add, Int.natCast_one, Int.natCast_ofNat] <;> omega); (· rfl)) | ((with_reducible refine frLe_val' (bool_eq ?_) ?_ ?_); (· first | assumption | (symm; assumption)); (· rfl))))))
    exact hpLe_own rfl rfl (hpLe_cells (by (repeat (first | (with_reducible exact frLe_nil) | (with_reducible first | refine frLe_any ?_ | refine frLe_val ?_) | ((with_reducible refine frLe_eq rfl ?_ ?_); (· rfl)) | ((with_reducible refine frLe_val' (int_eq ?_) ?_ ?_); (· omega); (· rfl)) | ((with_reducible refine frLe_val' (int_eq ?_) ?_ ?_); (· simp only [Int.natCast_add, Int.natCast_one, Int.natCast_ofNat] <;> omega); (· rfl)) | ((with_reducible refine frLe_val' (bool_eq ?_) ?_ ?_); (· first | assumption | (symm; assumption)); (· rfl))))) (hpLe_own rfl rfl hpLe_nil))
  · rintro i out ⟨hi, ho⟩
    rcases Nat.lt_or_ge i l'.length with h1 | h1
    · obtain ⟨q, hq⟩ : ∃ q, l'[i]? = some q := ⟨l'[i], List.getElem?_eq_getElem h1⟩
      have hqr : (l'.map BRun.r)[i]? = some q.r := by rw [List.getElem?_map, hq]; rfl
      have hst := jn_take hqr
      rw [← ho] at hst
      have hol : out.length ≤ 1000000000000 := by
        have := jn_len ((l'.map BRun.r).take i) []
        rw [← ho, List.length_take, List.length_map] at this
        simp at this; omega
      obtain ⟨c0, c1, c2⟩ := flatR_get hqr
      rw [← flat_b] at c0 c1 c2
      have e3 : ∀ K : List Value → Prop, K [.int .i64 q.r.y, .int .i64 q.r.x0, .int .i64 q.r.x1] → OwnCells (l'.flatMap encB) ((i : Int).toNat * 3) 3 K := fun K k => OwnCells_list _ rfl (fun j u hj => by
        rw [Int.toNat_natCast]
        match j, hj with
        | 0, hj => simp at hj; subst hj; exact c0
        | 1, hj => simp at hj; subst hj; exact c1
        | 2, hj => simp at hj; subst hj; exact c2) k
      have hqy := q.hy
      have hqx := q.hx
      generalize hqq : q.r = s at *
      by_cases hx : s.x1 ≤ s.x0
      · rw [addR_no hx] at hst
        (repeat ((try (conv => whnf)); (first | (with_reducible first | refine e3 _ ?_ | refine condP_true ?_ | refine condP_false ?_ | refine condP_not ?_ | refine condP_and ?_) | ((with_reducible refine condP_dt ?_ ?_); (· omega)) | ((with_reducible refine condP_df ?_ ?_); (· omega)) | ((with_reducible refine condP_yes ?_ ?_); (· assumption)) | ((with_reducible refine condP_no ?_ ?_); (· assumption)) | ((with_reducible refine ArP_i64 ?_ ?_); (· omega)) | ((with_reducible refine mustP.mk ?_ ?_); (· first | omega | rfl | (dsimp only; omega))) | (with_reducible first | refine EqP_nil tab_ok ?_ | refine EqP_sli tab_ok ?_ | refine DrawP_auto tab_ok (by kernel_rfl) (by decide +kernel) ?_ | refine DrawP_auto2 tab_ok (by kernel_rfl) (by decide +kernel) ?_ | refine eq34 ?_ | refine eq68 ?_ | refine CallP_enter tab_ok Try.func32 (fun vs w => by kernel_rfl) (by rfl) ?_))))
        conv => whnf
        refine ⟨i + 1, out, ⟨by omega, hst.symm⟩, by omega, ?_⟩
        ((refine Le_head ?_); (conv => whnf); (refine Le_mk (by rfl) (by rfl) ?_ ?_); (· (repeat (first | (with_reducible exact frLe_nil) | (with_reducible first | refine frLe_any ?_ | refine frLe_val ?_) | ((with_reducible refine frLe_eq rfl ?_ ?_); (· rfl)) | ((with_reducible refine frLe_val' (int_eq ?_) ?_ ?_); (· omega); (· rfl)) | ((with_reducible refine frLe_val' (int_eq ?_) ?_ ?_); (· simp only [Int.natCast_add, Int.natCast_one, Int.natCast_ofNat] <;> omega); (· rfl)) | ((with_reducible refine frLe_val' (bool_eq ?_) ?_ ?_); (· first | assumption | (symm; assumption)); (· rfl))))))
        exact hpLe_own rfl rfl (hpLe_cells (by (repeat (first | (with_reducible exact frLe_nil) | (with_reducible first | refine frLe_any ?_ | refine frLe_val ?_) | ((with_reducible refine frLe_eq rfl ?_ ?_); (· rfl)) | ((with_reducible refine frLe_val' (int_eq ?_) ?_ ?_); (· omega); (· rfl)) | ((with_reducible refine frLe_val' (int_eq ?_) ?_ ?_); (· simp only [Int.natCast_add, Int.natCast_one, Int.natCast_ofNat] <;> omega); (· rfl)) | ((with_reducible refine frLe_val' (bool_eq ?_) ?_ ?_); (· first | assumption | (symm; assumption)); (· rfl))))) (hpLe_own rfl rfl hpLe_nil))
      · rcases last_or out with hout | ⟨K, r, hout⟩
        · have hlen : out.length = 0 := by rw [hout]; rfl
          rw [hout, addR_nil hx] at hst
          (repeat ((try (conv => whnf)); (first | (with_reducible first | refine e3 _ ?_ | refine condP_true ?_ | refine condP_false ?_ | refine condP_not ?_ | refine condP_and ?_) | ((with_reducible refine condP_dt ?_ ?_); (· omega)) | ((with_reducible refine condP_df ?_ ?_); (· omega)) | ((with_reducible refine condP_yes ?_ ?_); (· assumption)) | ((with_reducible refine condP_no ?_ ?_); (· assumption)) | ((with_reducible refine ArP_i64 ?_ ?_); (· omega)) | ((with_reducible refine mustP.mk ?_ ?_); (· first | omega | rfl | (dsimp only; omega))) | (with_reducible first | refine EqP_nil tab_ok ?_ | refine EqP_sli tab_ok ?_ | refine DrawP_auto tab_ok (by kernel_rfl) (by decide +kernel) ?_ | refine DrawP_auto2 tab_ok (by kernel_rfl) (by decide +kernel) ?_ | refine eq34 ?_ | refine eq68 ?_ | refine CallP_enter tab_ok Try.func32 (fun vs w => by kernel_rfl) (by rfl) ?_))))
          conv => whnf
          refine ⟨i + 1, [⟨s.y, s.x0, s.x1⟩], ⟨by omega, hst.symm⟩, by omega, ?_⟩
          refine Le_move 5 2 rfl rfl rfl rfl ?_
          conv => whnf
          ((refine Le_head ?_); (conv => whnf); (refine Le_mk (by rfl) (by rfl) ?_ ?_); (· (repeat (first | (with_reducible exact frLe_nil) | (with_reducible first | refine frLe_any ?_ | refine frLe_val ?_) | ((with_reducible refine frLe_eq rfl ?_ ?_); (· rfl)) | ((with_reducible refine frLe_val' (int_eq ?_) ?_ ?_); (· omega); (· rfl)) | ((with_reducible refine frLe_val' (int_eq ?_) ?_ ?_); (· simp only [Int.natCast_add, Int.natCast_one, Int.natCast_ofNat] <;> omega); (· rfl)) | ((with_reducible refine frLe_val' (bool_eq ?_) ?_ ?_); (· first | assumption | (symm; assumption)); (· rfl))))))
          exact hpLe_own rfl rfl (hpLe_cells (by (repeat (first | (with_reducible exact frLe_nil) | (with_reducible first | refine frLe_any ?_ | refine frLe_val ?_) | ((with_reducible refine frLe_eq rfl ?_ ?_); (· rfl)) | ((with_reducible refine frLe_val' (int_eq ?_) ?_ ?_); (· omega); (· rfl)) | ((with_reducible refine frLe_val' (int_eq ?_) ?_ ?_); (· simp only [Int.natCast_add, Int.natCast_one, Int.natCast_ofNat] <;> omega); (· rfl)) | ((with_reducible refine frLe_val' (bool_eq ?_) ?_ ?_); (· first | assumption | (symm; assumption)); (· rfl))))) (hpLe_own (by simp only [hlen]; rfl) (by rw [hout]; rfl) hpLe_nil))
        · have hlen : out.length = K.length + 1 := by rw [hout]; simp
          have hix : (((out.length : Nat) : Int) - 1).toNat = K.length := by omega
          obtain ⟨q0, q1, q2⟩ := flat_last K r
          rw [← hout, ← hix] at q0 q1 q2
          rw [← Nat.add_zero ((((out.length : Nat) : Int) - 1).toNat * 3)] at q0
          by_cases hj1 : r.y = s.y
          · by_cases hj2 : s.x0 ≤ r.x1
            · rw [hout, addR_join hx hj1 hj2] at hst
              (repeat ((try (conv => whnf)); (first | (with_reducible refine e3 _ ?_) | (refine OwnCells_one (.int .i64 r.y) q0 ?_) | (refine OwnCells_one (.int .i64 r.x1) q2 ?_) | (with_reducible first | refine condP_true ?_ | refine condP_false ?_ | refine condP_not ?_ | refine condP_and ?_) | ((with_reducible refine condP_dt ?_ ?_); (· omega)) | ((with_reducible refine condP_df ?_ ?_); (· omega)) | ((with_reducible refine condP_yes ?_ ?_); (· assumption)) | ((with_reducible refine condP_no ?_ ?_); (· assumption)) | ((with_reducible refine ArP_i64 ?_ ?_); (· omega)) | ((with_reducible refine mustP.mk ?_ ?_); (· first | omega | rfl | (dsimp only; omega))) | (with_reducible first | refine EqP_nil tab_ok ?_ | refine EqP_sli tab_ok ?_ | refine DrawP_auto tab_ok (by kernel_rfl) (by decide +kernel) ?_ | refine DrawP_auto2 tab_ok (by kernel_rfl) (by decide +kernel) ?_ | refine eq34 ?_ | refine eq68 ?_ | refine CallP_enter tab_ok Try.func32 (fun vs w => by kernel_rfl) (by rfl) ?_))))
              conv => whnf
              refine mustP.mk (by rw [hix, flatR_length, hlen]; simp; omega) ?_
              (repeat ((try (conv => whnf)); (first | (with_reducible refine e3 _ ?_) | (refine OwnCells_one (.int .i64 r.y) q0 ?_) | (refine OwnCells_one (.int .i64 r.x1) q2 ?_) | (with_reducible first | refine condP_true ?_ | refine condP_false ?_ | refine condP_not ?_ | refine condP_and ?_) | ((with_reducible refine condP_dt ?_ ?_); (· omega)) | ((with_reducible refine condP_df ?_ ?_); (· omega)) | ((with_reducible refine condP_yes ?_ ?_); (· assumption)) | ((with_reducible refine condP_no ?_ ?_); (· assumption)) | ((with_reducible refine ArP_i64 ?_ ?_); (· omega)) | ((with_reducible refine mustP.mk ?_ ?_); (· first | omega | rfl | (dsimp only; omega))) | (with_reducible first | refine EqP_nil tab_ok ?_ | refine EqP_sli tab_ok ?_ | refine DrawP_auto tab_ok (by kernel_rfl) (by decide +kernel) ?_ | refine DrawP_auto2 tab_ok (by kernel_rfl) (by decide +kernel) ?_ | refine eq34 ?_ | refine eq68 ?_ | refine CallP_enter tab_ok Try.func32 (fun vs w => by kernel_rfl) (by rfl) ?_))))
              conv => whnf
              refine ⟨i + 1, K ++ [⟨s.y, r.x0, max r.x1 s.x1⟩], ⟨by omega, hst.symm⟩, by omega, ?_⟩
              ((refine Le_head ?_); (conv => whnf); (refine Le_mk (by rfl) (by rfl) ?_ ?_); (· (repeat (first | (with_reducible exact frLe_nil) | (with_reducible first | refine frLe_any ?_ | refine frLe_val ?_) | ((with_reducible refine frLe_eq rfl ?_ ?_); (· rfl)) | ((with_reducible refine frLe_val' (int_eq ?_) ?_ ?_); (· omega); (· rfl)) | ((with_reducible refine frLe_val' (int_eq ?_) ?_ ?_); (· simp only [Int.natCast_add, Int.natCast_one, Int.natCast_ofNat] <;> omega); (· rfl)) | ((with_reducible refine frLe_val' (bool_eq ?_) ?_ ?_); (· first | assumption | (symm; assumption)); (· rfl))))))
              exact hpLe_own rfl rfl (hpLe_cells (by (repeat (first | (with_reducible exact frLe_nil) | (with_reducible first | refine frLe_any ?_ | refine frLe_val ?_) | ((with_reducible refine frLe_eq rfl ?_ ?_); (· rfl)) | ((with_reducible refine frLe_val' (int_eq ?_) ?_ ?_); (· omega); (· rfl)) | ((with_reducible refine frLe_val' (int_eq ?_) ?_ ?_); (· simp only [Int.natCast_add, Int.natCast_one, Int.natCast_ofNat] <;> omega); (· rfl)) | ((with_reducible refine frLe_val' (bool_eq ?_) ?_ ?_); (· first | assumption | (symm; assumption)); (· rfl))))) (hpLe_own (by rw [hlen]; simp) (by rw [hix, hout, ← hj1]; exact flat_set K r _) hpLe_nil))
            · rw [hout, addR_new hx (fun h => hj2 h.2)] at hst
              (repeat ((try (conv => whnf)); (first | (with_reducible refine e3 _ ?_) | (refine OwnCells_one (.int .i64 r.y) q0 ?_) | (refine OwnCells_one (.int .i64 r.x1) q2 ?_) | (with_reducible first | refine condP_true ?_ | refine condP_false ?_ | refine condP_not ?_ | refine condP_and ?_) | ((with_reducible refine condP_dt ?_ ?_); (· omega)) | ((with_reducible refine condP_df ?_ ?_); (· omega)) | ((with_reducible refine condP_yes ?_ ?_); (· assumption)) | ((with_reducible refine condP_no ?_ ?_); (· assumption)) | ((with_reducible refine ArP_i64 ?_ ?_); (· omega)) | ((with_reducible refine mustP.mk ?_ ?_); (· first | omega | rfl | (dsimp only; omega))) | (with_reducible first | refine EqP_nil tab_ok ?_ | refine EqP_sli tab_ok ?_ | refine DrawP_auto tab_ok (by kernel_rfl) (by decide +kernel) ?_ | refine DrawP_auto2 tab_ok (by kernel_rfl) (by decide +kernel) ?_ | refine eq34 ?_ | refine eq68 ?_ | refine CallP_enter tab_ok Try.func32 (fun vs w => by kernel_rfl) (by rfl) ?_))))
              conv => whnf
              refine ⟨i + 1, K ++ [r] ++ [⟨s.y, s.x0, s.x1⟩], ⟨by omega, hst.symm⟩, by omega, ?_⟩
              refine Le_move 5 2 rfl rfl rfl rfl ?_
              conv => whnf
              ((refine Le_head ?_); (conv => whnf); (refine Le_mk (by rfl) (by rfl) ?_ ?_); (· (repeat (first | (with_reducible exact frLe_nil) | (with_reducible first | refine frLe_any ?_ | refine frLe_val ?_) | ((with_reducible refine frLe_eq rfl ?_ ?_); (· rfl)) | ((with_reducible refine frLe_val' (int_eq ?_) ?_ ?_); (· omega); (· rfl)) | ((with_reducible refine frLe_val' (int_eq ?_) ?_ ?_); (· simp only [Int.natCast_add, Int.natCast_one, Int.natCast_ofNat] <;> omega); (· rfl)) | ((with_reducible refine frLe_val' (bool_eq ?_) ?_ ?_); (· first | assumption | (symm; assumption)); (· rfl))))))
              exact hpLe_own rfl rfl (hpLe_cells (by (repeat (first | (with_reducible exact frLe_nil) | (with_reducible first | refine frLe_any ?_ | refine frLe_val ?_) | ((with_reducible refine frLe_eq rfl ?_ ?_); (· rfl)) | ((with_reducible refine frLe_val' (int_eq ?_) ?_ ?_); (· omega); (· rfl)) | ((with_reducible refine frLe_val' (int_eq ?_) ?_ ?_); (· simp only [Int.natCast_add, Int.natCast_one, Int.natCast_ofNat] <;> omega); (· rfl)) | ((with_reducible refine frLe_val' (bool_eq ?_) ?_ ?_); (· first | assumption | (symm; assumption)); (· rfl))))) (hpLe_own (by rw [hlen]; simp) (by rw [hout, flatR_append (K ++ [r])]; rfl) hpLe_nil))
          · rw [hout, addR_new hx (fun h => hj1 h.1)] at hst
            (repeat ((try (conv => whnf)); (first | (with_reducible refine e3 _ ?_) | (refine OwnCells_one (.int .i64 r.y) q0 ?_) | (refine OwnCells_one (.int .i64 r.x1) q2 ?_) | (with_reducible first | refine condP_true ?_ | refine condP_false ?_ | refine condP_not ?_ | refine condP_and ?_) | ((with_reducible refine condP_dt ?_ ?_); (· omega)) | ((with_reducible refine condP_df ?_ ?_); (· omega)) | ((with_reducible refine condP_yes ?_ ?_); (· assumption)) | ((with_reducible refine condP_no ?_ ?_); (· assumption)) | ((with_reducible refine ArP_i64 ?_ ?_); (· omega)) | ((with_reducible refine mustP.mk ?_ ?_); (· first | omega | rfl | (dsimp only; omega))) | (with_reducible first | refine EqP_nil tab_ok ?_ | refine EqP_sli tab_ok ?_ | refine DrawP_auto tab_ok (by kernel_rfl) (by decide +kernel) ?_ | refine DrawP_auto2 tab_ok (by kernel_rfl) (by decide +kernel) ?_ | refine eq34 ?_ | refine eq68 ?_ | refine CallP_enter tab_ok Try.func32 (fun vs w => by kernel_rfl) (by rfl) ?_))))
            conv => whnf
            refine ⟨i + 1, K ++ [r] ++ [⟨s.y, s.x0, s.x1⟩], ⟨by omega, hst.symm⟩, by omega, ?_⟩
            refine Le_move 5 2 rfl rfl rfl rfl ?_
            conv => whnf
            ((refine Le_head ?_); (conv => whnf); (refine Le_mk (by rfl) (by rfl) ?_ ?_); (· (repeat (first | (with_reducible exact frLe_nil) | (with_reducible first | refine frLe_any ?_ | refine frLe_val ?_) | ((with_reducible refine frLe_eq rfl ?_ ?_); (· rfl)) | ((with_reducible refine frLe_val' (int_eq ?_) ?_ ?_); (· omega); (· rfl)) | ((with_reducible refine frLe_val' (int_eq ?_) ?_ ?_); (· simp only [Int.natCast_add, Int.natCast_one, Int.natCast_ofNat] <;> omega); (· rfl)) | ((with_reducible refine frLe_val' (bool_eq ?_) ?_ ?_); (· first | assumption | (symm; assumption)); (· rfl))))))
            exact hpLe_own rfl rfl (hpLe_cells (by (repeat (first | (with_reducible exact frLe_nil) | (with_reducible first | refine frLe_any ?_ | refine frLe_val ?_) | ((with_reducible refine frLe_eq rfl ?_ ?_); (· rfl)) | ((with_reducible refine frLe_val' (int_eq ?_) ?_ ?_); (· omega); (· rfl)) | ((with_reducible refine frLe_val' (int_eq ?_) ?_ ?_); (· simp only [Int.natCast_add, Int.natCast_one, Int.natCast_ofNat] <;> omega); (· rfl)) | ((with_reducible refine frLe_val' (bool_eq ?_) ?_ ?_); (· first | assumption | (symm; assumption)); (· rfl))))) (hpLe_own (by rw [hlen]; simp) (by rw [hout, flatR_append (K ++ [r])]; rfl) hpLe_nil))
    · obtain rfl : i = l'.length := by omega
      have he : jn [] ((l'.map BRun.r).take l'.length) = joinL (l.map BRun.r) := by
        rw [List.take_of_length_le (by simp)]
        refine jn_join (hp.map _) ?_
        rw [List.pairwise_map]
        exact hs.imp fun h => lt_cmp.1 h
      rw [he] at ho
      subst ho
      (repeat ((try (conv => whnf)); (first | (with_reducible first | refine condP_true ?_ | refine condP_false ?_ | refine condP_not ?_ | refine condP_and ?_) | ((with_reducible refine condP_dt ?_ ?_); (· omega)) | ((with_reducible refine condP_df ?_ ?_); (· omega)) | ((with_reducible refine condP_yes ?_ ?_); (· assumption)) | ((with_reducible refine condP_no ?_ ?_); (· assumption)) | ((with_reducible refine ArP_i64 ?_ ?_); (· omega)) | ((with_reducible refine mustP.mk ?_ ?_); (· first | omega | rfl | (dsimp only; omega))) | (with_reducible first | refine EqP_nil tab_ok ?_ | refine EqP_sli tab_ok ?_ | refine DrawP_auto tab_ok (by kernel_rfl) (by decide +kernel) ?_ | refine DrawP_auto2 tab_ok (by kernel_rfl) (by decide +kernel) ?_ | refine eq34 ?_ | refine eq68 ?_))))
      conv => whnf
      exact .inl ⟨2, rfl, rfl⟩
end Go.Proofs.Ytiakdbcikmkomaa
