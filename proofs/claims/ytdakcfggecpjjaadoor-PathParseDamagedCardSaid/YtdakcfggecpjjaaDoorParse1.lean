/-
  path.Parse: the walk.
-/
import Derived.Test.YtdakcfggecpjjaaDoorParseSplit
import Derived.Test.YtdakcfggecpjjaaDoorParseNum
import Derived.Test.YtdakcfggecpjjaaDoorLit
import Derived.Test.YtdakcfggecpjjaaDoorLend
import Derived.Test.YtdakcfggecpjjaaDoorRow
import Derived.Test.YtdakcfggecpjjaaDoorPathsH
import Derived.Test.YtdakcfggecpjjaaDoorSegMem
import Derived.Test.YtdakcfggecpjjaaDoorPathMapR
namespace Go.Proofs.YtdakcfggecpjjaaDoor
open Go.RowKit
set_option linter.unusedVariables false
set_option linter.unusedSimpArgs false
set_option maxRecDepth 20000
abbrev bsL (l : List ByteArray) : List (List UInt8) := l.map (·.data.toList)
def segsF (L : List SegD) (i : Nat) : SegD := L.getD i default
abbrev segC (L : List SegD) (i : Nat) : List Value := (segsF L i).cells
theorem flat_snoc (L : List SegD) (s : SegD) : flatC (segC (L ++ [s])) (L ++ [s]).length = flatC (segC L) L.length ++ s.cells := by
  have h1 : ∀ i, i < L.length → segC (L ++ [s]) i = segC L i := fun i hi => by
    unfold segC segsF
    rw [List.getD_eq_getElem?_getD, List.getD_eq_getElem?_getD, List.getElem?_append_left hi]
  have h2 : segC (L ++ [s]) L.length = s.cells := by
    unfold segC segsF
    rw [List.getD_eq_getElem?_getD, List.getElem?_append_right (Nat.le_refl _), Nat.sub_self]; rfl
  rw [List.length_append, List.length_singleton, flatC, flatC_congr h1, h2]
theorem rowEls {G : Mem} {A : Option Addr} {sz n : Nat} {c : Nat → List Value} (hl : ∀ x, x < n → (c x).length = sz) (h : RowM G A (flatC c n)) (hA : 0 < sz) : ElsM G A sz n c := by
  refine ⟨hl, fun x hx => ?_⟩
  rcases h with ⟨_, h⟩ | ⟨b, off, rfl, h⟩
  · have := flatC_length hl
    rw [h] at this
    have h1 : 0 < n * sz := Nat.mul_pos (by omega) hA
    simp at this; omega
  · refine ⟨b, off, rfl, fun j v hj => ?_⟩
    have hjl : j < sz := by have := (List.getElem?_eq_some_iff.1 hj).1; rw [hl x hx] at this; exact this
    rw [Nat.add_assoc]
    exact h _ _ (by rw [flatC_get hl hx hjl]; exact hj)
/-- What a text is read as. -/
def ReadsAs (l : List UInt8) (T : Option (List SegD)) : Prop := if l = [] then T = some [] else Parses (sepW l) T
/-- What the walk ends in. -/
def ParseK (T : Option (List SegD)) (v : AV) (hp : List Blk) : Prop := match T with
  | none => v = .tup [.val (.slice none 0 0), .val (.int .i64 5)]
  | some L => (¬ pathE (segsF L) L.length = 0 ∧ v = .tup [.val (.slice none 0 0), .val (.int .i64 (pathE (segsF L) L.length))]) ∨ (pathE (segsF L) L.length = 0 ∧ OwnRes (pairE 0) 45 6 L.length (flatC (segC L) L.length) v hp)
theorem word_is {s : ByteArray} {k : UInt8} (h : s.data.toList = [k]) : (s.toList == (⟨#[k]⟩ : ByteArray).toList) = true := by
  rw [ByteArray.toList_eq, ByteArray.toList_eq, h]; simp
theorem word_not {s : ByteArray} {k : UInt8} (h : ¬ s.data.toList = [k]) : (s.toList == (⟨#[k]⟩ : ByteArray).toList) = false := by
  rw [ByteArray.toList_eq, ByteArray.toList_eq]; simpa using h
theorem empty_is {s : ByteArray} (h : s.data.toList = []) : (s.toList == (⟨#[]⟩ : ByteArray).toList) = true := by
  rw [ByteArray.toList_eq, ByteArray.toList_eq, h]; rfl
theorem empty_not {s : ByteArray} (h : ¬ s.data.toList = []) : (s.toList == (⟨#[]⟩ : ByteArray).toList) = false := by
  rw [ByteArray.toList_eq, ByteArray.toList_eq]; simpa using h
theorem left_len {Ws : List ByteArray} {a : Nat} : (bsL (Ws.drop a)).length = Ws.length - a := by simp [bsL]
theorem left_get {Ws : List ByteArray} {a i : Nat} (h : a + i < Ws.length) : (bsL (Ws.drop a)).getD i [] = (Ws[a + i]).data.toList := by
  unfold bsL
  rw [List.getD_eq_getElem?_getD, List.getElem?_map, List.getElem?_drop, List.getElem?_eq_getElem h]; rfl
section
variable {G : Mem} {s : ByteArray}
set_option maxHeartbeats 16000000 in
theorem Parse_body (hM : MaxM G) (hs : s.size ≤ 100000) {T : Option (List SegD)} (hT : ReadsAs s.data.toList T) :
    bodyV Tryd.prog tab 0 Tryd.f6 [.val (.string s)] [] G fun v hp' _ => ParseK T v hp' := by
  unfold ReadsAs at hT
  by_cases he : s.data.toList = []
  · rw [if_pos he] at hT
    subst hT
    have h0 := empty_is he
    (repeat ((try (conv => whnf)); (first | (with_reducible refine condP_true ?_) | (with_reducible refine condP_false ?_) | (with_reducible refine condP_not ?_) | (with_reducible refine condP_and ?_) | ((with_reducible refine condP_dt ?_ ?_); (· omega)) | ((with_reducible refine condP_df ?_ ?_); (· omega)) | ((with_reducible refine condP_yes ?_ ?_); (· assumption)) | ((with_reducible refine condP_no ?_ ?_); (· assumption)) | ((with_reducible refine ArP_i64 ?_ ?_); (· omega)) | ((with_reducible refine mustP.mk ?_ ?_); (· first | omega | rfl | (dsimp only; omega))) | (with_reducible refine EqP_nil tab_ok ?_) | (with_reducible refine EqP_sli tab_ok ?_) | (with_reducible refine DrawP_auto tab_ok (by kernel_rfl) (by decide +kernel) ?_) | (with_reducible refine DrawP_auto2 tab_ok (by kernel_rfl) (by decide +kernel) ?_) | (with_reducible refine eq45 ?_) | (with_reducible refine eq62 ?_) | (with_reducible refine eq100 ?_))))
    exact .inr ⟨rfl, .inr (.inl ⟨rfl, rfl, rfl⟩)⟩
  rw [if_neg he] at hT
  have h0 := empty_not he
  have mk := Split_makes hM (by omega : s.size < 4294967281)
  have hWl := wordsB_le s
  rw [← wordsB_list s] at hT
  have hWs := wordsB_size s
  generalize wordsB s = Ws at *
  have hT : Left T [] (bsL Ws) := ⟨T, hT, by cases T <;> simp⟩
  (repeat ((try (conv => whnf)); (first | (with_reducible refine condP_true ?_) | (with_reducible refine condP_false ?_) | (with_reducible refine condP_not ?_) | (with_reducible refine condP_and ?_) | ((with_reducible refine condP_dt ?_ ?_); (· omega)) | ((with_reducible refine condP_df ?_ ?_); (· omega)) | ((with_reducible refine condP_yes ?_ ?_); (· assumption)) | ((with_reducible refine condP_no ?_ ?_); (· assumption)) | ((with_reducible refine ArP_i64 ?_ ?_); (· omega)) | ((with_reducible refine mustP.mk ?_ ?_); (· first | omega | rfl | (dsimp only; omega))) | (with_reducible refine EqP_nil tab_ok ?_) | (with_reducible refine EqP_sli tab_ok ?_) | (with_reducible refine DrawP_auto tab_ok (by kernel_rfl) (by decide +kernel) ?_) | (with_reducible refine DrawP_auto2 tab_ok (by kernel_rfl) (by decide +kernel) ?_) | (with_reducible refine eq45 ?_) | (with_reducible refine eq62 ?_) | (with_reducible refine eq100 ?_))))
  conv => whnf
  refine CallP_freeze (fun vs w => by kernel_rfl) (.alone fun _ => rfl) (by kernel_rfl) mk fun A1 C G1 hG1 hc1 hm1 hx1 => ?_
  clear mk
  have hC : C ≤ 9223372036854775807 := by unfold maxLen at hm1; omega
  have hA1 : 0 < Ws.length → ∃ b, A1 = some ⟨b, 0, none⟩ ∧ ∀ j (h : j < Ws.length), G1.cell? ⟨b, j, none⟩ = some (.string Ws[j]) := fun h => by
    rcases hx1 with h1 | ⟨b, h1, h2⟩
    · simp at h1; subst h1; simp at h
    · exact ⟨b, h1, fun j hj => h2 j _ (by rw [List.getElem?_map, List.getElem?_eq_getElem hj]; rfl)⟩
  clear hx1
  obtain ⟨b, hb0, hb⟩ : ∃ b, (0 < Ws.length → A1 = some ⟨b, 0, none⟩) ∧ ∀ j (h : j < Ws.length), G1.cell? ⟨b, j, none⟩ = some (.string Ws[j]) := by
    rcases Nat.eq_zero_or_pos Ws.length with h | h
    · exact ⟨0, fun h' => by omega, fun j hj => by omega⟩
    · obtain ⟨b, h1, h2⟩ := hA1 h
      exact ⟨b, fun _ => h1, h2⟩
  clear hA1
  (repeat ((try (conv => whnf)); (first | (with_reducible refine condP_true ?_) | (with_reducible refine condP_false ?_) | (with_reducible refine condP_not ?_) | (with_reducible refine condP_and ?_) | ((with_reducible refine condP_dt ?_ ?_); (· omega)) | ((with_reducible refine condP_df ?_ ?_); (· omega)) | ((with_reducible refine condP_yes ?_ ?_); (· assumption)) | ((with_reducible refine condP_no ?_ ?_); (· assumption)) | ((with_reducible refine ArP_i64 ?_ ?_); (· omega)) | ((with_reducible refine mustP.mk ?_ ?_); (· first | omega | rfl | (dsimp only; omega))) | (with_reducible refine EqP_nil tab_ok ?_) | (with_reducible refine EqP_sli tab_ok ?_) | (with_reducible refine DrawP_auto tab_ok (by kernel_rfl) (by decide +kernel) ?_) | (with_reducible refine DrawP_auto2 tab_ok (by kernel_rfl) (by decide +kernel) ?_) | (with_reducible refine eq45 ?_) | (with_reducible refine eq62 ?_) | (with_reducible refine eq100 ?_))))
  conv => whnf
  refine LoopP_at3 tab_ok (fun (c : Nat) (A : Option Addr) (L : List SegD) => c ≤ Ws.length ∧ L.length ≤ c ∧ (c < Ws.length → A = some ⟨b, c, none⟩) ∧ Left T L (bsL (Ws.drop c))) (fun c A L => [(4, .own 1)]) (fun c A L => [.cells 37 [.val (.slice A (Ws.length - c) (C - c))], .own 45 6 L.length (flatC (segC L) L.length)]) (fun c A L => Ws.length - c) 0 A1 [] ⟨Nat.zero_le _, Nat.zero_le _, fun h => hb0 h, hT⟩ ?_ ?_
  · refine Le_own 45 6 ?_
    conv => whnf
    ((refine Le_head ?_); (conv => whnf); (refine Le_mk (by rfl) (by rfl) ?_ ?_); (· (repeat (first | (with_reducible exact frLe_nil) | (with_reducible refine frLe_any ?_) | (with_reducible refine frLe_val ?_) | ((with_reducible refine frLe_eq rfl ?_ ?_); (· rfl)) | ((with_reducible refine frLe_val' (int_eq ?_) ?_ ?_); (· omega); (· rfl)) | ((with_reducible refine frLe_val' (int_eq ?_) ?_ ?_); (· simp only [Int.natCast_add, Int.natCast_one, Int.natCast_ofNat] <;> omega); (· rfl)) | ((with_reducible refine frLe_val' (bool_eq ?_) ?_ ?_); (· first | assumption | (symm; assumption)); (· rfl))))))
    exact hpLe_cells (by (repeat (first | (with_reducible exact frLe_nil) | (with_reducible refine frLe_any ?_) | (with_reducible refine frLe_val ?_) | ((with_reducible refine frLe_eq rfl ?_ ?_); (· rfl)) | ((with_reducible refine frLe_val' (int_eq ?_) ?_ ?_); (· omega); (· rfl)) | ((with_reducible refine frLe_val' (int_eq ?_) ?_ ?_); (· simp only [Int.natCast_add, Int.natCast_one, Int.natCast_ofNat] <;> omega); (· rfl)) | ((with_reducible refine frLe_val' (bool_eq ?_) ?_ ?_); (· first | assumption | (symm; assumption)); (· rfl))))) (hpLe_own rfl rfl hpLe_nil)
  · rintro c A L ⟨hc, hL, hA, hR⟩
    rcases Nat.lt_or_ge c Ws.length with h1 | h1
    · have hcw := hb c h1
      obtain rfl := hA h1
      have hR' := hR
      rw [List.drop_eq_getElem_cons h1] at hR
      generalize Ws[c] = w at *
      by_cases k0 : kindW w.data.toList = 0
      · have hn := hR.odd k0
        subst hn
        unfold kindW at k0
        by_cases e1 : w.data.toList = [109]
        · rw [if_pos e1] at k0; omega
        by_cases e2 : w.data.toList = [108]
        · rw [if_neg e1, if_pos e2] at k0; omega
        by_cases e3 : w.data.toList = [113]
        · rw [if_neg e1, if_neg e2, if_pos e3] at k0; omega
        by_cases e4 : w.data.toList = [104]
        · rw [if_neg e1, if_neg e2, if_neg e3, if_pos e4] at k0; omega
        have f1 := word_not e1
        have f2 := word_not e2
        have f3 := word_not e3
        have f4 := word_not e4
        clear k0 hR hR' e1 e2 e3 e4 hb hT
        (repeat ((try (conv => whnf)); (first | (refine OldCells_one _ hcw ?_) | (with_reducible refine condP_true ?_) | (with_reducible refine condP_false ?_) | (with_reducible refine condP_not ?_) | (with_reducible refine condP_and ?_) | ((with_reducible refine condP_dt ?_ ?_); (· omega)) | ((with_reducible refine condP_df ?_ ?_); (· omega)) | ((with_reducible refine condP_yes ?_ ?_); (· assumption)) | ((with_reducible refine condP_no ?_ ?_); (· assumption)) | ((with_reducible refine ArP_i64 ?_ ?_); (· omega)) | ((with_reducible refine mustP.mk ?_ ?_); (· first | omega | rfl | (dsimp only; omega))) | (with_reducible refine EqP_nil tab_ok ?_) | (with_reducible refine EqP_sli tab_ok ?_) | (with_reducible refine DrawP_auto tab_ok (by kernel_rfl) (by decide +kernel) ?_) | (with_reducible refine DrawP_auto2 tab_ok (by kernel_rfl) (by decide +kernel) ?_) | (with_reducible refine eq45 ?_) | (with_reducible refine eq62 ?_) | (with_reducible refine eq100 ?_))))
        conv => whnf
      by_cases k4 : kindW w.data.toList = 4
      · have e4 : w.data.toList = [104] := by
          unfold kindW at k4
          repeat' split at k4
          all_goals first | assumption | omega
        have hn := hR.seg k0 (by rw [k4]; intro i hi; simp [manyW] at hi)
        rw [k4] at hn
        simp only [manyW, segP] at hn
        have f1 := word_not (s := w) (k := 109) (by rw [e4]; simp)
        have f2 := word_not (s := w) (k := 108) (by rw [e4]; simp)
        have f3 := word_not (s := w) (k := 113) (by rw [e4]; simp)
        have f4 := word_is e4
        clear k0 k4 hR hR' e4 hb hT
        (repeat ((try (conv => whnf)); (first | (refine OldCells_one _ hcw ?_) | (with_reducible refine condP_true ?_) | (with_reducible refine condP_false ?_) | (with_reducible refine condP_not ?_) | (with_reducible refine condP_and ?_) | ((with_reducible refine condP_dt ?_ ?_); (· omega)) | ((with_reducible refine condP_df ?_ ?_); (· omega)) | ((with_reducible refine condP_yes ?_ ?_); (· assumption)) | ((with_reducible refine condP_no ?_ ?_); (· assumption)) | ((with_reducible refine ArP_i64 ?_ ?_); (· omega)) | ((with_reducible refine mustP.mk ?_ ?_); (· first | omega | rfl | (dsimp only; omega))) | (with_reducible refine EqP_nil tab_ok ?_) | (with_reducible refine EqP_sli tab_ok ?_) | (with_reducible refine DrawP_auto tab_ok (by kernel_rfl) (by decide +kernel) ?_) | (with_reducible refine DrawP_auto2 tab_ok (by kernel_rfl) (by decide +kernel) ?_) | (with_reducible refine eq45 ?_) | (with_reducible refine eq62 ?_) | (with_reducible refine eq100 ?_))))
        conv => whnf
        refine ⟨c + 1, if C - c = 1 then some ⟨b, c, none⟩ else some ⟨b, c + 1, none⟩, L ++ [⟨4, 0, 0, 0, 0, 0⟩], ⟨by omega, by simp; omega, fun h => ?_, ?_⟩, by omega, ?_⟩
        · rw [if_neg (by omega)]
        · simpa using hn
        · refine Le_move 4 1 rfl rfl rfl rfl ?_
          conv => whnf
          ((refine Le_head ?_); (conv => whnf); (refine Le_mk (by rfl) (by rfl) ?_ ?_); (· (repeat (first | (with_reducible exact frLe_nil) | (with_reducible refine frLe_any ?_) | (with_reducible refine frLe_val ?_) | ((with_reducible refine frLe_eq rfl ?_ ?_); (· rfl)) | ((with_reducible refine frLe_val' (int_eq ?_) ?_ ?_); (· omega); (· rfl)) | ((with_reducible refine frLe_val' (int_eq ?_) ?_ ?_); (· simp only [Int.natCast_add, Int.natCast_one, Int.natCast_ofNat] <;> omega); (· rfl)) | ((with_reducible refine frLe_val' (bool_eq ?_) ?_ ?_); (· first | assumption | (symm; assumption)); (· rfl))))))
          exact hpLe_cells (by (repeat (first | (with_reducible exact frLe_nil) | (with_reducible refine frLe_any ?_) | (with_reducible refine frLe_val ?_) | ((with_reducible refine frLe_eq rfl ?_ ?_); (· rfl)) | ((with_reducible refine frLe_val' (int_eq ?_) ?_ ?_); (· omega); (· rfl)) | ((with_reducible refine frLe_val' (int_eq ?_) ?_ ?_); (· simp only [Int.natCast_add, Int.natCast_one, Int.natCast_ofNat] <;> omega); (· rfl)) | ((with_reducible refine frLe_val' (bool_eq ?_) ?_ ?_); (· first | assumption | (symm; assumption)); (· rfl))))) (hpLe_own (by simp) (by rw [flat_snoc]) hpLe_nil)
      -- printed by mkparse1.py
      by_cases k1 : kindW w.data.toList = 1
      · have e : w.data.toList = [109] := by
          unfold kindW at k1
          repeat' split at k1
          all_goals first | assumption | omega
        have f1 := word_is e
        have hmany : manyW (kindW w.data.toList) = 2 := by rw [k1]; rfl
        by_cases hlen : Ws.length < c + 1 + 2
        · have hn := hR.bad (by rw [hmany]; exact fun h => by have := (h 1 (by omega)).1; rw [left_len] at this; omega)
          subst hn
          clear k0 k4 hR hR' e hb hT hmany k1
          (repeat ((try (conv => whnf)); (first | (refine OldCells_one _ hcw ?_) | (with_reducible refine condP_true ?_) | (with_reducible refine condP_false ?_) | (with_reducible refine condP_not ?_) | (with_reducible refine condP_and ?_) | ((with_reducible refine condP_dt ?_ ?_); (· omega)) | ((with_reducible refine condP_df ?_ ?_); (· omega)) | ((with_reducible refine condP_yes ?_ ?_); (· assumption)) | ((with_reducible refine condP_no ?_ ?_); (· assumption)) | ((with_reducible refine ArP_i64 ?_ ?_); (· omega)) | ((with_reducible refine mustP.mk ?_ ?_); (· first | omega | rfl | (dsimp only; omega))) | (with_reducible refine EqP_nil tab_ok ?_) | (with_reducible refine EqP_sli tab_ok ?_) | (with_reducible refine DrawP_auto tab_ok (by kernel_rfl) (by decide +kernel) ?_) | (with_reducible refine DrawP_auto2 tab_ok (by kernel_rfl) (by decide +kernel) ?_) | (with_reducible refine eq45 ?_) | (with_reducible refine eq62 ?_) | (with_reducible refine eq100 ?_) | (with_reducible refine CallP_enter tab_ok Tryd.func15 (fun vs w => by kernel_rfl) (by rfl) ?_))))
          conv => whnf
        have hw0 := hb (c + 1 + 0) (by omega)
        have hl0 := hWs (c + 1 + 0) (by omega)
        have hx0 := left_get (Ws := Ws) (a := c + 1) (i := 0) (by omega)
        generalize Ws[c + 1 + 0] = w0 at hw0 hx0 hl0
        have hw1 := hb (c + 1 + 1) (by omega)
        have hl1 := hWs (c + 1 + 1) (by omega)
        have hx1 := left_get (Ws := Ws) (a := c + 1) (i := 1) (by omega)
        generalize Ws[c + 1 + 1] = w1 at hw1 hx1 hl1
        by_cases o0 : numOK w0.data.toList
        rotate_left
        · skip
          have hn := hR.bad (by rw [hmany]; exact fun h => by have := (h 0 (by omega)).2; rw [hx0] at this; exact o0 this)
          subst hn
          have g0 := number_bad (G := G1) (by omega) o0
          clear o0 hx0 hx1
          clear k0 k4 hR hR' e hb hT hmany k1
          (repeat ((try (conv => whnf)); (first | (refine OldCells_one _ hcw ?_) | (with_reducible refine condP_true ?_) | (with_reducible refine condP_false ?_) | (with_reducible refine condP_not ?_) | (with_reducible refine condP_and ?_) | ((with_reducible refine condP_dt ?_ ?_); (· omega)) | ((with_reducible refine condP_df ?_ ?_); (· omega)) | ((with_reducible refine condP_yes ?_ ?_); (· assumption)) | ((with_reducible refine condP_no ?_ ?_); (· assumption)) | ((with_reducible refine ArP_i64 ?_ ?_); (· omega)) | ((with_reducible refine mustP.mk ?_ ?_); (· first | omega | rfl | (dsimp only; omega))) | (with_reducible refine EqP_nil tab_ok ?_) | (with_reducible refine EqP_sli tab_ok ?_) | (with_reducible refine DrawP_auto tab_ok (by kernel_rfl) (by decide +kernel) ?_) | (with_reducible refine DrawP_auto2 tab_ok (by kernel_rfl) (by decide +kernel) ?_) | (with_reducible refine eq45 ?_) | (with_reducible refine eq62 ?_) | (with_reducible refine eq100 ?_))))
          conv => whnf
          rw [if_neg (show ¬ C - c = Int.toNat 1 from fun h => by have h : C - c = 1 := h; omega)]
          (repeat ((try (conv => whnf)); (first | (first | (refine OldCells_one _ hw0 ?_) | (refine OldCells_one _ hw1 ?_)) | (with_reducible refine LoopP_step tab_ok ?_) | (with_reducible refine condP_true ?_) | (with_reducible refine condP_false ?_) | (with_reducible refine condP_not ?_) | (with_reducible refine condP_and ?_) | ((with_reducible refine condP_dt ?_ ?_); (· omega)) | ((with_reducible refine condP_df ?_ ?_); (· omega)) | ((with_reducible refine condP_yes ?_ ?_); (· assumption)) | ((with_reducible refine condP_no ?_ ?_); (· assumption)) | ((with_reducible refine ArP_i64 ?_ ?_); (· omega)) | ((with_reducible refine mustP.mk ?_ ?_); (· first | omega | rfl | (dsimp only; omega))) | (with_reducible refine EqP_nil tab_ok ?_) | (with_reducible refine EqP_sli tab_ok ?_) | (with_reducible refine DrawP_auto tab_ok (by kernel_rfl) (by decide +kernel) ?_) | (with_reducible refine DrawP_auto2 tab_ok (by kernel_rfl) (by decide +kernel) ?_) | (with_reducible refine eq45 ?_) | (with_reducible refine eq62 ?_) | (with_reducible refine eq100 ?_) | (with_reducible refine CallP_enter tab_ok Tryd.func15 (fun vs w => by kernel_rfl) (by rfl) ?_) | (with_reducible refine CallP_gives (fun vs w => by kernel_rfl) (by kernel_rfl) (g0) ?_) | (with_reducible refine RCallP_gives (fun vs w => by kernel_rfl) (by kernel_rfl) (g0) ?_))))
          conv => whnf
        have g0 := number_good (G := G1) (by omega) o0
        by_cases o1 : numOK w1.data.toList
        rotate_left
        · skip
          have hn := hR.bad (by rw [hmany]; exact fun h => by have := (h 1 (by omega)).2; rw [hx1] at this; exact o1 this)
          subst hn
          have g1 := number_bad (G := G1) (by omega) o1
          clear o1 hx0 hx1
          clear k0 k4 hR hR' e hb hT hmany k1
          (repeat ((try (conv => whnf)); (first | (refine OldCells_one _ hcw ?_) | (with_reducible refine condP_true ?_) | (with_reducible refine condP_false ?_) | (with_reducible refine condP_not ?_) | (with_reducible refine condP_and ?_) | ((with_reducible refine condP_dt ?_ ?_); (· omega)) | ((with_reducible refine condP_df ?_ ?_); (· omega)) | ((with_reducible refine condP_yes ?_ ?_); (· assumption)) | ((with_reducible refine condP_no ?_ ?_); (· assumption)) | ((with_reducible refine ArP_i64 ?_ ?_); (· omega)) | ((with_reducible refine mustP.mk ?_ ?_); (· first | omega | rfl | (dsimp only; omega))) | (with_reducible refine EqP_nil tab_ok ?_) | (with_reducible refine EqP_sli tab_ok ?_) | (with_reducible refine DrawP_auto tab_ok (by kernel_rfl) (by decide +kernel) ?_) | (with_reducible refine DrawP_auto2 tab_ok (by kernel_rfl) (by decide +kernel) ?_) | (with_reducible refine eq45 ?_) | (with_reducible refine eq62 ?_) | (with_reducible refine eq100 ?_))))
          conv => whnf
          rw [if_neg (show ¬ C - c = Int.toNat 1 from fun h => by have h : C - c = 1 := h; omega)]
          (repeat ((try (conv => whnf)); (first | (first | (refine OldCells_one _ hw0 ?_) | (refine OldCells_one _ hw1 ?_)) | (with_reducible refine LoopP_step tab_ok ?_) | (with_reducible refine condP_true ?_) | (with_reducible refine condP_false ?_) | (with_reducible refine condP_not ?_) | (with_reducible refine condP_and ?_) | ((with_reducible refine condP_dt ?_ ?_); (· omega)) | ((with_reducible refine condP_df ?_ ?_); (· omega)) | ((with_reducible refine condP_yes ?_ ?_); (· assumption)) | ((with_reducible refine condP_no ?_ ?_); (· assumption)) | ((with_reducible refine ArP_i64 ?_ ?_); (· omega)) | ((with_reducible refine mustP.mk ?_ ?_); (· first | omega | rfl | (dsimp only; omega))) | (with_reducible refine EqP_nil tab_ok ?_) | (with_reducible refine EqP_sli tab_ok ?_) | (with_reducible refine DrawP_auto tab_ok (by kernel_rfl) (by decide +kernel) ?_) | (with_reducible refine DrawP_auto2 tab_ok (by kernel_rfl) (by decide +kernel) ?_) | (with_reducible refine eq45 ?_) | (with_reducible refine eq62 ?_) | (with_reducible refine eq100 ?_) | (with_reducible refine CallP_enter tab_ok Tryd.func15 (fun vs w => by kernel_rfl) (by rfl) ?_) | (with_reducible refine CallP_gives (fun vs w => by kernel_rfl) (by kernel_rfl) (g0) ?_) | (with_reducible refine RCallP_gives (fun vs w => by kernel_rfl) (by kernel_rfl) (g0) ?_) | (with_reducible refine CallP_gives (fun vs w => by kernel_rfl) (by kernel_rfl) (g1) ?_) | (with_reducible refine RCallP_gives (fun vs w => by kernel_rfl) (by kernel_rfl) (g1) ?_))))
          conv => whnf
        have g1 := number_good (G := G1) (by omega) o1
        have hn := hR.seg k0 (by rw [hmany]; intro i hi; rw [left_len]; refine ⟨by omega, ?_⟩; match i, hi with
          | 0, _ => rw [hx0]; exact o0
          | 1, _ => rw [hx1]; exact o1)
        rw [hmany, k1] at hn
        simp only [segP, hx0, hx1] at hn
        clear o0 o1 hx0 hx1
        generalize numV w0.data.toList = v0 at *
        generalize numV w1.data.toList = v1 at *
        clear k0 k4 hR hR' e hb hT hmany k1
        (repeat ((try (conv => whnf)); (first | (refine OldCells_one _ hcw ?_) | (with_reducible refine condP_true ?_) | (with_reducible refine condP_false ?_) | (with_reducible refine condP_not ?_) | (with_reducible refine condP_and ?_) | ((with_reducible refine condP_dt ?_ ?_); (· omega)) | ((with_reducible refine condP_df ?_ ?_); (· omega)) | ((with_reducible refine condP_yes ?_ ?_); (· assumption)) | ((with_reducible refine condP_no ?_ ?_); (· assumption)) | ((with_reducible refine ArP_i64 ?_ ?_); (· omega)) | ((with_reducible refine mustP.mk ?_ ?_); (· first | omega | rfl | (dsimp only; omega))) | (with_reducible refine EqP_nil tab_ok ?_) | (with_reducible refine EqP_sli tab_ok ?_) | (with_reducible refine DrawP_auto tab_ok (by kernel_rfl) (by decide +kernel) ?_) | (with_reducible refine DrawP_auto2 tab_ok (by kernel_rfl) (by decide +kernel) ?_) | (with_reducible refine eq45 ?_) | (with_reducible refine eq62 ?_) | (with_reducible refine eq100 ?_))))
        conv => whnf
        rw [if_neg (show ¬ C - c = Int.toNat 1 from fun h => by have h : C - c = 1 := h; omega)]
        (repeat ((try (conv => whnf)); (first | (first | (refine OldCells_one _ hw0 ?_) | (refine OldCells_one _ hw1 ?_)) | (with_reducible refine LoopP_step tab_ok ?_) | (with_reducible refine condP_true ?_) | (with_reducible refine condP_false ?_) | (with_reducible refine condP_not ?_) | (with_reducible refine condP_and ?_) | ((with_reducible refine condP_dt ?_ ?_); (· omega)) | ((with_reducible refine condP_df ?_ ?_); (· omega)) | ((with_reducible refine condP_yes ?_ ?_); (· assumption)) | ((with_reducible refine condP_no ?_ ?_); (· assumption)) | ((with_reducible refine ArP_i64 ?_ ?_); (· omega)) | ((with_reducible refine mustP.mk ?_ ?_); (· first | omega | rfl | (dsimp only; omega))) | (with_reducible refine EqP_nil tab_ok ?_) | (with_reducible refine EqP_sli tab_ok ?_) | (with_reducible refine DrawP_auto tab_ok (by kernel_rfl) (by decide +kernel) ?_) | (with_reducible refine DrawP_auto2 tab_ok (by kernel_rfl) (by decide +kernel) ?_) | (with_reducible refine eq45 ?_) | (with_reducible refine eq62 ?_) | (with_reducible refine eq100 ?_) | (with_reducible refine CallP_enter tab_ok Tryd.func15 (fun vs w => by kernel_rfl) (by rfl) ?_) | (with_reducible refine CallP_gives (fun vs w => by kernel_rfl) (by kernel_rfl) (g0) ?_) | (with_reducible refine RCallP_gives (fun vs w => by kernel_rfl) (by kernel_rfl) (g0) ?_) | (with_reducible refine CallP_gives (fun vs w => by kernel_rfl) (by kernel_rfl) (g1) ?_) | (with_reducible refine RCallP_gives (fun vs w => by kernel_rfl) (by kernel_rfl) (g1) ?_))))
        conv => whnf
        refine ⟨c + 1 + 2, if C - c - 1 = 2 then some ⟨b, c + 1, none⟩ else some ⟨b, c + 1 + 2, none⟩, L ++ [⟨1, v0, v1, 0, 0, 0⟩], ⟨by omega, by simp; omega, fun h => ?_, ?_⟩, by omega, ?_⟩
        · rw [if_neg (by omega)]
        · simpa [bsL, Nat.add_comm, Nat.add_left_comm, Nat.add_assoc] using hn
        · refine Le_move 5 1 rfl rfl rfl rfl ?_
          conv => whnf
          ((refine Le_head ?_); (conv => whnf); (refine Le_mk (by rfl) (by rfl) ?_ ?_); (· (repeat (first | (with_reducible exact frLe_nil) | (with_reducible refine frLe_any ?_) | (with_reducible refine frLe_val ?_) | ((with_reducible refine frLe_eq rfl ?_ ?_); (· rfl)) | ((with_reducible refine frLe_val' (int_eq ?_) ?_ ?_); (· omega); (· rfl)) | ((with_reducible refine frLe_val' (int_eq ?_) ?_ ?_); (· simp only [Int.natCast_add, Int.natCast_one, Int.natCast_ofNat] <;> omega); (· rfl)) | ((with_reducible refine frLe_val' (bool_eq ?_) ?_ ?_); (· first | assumption | (symm; assumption)); (· rfl))))))
          exact hpLe_cells (by (repeat (first | (with_reducible exact frLe_nil) | (with_reducible refine frLe_any ?_) | (with_reducible refine frLe_val ?_) | ((with_reducible refine frLe_eq rfl ?_ ?_); (· rfl)) | ((with_reducible refine frLe_val' (int_eq ?_) ?_ ?_); (· omega); (· rfl)) | ((with_reducible refine frLe_val' (int_eq ?_) ?_ ?_); (· simp only [Int.natCast_add, Int.natCast_one, Int.natCast_ofNat] <;> omega); (· rfl)) | ((with_reducible refine frLe_val' (bool_eq ?_) ?_ ?_); (· first | assumption | (symm; assumption)); (· rfl))))) (hpLe_own (by simp) (by rw [flat_snoc]) hpLe_nil)
      by_cases k2 : kindW w.data.toList = 2
      · have e : w.data.toList = [108] := by
          unfold kindW at k2
          repeat' split at k2
          all_goals first | assumption | omega
        have f1 := word_not (s := w) (k := 109) (by rw [e]; simp)
        have f2 := word_is e
        have hmany : manyW (kindW w.data.toList) = 2 := by rw [k2]; rfl
        by_cases hlen : Ws.length < c + 1 + 2
        · have hn := hR.bad (by rw [hmany]; exact fun h => by have := (h 1 (by omega)).1; rw [left_len] at this; omega)
          subst hn
          clear k0 k4 hR hR' e hb hT hmany k2 k1
          (repeat ((try (conv => whnf)); (first | (refine OldCells_one _ hcw ?_) | (with_reducible refine condP_true ?_) | (with_reducible refine condP_false ?_) | (with_reducible refine condP_not ?_) | (with_reducible refine condP_and ?_) | ((with_reducible refine condP_dt ?_ ?_); (· omega)) | ((with_reducible refine condP_df ?_ ?_); (· omega)) | ((with_reducible refine condP_yes ?_ ?_); (· assumption)) | ((with_reducible refine condP_no ?_ ?_); (· assumption)) | ((with_reducible refine ArP_i64 ?_ ?_); (· omega)) | ((with_reducible refine mustP.mk ?_ ?_); (· first | omega | rfl | (dsimp only; omega))) | (with_reducible refine EqP_nil tab_ok ?_) | (with_reducible refine EqP_sli tab_ok ?_) | (with_reducible refine DrawP_auto tab_ok (by kernel_rfl) (by decide +kernel) ?_) | (with_reducible refine DrawP_auto2 tab_ok (by kernel_rfl) (by decide +kernel) ?_) | (with_reducible refine eq45 ?_) | (with_reducible refine eq62 ?_) | (with_reducible refine eq100 ?_) | (with_reducible refine CallP_enter tab_ok Tryd.func15 (fun vs w => by kernel_rfl) (by rfl) ?_))))
          conv => whnf
        have hw0 := hb (c + 1 + 0) (by omega)
        have hl0 := hWs (c + 1 + 0) (by omega)
        have hx0 := left_get (Ws := Ws) (a := c + 1) (i := 0) (by omega)
        generalize Ws[c + 1 + 0] = w0 at hw0 hx0 hl0
        have hw1 := hb (c + 1 + 1) (by omega)
        have hl1 := hWs (c + 1 + 1) (by omega)
        have hx1 := left_get (Ws := Ws) (a := c + 1) (i := 1) (by omega)
        generalize Ws[c + 1 + 1] = w1 at hw1 hx1 hl1
        by_cases o0 : numOK w0.data.toList
        rotate_left
        · skip
          have hn := hR.bad (by rw [hmany]; exact fun h => by have := (h 0 (by omega)).2; rw [hx0] at this; exact o0 this)
          subst hn
          have g0 := number_bad (G := G1) (by omega) o0
          clear o0 hx0 hx1
          clear k0 k4 hR hR' e hb hT hmany k2 k1
          (repeat ((try (conv => whnf)); (first | (refine OldCells_one _ hcw ?_) | (with_reducible refine condP_true ?_) | (with_reducible refine condP_false ?_) | (with_reducible refine condP_not ?_) | (with_reducible refine condP_and ?_) | ((with_reducible refine condP_dt ?_ ?_); (· omega)) | ((with_reducible refine condP_df ?_ ?_); (· omega)) | ((with_reducible refine condP_yes ?_ ?_); (· assumption)) | ((with_reducible refine condP_no ?_ ?_); (· assumption)) | ((with_reducible refine ArP_i64 ?_ ?_); (· omega)) | ((with_reducible refine mustP.mk ?_ ?_); (· first | omega | rfl | (dsimp only; omega))) | (with_reducible refine EqP_nil tab_ok ?_) | (with_reducible refine EqP_sli tab_ok ?_) | (with_reducible refine DrawP_auto tab_ok (by kernel_rfl) (by decide +kernel) ?_) | (with_reducible refine DrawP_auto2 tab_ok (by kernel_rfl) (by decide +kernel) ?_) | (with_reducible refine eq45 ?_) | (with_reducible refine eq62 ?_) | (with_reducible refine eq100 ?_))))
          conv => whnf
          rw [if_neg (show ¬ C - c = Int.toNat 1 from fun h => by have h : C - c = 1 := h; omega)]
          (repeat ((try (conv => whnf)); (first | (first | (refine OldCells_one _ hw0 ?_) | (refine OldCells_one _ hw1 ?_)) | (with_reducible refine LoopP_step tab_ok ?_) | (with_reducible refine condP_true ?_) | (with_reducible refine condP_false ?_) | (with_reducible refine condP_not ?_) | (with_reducible refine condP_and ?_) | ((with_reducible refine condP_dt ?_ ?_); (· omega)) | ((with_reducible refine condP_df ?_ ?_); (· omega)) | ((with_reducible refine condP_yes ?_ ?_); (· assumption)) | ((with_reducible refine condP_no ?_ ?_); (· assumption)) | ((with_reducible refine ArP_i64 ?_ ?_); (· omega)) | ((with_reducible refine mustP.mk ?_ ?_); (· first | omega | rfl | (dsimp only; omega))) | (with_reducible refine EqP_nil tab_ok ?_) | (with_reducible refine EqP_sli tab_ok ?_) | (with_reducible refine DrawP_auto tab_ok (by kernel_rfl) (by decide +kernel) ?_) | (with_reducible refine DrawP_auto2 tab_ok (by kernel_rfl) (by decide +kernel) ?_) | (with_reducible refine eq45 ?_) | (with_reducible refine eq62 ?_) | (with_reducible refine eq100 ?_) | (with_reducible refine CallP_enter tab_ok Tryd.func15 (fun vs w => by kernel_rfl) (by rfl) ?_) | (with_reducible refine CallP_gives (fun vs w => by kernel_rfl) (by kernel_rfl) (g0) ?_) | (with_reducible refine RCallP_gives (fun vs w => by kernel_rfl) (by kernel_rfl) (g0) ?_))))
          conv => whnf
        have g0 := number_good (G := G1) (by omega) o0
        by_cases o1 : numOK w1.data.toList
        rotate_left
        · skip
          have hn := hR.bad (by rw [hmany]; exact fun h => by have := (h 1 (by omega)).2; rw [hx1] at this; exact o1 this)
          subst hn
          have g1 := number_bad (G := G1) (by omega) o1
          clear o1 hx0 hx1
          clear k0 k4 hR hR' e hb hT hmany k2 k1
          (repeat ((try (conv => whnf)); (first | (refine OldCells_one _ hcw ?_) | (with_reducible refine condP_true ?_) | (with_reducible refine condP_false ?_) | (with_reducible refine condP_not ?_) | (with_reducible refine condP_and ?_) | ((with_reducible refine condP_dt ?_ ?_); (· omega)) | ((with_reducible refine condP_df ?_ ?_); (· omega)) | ((with_reducible refine condP_yes ?_ ?_); (· assumption)) | ((with_reducible refine condP_no ?_ ?_); (· assumption)) | ((with_reducible refine ArP_i64 ?_ ?_); (· omega)) | ((with_reducible refine mustP.mk ?_ ?_); (· first | omega | rfl | (dsimp only; omega))) | (with_reducible refine EqP_nil tab_ok ?_) | (with_reducible refine EqP_sli tab_ok ?_) | (with_reducible refine DrawP_auto tab_ok (by kernel_rfl) (by decide +kernel) ?_) | (with_reducible refine DrawP_auto2 tab_ok (by kernel_rfl) (by decide +kernel) ?_) | (with_reducible refine eq45 ?_) | (with_reducible refine eq62 ?_) | (with_reducible refine eq100 ?_))))
          conv => whnf
          rw [if_neg (show ¬ C - c = Int.toNat 1 from fun h => by have h : C - c = 1 := h; omega)]
          (repeat ((try (conv => whnf)); (first | (first | (refine OldCells_one _ hw0 ?_) | (refine OldCells_one _ hw1 ?_)) | (with_reducible refine LoopP_step tab_ok ?_) | (with_reducible refine condP_true ?_) | (with_reducible refine condP_false ?_) | (with_reducible refine condP_not ?_) | (with_reducible refine condP_and ?_) | ((with_reducible refine condP_dt ?_ ?_); (· omega)) | ((with_reducible refine condP_df ?_ ?_); (· omega)) | ((with_reducible refine condP_yes ?_ ?_); (· assumption)) | ((with_reducible refine condP_no ?_ ?_); (· assumption)) | ((with_reducible refine ArP_i64 ?_ ?_); (· omega)) | ((with_reducible refine mustP.mk ?_ ?_); (· first | omega | rfl | (dsimp only; omega))) | (with_reducible refine EqP_nil tab_ok ?_) | (with_reducible refine EqP_sli tab_ok ?_) | (with_reducible refine DrawP_auto tab_ok (by kernel_rfl) (by decide +kernel) ?_) | (with_reducible refine DrawP_auto2 tab_ok (by kernel_rfl) (by decide +kernel) ?_) | (with_reducible refine eq45 ?_) | (with_reducible refine eq62 ?_) | (with_reducible refine eq100 ?_) | (with_reducible refine CallP_enter tab_ok Tryd.func15 (fun vs w => by kernel_rfl) (by rfl) ?_) | (with_reducible refine CallP_gives (fun vs w => by kernel_rfl) (by kernel_rfl) (g0) ?_) | (with_reducible refine RCallP_gives (fun vs w => by kernel_rfl) (by kernel_rfl) (g0) ?_) | (with_reducible refine CallP_gives (fun vs w => by kernel_rfl) (by kernel_rfl) (g1) ?_) | (with_reducible refine RCallP_gives (fun vs w => by kernel_rfl) (by kernel_rfl) (g1) ?_))))
          conv => whnf
        have g1 := number_good (G := G1) (by omega) o1
        have hn := hR.seg k0 (by rw [hmany]; intro i hi; rw [left_len]; refine ⟨by omega, ?_⟩; match i, hi with
          | 0, _ => rw [hx0]; exact o0
          | 1, _ => rw [hx1]; exact o1)
        rw [hmany, k2] at hn
        simp only [segP, hx0, hx1] at hn
        clear o0 o1 hx0 hx1
        generalize numV w0.data.toList = v0 at *
        generalize numV w1.data.toList = v1 at *
        clear k0 k4 hR hR' e hb hT hmany k2 k1
        (repeat ((try (conv => whnf)); (first | (refine OldCells_one _ hcw ?_) | (with_reducible refine condP_true ?_) | (with_reducible refine condP_false ?_) | (with_reducible refine condP_not ?_) | (with_reducible refine condP_and ?_) | ((with_reducible refine condP_dt ?_ ?_); (· omega)) | ((with_reducible refine condP_df ?_ ?_); (· omega)) | ((with_reducible refine condP_yes ?_ ?_); (· assumption)) | ((with_reducible refine condP_no ?_ ?_); (· assumption)) | ((with_reducible refine ArP_i64 ?_ ?_); (· omega)) | ((with_reducible refine mustP.mk ?_ ?_); (· first | omega | rfl | (dsimp only; omega))) | (with_reducible refine EqP_nil tab_ok ?_) | (with_reducible refine EqP_sli tab_ok ?_) | (with_reducible refine DrawP_auto tab_ok (by kernel_rfl) (by decide +kernel) ?_) | (with_reducible refine DrawP_auto2 tab_ok (by kernel_rfl) (by decide +kernel) ?_) | (with_reducible refine eq45 ?_) | (with_reducible refine eq62 ?_) | (with_reducible refine eq100 ?_))))
        conv => whnf
        rw [if_neg (show ¬ C - c = Int.toNat 1 from fun h => by have h : C - c = 1 := h; omega)]
        (repeat ((try (conv => whnf)); (first | (first | (refine OldCells_one _ hw0 ?_) | (refine OldCells_one _ hw1 ?_)) | (with_reducible refine LoopP_step tab_ok ?_) | (with_reducible refine condP_true ?_) | (with_reducible refine condP_false ?_) | (with_reducible refine condP_not ?_) | (with_reducible refine condP_and ?_) | ((with_reducible refine condP_dt ?_ ?_); (· omega)) | ((with_reducible refine condP_df ?_ ?_); (· omega)) | ((with_reducible refine condP_yes ?_ ?_); (· assumption)) | ((with_reducible refine condP_no ?_ ?_); (· assumption)) | ((with_reducible refine ArP_i64 ?_ ?_); (· omega)) | ((with_reducible refine mustP.mk ?_ ?_); (· first | omega | rfl | (dsimp only; omega))) | (with_reducible refine EqP_nil tab_ok ?_) | (with_reducible refine EqP_sli tab_ok ?_) | (with_reducible refine DrawP_auto tab_ok (by kernel_rfl) (by decide +kernel) ?_) | (with_reducible refine DrawP_auto2 tab_ok (by kernel_rfl) (by decide +kernel) ?_) | (with_reducible refine eq45 ?_) | (with_reducible refine eq62 ?_) | (with_reducible refine eq100 ?_) | (with_reducible refine CallP_enter tab_ok Tryd.func15 (fun vs w => by kernel_rfl) (by rfl) ?_) | (with_reducible refine CallP_gives (fun vs w => by kernel_rfl) (by kernel_rfl) (g0) ?_) | (with_reducible refine RCallP_gives (fun vs w => by kernel_rfl) (by kernel_rfl) (g0) ?_) | (with_reducible refine CallP_gives (fun vs w => by kernel_rfl) (by kernel_rfl) (g1) ?_) | (with_reducible refine RCallP_gives (fun vs w => by kernel_rfl) (by kernel_rfl) (g1) ?_))))
        conv => whnf
        refine ⟨c + 1 + 2, if C - c - 1 = 2 then some ⟨b, c + 1, none⟩ else some ⟨b, c + 1 + 2, none⟩, L ++ [⟨2, v0, v1, 0, 0, 0⟩], ⟨by omega, by simp; omega, fun h => ?_, ?_⟩, by omega, ?_⟩
        · rw [if_neg (by omega)]
        · simpa [bsL, Nat.add_comm, Nat.add_left_comm, Nat.add_assoc] using hn
        · refine Le_move 5 1 rfl rfl rfl rfl ?_
          conv => whnf
          ((refine Le_head ?_); (conv => whnf); (refine Le_mk (by rfl) (by rfl) ?_ ?_); (· (repeat (first | (with_reducible exact frLe_nil) | (with_reducible refine frLe_any ?_) | (with_reducible refine frLe_val ?_) | ((with_reducible refine frLe_eq rfl ?_ ?_); (· rfl)) | ((with_reducible refine frLe_val' (int_eq ?_) ?_ ?_); (· omega); (· rfl)) | ((with_reducible refine frLe_val' (int_eq ?_) ?_ ?_); (· simp only [Int.natCast_add, Int.natCast_one, Int.natCast_ofNat] <;> omega); (· rfl)) | ((with_reducible refine frLe_val' (bool_eq ?_) ?_ ?_); (· first | assumption | (symm; assumption)); (· rfl))))))
          exact hpLe_cells (by (repeat (first | (with_reducible exact frLe_nil) | (with_reducible refine frLe_any ?_) | (with_reducible refine frLe_val ?_) | ((with_reducible refine frLe_eq rfl ?_ ?_); (· rfl)) | ((with_reducible refine frLe_val' (int_eq ?_) ?_ ?_); (· omega); (· rfl)) | ((with_reducible refine frLe_val' (int_eq ?_) ?_ ?_); (· simp only [Int.natCast_add, Int.natCast_one, Int.natCast_ofNat] <;> omega); (· rfl)) | ((with_reducible refine frLe_val' (bool_eq ?_) ?_ ?_); (· first | assumption | (symm; assumption)); (· rfl))))) (hpLe_own (by simp) (by rw [flat_snoc]) hpLe_nil)
      by_cases k3 : kindW w.data.toList = 3
      · have e : w.data.toList = [113] := by
          unfold kindW at k3
          repeat' split at k3
          all_goals first | assumption | omega
        have f1 := word_not (s := w) (k := 109) (by rw [e]; simp)
        have f2 := word_not (s := w) (k := 108) (by rw [e]; simp)
        have f3 := word_is e
        have hmany : manyW (kindW w.data.toList) = 5 := by rw [k3]; rfl
        by_cases hlen : Ws.length < c + 1 + 5
        · have hn := hR.bad (by rw [hmany]; exact fun h => by have := (h 4 (by omega)).1; rw [left_len] at this; omega)
          subst hn
          clear k0 k4 hR hR' e hb hT hmany k3 k1 k2
          (repeat ((try (conv => whnf)); (first | (refine OldCells_one _ hcw ?_) | (with_reducible refine condP_true ?_) | (with_reducible refine condP_false ?_) | (with_reducible refine condP_not ?_) | (with_reducible refine condP_and ?_) | ((with_reducible refine condP_dt ?_ ?_); (· omega)) | ((with_reducible refine condP_df ?_ ?_); (· omega)) | ((with_reducible refine condP_yes ?_ ?_); (· assumption)) | ((with_reducible refine condP_no ?_ ?_); (· assumption)) | ((with_reducible refine ArP_i64 ?_ ?_); (· omega)) | ((with_reducible refine mustP.mk ?_ ?_); (· first | omega | rfl | (dsimp only; omega))) | (with_reducible refine EqP_nil tab_ok ?_) | (with_reducible refine EqP_sli tab_ok ?_) | (with_reducible refine DrawP_auto tab_ok (by kernel_rfl) (by decide +kernel) ?_) | (with_reducible refine DrawP_auto2 tab_ok (by kernel_rfl) (by decide +kernel) ?_) | (with_reducible refine eq45 ?_) | (with_reducible refine eq62 ?_) | (with_reducible refine eq100 ?_) | (with_reducible refine CallP_enter tab_ok Tryd.func15 (fun vs w => by kernel_rfl) (by rfl) ?_))))
          conv => whnf
        have hw0 := hb (c + 1 + 0) (by omega)
        have hl0 := hWs (c + 1 + 0) (by omega)
        have hx0 := left_get (Ws := Ws) (a := c + 1) (i := 0) (by omega)
        generalize Ws[c + 1 + 0] = w0 at hw0 hx0 hl0
        have hw1 := hb (c + 1 + 1) (by omega)
        have hl1 := hWs (c + 1 + 1) (by omega)
        have hx1 := left_get (Ws := Ws) (a := c + 1) (i := 1) (by omega)
        generalize Ws[c + 1 + 1] = w1 at hw1 hx1 hl1
        have hw2 := hb (c + 1 + 2) (by omega)
        have hl2 := hWs (c + 1 + 2) (by omega)
        have hx2 := left_get (Ws := Ws) (a := c + 1) (i := 2) (by omega)
        generalize Ws[c + 1 + 2] = w2 at hw2 hx2 hl2
        have hw3 := hb (c + 1 + 3) (by omega)
        have hl3 := hWs (c + 1 + 3) (by omega)
        have hx3 := left_get (Ws := Ws) (a := c + 1) (i := 3) (by omega)
        generalize Ws[c + 1 + 3] = w3 at hw3 hx3 hl3
        have hw4 := hb (c + 1 + 4) (by omega)
        have hl4 := hWs (c + 1 + 4) (by omega)
        have hx4 := left_get (Ws := Ws) (a := c + 1) (i := 4) (by omega)
        generalize Ws[c + 1 + 4] = w4 at hw4 hx4 hl4
        by_cases o0 : numOK w0.data.toList
        rotate_left
        · skip
          have hn := hR.bad (by rw [hmany]; exact fun h => by have := (h 0 (by omega)).2; rw [hx0] at this; exact o0 this)
          subst hn
          have g0 := number_bad (G := G1) (by omega) o0
          clear o0 hx0 hx1 hx2 hx3 hx4
          clear k0 k4 hR hR' e hb hT hmany k3 k1 k2
          (repeat ((try (conv => whnf)); (first | (refine OldCells_one _ hcw ?_) | (with_reducible refine condP_true ?_) | (with_reducible refine condP_false ?_) | (with_reducible refine condP_not ?_) | (with_reducible refine condP_and ?_) | ((with_reducible refine condP_dt ?_ ?_); (· omega)) | ((with_reducible refine condP_df ?_ ?_); (· omega)) | ((with_reducible refine condP_yes ?_ ?_); (· assumption)) | ((with_reducible refine condP_no ?_ ?_); (· assumption)) | ((with_reducible refine ArP_i64 ?_ ?_); (· omega)) | ((with_reducible refine mustP.mk ?_ ?_); (· first | omega | rfl | (dsimp only; omega))) | (with_reducible refine EqP_nil tab_ok ?_) | (with_reducible refine EqP_sli tab_ok ?_) | (with_reducible refine DrawP_auto tab_ok (by kernel_rfl) (by decide +kernel) ?_) | (with_reducible refine DrawP_auto2 tab_ok (by kernel_rfl) (by decide +kernel) ?_) | (with_reducible refine eq45 ?_) | (with_reducible refine eq62 ?_) | (with_reducible refine eq100 ?_))))
          conv => whnf
          rw [if_neg (show ¬ C - c = Int.toNat 1 from fun h => by have h : C - c = 1 := h; omega)]
          (repeat ((try (conv => whnf)); (first | (first | (refine OldCells_one _ hw0 ?_) | (refine OldCells_one _ hw1 ?_) | (refine OldCells_one _ hw2 ?_) | (refine OldCells_one _ hw3 ?_) | (refine OldCells_one _ hw4 ?_)) | (with_reducible refine LoopP_step tab_ok ?_) | (with_reducible refine condP_true ?_) | (with_reducible refine condP_false ?_) | (with_reducible refine condP_not ?_) | (with_reducible refine condP_and ?_) | ((with_reducible refine condP_dt ?_ ?_); (· omega)) | ((with_reducible refine condP_df ?_ ?_); (· omega)) | ((with_reducible refine condP_yes ?_ ?_); (· assumption)) | ((with_reducible refine condP_no ?_ ?_); (· assumption)) | ((with_reducible refine ArP_i64 ?_ ?_); (· omega)) | ((with_reducible refine mustP.mk ?_ ?_); (· first | omega | rfl | (dsimp only; omega))) | (with_reducible refine EqP_nil tab_ok ?_) | (with_reducible refine EqP_sli tab_ok ?_) | (with_reducible refine DrawP_auto tab_ok (by kernel_rfl) (by decide +kernel) ?_) | (with_reducible refine DrawP_auto2 tab_ok (by kernel_rfl) (by decide +kernel) ?_) | (with_reducible refine eq45 ?_) | (with_reducible refine eq62 ?_) | (with_reducible refine eq100 ?_) | (with_reducible refine CallP_enter tab_ok Tryd.func15 (fun vs w => by kernel_rfl) (by rfl) ?_) | (with_reducible refine CallP_gives (fun vs w => by kernel_rfl) (by kernel_rfl) (g0) ?_) | (with_reducible refine RCallP_gives (fun vs w => by kernel_rfl) (by kernel_rfl) (g0) ?_))))
          conv => whnf
        have g0 := number_good (G := G1) (by omega) o0
        by_cases o1 : numOK w1.data.toList
        rotate_left
        · skip
          have hn := hR.bad (by rw [hmany]; exact fun h => by have := (h 1 (by omega)).2; rw [hx1] at this; exact o1 this)
          subst hn
          have g1 := number_bad (G := G1) (by omega) o1
          clear o1 hx0 hx1 hx2 hx3 hx4
          clear k0 k4 hR hR' e hb hT hmany k3 k1 k2
          (repeat ((try (conv => whnf)); (first | (refine OldCells_one _ hcw ?_) | (with_reducible refine condP_true ?_) | (with_reducible refine condP_false ?_) | (with_reducible refine condP_not ?_) | (with_reducible refine condP_and ?_) | ((with_reducible refine condP_dt ?_ ?_); (· omega)) | ((with_reducible refine condP_df ?_ ?_); (· omega)) | ((with_reducible refine condP_yes ?_ ?_); (· assumption)) | ((with_reducible refine condP_no ?_ ?_); (· assumption)) | ((with_reducible refine ArP_i64 ?_ ?_); (· omega)) | ((with_reducible refine mustP.mk ?_ ?_); (· first | omega | rfl | (dsimp only; omega))) | (with_reducible refine EqP_nil tab_ok ?_) | (with_reducible refine EqP_sli tab_ok ?_) | (with_reducible refine DrawP_auto tab_ok (by kernel_rfl) (by decide +kernel) ?_) | (with_reducible refine DrawP_auto2 tab_ok (by kernel_rfl) (by decide +kernel) ?_) | (with_reducible refine eq45 ?_) | (with_reducible refine eq62 ?_) | (with_reducible refine eq100 ?_))))
          conv => whnf
          rw [if_neg (show ¬ C - c = Int.toNat 1 from fun h => by have h : C - c = 1 := h; omega)]
          (repeat ((try (conv => whnf)); (first | (first | (refine OldCells_one _ hw0 ?_) | (refine OldCells_one _ hw1 ?_) | (refine OldCells_one _ hw2 ?_) | (refine OldCells_one _ hw3 ?_) | (refine OldCells_one _ hw4 ?_)) | (with_reducible refine LoopP_step tab_ok ?_) | (with_reducible refine condP_true ?_) | (with_reducible refine condP_false ?_) | (with_reducible refine condP_not ?_) | (with_reducible refine condP_and ?_) | ((with_reducible refine condP_dt ?_ ?_); (· omega)) | ((with_reducible refine condP_df ?_ ?_); (· omega)) | ((with_reducible refine condP_yes ?_ ?_); (· assumption)) | ((with_reducible refine condP_no ?_ ?_); (· assumption)) | ((with_reducible refine ArP_i64 ?_ ?_); (· omega)) | ((with_reducible refine mustP.mk ?_ ?_); (· first | omega | rfl | (dsimp only; omega))) | (with_reducible refine EqP_nil tab_ok ?_) | (with_reducible refine EqP_sli tab_ok ?_) | (with_reducible refine DrawP_auto tab_ok (by kernel_rfl) (by decide +kernel) ?_) | (with_reducible refine DrawP_auto2 tab_ok (by kernel_rfl) (by decide +kernel) ?_) | (with_reducible refine eq45 ?_) | (with_reducible refine eq62 ?_) | (with_reducible refine eq100 ?_) | (with_reducible refine CallP_enter tab_ok Tryd.func15 (fun vs w => by kernel_rfl) (by rfl) ?_) | (with_reducible refine CallP_gives (fun vs w => by kernel_rfl) (by kernel_rfl) (g0) ?_) | (with_reducible refine RCallP_gives (fun vs w => by kernel_rfl) (by kernel_rfl) (g0) ?_) | (with_reducible refine CallP_gives (fun vs w => by kernel_rfl) (by kernel_rfl) (g1) ?_) | (with_reducible refine RCallP_gives (fun vs w => by kernel_rfl) (by kernel_rfl) (g1) ?_))))
          conv => whnf
        have g1 := number_good (G := G1) (by omega) o1
        by_cases o2 : numOK w2.data.toList
        rotate_left
        · skip
          have hn := hR.bad (by rw [hmany]; exact fun h => by have := (h 2 (by omega)).2; rw [hx2] at this; exact o2 this)
          subst hn
          have g2 := number_bad (G := G1) (by omega) o2
          clear o2 hx0 hx1 hx2 hx3 hx4
          clear k0 k4 hR hR' e hb hT hmany k3 k1 k2
          (repeat ((try (conv => whnf)); (first | (refine OldCells_one _ hcw ?_) | (with_reducible refine condP_true ?_) | (with_reducible refine condP_false ?_) | (with_reducible refine condP_not ?_) | (with_reducible refine condP_and ?_) | ((with_reducible refine condP_dt ?_ ?_); (· omega)) | ((with_reducible refine condP_df ?_ ?_); (· omega)) | ((with_reducible refine condP_yes ?_ ?_); (· assumption)) | ((with_reducible refine condP_no ?_ ?_); (· assumption)) | ((with_reducible refine ArP_i64 ?_ ?_); (· omega)) | ((with_reducible refine mustP.mk ?_ ?_); (· first | omega | rfl | (dsimp only; omega))) | (with_reducible refine EqP_nil tab_ok ?_) | (with_reducible refine EqP_sli tab_ok ?_) | (with_reducible refine DrawP_auto tab_ok (by kernel_rfl) (by decide +kernel) ?_) | (with_reducible refine DrawP_auto2 tab_ok (by kernel_rfl) (by decide +kernel) ?_) | (with_reducible refine eq45 ?_) | (with_reducible refine eq62 ?_) | (with_reducible refine eq100 ?_))))
          conv => whnf
          rw [if_neg (show ¬ C - c = Int.toNat 1 from fun h => by have h : C - c = 1 := h; omega)]
          (repeat ((try (conv => whnf)); (first | (first | (refine OldCells_one _ hw0 ?_) | (refine OldCells_one _ hw1 ?_) | (refine OldCells_one _ hw2 ?_) | (refine OldCells_one _ hw3 ?_) | (refine OldCells_one _ hw4 ?_)) | (with_reducible refine LoopP_step tab_ok ?_) | (with_reducible refine condP_true ?_) | (with_reducible refine condP_false ?_) | (with_reducible refine condP_not ?_) | (with_reducible refine condP_and ?_) | ((with_reducible refine condP_dt ?_ ?_); (· omega)) | ((with_reducible refine condP_df ?_ ?_); (· omega)) | ((with_reducible refine condP_yes ?_ ?_); (· assumption)) | ((with_reducible refine condP_no ?_ ?_); (· assumption)) | ((with_reducible refine ArP_i64 ?_ ?_); (· omega)) | ((with_reducible refine mustP.mk ?_ ?_); (· first | omega | rfl | (dsimp only; omega))) | (with_reducible refine EqP_nil tab_ok ?_) | (with_reducible refine EqP_sli tab_ok ?_) | (with_reducible refine DrawP_auto tab_ok (by kernel_rfl) (by decide +kernel) ?_) | (with_reducible refine DrawP_auto2 tab_ok (by kernel_rfl) (by decide +kernel) ?_) | (with_reducible refine eq45 ?_) | (with_reducible refine eq62 ?_) | (with_reducible refine eq100 ?_) | (with_reducible refine CallP_enter tab_ok Tryd.func15 (fun vs w => by kernel_rfl) (by rfl) ?_) | (with_reducible refine CallP_gives (fun vs w => by kernel_rfl) (by kernel_rfl) (g0) ?_) | (with_reducible refine RCallP_gives (fun vs w => by kernel_rfl) (by kernel_rfl) (g0) ?_) | (with_reducible refine CallP_gives (fun vs w => by kernel_rfl) (by kernel_rfl) (g1) ?_) | (with_reducible refine RCallP_gives (fun vs w => by kernel_rfl) (by kernel_rfl) (g1) ?_) | (with_reducible refine CallP_gives (fun vs w => by kernel_rfl) (by kernel_rfl) (g2) ?_) | (with_reducible refine RCallP_gives (fun vs w => by kernel_rfl) (by kernel_rfl) (g2) ?_))))
          conv => whnf
        have g2 := number_good (G := G1) (by omega) o2
        by_cases o3 : numOK w3.data.toList
        rotate_left
        · skip
          have hn := hR.bad (by rw [hmany]; exact fun h => by have := (h 3 (by omega)).2; rw [hx3] at this; exact o3 this)
          subst hn
          have g3 := number_bad (G := G1) (by omega) o3
          clear o3 hx0 hx1 hx2 hx3 hx4
          clear k0 k4 hR hR' e hb hT hmany k3 k1 k2
          (repeat ((try (conv => whnf)); (first | (refine OldCells_one _ hcw ?_) | (with_reducible refine condP_true ?_) | (with_reducible refine condP_false ?_) | (with_reducible refine condP_not ?_) | (with_reducible refine condP_and ?_) | ((with_reducible refine condP_dt ?_ ?_); (· omega)) | ((with_reducible refine condP_df ?_ ?_); (· omega)) | ((with_reducible refine condP_yes ?_ ?_); (· assumption)) | ((with_reducible refine condP_no ?_ ?_); (· assumption)) | ((with_reducible refine ArP_i64 ?_ ?_); (· omega)) | ((with_reducible refine mustP.mk ?_ ?_); (· first | omega | rfl | (dsimp only; omega))) | (with_reducible refine EqP_nil tab_ok ?_) | (with_reducible refine EqP_sli tab_ok ?_) | (with_reducible refine DrawP_auto tab_ok (by kernel_rfl) (by decide +kernel) ?_) | (with_reducible refine DrawP_auto2 tab_ok (by kernel_rfl) (by decide +kernel) ?_) | (with_reducible refine eq45 ?_) | (with_reducible refine eq62 ?_) | (with_reducible refine eq100 ?_))))
          conv => whnf
          rw [if_neg (show ¬ C - c = Int.toNat 1 from fun h => by have h : C - c = 1 := h; omega)]
          (repeat ((try (conv => whnf)); (first | (first | (refine OldCells_one _ hw0 ?_) | (refine OldCells_one _ hw1 ?_) | (refine OldCells_one _ hw2 ?_) | (refine OldCells_one _ hw3 ?_) | (refine OldCells_one _ hw4 ?_)) | (with_reducible refine LoopP_step tab_ok ?_) | (with_reducible refine condP_true ?_) | (with_reducible refine condP_false ?_) | (with_reducible refine condP_not ?_) | (with_reducible refine condP_and ?_) | ((with_reducible refine condP_dt ?_ ?_); (· omega)) | ((with_reducible refine condP_df ?_ ?_); (· omega)) | ((with_reducible refine condP_yes ?_ ?_); (· assumption)) | ((with_reducible refine condP_no ?_ ?_); (· assumption)) | ((with_reducible refine ArP_i64 ?_ ?_); (· omega)) | ((with_reducible refine mustP.mk ?_ ?_); (· first | omega | rfl | (dsimp only; omega))) | (with_reducible refine EqP_nil tab_ok ?_) | (with_reducible refine EqP_sli tab_ok ?_) | (with_reducible refine DrawP_auto tab_ok (by kernel_rfl) (by decide +kernel) ?_) | (with_reducible refine DrawP_auto2 tab_ok (by kernel_rfl) (by decide +kernel) ?_) | (with_reducible refine eq45 ?_) | (with_reducible refine eq62 ?_) | (with_reducible refine eq100 ?_) | (with_reducible refine CallP_enter tab_ok Tryd.func15 (fun vs w => by kernel_rfl) (by rfl) ?_) | (with_reducible refine CallP_gives (fun vs w => by kernel_rfl) (by kernel_rfl) (g0) ?_) | (with_reducible refine RCallP_gives (fun vs w => by kernel_rfl) (by kernel_rfl) (g0) ?_) | (with_reducible refine CallP_gives (fun vs w => by kernel_rfl) (by kernel_rfl) (g1) ?_) | (with_reducible refine RCallP_gives (fun vs w => by kernel_rfl) (by kernel_rfl) (g1) ?_) | (with_reducible refine CallP_gives (fun vs w => by kernel_rfl) (by kernel_rfl) (g2) ?_) | (with_reducible refine RCallP_gives (fun vs w => by kernel_rfl) (by kernel_rfl) (g2) ?_) | (with_reducible refine CallP_gives (fun vs w => by kernel_rfl) (by kernel_rfl) (g3) ?_) | (with_reducible refine RCallP_gives (fun vs w => by kernel_rfl) (by kernel_rfl) (g3) ?_))))
          conv => whnf
        have g3 := number_good (G := G1) (by omega) o3
        by_cases o4 : numOK w4.data.toList
        rotate_left
        · skip
          have hn := hR.bad (by rw [hmany]; exact fun h => by have := (h 4 (by omega)).2; rw [hx4] at this; exact o4 this)
          subst hn
          have g4 := number_bad (G := G1) (by omega) o4
          clear o4 hx0 hx1 hx2 hx3 hx4
          clear k0 k4 hR hR' e hb hT hmany k3 k1 k2
          (repeat ((try (conv => whnf)); (first | (refine OldCells_one _ hcw ?_) | (with_reducible refine condP_true ?_) | (with_reducible refine condP_false ?_) | (with_reducible refine condP_not ?_) | (with_reducible refine condP_and ?_) | ((with_reducible refine condP_dt ?_ ?_); (· omega)) | ((with_reducible refine condP_df ?_ ?_); (· omega)) | ((with_reducible refine condP_yes ?_ ?_); (· assumption)) | ((with_reducible refine condP_no ?_ ?_); (· assumption)) | ((with_reducible refine ArP_i64 ?_ ?_); (· omega)) | ((with_reducible refine mustP.mk ?_ ?_); (· first | omega | rfl | (dsimp only; omega))) | (with_reducible refine EqP_nil tab_ok ?_) | (with_reducible refine EqP_sli tab_ok ?_) | (with_reducible refine DrawP_auto tab_ok (by kernel_rfl) (by decide +kernel) ?_) | (with_reducible refine DrawP_auto2 tab_ok (by kernel_rfl) (by decide +kernel) ?_) | (with_reducible refine eq45 ?_) | (with_reducible refine eq62 ?_) | (with_reducible refine eq100 ?_))))
          conv => whnf
          rw [if_neg (show ¬ C - c = Int.toNat 1 from fun h => by have h : C - c = 1 := h; omega)]
          (repeat ((try (conv => whnf)); (first | (first | (refine OldCells_one _ hw0 ?_) | (refine OldCells_one _ hw1 ?_) | (refine OldCells_one _ hw2 ?_) | (refine OldCells_one _ hw3 ?_) | (refine OldCells_one _ hw4 ?_)) | (with_reducible refine LoopP_step tab_ok ?_) | (with_reducible refine condP_true ?_) | (with_reducible refine condP_false ?_) | (with_reducible refine condP_not ?_) | (with_reducible refine condP_and ?_) | ((with_reducible refine condP_dt ?_ ?_); (· omega)) | ((with_reducible refine condP_df ?_ ?_); (· omega)) | ((with_reducible refine condP_yes ?_ ?_); (· assumption)) | ((with_reducible refine condP_no ?_ ?_); (· assumption)) | ((with_reducible refine ArP_i64 ?_ ?_); (· omega)) | ((with_reducible refine mustP.mk ?_ ?_); (· first | omega | rfl | (dsimp only; omega))) | (with_reducible refine EqP_nil tab_ok ?_) | (with_reducible refine EqP_sli tab_ok ?_) | (with_reducible refine DrawP_auto tab_ok (by kernel_rfl) (by decide +kernel) ?_) | (with_reducible refine DrawP_auto2 tab_ok (by kernel_rfl) (by decide +kernel) ?_) | (with_reducible refine eq45 ?_) | (with_reducible refine eq62 ?_) | (with_reducible refine eq100 ?_) | (with_reducible refine CallP_enter tab_ok Tryd.func15 (fun vs w => by kernel_rfl) (by rfl) ?_) | (with_reducible refine CallP_gives (fun vs w => by kernel_rfl) (by kernel_rfl) (g0) ?_) | (with_reducible refine RCallP_gives (fun vs w => by kernel_rfl) (by kernel_rfl) (g0) ?_) | (with_reducible refine CallP_gives (fun vs w => by kernel_rfl) (by kernel_rfl) (g1) ?_) | (with_reducible refine RCallP_gives (fun vs w => by kernel_rfl) (by kernel_rfl) (g1) ?_) | (with_reducible refine CallP_gives (fun vs w => by kernel_rfl) (by kernel_rfl) (g2) ?_) | (with_reducible refine RCallP_gives (fun vs w => by kernel_rfl) (by kernel_rfl) (g2) ?_) | (with_reducible refine CallP_gives (fun vs w => by kernel_rfl) (by kernel_rfl) (g3) ?_) | (with_reducible refine RCallP_gives (fun vs w => by kernel_rfl) (by kernel_rfl) (g3) ?_) | (with_reducible refine CallP_gives (fun vs w => by kernel_rfl) (by kernel_rfl) (g4) ?_) | (with_reducible refine RCallP_gives (fun vs w => by kernel_rfl) (by kernel_rfl) (g4) ?_))))
          conv => whnf
        have g4 := number_good (G := G1) (by omega) o4
        have hn := hR.seg k0 (by rw [hmany]; intro i hi; rw [left_len]; refine ⟨by omega, ?_⟩; match i, hi with
          | 0, _ => rw [hx0]; exact o0
          | 1, _ => rw [hx1]; exact o1
          | 2, _ => rw [hx2]; exact o2
          | 3, _ => rw [hx3]; exact o3
          | 4, _ => rw [hx4]; exact o4)
        rw [hmany, k3] at hn
        simp only [segP, hx0, hx1, hx2, hx3, hx4] at hn
        clear o0 o1 o2 o3 o4 hx0 hx1 hx2 hx3 hx4
        generalize numV w0.data.toList = v0 at *
        generalize numV w1.data.toList = v1 at *
        generalize numV w2.data.toList = v2 at *
        generalize numV w3.data.toList = v3 at *
        generalize numV w4.data.toList = v4 at *
        clear k0 k4 hR hR' e hb hT hmany k3 k1 k2
        (repeat ((try (conv => whnf)); (first | (refine OldCells_one _ hcw ?_) | (with_reducible refine condP_true ?_) | (with_reducible refine condP_false ?_) | (with_reducible refine condP_not ?_) | (with_reducible refine condP_and ?_) | ((with_reducible refine condP_dt ?_ ?_); (· omega)) | ((with_reducible refine condP_df ?_ ?_); (· omega)) | ((with_reducible refine condP_yes ?_ ?_); (· assumption)) | ((with_reducible refine condP_no ?_ ?_); (· assumption)) | ((with_reducible refine ArP_i64 ?_ ?_); (· omega)) | ((with_reducible refine mustP.mk ?_ ?_); (· first | omega | rfl | (dsimp only; omega))) | (with_reducible refine EqP_nil tab_ok ?_) | (with_reducible refine EqP_sli tab_ok ?_) | (with_reducible refine DrawP_auto tab_ok (by kernel_rfl) (by decide +kernel) ?_) | (with_reducible refine DrawP_auto2 tab_ok (by kernel_rfl) (by decide +kernel) ?_) | (with_reducible refine eq45 ?_) | (with_reducible refine eq62 ?_) | (with_reducible refine eq100 ?_))))
        conv => whnf
        rw [if_neg (show ¬ C - c = Int.toNat 1 from fun h => by have h : C - c = 1 := h; omega)]
        (repeat ((try (conv => whnf)); (first | (first | (refine OldCells_one _ hw0 ?_) | (refine OldCells_one _ hw1 ?_) | (refine OldCells_one _ hw2 ?_) | (refine OldCells_one _ hw3 ?_) | (refine OldCells_one _ hw4 ?_)) | (with_reducible refine LoopP_step tab_ok ?_) | (with_reducible refine condP_true ?_) | (with_reducible refine condP_false ?_) | (with_reducible refine condP_not ?_) | (with_reducible refine condP_and ?_) | ((with_reducible refine condP_dt ?_ ?_); (· omega)) | ((with_reducible refine condP_df ?_ ?_); (· omega)) | ((with_reducible refine condP_yes ?_ ?_); (· assumption)) | ((with_reducible refine condP_no ?_ ?_); (· assumption)) | ((with_reducible refine ArP_i64 ?_ ?_); (· omega)) | ((with_reducible refine mustP.mk ?_ ?_); (· first | omega | rfl | (dsimp only; omega))) | (with_reducible refine EqP_nil tab_ok ?_) | (with_reducible refine EqP_sli tab_ok ?_) | (with_reducible refine DrawP_auto tab_ok (by kernel_rfl) (by decide +kernel) ?_) | (with_reducible refine DrawP_auto2 tab_ok (by kernel_rfl) (by decide +kernel) ?_) | (with_reducible refine eq45 ?_) | (with_reducible refine eq62 ?_) | (with_reducible refine eq100 ?_) | (with_reducible refine CallP_enter tab_ok Tryd.func15 (fun vs w => by kernel_rfl) (by rfl) ?_) | (with_reducible refine CallP_gives (fun vs w => by kernel_rfl) (by kernel_rfl) (g0) ?_) | (with_reducible refine RCallP_gives (fun vs w => by kernel_rfl) (by kernel_rfl) (g0) ?_) | (with_reducible refine CallP_gives (fun vs w => by kernel_rfl) (by kernel_rfl) (g1) ?_) | (with_reducible refine RCallP_gives (fun vs w => by kernel_rfl) (by kernel_rfl) (g1) ?_) | (with_reducible refine CallP_gives (fun vs w => by kernel_rfl) (by kernel_rfl) (g2) ?_) | (with_reducible refine RCallP_gives (fun vs w => by kernel_rfl) (by kernel_rfl) (g2) ?_) | (with_reducible refine CallP_gives (fun vs w => by kernel_rfl) (by kernel_rfl) (g3) ?_) | (with_reducible refine RCallP_gives (fun vs w => by kernel_rfl) (by kernel_rfl) (g3) ?_) | (with_reducible refine CallP_gives (fun vs w => by kernel_rfl) (by kernel_rfl) (g4) ?_) | (with_reducible refine RCallP_gives (fun vs w => by kernel_rfl) (by kernel_rfl) (g4) ?_))))
        conv => whnf
        refine ⟨c + 1 + 5, if C - c - 1 = 5 then some ⟨b, c + 1, none⟩ else some ⟨b, c + 1 + 5, none⟩, L ++ [⟨3, v2, v3, v0, v1, v4⟩], ⟨by omega, by simp; omega, fun h => ?_, ?_⟩, by omega, ?_⟩
        · rw [if_neg (by omega)]
        · simpa [bsL, Nat.add_comm, Nat.add_left_comm, Nat.add_assoc] using hn
        · refine Le_move 5 1 rfl rfl rfl rfl ?_
          conv => whnf
          ((refine Le_head ?_); (conv => whnf); (refine Le_mk (by rfl) (by rfl) ?_ ?_); (· (repeat (first | (with_reducible exact frLe_nil) | (with_reducible refine frLe_any ?_) | (with_reducible refine frLe_val ?_) | ((with_reducible refine frLe_eq rfl ?_ ?_); (· rfl)) | ((with_reducible refine frLe_val' (int_eq ?_) ?_ ?_); (· omega); (· rfl)) | ((with_reducible refine frLe_val' (int_eq ?_) ?_ ?_); (· simp only [Int.natCast_add, Int.natCast_one, Int.natCast_ofNat] <;> omega); (· rfl)) | ((with_reducible refine frLe_val' (bool_eq ?_) ?_ ?_); (· first | assumption | (symm; assumption)); (· rfl))))))
          exact hpLe_cells (by (repeat (first | (with_reducible exact frLe_nil) | (with_reducible refine frLe_any ?_) | (with_reducible refine frLe_val ?_) | ((with_reducible refine frLe_eq rfl ?_ ?_); (· rfl)) | ((with_reducible refine frLe_val' (int_eq ?_) ?_ ?_); (· omega); (· rfl)) | ((with_reducible refine frLe_val' (int_eq ?_) ?_ ?_); (· simp only [Int.natCast_add, Int.natCast_one, Int.natCast_ofNat] <;> omega); (· rfl)) | ((with_reducible refine frLe_val' (bool_eq ?_) ?_ ?_); (· first | assumption | (symm; assumption)); (· rfl))))) (hpLe_own (by simp) (by rw [flat_snoc]) hpLe_nil)
      exact absurd k0 (fun h => by
        unfold kindW at h k1 k2 k3 k4
        repeat' split at h
        all_goals first | omega | simp_all)
    · obtain rfl : c = Ws.length := by omega
      rw [List.drop_length] at hR
      have hT2 := hR.done
      subst hT2
      clear hb hT hR
      (repeat ((try (conv => whnf)); (first | (with_reducible refine condP_true ?_) | (with_reducible refine condP_false ?_) | (with_reducible refine condP_not ?_) | (with_reducible refine condP_and ?_) | ((with_reducible refine condP_dt ?_ ?_); (· omega)) | ((with_reducible refine condP_df ?_ ?_); (· omega)) | ((with_reducible refine condP_yes ?_ ?_); (· assumption)) | ((with_reducible refine condP_no ?_ ?_); (· assumption)) | ((with_reducible refine ArP_i64 ?_ ?_); (· omega)) | ((with_reducible refine mustP.mk ?_ ?_); (· first | omega | rfl | (dsimp only; omega))) | (with_reducible refine EqP_nil tab_ok ?_) | (with_reducible refine EqP_sli tab_ok ?_) | (with_reducible refine DrawP_auto tab_ok (by kernel_rfl) (by decide +kernel) ?_) | (with_reducible refine DrawP_auto2 tab_ok (by kernel_rfl) (by decide +kernel) ?_) | (with_reducible refine eq45 ?_) | (with_reducible refine eq62 ?_) | (with_reducible refine eq100 ?_))))
      conv => whnf
      have gp := fun A cap G' (hG : G1.le G') (hc : L.length ≤ cap) (hm : cap ≤ maxLen) (hr : RowM G' A (flatC (segC L) L.length)) => PCheck_gives (c := cap) (S := segsF L) (rowEls (sz := 6) (c := segC L) (fun _ _ => rfl) hr (by omega)) (Nat.le_trans hc hm)
      refine CallP_lend (fun vs w => by kernel_rfl) rfl (by kernel_rfl) gp ?_
      by_cases hp : pathE (segsF L) L.length = 0
      · rw [hp]
        clear gp
        (repeat ((try (conv => whnf)); (first | (with_reducible refine condP_true ?_) | (with_reducible refine condP_false ?_) | (with_reducible refine condP_not ?_) | (with_reducible refine condP_and ?_) | ((with_reducible refine condP_dt ?_ ?_); (· omega)) | ((with_reducible refine condP_df ?_ ?_); (· omega)) | ((with_reducible refine condP_yes ?_ ?_); (· assumption)) | ((with_reducible refine condP_no ?_ ?_); (· assumption)) | ((with_reducible refine ArP_i64 ?_ ?_); (· omega)) | ((with_reducible refine mustP.mk ?_ ?_); (· first | omega | rfl | (dsimp only; omega))) | (with_reducible refine EqP_nil tab_ok ?_) | (with_reducible refine EqP_sli tab_ok ?_) | (with_reducible refine DrawP_auto tab_ok (by kernel_rfl) (by decide +kernel) ?_) | (with_reducible refine DrawP_auto2 tab_ok (by kernel_rfl) (by decide +kernel) ?_) | (with_reducible refine eq45 ?_) | (with_reducible refine eq62 ?_) | (with_reducible refine eq100 ?_))))
        conv => whnf
        exact .inr ⟨hp, .inl ⟨1, rfl, rfl⟩⟩
      · have hpe : ¬ pathE (segsF L) L.length = 0 := hp
        clear gp
        generalize hPE : pathE (segsF L) L.length = E at *
        (repeat ((try (conv => whnf)); (first | (with_reducible refine condP_true ?_) | (with_reducible refine condP_false ?_) | (with_reducible refine condP_not ?_) | (with_reducible refine condP_and ?_) | ((with_reducible refine condP_dt ?_ ?_); (· omega)) | ((with_reducible refine condP_df ?_ ?_); (· omega)) | ((with_reducible refine condP_yes ?_ ?_); (· assumption)) | ((with_reducible refine condP_no ?_ ?_); (· assumption)) | ((with_reducible refine ArP_i64 ?_ ?_); (· omega)) | ((with_reducible refine mustP.mk ?_ ?_); (· first | omega | rfl | (dsimp only; omega))) | (with_reducible refine EqP_nil tab_ok ?_) | (with_reducible refine EqP_sli tab_ok ?_) | (with_reducible refine DrawP_auto tab_ok (by kernel_rfl) (by decide +kernel) ?_) | (with_reducible refine DrawP_auto2 tab_ok (by kernel_rfl) (by decide +kernel) ?_) | (with_reducible refine eq45 ?_) | (with_reducible refine eq62 ?_) | (with_reducible refine eq100 ?_))))
        conv => whnf
        exact .inl ⟨by rw [hPE]; exact hp, by rw [hPE]⟩
end
end Go.Proofs.YtdakcfggecpjjaaDoor
