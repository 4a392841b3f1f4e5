/-
  The reference's PathParse: the walk (printed by mkparse2.py).
-/
import Derived.Test.YtdakcfggecpjjaaDoorParse1
import Derived.Test.YtdakcfggecpjjaaDoorParseDig
namespace Go.Proofs.YtdakcfggecpjjaaDoor
open Go.RowKit
set_option linter.unusedVariables false
set_option linter.unusedSimpArgs false
set_option maxRecDepth 20000
/-- The words behind the one that ends at a. -/
def restW (l : List UInt8) (a : Nat) : List (List UInt8) := if a < l.length then sepW (l.drop (a + 1)) else []
theorem sep_rest (l : List UInt8) (a : Nat) (ha : a ≤ l.length) : sepW (l.drop a) = wordAt (l.drop a) :: restW l (a + (wordAt (l.drop a)).length) := by
  rw [sepW_eq (l.drop a), restW, List.length_drop, List.drop_drop]
  by_cases h : (wordAt (l.drop a)).length < l.length - a
  · rw [if_pos h, if_pos (by omega), Nat.add_assoc]
  · rw [if_neg h, if_neg (by omega)]
theorem rest_none {l : List UInt8} {a : Nat} (h : l.length ≤ a) : restW l a = [] := by unfold restW; rw [if_neg (by omega)]
theorem rest_more {l : List UInt8} {a : Nat} (h : a < l.length) : restW l a = wordAt (l.drop (a + 1)) :: restW l (a + 1 + (wordAt (l.drop (a + 1))).length) := by
  rw [restW, if_pos h, sep_rest _ _ (by omega)]
theorem word_end {l : List UInt8} {a : Nat} (h : a + (wordAt (l.drop a)).length < l.length) : l.getD (a + (wordAt (l.drop a)).length) 0 = 32 := by
  rw [← getD_drop]
  exact wordAt_end _ (by rw [List.length_drop]; omega)
theorem word_size {l : List UInt8} {a : Nat} (h : a ≤ l.length) : a + (wordAt (l.drop a)).length ≤ l.length := by
  have := wordAt_le (l.drop a)
  rw [List.length_drop] at this
  omega
theorem nums_nil {k : Nat} : ¬ numsOK (k + 1) [] := fun h => by have := (h 0 (by omega)).1; simp at this
theorem nums_cons {k : Nat} {u : List UInt8} {r : List (List UInt8)} : numsOK (k + 1) (u :: r) ↔ numOK u ∧ numsOK k r := by
  constructor
  · intro h
    exact ⟨(h 0 (by omega)).2, fun i hi => by have := h (i + 1) (by omega); simpa using this⟩
  · rintro ⟨h1, h2⟩ i hi
    match i, hi with
    | 0, _ => exact ⟨by simp, h1⟩
    | i + 1, hi => have := h2 i (by omega); simpa using this
theorem nums_zero {r : List (List UInt8)} : numsOK 0 r := fun i hi => absurd hi (Nat.not_lt_zero _)
theorem kind_cases (w : List UInt8) : kindW w = 0 ∨ kindW w = 1 ∨ kindW w = 2 ∨ kindW w = 3 ∨ kindW w = 4 := by
  unfold kindW; split; simp; split; simp; split; simp; split <;> simp
section
variable {G : Mem} {s : ByteArray}
/-- What digits hands back at the word behind a. -/
theorem digits_at {l : List UInt8} (hl : l = s.data.toList) {a : Nat} (hs : s.size ≤ 100000) (ha : a + 1 ≤ l.length) (P : Int) (hP : P = (a : Int) + 1) :
    (numOK (wordAt (l.drop (a + 1))) ∧ Gives Tryd.prog 18 [.val (.string s), .val (.int .i64 P)] G (.tup [.val (.int .i64 (numV (wordAt (l.drop (a + 1))))), .val (.int .i64 ((a + 1 + (wordAt (l.drop (a + 1))).length : Nat) : Int))])) ∨
    (¬ numOK (wordAt (l.drop (a + 1))) ∧ Gives Tryd.prog 18 [.val (.string s), .val (.int .i64 P)] G (.tup [.val (.int .i64 0), .val (.int .i64 (-1))])) ∨
    (¬ numOK (wordAt (l.drop (a + 1))) ∧ ∃ (v : Int) (e : Nat) (b : UInt8), Gives Tryd.prog 18 [.val (.string s), .val (.int .i64 P)] G (.tup [.val (.int .i64 v), .val (.int .i64 (e : Int))]) ∧ e < l.length ∧ s[Int.toNat (e : Int)]? = some b ∧ b.toNat ≠ 32) := by
  subst hl
  have hP' : P = ((a + 1 : Nat) : Int) := by rw [hP]; push_cast; rfl
  subst hP'
  have hl := size_len s
  have h := digits_gives (G := G) (s := s) (a := a + 1) (by omega) (by omega)
  by_cases ho : numOK (wordAt (s.data.toList.drop (a + 1)))
  · rw [digR_good ho] at h
    exact .inl ⟨ho, h⟩
  · rcases digR_bad ho with e | ⟨v, k, e, hk, hb⟩
    · rw [e] at h
      exact .inr (.inl ⟨ho, h⟩)
    · rw [e] at h
      rw [List.length_drop] at hk
      rw [getD_drop] at hb
      refine .inr (.inr ⟨ho, v, a + 1 + k, _, h, by omega, byte_get (s := s) (i := a + 1 + k) (by omega), fun h9 => hb (UInt8.toNat_inj.1 h9)⟩)
set_option maxHeartbeats 32000000 in
theorem RParse_body (hs : s.size ≤ 100000) {T : Option (List SegD)} (hT : ReadsAs s.data.toList T) :
    bodyV Tryd.prog tab 0 Tryd.f7 [.val (.string s)] [] G fun v hp' _ => ParseK T v hp' := by
  have hl := size_len s
  have h32 : (32 : UInt8).toNat = 32 := rfl
  obtain ⟨l, hlist⟩ : ∃ l, l = s.data.toList := ⟨_, rfl⟩
  rw [← hlist] at hT hl
  have hget : ∀ i, i < l.length → s[Int.toNat (i : Int)]? = some (l.getD i 0) := fun i h => by rw [hlist] at h ⊢; exact byte_get h
  unfold ReadsAs at hT
  by_cases he : l = []
  · rw [if_pos he] at hT
    subst hT
    have hz : s.size = 0 := by rw [hl, he]; rfl
    have hsn : SegsM G none 0 (segsF []) := ElsM.none
    have gp := RPCheck_gives (c := 0) hsn (Nat.zero_le _)
    have hp0 : pathE (segsF []) 0 = 0 := rfl
    rw [hp0] at gp
    (repeat ((try (conv => whnf)); (first | (with_reducible refine condP_true ?_) | (with_reducible refine condP_false ?_) | (with_reducible refine condP_not ?_) | (with_reducible refine condP_and ?_) | ((with_reducible refine condP_dt ?_ ?_); (· omega)) | ((with_reducible refine condP_df ?_ ?_); (· omega)) | ((with_reducible refine condP_yes ?_ ?_); (· assumption)) | ((with_reducible refine condP_no ?_ ?_); (· assumption)) | ((with_reducible refine ArP_i64 ?_ ?_); (· omega)) | ((with_reducible refine mustP.mk ?_ ?_); (· first | omega | rfl | (dsimp only; omega))) | (with_reducible refine EqP_nil tab_ok ?_) | (with_reducible refine EqP_sli tab_ok ?_) | (with_reducible refine DrawP_auto tab_ok (by kernel_rfl) (by decide +kernel) ?_) | (with_reducible refine DrawP_auto2 tab_ok (by kernel_rfl) (by decide +kernel) ?_) | (with_reducible refine eq45 ?_) | (with_reducible refine eq62 ?_) | (with_reducible refine eq100 ?_))))
    conv => whnf
    refine LoopP_step tab_ok ?_
    (repeat ((try (conv => whnf)); (first | (with_reducible refine condP_true ?_) | (with_reducible refine condP_false ?_) | (with_reducible refine condP_not ?_) | (with_reducible refine condP_and ?_) | ((with_reducible refine condP_dt ?_ ?_); (· omega)) | ((with_reducible refine condP_df ?_ ?_); (· omega)) | ((with_reducible refine condP_yes ?_ ?_); (· assumption)) | ((with_reducible refine condP_no ?_ ?_); (· assumption)) | ((with_reducible refine ArP_i64 ?_ ?_); (· omega)) | ((with_reducible refine mustP.mk ?_ ?_); (· first | omega | rfl | (dsimp only; omega))) | (with_reducible refine EqP_nil tab_ok ?_) | (with_reducible refine EqP_sli tab_ok ?_) | (with_reducible refine DrawP_auto tab_ok (by kernel_rfl) (by decide +kernel) ?_) | (with_reducible refine DrawP_auto2 tab_ok (by kernel_rfl) (by decide +kernel) ?_) | (with_reducible refine eq45 ?_) | (with_reducible refine eq62 ?_) | (with_reducible refine eq100 ?_) | (with_reducible refine CallP_gives (fun vs w => by kernel_rfl) (by kernel_rfl) (gp) ?_) | (with_reducible refine RCallP_gives (fun vs w => by kernel_rfl) (by kernel_rfl) (gp) ?_))))
    conv => whnf
    exact .inr ⟨rfl, .inr (.inl ⟨rfl, rfl, rfl⟩)⟩
  rw [if_neg he] at hT
  have hpos : 0 < l.length := by cases l with | nil => exact absurd rfl he | cons _ _ => simp
  have hT : Left T [] (sepW (l.drop 0)) := ⟨T, hT, by cases T <;> simp⟩
  clear he
  (repeat ((try (conv => whnf)); (first | (with_reducible refine condP_true ?_) | (with_reducible refine condP_false ?_) | (with_reducible refine condP_not ?_) | (with_reducible refine condP_and ?_) | ((with_reducible refine condP_dt ?_ ?_); (· omega)) | ((with_reducible refine condP_df ?_ ?_); (· omega)) | ((with_reducible refine condP_yes ?_ ?_); (· assumption)) | ((with_reducible refine condP_no ?_ ?_); (· assumption)) | ((with_reducible refine ArP_i64 ?_ ?_); (· omega)) | ((with_reducible refine mustP.mk ?_ ?_); (· first | omega | rfl | (dsimp only; omega))) | (with_reducible refine EqP_nil tab_ok ?_) | (with_reducible refine EqP_sli tab_ok ?_) | (with_reducible refine DrawP_auto tab_ok (by kernel_rfl) (by decide +kernel) ?_) | (with_reducible refine DrawP_auto2 tab_ok (by kernel_rfl) (by decide +kernel) ?_) | (with_reducible refine eq45 ?_) | (with_reducible refine eq62 ?_) | (with_reducible refine eq100 ?_))))
  conv => whnf
  refine LoopP_at2 tab_ok (fun (c : Nat) (L : List SegD) => c < l.length ∧ L.length ≤ c ∧ Left T L (sepW (l.drop c))) (fun c L => [(5, .val (.int .i64 c)), (4, .own 0)]) (fun c L => [.own 45 6 L.length (flatC (segC L) L.length)]) (fun c L => l.length - c) 0 [] ⟨hpos, Nat.le_refl _, hT⟩ ?_ ?_
  · refine Le_own 45 6 ?_
    conv => whnf
    ((refine Le_head ?_); (conv => whnf); (refine Le_mk (by rfl) (by rfl) ?_ ?_); (· (repeat (first | (with_reducible exact frLe_nil) | (with_reducible refine frLe_any ?_) | (with_reducible refine frLe_val ?_) | ((with_reducible refine frLe_eq rfl ?_ ?_); (· rfl)) | ((with_reducible refine frLe_val' (int_eq ?_) ?_ ?_); (· omega); (· rfl)) | ((with_reducible refine frLe_val' (int_eq ?_) ?_ ?_); (· simp only [Int.natCast_add, Int.natCast_one, Int.natCast_ofNat] <;> omega); (· rfl)) | ((with_reducible refine frLe_val' (bool_eq ?_) ?_ ?_); (· first | assumption | (symm; assumption)); (· rfl))))))
    exact hpLe_own rfl rfl hpLe_nil
  · rintro c L ⟨hc, hL, hR⟩
    rw [sep_rest _ _ (by omega)] at hR
    have hcb := hget c hc
    have hw0 := wordAt_get (l.drop c) 0
    rw [getD_drop, Nat.add_zero] at hw0
    have hbn := byte_lt (l.getD c 0)
    have hws := word_size (l := l) (a := c) (by omega)
    clear hT
    by_cases k0 : kindW (wordAt (l.drop c)) = 0
    · have hn := hR.odd k0
      subst hn
      have h2 : ∀ b : UInt8, l.getD c 0 = b → (b = 109 ∨ b = 108 ∨ b = 113 ∨ b = 104) → ∃ d : UInt8, c + 1 < l.length ∧ s[Int.toNat ((c : Int) + 1)]? = some d ∧ d.toNat ≠ 32 := fun b hb h4 => by
        have hw1 := wordAt_get (l.drop c) 1
        have hlen : (wordAt (l.drop c)).length ≠ 0 := fun h => by
          have := word_end (l := l) (a := c) (by omega)
          rw [h, Nat.add_zero, hb] at this
          subst this
          rcases h4 with h | h | h | h <;> exact absurd h (by decide)
        have hne : (wordAt (l.drop c)).length ≠ 1 := fun h => by
          obtain ⟨x, hx⟩ : ∃ x, wordAt (l.drop c) = [x] := List.length_eq_one_iff.1 h
          have hx0 := (hw0 (by omega)).1
          rw [hx, hb] at hx0
          have hx0 : x = b := hx0
          rw [hx, hx0] at k0
          rcases h4 with rfl | rfl | rfl | rfl <;> exact absurd k0 (by decide)
        have h3 := hw1 (by omega)
        rw [getD_drop] at h3
        refine ⟨l.getD (c + 1) 0, by omega, ?_, fun h => h3.2 (UInt8.toNat_inj.1 h)⟩
        have := hget (c + 1) (by omega)
        push_cast at this
        exact this
      generalize l.getD c 0 = b at *
      clear hw0 hws hR k0
      by_cases b1 : b.toNat = 109
      · obtain ⟨d, h3, h4, h5⟩ := h2 b rfl (.inl (UInt8.toNat_inj.1 b1))
        clear h2 hget
        (repeat ((try (conv => whnf)); (first | (first | (refine Exists.intro _ (And.intro hcb ?_)) | (refine Exists.intro _ (And.intro h4 ?_))) | (with_reducible refine LoopP_step tab_ok ?_) | (with_reducible refine condP_true ?_) | (with_reducible refine condP_false ?_) | (with_reducible refine condP_not ?_) | (with_reducible refine condP_and ?_) | ((with_reducible refine condP_dt ?_ ?_); (· omega)) | ((with_reducible refine condP_df ?_ ?_); (· omega)) | ((with_reducible refine condP_yes ?_ ?_); (· assumption)) | ((with_reducible refine condP_no ?_ ?_); (· assumption)) | ((with_reducible refine ArP_i64 ?_ ?_); (· omega)) | ((with_reducible refine mustP.mk ?_ ?_); (· first | omega | rfl | (dsimp only; omega))) | (with_reducible refine EqP_nil tab_ok ?_) | (with_reducible refine EqP_sli tab_ok ?_) | (with_reducible refine DrawP_auto tab_ok (by kernel_rfl) (by decide +kernel) ?_) | (with_reducible refine DrawP_auto2 tab_ok (by kernel_rfl) (by decide +kernel) ?_) | (with_reducible refine eq45 ?_) | (with_reducible refine eq62 ?_) | (with_reducible refine eq100 ?_))))
        conv => whnf
      by_cases b2 : b.toNat = 108
      · obtain ⟨d, h3, h4, h5⟩ := h2 b rfl (.inr (.inl (UInt8.toNat_inj.1 b2)))
        clear h2 hget
        (repeat ((try (conv => whnf)); (first | (first | (refine Exists.intro _ (And.intro hcb ?_)) | (refine Exists.intro _ (And.intro h4 ?_))) | (with_reducible refine LoopP_step tab_ok ?_) | (with_reducible refine condP_true ?_) | (with_reducible refine condP_false ?_) | (with_reducible refine condP_not ?_) | (with_reducible refine condP_and ?_) | ((with_reducible refine condP_dt ?_ ?_); (· omega)) | ((with_reducible refine condP_df ?_ ?_); (· omega)) | ((with_reducible refine condP_yes ?_ ?_); (· assumption)) | ((with_reducible refine condP_no ?_ ?_); (· assumption)) | ((with_reducible refine ArP_i64 ?_ ?_); (· omega)) | ((with_reducible refine mustP.mk ?_ ?_); (· first | omega | rfl | (dsimp only; omega))) | (with_reducible refine EqP_nil tab_ok ?_) | (with_reducible refine EqP_sli tab_ok ?_) | (with_reducible refine DrawP_auto tab_ok (by kernel_rfl) (by decide +kernel) ?_) | (with_reducible refine DrawP_auto2 tab_ok (by kernel_rfl) (by decide +kernel) ?_) | (with_reducible refine eq45 ?_) | (with_reducible refine eq62 ?_) | (with_reducible refine eq100 ?_))))
        conv => whnf
      by_cases b3 : b.toNat = 113
      · obtain ⟨d, h3, h4, h5⟩ := h2 b rfl (.inr (.inr (.inl (UInt8.toNat_inj.1 b3))))
        clear h2 hget
        (repeat ((try (conv => whnf)); (first | (first | (refine Exists.intro _ (And.intro hcb ?_)) | (refine Exists.intro _ (And.intro h4 ?_))) | (with_reducible refine LoopP_step tab_ok ?_) | (with_reducible refine condP_true ?_) | (with_reducible refine condP_false ?_) | (with_reducible refine condP_not ?_) | (with_reducible refine condP_and ?_) | ((with_reducible refine condP_dt ?_ ?_); (· omega)) | ((with_reducible refine condP_df ?_ ?_); (· omega)) | ((with_reducible refine condP_yes ?_ ?_); (· assumption)) | ((with_reducible refine condP_no ?_ ?_); (· assumption)) | ((with_reducible refine ArP_i64 ?_ ?_); (· omega)) | ((with_reducible refine mustP.mk ?_ ?_); (· first | omega | rfl | (dsimp only; omega))) | (with_reducible refine EqP_nil tab_ok ?_) | (with_reducible refine EqP_sli tab_ok ?_) | (with_reducible refine DrawP_auto tab_ok (by kernel_rfl) (by decide +kernel) ?_) | (with_reducible refine DrawP_auto2 tab_ok (by kernel_rfl) (by decide +kernel) ?_) | (with_reducible refine eq45 ?_) | (with_reducible refine eq62 ?_) | (with_reducible refine eq100 ?_))))
        conv => whnf
      by_cases b4 : b.toNat = 104
      · obtain ⟨d, h3, h4, h5⟩ := h2 b rfl (.inr (.inr (.inr (UInt8.toNat_inj.1 b4))))
        clear h2 hget
        (repeat ((try (conv => whnf)); (first | (first | (refine Exists.intro _ (And.intro hcb ?_)) | (refine Exists.intro _ (And.intro h4 ?_))) | (with_reducible refine LoopP_step tab_ok ?_) | (with_reducible refine DrawP_mk tab_ok (by kernel_rfl) 6 [1] (by decide +kernel) ?_) | (with_reducible refine condP_true ?_) | (with_reducible refine condP_false ?_) | (with_reducible refine condP_not ?_) | (with_reducible refine condP_and ?_) | ((with_reducible refine condP_dt ?_ ?_); (· omega)) | ((with_reducible refine condP_df ?_ ?_); (· omega)) | ((with_reducible refine condP_yes ?_ ?_); (· assumption)) | ((with_reducible refine condP_no ?_ ?_); (· assumption)) | ((with_reducible refine ArP_i64 ?_ ?_); (· omega)) | ((with_reducible refine mustP.mk ?_ ?_); (· first | omega | rfl | (dsimp only; omega))) | (with_reducible refine EqP_nil tab_ok ?_) | (with_reducible refine EqP_sli tab_ok ?_) | (with_reducible refine DrawP_auto tab_ok (by kernel_rfl) (by decide +kernel) ?_) | (with_reducible refine DrawP_auto2 tab_ok (by kernel_rfl) (by decide +kernel) ?_) | (with_reducible refine eq45 ?_) | (with_reducible refine eq62 ?_) | (with_reducible refine eq100 ?_))))
        conv => whnf
      clear h2 hget
      (repeat ((try (conv => whnf)); (first | (refine Exists.intro _ (And.intro hcb ?_)) | (with_reducible refine condP_true ?_) | (with_reducible refine condP_false ?_) | (with_reducible refine condP_not ?_) | (with_reducible refine condP_and ?_) | ((with_reducible refine condP_dt ?_ ?_); (· omega)) | ((with_reducible refine condP_df ?_ ?_); (· omega)) | ((with_reducible refine condP_yes ?_ ?_); (· assumption)) | ((with_reducible refine condP_no ?_ ?_); (· assumption)) | ((with_reducible refine ArP_i64 ?_ ?_); (· omega)) | ((with_reducible refine mustP.mk ?_ ?_); (· first | omega | rfl | (dsimp only; omega))) | (with_reducible refine EqP_nil tab_ok ?_) | (with_reducible refine EqP_sli tab_ok ?_) | (with_reducible refine DrawP_auto tab_ok (by kernel_rfl) (by decide +kernel) ?_) | (with_reducible refine DrawP_auto2 tab_ok (by kernel_rfl) (by decide +kernel) ?_) | (with_reducible refine eq45 ?_) | (with_reducible refine eq62 ?_) | (with_reducible refine eq100 ?_))))
      conv => whnf
    by_cases k4 : kindW (wordAt (l.drop c)) = 4
    · have e : wordAt (l.drop c) = [104] := by
        unfold kindW at k4
        repeat' split at k4
        all_goals first | assumption | omega
      have hb0 : (l.getD c 0).toNat = 104 := by
        have := (hw0 (by rw [e]; simp)).1
        rw [e] at this
        rw [← this]; rfl
      have hend := word_end (l := l) (a := c)
      rw [e] at hR hend k0 hws
      have hkd : kindW [104] = 4 := rfl
      simp only [List.length_singleton] at hR hend hws
      generalize l.getD c 0 = b0 at *
      clear hw0 k4
      obtain ⟨a0, ha0⟩ : ∃ a0, a0 = c + 1 := ⟨_, rfl⟩
      rw [← ha0] at hR hend hws
      have hR := hR.seg k0 (by rw [hkd]; exact nums_zero)
      have hR : Left T (L ++ [(⟨4, 0, 0, 0, 0, 0⟩ : SegD)]) (restW l a0) := hR
      rcases Nat.lt_or_ge a0 l.length with nn | nn
      rotate_left
      · rw [rest_none nn] at hR
        have hT2 := hR.done
        subst hT2
        clear hget hR hend
        (repeat ((try (conv => whnf)); (first | (first | (refine Exists.intro _ (And.intro hcb ?_))) | (with_reducible refine LoopP_step tab_ok ?_) | (with_reducible refine DrawP_mk tab_ok (by kernel_rfl) 6 [1] (by decide +kernel) ?_) | (with_reducible refine condP_true ?_) | (with_reducible refine condP_false ?_) | (with_reducible refine condP_not ?_) | (with_reducible refine condP_and ?_) | ((with_reducible refine condP_dt ?_ ?_); (· omega)) | ((with_reducible refine condP_df ?_ ?_); (· omega)) | ((with_reducible refine condP_yes ?_ ?_); (· assumption)) | ((with_reducible refine condP_no ?_ ?_); (· assumption)) | ((with_reducible refine ArP_i64 ?_ ?_); (· omega)) | ((with_reducible refine mustP.mk ?_ ?_); (· first | omega | rfl | (dsimp only; omega))) | (with_reducible refine EqP_nil tab_ok ?_) | (with_reducible refine EqP_sli tab_ok ?_) | (with_reducible refine DrawP_auto tab_ok (by kernel_rfl) (by decide +kernel) ?_) | (with_reducible refine DrawP_auto2 tab_ok (by kernel_rfl) (by decide +kernel) ?_) | (with_reducible refine eq45 ?_) | (with_reducible refine eq62 ?_) | (with_reducible refine eq100 ?_))))
        conv => whnf
        have gp := fun A cap G' (hG : G.le G') (hc : (L ++ [(⟨4, 0, 0, 0, 0, 0⟩ : SegD)]).length ≤ cap) (hm : cap ≤ maxLen) (hr : RowM G' A (flatC (segC (L ++ [(⟨4, 0, 0, 0, 0, 0⟩ : SegD)])) (L ++ [(⟨4, 0, 0, 0, 0, 0⟩ : SegD)]).length)) => RPCheck_gives (c := cap) (S := segsF (L ++ [(⟨4, 0, 0, 0, 0, 0⟩ : SegD)])) (rowEls (sz := 6) (c := segC (L ++ [(⟨4, 0, 0, 0, 0, 0⟩ : SegD)])) (fun _ _ => rfl) hr (by omega)) (Nat.le_trans hc hm)
        have hfl := flat_snoc L (⟨4, 0, 0, 0, 0, 0⟩ : SegD)
        rw [hfl] at gp
        have hll : (L ++ [(⟨4, 0, 0, 0, 0, 0⟩ : SegD)]).length = L.length + 1 := by simp
        rw [hll] at gp
        refine CallP_lend (fun vs w => by kernel_rfl) rfl (by kernel_rfl) gp ?_
        clear gp
        unfold ParseK
        by_cases hp : pathE (segsF (L ++ [(⟨4, 0, 0, 0, 0, 0⟩ : SegD)])) (L.length + 1) = 0
        · rw [hp]
          (repeat ((try (conv => whnf)); (first | (with_reducible refine condP_true ?_) | (with_reducible refine condP_false ?_) | (with_reducible refine condP_not ?_) | (with_reducible refine condP_and ?_) | ((with_reducible refine condP_dt ?_ ?_); (· omega)) | ((with_reducible refine condP_df ?_ ?_); (· omega)) | ((with_reducible refine condP_yes ?_ ?_); (· assumption)) | ((with_reducible refine condP_no ?_ ?_); (· assumption)) | ((with_reducible refine ArP_i64 ?_ ?_); (· omega)) | ((with_reducible refine mustP.mk ?_ ?_); (· first | omega | rfl | (dsimp only; omega))) | (with_reducible refine EqP_nil tab_ok ?_) | (with_reducible refine EqP_sli tab_ok ?_) | (with_reducible refine DrawP_auto tab_ok (by kernel_rfl) (by decide +kernel) ?_) | (with_reducible refine DrawP_auto2 tab_ok (by kernel_rfl) (by decide +kernel) ?_) | (with_reducible refine eq45 ?_) | (with_reducible refine eq62 ?_) | (with_reducible refine eq100 ?_))))
          conv => whnf
          exact .inr ⟨by rw [hll]; exact hp, .inl ⟨_, rfl, by rw [hfl, hll]; rfl⟩⟩
        · have hpe := hp
          have hq : pathE (segsF (L ++ [(⟨4, 0, 0, 0, 0, 0⟩ : SegD)])) (L ++ [(⟨4, 0, 0, 0, 0, 0⟩ : SegD)]).length = pathE (segsF (L ++ [(⟨4, 0, 0, 0, 0, 0⟩ : SegD)])) (L.length + 1) := by rw [hll]
          generalize hPE : pathE (segsF (L ++ [(⟨4, 0, 0, 0, 0, 0⟩ : SegD)])) (L.length + 1) = E at *
          (repeat ((try (conv => whnf)); (first | (with_reducible refine condP_true ?_) | (with_reducible refine condP_false ?_) | (with_reducible refine condP_not ?_) | (with_reducible refine condP_and ?_) | ((with_reducible refine condP_dt ?_ ?_); (· omega)) | ((with_reducible refine condP_df ?_ ?_); (· omega)) | ((with_reducible refine condP_yes ?_ ?_); (· assumption)) | ((with_reducible refine condP_no ?_ ?_); (· assumption)) | ((with_reducible refine ArP_i64 ?_ ?_); (· omega)) | ((with_reducible refine mustP.mk ?_ ?_); (· first | omega | rfl | (dsimp only; omega))) | (with_reducible refine EqP_nil tab_ok ?_) | (with_reducible refine EqP_sli tab_ok ?_) | (with_reducible refine DrawP_auto tab_ok (by kernel_rfl) (by decide +kernel) ?_) | (with_reducible refine DrawP_auto2 tab_ok (by kernel_rfl) (by decide +kernel) ?_) | (with_reducible refine eq45 ?_) | (with_reducible refine eq62 ?_) | (with_reducible refine eq100 ?_))))
          conv => whnf
          exact .inl ⟨by rw [hq]; exact hp, by rw [hq]⟩
      have hbe : s[Int.toNat ((c : Int) + 1)]? = some 32 := by have h := hget a0 nn; rw [hend (by omega)] at h; rw [ha0] at h; push_cast at h; exact h
      by_cases hlast : a0 + 1 = l.length
      · rw [rest_more nn, List.drop_eq_nil_of_le (by omega)] at hR
        have hn := hR.odd rfl
        subst hn
        clear hget hR hend
        (repeat ((try (conv => whnf)); (first | (first | (refine Exists.intro _ (And.intro hcb ?_)) | (refine Exists.intro _ (And.intro hbe ?_))) | (with_reducible refine LoopP_step tab_ok ?_) | (with_reducible refine DrawP_mk tab_ok (by kernel_rfl) 6 [1] (by decide +kernel) ?_) | (with_reducible refine condP_true ?_) | (with_reducible refine condP_false ?_) | (with_reducible refine condP_not ?_) | (with_reducible refine condP_and ?_) | ((with_reducible refine condP_dt ?_ ?_); (· omega)) | ((with_reducible refine condP_df ?_ ?_); (· omega)) | ((with_reducible refine condP_yes ?_ ?_); (· assumption)) | ((with_reducible refine condP_no ?_ ?_); (· assumption)) | ((with_reducible refine ArP_i64 ?_ ?_); (· omega)) | ((with_reducible refine mustP.mk ?_ ?_); (· first | omega | rfl | (dsimp only; omega))) | (with_reducible refine EqP_nil tab_ok ?_) | (with_reducible refine EqP_sli tab_ok ?_) | (with_reducible refine DrawP_auto tab_ok (by kernel_rfl) (by decide +kernel) ?_) | (with_reducible refine DrawP_auto2 tab_ok (by kernel_rfl) (by decide +kernel) ?_) | (with_reducible refine eq45 ?_) | (with_reducible refine eq62 ?_) | (with_reducible refine eq100 ?_))))
        conv => whnf
      · unfold restW at hR
        rw [if_pos nn] at hR
        clear hget hend
        (repeat ((try (conv => whnf)); (first | (first | (refine Exists.intro _ (And.intro hcb ?_)) | (refine Exists.intro _ (And.intro hbe ?_))) | (with_reducible refine LoopP_step tab_ok ?_) | (with_reducible refine DrawP_mk tab_ok (by kernel_rfl) 6 [1] (by decide +kernel) ?_) | (with_reducible refine condP_true ?_) | (with_reducible refine condP_false ?_) | (with_reducible refine condP_not ?_) | (with_reducible refine condP_and ?_) | ((with_reducible refine condP_dt ?_ ?_); (· omega)) | ((with_reducible refine condP_df ?_ ?_); (· omega)) | ((with_reducible refine condP_yes ?_ ?_); (· assumption)) | ((with_reducible refine condP_no ?_ ?_); (· assumption)) | ((with_reducible refine ArP_i64 ?_ ?_); (· omega)) | ((with_reducible refine mustP.mk ?_ ?_); (· first | omega | rfl | (dsimp only; omega))) | (with_reducible refine EqP_nil tab_ok ?_) | (with_reducible refine EqP_sli tab_ok ?_) | (with_reducible refine DrawP_auto tab_ok (by kernel_rfl) (by decide +kernel) ?_) | (with_reducible refine DrawP_auto2 tab_ok (by kernel_rfl) (by decide +kernel) ?_) | (with_reducible refine eq45 ?_) | (with_reducible refine eq62 ?_) | (with_reducible refine eq100 ?_))))
        conv => whnf
        refine ⟨a0 + 1, L ++ [(⟨4, 0, 0, 0, 0, 0⟩ : SegD)], ⟨by omega, by simp; omega, hR⟩, by omega, ?_⟩
        refine Le_move 4 0 rfl rfl rfl rfl ?_
        conv => whnf
        subst ha0
        ((refine Le_head ?_); (conv => whnf); (refine Le_mk (by rfl) (by rfl) ?_ ?_); (· (repeat (first | (with_reducible exact frLe_nil) | (with_reducible refine frLe_any ?_) | (with_reducible refine frLe_val ?_) | ((with_reducible refine frLe_eq rfl ?_ ?_); (· rfl)) | ((with_reducible refine frLe_val' (int_eq ?_) ?_ ?_); (· omega); (· rfl)) | ((with_reducible refine frLe_val' (int_eq ?_) ?_ ?_); (· simp only [Int.natCast_add, Int.natCast_one, Int.natCast_ofNat] <;> omega); (· rfl)) | ((with_reducible refine frLe_val' (bool_eq ?_) ?_ ?_); (· first | assumption | (symm; assumption)); (· rfl))))))
        exact hpLe_own (by simp) (by rw [flat_snoc]) hpLe_nil
    by_cases k1 : kindW (wordAt (l.drop c)) = 1
    · have e : wordAt (l.drop c) = [109] := by
        unfold kindW at k1
        repeat' split at k1
        all_goals first | assumption | omega
      have hb0 : (l.getD c 0).toNat = 109 := by
        have := (hw0 (by rw [e]; simp)).1
        rw [e] at this
        rw [← this]; rfl
      have hend := word_end (l := l) (a := c)
      rw [e] at hR hend k0 hws
      have hkd : kindW [109] = 1 := rfl
      simp only [List.length_singleton] at hR hend hws
      generalize l.getD c 0 = b0 at *
      clear hw0 k1
      obtain ⟨a0, ha0⟩ : ∃ a0, a0 = c + 1 := ⟨_, rfl⟩
      rw [← ha0] at hR hend hws
      rcases Nat.lt_or_ge a0 l.length with n0 | n0
      rotate_left
      · rw [rest_none n0] at hR
        have hn := hR.bad (by rw [hkd]; intro h; have h : numsOK 2 ([]) := h; exact nums_nil h)
        subst hn
        clear hget hR hend
        (repeat ((try (conv => whnf)); (first | (first | (refine Exists.intro _ (And.intro hcb ?_))) | (with_reducible refine LoopP_step tab_ok ?_) | (with_reducible refine DrawP_mk tab_ok (by kernel_rfl) 6 [1] (by decide +kernel) ?_) | (with_reducible refine condP_true ?_) | (with_reducible refine condP_false ?_) | (with_reducible refine condP_not ?_) | (with_reducible refine condP_and ?_) | ((with_reducible refine condP_dt ?_ ?_); (· omega)) | ((with_reducible refine condP_df ?_ ?_); (· omega)) | ((with_reducible refine condP_yes ?_ ?_); (· assumption)) | ((with_reducible refine condP_no ?_ ?_); (· assumption)) | ((with_reducible refine ArP_i64 ?_ ?_); (· omega)) | ((with_reducible refine mustP.mk ?_ ?_); (· first | omega | rfl | (dsimp only; omega))) | (with_reducible refine EqP_nil tab_ok ?_) | (with_reducible refine EqP_sli tab_ok ?_) | (with_reducible refine DrawP_auto tab_ok (by kernel_rfl) (by decide +kernel) ?_) | (with_reducible refine DrawP_auto2 tab_ok (by kernel_rfl) (by decide +kernel) ?_) | (with_reducible refine eq45 ?_) | (with_reducible refine eq62 ?_) | (with_reducible refine eq100 ?_))))
        conv => whnf
      rw [rest_more n0] at hR
      have hb1 : s[Int.toNat ((c : Int) + 1)]? = some 32 := by have h := hget a0 n0; rw [hend (by omega)] at h; rw [ha0] at h; push_cast at h; exact h
      have d0 := digits_at (G := G) hlist (a := a0) hs n0 (((c : Int) + 1) + 1) (by omega)
      have hend := word_end (l := l) (a := a0 + 1)
      have hws := word_size (l := l) (a := a0 + 1) (by omega)
      generalize wordAt (l.drop (a0 + 1)) = u0 at *
      rcases d0 with ⟨o0, g0⟩ | ⟨o0, g0⟩ | ⟨o0, v0, e0, y0, g0, y10, y20, y30⟩
      rotate_left
      · have hn := hR.bad (by rw [hkd]; intro h; have h : numsOK 2 (u0 :: _) := h; exact o0 (nums_cons.1 h).1)
        subst hn
        clear hget hR hend
        (repeat ((try (conv => whnf)); (first | (first | (refine Exists.intro _ (And.intro hcb ?_)) | (refine Exists.intro _ (And.intro hb1 ?_))) | (with_reducible refine LoopP_step tab_ok ?_) | (with_reducible refine DrawP_mk tab_ok (by kernel_rfl) 6 [1] (by decide +kernel) ?_) | (with_reducible refine condP_true ?_) | (with_reducible refine condP_false ?_) | (with_reducible refine condP_not ?_) | (with_reducible refine condP_and ?_) | ((with_reducible refine condP_dt ?_ ?_); (· omega)) | ((with_reducible refine condP_df ?_ ?_); (· omega)) | ((with_reducible refine condP_yes ?_ ?_); (· assumption)) | ((with_reducible refine condP_no ?_ ?_); (· assumption)) | ((with_reducible refine ArP_i64 ?_ ?_); (· omega)) | ((with_reducible refine mustP.mk ?_ ?_); (· first | omega | rfl | (dsimp only; omega))) | (with_reducible refine EqP_nil tab_ok ?_) | (with_reducible refine EqP_sli tab_ok ?_) | (with_reducible refine DrawP_auto tab_ok (by kernel_rfl) (by decide +kernel) ?_) | (with_reducible refine DrawP_auto2 tab_ok (by kernel_rfl) (by decide +kernel) ?_) | (with_reducible refine eq45 ?_) | (with_reducible refine eq62 ?_) | (with_reducible refine eq100 ?_) | (with_reducible refine CallP_gives (fun vs w => by kernel_rfl) (by kernel_rfl) (g0) ?_) | (with_reducible refine RCallP_gives (fun vs w => by kernel_rfl) (by kernel_rfl) (g0) ?_))))
        conv => whnf
      · have hn := hR.bad (by rw [hkd]; intro h; have h : numsOK 2 (u0 :: _) := h; exact o0 (nums_cons.1 h).1)
        subst hn
        clear hget hR hend
        (repeat ((try (conv => whnf)); (first | (first | (refine Exists.intro _ (And.intro hcb ?_)) | (refine Exists.intro _ (And.intro hb1 ?_)) | (refine Exists.intro _ (And.intro y20 ?_))) | (with_reducible refine LoopP_step tab_ok ?_) | (with_reducible refine DrawP_mk tab_ok (by kernel_rfl) 6 [1] (by decide +kernel) ?_) | (with_reducible refine condP_true ?_) | (with_reducible refine condP_false ?_) | (with_reducible refine condP_not ?_) | (with_reducible refine condP_and ?_) | ((with_reducible refine condP_dt ?_ ?_); (· omega)) | ((with_reducible refine condP_df ?_ ?_); (· omega)) | ((with_reducible refine condP_yes ?_ ?_); (· assumption)) | ((with_reducible refine condP_no ?_ ?_); (· assumption)) | ((with_reducible refine ArP_i64 ?_ ?_); (· omega)) | ((with_reducible refine mustP.mk ?_ ?_); (· first | omega | rfl | (dsimp only; omega))) | (with_reducible refine EqP_nil tab_ok ?_) | (with_reducible refine EqP_sli tab_ok ?_) | (with_reducible refine DrawP_auto tab_ok (by kernel_rfl) (by decide +kernel) ?_) | (with_reducible refine DrawP_auto2 tab_ok (by kernel_rfl) (by decide +kernel) ?_) | (with_reducible refine eq45 ?_) | (with_reducible refine eq62 ?_) | (with_reducible refine eq100 ?_) | (with_reducible refine CallP_gives (fun vs w => by kernel_rfl) (by kernel_rfl) (g0) ?_) | (with_reducible refine RCallP_gives (fun vs w => by kernel_rfl) (by kernel_rfl) (g0) ?_))))
        conv => whnf
      obtain ⟨a1, ha1⟩ : ∃ x, x = a0 + 1 + u0.length := ⟨_, rfl⟩
      rw [← ha1] at hR hend hws g0
      rcases Nat.lt_or_ge a1 l.length with n1 | n1
      rotate_left
      · rw [rest_none n1] at hR
        have hn := hR.bad (by rw [hkd]; intro h; have h : numsOK 2 (u0 :: []) := h; have h := (nums_cons.1 h).2; exact nums_nil h)
        subst hn
        clear hget hR hend
        (repeat ((try (conv => whnf)); (first | (first | (refine Exists.intro _ (And.intro hcb ?_)) | (refine Exists.intro _ (And.intro hb1 ?_))) | (with_reducible refine LoopP_step tab_ok ?_) | (with_reducible refine DrawP_mk tab_ok (by kernel_rfl) 6 [1] (by decide +kernel) ?_) | (with_reducible refine condP_true ?_) | (with_reducible refine condP_false ?_) | (with_reducible refine condP_not ?_) | (with_reducible refine condP_and ?_) | ((with_reducible refine condP_dt ?_ ?_); (· omega)) | ((with_reducible refine condP_df ?_ ?_); (· omega)) | ((with_reducible refine condP_yes ?_ ?_); (· assumption)) | ((with_reducible refine condP_no ?_ ?_); (· assumption)) | ((with_reducible refine ArP_i64 ?_ ?_); (· omega)) | ((with_reducible refine mustP.mk ?_ ?_); (· first | omega | rfl | (dsimp only; omega))) | (with_reducible refine EqP_nil tab_ok ?_) | (with_reducible refine EqP_sli tab_ok ?_) | (with_reducible refine DrawP_auto tab_ok (by kernel_rfl) (by decide +kernel) ?_) | (with_reducible refine DrawP_auto2 tab_ok (by kernel_rfl) (by decide +kernel) ?_) | (with_reducible refine eq45 ?_) | (with_reducible refine eq62 ?_) | (with_reducible refine eq100 ?_) | (with_reducible refine CallP_gives (fun vs w => by kernel_rfl) (by kernel_rfl) (g0) ?_) | (with_reducible refine RCallP_gives (fun vs w => by kernel_rfl) (by kernel_rfl) (g0) ?_))))
        conv => whnf
      rw [rest_more n1] at hR
      have hb2 : s[Int.toNat (a1 : Int)]? = some 32 := by have h := hget a1 n1; rw [hend (by omega)] at h; exact h
      have d1 := digits_at (G := G) hlist (a := a1) hs n1 ((a1 : Int) + 1) (by omega)
      have hend := word_end (l := l) (a := a1 + 1)
      have hws := word_size (l := l) (a := a1 + 1) (by omega)
      generalize wordAt (l.drop (a1 + 1)) = u1 at *
      rcases d1 with ⟨o1, g1⟩ | ⟨o1, g1⟩ | ⟨o1, v1, e1, y1, g1, y11, y21, y31⟩
      rotate_left
      · have hn := hR.bad (by rw [hkd]; intro h; have h : numsOK 2 (u0 :: u1 :: _) := h; have h := (nums_cons.1 h).2; exact o1 (nums_cons.1 h).1)
        subst hn
        clear hget hR hend
        (repeat ((try (conv => whnf)); (first | (first | (refine Exists.intro _ (And.intro hcb ?_)) | (refine Exists.intro _ (And.intro hb1 ?_)) | (refine Exists.intro _ (And.intro hb2 ?_))) | (with_reducible refine LoopP_step tab_ok ?_) | (with_reducible refine DrawP_mk tab_ok (by kernel_rfl) 6 [1] (by decide +kernel) ?_) | (with_reducible refine condP_true ?_) | (with_reducible refine condP_false ?_) | (with_reducible refine condP_not ?_) | (with_reducible refine condP_and ?_) | ((with_reducible refine condP_dt ?_ ?_); (· omega)) | ((with_reducible refine condP_df ?_ ?_); (· omega)) | ((with_reducible refine condP_yes ?_ ?_); (· assumption)) | ((with_reducible refine condP_no ?_ ?_); (· assumption)) | ((with_reducible refine ArP_i64 ?_ ?_); (· omega)) | ((with_reducible refine mustP.mk ?_ ?_); (· first | omega | rfl | (dsimp only; omega))) | (with_reducible refine EqP_nil tab_ok ?_) | (with_reducible refine EqP_sli tab_ok ?_) | (with_reducible refine DrawP_auto tab_ok (by kernel_rfl) (by decide +kernel) ?_) | (with_reducible refine DrawP_auto2 tab_ok (by kernel_rfl) (by decide +kernel) ?_) | (with_reducible refine eq45 ?_) | (with_reducible refine eq62 ?_) | (with_reducible refine eq100 ?_) | (with_reducible refine CallP_gives (fun vs w => by kernel_rfl) (by kernel_rfl) (g0) ?_) | (with_reducible refine RCallP_gives (fun vs w => by kernel_rfl) (by kernel_rfl) (g0) ?_) | (with_reducible refine CallP_gives (fun vs w => by kernel_rfl) (by kernel_rfl) (g1) ?_) | (with_reducible refine RCallP_gives (fun vs w => by kernel_rfl) (by kernel_rfl) (g1) ?_))))
        conv => whnf
      · have hn := hR.bad (by rw [hkd]; intro h; have h : numsOK 2 (u0 :: u1 :: _) := h; have h := (nums_cons.1 h).2; exact o1 (nums_cons.1 h).1)
        subst hn
        clear hget hR hend
        (repeat ((try (conv => whnf)); (first | (first | (refine Exists.intro _ (And.intro hcb ?_)) | (refine Exists.intro _ (And.intro hb1 ?_)) | (refine Exists.intro _ (And.intro hb2 ?_)) | (refine Exists.intro _ (And.intro y21 ?_))) | (with_reducible refine LoopP_step tab_ok ?_) | (with_reducible refine DrawP_mk tab_ok (by kernel_rfl) 6 [1] (by decide +kernel) ?_) | (with_reducible refine condP_true ?_) | (with_reducible refine condP_false ?_) | (with_reducible refine condP_not ?_) | (with_reducible refine condP_and ?_) | ((with_reducible refine condP_dt ?_ ?_); (· omega)) | ((with_reducible refine condP_df ?_ ?_); (· omega)) | ((with_reducible refine condP_yes ?_ ?_); (· assumption)) | ((with_reducible refine condP_no ?_ ?_); (· assumption)) | ((with_reducible refine ArP_i64 ?_ ?_); (· omega)) | ((with_reducible refine mustP.mk ?_ ?_); (· first | omega | rfl | (dsimp only; omega))) | (with_reducible refine EqP_nil tab_ok ?_) | (with_reducible refine EqP_sli tab_ok ?_) | (with_reducible refine DrawP_auto tab_ok (by kernel_rfl) (by decide +kernel) ?_) | (with_reducible refine DrawP_auto2 tab_ok (by kernel_rfl) (by decide +kernel) ?_) | (with_reducible refine eq45 ?_) | (with_reducible refine eq62 ?_) | (with_reducible refine eq100 ?_) | (with_reducible refine CallP_gives (fun vs w => by kernel_rfl) (by kernel_rfl) (g0) ?_) | (with_reducible refine RCallP_gives (fun vs w => by kernel_rfl) (by kernel_rfl) (g0) ?_) | (with_reducible refine CallP_gives (fun vs w => by kernel_rfl) (by kernel_rfl) (g1) ?_) | (with_reducible refine RCallP_gives (fun vs w => by kernel_rfl) (by kernel_rfl) (g1) ?_))))
        conv => whnf
      obtain ⟨a2, ha2⟩ : ∃ x, x = a1 + 1 + u1.length := ⟨_, rfl⟩
      rw [← ha2] at hR hend hws g1
      have hR := hR.seg k0 (by rw [hkd]; exact nums_cons.2 ⟨o0, nums_cons.2 ⟨o1, nums_zero⟩⟩)
      have hR : Left T (L ++ [(⟨1, numV u0, numV u1, 0, 0, 0⟩ : SegD)]) (restW l a2) := hR
      generalize numV u0 = V0 at *
      generalize numV u1 = V1 at *
      clear o0
      clear o1
      rcases Nat.lt_or_ge a2 l.length with nn | nn
      rotate_left
      · rw [rest_none nn] at hR
        have hT2 := hR.done
        subst hT2
        clear hget hR hend
        (repeat ((try (conv => whnf)); (first | (first | (refine Exists.intro _ (And.intro hcb ?_)) | (refine Exists.intro _ (And.intro hb1 ?_)) | (refine Exists.intro _ (And.intro hb2 ?_))) | (with_reducible refine LoopP_step tab_ok ?_) | (with_reducible refine DrawP_mk tab_ok (by kernel_rfl) 6 [1] (by decide +kernel) ?_) | (with_reducible refine condP_true ?_) | (with_reducible refine condP_false ?_) | (with_reducible refine condP_not ?_) | (with_reducible refine condP_and ?_) | ((with_reducible refine condP_dt ?_ ?_); (· omega)) | ((with_reducible refine condP_df ?_ ?_); (· omega)) | ((with_reducible refine condP_yes ?_ ?_); (· assumption)) | ((with_reducible refine condP_no ?_ ?_); (· assumption)) | ((with_reducible refine ArP_i64 ?_ ?_); (· omega)) | ((with_reducible refine mustP.mk ?_ ?_); (· first | omega | rfl | (dsimp only; omega))) | (with_reducible refine EqP_nil tab_ok ?_) | (with_reducible refine EqP_sli tab_ok ?_) | (with_reducible refine DrawP_auto tab_ok (by kernel_rfl) (by decide +kernel) ?_) | (with_reducible refine DrawP_auto2 tab_ok (by kernel_rfl) (by decide +kernel) ?_) | (with_reducible refine eq45 ?_) | (with_reducible refine eq62 ?_) | (with_reducible refine eq100 ?_) | (with_reducible refine CallP_gives (fun vs w => by kernel_rfl) (by kernel_rfl) (g0) ?_) | (with_reducible refine RCallP_gives (fun vs w => by kernel_rfl) (by kernel_rfl) (g0) ?_) | (with_reducible refine CallP_gives (fun vs w => by kernel_rfl) (by kernel_rfl) (g1) ?_) | (with_reducible refine RCallP_gives (fun vs w => by kernel_rfl) (by kernel_rfl) (g1) ?_))))
        conv => whnf
        have gp := fun A cap G' (hG : G.le G') (hc : (L ++ [(⟨1, V0, V1, 0, 0, 0⟩ : SegD)]).length ≤ cap) (hm : cap ≤ maxLen) (hr : RowM G' A (flatC (segC (L ++ [(⟨1, V0, V1, 0, 0, 0⟩ : SegD)])) (L ++ [(⟨1, V0, V1, 0, 0, 0⟩ : SegD)]).length)) => RPCheck_gives (c := cap) (S := segsF (L ++ [(⟨1, V0, V1, 0, 0, 0⟩ : SegD)])) (rowEls (sz := 6) (c := segC (L ++ [(⟨1, V0, V1, 0, 0, 0⟩ : SegD)])) (fun _ _ => rfl) hr (by omega)) (Nat.le_trans hc hm)
        have hfl := flat_snoc L (⟨1, V0, V1, 0, 0, 0⟩ : SegD)
        rw [hfl] at gp
        have hll : (L ++ [(⟨1, V0, V1, 0, 0, 0⟩ : SegD)]).length = L.length + 1 := by simp
        rw [hll] at gp
        refine CallP_lend (fun vs w => by kernel_rfl) rfl (by kernel_rfl) gp ?_
        clear gp
        unfold ParseK
        by_cases hp : pathE (segsF (L ++ [(⟨1, V0, V1, 0, 0, 0⟩ : SegD)])) (L.length + 1) = 0
        · rw [hp]
          (repeat ((try (conv => whnf)); (first | (with_reducible refine condP_true ?_) | (with_reducible refine condP_false ?_) | (with_reducible refine condP_not ?_) | (with_reducible refine condP_and ?_) | ((with_reducible refine condP_dt ?_ ?_); (· omega)) | ((with_reducible refine condP_df ?_ ?_); (· omega)) | ((with_reducible refine condP_yes ?_ ?_); (· assumption)) | ((with_reducible refine condP_no ?_ ?_); (· assumption)) | ((with_reducible refine ArP_i64 ?_ ?_); (· omega)) | ((with_reducible refine mustP.mk ?_ ?_); (· first | omega | rfl | (dsimp only; omega))) | (with_reducible refine EqP_nil tab_ok ?_) | (with_reducible refine EqP_sli tab_ok ?_) | (with_reducible refine DrawP_auto tab_ok (by kernel_rfl) (by decide +kernel) ?_) | (with_reducible refine DrawP_auto2 tab_ok (by kernel_rfl) (by decide +kernel) ?_) | (with_reducible refine eq45 ?_) | (with_reducible refine eq62 ?_) | (with_reducible refine eq100 ?_))))
          conv => whnf
          exact .inr ⟨by rw [hll]; exact hp, .inl ⟨_, rfl, by rw [hfl, hll]; rfl⟩⟩
        · have hpe := hp
          have hq : pathE (segsF (L ++ [(⟨1, V0, V1, 0, 0, 0⟩ : SegD)])) (L ++ [(⟨1, V0, V1, 0, 0, 0⟩ : SegD)]).length = pathE (segsF (L ++ [(⟨1, V0, V1, 0, 0, 0⟩ : SegD)])) (L.length + 1) := by rw [hll]
          generalize hPE : pathE (segsF (L ++ [(⟨1, V0, V1, 0, 0, 0⟩ : SegD)])) (L.length + 1) = E at *
          (repeat ((try (conv => whnf)); (first | (with_reducible refine condP_true ?_) | (with_reducible refine condP_false ?_) | (with_reducible refine condP_not ?_) | (with_reducible refine condP_and ?_) | ((with_reducible refine condP_dt ?_ ?_); (· omega)) | ((with_reducible refine condP_df ?_ ?_); (· omega)) | ((with_reducible refine condP_yes ?_ ?_); (· assumption)) | ((with_reducible refine condP_no ?_ ?_); (· assumption)) | ((with_reducible refine ArP_i64 ?_ ?_); (· omega)) | ((with_reducible refine mustP.mk ?_ ?_); (· first | omega | rfl | (dsimp only; omega))) | (with_reducible refine EqP_nil tab_ok ?_) | (with_reducible refine EqP_sli tab_ok ?_) | (with_reducible refine DrawP_auto tab_ok (by kernel_rfl) (by decide +kernel) ?_) | (with_reducible refine DrawP_auto2 tab_ok (by kernel_rfl) (by decide +kernel) ?_) | (with_reducible refine eq45 ?_) | (with_reducible refine eq62 ?_) | (with_reducible refine eq100 ?_))))
          conv => whnf
          exact .inl ⟨by rw [hq]; exact hp, by rw [hq]⟩
      have hbe : s[Int.toNat (a2 : Int)]? = some 32 := by have h := hget a2 nn; rw [hend (by omega)] at h; exact h
      by_cases hlast : a2 + 1 = l.length
      · rw [rest_more nn, List.drop_eq_nil_of_le (by omega)] at hR
        have hn := hR.odd rfl
        subst hn
        clear hget hR hend
        (repeat ((try (conv => whnf)); (first | (first | (refine Exists.intro _ (And.intro hcb ?_)) | (refine Exists.intro _ (And.intro hb1 ?_)) | (refine Exists.intro _ (And.intro hb2 ?_)) | (refine Exists.intro _ (And.intro hbe ?_))) | (with_reducible refine LoopP_step tab_ok ?_) | (with_reducible refine DrawP_mk tab_ok (by kernel_rfl) 6 [1] (by decide +kernel) ?_) | (with_reducible refine condP_true ?_) | (with_reducible refine condP_false ?_) | (with_reducible refine condP_not ?_) | (with_reducible refine condP_and ?_) | ((with_reducible refine condP_dt ?_ ?_); (· omega)) | ((with_reducible refine condP_df ?_ ?_); (· omega)) | ((with_reducible refine condP_yes ?_ ?_); (· assumption)) | ((with_reducible refine condP_no ?_ ?_); (· assumption)) | ((with_reducible refine ArP_i64 ?_ ?_); (· omega)) | ((with_reducible refine mustP.mk ?_ ?_); (· first | omega | rfl | (dsimp only; omega))) | (with_reducible refine EqP_nil tab_ok ?_) | (with_reducible refine EqP_sli tab_ok ?_) | (with_reducible refine DrawP_auto tab_ok (by kernel_rfl) (by decide +kernel) ?_) | (with_reducible refine DrawP_auto2 tab_ok (by kernel_rfl) (by decide +kernel) ?_) | (with_reducible refine eq45 ?_) | (with_reducible refine eq62 ?_) | (with_reducible refine eq100 ?_) | (with_reducible refine CallP_gives (fun vs w => by kernel_rfl) (by kernel_rfl) (g0) ?_) | (with_reducible refine RCallP_gives (fun vs w => by kernel_rfl) (by kernel_rfl) (g0) ?_) | (with_reducible refine CallP_gives (fun vs w => by kernel_rfl) (by kernel_rfl) (g1) ?_) | (with_reducible refine RCallP_gives (fun vs w => by kernel_rfl) (by kernel_rfl) (g1) ?_))))
        conv => whnf
      · unfold restW at hR
        rw [if_pos nn] at hR
        clear hget hend
        (repeat ((try (conv => whnf)); (first | (first | (refine Exists.intro _ (And.intro hcb ?_)) | (refine Exists.intro _ (And.intro hb1 ?_)) | (refine Exists.intro _ (And.intro hb2 ?_)) | (refine Exists.intro _ (And.intro hbe ?_))) | (with_reducible refine LoopP_step tab_ok ?_) | (with_reducible refine DrawP_mk tab_ok (by kernel_rfl) 6 [1] (by decide +kernel) ?_) | (with_reducible refine condP_true ?_) | (with_reducible refine condP_false ?_) | (with_reducible refine condP_not ?_) | (with_reducible refine condP_and ?_) | ((with_reducible refine condP_dt ?_ ?_); (· omega)) | ((with_reducible refine condP_df ?_ ?_); (· omega)) | ((with_reducible refine condP_yes ?_ ?_); (· assumption)) | ((with_reducible refine condP_no ?_ ?_); (· assumption)) | ((with_reducible refine ArP_i64 ?_ ?_); (· omega)) | ((with_reducible refine mustP.mk ?_ ?_); (· first | omega | rfl | (dsimp only; omega))) | (with_reducible refine EqP_nil tab_ok ?_) | (with_reducible refine EqP_sli tab_ok ?_) | (with_reducible refine DrawP_auto tab_ok (by kernel_rfl) (by decide +kernel) ?_) | (with_reducible refine DrawP_auto2 tab_ok (by kernel_rfl) (by decide +kernel) ?_) | (with_reducible refine eq45 ?_) | (with_reducible refine eq62 ?_) | (with_reducible refine eq100 ?_) | (with_reducible refine CallP_gives (fun vs w => by kernel_rfl) (by kernel_rfl) (g0) ?_) | (with_reducible refine RCallP_gives (fun vs w => by kernel_rfl) (by kernel_rfl) (g0) ?_) | (with_reducible refine CallP_gives (fun vs w => by kernel_rfl) (by kernel_rfl) (g1) ?_) | (with_reducible refine RCallP_gives (fun vs w => by kernel_rfl) (by kernel_rfl) (g1) ?_))))
        conv => whnf
        refine ⟨a2 + 1, L ++ [(⟨1, V0, V1, 0, 0, 0⟩ : SegD)], ⟨by omega, by simp; omega, hR⟩, by omega, ?_⟩
        refine Le_move 4 0 rfl rfl rfl rfl ?_
        conv => whnf
        ((refine Le_head ?_); (conv => whnf); (refine Le_mk (by rfl) (by rfl) ?_ ?_); (· (repeat (first | (with_reducible exact frLe_nil) | (with_reducible refine frLe_any ?_) | (with_reducible refine frLe_val ?_) | ((with_reducible refine frLe_eq rfl ?_ ?_); (· rfl)) | ((with_reducible refine frLe_val' (int_eq ?_) ?_ ?_); (· omega); (· rfl)) | ((with_reducible refine frLe_val' (int_eq ?_) ?_ ?_); (· simp only [Int.natCast_add, Int.natCast_one, Int.natCast_ofNat] <;> omega); (· rfl)) | ((with_reducible refine frLe_val' (bool_eq ?_) ?_ ?_); (· first | assumption | (symm; assumption)); (· rfl))))))
        exact hpLe_own (by simp) (by rw [flat_snoc]) hpLe_nil
    by_cases k2 : kindW (wordAt (l.drop c)) = 2
    · have e : wordAt (l.drop c) = [108] := by
        unfold kindW at k2
        repeat' split at k2
        all_goals first | assumption | omega
      have hb0 : (l.getD c 0).toNat = 108 := by
        have := (hw0 (by rw [e]; simp)).1
        rw [e] at this
        rw [← this]; rfl
      have hend := word_end (l := l) (a := c)
      rw [e] at hR hend k0 hws
      have hkd : kindW [108] = 2 := rfl
      simp only [List.length_singleton] at hR hend hws
      generalize l.getD c 0 = b0 at *
      clear hw0 k2
      obtain ⟨a0, ha0⟩ : ∃ a0, a0 = c + 1 := ⟨_, rfl⟩
      rw [← ha0] at hR hend hws
      rcases Nat.lt_or_ge a0 l.length with n0 | n0
      rotate_left
      · rw [rest_none n0] at hR
        have hn := hR.bad (by rw [hkd]; intro h; have h : numsOK 2 ([]) := h; exact nums_nil h)
        subst hn
        clear hget hR hend
        (repeat ((try (conv => whnf)); (first | (first | (refine Exists.intro _ (And.intro hcb ?_))) | (with_reducible refine LoopP_step tab_ok ?_) | (with_reducible refine DrawP_mk tab_ok (by kernel_rfl) 6 [1] (by decide +kernel) ?_) | (with_reducible refine condP_true ?_) | (with_reducible refine condP_false ?_) | (with_reducible refine condP_not ?_) | (with_reducible refine condP_and ?_) | ((with_reducible refine condP_dt ?_ ?_); (· omega)) | ((with_reducible refine condP_df ?_ ?_); (· omega)) | ((with_reducible refine condP_yes ?_ ?_); (· assumption)) | ((with_reducible refine condP_no ?_ ?_); (· assumption)) | ((with_reducible refine ArP_i64 ?_ ?_); (· omega)) | ((with_reducible refine mustP.mk ?_ ?_); (· first | omega | rfl | (dsimp only; omega))) | (with_reducible refine EqP_nil tab_ok ?_) | (with_reducible refine EqP_sli tab_ok ?_) | (with_reducible refine DrawP_auto tab_ok (by kernel_rfl) (by decide +kernel) ?_) | (with_reducible refine DrawP_auto2 tab_ok (by kernel_rfl) (by decide +kernel) ?_) | (with_reducible refine eq45 ?_) | (with_reducible refine eq62 ?_) | (with_reducible refine eq100 ?_))))
        conv => whnf
      rw [rest_more n0] at hR
      have hb1 : s[Int.toNat ((c : Int) + 1)]? = some 32 := by have h := hget a0 n0; rw [hend (by omega)] at h; rw [ha0] at h; push_cast at h; exact h
      have d0 := digits_at (G := G) hlist (a := a0) hs n0 (((c : Int) + 1) + 1) (by omega)
      have hend := word_end (l := l) (a := a0 + 1)
      have hws := word_size (l := l) (a := a0 + 1) (by omega)
      generalize wordAt (l.drop (a0 + 1)) = u0 at *
      rcases d0 with ⟨o0, g0⟩ | ⟨o0, g0⟩ | ⟨o0, v0, e0, y0, g0, y10, y20, y30⟩
      rotate_left
      · have hn := hR.bad (by rw [hkd]; intro h; have h : numsOK 2 (u0 :: _) := h; exact o0 (nums_cons.1 h).1)
        subst hn
        clear hget hR hend
        (repeat ((try (conv => whnf)); (first | (first | (refine Exists.intro _ (And.intro hcb ?_)) | (refine Exists.intro _ (And.intro hb1 ?_))) | (with_reducible refine LoopP_step tab_ok ?_) | (with_reducible refine DrawP_mk tab_ok (by kernel_rfl) 6 [1] (by decide +kernel) ?_) | (with_reducible refine condP_true ?_) | (with_reducible refine condP_false ?_) | (with_reducible refine condP_not ?_) | (with_reducible refine condP_and ?_) | ((with_reducible refine condP_dt ?_ ?_); (· omega)) | ((with_reducible refine condP_df ?_ ?_); (· omega)) | ((with_reducible refine condP_yes ?_ ?_); (· assumption)) | ((with_reducible refine condP_no ?_ ?_); (· assumption)) | ((with_reducible refine ArP_i64 ?_ ?_); (· omega)) | ((with_reducible refine mustP.mk ?_ ?_); (· first | omega | rfl | (dsimp only; omega))) | (with_reducible refine EqP_nil tab_ok ?_) | (with_reducible refine EqP_sli tab_ok ?_) | (with_reducible refine DrawP_auto tab_ok (by kernel_rfl) (by decide +kernel) ?_) | (with_reducible refine DrawP_auto2 tab_ok (by kernel_rfl) (by decide +kernel) ?_) | (with_reducible refine eq45 ?_) | (with_reducible refine eq62 ?_) | (with_reducible refine eq100 ?_) | (with_reducible refine CallP_gives (fun vs w => by kernel_rfl) (by kernel_rfl) (g0) ?_) | (with_reducible refine RCallP_gives (fun vs w => by kernel_rfl) (by kernel_rfl) (g0) ?_))))
        conv => whnf
      · have hn := hR.bad (by rw [hkd]; intro h; have h : numsOK 2 (u0 :: _) := h; exact o0 (nums_cons.1 h).1)
        subst hn
        clear hget hR hend
        (repeat ((try (conv => whnf)); (first | (first | (refine Exists.intro _ (And.intro hcb ?_)) | (refine Exists.intro _ (And.intro hb1 ?_)) | (refine Exists.intro _ (And.intro y20 ?_))) | (with_reducible refine LoopP_step tab_ok ?_) | (with_reducible refine DrawP_mk tab_ok (by kernel_rfl) 6 [1] (by decide +kernel) ?_) | (with_reducible refine condP_true ?_) | (with_reducible refine condP_false ?_) | (with_reducible refine condP_not ?_) | (with_reducible refine condP_and ?_) | ((with_reducible refine condP_dt ?_ ?_); (· omega)) | ((with_reducible refine condP_df ?_ ?_); (· omega)) | ((with_reducible refine condP_yes ?_ ?_); (· assumption)) | ((with_reducible refine condP_no ?_ ?_); (· assumption)) | ((with_reducible refine ArP_i64 ?_ ?_); (· omega)) | ((with_reducible refine mustP.mk ?_ ?_); (· first | omega | rfl | (dsimp only; omega))) | (with_reducible refine EqP_nil tab_ok ?_) | (with_reducible refine EqP_sli tab_ok ?_) | (with_reducible refine DrawP_auto tab_ok (by kernel_rfl) (by decide +kernel) ?_) | (with_reducible refine DrawP_auto2 tab_ok (by kernel_rfl) (by decide +kernel) ?_) | (with_reducible refine eq45 ?_) | (with_reducible refine eq62 ?_) | (with_reducible refine eq100 ?_) | (with_reducible refine CallP_gives (fun vs w => by kernel_rfl) (by kernel_rfl) (g0) ?_) | (with_reducible refine RCallP_gives (fun vs w => by kernel_rfl) (by kernel_rfl) (g0) ?_))))
        conv => whnf
      obtain ⟨a1, ha1⟩ : ∃ x, x = a0 + 1 + u0.length := ⟨_, rfl⟩
      rw [← ha1] at hR hend hws g0
      rcases Nat.lt_or_ge a1 l.length with n1 | n1
      rotate_left
      · rw [rest_none n1] at hR
        have hn := hR.bad (by rw [hkd]; intro h; have h : numsOK 2 (u0 :: []) := h; have h := (nums_cons.1 h).2; exact nums_nil h)
        subst hn
        clear hget hR hend
        (repeat ((try (conv => whnf)); (first | (first | (refine Exists.intro _ (And.intro hcb ?_)) | (refine Exists.intro _ (And.intro hb1 ?_))) | (with_reducible refine LoopP_step tab_ok ?_) | (with_reducible refine DrawP_mk tab_ok (by kernel_rfl) 6 [1] (by decide +kernel) ?_) | (with_reducible refine condP_true ?_) | (with_reducible refine condP_false ?_) | (with_reducible refine condP_not ?_) | (with_reducible refine condP_and ?_) | ((with_reducible refine condP_dt ?_ ?_); (· omega)) | ((with_reducible refine condP_df ?_ ?_); (· omega)) | ((with_reducible refine condP_yes ?_ ?_); (· assumption)) | ((with_reducible refine condP_no ?_ ?_); (· assumption)) | ((with_reducible refine ArP_i64 ?_ ?_); (· omega)) | ((with_reducible refine mustP.mk ?_ ?_); (· first | omega | rfl | (dsimp only; omega))) | (with_reducible refine EqP_nil tab_ok ?_) | (with_reducible refine EqP_sli tab_ok ?_) | (with_reducible refine DrawP_auto tab_ok (by kernel_rfl) (by decide +kernel) ?_) | (with_reducible refine DrawP_auto2 tab_ok (by kernel_rfl) (by decide +kernel) ?_) | (with_reducible refine eq45 ?_) | (with_reducible refine eq62 ?_) | (with_reducible refine eq100 ?_) | (with_reducible refine CallP_gives (fun vs w => by kernel_rfl) (by kernel_rfl) (g0) ?_) | (with_reducible refine RCallP_gives (fun vs w => by kernel_rfl) (by kernel_rfl) (g0) ?_))))
        conv => whnf
      rw [rest_more n1] at hR
      have hb2 : s[Int.toNat (a1 : Int)]? = some 32 := by have h := hget a1 n1; rw [hend (by omega)] at h; exact h
      have d1 := digits_at (G := G) hlist (a := a1) hs n1 ((a1 : Int) + 1) (by omega)
      have hend := word_end (l := l) (a := a1 + 1)
      have hws := word_size (l := l) (a := a1 + 1) (by omega)
      generalize wordAt (l.drop (a1 + 1)) = u1 at *
      rcases d1 with ⟨o1, g1⟩ | ⟨o1, g1⟩ | ⟨o1, v1, e1, y1, g1, y11, y21, y31⟩
      rotate_left
      · have hn := hR.bad (by rw [hkd]; intro h; have h : numsOK 2 (u0 :: u1 :: _) := h; have h := (nums_cons.1 h).2; exact o1 (nums_cons.1 h).1)
        subst hn
        clear hget hR hend
        (repeat ((try (conv => whnf)); (first | (first | (refine Exists.intro _ (And.intro hcb ?_)) | (refine Exists.intro _ (And.intro hb1 ?_)) | (refine Exists.intro _ (And.intro hb2 ?_))) | (with_reducible refine LoopP_step tab_ok ?_) | (with_reducible refine DrawP_mk tab_ok (by kernel_rfl) 6 [1] (by decide +kernel) ?_) | (with_reducible refine condP_true ?_) | (with_reducible refine condP_false ?_) | (with_reducible refine condP_not ?_) | (with_reducible refine condP_and ?_) | ((with_reducible refine condP_dt ?_ ?_); (· omega)) | ((with_reducible refine condP_df ?_ ?_); (· omega)) | ((with_reducible refine condP_yes ?_ ?_); (· assumption)) | ((with_reducible refine condP_no ?_ ?_); (· assumption)) | ((with_reducible refine ArP_i64 ?_ ?_); (· omega)) | ((with_reducible refine mustP.mk ?_ ?_); (· first | omega | rfl | (dsimp only; omega))) | (with_reducible refine EqP_nil tab_ok ?_) | (with_reducible refine EqP_sli tab_ok ?_) | (with_reducible refine DrawP_auto tab_ok (by kernel_rfl) (by decide +kernel) ?_) | (with_reducible refine DrawP_auto2 tab_ok (by kernel_rfl) (by decide +kernel) ?_) | (with_reducible refine eq45 ?_) | (with_reducible refine eq62 ?_) | (with_reducible refine eq100 ?_) | (with_reducible refine CallP_gives (fun vs w => by kernel_rfl) (by kernel_rfl) (g0) ?_) | (with_reducible refine RCallP_gives (fun vs w => by kernel_rfl) (by kernel_rfl) (g0) ?_) | (with_reducible refine CallP_gives (fun vs w => by kernel_rfl) (by kernel_rfl) (g1) ?_) | (with_reducible refine RCallP_gives (fun vs w => by kernel_rfl) (by kernel_rfl) (g1) ?_))))
        conv => whnf
      · have hn := hR.bad (by rw [hkd]; intro h; have h : numsOK 2 (u0 :: u1 :: _) := h; have h := (nums_cons.1 h).2; exact o1 (nums_cons.1 h).1)
        subst hn
        clear hget hR hend
        (repeat ((try (conv => whnf)); (first | (first | (refine Exists.intro _ (And.intro hcb ?_)) | (refine Exists.intro _ (And.intro hb1 ?_)) | (refine Exists.intro _ (And.intro hb2 ?_)) | (refine Exists.intro _ (And.intro y21 ?_))) | (with_reducible refine LoopP_step tab_ok ?_) | (with_reducible refine DrawP_mk tab_ok (by kernel_rfl) 6 [1] (by decide +kernel) ?_) | (with_reducible refine condP_true ?_) | (with_reducible refine condP_false ?_) | (with_reducible refine condP_not ?_) | (with_reducible refine condP_and ?_) | ((with_reducible refine condP_dt ?_ ?_); (· omega)) | ((with_reducible refine condP_df ?_ ?_); (· omega)) | ((with_reducible refine condP_yes ?_ ?_); (· assumption)) | ((with_reducible refine condP_no ?_ ?_); (· assumption)) | ((with_reducible refine ArP_i64 ?_ ?_); (· omega)) | ((with_reducible refine mustP.mk ?_ ?_); (· first | omega | rfl | (dsimp only; omega))) | (with_reducible refine EqP_nil tab_ok ?_) | (with_reducible refine EqP_sli tab_ok ?_) | (with_reducible refine DrawP_auto tab_ok (by kernel_rfl) (by decide +kernel) ?_) | (with_reducible refine DrawP_auto2 tab_ok (by kernel_rfl) (by decide +kernel) ?_) | (with_reducible refine eq45 ?_) | (with_reducible refine eq62 ?_) | (with_reducible refine eq100 ?_) | (with_reducible refine CallP_gives (fun vs w => by kernel_rfl) (by kernel_rfl) (g0) ?_) | (with_reducible refine RCallP_gives (fun vs w => by kernel_rfl) (by kernel_rfl) (g0) ?_) | (with_reducible refine CallP_gives (fun vs w => by kernel_rfl) (by kernel_rfl) (g1) ?_) | (with_reducible refine RCallP_gives (fun vs w => by kernel_rfl) (by kernel_rfl) (g1) ?_))))
        conv => whnf
      obtain ⟨a2, ha2⟩ : ∃ x, x = a1 + 1 + u1.length := ⟨_, rfl⟩
      rw [← ha2] at hR hend hws g1
      have hR := hR.seg k0 (by rw [hkd]; exact nums_cons.2 ⟨o0, nums_cons.2 ⟨o1, nums_zero⟩⟩)
      have hR : Left T (L ++ [(⟨2, numV u0, numV u1, 0, 0, 0⟩ : SegD)]) (restW l a2) := hR
      generalize numV u0 = V0 at *
      generalize numV u1 = V1 at *
      clear o0
      clear o1
      rcases Nat.lt_or_ge a2 l.length with nn | nn
      rotate_left
      · rw [rest_none nn] at hR
        have hT2 := hR.done
        subst hT2
        clear hget hR hend
        (repeat ((try (conv => whnf)); (first | (first | (refine Exists.intro _ (And.intro hcb ?_)) | (refine Exists.intro _ (And.intro hb1 ?_)) | (refine Exists.intro _ (And.intro hb2 ?_))) | (with_reducible refine LoopP_step tab_ok ?_) | (with_reducible refine DrawP_mk tab_ok (by kernel_rfl) 6 [1] (by decide +kernel) ?_) | (with_reducible refine condP_true ?_) | (with_reducible refine condP_false ?_) | (with_reducible refine condP_not ?_) | (with_reducible refine condP_and ?_) | ((with_reducible refine condP_dt ?_ ?_); (· omega)) | ((with_reducible refine condP_df ?_ ?_); (· omega)) | ((with_reducible refine condP_yes ?_ ?_); (· assumption)) | ((with_reducible refine condP_no ?_ ?_); (· assumption)) | ((with_reducible refine ArP_i64 ?_ ?_); (· omega)) | ((with_reducible refine mustP.mk ?_ ?_); (· first | omega | rfl | (dsimp only; omega))) | (with_reducible refine EqP_nil tab_ok ?_) | (with_reducible refine EqP_sli tab_ok ?_) | (with_reducible refine DrawP_auto tab_ok (by kernel_rfl) (by decide +kernel) ?_) | (with_reducible refine DrawP_auto2 tab_ok (by kernel_rfl) (by decide +kernel) ?_) | (with_reducible refine eq45 ?_) | (with_reducible refine eq62 ?_) | (with_reducible refine eq100 ?_) | (with_reducible refine CallP_gives (fun vs w => by kernel_rfl) (by kernel_rfl) (g0) ?_) | (with_reducible refine RCallP_gives (fun vs w => by kernel_rfl) (by kernel_rfl) (g0) ?_) | (with_reducible refine CallP_gives (fun vs w => by kernel_rfl) (by kernel_rfl) (g1) ?_) | (with_reducible refine RCallP_gives (fun vs w => by kernel_rfl) (by kernel_rfl) (g1) ?_))))
        conv => whnf
        have gp := fun A cap G' (hG : G.le G') (hc : (L ++ [(⟨2, V0, V1, 0, 0, 0⟩ : SegD)]).length ≤ cap) (hm : cap ≤ maxLen) (hr : RowM G' A (flatC (segC (L ++ [(⟨2, V0, V1, 0, 0, 0⟩ : SegD)])) (L ++ [(⟨2, V0, V1, 0, 0, 0⟩ : SegD)]).length)) => RPCheck_gives (c := cap) (S := segsF (L ++ [(⟨2, V0, V1, 0, 0, 0⟩ : SegD)])) (rowEls (sz := 6) (c := segC (L ++ [(⟨2, V0, V1, 0, 0, 0⟩ : SegD)])) (fun _ _ => rfl) hr (by omega)) (Nat.le_trans hc hm)
        have hfl := flat_snoc L (⟨2, V0, V1, 0, 0, 0⟩ : SegD)
        rw [hfl] at gp
        have hll : (L ++ [(⟨2, V0, V1, 0, 0, 0⟩ : SegD)]).length = L.length + 1 := by simp
        rw [hll] at gp
        refine CallP_lend (fun vs w => by kernel_rfl) rfl (by kernel_rfl) gp ?_
        clear gp
        unfold ParseK
        by_cases hp : pathE (segsF (L ++ [(⟨2, V0, V1, 0, 0, 0⟩ : SegD)])) (L.length + 1) = 0
        · rw [hp]
          (repeat ((try (conv => whnf)); (first | (with_reducible refine condP_true ?_) | (with_reducible refine condP_false ?_) | (with_reducible refine condP_not ?_) | (with_reducible refine condP_and ?_) | ((with_reducible refine condP_dt ?_ ?_); (· omega)) | ((with_reducible refine condP_df ?_ ?_); (· omega)) | ((with_reducible refine condP_yes ?_ ?_); (· assumption)) | ((with_reducible refine condP_no ?_ ?_); (· assumption)) | ((with_reducible refine ArP_i64 ?_ ?_); (· omega)) | ((with_reducible refine mustP.mk ?_ ?_); (· first | omega | rfl | (dsimp only; omega))) | (with_reducible refine EqP_nil tab_ok ?_) | (with_reducible refine EqP_sli tab_ok ?_) | (with_reducible refine DrawP_auto tab_ok (by kernel_rfl) (by decide +kernel) ?_) | (with_reducible refine DrawP_auto2 tab_ok (by kernel_rfl) (by decide +kernel) ?_) | (with_reducible refine eq45 ?_) | (with_reducible refine eq62 ?_) | (with_reducible refine eq100 ?_))))
          conv => whnf
          exact .inr ⟨by rw [hll]; exact hp, .inl ⟨_, rfl, by rw [hfl, hll]; rfl⟩⟩
        · have hpe := hp
          have hq : pathE (segsF (L ++ [(⟨2, V0, V1, 0, 0, 0⟩ : SegD)])) (L ++ [(⟨2, V0, V1, 0, 0, 0⟩ : SegD)]).length = pathE (segsF (L ++ [(⟨2, V0, V1, 0, 0, 0⟩ : SegD)])) (L.length + 1) := by rw [hll]
          generalize hPE : pathE (segsF (L ++ [(⟨2, V0, V1, 0, 0, 0⟩ : SegD)])) (L.length + 1) = E at *
          (repeat ((try (conv => whnf)); (first | (with_reducible refine condP_true ?_) | (with_reducible refine condP_false ?_) | (with_reducible refine condP_not ?_) | (with_reducible refine condP_and ?_) | ((with_reducible refine condP_dt ?_ ?_); (· omega)) | ((with_reducible refine condP_df ?_ ?_); (· omega)) | ((with_reducible refine condP_yes ?_ ?_); (· assumption)) | ((with_reducible refine condP_no ?_ ?_); (· assumption)) | ((with_reducible refine ArP_i64 ?_ ?_); (· omega)) | ((with_reducible refine mustP.mk ?_ ?_); (· first | omega | rfl | (dsimp only; omega))) | (with_reducible refine EqP_nil tab_ok ?_) | (with_reducible refine EqP_sli tab_ok ?_) | (with_reducible refine DrawP_auto tab_ok (by kernel_rfl) (by decide +kernel) ?_) | (with_reducible refine DrawP_auto2 tab_ok (by kernel_rfl) (by decide +kernel) ?_) | (with_reducible refine eq45 ?_) | (with_reducible refine eq62 ?_) | (with_reducible refine eq100 ?_))))
          conv => whnf
          exact .inl ⟨by rw [hq]; exact hp, by rw [hq]⟩
      have hbe : s[Int.toNat (a2 : Int)]? = some 32 := by have h := hget a2 nn; rw [hend (by omega)] at h; exact h
      by_cases hlast : a2 + 1 = l.length
      · rw [rest_more nn, List.drop_eq_nil_of_le (by omega)] at hR
        have hn := hR.odd rfl
        subst hn
        clear hget hR hend
        (repeat ((try (conv => whnf)); (first | (first | (refine Exists.intro _ (And.intro hcb ?_)) | (refine Exists.intro _ (And.intro hb1 ?_)) | (refine Exists.intro _ (And.intro hb2 ?_)) | (refine Exists.intro _ (And.intro hbe ?_))) | (with_reducible refine LoopP_step tab_ok ?_) | (with_reducible refine DrawP_mk tab_ok (by kernel_rfl) 6 [1] (by decide +kernel) ?_) | (with_reducible refine condP_true ?_) | (with_reducible refine condP_false ?_) | (with_reducible refine condP_not ?_) | (with_reducible refine condP_and ?_) | ((with_reducible refine condP_dt ?_ ?_); (· omega)) | ((with_reducible refine condP_df ?_ ?_); (· omega)) | ((with_reducible refine condP_yes ?_ ?_); (· assumption)) | ((with_reducible refine condP_no ?_ ?_); (· assumption)) | ((with_reducible refine ArP_i64 ?_ ?_); (· omega)) | ((with_reducible refine mustP.mk ?_ ?_); (· first | omega | rfl | (dsimp only; omega))) | (with_reducible refine EqP_nil tab_ok ?_) | (with_reducible refine EqP_sli tab_ok ?_) | (with_reducible refine DrawP_auto tab_ok (by kernel_rfl) (by decide +kernel) ?_) | (with_reducible refine DrawP_auto2 tab_ok (by kernel_rfl) (by decide +kernel) ?_) | (with_reducible refine eq45 ?_) | (with_reducible refine eq62 ?_) | (with_reducible refine eq100 ?_) | (with_reducible refine CallP_gives (fun vs w => by kernel_rfl) (by kernel_rfl) (g0) ?_) | (with_reducible refine RCallP_gives (fun vs w => by kernel_rfl) (by kernel_rfl) (g0) ?_) | (with_reducible refine CallP_gives (fun vs w => by kernel_rfl) (by kernel_rfl) (g1) ?_) | (with_reducible refine RCallP_gives (fun vs w => by kernel_rfl) (by kernel_rfl) (g1) ?_))))
        conv => whnf
      · unfold restW at hR
        rw [if_pos nn] at hR
        clear hget hend
        (repeat ((try (conv => whnf)); (first | (first | (refine Exists.intro _ (And.intro hcb ?_)) | (refine Exists.intro _ (And.intro hb1 ?_)) | (refine Exists.intro _ (And.intro hb2 ?_)) | (refine Exists.intro _ (And.intro hbe ?_))) | (with_reducible refine LoopP_step tab_ok ?_) | (with_reducible refine DrawP_mk tab_ok (by kernel_rfl) 6 [1] (by decide +kernel) ?_) | (with_reducible refine condP_true ?_) | (with_reducible refine condP_false ?_) | (with_reducible refine condP_not ?_) | (with_reducible refine condP_and ?_) | ((with_reducible refine condP_dt ?_ ?_); (· omega)) | ((with_reducible refine condP_df ?_ ?_); (· omega)) | ((with_reducible refine condP_yes ?_ ?_); (· assumption)) | ((with_reducible refine condP_no ?_ ?_); (· assumption)) | ((with_reducible refine ArP_i64 ?_ ?_); (· omega)) | ((with_reducible refine mustP.mk ?_ ?_); (· first | omega | rfl | (dsimp only; omega))) | (with_reducible refine EqP_nil tab_ok ?_) | (with_reducible refine EqP_sli tab_ok ?_) | (with_reducible refine DrawP_auto tab_ok (by kernel_rfl) (by decide +kernel) ?_) | (with_reducible refine DrawP_auto2 tab_ok (by kernel_rfl) (by decide +kernel) ?_) | (with_reducible refine eq45 ?_) | (with_reducible refine eq62 ?_) | (with_reducible refine eq100 ?_) | (with_reducible refine CallP_gives (fun vs w => by kernel_rfl) (by kernel_rfl) (g0) ?_) | (with_reducible refine RCallP_gives (fun vs w => by kernel_rfl) (by kernel_rfl) (g0) ?_) | (with_reducible refine CallP_gives (fun vs w => by kernel_rfl) (by kernel_rfl) (g1) ?_) | (with_reducible refine RCallP_gives (fun vs w => by kernel_rfl) (by kernel_rfl) (g1) ?_))))
        conv => whnf
        refine ⟨a2 + 1, L ++ [(⟨2, V0, V1, 0, 0, 0⟩ : SegD)], ⟨by omega, by simp; omega, hR⟩, by omega, ?_⟩
        refine Le_move 4 0 rfl rfl rfl rfl ?_
        conv => whnf
        ((refine Le_head ?_); (conv => whnf); (refine Le_mk (by rfl) (by rfl) ?_ ?_); (· (repeat (first | (with_reducible exact frLe_nil) | (with_reducible refine frLe_any ?_) | (with_reducible refine frLe_val ?_) | ((with_reducible refine frLe_eq rfl ?_ ?_); (· rfl)) | ((with_reducible refine frLe_val' (int_eq ?_) ?_ ?_); (· omega); (· rfl)) | ((with_reducible refine frLe_val' (int_eq ?_) ?_ ?_); (· simp only [Int.natCast_add, Int.natCast_one, Int.natCast_ofNat] <;> omega); (· rfl)) | ((with_reducible refine frLe_val' (bool_eq ?_) ?_ ?_); (· first | assumption | (symm; assumption)); (· rfl))))))
        exact hpLe_own (by simp) (by rw [flat_snoc]) hpLe_nil
    by_cases k3 : kindW (wordAt (l.drop c)) = 3
    · have e : wordAt (l.drop c) = [113] := by
        unfold kindW at k3
        repeat' split at k3
        all_goals first | assumption | omega
      have hb0 : (l.getD c 0).toNat = 113 := by
        have := (hw0 (by rw [e]; simp)).1
        rw [e] at this
        rw [← this]; rfl
      have hend := word_end (l := l) (a := c)
      rw [e] at hR hend k0 hws
      have hkd : kindW [113] = 3 := rfl
      simp only [List.length_singleton] at hR hend hws
      generalize l.getD c 0 = b0 at *
      clear hw0 k3
      obtain ⟨a0, ha0⟩ : ∃ a0, a0 = c + 1 := ⟨_, rfl⟩
      rw [← ha0] at hR hend hws
      rcases Nat.lt_or_ge a0 l.length with n0 | n0
      rotate_left
      · rw [rest_none n0] at hR
        have hn := hR.bad (by rw [hkd]; intro h; have h : numsOK 5 ([]) := h; exact nums_nil h)
        subst hn
        clear hget hR hend
        (repeat ((try (conv => whnf)); (first | (first | (refine Exists.intro _ (And.intro hcb ?_))) | (with_reducible refine LoopP_step tab_ok ?_) | (with_reducible refine DrawP_mk tab_ok (by kernel_rfl) 20 [1] (by decide +kernel) ?_) | (with_reducible refine condP_true ?_) | (with_reducible refine condP_false ?_) | (with_reducible refine condP_not ?_) | (with_reducible refine condP_and ?_) | ((with_reducible refine condP_dt ?_ ?_); (· omega)) | ((with_reducible refine condP_df ?_ ?_); (· omega)) | ((with_reducible refine condP_yes ?_ ?_); (· assumption)) | ((with_reducible refine condP_no ?_ ?_); (· assumption)) | ((with_reducible refine ArP_i64 ?_ ?_); (· omega)) | ((with_reducible refine mustP.mk ?_ ?_); (· first | omega | rfl | (dsimp only; omega))) | (with_reducible refine EqP_nil tab_ok ?_) | (with_reducible refine EqP_sli tab_ok ?_) | (with_reducible refine DrawP_auto tab_ok (by kernel_rfl) (by decide +kernel) ?_) | (with_reducible refine DrawP_auto2 tab_ok (by kernel_rfl) (by decide +kernel) ?_) | (with_reducible refine eq45 ?_) | (with_reducible refine eq62 ?_) | (with_reducible refine eq100 ?_))))
        conv => whnf
      rw [rest_more n0] at hR
      have hb1 : s[Int.toNat ((c : Int) + 1)]? = some 32 := by have h := hget a0 n0; rw [hend (by omega)] at h; rw [ha0] at h; push_cast at h; exact h
      have d0 := digits_at (G := G) hlist (a := a0) hs n0 (((c : Int) + 1) + 1) (by omega)
      have hend := word_end (l := l) (a := a0 + 1)
      have hws := word_size (l := l) (a := a0 + 1) (by omega)
      generalize wordAt (l.drop (a0 + 1)) = u0 at *
      rcases d0 with ⟨o0, g0⟩ | ⟨o0, g0⟩ | ⟨o0, v0, e0, y0, g0, y10, y20, y30⟩
      rotate_left
      · have hn := hR.bad (by rw [hkd]; intro h; have h : numsOK 5 (u0 :: _) := h; exact o0 (nums_cons.1 h).1)
        subst hn
        clear hget hR hend
        (repeat ((try (conv => whnf)); (first | (first | (refine Exists.intro _ (And.intro hcb ?_)) | (refine Exists.intro _ (And.intro hb1 ?_))) | (with_reducible refine LoopP_step tab_ok ?_) | (with_reducible refine DrawP_mk tab_ok (by kernel_rfl) 20 [1] (by decide +kernel) ?_) | (with_reducible refine condP_true ?_) | (with_reducible refine condP_false ?_) | (with_reducible refine condP_not ?_) | (with_reducible refine condP_and ?_) | ((with_reducible refine condP_dt ?_ ?_); (· omega)) | ((with_reducible refine condP_df ?_ ?_); (· omega)) | ((with_reducible refine condP_yes ?_ ?_); (· assumption)) | ((with_reducible refine condP_no ?_ ?_); (· assumption)) | ((with_reducible refine ArP_i64 ?_ ?_); (· omega)) | ((with_reducible refine mustP.mk ?_ ?_); (· first | omega | rfl | (dsimp only; omega))) | (with_reducible refine EqP_nil tab_ok ?_) | (with_reducible refine EqP_sli tab_ok ?_) | (with_reducible refine DrawP_auto tab_ok (by kernel_rfl) (by decide +kernel) ?_) | (with_reducible refine DrawP_auto2 tab_ok (by kernel_rfl) (by decide +kernel) ?_) | (with_reducible refine eq45 ?_) | (with_reducible refine eq62 ?_) | (with_reducible refine eq100 ?_) | (with_reducible refine CallP_gives (fun vs w => by kernel_rfl) (by kernel_rfl) (g0) ?_) | (with_reducible refine RCallP_gives (fun vs w => by kernel_rfl) (by kernel_rfl) (g0) ?_))))
        conv => whnf
      · have hn := hR.bad (by rw [hkd]; intro h; have h : numsOK 5 (u0 :: _) := h; exact o0 (nums_cons.1 h).1)
        subst hn
        clear hget hR hend
        (repeat ((try (conv => whnf)); (first | (first | (refine Exists.intro _ (And.intro hcb ?_)) | (refine Exists.intro _ (And.intro hb1 ?_)) | (refine Exists.intro _ (And.intro y20 ?_))) | (with_reducible refine LoopP_step tab_ok ?_) | (with_reducible refine DrawP_mk tab_ok (by kernel_rfl) 20 [1] (by decide +kernel) ?_) | (with_reducible refine condP_true ?_) | (with_reducible refine condP_false ?_) | (with_reducible refine condP_not ?_) | (with_reducible refine condP_and ?_) | ((with_reducible refine condP_dt ?_ ?_); (· omega)) | ((with_reducible refine condP_df ?_ ?_); (· omega)) | ((with_reducible refine condP_yes ?_ ?_); (· assumption)) | ((with_reducible refine condP_no ?_ ?_); (· assumption)) | ((with_reducible refine ArP_i64 ?_ ?_); (· omega)) | ((with_reducible refine mustP.mk ?_ ?_); (· first | omega | rfl | (dsimp only; omega))) | (with_reducible refine EqP_nil tab_ok ?_) | (with_reducible refine EqP_sli tab_ok ?_) | (with_reducible refine DrawP_auto tab_ok (by kernel_rfl) (by decide +kernel) ?_) | (with_reducible refine DrawP_auto2 tab_ok (by kernel_rfl) (by decide +kernel) ?_) | (with_reducible refine eq45 ?_) | (with_reducible refine eq62 ?_) | (with_reducible refine eq100 ?_) | (with_reducible refine CallP_gives (fun vs w => by kernel_rfl) (by kernel_rfl) (g0) ?_) | (with_reducible refine RCallP_gives (fun vs w => by kernel_rfl) (by kernel_rfl) (g0) ?_))))
        conv => whnf
      obtain ⟨a1, ha1⟩ : ∃ x, x = a0 + 1 + u0.length := ⟨_, rfl⟩
      rw [← ha1] at hR hend hws g0
      rcases Nat.lt_or_ge a1 l.length with n1 | n1
      rotate_left
      · rw [rest_none n1] at hR
        have hn := hR.bad (by rw [hkd]; intro h; have h : numsOK 5 (u0 :: []) := h; have h := (nums_cons.1 h).2; exact nums_nil h)
        subst hn
        clear hget hR hend
        (repeat ((try (conv => whnf)); (first | (first | (refine Exists.intro _ (And.intro hcb ?_)) | (refine Exists.intro _ (And.intro hb1 ?_))) | (with_reducible refine LoopP_step tab_ok ?_) | (with_reducible refine DrawP_mk tab_ok (by kernel_rfl) 20 [1] (by decide +kernel) ?_) | (with_reducible refine condP_true ?_) | (with_reducible refine condP_false ?_) | (with_reducible refine condP_not ?_) | (with_reducible refine condP_and ?_) | ((with_reducible refine condP_dt ?_ ?_); (· omega)) | ((with_reducible refine condP_df ?_ ?_); (· omega)) | ((with_reducible refine condP_yes ?_ ?_); (· assumption)) | ((with_reducible refine condP_no ?_ ?_); (· assumption)) | ((with_reducible refine ArP_i64 ?_ ?_); (· omega)) | ((with_reducible refine mustP.mk ?_ ?_); (· first | omega | rfl | (dsimp only; omega))) | (with_reducible refine EqP_nil tab_ok ?_) | (with_reducible refine EqP_sli tab_ok ?_) | (with_reducible refine DrawP_auto tab_ok (by kernel_rfl) (by decide +kernel) ?_) | (with_reducible refine DrawP_auto2 tab_ok (by kernel_rfl) (by decide +kernel) ?_) | (with_reducible refine eq45 ?_) | (with_reducible refine eq62 ?_) | (with_reducible refine eq100 ?_) | (with_reducible refine CallP_gives (fun vs w => by kernel_rfl) (by kernel_rfl) (g0) ?_) | (with_reducible refine RCallP_gives (fun vs w => by kernel_rfl) (by kernel_rfl) (g0) ?_))))
        conv => whnf
      rw [rest_more n1] at hR
      have hb2 : s[Int.toNat (a1 : Int)]? = some 32 := by have h := hget a1 n1; rw [hend (by omega)] at h; exact h
      have d1 := digits_at (G := G) hlist (a := a1) hs n1 ((a1 : Int) + 1) (by omega)
      have hend := word_end (l := l) (a := a1 + 1)
      have hws := word_size (l := l) (a := a1 + 1) (by omega)
      generalize wordAt (l.drop (a1 + 1)) = u1 at *
      rcases d1 with ⟨o1, g1⟩ | ⟨o1, g1⟩ | ⟨o1, v1, e1, y1, g1, y11, y21, y31⟩
      rotate_left
      · have hn := hR.bad (by rw [hkd]; intro h; have h : numsOK 5 (u0 :: u1 :: _) := h; have h := (nums_cons.1 h).2; exact o1 (nums_cons.1 h).1)
        subst hn
        clear hget hR hend
        (repeat ((try (conv => whnf)); (first | (first | (refine Exists.intro _ (And.intro hcb ?_)) | (refine Exists.intro _ (And.intro hb1 ?_)) | (refine Exists.intro _ (And.intro hb2 ?_))) | (with_reducible refine LoopP_step tab_ok ?_) | (with_reducible refine DrawP_mk tab_ok (by kernel_rfl) 20 [1] (by decide +kernel) ?_) | (with_reducible refine condP_true ?_) | (with_reducible refine condP_false ?_) | (with_reducible refine condP_not ?_) | (with_reducible refine condP_and ?_) | ((with_reducible refine condP_dt ?_ ?_); (· omega)) | ((with_reducible refine condP_df ?_ ?_); (· omega)) | ((with_reducible refine condP_yes ?_ ?_); (· assumption)) | ((with_reducible refine condP_no ?_ ?_); (· assumption)) | ((with_reducible refine ArP_i64 ?_ ?_); (· omega)) | ((with_reducible refine mustP.mk ?_ ?_); (· first | omega | rfl | (dsimp only; omega))) | (with_reducible refine EqP_nil tab_ok ?_) | (with_reducible refine EqP_sli tab_ok ?_) | (with_reducible refine DrawP_auto tab_ok (by kernel_rfl) (by decide +kernel) ?_) | (with_reducible refine DrawP_auto2 tab_ok (by kernel_rfl) (by decide +kernel) ?_) | (with_reducible refine eq45 ?_) | (with_reducible refine eq62 ?_) | (with_reducible refine eq100 ?_) | (with_reducible refine CallP_gives (fun vs w => by kernel_rfl) (by kernel_rfl) (g0) ?_) | (with_reducible refine RCallP_gives (fun vs w => by kernel_rfl) (by kernel_rfl) (g0) ?_) | (with_reducible refine CallP_gives (fun vs w => by kernel_rfl) (by kernel_rfl) (g1) ?_) | (with_reducible refine RCallP_gives (fun vs w => by kernel_rfl) (by kernel_rfl) (g1) ?_))))
        conv => whnf
      · have hn := hR.bad (by rw [hkd]; intro h; have h : numsOK 5 (u0 :: u1 :: _) := h; have h := (nums_cons.1 h).2; exact o1 (nums_cons.1 h).1)
        subst hn
        clear hget hR hend
        (repeat ((try (conv => whnf)); (first | (first | (refine Exists.intro _ (And.intro hcb ?_)) | (refine Exists.intro _ (And.intro hb1 ?_)) | (refine Exists.intro _ (And.intro hb2 ?_)) | (refine Exists.intro _ (And.intro y21 ?_))) | (with_reducible refine LoopP_step tab_ok ?_) | (with_reducible refine DrawP_mk tab_ok (by kernel_rfl) 20 [1] (by decide +kernel) ?_) | (with_reducible refine condP_true ?_) | (with_reducible refine condP_false ?_) | (with_reducible refine condP_not ?_) | (with_reducible refine condP_and ?_) | ((with_reducible refine condP_dt ?_ ?_); (· omega)) | ((with_reducible refine condP_df ?_ ?_); (· omega)) | ((with_reducible refine condP_yes ?_ ?_); (· assumption)) | ((with_reducible refine condP_no ?_ ?_); (· assumption)) | ((with_reducible refine ArP_i64 ?_ ?_); (· omega)) | ((with_reducible refine mustP.mk ?_ ?_); (· first | omega | rfl | (dsimp only; omega))) | (with_reducible refine EqP_nil tab_ok ?_) | (with_reducible refine EqP_sli tab_ok ?_) | (with_reducible refine DrawP_auto tab_ok (by kernel_rfl) (by decide +kernel) ?_) | (with_reducible refine DrawP_auto2 tab_ok (by kernel_rfl) (by decide +kernel) ?_) | (with_reducible refine eq45 ?_) | (with_reducible refine eq62 ?_) | (with_reducible refine eq100 ?_) | (with_reducible refine CallP_gives (fun vs w => by kernel_rfl) (by kernel_rfl) (g0) ?_) | (with_reducible refine RCallP_gives (fun vs w => by kernel_rfl) (by kernel_rfl) (g0) ?_) | (with_reducible refine CallP_gives (fun vs w => by kernel_rfl) (by kernel_rfl) (g1) ?_) | (with_reducible refine RCallP_gives (fun vs w => by kernel_rfl) (by kernel_rfl) (g1) ?_))))
        conv => whnf
      obtain ⟨a2, ha2⟩ : ∃ x, x = a1 + 1 + u1.length := ⟨_, rfl⟩
      rw [← ha2] at hR hend hws g1
      rcases Nat.lt_or_ge a2 l.length with n2 | n2
      rotate_left
      · rw [rest_none n2] at hR
        have hn := hR.bad (by rw [hkd]; intro h; have h : numsOK 5 (u0 :: u1 :: []) := h; have h := (nums_cons.1 h).2; have h := (nums_cons.1 h).2; exact nums_nil h)
        subst hn
        clear hget hR hend
        (repeat ((try (conv => whnf)); (first | (first | (refine Exists.intro _ (And.intro hcb ?_)) | (refine Exists.intro _ (And.intro hb1 ?_)) | (refine Exists.intro _ (And.intro hb2 ?_))) | (with_reducible refine LoopP_step tab_ok ?_) | (with_reducible refine DrawP_mk tab_ok (by kernel_rfl) 20 [1] (by decide +kernel) ?_) | (with_reducible refine condP_true ?_) | (with_reducible refine condP_false ?_) | (with_reducible refine condP_not ?_) | (with_reducible refine condP_and ?_) | ((with_reducible refine condP_dt ?_ ?_); (· omega)) | ((with_reducible refine condP_df ?_ ?_); (· omega)) | ((with_reducible refine condP_yes ?_ ?_); (· assumption)) | ((with_reducible refine condP_no ?_ ?_); (· assumption)) | ((with_reducible refine ArP_i64 ?_ ?_); (· omega)) | ((with_reducible refine mustP.mk ?_ ?_); (· first | omega | rfl | (dsimp only; omega))) | (with_reducible refine EqP_nil tab_ok ?_) | (with_reducible refine EqP_sli tab_ok ?_) | (with_reducible refine DrawP_auto tab_ok (by kernel_rfl) (by decide +kernel) ?_) | (with_reducible refine DrawP_auto2 tab_ok (by kernel_rfl) (by decide +kernel) ?_) | (with_reducible refine eq45 ?_) | (with_reducible refine eq62 ?_) | (with_reducible refine eq100 ?_) | (with_reducible refine CallP_gives (fun vs w => by kernel_rfl) (by kernel_rfl) (g0) ?_) | (with_reducible refine RCallP_gives (fun vs w => by kernel_rfl) (by kernel_rfl) (g0) ?_) | (with_reducible refine CallP_gives (fun vs w => by kernel_rfl) (by kernel_rfl) (g1) ?_) | (with_reducible refine RCallP_gives (fun vs w => by kernel_rfl) (by kernel_rfl) (g1) ?_))))
        conv => whnf
      rw [rest_more n2] at hR
      have hb3 : s[Int.toNat (a2 : Int)]? = some 32 := by have h := hget a2 n2; rw [hend (by omega)] at h; exact h
      have d2 := digits_at (G := G) hlist (a := a2) hs n2 ((a2 : Int) + 1) (by omega)
      have hend := word_end (l := l) (a := a2 + 1)
      have hws := word_size (l := l) (a := a2 + 1) (by omega)
      generalize wordAt (l.drop (a2 + 1)) = u2 at *
      rcases d2 with ⟨o2, g2⟩ | ⟨o2, g2⟩ | ⟨o2, v2, e2, y2, g2, y12, y22, y32⟩
      rotate_left
      · have hn := hR.bad (by rw [hkd]; intro h; have h : numsOK 5 (u0 :: u1 :: u2 :: _) := h; have h := (nums_cons.1 h).2; have h := (nums_cons.1 h).2; exact o2 (nums_cons.1 h).1)
        subst hn
        clear hget hR hend
        (repeat ((try (conv => whnf)); (first | (first | (refine Exists.intro _ (And.intro hcb ?_)) | (refine Exists.intro _ (And.intro hb1 ?_)) | (refine Exists.intro _ (And.intro hb2 ?_)) | (refine Exists.intro _ (And.intro hb3 ?_))) | (with_reducible refine LoopP_step tab_ok ?_) | (with_reducible refine DrawP_mk tab_ok (by kernel_rfl) 20 [1] (by decide +kernel) ?_) | (with_reducible refine condP_true ?_) | (with_reducible refine condP_false ?_) | (with_reducible refine condP_not ?_) | (with_reducible refine condP_and ?_) | ((with_reducible refine condP_dt ?_ ?_); (· omega)) | ((with_reducible refine condP_df ?_ ?_); (· omega)) | ((with_reducible refine condP_yes ?_ ?_); (· assumption)) | ((with_reducible refine condP_no ?_ ?_); (· assumption)) | ((with_reducible refine ArP_i64 ?_ ?_); (· omega)) | ((with_reducible refine mustP.mk ?_ ?_); (· first | omega | rfl | (dsimp only; omega))) | (with_reducible refine EqP_nil tab_ok ?_) | (with_reducible refine EqP_sli tab_ok ?_) | (with_reducible refine DrawP_auto tab_ok (by kernel_rfl) (by decide +kernel) ?_) | (with_reducible refine DrawP_auto2 tab_ok (by kernel_rfl) (by decide +kernel) ?_) | (with_reducible refine eq45 ?_) | (with_reducible refine eq62 ?_) | (with_reducible refine eq100 ?_) | (with_reducible refine CallP_gives (fun vs w => by kernel_rfl) (by kernel_rfl) (g0) ?_) | (with_reducible refine RCallP_gives (fun vs w => by kernel_rfl) (by kernel_rfl) (g0) ?_) | (with_reducible refine CallP_gives (fun vs w => by kernel_rfl) (by kernel_rfl) (g1) ?_) | (with_reducible refine RCallP_gives (fun vs w => by kernel_rfl) (by kernel_rfl) (g1) ?_) | (with_reducible refine CallP_gives (fun vs w => by kernel_rfl) (by kernel_rfl) (g2) ?_) | (with_reducible refine RCallP_gives (fun vs w => by kernel_rfl) (by kernel_rfl) (g2) ?_))))
        conv => whnf
      · have hn := hR.bad (by rw [hkd]; intro h; have h : numsOK 5 (u0 :: u1 :: u2 :: _) := h; have h := (nums_cons.1 h).2; have h := (nums_cons.1 h).2; exact o2 (nums_cons.1 h).1)
        subst hn
        clear hget hR hend
        (repeat ((try (conv => whnf)); (first | (first | (refine Exists.intro _ (And.intro hcb ?_)) | (refine Exists.intro _ (And.intro hb1 ?_)) | (refine Exists.intro _ (And.intro hb2 ?_)) | (refine Exists.intro _ (And.intro hb3 ?_)) | (refine Exists.intro _ (And.intro y22 ?_))) | (with_reducible refine LoopP_step tab_ok ?_) | (with_reducible refine DrawP_mk tab_ok (by kernel_rfl) 20 [1] (by decide +kernel) ?_) | (with_reducible refine condP_true ?_) | (with_reducible refine condP_false ?_) | (with_reducible refine condP_not ?_) | (with_reducible refine condP_and ?_) | ((with_reducible refine condP_dt ?_ ?_); (· omega)) | ((with_reducible refine condP_df ?_ ?_); (· omega)) | ((with_reducible refine condP_yes ?_ ?_); (· assumption)) | ((with_reducible refine condP_no ?_ ?_); (· assumption)) | ((with_reducible refine ArP_i64 ?_ ?_); (· omega)) | ((with_reducible refine mustP.mk ?_ ?_); (· first | omega | rfl | (dsimp only; omega))) | (with_reducible refine EqP_nil tab_ok ?_) | (with_reducible refine EqP_sli tab_ok ?_) | (with_reducible refine DrawP_auto tab_ok (by kernel_rfl) (by decide +kernel) ?_) | (with_reducible refine DrawP_auto2 tab_ok (by kernel_rfl) (by decide +kernel) ?_) | (with_reducible refine eq45 ?_) | (with_reducible refine eq62 ?_) | (with_reducible refine eq100 ?_) | (with_reducible refine CallP_gives (fun vs w => by kernel_rfl) (by kernel_rfl) (g0) ?_) | (with_reducible refine RCallP_gives (fun vs w => by kernel_rfl) (by kernel_rfl) (g0) ?_) | (with_reducible refine CallP_gives (fun vs w => by kernel_rfl) (by kernel_rfl) (g1) ?_) | (with_reducible refine RCallP_gives (fun vs w => by kernel_rfl) (by kernel_rfl) (g1) ?_) | (with_reducible refine CallP_gives (fun vs w => by kernel_rfl) (by kernel_rfl) (g2) ?_) | (with_reducible refine RCallP_gives (fun vs w => by kernel_rfl) (by kernel_rfl) (g2) ?_))))
        conv => whnf
      obtain ⟨a3, ha3⟩ : ∃ x, x = a2 + 1 + u2.length := ⟨_, rfl⟩
      rw [← ha3] at hR hend hws g2
      rcases Nat.lt_or_ge a3 l.length with n3 | n3
      rotate_left
      · rw [rest_none n3] at hR
        have hn := hR.bad (by rw [hkd]; intro h; have h : numsOK 5 (u0 :: u1 :: u2 :: []) := h; have h := (nums_cons.1 h).2; have h := (nums_cons.1 h).2; have h := (nums_cons.1 h).2; exact nums_nil h)
        subst hn
        clear hget hR hend
        (repeat ((try (conv => whnf)); (first | (first | (refine Exists.intro _ (And.intro hcb ?_)) | (refine Exists.intro _ (And.intro hb1 ?_)) | (refine Exists.intro _ (And.intro hb2 ?_)) | (refine Exists.intro _ (And.intro hb3 ?_))) | (with_reducible refine LoopP_step tab_ok ?_) | (with_reducible refine DrawP_mk tab_ok (by kernel_rfl) 20 [1] (by decide +kernel) ?_) | (with_reducible refine condP_true ?_) | (with_reducible refine condP_false ?_) | (with_reducible refine condP_not ?_) | (with_reducible refine condP_and ?_) | ((with_reducible refine condP_dt ?_ ?_); (· omega)) | ((with_reducible refine condP_df ?_ ?_); (· omega)) | ((with_reducible refine condP_yes ?_ ?_); (· assumption)) | ((with_reducible refine condP_no ?_ ?_); (· assumption)) | ((with_reducible refine ArP_i64 ?_ ?_); (· omega)) | ((with_reducible refine mustP.mk ?_ ?_); (· first | omega | rfl | (dsimp only; omega))) | (with_reducible refine EqP_nil tab_ok ?_) | (with_reducible refine EqP_sli tab_ok ?_) | (with_reducible refine DrawP_auto tab_ok (by kernel_rfl) (by decide +kernel) ?_) | (with_reducible refine DrawP_auto2 tab_ok (by kernel_rfl) (by decide +kernel) ?_) | (with_reducible refine eq45 ?_) | (with_reducible refine eq62 ?_) | (with_reducible refine eq100 ?_) | (with_reducible refine CallP_gives (fun vs w => by kernel_rfl) (by kernel_rfl) (g0) ?_) | (with_reducible refine RCallP_gives (fun vs w => by kernel_rfl) (by kernel_rfl) (g0) ?_) | (with_reducible refine CallP_gives (fun vs w => by kernel_rfl) (by kernel_rfl) (g1) ?_) | (with_reducible refine RCallP_gives (fun vs w => by kernel_rfl) (by kernel_rfl) (g1) ?_) | (with_reducible refine CallP_gives (fun vs w => by kernel_rfl) (by kernel_rfl) (g2) ?_) | (with_reducible refine RCallP_gives (fun vs w => by kernel_rfl) (by kernel_rfl) (g2) ?_))))
        conv => whnf
      rw [rest_more n3] at hR
      have hb4 : s[Int.toNat (a3 : Int)]? = some 32 := by have h := hget a3 n3; rw [hend (by omega)] at h; exact h
      have d3 := digits_at (G := G) hlist (a := a3) hs n3 ((a3 : Int) + 1) (by omega)
      have hend := word_end (l := l) (a := a3 + 1)
      have hws := word_size (l := l) (a := a3 + 1) (by omega)
      generalize wordAt (l.drop (a3 + 1)) = u3 at *
      rcases d3 with ⟨o3, g3⟩ | ⟨o3, g3⟩ | ⟨o3, v3, e3, y3, g3, y13, y23, y33⟩
      rotate_left
      · have hn := hR.bad (by rw [hkd]; intro h; have h : numsOK 5 (u0 :: u1 :: u2 :: u3 :: _) := h; have h := (nums_cons.1 h).2; have h := (nums_cons.1 h).2; have h := (nums_cons.1 h).2; exact o3 (nums_cons.1 h).1)
        subst hn
        clear hget hR hend
        (repeat ((try (conv => whnf)); (first | (first | (refine Exists.intro _ (And.intro hcb ?_)) | (refine Exists.intro _ (And.intro hb1 ?_)) | (refine Exists.intro _ (And.intro hb2 ?_)) | (refine Exists.intro _ (And.intro hb3 ?_)) | (refine Exists.intro _ (And.intro hb4 ?_))) | (with_reducible refine LoopP_step tab_ok ?_) | (with_reducible refine DrawP_mk tab_ok (by kernel_rfl) 20 [1] (by decide +kernel) ?_) | (with_reducible refine condP_true ?_) | (with_reducible refine condP_false ?_) | (with_reducible refine condP_not ?_) | (with_reducible refine condP_and ?_) | ((with_reducible refine condP_dt ?_ ?_); (· omega)) | ((with_reducible refine condP_df ?_ ?_); (· omega)) | ((with_reducible refine condP_yes ?_ ?_); (· assumption)) | ((with_reducible refine condP_no ?_ ?_); (· assumption)) | ((with_reducible refine ArP_i64 ?_ ?_); (· omega)) | ((with_reducible refine mustP.mk ?_ ?_); (· first | omega | rfl | (dsimp only; omega))) | (with_reducible refine EqP_nil tab_ok ?_) | (with_reducible refine EqP_sli tab_ok ?_) | (with_reducible refine DrawP_auto tab_ok (by kernel_rfl) (by decide +kernel) ?_) | (with_reducible refine DrawP_auto2 tab_ok (by kernel_rfl) (by decide +kernel) ?_) | (with_reducible refine eq45 ?_) | (with_reducible refine eq62 ?_) | (with_reducible refine eq100 ?_) | (with_reducible refine CallP_gives (fun vs w => by kernel_rfl) (by kernel_rfl) (g0) ?_) | (with_reducible refine RCallP_gives (fun vs w => by kernel_rfl) (by kernel_rfl) (g0) ?_) | (with_reducible refine CallP_gives (fun vs w => by kernel_rfl) (by kernel_rfl) (g1) ?_) | (with_reducible refine RCallP_gives (fun vs w => by kernel_rfl) (by kernel_rfl) (g1) ?_) | (with_reducible refine CallP_gives (fun vs w => by kernel_rfl) (by kernel_rfl) (g2) ?_) | (with_reducible refine RCallP_gives (fun vs w => by kernel_rfl) (by kernel_rfl) (g2) ?_) | (with_reducible refine CallP_gives (fun vs w => by kernel_rfl) (by kernel_rfl) (g3) ?_) | (with_reducible refine RCallP_gives (fun vs w => by kernel_rfl) (by kernel_rfl) (g3) ?_))))
        conv => whnf
      · have hn := hR.bad (by rw [hkd]; intro h; have h : numsOK 5 (u0 :: u1 :: u2 :: u3 :: _) := h; have h := (nums_cons.1 h).2; have h := (nums_cons.1 h).2; have h := (nums_cons.1 h).2; exact o3 (nums_cons.1 h).1)
        subst hn
        clear hget hR hend
        (repeat ((try (conv => whnf)); (first | (first | (refine Exists.intro _ (And.intro hcb ?_)) | (refine Exists.intro _ (And.intro hb1 ?_)) | (refine Exists.intro _ (And.intro hb2 ?_)) | (refine Exists.intro _ (And.intro hb3 ?_)) | (refine Exists.intro _ (And.intro hb4 ?_)) | (refine Exists.intro _ (And.intro y23 ?_))) | (with_reducible refine LoopP_step tab_ok ?_) | (with_reducible refine DrawP_mk tab_ok (by kernel_rfl) 20 [1] (by decide +kernel) ?_) | (with_reducible refine condP_true ?_) | (with_reducible refine condP_false ?_) | (with_reducible refine condP_not ?_) | (with_reducible refine condP_and ?_) | ((with_reducible refine condP_dt ?_ ?_); (· omega)) | ((with_reducible refine condP_df ?_ ?_); (· omega)) | ((with_reducible refine condP_yes ?_ ?_); (· assumption)) | ((with_reducible refine condP_no ?_ ?_); (· assumption)) | ((with_reducible refine ArP_i64 ?_ ?_); (· omega)) | ((with_reducible refine mustP.mk ?_ ?_); (· first | omega | rfl | (dsimp only; omega))) | (with_reducible refine EqP_nil tab_ok ?_) | (with_reducible refine EqP_sli tab_ok ?_) | (with_reducible refine DrawP_auto tab_ok (by kernel_rfl) (by decide +kernel) ?_) | (with_reducible refine DrawP_auto2 tab_ok (by kernel_rfl) (by decide +kernel) ?_) | (with_reducible refine eq45 ?_) | (with_reducible refine eq62 ?_) | (with_reducible refine eq100 ?_) | (with_reducible refine CallP_gives (fun vs w => by kernel_rfl) (by kernel_rfl) (g0) ?_) | (with_reducible refine RCallP_gives (fun vs w => by kernel_rfl) (by kernel_rfl) (g0) ?_) | (with_reducible refine CallP_gives (fun vs w => by kernel_rfl) (by kernel_rfl) (g1) ?_) | (with_reducible refine RCallP_gives (fun vs w => by kernel_rfl) (by kernel_rfl) (g1) ?_) | (with_reducible refine CallP_gives (fun vs w => by kernel_rfl) (by kernel_rfl) (g2) ?_) | (with_reducible refine RCallP_gives (fun vs w => by kernel_rfl) (by kernel_rfl) (g2) ?_) | (with_reducible refine CallP_gives (fun vs w => by kernel_rfl) (by kernel_rfl) (g3) ?_) | (with_reducible refine RCallP_gives (fun vs w => by kernel_rfl) (by kernel_rfl) (g3) ?_))))
        conv => whnf
      obtain ⟨a4, ha4⟩ : ∃ x, x = a3 + 1 + u3.length := ⟨_, rfl⟩
      rw [← ha4] at hR hend hws g3
      rcases Nat.lt_or_ge a4 l.length with n4 | n4
      rotate_left
      · rw [rest_none n4] at hR
        have hn := hR.bad (by rw [hkd]; intro h; have h : numsOK 5 (u0 :: u1 :: u2 :: u3 :: []) := h; have h := (nums_cons.1 h).2; have h := (nums_cons.1 h).2; have h := (nums_cons.1 h).2; have h := (nums_cons.1 h).2; exact nums_nil h)
        subst hn
        clear hget hR hend
        (repeat ((try (conv => whnf)); (first | (first | (refine Exists.intro _ (And.intro hcb ?_)) | (refine Exists.intro _ (And.intro hb1 ?_)) | (refine Exists.intro _ (And.intro hb2 ?_)) | (refine Exists.intro _ (And.intro hb3 ?_)) | (refine Exists.intro _ (And.intro hb4 ?_))) | (with_reducible refine LoopP_step tab_ok ?_) | (with_reducible refine DrawP_mk tab_ok (by kernel_rfl) 20 [1] (by decide +kernel) ?_) | (with_reducible refine condP_true ?_) | (with_reducible refine condP_false ?_) | (with_reducible refine condP_not ?_) | (with_reducible refine condP_and ?_) | ((with_reducible refine condP_dt ?_ ?_); (· omega)) | ((with_reducible refine condP_df ?_ ?_); (· omega)) | ((with_reducible refine condP_yes ?_ ?_); (· assumption)) | ((with_reducible refine condP_no ?_ ?_); (· assumption)) | ((with_reducible refine ArP_i64 ?_ ?_); (· omega)) | ((with_reducible refine mustP.mk ?_ ?_); (· first | omega | rfl | (dsimp only; omega))) | (with_reducible refine EqP_nil tab_ok ?_) | (with_reducible refine EqP_sli tab_ok ?_) | (with_reducible refine DrawP_auto tab_ok (by kernel_rfl) (by decide +kernel) ?_) | (with_reducible refine DrawP_auto2 tab_ok (by kernel_rfl) (by decide +kernel) ?_) | (with_reducible refine eq45 ?_) | (with_reducible refine eq62 ?_) | (with_reducible refine eq100 ?_) | (with_reducible refine CallP_gives (fun vs w => by kernel_rfl) (by kernel_rfl) (g0) ?_) | (with_reducible refine RCallP_gives (fun vs w => by kernel_rfl) (by kernel_rfl) (g0) ?_) | (with_reducible refine CallP_gives (fun vs w => by kernel_rfl) (by kernel_rfl) (g1) ?_) | (with_reducible refine RCallP_gives (fun vs w => by kernel_rfl) (by kernel_rfl) (g1) ?_) | (with_reducible refine CallP_gives (fun vs w => by kernel_rfl) (by kernel_rfl) (g2) ?_) | (with_reducible refine RCallP_gives (fun vs w => by kernel_rfl) (by kernel_rfl) (g2) ?_) | (with_reducible refine CallP_gives (fun vs w => by kernel_rfl) (by kernel_rfl) (g3) ?_) | (with_reducible refine RCallP_gives (fun vs w => by kernel_rfl) (by kernel_rfl) (g3) ?_))))
        conv => whnf
      rw [rest_more n4] at hR
      have hb5 : s[Int.toNat (a4 : Int)]? = some 32 := by have h := hget a4 n4; rw [hend (by omega)] at h; exact h
      have d4 := digits_at (G := G) hlist (a := a4) hs n4 ((a4 : Int) + 1) (by omega)
      have hend := word_end (l := l) (a := a4 + 1)
      have hws := word_size (l := l) (a := a4 + 1) (by omega)
      generalize wordAt (l.drop (a4 + 1)) = u4 at *
      rcases d4 with ⟨o4, g4⟩ | ⟨o4, g4⟩ | ⟨o4, v4, e4, y4, g4, y14, y24, y34⟩
      rotate_left
      · have hn := hR.bad (by rw [hkd]; intro h; have h : numsOK 5 (u0 :: u1 :: u2 :: u3 :: u4 :: _) := h; have h := (nums_cons.1 h).2; have h := (nums_cons.1 h).2; have h := (nums_cons.1 h).2; have h := (nums_cons.1 h).2; exact o4 (nums_cons.1 h).1)
        subst hn
        clear hget hR hend
        (repeat ((try (conv => whnf)); (first | (first | (refine Exists.intro _ (And.intro hcb ?_)) | (refine Exists.intro _ (And.intro hb1 ?_)) | (refine Exists.intro _ (And.intro hb2 ?_)) | (refine Exists.intro _ (And.intro hb3 ?_)) | (refine Exists.intro _ (And.intro hb4 ?_)) | (refine Exists.intro _ (And.intro hb5 ?_))) | (with_reducible refine LoopP_step tab_ok ?_) | (with_reducible refine DrawP_mk tab_ok (by kernel_rfl) 20 [1] (by decide +kernel) ?_) | (with_reducible refine condP_true ?_) | (with_reducible refine condP_false ?_) | (with_reducible refine condP_not ?_) | (with_reducible refine condP_and ?_) | ((with_reducible refine condP_dt ?_ ?_); (· omega)) | ((with_reducible refine condP_df ?_ ?_); (· omega)) | ((with_reducible refine condP_yes ?_ ?_); (· assumption)) | ((with_reducible refine condP_no ?_ ?_); (· assumption)) | ((with_reducible refine ArP_i64 ?_ ?_); (· omega)) | ((with_reducible refine mustP.mk ?_ ?_); (· first | omega | rfl | (dsimp only; omega))) | (with_reducible refine EqP_nil tab_ok ?_) | (with_reducible refine EqP_sli tab_ok ?_) | (with_reducible refine DrawP_auto tab_ok (by kernel_rfl) (by decide +kernel) ?_) | (with_reducible refine DrawP_auto2 tab_ok (by kernel_rfl) (by decide +kernel) ?_) | (with_reducible refine eq45 ?_) | (with_reducible refine eq62 ?_) | (with_reducible refine eq100 ?_) | (with_reducible refine CallP_gives (fun vs w => by kernel_rfl) (by kernel_rfl) (g0) ?_) | (with_reducible refine RCallP_gives (fun vs w => by kernel_rfl) (by kernel_rfl) (g0) ?_) | (with_reducible refine CallP_gives (fun vs w => by kernel_rfl) (by kernel_rfl) (g1) ?_) | (with_reducible refine RCallP_gives (fun vs w => by kernel_rfl) (by kernel_rfl) (g1) ?_) | (with_reducible refine CallP_gives (fun vs w => by kernel_rfl) (by kernel_rfl) (g2) ?_) | (with_reducible refine RCallP_gives (fun vs w => by kernel_rfl) (by kernel_rfl) (g2) ?_) | (with_reducible refine CallP_gives (fun vs w => by kernel_rfl) (by kernel_rfl) (g3) ?_) | (with_reducible refine RCallP_gives (fun vs w => by kernel_rfl) (by kernel_rfl) (g3) ?_) | (with_reducible refine CallP_gives (fun vs w => by kernel_rfl) (by kernel_rfl) (g4) ?_) | (with_reducible refine RCallP_gives (fun vs w => by kernel_rfl) (by kernel_rfl) (g4) ?_))))
        conv => whnf
      · have hn := hR.bad (by rw [hkd]; intro h; have h : numsOK 5 (u0 :: u1 :: u2 :: u3 :: u4 :: _) := h; have h := (nums_cons.1 h).2; have h := (nums_cons.1 h).2; have h := (nums_cons.1 h).2; have h := (nums_cons.1 h).2; exact o4 (nums_cons.1 h).1)
        subst hn
        clear hget hR hend
        (repeat ((try (conv => whnf)); (first | (first | (refine Exists.intro _ (And.intro hcb ?_)) | (refine Exists.intro _ (And.intro hb1 ?_)) | (refine Exists.intro _ (And.intro hb2 ?_)) | (refine Exists.intro _ (And.intro hb3 ?_)) | (refine Exists.intro _ (And.intro hb4 ?_)) | (refine Exists.intro _ (And.intro hb5 ?_)) | (refine Exists.intro _ (And.intro y24 ?_))) | (with_reducible refine LoopP_step tab_ok ?_) | (with_reducible refine DrawP_mk tab_ok (by kernel_rfl) 20 [1] (by decide +kernel) ?_) | (with_reducible refine condP_true ?_) | (with_reducible refine condP_false ?_) | (with_reducible refine condP_not ?_) | (with_reducible refine condP_and ?_) | ((with_reducible refine condP_dt ?_ ?_); (· omega)) | ((with_reducible refine condP_df ?_ ?_); (· omega)) | ((with_reducible refine condP_yes ?_ ?_); (· assumption)) | ((with_reducible refine condP_no ?_ ?_); (· assumption)) | ((with_reducible refine ArP_i64 ?_ ?_); (· omega)) | ((with_reducible refine mustP.mk ?_ ?_); (· first | omega | rfl | (dsimp only; omega))) | (with_reducible refine EqP_nil tab_ok ?_) | (with_reducible refine EqP_sli tab_ok ?_) | (with_reducible refine DrawP_auto tab_ok (by kernel_rfl) (by decide +kernel) ?_) | (with_reducible refine DrawP_auto2 tab_ok (by kernel_rfl) (by decide +kernel) ?_) | (with_reducible refine eq45 ?_) | (with_reducible refine eq62 ?_) | (with_reducible refine eq100 ?_) | (with_reducible refine CallP_gives (fun vs w => by kernel_rfl) (by kernel_rfl) (g0) ?_) | (with_reducible refine RCallP_gives (fun vs w => by kernel_rfl) (by kernel_rfl) (g0) ?_) | (with_reducible refine CallP_gives (fun vs w => by kernel_rfl) (by kernel_rfl) (g1) ?_) | (with_reducible refine RCallP_gives (fun vs w => by kernel_rfl) (by kernel_rfl) (g1) ?_) | (with_reducible refine CallP_gives (fun vs w => by kernel_rfl) (by kernel_rfl) (g2) ?_) | (with_reducible refine RCallP_gives (fun vs w => by kernel_rfl) (by kernel_rfl) (g2) ?_) | (with_reducible refine CallP_gives (fun vs w => by kernel_rfl) (by kernel_rfl) (g3) ?_) | (with_reducible refine RCallP_gives (fun vs w => by kernel_rfl) (by kernel_rfl) (g3) ?_) | (with_reducible refine CallP_gives (fun vs w => by kernel_rfl) (by kernel_rfl) (g4) ?_) | (with_reducible refine RCallP_gives (fun vs w => by kernel_rfl) (by kernel_rfl) (g4) ?_))))
        conv => whnf
      obtain ⟨a5, ha5⟩ : ∃ x, x = a4 + 1 + u4.length := ⟨_, rfl⟩
      rw [← ha5] at hR hend hws g4
      have hR := hR.seg k0 (by rw [hkd]; exact nums_cons.2 ⟨o0, nums_cons.2 ⟨o1, nums_cons.2 ⟨o2, nums_cons.2 ⟨o3, nums_cons.2 ⟨o4, nums_zero⟩⟩⟩⟩⟩)
      have hR : Left T (L ++ [(⟨3, numV u2, numV u3, numV u0, numV u1, numV u4⟩ : SegD)]) (restW l a5) := hR
      generalize numV u0 = V0 at *
      generalize numV u1 = V1 at *
      generalize numV u2 = V2 at *
      generalize numV u3 = V3 at *
      generalize numV u4 = V4 at *
      clear o0
      clear o1
      clear o2
      clear o3
      clear o4
      rcases Nat.lt_or_ge a5 l.length with nn | nn
      rotate_left
      · rw [rest_none nn] at hR
        have hT2 := hR.done
        subst hT2
        clear hget hR hend
        (repeat ((try (conv => whnf)); (first | (first | (refine Exists.intro _ (And.intro hcb ?_)) | (refine Exists.intro _ (And.intro hb1 ?_)) | (refine Exists.intro _ (And.intro hb2 ?_)) | (refine Exists.intro _ (And.intro hb3 ?_)) | (refine Exists.intro _ (And.intro hb4 ?_)) | (refine Exists.intro _ (And.intro hb5 ?_))) | (with_reducible refine LoopP_step tab_ok ?_) | (with_reducible refine DrawP_mk tab_ok (by kernel_rfl) 20 [1] (by decide +kernel) ?_) | (with_reducible refine condP_true ?_) | (with_reducible refine condP_false ?_) | (with_reducible refine condP_not ?_) | (with_reducible refine condP_and ?_) | ((with_reducible refine condP_dt ?_ ?_); (· omega)) | ((with_reducible refine condP_df ?_ ?_); (· omega)) | ((with_reducible refine condP_yes ?_ ?_); (· assumption)) | ((with_reducible refine condP_no ?_ ?_); (· assumption)) | ((with_reducible refine ArP_i64 ?_ ?_); (· omega)) | ((with_reducible refine mustP.mk ?_ ?_); (· first | omega | rfl | (dsimp only; omega))) | (with_reducible refine EqP_nil tab_ok ?_) | (with_reducible refine EqP_sli tab_ok ?_) | (with_reducible refine DrawP_auto tab_ok (by kernel_rfl) (by decide +kernel) ?_) | (with_reducible refine DrawP_auto2 tab_ok (by kernel_rfl) (by decide +kernel) ?_) | (with_reducible refine eq45 ?_) | (with_reducible refine eq62 ?_) | (with_reducible refine eq100 ?_) | (with_reducible refine CallP_gives (fun vs w => by kernel_rfl) (by kernel_rfl) (g0) ?_) | (with_reducible refine RCallP_gives (fun vs w => by kernel_rfl) (by kernel_rfl) (g0) ?_) | (with_reducible refine CallP_gives (fun vs w => by kernel_rfl) (by kernel_rfl) (g1) ?_) | (with_reducible refine RCallP_gives (fun vs w => by kernel_rfl) (by kernel_rfl) (g1) ?_) | (with_reducible refine CallP_gives (fun vs w => by kernel_rfl) (by kernel_rfl) (g2) ?_) | (with_reducible refine RCallP_gives (fun vs w => by kernel_rfl) (by kernel_rfl) (g2) ?_) | (with_reducible refine CallP_gives (fun vs w => by kernel_rfl) (by kernel_rfl) (g3) ?_) | (with_reducible refine RCallP_gives (fun vs w => by kernel_rfl) (by kernel_rfl) (g3) ?_) | (with_reducible refine CallP_gives (fun vs w => by kernel_rfl) (by kernel_rfl) (g4) ?_) | (with_reducible refine RCallP_gives (fun vs w => by kernel_rfl) (by kernel_rfl) (g4) ?_))))
        conv => whnf
        have gp := fun A cap G' (hG : G.le G') (hc : (L ++ [(⟨3, V2, V3, V0, V1, V4⟩ : SegD)]).length ≤ cap) (hm : cap ≤ maxLen) (hr : RowM G' A (flatC (segC (L ++ [(⟨3, V2, V3, V0, V1, V4⟩ : SegD)])) (L ++ [(⟨3, V2, V3, V0, V1, V4⟩ : SegD)]).length)) => RPCheck_gives (c := cap) (S := segsF (L ++ [(⟨3, V2, V3, V0, V1, V4⟩ : SegD)])) (rowEls (sz := 6) (c := segC (L ++ [(⟨3, V2, V3, V0, V1, V4⟩ : SegD)])) (fun _ _ => rfl) hr (by omega)) (Nat.le_trans hc hm)
        have hfl := flat_snoc L (⟨3, V2, V3, V0, V1, V4⟩ : SegD)
        rw [hfl] at gp
        have hll : (L ++ [(⟨3, V2, V3, V0, V1, V4⟩ : SegD)]).length = L.length + 1 := by simp
        rw [hll] at gp
        refine CallP_lend (fun vs w => by kernel_rfl) rfl (by kernel_rfl) gp ?_
        clear gp
        unfold ParseK
        by_cases hp : pathE (segsF (L ++ [(⟨3, V2, V3, V0, V1, V4⟩ : SegD)])) (L.length + 1) = 0
        · rw [hp]
          (repeat ((try (conv => whnf)); (first | (with_reducible refine condP_true ?_) | (with_reducible refine condP_false ?_) | (with_reducible refine condP_not ?_) | (with_reducible refine condP_and ?_) | ((with_reducible refine condP_dt ?_ ?_); (· omega)) | ((with_reducible refine condP_df ?_ ?_); (· omega)) | ((with_reducible refine condP_yes ?_ ?_); (· assumption)) | ((with_reducible refine condP_no ?_ ?_); (· assumption)) | ((with_reducible refine ArP_i64 ?_ ?_); (· omega)) | ((with_reducible refine mustP.mk ?_ ?_); (· first | omega | rfl | (dsimp only; omega))) | (with_reducible refine EqP_nil tab_ok ?_) | (with_reducible refine EqP_sli tab_ok ?_) | (with_reducible refine DrawP_auto tab_ok (by kernel_rfl) (by decide +kernel) ?_) | (with_reducible refine DrawP_auto2 tab_ok (by kernel_rfl) (by decide +kernel) ?_) | (with_reducible refine eq45 ?_) | (with_reducible refine eq62 ?_) | (with_reducible refine eq100 ?_))))
          conv => whnf
          exact .inr ⟨by rw [hll]; exact hp, .inl ⟨_, rfl, by rw [hfl, hll]; rfl⟩⟩
        · have hpe := hp
          have hq : pathE (segsF (L ++ [(⟨3, V2, V3, V0, V1, V4⟩ : SegD)])) (L ++ [(⟨3, V2, V3, V0, V1, V4⟩ : SegD)]).length = pathE (segsF (L ++ [(⟨3, V2, V3, V0, V1, V4⟩ : SegD)])) (L.length + 1) := by rw [hll]
          generalize hPE : pathE (segsF (L ++ [(⟨3, V2, V3, V0, V1, V4⟩ : SegD)])) (L.length + 1) = E at *
          (repeat ((try (conv => whnf)); (first | (with_reducible refine condP_true ?_) | (with_reducible refine condP_false ?_) | (with_reducible refine condP_not ?_) | (with_reducible refine condP_and ?_) | ((with_reducible refine condP_dt ?_ ?_); (· omega)) | ((with_reducible refine condP_df ?_ ?_); (· omega)) | ((with_reducible refine condP_yes ?_ ?_); (· assumption)) | ((with_reducible refine condP_no ?_ ?_); (· assumption)) | ((with_reducible refine ArP_i64 ?_ ?_); (· omega)) | ((with_reducible refine mustP.mk ?_ ?_); (· first | omega | rfl | (dsimp only; omega))) | (with_reducible refine EqP_nil tab_ok ?_) | (with_reducible refine EqP_sli tab_ok ?_) | (with_reducible refine DrawP_auto tab_ok (by kernel_rfl) (by decide +kernel) ?_) | (with_reducible refine DrawP_auto2 tab_ok (by kernel_rfl) (by decide +kernel) ?_) | (with_reducible refine eq45 ?_) | (with_reducible refine eq62 ?_) | (with_reducible refine eq100 ?_))))
          conv => whnf
          exact .inl ⟨by rw [hq]; exact hp, by rw [hq]⟩
      have hbe : s[Int.toNat (a5 : Int)]? = some 32 := by have h := hget a5 nn; rw [hend (by omega)] at h; exact h
      by_cases hlast : a5 + 1 = l.length
      · rw [rest_more nn, List.drop_eq_nil_of_le (by omega)] at hR
        have hn := hR.odd rfl
        subst hn
        clear hget hR hend
        (repeat ((try (conv => whnf)); (first | (first | (refine Exists.intro _ (And.intro hcb ?_)) | (refine Exists.intro _ (And.intro hb1 ?_)) | (refine Exists.intro _ (And.intro hb2 ?_)) | (refine Exists.intro _ (And.intro hb3 ?_)) | (refine Exists.intro _ (And.intro hb4 ?_)) | (refine Exists.intro _ (And.intro hb5 ?_)) | (refine Exists.intro _ (And.intro hbe ?_))) | (with_reducible refine LoopP_step tab_ok ?_) | (with_reducible refine DrawP_mk tab_ok (by kernel_rfl) 20 [1] (by decide +kernel) ?_) | (with_reducible refine condP_true ?_) | (with_reducible refine condP_false ?_) | (with_reducible refine condP_not ?_) | (with_reducible refine condP_and ?_) | ((with_reducible refine condP_dt ?_ ?_); (· omega)) | ((with_reducible refine condP_df ?_ ?_); (· omega)) | ((with_reducible refine condP_yes ?_ ?_); (· assumption)) | ((with_reducible refine condP_no ?_ ?_); (· assumption)) | ((with_reducible refine ArP_i64 ?_ ?_); (· omega)) | ((with_reducible refine mustP.mk ?_ ?_); (· first | omega | rfl | (dsimp only; omega))) | (with_reducible refine EqP_nil tab_ok ?_) | (with_reducible refine EqP_sli tab_ok ?_) | (with_reducible refine DrawP_auto tab_ok (by kernel_rfl) (by decide +kernel) ?_) | (with_reducible refine DrawP_auto2 tab_ok (by kernel_rfl) (by decide +kernel) ?_) | (with_reducible refine eq45 ?_) | (with_reducible refine eq62 ?_) | (with_reducible refine eq100 ?_) | (with_reducible refine CallP_gives (fun vs w => by kernel_rfl) (by kernel_rfl) (g0) ?_) | (with_reducible refine RCallP_gives (fun vs w => by kernel_rfl) (by kernel_rfl) (g0) ?_) | (with_reducible refine CallP_gives (fun vs w => by kernel_rfl) (by kernel_rfl) (g1) ?_) | (with_reducible refine RCallP_gives (fun vs w => by kernel_rfl) (by kernel_rfl) (g1) ?_) | (with_reducible refine CallP_gives (fun vs w => by kernel_rfl) (by kernel_rfl) (g2) ?_) | (with_reducible refine RCallP_gives (fun vs w => by kernel_rfl) (by kernel_rfl) (g2) ?_) | (with_reducible refine CallP_gives (fun vs w => by kernel_rfl) (by kernel_rfl) (g3) ?_) | (with_reducible refine RCallP_gives (fun vs w => by kernel_rfl) (by kernel_rfl) (g3) ?_) | (with_reducible refine CallP_gives (fun vs w => by kernel_rfl) (by kernel_rfl) (g4) ?_) | (with_reducible refine RCallP_gives (fun vs w => by kernel_rfl) (by kernel_rfl) (g4) ?_))))
        conv => whnf
      · unfold restW at hR
        rw [if_pos nn] at hR
        clear hget hend
        (repeat ((try (conv => whnf)); (first | (first | (refine Exists.intro _ (And.intro hcb ?_)) | (refine Exists.intro _ (And.intro hb1 ?_)) | (refine Exists.intro _ (And.intro hb2 ?_)) | (refine Exists.intro _ (And.intro hb3 ?_)) | (refine Exists.intro _ (And.intro hb4 ?_)) | (refine Exists.intro _ (And.intro hb5 ?_)) | (refine Exists.intro _ (And.intro hbe ?_))) | (with_reducible refine LoopP_step tab_ok ?_) | (with_reducible refine DrawP_mk tab_ok (by kernel_rfl) 20 [1] (by decide +kernel) ?_) | (with_reducible refine condP_true ?_) | (with_reducible refine condP_false ?_) | (with_reducible refine condP_not ?_) | (with_reducible refine condP_and ?_) | ((with_reducible refine condP_dt ?_ ?_); (· omega)) | ((with_reducible refine condP_df ?_ ?_); (· omega)) | ((with_reducible refine condP_yes ?_ ?_); (· assumption)) | ((with_reducible refine condP_no ?_ ?_); (· assumption)) | ((with_reducible refine ArP_i64 ?_ ?_); (· omega)) | ((with_reducible refine mustP.mk ?_ ?_); (· first | omega | rfl | (dsimp only; omega))) | (with_reducible refine EqP_nil tab_ok ?_) | (with_reducible refine EqP_sli tab_ok ?_) | (with_reducible refine DrawP_auto tab_ok (by kernel_rfl) (by decide +kernel) ?_) | (with_reducible refine DrawP_auto2 tab_ok (by kernel_rfl) (by decide +kernel) ?_) | (with_reducible refine eq45 ?_) | (with_reducible refine eq62 ?_) | (with_reducible refine eq100 ?_) | (with_reducible refine CallP_gives (fun vs w => by kernel_rfl) (by kernel_rfl) (g0) ?_) | (with_reducible refine RCallP_gives (fun vs w => by kernel_rfl) (by kernel_rfl) (g0) ?_) | (with_reducible refine CallP_gives (fun vs w => by kernel_rfl) (by kernel_rfl) (g1) ?_) | (with_reducible refine RCallP_gives (fun vs w => by kernel_rfl) (by kernel_rfl) (g1) ?_) | (with_reducible refine CallP_gives (fun vs w => by kernel_rfl) (by kernel_rfl) (g2) ?_) | (with_reducible refine RCallP_gives (fun vs w => by kernel_rfl) (by kernel_rfl) (g2) ?_) | (with_reducible refine CallP_gives (fun vs w => by kernel_rfl) (by kernel_rfl) (g3) ?_) | (with_reducible refine RCallP_gives (fun vs w => by kernel_rfl) (by kernel_rfl) (g3) ?_) | (with_reducible refine CallP_gives (fun vs w => by kernel_rfl) (by kernel_rfl) (g4) ?_) | (with_reducible refine RCallP_gives (fun vs w => by kernel_rfl) (by kernel_rfl) (g4) ?_))))
        conv => whnf
        refine ⟨a5 + 1, L ++ [(⟨3, V2, V3, V0, V1, V4⟩ : SegD)], ⟨by omega, by simp; omega, hR⟩, by omega, ?_⟩
        refine Le_move 4 0 rfl rfl rfl rfl ?_
        conv => whnf
        ((refine Le_head ?_); (conv => whnf); (refine Le_mk (by rfl) (by rfl) ?_ ?_); (· (repeat (first | (with_reducible exact frLe_nil) | (with_reducible refine frLe_any ?_) | (with_reducible refine frLe_val ?_) | ((with_reducible refine frLe_eq rfl ?_ ?_); (· rfl)) | ((with_reducible refine frLe_val' (int_eq ?_) ?_ ?_); (· omega); (· rfl)) | ((with_reducible refine frLe_val' (int_eq ?_) ?_ ?_); (· simp only [Int.natCast_add, Int.natCast_one, Int.natCast_ofNat] <;> omega); (· rfl)) | ((with_reducible refine frLe_val' (bool_eq ?_) ?_ ?_); (· first | assumption | (symm; assumption)); (· rfl))))))
        exact hpLe_own (by simp) (by rw [flat_snoc]) hpLe_nil
    exfalso
    have := kind_cases (wordAt (l.drop c))
    omega
end
end Go.Proofs.YtdakcfggecpjjaaDoor
