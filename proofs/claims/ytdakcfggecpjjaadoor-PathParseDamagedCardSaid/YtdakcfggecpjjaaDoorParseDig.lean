/-
  The reference's digits: the number at a place of a text.
-/
import Derived.Test.YtdakcfggecpjjaaDoorParseNum
namespace Go.Proofs.YtdakcfggecpjjaaDoor
open Go.RowKit
set_option linter.unusedVariables false
set_option linter.unusedSimpArgs false
set_option maxRecDepth 20000
def digA (a : Nat) : Option (Int × Nat) → AV
  | none => .tup [.val (.int .i64 0), .val (.int .i64 (-1))]
  | some (v, k) => .tup [.val (.int .i64 v), .val (.int .i64 ((a + k : Nat) : Int))]
section
variable {G : Mem} {s : ByteArray}
set_option maxHeartbeats 8000000 in
theorem digits_gives {a : Nat} (hs : s.size ≤ 9223372036854775800) (ha : a ≤ s.size) : Gives Tryd.prog 18 [.val (.string s), .val (.int .i64 a)] G (digA a (digR (s.data.toList.drop a))) := by
  refine Gives_of tab_ok Tryd.func18 ?_
  have hl := size_len s
  have hget : ∀ i, i < s.data.toList.length → s[Int.toNat (i : Int)]? = some (s.data.toList.getD i 0) := fun i h => byte_get (s := s) (i := i) h
  generalize s.data.toList = L at *
  have hdl := dig_len (L.drop a)
  have hdg := dig_get (L.drop a)
  have hr1 := runD_in (digW (L.drop a))
  have hr2 := runD_end (digW (L.drop a))
  have hr3 := runD_le (digW (L.drop a))
  have hm : minusW (L.drop a) = true ↔ (a < L.length ∧ L.getD a 0 = 45) := by
    rcases Nat.lt_or_ge a L.length with h | h
    · have hne : (L.drop a).head? = some (L.getD a 0) := by
        rw [List.head?_drop, List.getElem?_eq_getElem h, List.getD_eq_getElem?_getD, List.getElem?_eq_getElem h]; rfl
      unfold minusW
      rw [hne]
      simp [h]
    · have : (L.drop a).head? = none := by rw [List.head?_drop, List.getElem?_eq_none h]
      unfold minusW
      rw [this]
      simp; omega
  unfold digR
  have hval := fun k => valN_small (l := digW (L.drop a)) (k := k)
  have hvs : ∀ k, valN (digW (L.drop a)) (k + 1) = 10 * valN (digW (L.drop a)) k + ((((digW (L.drop a)).getD k 0).toNat : Int) - 48) := fun k => rfl
  generalize minusW (L.drop a) = m at *
  have hB : ∀ k, (digW (L.drop a)).getD k 0 = L.getD (a + (if m then 1 else 0) + k) 0 := fun k => by rw [hdg, getD_drop, Nat.add_assoc]
  generalize digW (L.drop a) = D at *
  clear hdg
  generalize runD D = r at *
  rw [List.length_drop] at hdl
  have h45 : (45 : UInt8).toNat = 45 := rfl
  have h48 : (48 : UInt8).toNat = 48 := rfl
  have hsgn : (m = true ∧ a < L.length ∧ s[Int.toNat (a : Int)]? = some 45) ∨ (m = false ∧ a = L.length) ∨ (∃ b : UInt8, m = false ∧ a < L.length ∧ s[Int.toNat (a : Int)]? = some b ∧ b.toNat ≠ 45) := by
    rcases Nat.lt_or_ge a L.length with h | h
    · by_cases hb : L.getD a 0 = 45
      · exact .inl ⟨hm.2 ⟨h, hb⟩, h, by rw [hget a h, hb]⟩
      · refine .inr (.inr ⟨L.getD a 0, ?_, h, hget a h, fun e => hb (UInt8.toNat_inj.1 (by rw [e, h45]))⟩)
        cases m with
        | false => rfl
        | true => exact absurd (hm.1 rfl).2 hb
    · refine .inr (.inl ⟨?_, by omega⟩)
      cases m with
      | false => rfl
      | true => have := (hm.1 rfl).1; omega
  clear hm
  have hloop : ∀ k, k < r → k < D.length ∧ isD (D.getD k 0) := hr1
  -- the place of the first digit
  obtain ⟨p, hp⟩ : ∃ p : Nat, p = a + (if m then 1 else 0) := ⟨_, rfl⟩
  rw [← hp] at hB
  have hg : ∀ k, p + k < L.length → s[Int.toNat ((p : Int) + (k : Int))]? = some (D.getD k 0) := fun k hk => by
    rw [hB, ← hget _ hk]
    rfl
  clear hB hget hr1
  have hpl : p + D.length = L.length ∨ (m = false ∧ D.length = L.length - a) := by
    cases m <;> simp at hp hdl <;> omega
  rcases hsgn with ⟨rfl, h1, hb⟩ | ⟨rfl, h1⟩ | ⟨b, rfl, h1, hb, h2⟩
  · obtain rfl : p = a + 1 := by simpa using hp
    have hD : D.length + a + 1 = L.length := by simp at hdl; omega
    clear hp hdl hpl
    have hg : ∀ k, a + 1 + k < L.length → s[Int.toNat ((a : Int) + 1 + (k : Int))]? = some (D.getD k 0) := fun k hk => by have := hg k hk; push_cast at this; exact this
    (repeat ((try (conv => whnf)); (first | (refine Exists.intro _ (And.intro hb ?_)) | (with_reducible refine condP_true ?_) | (with_reducible refine condP_false ?_) | (with_reducible refine condP_not ?_) | (with_reducible refine condP_and ?_) | ((with_reducible refine condP_dt ?_ ?_); (· omega)) | ((with_reducible refine condP_df ?_ ?_); (· omega)) | ((with_reducible refine condP_yes ?_ ?_); (· assumption)) | ((with_reducible refine condP_no ?_ ?_); (· assumption)) | ((with_reducible refine ArP_i64 ?_ ?_); (· omega)) | ((with_reducible refine mustP.mk ?_ ?_); (· first | omega | rfl | (dsimp only; omega))) | (with_reducible refine EqP_nil tab_ok ?_) | (with_reducible refine EqP_sli tab_ok ?_) | (with_reducible refine DrawP_auto tab_ok (by kernel_rfl) (by decide +kernel) ?_) | (with_reducible refine DrawP_auto2 tab_ok (by kernel_rfl) (by decide +kernel) ?_) | (with_reducible refine eq45 ?_) | (with_reducible refine eq62 ?_) | (with_reducible refine eq100 ?_))))
    conv => whnf
    refine LoopP_at3 tab_ok (fun j q v => j ≤ r ∧ j ≤ 5 ∧ q = (a : Int) + 1 + (j : Int) ∧ v = valN D j) (fun (j : Nat) (q v : Int) => [(8, .val (.int .i64 q)), (7, .val (.int .i64 v))]) (fun j q v => []) (fun j q v => r - j) 0 ((a : Int) + 1) 0 ⟨Nat.zero_le _, Nat.zero_le _, by omega, rfl⟩ ?_ ?_
    · ((refine Le_head ?_); (conv => whnf); (refine Le_mk (by rfl) (by rfl) ?_ ?_); (· (repeat (first | (with_reducible exact frLe_nil) | (with_reducible refine frLe_any ?_) | (with_reducible refine frLe_val ?_) | ((with_reducible refine frLe_eq rfl ?_ ?_); (· rfl)) | ((with_reducible refine frLe_val' (int_eq ?_) ?_ ?_); (· omega); (· rfl)) | ((with_reducible refine frLe_val' (int_eq ?_) ?_ ?_); (· simp only [Int.natCast_add, Int.natCast_one, Int.natCast_ofNat] <;> omega); (· rfl)) | ((with_reducible refine frLe_val' (bool_eq ?_) ?_ ?_); (· first | assumption | (symm; assumption)); (· rfl))))))
      exact hpLe_nil
    · rintro j q v ⟨hj, hj5, hq, hv⟩
      obtain ⟨hv0, hv1⟩ := hval j hj5 fun i hi => (hloop i (by omega)).2
      rw [← hv] at hv0 hv1
      have hvj := hvs j
      rw [← hv] at hvj
      clear hval hvs
      rcases Nat.lt_or_ge j r with h7 | h7
      · obtain ⟨h8, h9⟩ := hloop j h7
        have hbj := hg j (by omega)
        rw [← hq] at hbj
        have hbl := byte_lt (D.getD j 0)
        clear hg hloop hr2
        unfold isD at h9
        generalize D.getD j 0 = b0 at *
        rcases Nat.lt_or_ge j 5 with h10 | h10
        · clear hv
          (repeat ((try (conv => whnf)); (first | (refine Exists.intro _ (And.intro hbj ?_)) | ((with_reducible refine ArP_u8 ?_ ?_); (· omega)) | (with_reducible refine condP_true ?_) | (with_reducible refine condP_false ?_) | (with_reducible refine condP_not ?_) | (with_reducible refine condP_and ?_) | ((with_reducible refine condP_dt ?_ ?_); (· omega)) | ((with_reducible refine condP_df ?_ ?_); (· omega)) | ((with_reducible refine condP_yes ?_ ?_); (· assumption)) | ((with_reducible refine condP_no ?_ ?_); (· assumption)) | ((with_reducible refine ArP_i64 ?_ ?_); (· omega)) | ((with_reducible refine mustP.mk ?_ ?_); (· first | omega | rfl | (dsimp only; omega))) | (with_reducible refine EqP_nil tab_ok ?_) | (with_reducible refine EqP_sli tab_ok ?_) | (with_reducible refine DrawP_auto tab_ok (by kernel_rfl) (by decide +kernel) ?_) | (with_reducible refine DrawP_auto2 tab_ok (by kernel_rfl) (by decide +kernel) ?_) | (with_reducible refine eq45 ?_) | (with_reducible refine eq62 ?_) | (with_reducible refine eq100 ?_))))
          refine ⟨j + 1, q + 1, _, ⟨by omega, by omega, by push_cast; omega, hvj.symm⟩, by omega, ?_⟩
          ((refine Le_head ?_); (conv => whnf); (refine Le_mk (by rfl) (by rfl) ?_ ?_); (· (repeat (first | (with_reducible exact frLe_nil) | (with_reducible refine frLe_any ?_) | (with_reducible refine frLe_val ?_) | ((with_reducible refine frLe_eq rfl ?_ ?_); (· rfl)) | ((with_reducible refine frLe_val' (int_eq ?_) ?_ ?_); (· omega); (· rfl)) | ((with_reducible refine frLe_val' (int_eq ?_) ?_ ?_); (· simp only [Int.natCast_add, Int.natCast_one, Int.natCast_ofNat] <;> omega); (· rfl)) | ((with_reducible refine frLe_val' (bool_eq ?_) ?_ ?_); (· first | assumption | (symm; assumption)); (· rfl))))))
          exact hpLe_nil
        · rw [if_pos (.inl (by omega))]
          clear hv
          (repeat ((try (conv => whnf)); (first | (refine Exists.intro _ (And.intro hbj ?_)) | ((with_reducible refine ArP_u8 ?_ ?_); (· omega)) | (with_reducible refine condP_true ?_) | (with_reducible refine condP_false ?_) | (with_reducible refine condP_not ?_) | (with_reducible refine condP_and ?_) | ((with_reducible refine condP_dt ?_ ?_); (· omega)) | ((with_reducible refine condP_df ?_ ?_); (· omega)) | ((with_reducible refine condP_yes ?_ ?_); (· assumption)) | ((with_reducible refine condP_no ?_ ?_); (· assumption)) | ((with_reducible refine ArP_i64 ?_ ?_); (· omega)) | ((with_reducible refine mustP.mk ?_ ?_); (· first | omega | rfl | (dsimp only; omega))) | (with_reducible refine EqP_nil tab_ok ?_) | (with_reducible refine EqP_sli tab_ok ?_) | (with_reducible refine DrawP_auto tab_ok (by kernel_rfl) (by decide +kernel) ?_) | (with_reducible refine DrawP_auto2 tab_ok (by kernel_rfl) (by decide +kernel) ?_) | (with_reducible refine eq45 ?_) | (with_reducible refine eq62 ?_) | (with_reducible refine eq100 ?_))))
          exact ⟨rfl, rfl⟩
      · obtain rfl : j = r := by omega
        have hstop : D.length = j ∨ ∃ b : UInt8, j < D.length ∧ s[Int.toNat q]? = some b ∧ b.toNat < 256 ∧ (b.toNat < 48 ∨ 57 < b.toNat) := by
          rcases Nat.lt_or_ge j D.length with h | h
          · refine .inr ⟨D.getD j 0, h, by rw [hq]; exact hg j (by omega), byte_lt _, ?_⟩
            have := hr2 h
            unfold isD at this
            omega
          · exact .inl (by omega)
        have hb0 : 0 < j → ∃ b : UInt8, D.getD 0 0 = b ∧ s[Int.toNat ((a : Int) + 1)]? = some b ∧ 48 ≤ b.toNat ∧ b.toNat ≤ 57 := fun h => by
          obtain ⟨h8, h9⟩ := hloop 0 h
          exact ⟨_, rfl, by have := hg 0 (by omega); simpa using this, h9.1, h9.2⟩
        rw [← hv]
        clear hg hloop hr2 hv hvj
        have hcases : j = 0 ∨ (∃ b : UInt8, D.getD 0 0 = b ∧ 0 < j ∧ s[Int.toNat ((a : Int) + 1)]? = some b ∧ b.toNat = 48 ∧ (1 < j ∨ true = true)) ∨ (∃ b : UInt8, D.getD 0 0 = b ∧ 0 < j ∧ s[Int.toNat ((a : Int) + 1)]? = some b ∧ 48 ≤ b.toNat ∧ b.toNat ≤ 57 ∧ b.toNat ≠ 48) ∨ (∃ b : UInt8, D.getD 0 0 = b ∧ j = 1 ∧ s[Int.toNat ((a : Int) + 1)]? = some b ∧ b.toNat = 48 ∧ true = false) := by
          rcases Nat.eq_zero_or_pos j with h | h
          · exact .inl h
          · obtain ⟨b, e1, e2, e3, e4⟩ := hb0 h
            by_cases e5 : b.toNat = 48
            · by_cases e6 : 1 < j ∨ true = true
              · exact .inr (.inl ⟨b, e1, h, e2, e5, e6⟩)
              · exact .inr (.inr (.inr ⟨b, e1, by omega, e2, e5, by first | rfl | exact absurd (Or.inr rfl) e6⟩))
            · exact .inr (.inr (.inl ⟨b, e1, h, e2, e3, e4, e5⟩))
        clear hb0
        generalize D.getD 0 0 = bz at *
        rcases hcases with h15 | ⟨b, rfl, h15, h16, h17, h18⟩ | ⟨b, rfl, h15, h16, h17, h18, h19⟩ | ⟨b, rfl, h15, h16, h17, h18⟩
        · rw [if_pos (.inr (.inl h15))]
          rcases hstop with h11 | ⟨bs, h11, h12, h13, h14 | h14⟩
          all_goals
            first
              | (exfalso; omega)
              | ((repeat ((try (conv => whnf)); (first | (refine Exists.intro _ (And.intro h12 ?_)) | (with_reducible refine condP_true ?_) | (with_reducible refine condP_false ?_) | (with_reducible refine condP_not ?_) | (with_reducible refine condP_and ?_) | ((with_reducible refine condP_dt ?_ ?_); (· omega)) | ((with_reducible refine condP_df ?_ ?_); (· omega)) | ((with_reducible refine condP_yes ?_ ?_); (· assumption)) | ((with_reducible refine condP_no ?_ ?_); (· assumption)) | ((with_reducible refine ArP_i64 ?_ ?_); (· omega)) | ((with_reducible refine mustP.mk ?_ ?_); (· first | omega | rfl | (dsimp only; omega))) | (with_reducible refine EqP_nil tab_ok ?_) | (with_reducible refine EqP_sli tab_ok ?_) | (with_reducible refine DrawP_auto tab_ok (by kernel_rfl) (by decide +kernel) ?_) | (with_reducible refine DrawP_auto2 tab_ok (by kernel_rfl) (by decide +kernel) ?_) | (with_reducible refine eq45 ?_) | (with_reducible refine eq62 ?_) | (with_reducible refine eq100 ?_))))
                 exact ⟨rfl, rfl⟩)
        · rw [if_pos (.inr (.inr ⟨UInt8.toNat_inj.1 (by rw [h17, h48]), h18⟩))]
          rcases hstop with h11 | ⟨bs, h11, h12, h13, h14 | h14⟩
          all_goals
            first
              | (exfalso; omega)
              | (rcases Nat.lt_or_ge 1 j with h20 | h20
                 · (repeat ((try (conv => whnf)); (first | (refine Exists.intro _ (And.intro h12 ?_)) | (refine Exists.intro _ (And.intro h16 ?_)) | (with_reducible refine condP_true ?_) | (with_reducible refine condP_false ?_) | (with_reducible refine condP_not ?_) | (with_reducible refine condP_and ?_) | ((with_reducible refine condP_dt ?_ ?_); (· omega)) | ((with_reducible refine condP_df ?_ ?_); (· omega)) | ((with_reducible refine condP_yes ?_ ?_); (· assumption)) | ((with_reducible refine condP_no ?_ ?_); (· assumption)) | ((with_reducible refine ArP_i64 ?_ ?_); (· omega)) | ((with_reducible refine mustP.mk ?_ ?_); (· first | omega | rfl | (dsimp only; omega))) | (with_reducible refine EqP_nil tab_ok ?_) | (with_reducible refine EqP_sli tab_ok ?_) | (with_reducible refine DrawP_auto tab_ok (by kernel_rfl) (by decide +kernel) ?_) | (with_reducible refine DrawP_auto2 tab_ok (by kernel_rfl) (by decide +kernel) ?_) | (with_reducible refine eq45 ?_) | (with_reducible refine eq62 ?_) | (with_reducible refine eq100 ?_))))
                   exact ⟨rfl, rfl⟩
                 · (repeat ((try (conv => whnf)); (first | (refine Exists.intro _ (And.intro h12 ?_)) | (refine Exists.intro _ (And.intro h16 ?_)) | (with_reducible refine condP_true ?_) | (with_reducible refine condP_false ?_) | (with_reducible refine condP_not ?_) | (with_reducible refine condP_and ?_) | ((with_reducible refine condP_dt ?_ ?_); (· omega)) | ((with_reducible refine condP_df ?_ ?_); (· omega)) | ((with_reducible refine condP_yes ?_ ?_); (· assumption)) | ((with_reducible refine condP_no ?_ ?_); (· assumption)) | ((with_reducible refine ArP_i64 ?_ ?_); (· omega)) | ((with_reducible refine mustP.mk ?_ ?_); (· first | omega | rfl | (dsimp only; omega))) | (with_reducible refine EqP_nil tab_ok ?_) | (with_reducible refine EqP_sli tab_ok ?_) | (with_reducible refine DrawP_auto tab_ok (by kernel_rfl) (by decide +kernel) ?_) | (with_reducible refine DrawP_auto2 tab_ok (by kernel_rfl) (by decide +kernel) ?_) | (with_reducible refine eq45 ?_) | (with_reducible refine eq62 ?_) | (with_reducible refine eq100 ?_))))
                   exact ⟨rfl, rfl⟩)
        · rw [if_neg (by rintro (h | h | ⟨h, h'⟩); omega; omega; exact absurd (congrArg UInt8.toNat h) h19)]
          rcases hstop with h11 | ⟨bs, h11, h12, h13, h14 | h14⟩
          all_goals
            first
              | (exfalso; omega)
              | ((repeat ((try (conv => whnf)); (first | (refine Exists.intro _ (And.intro h12 ?_)) | (refine Exists.intro _ (And.intro h16 ?_)) | (with_reducible refine condP_true ?_) | (with_reducible refine condP_false ?_) | (with_reducible refine condP_not ?_) | (with_reducible refine condP_and ?_) | ((with_reducible refine condP_dt ?_ ?_); (· omega)) | ((with_reducible refine condP_df ?_ ?_); (· omega)) | ((with_reducible refine condP_yes ?_ ?_); (· assumption)) | ((with_reducible refine condP_no ?_ ?_); (· assumption)) | ((with_reducible refine ArP_i64 ?_ ?_); (· omega)) | ((with_reducible refine mustP.mk ?_ ?_); (· first | omega | rfl | (dsimp only; omega))) | (with_reducible refine EqP_nil tab_ok ?_) | (with_reducible refine EqP_sli tab_ok ?_) | (with_reducible refine DrawP_auto tab_ok (by kernel_rfl) (by decide +kernel) ?_) | (with_reducible refine DrawP_auto2 tab_ok (by kernel_rfl) (by decide +kernel) ?_) | (with_reducible refine eq45 ?_) | (with_reducible refine eq62 ?_) | (with_reducible refine eq100 ?_))))
                 refine ⟨?_, rfl⟩
                 simp [digA, hq]
                 try omega)
        · exact absurd h18.symm Bool.false_ne_true
  · obtain rfl : p = a := by simpa using hp
    have hD : D.length + p = L.length := by simp at hdl; omega
    clear hp hdl hpl
    (repeat ((try (conv => whnf)); (first | (with_reducible refine condP_true ?_) | (with_reducible refine condP_false ?_) | (with_reducible refine condP_not ?_) | (with_reducible refine condP_and ?_) | ((with_reducible refine condP_dt ?_ ?_); (· omega)) | ((with_reducible refine condP_df ?_ ?_); (· omega)) | ((with_reducible refine condP_yes ?_ ?_); (· assumption)) | ((with_reducible refine condP_no ?_ ?_); (· assumption)) | ((with_reducible refine ArP_i64 ?_ ?_); (· omega)) | ((with_reducible refine mustP.mk ?_ ?_); (· first | omega | rfl | (dsimp only; omega))) | (with_reducible refine EqP_nil tab_ok ?_) | (with_reducible refine EqP_sli tab_ok ?_) | (with_reducible refine DrawP_auto tab_ok (by kernel_rfl) (by decide +kernel) ?_) | (with_reducible refine DrawP_auto2 tab_ok (by kernel_rfl) (by decide +kernel) ?_) | (with_reducible refine eq45 ?_) | (with_reducible refine eq62 ?_) | (with_reducible refine eq100 ?_))))
    conv => whnf
    refine LoopP_at3 tab_ok (fun j q v => j ≤ r ∧ j ≤ 5 ∧ q = (p : Int) + (j : Int) ∧ v = valN D j) (fun (j : Nat) (q v : Int) => [(8, .val (.int .i64 q)), (7, .val (.int .i64 v))]) (fun j q v => []) (fun j q v => r - j) 0 ((p : Int)) 0 ⟨Nat.zero_le _, Nat.zero_le _, by omega, rfl⟩ ?_ ?_
    · ((refine Le_head ?_); (conv => whnf); (refine Le_mk (by rfl) (by rfl) ?_ ?_); (· (repeat (first | (with_reducible exact frLe_nil) | (with_reducible refine frLe_any ?_) | (with_reducible refine frLe_val ?_) | ((with_reducible refine frLe_eq rfl ?_ ?_); (· rfl)) | ((with_reducible refine frLe_val' (int_eq ?_) ?_ ?_); (· omega); (· rfl)) | ((with_reducible refine frLe_val' (int_eq ?_) ?_ ?_); (· simp only [Int.natCast_add, Int.natCast_one, Int.natCast_ofNat] <;> omega); (· rfl)) | ((with_reducible refine frLe_val' (bool_eq ?_) ?_ ?_); (· first | assumption | (symm; assumption)); (· rfl))))))
      exact hpLe_nil
    · rintro j q v ⟨hj, hj5, hq, hv⟩
      obtain ⟨hv0, hv1⟩ := hval j hj5 fun i hi => (hloop i (by omega)).2
      rw [← hv] at hv0 hv1
      have hvj := hvs j
      rw [← hv] at hvj
      clear hval hvs
      rcases Nat.lt_or_ge j r with h7 | h7
      · exfalso; omega
      · obtain rfl : j = r := by omega
        have hstop : D.length = j ∨ ∃ b : UInt8, j < D.length ∧ s[Int.toNat q]? = some b ∧ b.toNat < 256 ∧ (b.toNat < 48 ∨ 57 < b.toNat) := by
          rcases Nat.lt_or_ge j D.length with h | h
          · refine .inr ⟨D.getD j 0, h, by rw [hq]; exact hg j (by omega), byte_lt _, ?_⟩
            have := hr2 h
            unfold isD at this
            omega
          · exact .inl (by omega)
        have hb0 : 0 < j → ∃ b : UInt8, D.getD 0 0 = b ∧ s[Int.toNat ((p : Int))]? = some b ∧ 48 ≤ b.toNat ∧ b.toNat ≤ 57 := fun h => by
          obtain ⟨h8, h9⟩ := hloop 0 h
          exact ⟨_, rfl, by have := hg 0 (by omega); simpa using this, h9.1, h9.2⟩
        rw [← hv]
        clear hg hloop hr2 hv hvj
        have hcases : j = 0 ∨ (∃ b : UInt8, D.getD 0 0 = b ∧ 0 < j ∧ s[Int.toNat ((p : Int))]? = some b ∧ b.toNat = 48 ∧ (1 < j ∨ false = true)) ∨ (∃ b : UInt8, D.getD 0 0 = b ∧ 0 < j ∧ s[Int.toNat ((p : Int))]? = some b ∧ 48 ≤ b.toNat ∧ b.toNat ≤ 57 ∧ b.toNat ≠ 48) ∨ (∃ b : UInt8, D.getD 0 0 = b ∧ j = 1 ∧ s[Int.toNat ((p : Int))]? = some b ∧ b.toNat = 48 ∧ false = false) := by
          rcases Nat.eq_zero_or_pos j with h | h
          · exact .inl h
          · obtain ⟨b, e1, e2, e3, e4⟩ := hb0 h
            by_cases e5 : b.toNat = 48
            · by_cases e6 : 1 < j ∨ false = true
              · exact .inr (.inl ⟨b, e1, h, e2, e5, e6⟩)
              · exact .inr (.inr (.inr ⟨b, e1, by omega, e2, e5, by first | rfl | exact absurd (Or.inr rfl) e6⟩))
            · exact .inr (.inr (.inl ⟨b, e1, h, e2, e3, e4, e5⟩))
        clear hb0
        generalize D.getD 0 0 = bz at *
        rcases hcases with h15 | ⟨b, rfl, h15, h16, h17, h18⟩ | ⟨b, rfl, h15, h16, h17, h18, h19⟩ | ⟨b, rfl, h15, h16, h17, h18⟩
        · rw [if_pos (.inr (.inl h15))]
          rcases hstop with h11 | ⟨bs, h11, h12, h13, h14 | h14⟩
          all_goals
            first
              | (exfalso; omega)
              | ((repeat ((try (conv => whnf)); (first | (refine Exists.intro _ (And.intro h12 ?_)) | (with_reducible refine condP_true ?_) | (with_reducible refine condP_false ?_) | (with_reducible refine condP_not ?_) | (with_reducible refine condP_and ?_) | ((with_reducible refine condP_dt ?_ ?_); (· omega)) | ((with_reducible refine condP_df ?_ ?_); (· omega)) | ((with_reducible refine condP_yes ?_ ?_); (· assumption)) | ((with_reducible refine condP_no ?_ ?_); (· assumption)) | ((with_reducible refine ArP_i64 ?_ ?_); (· omega)) | ((with_reducible refine mustP.mk ?_ ?_); (· first | omega | rfl | (dsimp only; omega))) | (with_reducible refine EqP_nil tab_ok ?_) | (with_reducible refine EqP_sli tab_ok ?_) | (with_reducible refine DrawP_auto tab_ok (by kernel_rfl) (by decide +kernel) ?_) | (with_reducible refine DrawP_auto2 tab_ok (by kernel_rfl) (by decide +kernel) ?_) | (with_reducible refine eq45 ?_) | (with_reducible refine eq62 ?_) | (with_reducible refine eq100 ?_))))
                 exact ⟨rfl, rfl⟩)
        · rw [if_pos (.inr (.inr ⟨UInt8.toNat_inj.1 (by rw [h17, h48]), h18⟩))]
          have h18 : 1 < j := by rcases h18 with h | h; exact h; cases h
          rcases hstop with h11 | ⟨bs, h11, h12, h13, h14 | h14⟩
          all_goals
            first
              | (exfalso; omega)
              | ((repeat ((try (conv => whnf)); (first | (refine Exists.intro _ (And.intro h12 ?_)) | (refine Exists.intro _ (And.intro h16 ?_)) | (with_reducible refine condP_true ?_) | (with_reducible refine condP_false ?_) | (with_reducible refine condP_not ?_) | (with_reducible refine condP_and ?_) | ((with_reducible refine condP_dt ?_ ?_); (· omega)) | ((with_reducible refine condP_df ?_ ?_); (· omega)) | ((with_reducible refine condP_yes ?_ ?_); (· assumption)) | ((with_reducible refine condP_no ?_ ?_); (· assumption)) | ((with_reducible refine ArP_i64 ?_ ?_); (· omega)) | ((with_reducible refine mustP.mk ?_ ?_); (· first | omega | rfl | (dsimp only; omega))) | (with_reducible refine EqP_nil tab_ok ?_) | (with_reducible refine EqP_sli tab_ok ?_) | (with_reducible refine DrawP_auto tab_ok (by kernel_rfl) (by decide +kernel) ?_) | (with_reducible refine DrawP_auto2 tab_ok (by kernel_rfl) (by decide +kernel) ?_) | (with_reducible refine eq45 ?_) | (with_reducible refine eq62 ?_) | (with_reducible refine eq100 ?_))))
                 exact ⟨rfl, rfl⟩)
        · rw [if_neg (by rintro (h | h | ⟨h, h'⟩); omega; omega; exact absurd (congrArg UInt8.toNat h) h19)]
          rcases hstop with h11 | ⟨bs, h11, h12, h13, h14 | h14⟩
          all_goals
            first
              | (exfalso; omega)
              | ((repeat ((try (conv => whnf)); (first | (refine Exists.intro _ (And.intro h12 ?_)) | (refine Exists.intro _ (And.intro h16 ?_)) | (with_reducible refine condP_true ?_) | (with_reducible refine condP_false ?_) | (with_reducible refine condP_not ?_) | (with_reducible refine condP_and ?_) | ((with_reducible refine condP_dt ?_ ?_); (· omega)) | ((with_reducible refine condP_df ?_ ?_); (· omega)) | ((with_reducible refine condP_yes ?_ ?_); (· assumption)) | ((with_reducible refine condP_no ?_ ?_); (· assumption)) | ((with_reducible refine ArP_i64 ?_ ?_); (· omega)) | ((with_reducible refine mustP.mk ?_ ?_); (· first | omega | rfl | (dsimp only; omega))) | (with_reducible refine EqP_nil tab_ok ?_) | (with_reducible refine EqP_sli tab_ok ?_) | (with_reducible refine DrawP_auto tab_ok (by kernel_rfl) (by decide +kernel) ?_) | (with_reducible refine DrawP_auto2 tab_ok (by kernel_rfl) (by decide +kernel) ?_) | (with_reducible refine eq45 ?_) | (with_reducible refine eq62 ?_) | (with_reducible refine eq100 ?_))))
                 refine ⟨?_, rfl⟩
                 simp [digA, hq]
                 try omega)
        · rw [if_neg (by rintro (h | h | ⟨h, h' | h'⟩); omega; omega; omega; exact absurd h' Bool.false_ne_true)]
          rcases hstop with h11 | ⟨bs, h11, h12, h13, h14 | h14⟩
          all_goals
            first
              | (exfalso; omega)
              | ((repeat ((try (conv => whnf)); (first | (refine Exists.intro _ (And.intro h12 ?_)) | (refine Exists.intro _ (And.intro h16 ?_)) | (with_reducible refine condP_true ?_) | (with_reducible refine condP_false ?_) | (with_reducible refine condP_not ?_) | (with_reducible refine condP_and ?_) | ((with_reducible refine condP_dt ?_ ?_); (· omega)) | ((with_reducible refine condP_df ?_ ?_); (· omega)) | ((with_reducible refine condP_yes ?_ ?_); (· assumption)) | ((with_reducible refine condP_no ?_ ?_); (· assumption)) | ((with_reducible refine ArP_i64 ?_ ?_); (· omega)) | ((with_reducible refine mustP.mk ?_ ?_); (· first | omega | rfl | (dsimp only; omega))) | (with_reducible refine EqP_nil tab_ok ?_) | (with_reducible refine EqP_sli tab_ok ?_) | (with_reducible refine DrawP_auto tab_ok (by kernel_rfl) (by decide +kernel) ?_) | (with_reducible refine DrawP_auto2 tab_ok (by kernel_rfl) (by decide +kernel) ?_) | (with_reducible refine eq45 ?_) | (with_reducible refine eq62 ?_) | (with_reducible refine eq100 ?_))))
                 refine ⟨?_, rfl⟩
                 simp [digA, hq]
                 try omega)
  · obtain rfl : p = a := by simpa using hp
    have hD : D.length + p = L.length := by simp at hdl; omega
    clear hp hdl hpl
    have hbl := byte_lt b
    (repeat ((try (conv => whnf)); (first | (refine Exists.intro _ (And.intro hb ?_)) | (with_reducible refine condP_true ?_) | (with_reducible refine condP_false ?_) | (with_reducible refine condP_not ?_) | (with_reducible refine condP_and ?_) | ((with_reducible refine condP_dt ?_ ?_); (· omega)) | ((with_reducible refine condP_df ?_ ?_); (· omega)) | ((with_reducible refine condP_yes ?_ ?_); (· assumption)) | ((with_reducible refine condP_no ?_ ?_); (· assumption)) | ((with_reducible refine ArP_i64 ?_ ?_); (· omega)) | ((with_reducible refine mustP.mk ?_ ?_); (· first | omega | rfl | (dsimp only; omega))) | (with_reducible refine EqP_nil tab_ok ?_) | (with_reducible refine EqP_sli tab_ok ?_) | (with_reducible refine DrawP_auto tab_ok (by kernel_rfl) (by decide +kernel) ?_) | (with_reducible refine DrawP_auto2 tab_ok (by kernel_rfl) (by decide +kernel) ?_) | (with_reducible refine eq45 ?_) | (with_reducible refine eq62 ?_) | (with_reducible refine eq100 ?_))))
    conv => whnf
    refine LoopP_at3 tab_ok (fun j q v => j ≤ r ∧ j ≤ 5 ∧ q = (p : Int) + (j : Int) ∧ v = valN D j) (fun (j : Nat) (q v : Int) => [(8, .val (.int .i64 q)), (7, .val (.int .i64 v))]) (fun j q v => []) (fun j q v => r - j) 0 ((p : Int)) 0 ⟨Nat.zero_le _, Nat.zero_le _, by omega, rfl⟩ ?_ ?_
    · ((refine Le_head ?_); (conv => whnf); (refine Le_mk (by rfl) (by rfl) ?_ ?_); (· (repeat (first | (with_reducible exact frLe_nil) | (with_reducible refine frLe_any ?_) | (with_reducible refine frLe_val ?_) | ((with_reducible refine frLe_eq rfl ?_ ?_); (· rfl)) | ((with_reducible refine frLe_val' (int_eq ?_) ?_ ?_); (· omega); (· rfl)) | ((with_reducible refine frLe_val' (int_eq ?_) ?_ ?_); (· simp only [Int.natCast_add, Int.natCast_one, Int.natCast_ofNat] <;> omega); (· rfl)) | ((with_reducible refine frLe_val' (bool_eq ?_) ?_ ?_); (· first | assumption | (symm; assumption)); (· rfl))))))
      exact hpLe_nil
    · rintro j q v ⟨hj, hj5, hq, hv⟩
      obtain ⟨hv0, hv1⟩ := hval j hj5 fun i hi => (hloop i (by omega)).2
      rw [← hv] at hv0 hv1
      have hvj := hvs j
      rw [← hv] at hvj
      clear hval hvs
      rcases Nat.lt_or_ge j r with h7 | h7
      · obtain ⟨h8, h9⟩ := hloop j h7
        have hbj := hg j (by omega)
        rw [← hq] at hbj
        have hbl := byte_lt (D.getD j 0)
        clear hg hloop hr2
        unfold isD at h9
        generalize D.getD j 0 = b0 at *
        rcases Nat.lt_or_ge j 5 with h10 | h10
        · clear hv
          (repeat ((try (conv => whnf)); (first | (refine Exists.intro _ (And.intro hbj ?_)) | ((with_reducible refine ArP_u8 ?_ ?_); (· omega)) | (with_reducible refine condP_true ?_) | (with_reducible refine condP_false ?_) | (with_reducible refine condP_not ?_) | (with_reducible refine condP_and ?_) | ((with_reducible refine condP_dt ?_ ?_); (· omega)) | ((with_reducible refine condP_df ?_ ?_); (· omega)) | ((with_reducible refine condP_yes ?_ ?_); (· assumption)) | ((with_reducible refine condP_no ?_ ?_); (· assumption)) | ((with_reducible refine ArP_i64 ?_ ?_); (· omega)) | ((with_reducible refine mustP.mk ?_ ?_); (· first | omega | rfl | (dsimp only; omega))) | (with_reducible refine EqP_nil tab_ok ?_) | (with_reducible refine EqP_sli tab_ok ?_) | (with_reducible refine DrawP_auto tab_ok (by kernel_rfl) (by decide +kernel) ?_) | (with_reducible refine DrawP_auto2 tab_ok (by kernel_rfl) (by decide +kernel) ?_) | (with_reducible refine eq45 ?_) | (with_reducible refine eq62 ?_) | (with_reducible refine eq100 ?_))))
          refine ⟨j + 1, q + 1, _, ⟨by omega, by omega, by push_cast; omega, hvj.symm⟩, by omega, ?_⟩
          ((refine Le_head ?_); (conv => whnf); (refine Le_mk (by rfl) (by rfl) ?_ ?_); (· (repeat (first | (with_reducible exact frLe_nil) | (with_reducible refine frLe_any ?_) | (with_reducible refine frLe_val ?_) | ((with_reducible refine frLe_eq rfl ?_ ?_); (· rfl)) | ((with_reducible refine frLe_val' (int_eq ?_) ?_ ?_); (· omega); (· rfl)) | ((with_reducible refine frLe_val' (int_eq ?_) ?_ ?_); (· simp only [Int.natCast_add, Int.natCast_one, Int.natCast_ofNat] <;> omega); (· rfl)) | ((with_reducible refine frLe_val' (bool_eq ?_) ?_ ?_); (· first | assumption | (symm; assumption)); (· rfl))))))
          exact hpLe_nil
        · rw [if_pos (.inl (by omega))]
          clear hv
          (repeat ((try (conv => whnf)); (first | (refine Exists.intro _ (And.intro hbj ?_)) | ((with_reducible refine ArP_u8 ?_ ?_); (· omega)) | (with_reducible refine condP_true ?_) | (with_reducible refine condP_false ?_) | (with_reducible refine condP_not ?_) | (with_reducible refine condP_and ?_) | ((with_reducible refine condP_dt ?_ ?_); (· omega)) | ((with_reducible refine condP_df ?_ ?_); (· omega)) | ((with_reducible refine condP_yes ?_ ?_); (· assumption)) | ((with_reducible refine condP_no ?_ ?_); (· assumption)) | ((with_reducible refine ArP_i64 ?_ ?_); (· omega)) | ((with_reducible refine mustP.mk ?_ ?_); (· first | omega | rfl | (dsimp only; omega))) | (with_reducible refine EqP_nil tab_ok ?_) | (with_reducible refine EqP_sli tab_ok ?_) | (with_reducible refine DrawP_auto tab_ok (by kernel_rfl) (by decide +kernel) ?_) | (with_reducible refine DrawP_auto2 tab_ok (by kernel_rfl) (by decide +kernel) ?_) | (with_reducible refine eq45 ?_) | (with_reducible refine eq62 ?_) | (with_reducible refine eq100 ?_))))
          exact ⟨rfl, rfl⟩
      · obtain rfl : j = r := by omega
        have hstop : D.length = j ∨ ∃ b : UInt8, j < D.length ∧ s[Int.toNat q]? = some b ∧ b.toNat < 256 ∧ (b.toNat < 48 ∨ 57 < b.toNat) := by
          rcases Nat.lt_or_ge j D.length with h | h
          · refine .inr ⟨D.getD j 0, h, by rw [hq]; exact hg j (by omega), byte_lt _, ?_⟩
            have := hr2 h
            unfold isD at this
            omega
          · exact .inl (by omega)
        have hb0 : 0 < j → ∃ b : UInt8, D.getD 0 0 = b ∧ s[Int.toNat ((p : Int))]? = some b ∧ 48 ≤ b.toNat ∧ b.toNat ≤ 57 := fun h => by
          obtain ⟨h8, h9⟩ := hloop 0 h
          exact ⟨_, rfl, by have := hg 0 (by omega); simpa using this, h9.1, h9.2⟩
        rw [← hv]
        clear hg hloop hr2 hv hvj
        have hcases : j = 0 ∨ (∃ b : UInt8, D.getD 0 0 = b ∧ 0 < j ∧ s[Int.toNat ((p : Int))]? = some b ∧ b.toNat = 48 ∧ (1 < j ∨ false = true)) ∨ (∃ b : UInt8, D.getD 0 0 = b ∧ 0 < j ∧ s[Int.toNat ((p : Int))]? = some b ∧ 48 ≤ b.toNat ∧ b.toNat ≤ 57 ∧ b.toNat ≠ 48) ∨ (∃ b : UInt8, D.getD 0 0 = b ∧ j = 1 ∧ s[Int.toNat ((p : Int))]? = some b ∧ b.toNat = 48 ∧ false = false) := by
          rcases Nat.eq_zero_or_pos j with h | h
          · exact .inl h
          · obtain ⟨b, e1, e2, e3, e4⟩ := hb0 h
            by_cases e5 : b.toNat = 48
            · by_cases e6 : 1 < j ∨ false = true
              · exact .inr (.inl ⟨b, e1, h, e2, e5, e6⟩)
              · exact .inr (.inr (.inr ⟨b, e1, by omega, e2, e5, by first | rfl | exact absurd (Or.inr rfl) e6⟩))
            · exact .inr (.inr (.inl ⟨b, e1, h, e2, e3, e4, e5⟩))
        clear hb0
        generalize D.getD 0 0 = bz at *
        rcases hcases with h15 | ⟨b, rfl, h15, h16, h17, h18⟩ | ⟨b, rfl, h15, h16, h17, h18, h19⟩ | ⟨b, rfl, h15, h16, h17, h18⟩
        · rw [if_pos (.inr (.inl h15))]
          rcases hstop with h11 | ⟨bs, h11, h12, h13, h14 | h14⟩
          all_goals
            first
              | (exfalso; omega)
              | ((repeat ((try (conv => whnf)); (first | (refine Exists.intro _ (And.intro h12 ?_)) | (with_reducible refine condP_true ?_) | (with_reducible refine condP_false ?_) | (with_reducible refine condP_not ?_) | (with_reducible refine condP_and ?_) | ((with_reducible refine condP_dt ?_ ?_); (· omega)) | ((with_reducible refine condP_df ?_ ?_); (· omega)) | ((with_reducible refine condP_yes ?_ ?_); (· assumption)) | ((with_reducible refine condP_no ?_ ?_); (· assumption)) | ((with_reducible refine ArP_i64 ?_ ?_); (· omega)) | ((with_reducible refine mustP.mk ?_ ?_); (· first | omega | rfl | (dsimp only; omega))) | (with_reducible refine EqP_nil tab_ok ?_) | (with_reducible refine EqP_sli tab_ok ?_) | (with_reducible refine DrawP_auto tab_ok (by kernel_rfl) (by decide +kernel) ?_) | (with_reducible refine DrawP_auto2 tab_ok (by kernel_rfl) (by decide +kernel) ?_) | (with_reducible refine eq45 ?_) | (with_reducible refine eq62 ?_) | (with_reducible refine eq100 ?_))))
                 exact ⟨rfl, rfl⟩)
        · rw [if_pos (.inr (.inr ⟨UInt8.toNat_inj.1 (by rw [h17, h48]), h18⟩))]
          have h18 : 1 < j := by rcases h18 with h | h; exact h; cases h
          rcases hstop with h11 | ⟨bs, h11, h12, h13, h14 | h14⟩
          all_goals
            first
              | (exfalso; omega)
              | ((repeat ((try (conv => whnf)); (first | (refine Exists.intro _ (And.intro h12 ?_)) | (refine Exists.intro _ (And.intro h16 ?_)) | (with_reducible refine condP_true ?_) | (with_reducible refine condP_false ?_) | (with_reducible refine condP_not ?_) | (with_reducible refine condP_and ?_) | ((with_reducible refine condP_dt ?_ ?_); (· omega)) | ((with_reducible refine condP_df ?_ ?_); (· omega)) | ((with_reducible refine condP_yes ?_ ?_); (· assumption)) | ((with_reducible refine condP_no ?_ ?_); (· assumption)) | ((with_reducible refine ArP_i64 ?_ ?_); (· omega)) | ((with_reducible refine mustP.mk ?_ ?_); (· first | omega | rfl | (dsimp only; omega))) | (with_reducible refine EqP_nil tab_ok ?_) | (with_reducible refine EqP_sli tab_ok ?_) | (with_reducible refine DrawP_auto tab_ok (by kernel_rfl) (by decide +kernel) ?_) | (with_reducible refine DrawP_auto2 tab_ok (by kernel_rfl) (by decide +kernel) ?_) | (with_reducible refine eq45 ?_) | (with_reducible refine eq62 ?_) | (with_reducible refine eq100 ?_))))
                 exact ⟨rfl, rfl⟩)
        · rw [if_neg (by rintro (h | h | ⟨h, h'⟩); omega; omega; exact absurd (congrArg UInt8.toNat h) h19)]
          rcases hstop with h11 | ⟨bs, h11, h12, h13, h14 | h14⟩
          all_goals
            first
              | (exfalso; omega)
              | ((repeat ((try (conv => whnf)); (first | (refine Exists.intro _ (And.intro h12 ?_)) | (refine Exists.intro _ (And.intro h16 ?_)) | (with_reducible refine condP_true ?_) | (with_reducible refine condP_false ?_) | (with_reducible refine condP_not ?_) | (with_reducible refine condP_and ?_) | ((with_reducible refine condP_dt ?_ ?_); (· omega)) | ((with_reducible refine condP_df ?_ ?_); (· omega)) | ((with_reducible refine condP_yes ?_ ?_); (· assumption)) | ((with_reducible refine condP_no ?_ ?_); (· assumption)) | ((with_reducible refine ArP_i64 ?_ ?_); (· omega)) | ((with_reducible refine mustP.mk ?_ ?_); (· first | omega | rfl | (dsimp only; omega))) | (with_reducible refine EqP_nil tab_ok ?_) | (with_reducible refine EqP_sli tab_ok ?_) | (with_reducible refine DrawP_auto tab_ok (by kernel_rfl) (by decide +kernel) ?_) | (with_reducible refine DrawP_auto2 tab_ok (by kernel_rfl) (by decide +kernel) ?_) | (with_reducible refine eq45 ?_) | (with_reducible refine eq62 ?_) | (with_reducible refine eq100 ?_))))
                 refine ⟨?_, rfl⟩
                 simp [digA, hq]
                 try omega)
        · rw [if_neg (by rintro (h | h | ⟨h, h' | h'⟩); omega; omega; omega; exact absurd h' Bool.false_ne_true)]
          rcases hstop with h11 | ⟨bs, h11, h12, h13, h14 | h14⟩
          all_goals
            first
              | (exfalso; omega)
              | ((repeat ((try (conv => whnf)); (first | (refine Exists.intro _ (And.intro h12 ?_)) | (refine Exists.intro _ (And.intro h16 ?_)) | (with_reducible refine condP_true ?_) | (with_reducible refine condP_false ?_) | (with_reducible refine condP_not ?_) | (with_reducible refine condP_and ?_) | ((with_reducible refine condP_dt ?_ ?_); (· omega)) | ((with_reducible refine condP_df ?_ ?_); (· omega)) | ((with_reducible refine condP_yes ?_ ?_); (· assumption)) | ((with_reducible refine condP_no ?_ ?_); (· assumption)) | ((with_reducible refine ArP_i64 ?_ ?_); (· omega)) | ((with_reducible refine mustP.mk ?_ ?_); (· first | omega | rfl | (dsimp only; omega))) | (with_reducible refine EqP_nil tab_ok ?_) | (with_reducible refine EqP_sli tab_ok ?_) | (with_reducible refine DrawP_auto tab_ok (by kernel_rfl) (by decide +kernel) ?_) | (with_reducible refine DrawP_auto2 tab_ok (by kernel_rfl) (by decide +kernel) ?_) | (with_reducible refine eq45 ?_) | (with_reducible refine eq62 ?_) | (with_reducible refine eq100 ?_))))
                 refine ⟨?_, rfl⟩
                 simp [digA, hq]
                 try omega)
end
end Go.Proofs.YtdakcfggecpjjaaDoor
