/-
  dash.Dash of valid arguments.
-/
import Derived.Test.YtpgjbfbdappniaaDashPt
import Derived.Test.YtpgjbfbdappniaaDashS
import Derived.Test.YtpgjbfbdappniaaMakesF
import Derived.Test.YtpgjbfbdappniaaLit
import Derived.Test.YtpgjbfbdappniaaArg
import Derived.Test.YtpgjbfbdappniaaSameLines
namespace Go.Proofs.Ytpgjbfbdappniaa
open Go.RowKit
set_option linter.unusedVariables false
set_option linter.unusedSimpArgs false
set_option maxRecDepth 20000
/-- The point at a position of a line. -/
noncomputable def posD (X Y z t : Nat → Int) (T : Nat) (s : Int) : Int × Int :=
  (onI (X (fiI z t T s)) (X (fiI z t T s + 1)) (s - t (fiI z t T s)) (z (fiI z t T s)), onI (Y (fiI z t T s)) (Y (fiI z t T s + 1)) (s - t (fiI z t T s)) (z (fiI z t T s)))
noncomputable def dashP (X Y z t : Nat → Int) (T : Nat) (r : Int × Int) : List (Int × Int) :=
  posD X Y z t T r.1 :: midL t (fun i => (X i, Y i)) r.1 r.2 T ++ [posD X Y z t T r.2]
structure RowD where
  a : Option Addr
  q : Nat
  P : List (Int × Int)
def RowD.enc (r : RowD) : List Value := [.slice r.a r.P.length r.q, .bool false]
def RowsM (G : Mem) (R : List RowD) : Prop := ∀ r ∈ R, PtsM G r.a r.P
theorem RowsM.mono {G G' : Mem} {R : List RowD} (h : RowsM G R) (hle : G.le G') : RowsM G' R := fun r hr => (h r hr).mono hle
theorem RowsM.add {G : Mem} {R : List RowD} {r : RowD} (h : RowsM G R) (hr : PtsM G r.a r.P) : RowsM G (R ++ [r]) := fun r' h' => by
  rcases List.mem_append.1 h' with h' | h'
  · exact h r' h'
  · simp at h'; subst h'; exact hr
/-- What Dash hands back. -/
def DaR (PL : List (List (Int × Int))) (G : Mem) (A : Option Addr) (m : Nat) : Prop := m = PL.length ∧ ∃ a q, LnsM G A m (fun i => PL.getD i []) (fun _ => false) a q
theorem rows_flat : ∀ {R : List RowD}, R.flatMap RowD.enc = flatC (fun i => (R.getD i ⟨none, 0, []⟩).enc) R.length := by
  intro R
  suffices h : ∀ k, k ≤ R.length → (R.take k).flatMap RowD.enc = flatC (fun i => (R.getD i ⟨none, 0, []⟩).enc) k by
    have := h R.length (Nat.le_refl _)
    rwa [List.take_length] at this
  intro k
  induction k with
  | zero => intro _; simp [flatC]
  | succ k ih =>
    intro hk
    rw [flatC, ← ih (by omega), List.take_add_one, List.getElem?_eq_getElem (show k < R.length by omega), List.flatMap_append]
    congr 1
    rw [List.getD_eq_getElem?_getD, List.getElem?_eq_getElem (show k < R.length by omega)]
    simp
theorem DaR_of {G : Mem} {A : Option Addr} {R : List RowD} {PL : List (List (Int × Int))} (he : R.map RowD.P = PL) (hM : RowsM G R) (hF : FlatM G A (R.flatMap RowD.enc)) : DaR PL G A R.length := by
  subst he
  refine ⟨by simp, fun i => (R.getD i ⟨none, 0, []⟩).a, fun i => (R.getD i ⟨none, 0, []⟩).q, ?_, fun i hi => ?_⟩
  · rw [rows_flat] at hF
    refine (hF.els (sz := 2) (fun x hx => rfl) (by omega)).congr fun x hx => ?_
    show RowD.enc _ = _
    unfold RowD.enc
    rw [List.getD_eq_getElem?_getD, List.getD_eq_getElem?_getD, List.getElem?_map, List.getElem?_eq_getElem hx]
    rfl
  · rw [List.getD_eq_getElem?_getD, List.getD_eq_getElem?_getD, List.getElem?_map, List.getElem?_eq_getElem hi]
    exact hM _ (List.getElem_mem hi)
theorem PtsM_flatD {G : Mem} {A : Option Addr} {L : List (Int × Int)} (h : FlatM G A (flatP L)) : PtsM G A L := fun i r hr => by
  obtain ⟨h1, h2⟩ := flatP_get hr
  rcases h with ⟨_, h⟩ | ⟨b, off, rfl, h⟩
  · rw [h] at h1; simp at h1
  · exact ⟨b, off, rfl, h _ _ h1, h _ _ h2⟩
structure DSt where
  i : Nat
  k : Nat
  G : Mem
  R : List RowD
structure DInv (P : Nat → Int) (m : Nat) (h E : Int) (z t : Nat → Int) (T : Nat) (G2 : Mem) (f : Int × Int → List (Int × Int)) (s : DSt) : Prop where
  k1 : s.k = 0 ∨ s.k < T
  k2 : ∀ j, j < s.k → ¬ (0 < z j ∧ max (cumI P m s.i - h) 0 ≤ t (j + 1))
  le : G2.le s.G
  len : s.R.length ≤ 10000
  rows : s.R.map RowD.P = (dL P m h E s.i).map f
  mem : RowsM s.G s.R
theorem DInv.skip {P : Nat → Int} {m : Nat} {h E : Int} {z t : Nat → Int} {T : Nat} {G2 : Mem} {f : Int × Int → List (Int × Int)} {s : DSt} (hs : DInv P m h E z t T G2 f s) (hm : 0 < m) (hp : ∀ i, i < m → 1 ≤ P i) (hd : ¬ isD P m h E s.i) : DInv P m h E z t T G2 f ⟨s.i + 1, s.k, s.G, s.R⟩ :=
  ⟨hs.k1, fun j hj hh => hs.k2 j hj ⟨hh.1, by
    have h1 := hp (s.i % m) (Nat.mod_lt _ hm)
    have h2 : max (cumI P m (s.i + 1) - h) 0 ≤ t (j + 1) := hh.2
    have h3 : cumI P m (s.i + 1) = cumI P m s.i + P (s.i % m) := rfl
    omega⟩, hs.le, hs.len, by show s.R.map RowD.P = (dL P m h E (s.i + 1)).map f; rw [dL, if_neg hd, List.append_nil]; exact hs.rows, hs.mem⟩
theorem DInv.dash {P : Nat → Int} {m : Nat} {h E : Int} {z t : Nat → Int} {T : Nat} {G2 : Mem} {f : Int × Int → List (Int × Int)} {s : DSt} (hs : DInv P m h E z t T G2 f s) (hm : 0 < m) (hp : ∀ i, i < m → 1 ≤ P i) (hd : isD P m h E s.i) (hl : s.R.length ≠ 10000) {k : Nat} {G' : Mem} {r : RowD}
    (hk : IsFi z t T (max (cumI P m s.i - h) 0) k) (hle : s.G.le G') (hr : r.P = f (dashI P m h E s.i)) (hM : PtsM G' r.a r.P) : DInv P m h E z t T G2 f ⟨s.i + 1, k, G', s.R ++ [r]⟩ :=
  ⟨.inr hk.lt, fun j hj hh => hk.no j hj ⟨hh.1, by
    have h1 := hp (s.i % m) (Nat.mod_lt _ hm)
    have h2 : max (cumI P m (s.i + 1) - h) 0 ≤ t (j + 1) := hh.2
    have h3 : cumI P m (s.i + 1) = cumI P m s.i + P (s.i % m) := rfl
    omega⟩, Mem.le_trans hs.le hle, by show (s.R ++ [r]).length ≤ _; have := hs.len; simp; omega, by show (s.R ++ [r]).map RowD.P = (dL P m h E (s.i + 1)).map f; rw [dL, if_pos hd, List.map_append, List.map_append, hs.rows]; simp [hr], (hs.mem.mono hle).add hM⟩
section
variable {G : Mem} {A B : Option Addr} {X Y P : Nat → Int} {n q m qm : Nat} {cl : Bool} {ph : Int}
/-- The pattern's turn. -/
def turnI (P : Nat → Int) (m : Nat) : Int := if m % 2 = 1 then cumI P m m * 2 else cumI P m m
noncomputable abbrev ptX (X : Nat → Int) (n : Nat) : Nat → Int := fun i => X (pi n i)
theorem sides_of (hok : ∀ j, j < n → okXY (X j) (Y j) = true) : Sides (szI X Y n) (atI X Y n) (tot n cl) :=
  ⟨rfl, fun i hi => rfl, fun i hi => (szI_bd hok (by have := tot_le (n := n) (cl := cl); omega)).1⟩
theorem Co_of (hok : ∀ j, j < n → okXY (X j) (Y j) = true) {i : Nat} (hi : i ≤ n) (hn : 0 < n) : Co (X (pi n i)) ∧ Co (Y (pi n i)) := by
  obtain ⟨a1, a2⟩ := okXY_of (hok _ (pi_lt hi hn))
  exact ⟨⟨a1.1, a1.2⟩, ⟨a2.1, a2.2⟩⟩
set_option maxHeartbeats 8000000 in
theorem Dash_body (hp : ElsM G A 2 n (ptC X Y)) (hq : n ≤ q ∧ q ≤ maxLen) (hn : n ≤ 8) (he : lineErr X Y n = 0) (hP : ElsM G B 1 m fun i => [.int .i64 (P i)]) (hm : 1 ≤ m ∧ m ≤ 16) (hpat : ∀ i, i < m → 1 ≤ P i ∧ P i ≤ 65535) (hph : 0 ≤ ph ∧ ph ≤ 1048576)
    (h E : Int) (hh : h = Int.tmod ph (turnI P m)) (hE : E = atI X Y n (tot n cl)) (N : Nat) (hN : E ≤ cumI P m N - h) :
    bodyV Try.prog tab 0 Try.f12 [.agg [.val (.slice A n q), .val (.bool cl)], .val (.slice B m qm), .val (.int .i64 ph)] [] G fun v hp' G1 => (∃ k E' sz n' xs, v = pairP 0 (.own k) ∧ nthB hp' k = .own E' sz n' xs ∧ (∀ G2 A2, G1.le G2 → FlatM G2 A2 xs → DaR ((dL P m h E N).map (dashP (ptX X n) (ptX Y n) (szI X Y n) (atI X Y n) (tot n cl))) G2 A2 n') ∧ ¬ bigD P m h E) ∨ (v = .tup [.val (.slice none 0 0), .val (.int .i64 2)] ∧ bigD P m h E) := by
  have hok := lineErr_ok he
  have hp1 : ∀ i, i < m → 1 ≤ P i := fun i hi => (hpat i hi).1
  (repeat ((try (conv => whnf)); (first | (with_reducible refine condP_true ?_) | (with_reducible refine condP_false ?_) | (with_reducible refine condP_not ?_) | (with_reducible refine condP_and ?_) | ((with_reducible refine condP_dt ?_ ?_); (· omega)) | ((with_reducible refine condP_df ?_ ?_); (· omega)) | ((with_reducible refine condP_yes ?_ ?_); (· assumption)) | ((with_reducible refine condP_no ?_ ?_); (· assumption)) | ((with_reducible refine ArP_i64 ?_ ?_); (· omega)) | ((with_reducible refine mustP.mk ?_ ?_); (· first | omega | rfl | (dsimp only; omega))) | (with_reducible refine EqP_nil tab_ok ?_) | (with_reducible refine EqP_sli tab_ok ?_) | (with_reducible refine DrawP_auto tab_ok (by kernel_rfl) (by decide +kernel) ?_) | (with_reducible refine DrawP_auto2 tab_ok (by kernel_rfl) (by decide +kernel) ?_) | (with_reducible refine eq43 ?_) | (with_reducible refine eq55 ?_) | (with_reducible refine eq57 ?_) | (with_reducible refine eq93 ?_) | (with_reducible refine eq101 ?_) | (with_reducible refine eq116 ?_) | (with_reducible refine eq119 ?_))))
  conv => whnf
  refine CallP_stand 1 (xs := [.slice A n q, .bool cl]) (fun vs w => by kernel_rfl) rfl rfl rfl fun b G1 hG1 hc1 => ?_
  conv => whnf
  have g := LCheck_gives (c := 1) (one_line hc1 (hp.mono hG1) hq) (by simp [maxLen])
  rw [lineErr_is, he] at g
  refine CallP_gives (fun vs w => by kernel_rfl) (by kernel_rfl) g ?_
  have hcm : ∀ i, i ≤ m → 0 ≤ cumI P m i ∧ cumI P m i ≤ 65535 * i := fun i => by
    induction i with
    | zero => intro _; simp [cumI]
    | succ i ih =>
      intro hi
      have h1 := ih (by omega)
      have h2 := hpat (i % m) (Nat.mod_lt _ (by omega))
      rw [cumI]; omega
  (repeat ((try (conv => whnf)); (first | (with_reducible refine condP_true ?_) | (with_reducible refine condP_false ?_) | (with_reducible refine condP_not ?_) | (with_reducible refine condP_and ?_) | ((with_reducible refine condP_dt ?_ ?_); (· omega)) | ((with_reducible refine condP_df ?_ ?_); (· omega)) | ((with_reducible refine condP_yes ?_ ?_); (· assumption)) | ((with_reducible refine condP_no ?_ ?_); (· assumption)) | ((with_reducible refine ArP_i64 ?_ ?_); (· omega)) | ((with_reducible refine mustP.mk ?_ ?_); (· first | omega | rfl | (dsimp only; omega))) | (with_reducible refine EqP_nil tab_ok ?_) | (with_reducible refine EqP_sli tab_ok ?_) | (with_reducible refine DrawP_auto tab_ok (by kernel_rfl) (by decide +kernel) ?_) | (with_reducible refine DrawP_auto2 tab_ok (by kernel_rfl) (by decide +kernel) ?_) | (with_reducible refine eq43 ?_) | (with_reducible refine eq55 ?_) | (with_reducible refine eq57 ?_) | (with_reducible refine eq93 ?_) | (with_reducible refine eq101 ?_) | (with_reducible refine eq116 ?_) | (with_reducible refine eq119 ?_))))
  conv => whnf
  refine LoopP_at tab_ok (fun i => i ≤ m) (fun (i : Nat) => [(37, .val (.int .i64 i)), (9, .val (.int .i64 (cumI P m i)))]) (fun i => [.cells 34 [.val (.slice A n q), .val (.bool cl)], .gone]) (fun i => m - i) 0 (Nat.zero_le _) ?_ ?_
  · ((refine Le_head ?_); (conv => whnf); (refine Le_mk (by rfl) (by rfl) ?_ ?_); (· (repeat (first | (with_reducible exact frLe_nil) | (with_reducible refine frLe_any ?_) | (with_reducible refine frLe_val ?_) | ((with_reducible refine frLe_eq rfl ?_ ?_); (· rfl)) | ((with_reducible refine frLe_val' (int_eq ?_) ?_ ?_); (· omega); (· rfl)) | ((with_reducible refine frLe_val' (int_eq ?_) ?_ ?_); (· simp only [Int.natCast_add, Int.natCast_one, Int.natCast_ofNat] <;> omega); (· rfl)) | ((with_reducible refine frLe_val' (bool_eq ?_) ?_ ?_); (· first | assumption | (symm; assumption)); (· rfl))))))
    exact hpLe_cells (by (repeat (first | (with_reducible exact frLe_nil) | (with_reducible refine frLe_any ?_) | (with_reducible refine frLe_val ?_) | ((with_reducible refine frLe_eq rfl ?_ ?_); (· rfl)) | ((with_reducible refine frLe_val' (int_eq ?_) ?_ ?_); (· omega); (· rfl)) | ((with_reducible refine frLe_val' (int_eq ?_) ?_ ?_); (· simp only [Int.natCast_add, Int.natCast_one, Int.natCast_ofNat] <;> omega); (· rfl)) | ((with_reducible refine frLe_val' (bool_eq ?_) ?_ ?_); (· first | assumption | (symm; assumption)); (· rfl))))) (hpLe_gone hpLe_nil)
  · rintro i hi
    have hci := hcm i hi
    rcases Nat.lt_or_ge i m with h1 | h1
    · obtain ⟨p, rfl, x0⟩ := (hP.mono hG1).cell (x := i) (j := 0) h1 rfl
      obtain ⟨v1, v2⟩ := hpat i h1
      have hnx : cumI P m (i + 1) = cumI P m i + P i := by rw [cumI, Nat.mod_eq_of_lt h1]
      generalize hw : cumI P m (i + 1) = w at *
      generalize cumI P m i = u at *
      generalize P i = pv at *
      clear hp hP hc1 g hpat hp1 hcm hok
      (repeat ((try (conv => whnf)); (first | (refine OldCells_one _ x0 ?_) | (with_reducible refine condP_true ?_) | (with_reducible refine condP_false ?_) | (with_reducible refine condP_not ?_) | (with_reducible refine condP_and ?_) | ((with_reducible refine condP_dt ?_ ?_); (· omega)) | ((with_reducible refine condP_df ?_ ?_); (· omega)) | ((with_reducible refine condP_yes ?_ ?_); (· assumption)) | ((with_reducible refine condP_no ?_ ?_); (· assumption)) | ((with_reducible refine ArP_i64 ?_ ?_); (· omega)) | ((with_reducible refine mustP.mk ?_ ?_); (· first | omega | rfl | (dsimp only; omega))) | (with_reducible refine EqP_nil tab_ok ?_) | (with_reducible refine EqP_sli tab_ok ?_) | (with_reducible refine DrawP_auto tab_ok (by kernel_rfl) (by decide +kernel) ?_) | (with_reducible refine DrawP_auto2 tab_ok (by kernel_rfl) (by decide +kernel) ?_) | (with_reducible refine eq43 ?_) | (with_reducible refine eq55 ?_) | (with_reducible refine eq57 ?_) | (with_reducible refine eq93 ?_) | (with_reducible refine eq101 ?_) | (with_reducible refine eq116 ?_) | (with_reducible refine eq119 ?_))))
      conv => whnf
      refine ⟨i + 1, by omega, by omega, ?_⟩
      rw [hw]
      ((refine Le_head ?_); (conv => whnf); (refine Le_mk (by rfl) (by rfl) ?_ ?_); (· (repeat (first | (with_reducible exact frLe_nil) | (with_reducible refine frLe_any ?_) | (with_reducible refine frLe_val ?_) | ((with_reducible refine frLe_eq rfl ?_ ?_); (· rfl)) | ((with_reducible refine frLe_val' (int_eq ?_) ?_ ?_); (· omega); (· rfl)) | ((with_reducible refine frLe_val' (int_eq ?_) ?_ ?_); (· simp only [Int.natCast_add, Int.natCast_one, Int.natCast_ofNat] <;> omega); (· rfl)) | ((with_reducible refine frLe_val' (bool_eq ?_) ?_ ?_); (· first | assumption | (symm; assumption)); (· rfl))))))
      exact hpLe_cells (by (repeat (first | (with_reducible exact frLe_nil) | (with_reducible refine frLe_any ?_) | (with_reducible refine frLe_val ?_) | ((with_reducible refine frLe_eq rfl ?_ ?_); (· rfl)) | ((with_reducible refine frLe_val' (int_eq ?_) ?_ ?_); (· omega); (· rfl)) | ((with_reducible refine frLe_val' (int_eq ?_) ?_ ?_); (· simp only [Int.natCast_add, Int.natCast_one, Int.natCast_ofNat] <;> omega); (· rfl)) | ((with_reducible refine frLe_val' (bool_eq ?_) ?_ ?_); (· first | assumption | (symm; assumption)); (· rfl))))) (hpLe_gone hpLe_nil)
    · obtain rfl : i = m := by omega
      have mk := sides_makes (q := q) (cl := cl) (hp.mono hG1) hok (by omega)
      have mk2 := sides_makes (q := q) (cl := cl) (hp.mono hG1) hok (by omega)
      have hsd := sides_of (cl := cl) hok
      have hT := tot_le (n := n) (cl := cl)
      have hE2 := atI_bd hok (tot n cl) hT
      rw [← hE] at hE2
      have hr2 : Int.tmod (i : Int) 2 = ((i % 2 : Nat) : Int) := by rw [Int.tmod_eq_emod_of_nonneg (by omega)]; omega
      have hcm2 := hcm i (Nat.le_refl _)
      have hcm3 := cumI_le hp1 (by omega) (Nat.zero_le i)
      have hcm4 : cumI P i 0 = 0 := rfl
      have hcase : (i % 2 = 1 ∧ turnI P i = cumI P i i * 2) ∨ (i % 2 = 0 ∧ turnI P i = cumI P i i) := by
        unfold turnI
        rcases Nat.mod_two_eq_zero_or_one i with h5 | h5
        · right; rw [if_neg (by omega)]; exact ⟨h5, rfl⟩
        · left; rw [if_pos h5]; exact ⟨h5, rfl⟩
      have hh2 : 0 ≤ h ∧ h ≤ 2097120 := by
        rw [hh, Int.tmod_eq_emod_of_nonneg hph.1]
        have h5 : 0 < turnI P i := by rcases hcase with ⟨_, h5⟩ | ⟨_, h5⟩ <;> rw [h5] <;> omega
        have h6 : turnI P i ≤ 2097120 := by rcases hcase with ⟨_, h6⟩ | ⟨_, h6⟩ <;> rw [h6] <;> omega
        exact ⟨Int.emod_nonneg _ (by omega), by have := Int.emod_lt_of_pos ph h5; omega⟩
      rw [← hE] at mk2
      rcases hcase with ⟨o1, o2⟩ | ⟨o1, o2⟩
      all_goals
        rw [o2] at hh
        generalize hcu : cumI P i i = cu at *
        (repeat ((try (conv => whnf)); (first | (with_reducible refine condP_true ?_) | (with_reducible refine condP_false ?_) | (with_reducible refine condP_not ?_) | (with_reducible refine condP_and ?_) | ((with_reducible refine condP_dt ?_ ?_); (· omega)) | ((with_reducible refine condP_df ?_ ?_); (· omega)) | ((with_reducible refine condP_yes ?_ ?_); (· assumption)) | ((with_reducible refine condP_no ?_ ?_); (· assumption)) | ((with_reducible refine ArP_i64 ?_ ?_); (· omega)) | ((with_reducible refine mustP.mk ?_ ?_); (· first | omega | rfl | (dsimp only; omega))) | (with_reducible refine EqP_nil tab_ok ?_) | (with_reducible refine EqP_sli tab_ok ?_) | (with_reducible refine DrawP_auto tab_ok (by kernel_rfl) (by decide +kernel) ?_) | (with_reducible refine DrawP_auto2 tab_ok (by kernel_rfl) (by decide +kernel) ?_) | (with_reducible refine eq43 ?_) | (with_reducible refine eq55 ?_) | (with_reducible refine eq57 ?_) | (with_reducible refine eq93 ?_) | (with_reducible refine eq101 ?_) | (with_reducible refine eq116 ?_) | (with_reducible refine eq119 ?_))))
        conv => whnf
        refine CallP_freeze (fun vs w => by kernel_rfl) (pairS_wraps _) (by kernel_rfl) mk2 fun A2 c2 G2 hG2 hc2 hm2 hx2 => ?_
        (repeat ((try (conv => whnf)); (first | (with_reducible refine condP_true ?_) | (with_reducible refine condP_false ?_) | (with_reducible refine condP_not ?_) | (with_reducible refine condP_and ?_) | ((with_reducible refine condP_dt ?_ ?_); (· omega)) | ((with_reducible refine condP_df ?_ ?_); (· omega)) | ((with_reducible refine condP_yes ?_ ?_); (· assumption)) | ((with_reducible refine condP_no ?_ ?_); (· assumption)) | ((with_reducible refine ArP_i64 ?_ ?_); (· omega)) | ((with_reducible refine mustP.mk ?_ ?_); (· first | omega | rfl | (dsimp only; omega))) | (with_reducible refine EqP_nil tab_ok ?_) | (with_reducible refine EqP_sli tab_ok ?_) | (with_reducible refine DrawP_auto tab_ok (by kernel_rfl) (by decide +kernel) ?_) | (with_reducible refine DrawP_auto2 tab_ok (by kernel_rfl) (by decide +kernel) ?_) | (with_reducible refine eq43 ?_) | (with_reducible refine eq55 ?_) | (with_reducible refine eq57 ?_) | (with_reducible refine eq93 ?_) | (with_reducible refine eq101 ?_) | (with_reducible refine eq116 ?_) | (with_reducible refine eq119 ?_))))
        conv => whnf
        rw [← hh]
        have hlen := fm_length encS_len (sidesL X Y n (tot n cl))
        rw [sidesL_length] at hlen
        obtain ⟨fA, b2, hf0, hfk, hcell⟩ : ∃ (fA : Nat → Option Addr) (b2 : Nat), fA 0 = A2 ∧ (0 < tot n cl → ∀ k, fA k = some ⟨b2, k * 6, none⟩) ∧ (∀ x, x < tot n cl → ∀ (j : Nat) v, (encS (sideI X Y n x))[j]? = some v → G2.cell? ⟨b2, x * 6 + j, none⟩ = some v) := by
          rcases hx2 with hx2 | ⟨b2, rfl, hx2⟩
          · rw [hx2] at hlen
            have hT0 : tot n cl = 0 := by simp at hlen; omega
            exact ⟨fun _ => A2, 0, rfl, fun h0 => by omega, fun x hx => by omega⟩
          · refine ⟨fun k => some ⟨b2, k * 6, none⟩, b2, by simp, fun _ k => rfl, fun x hx j v hj => hx2 _ _ ?_⟩
            rw [fm_get encS_len _ x j _ (sidesL_get hx) (by have := (List.getElem?_eq_some_iff.1 hj).1; rwa [encS_len] at this)]
            exact hj
        generalize hTn : tot n cl = T at *
        refine LoopP_atG (ι := DSt) tab_ok (DInv P i h E (szI X Y n) (atI X Y n) T G2 (dashP (ptX X n) (ptX Y n) (szI X Y n) (atI X Y n) T)) (fun s => [(16, .val (.int .i64 (cumI P i s.i - h))), (17, .val (.int .i64 s.i)), (15, .own 3)])
          (fun s => [.cells 34 [.val (.slice A n q), .val (.bool cl)], .gone, .cells 70 [.val (.slice (fA s.k) (T - s.k) (c2 - s.k))], .own 34 2 s.R.length (s.R.flatMap RowD.enc)]) (fun s => s.G) (fun s => (E + h).toNat + 1 - s.i) ⟨0, 0, G2, []⟩ ⟨.inl rfl, fun j hj => absurd hj (Nat.not_lt_zero _), Mem.le_refl _, Nat.zero_le _, rfl, fun r hr => absurd hr List.not_mem_nil⟩ ?_ ?_
        · refine Le_own 34 2 ?_
          conv => whnf
          refine Le_head ?_
          conv => whnf
          refine Le_mk (by rfl) (by rfl) ?_ ?_
          · (repeat (first | (with_reducible exact frLe_nil) | (with_reducible refine frLe_any ?_) | (with_reducible refine frLe_val ?_) | ((with_reducible refine frLe_eq rfl ?_ ?_); (· rfl)) | ((with_reducible refine frLe_val' (int_eq ?_) ?_ ?_); (· omega); (· rfl)) | ((with_reducible refine frLe_val' (int_eq ?_) ?_ ?_); (· simp only [Int.natCast_add, Int.natCast_one, Int.natCast_ofNat] <;> omega); (· rfl)) | ((with_reducible refine frLe_val' (bool_eq ?_) ?_ ?_); (· first | assumption | (symm; assumption)); (· rfl))))
          · refine hpLe_cells (by (repeat (first | (with_reducible exact frLe_nil) | (with_reducible refine frLe_any ?_) | (with_reducible refine frLe_val ?_) | ((with_reducible refine frLe_eq rfl ?_ ?_); (· rfl)) | ((with_reducible refine frLe_val' (int_eq ?_) ?_ ?_); (· omega); (· rfl)) | ((with_reducible refine frLe_val' (int_eq ?_) ?_ ?_); (· simp only [Int.natCast_add, Int.natCast_one, Int.natCast_ofNat] <;> omega); (· rfl)) | ((with_reducible refine frLe_val' (bool_eq ?_) ?_ ?_); (· first | assumption | (symm; assumption)); (· rfl))))) (hpLe_gone (hpLe_cells ?_ (hpLe_own rfl rfl hpLe_nil)))
            refine frLe_val' ?_ (by rfl) frLe_nil
            rw [hf0]; rfl
        · intro s hs
          have hci := cumI_le hp1 (by omega) (Nat.zero_le s.i)
          by_cases hlt : cumI P i s.i - h < E
          · have hil : s.i ≤ 2838888 := by omega
            have hmod : (Int.tmod (s.i : Int) (i : Int)) = ((s.i % i : Nat) : Int) := by rw [Int.tmod_eq_emod_of_nonneg (by omega)]; exact (Int.natCast_emod _ _).symm
            have hpar : Int.tmod (s.i : Int) 2 = ((s.i % 2 : Nat) : Int) := by rw [Int.tmod_eq_emod_of_nonneg (by omega)]; omega
            have hmlt : s.i % i < i := Nat.mod_lt _ (by omega)
            obtain ⟨v1, v2⟩ := hpat (s.i % i) hmlt
            obtain ⟨pB, rfl, x0⟩ := (((hP.mono hG1).mono hG2).mono hs.le).cell (x := s.i % i) (j := 0) hmlt rfl
            have x0 : s.G.cell? (Addr.add (Addr.add pB ((Int.tmod (s.i : Int) (i : Int)).toNat * 1)) 0) = some (.int .i64 (P (s.i % i))) := by rw [hmod]; exact x0
            have hnx : cumI P i (s.i + 1) = cumI P i s.i + P (s.i % i) := rfl
            have hmm : 0 ≤ Int.tmod (s.i : Int) (i : Int) ∧ Int.tmod (s.i : Int) (i : Int) < i := by rw [hmod]; omega
            by_cases hd : isD P i h E s.i
            · obtain ⟨hd1, hd2⟩ := hd
              have hd2 : max (cumI P i s.i - h) 0 < min (cumI P i s.i + P (s.i % i) - h) E := hd2
              have hnext := fun (hl : s.R.length ≠ 10000) (k : Nat) (G' : Mem) (r : RowD) => hs.dash (k := k) (G' := G') (r := r) (by omega) hp1 ⟨hd1, hd2⟩ hl
              have hlen := hs.len
              by_cases hnb : s.R.length = 10000
              · have hbig : bigD P i h E := bigD_is (i := s.i) ⟨hd1, hd2⟩ (by have := congrArg List.length hs.rows; rw [List.length_map, List.length_map] at this; omega)
                clear hnext
                obtain ⟨si, sk, sG, sR⟩ := s
                dsimp only at *
                generalize sR.length = rl at *
                generalize cumI P i (si + 1) = w at *
                generalize cumI P i si = u at *
                generalize P (si % i) = pv at *
                generalize si % 2 = par at *
                (repeat ((try (conv => whnf)); (first | (refine OldCells_one _ x0 ?_) | (with_reducible refine condP_true ?_) | (with_reducible refine condP_false ?_) | (with_reducible refine condP_not ?_) | (with_reducible refine condP_and ?_) | ((with_reducible refine condP_dt ?_ ?_); (· omega)) | ((with_reducible refine condP_df ?_ ?_); (· omega)) | ((with_reducible refine condP_yes ?_ ?_); (· assumption)) | ((with_reducible refine condP_no ?_ ?_); (· assumption)) | ((with_reducible refine ArP_i64 ?_ ?_); (· omega)) | ((with_reducible refine mustP.mk ?_ ?_); (· first | omega | rfl | (dsimp only; omega))) | (with_reducible refine EqP_nil tab_ok ?_) | (with_reducible refine EqP_sli tab_ok ?_) | (with_reducible refine DrawP_auto tab_ok (by kernel_rfl) (by decide +kernel) ?_) | (with_reducible refine DrawP_auto2 tab_ok (by kernel_rfl) (by decide +kernel) ?_) | (with_reducible refine eq43 ?_) | (with_reducible refine eq55 ?_) | (with_reducible refine eq57 ?_) | (with_reducible refine eq93 ?_) | (with_reducible refine eq101 ?_) | (with_reducible refine eq116 ?_) | (with_reducible refine eq119 ?_))))
                exact .inr ⟨rfl, hbig⟩
              have ea : (dashI P i h E s.i).1 = max (cumI P i s.i - h) 0 := rfl
              have eb : (dashI P i h E s.i).2 = min (cumI P i s.i - h + P (s.i % i)) E := by show min (cumI P i s.i + P (s.i % i) - h) E = _; omega
              obtain ⟨si, sk, sG, sR⟩ := s
              dsimp only at *
              have hnext := hnext hnb
              have hc3 : ∀ x, x < T → ∀ (j : Nat) v, (encS (sideI X Y n x))[j]? = some v → sG.cell? ⟨b2, x * 6 + j, none⟩ = some v := fun x hx j v hj => hs.le.cell (hcell x hx j v hj)
              have hk1 := hs.k1
              have hk2 := hs.k2
              generalize hw : cumI P i (si + 1) = w at *
              generalize cumI P i si = u at *
              generalize P (si % i) = pv at *
              generalize hpr : si % 2 = par at *
              subst hd1
              have hfa := fiI_is (s := max (u - h) 0) hsd (by omega) (by omega)
              have hfb := fiI_is (s := min (u - h + pv) E) hsd (by omega) (by omega)
              have hfk2 := hfk (by have := hfa.lt; omega)
              have hfab := IsFi.le hfa hfb (by omega)
              (repeat ((try (conv => whnf)); (first | (refine OldCells_one _ x0 ?_) | (with_reducible refine condP_true ?_) | (with_reducible refine condP_false ?_) | (with_reducible refine condP_not ?_) | (with_reducible refine condP_and ?_) | ((with_reducible refine condP_dt ?_ ?_); (· omega)) | ((with_reducible refine condP_df ?_ ?_); (· omega)) | ((with_reducible refine condP_yes ?_ ?_); (· assumption)) | ((with_reducible refine condP_no ?_ ?_); (· assumption)) | ((with_reducible refine ArP_i64 ?_ ?_); (· omega)) | ((with_reducible refine mustP.mk ?_ ?_); (· first | omega | rfl | (dsimp only; omega))) | (with_reducible refine EqP_nil tab_ok ?_) | (with_reducible refine EqP_sli tab_ok ?_) | (with_reducible refine DrawP_auto tab_ok (by kernel_rfl) (by decide +kernel) ?_) | (with_reducible refine DrawP_auto2 tab_ok (by kernel_rfl) (by decide +kernel) ?_) | (with_reducible refine eq43 ?_) | (with_reducible refine eq55 ?_) | (with_reducible refine eq57 ?_) | (with_reducible refine eq93 ?_) | (with_reducible refine eq101 ?_) | (with_reducible refine eq116 ?_) | (with_reducible refine eq119 ?_) | (with_reducible refine CallP_enter tab_ok Try.func33 (fun vs w => by kernel_rfl) (by rfl) ?_) | (with_reducible refine CallP_enter tab_ok Try.func55 (fun vs w => by kernel_rfl) (by rfl) ?_))))
              conv => whnf
              generalize hfa2 : fiI (szI X Y n) (atI X Y n) T (max (u - h) 0) = f at *
              generalize hfb2 : fiI (szI X Y n) (atI X Y n) T (min (u - h + pv) E) = g2 at *
              have hgT := hfb.lt
              have hskf : sk ≤ f := by
                rcases Nat.lt_or_ge f sk with h5 | h5
                · exact absurd ⟨hfa.sz, hfa.up⟩ (hk2 f h5)
                · exact h5
              have hzb : ∀ x, x < T → 0 ≤ szI X Y n x ∧ szI X Y n x ≤ 92681 := fun x hx => szI_bd hok (by omega)
              have htb : ∀ x, x ≤ T → 0 ≤ atI X Y n x ∧ atI X Y n x ≤ 741448 := fun x hx => by have := atI_bd hok x (by omega); omega
              have htn : ∀ x, atI X Y n (x + 1) = atI X Y n x + szI X Y n x := fun x => rfl
              have c6 : ∀ (x y : Nat), x < T → y ≤ x → ∀ K : List Value → Prop, K [.int .i64 (X (pi n x)), .int .i64 (Y (pi n x)), .int .i64 (X (pi n (x + 1))), .int .i64 (Y (pi n (x + 1))), .int .i64 (atI X Y n x), .int .i64 (szI X Y n x)] → OldCells sG (Addr.add ⟨b2, y * 6, none⟩ ((x - y) * 6)) 6 K := fun x y hx hy K hK => OldCells_list _ rfl (fun j v hj => by
                rw [addr_add, addr_add, show y * 6 + (x - y) * 6 + j = x * 6 + j by omega]
                exact hc3 x hx j v hj) hK
              refine LoopP_at tab_ok (fun kk => sk ≤ kk ∧ kk ≤ f) (fun (kk : Nat) => []) (fun kk => [.cells 34 [.val (.slice A n q), .val (.bool cl)], .gone, .cells 70 [.val (.slice (some ⟨b2, kk * 6, none⟩) (T - kk) (c2 - kk))], .own 34 2 sR.length (sR.flatMap RowD.enc)]) (fun kk => f - kk) sk ⟨Nat.le_refl _, hskf⟩ ?_ ?_
              · refine Le_head ?_
                conv => whnf
                refine Le_mk (by rfl) (by rfl) ?_ ?_
                · (repeat (first | (with_reducible exact frLe_nil) | (with_reducible refine frLe_any ?_) | (with_reducible refine frLe_val ?_) | ((with_reducible refine frLe_eq rfl ?_ ?_); (· rfl)) | ((with_reducible refine frLe_val' (int_eq ?_) ?_ ?_); (· omega); (· rfl)) | ((with_reducible refine frLe_val' (int_eq ?_) ?_ ?_); (· simp only [Int.natCast_add, Int.natCast_one, Int.natCast_ofNat] <;> omega); (· rfl)) | ((with_reducible refine frLe_val' (bool_eq ?_) ?_ ?_); (· first | assumption | (symm; assumption)); (· rfl))))
                · refine hpLe_cells (by (repeat (first | (with_reducible exact frLe_nil) | (with_reducible refine frLe_any ?_) | (with_reducible refine frLe_val ?_) | ((with_reducible refine frLe_eq rfl ?_ ?_); (· rfl)) | ((with_reducible refine frLe_val' (int_eq ?_) ?_ ?_); (· omega); (· rfl)) | ((with_reducible refine frLe_val' (int_eq ?_) ?_ ?_); (· simp only [Int.natCast_add, Int.natCast_one, Int.natCast_ofNat] <;> omega); (· rfl)) | ((with_reducible refine frLe_val' (bool_eq ?_) ?_ ?_); (· first | assumption | (symm; assumption)); (· rfl))))) (hpLe_gone (hpLe_cells ?_ (hpLe_own rfl rfl hpLe_nil)))
                  refine frLe_val' ?_ (by rfl) frLe_nil
                  rw [hfk2]
              · rintro kk ⟨kk1, kk2⟩
                have y5 : sG.cell? (Addr.add (Addr.add ⟨b2, kk * 6, none⟩ (0 * 6)) 5) = some (.int .i64 (szI X Y n kk)) := by
                  rw [addr_add, addr_add]; exact hc3 kk (by omega) 5 _ rfl
                have y4 : sG.cell? (Addr.add (Addr.add ⟨b2, kk * 6, none⟩ (0 * 6)) 4) = some (.int .i64 (atI X Y n kk)) := by
                  rw [addr_add, addr_add]; exact hc3 kk (by omega) 4 _ rfl
                have b1 := hzb kk (by omega)
                have b3 := htb kk (by omega)
                have b4 := htb (kk + 1) (by omega)
                have b5 := htn kk
                rcases Nat.lt_or_ge kk f with k3 | k3
                · have hno := hfa.no kk k3
                  generalize atI X Y n (kk + 1) = tk1 at *
                  generalize atI X Y n kk = tk at *
                  generalize szI X Y n kk = zk at *
                  by_cases hz : zk = 0
                  · (repeat ((try (conv => whnf)); (first | (refine OldCells_one _ y5 ?_) | (refine OldCells_one _ y4 ?_) | (with_reducible refine condP_true ?_) | (with_reducible refine condP_false ?_) | (with_reducible refine condP_not ?_) | (with_reducible refine condP_and ?_) | ((with_reducible refine condP_dt ?_ ?_); (· omega)) | ((with_reducible refine condP_df ?_ ?_); (· omega)) | ((with_reducible refine condP_yes ?_ ?_); (· assumption)) | ((with_reducible refine condP_no ?_ ?_); (· assumption)) | ((with_reducible refine ArP_i64 ?_ ?_); (· omega)) | ((with_reducible refine mustP.mk ?_ ?_); (· first | omega | rfl | (dsimp only; omega))) | (with_reducible refine EqP_nil tab_ok ?_) | (with_reducible refine EqP_sli tab_ok ?_) | (with_reducible refine DrawP_auto tab_ok (by kernel_rfl) (by decide +kernel) ?_) | (with_reducible refine DrawP_auto2 tab_ok (by kernel_rfl) (by decide +kernel) ?_) | (with_reducible refine eq43 ?_) | (with_reducible refine eq55 ?_) | (with_reducible refine eq57 ?_) | (with_reducible refine eq93 ?_) | (with_reducible refine eq101 ?_) | (with_reducible refine eq116 ?_) | (with_reducible refine eq119 ?_))))
                    conv => whnf
                    refine ⟨kk + 1, ⟨by omega, by omega⟩, by omega, ?_⟩
                    refine Le_head ?_
                    conv => whnf
                    refine Le_mk (by rfl) (by rfl) ?_ ?_
                    · (repeat (first | (with_reducible exact frLe_nil) | (with_reducible refine frLe_any ?_) | (with_reducible refine frLe_val ?_) | ((with_reducible refine frLe_eq rfl ?_ ?_); (· rfl)) | ((with_reducible refine frLe_val' (int_eq ?_) ?_ ?_); (· omega); (· rfl)) | ((with_reducible refine frLe_val' (int_eq ?_) ?_ ?_); (· simp only [Int.natCast_add, Int.natCast_one, Int.natCast_ofNat] <;> omega); (· rfl)) | ((with_reducible refine frLe_val' (bool_eq ?_) ?_ ?_); (· first | assumption | (symm; assumption)); (· rfl))))
                    · refine hpLe_cells (by (repeat (first | (with_reducible exact frLe_nil) | (with_reducible refine frLe_any ?_) | (with_reducible refine frLe_val ?_) | ((with_reducible refine frLe_eq rfl ?_ ?_); (· rfl)) | ((with_reducible refine frLe_val' (int_eq ?_) ?_ ?_); (· omega); (· rfl)) | ((with_reducible refine frLe_val' (int_eq ?_) ?_ ?_); (· simp only [Int.natCast_add, Int.natCast_one, Int.natCast_ofNat] <;> omega); (· rfl)) | ((with_reducible refine frLe_val' (bool_eq ?_) ?_ ?_); (· first | assumption | (symm; assumption)); (· rfl))))) (hpLe_gone (hpLe_cells ?_ (hpLe_own rfl rfl hpLe_nil)))
                      refine frLe_val' ?_ (by rfl) frLe_nil
                      rw [if_neg (show ¬ c2 - kk = Int.toNat 1 by show ¬ c2 - kk = 1; omega)]
                      show AV.val (Value.slice (some (Addr.add ⟨b2, kk * 6, none⟩ (1 * 6))) (T - kk - 1) (c2 - kk - 1)) = _
                      rw [addr_add, show kk * 6 + 1 * 6 = (kk + 1) * 6 by omega, Nat.sub_sub, Nat.sub_sub]
                  · have hz2 : tk1 < max (u - h) 0 := by
                      rcases Int.lt_or_le tk1 (max (u - h) 0) with h5 | h5
                      · exact h5
                      · exact absurd ⟨by omega, h5⟩ hno
                    (repeat ((try (conv => whnf)); (first | (refine OldCells_one _ y5 ?_) | (refine OldCells_one _ y4 ?_) | (with_reducible refine condP_true ?_) | (with_reducible refine condP_false ?_) | (with_reducible refine condP_not ?_) | (with_reducible refine condP_and ?_) | ((with_reducible refine condP_dt ?_ ?_); (· omega)) | ((with_reducible refine condP_df ?_ ?_); (· omega)) | ((with_reducible refine condP_yes ?_ ?_); (· assumption)) | ((with_reducible refine condP_no ?_ ?_); (· assumption)) | ((with_reducible refine ArP_i64 ?_ ?_); (· omega)) | ((with_reducible refine mustP.mk ?_ ?_); (· first | omega | rfl | (dsimp only; omega))) | (with_reducible refine EqP_nil tab_ok ?_) | (with_reducible refine EqP_sli tab_ok ?_) | (with_reducible refine DrawP_auto tab_ok (by kernel_rfl) (by decide +kernel) ?_) | (with_reducible refine DrawP_auto2 tab_ok (by kernel_rfl) (by decide +kernel) ?_) | (with_reducible refine eq43 ?_) | (with_reducible refine eq55 ?_) | (with_reducible refine eq57 ?_) | (with_reducible refine eq93 ?_) | (with_reducible refine eq101 ?_) | (with_reducible refine eq116 ?_) | (with_reducible refine eq119 ?_))))
                    conv => whnf
                    refine ⟨kk + 1, ⟨by omega, by omega⟩, by omega, ?_⟩
                    refine Le_head ?_
                    conv => whnf
                    refine Le_mk (by rfl) (by rfl) ?_ ?_
                    · (repeat (first | (with_reducible exact frLe_nil) | (with_reducible refine frLe_any ?_) | (with_reducible refine frLe_val ?_) | ((with_reducible refine frLe_eq rfl ?_ ?_); (· rfl)) | ((with_reducible refine frLe_val' (int_eq ?_) ?_ ?_); (· omega); (· rfl)) | ((with_reducible refine frLe_val' (int_eq ?_) ?_ ?_); (· simp only [Int.natCast_add, Int.natCast_one, Int.natCast_ofNat] <;> omega); (· rfl)) | ((with_reducible refine frLe_val' (bool_eq ?_) ?_ ?_); (· first | assumption | (symm; assumption)); (· rfl))))
                    · refine hpLe_cells (by (repeat (first | (with_reducible exact frLe_nil) | (with_reducible refine frLe_any ?_) | (with_reducible refine frLe_val ?_) | ((with_reducible refine frLe_eq rfl ?_ ?_); (· rfl)) | ((with_reducible refine frLe_val' (int_eq ?_) ?_ ?_); (· omega); (· rfl)) | ((with_reducible refine frLe_val' (int_eq ?_) ?_ ?_); (· simp only [Int.natCast_add, Int.natCast_one, Int.natCast_ofNat] <;> omega); (· rfl)) | ((with_reducible refine frLe_val' (bool_eq ?_) ?_ ?_); (· first | assumption | (symm; assumption)); (· rfl))))) (hpLe_gone (hpLe_cells ?_ (hpLe_own rfl rfl hpLe_nil)))
                      refine frLe_val' ?_ (by rfl) frLe_nil
                      rw [if_neg (show ¬ c2 - kk = Int.toNat 1 by show ¬ c2 - kk = 1; omega)]
                      show AV.val (Value.slice (some (Addr.add ⟨b2, kk * 6, none⟩ (1 * 6))) (T - kk - 1) (c2 - kk - 1)) = _
                      rw [addr_add, show kk * 6 + 1 * 6 = (kk + 1) * 6 by omega, Nat.sub_sub, Nat.sub_sub]
                · obtain rfl : kk = f := by omega
                  have f1 := hfa.sz
                  have f2 := hfa.up
                  have f3 := IsFi.low hsd hfa (by omega) kk (Nat.le_refl _)
                  obtain ⟨C1, C2⟩ := Co_of hok (show kk ≤ n by omega) (by omega)
                  obtain ⟨C3, C4⟩ := Co_of hok (show kk + 1 ≤ n by omega) (by omega)
                  have gp1 := point_gives (G := sG) (s := max (u - h) 0) (a := atI X Y n kk) (z := szI X Y n kk) C1 C2 C3 C4 b3.1 ⟨f3, by omega⟩ ⟨by omega, by omega⟩
                  have cx := c6 kk kk (by omega) (Nat.le_refl _)
                  rw [Nat.sub_self] at cx
                  (repeat ((try (conv => whnf)); (first | (refine OldCells_one _ y5 ?_) | (refine OldCells_one _ y4 ?_) | (refine cx _ ?_) | (with_reducible refine condP_true ?_) | (with_reducible refine condP_false ?_) | (with_reducible refine condP_not ?_) | (with_reducible refine condP_and ?_) | ((with_reducible refine condP_dt ?_ ?_); (· omega)) | ((with_reducible refine condP_df ?_ ?_); (· omega)) | ((with_reducible refine condP_yes ?_ ?_); (· assumption)) | ((with_reducible refine condP_no ?_ ?_); (· assumption)) | ((with_reducible refine ArP_i64 ?_ ?_); (· omega)) | ((with_reducible refine mustP.mk ?_ ?_); (· first | omega | rfl | (dsimp only; omega))) | (with_reducible refine EqP_nil tab_ok ?_) | (with_reducible refine EqP_sli tab_ok ?_) | (with_reducible refine DrawP_auto tab_ok (by kernel_rfl) (by decide +kernel) ?_) | (with_reducible refine DrawP_auto2 tab_ok (by kernel_rfl) (by decide +kernel) ?_) | (with_reducible refine eq43 ?_) | (with_reducible refine eq55 ?_) | (with_reducible refine eq57 ?_) | (with_reducible refine eq93 ?_) | (with_reducible refine eq101 ?_) | (with_reducible refine eq116 ?_) | (with_reducible refine eq119 ?_) | (with_reducible refine CallP_gives (fun vs w => by kernel_rfl) (by kernel_rfl) (gp1) ?_) | (with_reducible refine RCallP_gives (fun vs w => by kernel_rfl) (by kernel_rfl) (gp1) ?_))))
                  conv => whnf
                  have pa : posD (ptX X n) (ptX Y n) (szI X Y n) (atI X Y n) T (max (u - h) 0) = (onI (X (pi n kk)) (X (pi n (kk + 1))) (max (u - h) 0 - atI X Y n kk) (szI X Y n kk), onI (Y (pi n kk)) (Y (pi n (kk + 1))) (max (u - h) 0 - atI X Y n kk) (szI X Y n kk)) := by unfold posD; rw [hfa2]
                  generalize onI (X (pi n kk)) (X (pi n (kk + 1))) (max (u - h) 0 - atI X Y n kk) (szI X Y n kk) = ax at *
                  generalize onI (Y (pi n kk)) (Y (pi n (kk + 1))) (max (u - h) 0 - atI X Y n kk) (szI X Y n kk) = ay at *
                  generalize hml : midL (atI X Y n) (fun i => (X (pi n i), Y (pi n i))) (max (u - h) 0) (min (u - h + pv) E) = mid at *
                  have hmn : ∀ x, mid (x + 1) = mid x ++ (if max (u - h) 0 < atI X Y n (x + 1) ∧ atI X Y n (x + 1) < min (u - h + pv) E then [(X (pi n (x + 1)), Y (pi n (x + 1)))] else []) := fun x => by rw [← hml]; rfl
                  have hm0 : mid kk = [] := by rw [← hml]; exact midL_low hsd hfa (by omega) kk (Nat.le_refl _)
                  have hmT : mid T = mid g2 := by rw [← hml]; exact midL_all hsd hfb
                  have hmlen : ∀ x, (mid x).length ≤ x := fun x => by rw [← hml]; exact midL_len x
                  refine LoopP_at tab_ok (fun j => kk + j ≤ g2) (fun (j : Nat) => [(28, .val (.int .i64 j)), (7, .own 5), (22, .any)]) (fun j => [.cells 34 [.val (.slice A n q), .val (.bool cl)], .gone, .cells 70 [.val (.slice (some ⟨b2, kk * 6, none⟩) (T - kk) (c2 - kk))], .own 34 2 sR.length (sR.flatMap RowD.enc), .gone, .own 55 2 (1 + (mid (kk + j)).length) (flatP ((ax, ay) :: mid (kk + j)))]) (fun j => g2 - j) 0 (by omega) ?_ ?_
                  · refine Le_head ?_
                    conv => whnf
                    refine Le_litF 4 2 1 rfl (by omega) ?_ (by rfl)
                    conv => whnf
                    refine mustP.mk (by unfold maxLen; omega) ?_
                    conv => whnf
                    refine Le_mk (by rfl) (by rfl) ?_ ?_
                    · (repeat (first | (with_reducible exact frLe_nil) | (with_reducible refine frLe_any ?_) | (with_reducible refine frLe_val ?_) | ((with_reducible refine frLe_eq rfl ?_ ?_); (· rfl)) | ((with_reducible refine frLe_val' (int_eq ?_) ?_ ?_); (· omega); (· rfl)) | ((with_reducible refine frLe_val' (int_eq ?_) ?_ ?_); (· simp only [Int.natCast_add, Int.natCast_one, Int.natCast_ofNat] <;> omega); (· rfl)) | ((with_reducible refine frLe_val' (bool_eq ?_) ?_ ?_); (· first | assumption | (symm; assumption)); (· rfl))))
                    · refine hpLe_cells (by (repeat (first | (with_reducible exact frLe_nil) | (with_reducible refine frLe_any ?_) | (with_reducible refine frLe_val ?_) | ((with_reducible refine frLe_eq rfl ?_ ?_); (· rfl)) | ((with_reducible refine frLe_val' (int_eq ?_) ?_ ?_); (· omega); (· rfl)) | ((with_reducible refine frLe_val' (int_eq ?_) ?_ ?_); (· simp only [Int.natCast_add, Int.natCast_one, Int.natCast_ofNat] <;> omega); (· rfl)) | ((with_reducible refine frLe_val' (bool_eq ?_) ?_ ?_); (· first | assumption | (symm; assumption)); (· rfl))))) (hpLe_gone (hpLe_cells (by (repeat (first | (with_reducible exact frLe_nil) | (with_reducible refine frLe_any ?_) | (with_reducible refine frLe_val ?_) | ((with_reducible refine frLe_eq rfl ?_ ?_); (· rfl)) | ((with_reducible refine frLe_val' (int_eq ?_) ?_ ?_); (· omega); (· rfl)) | ((with_reducible refine frLe_val' (int_eq ?_) ?_ ?_); (· simp only [Int.natCast_add, Int.natCast_one, Int.natCast_ofNat] <;> omega); (· rfl)) | ((with_reducible refine frLe_val' (bool_eq ?_) ?_ ?_); (· first | assumption | (symm; assumption)); (· rfl))))) (hpLe_own rfl rfl (hpLe_gone (hpLe_own ?_ ?_ hpLe_nil)))))
                      · rw [Nat.add_zero, hm0]; rfl
                      · rw [Nat.add_zero, hm0]; rfl
                  · intro j hj
                    have cs := c6 (kk + j) kk (by omega) (by omega)
                    rw [show kk + j - kk = j by omega] at cs
                    have z1 := hzb (kk + j) (by omega)
                    have t1 := htb (kk + j) (by omega)
                    have t2 := htb (kk + j + 1) (by omega)
                    have tn := htn (kk + j)
                    have ml := hmlen (kk + j)
                    have mn := hmn (kk + j)
                    have low := IsFi.low hsd hfb (by omega) (kk + j) hj
                    rcases Nat.lt_or_ge (kk + j) g2 with j1 | j1
                    · have hno := hfb.no (kk + j) j1
                      generalize atI X Y n (kk + j + 1) = u1 at *
                      generalize atI X Y n (kk + j) = tj at *
                      generalize szI X Y n (kk + j) = zj at *
                      generalize X (pi n (kk + j + 1)) = px at *
                      generalize Y (pi n (kk + j + 1)) = py at *
                      by_cases hin : max (u - h) 0 < u1 ∧ u1 < min (u - h + pv) E
                      · rw [if_pos hin] at mn
                        obtain ⟨hin1, hin2⟩ := hin
                        by_cases hz : 0 < zj
                        all_goals
                          clear hno
                          (repeat ((try (conv => whnf)); (first | (refine cs _ ?_) | (with_reducible refine condP_true ?_) | (with_reducible refine condP_false ?_) | (with_reducible refine condP_not ?_) | (with_reducible refine condP_and ?_) | ((with_reducible refine condP_dt ?_ ?_); (· omega)) | ((with_reducible refine condP_df ?_ ?_); (· omega)) | ((with_reducible refine condP_yes ?_ ?_); (· assumption)) | ((with_reducible refine condP_no ?_ ?_); (· assumption)) | ((with_reducible refine ArP_i64 ?_ ?_); (· omega)) | ((with_reducible refine mustP.mk ?_ ?_); (· first | omega | rfl | (dsimp only; omega))) | (with_reducible refine EqP_nil tab_ok ?_) | (with_reducible refine EqP_sli tab_ok ?_) | (with_reducible refine DrawP_auto tab_ok (by kernel_rfl) (by decide +kernel) ?_) | (with_reducible refine DrawP_auto2 tab_ok (by kernel_rfl) (by decide +kernel) ?_) | (with_reducible refine eq43 ?_) | (with_reducible refine eq55 ?_) | (with_reducible refine eq57 ?_) | (with_reducible refine eq93 ?_) | (with_reducible refine eq101 ?_) | (with_reducible refine eq116 ?_) | (with_reducible refine eq119 ?_))))
                          conv => whnf
                          refine ⟨j + 1, by omega, by omega, ?_⟩
                          refine Le_move 8 5 rfl rfl rfl rfl ?_
                          conv => whnf
                          refine Le_head ?_
                          conv => whnf
                          refine Le_mk (by rfl) (by rfl) ?_ ?_
                          · (repeat (first | (with_reducible exact frLe_nil) | (with_reducible refine frLe_any ?_) | (with_reducible refine frLe_val ?_) | ((with_reducible refine frLe_eq rfl ?_ ?_); (· rfl)) | ((with_reducible refine frLe_val' (int_eq ?_) ?_ ?_); (· omega); (· rfl)) | ((with_reducible refine frLe_val' (int_eq ?_) ?_ ?_); (· simp only [Int.natCast_add, Int.natCast_one, Int.natCast_ofNat] <;> omega); (· rfl)) | ((with_reducible refine frLe_val' (bool_eq ?_) ?_ ?_); (· first | assumption | (symm; assumption)); (· rfl))))
                          · refine hpLe_cells (by (repeat (first | (with_reducible exact frLe_nil) | (with_reducible refine frLe_any ?_) | (with_reducible refine frLe_val ?_) | ((with_reducible refine frLe_eq rfl ?_ ?_); (· rfl)) | ((with_reducible refine frLe_val' (int_eq ?_) ?_ ?_); (· omega); (· rfl)) | ((with_reducible refine frLe_val' (int_eq ?_) ?_ ?_); (· simp only [Int.natCast_add, Int.natCast_one, Int.natCast_ofNat] <;> omega); (· rfl)) | ((with_reducible refine frLe_val' (bool_eq ?_) ?_ ?_); (· first | assumption | (symm; assumption)); (· rfl))))) (hpLe_gone (hpLe_cells (by (repeat (first | (with_reducible exact frLe_nil) | (with_reducible refine frLe_any ?_) | (with_reducible refine frLe_val ?_) | ((with_reducible refine frLe_eq rfl ?_ ?_); (· rfl)) | ((with_reducible refine frLe_val' (int_eq ?_) ?_ ?_); (· omega); (· rfl)) | ((with_reducible refine frLe_val' (int_eq ?_) ?_ ?_); (· simp only [Int.natCast_add, Int.natCast_one, Int.natCast_ofNat] <;> omega); (· rfl)) | ((with_reducible refine frLe_val' (bool_eq ?_) ?_ ?_); (· first | assumption | (symm; assumption)); (· rfl))))) (hpLe_own rfl rfl (hpLe_gone (hpLe_own ?_ ?_ hpLe_nil)))))
                            · rw [show kk + (j + 1) = kk + j + 1 by omega, mn, List.length_append]; simp; omega
                            · rw [show kk + (j + 1) = kk + j + 1 by omega, mn]; simp [flatP]
                      · rw [if_neg hin, List.append_nil] at mn
                        have hsk : (0 < zj ∧ ¬ max (u - h) 0 < u1 ∧ u1 < min (u - h + pv) E) ∨ (¬ 0 < zj ∧ ¬ max (u - h) 0 < u1) ∨ (¬ 0 < zj ∧ max (u - h) 0 < u1 ∧ ¬ u1 < min (u - h + pv) E) := by
                          by_cases hz : 0 < zj
                          · have h5 : u1 < min (u - h + pv) E := by
                              rcases Int.lt_or_le u1 (min (u - h + pv) E) with h5 | h5
                              · exact h5
                              · exact absurd ⟨hz, h5⟩ hno
                            exact .inl ⟨hz, fun h6 => hin ⟨h6, h5⟩, h5⟩
                          · by_cases h6 : max (u - h) 0 < u1
                            · exact .inr (.inr ⟨hz, h6, fun h7 => hin ⟨h6, h7⟩⟩)
                            · exact .inr (.inl ⟨hz, h6⟩)
                        clear hno hin
                        rcases hsk with ⟨hz, h5, h6⟩ | ⟨hz, h5⟩ | ⟨hz, h5, h6⟩
                        all_goals
                          (repeat ((try (conv => whnf)); (first | (refine cs _ ?_) | (with_reducible refine condP_true ?_) | (with_reducible refine condP_false ?_) | (with_reducible refine condP_not ?_) | (with_reducible refine condP_and ?_) | ((with_reducible refine condP_dt ?_ ?_); (· omega)) | ((with_reducible refine condP_df ?_ ?_); (· omega)) | ((with_reducible refine condP_yes ?_ ?_); (· assumption)) | ((with_reducible refine condP_no ?_ ?_); (· assumption)) | ((with_reducible refine ArP_i64 ?_ ?_); (· omega)) | ((with_reducible refine mustP.mk ?_ ?_); (· first | omega | rfl | (dsimp only; omega))) | (with_reducible refine EqP_nil tab_ok ?_) | (with_reducible refine EqP_sli tab_ok ?_) | (with_reducible refine DrawP_auto tab_ok (by kernel_rfl) (by decide +kernel) ?_) | (with_reducible refine DrawP_auto2 tab_ok (by kernel_rfl) (by decide +kernel) ?_) | (with_reducible refine eq43 ?_) | (with_reducible refine eq55 ?_) | (with_reducible refine eq57 ?_) | (with_reducible refine eq93 ?_) | (with_reducible refine eq101 ?_) | (with_reducible refine eq116 ?_) | (with_reducible refine eq119 ?_))))
                          conv => whnf
                          refine ⟨j + 1, by omega, by omega, ?_⟩
                          refine Le_head ?_
                          conv => whnf
                          refine Le_mk (by rfl) (by rfl) ?_ ?_
                          · (repeat (first | (with_reducible exact frLe_nil) | (with_reducible refine frLe_any ?_) | (with_reducible refine frLe_val ?_) | ((with_reducible refine frLe_eq rfl ?_ ?_); (· rfl)) | ((with_reducible refine frLe_val' (int_eq ?_) ?_ ?_); (· omega); (· rfl)) | ((with_reducible refine frLe_val' (int_eq ?_) ?_ ?_); (· simp only [Int.natCast_add, Int.natCast_one, Int.natCast_ofNat] <;> omega); (· rfl)) | ((with_reducible refine frLe_val' (bool_eq ?_) ?_ ?_); (· first | assumption | (symm; assumption)); (· rfl))))
                          · refine hpLe_cells (by (repeat (first | (with_reducible exact frLe_nil) | (with_reducible refine frLe_any ?_) | (with_reducible refine frLe_val ?_) | ((with_reducible refine frLe_eq rfl ?_ ?_); (· rfl)) | ((with_reducible refine frLe_val' (int_eq ?_) ?_ ?_); (· omega); (· rfl)) | ((with_reducible refine frLe_val' (int_eq ?_) ?_ ?_); (· simp only [Int.natCast_add, Int.natCast_one, Int.natCast_ofNat] <;> omega); (· rfl)) | ((with_reducible refine frLe_val' (bool_eq ?_) ?_ ?_); (· first | assumption | (symm; assumption)); (· rfl))))) (hpLe_gone (hpLe_cells (by (repeat (first | (with_reducible exact frLe_nil) | (with_reducible refine frLe_any ?_) | (with_reducible refine frLe_val ?_) | ((with_reducible refine frLe_eq rfl ?_ ?_); (· rfl)) | ((with_reducible refine frLe_val' (int_eq ?_) ?_ ?_); (· omega); (· rfl)) | ((with_reducible refine frLe_val' (int_eq ?_) ?_ ?_); (· simp only [Int.natCast_add, Int.natCast_one, Int.natCast_ofNat] <;> omega); (· rfl)) | ((with_reducible refine frLe_val' (bool_eq ?_) ?_ ?_); (· first | assumption | (symm; assumption)); (· rfl))))) (hpLe_own rfl rfl (hpLe_gone (hpLe_own ?_ ?_ hpLe_nil)))))
                            · rw [show kk + (j + 1) = kk + j + 1 by omega, mn]
                            · rw [show kk + (j + 1) = kk + j + 1 by omega, mn]
                    · obtain rfl : g2 = kk + j := by omega
                      have f4 := hfb.sz
                      have f5 := hfb.up
                      obtain ⟨D1, D2⟩ := Co_of hok (show kk + j ≤ n by omega) (by omega)
                      obtain ⟨D3, D4⟩ := Co_of hok (show kk + j + 1 ≤ n by omega) (by omega)
                      have gp2 := point_gives (G := sG) (s := min (u - h + pv) E) (a := atI X Y n (kk + j)) (z := szI X Y n (kk + j)) D1 D2 D3 D4 t1.1 ⟨low, by omega⟩ ⟨by omega, by omega⟩
                      have pb : posD (ptX X n) (ptX Y n) (szI X Y n) (atI X Y n) T (min (u - h + pv) E) = (onI (X (pi n (kk + j))) (X (pi n (kk + j + 1))) (min (u - h + pv) E - atI X Y n (kk + j)) (szI X Y n (kk + j)), onI (Y (pi n (kk + j))) (Y (pi n (kk + j + 1))) (min (u - h + pv) E - atI X Y n (kk + j)) (szI X Y n (kk + j))) := by unfold posD; rw [hfb2]
                      generalize onI (X (pi n (kk + j))) (X (pi n (kk + j + 1))) (min (u - h + pv) E - atI X Y n (kk + j)) (szI X Y n (kk + j)) = bx at *
                      generalize onI (Y (pi n (kk + j))) (Y (pi n (kk + j + 1))) (min (u - h + pv) E - atI X Y n (kk + j)) (szI X Y n (kk + j)) = by_ at *
                      have epts : dashP (ptX X n) (ptX Y n) (szI X Y n) (atI X Y n) T (dashI P i h E si) = (ax, ay) :: mid (kk + j) ++ [(bx, by_)] := by
                        unfold dashP
                        rw [ea, eb, pa, pb, ← hmT, ← hml]
                      have efl : flatP ((ax, ay) :: mid (kk + j)) ++ [.int .i64 bx, .int .i64 by_] = flatP ((ax, ay) :: mid (kk + j) ++ [(bx, by_)]) := by simp [flatP]
                      have eln : 1 + (mid (kk + j)).length + 1 = ((ax, ay) :: mid (kk + j) ++ [(bx, by_)]).length := by simp; omega
                      generalize hpts : (ax, ay) :: mid (kk + j) ++ [(bx, by_)] = pts at *
                      generalize hmm1 : (mid (kk + j)).length = ml0 at *
                      generalize flatP ((ax, ay) :: mid (kk + j)) = row0 at *
                      (repeat ((try (conv => whnf)); (first | (refine cs _ ?_) | (with_reducible refine condP_true ?_) | (with_reducible refine condP_false ?_) | (with_reducible refine condP_not ?_) | (with_reducible refine condP_and ?_) | ((with_reducible refine condP_dt ?_ ?_); (· omega)) | ((with_reducible refine condP_df ?_ ?_); (· omega)) | ((with_reducible refine condP_yes ?_ ?_); (· assumption)) | ((with_reducible refine condP_no ?_ ?_); (· assumption)) | ((with_reducible refine ArP_i64 ?_ ?_); (· omega)) | ((with_reducible refine mustP.mk ?_ ?_); (· first | omega | rfl | (dsimp only; omega))) | (with_reducible refine EqP_nil tab_ok ?_) | (with_reducible refine EqP_sli tab_ok ?_) | (with_reducible refine DrawP_auto tab_ok (by kernel_rfl) (by decide +kernel) ?_) | (with_reducible refine DrawP_auto2 tab_ok (by kernel_rfl) (by decide +kernel) ?_) | (with_reducible refine eq43 ?_) | (with_reducible refine eq55 ?_) | (with_reducible refine eq57 ?_) | (with_reducible refine eq93 ?_) | (with_reducible refine eq101 ?_) | (with_reducible refine eq116 ?_) | (with_reducible refine eq119 ?_) | (with_reducible refine CallP_gives (fun vs w => by kernel_rfl) (by kernel_rfl) (gp2) ?_) | (with_reducible refine RCallP_gives (fun vs w => by kernel_rfl) (by kernel_rfl) (gp2) ?_))))
                      conv => whnf
                      refine OpP_freeze tab_ok 9 8 rfl rfl rfl rfl rfl rfl fun A3 c3 G3 w1 w2 w3 w4 => ?_
                      (repeat ((try (conv => whnf)); (first | (with_reducible refine condP_true ?_) | (with_reducible refine condP_false ?_) | (with_reducible refine condP_not ?_) | (with_reducible refine condP_and ?_) | ((with_reducible refine condP_dt ?_ ?_); (· omega)) | ((with_reducible refine condP_df ?_ ?_); (· omega)) | ((with_reducible refine condP_yes ?_ ?_); (· assumption)) | ((with_reducible refine condP_no ?_ ?_); (· assumption)) | ((with_reducible refine ArP_i64 ?_ ?_); (· omega)) | ((with_reducible refine mustP.mk ?_ ?_); (· first | omega | rfl | (dsimp only; omega))) | (with_reducible refine EqP_nil tab_ok ?_) | (with_reducible refine EqP_sli tab_ok ?_) | (with_reducible refine DrawP_auto tab_ok (by kernel_rfl) (by decide +kernel) ?_) | (with_reducible refine DrawP_auto2 tab_ok (by kernel_rfl) (by decide +kernel) ?_) | (with_reducible refine eq43 ?_) | (with_reducible refine eq55 ?_) | (with_reducible refine eq57 ?_) | (with_reducible refine eq93 ?_) | (with_reducible refine eq101 ?_) | (with_reducible refine eq116 ?_) | (with_reducible refine eq119 ?_))))
                      conv => whnf
                      rw [efl] at w4
                      refine ⟨⟨si + 1, kk, G3, sR ++ [⟨A3, c3, pts⟩]⟩, hnext kk G3 ⟨A3, c3, pts⟩ hfa w1 epts.symm (PtsM_flatD w4), by show _ - (si + 1) < _; omega, ?_⟩
                      rw [show cumI P i (DSt.i ⟨si + 1, kk, G3, sR ++ [⟨A3, c3, pts⟩]⟩) = w from hw]
                      refine Le_move 10 3 rfl rfl rfl rfl ?_
                      conv => whnf
                      refine Le_head ?_
                      conv => whnf
                      refine Le_mk (by rfl) (by rfl) ?_ ?_
                      · (repeat (first | (with_reducible exact frLe_nil) | (with_reducible refine frLe_any ?_) | (with_reducible refine frLe_val ?_) | ((with_reducible refine frLe_eq rfl ?_ ?_); (· rfl)) | ((with_reducible refine frLe_val' (int_eq ?_) ?_ ?_); (· omega); (· rfl)) | ((with_reducible refine frLe_val' (int_eq ?_) ?_ ?_); (· simp only [Int.natCast_add, Int.natCast_one, Int.natCast_ofNat] <;> omega); (· rfl)) | ((with_reducible refine frLe_val' (bool_eq ?_) ?_ ?_); (· first | assumption | (symm; assumption)); (· rfl))))
                      · refine hpLe_cells (by (repeat (first | (with_reducible exact frLe_nil) | (with_reducible refine frLe_any ?_) | (with_reducible refine frLe_val ?_) | ((with_reducible refine frLe_eq rfl ?_ ?_); (· rfl)) | ((with_reducible refine frLe_val' (int_eq ?_) ?_ ?_); (· omega); (· rfl)) | ((with_reducible refine frLe_val' (int_eq ?_) ?_ ?_); (· simp only [Int.natCast_add, Int.natCast_one, Int.natCast_ofNat] <;> omega); (· rfl)) | ((with_reducible refine frLe_val' (bool_eq ?_) ?_ ?_); (· first | assumption | (symm; assumption)); (· rfl))))) (hpLe_gone (hpLe_cells ?_ (hpLe_own ?_ ?_ hpLe_nil)))
                        · refine frLe_val' ?_ (by rfl) frLe_nil
                          rw [hfk2]
                        · show _ = (sR ++ [_]).length
                          rw [List.length_append]; rfl
                        · show _ = (sR ++ [_]).flatMap RowD.enc
                          rw [List.flatMap_append, eln]; rfl
            · have hnext := hs.skip (by omega) hp1 hd
              have hd2 : ¬ (s.i % 2 = 0 ∧ max (cumI P i s.i - h) 0 < min (cumI P i s.i + P (s.i % i) - h) E) := hd
              obtain ⟨si, sk, sG, sR⟩ := s
              dsimp only at *
              generalize hw : cumI P i (si + 1) = w at *
              generalize cumI P i si = u at *
              generalize P (si % i) = pv at *
              generalize si % 2 = par at *
              by_cases hp2 : par = 0
              · have hd3 : ¬ max (u - h) 0 < min (u + pv - h) E := fun h5 => hd2 ⟨hp2, h5⟩
                (repeat ((try (conv => whnf)); (first | (refine OldCells_one _ x0 ?_) | (with_reducible refine condP_true ?_) | (with_reducible refine condP_false ?_) | (with_reducible refine condP_not ?_) | (with_reducible refine condP_and ?_) | ((with_reducible refine condP_dt ?_ ?_); (· omega)) | ((with_reducible refine condP_df ?_ ?_); (· omega)) | ((with_reducible refine condP_yes ?_ ?_); (· assumption)) | ((with_reducible refine condP_no ?_ ?_); (· assumption)) | ((with_reducible refine ArP_i64 ?_ ?_); (· omega)) | ((with_reducible refine mustP.mk ?_ ?_); (· first | omega | rfl | (dsimp only; omega))) | (with_reducible refine EqP_nil tab_ok ?_) | (with_reducible refine EqP_sli tab_ok ?_) | (with_reducible refine DrawP_auto tab_ok (by kernel_rfl) (by decide +kernel) ?_) | (with_reducible refine DrawP_auto2 tab_ok (by kernel_rfl) (by decide +kernel) ?_) | (with_reducible refine eq43 ?_) | (with_reducible refine eq55 ?_) | (with_reducible refine eq57 ?_) | (with_reducible refine eq93 ?_) | (with_reducible refine eq101 ?_) | (with_reducible refine eq116 ?_) | (with_reducible refine eq119 ?_))))
                conv => whnf
                refine ⟨⟨si + 1, sk, sG, sR⟩, hnext, by show _ - (si + 1) < _; omega, ?_⟩
                rw [show cumI P i (DSt.i ⟨si + 1, sk, sG, sR⟩) = w from hw]
                ((refine Le_head ?_); (conv => whnf); (refine Le_mk (by rfl) (by rfl) ?_ ?_); (· (repeat (first | (with_reducible exact frLe_nil) | (with_reducible refine frLe_any ?_) | (with_reducible refine frLe_val ?_) | ((with_reducible refine frLe_eq rfl ?_ ?_); (· rfl)) | ((with_reducible refine frLe_val' (int_eq ?_) ?_ ?_); (· omega); (· rfl)) | ((with_reducible refine frLe_val' (int_eq ?_) ?_ ?_); (· simp only [Int.natCast_add, Int.natCast_one, Int.natCast_ofNat] <;> omega); (· rfl)) | ((with_reducible refine frLe_val' (bool_eq ?_) ?_ ?_); (· first | assumption | (symm; assumption)); (· rfl))))))
                exact hpLe_cells (by (repeat (first | (with_reducible exact frLe_nil) | (with_reducible refine frLe_any ?_) | (with_reducible refine frLe_val ?_) | ((with_reducible refine frLe_eq rfl ?_ ?_); (· rfl)) | ((with_reducible refine frLe_val' (int_eq ?_) ?_ ?_); (· omega); (· rfl)) | ((with_reducible refine frLe_val' (int_eq ?_) ?_ ?_); (· simp only [Int.natCast_add, Int.natCast_one, Int.natCast_ofNat] <;> omega); (· rfl)) | ((with_reducible refine frLe_val' (bool_eq ?_) ?_ ?_); (· first | assumption | (symm; assumption)); (· rfl))))) (hpLe_gone (hpLe_cells (by (repeat (first | (with_reducible exact frLe_nil) | (with_reducible refine frLe_any ?_) | (with_reducible refine frLe_val ?_) | ((with_reducible refine frLe_eq rfl ?_ ?_); (· rfl)) | ((with_reducible refine frLe_val' (int_eq ?_) ?_ ?_); (· omega); (· rfl)) | ((with_reducible refine frLe_val' (int_eq ?_) ?_ ?_); (· simp only [Int.natCast_add, Int.natCast_one, Int.natCast_ofNat] <;> omega); (· rfl)) | ((with_reducible refine frLe_val' (bool_eq ?_) ?_ ?_); (· first | assumption | (symm; assumption)); (· rfl))))) (hpLe_own rfl rfl hpLe_nil)))
              · (repeat ((try (conv => whnf)); (first | (refine OldCells_one _ x0 ?_) | (with_reducible refine condP_true ?_) | (with_reducible refine condP_false ?_) | (with_reducible refine condP_not ?_) | (with_reducible refine condP_and ?_) | ((with_reducible refine condP_dt ?_ ?_); (· omega)) | ((with_reducible refine condP_df ?_ ?_); (· omega)) | ((with_reducible refine condP_yes ?_ ?_); (· assumption)) | ((with_reducible refine condP_no ?_ ?_); (· assumption)) | ((with_reducible refine ArP_i64 ?_ ?_); (· omega)) | ((with_reducible refine mustP.mk ?_ ?_); (· first | omega | rfl | (dsimp only; omega))) | (with_reducible refine EqP_nil tab_ok ?_) | (with_reducible refine EqP_sli tab_ok ?_) | (with_reducible refine DrawP_auto tab_ok (by kernel_rfl) (by decide +kernel) ?_) | (with_reducible refine DrawP_auto2 tab_ok (by kernel_rfl) (by decide +kernel) ?_) | (with_reducible refine eq43 ?_) | (with_reducible refine eq55 ?_) | (with_reducible refine eq57 ?_) | (with_reducible refine eq93 ?_) | (with_reducible refine eq101 ?_) | (with_reducible refine eq116 ?_) | (with_reducible refine eq119 ?_))))
                conv => whnf
                refine ⟨⟨si + 1, sk, sG, sR⟩, hnext, by show _ - (si + 1) < _; omega, ?_⟩
                rw [show cumI P i (DSt.i ⟨si + 1, sk, sG, sR⟩) = w from hw]
                ((refine Le_head ?_); (conv => whnf); (refine Le_mk (by rfl) (by rfl) ?_ ?_); (· (repeat (first | (with_reducible exact frLe_nil) | (with_reducible refine frLe_any ?_) | (with_reducible refine frLe_val ?_) | ((with_reducible refine frLe_eq rfl ?_ ?_); (· rfl)) | ((with_reducible refine frLe_val' (int_eq ?_) ?_ ?_); (· omega); (· rfl)) | ((with_reducible refine frLe_val' (int_eq ?_) ?_ ?_); (· simp only [Int.natCast_add, Int.natCast_one, Int.natCast_ofNat] <;> omega); (· rfl)) | ((with_reducible refine frLe_val' (bool_eq ?_) ?_ ?_); (· first | assumption | (symm; assumption)); (· rfl))))))
                exact hpLe_cells (by (repeat (first | (with_reducible exact frLe_nil) | (with_reducible refine frLe_any ?_) | (with_reducible refine frLe_val ?_) | ((with_reducible refine frLe_eq rfl ?_ ?_); (· rfl)) | ((with_reducible refine frLe_val' (int_eq ?_) ?_ ?_); (· omega); (· rfl)) | ((with_reducible refine frLe_val' (int_eq ?_) ?_ ?_); (· simp only [Int.natCast_add, Int.natCast_one, Int.natCast_ofNat] <;> omega); (· rfl)) | ((with_reducible refine frLe_val' (bool_eq ?_) ?_ ?_); (· first | assumption | (symm; assumption)); (· rfl))))) (hpLe_gone (hpLe_cells (by (repeat (first | (with_reducible exact frLe_nil) | (with_reducible refine frLe_any ?_) | (with_reducible refine frLe_val ?_) | ((with_reducible refine frLe_eq rfl ?_ ?_); (· rfl)) | ((with_reducible refine frLe_val' (int_eq ?_) ?_ ?_); (· omega); (· rfl)) | ((with_reducible refine frLe_val' (int_eq ?_) ?_ ?_); (· simp only [Int.natCast_add, Int.natCast_one, Int.natCast_ofNat] <;> omega); (· rfl)) | ((with_reducible refine frLe_val' (bool_eq ?_) ?_ ?_); (· first | assumption | (symm; assumption)); (· rfl))))) (hpLe_own rfl rfl hpLe_nil)))
          · have hsame := dL_same (e := E) hp1 (by omega) (show E ≤ cumI P i s.i - h by omega) hN
            have hrows := hs.rows
            rw [hsame] at hrows
            have hmem := hs.mem
            have hnbig : ¬ bigD P i h E := bigD_not hp1 (by omega) (show E ≤ cumI P i s.i - h by omega) (by have := congrArg List.length hs.rows; rw [List.length_map, List.length_map] at this; have := hs.len; omega)
            (repeat ((try (conv => whnf)); (first | (with_reducible refine condP_true ?_) | (with_reducible refine condP_false ?_) | (with_reducible refine condP_not ?_) | (with_reducible refine condP_and ?_) | ((with_reducible refine condP_dt ?_ ?_); (· omega)) | ((with_reducible refine condP_df ?_ ?_); (· omega)) | ((with_reducible refine condP_yes ?_ ?_); (· assumption)) | ((with_reducible refine condP_no ?_ ?_); (· assumption)) | ((with_reducible refine ArP_i64 ?_ ?_); (· omega)) | ((with_reducible refine mustP.mk ?_ ?_); (· first | omega | rfl | (dsimp only; omega))) | (with_reducible refine EqP_nil tab_ok ?_) | (with_reducible refine EqP_sli tab_ok ?_) | (with_reducible refine DrawP_auto tab_ok (by kernel_rfl) (by decide +kernel) ?_) | (with_reducible refine DrawP_auto2 tab_ok (by kernel_rfl) (by decide +kernel) ?_) | (with_reducible refine eq43 ?_) | (with_reducible refine eq55 ?_) | (with_reducible refine eq57 ?_) | (with_reducible refine eq93 ?_) | (with_reducible refine eq101 ?_) | (with_reducible refine eq116 ?_) | (with_reducible refine eq119 ?_))))
            conv => whnf
            refine .inl ⟨3, _, _, _, _, rfl, rfl, fun G3 A3 hle hF => DaR_of hrows (hmem.mono hle) hF, hnbig⟩
variable (hp : ElsM G A 2 n (ptC X Y)) (hq : n ≤ q ∧ q ≤ maxLen) (hn : n ≤ 8) (he : lineErr X Y n = 0) (hP : ElsM G B 1 m fun i => [.int .i64 (P i)]) (hm : 1 ≤ m ∧ m ≤ 16) (hpat : ∀ i, i < m → 1 ≤ P i ∧ P i ≤ 65535) (hph : 0 ≤ ph ∧ ph ≤ 1048576)
include hp hq hn he hP hm hpat hph
theorem Dash_makes (h E : Int) (hh : h = Int.tmod ph (turnI P m)) (hE : E = atI X Y n (tot n cl)) (N : Nat) (hN : E ≤ cumI P m N - h) (hbig : ¬ bigD P m h E) :
    MakesF Try.prog 12 [.agg [.val (.slice A n q), .val (.bool cl)], .val (.slice B m qm), .val (.int .i64 ph)] G (pairP 0) (DaR ((dL P m h E N).map (dashP (ptX X n) (ptX Y n) (szI X Y n) (atI X Y n) (tot n cl)))) :=
  MakesF_ofK tab_ok Try.func12 (pairP_wraps 0) (by kernel_rfl) (Dash_body hp hq hn he hP hm hpat hph h E hh hE N hN) fun v hp' G1 hk => by
    rcases hk with ⟨k, E', sz, n', xs, h1, h2, h3, _⟩ | ⟨_, h1⟩
    · exact ⟨k, E', sz, n', xs, h1, h2, h3⟩
    · exact absurd h1 hbig
theorem Dash_big (h E : Int) (hh : h = Int.tmod ph (turnI P m)) (hE : E = atI X Y n (tot n cl)) (N : Nat) (hN : E ≤ cumI P m N - h) (hbig : bigD P m h E) :
    Gives Try.prog 12 [.agg [.val (.slice A n q), .val (.bool cl)], .val (.slice B m qm), .val (.int .i64 ph)] G (.tup [.val (.slice none 0 0), .val (.int .i64 2)]) :=
  Gives_ofK tab_ok Try.func12 rfl (by kernel_rfl) (Dash_body hp hq hn he hP hm hpat hph h E hh hE N hN) fun v hp' G1 hk => by
    rcases hk with ⟨_, _, _, _, _, _, _, _, h1⟩ | ⟨h1, _⟩
    · exact absurd hbig h1
    · exact h1
end
end Go.Proofs.Ytpgjbfbdappniaa
