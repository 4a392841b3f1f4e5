/-
  The reference's Dashed.
-/
import Derived.Test.YtpgjbfbdappniaaDash1
import Derived.Test.YtpgjbfbdappniaaWalk
namespace Go.Proofs.Ytpgjbfbdappniaa
open Go.RowKit
set_option linter.unusedVariables false
set_option linter.unusedSimpArgs false
set_option maxRecDepth 20000
theorem WalkM.mono {G G' : Mem} {B D : Option Addr} {T : Nat} {X Y t : Nat → Int} (h : WalkM G B D T X Y t) (hle : G.le G') : WalkM G' B D T X Y t := ⟨h.pts.mono hle, h.ats.mono hle⟩
def pairT (a : AV) : AV := .tup [a, .val (.bool true)]
theorem pairT_wraps : Wraps pairT := .pair (.val (.bool true)) (fun _ => rfl) rfl
structure EInv (P : Nat → Int) (m : Nat) (h E : Int) (G2 : Mem) (f : Int × Int → List (Int × Int)) (s : DSt) : Prop where
  up : h < cumI P m (s.i + 1)
  le : G2.le s.G
  len : s.R.length ≤ 10000
  rows : s.R.map RowD.P = (dL P m h E s.i).map f
  mem : RowsM s.G s.R
section
variable {P : Nat → Int} {m : Nat} {h E : Int} {G2 : Mem} {f : Int × Int → List (Int × Int)} {s : DSt}
theorem EInv.skip (hs : EInv P m h E G2 f s) (hm : 0 < m) (hp : ∀ i, i < m → 1 ≤ P i) (hd : ¬ isD P m h E s.i) : EInv P m h E G2 f ⟨s.i + 1, s.k, s.G, s.R⟩ :=
  ⟨by have h1 := hp ((s.i + 1) % m) (Nat.mod_lt _ hm); have h2 := hs.up; show h < cumI P m (s.i + 1 + 1); rw [cumI]; omega, hs.le, hs.len, by show s.R.map RowD.P = (dL P m h E (s.i + 1)).map f; rw [dL, if_neg hd, List.append_nil]; exact hs.rows, hs.mem⟩
theorem EInv.dash (hs : EInv P m h E G2 f s) (hm : 0 < m) (hp : ∀ i, i < m → 1 ≤ P i) (hd : isD P m h E s.i) (hl : s.R.length ≠ 10000) {G' : Mem} {r : RowD} (hle : s.G.le G') (hr : r.P = f (dashI P m h E s.i)) (hM : PtsM G' r.a r.P) : EInv P m h E G2 f ⟨s.i + 1, s.k, G', s.R ++ [r]⟩ :=
  ⟨by have h1 := hp ((s.i + 1) % m) (Nat.mod_lt _ hm); have h2 := hs.up; show h < cumI P m (s.i + 1 + 1); rw [cumI]; omega, Mem.le_trans hs.le hle, by show (s.R ++ [r]).length ≤ _; have := hs.len; simp; omega, by show (s.R ++ [r]).map RowD.P = (dL P m h E (s.i + 1)).map f; rw [dL, if_pos hd, List.map_append, List.map_append, hs.rows]; simp [hr], (hs.mem.mono hle).add hM⟩
end
section
variable {G : Mem} {A B : Option Addr} {X Y P : Nat → Int} {n q m qm : Nat} {cl : Bool} {ph : Int}
set_option maxHeartbeats 8000000 in
theorem Dashed_body (hp : ElsM G A 2 n (ptC X Y)) (hq : n ≤ q ∧ q ≤ maxLen) (hn : n ≤ 8) (h0 : 0 < n) (he : lineErr X Y n = 0) (hP : ElsM G B 1 m fun i => [.int .i64 (P i)]) (hm : 1 ≤ m ∧ m ≤ 16) (hpat : ∀ i, i < m → 1 ≤ P i ∧ P i ≤ 65535) (hph : 0 ≤ ph ∧ ph ≤ 1048576)
    (h E : Int) (hh : h = Int.tmod ph (2 * cumI P m m)) (hE : E = atI X Y n (tot n cl)) (N : Nat) (hN : E ≤ cumI P m N - h) :
    bodyV Try.prog tab 0 Try.f15 [.agg [.val (.slice A n q), .val (.bool cl)], .val (.slice B m qm), .val (.int .i64 ph)] [] G fun v hp' G1 => (∃ k E' sz n' xs, v = pairT (.own k) ∧ nthB hp' k = .own E' sz n' xs ∧ (∀ G2 A2, G1.le G2 → FlatM G2 A2 xs → DaR ((dL P m h E N).map (dashP (ptX X n) (ptX Y n) (szI X Y n) (atI X Y n) (tot n cl))) G2 A2 n') ∧ ¬ bigD P m h E) ∨ (v = .tup [.val (.slice none 0 0), .val (.bool false)] ∧ bigD P m h E) := by
  have hok := lineErr_ok he
  have hp1 : ∀ i, i < m → 1 ≤ P i := fun i hi => (hpat i hi).1
  have hcm : ∀ i, i ≤ m → 0 ≤ cumI P m i ∧ cumI P m i ≤ 65535 * i := fun i => by
    induction i with
    | zero => intro _; simp [cumI]
    | succ i ih =>
      intro hi
      have h1 := ih (by omega)
      have h2 := hpat (i % m) (Nat.mod_lt _ (by omega))
      rw [cumI]; omega
  have hT := tot_le (n := n) (cl := cl)
  have hsd := sides_of (cl := cl) hok
  have hE2 := atI_bd hok (tot n cl) hT
  rw [← hE] at hE2
  have mkw := Walk_makes (q := q) (cl := cl) hp hok (by omega) h0
  (repeat ((try (conv => whnf)); (first | (with_reducible refine condP_true ?_) | (with_reducible refine condP_false ?_) | (with_reducible refine condP_not ?_) | (with_reducible refine condP_and ?_) | ((with_reducible refine condP_dt ?_ ?_); (· omega)) | ((with_reducible refine condP_df ?_ ?_); (· omega)) | ((with_reducible refine condP_yes ?_ ?_); (· assumption)) | ((with_reducible refine condP_no ?_ ?_); (· assumption)) | ((with_reducible refine ArP_i64 ?_ ?_); (· omega)) | ((with_reducible refine mustP.mk ?_ ?_); (· first | omega | rfl | (dsimp only; omega))) | (with_reducible refine EqP_nil tab_ok ?_) | (with_reducible refine EqP_sli tab_ok ?_) | (with_reducible refine DrawP_auto tab_ok (by kernel_rfl) (by decide +kernel) ?_) | (with_reducible refine DrawP_auto2 tab_ok (by kernel_rfl) (by decide +kernel) ?_) | (with_reducible refine eq43 ?_) | (with_reducible refine eq55 ?_) | (with_reducible refine eq57 ?_) | (with_reducible refine eq93 ?_) | (with_reducible refine eq101 ?_) | (with_reducible refine eq116 ?_) | (with_reducible refine eq119 ?_))))
  conv => whnf
  refine CallP_makesV (fun vs w => by kernel_rfl) (by kernel_rfl) mkw fun v G1 hG1 hv => ?_
  obtain ⟨Bp, Dp, cb, cd, rfl, hW⟩ := hv
  obtain ⟨pD, rfl, xe⟩ := hW.ats.cell (x := tot n cl) (j := 0) (by omega) rfl
  have xe : G1.cell? (Addr.add (pD.add (((((tot n cl + 1 : Nat) : Int) - 1).toNat) * 1)) 0) = some (.int .i64 E) := by
    rw [show (((tot n cl + 1 : Nat) : Int) - 1).toNat = tot n cl by omega, hE]; exact xe
  (repeat ((try (conv => whnf)); (first | (refine OldCells_one _ xe ?_) | (with_reducible refine condP_true ?_) | (with_reducible refine condP_false ?_) | (with_reducible refine condP_not ?_) | (with_reducible refine condP_and ?_) | ((with_reducible refine condP_dt ?_ ?_); (· omega)) | ((with_reducible refine condP_df ?_ ?_); (· omega)) | ((with_reducible refine condP_yes ?_ ?_); (· assumption)) | ((with_reducible refine condP_no ?_ ?_); (· assumption)) | ((with_reducible refine ArP_i64 ?_ ?_); (· omega)) | ((with_reducible refine mustP.mk ?_ ?_); (· first | omega | rfl | (dsimp only; omega))) | (with_reducible refine EqP_nil tab_ok ?_) | (with_reducible refine EqP_sli tab_ok ?_) | (with_reducible refine DrawP_auto tab_ok (by kernel_rfl) (by decide +kernel) ?_) | (with_reducible refine DrawP_auto2 tab_ok (by kernel_rfl) (by decide +kernel) ?_) | (with_reducible refine eq43 ?_) | (with_reducible refine eq55 ?_) | (with_reducible refine eq57 ?_) | (with_reducible refine eq93 ?_) | (with_reducible refine eq101 ?_) | (with_reducible refine eq116 ?_) | (with_reducible refine eq119 ?_))))
  conv => whnf
  refine LoopP_at tab_ok (fun i => i ≤ m) (fun (i : Nat) => [(37, .val (.int .i64 i)), (11, .val (.int .i64 (cumI P m i)))]) (fun i => [.cells 34 [.val (.slice A n q), .val (.bool cl)]]) (fun i => m - i) 0 (Nat.zero_le _) ?_ ?_
  · ((refine Le_head ?_); (conv => whnf); (refine Le_mk (by rfl) (by rfl) ?_ ?_); (· (repeat (first | (with_reducible exact frLe_nil) | (with_reducible refine frLe_any ?_) | (with_reducible refine frLe_val ?_) | ((with_reducible refine frLe_eq rfl ?_ ?_); (· rfl)) | ((with_reducible refine frLe_val' (int_eq ?_) ?_ ?_); (· omega); (· rfl)) | ((with_reducible refine frLe_val' (int_eq ?_) ?_ ?_); (· simp only [Int.natCast_add, Int.natCast_one, Int.natCast_ofNat] <;> omega); (· rfl)) | ((with_reducible refine frLe_val' (bool_eq ?_) ?_ ?_); (· first | assumption | (symm; assumption)); (· rfl))))))
    exact hpLe_cells (by (repeat (first | (with_reducible exact frLe_nil) | (with_reducible refine frLe_any ?_) | (with_reducible refine frLe_val ?_) | ((with_reducible refine frLe_eq rfl ?_ ?_); (· rfl)) | ((with_reducible refine frLe_val' (int_eq ?_) ?_ ?_); (· omega); (· rfl)) | ((with_reducible refine frLe_val' (int_eq ?_) ?_ ?_); (· simp only [Int.natCast_add, Int.natCast_one, Int.natCast_ofNat] <;> omega); (· rfl)) | ((with_reducible refine frLe_val' (bool_eq ?_) ?_ ?_); (· first | assumption | (symm; assumption)); (· rfl))))) hpLe_nil
  · rintro i hi
    have hci := hcm i hi
    rcases Nat.lt_or_ge i m with h1 | h1
    · obtain ⟨p, rfl, x0⟩ := (hP.mono hG1).cell (x := i) (j := 0) h1 rfl
      obtain ⟨v1, v2⟩ := hpat i h1
      have hnx : cumI P m (i + 1) = cumI P m i + P i := by rw [cumI, Nat.mod_eq_of_lt h1]
      generalize hw : cumI P m (i + 1) = w at *
      generalize cumI P m i = u at *
      generalize P i = pv at *
      clear hp hP hpat hp1 hcm hok hsd hW
      (repeat ((try (conv => whnf)); (first | (refine OldCells_one _ x0 ?_) | (with_reducible refine condP_true ?_) | (with_reducible refine condP_false ?_) | (with_reducible refine condP_not ?_) | (with_reducible refine condP_and ?_) | ((with_reducible refine condP_dt ?_ ?_); (· omega)) | ((with_reducible refine condP_df ?_ ?_); (· omega)) | ((with_reducible refine condP_yes ?_ ?_); (· assumption)) | ((with_reducible refine condP_no ?_ ?_); (· assumption)) | ((with_reducible refine ArP_i64 ?_ ?_); (· omega)) | ((with_reducible refine mustP.mk ?_ ?_); (· first | omega | rfl | (dsimp only; omega))) | (with_reducible refine EqP_nil tab_ok ?_) | (with_reducible refine EqP_sli tab_ok ?_) | (with_reducible refine DrawP_auto tab_ok (by kernel_rfl) (by decide +kernel) ?_) | (with_reducible refine DrawP_auto2 tab_ok (by kernel_rfl) (by decide +kernel) ?_) | (with_reducible refine eq43 ?_) | (with_reducible refine eq55 ?_) | (with_reducible refine eq57 ?_) | (with_reducible refine eq93 ?_) | (with_reducible refine eq101 ?_) | (with_reducible refine eq116 ?_) | (with_reducible refine eq119 ?_))))
      conv => whnf
      refine ⟨i + 1, by omega, by omega, ?_⟩
      rw [hw]
      ((refine Le_head ?_); (conv => whnf); (refine Le_mk (by rfl) (by rfl) ?_ ?_); (· (repeat (first | (with_reducible exact frLe_nil) | (with_reducible refine frLe_any ?_) | (with_reducible refine frLe_val ?_) | ((with_reducible refine frLe_eq rfl ?_ ?_); (· rfl)) | ((with_reducible refine frLe_val' (int_eq ?_) ?_ ?_); (· omega); (· rfl)) | ((with_reducible refine frLe_val' (int_eq ?_) ?_ ?_); (· simp only [Int.natCast_add, Int.natCast_one, Int.natCast_ofNat] <;> omega); (· rfl)) | ((with_reducible refine frLe_val' (bool_eq ?_) ?_ ?_); (· first | assumption | (symm; assumption)); (· rfl))))))
      exact hpLe_cells (by (repeat (first | (with_reducible exact frLe_nil) | (with_reducible refine frLe_any ?_) | (with_reducible refine frLe_val ?_) | ((with_reducible refine frLe_eq rfl ?_ ?_); (· rfl)) | ((with_reducible refine frLe_val' (int_eq ?_) ?_ ?_); (· omega); (· rfl)) | ((with_reducible refine frLe_val' (int_eq ?_) ?_ ?_); (· simp only [Int.natCast_add, Int.natCast_one, Int.natCast_ofNat] <;> omega); (· rfl)) | ((with_reducible refine frLe_val' (bool_eq ?_) ?_ ?_); (· first | assumption | (symm; assumption)); (· rfl))))) hpLe_nil
    · obtain rfl : i = m := by omega
      have hcm2 := hcm i (Nat.le_refl _)
      have hcm3 := cumI_le hp1 (by omega) (Nat.zero_le i)
      have hcm4 : cumI P i 0 = 0 := rfl
      have hh2 : 0 ≤ h ∧ h ≤ 2097120 := by
        rw [hh, Int.tmod_eq_emod_of_nonneg hph.1]
        have h5 : 0 < 2 * cumI P i i := by omega
        exact ⟨Int.emod_nonneg _ (by omega), by have := Int.emod_lt_of_pos ph h5; omega⟩
      generalize hcu : cumI P i i = cu at *
      (repeat ((try (conv => whnf)); (first | (with_reducible refine condP_true ?_) | (with_reducible refine condP_false ?_) | (with_reducible refine condP_not ?_) | (with_reducible refine condP_and ?_) | ((with_reducible refine condP_dt ?_ ?_); (· omega)) | ((with_reducible refine condP_df ?_ ?_); (· omega)) | ((with_reducible refine condP_yes ?_ ?_); (· assumption)) | ((with_reducible refine condP_no ?_ ?_); (· assumption)) | ((with_reducible refine ArP_i64 ?_ ?_); (· omega)) | ((with_reducible refine mustP.mk ?_ ?_); (· first | omega | rfl | (dsimp only; omega))) | (with_reducible refine EqP_nil tab_ok ?_) | (with_reducible refine EqP_sli tab_ok ?_) | (with_reducible refine DrawP_auto tab_ok (by kernel_rfl) (by decide +kernel) ?_) | (with_reducible refine DrawP_auto2 tab_ok (by kernel_rfl) (by decide +kernel) ?_) | (with_reducible refine eq43 ?_) | (with_reducible refine eq55 ?_) | (with_reducible refine eq57 ?_) | (with_reducible refine eq93 ?_) | (with_reducible refine eq101 ?_) | (with_reducible refine eq116 ?_) | (with_reducible refine eq119 ?_))))
      conv => whnf
      rw [← hh]
      -- the pieces that lie ahead
      refine LoopP_at tab_ok (fun k => cumI P i k ≤ h) (fun (k : Nat) => [(15, .val (.int .i64 k)), (16, .val (.int .i64 (h - cumI P i k)))]) (fun k => [.cells 34 [.val (.slice A n q), .val (.bool cl)]]) (fun k => h.toNat + 1 - k) 0 (by rw [hcm4]; exact hh2.1) ?_ ?_
      · ((refine Le_head ?_); (conv => whnf); (refine Le_mk (by rfl) (by rfl) ?_ ?_); (· (repeat (first | (with_reducible exact frLe_nil) | (with_reducible refine frLe_any ?_) | (with_reducible refine frLe_val ?_) | ((with_reducible refine frLe_eq rfl ?_ ?_); (· rfl)) | ((with_reducible refine frLe_val' (int_eq ?_) ?_ ?_); (· omega); (· rfl)) | ((with_reducible refine frLe_val' (int_eq ?_) ?_ ?_); (· simp only [Int.natCast_add, Int.natCast_one, Int.natCast_ofNat] <;> omega); (· rfl)) | ((with_reducible refine frLe_val' (bool_eq ?_) ?_ ?_); (· first | assumption | (symm; assumption)); (· rfl))))))
        exact hpLe_cells (by (repeat (first | (with_reducible exact frLe_nil) | (with_reducible refine frLe_any ?_) | (with_reducible refine frLe_val ?_) | ((with_reducible refine frLe_eq rfl ?_ ?_); (· rfl)) | ((with_reducible refine frLe_val' (int_eq ?_) ?_ ?_); (· omega); (· rfl)) | ((with_reducible refine frLe_val' (int_eq ?_) ?_ ?_); (· simp only [Int.natCast_add, Int.natCast_one, Int.natCast_ofNat] <;> omega); (· rfl)) | ((with_reducible refine frLe_val' (bool_eq ?_) ?_ ?_); (· first | assumption | (symm; assumption)); (· rfl))))) hpLe_nil
      · intro k hk
        have hck := cumI_le hp1 (by omega) (Nat.zero_le k)
        have hmod : (Int.tmod (k : Int) (i : Int)) = ((k % i : Nat) : Int) := by rw [Int.tmod_eq_emod_of_nonneg (by omega)]; exact (Int.natCast_emod _ _).symm
        have hmlt : k % i < i := Nat.mod_lt _ (by omega)
        obtain ⟨v1, v2⟩ := hpat (k % i) hmlt
        have hP1 := hP.mono hG1
        obtain ⟨pB, rfl, x0⟩ := hP1.cell (x := k % i) (j := 0) hmlt rfl
        have x0 : G1.cell? (Addr.add (Addr.add pB ((Int.tmod (k : Int) (i : Int)).toNat * 1)) 0) = some (.int .i64 (P (k % i))) := by rw [hmod]; exact x0
        have hmm : 0 ≤ Int.tmod (k : Int) (i : Int) ∧ Int.tmod (k : Int) (i : Int) < i := by rw [hmod]; omega
        have hnx : cumI P i (k + 1) = cumI P i k + P (k % i) := rfl
        by_cases hst : cumI P i (k + 1) ≤ h
        · generalize hw : cumI P i (k + 1) = w at *
          generalize cumI P i k = u at *
          generalize P (k % i) = pv at *
          clear hp hP hP1 hpat hp1 hcm hok hsd hW
          (repeat ((try (conv => whnf)); (first | (refine OldCells_one _ x0 ?_) | (with_reducible refine condP_true ?_) | (with_reducible refine condP_false ?_) | (with_reducible refine condP_not ?_) | (with_reducible refine condP_and ?_) | ((with_reducible refine condP_dt ?_ ?_); (· omega)) | ((with_reducible refine condP_df ?_ ?_); (· omega)) | ((with_reducible refine condP_yes ?_ ?_); (· assumption)) | ((with_reducible refine condP_no ?_ ?_); (· assumption)) | ((with_reducible refine ArP_i64 ?_ ?_); (· omega)) | ((with_reducible refine mustP.mk ?_ ?_); (· first | omega | rfl | (dsimp only; omega))) | (with_reducible refine EqP_nil tab_ok ?_) | (with_reducible refine EqP_sli tab_ok ?_) | (with_reducible refine DrawP_auto tab_ok (by kernel_rfl) (by decide +kernel) ?_) | (with_reducible refine DrawP_auto2 tab_ok (by kernel_rfl) (by decide +kernel) ?_) | (with_reducible refine eq43 ?_) | (with_reducible refine eq55 ?_) | (with_reducible refine eq57 ?_) | (with_reducible refine eq93 ?_) | (with_reducible refine eq101 ?_) | (with_reducible refine eq116 ?_) | (with_reducible refine eq119 ?_))))
          conv => whnf
          refine ⟨k + 1, by rw [hw]; exact hst, by omega, ?_⟩
          rw [hw]
          ((refine Le_head ?_); (conv => whnf); (refine Le_mk (by rfl) (by rfl) ?_ ?_); (· (repeat (first | (with_reducible exact frLe_nil) | (with_reducible refine frLe_any ?_) | (with_reducible refine frLe_val ?_) | ((with_reducible refine frLe_eq rfl ?_ ?_); (· rfl)) | ((with_reducible refine frLe_val' (int_eq ?_) ?_ ?_); (· omega); (· rfl)) | ((with_reducible refine frLe_val' (int_eq ?_) ?_ ?_); (· simp only [Int.natCast_add, Int.natCast_one, Int.natCast_ofNat] <;> omega); (· rfl)) | ((with_reducible refine frLe_val' (bool_eq ?_) ?_ ?_); (· first | assumption | (symm; assumption)); (· rfl))))))
          exact hpLe_cells (by (repeat (first | (with_reducible exact frLe_nil) | (with_reducible refine frLe_any ?_) | (with_reducible refine frLe_val ?_) | ((with_reducible refine frLe_eq rfl ?_ ?_); (· rfl)) | ((with_reducible refine frLe_val' (int_eq ?_) ?_ ?_); (· omega); (· rfl)) | ((with_reducible refine frLe_val' (int_eq ?_) ?_ ?_); (· simp only [Int.natCast_add, Int.natCast_one, Int.natCast_ofNat] <;> omega); (· rfl)) | ((with_reducible refine frLe_val' (bool_eq ?_) ?_ ?_); (· first | assumption | (symm; assumption)); (· rfl))))) hpLe_nil
        · have hlow : dL P i h E k = [] := dL_low fun j hj => by
            have := cumI_le hp1 (by omega) (show j + 1 ≤ k by omega)
            omega
          (repeat ((try (conv => whnf)); (first | (refine OldCells_one _ x0 ?_) | (with_reducible refine condP_true ?_) | (with_reducible refine condP_false ?_) | (with_reducible refine condP_not ?_) | (with_reducible refine condP_and ?_) | ((with_reducible refine condP_dt ?_ ?_); (· omega)) | ((with_reducible refine condP_df ?_ ?_); (· omega)) | ((with_reducible refine condP_yes ?_ ?_); (· assumption)) | ((with_reducible refine condP_no ?_ ?_); (· assumption)) | ((with_reducible refine ArP_i64 ?_ ?_); (· omega)) | ((with_reducible refine mustP.mk ?_ ?_); (· first | omega | rfl | (dsimp only; omega))) | (with_reducible refine EqP_nil tab_ok ?_) | (with_reducible refine EqP_sli tab_ok ?_) | (with_reducible refine DrawP_auto tab_ok (by kernel_rfl) (by decide +kernel) ?_) | (with_reducible refine DrawP_auto2 tab_ok (by kernel_rfl) (by decide +kernel) ?_) | (with_reducible refine eq43 ?_) | (with_reducible refine eq55 ?_) | (with_reducible refine eq57 ?_) | (with_reducible refine eq93 ?_) | (with_reducible refine eq101 ?_) | (with_reducible refine eq116 ?_) | (with_reducible refine eq119 ?_))))
          conv => whnf
          generalize hTn : tot n cl = T at *
          have hzb : ∀ x, x < T → 0 ≤ szI X Y n x ∧ szI X Y n x ≤ 92681 := fun x hx => szI_bd hok (by omega)
          have htb : ∀ x, x ≤ T → 0 ≤ atI X Y n x ∧ atI X Y n x ≤ 741448 := fun x hx => by have := atI_bd hok x (by omega); omega
          have hCX : ∀ x, x ≤ T → Co (X (pi n x)) := fun x hx => (Co_of hok (show x ≤ n by omega) h0).1
          have hCY : ∀ x, x ≤ T → Co (Y (pi n x)) := fun x hx => (Co_of hok (show x ≤ n by omega) h0).2
          have es : min (max (cumI P i k - h) 0) E = 0 := by omega
          clear x0
          refine LoopP_atG (ι := DSt) tab_ok (EInv P i h E G1 (dashP (ptX X n) (ptX Y n) (szI X Y n) (atI X Y n) T)) (fun s => [(15, .val (.int .i64 s.i)), (16, .val (.int .i64 (cumI P i (s.i + 1) - h - max (cumI P i s.i - h) 0))), (17, .val (.int .i64 (min (max (cumI P i s.i - h) 0) E))), (14, .own 1)])
            (fun s => [.cells 34 [.val (.slice A n q), .val (.bool cl)], .own 34 2 s.R.length (s.R.flatMap RowD.enc)]) (fun s => s.G) (fun s => (E + h).toNat + 1 - s.i) ⟨k, 0, G1, []⟩ ⟨by show h < cumI P i (k + 1); omega, Mem.le_refl _, Nat.zero_le _, by show [] = (dL P i h E k).map _; rw [hlow]; rfl, fun r hr => absurd hr List.not_mem_nil⟩ ?_ ?_
          · refine Le_own 34 2 ?_
            conv => whnf
            refine Le_head ?_
            conv => whnf
            refine Le_mk (by rfl) (by rfl) ?_ ?_
            · (repeat (first | (with_reducible exact frLe_nil) | (with_reducible refine frLe_any ?_) | (with_reducible refine frLe_val ?_) | ((with_reducible refine frLe_eq rfl ?_ ?_); (· rfl)) | ((with_reducible refine frLe_val' (int_eq ?_) ?_ ?_); (· omega); (· rfl)) | ((with_reducible refine frLe_val' (int_eq ?_) ?_ ?_); (· simp only [Int.natCast_add, Int.natCast_one, Int.natCast_ofNat] <;> omega); (· rfl)) | ((with_reducible refine frLe_val' (bool_eq ?_) ?_ ?_); (· first | assumption | (symm; assumption)); (· rfl))))
              refine frLe_val' (int_eq ?_) (by rfl) ?_
              · show P (k % i) - (h - cumI P i k) = cumI P i (k + 1) - h - max (cumI P i k - h) 0
                omega
              refine frLe_val' (int_eq ?_) (by rfl) ?_
              · show 0 = min (max (cumI P i k - h) 0) E
                omega
              (repeat (first | (with_reducible exact frLe_nil) | (with_reducible refine frLe_any ?_) | (with_reducible refine frLe_val ?_) | ((with_reducible refine frLe_eq rfl ?_ ?_); (· rfl)) | ((with_reducible refine frLe_val' (int_eq ?_) ?_ ?_); (· omega); (· rfl)) | ((with_reducible refine frLe_val' (int_eq ?_) ?_ ?_); (· simp only [Int.natCast_add, Int.natCast_one, Int.natCast_ofNat] <;> omega); (· rfl)) | ((with_reducible refine frLe_val' (bool_eq ?_) ?_ ?_); (· first | assumption | (symm; assumption)); (· rfl))))
            · exact hpLe_cells (by (repeat (first | (with_reducible exact frLe_nil) | (with_reducible refine frLe_any ?_) | (with_reducible refine frLe_val ?_) | ((with_reducible refine frLe_eq rfl ?_ ?_); (· rfl)) | ((with_reducible refine frLe_val' (int_eq ?_) ?_ ?_); (· omega); (· rfl)) | ((with_reducible refine frLe_val' (int_eq ?_) ?_ ?_); (· simp only [Int.natCast_add, Int.natCast_one, Int.natCast_ofNat] <;> omega); (· rfl)) | ((with_reducible refine frLe_val' (bool_eq ?_) ?_ ?_); (· first | assumption | (symm; assumption)); (· rfl))))) (hpLe_own rfl rfl hpLe_nil)
          · intro s hs
            have hci := cumI_le hp1 (by omega) (Nat.zero_le s.i)
            have hup := hs.up
            have hnx : cumI P i (s.i + 1) = cumI P i s.i + P (s.i % i) := rfl
            obtain ⟨vv1, vv2⟩ := hpat (s.i % i) (Nat.mod_lt _ (by omega))
            by_cases hlt : max (cumI P i s.i - h) 0 < E
            · have hil : s.i ≤ 2838888 := by omega
              have hmod : (Int.tmod ((s.i : Int) + 1) (i : Int)) = (((s.i + 1) % i : Nat) : Int) := by rw [Int.tmod_eq_emod_of_nonneg (by omega)]; exact (Int.natCast_emod _ _).symm
              have hpar : Int.tmod (s.i : Int) 2 = ((s.i % 2 : Nat) : Int) := by rw [Int.tmod_eq_emod_of_nonneg (by omega)]; omega
              have hmlt : (s.i + 1) % i < i := Nat.mod_lt _ (by omega)
              obtain ⟨v1, v2⟩ := hpat ((s.i + 1) % i) hmlt
              have x0 := ((hP1.mono hs.le).cell (x := (s.i + 1) % i) (j := 0) hmlt rfl)
              obtain ⟨pB2, hpB, x0⟩ := x0
              cases hpB
              have x0 : s.G.cell? (Addr.add (Addr.add pB ((Int.tmod ((s.i : Int) + 1) (i : Int)).toNat * 1)) 0) = some (.int .i64 (P ((s.i + 1) % i))) := by rw [hmod]; exact x0
              have hmm : 0 ≤ Int.tmod ((s.i : Int) + 1) (i : Int) ∧ Int.tmod ((s.i : Int) + 1) (i : Int) < i := by rw [hmod]; omega
              have hn2 : cumI P i (s.i + 1 + 1) = cumI P i (s.i + 1) + P ((s.i + 1) % i) := rfl
              by_cases hpz : s.i % 2 = 0
              · have hd : isD P i h E s.i := ⟨hpz, by show max (cumI P i s.i - h) 0 < min (cumI P i (s.i + 1) - h) E; omega⟩
                have hnext := fun (hl : s.R.length ≠ 10000) (G' : Mem) (r : RowD) => hs.dash (G' := G') (r := r) (by omega) hp1 hd hl
                have hbigd : s.R.length = 10000 → bigD P i h E := fun h5 => bigD_is (i := s.i) hd (by have := congrArg List.length hs.rows; rw [List.length_map, List.length_map] at this; omega)
                have hlen := hs.len
                have ea : (dashI P i h E s.i).1 = min (max (cumI P i s.i - h) 0) E := by show max (cumI P i s.i - h) 0 = _; omega
                have eb : (dashI P i h E s.i).2 = min E (min (max (cumI P i s.i - h) 0) E + (cumI P i (s.i + 1) - h - max (cumI P i s.i - h) 0)) := by show min (cumI P i (s.i + 1) - h) E = _; omega
                have hWm := hW.mono hs.le
                obtain ⟨si, sk, sG, sR⟩ := s
                dsimp only at *
                generalize hw2 : cumI P i (si + 1 + 1) = w2 at *
                generalize hw : cumI P i (si + 1) = w at *
                generalize cumI P i si = u at *
                generalize P ((si + 1) % i) = pv at *
                generalize P (si % i) = pv0 at *
                generalize hprr : si % 2 = par at *
                subst hpz
                have hab : 0 ≤ min (max (u - h) 0) E ∧ min (max (u - h) 0) E < min E (min (max (u - h) 0) E + (w - h - max (u - h) 0)) ∧ min E (min (max (u - h) 0) E + (w - h - max (u - h) 0)) ≤ E := by omega
                have ho1 : -10000000 ≤ min (max (u - h) 0) E + (w - h - max (u - h) 0) ∧ min (max (u - h) 0) E + (w - h - max (u - h) 0) ≤ 10000000 := by omega
                by_cases hnb : sR.length = 10000
                · have hb := hbigd hnb
                  (repeat ((try (conv => whnf)); (first | (refine OldCells_one _ x0 ?_) | (with_reducible refine condP_true ?_) | (with_reducible refine condP_false ?_) | (with_reducible refine condP_not ?_) | (with_reducible refine condP_and ?_) | ((with_reducible refine condP_dt ?_ ?_); (· omega)) | ((with_reducible refine condP_df ?_ ?_); (· omega)) | ((with_reducible refine condP_yes ?_ ?_); (· assumption)) | ((with_reducible refine condP_no ?_ ?_); (· assumption)) | ((with_reducible refine ArP_i64 ?_ ?_); (· omega)) | ((with_reducible refine mustP.mk ?_ ?_); (· first | omega | rfl | (dsimp only; omega))) | (with_reducible refine EqP_nil tab_ok ?_) | (with_reducible refine EqP_sli tab_ok ?_) | (with_reducible refine DrawP_auto tab_ok (by kernel_rfl) (by decide +kernel) ?_) | (with_reducible refine DrawP_auto2 tab_ok (by kernel_rfl) (by decide +kernel) ?_) | (with_reducible refine eq43 ?_) | (with_reducible refine eq55 ?_) | (with_reducible refine eq57 ?_) | (with_reducible refine eq93 ?_) | (with_reducible refine eq101 ?_) | (with_reducible refine eq116 ?_) | (with_reducible refine eq119 ?_))))
                  exact .inr ⟨rfl, hb⟩
                · have hnext := hnext hnb
                  have hfa := fiI_is (s := min (max (u - h) 0) E) hsd (by omega) (by omega)
                  have hfb := fiI_is (s := min E (min (max (u - h) 0) E + (w - h - max (u - h) 0))) hsd (by omega) (by omega)
                  have q1 := Position_gives (qb := cb) (qd := cd) hWm (by omega) hsd hfa (by omega) (by omega) hCX hCY
                  have q2 := Position_gives (qb := cb) (qd := cd) hWm (by omega) hsd hfb (by omega) (by omega) hCX hCY
                  have pa : posD (ptX X n) (ptX Y n) (szI X Y n) (atI X Y n) T (min (max (u - h) 0) E) = (_, _) := rfl
                  have pb : posD (ptX X n) (ptX Y n) (szI X Y n) (atI X Y n) T (min E (min (max (u - h) 0) E + (w - h - max (u - h) 0))) = (_, _) := rfl
                  generalize fiI (szI X Y n) (atI X Y n) T (min (max (u - h) 0) E) = fa at *
                  generalize fiI (szI X Y n) (atI X Y n) T (min E (min (max (u - h) 0) E + (w - h - max (u - h) 0))) = fb at *
                  generalize onI (X (pi n fa)) (X (pi n (fa + 1))) (min (max (u - h) 0) E - atI X Y n fa) (szI X Y n fa) = ax at *
                  generalize onI (Y (pi n fa)) (Y (pi n (fa + 1))) (min (max (u - h) 0) E - atI X Y n fa) (szI X Y n fa) = ay at *
                  generalize onI (X (pi n fb)) (X (pi n (fb + 1))) (min E (min (max (u - h) 0) E + (w - h - max (u - h) 0)) - atI X Y n fb) (szI X Y n fb) = bx at *
                  generalize onI (Y (pi n fb)) (Y (pi n (fb + 1))) (min E (min (max (u - h) 0) E + (w - h - max (u - h) 0)) - atI X Y n fb) (szI X Y n fb) = by_ at *
                  (repeat ((try (conv => whnf)); (first | (refine OldCells_one _ x0 ?_) | (with_reducible refine condP_true ?_) | (with_reducible refine condP_false ?_) | (with_reducible refine condP_not ?_) | (with_reducible refine condP_and ?_) | ((with_reducible refine condP_dt ?_ ?_); (· omega)) | ((with_reducible refine condP_df ?_ ?_); (· omega)) | ((with_reducible refine condP_yes ?_ ?_); (· assumption)) | ((with_reducible refine condP_no ?_ ?_); (· assumption)) | ((with_reducible refine ArP_i64 ?_ ?_); (· omega)) | ((with_reducible refine mustP.mk ?_ ?_); (· first | omega | rfl | (dsimp only; omega))) | (with_reducible refine EqP_nil tab_ok ?_) | (with_reducible refine EqP_sli tab_ok ?_) | (with_reducible refine DrawP_auto tab_ok (by kernel_rfl) (by decide +kernel) ?_) | (with_reducible refine DrawP_auto2 tab_ok (by kernel_rfl) (by decide +kernel) ?_) | (with_reducible refine eq43 ?_) | (with_reducible refine eq55 ?_) | (with_reducible refine eq57 ?_) | (with_reducible refine eq93 ?_) | (with_reducible refine eq101 ?_) | (with_reducible refine eq116 ?_) | (with_reducible refine eq119 ?_) | (with_reducible refine CallP_gives (fun vs w => by kernel_rfl) (by kernel_rfl) (q1) ?_) | (with_reducible refine RCallP_gives (fun vs w => by kernel_rfl) (by kernel_rfl) (q1) ?_))))
                  conv => whnf
                  generalize hva : min (max (u - h) 0) E = va at *
                  generalize hvb : min E (va + (w - h - max (u - h) 0)) = vb at *
                  generalize hml : midL (atI X Y n) (fun i => (X (pi n i), Y (pi n i))) va vb = mid at *
                  have hmn : ∀ x, mid (x + 1) = mid x ++ (if va < atI X Y n (x + 1) ∧ atI X Y n (x + 1) < vb then [(X (pi n (x + 1)), Y (pi n (x + 1)))] else []) := fun x => by rw [← hml]; rfl
                  have hm0 : mid 0 = [] := by rw [← hml]; rfl
                  have hmlen : ∀ x, (mid x).length ≤ x := fun x => by rw [← hml]; exact midL_len x
                  refine LoopP_at tab_ok (fun j => j ≤ T) (fun (j : Nat) => [(20, .val (.int .i64 ((j + 1 : Nat) : Int)))]) (fun j => [.cells 34 [.val (.slice A n q), .val (.bool cl)], .own 34 2 sR.length (sR.flatMap RowD.enc), .gone, .cells 34 [.own 4, .val (.bool false)], .own 55 2 (1 + (mid j).length) (flatP ((ax, ay) :: mid j))]) (fun j => T - j) 0 (Nat.zero_le _) ?_ ?_
                  · refine Le_head ?_
                    conv => whnf
                    refine Le_lit 2 2 1 rfl (by omega) ?_ (by rfl)
                    conv => whnf
                    refine mustP.mk (by unfold maxLen; omega) ?_
                    conv => whnf
                    refine Le_mk (by rfl) (by rfl) ?_ ?_
                    · (repeat (first | (with_reducible exact frLe_nil) | (with_reducible refine frLe_any ?_) | (with_reducible refine frLe_val ?_) | ((with_reducible refine frLe_eq rfl ?_ ?_); (· rfl)) | ((with_reducible refine frLe_val' (int_eq ?_) ?_ ?_); (· omega); (· rfl)) | ((with_reducible refine frLe_val' (int_eq ?_) ?_ ?_); (· simp only [Int.natCast_add, Int.natCast_one, Int.natCast_ofNat] <;> omega); (· rfl)) | ((with_reducible refine frLe_val' (bool_eq ?_) ?_ ?_); (· first | assumption | (symm; assumption)); (· rfl))))
                    · refine hpLe_cells (by (repeat (first | (with_reducible exact frLe_nil) | (with_reducible refine frLe_any ?_) | (with_reducible refine frLe_val ?_) | ((with_reducible refine frLe_eq rfl ?_ ?_); (· rfl)) | ((with_reducible refine frLe_val' (int_eq ?_) ?_ ?_); (· omega); (· rfl)) | ((with_reducible refine frLe_val' (int_eq ?_) ?_ ?_); (· simp only [Int.natCast_add, Int.natCast_one, Int.natCast_ofNat] <;> omega); (· rfl)) | ((with_reducible refine frLe_val' (bool_eq ?_) ?_ ?_); (· first | assumption | (symm; assumption)); (· rfl))))) (hpLe_own rfl rfl (hpLe_gone (hpLe_cells (by (repeat (first | (with_reducible exact frLe_nil) | (with_reducible refine frLe_any ?_) | (with_reducible refine frLe_val ?_) | ((with_reducible refine frLe_eq rfl ?_ ?_); (· rfl)) | ((with_reducible refine frLe_val' (int_eq ?_) ?_ ?_); (· omega); (· rfl)) | ((with_reducible refine frLe_val' (int_eq ?_) ?_ ?_); (· simp only [Int.natCast_add, Int.natCast_one, Int.natCast_ofNat] <;> omega); (· rfl)) | ((with_reducible refine frLe_val' (bool_eq ?_) ?_ ?_); (· first | assumption | (symm; assumption)); (· rfl))))) (hpLe_own ?_ ?_ hpLe_nil))))
                      · rw [hm0]; rfl
                      · rw [hm0]; rfl
                  · intro j hj
                    have ml := hmlen j
                    have mn := hmn j
                    rcases Nat.lt_or_ge j T with j1 | j1
                    · obtain ⟨pD2, hpD, a0⟩ := hWm.ats.cell (x := j + 1) (j := 0) (by omega) rfl
                      cases hpD
                      obtain ⟨pP, rfl, ap⟩ := hWm.pts.cells (x := j + 1) (by omega)
                      have t2 := htb (j + 1) (by omega)
                      generalize atI X Y n (j + 1) = u1 at *
                      generalize X (pi n (j + 1)) = px at *
                      generalize Y (pi n (j + 1)) = py at *
                      by_cases hin : va < u1 ∧ u1 < vb
                      · rw [if_pos hin] at mn
                        obtain ⟨hin1, hin2⟩ := hin
                        (repeat ((try (conv => whnf)); (first | (refine OldCells_one _ a0 ?_) | (refine ap _ ?_) | (with_reducible refine condP_true ?_) | (with_reducible refine condP_false ?_) | (with_reducible refine condP_not ?_) | (with_reducible refine condP_and ?_) | ((with_reducible refine condP_dt ?_ ?_); (· omega)) | ((with_reducible refine condP_df ?_ ?_); (· omega)) | ((with_reducible refine condP_yes ?_ ?_); (· assumption)) | ((with_reducible refine condP_no ?_ ?_); (· assumption)) | ((with_reducible refine ArP_i64 ?_ ?_); (· omega)) | ((with_reducible refine mustP.mk ?_ ?_); (· first | omega | rfl | (dsimp only; omega))) | (with_reducible refine EqP_nil tab_ok ?_) | (with_reducible refine EqP_sli tab_ok ?_) | (with_reducible refine DrawP_auto tab_ok (by kernel_rfl) (by decide +kernel) ?_) | (with_reducible refine DrawP_auto2 tab_ok (by kernel_rfl) (by decide +kernel) ?_) | (with_reducible refine eq43 ?_) | (with_reducible refine eq55 ?_) | (with_reducible refine eq57 ?_) | (with_reducible refine eq93 ?_) | (with_reducible refine eq101 ?_) | (with_reducible refine eq116 ?_) | (with_reducible refine eq119 ?_))))
                        conv => whnf
                        refine ⟨j + 1, by omega, by omega, ?_⟩
                        refine Le_move 6 4 rfl rfl rfl rfl ?_
                        conv => whnf
                        refine Le_head ?_
                        conv => whnf
                        refine Le_mk (by rfl) (by rfl) ?_ ?_
                        · (repeat (first | (with_reducible exact frLe_nil) | (with_reducible refine frLe_any ?_) | (with_reducible refine frLe_val ?_) | ((with_reducible refine frLe_eq rfl ?_ ?_); (· rfl)) | ((with_reducible refine frLe_val' (int_eq ?_) ?_ ?_); (· omega); (· rfl)) | ((with_reducible refine frLe_val' (int_eq ?_) ?_ ?_); (· simp only [Int.natCast_add, Int.natCast_one, Int.natCast_ofNat] <;> omega); (· rfl)) | ((with_reducible refine frLe_val' (bool_eq ?_) ?_ ?_); (· first | assumption | (symm; assumption)); (· rfl))))
                        · refine hpLe_cells (by (repeat (first | (with_reducible exact frLe_nil) | (with_reducible refine frLe_any ?_) | (with_reducible refine frLe_val ?_) | ((with_reducible refine frLe_eq rfl ?_ ?_); (· rfl)) | ((with_reducible refine frLe_val' (int_eq ?_) ?_ ?_); (· omega); (· rfl)) | ((with_reducible refine frLe_val' (int_eq ?_) ?_ ?_); (· simp only [Int.natCast_add, Int.natCast_one, Int.natCast_ofNat] <;> omega); (· rfl)) | ((with_reducible refine frLe_val' (bool_eq ?_) ?_ ?_); (· first | assumption | (symm; assumption)); (· rfl))))) (hpLe_own rfl rfl (hpLe_gone (hpLe_cells (by (repeat (first | (with_reducible exact frLe_nil) | (with_reducible refine frLe_any ?_) | (with_reducible refine frLe_val ?_) | ((with_reducible refine frLe_eq rfl ?_ ?_); (· rfl)) | ((with_reducible refine frLe_val' (int_eq ?_) ?_ ?_); (· omega); (· rfl)) | ((with_reducible refine frLe_val' (int_eq ?_) ?_ ?_); (· simp only [Int.natCast_add, Int.natCast_one, Int.natCast_ofNat] <;> omega); (· rfl)) | ((with_reducible refine frLe_val' (bool_eq ?_) ?_ ?_); (· first | assumption | (symm; assumption)); (· rfl))))) (hpLe_own ?_ ?_ hpLe_nil))))
                          · rw [mn, List.length_append]; simp; omega
                          · rw [mn]; simp [flatP]
                      · rw [if_neg hin, List.append_nil] at mn
                        have hsk : ¬ va < u1 ∨ (va < u1 ∧ ¬ u1 < vb) := by
                          by_cases h6 : va < u1
                          · exact .inr ⟨h6, fun h7 => hin ⟨h6, h7⟩⟩
                          · exact .inl h6
                        clear hin
                        rcases hsk with h5 | ⟨h5, h6⟩
                        all_goals
                          (repeat ((try (conv => whnf)); (first | (refine OldCells_one _ a0 ?_) | (with_reducible refine condP_true ?_) | (with_reducible refine condP_false ?_) | (with_reducible refine condP_not ?_) | (with_reducible refine condP_and ?_) | ((with_reducible refine condP_dt ?_ ?_); (· omega)) | ((with_reducible refine condP_df ?_ ?_); (· omega)) | ((with_reducible refine condP_yes ?_ ?_); (· assumption)) | ((with_reducible refine condP_no ?_ ?_); (· assumption)) | ((with_reducible refine ArP_i64 ?_ ?_); (· omega)) | ((with_reducible refine mustP.mk ?_ ?_); (· first | omega | rfl | (dsimp only; omega))) | (with_reducible refine EqP_nil tab_ok ?_) | (with_reducible refine EqP_sli tab_ok ?_) | (with_reducible refine DrawP_auto tab_ok (by kernel_rfl) (by decide +kernel) ?_) | (with_reducible refine DrawP_auto2 tab_ok (by kernel_rfl) (by decide +kernel) ?_) | (with_reducible refine eq43 ?_) | (with_reducible refine eq55 ?_) | (with_reducible refine eq57 ?_) | (with_reducible refine eq93 ?_) | (with_reducible refine eq101 ?_) | (with_reducible refine eq116 ?_) | (with_reducible refine eq119 ?_))))
                          conv => whnf
                          refine ⟨j + 1, by omega, by omega, ?_⟩
                          refine Le_head ?_
                          conv => whnf
                          refine Le_mk (by rfl) (by rfl) ?_ ?_
                          · (repeat (first | (with_reducible exact frLe_nil) | (with_reducible refine frLe_any ?_) | (with_reducible refine frLe_val ?_) | ((with_reducible refine frLe_eq rfl ?_ ?_); (· rfl)) | ((with_reducible refine frLe_val' (int_eq ?_) ?_ ?_); (· omega); (· rfl)) | ((with_reducible refine frLe_val' (int_eq ?_) ?_ ?_); (· simp only [Int.natCast_add, Int.natCast_one, Int.natCast_ofNat] <;> omega); (· rfl)) | ((with_reducible refine frLe_val' (bool_eq ?_) ?_ ?_); (· first | assumption | (symm; assumption)); (· rfl))))
                          · refine hpLe_cells (by (repeat (first | (with_reducible exact frLe_nil) | (with_reducible refine frLe_any ?_) | (with_reducible refine frLe_val ?_) | ((with_reducible refine frLe_eq rfl ?_ ?_); (· rfl)) | ((with_reducible refine frLe_val' (int_eq ?_) ?_ ?_); (· omega); (· rfl)) | ((with_reducible refine frLe_val' (int_eq ?_) ?_ ?_); (· simp only [Int.natCast_add, Int.natCast_one, Int.natCast_ofNat] <;> omega); (· rfl)) | ((with_reducible refine frLe_val' (bool_eq ?_) ?_ ?_); (· first | assumption | (symm; assumption)); (· rfl))))) (hpLe_own rfl rfl (hpLe_gone (hpLe_cells (by (repeat (first | (with_reducible exact frLe_nil) | (with_reducible refine frLe_any ?_) | (with_reducible refine frLe_val ?_) | ((with_reducible refine frLe_eq rfl ?_ ?_); (· rfl)) | ((with_reducible refine frLe_val' (int_eq ?_) ?_ ?_); (· omega); (· rfl)) | ((with_reducible refine frLe_val' (int_eq ?_) ?_ ?_); (· simp only [Int.natCast_add, Int.natCast_one, Int.natCast_ofNat] <;> omega); (· rfl)) | ((with_reducible refine frLe_val' (bool_eq ?_) ?_ ?_); (· first | assumption | (symm; assumption)); (· rfl))))) (hpLe_own ?_ ?_ hpLe_nil))))
                            · rw [mn]
                            · rw [mn]
                    · obtain rfl : j = T := by omega
                      have epts : dashP (ptX X n) (ptX Y n) (szI X Y n) (atI X Y n) j (dashI P i h E si) = (ax, ay) :: mid j ++ [(bx, by_)] := by
                        unfold dashP
                        rw [ea, eb, pa, pb, ← hml]
                      have efl : flatP ((ax, ay) :: mid j) ++ [.int .i64 bx, .int .i64 by_] = flatP ((ax, ay) :: mid j ++ [(bx, by_)]) := by simp [flatP]
                      have eln : 1 + (mid j).length + 1 = ((ax, ay) :: mid j ++ [(bx, by_)]).length := by simp; omega
                      generalize hpts : (ax, ay) :: mid j ++ [(bx, by_)] = pts at *
                      generalize hmm1 : (mid j).length = ml0 at *
                      generalize flatP ((ax, ay) :: mid j) = row0 at *
                      (repeat ((try (conv => whnf)); (first | (with_reducible refine condP_true ?_) | (with_reducible refine condP_false ?_) | (with_reducible refine condP_not ?_) | (with_reducible refine condP_and ?_) | ((with_reducible refine condP_dt ?_ ?_); (· omega)) | ((with_reducible refine condP_df ?_ ?_); (· omega)) | ((with_reducible refine condP_yes ?_ ?_); (· assumption)) | ((with_reducible refine condP_no ?_ ?_); (· assumption)) | ((with_reducible refine ArP_i64 ?_ ?_); (· omega)) | ((with_reducible refine mustP.mk ?_ ?_); (· first | omega | rfl | (dsimp only; omega))) | (with_reducible refine EqP_nil tab_ok ?_) | (with_reducible refine EqP_sli tab_ok ?_) | (with_reducible refine DrawP_auto tab_ok (by kernel_rfl) (by decide +kernel) ?_) | (with_reducible refine DrawP_auto2 tab_ok (by kernel_rfl) (by decide +kernel) ?_) | (with_reducible refine eq43 ?_) | (with_reducible refine eq55 ?_) | (with_reducible refine eq57 ?_) | (with_reducible refine eq93 ?_) | (with_reducible refine eq101 ?_) | (with_reducible refine eq116 ?_) | (with_reducible refine eq119 ?_) | (with_reducible refine CallP_gives (fun vs w => by kernel_rfl) (by kernel_rfl) (q2) ?_) | (with_reducible refine RCallP_gives (fun vs w => by kernel_rfl) (by kernel_rfl) (q2) ?_))))
                      conv => whnf
                      refine OpP_freeze tab_ok 7 6 rfl rfl rfl rfl rfl rfl fun A3 c3 G3 w1 w3 w4 w5 => ?_
                      have x0 := w1.cell x0
                      (repeat ((try (conv => whnf)); (first | (refine OldCells_one _ x0 ?_) | (with_reducible refine condP_true ?_) | (with_reducible refine condP_false ?_) | (with_reducible refine condP_not ?_) | (with_reducible refine condP_and ?_) | ((with_reducible refine condP_dt ?_ ?_); (· omega)) | ((with_reducible refine condP_df ?_ ?_); (· omega)) | ((with_reducible refine condP_yes ?_ ?_); (· assumption)) | ((with_reducible refine condP_no ?_ ?_); (· assumption)) | ((with_reducible refine ArP_i64 ?_ ?_); (· omega)) | ((with_reducible refine mustP.mk ?_ ?_); (· first | omega | rfl | (dsimp only; omega))) | (with_reducible refine EqP_nil tab_ok ?_) | (with_reducible refine EqP_sli tab_ok ?_) | (with_reducible refine DrawP_auto tab_ok (by kernel_rfl) (by decide +kernel) ?_) | (with_reducible refine DrawP_auto2 tab_ok (by kernel_rfl) (by decide +kernel) ?_) | (with_reducible refine eq43 ?_) | (with_reducible refine eq55 ?_) | (with_reducible refine eq57 ?_) | (with_reducible refine eq93 ?_) | (with_reducible refine eq101 ?_) | (with_reducible refine eq116 ?_) | (with_reducible refine eq119 ?_))))
                      conv => whnf
                      rw [efl] at w5
                      refine ⟨⟨si + 1, sk, G3, sR ++ [⟨A3, c3, pts⟩]⟩, hnext G3 ⟨A3, c3, pts⟩ w1 epts.symm (PtsM_flatD w5), by show _ - (si + 1) < _; omega, ?_⟩
                      have hwa : cumI P i (DSt.i ⟨si + 1, sk, G3, sR ++ [⟨A3, c3, pts⟩]⟩) = w := hw
                      have hwb : cumI P i (DSt.i ⟨si + 1, sk, G3, sR ++ [⟨A3, c3, pts⟩]⟩ + 1) = w2 := hw2
                      rw [hwa, hwb]
                      refine Le_move 8 1 rfl rfl rfl rfl ?_
                      conv => whnf
                      refine Le_head ?_
                      conv => whnf
                      refine Le_mk (by rfl) (by rfl) ?_ ?_
                      · (repeat (first | (with_reducible exact frLe_nil) | (with_reducible refine frLe_any ?_) | (with_reducible refine frLe_val ?_) | ((with_reducible refine frLe_eq rfl ?_ ?_); (· rfl)) | ((with_reducible refine frLe_val' (int_eq ?_) ?_ ?_); (· omega); (· rfl)) | ((with_reducible refine frLe_val' (int_eq ?_) ?_ ?_); (· simp only [Int.natCast_add, Int.natCast_one, Int.natCast_ofNat] <;> omega); (· rfl)) | ((with_reducible refine frLe_val' (bool_eq ?_) ?_ ?_); (· first | assumption | (symm; assumption)); (· rfl))))
                      · refine hpLe_cells (by (repeat (first | (with_reducible exact frLe_nil) | (with_reducible refine frLe_any ?_) | (with_reducible refine frLe_val ?_) | ((with_reducible refine frLe_eq rfl ?_ ?_); (· rfl)) | ((with_reducible refine frLe_val' (int_eq ?_) ?_ ?_); (· omega); (· rfl)) | ((with_reducible refine frLe_val' (int_eq ?_) ?_ ?_); (· simp only [Int.natCast_add, Int.natCast_one, Int.natCast_ofNat] <;> omega); (· rfl)) | ((with_reducible refine frLe_val' (bool_eq ?_) ?_ ?_); (· first | assumption | (symm; assumption)); (· rfl))))) (hpLe_own ?_ ?_ hpLe_nil)
                        · show _ = (sR ++ [_]).length
                          rw [List.length_append]; rfl
                        · show _ = (sR ++ [_]).flatMap RowD.enc
                          rw [List.flatMap_append, eln]; rfl
              · have hnext := hs.skip (by omega) hp1 (fun hd => hpz hd.1)
                obtain ⟨si, sk, sG, sR⟩ := s
                dsimp only at *
                generalize hw2 : cumI P i (si + 1 + 1) = w2 at *
                generalize hw : cumI P i (si + 1) = w at *
                generalize cumI P i si = u at *
                generalize P ((si + 1) % i) = pv at *
                generalize P (si % i) = pv0 at *
                generalize si % 2 = par at *
                (repeat ((try (conv => whnf)); (first | (refine OldCells_one _ x0 ?_) | (with_reducible refine condP_true ?_) | (with_reducible refine condP_false ?_) | (with_reducible refine condP_not ?_) | (with_reducible refine condP_and ?_) | ((with_reducible refine condP_dt ?_ ?_); (· omega)) | ((with_reducible refine condP_df ?_ ?_); (· omega)) | ((with_reducible refine condP_yes ?_ ?_); (· assumption)) | ((with_reducible refine condP_no ?_ ?_); (· assumption)) | ((with_reducible refine ArP_i64 ?_ ?_); (· omega)) | ((with_reducible refine mustP.mk ?_ ?_); (· first | omega | rfl | (dsimp only; omega))) | (with_reducible refine EqP_nil tab_ok ?_) | (with_reducible refine EqP_sli tab_ok ?_) | (with_reducible refine DrawP_auto tab_ok (by kernel_rfl) (by decide +kernel) ?_) | (with_reducible refine DrawP_auto2 tab_ok (by kernel_rfl) (by decide +kernel) ?_) | (with_reducible refine eq43 ?_) | (with_reducible refine eq55 ?_) | (with_reducible refine eq57 ?_) | (with_reducible refine eq93 ?_) | (with_reducible refine eq101 ?_) | (with_reducible refine eq116 ?_) | (with_reducible refine eq119 ?_))))
                conv => whnf
                refine ⟨⟨si + 1, sk, sG, sR⟩, hnext, by show _ - (si + 1) < _; omega, ?_⟩
                have hwa : cumI P i (DSt.i ⟨si + 1, sk, sG, sR⟩) = w := hw
                have hwb : cumI P i (DSt.i ⟨si + 1, sk, sG, sR⟩ + 1) = w2 := hw2
                rw [hwa, hwb]
                ((refine Le_head ?_); (conv => whnf); (refine Le_mk (by rfl) (by rfl) ?_ ?_); (· (repeat (first | (with_reducible exact frLe_nil) | (with_reducible refine frLe_any ?_) | (with_reducible refine frLe_val ?_) | ((with_reducible refine frLe_eq rfl ?_ ?_); (· rfl)) | ((with_reducible refine frLe_val' (int_eq ?_) ?_ ?_); (· omega); (· rfl)) | ((with_reducible refine frLe_val' (int_eq ?_) ?_ ?_); (· simp only [Int.natCast_add, Int.natCast_one, Int.natCast_ofNat] <;> omega); (· rfl)) | ((with_reducible refine frLe_val' (bool_eq ?_) ?_ ?_); (· first | assumption | (symm; assumption)); (· rfl))))))
                exact hpLe_cells (by (repeat (first | (with_reducible exact frLe_nil) | (with_reducible refine frLe_any ?_) | (with_reducible refine frLe_val ?_) | ((with_reducible refine frLe_eq rfl ?_ ?_); (· rfl)) | ((with_reducible refine frLe_val' (int_eq ?_) ?_ ?_); (· omega); (· rfl)) | ((with_reducible refine frLe_val' (int_eq ?_) ?_ ?_); (· simp only [Int.natCast_add, Int.natCast_one, Int.natCast_ofNat] <;> omega); (· rfl)) | ((with_reducible refine frLe_val' (bool_eq ?_) ?_ ?_); (· first | assumption | (symm; assumption)); (· rfl))))) (hpLe_own rfl rfl hpLe_nil)
            · have hge : E ≤ cumI P i s.i - h ∨ E = 0 := by omega
              have hrows := hs.rows
              have hlen := hs.len
              have hnbig : ¬ bigD P i h E ∧ dL P i h E s.i = dL P i h E N := by
                have hl : (dL P i h E s.i).length ≤ 10000 := by have := congrArg List.length hrows; rw [List.length_map, List.length_map] at this; omega
                rcases hge with hge | hge
                · exact ⟨bigD_not hp1 (by omega) hge hl, dL_same hp1 (by omega) hge hN⟩
                · have hz : ∀ x, dL P i h E x = [] := fun x => by
                    cases hx : dL P i h E x with
                    | nil => rfl
                    | cons r t =>
                      have := dL_mem (show r ∈ dL P i h E x by rw [hx]; exact List.mem_cons_self ..)
                      omega
                  exact ⟨fun ⟨x, hx⟩ => by rw [hz] at hx; simp at hx, by rw [hz, hz]⟩
              rw [hnbig.2] at hrows
              have hmem := hs.mem
              (repeat ((try (conv => whnf)); (first | (with_reducible refine condP_true ?_) | (with_reducible refine condP_false ?_) | (with_reducible refine condP_not ?_) | (with_reducible refine condP_and ?_) | ((with_reducible refine condP_dt ?_ ?_); (· omega)) | ((with_reducible refine condP_df ?_ ?_); (· omega)) | ((with_reducible refine condP_yes ?_ ?_); (· assumption)) | ((with_reducible refine condP_no ?_ ?_); (· assumption)) | ((with_reducible refine ArP_i64 ?_ ?_); (· omega)) | ((with_reducible refine mustP.mk ?_ ?_); (· first | omega | rfl | (dsimp only; omega))) | (with_reducible refine EqP_nil tab_ok ?_) | (with_reducible refine EqP_sli tab_ok ?_) | (with_reducible refine DrawP_auto tab_ok (by kernel_rfl) (by decide +kernel) ?_) | (with_reducible refine DrawP_auto2 tab_ok (by kernel_rfl) (by decide +kernel) ?_) | (with_reducible refine eq43 ?_) | (with_reducible refine eq55 ?_) | (with_reducible refine eq57 ?_) | (with_reducible refine eq93 ?_) | (with_reducible refine eq101 ?_) | (with_reducible refine eq116 ?_) | (with_reducible refine eq119 ?_))))
              conv => whnf
              refine .inl ⟨1, _, _, _, _, rfl, rfl, fun G3 A3 hle hF => DaR_of hrows (hmem.mono hle) hF, hnbig.1⟩
variable (hp : ElsM G A 2 n (ptC X Y)) (hq : n ≤ q ∧ q ≤ maxLen) (hn : n ≤ 8) (h0 : 0 < n) (he : lineErr X Y n = 0) (hP : ElsM G B 1 m fun i => [.int .i64 (P i)]) (hm : 1 ≤ m ∧ m ≤ 16) (hpat : ∀ i, i < m → 1 ≤ P i ∧ P i ≤ 65535) (hph : 0 ≤ ph ∧ ph ≤ 1048576)
include hp hq hn h0 he hP hm hpat hph
theorem Dashed_makes (h E : Int) (hh : h = Int.tmod ph (2 * cumI P m m)) (hE : E = atI X Y n (tot n cl)) (N : Nat) (hN : E ≤ cumI P m N - h) (hbig : ¬ bigD P m h E) :
    MakesF Try.prog 15 [.agg [.val (.slice A n q), .val (.bool cl)], .val (.slice B m qm), .val (.int .i64 ph)] G pairT (DaR ((dL P m h E N).map (dashP (ptX X n) (ptX Y n) (szI X Y n) (atI X Y n) (tot n cl)))) :=
  MakesF_ofK tab_ok Try.func15 pairT_wraps (by kernel_rfl) (Dashed_body hp hq hn h0 he hP hm hpat hph h E hh hE N hN) fun v hp' G1 hk => by
    rcases hk with ⟨k, E', sz, n', xs, h1, h2, h3, _⟩ | ⟨_, h1⟩
    · exact ⟨k, E', sz, n', xs, h1, h2, h3⟩
    · exact absurd h1 hbig
theorem Dashed_big (h E : Int) (hh : h = Int.tmod ph (2 * cumI P m m)) (hE : E = atI X Y n (tot n cl)) (N : Nat) (hN : E ≤ cumI P m N - h) (hbig : bigD P m h E) :
    Gives Try.prog 15 [.agg [.val (.slice A n q), .val (.bool cl)], .val (.slice B m qm), .val (.int .i64 ph)] G (.tup [.val (.slice none 0 0), .val (.bool false)]) :=
  Gives_ofK tab_ok Try.func15 rfl (by kernel_rfl) (Dashed_body hp hq hn h0 he hP hm hpat hph h E hh hE N hN) fun v hp' G1 hk => by
    rcases hk with ⟨_, _, _, _, _, _, _, _, h1⟩ | ⟨h1, _⟩
    · exact absurd hbig h1
    · exact h1
end
end Go.Proofs.Ytpgjbfbdappniaa
