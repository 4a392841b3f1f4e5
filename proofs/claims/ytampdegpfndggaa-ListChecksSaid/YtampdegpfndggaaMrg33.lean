/-
  Merged: XListK, XEz.
-/
import Derived.Test.YtampdegpfndggaaMrg32
import Derived.Test.YtampdegpfndggaaEng2
namespace Go.Proofs.Ytampdegpfndggaa
open Go.RowKit
set_option linter.unusedVariables false
set_option linter.unusedSimpArgs false
set_option maxRecDepth 20000
/-- A vector has only some first inks. -/
def fewB (I : Nat → Int) (m : Nat) : Bool := (List.range 8).all fun j => decide (j < m ∨ I j = 0)
theorem fewB_yes {I : Nat → Int} {m : Nat} (h : ∀ j, j < 8 → m ≤ j → I j = 0) : fewB I m = true := by
  unfold fewB
  rw [List.all_eq_true]
  intro j hj
  have h8 := List.mem_range.1 hj
  rcases Nat.lt_or_ge j m with h1 | h1
  · exact decide_eq_true (.inl h1)
  · exact decide_eq_true (.inr (h j h8 h1))
theorem fewB_yes8 {I : Nat → Int} {m : Nat} (h0 : 0 < m ∨ I 0 = 0) (h1 : 1 < m ∨ I 1 = 0) (h2 : 2 < m ∨ I 2 = 0) (h3 : 3 < m ∨ I 3 = 0) (h4 : 4 < m ∨ I 4 = 0) (h5 : 5 < m ∨ I 5 = 0) (h6 : 6 < m ∨ I 6 = 0) (h7 : 7 < m ∨ I 7 = 0) : fewB I m = true := by
  refine fewB_yes fun j hj hm => ?_
  obtain rfl | rfl | rfl | rfl | rfl | rfl | rfl | rfl : j = 0 ∨ j = 1 ∨ j = 2 ∨ j = 3 ∨ j = 4 ∨ j = 5 ∨ j = 6 ∨ j = 7 := by omega
  all_goals omega
theorem fewB_no {I : Nat → Int} {m : Nat} (j : Nat) (h : j < 8) (h1 : m ≤ j) (h2 : ¬ I j = 0) : fewB I m = false := by
  unfold fewB
  rw [List.all_eq_false]
  exact ⟨j, List.mem_range.2 h, by rw [decide_eq_true_eq]; omega⟩
def allB (f : Nat → Bool) : Nat → Bool
  | 0 => true
  | n + 1 => allB f n && f n
/-- The error of a source. -/
def srcM (k : Int) (z p i fw sg pg : Bool) (gE iE : Int) : Int :=
  if k = 0 then (if z = true ∧ p = true ∧ fw = true then 0 else 4) else if k = 1 ∨ k = 2 then (if gE = 0 then (if sg = true then 0 else 4) else gE) else if k = 3 then (if z = true ∧ i = true then (if iE = 0 then (if pg = true then 0 else 4) else iE) else 4) else 14
section
variable {k : Int} {I : Nat → Int} {fx fy tx ty r : Int} {A : Option Addr} {n q : Nat} {W H : Int} {B : Option Addr} {pn pq : Nat} {C : Option Addr} {sn sq : Nat} {a b c d e f : Int} {s t : Bool} {G : Mem} {gE iE : Int} {T : Nat → Int} {D D' : Nat → Nat → Int} {m : Nat}
set_option maxHeartbeats 4000000 in
theorem fewM_gives (hm : 1 ≤ m ∧ m ≤ 8) : Gives Try.prog 115 [.agg [.val (.int .u8 (I 0)), .val (.int .u8 (I 1)), .val (.int .u8 (I 2)), .val (.int .u8 (I 3)), .val (.int .u8 (I 4)), .val (.int .u8 (I 5)), .val (.int .u8 (I 6)), .val (.int .u8 (I 7))], .val (.int .i64 m)] G (.val (.bool (fewB I m))) := by
  refine Gives_of tab_ok Try.func115 ?_
  obtain rfl | rfl | rfl | rfl | rfl | rfl | rfl | rfl : m = 1 ∨ m = 2 ∨ m = 3 ∨ m = 4 ∨ m = 5 ∨ m = 6 ∨ m = 7 ∨ m = 8 := by omega
  all_goals
    (repeat' ((try (conv => whnf)); (first | (with_reducible refine LoopP_step tab_ok ?_) | (with_reducible refine condP_true ?_) | (with_reducible refine condP_false ?_) | (with_reducible refine condP_not ?_) | (with_reducible refine condP_and ?_) | ((with_reducible refine condP_dt ?_ ?_); (· omega)) | ((with_reducible refine condP_df ?_ ?_); (· omega)) | ((with_reducible refine condP_yes ?_ ?_); (· assumption)) | ((with_reducible refine condP_no ?_ ?_); (· assumption)) | ((with_reducible refine ArP_i64 ?_ ?_); (· omega)) | ((with_reducible refine mustP.mk ?_ ?_); (· first | omega | rfl | (dsimp only; omega))) | (with_reducible refine EqP_nil tab_ok ?_) | (with_reducible refine EqP_sli tab_ok ?_) | (with_reducible refine DrawP_auto tab_ok (by kernel_rfl) (by decide +kernel) ?_) | (with_reducible refine DrawP_auto2 tab_ok (by kernel_rfl) (by decide +kernel) ?_) | (with_reducible refine eq29 ?_) | (with_reducible refine eq31 ?_) | (with_reducible refine eq48 ?_) | (with_reducible refine eq52 ?_) | (with_reducible refine eq83 ?_) | (with_reducible refine eq110 ?_) | (with_reducible refine eq136 ?_) | (with_reducible refine eq155 ?_) | (with_reducible refine eq163 ?_) | (with_reducible refine eq170 ?_) | (with_reducible refine condP_dec (fun h0 => ?_) (fun h0 => ?_)))))
    all_goals first
      | exact ⟨by rw [fewB_yes8 (by omega) (by omega) (by omega) (by omega) (by omega) (by omega) (by omega) (by omega)]; try rfl, rfl⟩
      | exact ⟨by rw [fewB_no 0 (by omega) (by omega) (by assumption)]; try rfl, rfl⟩
      | exact ⟨by rw [fewB_no 1 (by omega) (by omega) (by assumption)]; try rfl, rfl⟩
      | exact ⟨by rw [fewB_no 2 (by omega) (by omega) (by assumption)]; try rfl, rfl⟩
      | exact ⟨by rw [fewB_no 3 (by omega) (by omega) (by assumption)]; try rfl, rfl⟩
      | exact ⟨by rw [fewB_no 4 (by omega) (by omega) (by assumption)]; try rfl, rfl⟩
      | exact ⟨by rw [fewB_no 5 (by omega) (by omega) (by assumption)]; try rfl, rfl⟩
      | exact ⟨by rw [fewB_no 6 (by omega) (by omega) (by assumption)]; try rfl, rfl⟩
      | exact ⟨by rw [fewB_no 7 (by omega) (by omega) (by assumption)]; try rfl, rfl⟩
set_option maxHeartbeats 4000000 in
theorem moreM_gives (hm : 1 ≤ m ∧ m ≤ 8) (hI : ∀ j, j < 8 → 0 ≤ I j) : Gives Try.prog 84 [.agg [.val (.int .u8 (I 0)), .val (.int .u8 (I 1)), .val (.int .u8 (I 2)), .val (.int .u8 (I 3)), .val (.int .u8 (I 4)), .val (.int .u8 (I 5)), .val (.int .u8 (I 6)), .val (.int .u8 (I 7))], .val (.int .i64 m)] G (.val (.bool (!fewB I m))) := by
  have p0 := hI 0 (by omega)
  have p1 := hI 1 (by omega)
  have p2 := hI 2 (by omega)
  have p3 := hI 3 (by omega)
  have p4 := hI 4 (by omega)
  have p5 := hI 5 (by omega)
  have p6 := hI 6 (by omega)
  have p7 := hI 7 (by omega)
  refine Gives_of tab_ok Try.func84 ?_
  obtain rfl | rfl | rfl | rfl | rfl | rfl | rfl | rfl : m = 1 ∨ m = 2 ∨ m = 3 ∨ m = 4 ∨ m = 5 ∨ m = 6 ∨ m = 7 ∨ m = 8 := by omega
  all_goals
    (repeat' ((try (conv => whnf)); (first | (with_reducible refine LoopP_step tab_ok ?_) | (with_reducible refine condP_true ?_) | (with_reducible refine condP_false ?_) | (with_reducible refine condP_not ?_) | (with_reducible refine condP_and ?_) | ((with_reducible refine condP_dt ?_ ?_); (· omega)) | ((with_reducible refine condP_df ?_ ?_); (· omega)) | ((with_reducible refine condP_yes ?_ ?_); (· assumption)) | ((with_reducible refine condP_no ?_ ?_); (· assumption)) | ((with_reducible refine ArP_i64 ?_ ?_); (· omega)) | ((with_reducible refine mustP.mk ?_ ?_); (· first | omega | rfl | (dsimp only; omega))) | (with_reducible refine EqP_nil tab_ok ?_) | (with_reducible refine EqP_sli tab_ok ?_) | (with_reducible refine DrawP_auto tab_ok (by kernel_rfl) (by decide +kernel) ?_) | (with_reducible refine DrawP_auto2 tab_ok (by kernel_rfl) (by decide +kernel) ?_) | (with_reducible refine eq29 ?_) | (with_reducible refine eq31 ?_) | (with_reducible refine eq48 ?_) | (with_reducible refine eq52 ?_) | (with_reducible refine eq83 ?_) | (with_reducible refine eq110 ?_) | (with_reducible refine eq136 ?_) | (with_reducible refine eq155 ?_) | (with_reducible refine eq163 ?_) | (with_reducible refine eq170 ?_) | (with_reducible refine condP_dec (fun h0 => ?_) (fun h0 => ?_)))))
    all_goals first
      | exact ⟨by rw [fewB_yes8 (by omega) (by omega) (by omega) (by omega) (by omega) (by omega) (by omega) (by omega)]; try rfl, rfl⟩
      | exact ⟨by rw [fewB_no 0 (by omega) (by omega) (by omega)]; try rfl, rfl⟩
      | exact ⟨by rw [fewB_no 1 (by omega) (by omega) (by omega)]; try rfl, rfl⟩
      | exact ⟨by rw [fewB_no 2 (by omega) (by omega) (by omega)]; try rfl, rfl⟩
      | exact ⟨by rw [fewB_no 3 (by omega) (by omega) (by omega)]; try rfl, rfl⟩
      | exact ⟨by rw [fewB_no 4 (by omega) (by omega) (by omega)]; try rfl, rfl⟩
      | exact ⟨by rw [fewB_no 5 (by omega) (by omega) (by omega)]; try rfl, rfl⟩
      | exact ⟨by rw [fewB_no 6 (by omega) (by omega) (by omega)]; try rfl, rfl⟩
      | exact ⟨by rw [fewB_no 7 (by omega) (by omega) (by omega)]; try rfl, rfl⟩
set_option maxHeartbeats 8000000 in
theorem CheckSourceM_gives (hm : 1 ≤ m ∧ m ≤ 8) (hG : Gives Try.prog 65 [srcA k I fx fy tx ty r (.slice A n q) W H (.slice B pn pq) (.slice C sn sq) a b c d e f s t] G (.val (.int .i64 gE)))
    (hI : Gives Try.prog 70 [imgA W H (.slice B pn pq) (.slice C sn sq) a b c d e f s t] G (.val (.int .i64 iE)))
    (hS : StopM G A n T D) (hP : PixM G B pn D') (hn : n ≤ 9223372036854775807) (hpn : pn ≤ 9223372036854775807) :
    Gives Try.prog 81 [srcA k I fx fy tx ty r (.slice A n q) W H (.slice B pn pq) (.slice C sn sq) a b c d e f s t, .val (.int .i64 m)] G (.val (.int .i64 (srcM k (zeroB fx fy tx ty r n) (plainB W H pn sn a b c d e f s t) (inkZ (I 0) (I 1) (I 2) (I 3) (I 4) (I 5) (I 6) (I 7)) (fewB I m) (allB (fun j => fewB (D j) m) n) (allB (fun j => fewB (D' j) m) pn) gE iE))) := by
  have gz := isZero_gives (k := k) (I := I) (fx := fx) (fy := fy) (tx := tx) (ty := ty) (r := r) (A := A) (n := n) (q := q) (W := W) (H := H) (B := B) (pn := pn) (pq := pq) (C := C) (sn := sn) (sq := sq) (a := a) (b := b) (c := c) (d := d) (e := e) (f := f) (s := s) (t := t) (G := G)
  have gp := noImage_gives (W := W) (H := H) (B := B) (pn := pn) (pq := pq) (C := C) (sn := sn) (sq := sq) (a := a) (b := b) (c := c) (d := d) (e := e) (f := f) (s := s) (t := t) (G := G)
  have gw := fewM_gives (I := I) (G := G) hm
  refine Gives_of tab_ok Try.func81 ?_
  generalize zeroB fx fy tx ty r n = z at *
  generalize plainB W H pn sn a b c d e f s t = p at *
  by_cases k0 : k = 0
  · subst k0
    generalize fewB I m = fw at *
    cases z <;> cases p <;> cases fw <;> ((repeat ((try (conv => whnf)); (first | (with_reducible refine condP_true ?_) | (with_reducible refine condP_false ?_) | (with_reducible refine condP_not ?_) | (with_reducible refine condP_and ?_) | ((with_reducible refine condP_dt ?_ ?_); (· omega)) | ((with_reducible refine condP_df ?_ ?_); (· omega)) | ((with_reducible refine condP_yes ?_ ?_); (· assumption)) | ((with_reducible refine condP_no ?_ ?_); (· assumption)) | ((with_reducible refine ArP_i64 ?_ ?_); (· omega)) | ((with_reducible refine mustP.mk ?_ ?_); (· first | omega | rfl | (dsimp only; omega))) | (with_reducible refine EqP_nil tab_ok ?_) | (with_reducible refine EqP_sli tab_ok ?_) | (with_reducible refine DrawP_auto tab_ok (by kernel_rfl) (by decide +kernel) ?_) | (with_reducible refine DrawP_auto2 tab_ok (by kernel_rfl) (by decide +kernel) ?_) | (with_reducible refine eq29 ?_) | (with_reducible refine eq31 ?_) | (with_reducible refine eq48 ?_) | (with_reducible refine eq52 ?_) | (with_reducible refine eq83 ?_) | (with_reducible refine eq110 ?_) | (with_reducible refine eq136 ?_) | (with_reducible refine eq155 ?_) | (with_reducible refine eq163 ?_) | (with_reducible refine eq170 ?_) | (with_reducible refine CallP_gives (fun vs w => by kernel_rfl) (by kernel_rfl) (gz) ?_) | (with_reducible refine RCallP_gives (fun vs w => by kernel_rfl) (by kernel_rfl) (gz) ?_) | (with_reducible refine CallP_gives (fun vs w => by kernel_rfl) (by kernel_rfl) (gp) ?_) | (with_reducible refine RCallP_gives (fun vs w => by kernel_rfl) (by kernel_rfl) (gp) ?_) | (with_reducible refine CallP_gives (fun vs w => by kernel_rfl) (by kernel_rfl) (gw) ?_) | (with_reducible refine RCallP_gives (fun vs w => by kernel_rfl) (by kernel_rfl) (gw) ?_))))) <;> exact ⟨rfl, rfl⟩
  by_cases k3 : k = 3
  · subst k3
    cases z
    · (repeat ((try (conv => whnf)); (first | (with_reducible refine condP_true ?_) | (with_reducible refine condP_false ?_) | (with_reducible refine condP_not ?_) | (with_reducible refine condP_and ?_) | ((with_reducible refine condP_dt ?_ ?_); (· omega)) | ((with_reducible refine condP_df ?_ ?_); (· omega)) | ((with_reducible refine condP_yes ?_ ?_); (· assumption)) | ((with_reducible refine condP_no ?_ ?_); (· assumption)) | ((with_reducible refine ArP_i64 ?_ ?_); (· omega)) | ((with_reducible refine mustP.mk ?_ ?_); (· first | omega | rfl | (dsimp only; omega))) | (with_reducible refine EqP_nil tab_ok ?_) | (with_reducible refine EqP_sli tab_ok ?_) | (with_reducible refine DrawP_auto tab_ok (by kernel_rfl) (by decide +kernel) ?_) | (with_reducible refine DrawP_auto2 tab_ok (by kernel_rfl) (by decide +kernel) ?_) | (with_reducible refine eq29 ?_) | (with_reducible refine eq31 ?_) | (with_reducible refine eq48 ?_) | (with_reducible refine eq52 ?_) | (with_reducible refine eq83 ?_) | (with_reducible refine eq110 ?_) | (with_reducible refine eq136 ?_) | (with_reducible refine eq155 ?_) | (with_reducible refine eq163 ?_) | (with_reducible refine eq170 ?_) | (with_reducible refine CallP_gives (fun vs w => by kernel_rfl) (by kernel_rfl) (gz) ?_) | (with_reducible refine RCallP_gives (fun vs w => by kernel_rfl) (by kernel_rfl) (gz) ?_))))
      exact ⟨rfl, rfl⟩
    · have gi := inks_zero (I := I)
      cases hi : inkZ (I 0) (I 1) (I 2) (I 3) (I 4) (I 5) (I 6) (I 7)
      · rw [hi] at gi
        clear hI hP hS
        (repeat' ((try (conv => whnf)); (first | (with_reducible refine condP_true ?_) | (with_reducible refine condP_false ?_) | (with_reducible refine condP_not ?_) | (with_reducible refine condP_and ?_) | ((with_reducible refine condP_dt ?_ ?_); (· omega)) | ((with_reducible refine condP_df ?_ ?_); (· omega)) | ((with_reducible refine condP_yes ?_ ?_); (· assumption)) | ((with_reducible refine condP_no ?_ ?_); (· assumption)) | ((with_reducible refine ArP_i64 ?_ ?_); (· omega)) | ((with_reducible refine mustP.mk ?_ ?_); (· first | omega | rfl | (dsimp only; omega))) | (with_reducible refine EqP_nil tab_ok ?_) | (with_reducible refine EqP_sli tab_ok ?_) | (with_reducible refine DrawP_auto tab_ok (by kernel_rfl) (by decide +kernel) ?_) | (with_reducible refine DrawP_auto2 tab_ok (by kernel_rfl) (by decide +kernel) ?_) | (with_reducible refine eq29 ?_) | (with_reducible refine eq31 ?_) | (with_reducible refine eq48 ?_) | (with_reducible refine eq52 ?_) | (with_reducible refine eq83 ?_) | (with_reducible refine eq110 ?_) | (with_reducible refine eq136 ?_) | (with_reducible refine eq155 ?_) | (with_reducible refine eq163 ?_) | (with_reducible refine eq170 ?_) | (with_reducible refine CallP_gives (fun vs w => by kernel_rfl) (by kernel_rfl) (gz) ?_) | (with_reducible refine RCallP_gives (fun vs w => by kernel_rfl) (by kernel_rfl) (gz) ?_) | (with_reducible refine condP_dec (fun h0 => ?_) (fun h0 => ?_)))))
        all_goals first | exact ⟨rfl, rfl⟩ | exact absurd (gi.2 ⟨by assumption, by assumption, by assumption, by assumption, by assumption, by assumption, by assumption, by assumption⟩) (by simp)
      · rw [hi] at gi
        obtain ⟨e0, e1, e2, e3, e4, e5, e6, e7⟩ := gi.1 rfl
        by_cases he : iE = 0
        · subst he
          (repeat ((try (conv => whnf)); (first | (with_reducible refine condP_true ?_) | (with_reducible refine condP_false ?_) | (with_reducible refine condP_not ?_) | (with_reducible refine condP_and ?_) | ((with_reducible refine condP_dt ?_ ?_); (· omega)) | ((with_reducible refine condP_df ?_ ?_); (· omega)) | ((with_reducible refine condP_yes ?_ ?_); (· assumption)) | ((with_reducible refine condP_no ?_ ?_); (· assumption)) | ((with_reducible refine ArP_i64 ?_ ?_); (· omega)) | ((with_reducible refine mustP.mk ?_ ?_); (· first | omega | rfl | (dsimp only; omega))) | (with_reducible refine EqP_nil tab_ok ?_) | (with_reducible refine EqP_sli tab_ok ?_) | (with_reducible refine DrawP_auto tab_ok (by kernel_rfl) (by decide +kernel) ?_) | (with_reducible refine DrawP_auto2 tab_ok (by kernel_rfl) (by decide +kernel) ?_) | (with_reducible refine eq29 ?_) | (with_reducible refine eq31 ?_) | (with_reducible refine eq48 ?_) | (with_reducible refine eq52 ?_) | (with_reducible refine eq83 ?_) | (with_reducible refine eq110 ?_) | (with_reducible refine eq136 ?_) | (with_reducible refine eq155 ?_) | (with_reducible refine eq163 ?_) | (with_reducible refine eq170 ?_) | (with_reducible refine CallP_gives (fun vs w => by kernel_rfl) (by kernel_rfl) (gz) ?_) | (with_reducible refine RCallP_gives (fun vs w => by kernel_rfl) (by kernel_rfl) (gz) ?_) | (with_reducible refine CallP_gives (fun vs w => by kernel_rfl) (by kernel_rfl) (hI) ?_) | (with_reducible refine RCallP_gives (fun vs w => by kernel_rfl) (by kernel_rfl) (hI) ?_))))
          conv => whnf
          refine LoopP_at tab_ok (fun x => x ≤ pn) (fun (x : Nat) => [(73, .val (.int .i64 x)), (5, .val (.bool (allB (fun j => fewB (D' j) m) x)))]) (fun x => [.gone]) (fun x => pn - x) 0 (Nat.zero_le _) ?_ ?_
          · ((refine Le_head ?_); (conv => whnf); (refine Le_mk (by rfl) (by rfl) ?_ ?_); (· (repeat (first | (with_reducible exact frLe_nil) | (with_reducible refine frLe_any ?_) | (with_reducible refine frLe_val ?_) | ((with_reducible refine frLe_eq rfl ?_ ?_); (· rfl)) | ((with_reducible refine frLe_val' (int_eq ?_) ?_ ?_); (· omega); (· rfl)) | ((with_reducible refine frLe_val' (int_eq ?_) ?_ ?_); (· simp only [Int.natCast_add, Int.natCast_one, Int.natCast_ofNat] <;> omega); (· rfl)) | ((with_reducible refine frLe_val' (bool_eq ?_) ?_ ?_); (· first | assumption | (symm; assumption)); (· rfl))))))
            exact hpLe_gone hpLe_nil
          · rintro x hx
            rcases Nat.lt_or_ge x pn with h1 | h1
            · obtain ⟨u, rfl, ca⟩ := hP x h1
              have hs : (allB (fun j => fewB (D' j) m) (x + 1)) = ((allB (fun j => fewB (D' j) m) x && fewB (D' x) m)) := rfl
              generalize allB (fun j => fewB (D' j) m) x = g0 at *
              have gf := fewM_gives (I := D' x) (G := G) hm
              generalize fewB (D' x) m = g2 at *
              cases g0 <;> cases g2
              all_goals
                (repeat ((try (conv => whnf)); (first | (refine ca _ ?_) | (with_reducible refine condP_true ?_) | (with_reducible refine condP_false ?_) | (with_reducible refine condP_not ?_) | (with_reducible refine condP_and ?_) | ((with_reducible refine condP_dt ?_ ?_); (· omega)) | ((with_reducible refine condP_df ?_ ?_); (· omega)) | ((with_reducible refine condP_yes ?_ ?_); (· assumption)) | ((with_reducible refine condP_no ?_ ?_); (· assumption)) | ((with_reducible refine ArP_i64 ?_ ?_); (· omega)) | ((with_reducible refine mustP.mk ?_ ?_); (· first | omega | rfl | (dsimp only; omega))) | (with_reducible refine EqP_nil tab_ok ?_) | (with_reducible refine EqP_sli tab_ok ?_) | (with_reducible refine DrawP_auto tab_ok (by kernel_rfl) (by decide +kernel) ?_) | (with_reducible refine DrawP_auto2 tab_ok (by kernel_rfl) (by decide +kernel) ?_) | (with_reducible refine eq29 ?_) | (with_reducible refine eq31 ?_) | (with_reducible refine eq48 ?_) | (with_reducible refine eq52 ?_) | (with_reducible refine eq83 ?_) | (with_reducible refine eq110 ?_) | (with_reducible refine eq136 ?_) | (with_reducible refine eq155 ?_) | (with_reducible refine eq163 ?_) | (with_reducible refine eq170 ?_) | (with_reducible refine CallP_gives (fun vs w => by kernel_rfl) (by kernel_rfl) (gf) ?_) | (with_reducible refine RCallP_gives (fun vs w => by kernel_rfl) (by kernel_rfl) (gf) ?_))))
                refine ⟨x + 1, by omega, by omega, ?_⟩
                ((refine Le_head ?_); (conv => whnf); (refine Le_mk (by rfl) (by rfl) ?_ ?_); (· (repeat (first | (with_reducible exact frLe_nil) | (with_reducible refine frLe_any ?_) | (with_reducible refine frLe_val ?_) | ((with_reducible refine frLe_eq rfl ?_ ?_); (· rfl)) | ((with_reducible refine frLe_val' (int_eq ?_) ?_ ?_); (· omega); (· rfl)) | ((with_reducible refine frLe_val' (int_eq ?_) ?_ ?_); (· simp only [Int.natCast_add, Int.natCast_one, Int.natCast_ofNat] <;> omega); (· rfl)) | ((with_reducible refine frLe_val' (bool_eq ?_) ?_ ?_); (· first | assumption | (symm; assumption)); (· rfl))))))
                exact hpLe_gone hpLe_nil
            · obtain rfl : x = pn := by omega
              generalize allB (fun j => fewB (D' j) m) x = g0 at *
              cases g0
              all_goals
                (repeat ((try (conv => whnf)); (first | (with_reducible refine condP_true ?_) | (with_reducible refine condP_false ?_) | (with_reducible refine condP_not ?_) | (with_reducible refine condP_and ?_) | ((with_reducible refine condP_dt ?_ ?_); (· omega)) | ((with_reducible refine condP_df ?_ ?_); (· omega)) | ((with_reducible refine condP_yes ?_ ?_); (· assumption)) | ((with_reducible refine condP_no ?_ ?_); (· assumption)) | ((with_reducible refine ArP_i64 ?_ ?_); (· omega)) | ((with_reducible refine mustP.mk ?_ ?_); (· first | omega | rfl | (dsimp only; omega))) | (with_reducible refine EqP_nil tab_ok ?_) | (with_reducible refine EqP_sli tab_ok ?_) | (with_reducible refine DrawP_auto tab_ok (by kernel_rfl) (by decide +kernel) ?_) | (with_reducible refine DrawP_auto2 tab_ok (by kernel_rfl) (by decide +kernel) ?_) | (with_reducible refine eq29 ?_) | (with_reducible refine eq31 ?_) | (with_reducible refine eq48 ?_) | (with_reducible refine eq52 ?_) | (with_reducible refine eq83 ?_) | (with_reducible refine eq110 ?_) | (with_reducible refine eq136 ?_) | (with_reducible refine eq155 ?_) | (with_reducible refine eq163 ?_) | (with_reducible refine eq170 ?_))))
                exact ⟨rfl, rfl⟩
        · have hr : srcM 3 true p true (fewB I m) (allB (fun j => fewB (D j) m) n) (allB (fun j => fewB (D' j) m) pn) gE iE = iE := by unfold srcM; simp [he]
          rw [hr]
          (repeat ((try (conv => whnf)); (first | (with_reducible refine condP_true ?_) | (with_reducible refine condP_false ?_) | (with_reducible refine condP_not ?_) | (with_reducible refine condP_and ?_) | ((with_reducible refine condP_dt ?_ ?_); (· omega)) | ((with_reducible refine condP_df ?_ ?_); (· omega)) | ((with_reducible refine condP_yes ?_ ?_); (· assumption)) | ((with_reducible refine condP_no ?_ ?_); (· assumption)) | ((with_reducible refine ArP_i64 ?_ ?_); (· omega)) | ((with_reducible refine mustP.mk ?_ ?_); (· first | omega | rfl | (dsimp only; omega))) | (with_reducible refine EqP_nil tab_ok ?_) | (with_reducible refine EqP_sli tab_ok ?_) | (with_reducible refine DrawP_auto tab_ok (by kernel_rfl) (by decide +kernel) ?_) | (with_reducible refine DrawP_auto2 tab_ok (by kernel_rfl) (by decide +kernel) ?_) | (with_reducible refine eq29 ?_) | (with_reducible refine eq31 ?_) | (with_reducible refine eq48 ?_) | (with_reducible refine eq52 ?_) | (with_reducible refine eq83 ?_) | (with_reducible refine eq110 ?_) | (with_reducible refine eq136 ?_) | (with_reducible refine eq155 ?_) | (with_reducible refine eq163 ?_) | (with_reducible refine eq170 ?_) | (with_reducible refine CallP_gives (fun vs w => by kernel_rfl) (by kernel_rfl) (gz) ?_) | (with_reducible refine RCallP_gives (fun vs w => by kernel_rfl) (by kernel_rfl) (gz) ?_) | (with_reducible refine CallP_gives (fun vs w => by kernel_rfl) (by kernel_rfl) (hI) ?_) | (with_reducible refine RCallP_gives (fun vs w => by kernel_rfl) (by kernel_rfl) (hI) ?_))))
          exact ⟨rfl, rfl⟩
  by_cases k12 : k = 1 ∨ k = 2
  · by_cases hg : gE = 0
    · subst hg
      have hr : srcM k z p (inkZ (I 0) (I 1) (I 2) (I 3) (I 4) (I 5) (I 6) (I 7)) (fewB I m) (allB (fun j => fewB (D j) m) n) (allB (fun j => fewB (D' j) m) pn) 0 iE = if allB (fun j => fewB (D j) m) n = true then 0 else 4 := by unfold srcM; rw [if_neg k0, if_pos k12, if_pos rfl]
      rw [hr]
      rcases k12 with rfl | rfl
      · (repeat ((try (conv => whnf)); (first | (with_reducible refine condP_true ?_) | (with_reducible refine condP_false ?_) | (with_reducible refine condP_not ?_) | (with_reducible refine condP_and ?_) | ((with_reducible refine condP_dt ?_ ?_); (· omega)) | ((with_reducible refine condP_df ?_ ?_); (· omega)) | ((with_reducible refine condP_yes ?_ ?_); (· assumption)) | ((with_reducible refine condP_no ?_ ?_); (· assumption)) | ((with_reducible refine ArP_i64 ?_ ?_); (· omega)) | ((with_reducible refine mustP.mk ?_ ?_); (· first | omega | rfl | (dsimp only; omega))) | (with_reducible refine EqP_nil tab_ok ?_) | (with_reducible refine EqP_sli tab_ok ?_) | (with_reducible refine DrawP_auto tab_ok (by kernel_rfl) (by decide +kernel) ?_) | (with_reducible refine DrawP_auto2 tab_ok (by kernel_rfl) (by decide +kernel) ?_) | (with_reducible refine eq29 ?_) | (with_reducible refine eq31 ?_) | (with_reducible refine eq48 ?_) | (with_reducible refine eq52 ?_) | (with_reducible refine eq83 ?_) | (with_reducible refine eq110 ?_) | (with_reducible refine eq136 ?_) | (with_reducible refine eq155 ?_) | (with_reducible refine eq163 ?_) | (with_reducible refine eq170 ?_) | (with_reducible refine CallP_gives (fun vs w => by kernel_rfl) (by kernel_rfl) (hG) ?_) | (with_reducible refine RCallP_gives (fun vs w => by kernel_rfl) (by kernel_rfl) (hG) ?_))))
        conv => whnf
        refine LoopP_at tab_ok (fun x => x ≤ n) (fun (x : Nat) => [(40, .val (.int .i64 x)), (5, .val (.bool (allB (fun j => fewB (D j) m) x)))]) (fun x => [.gone]) (fun x => n - x) 0 (Nat.zero_le _) ?_ ?_
        · ((refine Le_head ?_); (conv => whnf); (refine Le_mk (by rfl) (by rfl) ?_ ?_); (· (repeat (first | (with_reducible exact frLe_nil) | (with_reducible refine frLe_any ?_) | (with_reducible refine frLe_val ?_) | ((with_reducible refine frLe_eq rfl ?_ ?_); (· rfl)) | ((with_reducible refine frLe_val' (int_eq ?_) ?_ ?_); (· omega); (· rfl)) | ((with_reducible refine frLe_val' (int_eq ?_) ?_ ?_); (· simp only [Int.natCast_add, Int.natCast_one, Int.natCast_ofNat] <;> omega); (· rfl)) | ((with_reducible refine frLe_val' (bool_eq ?_) ?_ ?_); (· first | assumption | (symm; assumption)); (· rfl))))))
          exact hpLe_gone hpLe_nil
        · rintro x hx
          rcases Nat.lt_or_ge x n with h1 | h1
          · obtain ⟨u, rfl, ca⟩ := hS x h1
            have hs : (allB (fun j => fewB (D j) m) (x + 1)) = ((allB (fun j => fewB (D j) m) x && fewB (D x) m)) := rfl
            generalize allB (fun j => fewB (D j) m) x = g0 at *
            have gf := fewM_gives (I := D x) (G := G) hm
            generalize fewB (D x) m = g2 at *
            cases g0 <;> cases g2
            all_goals
              (repeat ((try (conv => whnf)); (first | (refine ca _ ?_) | (with_reducible refine condP_true ?_) | (with_reducible refine condP_false ?_) | (with_reducible refine condP_not ?_) | (with_reducible refine condP_and ?_) | ((with_reducible refine condP_dt ?_ ?_); (· omega)) | ((with_reducible refine condP_df ?_ ?_); (· omega)) | ((with_reducible refine condP_yes ?_ ?_); (· assumption)) | ((with_reducible refine condP_no ?_ ?_); (· assumption)) | ((with_reducible refine ArP_i64 ?_ ?_); (· omega)) | ((with_reducible refine mustP.mk ?_ ?_); (· first | omega | rfl | (dsimp only; omega))) | (with_reducible refine EqP_nil tab_ok ?_) | (with_reducible refine EqP_sli tab_ok ?_) | (with_reducible refine DrawP_auto tab_ok (by kernel_rfl) (by decide +kernel) ?_) | (with_reducible refine DrawP_auto2 tab_ok (by kernel_rfl) (by decide +kernel) ?_) | (with_reducible refine eq29 ?_) | (with_reducible refine eq31 ?_) | (with_reducible refine eq48 ?_) | (with_reducible refine eq52 ?_) | (with_reducible refine eq83 ?_) | (with_reducible refine eq110 ?_) | (with_reducible refine eq136 ?_) | (with_reducible refine eq155 ?_) | (with_reducible refine eq163 ?_) | (with_reducible refine eq170 ?_) | (with_reducible refine CallP_gives (fun vs w => by kernel_rfl) (by kernel_rfl) (gf) ?_) | (with_reducible refine RCallP_gives (fun vs w => by kernel_rfl) (by kernel_rfl) (gf) ?_))))
              refine ⟨x + 1, by omega, by omega, ?_⟩
              ((refine Le_head ?_); (conv => whnf); (refine Le_mk (by rfl) (by rfl) ?_ ?_); (· (repeat (first | (with_reducible exact frLe_nil) | (with_reducible refine frLe_any ?_) | (with_reducible refine frLe_val ?_) | ((with_reducible refine frLe_eq rfl ?_ ?_); (· rfl)) | ((with_reducible refine frLe_val' (int_eq ?_) ?_ ?_); (· omega); (· rfl)) | ((with_reducible refine frLe_val' (int_eq ?_) ?_ ?_); (· simp only [Int.natCast_add, Int.natCast_one, Int.natCast_ofNat] <;> omega); (· rfl)) | ((with_reducible refine frLe_val' (bool_eq ?_) ?_ ?_); (· first | assumption | (symm; assumption)); (· rfl))))))
              exact hpLe_gone hpLe_nil
          · obtain rfl : x = n := by omega
            generalize allB (fun j => fewB (D j) m) x = g0 at *
            cases g0
            all_goals
              (repeat ((try (conv => whnf)); (first | (with_reducible refine condP_true ?_) | (with_reducible refine condP_false ?_) | (with_reducible refine condP_not ?_) | (with_reducible refine condP_and ?_) | ((with_reducible refine condP_dt ?_ ?_); (· omega)) | ((with_reducible refine condP_df ?_ ?_); (· omega)) | ((with_reducible refine condP_yes ?_ ?_); (· assumption)) | ((with_reducible refine condP_no ?_ ?_); (· assumption)) | ((with_reducible refine ArP_i64 ?_ ?_); (· omega)) | ((with_reducible refine mustP.mk ?_ ?_); (· first | omega | rfl | (dsimp only; omega))) | (with_reducible refine EqP_nil tab_ok ?_) | (with_reducible refine EqP_sli tab_ok ?_) | (with_reducible refine DrawP_auto tab_ok (by kernel_rfl) (by decide +kernel) ?_) | (with_reducible refine DrawP_auto2 tab_ok (by kernel_rfl) (by decide +kernel) ?_) | (with_reducible refine eq29 ?_) | (with_reducible refine eq31 ?_) | (with_reducible refine eq48 ?_) | (with_reducible refine eq52 ?_) | (with_reducible refine eq83 ?_) | (with_reducible refine eq110 ?_) | (with_reducible refine eq136 ?_) | (with_reducible refine eq155 ?_) | (with_reducible refine eq163 ?_) | (with_reducible refine eq170 ?_))))
              exact ⟨rfl, rfl⟩
      · (repeat ((try (conv => whnf)); (first | (with_reducible refine condP_true ?_) | (with_reducible refine condP_false ?_) | (with_reducible refine condP_not ?_) | (with_reducible refine condP_and ?_) | ((with_reducible refine condP_dt ?_ ?_); (· omega)) | ((with_reducible refine condP_df ?_ ?_); (· omega)) | ((with_reducible refine condP_yes ?_ ?_); (· assumption)) | ((with_reducible refine condP_no ?_ ?_); (· assumption)) | ((with_reducible refine ArP_i64 ?_ ?_); (· omega)) | ((with_reducible refine mustP.mk ?_ ?_); (· first | omega | rfl | (dsimp only; omega))) | (with_reducible refine EqP_nil tab_ok ?_) | (with_reducible refine EqP_sli tab_ok ?_) | (with_reducible refine DrawP_auto tab_ok (by kernel_rfl) (by decide +kernel) ?_) | (with_reducible refine DrawP_auto2 tab_ok (by kernel_rfl) (by decide +kernel) ?_) | (with_reducible refine eq29 ?_) | (with_reducible refine eq31 ?_) | (with_reducible refine eq48 ?_) | (with_reducible refine eq52 ?_) | (with_reducible refine eq83 ?_) | (with_reducible refine eq110 ?_) | (with_reducible refine eq136 ?_) | (with_reducible refine eq155 ?_) | (with_reducible refine eq163 ?_) | (with_reducible refine eq170 ?_) | (with_reducible refine CallP_gives (fun vs w => by kernel_rfl) (by kernel_rfl) (hG) ?_) | (with_reducible refine RCallP_gives (fun vs w => by kernel_rfl) (by kernel_rfl) (hG) ?_))))
        conv => whnf
        refine LoopP_at tab_ok (fun x => x ≤ n) (fun (x : Nat) => [(40, .val (.int .i64 x)), (5, .val (.bool (allB (fun j => fewB (D j) m) x)))]) (fun x => [.gone]) (fun x => n - x) 0 (Nat.zero_le _) ?_ ?_
        · ((refine Le_head ?_); (conv => whnf); (refine Le_mk (by rfl) (by rfl) ?_ ?_); (· (repeat (first | (with_reducible exact frLe_nil) | (with_reducible refine frLe_any ?_) | (with_reducible refine frLe_val ?_) | ((with_reducible refine frLe_eq rfl ?_ ?_); (· rfl)) | ((with_reducible refine frLe_val' (int_eq ?_) ?_ ?_); (· omega); (· rfl)) | ((with_reducible refine frLe_val' (int_eq ?_) ?_ ?_); (· simp only [Int.natCast_add, Int.natCast_one, Int.natCast_ofNat] <;> omega); (· rfl)) | ((with_reducible refine frLe_val' (bool_eq ?_) ?_ ?_); (· first | assumption | (symm; assumption)); (· rfl))))))
          exact hpLe_gone hpLe_nil
        · rintro x hx
          rcases Nat.lt_or_ge x n with h1 | h1
          · obtain ⟨u, rfl, ca⟩ := hS x h1
            have hs : (allB (fun j => fewB (D j) m) (x + 1)) = ((allB (fun j => fewB (D j) m) x && fewB (D x) m)) := rfl
            generalize allB (fun j => fewB (D j) m) x = g0 at *
            have gf := fewM_gives (I := D x) (G := G) hm
            generalize fewB (D x) m = g2 at *
            cases g0 <;> cases g2
            all_goals
              (repeat ((try (conv => whnf)); (first | (refine ca _ ?_) | (with_reducible refine condP_true ?_) | (with_reducible refine condP_false ?_) | (with_reducible refine condP_not ?_) | (with_reducible refine condP_and ?_) | ((with_reducible refine condP_dt ?_ ?_); (· omega)) | ((with_reducible refine condP_df ?_ ?_); (· omega)) | ((with_reducible refine condP_yes ?_ ?_); (· assumption)) | ((with_reducible refine condP_no ?_ ?_); (· assumption)) | ((with_reducible refine ArP_i64 ?_ ?_); (· omega)) | ((with_reducible refine mustP.mk ?_ ?_); (· first | omega | rfl | (dsimp only; omega))) | (with_reducible refine EqP_nil tab_ok ?_) | (with_reducible refine EqP_sli tab_ok ?_) | (with_reducible refine DrawP_auto tab_ok (by kernel_rfl) (by decide +kernel) ?_) | (with_reducible refine DrawP_auto2 tab_ok (by kernel_rfl) (by decide +kernel) ?_) | (with_reducible refine eq29 ?_) | (with_reducible refine eq31 ?_) | (with_reducible refine eq48 ?_) | (with_reducible refine eq52 ?_) | (with_reducible refine eq83 ?_) | (with_reducible refine eq110 ?_) | (with_reducible refine eq136 ?_) | (with_reducible refine eq155 ?_) | (with_reducible refine eq163 ?_) | (with_reducible refine eq170 ?_) | (with_reducible refine CallP_gives (fun vs w => by kernel_rfl) (by kernel_rfl) (gf) ?_) | (with_reducible refine RCallP_gives (fun vs w => by kernel_rfl) (by kernel_rfl) (gf) ?_))))
              refine ⟨x + 1, by omega, by omega, ?_⟩
              ((refine Le_head ?_); (conv => whnf); (refine Le_mk (by rfl) (by rfl) ?_ ?_); (· (repeat (first | (with_reducible exact frLe_nil) | (with_reducible refine frLe_any ?_) | (with_reducible refine frLe_val ?_) | ((with_reducible refine frLe_eq rfl ?_ ?_); (· rfl)) | ((with_reducible refine frLe_val' (int_eq ?_) ?_ ?_); (· omega); (· rfl)) | ((with_reducible refine frLe_val' (int_eq ?_) ?_ ?_); (· simp only [Int.natCast_add, Int.natCast_one, Int.natCast_ofNat] <;> omega); (· rfl)) | ((with_reducible refine frLe_val' (bool_eq ?_) ?_ ?_); (· first | assumption | (symm; assumption)); (· rfl))))))
              exact hpLe_gone hpLe_nil
          · obtain rfl : x = n := by omega
            generalize allB (fun j => fewB (D j) m) x = g0 at *
            cases g0
            all_goals
              (repeat ((try (conv => whnf)); (first | (with_reducible refine condP_true ?_) | (with_reducible refine condP_false ?_) | (with_reducible refine condP_not ?_) | (with_reducible refine condP_and ?_) | ((with_reducible refine condP_dt ?_ ?_); (· omega)) | ((with_reducible refine condP_df ?_ ?_); (· omega)) | ((with_reducible refine condP_yes ?_ ?_); (· assumption)) | ((with_reducible refine condP_no ?_ ?_); (· assumption)) | ((with_reducible refine ArP_i64 ?_ ?_); (· omega)) | ((with_reducible refine mustP.mk ?_ ?_); (· first | omega | rfl | (dsimp only; omega))) | (with_reducible refine EqP_nil tab_ok ?_) | (with_reducible refine EqP_sli tab_ok ?_) | (with_reducible refine DrawP_auto tab_ok (by kernel_rfl) (by decide +kernel) ?_) | (with_reducible refine DrawP_auto2 tab_ok (by kernel_rfl) (by decide +kernel) ?_) | (with_reducible refine eq29 ?_) | (with_reducible refine eq31 ?_) | (with_reducible refine eq48 ?_) | (with_reducible refine eq52 ?_) | (with_reducible refine eq83 ?_) | (with_reducible refine eq110 ?_) | (with_reducible refine eq136 ?_) | (with_reducible refine eq155 ?_) | (with_reducible refine eq163 ?_) | (with_reducible refine eq170 ?_))))
              exact ⟨rfl, rfl⟩
    · have hr : srcM k z p (inkZ (I 0) (I 1) (I 2) (I 3) (I 4) (I 5) (I 6) (I 7)) (fewB I m) (allB (fun j => fewB (D j) m) n) (allB (fun j => fewB (D' j) m) pn) gE iE = gE := by unfold srcM; rw [if_neg k0, if_pos k12, if_neg hg]
      rw [hr]
      rcases k12 with rfl | rfl <;> ((repeat ((try (conv => whnf)); (first | (with_reducible refine condP_true ?_) | (with_reducible refine condP_false ?_) | (with_reducible refine condP_not ?_) | (with_reducible refine condP_and ?_) | ((with_reducible refine condP_dt ?_ ?_); (· omega)) | ((with_reducible refine condP_df ?_ ?_); (· omega)) | ((with_reducible refine condP_yes ?_ ?_); (· assumption)) | ((with_reducible refine condP_no ?_ ?_); (· assumption)) | ((with_reducible refine ArP_i64 ?_ ?_); (· omega)) | ((with_reducible refine mustP.mk ?_ ?_); (· first | omega | rfl | (dsimp only; omega))) | (with_reducible refine EqP_nil tab_ok ?_) | (with_reducible refine EqP_sli tab_ok ?_) | (with_reducible refine DrawP_auto tab_ok (by kernel_rfl) (by decide +kernel) ?_) | (with_reducible refine DrawP_auto2 tab_ok (by kernel_rfl) (by decide +kernel) ?_) | (with_reducible refine eq29 ?_) | (with_reducible refine eq31 ?_) | (with_reducible refine eq48 ?_) | (with_reducible refine eq52 ?_) | (with_reducible refine eq83 ?_) | (with_reducible refine eq110 ?_) | (with_reducible refine eq136 ?_) | (with_reducible refine eq155 ?_) | (with_reducible refine eq163 ?_) | (with_reducible refine eq170 ?_) | (with_reducible refine CallP_gives (fun vs w => by kernel_rfl) (by kernel_rfl) (hG) ?_) | (with_reducible refine RCallP_gives (fun vs w => by kernel_rfl) (by kernel_rfl) (hG) ?_))))) <;> exact ⟨rfl, rfl⟩
  · have hr : ∀ i fw sg pg, srcM k z p i fw sg pg gE iE = 14 := by intro i fw sg pg; unfold srcM; rw [if_neg k0, if_neg k12, if_neg k3]
    rw [hr]
    have k1 : k ≠ 1 := fun h => k12 (.inl h)
    have k2 : k ≠ 2 := fun h => k12 (.inr h)
    clear hr k12
    (repeat ((try (conv => whnf)); (first | (with_reducible refine condP_true ?_) | (with_reducible refine condP_false ?_) | (with_reducible refine condP_not ?_) | (with_reducible refine condP_and ?_) | ((with_reducible refine condP_dt ?_ ?_); (· omega)) | ((with_reducible refine condP_df ?_ ?_); (· omega)) | ((with_reducible refine condP_yes ?_ ?_); (· assumption)) | ((with_reducible refine condP_no ?_ ?_); (· assumption)) | ((with_reducible refine ArP_i64 ?_ ?_); (· omega)) | ((with_reducible refine mustP.mk ?_ ?_); (· first | omega | rfl | (dsimp only; omega))) | (with_reducible refine EqP_nil tab_ok ?_) | (with_reducible refine EqP_sli tab_ok ?_) | (with_reducible refine DrawP_auto tab_ok (by kernel_rfl) (by decide +kernel) ?_) | (with_reducible refine DrawP_auto2 tab_ok (by kernel_rfl) (by decide +kernel) ?_) | (with_reducible refine eq29 ?_) | (with_reducible refine eq31 ?_) | (with_reducible refine eq48 ?_) | (with_reducible refine eq52 ?_) | (with_reducible refine eq83 ?_) | (with_reducible refine eq110 ?_) | (with_reducible refine eq136 ?_) | (with_reducible refine eq155 ?_) | (with_reducible refine eq163 ?_) | (with_reducible refine eq170 ?_))))
    exact ⟨rfl, rfl⟩
set_option maxHeartbeats 16000000 in
theorem SourceCheckM_gives (hm : 1 ≤ m ∧ m ≤ 8) (hI0 : ∀ j, j < 8 → 0 ≤ I j) (hS0 : ∀ x, x < n → ∀ j, j < 8 → 0 ≤ D x j) (hP0 : ∀ x, x < pn → ∀ j, j < 8 → 0 ≤ D' x j) (hG : Gives Try.prog 31 [srcA k I fx fy tx ty r (.slice A n q) W H (.slice B pn pq) (.slice C sn sq) a b c d e f s t] G (.val (.int .i64 gE)))
    (hI : Gives Try.prog 36 [imgA W H (.slice B pn pq) (.slice C sn sq) a b c d e f s t] G (.val (.int .i64 iE)))
    (gp : Gives Try.prog 67 [imgA W H (.slice B pn pq) (.slice C sn sq) a b c d e f s t] G (.val (.bool (plainB W H pn sn a b c d e f s t))))
    (hS : StopI G A n D) (hP : PixM G B pn D') (hn : n ≤ 9223372036854775807) (hpn : pn ≤ 9223372036854775807) :
    Gives Try.prog 44 [srcA k I fx fy tx ty r (.slice A n q) W H (.slice B pn pq) (.slice C sn sq) a b c d e f s t, .val (.int .i64 m)] G (.val (.int .i64 (srcM k (zeroB fx fy tx ty r n) (plainB W H pn sn a b c d e f s t) (inkZ (I 0) (I 1) (I 2) (I 3) (I 4) (I 5) (I 6) (I 7)) (fewB I m) (allB (fun j => fewB (D j) m) n) (allB (fun j => fewB (D' j) m) pn) gE iE))) := by
  have gw := moreM_gives (I := I) (G := G) hm hI0
  refine Gives_of tab_ok Try.func44 ?_
  have gz := zero_iff (fx := fx) (fy := fy) (tx := tx) (ty := ty) (r := r) (n := n)
  have gi := inks_zero (I := I)
  generalize zeroB fx fy tx ty r n = z at *
  generalize plainB W H pn sn a b c d e f s t = p at *
  generalize inkZ (I 0) (I 1) (I 2) (I 3) (I 4) (I 5) (I 6) (I 7) = i at *
  by_cases k0 : k = 0
  · subst k0
    generalize fewB I m = fw at *
    cases z
    · clear hG hI hS hP gw
      (repeat' ((try (conv => whnf)); (first | (with_reducible refine condP_true ?_) | (with_reducible refine condP_false ?_) | (with_reducible refine condP_not ?_) | (with_reducible refine condP_and ?_) | ((with_reducible refine condP_dt ?_ ?_); (· omega)) | ((with_reducible refine condP_df ?_ ?_); (· omega)) | ((with_reducible refine condP_yes ?_ ?_); (· assumption)) | ((with_reducible refine condP_no ?_ ?_); (· assumption)) | ((with_reducible refine ArP_i64 ?_ ?_); (· omega)) | ((with_reducible refine mustP.mk ?_ ?_); (· first | omega | rfl | (dsimp only; omega))) | (with_reducible refine EqP_nil tab_ok ?_) | (with_reducible refine EqP_sli tab_ok ?_) | (with_reducible refine DrawP_auto tab_ok (by kernel_rfl) (by decide +kernel) ?_) | (with_reducible refine DrawP_auto2 tab_ok (by kernel_rfl) (by decide +kernel) ?_) | (with_reducible refine eq29 ?_) | (with_reducible refine eq31 ?_) | (with_reducible refine eq48 ?_) | (with_reducible refine eq52 ?_) | (with_reducible refine eq83 ?_) | (with_reducible refine eq110 ?_) | (with_reducible refine eq136 ?_) | (with_reducible refine eq155 ?_) | (with_reducible refine eq163 ?_) | (with_reducible refine eq170 ?_) | (with_reducible refine condP_dec (fun h0 => ?_) (fun h0 => ?_)))))
      all_goals first | exact ⟨rfl, rfl⟩ | exact absurd (gz.2 ⟨by assumption, by assumption, by assumption, by assumption, by assumption, by omega⟩) (by simp)
    · obtain ⟨z0, z1, z2, z3, z4, z5⟩ := gz.1 rfl
      cases p <;> cases fw <;> ((repeat ((try (conv => whnf)); (first | (with_reducible refine condP_true ?_) | (with_reducible refine condP_false ?_) | (with_reducible refine condP_not ?_) | (with_reducible refine condP_and ?_) | ((with_reducible refine condP_dt ?_ ?_); (· omega)) | ((with_reducible refine condP_df ?_ ?_); (· omega)) | ((with_reducible refine condP_yes ?_ ?_); (· assumption)) | ((with_reducible refine condP_no ?_ ?_); (· assumption)) | ((with_reducible refine ArP_i64 ?_ ?_); (· omega)) | ((with_reducible refine mustP.mk ?_ ?_); (· first | omega | rfl | (dsimp only; omega))) | (with_reducible refine EqP_nil tab_ok ?_) | (with_reducible refine EqP_sli tab_ok ?_) | (with_reducible refine DrawP_auto tab_ok (by kernel_rfl) (by decide +kernel) ?_) | (with_reducible refine DrawP_auto2 tab_ok (by kernel_rfl) (by decide +kernel) ?_) | (with_reducible refine eq29 ?_) | (with_reducible refine eq31 ?_) | (with_reducible refine eq48 ?_) | (with_reducible refine eq52 ?_) | (with_reducible refine eq83 ?_) | (with_reducible refine eq110 ?_) | (with_reducible refine eq136 ?_) | (with_reducible refine eq155 ?_) | (with_reducible refine eq163 ?_) | (with_reducible refine eq170 ?_) | (with_reducible refine CallP_gives (fun vs w => by kernel_rfl) (by kernel_rfl) (gp) ?_) | (with_reducible refine RCallP_gives (fun vs w => by kernel_rfl) (by kernel_rfl) (gp) ?_) | (with_reducible refine CallP_gives (fun vs w => by kernel_rfl) (by kernel_rfl) (gw) ?_) | (with_reducible refine RCallP_gives (fun vs w => by kernel_rfl) (by kernel_rfl) (gw) ?_))))) <;> exact ⟨rfl, rfl⟩
  by_cases k3 : k = 3
  · subst k3
    cases z
    · clear hG hI hS hP gw
      (repeat' ((try (conv => whnf)); (first | (with_reducible refine condP_true ?_) | (with_reducible refine condP_false ?_) | (with_reducible refine condP_not ?_) | (with_reducible refine condP_and ?_) | ((with_reducible refine condP_dt ?_ ?_); (· omega)) | ((with_reducible refine condP_df ?_ ?_); (· omega)) | ((with_reducible refine condP_yes ?_ ?_); (· assumption)) | ((with_reducible refine condP_no ?_ ?_); (· assumption)) | ((with_reducible refine ArP_i64 ?_ ?_); (· omega)) | ((with_reducible refine mustP.mk ?_ ?_); (· first | omega | rfl | (dsimp only; omega))) | (with_reducible refine EqP_nil tab_ok ?_) | (with_reducible refine EqP_sli tab_ok ?_) | (with_reducible refine DrawP_auto tab_ok (by kernel_rfl) (by decide +kernel) ?_) | (with_reducible refine DrawP_auto2 tab_ok (by kernel_rfl) (by decide +kernel) ?_) | (with_reducible refine eq29 ?_) | (with_reducible refine eq31 ?_) | (with_reducible refine eq48 ?_) | (with_reducible refine eq52 ?_) | (with_reducible refine eq83 ?_) | (with_reducible refine eq110 ?_) | (with_reducible refine eq136 ?_) | (with_reducible refine eq155 ?_) | (with_reducible refine eq163 ?_) | (with_reducible refine eq170 ?_) | (with_reducible refine condP_dec (fun h0 => ?_) (fun h0 => ?_)))))
      all_goals first | exact ⟨rfl, rfl⟩ | exact absurd (gz.2 ⟨by assumption, by assumption, by assumption, by assumption, by assumption, by omega⟩) (by simp)
    · obtain ⟨z0, z1, z2, z3, z4, z5⟩ := gz.1 rfl
      cases i
      · clear hG hI hS hP gw
        (repeat' ((try (conv => whnf)); (first | (with_reducible refine condP_true ?_) | (with_reducible refine condP_false ?_) | (with_reducible refine condP_not ?_) | (with_reducible refine condP_and ?_) | ((with_reducible refine condP_dt ?_ ?_); (· omega)) | ((with_reducible refine condP_df ?_ ?_); (· omega)) | ((with_reducible refine condP_yes ?_ ?_); (· assumption)) | ((with_reducible refine condP_no ?_ ?_); (· assumption)) | ((with_reducible refine ArP_i64 ?_ ?_); (· omega)) | ((with_reducible refine mustP.mk ?_ ?_); (· first | omega | rfl | (dsimp only; omega))) | (with_reducible refine EqP_nil tab_ok ?_) | (with_reducible refine EqP_sli tab_ok ?_) | (with_reducible refine DrawP_auto tab_ok (by kernel_rfl) (by decide +kernel) ?_) | (with_reducible refine DrawP_auto2 tab_ok (by kernel_rfl) (by decide +kernel) ?_) | (with_reducible refine eq29 ?_) | (with_reducible refine eq31 ?_) | (with_reducible refine eq48 ?_) | (with_reducible refine eq52 ?_) | (with_reducible refine eq83 ?_) | (with_reducible refine eq110 ?_) | (with_reducible refine eq136 ?_) | (with_reducible refine eq155 ?_) | (with_reducible refine eq163 ?_) | (with_reducible refine eq170 ?_) | (with_reducible refine condP_dec (fun h0 => ?_) (fun h0 => ?_)))))
        all_goals first | exact ⟨rfl, rfl⟩ | exact absurd (gi.2 ⟨by assumption, by assumption, by assumption, by assumption, by assumption, by assumption, by assumption, by assumption⟩) (by simp)
      · obtain ⟨e0, e1, e2, e3, e4, e5, e6, e7⟩ := gi.1 rfl
        by_cases he : iE = 0
        · subst he
          (repeat ((try (conv => whnf)); (first | (with_reducible refine condP_true ?_) | (with_reducible refine condP_false ?_) | (with_reducible refine condP_not ?_) | (with_reducible refine condP_and ?_) | ((with_reducible refine condP_dt ?_ ?_); (· omega)) | ((with_reducible refine condP_df ?_ ?_); (· omega)) | ((with_reducible refine condP_yes ?_ ?_); (· assumption)) | ((with_reducible refine condP_no ?_ ?_); (· assumption)) | ((with_reducible refine ArP_i64 ?_ ?_); (· omega)) | ((with_reducible refine mustP.mk ?_ ?_); (· first | omega | rfl | (dsimp only; omega))) | (with_reducible refine EqP_nil tab_ok ?_) | (with_reducible refine EqP_sli tab_ok ?_) | (with_reducible refine DrawP_auto tab_ok (by kernel_rfl) (by decide +kernel) ?_) | (with_reducible refine DrawP_auto2 tab_ok (by kernel_rfl) (by decide +kernel) ?_) | (with_reducible refine eq29 ?_) | (with_reducible refine eq31 ?_) | (with_reducible refine eq48 ?_) | (with_reducible refine eq52 ?_) | (with_reducible refine eq83 ?_) | (with_reducible refine eq110 ?_) | (with_reducible refine eq136 ?_) | (with_reducible refine eq155 ?_) | (with_reducible refine eq163 ?_) | (with_reducible refine eq170 ?_) | (with_reducible refine CallP_gives (fun vs w => by kernel_rfl) (by kernel_rfl) (hI) ?_) | (with_reducible refine RCallP_gives (fun vs w => by kernel_rfl) (by kernel_rfl) (hI) ?_))))
          conv => whnf
          refine LoopP_at tab_ok (fun x => x ≤ pn) (fun (x : Nat) => [(68, .val (.int .i64 x)), (6, .val (.bool (!allB (fun j => fewB (D' j) m) x)))]) (fun x => [.cells 56 [.val (.int .i64 3), .val (.int .u8 (I 0)), .val (.int .u8 (I 1)), .val (.int .u8 (I 2)), .val (.int .u8 (I 3)), .val (.int .u8 (I 4)), .val (.int .u8 (I 5)), .val (.int .u8 (I 6)), .val (.int .u8 (I 7)), .val (.int .i64 fx), .val (.int .i64 fy), .val (.int .i64 tx), .val (.int .i64 ty), .val (.int .i64 r), .val (.slice A n q), .val (.int .i64 W), .val (.int .i64 H), .val (.slice B pn pq), .val (.slice C sn sq), .val (.int .i64 a), .val (.int .i64 b), .val (.int .i64 c), .val (.int .i64 d), .val (.int .i64 e), .val (.int .i64 f), .val (.bool s), .val (.bool t)]]) (fun x => pn - x) 0 (Nat.zero_le _) ?_ ?_
          · ((refine Le_head ?_); (conv => whnf); (refine Le_mk (by rfl) (by rfl) ?_ ?_); (· (repeat (first | (with_reducible exact frLe_nil) | (with_reducible refine frLe_any ?_) | (with_reducible refine frLe_val ?_) | ((with_reducible refine frLe_eq rfl ?_ ?_); (· rfl)) | ((with_reducible refine frLe_val' (int_eq ?_) ?_ ?_); (· omega); (· rfl)) | ((with_reducible refine frLe_val' (int_eq ?_) ?_ ?_); (· simp only [Int.natCast_add, Int.natCast_one, Int.natCast_ofNat] <;> omega); (· rfl)) | ((with_reducible refine frLe_val' (bool_eq ?_) ?_ ?_); (· first | assumption | (symm; assumption)); (· rfl))))))
            exact hpLe_cells (by (repeat (first | (with_reducible exact frLe_nil) | (with_reducible refine frLe_any ?_) | (with_reducible refine frLe_val ?_) | ((with_reducible refine frLe_eq rfl ?_ ?_); (· rfl)) | ((with_reducible refine frLe_val' (int_eq ?_) ?_ ?_); (· omega); (· rfl)) | ((with_reducible refine frLe_val' (int_eq ?_) ?_ ?_); (· simp only [Int.natCast_add, Int.natCast_one, Int.natCast_ofNat] <;> omega); (· rfl)) | ((with_reducible refine frLe_val' (bool_eq ?_) ?_ ?_); (· first | assumption | (symm; assumption)); (· rfl))))) hpLe_nil
          · rintro x hx
            rcases Nat.lt_or_ge x pn with h1 | h1
            · obtain ⟨u, rfl, ca⟩ := hP x h1
              have hs : (!allB (fun j => fewB (D' j) m) (x + 1)) = (!(allB (fun j => fewB (D' j) m) x && fewB (D' x) m)) := rfl
              generalize allB (fun j => fewB (D' j) m) x = g0 at *
              have gf := moreM_gives (I := D' x) (G := G) hm (hP0 x h1)
              generalize fewB (D' x) m = g2 at *
              cases g0 <;> cases g2
              all_goals
                (repeat ((try (conv => whnf)); (first | (refine ca _ ?_) | (with_reducible refine condP_true ?_) | (with_reducible refine condP_false ?_) | (with_reducible refine condP_not ?_) | (with_reducible refine condP_and ?_) | ((with_reducible refine condP_dt ?_ ?_); (· omega)) | ((with_reducible refine condP_df ?_ ?_); (· omega)) | ((with_reducible refine condP_yes ?_ ?_); (· assumption)) | ((with_reducible refine condP_no ?_ ?_); (· assumption)) | ((with_reducible refine ArP_i64 ?_ ?_); (· omega)) | ((with_reducible refine mustP.mk ?_ ?_); (· first | omega | rfl | (dsimp only; omega))) | (with_reducible refine EqP_nil tab_ok ?_) | (with_reducible refine EqP_sli tab_ok ?_) | (with_reducible refine DrawP_auto tab_ok (by kernel_rfl) (by decide +kernel) ?_) | (with_reducible refine DrawP_auto2 tab_ok (by kernel_rfl) (by decide +kernel) ?_) | (with_reducible refine eq29 ?_) | (with_reducible refine eq31 ?_) | (with_reducible refine eq48 ?_) | (with_reducible refine eq52 ?_) | (with_reducible refine eq83 ?_) | (with_reducible refine eq110 ?_) | (with_reducible refine eq136 ?_) | (with_reducible refine eq155 ?_) | (with_reducible refine eq163 ?_) | (with_reducible refine eq170 ?_) | (with_reducible refine CallP_gives (fun vs w => by kernel_rfl) (by kernel_rfl) (gf) ?_) | (with_reducible refine RCallP_gives (fun vs w => by kernel_rfl) (by kernel_rfl) (gf) ?_))))
                refine ⟨x + 1, by omega, by omega, ?_⟩
                ((refine Le_head ?_); (conv => whnf); (refine Le_mk (by rfl) (by rfl) ?_ ?_); (· (repeat (first | (with_reducible exact frLe_nil) | (with_reducible refine frLe_any ?_) | (with_reducible refine frLe_val ?_) | ((with_reducible refine frLe_eq rfl ?_ ?_); (· rfl)) | ((with_reducible refine frLe_val' (int_eq ?_) ?_ ?_); (· omega); (· rfl)) | ((with_reducible refine frLe_val' (int_eq ?_) ?_ ?_); (· simp only [Int.natCast_add, Int.natCast_one, Int.natCast_ofNat] <;> omega); (· rfl)) | ((with_reducible refine frLe_val' (bool_eq ?_) ?_ ?_); (· first | assumption | (symm; assumption)); (· rfl))))))
                exact hpLe_cells (by (repeat (first | (with_reducible exact frLe_nil) | (with_reducible refine frLe_any ?_) | (with_reducible refine frLe_val ?_) | ((with_reducible refine frLe_eq rfl ?_ ?_); (· rfl)) | ((with_reducible refine frLe_val' (int_eq ?_) ?_ ?_); (· omega); (· rfl)) | ((with_reducible refine frLe_val' (int_eq ?_) ?_ ?_); (· simp only [Int.natCast_add, Int.natCast_one, Int.natCast_ofNat] <;> omega); (· rfl)) | ((with_reducible refine frLe_val' (bool_eq ?_) ?_ ?_); (· first | assumption | (symm; assumption)); (· rfl))))) hpLe_nil
            · obtain rfl : x = pn := by omega
              generalize allB (fun j => fewB (D' j) m) x = g0 at *
              cases g0
              all_goals
                (repeat ((try (conv => whnf)); (first | (with_reducible refine condP_true ?_) | (with_reducible refine condP_false ?_) | (with_reducible refine condP_not ?_) | (with_reducible refine condP_and ?_) | ((with_reducible refine condP_dt ?_ ?_); (· omega)) | ((with_reducible refine condP_df ?_ ?_); (· omega)) | ((with_reducible refine condP_yes ?_ ?_); (· assumption)) | ((with_reducible refine condP_no ?_ ?_); (· assumption)) | ((with_reducible refine ArP_i64 ?_ ?_); (· omega)) | ((with_reducible refine mustP.mk ?_ ?_); (· first | omega | rfl | (dsimp only; omega))) | (with_reducible refine EqP_nil tab_ok ?_) | (with_reducible refine EqP_sli tab_ok ?_) | (with_reducible refine DrawP_auto tab_ok (by kernel_rfl) (by decide +kernel) ?_) | (with_reducible refine DrawP_auto2 tab_ok (by kernel_rfl) (by decide +kernel) ?_) | (with_reducible refine eq29 ?_) | (with_reducible refine eq31 ?_) | (with_reducible refine eq48 ?_) | (with_reducible refine eq52 ?_) | (with_reducible refine eq83 ?_) | (with_reducible refine eq110 ?_) | (with_reducible refine eq136 ?_) | (with_reducible refine eq155 ?_) | (with_reducible refine eq163 ?_) | (with_reducible refine eq170 ?_))))
                exact ⟨rfl, rfl⟩
        · have hr : srcM 3 true p true (fewB I m) (allB (fun j => fewB (D j) m) n) (allB (fun j => fewB (D' j) m) pn) gE iE = iE := by unfold srcM; simp [he]
          rw [hr]
          (repeat ((try (conv => whnf)); (first | (with_reducible refine condP_true ?_) | (with_reducible refine condP_false ?_) | (with_reducible refine condP_not ?_) | (with_reducible refine condP_and ?_) | ((with_reducible refine condP_dt ?_ ?_); (· omega)) | ((with_reducible refine condP_df ?_ ?_); (· omega)) | ((with_reducible refine condP_yes ?_ ?_); (· assumption)) | ((with_reducible refine condP_no ?_ ?_); (· assumption)) | ((with_reducible refine ArP_i64 ?_ ?_); (· omega)) | ((with_reducible refine mustP.mk ?_ ?_); (· first | omega | rfl | (dsimp only; omega))) | (with_reducible refine EqP_nil tab_ok ?_) | (with_reducible refine EqP_sli tab_ok ?_) | (with_reducible refine DrawP_auto tab_ok (by kernel_rfl) (by decide +kernel) ?_) | (with_reducible refine DrawP_auto2 tab_ok (by kernel_rfl) (by decide +kernel) ?_) | (with_reducible refine eq29 ?_) | (with_reducible refine eq31 ?_) | (with_reducible refine eq48 ?_) | (with_reducible refine eq52 ?_) | (with_reducible refine eq83 ?_) | (with_reducible refine eq110 ?_) | (with_reducible refine eq136 ?_) | (with_reducible refine eq155 ?_) | (with_reducible refine eq163 ?_) | (with_reducible refine eq170 ?_) | (with_reducible refine CallP_gives (fun vs w => by kernel_rfl) (by kernel_rfl) (hI) ?_) | (with_reducible refine RCallP_gives (fun vs w => by kernel_rfl) (by kernel_rfl) (hI) ?_))))
          exact ⟨rfl, rfl⟩
  by_cases k12 : k = 1 ∨ k = 2
  · by_cases hg : gE = 0
    · subst hg
      have hr : srcM k z p i (fewB I m) (allB (fun j => fewB (D j) m) n) (allB (fun j => fewB (D' j) m) pn) 0 iE = if allB (fun j => fewB (D j) m) n = true then 0 else 4 := by unfold srcM; rw [if_neg k0, if_pos k12, if_pos rfl]
      rw [hr]
      rcases k12 with rfl | rfl
      · (repeat' ((try (conv => whnf)); (first | (with_reducible refine condP_true ?_) | (with_reducible refine condP_false ?_) | (with_reducible refine condP_not ?_) | (with_reducible refine condP_and ?_) | ((with_reducible refine condP_dt ?_ ?_); (· omega)) | ((with_reducible refine condP_df ?_ ?_); (· omega)) | ((with_reducible refine condP_yes ?_ ?_); (· assumption)) | ((with_reducible refine condP_no ?_ ?_); (· assumption)) | ((with_reducible refine ArP_i64 ?_ ?_); (· omega)) | ((with_reducible refine mustP.mk ?_ ?_); (· first | omega | rfl | (dsimp only; omega))) | (with_reducible refine EqP_nil tab_ok ?_) | (with_reducible refine EqP_sli tab_ok ?_) | (with_reducible refine DrawP_auto tab_ok (by kernel_rfl) (by decide +kernel) ?_) | (with_reducible refine DrawP_auto2 tab_ok (by kernel_rfl) (by decide +kernel) ?_) | (with_reducible refine eq29 ?_) | (with_reducible refine eq31 ?_) | (with_reducible refine eq48 ?_) | (with_reducible refine eq52 ?_) | (with_reducible refine eq83 ?_) | (with_reducible refine eq110 ?_) | (with_reducible refine eq136 ?_) | (with_reducible refine eq155 ?_) | (with_reducible refine eq163 ?_) | (with_reducible refine eq170 ?_) | (with_reducible refine CallP_gives (fun vs w => by kernel_rfl) (by kernel_rfl) (hG) ?_) | (with_reducible refine RCallP_gives (fun vs w => by kernel_rfl) (by kernel_rfl) (hG) ?_) | (with_reducible refine condP_dec (fun h0 => ?_) (fun h0 => ?_)))))
        all_goals conv => whnf
        all_goals
          refine LoopP_at tab_ok (fun x => x ≤ n) (fun (x : Nat) => [(94, .val (.int .i64 x)), (6, .val (.bool (!allB (fun j => fewB (D j) m) x)))]) (fun x => [.cells 56 [.val (.int .i64 1), .val (.int .u8 (I 0)), .val (.int .u8 (I 1)), .val (.int .u8 (I 2)), .val (.int .u8 (I 3)), .val (.int .u8 (I 4)), .val (.int .u8 (I 5)), .val (.int .u8 (I 6)), .val (.int .u8 (I 7)), .val (.int .i64 fx), .val (.int .i64 fy), .val (.int .i64 tx), .val (.int .i64 ty), .val (.int .i64 r), .val (.slice A n q), .val (.int .i64 W), .val (.int .i64 H), .val (.slice B pn pq), .val (.slice C sn sq), .val (.int .i64 a), .val (.int .i64 b), .val (.int .i64 c), .val (.int .i64 d), .val (.int .i64 e), .val (.int .i64 f), .val (.bool s), .val (.bool t)]]) (fun x => n - x) 0 (Nat.zero_le _) ?_ ?_
          · ((refine Le_head ?_); (conv => whnf); (refine Le_mk (by rfl) (by rfl) ?_ ?_); (· (repeat (first | (with_reducible exact frLe_nil) | (with_reducible refine frLe_any ?_) | (with_reducible refine frLe_val ?_) | ((with_reducible refine frLe_eq rfl ?_ ?_); (· rfl)) | ((with_reducible refine frLe_val' (int_eq ?_) ?_ ?_); (· omega); (· rfl)) | ((with_reducible refine frLe_val' (int_eq ?_) ?_ ?_); (· simp only [Int.natCast_add, Int.natCast_one, Int.natCast_ofNat] <;> omega); (· rfl)) | ((with_reducible refine frLe_val' (bool_eq ?_) ?_ ?_); (· first | assumption | (symm; assumption)); (· rfl))))))
            exact hpLe_cells (by (repeat (first | (with_reducible exact frLe_nil) | (with_reducible refine frLe_any ?_) | (with_reducible refine frLe_val ?_) | ((with_reducible refine frLe_eq rfl ?_ ?_); (· rfl)) | ((with_reducible refine frLe_val' (int_eq ?_) ?_ ?_); (· omega); (· rfl)) | ((with_reducible refine frLe_val' (int_eq ?_) ?_ ?_); (· simp only [Int.natCast_add, Int.natCast_one, Int.natCast_ofNat] <;> omega); (· rfl)) | ((with_reducible refine frLe_val' (bool_eq ?_) ?_ ?_); (· first | assumption | (symm; assumption)); (· rfl))))) hpLe_nil
          · rintro x hx
            rcases Nat.lt_or_ge x n with h1 | h1
            · obtain ⟨u, rfl, ca⟩ := hS x h1
              have hs : (!allB (fun j => fewB (D j) m) (x + 1)) = (!(allB (fun j => fewB (D j) m) x && fewB (D x) m)) := rfl
              generalize allB (fun j => fewB (D j) m) x = g0 at *
              have gf := moreM_gives (I := D x) (G := G) hm (hS0 x h1)
              generalize fewB (D x) m = g2 at *
              cases g0 <;> cases g2
              all_goals
                (repeat ((try (conv => whnf)); (first | (refine ca _ ?_) | (with_reducible refine condP_true ?_) | (with_reducible refine condP_false ?_) | (with_reducible refine condP_not ?_) | (with_reducible refine condP_and ?_) | ((with_reducible refine condP_dt ?_ ?_); (· omega)) | ((with_reducible refine condP_df ?_ ?_); (· omega)) | ((with_reducible refine condP_yes ?_ ?_); (· assumption)) | ((with_reducible refine condP_no ?_ ?_); (· assumption)) | ((with_reducible refine ArP_i64 ?_ ?_); (· omega)) | ((with_reducible refine mustP.mk ?_ ?_); (· first | omega | rfl | (dsimp only; omega))) | (with_reducible refine EqP_nil tab_ok ?_) | (with_reducible refine EqP_sli tab_ok ?_) | (with_reducible refine DrawP_auto tab_ok (by kernel_rfl) (by decide +kernel) ?_) | (with_reducible refine DrawP_auto2 tab_ok (by kernel_rfl) (by decide +kernel) ?_) | (with_reducible refine eq29 ?_) | (with_reducible refine eq31 ?_) | (with_reducible refine eq48 ?_) | (with_reducible refine eq52 ?_) | (with_reducible refine eq83 ?_) | (with_reducible refine eq110 ?_) | (with_reducible refine eq136 ?_) | (with_reducible refine eq155 ?_) | (with_reducible refine eq163 ?_) | (with_reducible refine eq170 ?_) | (with_reducible refine CallP_gives (fun vs w => by kernel_rfl) (by kernel_rfl) (gf) ?_) | (with_reducible refine RCallP_gives (fun vs w => by kernel_rfl) (by kernel_rfl) (gf) ?_))))
                refine ⟨x + 1, by omega, by omega, ?_⟩
                ((refine Le_head ?_); (conv => whnf); (refine Le_mk (by rfl) (by rfl) ?_ ?_); (· (repeat (first | (with_reducible exact frLe_nil) | (with_reducible refine frLe_any ?_) | (with_reducible refine frLe_val ?_) | ((with_reducible refine frLe_eq rfl ?_ ?_); (· rfl)) | ((with_reducible refine frLe_val' (int_eq ?_) ?_ ?_); (· omega); (· rfl)) | ((with_reducible refine frLe_val' (int_eq ?_) ?_ ?_); (· simp only [Int.natCast_add, Int.natCast_one, Int.natCast_ofNat] <;> omega); (· rfl)) | ((with_reducible refine frLe_val' (bool_eq ?_) ?_ ?_); (· first | assumption | (symm; assumption)); (· rfl))))))
                exact hpLe_cells (by (repeat (first | (with_reducible exact frLe_nil) | (with_reducible refine frLe_any ?_) | (with_reducible refine frLe_val ?_) | ((with_reducible refine frLe_eq rfl ?_ ?_); (· rfl)) | ((with_reducible refine frLe_val' (int_eq ?_) ?_ ?_); (· omega); (· rfl)) | ((with_reducible refine frLe_val' (int_eq ?_) ?_ ?_); (· simp only [Int.natCast_add, Int.natCast_one, Int.natCast_ofNat] <;> omega); (· rfl)) | ((with_reducible refine frLe_val' (bool_eq ?_) ?_ ?_); (· first | assumption | (symm; assumption)); (· rfl))))) hpLe_nil
            · obtain rfl : x = n := by omega
              generalize allB (fun j => fewB (D j) m) x = g0 at *
              cases g0
              all_goals
                (repeat ((try (conv => whnf)); (first | (with_reducible refine condP_true ?_) | (with_reducible refine condP_false ?_) | (with_reducible refine condP_not ?_) | (with_reducible refine condP_and ?_) | ((with_reducible refine condP_dt ?_ ?_); (· omega)) | ((with_reducible refine condP_df ?_ ?_); (· omega)) | ((with_reducible refine condP_yes ?_ ?_); (· assumption)) | ((with_reducible refine condP_no ?_ ?_); (· assumption)) | ((with_reducible refine ArP_i64 ?_ ?_); (· omega)) | ((with_reducible refine mustP.mk ?_ ?_); (· first | omega | rfl | (dsimp only; omega))) | (with_reducible refine EqP_nil tab_ok ?_) | (with_reducible refine EqP_sli tab_ok ?_) | (with_reducible refine DrawP_auto tab_ok (by kernel_rfl) (by decide +kernel) ?_) | (with_reducible refine DrawP_auto2 tab_ok (by kernel_rfl) (by decide +kernel) ?_) | (with_reducible refine eq29 ?_) | (with_reducible refine eq31 ?_) | (with_reducible refine eq48 ?_) | (with_reducible refine eq52 ?_) | (with_reducible refine eq83 ?_) | (with_reducible refine eq110 ?_) | (with_reducible refine eq136 ?_) | (with_reducible refine eq155 ?_) | (with_reducible refine eq163 ?_) | (with_reducible refine eq170 ?_))))
                exact ⟨rfl, rfl⟩
      · (repeat' ((try (conv => whnf)); (first | (with_reducible refine condP_true ?_) | (with_reducible refine condP_false ?_) | (with_reducible refine condP_not ?_) | (with_reducible refine condP_and ?_) | ((with_reducible refine condP_dt ?_ ?_); (· omega)) | ((with_reducible refine condP_df ?_ ?_); (· omega)) | ((with_reducible refine condP_yes ?_ ?_); (· assumption)) | ((with_reducible refine condP_no ?_ ?_); (· assumption)) | ((with_reducible refine ArP_i64 ?_ ?_); (· omega)) | ((with_reducible refine mustP.mk ?_ ?_); (· first | omega | rfl | (dsimp only; omega))) | (with_reducible refine EqP_nil tab_ok ?_) | (with_reducible refine EqP_sli tab_ok ?_) | (with_reducible refine DrawP_auto tab_ok (by kernel_rfl) (by decide +kernel) ?_) | (with_reducible refine DrawP_auto2 tab_ok (by kernel_rfl) (by decide +kernel) ?_) | (with_reducible refine eq29 ?_) | (with_reducible refine eq31 ?_) | (with_reducible refine eq48 ?_) | (with_reducible refine eq52 ?_) | (with_reducible refine eq83 ?_) | (with_reducible refine eq110 ?_) | (with_reducible refine eq136 ?_) | (with_reducible refine eq155 ?_) | (with_reducible refine eq163 ?_) | (with_reducible refine eq170 ?_) | (with_reducible refine CallP_gives (fun vs w => by kernel_rfl) (by kernel_rfl) (hG) ?_) | (with_reducible refine RCallP_gives (fun vs w => by kernel_rfl) (by kernel_rfl) (hG) ?_) | (with_reducible refine condP_dec (fun h0 => ?_) (fun h0 => ?_)))))
        all_goals conv => whnf
        all_goals
          refine LoopP_at tab_ok (fun x => x ≤ n) (fun (x : Nat) => [(94, .val (.int .i64 x)), (6, .val (.bool (!allB (fun j => fewB (D j) m) x)))]) (fun x => [.cells 56 [.val (.int .i64 2), .val (.int .u8 (I 0)), .val (.int .u8 (I 1)), .val (.int .u8 (I 2)), .val (.int .u8 (I 3)), .val (.int .u8 (I 4)), .val (.int .u8 (I 5)), .val (.int .u8 (I 6)), .val (.int .u8 (I 7)), .val (.int .i64 fx), .val (.int .i64 fy), .val (.int .i64 tx), .val (.int .i64 ty), .val (.int .i64 r), .val (.slice A n q), .val (.int .i64 W), .val (.int .i64 H), .val (.slice B pn pq), .val (.slice C sn sq), .val (.int .i64 a), .val (.int .i64 b), .val (.int .i64 c), .val (.int .i64 d), .val (.int .i64 e), .val (.int .i64 f), .val (.bool s), .val (.bool t)]]) (fun x => n - x) 0 (Nat.zero_le _) ?_ ?_
          · ((refine Le_head ?_); (conv => whnf); (refine Le_mk (by rfl) (by rfl) ?_ ?_); (· (repeat (first | (with_reducible exact frLe_nil) | (with_reducible refine frLe_any ?_) | (with_reducible refine frLe_val ?_) | ((with_reducible refine frLe_eq rfl ?_ ?_); (· rfl)) | ((with_reducible refine frLe_val' (int_eq ?_) ?_ ?_); (· omega); (· rfl)) | ((with_reducible refine frLe_val' (int_eq ?_) ?_ ?_); (· simp only [Int.natCast_add, Int.natCast_one, Int.natCast_ofNat] <;> omega); (· rfl)) | ((with_reducible refine frLe_val' (bool_eq ?_) ?_ ?_); (· first | assumption | (symm; assumption)); (· rfl))))))
            exact hpLe_cells (by (repeat (first | (with_reducible exact frLe_nil) | (with_reducible refine frLe_any ?_) | (with_reducible refine frLe_val ?_) | ((with_reducible refine frLe_eq rfl ?_ ?_); (· rfl)) | ((with_reducible refine frLe_val' (int_eq ?_) ?_ ?_); (· omega); (· rfl)) | ((with_reducible refine frLe_val' (int_eq ?_) ?_ ?_); (· simp only [Int.natCast_add, Int.natCast_one, Int.natCast_ofNat] <;> omega); (· rfl)) | ((with_reducible refine frLe_val' (bool_eq ?_) ?_ ?_); (· first | assumption | (symm; assumption)); (· rfl))))) hpLe_nil
          · rintro x hx
            rcases Nat.lt_or_ge x n with h1 | h1
            · obtain ⟨u, rfl, ca⟩ := hS x h1
              have hs : (!allB (fun j => fewB (D j) m) (x + 1)) = (!(allB (fun j => fewB (D j) m) x && fewB (D x) m)) := rfl
              generalize allB (fun j => fewB (D j) m) x = g0 at *
              have gf := moreM_gives (I := D x) (G := G) hm (hS0 x h1)
              generalize fewB (D x) m = g2 at *
              cases g0 <;> cases g2
              all_goals
                (repeat ((try (conv => whnf)); (first | (refine ca _ ?_) | (with_reducible refine condP_true ?_) | (with_reducible refine condP_false ?_) | (with_reducible refine condP_not ?_) | (with_reducible refine condP_and ?_) | ((with_reducible refine condP_dt ?_ ?_); (· omega)) | ((with_reducible refine condP_df ?_ ?_); (· omega)) | ((with_reducible refine condP_yes ?_ ?_); (· assumption)) | ((with_reducible refine condP_no ?_ ?_); (· assumption)) | ((with_reducible refine ArP_i64 ?_ ?_); (· omega)) | ((with_reducible refine mustP.mk ?_ ?_); (· first | omega | rfl | (dsimp only; omega))) | (with_reducible refine EqP_nil tab_ok ?_) | (with_reducible refine EqP_sli tab_ok ?_) | (with_reducible refine DrawP_auto tab_ok (by kernel_rfl) (by decide +kernel) ?_) | (with_reducible refine DrawP_auto2 tab_ok (by kernel_rfl) (by decide +kernel) ?_) | (with_reducible refine eq29 ?_) | (with_reducible refine eq31 ?_) | (with_reducible refine eq48 ?_) | (with_reducible refine eq52 ?_) | (with_reducible refine eq83 ?_) | (with_reducible refine eq110 ?_) | (with_reducible refine eq136 ?_) | (with_reducible refine eq155 ?_) | (with_reducible refine eq163 ?_) | (with_reducible refine eq170 ?_) | (with_reducible refine CallP_gives (fun vs w => by kernel_rfl) (by kernel_rfl) (gf) ?_) | (with_reducible refine RCallP_gives (fun vs w => by kernel_rfl) (by kernel_rfl) (gf) ?_))))
                refine ⟨x + 1, by omega, by omega, ?_⟩
                ((refine Le_head ?_); (conv => whnf); (refine Le_mk (by rfl) (by rfl) ?_ ?_); (· (repeat (first | (with_reducible exact frLe_nil) | (with_reducible refine frLe_any ?_) | (with_reducible refine frLe_val ?_) | ((with_reducible refine frLe_eq rfl ?_ ?_); (· rfl)) | ((with_reducible refine frLe_val' (int_eq ?_) ?_ ?_); (· omega); (· rfl)) | ((with_reducible refine frLe_val' (int_eq ?_) ?_ ?_); (· simp only [Int.natCast_add, Int.natCast_one, Int.natCast_ofNat] <;> omega); (· rfl)) | ((with_reducible refine frLe_val' (bool_eq ?_) ?_ ?_); (· first | assumption | (symm; assumption)); (· rfl))))))
                exact hpLe_cells (by (repeat (first | (with_reducible exact frLe_nil) | (with_reducible refine frLe_any ?_) | (with_reducible refine frLe_val ?_) | ((with_reducible refine frLe_eq rfl ?_ ?_); (· rfl)) | ((with_reducible refine frLe_val' (int_eq ?_) ?_ ?_); (· omega); (· rfl)) | ((with_reducible refine frLe_val' (int_eq ?_) ?_ ?_); (· simp only [Int.natCast_add, Int.natCast_one, Int.natCast_ofNat] <;> omega); (· rfl)) | ((with_reducible refine frLe_val' (bool_eq ?_) ?_ ?_); (· first | assumption | (symm; assumption)); (· rfl))))) hpLe_nil
            · obtain rfl : x = n := by omega
              generalize allB (fun j => fewB (D j) m) x = g0 at *
              cases g0
              all_goals
                (repeat ((try (conv => whnf)); (first | (with_reducible refine condP_true ?_) | (with_reducible refine condP_false ?_) | (with_reducible refine condP_not ?_) | (with_reducible refine condP_and ?_) | ((with_reducible refine condP_dt ?_ ?_); (· omega)) | ((with_reducible refine condP_df ?_ ?_); (· omega)) | ((with_reducible refine condP_yes ?_ ?_); (· assumption)) | ((with_reducible refine condP_no ?_ ?_); (· assumption)) | ((with_reducible refine ArP_i64 ?_ ?_); (· omega)) | ((with_reducible refine mustP.mk ?_ ?_); (· first | omega | rfl | (dsimp only; omega))) | (with_reducible refine EqP_nil tab_ok ?_) | (with_reducible refine EqP_sli tab_ok ?_) | (with_reducible refine DrawP_auto tab_ok (by kernel_rfl) (by decide +kernel) ?_) | (with_reducible refine DrawP_auto2 tab_ok (by kernel_rfl) (by decide +kernel) ?_) | (with_reducible refine eq29 ?_) | (with_reducible refine eq31 ?_) | (with_reducible refine eq48 ?_) | (with_reducible refine eq52 ?_) | (with_reducible refine eq83 ?_) | (with_reducible refine eq110 ?_) | (with_reducible refine eq136 ?_) | (with_reducible refine eq155 ?_) | (with_reducible refine eq163 ?_) | (with_reducible refine eq170 ?_))))
                exact ⟨rfl, rfl⟩
    · have hr : srcM k z p i (fewB I m) (allB (fun j => fewB (D j) m) n) (allB (fun j => fewB (D' j) m) pn) gE iE = gE := by unfold srcM; rw [if_neg k0, if_pos k12, if_neg hg]
      rw [hr]
      rcases k12 with rfl | rfl <;> ((repeat' ((try (conv => whnf)); (first | (with_reducible refine condP_true ?_) | (with_reducible refine condP_false ?_) | (with_reducible refine condP_not ?_) | (with_reducible refine condP_and ?_) | ((with_reducible refine condP_dt ?_ ?_); (· omega)) | ((with_reducible refine condP_df ?_ ?_); (· omega)) | ((with_reducible refine condP_yes ?_ ?_); (· assumption)) | ((with_reducible refine condP_no ?_ ?_); (· assumption)) | ((with_reducible refine ArP_i64 ?_ ?_); (· omega)) | ((with_reducible refine mustP.mk ?_ ?_); (· first | omega | rfl | (dsimp only; omega))) | (with_reducible refine EqP_nil tab_ok ?_) | (with_reducible refine EqP_sli tab_ok ?_) | (with_reducible refine DrawP_auto tab_ok (by kernel_rfl) (by decide +kernel) ?_) | (with_reducible refine DrawP_auto2 tab_ok (by kernel_rfl) (by decide +kernel) ?_) | (with_reducible refine eq29 ?_) | (with_reducible refine eq31 ?_) | (with_reducible refine eq48 ?_) | (with_reducible refine eq52 ?_) | (with_reducible refine eq83 ?_) | (with_reducible refine eq110 ?_) | (with_reducible refine eq136 ?_) | (with_reducible refine eq155 ?_) | (with_reducible refine eq163 ?_) | (with_reducible refine eq170 ?_) | (with_reducible refine CallP_gives (fun vs w => by kernel_rfl) (by kernel_rfl) (hG) ?_) | (with_reducible refine RCallP_gives (fun vs w => by kernel_rfl) (by kernel_rfl) (hG) ?_) | (with_reducible refine condP_dec (fun h0 => ?_) (fun h0 => ?_)))))) <;> exact ⟨rfl, rfl⟩
  · have hr : ∀ i fw sg pg, srcM k z p i fw sg pg gE iE = 14 := by intro i fw sg pg; unfold srcM; rw [if_neg k0, if_neg k12, if_neg k3]
    rw [hr]
    have k1 : k ≠ 1 := fun h => k12 (.inl h)
    have k2 : k ≠ 2 := fun h => k12 (.inr h)
    clear hr k12 hG hI hS hP
    (repeat' ((try (conv => whnf)); (first | (with_reducible refine condP_true ?_) | (with_reducible refine condP_false ?_) | (with_reducible refine condP_not ?_) | (with_reducible refine condP_and ?_) | ((with_reducible refine condP_dt ?_ ?_); (· omega)) | ((with_reducible refine condP_df ?_ ?_); (· omega)) | ((with_reducible refine condP_yes ?_ ?_); (· assumption)) | ((with_reducible refine condP_no ?_ ?_); (· assumption)) | ((with_reducible refine ArP_i64 ?_ ?_); (· omega)) | ((with_reducible refine mustP.mk ?_ ?_); (· first | omega | rfl | (dsimp only; omega))) | (with_reducible refine EqP_nil tab_ok ?_) | (with_reducible refine EqP_sli tab_ok ?_) | (with_reducible refine DrawP_auto tab_ok (by kernel_rfl) (by decide +kernel) ?_) | (with_reducible refine DrawP_auto2 tab_ok (by kernel_rfl) (by decide +kernel) ?_) | (with_reducible refine eq29 ?_) | (with_reducible refine eq31 ?_) | (with_reducible refine eq48 ?_) | (with_reducible refine eq52 ?_) | (with_reducible refine eq83 ?_) | (with_reducible refine eq110 ?_) | (with_reducible refine eq136 ?_) | (with_reducible refine eq155 ?_) | (with_reducible refine eq163 ?_) | (with_reducible refine eq170 ?_) | (with_reducible refine condP_dec (fun h0 => ?_) (fun h0 => ?_)))))
    all_goals exact ⟨rfl, rfl⟩
end
end Go.Proofs.Ytampdegpfndggaa

namespace Go.Proofs.Ytampdegpfndggaa
open Go.RowKit
set_option linter.unusedVariables false
set_option linter.unusedSimpArgs false
set_option linter.unnecessarySimpa false

/-- A loop whose state is told by two things, by three. -/
theorem LoopP_at2 {P : Program} {T : Tab} (hT : TOk P T) {n0 : Nat} {b : Code} {fr : List AV} {hp : List Blk} {G : Mem} {Q : Post} {ι κ : Type} (inv : ι → κ → Prop) (S : ι → κ → List (Nat × AV)) (H : ι → κ → List Blk) (μ : ι → κ → Nat) (i0 : ι) (k0 : κ) (h0 : inv i0 k0)
    (start : Le n0 fr hp G (headFr b fr (S i0 k0)) (H i0 k0) G)
    (round : ∀ i k, inv i k → natsF (written b []) fun ws => havocF ws 0 fr fun fr1 => setAllF fr1 (S i k) fun fr2 => vcode P T n0 b fr2 (H i k) G fun e fr' hp' G' => match e with
      | .normal => ∃ i' k', inv i' k' ∧ μ i' k' < μ i k ∧ Le n0 fr' hp' G' (headFr b fr (S i' k')) (H i' k') G
      | e => Q e fr' hp' G') : LoopP P n0 b fr hp G Q := by
  refine LoopP_mk hT (fun i : ι × κ => inv i.1 i.2) (fun i => headFr b fr (S i.1 i.2)) (fun i => H i.1 i.2) (fun _ => G) (fun i => μ i.1 i.2) ⟨(i0, k0), h0, start⟩ fun i hi => ?_
  have h := round i.1 i.2 hi
  rw [natsF_eq, havocF_eq, setAllF_eq] at h
  refine cast (congrArg _ ?_) h
  funext e fr' hp' G'
  cases e with
  | normal => exact propext ⟨fun ⟨i', k', h1, h2, h3⟩ => ⟨(i', k'), h1, h2, h3⟩, fun ⟨p, h1, h2, h3⟩ => ⟨p.1, p.2, h1, h2, h3⟩⟩
  | _ => rfl
theorem LoopP_at3 {P : Program} {T : Tab} (hT : TOk P T) {n0 : Nat} {b : Code} {fr : List AV} {hp : List Blk} {G : Mem} {Q : Post} {ι κ ν : Type} (inv : ι → κ → ν → Prop) (S : ι → κ → ν → List (Nat × AV)) (H : ι → κ → ν → List Blk) (μ : ι → κ → ν → Nat) (i0 : ι) (k0 : κ) (m0 : ν) (h0 : inv i0 k0 m0)
    (start : Le n0 fr hp G (headFr b fr (S i0 k0 m0)) (H i0 k0 m0) G)
    (round : ∀ i k m, inv i k m → natsF (written b []) fun ws => havocF ws 0 fr fun fr1 => setAllF fr1 (S i k m) fun fr2 => vcode P T n0 b fr2 (H i k m) G fun e fr' hp' G' => match e with
      | .normal => ∃ i' k' m', inv i' k' m' ∧ μ i' k' m' < μ i k m ∧ Le n0 fr' hp' G' (headFr b fr (S i' k' m')) (H i' k' m') G
      | e => Q e fr' hp' G') : LoopP P n0 b fr hp G Q := by
  refine LoopP_at2 hT (fun (i : ι) (q : κ × ν) => inv i q.1 q.2) (fun i q => S i q.1 q.2) (fun i q => H i q.1 q.2) (fun i q => μ i q.1 q.2) i0 (k0, m0) h0 start fun i q hi => ?_
  have h := round i q.1 q.2 hi
  rw [natsF_eq, havocF_eq, setAllF_eq] at h ⊢
  refine cast (congrArg _ ?_) h
  funext e fr' hp' G'
  cases e with
  | normal => exact propext ⟨fun ⟨i', k', m', h1, h2, h3⟩ => ⟨i', (k', m'), h1, h2, h3⟩, fun ⟨i', p, h1, h2, h3⟩ => ⟨i', p.1, p.2, h1, h2, h3⟩⟩
  | _ => rfl
/-- All that stands, but for one block. -/
def memBut (w : World) (o : Option Nat) : Mem := fun b => if o = some b then none else w.heap[b]?
theorem Takes_of {P : Program} {T : Tab} (hT : TOk P T) {f : FuncId} {fn : Func} (hfn : P.funcs[f]? = some fn) {post : List AV} {G : Mem} {E : TypeId} {sz n : Nat} {xs : List Value} {n' : Nat} {xs' : List Value} (hn' : 0 < n')
    (h : ∀ G', G.le G' → bodyV P T 1 fn (.own 0 :: post) [.own E sz n xs] G' fun v hp' _ => ∃ k, v = .own k ∧ nthB hp' k = .own E sz n' xs') : Takes P f post G E sz n xs n' xs' := by
  intro base w v ts hG hown hbase hfree hts
  have hle : G.le (memBut w (blkOf v)) := fun b o hb => by
    unfold memBut
    by_cases h1 : blkOf v = some b
    · rw [hfree b h1] at hb; cases hb
    · rw [if_neg h1]; exact hG b o hb
  have hmb : ∀ b o, memBut w (blkOf v) b = some o → w.heap[b]? = some o := fun b o hb => by
    unfold memBut at hb
    split at hb
    · cases hb
    · exact hb
  have hsl := ownsRow_sl hown
  have hw0 : Below base {w with heap := w.heap.extract 0 base} w := by
    refine ⟨rfl, rfl, rfl, ?_, fun k hk => ?_⟩
    · simp; omega
    · show w.heap[k]? = (w.heap.extract 0 base)[k]?
      rw [Array.getElem?_extract]; simp; intro h; omega
  have hsz : ({w with heap := w.heap.extract 0 base} : World).heap.size = base := by
    show (w.heap.extract 0 base).size = base
    simp; omega
  have hr : HR {w with heap := w.heap.extract 0 base} (memBut w (blkOf v)) (fun k => if k = 0 then some v else none) [.own E sz n xs] (memBut w (blkOf v)) w := by
    refine ⟨by rw [hsz]; exact hw0, hmb, Mem.le_refl _, fun b o hb => .inl hb, fun k y hk => ?_, fun k k' y y' x x' b hne hk hk' => ?_⟩
    · by_cases h0 : k = 0
      · subst h0
        simp at hk; subst hk
        refine ⟨_, rfl, ?_⟩
        rw [hsz]
        refine ⟨hown, fun g hg => ?_⟩
        unfold memBut; rw [if_pos hg]
      · simp [h0] at hk
    · by_cases h0 : k = 0
      · have : k' ≠ 0 := by omega
        simp [this] at hk'
      · simp [h0] at hk
  refine (bodyV_ok hT hfn (hp := [.own E sz n xs]) (h _ hle) _ _ _ w (v :: ts).toArray hr ?_).mono ?_
  · simp only [AV.rels]
    refine ⟨v, ts, rfl, ?_, AV.rels_mono (noName_le _) _ _ hts⟩
    simp only [AV.rel]; exact ⟨by simp, hsl⟩
  · rintro e w' ⟨y, β', v', hp', G', rfl, h1, h2, h3, k, rfl, hk⟩
    simp only [AV.rel] at h3
    obtain ⟨x, hx1, hx2⟩ := h2.blk k y h3.1
    rw [nthB_live hk rfl] at hx1; cases hx1
    rw [hsz] at hx2
    have hold : ∀ b, b < w.heap.size → blkOf v ≠ some b → w'.heap[b]? = w.heap[b]? ∧ ∃ o, G' b = some o := fun b hb hne => by
      have h4 : memBut w (blkOf v) b = some w.heap[b] := by unfold memBut; rw [if_neg hne]; exact Array.getElem?_eq_getElem hb
      have h5 := h2.sub b _ h4
      exact ⟨by rw [h2.hold b _ h5, Array.getElem?_eq_getElem hb], _, h5⟩
    have hat : ∀ b, blkOf y = some b → w.heap.size ≤ b ∨ blkOf v = some b := fun b hb => by
      by_cases h4 : w.heap.size ≤ b
      · exact .inl h4
      · right
        apply Classical.byContradiction
        intro hne
        obtain ⟨_, o, h5⟩ := hold b (by omega) hne
        rw [hx2.2 b hb] at h5; cases h5
    refine ⟨y, rfl, hx2.1, ⟨h2.below.os, h2.below.tape, h2.below.output, ?_, fun b hb hne => (hold b hb (fun e => hne e.symm)).1⟩, hat⟩
    rcases Nat.eq_zero_or_pos w.heap.size with h0 | h0
    · omega
    · by_cases h4 : blkOf v = some (w.heap.size - 1)
      · rcases hx2.1.2 with ⟨_, h5⟩ | ⟨g, cap, cur, rfl, h5, h6, _⟩
        · omega
        · have h7 := (Array.getElem?_eq_some_iff.1 h6).1
          rcases hat g rfl with h8 | h8
          · omega
          · rw [h4] at h8; cases h8; omega
      · have h5 := (hold (w.heap.size - 1) (by omega) h4).1
        rw [Array.getElem?_eq_getElem (show w.heap.size - 1 < w.heap.size by omega)] at h5
        have := (Array.getElem?_eq_some_iff.1 h5).1
        omega
theorem CallP_takes {P : Program} {f : FuncId} (hen : ∀ vs w, (callFunc f vs).run P w = .ok (.enter f vs) w) {k : Nat} {post : List AV} {hp : List Blk} {G : Mem} {K : AV → List Blk → Mem → Prop} {E : TypeId} {sz n : Nat} {xs : List Value} {n' : Nat} {xs' : List Value}
    (hk : nthB hp k = .own E sz n xs) (hu : AV.unders 0 post = true) (hc : Takes P f post G E sz n xs n' xs') (h : setF hp k .gone fun hp1 => lenF hp1 fun q => catF hp1 [.own E sz n' xs'] fun hp' => K (.own q) hp' G) : CallP P f (.own k :: post) hp G K := by
  rw [setF_eq] at h
  have h0 := lenF_eq h
  rw [catF_eq] at h0
  refine ⟨hen, fun w0 G0 β w vs hr ha => ?_⟩
  simp only [AV.rels] at ha
  obtain ⟨v, ts, hvs, hv, hts⟩ := ha
  have e : vs = (v :: ts).toArray := by rw [← hvs]
  subst e
  simp only [AV.rel] at hv
  obtain ⟨x, hx1, hx2⟩ := hr.blk k v hv.1
  rw [nthB_live hk rfl] at hx1; cases hx1
  refine (hc w0.heap.size w v ts hr.hold hx2.1 hr.below.size hx2.2 (bare_rels hu hts)).mono ?_
  rintro e w' ⟨y, rfl, h1, h2, h3⟩
  have hlen : (hp.set k .gone).length = hp.length := by simp
  rw [hlen] at h0
  refine ⟨y, _, _, _, G, rfl, Nm.le_put y (hr.fresh (Nat.le_refl _)), hr.moveName hv.1 (nthB_live hk rfl) rfl h2 h3 rfl (u := .own E sz n' xs') ⟨h1, fun g hg => ?_⟩, by simp only [AV.rel]; exact ⟨Nm.put_same _ _ _, ownsRow_sl h1⟩, h0⟩
  rcases h3 g hg with h7 | h7
  · exact mem_new hr.hold h7
  · exact hx2.2 g h7
theorem TakeP_by {P : Program} {f : FuncId} {k : Nat} {post : List AV} {hp0 : List Blk} {G : Mem} {K : Blk → Prop} {E : TypeId} {sz n : Nat} {xs : List Value} {n' : Nat} {xs' : List Value} (hk : nthB hp0 k = .own E sz n xs) (he : ∀ vs w, (callFunc f vs).run P w = .ok (.enter f vs) w) (hu : AV.unders 0 post = true) (hc : Takes P f post G E sz n xs n' xs') (h : K (.own E sz n' xs')) : TakeP P f k post hp0 G K :=
  .mk E sz n xs n' xs' hk he hu hc h
end Go.Proofs.Ytampdegpfndggaa
