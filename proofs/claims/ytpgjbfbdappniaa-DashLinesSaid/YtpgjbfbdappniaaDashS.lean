/-
  dash: the sides of a line, and its length.
-/
import Derived.Test.YtpgjbfbdappniaaRootE
import Derived.Test.YtpgjbfbdappniaaStand
import Derived.Test.YtpgjbfbdappniaaArea
import Derived.Test.YtpgjbfbdappniaaEw
namespace Go.Proofs.Ytpgjbfbdappniaa
open Go.RowKit
set_option linter.unusedVariables false
set_option linter.unusedSimpArgs false
set_option maxRecDepth 20000
/-- The place i of n, the first one behind the last. -/
def pi (n i : Nat) : Nat := if i = n then 0 else i
theorem pi_lt {n i : Nat} (hi : i ≤ n) (hn : 0 < n) : pi n i < n := by unfold pi; split <;> omega
theorem pi_in {n i : Nat} (hi : i < n) : pi n i = i := by unfold pi; rw [if_neg (by omega)]
theorem pi_end {n : Nat} : pi n n = 0 := by unfold pi; rw [if_pos rfl]
noncomputable def szI (X Y : Nat → Int) (n i : Nat) : Int := rootI ((X (pi n (i + 1)) - X (pi n i)) * (X (pi n (i + 1)) - X (pi n i)) + (Y (pi n (i + 1)) - Y (pi n i)) * (Y (pi n (i + 1)) - Y (pi n i)))
noncomputable def atI (X Y : Nat → Int) (n : Nat) : Nat → Int
  | 0 => 0
  | i + 1 => atI X Y n i + szI X Y n i
/-- How many sides a line has. -/
def tot (n : Nat) (cl : Bool) : Nat := if n = 0 then 0 else if cl = true ∧ 1 < n then n else n - 1
structure Sd where
  fx : Int
  fy : Int
  tx : Int
  ty : Int
  at_ : Int
  sz : Int
def encS (s : Sd) : List Value := [.int .i64 s.fx, .int .i64 s.fy, .int .i64 s.tx, .int .i64 s.ty, .int .i64 s.at_, .int .i64 s.sz]
theorem encS_len : ∀ s : Sd, (encS s).length = 6 := fun _ => rfl
noncomputable def sideI (X Y : Nat → Int) (n i : Nat) : Sd := ⟨X (pi n i), Y (pi n i), X (pi n (i + 1)), Y (pi n (i + 1)), atI X Y n i, szI X Y n i⟩
noncomputable def sidesL (X Y : Nat → Int) (n k : Nat) : List Sd := (List.range k).map (sideI X Y n)
section
variable {X Y : Nat → Int} {n k i : Nat}
theorem sidesL_next : sidesL X Y n (k + 1) = sidesL X Y n k ++ [sideI X Y n k] := by unfold sidesL; rw [List.range_succ, List.map_append]; rfl
theorem sidesL_length : (sidesL X Y n k).length = k := by simp [sidesL]
theorem sidesL_get (h : i < k) : (sidesL X Y n k)[i]? = some (sideI X Y n i) := by
  unfold sidesL; rw [List.getElem?_map, List.getElem?_range h]; rfl
theorem sq_bd {a : Int} (h : -65534 ≤ a ∧ a ≤ 65534) : 0 ≤ a * a ∧ a * a ≤ 4294705156 := by
  have h1 := sq_nonneg a
  have h2 := absMul h h
  omega
theorem szI_bd (hok : ∀ j, j < n → okXY (X j) (Y j) = true) (hi : i < n) : 0 ≤ szI X Y n i ∧ szI X Y n i ≤ 92681 := by
  obtain ⟨a1, a2⟩ := okXY_of (hok _ (pi_lt (show i ≤ n by omega) (by omega)))
  obtain ⟨b1, b2⟩ := okXY_of (hok _ (pi_lt (show i + 1 ≤ n by omega) (by omega)))
  have h1 := sq_bd (a := X (pi n (i + 1)) - X (pi n i)) (by omega)
  have h2 := sq_bd (a := Y (pi n (i + 1)) - Y (pi n i)) (by omega)
  unfold szI
  obtain ⟨r0, r1, r2⟩ := rootI_is (n := (X (pi n (i + 1)) - X (pi n i)) * (X (pi n (i + 1)) - X (pi n i)) + (Y (pi n (i + 1)) - Y (pi n i)) * (Y (pi n (i + 1)) - Y (pi n i))) (by omega)
  refine ⟨r0, ?_⟩
  have := lt_of_sq (a := rootI ((X (pi n (i + 1)) - X (pi n i)) * (X (pi n (i + 1)) - X (pi n i)) + (Y (pi n (i + 1)) - Y (pi n i)) * (Y (pi n (i + 1)) - Y (pi n i)))) (b := 92682) (by omega) (by omega)
  omega
theorem atI_bd (hok : ∀ j, j < n → okXY (X j) (Y j) = true) : ∀ i, i ≤ n → 0 ≤ atI X Y n i ∧ atI X Y n i ≤ 92681 * i
  | 0, _ => by simp [atI]
  | i + 1, hi => by
    have h1 := atI_bd hok i (by omega)
    have h2 := szI_bd hok (show i < n by omega)
    rw [atI]; omega
theorem tot_le {cl : Bool} : tot n cl ≤ n := by
  unfold tot; split
  · omega
  · split <;> omega
end
section
variable {G : Mem} {A : Option Addr} {X Y : Nat → Int} {n q : Nat} {cl : Bool}
def pairS (t : Int) (a : AV) : AV := .tup [a, .val (.int .i64 t)]
theorem pairS_wraps (t : Int) : Wraps (pairS t) := .pair (.val (.int .i64 t)) (fun _ => rfl) rfl
set_option maxHeartbeats 8000000 in
theorem sides_makes (hp : ElsM G A 2 n (ptC X Y)) (hok : ∀ j, j < n → okXY (X j) (Y j) = true) (hn : n ≤ 1048576) :
    Makes Try.prog 32 [.agg [.val (.slice A n q), .val (.bool cl)]] G (pairS (atI X Y n (tot n cl))) 101 6 (tot n cl) ((sidesL X Y n (tot n cl)).flatMap encS) := by
  refine Makes_of tab_ok Try.func32 (pairS_wraps _) ?_
  (repeat ((try (conv => whnf)); (first | (with_reducible refine condP_true ?_) | (with_reducible refine condP_false ?_) | (with_reducible refine condP_not ?_) | (with_reducible refine condP_and ?_) | ((with_reducible refine condP_dt ?_ ?_); (· omega)) | ((with_reducible refine condP_df ?_ ?_); (· omega)) | ((with_reducible refine condP_yes ?_ ?_); (· assumption)) | ((with_reducible refine condP_no ?_ ?_); (· assumption)) | ((with_reducible refine ArP_i64 ?_ ?_); (· omega)) | ((with_reducible refine mustP.mk ?_ ?_); (· first | omega | rfl | (dsimp only; omega))) | (with_reducible refine EqP_nil tab_ok ?_) | (with_reducible refine EqP_sli tab_ok ?_) | (with_reducible refine DrawP_auto tab_ok (by kernel_rfl) (by decide +kernel) ?_) | (with_reducible refine DrawP_auto2 tab_ok (by kernel_rfl) (by decide +kernel) ?_) | (with_reducible refine eq43 ?_) | (with_reducible refine eq55 ?_) | (with_reducible refine eq57 ?_) | (with_reducible refine eq93 ?_) | (with_reducible refine eq101 ?_) | (with_reducible refine eq116 ?_) | (with_reducible refine eq119 ?_))))
  conv => whnf
  refine LoopP_at tab_ok (fun k => k + 1 ≤ n ∨ k = 0) (fun (k : Nat) => [(8, .val (.int .i64 ((k : Int) + 1)))]) (fun k => [.cells 34 [.val (.slice A n q), .val (.bool cl)], .cells 66 [.own 3], .cells 3 [.val (.int .i64 (atI X Y n k))], .own 101 6 k ((sidesL X Y n k).flatMap encS)]) (fun k => n - k) 0 (.inr rfl) ?_ ?_
  · refine Le_own 101 6 ?_
    conv => whnf
    ((refine Le_head ?_); (conv => whnf); (refine Le_mk (by rfl) (by rfl) ?_ ?_); (· (repeat (first | (with_reducible exact frLe_nil) | (with_reducible refine frLe_any ?_) | (with_reducible refine frLe_val ?_) | ((with_reducible refine frLe_eq rfl ?_ ?_); (· rfl)) | ((with_reducible refine frLe_val' (int_eq ?_) ?_ ?_); (· omega); (· rfl)) | ((with_reducible refine frLe_val' (int_eq ?_) ?_ ?_); (· simp only [Int.natCast_add, Int.natCast_one, Int.natCast_ofNat] <;> omega); (· rfl)) | ((with_reducible refine frLe_val' (bool_eq ?_) ?_ ?_); (· first | assumption | (symm; assumption)); (· rfl))))))
    exact hpLe_cells (by (repeat (first | (with_reducible exact frLe_nil) | (with_reducible refine frLe_any ?_) | (with_reducible refine frLe_val ?_) | ((with_reducible refine frLe_eq rfl ?_ ?_); (· rfl)) | ((with_reducible refine frLe_val' (int_eq ?_) ?_ ?_); (· omega); (· rfl)) | ((with_reducible refine frLe_val' (int_eq ?_) ?_ ?_); (· simp only [Int.natCast_add, Int.natCast_one, Int.natCast_ofNat] <;> omega); (· rfl)) | ((with_reducible refine frLe_val' (bool_eq ?_) ?_ ?_); (· first | assumption | (symm; assumption)); (· rfl))))) (hpLe_cells (by (repeat (first | (with_reducible exact frLe_nil) | (with_reducible refine frLe_any ?_) | (with_reducible refine frLe_val ?_) | ((with_reducible refine frLe_eq rfl ?_ ?_); (· rfl)) | ((with_reducible refine frLe_val' (int_eq ?_) ?_ ?_); (· omega); (· rfl)) | ((with_reducible refine frLe_val' (int_eq ?_) ?_ ?_); (· simp only [Int.natCast_add, Int.natCast_one, Int.natCast_ofNat] <;> omega); (· rfl)) | ((with_reducible refine frLe_val' (bool_eq ?_) ?_ ?_); (· first | assumption | (symm; assumption)); (· rfl))))) (hpLe_cells (by (repeat (first | (with_reducible exact frLe_nil) | (with_reducible refine frLe_any ?_) | (with_reducible refine frLe_val ?_) | ((with_reducible refine frLe_eq rfl ?_ ?_); (· rfl)) | ((with_reducible refine frLe_val' (int_eq ?_) ?_ ?_); (· omega); (· rfl)) | ((with_reducible refine frLe_val' (int_eq ?_) ?_ ?_); (· simp only [Int.natCast_add, Int.natCast_one, Int.natCast_ofNat] <;> omega); (· rfl)) | ((with_reducible refine frLe_val' (bool_eq ?_) ?_ ?_); (· first | assumption | (symm; assumption)); (· rfl))))) (hpLe_own rfl rfl hpLe_nil)))
  · rintro k hk
    have hat := atI_bd hok k (by omega)
    by_cases hstep : k + 1 < n ∨ (cl = true ∧ 1 < n)
    · have hkn : k < n := by omega
      obtain ⟨p, rfl, ca⟩ := hp.cells hkn
      obtain ⟨p3, hp3, cb⟩ := hp.cells (pi_lt (show k + 1 ≤ n by omega) (by omega))
      cases hp3
      obtain ⟨a1, a2⟩ := okXY_of (hok k (by omega))
      obtain ⟨b1, b2⟩ := okXY_of (hok _ (pi_lt (show k + 1 ≤ n by omega) (by omega)))
      have hz := szI_bd hok hkn
      have e1 := sq_bd (a := X (pi n (k + 1)) - X k) (by omega)
      have e2 := sq_bd (a := Y (pi n (k + 1)) - Y k) (by omega)
      have hs := Sqrt_gives (n := (X (pi n (k + 1)) - X k) * (X (pi n (k + 1)) - X k) + (Y (pi n (k + 1)) - Y k) * (Y (pi n (k + 1)) - Y k)) (G := G) (by omega)
      have hsz : rootI ((X (pi n (k + 1)) - X k) * (X (pi n (k + 1)) - X k) + (Y (pi n (k + 1)) - Y k) * (Y (pi n (k + 1)) - Y k)) = szI X Y n k := by
        unfold szI; rw [pi_in hkn]
      have hsd : encS (sideI X Y n k) = [.int .i64 (X k), .int .i64 (Y k), .int .i64 (X (pi n (k + 1))), .int .i64 (Y (pi n (k + 1))), .int .i64 (atI X Y n k), .int .i64 (szI X Y n k)] := by
        unfold encS sideI; simp only [pi_in hkn]
      have hnx : (sidesL X Y n (k + 1)).flatMap encS = (sidesL X Y n k).flatMap encS ++ encS (sideI X Y n k) := by rw [sidesL_next, List.flatMap_append]; simp
      have hat2 : atI X Y n (k + 1) = atI X Y n k + szI X Y n k := rfl
      rw [hsz] at hs
      rw [hsd] at hnx
      rcases Nat.lt_or_ge (k + 1) n with h1 | h1
      · have i1 : ((k : Int) + 1 - 1).toNat = k := by omega
        have ca : ∀ K : List Value → Prop, K [.int .i64 (X k), .int .i64 (Y k)] → OldCells G (p.add (((k : Int) + 1 - 1).toNat * 2)) 2 K := by rw [i1]; exact ca
        rw [pi_in h1] at cb hs hnx b1 b2 e1 e2
        generalize hw : atI X Y n (k + 1) = t' at *
        generalize atI X Y n k = t at *
        generalize szI X Y n k = z at *
        generalize hL' : (sidesL X Y n (k + 1)).flatMap encS = L' at *
        generalize (sidesL X Y n k).flatMap encS = L at *
        clear hsd hsz hp hok
        (repeat ((try (conv => whnf)); (first | (with_reducible refine DrawP_mk tab_ok (by kernel_rfl) 12 [] (by decide +kernel) ?_) | (refine ca _ ?_) | (refine cb _ ?_) | (with_reducible refine condP_true ?_) | (with_reducible refine condP_false ?_) | (with_reducible refine condP_not ?_) | (with_reducible refine condP_and ?_) | ((with_reducible refine condP_dt ?_ ?_); (· omega)) | ((with_reducible refine condP_df ?_ ?_); (· omega)) | ((with_reducible refine condP_yes ?_ ?_); (· assumption)) | ((with_reducible refine condP_no ?_ ?_); (· assumption)) | ((with_reducible refine ArP_i64 ?_ ?_); (· omega)) | ((with_reducible refine mustP.mk ?_ ?_); (· first | omega | rfl | (dsimp only; omega))) | (with_reducible refine EqP_nil tab_ok ?_) | (with_reducible refine EqP_sli tab_ok ?_) | (with_reducible refine DrawP_auto tab_ok (by kernel_rfl) (by decide +kernel) ?_) | (with_reducible refine DrawP_auto2 tab_ok (by kernel_rfl) (by decide +kernel) ?_) | (with_reducible refine eq43 ?_) | (with_reducible refine eq55 ?_) | (with_reducible refine eq57 ?_) | (with_reducible refine eq93 ?_) | (with_reducible refine eq101 ?_) | (with_reducible refine eq116 ?_) | (with_reducible refine eq119 ?_) | (with_reducible refine CallP_gives (fun vs w => by kernel_rfl) (by kernel_rfl) (hs) ?_) | (with_reducible refine RCallP_gives (fun vs w => by kernel_rfl) (by kernel_rfl) (hs) ?_) | (with_reducible refine CallP_enter tab_ok Try.func53 (fun vs w => by kernel_rfl) (by rfl) ?_))))
        refine ⟨k + 1, by omega, by omega, ?_⟩
        rw [hw, hL', hat2, hnx]
        refine Le_move 8 3 rfl rfl rfl rfl ?_
        conv => whnf
        ((refine Le_head ?_); (conv => whnf); (refine Le_mk (by rfl) (by rfl) ?_ ?_); (· (repeat (first | (with_reducible exact frLe_nil) | (with_reducible refine frLe_any ?_) | (with_reducible refine frLe_val ?_) | ((with_reducible refine frLe_eq rfl ?_ ?_); (· rfl)) | ((with_reducible refine frLe_val' (int_eq ?_) ?_ ?_); (· omega); (· rfl)) | ((with_reducible refine frLe_val' (int_eq ?_) ?_ ?_); (· simp only [Int.natCast_add, Int.natCast_one, Int.natCast_ofNat] <;> omega); (· rfl)) | ((with_reducible refine frLe_val' (bool_eq ?_) ?_ ?_); (· first | assumption | (symm; assumption)); (· rfl))))))
        exact hpLe_cells (by (repeat (first | (with_reducible exact frLe_nil) | (with_reducible refine frLe_any ?_) | (with_reducible refine frLe_val ?_) | ((with_reducible refine frLe_eq rfl ?_ ?_); (· rfl)) | ((with_reducible refine frLe_val' (int_eq ?_) ?_ ?_); (· omega); (· rfl)) | ((with_reducible refine frLe_val' (int_eq ?_) ?_ ?_); (· simp only [Int.natCast_add, Int.natCast_one, Int.natCast_ofNat] <;> omega); (· rfl)) | ((with_reducible refine frLe_val' (bool_eq ?_) ?_ ?_); (· first | assumption | (symm; assumption)); (· rfl))))) (hpLe_cells (by (repeat (first | (with_reducible exact frLe_nil) | (with_reducible refine frLe_any ?_) | (with_reducible refine frLe_val ?_) | ((with_reducible refine frLe_eq rfl ?_ ?_); (· rfl)) | ((with_reducible refine frLe_val' (int_eq ?_) ?_ ?_); (· omega); (· rfl)) | ((with_reducible refine frLe_val' (int_eq ?_) ?_ ?_); (· simp only [Int.natCast_add, Int.natCast_one, Int.natCast_ofNat] <;> omega); (· rfl)) | ((with_reducible refine frLe_val' (bool_eq ?_) ?_ ?_); (· first | assumption | (symm; assumption)); (· rfl))))) (hpLe_cells (by (repeat (first | (with_reducible exact frLe_nil) | (with_reducible refine frLe_any ?_) | (with_reducible refine frLe_val ?_) | ((with_reducible refine frLe_eq rfl ?_ ?_); (· rfl)) | ((with_reducible refine frLe_val' (int_eq ?_) ?_ ?_); (· omega); (· rfl)) | ((with_reducible refine frLe_val' (int_eq ?_) ?_ ?_); (· simp only [Int.natCast_add, Int.natCast_one, Int.natCast_ofNat] <;> omega); (· rfl)) | ((with_reducible refine frLe_val' (bool_eq ?_) ?_ ?_); (· first | assumption | (symm; assumption)); (· rfl))))) (hpLe_own rfl rfl hpLe_nil)))
      · obtain rfl : n = k + 1 := by omega
        obtain ⟨hcl, h2⟩ : cl = true ∧ 1 < k + 1 := hstep.resolve_left (by omega)
        subst hcl
        have ht : tot (k + 1) true = k + 1 := by unfold tot; rw [if_neg (by omega), if_pos ⟨rfl, h2⟩]
        rw [ht]
        have i1 : (((k + 1 : Nat) : Int) - 1).toNat = k := by omega
        have ca : ∀ K : List Value → Prop, K [.int .i64 (X k), .int .i64 (Y k)] → OldCells G (p.add ((((k + 1 : Nat) : Int) - 1).toNat * 2)) 2 K := by rw [i1]; exact ca
        rw [pi_end] at cb hs hnx b1 b2 e1 e2
        generalize hw : atI X Y (k + 1) (k + 1) = t' at *
        generalize atI X Y (k + 1) k = t at *
        generalize szI X Y (k + 1) k = z at *
        generalize hL' : (sidesL X Y (k + 1) (k + 1)).flatMap encS = L' at *
        generalize (sidesL X Y (k + 1) k).flatMap encS = L at *
        clear hsd hsz hp hok
        subst hat2
        (repeat ((try (conv => whnf)); (first | (with_reducible refine DrawP_mk tab_ok (by kernel_rfl) 11 [] (by decide +kernel) ?_) | (refine ca _ ?_) | (refine cb _ ?_) | (with_reducible refine condP_true ?_) | (with_reducible refine condP_false ?_) | (with_reducible refine condP_not ?_) | (with_reducible refine condP_and ?_) | ((with_reducible refine condP_dt ?_ ?_); (· omega)) | ((with_reducible refine condP_df ?_ ?_); (· omega)) | ((with_reducible refine condP_yes ?_ ?_); (· assumption)) | ((with_reducible refine condP_no ?_ ?_); (· assumption)) | ((with_reducible refine ArP_i64 ?_ ?_); (· omega)) | ((with_reducible refine mustP.mk ?_ ?_); (· first | omega | rfl | (dsimp only; omega))) | (with_reducible refine EqP_nil tab_ok ?_) | (with_reducible refine EqP_sli tab_ok ?_) | (with_reducible refine DrawP_auto tab_ok (by kernel_rfl) (by decide +kernel) ?_) | (with_reducible refine DrawP_auto2 tab_ok (by kernel_rfl) (by decide +kernel) ?_) | (with_reducible refine eq43 ?_) | (with_reducible refine eq55 ?_) | (with_reducible refine eq57 ?_) | (with_reducible refine eq93 ?_) | (with_reducible refine eq101 ?_) | (with_reducible refine eq116 ?_) | (with_reducible refine eq119 ?_) | (with_reducible refine CallP_gives (fun vs w => by kernel_rfl) (by kernel_rfl) (hs) ?_) | (with_reducible refine RCallP_gives (fun vs w => by kernel_rfl) (by kernel_rfl) (hs) ?_) | (with_reducible refine CallP_enter tab_ok Try.func53 (fun vs w => by kernel_rfl) (by rfl) ?_))))
        exact .inl ⟨8, rfl, by rw [hnx]; rfl⟩
    · have hk2 : k = tot n cl := by
        unfold tot
        split
        · omega
        · split
          · rename_i h; exact absurd (.inr h) hstep
          · omega
      rw [← hk2]
      have h1 : ¬ k + 1 < n := fun h => hstep (.inl h)
      have h2 : cl = true → ¬ 1 < n := fun h h' => hstep (.inr ⟨h, h'⟩)
      clear hp hok hstep
      cases cl
      · (repeat ((try (conv => whnf)); (first | (with_reducible refine condP_true ?_) | (with_reducible refine condP_false ?_) | (with_reducible refine condP_not ?_) | (with_reducible refine condP_and ?_) | ((with_reducible refine condP_dt ?_ ?_); (· omega)) | ((with_reducible refine condP_df ?_ ?_); (· omega)) | ((with_reducible refine condP_yes ?_ ?_); (· assumption)) | ((with_reducible refine condP_no ?_ ?_); (· assumption)) | ((with_reducible refine ArP_i64 ?_ ?_); (· omega)) | ((with_reducible refine mustP.mk ?_ ?_); (· first | omega | rfl | (dsimp only; omega))) | (with_reducible refine EqP_nil tab_ok ?_) | (with_reducible refine EqP_sli tab_ok ?_) | (with_reducible refine DrawP_auto tab_ok (by kernel_rfl) (by decide +kernel) ?_) | (with_reducible refine DrawP_auto2 tab_ok (by kernel_rfl) (by decide +kernel) ?_) | (with_reducible refine eq43 ?_) | (with_reducible refine eq55 ?_) | (with_reducible refine eq57 ?_) | (with_reducible refine eq93 ?_) | (with_reducible refine eq101 ?_) | (with_reducible refine eq116 ?_) | (with_reducible refine eq119 ?_))))
        exact .inl ⟨3, rfl, rfl⟩
      · have h3 := h2 rfl
        (repeat ((try (conv => whnf)); (first | (with_reducible refine condP_true ?_) | (with_reducible refine condP_false ?_) | (with_reducible refine condP_not ?_) | (with_reducible refine condP_and ?_) | ((with_reducible refine condP_dt ?_ ?_); (· omega)) | ((with_reducible refine condP_df ?_ ?_); (· omega)) | ((with_reducible refine condP_yes ?_ ?_); (· assumption)) | ((with_reducible refine condP_no ?_ ?_); (· assumption)) | ((with_reducible refine ArP_i64 ?_ ?_); (· omega)) | ((with_reducible refine mustP.mk ?_ ?_); (· first | omega | rfl | (dsimp only; omega))) | (with_reducible refine EqP_nil tab_ok ?_) | (with_reducible refine EqP_sli tab_ok ?_) | (with_reducible refine DrawP_auto tab_ok (by kernel_rfl) (by decide +kernel) ?_) | (with_reducible refine DrawP_auto2 tab_ok (by kernel_rfl) (by decide +kernel) ?_) | (with_reducible refine eq43 ?_) | (with_reducible refine eq55 ?_) | (with_reducible refine eq57 ?_) | (with_reducible refine eq93 ?_) | (with_reducible refine eq101 ?_) | (with_reducible refine eq116 ?_) | (with_reducible refine eq119 ?_))))
        exact .inl ⟨3, rfl, rfl⟩
theorem one_line {G : Mem} {b : Nat} (h : ∀ (j : Nat) u, ([.slice A n q, .bool cl] : List Value)[j]? = some u → G.cell? ⟨b, j, none⟩ = some u) (hp : ElsM G A 2 n (ptC X Y)) (hq : n ≤ q ∧ q ≤ maxLen) : LinesM G (some ⟨b, 0, none⟩) 1 (fun _ => ⟨A, n, q, X, Y, cl⟩) := by
  refine ⟨⟨fun x hx => rfl, fun x hx => ⟨b, 0, rfl, fun j v hj => ?_⟩⟩, fun x hx => hp, fun x hx => hq⟩
  obtain rfl : x = 0 := by omega
  simp only [Nat.zero_mul, Nat.zero_add]
  exact h j v hj
def lineErr (X Y : Nat → Int) (n : Nat) : Int := linesE (fun _ => ⟨none, n, n, X, Y, false⟩) 1
theorem lineErr_is {A : Option Addr} {q : Nat} : linesE (fun _ => ⟨A, n, q, X, Y, cl⟩) 1 = lineErr X Y n := rfl
theorem lineErr_ok (h : lineErr X Y n = 0) : ∀ j, j < n → okXY (X j) (Y j) = true := fun j hj => by
  unfold lineErr linesE at h
  split at h
  · rename_i hb
    exact linesB_of hb 0 (by omega) j hj
  · omega
theorem lineErr_or : lineErr X Y n = 0 ∨ lineErr X Y n = 3 := by
  unfold lineErr linesE; split <;> simp
end
end Go.Proofs.Ytpgjbfbdappniaa
