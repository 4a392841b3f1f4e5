/-
  The points of one segment, by package conic and by the reference; the points of a subpath.
-/
import Derived.Test.YtpgjbfbdappniaaConicLaw
import Derived.Test.YtpgjbfbdappniaaSubC
import Derived.Test.YtpgjbfbdappniaaEnds
namespace Go.Proofs.Ytpgjbfbdappniaa
open Go.RowKit
set_option linter.unusedVariables false
set_option linter.unusedSimpArgs false
set_option maxRecDepth 20000
abbrev cvS (px py : Int) (s : SegD) : Cv := ⟨px, py, s.u, s.v, s.x, s.y, s.w⟩
def ptsS (px py : Int) (s : SegD) : List (Int × Int) := if s.k = 3 then ptsL (cvS px py s) (divN (cvS px py s)) else [(s.x, s.y)]
theorem ptsS_len (px py : Int) (s : SegD) : (ptsS px py s).length ≤ 512 := by
  unfold ptsS
  split
  · rw [ptsL_length]; exact (divN_bd _).2
  · simp
/-- The points of the subpath that begins at i, of its first d + 1 segments. -/
def subPts (S : Nat → SegD) (i : Nat) : Nat → List (Int × Int)
  | 0 => [((S i).x, (S i).y)]
  | d + 1 => subPts S i d ++ (if (S (i + d + 1)).k = 4 then [] else ptsS (S (i + d)).x (S (i + d)).y (S (i + d + 1)))
theorem subPts_len (S : Nat → SegD) (i : Nat) : ∀ d, (subPts S i d).length ≤ 1 + 512 * d
  | 0 => by simp [subPts]
  | d + 1 => by
    have h1 := subPts_len S i d
    have h2 := ptsS_len (S (i + d)).x (S (i + d)).y (S (i + d + 1))
    rw [subPts, List.length_append]
    split <;> simp <;> omega
section
variable {px py : Int} {s : SegD} {G : Mem}
set_option maxHeartbeats 4000000 in
theorem points_seg (h : s.k = 2 ∨ (s.k = 3 ∧ CvOk (cvS px py s))) : Makes Try.prog 26 [ptA px py, sgA s.k s.x s.y s.u s.v s.w] G id 55 2 (ptsS px py s).length (flatP (ptsS px py s)) := by
  unfold ptsS
  by_cases h3 : s.k = 3
  · have hc : CvOk (cvS px py s) := by rcases h with h | h; omega; exact h.2
    rw [if_pos h3, ptsL_length, h3]
    exact points_makes hc
  · have h2 : s.k = 2 := by rcases h with h | h; exact h; omega
    rw [if_neg h3, h2]
    refine Makes_of tab_ok Try.func26 (.alone fun _ => rfl) ?_
    (repeat ((try (conv => whnf)); (first | (with_reducible refine condP_true ?_) | (with_reducible refine condP_false ?_) | (with_reducible refine condP_not ?_) | (with_reducible refine condP_and ?_) | ((with_reducible refine condP_dt ?_ ?_); (· omega)) | ((with_reducible refine condP_df ?_ ?_); (· omega)) | ((with_reducible refine condP_yes ?_ ?_); (· assumption)) | ((with_reducible refine condP_no ?_ ?_); (· assumption)) | ((with_reducible refine ArP_i64 ?_ ?_); (· omega)) | ((with_reducible refine mustP.mk ?_ ?_); (· first | omega | rfl | (dsimp only; omega))) | (with_reducible refine EqP_nil tab_ok ?_) | (with_reducible refine EqP_sli tab_ok ?_) | (with_reducible refine DrawP_auto tab_ok (by kernel_rfl) (by decide +kernel) ?_) | (with_reducible refine DrawP_auto2 tab_ok (by kernel_rfl) (by decide +kernel) ?_) | (with_reducible refine eq43 ?_) | (with_reducible refine eq55 ?_) | (with_reducible refine eq57 ?_) | (with_reducible refine eq93 ?_) | (with_reducible refine eq101 ?_) | (with_reducible refine eq116 ?_) | (with_reducible refine eq119 ?_))))
    conv => whnf
    first | exact .inr (.inr ⟨2, rfl, rfl, rfl, by show 1 ≤ maxLen; unfold maxLen; decide⟩) | exact .inr (.inr ⟨3, rfl, rfl, rfl, by show 1 ≤ maxLen; unfold maxLen; decide⟩) | exact .inr (.inr ⟨5, rfl, rfl, rfl, by show 1 ≤ maxLen; unfold maxLen; decide⟩) | exact .inr (.inr ⟨4, rfl, rfl, rfl, by show 1 ≤ maxLen; unfold maxLen; decide⟩)
set_option maxHeartbeats 4000000 in
theorem CurvePoints_seg (h : s.k = 2 ∨ (s.k = 3 ∧ CvOk (cvS px py s))) : Makes Try.prog 29 [ptA px py, sgA s.k s.x s.y s.u s.v s.w] G id 55 2 (ptsS px py s).length (flatP (ptsS px py s)) := by
  unfold ptsS
  by_cases h3 : s.k = 3
  · have hc : CvOk (cvS px py s) := by rcases h with h | h; omega; exact h.2
    rw [if_pos h3, ptsL_length, h3]
    exact CurvePoints_makes hc
  · have h2 : s.k = 2 := by rcases h with h | h; exact h; omega
    rw [if_neg h3, h2]
    refine Makes_of tab_ok Try.func29 (.alone fun _ => rfl) ?_
    (repeat ((try (conv => whnf)); (first | (with_reducible refine condP_true ?_) | (with_reducible refine condP_false ?_) | (with_reducible refine condP_not ?_) | (with_reducible refine condP_and ?_) | ((with_reducible refine condP_dt ?_ ?_); (· omega)) | ((with_reducible refine condP_df ?_ ?_); (· omega)) | ((with_reducible refine condP_yes ?_ ?_); (· assumption)) | ((with_reducible refine condP_no ?_ ?_); (· assumption)) | ((with_reducible refine ArP_i64 ?_ ?_); (· omega)) | ((with_reducible refine mustP.mk ?_ ?_); (· first | omega | rfl | (dsimp only; omega))) | (with_reducible refine EqP_nil tab_ok ?_) | (with_reducible refine EqP_sli tab_ok ?_) | (with_reducible refine DrawP_auto tab_ok (by kernel_rfl) (by decide +kernel) ?_) | (with_reducible refine DrawP_auto2 tab_ok (by kernel_rfl) (by decide +kernel) ?_) | (with_reducible refine eq43 ?_) | (with_reducible refine eq55 ?_) | (with_reducible refine eq57 ?_) | (with_reducible refine eq93 ?_) | (with_reducible refine eq101 ?_) | (with_reducible refine eq116 ?_) | (with_reducible refine eq119 ?_))))
    conv => whnf
    exact .inr (.inr ⟨2, rfl, rfl, rfl, by show 1 ≤ maxLen; unfold maxLen; decide⟩)
end
end Go.Proofs.Ytpgjbfbdappniaa
