/-
  States and vectors of ink; the contracts of compose.Check and of the law's state.
-/
import Derived.Test.YtampdegpfndggaaInk
import Derived.Test.YtampdegpfndggaaInks
import Derived.Test.YtampdegpfndggaaHead
namespace Go.Proofs.Ytampdegpfndggaa
open Go.RowKit

def zer8 (I : Nat → Int) : Bool := (List.range 8).all fun i => I i == 0
theorem zer8_yes {I : Nat → Int} (h : zer8 I = true) : I 0 = 0 ∧ I 1 = 0 ∧ I 2 = 0 ∧ I 3 = 0 ∧ I 4 = 0 ∧ I 5 = 0 ∧ I 6 = 0 ∧ I 7 = 0 := by
  simpa [zer8, List.range, List.range.loop] using h
theorem zer8_no {I : Nat → Int} (h : zer8 I = false) : (I 0 == 0) = false ∨ (I 0 = 0 ∧ (I 1 == 0) = false) ∨ (I 0 = 0 ∧ I 1 = 0 ∧ (I 2 == 0) = false) ∨ (I 0 = 0 ∧ I 1 = 0 ∧ I 2 = 0 ∧ (I 3 == 0) = false) ∨ (I 0 = 0 ∧ I 1 = 0 ∧ I 2 = 0 ∧ I 3 = 0 ∧ (I 4 == 0) = false) ∨
    (I 0 = 0 ∧ I 1 = 0 ∧ I 2 = 0 ∧ I 3 = 0 ∧ I 4 = 0 ∧ (I 5 == 0) = false) ∨ (I 0 = 0 ∧ I 1 = 0 ∧ I 2 = 0 ∧ I 3 = 0 ∧ I 4 = 0 ∧ I 5 = 0 ∧ (I 6 == 0) = false) ∨ (I 0 = 0 ∧ I 1 = 0 ∧ I 2 = 0 ∧ I 3 = 0 ∧ I 4 = 0 ∧ I 5 = 0 ∧ I 6 = 0 ∧ (I 7 == 0) = false) := by
  simp [zer8, List.range, List.range.loop] at h
  simp only [beq_eq_false_iff_ne, ne_eq]
  refine (Classical.em (I 0 = 0)).elim (fun h0 => .inr ?_) .inl
  refine (Classical.em (I 1 = 0)).elim (fun h1 => .inr ?_) (fun h => .inl ⟨h0, h⟩)
  refine (Classical.em (I 2 = 0)).elim (fun h2 => .inr ?_) (fun h => .inl ⟨h0, h1, h⟩)
  refine (Classical.em (I 3 = 0)).elim (fun h3 => .inr ?_) (fun h => .inl ⟨h0, h1, h2, h⟩)
  refine (Classical.em (I 4 = 0)).elim (fun h4 => .inr ?_) (fun h => .inl ⟨h0, h1, h2, h3, h⟩)
  refine (Classical.em (I 5 = 0)).elim (fun h5 => .inr ?_) (fun h => .inl ⟨h0, h1, h2, h3, h4, h⟩)
  refine (Classical.em (I 6 = 0)).elim (fun h6 => .inr ?_) (fun h => .inl ⟨h0, h1, h2, h3, h4, h5, h⟩)
  exact ⟨h0, h1, h2, h3, h4, h5, h6, fun h7 => h h0 h1 h2 h3 h4 h5 h6 h7⟩
/-- The inks of a state: its cells behind the first. -/
def inksOf (S : Nat → Int) (i : Nat) : Int := S (i + 1)
def stE (S : Nat → Int) : Int := if S 0 = 0 ∧ zer8 (inksOf S) = false then 4 else 0
set_option maxRecDepth 20000 in
theorem composeCheck_any (S : Nat → Int) (w : World) :
    Calls Try.prog 21 #[.agg #[.int .u8 (S 0), .int .u8 (S 1), .int .u8 (S 2), .int .u8 (S 3), .int .u8 (S 4), .int .u8 (S 5), .int .u8 (S 6), .int .u8 (S 7), .int .u8 (S 8)]] w fun e w' => e = .returned (.int .i64 (stE S)) ∧ w.alloc (.cells #[Value.int .u8 (S 0), .int .u8 (S 1), .int .u8 (S 2), .int .u8 (S 3), .int .u8 (S 4), .int .u8 (S 5), .int .u8 (S 6), .int .u8 (S 7), .int .u8 (S 8)] 31) = w' := by
  by_cases h0 : S 0 = 0
  · cases hz : zer8 (inksOf S) with
    | true =>
      have H : Hid (stE S = 0) := by show stE S = 0; simp [stE, hz]
      obtain ⟨h1, h2, h3, h4, h5, h6, h7, h8⟩ := zer8_yes hz
      simp only [inksOf] at h1 h2 h3 h4 h5 h6 h7 h8
      clear hz
      go_enter Try.func21, Try.ntmps21
      go_wp2_with fail
      go_ret
      exact ⟨ret_int H.out.symm, by simp [h0, h1, h2, h3, h4, h5, h6, h7, h8]⟩
    | false =>
      have H : Hid (stE S = 4) := by show stE S = 4; simp [stE, hz, h0]
      have hn := zer8_no hz
      simp only [inksOf] at hn
      clear hz
      rcases hn with h1 | ⟨h1, h2⟩ | ⟨h1, h2, h3⟩ | ⟨h1, h2, h3, h4⟩ | ⟨h1, h2, h3, h4, h5⟩ | ⟨h1, h2, h3, h4, h5, h6⟩ | ⟨h1, h2, h3, h4, h5, h6, h7⟩ | ⟨h1, h2, h3, h4, h5, h6, h7, h8⟩
      all_goals
        go_enter Try.func21, Try.ntmps21
        go_wp2_with fail
        go_ret
        exact ⟨ret_int H.out.symm, by simp [*]⟩
  · have H : Hid (stE S = 0) := by show stE S = 0; simp [stE, h0]
    go_enter Try.func21, Try.ntmps21
    go_wp2_with fail
    go_ret
    exact ⟨ret_int H.out.symm, rfl⟩
set_option maxRecDepth 20000 in
theorem state_any (S : Nat → Int) (w : World) :
    Calls Try.prog 20 #[.agg #[.int .u8 (S 0), .int .u8 (S 1), .int .u8 (S 2), .int .u8 (S 3), .int .u8 (S 4), .int .u8 (S 5), .int .u8 (S 6), .int .u8 (S 7), .int .u8 (S 8)]] w fun e w' => e = .returned (.int .i64 (stE S)) ∧ w.alloc (.cells #[Value.int .u8 (S 0), .int .u8 (S 1), .int .u8 (S 2), .int .u8 (S 3), .int .u8 (S 4), .int .u8 (S 5), .int .u8 (S 6), .int .u8 (S 7), .int .u8 (S 8)] 31) = w' := by
  by_cases h0 : S 0 = 0
  · cases hz : zer8 (inksOf S) with
    | true =>
      have H : Hid (stE S = 0) := by show stE S = 0; simp [stE, hz]
      obtain ⟨h1, h2, h3, h4, h5, h6, h7, h8⟩ := zer8_yes hz
      simp only [inksOf] at h1 h2 h3 h4 h5 h6 h7 h8
      clear hz
      go_enter Try.func20, Try.ntmps20
      go_wp2_with fail
      go_ret
      exact ⟨ret_int H.out.symm, by simp [h0, h1, h2, h3, h4, h5, h6, h7, h8]⟩
    | false =>
      have H : Hid (stE S = 4) := by show stE S = 4; simp [stE, hz, h0]
      have hn := zer8_no hz
      simp only [inksOf] at hn
      clear hz
      rcases hn with h1 | ⟨h1, h2⟩ | ⟨h1, h2, h3⟩ | ⟨h1, h2, h3, h4⟩ | ⟨h1, h2, h3, h4, h5⟩ | ⟨h1, h2, h3, h4, h5, h6⟩ | ⟨h1, h2, h3, h4, h5, h6, h7⟩ | ⟨h1, h2, h3, h4, h5, h6, h7, h8⟩
      all_goals
        go_enter Try.func20, Try.ntmps20
        go_wp2_with fail
        go_ret
        exact ⟨ret_int H.out.symm, by simp [*]⟩
  · have H : Hid (stE S = 0) := by show stE S = 0; simp [stE, h0]
    go_enter Try.func20, Try.ntmps20
    go_wp2_with fail
    go_ret
    exact ⟨ret_int H.out.symm, rfl⟩
end Go.Proofs.Ytampdegpfndggaa
