/-
  Both ramps by one plain function.
-/
import Derived.Test.YtampdegpfndggaaRRamp
namespace Go.Proofs.Ytampdegpfndggaa
open Go.RowKit

/-- One more than the last stop at or before a position; 0 if there is none. -/
def rampK (P : Nat → Int) (t : Int) : Nat → Nat
  | 0 => 0
  | c + 1 => if P c ≤ t then c + 1 else rampK P t c
theorem rampK_none {P : Nat → Int} {t : Int} : ∀ {n : Nat}, rampK P t n = 0 → ∀ i, i < n → t < P i
  | 0, _, i, hi => by omega
  | c + 1, h, i, hi => by
    unfold rampK at h
    split at h
    · omega
    · rename_i hc
      rcases Nat.lt_or_ge i c with h1 | h1
      · exact rampK_none h i h1
      · have : i = c := by omega
        subst this; omega
theorem rampK_some {P : Nat → Int} {t : Int} {k : Nat} : ∀ {n : Nat}, rampK P t n = k + 1 → k < n ∧ P k ≤ t ∧ ∀ i, k < i → i < n → t < P i
  | 0, h => by simp [rampK] at h
  | c + 1, h => by
    unfold rampK at h
    split at h
    · rename_i hc
      have : c = k := by omega
      subst this
      exact ⟨by omega, hc, fun i h1 h2 => by omega⟩
    · rename_i hc
      obtain ⟨h1, h2, h3⟩ := rampK_some h
      refine ⟨by omega, h2, fun i h4 h5 => ?_⟩
      rcases Nat.lt_or_ge i c with h6 | h6
      · exact h3 i h4 h6
      · have : i = c := by omega
        subst this; omega
/-- The vector of a ramp at a position. -/
def rampV (n : Nat) (P : Nat → Int) (V : Nat → Nat → Int) (t : Int) (j : Nat) : Int :=
  if rampK P t n = 0 then V 0 j
  else if rampK P t n = n ∨ P (rampK P t n - 1) = t then V (rampK P t n - 1) j
  else near (V (rampK P t n - 1) j * (P (rampK P t n) - t) + V (rampK P t n) j * (t - P (rampK P t n - 1))) (P (rampK P t n) - P (rampK P t n - 1))
theorem ramp_any (b off n cap : Nat) (P : Nat → Int) (V : Nat → Nat → Int) (B : Nat → Int) (t : Int) (w : World) (hn : 1 ≤ n ∧ n ≤ 16) (ht : 0 ≤ t ∧ t ≤ 65536) (hP : ∀ i, i < n → 0 ≤ P i ∧ P i ≤ 65536) (hV : ∀ i, i < n → ∀ j, j < 8 → 0 ≤ V i j ∧ V i j ≤ 255) (hst : StopsAt w b off n P V) (hB : ∀ j, j < 8 → B j = rampV n P V t j) :
    (Calls Try.prog 64 #[.slice (some ⟨b, off, none⟩) n cap, .int .i64 t] w fun e w' => e = .returned (.agg #[.int .u8 (B 0), .int .u8 (B 1), .int .u8 (B 2), .int .u8 (B 3), .int .u8 (B 4), .int .u8 (B 5), .int .u8 (B 6), .int .u8 (B 7)]) ∧ Below w.heap.size w w') ∧
    (Calls Try.prog 28 #[.slice (some ⟨b, off, none⟩) n cap, .int .i64 t] w fun e w' => e = .returned (.agg #[.int .u8 (B 0), .int .u8 (B 1), .int .u8 (B 2), .int .u8 (B 3), .int .u8 (B 4), .int .u8 (B 5), .int .u8 (B 6), .int .u8 (B 7)]) ∧ Below w.heap.size w w') := by
  cases hk : rampK P t n with
  | zero =>
    have hb : ∀ j, j < 8 → B j = V 0 j := fun j hj => by rw [hB j hj, rampV, if_pos hk]
    have hno := rampK_none hk
    rw [hb 0 (by omega), hb 1 (by omega), hb 2 (by omega), hb 3 (by omega), hb 4 (by omega), hb 5 (by omega), hb 6 (by omega), hb 7 (by omega)]
    exact ⟨ramp_none b off n cap P V t w hn ht hP hst hno, Rramp_none b off n cap P V t w hn ht hP hst hno⟩
  | succ k =>
    obtain ⟨hkn, hle, hno⟩ := rampK_some hk
    by_cases hor : k + 1 = n ∨ P k = t
    · have hb : ∀ j, j < 8 → B j = V k j := fun j hj => by rw [hB j hj, rampV, if_neg (by omega), hk, if_pos (by simpa using hor)]; rfl
      rw [hb 0 (by omega), hb 1 (by omega), hb 2 (by omega), hb 3 (by omega), hb 4 (by omega), hb 5 (by omega), hb 6 (by omega), hb 7 (by omega)]
      exact ⟨ramp_at b off n cap P V t w hn ht hP hst k hkn hle hno hor, Rramp_at b off n cap P V t w hn ht hP hst k hkn hle hno hor⟩
    · have hb : ∀ j, j < 8 → B j = near (V k j * (P (k + 1) - t) + V (k + 1) j * (t - P k)) (P (k + 1) - P k) := fun j hj => by rw [hB j hj, rampV, if_neg (by omega), hk, if_neg (by simpa using hor)]; rfl
      exact ⟨ramp_mid b off n cap P V t w hn ht hP hst k (by omega) (by omega) hno B hV hb, Rramp_mid b off n cap P V t w hn ht hP hst k (by omega) (by omega) hno B hV hb⟩
end Go.Proofs.Ytampdegpfndggaa
