/-
  The subpaths of a path, and the path reversed. No program in sight.
-/
import Derived.Test.YtpgjbfbdappniaaPathChk
namespace Go.Proofs.Ytpgjbfbdappniaa
open Go.RowKit
set_option linter.unusedVariables false
section
variable {S : Nat → SegD} {n : Nat}
/-- The subpath from i to ahead of e. -/
structure SubP (S : Nat → SegD) (n i e : Nat) : Prop where
  lt : i < e
  le : e ≤ n
  mv : (S i).k = 1
  no : ∀ x, i < x → x < e → (S x).k ≠ 1
  en : e = n ∨ (S e).k = 1
def enP (S : Nat → SegD) (n x : Nat) : Nat := if x + 1 < n ∧ (S (x + 1)).k ≠ 1 then enP S n (x + 1) else x + 1
  termination_by n - x
theorem enP_all : ∀ (d x : Nat), n - x = d → x < n → x < enP S n x ∧ enP S n x ≤ n ∧ (∀ y, x < y → y < enP S n x → (S y).k ≠ 1) ∧ (enP S n x = n ∨ (S (enP S n x)).k = 1)
  | 0, x, hd, hx => by omega
  | d + 1, x, hd, hx => by
    rw [enP]
    split
    · rename_i h
      obtain ⟨h1, h2, h3, h4⟩ := enP_all d (x + 1) (by omega) h.1
      refine ⟨by omega, h2, fun y hy hy2 => ?_, h4⟩
      rcases Nat.lt_or_ge (x + 1) y with h5 | h5
      · exact h3 y h5 hy2
      · obtain rfl : y = x + 1 := by omega
        exact h.2
    · rename_i h
      refine ⟨by omega, by omega, fun y hy hy2 => by omega, ?_⟩
      by_cases h1 : x + 1 < n
      · exact .inr (Decidable.not_not.1 fun h2 => h ⟨h1, h2⟩)
      · exact .inl (by omega)
theorem enP_sub {x : Nat} (hx : x < n) (hm : (S x).k = 1) : SubP S n x (enP S n x) := by
  obtain ⟨h1, h2, h3, h4⟩ := enP_all (S := S) _ x rfl hx
  exact ⟨h1, h2, hm, h3, h4⟩
def btP (S : Nat → SegD) : Nat → Nat
  | 0 => 0
  | x + 1 => if (S (x + 1)).k = 1 then x + 1 else btP S x
theorem SubP.bt {i e : Nat} (h : SubP S n i e) : ∀ d, i + d < e → btP S (i + d) = i
  | 0, _ => by
    cases i with
    | zero => rfl
    | succ j => rw [Nat.add_zero, btP, if_pos h.mv]
  | d + 1, hd => by
    rw [← Nat.add_assoc, btP, if_neg (h.no _ (by omega) (by omega))]
    exact h.bt d (by omega)
theorem SubP.end_ {i e : Nat} (h : SubP S n i e) : ∀ (d x : Nat), e = x + 1 + d → i ≤ x → enP S n x = e
  | 0, x, hd, hx => by
    rw [enP, if_neg]
    · omega
    · rintro ⟨h1, h2⟩
      rcases h.en with h3 | h3
      · omega
      · rw [show x + 1 = e by omega] at h2; exact h2 h3
  | d + 1, x, hd, hx => by
    rw [enP, if_pos ⟨by have := h.le; omega, h.no _ (by omega) (by omega)⟩]
    exact h.end_ d (x + 1) (by omega) (by omega)
theorem SubP.btx {i e x : Nat} (h : SubP S n i e) (h1 : i ≤ x) (h2 : x < e) : btP S x = i := by
  have := h.bt (x - i) (by omega)
  rwa [show i + (x - i) = x by omega] at this
theorem SubP.enx {i e x : Nat} (h : SubP S n i e) (h1 : i ≤ x) (h2 : x < e) : enP S n x = e := h.end_ (e - 1 - x) x (by omega) h1
/-- The last segment with a point. -/
def laP (S : Nat → SegD) (e : Nat) : Nat := if (S (e - 1)).k = 4 then e - 2 else e - 1
def revS (S : Nat → SegD) (n x : Nat) : SegD :=
  if x = btP S x then ⟨1, (S (laP S (enP S n x))).x, (S (laP S (enP S n x))).y, 0, 0, 0⟩
  else if (S (enP S n x - 1)).k = 4 ∧ x = enP S n x - 1 then ⟨4, 0, 0, 0, 0, 0⟩
  else ⟨(S (laP S (enP S n x) + btP S x + 1 - x)).k, (S (laP S (enP S n x) + btP S x - x)).x, (S (laP S (enP S n x) + btP S x - x)).y, (S (laP S (enP S n x) + btP S x + 1 - x)).u, (S (laP S (enP S n x) + btP S x + 1 - x)).v, (S (laP S (enP S n x) + btP S x + 1 - x)).w⟩
theorem SubP.two {i e : Nat} (h : SubP S n i e) (hc : (S (e - 1)).k = 4) : i + 2 ≤ e := by
  rcases Nat.lt_or_ge (i + 1) e with h1 | h1
  · omega
  · exfalso
    have := h.mv
    rw [show e - 1 = i by have := h.lt; omega] at hc
    omega
theorem SubP.la {i e : Nat} (h : SubP S n i e) : i ≤ laP S e ∧ laP S e < e ∧ ((S (e - 1)).k = 4 → laP S e + 2 = e) ∧ (¬ (S (e - 1)).k = 4 → laP S e + 1 = e) := by
  unfold laP
  have := h.lt
  split
  · rename_i hc
    have := h.two hc
    exact ⟨by omega, by omega, fun _ => by omega, fun hn => absurd hc hn⟩
  · rename_i hc
    exact ⟨by omega, by omega, fun hn => absurd hn hc, fun _ => by omega⟩
theorem revS_first {i e : Nat} (h : SubP S n i e) : revS S n i = ⟨1, (S (laP S e)).x, (S (laP S e)).y, 0, 0, 0⟩ := by
  unfold revS
  rw [h.btx (Nat.le_refl _) h.lt, if_pos rfl, h.enx (Nat.le_refl _) h.lt]
theorem revS_last {i e : Nat} (h : SubP S n i e) (hc : (S (e - 1)).k = 4) : revS S n (e - 1) = ⟨4, 0, 0, 0, 0, 0⟩ := by
  have := h.two hc
  unfold revS
  rw [h.btx (by omega) (by omega), if_neg (by omega), h.enx (by omega) (by omega), if_pos ⟨hc, rfl⟩]
theorem revS_mid {i e k : Nat} (h : SubP S n i e) (h1 : i < k) (h2 : k ≤ laP S e) : revS S n (i + 1 + (laP S e - k)) = ⟨(S k).k, (S (k - 1)).x, (S (k - 1)).y, (S k).u, (S k).v, (S k).w⟩ := by
  obtain ⟨l1, l2, l3, l4⟩ := h.la
  have hx : i + 1 + (laP S e - k) < e := by omega
  unfold revS
  rw [h.btx (by omega) hx, if_neg (by omega), h.enx (by omega) hx, if_neg, show laP S e + i + 1 - (i + 1 + (laP S e - k)) = k by omega, show laP S e + i - (i + 1 + (laP S e - k)) = k - 1 by omega]
  rintro ⟨hc, he⟩
  have := l3 hc
  omega
theorem errS_first (h : pathE S n = 0) (hn : 0 < n) : (S 0).k = 1 := by
  unfold pathE at h
  split at h
  · omega
  · have := firstV_ok h 0 hn
    unfold errS segF at this
    rw [firstS_zero] at this
    split at this
    · omega
    · split at this
      · omega
      · rename_i h2
        exact Decidable.not_not.1 fun h3 => h2 ⟨rfl, h3⟩
end
end Go.Proofs.Ytpgjbfbdappniaa
