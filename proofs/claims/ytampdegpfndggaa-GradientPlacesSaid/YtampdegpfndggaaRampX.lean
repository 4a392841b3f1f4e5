/-
  The contract of gradient.Ramp.
-/
import Derived.Test.YtampdegpfndggaaRampAll
namespace Go.Proofs.Ytampdegpfndggaa
open Go.RowKit

theorem firstV_zero {err : Nat → Int} : ∀ {n : Nat}, firstV err n = 0 → ∀ i, i < n → err i = 0
  | 0, _, i, hi => by omega
  | n + 1, h, i, hi => by
    unfold firstV at h
    split at h
    · rename_i h1; exact absurd h h1
    · rename_i h1
      rcases Nat.lt_or_ge i n with h2 | h2
      · exact firstV_zero (by simpa using h1) i h2
      · have : i = n := by omega
        subst this; exact h
theorem stops_ok {P : Nat → Int} {n : Nat} (h : stopsE P n = 0) : (1 ≤ n ∧ n ≤ 16) ∧ ∀ i, i < n → 0 ≤ P i ∧ P i ≤ 65536 := by
  unfold stopsE at h
  split at h
  · omega
  · refine ⟨by omega, fun i hi => ?_⟩
    have := firstV_zero h i hi
    unfold stopErr at this
    split at this
    · omega
    · omega
theorem stop_info {w : World} {A : Option Addr} {n : Nat} {g : Nat → Nat → Value} (h : SliceG Try.prog w 110 A n g) (hn : 0 < n) :
    ∃ b off, A = some ⟨b, off, none⟩ ∧ StopsAt w b off n (fun x => valI (g x 0)) (fun x j => valI (g x (j + 1))) ∧ ∀ i, i < n → ∀ j, j < 8 → 0 ≤ valI (g i (j + 1)) ∧ valI (g i (j + 1)) ≤ 255 := by
  have h9 : Try.prog.cellsOf 110 = 9 := by kernel_rfl
  obtain ⟨b, off, hA, hb, hc⟩ := h hn
  rw [h9] at hc
  refine ⟨b, off, hA, ⟨hb, fun i hi => ⟨?_, fun j hj => ?_⟩⟩, fun i hi j hj => ?_⟩
  · have := (hc i hi).1 0 (by omega)
    rw [Nat.add_zero] at this
    rw [this]; exact congrArg some (h.int (by kernel_rfl) hi (by kernel_rfl)).1
  · rw [(hc i hi).1 (j + 1) (by omega)]
    exact congrArg some (h.int (by kernel_rfl) hi (stop_u8 hj)).1
  · have := (h.int (by kernel_rfl) hi (stop_u8 hj)).2
    simp [Lit.wf, IntKind.min, IntKind.max, IntKind.signed, IntKind.bits] at this
    omega
end Go.Proofs.Ytampdegpfndggaa
