/-
  A slice of bytes that came in.
-/
import Derived.Test.YtmklpphdbmpbbaaPix
import Derived.Test.YtmklpphdbmpbbaaFlat
namespace Go.Proofs.Ytmklpphdbmpbbaa
open Go.RowKit

theorem u8_wf {z : Int} (h : (Lit.int .u8 z).wf = true) : 0 ≤ z ∧ z ≤ 255 := by
  simp [Lit.wf, IntKind.min, IntKind.max, IntKind.signed, IntKind.bits] at h
  omega
theorem bytes_of_slice {w : World} {A : Option Addr} {n : Nat} {g : Nat → Nat → Value} (h : SliceG Try.prog w 5 A n g) : BytesAt w A n (fun i => valI (g i 0)) ∧ ∀ i, i < n → 0 ≤ valI (g i 0) ∧ valI (g i 0) ≤ 255 := by
  have hc : Try.prog.cellsOf 5 = 1 := by kernel_rfl
  have hi : ∀ i, i < n → g i 0 = .int .u8 (valI (g i 0)) ∧ (Lit.int .u8 (valI (g i 0))).wf = true := fun i hi => h.int (by kernel_rfl) hi (by kernel_rfl)
  refine ⟨fun hn => ?_, fun i hi' => u8_wf (hi i hi').2⟩
  obtain ⟨b, off, h1, h2, h3⟩ := h hn
  refine ⟨b, off, h1, h2, fun i hi' => ?_⟩
  have := (h3 i hi').1 0 (by rw [hc]; decide)
  rw [hc, Nat.mul_one, Nat.add_zero] at this
  rw [this, ← (hi i hi').1]
end Go.Proofs.Ytmklpphdbmpbbaa
