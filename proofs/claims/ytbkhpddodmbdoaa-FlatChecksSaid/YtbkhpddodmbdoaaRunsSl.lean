/-
  Runs in the memory of a law.
-/
import Derived.Test.YtbkhpddodmbdoaaMrg10
import Derived.Test.YtbkhpddodmbdoaaMrg6
namespace Go.Proofs.Ytbkhpddodmbdoaa
open Go.RowKit
set_option linter.unusedVariables false
set_option maxRecDepth 20000
section
variable {w : World} {A : Option Addr} {n : Nat}
theorem runs_m {g : Nat → Nat → Value} (h : SliceG Try.prog w 54 A n g) : RunsM (memOf w) A (runsL (fun x => ⟨valI (g x 0), valI (g x 1), valI (g x 2)⟩) n) := by
  have e3 : Try.prog.cellsOf 54 = 3 := by kernel_rfl
  have ef : flat Try.prog 20 54 = [.int .i64, .int .i64, .int .i64] := by kernel_rfl
  intro i r hr
  have hi : i < n := by have := (List.getElem?_eq_some_iff.1 hr).1; simpa [runsL] using this
  have e : (⟨valI (g i 0), valI (g i 1), valI (g i 2)⟩ : Run) = r := by simpa [runsL, List.getElem?_range hi] using hr
  subst e
  have h0 := (h.int (j := 0) (k := .i64) (by kernel_rfl) hi (by rw [ef]; rfl)).1
  have h1 := (h.int (j := 1) (k := .i64) (by kernel_rfl) hi (by rw [ef]; rfl)).1
  have h2 := (h.int (j := 2) (k := .i64) (by kernel_rfl) hi (by rw [ef]; rfl)).1
  obtain ⟨b, off, hA, _, hc⟩ := h (by omega)
  rw [e3] at hc
  dsimp only
  rw [← h0, ← h1, ← h2]
  exact ⟨b, off, hA, (hc i hi).1 0 (by omega), (hc i hi).1 1 (by omega), (hc i hi).1 2 (by omega)⟩
end
end Go.Proofs.Ytbkhpddodmbdoaa
