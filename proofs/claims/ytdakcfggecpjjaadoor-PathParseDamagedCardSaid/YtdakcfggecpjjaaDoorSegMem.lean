/-
  Segments in the memory of a law.
-/
import Derived.Test.YtdakcfggecpjjaaDoorPathChk
import Derived.Test.YtdakcfggecpjjaaDoorMrg4
namespace Go.Proofs.YtdakcfggecpjjaaDoor
open Go.RowKit
set_option linter.unusedVariables false
def segD (f : Nat → Nat → Int) (i : Nat) : SegD := ⟨f i 0, f i 1, f i 2, f i 3, f i 4, f i 5⟩
theorem segs_m {w : World} {A : Option Addr} {n : Nat} {f : Nat → Nat → Int} (h : RecsAt .i64 w A n 6 f) : SegsM (memOf w) A n (segD f) := by
  refine ⟨fun x hx => rfl, fun x hx => ?_⟩
  obtain ⟨b, off, rfl, _, hc⟩ := h (by omega)
  refine ⟨b, off, rfl, fun j v hj => ?_⟩
  match j, hj with
  | 0, hj => simp [segD, SegD.cells] at hj; subst hj; exact hc x hx 0 (by omega)
  | 1, hj => simp [segD, SegD.cells] at hj; subst hj; exact hc x hx 1 (by omega)
  | 2, hj => simp [segD, SegD.cells] at hj; subst hj; exact hc x hx 2 (by omega)
  | 3, hj => simp [segD, SegD.cells] at hj; subst hj; exact hc x hx 3 (by omega)
  | 4, hj => simp [segD, SegD.cells] at hj; subst hj; exact hc x hx 4 (by omega)
  | 5, hj => simp [segD, SegD.cells] at hj; subst hj; exact hc x hx 5 (by omega)
end Go.Proofs.YtdakcfggecpjjaaDoor
