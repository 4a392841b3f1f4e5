/-
  Pieces in the memory of a law.
-/
import Derived.Test.YtbkhpddodmbdoaaPieces
import Derived.Test.YtbkhpddodmbdoaaRunsSl
import Derived.Test.YtbkhpddodmbdoaaInks
namespace Go.Proofs.Ytbkhpddodmbdoaa
open Go.RowKit Go.Deep
set_option linter.unusedVariables false
set_option maxRecDepth 20000
theorem piece_flat : flat Try.prog 20 29 = [.slice 25, .int .u8, .int .u8, .int .u8, .int .u8, .int .u8, .int .u8, .int .u8, .int .u8] := by kernel_rfl
theorem piece_ok : flatOk Try.prog 20 29 = true := by kernel_rfl
theorem piece9 : Try.prog.cellsOf 29 = 9 := by kernel_rfl
theorem uRuns : Try.prog.underlying 25 = some (.slice 54) := Try.underlying25
theorem cRuns : 0 < Try.prog.cellsOf 54 := of_decide_eq_true (by kernel_rfl)
theorem u8_bd {z : Int} (h : (Lit.int .u8 z).wf = true) : 0 ≤ z ∧ z ≤ 255 := by
  simp [Lit.wf, IntKind.min, IntKind.max, IntKind.signed, IntKind.bits] at h
  omega
section
variable {w : World} {A : Option Addr} {n : Nat} {g : Nat → Nat → Value}
theorem piece_m (h : SliceG Try.prog w 29 A n g) {x : Nat} (hx : x < n) : ∃ p : PcD, pcC p = [g x 0, g x 1, g x 2, g x 3, g x 4, g x 5, g x 6, g x 7, g x 8] ∧ RunsM (memOf w) p.A p.L ∧ (p.L.length ≤ p.q ∧ p.q ≤ maxLen) ∧ ∀ j, 0 ≤ p.I j ∧ p.I j ≤ 255 := by
  obtain ⟨m, h0⟩ := h.seen (j := 0) piece_ok hx (by rw [piece_flat]; rfl)
  obtain ⟨B, k, c, gr, e0, r1, r2, hs⟩ := slice_cell uRuns cRuns h0
  have e1 := (h.int (j := 1) (k := .u8) piece_ok hx (by rw [piece_flat]; rfl))
  have e2 := (h.int (j := 2) (k := .u8) piece_ok hx (by rw [piece_flat]; rfl))
  have e3 := (h.int (j := 3) (k := .u8) piece_ok hx (by rw [piece_flat]; rfl))
  have e4 := (h.int (j := 4) (k := .u8) piece_ok hx (by rw [piece_flat]; rfl))
  have e5 := (h.int (j := 5) (k := .u8) piece_ok hx (by rw [piece_flat]; rfl))
  have e6 := (h.int (j := 6) (k := .u8) piece_ok hx (by rw [piece_flat]; rfl))
  have e7 := (h.int (j := 7) (k := .u8) piece_ok hx (by rw [piece_flat]; rfl))
  have e8 := (h.int (j := 8) (k := .u8) piece_ok hx (by rw [piece_flat]; rfl))
  have hR := runs_m hs
  refine ⟨⟨runsL (fun x => ⟨valI (gr x 0), valI (gr x 1), valI (gr x 2)⟩) k, B, c, fun j => if j < 8 then valI (g x (j + 1)) else 0⟩, ?_, hR, ⟨by rw [runsL_length]; exact r1, r2⟩, fun j => ?_⟩
  · simp only [pcC, inkC, runsL_length]
    rw [e0]
    simp [e1.1.symm, e2.1.symm, e3.1.symm, e4.1.symm, e5.1.symm, e6.1.symm, e7.1.symm, e8.1.symm]
  · dsimp only
    by_cases hj : j < 8
    · rw [if_pos hj]
      match j, hj with
      | 0, _ => exact u8_bd e1.2
      | 1, _ => exact u8_bd e2.2
      | 2, _ => exact u8_bd e3.2
      | 3, _ => exact u8_bd e4.2
      | 4, _ => exact u8_bd e5.2
      | 5, _ => exact u8_bd e6.2
      | 6, _ => exact u8_bd e7.2
      | 7, _ => exact u8_bd e8.2
    · rw [if_neg hj]; omega
theorem pcs_m (h : SliceG Try.prog w 29 A n g) : ∃ p : Nat → PcD, PcsM (memOf w) A n p := by
  obtain ⟨p, hp⟩ := choose_lt (fun x hx => piece_m h hx)
  refine ⟨p, ⟨⟨fun x hx => rfl, fun x hx => ?_⟩, fun i hi => (hp i hi).2.1, fun i hi => (hp i hi).2.2.1, fun i hi => (hp i hi).2.2.2⟩⟩
  obtain ⟨b, off, rfl, _, hc⟩ := h (by omega)
  rw [piece9] at hc
  refine ⟨b, off, rfl, fun j v hj => ?_⟩
  rw [(hp x hx).1] at hj
  match j, hj with
  | 0, hj => simp at hj; subst hj; exact (hc x hx).1 0 (by omega)
  | 1, hj => simp at hj; subst hj; exact (hc x hx).1 1 (by omega)
  | 2, hj => simp at hj; subst hj; exact (hc x hx).1 2 (by omega)
  | 3, hj => simp at hj; subst hj; exact (hc x hx).1 3 (by omega)
  | 4, hj => simp at hj; subst hj; exact (hc x hx).1 4 (by omega)
  | 5, hj => simp at hj; subst hj; exact (hc x hx).1 5 (by omega)
  | 6, hj => simp at hj; subst hj; exact (hc x hx).1 6 (by omega)
  | 7, hj => simp at hj; subst hj; exact (hc x hx).1 7 (by omega)
  | 8, hj => simp at hj; subst hj; exact (hc x hx).1 8 (by omega)
end
end Go.Proofs.Ytbkhpddodmbdoaa
