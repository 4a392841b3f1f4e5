/-
  Lines in the memory of a law.
-/
import Derived.Test.YtpgjbfbdappniaaLines
import Derived.Test.YtpgjbfbdappniaaFlat
namespace Go.Proofs.Ytpgjbfbdappniaa
open Go.RowKit Go.Deep
set_option linter.unusedVariables false
set_option maxRecDepth 20000
def slA : Value → Option Addr
  | .slice A _ _ => A
  | _ => none
def slN : Value → Nat
  | .slice _ n _ => n
  | _ => 0
def slC : Value → Nat
  | .slice _ _ c => c
  | _ => 0
theorem uPts : Try.prog.underlying 32 = some (.slice 55) := Try.underlying32
theorem cPts : 0 < Try.prog.cellsOf 55 := of_decide_eq_true (by kernel_rfl)
theorem point2 : Try.prog.cellsOf 55 = 2 := by kernel_rfl
theorem line2 : Try.prog.cellsOf 34 = 2 := by kernel_rfl
theorem point_flat : flat Try.prog 20 55 = [.int .i64, .int .i64] := by kernel_rfl
theorem point_ok : flatOk Try.prog 20 55 = true := by kernel_rfl
theorem line_flat : flat Try.prog 20 34 = [.slice 32, .bool] := by kernel_rfl
theorem line_ok : flatOk Try.prog 20 34 = true := by kernel_rfl
section
variable {w : World} {A : Option Addr} {n : Nat} {g : Nat → Nat → Value}
theorem sl_val {m : Nat} {t e : TypeId} {c : Value} (ht : Try.prog.underlying t = some (.slice e)) (h0 : 0 < Try.prog.cellsOf e) (h : Sees Try.prog w m t [c]) :
    c = .slice (slA c) (slN c) (slC c) ∧ slN c ≤ slC c ∧ slC c ≤ maxLen ∧ ∃ g, SliceG Try.prog w e (slA c) (slN c) g := by
  obtain ⟨A, n, cap, g, rfl, h1, h2, h3⟩ := slice_cell ht h0 h
  exact ⟨rfl, h1, h2, g, h3⟩
theorem pts_m (h : SliceG Try.prog w 55 A n g) : ElsM (memOf w) A 2 n (ptC (fun i => valI (g i 0)) (fun i => valI (g i 1))) := by
  refine ⟨fun x hx => rfl, fun x hx => ?_⟩
  obtain ⟨b, off, rfl, _, hc⟩ := h (by omega)
  rw [point2] at hc
  have h0 := (h.int (j := 0) (k := .i64) point_ok hx (by rw [point_flat]; rfl)).1
  have h1 := (h.int (j := 1) (k := .i64) point_ok hx (by rw [point_flat]; rfl)).1
  refine ⟨b, off, rfl, fun j v hj => ?_⟩
  match j, hj with
  | 0, hj =>
    simp at hj; subst hj
    rw [← h0]; exact (hc x hx).1 0 (by omega)
  | 1, hj =>
    simp at hj; subst hj
    rw [← h1]; exact (hc x hx).1 1 (by omega)
/-- A line in its cells: the slice of its points, and whether it is closed. -/
theorem line_m {v : Value} {b : Bool} {m : Nat} (h : Sees Try.prog w m 32 [v]) : ∃ l : LineD, l.cells = [v, .bool b] ∧ l.n = slN v ∧ ElsM (memOf w) l.A 2 l.n (ptC l.X l.Y) ∧ l.n ≤ l.q ∧ l.q ≤ maxLen := by
  obtain ⟨e, h1, h2, g, hg⟩ := sl_val uPts cPts h
  refine ⟨⟨slA v, slN v, slC v, fun i => valI (g i 0), fun i => valI (g i 1), b⟩, ?_, rfl, pts_m hg, h1, h2⟩
  unfold LineD.cells
  dsimp only
  rw [← e]
theorem lines_m (h : SliceG Try.prog w 34 A n g) : ∃ L : Nat → LineD, LinesM (memOf w) A n L ∧ ∀ x, x < n → (L x).n = slN (g x 0) := by
  have key : ∀ x, x < n → ∃ l : LineD, l.cells = [g x 0, g x 1] ∧ l.n = slN (g x 0) ∧ ElsM (memOf w) l.A 2 l.n (ptC l.X l.Y) ∧ l.n ≤ l.q ∧ l.q ≤ maxLen := fun x hx => by
    obtain ⟨m, h0⟩ := h.seen (j := 0) line_ok hx (by rw [line_flat]; rfl)
    have h1 := h.bool (j := 1) line_ok hx (by rw [line_flat]; rfl)
    rw [h1]
    exact line_m h0
  haveI : Inhabited LineD := ⟨⟨none, 0, 0, fun _ => 0, fun _ => 0, false⟩⟩
  obtain ⟨L, hL⟩ := choose_lt key
  refine ⟨L, ⟨⟨fun x hx => rfl, fun x hx => ?_⟩, fun x hx => (hL x hx).2.2.1, fun x hx => (hL x hx).2.2.2⟩, fun x hx => (hL x hx).2.1⟩
  obtain ⟨b, off, rfl, _, hc⟩ := h (by omega)
  rw [line2] at hc
  refine ⟨b, off, rfl, fun j v hj => ?_⟩
  rw [(hL x hx).1] at hj
  match j, hj with
  | 0, hj =>
    simp at hj; subst hj
    exact (hc x hx).1 0 (by omega)
  | 1, hj =>
    simp at hj; subst hj
    exact (hc x hx).1 1 (by omega)
end
end Go.Proofs.Ytpgjbfbdappniaa
