/-
  Runs in memory, as lists. No program in sight.
-/
import Derived.Test.YtmklpphdbmpbbaaEw
import Derived.Test.YtmklpphdbmpbbaaTab
import Derived.Test.YtmklpphdbmpbbaaRegLaw
namespace Go.Proofs.Ytmklpphdbmpbbaa
open Go.RowKit
set_option linter.unusedVariables false
set_option maxRecDepth 20000
/-- Runs in memory. -/
def RunsM (G : Mem) (A : Option Addr) (L : List Run) : Prop := ∀ (i : Nat) r, L[i]? = some r → ∃ b off, A = some ⟨b, off, none⟩ ∧ G.cell? ⟨b, off + i * 3, none⟩ = some (.int .i64 r.y) ∧ G.cell? ⟨b, off + i * 3 + 1, none⟩ = some (.int .i64 r.x0) ∧ G.cell? ⟨b, off + i * 3 + 2, none⟩ = some (.int .i64 r.x1)
theorem RunsM.mono {G G' : Mem} {A : Option Addr} {L : List Run} (h : RunsM G A L) (hle : G.le G') : RunsM G' A L := fun i r hr => by
  obtain ⟨b, off, h1, h2, h3, h4⟩ := h i r hr
  exact ⟨b, off, h1, hle.cell h2, hle.cell h3, hle.cell h4⟩
theorem RunsM.nil (G : Mem) (A : Option Addr) : RunsM G A [] := fun i r hr => by simp at hr
theorem RunsM.at_ {G : Mem} {A : Option Addr} {L : List Run} (h : RunsM G A L) {i : Nat} {r : Run} (hi : L[i]? = some r) : ∃ p : Addr, A = some p ∧ G.cell? (Addr.add (p.add (i * 3)) 0) = some (.int .i64 r.y) ∧ G.cell? (Addr.add (p.add (i * 3)) 1) = some (.int .i64 r.x0) ∧ G.cell? (Addr.add (p.add (i * 3)) 2) = some (.int .i64 r.x1) := by
  obtain ⟨b, off, rfl, h1, h2, h3⟩ := h i r hi
  exact ⟨_, rfl, by rw [addr_add, addr_add]; exact h1, by rw [addr_add, addr_add]; exact h2, by rw [addr_add, addr_add]; exact h3⟩
theorem run3 (r : Run) : ∀ K : List Value → Prop, K [.int .i64 r.y, .int .i64 r.x0, .int .i64 r.x1] → K [.int .i64 r.y, .int .i64 r.x0, .int .i64 r.x1] := fun _ h => h
theorem RunsM.cells {G : Mem} {A : Option Addr} {L : List Run} (h : RunsM G A L) {i : Nat} {r : Run} (hi : L[i]? = some r) : ∃ p : Addr, A = some p ∧ ∀ K : List Value → Prop, K [.int .i64 r.y, .int .i64 r.x0, .int .i64 r.x1] → OldCells G (p.add (i * 3)) 3 K := by
  obtain ⟨p, rfl, c0, c1, c2⟩ := h.at_ hi
  refine ⟨p, rfl, fun K k => OldCells_list _ rfl (fun j u hj => ?_) k⟩
  match j, hj with
  | 0, hj => simp at hj; subst hj; exact c0
  | 1, hj => simp at hj; subst hj; exact c1
  | 2, hj => simp at hj; subst hj; exact c2
def nthR (L : List Run) (i : Nat) : Run := (L[i]?).getD ⟨0, 0, 0⟩
theorem nthR_get {L : List Run} {i : Nat} {r : Run} (h : L[i]? = some r) : nthR L i = r := by simp [nthR, h]
theorem RunsAt.m {w : World} {A : Option Addr} {n : Nat} {rs : Nat → Run} (h : RunsAt w A n rs) : RunsM (memOf w) A (runsL rs n) := by
  intro i r hr
  have hi : i < n := by have := (List.getElem?_eq_some_iff.1 hr).1; simpa [runsL] using this
  have e : rs i = r := by simpa [runsL, List.getElem?_range hi] using hr
  subst e
  obtain ⟨b, off, hA, _, hc⟩ := h (by omega)
  obtain ⟨c0, c1, c2⟩ := hc i hi
  exact ⟨b, off, hA, c0, c1, c2⟩
theorem runsL_length (rs : Nat → Run) (n : Nat) : (runsL rs n).length = n := by simp [runsL]
/-- The error of a region. -/
def errL (L : List Run) : Int := regV (nthR L) L.length
theorem errL_first {L : List Run} {i : Nat} (h0 : regV (nthR L) i = 0) (hi : i < L.length) (h : runErr (nthR L) i ≠ 0) : errL L = runErr (nthR L) i := regV_first h0 h hi
end Go.Proofs.Ytmklpphdbmpbbaa
