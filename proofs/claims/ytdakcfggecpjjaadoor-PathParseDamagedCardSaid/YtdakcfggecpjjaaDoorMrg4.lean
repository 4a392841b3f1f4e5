/-
  Merged: XRuns, XRecs.
-/
import Derived.WalkKit
import Derived.Test.YtdakcfggecpjjaaDoorMrg3
namespace Go.Proofs.YtdakcfggecpjjaaDoor
open Go.RowKit Go.ChangeShapes Go.WideShapes Go.Deep

structure Run where
  y : Int
  x0 : Int
  x1 : Int

/-- A slice of n runs. -/
def RunsAt (w : World) (A : Option Addr) (n : Nat) (rs : Nat → Run) : Prop :=
  0 < n → ∃ b off, A = some ⟨b, off, none⟩ ∧ b < w.heap.size ∧ ∀ i, i < n → w.cell? ⟨b, off + i * 3, none⟩ = some (.int .i64 (rs i).y) ∧ w.cell? ⟨b, off + i * 3 + 1, none⟩ = some (.int .i64 (rs i).x0) ∧ w.cell? ⟨b, off + i * 3 + 2, none⟩ = some (.int .i64 (rs i).x1)
theorem RunsAt.below {w w' : World} {A : Option Addr} {n : Nat} {rs : Nat → Run} (h : RunsAt w A n rs) (hb : Below w.heap.size w w') : RunsAt w' A n rs := by
  intro hn
  obtain ⟨b, off, hA, hlt, hc⟩ := h hn
  refine ⟨b, off, hA, Nat.lt_of_lt_of_le hlt hb.size, fun i hi => ?_⟩
  obtain ⟨h1, h2, h3⟩ := hc i hi
  exact ⟨(hb.cell (p := ⟨b, _, none⟩) hlt).trans h1, (hb.cell (p := ⟨b, _, none⟩) hlt).trans h2, (hb.cell (p := ⟨b, _, none⟩) hlt).trans h3⟩
/-- The error of a run, seen beside the one before it. -/
def runErr (rs : Nat → Run) (k : Nat) : Int :=
  if (rs k).y < -8192 ∨ 8191 < (rs k).y ∨ (rs k).x0 < -8192 ∨ 8192 < (rs k).x0 ∨ (rs k).x1 < -8192 ∨ 8192 < (rs k).x1 then 3
  else if (rs k).x1 ≤ (rs k).x0 then 4
  else if 0 < k ∧ (rs k).y ≤ (rs (k - 1)).y ∧ ((rs k).y < (rs (k - 1)).y ∨ (rs k).x0 ≤ (rs (k - 1)).x1) then 18 else 0
/-- The first error of n runs; 0: there is none. -/
def regV (rs : Nat → Run) : Nat → Int
  | 0 => 0
  | n + 1 => if regV rs n ≠ 0 then regV rs n else runErr rs n
theorem regV_first {rs : Nat → Run} {k : Nat} (h0 : regV rs k = 0) (h : runErr rs k ≠ 0) : ∀ {n : Nat}, k < n → regV rs n = runErr rs k := by
  intro n hn
  induction n with
  | zero => omega
  | succ n ih =>
    unfold regV
    by_cases hk : k < n
    · rw [if_pos (by rw [ih hk]; exact h), ih hk]
    · have : k = n := by omega
      subst this
      rw [if_neg (by simp [h0])]
theorem regV_next {rs : Nat → Run} {k : Nat} (h0 : regV rs k = 0) (h : runErr rs k = 0) : regV rs (k + 1) = 0 := by
  unfold regV; rw [if_neg (by simp [h0]), h]
section
variable {H : Type} {enc : TypeId × Value → H} {P : Program} {w : World} {base b0 : Nat} {spare : Nat → Bool} {held : Bool} {r : Reach} {v : Value} {d : DataW H} {ps : List MemPlace}
theorem addr_plain {w : World} {a : Addr} {v : Value} (h : w.cell? a = some v) : a = ⟨a.block, a.off, none⟩ ∧ a.block < w.heap.size := by
  have hs := World.cell?_spot h
  refine ⟨by cases a; simp at hs; simp [hs], ?_⟩
  rcases Nat.lt_or_ge a.block w.heap.size with h' | h'
  · exact h'
  · unfold World.cell? at h; rw [Array.getElem?_eq_none h'] at h; simp at h
theorem plain_add (b off i : Nat) : (⟨b, off, none⟩ : Addr).add i = ⟨b, off + i, none⟩ := by
  unfold Addr.add
  split
  · rename_i h; subst h; rfl
  · rfl
theorem open_Runs {t e : TypeId} {fs : Array Field} (ht : P.underlying t = some (.slice e)) (he : P.underlying e = some (.struct fs)) (h3 : fs.size = 3) (hC : P.cellsOf e = fs.size)
    (hf : ∀ (i : Nat) (f : Field), fs[i]? = some f → f.offset = i ∧ P.cellsOf f.type = 1 ∧ P.underlying f.type = some (.int .i64)) (hv : Value.okWide P w r b0 t v) (h : DataW.Trod enc P w base spare held t v d ps) :
    ∃ (A : Option Addr) (n cap : Nat) (rs : Nat → Run), v = .slice A n cap ∧ n ≤ cap ∧ cap ≤ maxLen ∧ RunsAt w A n rs := by
  obtain ⟨A, n, cap, rfl⟩ := okWide_slice ht hv
  obtain ⟨m, hs⟩ := sees_of_Trod h
  rcases hs.slice ht with hnil | ⟨a, len, cap', hcs, h1, h2, k, hk⟩
  · simp [Value.cells] at hnil
    obtain ⟨rfl, rfl, rfl⟩ := hnil
    exact ⟨none, 0, 0, fun _ => ⟨0, 0, 0⟩, rfl, by omega, by simp [maxLen], fun h => absurd h (by omega)⟩
  · simp [Value.cells] at hcs
    obtain ⟨rfl, rfl, rfl⟩ := hcs
    have key : ∀ i, i < n → ∃ q : Run, w.cell? (a.add (i * 3)) = some (.int .i64 q.y) ∧ w.cell? (a.add (i * 3 + 1)) = some (.int .i64 q.x0) ∧ w.cell? (a.add (i * 3 + 2)) = some (.int .i64 q.x1) := by
      intro i hi
      obtain ⟨cs, hl, hc, hse⟩ := hk i hi
      rw [hC, h3] at hl hc
      obtain ⟨zs, hz1, hz2, _⟩ := hse.ints he hC hf
      match zs, hz1.trans h3 with
      | [y, x0, x1], _ =>
        subst hz2
        exact ⟨⟨y, x0, x1⟩, hc 0 (by omega), hc 1 (by omega), hc 2 (by omega)⟩
    have : Inhabited Run := ⟨⟨0, 0, 0⟩⟩
    obtain ⟨rs, hrs⟩ := choose_lt key
    refine ⟨some a, n, cap, rs, rfl, h1, h2, fun hn => ?_⟩
    have h00 : w.cell? a = some (.int .i64 (rs 0).y) := by have := (hrs 0 hn).1; simpa [Addr.add] using this
    obtain ⟨q1, q2⟩ := addr_plain h00
    refine ⟨a.block, a.off, by rw [← q1], q2, fun i hi => ?_⟩
    obtain ⟨c1, c2, c3⟩ := hrs i hi
    rw [q1, plain_add] at c1 c2 c3
    exact ⟨c1, c2, c3⟩
end
end Go.Proofs.YtdakcfggecpjjaaDoor

namespace Go.Proofs.YtdakcfggecpjjaaDoor
open Go.RowKit Go.ChangeShapes Go.WideShapes Go.Deep

/-- A slice of n records of k cells of the kind i. -/
def RecsAt (i : IntKind) (w : World) (A : Option Addr) (n k : Nat) (f : Nat → Nat → Int) : Prop :=
  0 < n → ∃ b off, A = some ⟨b, off, none⟩ ∧ b < w.heap.size ∧ ∀ x, x < n → ∀ j, j < k → w.cell? ⟨b, off + x * k + j, none⟩ = some (.int i (f x j))
def RecsIn (i : IntKind) (n k : Nat) (f : Nat → Nat → Int) : Prop := ∀ x, x < n → ∀ j, j < k → (Lit.int i (f x j)).wf = true
theorem RecsAt.below {i : IntKind} {w w' : World} {A : Option Addr} {n k : Nat} {f : Nat → Nat → Int} (h : RecsAt i w A n k f) (hb : Below w.heap.size w w') : RecsAt i w' A n k f := by
  intro hn
  obtain ⟨b, off, hA, hlt, hc⟩ := h hn
  exact ⟨b, off, hA, Nat.lt_of_lt_of_le hlt hb.size, fun x hx j hj => (hb.cell (p := ⟨b, _, none⟩) hlt).trans (hc x hx j hj)⟩
/-- The first error of n records; 0: there is none. -/
def firstV (err : Nat → Int) : Nat → Int
  | 0 => 0
  | n + 1 => if firstV err n ≠ 0 then firstV err n else err n
theorem firstV_first {err : Nat → Int} {k : Nat} (h0 : firstV err k = 0) (h : err k ≠ 0) : ∀ {n : Nat}, k < n → firstV err n = err k := by
  intro n hn
  induction n with
  | zero => omega
  | succ n ih =>
    unfold firstV
    by_cases hk : k < n
    · rw [if_pos (by rw [ih hk]; exact h), ih hk]
    · have : k = n := by omega
      subst this
      rw [if_neg (by simp [h0])]
theorem firstV_next {err : Nat → Int} {k : Nat} (h0 : firstV err k = 0) (h : err k = 0) : firstV err (k + 1) = 0 := by
  unfold firstV; rw [if_neg (by simp [h0]), h]
section
variable {H : Type} {enc : TypeId × Value → H} {P : Program} {w : World} {base b0 : Nat} {spare : Nat → Bool} {held : Bool} {r : Reach} {v : Value} {d : DataW H} {ps : List MemPlace}
theorem open_Recs {i : IntKind} {t e : TypeId} {fs : Array Field} (ht : P.underlying t = some (.slice e)) (he : P.underlying e = some (.struct fs)) (h0 : 0 < fs.size) (hC : P.cellsOf e = fs.size)
    (hf : ∀ (j : Nat) (f : Field), fs[j]? = some f → f.offset = j ∧ P.cellsOf f.type = 1 ∧ P.underlying f.type = some (.int i)) (hv : Value.okWide P w r b0 t v) (h : DataW.Trod enc P w base spare held t v d ps) :
    ∃ (A : Option Addr) (n cap : Nat) (f : Nat → Nat → Int), v = .slice A n cap ∧ n ≤ cap ∧ cap ≤ maxLen ∧ RecsAt i w A n fs.size f ∧ RecsIn i n fs.size f := by
  obtain ⟨A, n, cap, rfl⟩ := okWide_slice ht hv
  obtain ⟨m, hs⟩ := sees_of_Trod h
  rcases hs.slice ht with hnil | ⟨a, len, cap', hcs, h1, h2, k, hk⟩
  · simp [Value.cells] at hnil
    obtain ⟨rfl, rfl, rfl⟩ := hnil
    exact ⟨none, 0, 0, fun _ _ => 0, rfl, by omega, by simp [maxLen], fun h => absurd h (by omega), fun x hx => absurd hx (by omega)⟩
  · simp [Value.cells] at hcs
    obtain ⟨rfl, rfl, rfl⟩ := hcs
    have key : ∀ x, x < n → ∃ g : Nat → Int, ∀ j, j < fs.size → w.cell? (a.add (x * fs.size + j)) = some (.int i (g j)) ∧ (Lit.int i (g j)).wf = true := by
      intro x hx
      obtain ⟨cs, hl, hc, hse⟩ := hk x hx
      rw [hC] at hl hc
      obtain ⟨zs, hz1, hz2, hz3⟩ := hse.ints he hC hf
      refine ⟨fun j => zs.getD j 0, fun j hj => ?_⟩
      have hj' : j < zs.length := by omega
      refine ⟨?_, ?_⟩
      · rw [hc j hj, hz2]; simp [List.getD_eq_getElem?_getD, hj']
      · simp only [List.getD_eq_getElem?_getD, List.getElem?_eq_getElem hj', Option.getD_some]
        exact hz3 _ (List.getElem_mem hj')
    have : Inhabited (Nat → Int) := ⟨fun _ => 0⟩
    obtain ⟨f, hrs⟩ := choose_lt key
    refine ⟨some a, n, cap, f, rfl, h1, h2, fun hn => ?_, fun x hx j hj => (hrs x hx j hj).2⟩
    have h00 : w.cell? a = some (.int i (f 0 0)) := by have := (hrs 0 hn 0 h0).1; simpa [Addr.add] using this
    obtain ⟨q1, q2⟩ := addr_plain h00
    refine ⟨a.block, a.off, by rw [← q1], q2, fun x hx j hj => ?_⟩
    have c := (hrs x hx j hj).1
    rw [q1, plain_add] at c
    rw [Nat.add_assoc]; exact c
/-- A slice of whole numbers (of bytes, for example). -/
theorem open_Ints {i : IntKind} {t e : TypeId} (ht : P.underlying t = some (.slice e)) (he : P.underlying e = some (.int i)) (hC : P.cellsOf e = 1)
    (hv : Value.okWide P w r b0 t v) (h : DataW.Trod enc P w base spare held t v d ps) :
    ∃ (A : Option Addr) (n cap : Nat) (f : Nat → Nat → Int), v = .slice A n cap ∧ n ≤ cap ∧ cap ≤ maxLen ∧ RecsAt i w A n 1 f ∧ RecsIn i n 1 f := by
  obtain ⟨A, n, cap, rfl⟩ := okWide_slice ht hv
  obtain ⟨m, hs⟩ := sees_of_Trod h
  rcases hs.slice ht with hnil | ⟨a, len, cap', hcs, h1, h2, k, hk⟩
  · simp [Value.cells] at hnil
    obtain ⟨rfl, rfl, rfl⟩ := hnil
    exact ⟨none, 0, 0, fun _ _ => 0, rfl, by omega, by simp [maxLen], fun h => absurd h (by omega), fun x hx => absurd hx (by omega)⟩
  · simp [Value.cells] at hcs
    obtain ⟨rfl, rfl, rfl⟩ := hcs
    have key : ∀ x, x < n → ∃ g : Int, w.cell? (a.add x) = some (.int i g) ∧ (Lit.int i g).wf = true := by
      intro x hx
      obtain ⟨cs, hl, hc, hse⟩ := hk x hx
      rw [hC] at hl hc
      obtain ⟨g, hg, hw⟩ := hse.int he
      subst hg
      exact ⟨g, by have := hc 0 (by omega); simpa using this, hw⟩
    obtain ⟨f, hrs⟩ := choose_lt key
    refine ⟨some a, n, cap, fun x _ => f x, rfl, h1, h2, fun hn => ?_, fun x hx j hj => (hrs x hx).2⟩
    have h00 : w.cell? a = some (.int i (f 0)) := by have := (hrs 0 hn).1; simpa [Addr.add] using this
    obtain ⟨q1, q2⟩ := addr_plain h00
    refine ⟨a.block, a.off, by rw [← q1], q2, fun x hx j hj => ?_⟩
    have c := (hrs x hx).1
    rw [q1, plain_add] at c
    have : j = 0 := by omega
    subst this
    simpa using c
end
end Go.Proofs.YtdakcfggecpjjaaDoor
