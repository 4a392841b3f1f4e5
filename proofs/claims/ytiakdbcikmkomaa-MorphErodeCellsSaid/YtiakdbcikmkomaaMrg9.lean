/-
  Merged: XEw, XRegM.
-/
import Derived.Test.YtiakdbcikmkomaaEng2
import Derived.Test.YtiakdbcikmkomaaMrg6
import Derived.Test.YtiakdbcikmkomaaMrg7
import Derived.Test.YtiakdbcikmkomaaMrg4
namespace Go.Proofs.Ytiakdbcikmkomaa
open Go.RowKit
set_option linter.unusedVariables false
set_option linter.unusedSimpArgs false
set_option linter.unnecessarySimpa false

/-- A world that holds what another one had in memory looks like a later one of a world with the same memory. -/
theorem below_of_holds {w w' : World} (h : (memOf w).holds w') : Below w.heap.size {w' with heap := w.heap} w' := by
  refine ⟨rfl, rfl, rfl, ?_, fun k hk => ?_⟩
  · rcases Nat.eq_zero_or_pos w.heap.size with h0 | h0
    · show w.heap.size ≤ _; omega
    · have hk : w.heap.size - 1 < w.heap.size := by omega
      have h1 := h (w.heap.size - 1) _ (Array.getElem?_eq_getElem hk)
      have h2 := (Array.getElem?_eq_some_iff.1 h1).1
      show w.heap.size ≤ _
      omega
  · have h1 := h k _ (Array.getElem?_eq_getElem hk)
    show w'.heap[k]? = w.heap[k]?
    rw [h1, Array.getElem?_eq_getElem hk]
theorem Sees.heap {P : Program} {w w' : World} (hh : w'.heap = w.heap) : ∀ (n : Nat) (t : TypeId) (cs : List Value), Sees P w n t cs → Sees P w' n t cs
  | 0, _, _, h => h.elim
  | n + 1, t, cs, h => by
    unfold Sees at h ⊢
    split <;> first | (rename_i ht; rw [ht] at h; simp only at h) | skip
    · exact h
    · exact h
    · exact h
    · exact ⟨h.1, fun i f hi => Sees.heap hh n _ _ (h.2 i f hi)⟩
    · exact ⟨h.1, fun i hi => Sees.heap hh n _ _ (h.2 i hi)⟩
    · rcases h with h | ⟨a, len, cap, h1, h2, h3, h4⟩
      · exact .inl h
      · refine .inr ⟨a, len, cap, h1, h2, h3, fun i hi => ?_⟩
        obtain ⟨cs', hl, hc, hs⟩ := h4 i hi
        refine ⟨cs', hl, fun j hj => ?_, Sees.heap hh n _ _ hs⟩
        rw [← hc j hj]
        simp only [World.cell?, hh]
    · trivial
theorem SliceG.holds {P : Program} {w w' : World} {e : TypeId} {A : Option Addr} {n : Nat} {g : Nat → Nat → Value} (h : SliceG P w e A n g) (hb : (memOf w).holds w') : SliceG P w' e A n g := by
  have h1 : SliceG P {w' with heap := w.heap} e A n g := by
    intro hn
    obtain ⟨b, off, hA, hlt, hc⟩ := h hn
    refine ⟨b, off, hA, hlt, fun x hx => ⟨(hc x hx).1, ?_⟩⟩
    obtain ⟨m, hm⟩ := (hc x hx).2
    exact ⟨m, Sees.heap (w := w) (w' := {w' with heap := w.heap}) rfl _ _ _ hm⟩
  exact h1.below (below_of_holds hb)
/-- A contract in the world's words, with the value in the engine's. -/
theorem Gives.of_callsA {P : Program} {f : FuncId} {args : List Value} {avs : List AV} {G : Mem} {y : Value} {v : AV} (ha : ∀ vs, AV.rels noName avs vs → vs = args) (hv : v.rel noName y)
    (h : ∀ w, G.holds w → Calls P f args.toArray w fun e w' => e = .returned y ∧ Below w.heap.size w w') : Gives P f avs G v := by
  intro w vs hG har
  have e : vs = args.toArray := by rw [← ha _ har]
  subst e
  refine (h w hG).mono ?_
  rintro e w' ⟨rfl, h3⟩
  exact ⟨y, rfl, hv, h3⟩
/-- A law's walk. -/
theorem walk_of {P : Program} {T : Tab} (hT : TOk P T) {f : FuncId} {fn : Func} (hfn : P.funcs[f]? = some fn) {avs : List AV} {args : Array Value} {w : World} (ha : AV.rels noName avs args.toList)
    (h : bodyV P T 0 fn avs [] (memOf w) fun v _ _ => v = .val (.bool true)) : Calls P f args w fun e w' => e = .returned (.bool true) ∧ Below w.heap.size w w' := by
  refine (calls_of_body hT hfn ha (memOf_holds w) h (fun _ _ _ _ _ h => h)).mono ?_
  rintro e w' ⟨y, β', v, hp', G', h1, h2, h3, rfl⟩
  simp only [AV.rel] at h3
  subst h3
  exact ⟨h1, h2.below⟩
/-- The row that a callee made becomes memory that does not change any more. -/
theorem CallP_freeze {P : Program} {f : FuncId} (hen : ∀ vs w, (callFunc f vs).run P w = .ok (.enter f vs) w) {args : List AV} {hp : List Blk} {G : Mem} {K : AV → List Blk → Mem → Prop} {wrap : AV → AV} (hwr : Wraps wrap) {E : TypeId} {sz n : Nat} {xs : List Value} (hu : AV.unders 0 args = true)
    (hc : Makes P f args G wrap E sz n xs) (h : ∀ A cap G', G.le G' → n ≤ cap → cap ≤ maxLen → (xs = [] ∨ ∃ b, A = some ⟨b, 0, none⟩ ∧ ∀ (j : Nat) u, xs[j]? = some u → G'.cell? ⟨b, j, none⟩ = some u) → K (wrap (.val (.slice A n cap))) hp G') : CallP P f args hp G K := by
  refine ⟨hen, fun w0 G0 β w vs hr ha => (hc w vs hr.hold (bare_rels hu ha)).mono ?_⟩
  rintro e w' ⟨y, s, rfl, h2, h3, h4⟩
  have hr' := hr.step h4
  have hv : ∀ s' : Value, (AV.val s').rel β s' := fun s' => by simp only [AV.rel]
  rcases h3.2 with ⟨rfl, h5⟩ | ⟨g, cap, cur, rfl, h5, h6, h7, h8, h9, h10⟩
  · have h0 := h none 0 G (Mem.le_refl _) (by omega) (Nat.zero_le _) (.inl (by have := h3.1; rw [h5] at this; simpa using this))
    subst h5
    exact ⟨y, β, _, hp, G, rfl, Nm.le_refl _, hr', hwr.rel (hv _) h2, h0⟩
  · have hcell : ∀ (j : Nat) u, xs[j]? = some u → (G.and w' g).cell? ⟨g, j, none⟩ = some u := fun j u hj => by
      have h11 : (G.and w' g) g = some (.cells cur E (0, 0)) := by simp [Mem.and, h6]
      unfold Mem.cell?
      rw [h11]
      rw [← h10] at hj
      rw [List.getElem?_take] at hj
      split at hj
      · simpa using hj
      · cases hj
    have h0 := h (some ⟨g, 0, none⟩) cap (G.and w' g) (Mem.le_and hr'.hold g) h7 h8 (.inr ⟨g, rfl, hcell⟩)
    refine ⟨y, β, _, hp, G.and w' g, rfl, Nm.le_refl _, ⟨hr'.below, Mem.and_holds hr'.hold g, Mem.le_trans hr'.sub (Mem.le_and hr'.hold g), fun b o hb => ?_, fun k z hk => ?_, hr'.inj⟩, hwr.rel (hv _) h2, h0⟩
    · unfold Mem.and at hb
      split at hb
      · rename_i e1; subst e1
        right
        exact Nat.le_trans hr.below.size h5
      · exact hr'.grow b o hb
    · obtain ⟨x, hx1, hx2⟩ := hr.blk k z hk
      obtain ⟨x', hx1', hx2'⟩ := hr'.blk k z hk
      rw [hx1] at hx1'; cases hx1'
      refine ⟨x, hx1, ?_⟩
      have hne : ∀ b, x.live = true → blkOf z = some b → b ≠ g := fun b hl hb => by
        have := (hr.lt hk hx1 hl hb).2.1
        omega
      cases x with
      | gone => trivial
      | cells t l =>
        obtain ⟨b, c, q1, q2, q3, q4, q5⟩ := hx2'
        refine ⟨b, c, q1, q2, ?_, q4, q5⟩
        have := hne b rfl (by rw [q1]; rfl)
        simp [Mem.and, this, q3]
      | own e' sz' n' xs' =>
        refine ⟨hx2'.1, fun b hb => ?_⟩
        have := hne b rfl hb
        simp [Mem.and, this, hx2'.2 b hb]
      | lp i fr st p =>
        obtain ⟨q1, q2, q3, q4⟩ := hx2'
        refine ⟨q1, q2, ?_, q4⟩
        have := hne i.l rfl (by rw [q1]; rfl)
        simp [Mem.and, this, q3]
      | mp f ks vs =>
        obtain ⟨b, ys, q1, q2, q3, q4⟩ := hx2'
        refine ⟨b, ys, q1, q2, ?_, q4⟩
        have := hne b rfl (by rw [q1]; rfl)
        simp [Mem.and, this, q3]
end Go.Proofs.Ytiakdbcikmkomaa

namespace Go.Proofs.Ytiakdbcikmkomaa
open Go.RowKit
set_option linter.unusedVariables false
set_option maxRecDepth 20000
/-- Runs in memory. -/
def RunsM (G : Mem) (A : Option Addr) (L : List Run) : Prop := ∀ (i : Nat) r, L[i]? = some r → ∃ b off, A = some ⟨b, off, none⟩ ∧ G.cell? ⟨b, off + i * 3, none⟩ = some (.int .i64 r.y) ∧ G.cell? ⟨b, off + i * 3 + 1, none⟩ = some (.int .i64 r.x0) ∧ G.cell? ⟨b, off + i * 3 + 2, none⟩ = some (.int .i64 r.x1)
theorem RunsM.mono {G G' : Mem} {A : Option Addr} {L : List Run} (h : RunsM G A L) (hle : G.le G') : RunsM G' A L := fun i r hr => by
  obtain ⟨b, off, h1, h2, h3, h4⟩ := h i r hr
  exact ⟨b, off, h1, hle.cell h2, hle.cell h3, hle.cell h4⟩
theorem RunsM.nil (G : Mem) (A : Option Addr) : RunsM G A [] := fun i r hr => by simp at hr
theorem RunsM.at_ {G : Mem} {A : Option Addr} {L : List Run} (h : RunsM G A L) {i : Nat} {r : Run} (hi : L[i]? = some r) : ∃ p : Addr, A = some p ∧ G.cell? (Addr.add (p.add (i * 3)) 0) = some (.int .i64 r.y) ∧ G.cell? (Addr.add (p.add (i * 3)) 1) = some (.int .i64 r.x0) ∧ G.cell? (Addr.add (p.add (i * 3)) 2) = some (.int .i64 r.x1) := by
  obtain ⟨b, off, rfl, h1, h2, h3⟩ := h i r hi
  exact ⟨_, rfl, by rw [addr_add, addr_add]; exact h1, by rw [addr_add, addr_add]; exact h2, by rw [addr_add, addr_add]; exact h3⟩
theorem run3 (r : Run) : ∀ K : List Value → Prop, K [.int .i64 r.y, .int .i64 r.x0, .int .i64 r.x1] → K [.int .i64 r.y, .int .i64 r.x0, .int .i64 r.x1] := fun _ h => h
theorem RunsM.cells {G : Mem} {A : Option Addr} {L : List Run} (h : RunsM G A L) {i : Nat} {r : Run} (hi : L[i]? = some r) : ∃ p : Addr, A = some p ∧ ∀ K : List Value → Prop, K [.int .i64 r.y, .int .i64 r.x0, .int .i64 r.x1] → OldCells G (p.add (i * 3)) 3 K := by
  obtain ⟨p, rfl, c0, c1, c2⟩ := h.at_ hi
  refine ⟨p, rfl, fun K k => OldCells_list _ rfl (fun j u hj => ?_) k⟩
  match j, hj with
  | 0, hj => simp at hj; subst hj; exact c0
  | 1, hj => simp at hj; subst hj; exact c1
  | 2, hj => simp at hj; subst hj; exact c2
def nthR (L : List Run) (i : Nat) : Run := (L[i]?).getD ⟨0, 0, 0⟩
theorem nthR_get {L : List Run} {i : Nat} {r : Run} (h : L[i]? = some r) : nthR L i = r := by simp [nthR, h]
theorem RunsAt.m {w : World} {A : Option Addr} {n : Nat} {rs : Nat → Run} (h : RunsAt w A n rs) : RunsM (memOf w) A (runsL rs n) := by
  intro i r hr
  have hi : i < n := by have := (List.getElem?_eq_some_iff.1 hr).1; simpa [runsL] using this
  have e : rs i = r := by simpa [runsL, List.getElem?_range hi] using hr
  subst e
  obtain ⟨b, off, hA, _, hc⟩ := h (by omega)
  obtain ⟨c0, c1, c2⟩ := hc i hi
  exact ⟨b, off, hA, c0, c1, c2⟩
theorem runsL_length (rs : Nat → Run) (n : Nat) : (runsL rs n).length = n := by simp [runsL]
/-- The error of a region. -/
def errL (L : List Run) : Int := regV (nthR L) L.length
theorem errL_first {L : List Run} {i : Nat} (h0 : regV (nthR L) i = 0) (hi : i < L.length) (h : runErr (nthR L) i ≠ 0) : errL L = runErr (nthR L) i := regV_first h0 h hi
end Go.Proofs.Ytiakdbcikmkomaa
