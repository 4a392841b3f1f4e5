/-
  The contract of the law's helper small: some valid raster of at most 8 x 8 pixels.
-/
import Derived.Test.YtoiblpncofbdpaaPix
import Derived.Test.YtoiblpncofbdpaaMix
import Derived.OwnWalk
import Derived.Laws.AppendOwn
namespace Go.Proofs.Ytoiblpncofbdpaa
open Go.RowKit

theorem ownsRow_below {w w' : World} {base : Nat} {e : TypeId} {size : Nat} {v : Value} {n : Nat} {xs : List Value} (h : w.ownsRow base e size v n xs) (hb : Below w.heap.size w w') : w'.ownsRow base e size v n xs := by
  refine ⟨h.1, ?_⟩
  rcases h.2 with h1 | ⟨g, cap, cur, h1, h2, h3, h4⟩
  · exact .inl h1
  · refine .inr ⟨g, cap, cur, h1, h2, ?_, h4⟩
    rw [hb.block g (Array.getElem?_eq_some_iff.1 h3).1]; exact h3
/-- A raster that grows: its variable holds its columns, its rows, and a slice of the k pixels so far. -/
structure Grows (W wr : World) (t : TypeId) (c d : Int) (v : Value) (vs : List Int) : Prop where
  below : Below W.heap.size W wr
  size : W.heap.size + 2 ≤ wr.heap.size
  box : ∀ o, wr.cell? ⟨W.heap.size, o, none⟩ = #[Value.int .i64 0, .int .i64 0, .slice none 0 0][o]?
  boxF : ∀ o, wr.frozen? ⟨W.heap.size, o, none⟩ = false
  grid : ∀ o, wr.cell? ⟨W.heap.size + 1, o, none⟩ = #[Value.int .i64 c, .int .i64 d, v][o]?
  gridF : ∀ o, wr.frozen? ⟨W.heap.size + 1, o, none⟩ = false
  own : wr.ownsRow (W.heap.size + 2) t 1 v vs.length (vs.map (Value.int .u8))
  bytes : ∀ x ∈ vs, 0 ≤ x ∧ x ≤ 255
section
variable {W wr : World} {t : TypeId} {c d : Int} {v : Value} {vs : List Int}
theorem Grows.start (tg : TypeId) : Grows W ((W.alloc (.cells #[.int .i64 0, .int .i64 0, .slice none 0 0] tg)).alloc (.cells #[.int .i64 c, .int .i64 d, .slice none 0 0] tg)) t c d (.slice none 0 0) [] := by
  refine ⟨((Below.refl _ _).alloc (Nat.le_refl _) _).alloc (by simp) _, by simp, fun o => ?_, fun o => ?_, fun o => ?_, fun o => ?_, World.ownsRow_nil _ _ _ _, fun x hx => by cases hx⟩
  · rw [cell_alloc_if, if_neg (by simp only [World.size_alloc]; omega), cell_alloc_if, if_pos rfl]
  · simp [frozen_alloc_if]
  · simp [cell_alloc_if]
  · simp [frozen_alloc_if]
theorem Grows.next {w1 w2 : World} {v' : Value} {r : Int} (h : Grows W wr t c d v vs) (hb : Below wr.heap.size wr w1) (hr : 0 ≤ r ∧ r ≤ 255)
    (hown : w2.ownsRow (W.heap.size + 2) t 1 v' (vs.length + 1) (vs.map (Value.int .u8) ++ [.int .u8 r])) (hg : w1.grownBy w2 v.ownBlock) :
    Grows W (w2.setCell ⟨W.heap.size + 1, 2, none⟩ v') t c d v' (vs ++ [r]) := by
  have hs := h.size
  have hs1 := hb.size
  have hv : ∀ k, k < W.heap.size + 2 → some k ≠ v.ownBlock := fun k hk he => by
    have := (h.own.lt k he.symm).1
    omega
  have b1 : Below W.heap.size W w1 := h.below.trans (hb.mono h.below.size)
  have b2 : Below W.heap.size W w2 := ⟨hg.os.trans b1.os, hg.tape.trans b1.tape, hg.output.trans b1.output, Nat.le_trans b1.size hg.size, fun b hb' => (hg.block b (by omega) (hv b (by omega))).trans (b1.block b hb')⟩
  have c0 : ∀ o, w2.cell? ⟨W.heap.size, o, none⟩ = wr.cell? ⟨W.heap.size, o, none⟩ := fun o =>
    (World.cell?_of_block (a := ⟨W.heap.size, o, none⟩) (hg.block _ (by show W.heap.size < _; omega) (hv _ (by show W.heap.size < _; omega)))).trans (hb.cell (p := ⟨W.heap.size, o, none⟩) (by show W.heap.size < _; omega))
  have f0 : ∀ o, w2.frozen? ⟨W.heap.size, o, none⟩ = wr.frozen? ⟨W.heap.size, o, none⟩ := fun o =>
    (World.frozen?_of_block (a := ⟨W.heap.size, o, none⟩) (hg.block _ (by show W.heap.size < _; omega) (hv _ (by show W.heap.size < _; omega)))).trans (hb.frozen (p := ⟨W.heap.size, o, none⟩) (by show W.heap.size < _; omega))
  have c2 : ∀ o, w2.cell? ⟨W.heap.size + 1, o, none⟩ = wr.cell? ⟨W.heap.size + 1, o, none⟩ := fun o =>
    (World.cell?_of_block (a := ⟨W.heap.size + 1, o, none⟩) (hg.block _ (by show W.heap.size + 1 < _; omega) (hv _ (by show W.heap.size + 1 < _; omega)))).trans (hb.cell (p := ⟨W.heap.size + 1, o, none⟩) (by show W.heap.size + 1 < _; omega))
  have f2 : ∀ o, w2.frozen? ⟨W.heap.size + 1, o, none⟩ = wr.frozen? ⟨W.heap.size + 1, o, none⟩ := fun o =>
    (World.frozen?_of_block (a := ⟨W.heap.size + 1, o, none⟩) (hg.block _ (by show W.heap.size + 1 < _; omega) (hv _ (by show W.heap.size + 1 < _; omega)))).trans (hb.frozen (p := ⟨W.heap.size + 1, o, none⟩) (by show W.heap.size + 1 < _; omega))
  have hsz : (w2.setCell ⟨W.heap.size + 1, 2, none⟩ v').heap.size = w2.heap.size := World.size_setCell _ _ _
  refine ⟨b2.setCell (Nat.le_succ _) _, by rw [hsz]; have := hg.size; omega, fun o => ?_, fun o => ?_, fun o => ?_, fun o => ?_, ?_, ?_⟩
  · rw [cell_setCell_if, if_neg (by omega), c0]; exact h.box o
  · rw [World.frozen?_setCell, f0]; exact h.boxF o
  · rw [cell_setCell_if, if_pos rfl]
    by_cases ho : o = 2
    · subst ho; rw [if_pos rfl, c2, h.grid]; rfl
    · rw [if_neg ho, c2, h.grid]
      match o, ho with
      | 0, _ => rfl
      | 1, _ => rfl
      | _ + 3, _ => rfl
  · rw [World.frozen?_setCell, f2]; exact h.gridF o
  · rw [List.map_append, List.length_append]
    refine ⟨hown.1, ?_⟩
    rcases hown.2 with ⟨h1, h2⟩ | ⟨g, cap, cur, h1, h2, h3, h4⟩
    · exact .inl ⟨h1, h2⟩
    · refine .inr ⟨g, cap, cur, h1, h2, ?_, h4⟩
      rw [Below.heap_setCell _ _ _ _ (by show g ≠ W.heap.size + 1; omega)]; exact h3
  · intro x hx
    rcases List.mem_append.1 hx with hx | hx
    · exact h.bytes x hx
    · rw [List.mem_singleton.1 hx]; exact hr
theorem Grows.mid {w1 w2 : World} (h : Grows W wr t c d v vs) (hb : Below wr.heap.size wr w1) (hg : w1.grownBy w2 v.ownBlock) :
    (∀ o, w2.cell? ⟨W.heap.size + 1, o, none⟩ = #[Value.int .i64 c, .int .i64 d, v][o]?) ∧ (∀ o, w2.frozen? ⟨W.heap.size + 1, o, none⟩ = false) := by
  have hs := h.size
  have hs1 := hb.size
  have hv : some (W.heap.size + 1) ≠ v.ownBlock := fun he => by
    have := (h.own.lt _ he.symm).1
    omega
  refine ⟨fun o => ?_, fun o => ?_⟩
  · rw [World.cell?_of_block (a := ⟨W.heap.size + 1, o, none⟩) (hg.block _ (by show W.heap.size + 1 < _; omega) hv), hb.cell (p := ⟨W.heap.size + 1, o, none⟩) (by show W.heap.size + 1 < _; omega)]
    exact h.grid o
  · rw [World.frozen?_of_block (a := ⟨W.heap.size + 1, o, none⟩) (hg.block _ (by show W.heap.size + 1 < _; omega) hv), hb.frozen (p := ⟨W.heap.size + 1, o, none⟩) (by show W.heap.size + 1 < _; omega)]
    exact h.gridF o
/-- What a caller is told of the slice. -/
theorem Grows.slice (h : Grows W wr t c d v vs) (hn : 0 < vs.length) : ∃ A cap, v = .slice A vs.length cap ∧ vs.length ≤ cap ∧ cap ≤ maxLen ∧ ∃ b, A = some ⟨b, 0, none⟩ ∧ W.heap.size + 2 ≤ b ∧ ∀ i, i < vs.length → wr.cell? ⟨b, i, none⟩ = some (.int .u8 (vs.getD i 0)) := by
  rcases h.own.2 with ⟨_, h2⟩ | ⟨g, cap, cur, h1, h2, h3, h4, h5, h6, h7⟩
  · omega
  · refine ⟨_, cap, h1, h4, h5, g, rfl, h2, fun i hi => ?_⟩
    have e1 : wr.cell? ⟨g, i, none⟩ = cur[i]? := by unfold World.cell?; simp [h3]
    rw [e1]
    have e2 : (cur.toList.take (vs.length * 1))[i]? = some (.int .u8 (vs.getD i 0)) := by rw [h7]; simp [hi]
    rw [List.getElem?_take, if_pos (by omega)] at e2
    simpa using e2
end
end Go.Proofs.Ytoiblpncofbdpaa
