/-
  A raster that is built pixel by pixel: what holds of the world meanwhile. No program in sight.
-/
import Derived.Test.YtmklpphdbmpbbaaMix2
import Derived.Laws.OwnMore
import Derived.Deep.DeepAppendRoom
namespace Go.Proofs.Ytmklpphdbmpbbaa
open Go.RowKit

/-- k of m pixels are there (of the kind t, in one cell each); the raster's own variable, the box of the result. -/
structure Built (W wr : World) (t : TypeId) (px : Int → Value) (m k : Nat) (c d : Int) (v : Nat → Int) : Prop where
  below : Below W.heap.size W wr
  size : W.heap.size + 3 ≤ wr.heap.size
  box : ∀ o, wr.cell? ⟨W.heap.size, o, none⟩ = #[Value.int .i64 0, .int .i64 0, .slice none 0 0][o]?
  boxF : ∀ o, wr.frozen? ⟨W.heap.size, o, none⟩ = false
  grid : ∀ o, wr.cell? ⟨W.heap.size + 2, o, none⟩ = #[Value.int .i64 c, .int .i64 d, .slice (some ⟨W.heap.size + 1, 0, none⟩) k m][o]?
  gridF : ∀ o, wr.frozen? ⟨W.heap.size + 2, o, none⟩ = false
  own : wr.ownsRow 0 t 1 (.slice (some ⟨W.heap.size + 1, 0, none⟩) k m) k ((List.range k).map fun i => px (v i))
section
variable {W wr : World} {t : TypeId} {px : Int → Value} {m k : Nat} {c d : Int} {v : Nat → Int}
theorem heap_of_alloc {w : World} {o : Obj} {b : Nat} (h : b < w.heap.size) : (w.alloc o).heap[b]? = w.heap[b]? := by
  unfold World.alloc; simp [Array.getElem?_push, Nat.ne_of_lt h]
theorem Built.start (tg tb : TypeId) (z : Array Value) (hz : z.size = m) (hm : m ≤ maxLen) (w9 : World)
    (h9 : w9 = (((W.alloc (.cells #[.int .i64 0, .int .i64 0, .slice none 0 0] tb)).alloc (.cells z t)).alloc (.cells #[.int .i64 c, .int .i64 d, .slice (some ⟨W.heap.size + 1, 0, none⟩) 0 m] tg))) : Built W w9 t px m 0 c d v := by
  subst h9
  refine ⟨?_, ?_, ?_, ?_, ?_, ?_, ?_⟩
  · exact (((Below.refl _ _).alloc (Nat.le_refl _) _).alloc (by simp) _).alloc (by simp only [World.size_alloc]; omega) _
  · simp
  · intro o
    rw [cell_alloc_if, if_neg (by simp only [World.size_alloc]; omega), cell_alloc_if, if_neg (by simp only [World.size_alloc]; omega), cell_alloc_if, if_pos rfl]
  · intro o; simp [frozen_alloc_if]
  · intro o; simp [cell_alloc_if]
  · intro o; simp [frozen_alloc_if]
  · refine ⟨by simp, .inr ⟨_, _, z, rfl, Nat.zero_le _, ?_, Nat.zero_le _, hm, by omega, by simp⟩⟩
    rw [heap_of_alloc (by simp)]
    have := heap_alloc_new (W.alloc (.cells #[.int .i64 0, .int .i64 0, .slice none 0 0] tb)) (.cells z t)
    simpa using this
/-- A call and a new row of one pixel between two pixels. -/
theorem Built.later {w' : World} (h : Built W wr t px m k c d v) (hb : Below wr.heap.size wr w') : Built W w' t px m k c d v := by
  have hs := h.size
  refine ⟨h.below.trans (hb.mono h.below.size), Nat.le_trans h.size hb.size, fun o => ?_, fun o => ?_, fun o => ?_, fun o => ?_, ?_⟩
  · rw [hb.cell (p := ⟨W.heap.size, o, none⟩) (show W.heap.size < _ by omega)]; exact h.box o
  · rw [hb.frozen (p := ⟨W.heap.size, o, none⟩) (show W.heap.size < _ by omega)]; exact h.boxF o
  · rw [hb.cell (p := ⟨W.heap.size + 2, o, none⟩) (show W.heap.size + 2 < _ by omega)]; exact h.grid o
  · rw [hb.frozen (p := ⟨W.heap.size + 2, o, none⟩) (show W.heap.size + 2 < _ by omega)]; exact h.gridF o
  · refine ⟨h.own.1, ?_⟩
    rcases h.own.2 with ⟨h1, _⟩ | ⟨g, cap, cur, h1, h2, h3, h4⟩
    · cases h1
    · refine .inr ⟨g, cap, cur, h1, h2, ?_, h4⟩
      rw [hb.block g (Array.getElem?_eq_some_iff.1 h3).1]; exact h3
/-- Behind the append and the store. -/
theorem Built.next {w1 : World} (h : Built W wr t px m k c d v) (hown : w1.ownsRow 0 t 1 (.slice (some ⟨W.heap.size + 1, 0, none⟩) (k + 1) m) (k + 1) (((List.range k).map fun i => px (v i)) ++ [px (v k)])) (hg : wr.grownBy w1 (some (W.heap.size + 1))) :
    Built W (w1.setCell ⟨W.heap.size + 2, 2, none⟩ (.slice (some ⟨W.heap.size + 1, 0, none⟩) (k + 1) m)) t px m (k + 1) c d v := by
  have hs := h.size
  have hsz : (w1.setCell ⟨W.heap.size + 2, 2, none⟩ (.slice (some ⟨W.heap.size + 1, 0, none⟩) (k + 1) m)).heap.size = w1.heap.size := World.size_setCell _ _ _
  have hbl : ∀ b, b < W.heap.size → w1.heap[b]? = W.heap[b]? := fun b hb => (hg.block b (by omega) (by simp; omega)).trans (h.below.block b hb)
  have b1 : Below W.heap.size W w1 := ⟨hg.os.trans h.below.os, hg.tape.trans h.below.tape, hg.output.trans h.below.output, Nat.le_trans h.below.size hg.size, hbl⟩
  have c0 : ∀ o, w1.cell? ⟨W.heap.size, o, none⟩ = wr.cell? ⟨W.heap.size, o, none⟩ := fun o => World.cell?_of_block (hg.block _ (by show W.heap.size < _; omega) (by simp))
  have f0 : ∀ o, w1.frozen? ⟨W.heap.size, o, none⟩ = wr.frozen? ⟨W.heap.size, o, none⟩ := fun o => World.frozen?_of_block (hg.block _ (by show W.heap.size < _; omega) (by simp))
  have c2 : ∀ o, w1.cell? ⟨W.heap.size + 2, o, none⟩ = wr.cell? ⟨W.heap.size + 2, o, none⟩ := fun o => World.cell?_of_block (hg.block _ (by show W.heap.size + 2 < _; omega) (by simp))
  have f2 : ∀ o, w1.frozen? ⟨W.heap.size + 2, o, none⟩ = wr.frozen? ⟨W.heap.size + 2, o, none⟩ := fun o => World.frozen?_of_block (hg.block _ (by show W.heap.size + 2 < _; omega) (by simp))
  refine ⟨b1.setCell (by show _ ≤ W.heap.size + 2; omega) _, by rw [hsz]; have := hg.size; omega, fun o => ?_, fun o => ?_, fun o => ?_, fun o => ?_, ?_⟩
  · rw [cell_setCell_if, if_neg (by omega), c0]; exact h.box o
  · rw [World.frozen?_setCell, f0]; exact h.boxF o
  · rw [cell_setCell_if, if_pos rfl]
    by_cases ho : o = 2
    · subst ho; rw [if_pos rfl, c2, h.grid]; rfl
    · rw [if_neg ho, c2, h.grid]
      match o, ho with
      | 0, _ => rfl
      | 1, _ => rfl
      | _ + 3, _ => rfl
  · rw [World.frozen?_setCell, f2]; exact h.gridF o
  · rw [List.range_succ, List.map_append, List.map_singleton]
    refine ⟨hown.1, ?_⟩
    rcases hown.2 with ⟨h1, _⟩ | ⟨g, cap, cur, h1, h2, h3, h4⟩
    · cases h1
    · refine .inr ⟨g, cap, cur, h1, h2, ?_, h4⟩
      have hgp : g = W.heap.size + 1 := by
        simp only [Value.slice.injEq, Option.some.injEq, Addr.mk.injEq, and_true] at h1
        exact h1.1.symm
      rw [Below.heap_setCell _ _ _ _ (by show g ≠ W.heap.size + 2; omega)]; exact h3
/-- The pixels, when all are there. -/
theorem Built.cells (h : Built W wr t px m m c d v) : ∀ i, i < m → wr.cell? ⟨W.heap.size + 1, i, none⟩ = some (px (v i)) := by
  intro i hi
  rcases h.own.2 with ⟨h1, _⟩ | ⟨g, cap, cur, h1, h2, h3, h4, h5, h6, h7⟩
  · cases h1
  · have hgp : g = W.heap.size + 1 := by
      simp only [Value.slice.injEq, Option.some.injEq, Addr.mk.injEq, and_true] at h1
      exact h1.1.symm
    subst hgp
    have e1 : wr.cell? ⟨W.heap.size + 1, i, none⟩ = cur[i]? := by unfold World.cell?; simp [h3]
    rw [e1]
    have e2 : (cur.toList.take (m * 1))[i]? = some (px (v i)) := by rw [h7]; simp [hi]
    rw [List.getElem?_take, if_pos (by omega)] at e2
    simpa using e2
end
end Go.Proofs.Ytmklpphdbmpbbaa
