/-
  The contract of the law's helper known.
-/
import Derived.Test.YtmklpphdbmpbbaaTurn
namespace Go.Proofs.Ytmklpphdbmpbbaa
open Go.RowKit

def kpix (i : Nat) : Int := (i : Int) + 1
def kres (i : Nat) : Int := [4, 1, 5, 2, 6, 3].getD i 0
theorem new6 {w : World} {b : Nat} {x0 x1 x2 x3 x4 x5 : Int} (h : ∀ o, w.cell? ⟨b, o, none⟩ = #[Value.int .u8 x0, .int .u8 x1, .int .u8 x2, .int .u8 x3, .int .u8 x4, .int .u8 x5][o]?) :
    ∀ i, i < 6 → w.cell? ⟨b, 0 + i, none⟩ = some (.int .u8 ([x0, x1, x2, x3, x4, x5].getD i 0)) := by
  intro i hi
  rw [Nat.zero_add, h]
  match i, hi with
  | 0, _ => rfl
  | 1, _ => rfl
  | 2, _ => rfl
  | 3, _ => rfl
  | 4, _ => rfl
  | 5, _ => rfl
theorem new6z {w : World} {b : Nat} {x0 x1 x2 x3 x4 x5 : Int} (h : ∀ o, w.cell? ⟨b, o, none⟩ = #[Value.int .u8 x0, .int .u8 x1, .int .u8 x2, .int .u8 x3, .int .u8 x4, .int .u8 x5][o]?) (i : Nat) (hi : i < 6) :
    w.cell? ⟨b, i, none⟩ = some (.int .u8 ([x0, x1, x2, x3, x4, x5].getD i 0)) := by
  have := new6 h i hi
  rwa [Nat.zero_add] at this
set_option maxRecDepth 20000 in
set_option maxHeartbeats 2000000 in
theorem Turn_known (b : Nat) (w : World) (h : ∀ o, w.cell? ⟨b, o, none⟩ = #[Value.int .u8 1, .int .u8 2, .int .u8 3, .int .u8 4, .int .u8 5, .int .u8 6][o]?) (hlt : b < w.heap.size) :
    Calls Try.prog 29 #[.agg #[.int .i64 3, .int .i64 2, .slice (some ⟨b, 0, none⟩) 6 6], .int .i64 1] w fun e w' => ∃ A, e = .returned (.tuple #[.agg #[.int .i64 2, .int .i64 3, .slice A 6 6], .int .i64 0]) ∧ Below w.heap.size w w' ∧ BytesAt w' A 6 kres := by
  have hT := Turn_1 1 3 2 6 b 0 (fun i => [1, 2, 3, 4, 5, 6].getD i 0) w (by omega) (by omega) (by rfl) hlt (fun i hi => new6 h i hi) (fun i hi => by
    match i, hi with
    | 0, _ => decide
    | 1, _ => decide
    | 2, _ => decide
    | 3, _ => decide
    | 4, _ => decide
    | 5, _ => decide)
  refine hT.mono ?_
  rintro e w' ⟨A, he, hb, hA⟩
  refine ⟨A, he, hb, fun h6 => ?_⟩
  obtain ⟨b', off, h1, h2, h3⟩ := hA (by decide)
  refine ⟨b', off, h1, h2, fun i hi => ?_⟩
  rw [h3 i hi]
  match i, hi with
  | 0, _ => rfl
  | 1, _ => rfl
  | 2, _ => rfl
  | 3, _ => rfl
  | 4, _ => rfl
  | 5, _ => rfl
set_option maxRecDepth 20000 in
set_option maxHeartbeats 2000000 in
theorem known_any (w : World) : Calls Try.prog 15 #[] w fun e w' => e = .returned (.bool true) ∧ Below w.heap.size w w' := by
  have hs : sameB 6 6 kres kres = true := by decide
  go_enter Try.func15, Try.ntmps15
  go_wp2_with fail
  refine (Turn_known w.heap.size _ (fun o => by simp [go_sem]) (by simp)).mono ?_
  rintro e w1 ⟨A, rfl, hb1, hA⟩
  have hA' : Hid _ := hA
  clear hA
  obtain ⟨hc1, hf1, hz1⟩ := bcell hb1
  simp only [World.size_alloc] at hc1 hf1 hz1
  go_wp2_with fail
  refine (SameBytes_any A _ 6 6 6 6 kres kres _ (by omega) (by omega) (BytesAt.below hA'.out ?_) (bytes_of_cells0 fun i hi => ?_)).mono ?_
  · (repeat' (with_reducible first | exact Below.refl _ _ | refine past_le ?_ ?_ _ | refine Below.alloc ?_ ?_ _ | refine Below.drew ?_ | refine drewN_le ?_ _ | refine Below.setCell ?_ ?_ _ | refine step_le (by assumption) ?_ ?_ | omega | (simp only []; omega) | (simp only [World.size_alloc]; omega) | (simp only [World.size_setCell]; omega) | (simp only [World.size_drew]; omega) | (simp only [World.size_alloc, World.size_setCell]; omega) | (simp only [World.size_alloc, World.size_drew]; omega) | (simp only [World.size_setCell, World.size_drew]; omega) | (simp only [World.size_alloc, World.size_setCell, World.size_drew]; omega) | (simp only [World.size_alloc, World.size_setCell, World.size_drew, size_drewN]; omega)))
  · refine new6z (x0 := 4) (x1 := 1) (x2 := 5) (x3 := 2) (x4 := 6) (x5 := 3) (fun o => ?_) i hi
    simp [go_sem]
  rw [hs]
  rintro e w2 ⟨rfl, hb2⟩
  go_wp2_with fail
  go_ret
  exact ⟨rfl, by (repeat' (with_reducible first | exact Below.refl _ _ | refine past_le ?_ ?_ _ | refine Below.alloc ?_ ?_ _ | refine Below.drew ?_ | refine drewN_le ?_ _ | refine Below.setCell ?_ ?_ _ | refine step_le (by assumption) ?_ ?_ | omega | (simp only []; omega) | (simp only [World.size_alloc]; omega) | (simp only [World.size_setCell]; omega) | (simp only [World.size_drew]; omega) | (simp only [World.size_alloc, World.size_setCell]; omega) | (simp only [World.size_alloc, World.size_drew]; omega) | (simp only [World.size_setCell, World.size_drew]; omega) | (simp only [World.size_alloc, World.size_setCell, World.size_drew]; omega) | (simp only [World.size_alloc, World.size_setCell, World.size_drew, size_drewN]; omega)))⟩
end Go.Proofs.Ytmklpphdbmpbbaa
