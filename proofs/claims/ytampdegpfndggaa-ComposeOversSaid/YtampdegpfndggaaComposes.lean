/-
  The contract of the law's helper composes.
-/
import Derived.Test.YtampdegpfndggaaStateEq
namespace Go.Proofs.Ytampdegpfndggaa
open Go.RowKit

def ko (x y : Int) (o : Nat) : Int := [x, y, 0, 0, 0, 0, 0, 0, 0].getD o 0
theorem ko_bd {x y : Int} (hx : 0 ≤ x ∧ x ≤ 255) (hy : 0 ≤ y ∧ y ≤ 255) : ∀ o, o < 9 → 0 ≤ ko x y o ∧ ko x y o ≤ 255
  | 0, _ => hx
  | 1, _ => hy
  | 2, _ => show (0 : Int) ≤ 0 ∧ (0 : Int) ≤ 255 by decide
  | 3, _ => show (0 : Int) ≤ 0 ∧ (0 : Int) ≤ 255 by decide
  | 4, _ => show (0 : Int) ≤ 0 ∧ (0 : Int) ≤ 255 by decide
  | 5, _ => show (0 : Int) ≤ 0 ∧ (0 : Int) ≤ 255 by decide
  | 6, _ => show (0 : Int) ≤ 0 ∧ (0 : Int) ≤ 255 by decide
  | 7, _ => show (0 : Int) ≤ 0 ∧ (0 : Int) ≤ 255 by decide
  | 8, _ => show (0 : Int) ≤ 0 ∧ (0 : Int) ≤ 255 by decide
theorem paper_any (w : World) : Calls Try.prog 58 #[] w fun e w' => e = .returned (.agg #[.int .u8 255, .int .u8 0, .int .u8 0, .int .u8 0, .int .u8 0, .int .u8 0, .int .u8 0, .int .u8 0, .int .u8 0]) ∧ Below w.heap.size w w' := by
  go_enter Try.func58, Try.ntmps58
  go_wp2_with fail
  refine bodyPost_ret (by simp [results, Try.results58, go_sem]; try rfl) rfl ?_
  exact ⟨rfl, by (repeat' (with_reducible first | exact Below.refl _ _ | refine past_le ?_ ?_ _ | refine Below.alloc ?_ ?_ _ | refine Below.drew ?_ | refine drewN_le ?_ _ | refine Below.setCell ?_ ?_ _ | refine step_le (by assumption) ?_ ?_ | omega | (simp only []; omega) | (simp only [World.size_alloc]; omega) | (simp only [World.size_setCell]; omega) | (simp only [World.size_drew]; omega) | (simp only [World.size_alloc, World.size_setCell]; omega) | (simp only [World.size_alloc, World.size_drew]; omega) | (simp only [World.size_setCell, World.size_drew]; omega) | (simp only [World.size_alloc, World.size_setCell, World.size_drew]; omega) | (simp only [World.size_alloc, World.size_setCell, World.size_drew, size_drewN]; omega)))⟩
theorem k1_eq : ∀ o, o < 9 → ko 255 100 o = if overE 0 (ko 255 0) (ko 200 0) 128 = 0 then pnt 0 (ko 255 0) (ko 200 0) 128 false o else 0 := by
  intro o ho
  have ho' : o = 0 ∨ o = 1 ∨ o = 2 ∨ o = 3 ∨ o = 4 ∨ o = 5 ∨ o = 6 ∨ o = 7 ∨ o = 8 := by omega
  rcases ho' with rfl | rfl | rfl | rfl | rfl | rfl | rfl | rfl | rfl
  all_goals decide +kernel
theorem Over_k1 (w : World) : Calls Try.prog 19 #[.agg #[.int .u8 255, .int .u8 0, .int .u8 0, .int .u8 0, .int .u8 0, .int .u8 0, .int .u8 0, .int .u8 0, .int .u8 0], .agg #[.int .u8 200, .int .u8 0, .int .u8 0, .int .u8 0, .int .u8 0, .int .u8 0, .int .u8 0, .int .u8 0], .int .u8 128, .int .i64 0, .bool false] w
    fun e w' => e = .returned (.tuple #[.agg #[.int .u8 255, .int .u8 100, .int .u8 0, .int .u8 0, .int .u8 0, .int .u8 0, .int .u8 0, .int .u8 0, .int .u8 0], .int .i64 0]) ∧ Below w.heap.size w w' := by
  have hE : overE 0 (ko 255 0) (ko 200 0) 128 = 0 := by kernel_rfl
  have h := Over_any 0 (ko 255 0) (ko 200 0) (ko 255 100) 128 false w (ko_bd (by omega) (by omega)) (fun o ho => ko_bd (x := 200) (y := 0) (by omega) (by omega) o (by omega)) (by omega) k1_eq
  rw [hE] at h
  exact h
theorem k2_eq : ∀ o, o < 9 → ko 255 150 o = if overE 0 (ko 255 100) (ko 200 0) 128 = 0 then pnt 0 (ko 255 100) (ko 200 0) 128 false o else 0 := by
  intro o ho
  have ho' : o = 0 ∨ o = 1 ∨ o = 2 ∨ o = 3 ∨ o = 4 ∨ o = 5 ∨ o = 6 ∨ o = 7 ∨ o = 8 := by omega
  rcases ho' with rfl | rfl | rfl | rfl | rfl | rfl | rfl | rfl | rfl
  all_goals decide +kernel
theorem Over_k2 (w : World) : Calls Try.prog 19 #[.agg #[.int .u8 255, .int .u8 100, .int .u8 0, .int .u8 0, .int .u8 0, .int .u8 0, .int .u8 0, .int .u8 0, .int .u8 0], .agg #[.int .u8 200, .int .u8 0, .int .u8 0, .int .u8 0, .int .u8 0, .int .u8 0, .int .u8 0, .int .u8 0], .int .u8 128, .int .i64 0, .bool false] w
    fun e w' => e = .returned (.tuple #[.agg #[.int .u8 255, .int .u8 150, .int .u8 0, .int .u8 0, .int .u8 0, .int .u8 0, .int .u8 0, .int .u8 0, .int .u8 0], .int .i64 0]) ∧ Below w.heap.size w w' := by
  have hE : overE 0 (ko 255 100) (ko 200 0) 128 = 0 := by kernel_rfl
  have h := Over_any 0 (ko 255 100) (ko 200 0) (ko 255 150) 128 false w (ko_bd (by omega) (by omega)) (fun o ho => ko_bd (x := 200) (y := 0) (by omega) (by omega) o (by omega)) (by omega) k2_eq
  rw [hE] at h
  exact h
set_option maxRecDepth 20000 in
set_option maxHeartbeats 4000000 in
theorem composes_any (w : World) : Calls Try.prog 18 #[] w fun e w' => e = .returned (.bool true) ∧ Below w.heap.size w w' := by
  go_enter Try.func18, Try.ntmps18
  go_wp2_with fail
  refine (paper_any _).mono ?_
  rintro e w1 ⟨rfl, hb1⟩
  have B1 : Hid _ := hb1
  clear hb1
  go_wp2_with fail
  refine (Over_k1 _).mono ?_
  rintro e w2 ⟨rfl, hb2⟩
  have B2 : Hid (Below w.heap.size w w2) := show Below w.heap.size w w2 from step_le hb2 B1.out B1.out.size
  clear hb2 B1
  go_wp2_with fail
  refine (Over_k2 _).mono ?_
  rintro e w3 ⟨rfl, hb3⟩
  obtain ⟨hc3, hf3, hz3⟩ := bcell hb3
  simp only [World.size_alloc] at hc3 hf3 hz3
  have B3 : Hid (Below w.heap.size w w3) := show Below w.heap.size w w3 from step_le hb3 (B2.out.alloc B2.out.size _) (by simp only [World.size_alloc]; have := B2.out.size; omega)
  clear hb3 B2
  go_wp2_with fail
  go_ret
  exact ⟨rfl, B3.out.alloc B3.out.size _⟩
end Go.Proofs.Ytampdegpfndggaa
