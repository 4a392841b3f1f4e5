/-
  Merged: XGrad, XAffine.
-/
import Derived.Test.YtampdegpfndggaaMrg21
import Derived.Test.YtampdegpfndggaaMrg9
import Derived.Test.YtampdegpfndggaaMrg17
import Derived.Test.YtampdegpfndggaaMrg3
import Derived.Test.YtampdegpfndggaaMrg6
import Derived.Test.YtampdegpfndggaaMrg5
namespace Go.Proofs.Ytampdegpfndggaa
open Go.RowKit

def coG (x : Int) : Bool := inB x (-32767) 32767
theorem coG_yes {x : Int} (h : -32767 ≤ x ∧ x ≤ 32767) : coG x = true := inB_iff.2 h
theorem coG_no {x : Int} (h : ¬(-32767 ≤ x ∧ x ≤ 32767)) : coG x = false := by
  cases hc : coG x
  · rfl
  · exact absurd (inB_iff.1 hc) h
set_option maxHeartbeats 400000 in
theorem gwithin_list (b n : Nat) (zs : List Int) (w : World) (hn : zs.length = n) (hl : n ≤ 1000) (hc : ∀ j, (h : j < n) → w.cell? ⟨b, j, none⟩ = some (.int .i64 (zs[j]))) :
    Calls Try.prog 102 #[.slice (some ⟨b, 0, none⟩) n n] w fun e w' => e = .returned (.bool (zs.all coG)) ∧ w = w' := by
  go_enter Try.func102, Try.ntmps102
  go_wp2
  go_loop [7] (fun i => ∃ k : Nat, k ≤ n ∧ i = .int .i64 k ∧ (zs.take k).all coG = true) (fun i => n - (intOf i).toNat)
  case atStart => exact ⟨0, Nat.zero_le _, rfl, rfl⟩
  case round =>
    obtain ⟨k, hk, rfl, hall⟩ := hrel
    by_cases hlt : k < n
    · have hck := hc k hlt
      have hlt' : k < zs.length := by omega
      have HS : Hid _ := all_take_succ coG zs k hlt'
      have hA : Hid _ := hall
      clear hall
      by_cases hx : -32767 ≤ zs[k] ∧ zs[k] ≤ 32767
      · go_wp2
        go_round
        case rel => exact ⟨k + 1, by omega, by go_num, by rw [HS.out, hA.out, coG_yes hx]; rfl⟩
        case measure => simp [intOf]; omega
      · by_cases h1 : zs[k] < -32767
        all_goals
          go_wp2
          go_ret
          refine ⟨ret_bool ?_, rfl⟩
          symm
          rw [List.all_eq_false]
          exact ⟨zs[k], List.getElem_mem _, by rw [coG_no hx]; simp⟩
    · go_wp2
      go_ret
      rw [List.take_of_length_le (by omega)] at hall
      exact ⟨by rw [hall]; rfl, rfl⟩
theorem gwithin_any (a b c d : Int) (w : World) (B : Nat) (h : ∀ o, w.cell? ⟨B, o, none⟩ = #[.int .i64 a, .int .i64 b, .int .i64 c, .int .i64 d][o]?) :
    Calls Try.prog 102 #[.slice (some ⟨B, 0, none⟩) 4 4] w fun e w' => e = .returned (.bool (ptB a b && ptB c d)) ∧ w = w' :=
  (gwithin_list B 4 [a, b, c, d] w rfl (by omega) (fun j hj => by
    rw [h]
    match j, hj with
    | 0, _ => rfl
    | 1, _ => rfl
    | 2, _ => rfl
    | 3, _ => rfl)).mono fun e w' ⟨h, hw⟩ => ⟨by rw [h]; simp [ptB, coG, Bool.and_assoc], hw⟩
def inkZ (i0 i1 i2 i3 i4 i5 i6 i7 : Int) : Bool := i0 == 0 && i1 == 0 && i2 == 0 && i3 == 0 && i4 == 0 && i5 == 0 && i6 == 0 && i7 == 0
/-- The error of a gradient: its kind, whether the rest is zero, its points, its radius, the error of its stops. -/
def gradE (k : Int) (z : Bool) (fx fy tx ty r st : Int) : Int :=
  if k = 1 then (if z = false then 4 else if r ≠ 0 then 4 else if ptB fx fy = false ∨ ptB tx ty = false then 3 else if fx = tx ∧ fy = ty then 1 else st)
  else if k = 2 then (if z = false then 4 else if tx ≠ 0 ∨ ty ≠ 0 then 4 else if ptB fx fy = false ∨ r < 1 ∨ 32767 < r then 3 else st)
  else 14
set_option maxRecDepth 20000 in
set_option maxHeartbeats 8000000 in
theorem GCheck_1 (i0 i1 i2 i3 i4 i5 i6 i7 fx fy tx ty r : Int) (A : Option Addr) (n cap : Nat) (g : Nat → Nat → Value) (W H : Int) (B C : Option Addr) (pn pc sn sc : Nat) (a b c d e f : Int) (s t : Bool) (w : World) (hn : n ≤ cap ∧ cap ≤ 9223372036854775807) (h : SliceG Try.prog w 110 A n g) :
    Calls Try.prog 65 #[.agg #[.int .i64 1, .int .u8 i0, .int .u8 i1, .int .u8 i2, .int .u8 i3, .int .u8 i4, .int .u8 i5, .int .u8 i6, .int .u8 i7, .int .i64 fx, .int .i64 fy, .int .i64 tx, .int .i64 ty, .int .i64 r, .slice A n cap, .int .i64 W, .int .i64 H, .slice B pn pc, .slice C sn sc, .int .i64 a, .int .i64 b, .int .i64 c, .int .i64 d, .int .i64 e, .int .i64 f, .bool s, .bool t]] w fun e' w' => e' = .returned (.int .i64 (gradE 1 (inkZ i0 i1 i2 i3 i4 i5 i6 i7 && plainB W H pn sn a b c d e f s t) fx fy tx ty r (stopsE (fun x => valI (g x 0)) n))) ∧ Below w.heap.size w w' := by
  have hS : Hid _ := h
  clear h
  have hst : Hid _ := fun w' hb => CheckStops_any A n cap g w' hn (SliceG.below hS.out hb)
  have h00 : Hid (ptB 0 0 = true) := rfl
  generalize stopsE (fun x => valI (g x 0)) n = st at *
  go_enter Try.func65, Try.ntmps65
  go_wp2_with (first | (go_at_call 101; refine (plain_any _ _ _ _ _ _ _ _ _ _ _ _ _ _ _ _ _).mono ?_; rintro e' w' ⟨rfl, hb⟩; obtain ⟨hc9, hf9, hz9⟩ := bcell hb; try simp only [World.size_alloc] at hz9 hc9 hf9) | (go_at_call 102; refine (gwithin_any fx fy tx ty _ _ (by intro o; simp [go_sem])).mono ?_; rintro e' w' ⟨rfl, rfl⟩) | (go_at_call 63; refine (hst.out _ (by (repeat' (with_reducible first | exact Below.refl _ _ | refine past_le ?_ ?_ _ | refine Below.alloc ?_ ?_ _ | refine Below.drew ?_ | refine drewN_le ?_ _ | refine Below.setCell ?_ ?_ _ | refine step_le (by assumption) ?_ ?_ | omega | (simp only []; omega) | (simp only [World.size_alloc]; omega) | (simp only [World.size_setCell]; omega) | (simp only [World.size_drew]; omega) | (simp only [World.size_alloc, World.size_setCell]; omega) | (simp only [World.size_alloc, World.size_drew]; omega) | (simp only [World.size_setCell, World.size_drew]; omega) | (simp only [World.size_alloc, World.size_setCell, World.size_drew]; omega) | (simp only [World.size_alloc, World.size_setCell, World.size_drew, size_drewN]; omega))))).mono ?_; rintro e' w' ⟨rfl, hb⟩))
  all_goals go_ret
  all_goals exact ⟨ret_int (by have h01 := h00.out; clear hst hS; simp_all [gradE, inkZ, inB]; try omega), by (repeat' (with_reducible first | exact Below.refl _ _ | refine past_le ?_ ?_ _ | refine Below.alloc ?_ ?_ _ | refine Below.drew ?_ | refine drewN_le ?_ _ | refine Below.setCell ?_ ?_ _ | refine step_le (by assumption) ?_ ?_ | omega | (simp only []; omega) | (simp only [World.size_alloc]; omega) | (simp only [World.size_setCell]; omega) | (simp only [World.size_drew]; omega) | (simp only [World.size_alloc, World.size_setCell]; omega) | (simp only [World.size_alloc, World.size_drew]; omega) | (simp only [World.size_setCell, World.size_drew]; omega) | (simp only [World.size_alloc, World.size_setCell, World.size_drew]; omega) | (simp only [World.size_alloc, World.size_setCell, World.size_drew, size_drewN]; omega)))⟩
set_option maxRecDepth 20000 in
set_option maxHeartbeats 8000000 in
theorem GCheck_2 (i0 i1 i2 i3 i4 i5 i6 i7 fx fy tx ty r : Int) (A : Option Addr) (n cap : Nat) (g : Nat → Nat → Value) (W H : Int) (B C : Option Addr) (pn pc sn sc : Nat) (a b c d e f : Int) (s t : Bool) (w : World) (hn : n ≤ cap ∧ cap ≤ 9223372036854775807) (h : SliceG Try.prog w 110 A n g) :
    Calls Try.prog 65 #[.agg #[.int .i64 2, .int .u8 i0, .int .u8 i1, .int .u8 i2, .int .u8 i3, .int .u8 i4, .int .u8 i5, .int .u8 i6, .int .u8 i7, .int .i64 fx, .int .i64 fy, .int .i64 tx, .int .i64 ty, .int .i64 r, .slice A n cap, .int .i64 W, .int .i64 H, .slice B pn pc, .slice C sn sc, .int .i64 a, .int .i64 b, .int .i64 c, .int .i64 d, .int .i64 e, .int .i64 f, .bool s, .bool t]] w fun e' w' => e' = .returned (.int .i64 (gradE 2 (inkZ i0 i1 i2 i3 i4 i5 i6 i7 && plainB W H pn sn a b c d e f s t) fx fy tx ty r (stopsE (fun x => valI (g x 0)) n))) ∧ Below w.heap.size w w' := by
  have hS : Hid _ := h
  clear h
  have hst : Hid _ := fun w' hb => CheckStops_any A n cap g w' hn (SliceG.below hS.out hb)
  have h00 : Hid (ptB 0 0 = true) := rfl
  generalize stopsE (fun x => valI (g x 0)) n = st at *
  go_enter Try.func65, Try.ntmps65
  go_wp2_with (first | (go_at_call 101; refine (plain_any _ _ _ _ _ _ _ _ _ _ _ _ _ _ _ _ _).mono ?_; rintro e' w' ⟨rfl, hb⟩; obtain ⟨hc9, hf9, hz9⟩ := bcell hb; try simp only [World.size_alloc] at hz9 hc9 hf9) | (go_at_call 102; refine (gwithin_any fx fy 0 0 _ _ (by intro o; simp [go_sem])).mono ?_; rintro e' w' ⟨rfl, rfl⟩) | (go_at_call 63; refine (hst.out _ (by (repeat' (with_reducible first | exact Below.refl _ _ | refine past_le ?_ ?_ _ | refine Below.alloc ?_ ?_ _ | refine Below.drew ?_ | refine drewN_le ?_ _ | refine Below.setCell ?_ ?_ _ | refine step_le (by assumption) ?_ ?_ | omega | (simp only []; omega) | (simp only [World.size_alloc]; omega) | (simp only [World.size_setCell]; omega) | (simp only [World.size_drew]; omega) | (simp only [World.size_alloc, World.size_setCell]; omega) | (simp only [World.size_alloc, World.size_drew]; omega) | (simp only [World.size_setCell, World.size_drew]; omega) | (simp only [World.size_alloc, World.size_setCell, World.size_drew]; omega) | (simp only [World.size_alloc, World.size_setCell, World.size_drew, size_drewN]; omega))))).mono ?_; rintro e' w' ⟨rfl, hb⟩))
  all_goals go_ret
  all_goals exact ⟨ret_int (by have h01 := h00.out; clear hst hS; simp_all [gradE, inkZ, inB]; try omega), by (repeat' (with_reducible first | exact Below.refl _ _ | refine past_le ?_ ?_ _ | refine Below.alloc ?_ ?_ _ | refine Below.drew ?_ | refine drewN_le ?_ _ | refine Below.setCell ?_ ?_ _ | refine step_le (by assumption) ?_ ?_ | omega | (simp only []; omega) | (simp only [World.size_alloc]; omega) | (simp only [World.size_setCell]; omega) | (simp only [World.size_drew]; omega) | (simp only [World.size_alloc, World.size_setCell]; omega) | (simp only [World.size_alloc, World.size_drew]; omega) | (simp only [World.size_setCell, World.size_drew]; omega) | (simp only [World.size_alloc, World.size_setCell, World.size_drew]; omega) | (simp only [World.size_alloc, World.size_setCell, World.size_drew, size_drewN]; omega)))⟩
set_option maxRecDepth 20000 in
set_option maxHeartbeats 8000000 in
theorem GCheck_k (k : Int) (i0 i1 i2 i3 i4 i5 i6 i7 fx fy tx ty r : Int) (A : Option Addr) (n cap : Nat) (g : Nat → Nat → Value) (W H : Int) (B C : Option Addr) (pn pc sn sc : Nat) (a b c d e f : Int) (s t : Bool) (w : World) (hn : n ≤ cap ∧ cap ≤ 9223372036854775807) (h : SliceG Try.prog w 110 A n g) (k1 : k ≠ 1) (k2 : k ≠ 2) :
    Calls Try.prog 65 #[.agg #[.int .i64 k, .int .u8 i0, .int .u8 i1, .int .u8 i2, .int .u8 i3, .int .u8 i4, .int .u8 i5, .int .u8 i6, .int .u8 i7, .int .i64 fx, .int .i64 fy, .int .i64 tx, .int .i64 ty, .int .i64 r, .slice A n cap, .int .i64 W, .int .i64 H, .slice B pn pc, .slice C sn sc, .int .i64 a, .int .i64 b, .int .i64 c, .int .i64 d, .int .i64 e, .int .i64 f, .bool s, .bool t]] w fun e' w' => e' = .returned (.int .i64 (gradE k (inkZ i0 i1 i2 i3 i4 i5 i6 i7 && plainB W H pn sn a b c d e f s t) fx fy tx ty r (stopsE (fun x => valI (g x 0)) n))) ∧ Below w.heap.size w w' := by
  have hS : Hid _ := h
  clear h
  have hst : Hid _ := fun w' hb => CheckStops_any A n cap g w' hn (SliceG.below hS.out hb)
  have h00 : Hid (ptB 0 0 = true) := rfl
  have k1d : (k == 1) = false := by simpa using k1
  have k2d : (k == 2) = false := by simpa using k2
  have k3d : (k != 2) = true := by simpa using k2
  have k4d : (k != 1) = true := by simpa using k1
  generalize stopsE (fun x => valI (g x 0)) n = st at *
  go_enter Try.func65, Try.ntmps65
  go_wp2_with (first | (go_at_call 101; refine (plain_any _ _ _ _ _ _ _ _ _ _ _ _ _ _ _ _ _).mono ?_; rintro e' w' ⟨rfl, hb⟩; obtain ⟨hc9, hf9, hz9⟩ := bcell hb; try simp only [World.size_alloc] at hz9 hc9 hf9) | (go_at_call 102; refine (gwithin_any fx fy tx ty _ _ (by intro o; simp [go_sem])).mono ?_; rintro e' w' ⟨rfl, rfl⟩) | (go_at_call 63; refine (hst.out _ (by (repeat' (with_reducible first | exact Below.refl _ _ | refine past_le ?_ ?_ _ | refine Below.alloc ?_ ?_ _ | refine Below.drew ?_ | refine drewN_le ?_ _ | refine Below.setCell ?_ ?_ _ | refine step_le (by assumption) ?_ ?_ | omega | (simp only []; omega) | (simp only [World.size_alloc]; omega) | (simp only [World.size_setCell]; omega) | (simp only [World.size_drew]; omega) | (simp only [World.size_alloc, World.size_setCell]; omega) | (simp only [World.size_alloc, World.size_drew]; omega) | (simp only [World.size_setCell, World.size_drew]; omega) | (simp only [World.size_alloc, World.size_setCell, World.size_drew]; omega) | (simp only [World.size_alloc, World.size_setCell, World.size_drew, size_drewN]; omega))))).mono ?_; rintro e' w' ⟨rfl, hb⟩))
  all_goals go_ret
  all_goals exact ⟨ret_int (by have h01 := h00.out; clear hst hS; simp_all [gradE, inkZ, inB]; try omega), by (repeat' (with_reducible first | exact Below.refl _ _ | refine past_le ?_ ?_ _ | refine Below.alloc ?_ ?_ _ | refine Below.drew ?_ | refine drewN_le ?_ _ | refine Below.setCell ?_ ?_ _ | refine step_le (by assumption) ?_ ?_ | omega | (simp only []; omega) | (simp only [World.size_alloc]; omega) | (simp only [World.size_setCell]; omega) | (simp only [World.size_drew]; omega) | (simp only [World.size_alloc, World.size_setCell]; omega) | (simp only [World.size_alloc, World.size_drew]; omega) | (simp only [World.size_setCell, World.size_drew]; omega) | (simp only [World.size_alloc, World.size_setCell, World.size_drew]; omega) | (simp only [World.size_alloc, World.size_setCell, World.size_drew, size_drewN]; omega)))⟩
theorem GCheck_any (k : Int) (i0 i1 i2 i3 i4 i5 i6 i7 fx fy tx ty r : Int) (A : Option Addr) (n cap : Nat) (g : Nat → Nat → Value) (W H : Int) (B C : Option Addr) (pn pc sn sc : Nat) (a b c d e f : Int) (s t : Bool) (w : World) (hn : n ≤ cap ∧ cap ≤ 9223372036854775807) (h : SliceG Try.prog w 110 A n g) :
    Calls Try.prog 65 #[.agg #[.int .i64 k, .int .u8 i0, .int .u8 i1, .int .u8 i2, .int .u8 i3, .int .u8 i4, .int .u8 i5, .int .u8 i6, .int .u8 i7, .int .i64 fx, .int .i64 fy, .int .i64 tx, .int .i64 ty, .int .i64 r, .slice A n cap, .int .i64 W, .int .i64 H, .slice B pn pc, .slice C sn sc, .int .i64 a, .int .i64 b, .int .i64 c, .int .i64 d, .int .i64 e, .int .i64 f, .bool s, .bool t]] w fun e' w' => e' = .returned (.int .i64 (gradE k (inkZ i0 i1 i2 i3 i4 i5 i6 i7 && plainB W H pn sn a b c d e f s t) fx fy tx ty r (stopsE (fun x => valI (g x 0)) n))) ∧ Below w.heap.size w w' := by
  by_cases k1 : k = 1
  · subst k1; exact GCheck_1 i0 i1 i2 i3 i4 i5 i6 i7 fx fy tx ty r A n cap g W H B C pn pc sn sc a b c d e f s t w hn h
  by_cases k2 : k = 2
  · subst k2; exact GCheck_2 i0 i1 i2 i3 i4 i5 i6 i7 fx fy tx ty r A n cap g W H B C pn pc sn sc a b c d e f s t w hn h
  exact GCheck_k k i0 i1 i2 i3 i4 i5 i6 i7 fx fy tx ty r A n cap g W H B C pn pc sn sc a b c d e f s t w hn h k1 k2
set_option maxRecDepth 20000 in
set_option maxHeartbeats 8000000 in
theorem RGCheck_1 (i0 i1 i2 i3 i4 i5 i6 i7 fx fy tx ty r : Int) (A : Option Addr) (n cap : Nat) (g : Nat → Nat → Value) (W H : Int) (B C : Option Addr) (pn pc sn sc : Nat) (a b c d e f : Int) (s t : Bool) (w : World) (hn : n ≤ cap ∧ cap ≤ 9223372036854775807) (h : SliceG Try.prog w 110 A n g) :
    Calls Try.prog 31 #[.agg #[.int .i64 1, .int .u8 i0, .int .u8 i1, .int .u8 i2, .int .u8 i3, .int .u8 i4, .int .u8 i5, .int .u8 i6, .int .u8 i7, .int .i64 fx, .int .i64 fy, .int .i64 tx, .int .i64 ty, .int .i64 r, .slice A n cap, .int .i64 W, .int .i64 H, .slice B pn pc, .slice C sn sc, .int .i64 a, .int .i64 b, .int .i64 c, .int .i64 d, .int .i64 e, .int .i64 f, .bool s, .bool t]] w fun e' w' => e' = .returned (.int .i64 (gradE 1 (inkZ i0 i1 i2 i3 i4 i5 i6 i7 && plainB W H pn sn a b c d e f s t) fx fy tx ty r (stopsE (fun x => valI (g x 0)) n))) ∧ Below w.heap.size w w' := by
  have hS : Hid _ := h
  clear h
  have hst : Hid _ := fun w' hb => StopsCheck_any A n cap g w' hn (SliceG.below hS.out hb)
  have h00 : Hid (ptB 0 0 = true) := rfl
  generalize stopsE (fun x => valI (g x 0)) n = st at *
  go_enter Try.func31, Try.ntmps31
  go_wp2_with (first | (go_at_call 67; refine (plainImage_any _ _ _ _ _ _ _ _ _ _ _ _ _ _ _ _ _).mono ?_; rintro e' w' ⟨rfl, hb⟩; obtain ⟨hc9, hf9, hz9⟩ := bcell hb; try simp only [World.size_alloc] at hz9 hc9 hf9) | (go_at_call 16; refine (In_any _ _ _ _).mono ?_; rintro e w' ⟨rfl, rfl⟩) | (go_at_call 49; refine (Coord_any _ _ _).mono ?_; rintro e w' ⟨rfl, rfl⟩) | (go_at_call 27; refine (hst.out _ (by (repeat' (with_reducible first | exact Below.refl _ _ | refine past_le ?_ ?_ _ | refine Below.alloc ?_ ?_ _ | refine Below.drew ?_ | refine drewN_le ?_ _ | refine Below.setCell ?_ ?_ _ | refine step_le (by assumption) ?_ ?_ | omega | (simp only []; omega) | (simp only [World.size_alloc]; omega) | (simp only [World.size_setCell]; omega) | (simp only [World.size_drew]; omega) | (simp only [World.size_alloc, World.size_setCell]; omega) | (simp only [World.size_alloc, World.size_drew]; omega) | (simp only [World.size_setCell, World.size_drew]; omega) | (simp only [World.size_alloc, World.size_setCell, World.size_drew]; omega) | (simp only [World.size_alloc, World.size_setCell, World.size_drew, size_drewN]; omega))))).mono ?_; rintro e' w' ⟨rfl, hb⟩))
  all_goals go_ret
  all_goals exact ⟨ret_int (by have h01 := h00.out; clear hst hS; simp_all [gradE, inkZ, inB]; try omega), by (repeat' (with_reducible first | exact Below.refl _ _ | refine past_le ?_ ?_ _ | refine Below.alloc ?_ ?_ _ | refine Below.drew ?_ | refine drewN_le ?_ _ | refine Below.setCell ?_ ?_ _ | refine step_le (by assumption) ?_ ?_ | omega | (simp only []; omega) | (simp only [World.size_alloc]; omega) | (simp only [World.size_setCell]; omega) | (simp only [World.size_drew]; omega) | (simp only [World.size_alloc, World.size_setCell]; omega) | (simp only [World.size_alloc, World.size_drew]; omega) | (simp only [World.size_setCell, World.size_drew]; omega) | (simp only [World.size_alloc, World.size_setCell, World.size_drew]; omega) | (simp only [World.size_alloc, World.size_setCell, World.size_drew, size_drewN]; omega)))⟩
set_option maxRecDepth 20000 in
set_option maxHeartbeats 8000000 in
theorem RGCheck_2 (i0 i1 i2 i3 i4 i5 i6 i7 fx fy tx ty r : Int) (A : Option Addr) (n cap : Nat) (g : Nat → Nat → Value) (W H : Int) (B C : Option Addr) (pn pc sn sc : Nat) (a b c d e f : Int) (s t : Bool) (w : World) (hn : n ≤ cap ∧ cap ≤ 9223372036854775807) (h : SliceG Try.prog w 110 A n g) :
    Calls Try.prog 31 #[.agg #[.int .i64 2, .int .u8 i0, .int .u8 i1, .int .u8 i2, .int .u8 i3, .int .u8 i4, .int .u8 i5, .int .u8 i6, .int .u8 i7, .int .i64 fx, .int .i64 fy, .int .i64 tx, .int .i64 ty, .int .i64 r, .slice A n cap, .int .i64 W, .int .i64 H, .slice B pn pc, .slice C sn sc, .int .i64 a, .int .i64 b, .int .i64 c, .int .i64 d, .int .i64 e, .int .i64 f, .bool s, .bool t]] w fun e' w' => e' = .returned (.int .i64 (gradE 2 (inkZ i0 i1 i2 i3 i4 i5 i6 i7 && plainB W H pn sn a b c d e f s t) fx fy tx ty r (stopsE (fun x => valI (g x 0)) n))) ∧ Below w.heap.size w w' := by
  have hS : Hid _ := h
  clear h
  have hst : Hid _ := fun w' hb => StopsCheck_any A n cap g w' hn (SliceG.below hS.out hb)
  have h00 : Hid (ptB 0 0 = true) := rfl
  generalize stopsE (fun x => valI (g x 0)) n = st at *
  go_enter Try.func31, Try.ntmps31
  go_wp2_with (first | (go_at_call 67; refine (plainImage_any _ _ _ _ _ _ _ _ _ _ _ _ _ _ _ _ _).mono ?_; rintro e' w' ⟨rfl, hb⟩; obtain ⟨hc9, hf9, hz9⟩ := bcell hb; try simp only [World.size_alloc] at hz9 hc9 hf9) | (go_at_call 16; refine (In_any _ _ _ _).mono ?_; rintro e w' ⟨rfl, rfl⟩) | (go_at_call 49; refine (Coord_any _ _ _).mono ?_; rintro e w' ⟨rfl, rfl⟩) | (go_at_call 27; refine (hst.out _ (by (repeat' (with_reducible first | exact Below.refl _ _ | refine past_le ?_ ?_ _ | refine Below.alloc ?_ ?_ _ | refine Below.drew ?_ | refine drewN_le ?_ _ | refine Below.setCell ?_ ?_ _ | refine step_le (by assumption) ?_ ?_ | omega | (simp only []; omega) | (simp only [World.size_alloc]; omega) | (simp only [World.size_setCell]; omega) | (simp only [World.size_drew]; omega) | (simp only [World.size_alloc, World.size_setCell]; omega) | (simp only [World.size_alloc, World.size_drew]; omega) | (simp only [World.size_setCell, World.size_drew]; omega) | (simp only [World.size_alloc, World.size_setCell, World.size_drew]; omega) | (simp only [World.size_alloc, World.size_setCell, World.size_drew, size_drewN]; omega))))).mono ?_; rintro e' w' ⟨rfl, hb⟩))
  all_goals go_ret
  all_goals exact ⟨ret_int (by have h01 := h00.out; clear hst hS; simp_all [gradE, inkZ, inB]; try omega), by (repeat' (with_reducible first | exact Below.refl _ _ | refine past_le ?_ ?_ _ | refine Below.alloc ?_ ?_ _ | refine Below.drew ?_ | refine drewN_le ?_ _ | refine Below.setCell ?_ ?_ _ | refine step_le (by assumption) ?_ ?_ | omega | (simp only []; omega) | (simp only [World.size_alloc]; omega) | (simp only [World.size_setCell]; omega) | (simp only [World.size_drew]; omega) | (simp only [World.size_alloc, World.size_setCell]; omega) | (simp only [World.size_alloc, World.size_drew]; omega) | (simp only [World.size_setCell, World.size_drew]; omega) | (simp only [World.size_alloc, World.size_setCell, World.size_drew]; omega) | (simp only [World.size_alloc, World.size_setCell, World.size_drew, size_drewN]; omega)))⟩
set_option maxRecDepth 20000 in
set_option maxHeartbeats 8000000 in
theorem RGCheck_k (k : Int) (i0 i1 i2 i3 i4 i5 i6 i7 fx fy tx ty r : Int) (A : Option Addr) (n cap : Nat) (g : Nat → Nat → Value) (W H : Int) (B C : Option Addr) (pn pc sn sc : Nat) (a b c d e f : Int) (s t : Bool) (w : World) (hn : n ≤ cap ∧ cap ≤ 9223372036854775807) (h : SliceG Try.prog w 110 A n g) (k1 : k ≠ 1) (k2 : k ≠ 2) :
    Calls Try.prog 31 #[.agg #[.int .i64 k, .int .u8 i0, .int .u8 i1, .int .u8 i2, .int .u8 i3, .int .u8 i4, .int .u8 i5, .int .u8 i6, .int .u8 i7, .int .i64 fx, .int .i64 fy, .int .i64 tx, .int .i64 ty, .int .i64 r, .slice A n cap, .int .i64 W, .int .i64 H, .slice B pn pc, .slice C sn sc, .int .i64 a, .int .i64 b, .int .i64 c, .int .i64 d, .int .i64 e, .int .i64 f, .bool s, .bool t]] w fun e' w' => e' = .returned (.int .i64 (gradE k (inkZ i0 i1 i2 i3 i4 i5 i6 i7 && plainB W H pn sn a b c d e f s t) fx fy tx ty r (stopsE (fun x => valI (g x 0)) n))) ∧ Below w.heap.size w w' := by
  have hS : Hid _ := h
  clear h
  have hst : Hid _ := fun w' hb => StopsCheck_any A n cap g w' hn (SliceG.below hS.out hb)
  have h00 : Hid (ptB 0 0 = true) := rfl
  have k1d : (k == 1) = false := by simpa using k1
  have k2d : (k == 2) = false := by simpa using k2
  have k3d : (k != 2) = true := by simpa using k2
  have k4d : (k != 1) = true := by simpa using k1
  generalize stopsE (fun x => valI (g x 0)) n = st at *
  go_enter Try.func31, Try.ntmps31
  go_wp2_with (first | (go_at_call 67; refine (plainImage_any _ _ _ _ _ _ _ _ _ _ _ _ _ _ _ _ _).mono ?_; rintro e' w' ⟨rfl, hb⟩; obtain ⟨hc9, hf9, hz9⟩ := bcell hb; try simp only [World.size_alloc] at hz9 hc9 hf9) | (go_at_call 16; refine (In_any _ _ _ _).mono ?_; rintro e w' ⟨rfl, rfl⟩) | (go_at_call 49; refine (Coord_any _ _ _).mono ?_; rintro e w' ⟨rfl, rfl⟩) | (go_at_call 27; refine (hst.out _ (by (repeat' (with_reducible first | exact Below.refl _ _ | refine past_le ?_ ?_ _ | refine Below.alloc ?_ ?_ _ | refine Below.drew ?_ | refine drewN_le ?_ _ | refine Below.setCell ?_ ?_ _ | refine step_le (by assumption) ?_ ?_ | omega | (simp only []; omega) | (simp only [World.size_alloc]; omega) | (simp only [World.size_setCell]; omega) | (simp only [World.size_drew]; omega) | (simp only [World.size_alloc, World.size_setCell]; omega) | (simp only [World.size_alloc, World.size_drew]; omega) | (simp only [World.size_setCell, World.size_drew]; omega) | (simp only [World.size_alloc, World.size_setCell, World.size_drew]; omega) | (simp only [World.size_alloc, World.size_setCell, World.size_drew, size_drewN]; omega))))).mono ?_; rintro e' w' ⟨rfl, hb⟩))
  all_goals go_ret
  all_goals exact ⟨ret_int (by have h01 := h00.out; clear hst hS; simp_all [gradE, inkZ, inB]; try omega), by (repeat' (with_reducible first | exact Below.refl _ _ | refine past_le ?_ ?_ _ | refine Below.alloc ?_ ?_ _ | refine Below.drew ?_ | refine drewN_le ?_ _ | refine Below.setCell ?_ ?_ _ | refine step_le (by assumption) ?_ ?_ | omega | (simp only []; omega) | (simp only [World.size_alloc]; omega) | (simp only [World.size_setCell]; omega) | (simp only [World.size_drew]; omega) | (simp only [World.size_alloc, World.size_setCell]; omega) | (simp only [World.size_alloc, World.size_drew]; omega) | (simp only [World.size_setCell, World.size_drew]; omega) | (simp only [World.size_alloc, World.size_setCell, World.size_drew]; omega) | (simp only [World.size_alloc, World.size_setCell, World.size_drew, size_drewN]; omega)))⟩
theorem RGCheck_any (k : Int) (i0 i1 i2 i3 i4 i5 i6 i7 fx fy tx ty r : Int) (A : Option Addr) (n cap : Nat) (g : Nat → Nat → Value) (W H : Int) (B C : Option Addr) (pn pc sn sc : Nat) (a b c d e f : Int) (s t : Bool) (w : World) (hn : n ≤ cap ∧ cap ≤ 9223372036854775807) (h : SliceG Try.prog w 110 A n g) :
    Calls Try.prog 31 #[.agg #[.int .i64 k, .int .u8 i0, .int .u8 i1, .int .u8 i2, .int .u8 i3, .int .u8 i4, .int .u8 i5, .int .u8 i6, .int .u8 i7, .int .i64 fx, .int .i64 fy, .int .i64 tx, .int .i64 ty, .int .i64 r, .slice A n cap, .int .i64 W, .int .i64 H, .slice B pn pc, .slice C sn sc, .int .i64 a, .int .i64 b, .int .i64 c, .int .i64 d, .int .i64 e, .int .i64 f, .bool s, .bool t]] w fun e' w' => e' = .returned (.int .i64 (gradE k (inkZ i0 i1 i2 i3 i4 i5 i6 i7 && plainB W H pn sn a b c d e f s t) fx fy tx ty r (stopsE (fun x => valI (g x 0)) n))) ∧ Below w.heap.size w w' := by
  by_cases k1 : k = 1
  · subst k1; exact RGCheck_1 i0 i1 i2 i3 i4 i5 i6 i7 fx fy tx ty r A n cap g W H B C pn pc sn sc a b c d e f s t w hn h
  by_cases k2 : k = 2
  · subst k2; exact RGCheck_2 i0 i1 i2 i3 i4 i5 i6 i7 fx fy tx ty r A n cap g W H B C pn pc sn sc a b c d e f s t w hn h
  exact RGCheck_k k i0 i1 i2 i3 i4 i5 i6 i7 fx fy tx ty r A n cap g W H B C pn pc sn sc a b c d e f s t w hn h k1 k2
end Go.Proofs.Ytampdegpfndggaa

namespace Go.Proofs.Ytampdegpfndggaa
open Go.RowKit

theorem within_any (x m : Int) (w : World) (hm : 0 ≤ m ∧ m ≤ 4611686018427387904) :
    Calls Try.prog 152 #[.int .i64 x, .int .i64 m] w fun e w' => e = .returned (.bool (inB x (-m) m)) ∧ w = w' := by
  by_cases h1 : -m ≤ x <;> by_cases h2 : x ≤ m
  all_goals
    go_enter Try.func152, Try.ntmps152
    go_wp2
    go_ret
    exact ⟨ret_bool (by simp [inB, h1, h2]), rfl⟩

/-- Whether a map's entries are within the bounds. -/
def matB (a b c d e f : Int) : Bool := inB a (-1048576) 1048576 && (inB b (-1048576) 1048576 && (inB c (-1048576) 1048576 && (inB d (-1048576) 1048576 && (inB e (-268435456) 268435456 && inB f (-268435456) 268435456))))
def matE (a b c d e f : Int) : Int := if matB a b c d e f then 0 else 3
abbrev matV (a b c d e f : Int) : Value := .agg #[.int .i64 a, .int .i64 b, .int .i64 c, .int .i64 d, .int .i64 e, .int .i64 f]

set_option maxHeartbeats 1000000 in
theorem Check_any (a b c d e f : Int) (w : World) :
    Calls Try.prog 131 #[.agg #[.int .i64 a, .int .i64 b, .int .i64 c, .int .i64 d, .int .i64 e, .int .i64 f]] w fun x w' => x = .returned (.int .i64 (matE a b c d e f)) ∧ (w.alloc (.cells #[.int .i64 a, .int .i64 b, .int .i64 c, .int .i64 d, .int .i64 e, .int .i64 f] 52)) = w' := by
  have i0 : ∀ w, (Instr.index 168 (.agg #[.int .i64 a, .int .i64 b, .int .i64 c, .int .i64 d]) (.int .i64 0)).run Try.prog w = .ok (.int .i64 a) w := fun _ => by kernel_rfl
  have i1 : ∀ w, (Instr.index 168 (.agg #[.int .i64 a, .int .i64 b, .int .i64 c, .int .i64 d]) (.int .i64 1)).run Try.prog w = .ok (.int .i64 b) w := fun _ => by kernel_rfl
  have i2 : ∀ w, (Instr.index 168 (.agg #[.int .i64 a, .int .i64 b, .int .i64 c, .int .i64 d]) (.int .i64 2)).run Try.prog w = .ok (.int .i64 c) w := fun _ => by kernel_rfl
  have i3 : ∀ w, (Instr.index 168 (.agg #[.int .i64 a, .int .i64 b, .int .i64 c, .int .i64 d]) (.int .i64 3)).run Try.prog w = .ok (.int .i64 d) w := fun _ => by kernel_rfl
  go_enter Try.func131, Try.ntmps131
  go_wp2_with fail
  refine wp_loop_rounds 5 ?_
  repeat any_goals (rw [rounds_succ]; go_wp2_with (first | (go_at_call 152; refine (within_any _ _ _ ?_).mono ?_; omega; rintro e w' ⟨rfl, rfl⟩)))
  all_goals go_ret
  all_goals refine ⟨ret_int ?_, rfl⟩
  all_goals (clear i0 i1 i2 i3; go_tidy; simp only [Bool.not_eq_true', Bool.not_eq_false', Bool.not_eq_true] at *)
  all_goals (unfold matE matB; simp [*])
set_option maxHeartbeats 1000000 in
theorem MapCheck_any (a b c d e f : Int) (w : World) :
    Calls Try.prog 106 #[.agg #[.int .i64 a, .int .i64 b, .int .i64 c, .int .i64 d, .int .i64 e, .int .i64 f]] w fun x w' => x = .returned (.int .i64 (matE a b c d e f)) ∧ (w.alloc (.cells #[.int .i64 a, .int .i64 b, .int .i64 c, .int .i64 d, .int .i64 e, .int .i64 f] 52)) = w' := by
  go_enter Try.func106, Try.ntmps106
  go_wp2_with (first | (go_at_call 16; refine (In_any _ _ _ _).mono ?_; rintro e w' ⟨rfl, rfl⟩))
  all_goals go_ret
  all_goals refine ⟨ret_int ?_, rfl⟩
  all_goals (go_tidy; try simp only [Bool.not_eq_true] at *)
  all_goals (unfold matE matB; simp [*])
theorem matE_bd {a b c d e f : Int} (h : matE a b c d e f = 0) : (-1048576 ≤ a ∧ a ≤ 1048576) ∧ (-1048576 ≤ b ∧ b ≤ 1048576) ∧ (-1048576 ≤ c ∧ c ≤ 1048576) ∧ (-1048576 ≤ d ∧ d ≤ 1048576) ∧ (-268435456 ≤ e ∧ e ≤ 268435456) ∧ (-268435456 ≤ f ∧ f ≤ 268435456) := by
  unfold matE at h
  split at h
  · rename_i h'
    unfold matB at h'
    simp only [Bool.and_eq_true] at h'
    obtain ⟨h1, h2, h3, h4, h5, h6⟩ := h'
    exact ⟨inB_iff.1 h1, inB_iff.1 h2, inB_iff.1 h3, inB_iff.1 h4, inB_iff.1 h5, inB_iff.1 h6⟩
  · simp at h
theorem matE_or (a b c d e f : Int) : matE a b c d e f = 0 ∨ matE a b c d e f = 3 := by unfold matE; split <;> simp
theorem mul_bd20 {a x : Int} (ha : -1048576 ≤ a ∧ a ≤ 1048576) (hx : -1048576 ≤ x ∧ x ≤ 1048576) : -1099511627776 ≤ a * x ∧ a * x ≤ 1099511627776 := by
  have h1 : a.natAbs * x.natAbs ≤ 1048576 * 1048576 := Nat.mul_le_mul (by omega) (by omega)
  have h2 : (a * x).natAbs ≤ 1099511627776 := by rw [Int.natAbs_mul]; omega
  omega
theorem mul_bd28 {a x : Int} (ha : -1048576 ≤ a ∧ a ≤ 1048576) (hx : -268435456 ≤ x ∧ x ≤ 268435456) : -281474976710656 ≤ a * x ∧ a * x ≤ 281474976710656 := by
  have h1 : a.natAbs * x.natAbs ≤ 1048576 * 268435456 := Nat.mul_le_mul (by omega) (by omega)
  have h2 : (a * x).natAbs ≤ 281474976710656 := by rw [Int.natAbs_mul]; omega
  omega
theorem near_bd2 (a : Int) (h : -4611686018427387904 ≤ a ∧ a ≤ 4611686018427387903) : -4611686018427387904 ≤ near a 4096 ∧ near a 4096 ≤ 4611686018427387904 := by
  have := near_abs a 4096 (by omega)
  rcases Int.le_total 0 a with h0 | h0
  · have := this.1 h0; omega
  · have := this.2 h0; omega
end Go.Proofs.Ytampdegpfndggaa
