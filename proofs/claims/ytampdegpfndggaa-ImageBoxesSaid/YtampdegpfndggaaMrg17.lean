/-
  Merged: XInk, XInks.
-/
import Derived.WalkKit
import Derived.ChangeKeysEq
import Derived.Test.YtampdegpfndggaaMrg16
import Derived.Test.YtampdegpfndggaaProg
namespace Go.Proofs.Ytampdegpfndggaa
open Go.RowKit

/-- A mode on amounts of ink. -/
def inkV (k b s : Int) : Int := 255 - blV k (255 - b) (255 - s)
theorem inkV_bd {k b s : Int} (hb : 0 ≤ b ∧ b ≤ 255) (hs : 0 ≤ s ∧ s ≤ 255) : 0 ≤ inkV k b s ∧ inkV k b s ≤ 255 := by
  have := blV_bd (k := k) (b := 255 - b) (s := 255 - s) (by omega) (by omega)
  unfold inkV; omega
theorem RInk_any (k b s : Int) (w : World) (hk : 0 ≤ k ∧ k ≤ 11) (hb : 0 ≤ b ∧ b ≤ 255) (hs : 0 ≤ s ∧ s ≤ 255) :
    Calls Try.prog 17 #[.int .i64 k, .int .i64 b, .int .i64 s] w fun e w' => e = .returned (.int .i64 (inkV k b s)) ∧ w = w' := by
  have hr := blV_bd (k := k) (b := 255 - b) (s := 255 - s) (by omega) (by omega)
  go_enter Try.func17, Try.ntmps17
  go_wp2_with fail
  refine (RBlend_any k (255 - b) (255 - s) _ hk (by omega) (by omega)).mono ?_
  rintro e w' ⟨rfl, rfl⟩
  go_wp2_with fail
  go_ret
  exact ⟨rfl, rfl⟩
set_option maxRecDepth 20000 in
set_option maxHeartbeats 2000000 in
theorem Inks_any (k : Int) (w : World) (hk : 0 ≤ k ∧ k ≤ 11) : Calls Try.prog 56 #[.int .i64 k] w fun e w' => e = .returned (.func (.func 97) #[] #[.pointer (some ⟨w.heap.size + 2, 0, none⟩)]) ∧
    ((w.alloc modesO).alloc (.cells #[.func (.func (modeF k)) #[] #[]] 105)).alloc (.cells #[.func (.func 129) #[] #[.pointer (some ⟨w.heap.size + 1, 0, none⟩)]] 101) = w' := by
  go_enter Try.func56, Try.ntmps56
  go_wp2_with fail
  refine (Mode_any k _ hk).mono ?_
  rintro e w' ⟨rfl, rfl⟩
  go_wp2_with fail
  go_ret
  exact ⟨rfl, rfl⟩
set_option maxRecDepth 20000 in
set_option maxHeartbeats 2000000 in
theorem Inks_no (k : Int) (w : World) (hk : ¬(0 ≤ k ∧ k ≤ 11)) : Calls Try.prog 56 #[.int .i64 k] w fun e w' => e = .returned .nilFunc ∧ Below w.heap.size w w' := by
  go_enter Try.func56, Try.ntmps56
  go_wp2_with fail
  refine (Mode_no k _ hk).mono ?_
  rintro e w' ⟨rfl, rfl⟩
  go_wp2_with fail
  go_ret
  exact ⟨rfl, by (repeat' (with_reducible first | exact Below.refl _ _ | refine past_le ?_ ?_ _ | refine Below.alloc ?_ ?_ _ | refine Below.drew ?_ | refine drewN_le ?_ _ | refine Below.setCell ?_ ?_ _ | refine step_le (by assumption) ?_ ?_ | omega | (simp only []; omega) | (simp only [World.size_alloc]; omega) | (simp only [World.size_setCell]; omega) | (simp only [World.size_drew]; omega) | (simp only [World.size_alloc, World.size_setCell]; omega) | (simp only [World.size_alloc, World.size_drew]; omega) | (simp only [World.size_setCell, World.size_drew]; omega) | (simp only [World.size_alloc, World.size_setCell, World.size_drew]; omega) | (simp only [World.size_alloc, World.size_setCell, World.size_drew, size_drewN]; omega)))⟩
set_option maxRecDepth 20000 in
set_option maxHeartbeats 2000000 in
theorem InksFn_any (k b s : Int) (p q : Nat) (w : World) (hk : 0 ≤ k ∧ k ≤ 11) (hb : 0 ≤ b ∧ b ≤ 255) (hs : 0 ≤ s ∧ s ≤ 255) (hc : ∀ o, w.cell? ⟨p, o, none⟩ = #[Value.func (.func 129) #[] #[.pointer (some ⟨q, 0, none⟩)]][o]?)
    (hq : ∀ o, w.cell? ⟨q, o, none⟩ = #[Value.func (.func (modeF k)) #[] #[]][o]?) :
    Calls Try.prog 97 #[.int .u8 b, .int .u8 s, .pointer (some ⟨p, 0, none⟩)] w fun e w' => e = .returned (.int .u8 (inkV k b s)) ∧ w = w' := by
  have hr := blV_bd (k := k) (b := 255 - b) (s := 255 - s) (by omega) (by omega)
  have hqH : Hid _ := hq
  clear hq
  go_enter Try.func97, Try.ntmps97
  go_wp2_with fail
  refine (modeFn_any k (255 - b) (255 - s) q _ hk (by omega) (by omega) hqH.out).mono ?_
  rintro e w' ⟨rfl, rfl⟩
  go_wp2_with fail
  go_ret
  exact ⟨rfl, rfl⟩
set_option maxRecDepth 20000 in
set_option maxHeartbeats 2000000 in
theorem Ink_any (k b s : Int) (w : World) (hk : 0 ≤ k ∧ k ≤ 11) (hb : 0 ≤ b ∧ b ≤ 255) (hs : 0 ≤ s ∧ s ≤ 255) :
    Calls Try.prog 15 #[.int .i64 k, .int .u8 b, .int .u8 s] w fun e w' => e = .returned (.tuple #[.int .u8 (inkV k b s), .int .i64 0]) ∧ Below w.heap.size w w' := by
  have q1 : ∀ c w, (binOp .eql 101 (.func (.func 97) #[] c) .nilFunc).run Try.prog w = .ok (.bool false) w := fun _ _ => by kernel_rfl
  go_enter Try.func15, Try.ntmps15
  go_wp2_with fail
  refine (Inks_any k _ hk).mono ?_
  rintro e w' ⟨rfl, rfl⟩
  go_wp2_with fail
  refine (InksFn_any k b s _ (w.heap.size + 1) _ hk hb hs (by intro o; simp [go_sem]) (by intro o; simp [go_sem])).mono ?_
  rintro e w' ⟨rfl, rfl⟩
  go_wp2_with fail
  go_ret2
  exact ⟨rfl, by (repeat' (with_reducible first | exact Below.refl _ _ | refine past_le ?_ ?_ _ | refine Below.alloc ?_ ?_ _ | refine Below.drew ?_ | refine drewN_le ?_ _ | refine Below.setCell ?_ ?_ _ | refine step_le (by assumption) ?_ ?_ | omega | (simp only []; omega) | (simp only [World.size_alloc]; omega) | (simp only [World.size_setCell]; omega) | (simp only [World.size_drew]; omega) | (simp only [World.size_alloc, World.size_setCell]; omega) | (simp only [World.size_alloc, World.size_drew]; omega) | (simp only [World.size_setCell, World.size_drew]; omega) | (simp only [World.size_alloc, World.size_setCell, World.size_drew]; omega) | (simp only [World.size_alloc, World.size_setCell, World.size_drew, size_drewN]; omega)))⟩
set_option maxRecDepth 20000 in
set_option maxHeartbeats 2000000 in
theorem Ink_no (k b s : Int) (w : World) (hk : ¬(0 ≤ k ∧ k ≤ 11)) :
    Calls Try.prog 15 #[.int .i64 k, .int .u8 b, .int .u8 s] w fun e w' => e = .returned (.tuple #[.int .u8 0, .int .i64 1]) ∧ Below w.heap.size w w' := by
  have q1 : ∀ w, (binOp .eql 101 .nilFunc .nilFunc).run Try.prog w = .ok (.bool true) w := fun _ => by kernel_rfl
  go_enter Try.func15, Try.ntmps15
  go_wp2_with fail
  refine (Inks_no k _ hk).mono ?_
  rintro e w' ⟨rfl, hb1⟩
  go_wp2_with fail
  go_ret2
  exact ⟨rfl, by (repeat' (with_reducible first | exact Below.refl _ _ | refine past_le ?_ ?_ _ | refine Below.alloc ?_ ?_ _ | refine Below.drew ?_ | refine drewN_le ?_ _ | refine Below.setCell ?_ ?_ _ | refine step_le (by assumption) ?_ ?_ | omega | (simp only []; omega) | (simp only [World.size_alloc]; omega) | (simp only [World.size_setCell]; omega) | (simp only [World.size_drew]; omega) | (simp only [World.size_alloc, World.size_setCell]; omega) | (simp only [World.size_alloc, World.size_drew]; omega) | (simp only [World.size_setCell, World.size_drew]; omega) | (simp only [World.size_alloc, World.size_setCell, World.size_drew]; omega) | (simp only [World.size_alloc, World.size_setCell, World.size_drew, size_drewN]; omega)))⟩
end Go.Proofs.Ytampdegpfndggaa

namespace Go.Proofs.Ytampdegpfndggaa
open Go.RowKit

theorem u8_eq (a b : Int) (w : World) : (Op.equalIn 9999 5 (.int .u8 a) (.int .u8 b)).run Try.prog w = .ok (a == b) w := run_equalIn_int w 9998 _ _ .u8 a b Try.underlying5
theorem eq_step {xs ys : Array Value} {j : Nat} {a b : Int} {w : World} {is : List Nat} {r : Bool} (pa : (part 5 xs (j * 1)).run Try.prog w = .ok (.int .u8 a) w) (pb : (part 5 ys (j * 1)).run Try.prog w = .ok (.int .u8 b) w)
    (hr : (Op.eqItems 9999 5 1 xs ys is).run Try.prog w = .ok r w) : (Op.eqItems 9999 5 1 xs ys (j :: is)).run Try.prog w = .ok (a == b && r) w := by
  simp only [Op.eqItems, Sem.run_bind, pa, pb, Result.andThen_ok, u8_eq]
  cases h : (a == b)
  · simp
  · simpa using hr
@[go_sem] theorem inks_eq (a0 a1 a2 a3 a4 a5 a6 a7 b0 b1 b2 b3 b4 b5 b6 b7 : Int) (w : World) :
    (Op.equalIn 10000 29 (.agg #[.int .u8 a0, .int .u8 a1, .int .u8 a2, .int .u8 a3, .int .u8 a4, .int .u8 a5, .int .u8 a6, .int .u8 a7]) (.agg #[.int .u8 b0, .int .u8 b1, .int .u8 b2, .int .u8 b3, .int .u8 b4, .int .u8 b5, .int .u8 b6, .int .u8 b7])).run Try.prog w =
      .ok (a0 == b0 && (a1 == b1 && (a2 == b2 && (a3 == b3 && (a4 == b4 && (a5 == b5 && (a6 == b6 && (a7 == b7 && true)))))))) w := by
  have hc : Try.prog.cellsOf 5 = 1 := by kernel_rfl
  obtain ⟨i, hi⟩ : ∃ i, Try.prog.info? 5 = some i := Option.isSome_iff_exists.1 (by kernel_rfl)
  rw [run_equalIn_array w 9999 (e := 5) (n := 8) _ _ Try.underlying29 hi]
  rw [hc, show List.range 8 = [0, 1, 2, 3, 4, 5, 6, 7] from rfl]
  exact eq_step (by kernel_rfl) (by kernel_rfl) (eq_step (by kernel_rfl) (by kernel_rfl) (eq_step (by kernel_rfl) (by kernel_rfl) (eq_step (by kernel_rfl) (by kernel_rfl) (eq_step (by kernel_rfl) (by kernel_rfl) (eq_step (by kernel_rfl) (by kernel_rfl) (eq_step (by kernel_rfl) (by kernel_rfl) (eq_step (by kernel_rfl) (by kernel_rfl) (rfl))))))))
end Go.Proofs.Ytampdegpfndggaa
