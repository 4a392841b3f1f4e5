/-
  Contracts of blend.Inks, of the function that it makes, of blend.Ink and of the reference's BlendInk.
-/
import Derived.Test.YtampdegpfndggaaMode
import Derived.Test.YtampdegpfndggaaRBlend
namespace Go.Proofs.Ytampdegpfndggaa
open Go.RowKit

/-- A mode on amounts of ink. -/
def inkV (k b s : Int) : Int := 255 - blV k (255 - b) (255 - s)
theorem inkV_bd {k b s : Int} (hb : 0 ≤ b ∧ b ≤ 255) (hs : 0 ≤ s ∧ s ≤ 255) : 0 ≤ inkV k b s ∧ inkV k b s ≤ 255 := by
  have := blV_bd (k := k) (b := 255 - b) (s := 255 - s) (by omega) (by omega)
  unfold inkV; omega
theorem RInk_any (k b s : Int) (w : World) (hk : 0 ≤ k ∧ k ≤ 11) (hb : 0 ≤ b ∧ b ≤ 255) (hs : 0 ≤ s ∧ s ≤ 255) :
    Calls Try.prog 17 #[.int .i64 k, .int .i64 b, .int .i64 s] w fun e w' => e = .returned (.int .i64 (inkV k b s)) ∧ w = w' := by
  have hr := blV_bd (k := k) (b := 255 - b) (s := 255 - s) (by omega) (by omega)
  go_enter Try.func17, Try.ntmps17
  go_wp2_with fail
  refine (RBlend_any k (255 - b) (255 - s) _ hk (by omega) (by omega)).mono ?_
  rintro e w' ⟨rfl, rfl⟩
  go_wp2_with fail
  go_ret
  exact ⟨rfl, rfl⟩
set_option maxRecDepth 20000 in
set_option maxHeartbeats 2000000 in
theorem Inks_any (k : Int) (w : World) (hk : 0 ≤ k ∧ k ≤ 11) : Calls Try.prog 56 #[.int .i64 k] w fun e w' => e = .returned (.func (.func 97) #[] #[.pointer (some ⟨w.heap.size + 2, 0, none⟩)]) ∧
    ((w.alloc modesO).alloc (.cells #[.func (.func (modeF k)) #[] #[]] 105)).alloc (.cells #[.func (.func 129) #[] #[.pointer (some ⟨w.heap.size + 1, 0, none⟩)]] 101) = w' := by
  go_enter Try.func56, Try.ntmps56
  go_wp2_with fail
  refine (Mode_any k _ hk).mono ?_
  rintro e w' ⟨rfl, rfl⟩
  go_wp2_with fail
  go_ret
  exact ⟨rfl, rfl⟩
set_option maxRecDepth 20000 in
set_option maxHeartbeats 2000000 in
theorem Inks_no (k : Int) (w : World) (hk : ¬(0 ≤ k ∧ k ≤ 11)) : Calls Try.prog 56 #[.int .i64 k] w fun e w' => e = .returned .nilFunc ∧ Below w.heap.size w w' := by
  go_enter Try.func56, Try.ntmps56
  go_wp2_with fail
  refine (Mode_no k _ hk).mono ?_
  rintro e w' ⟨rfl, rfl⟩
  go_wp2_with fail
  go_ret
  exact ⟨rfl, by (repeat' (with_reducible first | exact Below.refl _ _ | refine past_le ?_ ?_ _ | refine Below.alloc ?_ ?_ _ | refine Below.drew ?_ | refine drewN_le ?_ _ | refine Below.setCell ?_ ?_ _ | refine step_le (by assumption) ?_ ?_ | omega | (simp only []; omega) | (simp only [World.size_alloc]; omega) | (simp only [World.size_setCell]; omega) | (simp only [World.size_drew]; omega) | (simp only [World.size_alloc, World.size_setCell]; omega) | (simp only [World.size_alloc, World.size_drew]; omega) | (simp only [World.size_setCell, World.size_drew]; omega) | (simp only [World.size_alloc, World.size_setCell, World.size_drew]; omega) | (simp only [World.size_alloc, World.size_setCell, World.size_drew, size_drewN]; omega)))⟩
set_option maxRecDepth 20000 in
set_option maxHeartbeats 2000000 in
theorem InksFn_any (k b s : Int) (p q : Nat) (w : World) (hk : 0 ≤ k ∧ k ≤ 11) (hb : 0 ≤ b ∧ b ≤ 255) (hs : 0 ≤ s ∧ s ≤ 255) (hc : ∀ o, w.cell? ⟨p, o, none⟩ = #[Value.func (.func 129) #[] #[.pointer (some ⟨q, 0, none⟩)]][o]?)
    (hq : ∀ o, w.cell? ⟨q, o, none⟩ = #[Value.func (.func (modeF k)) #[] #[]][o]?) :
    Calls Try.prog 97 #[.int .u8 b, .int .u8 s, .pointer (some ⟨p, 0, none⟩)] w fun e w' => e = .returned (.int .u8 (inkV k b s)) ∧ w = w' := by
  have hr := blV_bd (k := k) (b := 255 - b) (s := 255 - s) (by omega) (by omega)
  have hqH : Hid _ := hq
  clear hq
  go_enter Try.func97, Try.ntmps97
  go_wp2_with fail
  refine (modeFn_any k (255 - b) (255 - s) q _ hk (by omega) (by omega) hqH.out).mono ?_
  rintro e w' ⟨rfl, rfl⟩
  go_wp2_with fail
  go_ret
  exact ⟨rfl, rfl⟩
set_option maxRecDepth 20000 in
set_option maxHeartbeats 2000000 in
theorem Ink_any (k b s : Int) (w : World) (hk : 0 ≤ k ∧ k ≤ 11) (hb : 0 ≤ b ∧ b ≤ 255) (hs : 0 ≤ s ∧ s ≤ 255) :
    Calls Try.prog 15 #[.int .i64 k, .int .u8 b, .int .u8 s] w fun e w' => e = .returned (.tuple #[.int .u8 (inkV k b s), .int .i64 0]) ∧ Below w.heap.size w w' := by
  have q1 : ∀ c w, (binOp .eql 101 (.func (.func 97) #[] c) .nilFunc).run Try.prog w = .ok (.bool false) w := fun _ _ => by kernel_rfl
  go_enter Try.func15, Try.ntmps15
  go_wp2_with fail
  refine (Inks_any k _ hk).mono ?_
  rintro e w' ⟨rfl, rfl⟩
  go_wp2_with fail
  refine (InksFn_any k b s _ (w.heap.size + 1) _ hk hb hs (by intro o; simp [go_sem]) (by intro o; simp [go_sem])).mono ?_
  rintro e w' ⟨rfl, rfl⟩
  go_wp2_with fail
  go_ret2
  exact ⟨rfl, by (repeat' (with_reducible first | exact Below.refl _ _ | refine past_le ?_ ?_ _ | refine Below.alloc ?_ ?_ _ | refine Below.drew ?_ | refine drewN_le ?_ _ | refine Below.setCell ?_ ?_ _ | refine step_le (by assumption) ?_ ?_ | omega | (simp only []; omega) | (simp only [World.size_alloc]; omega) | (simp only [World.size_setCell]; omega) | (simp only [World.size_drew]; omega) | (simp only [World.size_alloc, World.size_setCell]; omega) | (simp only [World.size_alloc, World.size_drew]; omega) | (simp only [World.size_setCell, World.size_drew]; omega) | (simp only [World.size_alloc, World.size_setCell, World.size_drew]; omega) | (simp only [World.size_alloc, World.size_setCell, World.size_drew, size_drewN]; omega)))⟩
set_option maxRecDepth 20000 in
set_option maxHeartbeats 2000000 in
theorem Ink_no (k b s : Int) (w : World) (hk : ¬(0 ≤ k ∧ k ≤ 11)) :
    Calls Try.prog 15 #[.int .i64 k, .int .u8 b, .int .u8 s] w fun e w' => e = .returned (.tuple #[.int .u8 0, .int .i64 1]) ∧ Below w.heap.size w w' := by
  have q1 : ∀ w, (binOp .eql 101 .nilFunc .nilFunc).run Try.prog w = .ok (.bool true) w := fun _ => by kernel_rfl
  go_enter Try.func15, Try.ntmps15
  go_wp2_with fail
  refine (Inks_no k _ hk).mono ?_
  rintro e w' ⟨rfl, hb1⟩
  go_wp2_with fail
  go_ret2
  exact ⟨rfl, by (repeat' (with_reducible first | exact Below.refl _ _ | refine past_le ?_ ?_ _ | refine Below.alloc ?_ ?_ _ | refine Below.drew ?_ | refine drewN_le ?_ _ | refine Below.setCell ?_ ?_ _ | refine step_le (by assumption) ?_ ?_ | omega | (simp only []; omega) | (simp only [World.size_alloc]; omega) | (simp only [World.size_setCell]; omega) | (simp only [World.size_drew]; omega) | (simp only [World.size_alloc, World.size_setCell]; omega) | (simp only [World.size_alloc, World.size_drew]; omega) | (simp only [World.size_setCell, World.size_drew]; omega) | (simp only [World.size_alloc, World.size_setCell, World.size_drew]; omega) | (simp only [World.size_alloc, World.size_setCell, World.size_drew, size_drewN]; omega)))⟩
end Go.Proofs.Ytampdegpfndggaa
