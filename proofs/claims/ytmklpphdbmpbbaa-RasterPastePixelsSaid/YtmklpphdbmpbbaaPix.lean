/-
  Rows of bytes in memory; contracts of SameBytes and cut.
-/
import Derived.Test.YtmklpphdbmpbbaaIn
import Derived.Test.YtmklpphdbmpbbaaPast
import Derived.Test.YtmklpphdbmpbbaaRecs
namespace Go.Proofs.Ytmklpphdbmpbbaa
open Go.RowKit

/-- A slice of n bytes. -/
def BytesAt (w : World) (A : Option Addr) (n : Nat) (f : Nat → Int) : Prop :=
  0 < n → ∃ b off, A = some ⟨b, off, none⟩ ∧ b < w.heap.size ∧ ∀ i, i < n → w.cell? ⟨b, off + i, none⟩ = some (.int .u8 (f i))
theorem BytesAt.below {w w' : World} {A : Option Addr} {n : Nat} {f : Nat → Int} (h : BytesAt w A n f) (hb : Below w.heap.size w w') : BytesAt w' A n f := by
  intro hn
  obtain ⟨b, off, hA, hlt, hc⟩ := h hn
  exact ⟨b, off, hA, Nat.lt_of_lt_of_le hlt hb.size, fun i hi => (hb.cell (p := ⟨b, _, none⟩) hlt).trans (hc i hi)⟩
theorem bytes_of_cells {w : World} {b off n : Nat} {f : Nat → Int} (h : ∀ i, i < n → w.cell? ⟨b, off + i, none⟩ = some (.int .u8 (f i))) : BytesAt w (some ⟨b, off, none⟩) n f := by
  intro hn
  exact ⟨b, off, rfl, (addr_plain (h 0 hn)).2, h⟩
theorem bytes_of_cells0 {w : World} {b n : Nat} {f : Nat → Int} (h : ∀ i, i < n → w.cell? ⟨b, i, none⟩ = some (.int .u8 (f i))) : BytesAt w (some ⟨b, 0, none⟩) n f :=
  bytes_of_cells fun i hi => by rw [Nat.zero_add]; exact h i hi
def sameB (n m : Nat) (f g : Nat → Int) : Bool := n == m && (List.range n).all fun i => f i == g i
theorem range_all_succ (p : Nat → Bool) (k : Nat) : (List.range (k + 1)).all p = ((List.range k).all p && p k) := by
  rw [List.range_succ, List.all_append]; simp
theorem range_all_no {p : Nat → Bool} {k n : Nat} (hk : k < n) (h : p k = false) : (List.range n).all p = false := by
  rw [List.all_eq_false]; exact ⟨k, List.mem_range.2 hk, by rw [h]; decide⟩
set_option maxRecDepth 20000 in
set_option maxHeartbeats 1000000 in
theorem SameBytes_any (A B : Option Addr) (n m c d : Nat) (f g : Nat → Int) (w : World) (hn : n ≤ c ∧ c ≤ 9223372036854775807) (hm : m ≤ d ∧ d ≤ 9223372036854775807) (ha : BytesAt w A n f) (hb : BytesAt w B m g) :
    Calls Try.prog 18 #[.slice A n c, .slice B m d] w fun e w' => e = .returned (.bool (sameB n m f g)) ∧ Below w.heap.size w w' := by
  have ha' : Hid _ := ha
  have hb' : Hid _ := hb
  clear ha hb
  by_cases hnm : n = m
  · subst hnm
    have hs : Hid (sameB n n f g = (List.range n).all fun i => f i == g i) := by show sameB n n f g = _; simp [sameB]
    go_enter Try.func18, Try.ntmps18
    go_wp2_with fail
    go_loopw [13] (fun i wr => ∃ k : Nat, k ≤ n ∧ i = .int .i64 k ∧ ((List.range k).all fun i => f i == g i) = true ∧ Below w.heap.size w wr) (fun i _ => n - (intOf i).toNat)
    case atStart => exact ⟨0, Nat.zero_le _, rfl, rfl, Below.refl _ _⟩
    case round =>
      obtain ⟨k, hk, rfl, hall, hbel⟩ := hrel
      by_cases hlt : k < n
      · obtain ⟨b1, o1, rfl, hs1, hc1⟩ := BytesAt.below ha'.out hbel (by omega)
        obtain ⟨b2, o2, rfl, hs2, hc2⟩ := BytesAt.below hb'.out hbel (by omega)
        have e1 := hc1 k hlt
        have e2 := hc2 k hlt
        clear hc1 hc2
        have HA : Hid _ := hall
        clear hall
        by_cases he : f k = g k
        · have hd : (f k != g k) = false := by simpa using he
          go_wp2_with fail
          go_quiet (fail)
          go_wp2
          go_roundw
          case rel => exact ⟨k + 1, by omega, by go_num, by rw [range_all_succ, HA.out]; simp [he], by (repeat' (with_reducible first | exact Below.refl _ _ | refine past_le ?_ ?_ _ | refine Below.alloc ?_ ?_ _ | refine Below.drew ?_ | refine drewN_le ?_ _ | refine Below.setCell ?_ ?_ _ | refine step_le (by assumption) ?_ ?_ | omega | (simp only []; omega) | (simp only [World.size_alloc]; omega) | (simp only [World.size_setCell]; omega) | (simp only [World.size_drew]; omega) | (simp only [World.size_alloc, World.size_setCell]; omega) | (simp only [World.size_alloc, World.size_drew]; omega) | (simp only [World.size_setCell, World.size_drew]; omega) | (simp only [World.size_alloc, World.size_setCell, World.size_drew]; omega) | (simp only [World.size_alloc, World.size_setCell, World.size_drew, size_drewN]; omega)))⟩
          case measure => simp [intOf]; omega
        · have hd : (f k != g k) = true := by simpa using he
          go_wp2_with fail
          go_quiet (fail)
          go_wp2
          go_ret
          exact ⟨ret_bool (by rw [hs.out, range_all_no hlt (by simpa using he)]), by (repeat' (with_reducible first | exact Below.refl _ _ | refine past_le ?_ ?_ _ | refine Below.alloc ?_ ?_ _ | refine Below.drew ?_ | refine drewN_le ?_ _ | refine Below.setCell ?_ ?_ _ | refine step_le (by assumption) ?_ ?_ | omega | (simp only []; omega) | (simp only [World.size_alloc]; omega) | (simp only [World.size_setCell]; omega) | (simp only [World.size_drew]; omega) | (simp only [World.size_alloc, World.size_setCell]; omega) | (simp only [World.size_alloc, World.size_drew]; omega) | (simp only [World.size_setCell, World.size_drew]; omega) | (simp only [World.size_alloc, World.size_setCell, World.size_drew]; omega) | (simp only [World.size_alloc, World.size_setCell, World.size_drew, size_drewN]; omega)))⟩
      · have : k = n := by omega
        subst this
        go_wp2
        go_ret
        exact ⟨ret_bool (by rw [hs.out, hall]), hbel⟩
  · have hd : ((n : Int) != (m : Int)) = true := by simp; omega
    have hs : Hid (sameB n m f g = false) := by show sameB n m f g = _; simp [sameB, hnm]
    go_enter Try.func18, Try.ntmps18
    go_wp2_with fail
    go_ret
    exact ⟨ret_bool hs.out.symm, by (repeat' (with_reducible first | exact Below.refl _ _ | refine past_le ?_ ?_ _ | refine Below.alloc ?_ ?_ _ | refine Below.drew ?_ | refine drewN_le ?_ _ | refine Below.setCell ?_ ?_ _ | refine step_le (by assumption) ?_ ?_ | omega | (simp only []; omega) | (simp only [World.size_alloc]; omega) | (simp only [World.size_setCell]; omega) | (simp only [World.size_drew]; omega) | (simp only [World.size_alloc, World.size_setCell]; omega) | (simp only [World.size_alloc, World.size_drew]; omega) | (simp only [World.size_setCell, World.size_drew]; omega) | (simp only [World.size_alloc, World.size_setCell, World.size_drew]; omega) | (simp only [World.size_alloc, World.size_setCell, World.size_drew, size_drewN]; omega)))⟩
/-- A number, cut to bounds. -/
theorem tmod_emod (x n : Int) (hn : 1 ≤ n) : x.tmod n % n = x % n := by
  have hb := tmod_bd x n hn
  rw [tmod_floor x n hn]
  split
  · rw [← Int.add_emod_right, Int.emod_eq_of_lt (by omega) (by omega)]
  · rw [Int.emod_eq_of_lt (by omega) (by omega)]
set_option maxHeartbeats 1000000 in
theorem cut_any (x l h : Int) (w : World) (hl : 0 ≤ l ∧ l ≤ h ∧ h ≤ 1048576) :
    Calls Try.prog 10 #[.int .i64 x, .int .i64 l, .int .i64 h] w fun e w' => e = .returned (.int .i64 (l + x % (h - l + 1))) ∧ w = w' := by
  have hb := tmod_bd x (h - l + 1) (by omega)
  have hb2 := tmod_bd (x.tmod (h - l + 1) + (h - l + 1)) (h - l + 1) (by omega)
  have hb3 := emod_bd (x.tmod (h - l + 1)) (h - l + 1) (by omega)
  have hc : Hid _ := tmod_emod x (h - l + 1) (by omega)
  go_enter Try.func10, Try.ntmps10
  go_wp2_with fail
  go_ret
  exact ⟨ret_int (by rw [← hc.out]), rfl⟩
end Go.Proofs.Ytmklpphdbmpbbaa
