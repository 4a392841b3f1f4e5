/-
  The walk of the law BlendNames: Name and Kind belong together.
-/
import Derived.Test.YtadgoodfhlmlmaaNum
import Derived.Test.YtadgoodfhlmlmaaPast
namespace Go.Proofs.Ytadgoodfhlmlmaa.blendNames
open Go.RowKit

def nmList : List ByteArray := [⟨#[110, 111, 114, 109, 97, 108]⟩, ⟨#[109, 117, 108, 116, 105, 112, 108, 121]⟩, ⟨#[115, 99, 114, 101, 101, 110]⟩, ⟨#[111, 118, 101, 114, 108, 97, 121]⟩, ⟨#[100, 97, 114, 107, 101, 110]⟩, ⟨#[108, 105, 103, 104, 116, 101, 110]⟩, ⟨#[100, 111, 100, 103, 101]⟩, ⟨#[98, 117, 114, 110]⟩, ⟨#[104, 97, 114, 100, 108, 105, 103, 104, 116]⟩, ⟨#[115, 111, 102, 116, 108, 105, 103, 104, 116]⟩, ⟨#[100, 105, 102, 102, 101, 114, 101, 110, 99, 101]⟩, ⟨#[101, 120, 99, 108, 117, 115, 105, 111, 110]⟩]
def nm (k : Nat) : ByteArray := nmList.getD k ByteArray.empty
def nameV : Array Value := #[.string ⟨#[110, 111, 114, 109, 97, 108]⟩, .string ⟨#[109, 117, 108, 116, 105, 112, 108, 121]⟩, .string ⟨#[115, 99, 114, 101, 101, 110]⟩, .string ⟨#[111, 118, 101, 114, 108, 97, 121]⟩, .string ⟨#[100, 97, 114, 107, 101, 110]⟩, .string ⟨#[108, 105, 103, 104, 116, 101, 110]⟩, .string ⟨#[100, 111, 100, 103, 101]⟩, .string ⟨#[98, 117, 114, 110]⟩, .string ⟨#[104, 97, 114, 100, 108, 105, 103, 104, 116]⟩, .string ⟨#[115, 111, 102, 116, 108, 105, 103, 104, 116]⟩, .string ⟨#[100, 105, 102, 102, 101, 114, 101, 110, 99, 101]⟩, .string ⟨#[101, 120, 99, 108, 117, 115, 105, 111, 110]⟩]
theorem nameV_at : ∀ k : Nat, k < 12 → nameV[k]? = some (.string (nm k))
  | 0, _ => rfl
  | 1, _ => rfl
  | 2, _ => rfl
  | 3, _ => rfl
  | 4, _ => rfl
  | 5, _ => rfl
  | 6, _ => rfl
  | 7, _ => rfl
  | 8, _ => rfl
  | 9, _ => rfl
  | 10, _ => rfl
  | 11, _ => rfl
  | k + 12, h => absurd h (by omega)
theorem names_any (w : World) :
    Calls Try.prog 52 #[] w fun e w' => e = .returned (.agg nameV) ∧ Below w.heap.size w w' := by
  go_enter Try.func52, Try.ntmps52
  go_wp2_with fail
  go_returns
  exact ⟨rfl, by (repeat' (with_reducible first | exact Below.refl _ _ | refine past_le ?_ ?_ _ | refine Below.alloc ?_ ?_ _ | refine Below.drew ?_ | refine drewN_le ?_ _ | refine Below.setCell ?_ ?_ _ | refine step_le (by assumption) ?_ ?_ | omega | (simp only [World.size_alloc]; omega) | (simp only [World.size_alloc, World.size_setCell]; omega) | (simp only [World.size_alloc, World.size_setCell, World.size_drew]; omega)))⟩
theorem idx : ∀ (w : World) (k : Nat), k < 12 → (Instr.index 69 (.agg nameV) (.int .i64 k)).run Try.prog w = .ok (.string (nm k)) w
  | w, 0, _ => by kernel_rfl
  | w, 1, _ => by kernel_rfl
  | w, 2, _ => by kernel_rfl
  | w, 3, _ => by kernel_rfl
  | w, 4, _ => by kernel_rfl
  | w, 5, _ => by kernel_rfl
  | w, 6, _ => by kernel_rfl
  | w, 7, _ => by kernel_rfl
  | w, 8, _ => by kernel_rfl
  | w, 9, _ => by kernel_rfl
  | w, 10, _ => by kernel_rfl
  | w, 11, _ => by kernel_rfl
  | w, k + 12, h => absurd h (by omega)
set_option maxHeartbeats 400000 in
theorem Name_yes (k : Nat) (w : World) (hk : k < 12) :
    Calls Try.prog 20 #[.int .i64 k] w fun e w' => e = .returned (.tuple #[.string (nm k), .int .i64 0]) ∧ Below w.heap.size w w' := by
  have hi := fun w => idx w k hk
  go_enter Try.func20, Try.ntmps20
  go_wp2_with (go_at_call 52; refine (names_any _).mono ?_; rintro e w1 ⟨rfl, hb1⟩)
  go_ret2
  exact ⟨rfl, by (repeat' (with_reducible first | exact Below.refl _ _ | refine past_le ?_ ?_ _ | refine Below.alloc ?_ ?_ _ | refine Below.drew ?_ | refine drewN_le ?_ _ | refine Below.setCell ?_ ?_ _ | refine step_le (by assumption) ?_ ?_ | omega | (simp only [World.size_alloc]; omega) | (simp only [World.size_alloc, World.size_setCell]; omega) | (simp only [World.size_alloc, World.size_setCell, World.size_drew]; omega)))⟩
set_option maxHeartbeats 400000 in
theorem Name_no (k : Int) (w : World) (hk : k < 0 ∨ 12 ≤ k) :
    Calls Try.prog 20 #[.int .i64 k] w fun e w' => e = .returned (.tuple #[.string ⟨#[]⟩, .int .i64 1]) ∧ Below w.heap.size w w' := by
  by_cases h0 : k < 0
  all_goals
    go_enter Try.func20, Try.ntmps20
    go_wp2_with fail
    go_ret2
    exact ⟨rfl, by (repeat' (with_reducible first | exact Below.refl _ _ | refine past_le ?_ ?_ _ | refine Below.alloc ?_ ?_ _ | refine Below.drew ?_ | refine drewN_le ?_ _ | refine Below.setCell ?_ ?_ _ | refine step_le (by assumption) ?_ ?_ | omega | (simp only [World.size_alloc]; omega) | (simp only [World.size_alloc, World.size_setCell]; omega) | (simp only [World.size_alloc, World.size_setCell, World.size_drew]; omega)))⟩
def kindV (s : ByteArray) : Int × Int := match (List.range 12).find? (fun k => (nm k).toList == s.toList) with | some k => ((k : Int), 0) | none => (0, 6)
theorem kindV_nm : ∀ k : Nat, k < 12 → kindV (nm k) = ((k : Int), 0) := by
  intro k hk
  have : ∀ k : Fin 12, kindV (nm k.1) = ((k.1 : Int), 0) := by decide +kernel
  exact this ⟨k, hk⟩
theorem kindV_first {s : ByteArray} {k : Nat} (hk : k < 12) (h0 : ∀ j, j < k → ((nm j).toList == s.toList) = false) (h : ((nm k).toList == s.toList) = true) : kindV s = ((k : Int), 0) := by
  have : (List.range 12).find? (fun k => (nm k).toList == s.toList) = some k := by
    rw [List.find?_range_eq_some]
    exact ⟨h, by simpa using hk, fun j hj => by simpa using h0 j hj⟩
  rw [kindV, this]
theorem kindV_none {s : ByteArray} (h0 : ∀ j, j < 12 → ((nm j).toList == s.toList) = false) : kindV s = (0, 6) := by
  have : (List.range 12).find? (fun k => (nm k).toList == s.toList) = none := by
    rw [List.find?_range_eq_none]
    intro j hj; simpa using h0 j hj
  rw [kindV, this]
set_option maxHeartbeats 800000 in
theorem Kind_any (s : ByteArray) (w : World) :
    Calls Try.prog 22 #[.string s] w fun e w' => e = .returned (.tuple #[.int .i64 (kindV s).1, .int .i64 (kindV s).2]) ∧ Below w.heap.size w w' := by
  go_enter Try.func22, Try.ntmps22
  go_wp2_with (go_at_call 52; refine (names_any _).mono ?_; rintro e w1 ⟨rfl, hb1⟩)
  go_loop [7] (fun i => ∃ k : Nat, k ≤ 12 ∧ i = .int .i64 k ∧ ∀ j, j < k → ((nm j).toList == s.toList) = false) (fun i => 12 - (intOf i).toNat)
  case atStart => exact ⟨0, by omega, rfl, fun j hj => absurd hj (by omega)⟩
  case round =>
    obtain ⟨k, hk, rfl, hno⟩ := hrel
    by_cases hlt : k < 12
    · have hi := fun w => idx w k hlt
      have HN : Hid (∀ j, j < k → ((nm j).toList == s.toList) = false) := hno
      clear hno
      by_cases heq : ((nm k).toList == s.toList) = true
      · have HV : Hid _ := kindV_first hlt HN.out heq
        go_wp2_with fail
        go_ret2
        exact ⟨by rw [HV.out]; rfl, hb1⟩
      · have heq : ((nm k).toList == s.toList) = false := by simpa using heq
        go_wp2_with fail
        go_round
        case rel => exact ⟨k + 1, by omega, by go_num, fun j hj => by
          rcases Nat.lt_or_ge j k with h | h
          · exact HN.out j h
          · have : j = k := by omega
            subst this; exact heq⟩
        case measure => simp [intOf]; omega
    · have hk12 : k = 12 := by omega
      subst hk12
      have HV : Hid _ := kindV_none hno
      clear hno
      go_wp2_with fail
      go_ret2
      exact ⟨by rw [HV.out]; rfl, hb1⟩
theorem addr_lt {w : World} {a : Addr} {v : Value} (h : w.cell? a = some v) : a.block < w.heap.size := by
  rcases Nat.lt_or_ge a.block w.heap.size with h' | h'
  · exact h'
  · unfold World.cell? at h; rw [Array.getElem?_eq_none h'] at h; simp at h
theorem names_cells (w : World) (t : TypeId) (k : Nat) (hk : k < 12) : (w.alloc (.cells nameV t)).cell? ⟨w.heap.size, k, none⟩ = some (.string (nm k)) := by
  rw [World.cell?_alloc_at _ _ _ _ rfl]; exact nameV_at k hk
set_option maxHeartbeats 2000000 in
theorem walk (kind : Int) (name : ByteArray) (w : World) (_w0 : (Lit.int .i64 kind).wf = true) (_w1 : name.size ≤ maxLen) :
    Calls Try.prog 5 #[.int .i64 kind, .string name] w fun e w' => e = .returned (.bool true) ∧ Below w.heap.size w w' := by
  have h9 : nm 9 = ⟨#[115, 111, 102, 116, 108, 105, 103, 104, 116]⟩ := rfl
  by_cases hk : 0 ≤ kind ∧ kind ≤ 11
  · skip
    obtain ⟨k, rfl⟩ := Int.eq_ofNat_of_zero_le hk.1
    have hk12 : k < 12 := by omega
    have hin : inB (k : Int) 0 11 = true := inB_yes hk
    have hkv := kindV_nm k hk12
    go_enter Try.func5, Try.ntmps5
    go_wp2_with fail
    refine (Name_yes 9 _ (by omega)).mono ?_
    rintro e w1 ⟨rfl, hb1⟩
    go_wp2_with fail
    refine (Name_yes k (w1.alloc (.cells nameV 9)) hk12).mono ?_
    rintro e w2 ⟨rfl, hb2⟩
    have hcell : ∀ j, j < 12 → w2.cell? ⟨w1.heap.size, j, none⟩ = some (.string (nm j)) := fun j hj => (hb2.cell (p := ⟨w1.heap.size, j, none⟩) (by simp)).trans (names_cells w1 _ j hj)
    have hz1 := hb1.size
    have b2 : Below w.heap.size w w2 := by (repeat' (with_reducible first | exact Below.refl _ _ | refine past_le ?_ ?_ _ | refine Below.alloc ?_ ?_ _ | refine Below.drew ?_ | refine drewN_le ?_ _ | refine Below.setCell ?_ ?_ _ | refine step_le (by assumption) ?_ ?_ | omega | (simp only [World.size_alloc]; omega) | (simp only [World.size_alloc, World.size_setCell]; omega) | (simp only [World.size_alloc, World.size_setCell, World.size_drew]; omega)))
    clear hb2
    go_wp2_with (go_at_call 21; refine (In_any _ _ _ _).mono ?_; rintro e w' ⟨rfl, rfl⟩)
    refine (Kind_any _ _).mono ?_
    rintro e w3 ⟨rfl, hb3⟩
    have hlt1 : w1.heap.size < w2.heap.size := (addr_lt (hcell 0 (by omega)))
    have hcell3 : ∀ j, j < 12 → w3.cell? ⟨w1.heap.size, j, none⟩ = some (.string (nm j)) := fun j hj => (hb3.cell (p := ⟨w1.heap.size, j, none⟩) hlt1).trans (hcell j hj)
    have hlt0 : ∀ _ : Unit, w1.heap.size < w3.heap.size := fun _ => addr_lt (hcell3 0 (by omega))
    have b3 : Below w.heap.size w w3 := b2.trans (hb3.mono b2.size)
    have hck := hcell3 k hk12
    have HC : Hid _ := hcell3
    have HL : Hid _ := hlt0
    clear hcell hcell3 hb3 hlt0
    go_wp2_with fail
    have hlt0 := HL.out
    refine (Kind_any name _).mono ?_
    rintro e w4 ⟨rfl, hb4⟩
    have hcell4 : ∀ j, j < 12 → w4.cell? ⟨w1.heap.size, j, none⟩ = some (.string (nm j)) := fun j hj => (hb4.cell (p := ⟨w1.heap.size, j, none⟩) (hlt0 ())).trans (HC j hj)
    have b4 : Below w.heap.size w w4 := b3.trans (hb4.mono b3.size)
    have HC4 : Hid _ := hcell4
    clear hcell4 hb4
    go_wp2_with fail
    go_loopw [70] (fun i wr => ∃ k : Nat, k ≤ 12 ∧ i = .int .i64 k ∧ wr = w4 ∧ ∀ j, j < k → ((nm j).toList == name.toList) = false) (fun i _ => 12 - (intOf i).toNat)
    case atStart => exact ⟨0, by omega, rfl, rfl, fun j hj => absurd hj (by omega)⟩
    case round =>
      obtain ⟨q, hq, rfl, rfl, hno⟩ := hrel
      by_cases hlt : q < 12
      · have hci := HC4.out q hlt
        have HN : Hid (∀ j, j < q → ((nm j).toList == name.toList) = false) := hno
        clear hno
        by_cases heq : ((nm q).toList == name.toList) = true
        · have hv := kindV_first hlt HN.out heq
          go_wp2_with fail
          go_ret
          exact ⟨rfl, b4⟩
        · have heq : ((nm q).toList == name.toList) = false := by simpa using heq
          go_wp2_with fail
          go_roundw
          case rel => exact ⟨q + 1, by omega, by go_num, trivial, fun j hj => by
            rcases Nat.lt_or_ge j q with h | h
            · exact HN.out j h
            · have : j = q := by omega
              subst this; exact heq⟩
          case measure => simp [intOf]; omega
      · have hk12 : q = 12 := by omega
        subst hk12
        have hv := kindV_none hno
        clear hno
        go_wp2_with fail
        go_ret
        exact ⟨rfl, b4⟩
  · skip
    have hk' : kind < 0 ∨ 12 ≤ kind := by omega
    have hin : inB kind 0 11 = false := inB_no hk
    go_enter Try.func5, Try.ntmps5
    go_wp2_with fail
    refine (Name_yes 9 _ (by omega)).mono ?_
    rintro e w1 ⟨rfl, hb1⟩
    go_wp2_with fail
    refine (Name_no kind (w1.alloc (.cells nameV 9)) hk').mono ?_
    rintro e w2 ⟨rfl, hb2⟩
    have hcell : ∀ j, j < 12 → w2.cell? ⟨w1.heap.size, j, none⟩ = some (.string (nm j)) := fun j hj => (hb2.cell (p := ⟨w1.heap.size, j, none⟩) (by simp)).trans (names_cells w1 _ j hj)
    have hz1 := hb1.size
    have b2 : Below w.heap.size w w2 := by (repeat' (with_reducible first | exact Below.refl _ _ | refine past_le ?_ ?_ _ | refine Below.alloc ?_ ?_ _ | refine Below.drew ?_ | refine drewN_le ?_ _ | refine Below.setCell ?_ ?_ _ | refine step_le (by assumption) ?_ ?_ | omega | (simp only [World.size_alloc]; omega) | (simp only [World.size_alloc, World.size_setCell]; omega) | (simp only [World.size_alloc, World.size_setCell, World.size_drew]; omega)))
    clear hb2
    have hlt0 : ∀ _ : Unit, w1.heap.size < w2.heap.size := fun _ => addr_lt (hcell 0 (by omega))
    have b3 := b2
    have HC : Hid _ := hcell
    have HL : Hid _ := hlt0
    clear hcell hlt0
    go_wp2_with (go_at_call 21; refine (In_any _ _ _ _).mono ?_; rintro e w' ⟨rfl, rfl⟩)
    have hlt0 := HL.out
    refine (Kind_any name _).mono ?_
    rintro e w4 ⟨rfl, hb4⟩
    have hcell4 : ∀ j, j < 12 → w4.cell? ⟨w1.heap.size, j, none⟩ = some (.string (nm j)) := fun j hj => (hb4.cell (p := ⟨w1.heap.size, j, none⟩) (hlt0 ())).trans (HC j hj)
    have b4 : Below w.heap.size w w4 := b3.trans (hb4.mono b3.size)
    have HC4 : Hid _ := hcell4
    clear hcell4 hb4
    go_wp2_with fail
    go_loopw [70] (fun i wr => ∃ k : Nat, k ≤ 12 ∧ i = .int .i64 k ∧ wr = w4 ∧ ∀ j, j < k → ((nm j).toList == name.toList) = false) (fun i _ => 12 - (intOf i).toNat)
    case atStart => exact ⟨0, by omega, rfl, rfl, fun j hj => absurd hj (by omega)⟩
    case round =>
      obtain ⟨q, hq, rfl, rfl, hno⟩ := hrel
      by_cases hlt : q < 12
      · have hci := HC4.out q hlt
        have HN : Hid (∀ j, j < q → ((nm j).toList == name.toList) = false) := hno
        clear hno
        by_cases heq : ((nm q).toList == name.toList) = true
        · have hv := kindV_first hlt HN.out heq
          go_wp2_with fail
          go_ret
          exact ⟨rfl, b4⟩
        · have heq : ((nm q).toList == name.toList) = false := by simpa using heq
          go_wp2_with fail
          go_roundw
          case rel => exact ⟨q + 1, by omega, by go_num, trivial, fun j hj => by
            rcases Nat.lt_or_ge j q with h | h
            · exact HN.out j h
            · have : j = q := by omega
              subst this; exact heq⟩
          case measure => simp [intOf]; omega
      · have hk12 : q = 12 := by omega
        subst hk12
        have hv := kindV_none hno
        clear hno
        go_wp2_with fail
        go_ret
        exact ⟨rfl, b4⟩
end Go.Proofs.Ytadgoodfhlmlmaa.blendNames
