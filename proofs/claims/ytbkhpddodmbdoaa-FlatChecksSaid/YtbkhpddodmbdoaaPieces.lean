/-
  Pieces in memory.
-/
import Derived.Test.YtbkhpddodmbdoaaRegChk
import Derived.Test.YtbkhpddodmbdoaaMixed2
import Derived.Test.YtbkhpddodmbdoaaRow
namespace Go.Proofs.Ytbkhpddodmbdoaa
open Go.RowKit
set_option linter.unusedVariables false
set_option maxRecDepth 20000
/-- A piece: its region (with its place and its room), its ink vector. -/
structure PcD where
  L : List Run
  A : Option Addr
  q : Nat
  I : Nat → Int
instance : Inhabited PcD := ⟨⟨[], none, 0, fun _ => 0⟩⟩
def inkC (I : Nat → Int) : List Value := [.int .u8 (I 0), .int .u8 (I 1), .int .u8 (I 2), .int .u8 (I 3), .int .u8 (I 4), .int .u8 (I 5), .int .u8 (I 6), .int .u8 (I 7)]
def pcC (p : PcD) : List Value := .slice p.A p.L.length p.q :: inkC p.I
structure PcsM (G : Mem) (A : Option Addr) (n : Nat) (p : Nat → PcD) : Prop where
  rows : ElsM G A 9 n fun i => pcC (p i)
  runs : ∀ i, i < n → RunsM G (p i).A (p i).L
  room : ∀ i, i < n → (p i).L.length ≤ (p i).q ∧ (p i).q ≤ maxLen
  ink : ∀ i, i < n → ∀ j, 0 ≤ (p i).I j ∧ (p i).I j ≤ 255
theorem PcsM.mono {G G' : Mem} {A : Option Addr} {n : Nat} {p : Nat → PcD} (h : PcsM G A n p) (hle : G.le G') : PcsM G' A n p :=
  ⟨h.rows.mono hle, fun i hi => (h.runs i hi).mono hle, h.room, h.ink⟩
theorem PcsM.less {G : Mem} {A : Option Addr} {n k : Nat} {p : Nat → PcD} (h : PcsM G A n p) (hk : k ≤ n) : PcsM G A k p :=
  ⟨h.rows.less hk, fun i hi => h.runs i (by omega), fun i hi => h.room i (by omega), fun i hi => h.ink i (by omega)⟩
/-- What a load of a piece wants. -/
theorem PcsM.cells {G : Mem} {A : Option Addr} {n : Nat} {p : Nat → PcD} (h : PcsM G A n p) {i : Nat} (hi : i < n) : ∃ a : Addr, A = some a ∧ ∀ K : List Value → Prop, K [.slice (p i).A (p i).L.length (p i).q, .int .u8 ((p i).I 0), .int .u8 ((p i).I 1), .int .u8 ((p i).I 2), .int .u8 ((p i).I 3), .int .u8 ((p i).I 4), .int .u8 ((p i).I 5), .int .u8 ((p i).I 6), .int .u8 ((p i).I 7)] → OldCells G (a.add (i * 9)) 9 K := h.rows.cells hi
theorem PcsM.head {G : Mem} {A : Option Addr} {n : Nat} {p : Nat → PcD} (h : PcsM G A n p) {i : Nat} (hi : i < n) : ∃ a : Addr, A = some a ∧ G.cell? (Addr.add (a.add (i * 9)) 0) = some (.slice (p i).A (p i).L.length (p i).q) := h.rows.cell (j := 0) hi rfl
theorem PcsM.inks {G : Mem} {A : Option Addr} {n : Nat} {p : Nat → PcD} (h : PcsM G A n p) {i : Nat} (hi : i < n) : ∃ a : Addr, A = some a ∧ ∀ K : List Value → Prop, K [.int .u8 ((p i).I 0), .int .u8 ((p i).I 1), .int .u8 ((p i).I 2), .int .u8 ((p i).I 3), .int .u8 ((p i).I 4), .int .u8 ((p i).I 5), .int .u8 ((p i).I 6), .int .u8 ((p i).I 7)] → OldCells G (Addr.add (a.add (i * 9)) 1) 8 K := by
  obtain ⟨b, off, rfl, h2⟩ := h.rows.at_ i hi
  refine ⟨_, rfl, fun K k => OldCells_list (inkC (p i).I) rfl (fun j u hj => ?_) k⟩
  rw [addr_add, addr_add, addr_add]
  have := h2 (j + 1) u (by simpa [pcC] using hj)
  rwa [show off + i * 9 + 1 + j = off + i * 9 + (j + 1) by omega]
/-- The first that is not zero. -/
def firstZ (f : Nat → Int) : Nat → Int
  | 0 => 0
  | n + 1 => if firstZ f n ≠ 0 then firstZ f n else f n
theorem firstZ_at {f : Nat → Int} {k : Nat} (h0 : firstZ f k = 0) (h : f k ≠ 0) : ∀ {n : Nat}, k < n → firstZ f n = f k := by
  intro n hn
  induction n with
  | zero => omega
  | succ n ih =>
    unfold firstZ
    by_cases hk : k < n
    · rw [if_pos (by rw [ih hk]; exact h), ih hk]
    · have : k = n := by omega
      subst this
      rw [if_neg (by omega)]
theorem firstZ_next {f : Nat → Int} {k : Nat} (h0 : firstZ f k = 0) (h : f k = 0) : firstZ f (k + 1) = 0 := by
  unfold firstZ; rw [if_neg (by omega), h]
theorem firstZ_all {f : Nat → Int} : ∀ {n : Nat}, firstZ f n = 0 → ∀ k, k < n → f k = 0
  | 0, _, k, hk => by omega
  | n + 1, h, k, hk => by
    unfold firstZ at h
    split at h
    · rename_i h1; exact (h1 h).elim
    · rename_i h1
      rcases Nat.lt_or_ge k n with h2 | h2
      · exact firstZ_all (Decidable.not_not.1 h1) k h2
      · have : k = n := by omega
        subst this; exact h
def zeroI (I : Nat → Int) : Prop := I 0 = 0 ∧ I 1 = 0 ∧ I 2 = 0 ∧ I 3 = 0 ∧ I 4 = 0 ∧ I 5 = 0 ∧ I 6 = 0 ∧ I 7 = 0
def sameI (I J : Nat → Int) : Prop := I 0 = J 0 ∧ I 1 = J 1 ∧ I 2 = J 2 ∧ I 3 = J 3 ∧ I 4 = J 4 ∧ I 5 = J 5 ∧ I 6 = J 6 ∧ I 7 = J 7
instance (I : Nat → Int) : Decidable (zeroI I) := by unfold zeroI; infer_instance
instance (I J : Nat → Int) : Decidable (sameI I J) := by unfold sameI; infer_instance
/-- A run outside of the page. -/
def outP (w h : Int) (r : Run) : Prop := r.y < 0 ∨ 16 * h ≤ r.y ∨ r.x0 < 0 ∨ 16 * w < r.x1
open Classical in
/-- The error of one piece, for itself. -/
noncomputable def pcE (w h : Int) (p : PcD) : Int := if errL p.L ≠ 0 then errL p.L else if p.L.length = 0 then 8 else if ∃ r ∈ p.L, outP w h r then 3 else if zeroI p.I then 4 else 0
theorem pcE_reg {w h : Int} {p : PcD} (e : errL p.L ≠ 0) : pcE w h p = errL p.L := by unfold pcE; rw [if_pos e]
theorem pcE_none {w h : Int} {p : PcD} (e : errL p.L = 0) (e1 : p.L.length = 0) : pcE w h p = 8 := by unfold pcE; rw [if_neg (by omega), if_pos e1]
theorem pcE_out {w h : Int} {p : PcD} (e : errL p.L = 0) (e1 : p.L.length ≠ 0) (e2 : ∃ r ∈ p.L, outP w h r) : pcE w h p = 3 := by unfold pcE; rw [if_neg (by omega), if_neg e1, if_pos e2]
theorem pcE_zero {w h : Int} {p : PcD} (e : errL p.L = 0) (e1 : p.L.length ≠ 0) (e2 : ¬ ∃ r ∈ p.L, outP w h r) (e3 : zeroI p.I) : pcE w h p = 4 := by unfold pcE; rw [if_neg (by omega), if_neg e1, if_neg e2, if_pos e3]
theorem pcE_ok {w h : Int} {p : PcD} (e : errL p.L = 0) (e1 : p.L.length ≠ 0) (e2 : ¬ ∃ r ∈ p.L, outP w h r) (e3 : ¬ zeroI p.I) : pcE w h p = 0 := by unfold pcE; rw [if_neg (by omega), if_neg e1, if_neg e2, if_neg e3]
theorem pcE_good {w h : Int} {p : PcD} (h0 : pcE w h p = 0) : errL p.L = 0 ∧ p.L.length ≠ 0 ∧ (∀ r ∈ p.L, ¬ outP w h r) ∧ ¬ zeroI p.I := by
  unfold pcE at h0
  split at h0
  · rename_i h1; exact absurd h0 h1
  · rename_i h1
    split at h0
    · omega
    · rename_i h2
      split at h0
      · omega
      · rename_i h3
        split at h0
        · omega
        · rename_i h4
          exact ⟨by omega, h2, fun r hr ho => h3 ⟨r, hr, ho⟩, h4⟩
/-- A cell in common. -/
def meetL (L M : List Run) : Prop := ∃ x y, hasR L x y ∧ hasR M x y
/-- Has it the vector or a cell of one ahead? -/
def twP (p : Nat → PcD) (i : Nat) : Prop := ∃ k, k < i ∧ (sameI (p k).I (p i).I ∨ meetL (p k).L (p i).L)
def firstR (L : List Run) : Run := nthR L 0
def ordP (p : Nat → PcD) (i : Nat) : Prop := 0 < i ∧ ((firstR (p i).L).y < (firstR (p (i - 1)).L).y ∨ ((firstR (p i).L).y = (firstR (p (i - 1)).L).y ∧ (firstR (p i).L).x0 < (firstR (p (i - 1)).L).x0))
open Classical in
noncomputable def apE (p : Nat → PcD) (i : Nat) : Int := if twP p i then 7 else if ordP p i then 18 else 0
open Classical in
theorem apE_tw {p : Nat → PcD} {i : Nat} (h : twP p i) : apE p i = 7 := by unfold apE; rw [if_pos h]
open Classical in
theorem apE_ord {p : Nat → PcD} {i : Nat} (h : ¬ twP p i) (h2 : ordP p i) : apE p i = 18 := by unfold apE; rw [if_neg h, if_pos h2]
open Classical in
theorem apE_ok {p : Nat → PcD} {i : Nat} (h : ¬ twP p i) (h2 : ¬ ordP p i) : apE p i = 0 := by unfold apE; rw [if_neg h, if_neg h2]
/-- The error of pieces. -/
noncomputable def pcsE (w h : Int) (n : Nat) (p : Nat → PcD) : Int :=
  if ¬ ((1 ≤ w ∧ w ≤ 256) ∧ (1 ≤ h ∧ h ≤ 256)) then 3 else if 4096 < n then 2 else if firstZ (fun i => pcE w h (p i)) n ≠ 0 then firstZ (fun i => pcE w h (p i)) n else firstZ (apE p) n
theorem not_zeroI {I : Nat → Int} (h : ¬ zeroI I) : (decide (I 0 = 0) && (decide (I 1 = 0) && (decide (I 2 = 0) && (decide (I 3 = 0) && (decide (I 4 = 0) && (decide (I 5 = 0) && (decide (I 6 = 0) && (decide (I 7 = 0) && true)))))))) = false := by
  rw [← Bool.not_eq_true]
  simpa [zeroI] using h
theorem not_sameI {I J : Nat → Int} (h : ¬ sameI I J) : (decide (I 0 = J 0) && (decide (I 1 = J 1) && (decide (I 2 = J 2) && (decide (I 3 = J 3) && (decide (I 4 = J 4) && (decide (I 5 = J 5) && (decide (I 6 = J 6) && (decide (I 7 = J 7) && true)))))))) = false := by
  rw [← Bool.not_eq_true]
  simpa [sameI] using h
end Go.Proofs.Ytbkhpddodmbdoaa
