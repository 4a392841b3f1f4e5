/-
  The contract of Turn by any number of quarter turns.
-/
import Derived.Test.YtoiblpncofbdpaaTurn0
namespace Go.Proofs.Ytoiblpncofbdpaa
open Go.RowKit

theorem bits_and3 (k : Int) : bits .and .i64 k 3 = k % 4 := by
  have e : (BitVec.ofInt 64 k &&& BitVec.ofInt 64 3).toNat = (k % 4).toNat := by
    rw [BitVec.toNat_and, BitVec.toNat_ofInt, BitVec.toNat_ofInt]
    have e3 : ((3 : Int) % (2 ^ 64 : Nat)).toNat = 2 ^ 2 - 1 := by decide
    rw [e3, Nat.and_two_pow_sub_one_eq_mod]
    omega
  unfold bits
  show IntKind.i64.wrap ((BitVec.ofInt 64 k &&& BitVec.ofInt 64 3).toNat : Int) = _
  rw [e, Int.toNat_of_nonneg (by omega)]
  have h := Int.emod_nonneg k (show (4 : Int) ≠ 0 by decide)
  have h2 := Int.emod_lt_of_pos k (show (0 : Int) < 4 by decide)
  exact IntWalk.i64_in _ (by omega)
/-- A place (column, row) of a raster of c columns and d rows, after quarter turns. -/
structure Spot where
  x : Nat
  y : Nat
  c : Nat
  d : Nat
def Spot.turn (s : Spot) : Spot := ⟨s.d - 1 - s.y, s.x, s.d, s.c⟩
def rot : Nat → Spot → Spot
  | 0, s => s
  | n + 1, s => (rot n s).turn
theorem rot_in : ∀ (n : Nat) (s : Spot), s.x < s.c → s.y < s.d → (rot n s).x < (rot n s).c ∧ (rot n s).y < (rot n s).d
  | 0, _, h1, h2 => ⟨h1, h2⟩
  | n + 1, s, h1, h2 => by
    have ⟨h3, h4⟩ := rot_in n s h1 h2
    simp only [rot, Spot.turn]
    omega
theorem rot_dims (n x y x' y' c d : Nat) : (rot n ⟨x, y, c, d⟩).c = (rot n ⟨x', y', c, d⟩).c ∧ (rot n ⟨x, y, c, d⟩).d = (rot n ⟨x', y', c, d⟩).d := by
  induction n with
  | zero => exact ⟨rfl, rfl⟩
  | succ n ih => exact ⟨ih.2, ih.1⟩
theorem rot_le (n : Nat) (s : Spot) (m : Nat) (h1 : s.c ≤ m) (h2 : s.d ≤ m) : (rot n s).c ≤ m ∧ (rot n s).d ≤ m := by
  induction n with
  | zero => exact ⟨h1, h2⟩
  | succ n ih => exact ⟨ih.2, ih.1⟩
theorem rot_area (n : Nat) (s : Spot) : (rot n s).c * (rot n s).d = s.c * s.d := by
  induction n with
  | zero => rfl
  | succ n ih => rw [← ih]; exact Nat.mul_comm _ _
theorem place {a b W : Nat} (hb : b < W) : (a * W + b) % W = b ∧ (a * W + b) / W = a := by
  rw [show a * W + b = b + W * a by rw [Nat.mul_comm, Nat.add_comm], Nat.add_mul_mod_self_left, Nat.mod_eq_of_lt hb, Nat.add_mul_div_left _ _ (by omega), Nat.div_eq_of_lt hb, Nat.zero_add]
  exact ⟨rfl, rfl⟩
theorem mod_div {i W H : Nat} (h : i < W * H) (hW : 1 ≤ W) : i % W < W ∧ i / W < H ∧ i / W * W + i % W = i := by
  refine ⟨Nat.mod_lt _ hW, Nat.div_lt_of_lt_mul h, ?_⟩
  rw [Nat.mul_comm]; exact Nat.div_add_mod i W
theorem Turn_any (k : Int) (t : Nat) (ht : (t : Int) = k % 4) (W H cap b off : Nat) (pix : Nat → Int) (w : World) (hW : 1 ≤ W ∧ W ≤ 1024) (hH : 1 ≤ H ∧ H ≤ 1024) (hlt : b < w.heap.size)
    (hp : ∀ i, i < W * H → w.cell? ⟨b, off + i, none⟩ = some (.int .u8 (pix i))) (hpx : ∀ i, i < W * H → 0 ≤ pix i ∧ pix i ≤ 255) :
    Calls Try.prog 31 #[.agg #[.int .i64 W, .int .i64 H, .slice (some ⟨b, off, none⟩) (W * H) cap], .int .i64 k] w fun e w' => ∃ (A : Option Addr) (q : Nat) (f : Nat → Int) (c d : Nat), e = .returned (.tuple #[.agg #[.int .i64 c, .int .i64 d, .slice A (W * H) q], .int .i64 0]) ∧ (W * H ≤ q ∧ q ≤ 9223372036854775807) ∧
      Below w.heap.size w w' ∧ BytesAt w' A (W * H) f ∧ ∀ i, i < W * H → (rot t ⟨i % W, i / W, W, H⟩).c = c ∧ (rot t ⟨i % W, i / W, W, H⟩).d = d ∧ f ((rot t ⟨i % W, i / W, W, H⟩).y * c + (rot t ⟨i % W, i / W, W, H⟩).x) = pix i := by
  have hm : W * H ≤ 1048576 := Nat.mul_le_mul hW.2 hH.2
  match t, ht with
  | 0, ht =>
    refine (Turn_0 k W H cap b off pix w hW hH (by rw [bits_and3, ← ht]; rfl) hlt hp).mono ?_
    rintro e w' ⟨A, q, he, hq, hb, hA⟩
    refine ⟨A, q, pix, W, H, he, hq, hb, hA, fun i hi => ⟨rfl, rfl, ?_⟩⟩
    simp only [rot]
    rw [(mod_div hi hW.1).2.2]
  | 1, ht =>
    refine (Turn_1 k W H cap b off pix w hW hH (by rw [bits_and3, ← ht]; rfl) hlt hp hpx).mono ?_
    rintro e w' ⟨A, he, hb, hA⟩
    rw [Nat.mul_comm H W] at he hA
    refine ⟨A, _, _, H, W, he, ⟨Nat.le_refl _, by omega⟩, hb, hA, fun i hi => ⟨rfl, rfl, ?_⟩⟩
    obtain ⟨h1, h2, h3⟩ := mod_div hi hW.1
    simp only [rot, Spot.turn]
    generalize i % W = x at *
    generalize i / W = y at *
    obtain ⟨p1, p2⟩ := place (a := x) (show H - 1 - y < H by omega)
    rw [p1, p2, show H - 1 - (H - 1 - y) = y by omega, h3]
  | 2, ht =>
    refine (Turn_2 k W H cap b off pix w hW hH (by rw [bits_and3, ← ht]; rfl) hlt hp hpx).mono ?_
    rintro e w' ⟨A, he, hb, hA⟩
    refine ⟨A, _, _, W, H, he, ⟨Nat.le_refl _, by omega⟩, hb, hA, fun i hi => ⟨rfl, rfl, ?_⟩⟩
    obtain ⟨h1, h2, h3⟩ := mod_div hi hW.1
    simp only [rot, Spot.turn]
    generalize i % W = x at *
    generalize i / W = y at *
    obtain ⟨p1, p2⟩ := place (a := H - 1 - y) (show W - 1 - x < W by omega)
    rw [p1, p2, show H - 1 - (H - 1 - y) = y by omega, show W - 1 - (W - 1 - x) = x by omega, h3]
  | 3, ht =>
    refine (Turn_3 k W H cap b off pix w hW hH (by rw [bits_and3, ← ht]; rfl) hlt hp hpx).mono ?_
    rintro e w' ⟨A, he, hb, hA⟩
    rw [Nat.mul_comm H W] at he hA
    refine ⟨A, _, _, H, W, he, ⟨Nat.le_refl _, by omega⟩, hb, hA, fun i hi => ⟨rfl, rfl, ?_⟩⟩
    obtain ⟨h1, h2, h3⟩ := mod_div hi hW.1
    simp only [rot, Spot.turn]
    generalize i % W = x at *
    generalize i / W = y at *
    rw [show H - 1 - (H - 1 - y) = y by omega]
    obtain ⟨p1, p2⟩ := place (a := W - 1 - x) (show y < H by omega)
    rw [p1, p2, show W - 1 - (W - 1 - x) = x by omega, h3]
  | t + 4, ht => omega
end Go.Proofs.Ytoiblpncofbdpaa
