/-
  Contracts of the functions that raster.build is handed: each reads one pixel of a raster.
-/
import Derived.Test.YtmklpphdbmpbbaaPix
namespace Go.Proofs.Ytmklpphdbmpbbaa
open Go.RowKit

theorem idx_lt {a b W H : Nat} (ha : a < H) (hb : b < W) : a * W + b < W * H := by
  have h1 : (a + 1) * W ≤ H * W := Nat.mul_le_mul_right _ ha
  rw [Nat.add_mul, Nat.mul_comm H W] at h1
  omega
set_option maxRecDepth 20000 in
set_option maxHeartbeats 1000000 in
theorem turn1_any (x y W H cap b off pG ph pw : Nat) (pix : Nat → Int) (w : World) (hx : x < H) (hy : y < W) (hW : W ≤ 1024) (hH : H ≤ 1024) (hg : ∀ o, w.cell? ⟨pG, o, none⟩ = #[Value.int .i64 W, .int .i64 H, .slice (some ⟨b, off, none⟩) (W * H) cap][o]?) (hph : ∀ o, w.cell? ⟨ph, o, none⟩ = #[Value.int .i64 H][o]?) (hpw : ∀ o, w.cell? ⟨pw, o, none⟩ = #[Value.int .i64 W][o]?)
    (hp : ∀ i, i < W * H → w.cell? ⟨b, off + i, none⟩ = some (.int .u8 (pix i))) :
    Calls Try.prog 46 #[.int .i64 x, .int .i64 y, .pointer (some ⟨pG, 0, none⟩), .pointer (some ⟨ph, 0, none⟩), .pointer (some ⟨pw, 0, none⟩)] w fun e w' => e = .returned (.int .u8 (pix ((H - 1 - x) * W + y))) ∧ w = w' := by
  have hlt : (H - 1 - x) * W + y < W * H := idx_lt (by omega) hy
  have hc := hp _ hlt
  clear hp
  have hm : W * H ≤ 1048576 := Nat.mul_le_mul hW hH
  have hq : (H - 1 - x) * W ≤ 1048576 := by omega
  have e1 : ((H : Int) - 1 - x) * W = (((H - 1 - x) * W : Nat) : Int) := by
    rw [Int.natCast_mul] <;> (try (congr 1; omega))
  generalize (H - 1 - x) * W = q at *
  generalize W * H = m at *
  go_enter Try.func46, Try.ntmps46
  go_wp2_with fail
  go_ret
  exact ⟨rfl, rfl⟩
set_option maxRecDepth 20000 in
set_option maxHeartbeats 1000000 in
theorem turn2_any (x y W H cap b off pG ph pw : Nat) (pix : Nat → Int) (w : World) (hx : x < W) (hy : y < H) (hW : W ≤ 1024) (hH : H ≤ 1024) (hg : ∀ o, w.cell? ⟨pG, o, none⟩ = #[Value.int .i64 W, .int .i64 H, .slice (some ⟨b, off, none⟩) (W * H) cap][o]?) (hph : ∀ o, w.cell? ⟨ph, o, none⟩ = #[Value.int .i64 H][o]?) (hpw : ∀ o, w.cell? ⟨pw, o, none⟩ = #[Value.int .i64 W][o]?)
    (hp : ∀ i, i < W * H → w.cell? ⟨b, off + i, none⟩ = some (.int .u8 (pix i))) :
    Calls Try.prog 47 #[.int .i64 x, .int .i64 y, .pointer (some ⟨pG, 0, none⟩), .pointer (some ⟨ph, 0, none⟩), .pointer (some ⟨pw, 0, none⟩)] w fun e w' => e = .returned (.int .u8 (pix ((H - 1 - y) * W + (W - 1 - x)))) ∧ w = w' := by
  have hlt : (H - 1 - y) * W + (W - 1 - x) < W * H := idx_lt (by omega) (by omega)
  have hc := hp _ hlt
  clear hp
  have hm : W * H ≤ 1048576 := Nat.mul_le_mul hW hH
  have hq : (H - 1 - y) * W ≤ 1048576 := by omega
  have e1 : ((H : Int) - 1 - y) * W = (((H - 1 - y) * W : Nat) : Int) := by
    rw [Int.natCast_mul] <;> (try (congr 1; omega))
  generalize (H - 1 - y) * W = q at *
  generalize W * H = m at *
  have e2 : (q : Int) + W - 1 - x = ((q + (W - 1 - x) : Nat) : Int) := by omega
  generalize q + (W - 1 - x) = k at *
  go_enter Try.func47, Try.ntmps47
  go_wp2_with fail
  go_ret
  exact ⟨rfl, rfl⟩
set_option maxRecDepth 20000 in
set_option maxHeartbeats 1000000 in
theorem turn3_any (x y W H cap b off pG pw : Nat) (pix : Nat → Int) (w : World) (hx : x < H) (hy : y < W) (hW : W ≤ 1024) (hH : H ≤ 1024) (hg : ∀ o, w.cell? ⟨pG, o, none⟩ = #[Value.int .i64 W, .int .i64 H, .slice (some ⟨b, off, none⟩) (W * H) cap][o]?) (hpw : ∀ o, w.cell? ⟨pw, o, none⟩ = #[Value.int .i64 W][o]?)
    (hp : ∀ i, i < W * H → w.cell? ⟨b, off + i, none⟩ = some (.int .u8 (pix i))) :
    Calls Try.prog 48 #[.int .i64 x, .int .i64 y, .pointer (some ⟨pG, 0, none⟩), .pointer (some ⟨pw, 0, none⟩)] w fun e w' => e = .returned (.int .u8 (pix (x * W + (W - 1 - y)))) ∧ w = w' := by
  have hlt : x * W + (W - 1 - y) < W * H := idx_lt hx (by omega)
  have hc := hp _ hlt
  clear hp
  have hm : W * H ≤ 1048576 := Nat.mul_le_mul hW hH
  have hq : x * W ≤ 1048576 := by omega
  have e1 : (x : Int) * W = ((x * W : Nat) : Int) := by
    rw [Int.natCast_mul] <;> (try (congr 1; omega))
  generalize x * W = q at *
  generalize W * H = m at *
  have e2 : (q : Int) + W - 1 - y = ((q + (W - 1 - y) : Nat) : Int) := by omega
  generalize q + (W - 1 - y) = k at *
  go_enter Try.func48, Try.ntmps48
  go_wp2_with fail
  go_ret
  exact ⟨rfl, rfl⟩
end Go.Proofs.Ytmklpphdbmpbbaa
