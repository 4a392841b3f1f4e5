/-
  Contracts of the functions that raster.build is handed: each reads one pixel of a raster.
-/
import Derived.Test.YtoiblpncofbdpaaPix
namespace Go.Proofs.Ytoiblpncofbdpaa
open Go.RowKit

theorem idx_lt {a b W H : Nat} (ha : a < H) (hb : b < W) : a * W + b < W * H := by
  have h1 : (a + 1) * W ≤ H * W := Nat.mul_le_mul_right _ ha
  rw [Nat.add_mul, Nat.mul_comm H W] at h1
  omega
set_option maxRecDepth 20000 in
set_option maxHeartbeats 1000000 in
theorem turn1_any (x y W H cap b off pG ph pw : Nat) (pix : Nat → Int) (w : World) (hx : x < H) (hy : y < W) (hW : W ≤ 1024) (hH : H ≤ 1024) (hg : ∀ o, w.cell? ⟨pG, o, none⟩ = #[Value.int .i64 W, .int .i64 H, .slice (some ⟨b, off, none⟩) (W * H) cap][o]?) (hph : ∀ o, w.cell? ⟨ph, o, none⟩ = #[Value.int .i64 H][o]?) (hpw : ∀ o, w.cell? ⟨pw, o, none⟩ = #[Value.int .i64 W][o]?)
    (hp : ∀ i, i < W * H → w.cell? ⟨b, off + i, none⟩ = some (.int .u8 (pix i))) :
    Calls Try.prog 63 #[.int .i64 x, .int .i64 y, .pointer (some ⟨pG, 0, none⟩), .pointer (some ⟨ph, 0, none⟩), .pointer (some ⟨pw, 0, none⟩)] w fun e w' => e = .returned (.int .u8 (pix ((H - 1 - x) * W + y))) ∧ w = w' := by
  have hlt : (H - 1 - x) * W + y < W * H := idx_lt (by omega) hy
  have hc := hp _ hlt
  clear hp
  have hm : W * H ≤ 1048576 := Nat.mul_le_mul hW hH
  have hq : (H - 1 - x) * W ≤ 1048576 := by omega
  have e1 : ((H : Int) - 1 - x) * W = (((H - 1 - x) * W : Nat) : Int) := by
    rw [Int.natCast_mul] <;> (try (congr 1; omega))
  generalize (H - 1 - x) * W = q at *
  generalize W * H = m at *
  go_enter Try.func63, Try.ntmps63
  go_wp2_with fail
  go_ret
  exact ⟨rfl, rfl⟩
set_option maxRecDepth 20000 in
set_option maxHeartbeats 1000000 in
theorem turn2_any (x y W H cap b off pG ph pw : Nat) (pix : Nat → Int) (w : World) (hx : x < W) (hy : y < H) (hW : W ≤ 1024) (hH : H ≤ 1024) (hg : ∀ o, w.cell? ⟨pG, o, none⟩ = #[Value.int .i64 W, .int .i64 H, .slice (some ⟨b, off, none⟩) (W * H) cap][o]?) (hph : ∀ o, w.cell? ⟨ph, o, none⟩ = #[Value.int .i64 H][o]?) (hpw : ∀ o, w.cell? ⟨pw, o, none⟩ = #[Value.int .i64 W][o]?)
    (hp : ∀ i, i < W * H → w.cell? ⟨b, off + i, none⟩ = some (.int .u8 (pix i))) :
    Calls Try.prog 64 #[.int .i64 x, .int .i64 y, .pointer (some ⟨pG, 0, none⟩), .pointer (some ⟨ph, 0, none⟩), .pointer (some ⟨pw, 0, none⟩)] w fun e w' => e = .returned (.int .u8 (pix ((H - 1 - y) * W + (W - 1 - x)))) ∧ w = w' := by
  have hlt : (H - 1 - y) * W + (W - 1 - x) < W * H := idx_lt (by omega) (by omega)
  have hc := hp _ hlt
  clear hp
  have hm : W * H ≤ 1048576 := Nat.mul_le_mul hW hH
  have hq : (H - 1 - y) * W ≤ 1048576 := by omega
  have e1 : ((H : Int) - 1 - y) * W = (((H - 1 - y) * W : Nat) : Int) := by
    rw [Int.natCast_mul] <;> (try (congr 1; omega))
  generalize (H - 1 - y) * W = q at *
  generalize W * H = m at *
  have e2 : (q : Int) + W - 1 - x = ((q + (W - 1 - x) : Nat) : Int) := by omega
  generalize q + (W - 1 - x) = k at *
  go_enter Try.func64, Try.ntmps64
  go_wp2_with fail
  go_ret
  exact ⟨rfl, rfl⟩
set_option maxRecDepth 20000 in
set_option maxHeartbeats 1000000 in
theorem turn3_any (x y W H cap b off pG pw : Nat) (pix : Nat → Int) (w : World) (hx : x < H) (hy : y < W) (hW : W ≤ 1024) (hH : H ≤ 1024) (hg : ∀ o, w.cell? ⟨pG, o, none⟩ = #[Value.int .i64 W, .int .i64 H, .slice (some ⟨b, off, none⟩) (W * H) cap][o]?) (hpw : ∀ o, w.cell? ⟨pw, o, none⟩ = #[Value.int .i64 W][o]?)
    (hp : ∀ i, i < W * H → w.cell? ⟨b, off + i, none⟩ = some (.int .u8 (pix i))) :
    Calls Try.prog 65 #[.int .i64 x, .int .i64 y, .pointer (some ⟨pG, 0, none⟩), .pointer (some ⟨pw, 0, none⟩)] w fun e w' => e = .returned (.int .u8 (pix (x * W + (W - 1 - y)))) ∧ w = w' := by
  have hlt : x * W + (W - 1 - y) < W * H := idx_lt hx (by omega)
  have hc := hp _ hlt
  clear hp
  have hm : W * H ≤ 1048576 := Nat.mul_le_mul hW hH
  have hq : x * W ≤ 1048576 := by omega
  have e1 : (x : Int) * W = ((x * W : Nat) : Int) := by
    rw [Int.natCast_mul] <;> (try (congr 1; omega))
  generalize x * W = q at *
  generalize W * H = m at *
  have e2 : (q : Int) + W - 1 - y = ((q + (W - 1 - y) : Nat) : Int) := by omega
  generalize q + (W - 1 - y) = k at *
  go_enter Try.func65, Try.ntmps65
  go_wp2_with fail
  go_ret
  exact ⟨rfl, rfl⟩
set_option maxRecDepth 20000 in
set_option maxHeartbeats 1000000 in
theorem mirror_any (x y W H cap b off pG : Nat) (pix : Nat → Int) (w : World) (hx : x < W) (hy : y < H) (hW : W ≤ 1024) (hH : H ≤ 1024) (hg : ∀ o, w.cell? ⟨pG, o, none⟩ = #[Value.int .i64 W, .int .i64 H, .slice (some ⟨b, off, none⟩) (W * H) cap][o]?)
    (hp : ∀ i, i < W * H → w.cell? ⟨b, off + i, none⟩ = some (.int .u8 (pix i))) :
    Calls Try.prog 67 #[.int .i64 x, .int .i64 y, .pointer (some ⟨pG, 0, none⟩)] w fun e w' => e = .returned (.int .u8 (pix (y * W + (W - 1 - x)))) ∧ w = w' := by
  have hlt : y * W + (W - 1 - x) < W * H := idx_lt hy (by omega)
  have hc := hp _ hlt
  clear hp
  have hm : W * H ≤ 1048576 := Nat.mul_le_mul hW hH
  have hq : y * W ≤ 1048576 := by omega
  have e1 : (y : Int) * W = ((y * W : Nat) : Int) := by
    rw [Int.natCast_mul] <;> (try (congr 1; omega))
  generalize y * W = q at *
  generalize W * H = m at *
  have e2 : (q : Int) + W - 1 - x = ((q + (W - 1 - x) : Nat) : Int) := by omega
  generalize q + (W - 1 - x) = k at *
  go_enter Try.func67, Try.ntmps67
  go_wp2_with fail
  go_ret
  exact ⟨rfl, rfl⟩
set_option maxRecDepth 20000 in
set_option maxHeartbeats 1000000 in
theorem crop_any (x y W H X Y cap b off pG py px : Nat) (pix : Nat → Int) (w : World) (hx : X + x < W) (hy : Y + y < H) (hW : W ≤ 1024) (hH : H ≤ 1024) (hg : ∀ o, w.cell? ⟨pG, o, none⟩ = #[Value.int .i64 W, .int .i64 H, .slice (some ⟨b, off, none⟩) (W * H) cap][o]?) (hpy : ∀ o, w.cell? ⟨py, o, none⟩ = #[Value.int .i64 Y][o]?) (hpx : ∀ o, w.cell? ⟨px, o, none⟩ = #[Value.int .i64 X][o]?)
    (hp : ∀ i, i < W * H → w.cell? ⟨b, off + i, none⟩ = some (.int .u8 (pix i))) :
    Calls Try.prog 70 #[.int .i64 x, .int .i64 y, .pointer (some ⟨pG, 0, none⟩), .pointer (some ⟨py, 0, none⟩), .pointer (some ⟨px, 0, none⟩)] w fun e w' => e = .returned (.int .u8 (pix ((Y + y) * W + (X + x)))) ∧ w = w' := by
  have hlt : (Y + y) * W + (X + x) < W * H := idx_lt hy hx
  have hc := hp _ hlt
  clear hp
  have hm : W * H ≤ 1048576 := Nat.mul_le_mul hW hH
  have hq : (Y + y) * W ≤ 1048576 := by omega
  have e1 : ((Y : Int) + y) * W = (((Y + y) * W : Nat) : Int) := by
    rw [Int.natCast_mul, Int.natCast_add]
  generalize (Y + y) * W = q at *
  generalize W * H = m at *
  have e2 : (q : Int) + X + x = ((q + (X + x) : Nat) : Int) := by omega
  generalize q + (X + x) = k at *
  go_enter Try.func70, Try.ntmps70
  go_wp2_with fail
  go_ret
  exact ⟨rfl, rfl⟩
theorem make_any (x y p : Nat) (v : Int) (w : World) (hv : ∀ o, w.cell? ⟨p, o, none⟩ = #[Value.int .u8 v][o]?) :
    Calls Try.prog 62 #[.int .i64 x, .int .i64 y, .pointer (some ⟨p, 0, none⟩)] w fun e w' => e = .returned (.int .u8 v) ∧ w = w' := by
  go_enter Try.func62, Try.ntmps62
  go_wp2_with fail
  go_ret
  exact ⟨rfl, rfl⟩
end Go.Proofs.Ytoiblpncofbdpaa
