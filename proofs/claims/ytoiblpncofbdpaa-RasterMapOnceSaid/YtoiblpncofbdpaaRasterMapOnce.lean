/-
  The walk of the law RasterMapOnce: Map calls the function once for each pixel, row by row.
-/
import Derived.Test.YtoiblpncofbdpaaKnown
import Derived.Test.YtoiblpncofbdpaaSmallW
import Derived.Test.YtoiblpncofbdpaaMap
import Derived.Test.YtoiblpncofbdpaaBytes
namespace Go.Proofs.Ytoiblpncofbdpaa.rasterMapOnce
open Go.RowKit

set_option maxRecDepth 20000 in
set_option maxHeartbeats 4000000 in
theorem walk_any (a0 a1 : Int) (A : Option Addr) (n cap : Nat) (g : Nat → Int) (c d : Nat) (w : World) (hA : BytesAt w A n g) (hc : 1 ≤ c ∧ c ≤ 8) (hd : 1 ≤ d ∧ d ≤ 8)
    (hsm : ∀ (A : Option Addr) (n cap : Nat) (g : Nat → Int) (w : World), BytesAt w A n g →
      Calls Try.prog 30 #[.int .i64 a0, .int .i64 a1, .slice A n cap] w fun e w' => ∃ (B : Option Addr) (q : Nat) (f : Nat → Int), e = .returned (.agg #[.int .i64 c, .int .i64 d, .slice B (c * d) q]) ∧ (c * d ≤ q ∧ q ≤ 9223372036854775807) ∧ BytesAt w' B (c * d) f ∧ (∀ i, i < c * d → 0 ≤ f i ∧ f i ≤ 255) ∧ Below w.heap.size w w') :
    Calls Try.prog 8 #[.int .i64 a0, .int .i64 a1, .slice A n cap] w fun e w' => e = .returned (.bool true) ∧ Below w.heap.size w w' := by
  have HA : Hid _ := hA
  have HS : Hid _ := hsm
  clear hA hsm
  have hcd : 1 ≤ c * d := Nat.mul_le_mul hc.1 hd.1
  have hcd2 : c * d ≤ 64 := Nat.mul_le_mul hc.2 hd.2
  have HM : Hid _ := fun cap b off bc pix w => Map_any c d cap b off bc pix w hc hd
  generalize c * d = M at *
  go_enter Try.func8, Try.ntmps8
  go_wp2_with fail
  refine (known_any _).mono ?_
  rintro e w1 ⟨rfl, hb1⟩
  go_wp2_with fail
  refine (HS.out A n cap g _ (BytesAt.below HA.out hb1)).mono ?_
  rintro e w2 ⟨B, q, f, rfl, hq, hB, hf, hb2⟩
  have b2 : Hid (Below w.heap.size w w2) := show Below w.heap.size w w2 from hb1.trans (hb2.mono hb1.size)
  have HF : Hid _ := hf
  obtain ⟨b, off, rfl, hbs, hpx⟩ := hB (by omega)
  have HP : Hid _ := hpx
  clear hb1 hb2 hB hf hpx
  go_wp2_with fail
  refine (HM.out q b off (w2.heap.size + 1) f _ (by omega) (by simp) (fun i hi => ?_) HF.out (by simp [go_sem]) (by simp [frozen_alloc_if])).mono ?_
  · simp only [cell_alloc_if, World.size_alloc]
    rw [if_neg (by omega), if_neg (by omega)]; exact HP.out i hi
  rintro e w3 ⟨C, q3, rfl, hq3, hb3, hcnt, hC⟩
  obtain ⟨b', off', rfl, hbs', hpc⟩ := hC (by omega)
  have hz3 := hb3.size
  simp only [World.size_alloc] at hz3
  have HC : Hid _ := hpc
  have b3 : Hid (Below w2.heap.size w2 w3) := show Below w2.heap.size w2 w3 from (((Below.refl _ _).alloc (Nat.le_refl _) _).alloc (by simp) _).trans (hb3.mono (by omega))
  have hg3 : ∀ o, w3.cell? ⟨w2.heap.size, o, none⟩ = #[Value.int .i64 c, .int .i64 d, .slice (some ⟨b, off, none⟩) M q][o]? := fun o => by
    rw [hb3.cell (p := ⟨w2.heap.size, o, none⟩) (by show w2.heap.size < _; omega)]
    simp [cell_alloc_if, go_sem]
  have hp3 : Hid (∀ i, i < M → w3.cell? ⟨b, off + i, none⟩ = some (.int .u8 (f i))) := fun i hi => (b3.out.cell (p := ⟨b, _, none⟩) hbs).trans (HP.out i hi)
  unfold maxLen at hq3
  clear hb3 hC hpc
  go_wp2_with fail
  go_loop [58] (fun v => ∃ j : Nat, j ≤ M ∧ v = .int .i64 j) (fun v => M - (intOf v).toNat)
  case atStart => exact ⟨0, Nat.zero_le _, rfl⟩
  case round =>
    obtain ⟨j, hj, rfl⟩ := hrel
    by_cases hlj : j < M
    · have e1 := HC.out j hlj
      have e2 := hp3.out j hlj
      have e3 := HF.out j hlj
      generalize f j = p at *
      go_wp2_with fail
      go_round
      case rel => exact ⟨j + 1, by omega, by go_num⟩
      case measure => simp [intOf]; omega
    · have : j = M := by omega
      subst this
      go_wp2_with fail
      go_ret
      exact ⟨rfl, (b2.out.trans (b3.out.mono b2.out.size)).alloc (Nat.le_trans b2.out.size b3.out.size) _⟩
set_option linter.unusedVariables false in
theorem walk (a0 : Int) (a1 : Int) (A2 : Option Addr) (n2 : Nat) (q2 : Nat) (g2 : Nat → Nat → Value) (w : World) (w0 : (Lit.int .i64 a0).wf = true) (w1 : (Lit.int .i64 a1).wf = true) (c2 : n2 ≤ q2) (m2 : q2 ≤ maxLen) (s2 : SliceG Try.prog w 5 A2 n2 g2) :
    Calls Try.prog 8 #[.int .i64 a0, .int .i64 a1, .slice A2 n2 q2] w fun e w' => e = .returned (.bool true) ∧ Below w.heap.size w w' := by
  obtain ⟨c, d, hc, hd, hsm⟩ := small_any a0 a1
  exact walk_any a0 a1 A2 n2 q2 _ c d w (bytes_of_slice s2).1 hc hd hsm
end Go.Proofs.Ytoiblpncofbdpaa.rasterMapOnce
