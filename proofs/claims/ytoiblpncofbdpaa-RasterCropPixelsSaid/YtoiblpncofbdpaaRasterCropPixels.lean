/-
  The walk of the law RasterCropPixels: Crop returns the pixels of a part, and At one pixel.
-/
import Derived.Test.YtoiblpncofbdpaaKnown
import Derived.Test.YtoiblpncofbdpaaSmallW
import Derived.Test.YtoiblpncofbdpaaCrop
import Derived.Test.YtoiblpncofbdpaaBytes
namespace Go.Proofs.Ytoiblpncofbdpaa.rasterCropPixels
open Go.RowKit

set_option maxRecDepth 20000 in
set_option maxHeartbeats 4000000 in
theorem walk_in (a0 a1 : Int) (A : Option Addr) (n cap : Nat) (g : Nat → Int) (X Y cw ch c d : Nat) (w : World) (hA : BytesAt w A n g) (hc : 1 ≤ c ∧ c ≤ 8) (hd : 1 ≤ d ∧ d ≤ 8)
    (hsm : ∀ (A : Option Addr) (n cap : Nat) (g : Nat → Int) (w : World), BytesAt w A n g →
      Calls Try.prog 30 #[.int .i64 a0, .int .i64 a1, .slice A n cap] w fun e w' => ∃ (B : Option Addr) (q : Nat) (f : Nat → Int), e = .returned (.agg #[.int .i64 c, .int .i64 d, .slice B (c * d) q]) ∧ (c * d ≤ q ∧ q ≤ 9223372036854775807) ∧ BytesAt w' B (c * d) f ∧ (∀ i, i < c * d → 0 ≤ f i ∧ f i ≤ 255) ∧ Below w.heap.size w w')
    (hw : 1 ≤ cw ∧ X + cw ≤ c) (hh : 1 ≤ ch ∧ Y + ch ≤ d) :
    Calls Try.prog 11 #[.int .i64 a0, .int .i64 a1, .slice A n cap, .int .i64 X, .int .i64 Y, .int .i64 cw, .int .i64 ch] w fun e w' => e = .returned (.bool true) ∧ Below w.heap.size w w' := by
  have i1 : inB cw 1 c = true := inB_yes (by omega)
  have i2 : inB ch 1 d = true := inB_yes (by omega)
  have i3 : inB X 0 ((c : Int) - cw) = true := inB_yes (by omega)
  have i4 : inB Y 0 ((d : Int) - ch) = true := inB_yes (by omega)
  have HA : Hid _ := hA
  have HS : Hid _ := hsm
  clear hA hsm
  have hcd : 1 ≤ c * d := Nat.mul_le_mul hc.1 hd.1
  have hcd2 : c * d ≤ 64 := Nat.mul_le_mul hc.2 hd.2
  have hm2 : cw * ch ≤ 64 := Nat.mul_le_mul (show cw ≤ 8 by omega) (show ch ≤ 8 by omega)
  have hm1 : 1 ≤ cw * ch := Nat.mul_le_mul hw.1 hh.1
  go_enter Try.func11, Try.ntmps11
  go_wp2_with fail
  refine (known_any _).mono ?_
  rintro e w1 ⟨rfl, hb1⟩
  go_wp2_with fail
  refine (HS.out A n cap g _ (BytesAt.below HA.out hb1)).mono ?_
  rintro e w2 ⟨B, q, f, rfl, hq, hB, hf, hb2⟩
  have b2 : Hid (Below w.heap.size w w2) := show Below w.heap.size w w2 from hb1.trans (hb2.mono hb1.size)
  have HF : Hid _ := hf
  obtain ⟨b, off, rfl, hbs, hpx⟩ := hB (by omega)
  have HP : Hid _ := hpx
  clear hb1 hb2 hB hf hpx
  go_wp2_with fail
  refine (Crop_in c d X Y cw ch q b off f _ ⟨hc.1, by omega⟩ ⟨hd.1, by omega⟩ hw hh (by simp only [World.size_alloc]; omega) (fun i hi => ?_) HF.out).mono ?_
  · have hBw : Below w2.heap.size w2 (w2.alloc (.cells #[.int .i64 c, .int .i64 d, .slice (some ⟨b, off, none⟩) (c * d) q] 56)) := (Below.refl _ _).alloc (Nat.le_refl _) _
    exact (hBw.cell (p := ⟨b, _, none⟩) hbs).trans (HP.out i hi)
  rintro e w3 ⟨C, rfl, hb3, hC⟩
  obtain ⟨b', off', rfl, hbs', hpc⟩ := hC (by omega)
  have b3 : Hid (Below w2.heap.size w2 w3) := show Below w2.heap.size w2 w3 from step_le hb3 (by (repeat' (with_reducible first | exact Below.refl _ _ | refine past_le ?_ ?_ _ | refine Below.alloc ?_ ?_ _ | refine Below.drew ?_ | refine drewN_le ?_ _ | refine Below.setCell ?_ ?_ _ | refine step_le (by assumption) ?_ ?_ | omega | (simp only []; omega) | (simp only [World.size_alloc]; omega) | (simp only [World.size_setCell]; omega) | (simp only [World.size_drew]; omega) | (simp only [World.size_alloc, World.size_setCell]; omega) | (simp only [World.size_alloc, World.size_drew]; omega) | (simp only [World.size_setCell, World.size_drew]; omega) | (simp only [World.size_alloc, World.size_setCell, World.size_drew]; omega)))) (by simp only [World.size_alloc]; omega)
  obtain ⟨hc3, hf3, hz3⟩ := bcell hb3
  simp only [World.size_alloc] at hc3 hf3 hz3
  have hg3 : ∀ o, w3.cell? ⟨w2.heap.size, o, none⟩ = #[Value.int .i64 c, .int .i64 d, .slice (some ⟨b, off, none⟩) (c * d) q][o]? := fun o => by
    rw [hc3, if_pos (by omega)]; simp [go_sem]
  have HC : Hid _ := hpc
  clear hb3 hC hpc hc3 hf3
  go_wp2_with (first | (go_at_call 22; refine (In_any _ _ _ _).mono ?_; rintro e w' ⟨rfl, rfl⟩))
  obtain ⟨W4, hW4⟩ : ∃ W4, W4 = w3.alloc (.cells #[.int .i64 cw, .int .i64 ch, .slice (some ⟨b', off', none⟩) (cw * ch) (cw * ch)] 56) := ⟨_, rfl⟩
  rw [← hW4]
  have B34 : Below w3.heap.size w3 W4 := by rw [hW4]; exact (Below.refl _ _).alloc (Nat.le_refl _) _
  have hs4 : w3.heap.size + 1 ≤ W4.heap.size := by rw [hW4]; simp
  have hg4 : Hid (∀ o, W4.cell? ⟨w2.heap.size, o, none⟩ = #[Value.int .i64 c, .int .i64 d, .slice (some ⟨b, off, none⟩) (c * d) q][o]?) := fun o => (B34.cell (p := ⟨w2.heap.size, o, none⟩) (by show w2.heap.size < _; omega)).trans (hg3 o)
  have hc4 : Hid (∀ o, W4.cell? ⟨w3.heap.size, o, none⟩ = #[Value.int .i64 cw, .int .i64 ch, .slice (some ⟨b', off', none⟩) (cw * ch) (cw * ch)][o]?) := fun o => by rw [hW4]; simp [go_sem]
  have HP4 : Hid (∀ i, i < c * d → W4.cell? ⟨b, off + i, none⟩ = some (.int .u8 (f i))) := fun i hi => (B34.cell (p := ⟨b, off + i, none⟩) (by show b < _; omega)).trans ((b3.out.cell (p := ⟨b, off + i, none⟩) hbs).trans (HP.out i hi))
  have HC4 : Hid (∀ i, i < cw * ch → W4.cell? ⟨b', off' + i, none⟩ = some (.int .u8 (f ((Y + i / cw) * c + (X + i % cw))))) := fun i hi => (B34.cell (p := ⟨b', off' + i, none⟩) hbs').trans (HC.out i hi)
  have b4 : Hid (Below w.heap.size w W4) := show Below w.heap.size w W4 from (b2.out.trans (b3.out.mono b2.out.size)).trans (B34.mono (Nat.le_trans b2.out.size b3.out.size))
  clear hW4 B34 hg3 HP HC b2 b3
  go_loopw [18] (fun v wr => ∃ j : Nat, j ≤ ch ∧ v = .int .i64 j ∧ Below W4.heap.size W4 wr) (fun v _ => ch - (intOf v).toNat)
  case atStart => exact ⟨0, Nat.zero_le _, rfl, Below.refl _ _⟩
  case round =>
    obtain ⟨j, hj, rfl, hB⟩ := hrel
    have hBH : Hid _ := hB
    have hzr := hB.size
    clear hB
    by_cases hlj : j < ch
    · go_wp2_with fail
      go_loopw [19] (fun v wr => ∃ i : Nat, i ≤ cw ∧ v = .int .i64 i ∧ Below W4.heap.size W4 wr) (fun v _ => cw - (intOf v).toNat)
      case atStart => exact ⟨0, Nat.zero_le _, rfl, hBH.out⟩
      case round =>
        obtain ⟨i, hi, rfl, hB1⟩ := hrel
        have hB1H : Hid _ := hB1
        have hzr1 := hB1.size
        have hcr : ∀ o, _ := fun o => (hB1.cell (p := ⟨w3.heap.size, o, none⟩) (by show w3.heap.size < _; omega)).trans (hc4.out o)
        have hgr : ∀ o, _ := fun o => (hB1.cell (p := ⟨w2.heap.size, o, none⟩) (by show w2.heap.size < _; omega)).trans (hg4.out o)
        clear hB1
        by_cases hli : i < cw
        · have hk : (Y + j) * c + (X + i) < c * d := idx_lt (by omega) (by omega)
          have h0 := (hB1H.out.cell (p := ⟨b, off + ((Y + j) * c + (X + i)), none⟩) (by show b < _; omega)).trans (HP4.out _ hk)
          have hAt : Hid (∀ wr', Below W4.heap.size W4 wr' → Calls Try.prog 40 #[.agg #[.int .i64 cw, .int .i64 ch, .slice (some ⟨b', off', none⟩) (cw * ch) (cw * ch)], .int .i64 i, .int .i64 j] wr' fun e w' => e = .returned (.tuple #[.int .u8 (f ((Y + j) * c + (X + i))), .int .i64 0]) ∧ Below wr'.heap.size wr' w') := fun wr' hwr => by
            have := At_in cw ch i j (cw * ch) b' off' (fun i => f ((Y + i / cw) * c + (X + i % cw))) wr' ⟨hw.1, by omega⟩ ⟨hh.1, by omega⟩ hli hlj (Nat.lt_of_lt_of_le hbs' (Nat.le_trans (by omega) hwr.size)) (fun t ht => (hwr.cell (p := ⟨b', off' + t, none⟩) (by show b' < _; omega)).trans (HC4.out t ht))
            have e : (j * cw + i) / cw = j ∧ (j * cw + i) % cw = i := by
              rw [show j * cw + i = i + cw * j by rw [Nat.mul_comm, Nat.add_comm], Nat.add_mul_mod_self_left, Nat.mod_eq_of_lt hli, Nat.add_mul_div_left _ _ (by omega), Nat.div_eq_of_lt hli, Nat.zero_add]
              exact ⟨rfl, rfl⟩
            simpa only [e.1, e.2] using this
          have e1 : ((Y : Int) + j) * c = (((Y + j) * c : Nat) : Int) := by rw [Int.natCast_mul, Int.natCast_add]
          generalize (Y + j) * c = qq at *
          have e2 : (qq : Int) + X + i = ((qq + (X + i) : Nat) : Int) := by omega
          generalize qq + (X + i) = kk at *
          generalize c * d = m1 at *
          generalize cw * ch = m2 at *
          go_wp2_with fail
          refine (hAt.out _ hB1H.out).mono ?_
          rintro e w' ⟨rfl, hb5⟩
          have hB5 : Hid (Below W4.heap.size W4 w') := show Below W4.heap.size W4 w' from hB1H.out.trans (hb5.mono hB1H.out.size)
          have hz5 := hb5.size
          have hgr5 : ∀ o, _ := fun o => (hb5.cell (p := ⟨w2.heap.size, o, none⟩) (by show w2.heap.size < _; omega)).trans (hgr o)
          have h05 := (hb5.cell (p := ⟨b, off + kk, none⟩) (by show b < _; omega)).trans h0
          clear hb5 hgr h0 hcr
          go_wp2_with fail
          go_roundw
          case rel => exact ⟨i + 1, by omega, by go_num, hB5.out⟩
          case measure => simp [intOf]; omega
        · have : i = cw := by omega
          subst this
          go_wp2_with fail
          go_roundw
          case rel => exact ⟨j + 1, by omega, by go_num, hB1H.out⟩
          case measure => simp [intOf]; omega
    · have : j = ch := by omega
      subst this
      have hcr : ∀ o, _ := fun o => (hBH.out.cell (p := ⟨w3.heap.size, o, none⟩) (by show w3.heap.size < _; omega)).trans (hc4.out o)
      have hAt : Hid _ := At_no cw j cw 0 (cw * j) b' off' wr ⟨hw.1, by omega⟩ ⟨hh.1, by omega⟩ (Nat.le_refl _)
      generalize cw * j = m2 at *
      go_wp2_with fail
      refine Calls.mono hAt.out ?_
      rintro e w' ⟨rfl, hb5⟩
      have hB5 : Hid (Below w.heap.size w w') := show Below w.heap.size w w' from (b4.out.trans (hBH.out.mono b4.out.size)).trans (hb5.mono (Nat.le_trans b4.out.size hBH.out.size))
      clear hb5
      go_wp2_with fail
      go_ret
      exact ⟨by simp, hB5.out⟩
theorem no_in {x l h : Int} (k : inB x l h = false) : x < l ∨ h < x := by
  have : ¬(l ≤ x ∧ x ≤ h) := fun hh => by rw [inB_yes hh] at k; cases k
  omega
set_option maxRecDepth 20000 in
set_option maxHeartbeats 4000000 in
theorem walk_out (a0 a1 : Int) (A : Option Addr) (n cap : Nat) (g : Nat → Int) (x y cw ch : Int) (c d : Nat) (w : World) (hA : BytesAt w A n g) (hc : 1 ≤ c ∧ c ≤ 8) (hd : 1 ≤ d ∧ d ≤ 8)
    (hsm : ∀ (A : Option Addr) (n cap : Nat) (g : Nat → Int) (w : World), BytesAt w A n g →
      Calls Try.prog 30 #[.int .i64 a0, .int .i64 a1, .slice A n cap] w fun e w' => ∃ (B : Option Addr) (q : Nat) (f : Nat → Int), e = .returned (.agg #[.int .i64 c, .int .i64 d, .slice B (c * d) q]) ∧ (c * d ≤ q ∧ q ≤ 9223372036854775807) ∧ BytesAt w' B (c * d) f ∧ (∀ i, i < c * d → 0 ≤ f i ∧ f i ≤ 255) ∧ Below w.heap.size w w')
    (h : inB cw 1 c = false ∨ (inB cw 1 c = true ∧ inB ch 1 d = false) ∨ (inB cw 1 c = true ∧ inB ch 1 d = true ∧ inB x 0 ((c : Int) - cw) = false) ∨ (inB cw 1 c = true ∧ inB ch 1 d = true ∧ inB x 0 ((c : Int) - cw) = true ∧ inB y 0 ((d : Int) - ch) = false)) :
    Calls Try.prog 11 #[.int .i64 a0, .int .i64 a1, .slice A n cap, .int .i64 x, .int .i64 y, .int .i64 cw, .int .i64 ch] w fun e w' => e = .returned (.bool true) ∧ Below w.heap.size w w' := by
  have HD : Hid (cw < 1 ∨ ch < 1 ∨ x < 0 ∨ y < 0 ∨ (c : Int) < cw ∨ (d : Int) < ch ∨ (c : Int) - cw < x ∨ (d : Int) - ch < y) := by
    show cw < 1 ∨ ch < 1 ∨ x < 0 ∨ y < 0 ∨ (c : Int) < cw ∨ (d : Int) < ch ∨ (c : Int) - cw < x ∨ (d : Int) - ch < y
    rcases h with h | ⟨_, h⟩ | ⟨_, _, h⟩ | ⟨_, _, _, h⟩
    all_goals
      have := no_in h
      omega
  have HA : Hid _ := hA
  have HS : Hid _ := hsm
  clear hA hsm
  have hcd : 1 ≤ c * d := Nat.mul_le_mul hc.1 hd.1
  rcases h with h1 | ⟨h1, h2⟩ | ⟨h1, h2, h3⟩ | ⟨h1, h2, h3, h4⟩
  all_goals
    try have h1' := inB_iff.1 h1
    try have h2' := inB_iff.1 h2
    go_enter Try.func11, Try.ntmps11
    go_wp2_with fail
    refine (known_any _).mono ?_
    rintro e w1 ⟨rfl, hb1⟩
    go_wp2_with fail
    refine (HS.out A n cap g _ (BytesAt.below HA.out hb1)).mono ?_
    rintro e w2 ⟨B, q, f, rfl, hq, hB, hf, hb2⟩
    have b2 : Hid (Below w.heap.size w w2) := show Below w.heap.size w w2 from hb1.trans (hb2.mono hb1.size)
    obtain ⟨b, off, rfl, hbs, hpx⟩ := hB (by omega)
    clear hb1 hb2 hB hf hpx
    go_wp2_with fail
    refine (Crop_no c d q b off x y cw ch _ ⟨hc.1, by omega⟩ ⟨hd.1, by omega⟩ HD.out).mono ?_
    rintro e w3 ⟨rfl, hb3⟩
    have b3 : Hid (Below w2.heap.size w2 w3) := show Below w2.heap.size w2 w3 from step_le hb3 (by (repeat' (with_reducible first | exact Below.refl _ _ | refine past_le ?_ ?_ _ | refine Below.alloc ?_ ?_ _ | refine Below.drew ?_ | refine drewN_le ?_ _ | refine Below.setCell ?_ ?_ _ | refine step_le (by assumption) ?_ ?_ | omega | (simp only []; omega) | (simp only [World.size_alloc]; omega) | (simp only [World.size_setCell]; omega) | (simp only [World.size_drew]; omega) | (simp only [World.size_alloc, World.size_setCell]; omega) | (simp only [World.size_alloc, World.size_drew]; omega) | (simp only [World.size_setCell, World.size_drew]; omega) | (simp only [World.size_alloc, World.size_setCell, World.size_drew]; omega)))) (by simp only [World.size_alloc]; omega)
    obtain ⟨hc3, hf3, hz3⟩ := bcell hb3
    simp only [World.size_alloc] at hc3 hf3 hz3
    have hg3 : ∀ o, w3.cell? ⟨w2.heap.size, o, none⟩ = #[Value.int .i64 c, .int .i64 d, .slice (some ⟨b, off, none⟩) (c * d) q][o]? := fun o => by
      rw [hc3, if_pos (by omega)]; simp [go_sem]
    clear hb3 hc3 hf3
    go_wp2_with (first | (go_at_call 22; refine (In_any _ _ _ _).mono ?_; rintro e w' ⟨rfl, rfl⟩))
    go_ret
    exact ⟨by simp, ((b2.out.trans (b3.out.mono b2.out.size))).alloc (Nat.le_trans b2.out.size b3.out.size) _⟩
set_option linter.unusedVariables false in
theorem walk (a0 : Int) (a1 : Int) (A2 : Option Addr) (n2 : Nat) (q2 : Nat) (g2 : Nat → Nat → Value) (a3 : Int) (a4 : Int) (a5 : Int) (a6 : Int) (w : World) (w0 : (Lit.int .i64 a0).wf = true) (w1 : (Lit.int .i64 a1).wf = true) (c2 : n2 ≤ q2) (m2 : q2 ≤ maxLen) (s2 : SliceG Try.prog w 5 A2 n2 g2) (w3 : (Lit.int .i64 a3).wf = true) (w4 : (Lit.int .i64 a4).wf = true) (w5 : (Lit.int .i64 a5).wf = true) (w6 : (Lit.int .i64 a6).wf = true) :
    Calls Try.prog 11 #[.int .i64 a0, .int .i64 a1, .slice A2 n2 q2, .int .i64 a3, .int .i64 a4, .int .i64 a5, .int .i64 a6] w fun e w' => e = .returned (.bool true) ∧ Below w.heap.size w w' := by
  clear w0 w1 w3 w4 w5 w6
  obtain ⟨c, d, hc, hd, hsm⟩ := small_any a0 a1
  have hA := (bytes_of_slice s2).1
  by_cases h1 : inB a5 1 c = true
  · by_cases h2 : inB a6 1 d = true
    · by_cases h3 : inB a3 0 ((c : Int) - a5) = true
      · by_cases h4 : inB a4 0 ((d : Int) - a6) = true
        · have k1 := inB_iff.1 h1
          have k2 := inB_iff.1 h2
          have k3 := inB_iff.1 h3
          have k4 := inB_iff.1 h4
          obtain ⟨X, rfl⟩ : ∃ X : Nat, a3 = X := ⟨a3.toNat, by omega⟩
          obtain ⟨Y, rfl⟩ : ∃ X : Nat, a4 = X := ⟨a4.toNat, by omega⟩
          obtain ⟨cw, rfl⟩ : ∃ X : Nat, a5 = X := ⟨a5.toNat, by omega⟩
          obtain ⟨ch, rfl⟩ : ∃ X : Nat, a6 = X := ⟨a6.toNat, by omega⟩
          exact walk_in a0 a1 A2 n2 q2 _ X Y cw ch c d w hA hc hd hsm (by omega) (by omega)
        · exact walk_out a0 a1 A2 n2 q2 _ a3 a4 a5 a6 c d w hA hc hd hsm (.inr (.inr (.inr ⟨h1, h2, h3, by simpa using h4⟩)))
      · exact walk_out a0 a1 A2 n2 q2 _ a3 a4 a5 a6 c d w hA hc hd hsm (.inr (.inr (.inl ⟨h1, h2, by simpa using h3⟩)))
    · exact walk_out a0 a1 A2 n2 q2 _ a3 a4 a5 a6 c d w hA hc hd hsm (.inr (.inl ⟨h1, by simpa using h2⟩))
  · exact walk_out a0 a1 A2 n2 q2 _ a3 a4 a5 a6 c d w hA hc hd hsm (.inl (by simpa using h1))
end Go.Proofs.Ytoiblpncofbdpaa.rasterCropPixels
