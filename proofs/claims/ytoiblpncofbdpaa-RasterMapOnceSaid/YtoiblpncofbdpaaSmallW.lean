/-
  The contract of the law's helper small: the walk.
-/
import Derived.Test.YtoiblpncofbdpaaSmall
namespace Go.Proofs.Ytoiblpncofbdpaa
open Go.RowKit

theorem cut8 (x : Int) : ∃ c : Nat, (1 ≤ c ∧ c ≤ 8) ∧ ∀ w, Calls Try.prog 28 #[.int .i64 x, .int .i64 1, .int .i64 8] w fun e w' => e = .returned (.int .i64 c) ∧ w = w' := by
  have hb := emod_bd x 8 (by omega)
  refine ⟨(1 + x % 8).toNat, by omega, fun w => ?_⟩
  rw [Int.toNat_of_nonneg (by omega)]
  exact cut_any x 1 8 w (by omega)
theorem u8_info : ∃ i, Try.prog.info? 5 = some i ∧ i.zero = some (.int .u8 0) ∧ i.size = 1 ∧ i.bytes = 1 := by
  obtain ⟨i, hi⟩ : ∃ i, Try.prog.info? 5 = some i := Option.isSome_iff_exists.1 (by kernel_rfl)
  have h1 : (Try.prog.info? 5).map (fun i => (i.size, i.bytes)) = some (1, 1) := by kernel_rfl
  have h2 : (Try.prog.info? 5).bind (fun i => i.zero) = some (.int .u8 0) := by kernel_rfl
  rw [hi] at h1 h2
  simp at h1 h2
  exact ⟨i, hi, h2, h1.1, h1.2⟩
set_option maxRecDepth 20000 in
set_option maxHeartbeats 4000000 in
theorem small_no (x y : Int) (c d : Nat) (hc : 1 ≤ c ∧ c ≤ 8) (hd : 1 ≤ d ∧ d ≤ 8) (hcut : ∀ w, Calls Try.prog 28 #[.int .i64 x, .int .i64 1, .int .i64 8] w fun e w' => e = .returned (.int .i64 c) ∧ w = w') (hdut : ∀ w, Calls Try.prog 28 #[.int .i64 y, .int .i64 1, .int .i64 8] w fun e w' => e = .returned (.int .i64 d) ∧ w = w') (A : Option Addr) (cap : Nat) (w : World) :
    Calls Try.prog 30 #[.int .i64 x, .int .i64 y, .slice A 0 cap] w fun e w' => ∃ (B : Option Addr) (q : Nat) (f : Nat → Int), e = .returned (.agg #[.int .i64 c, .int .i64 d, .slice B (c * d) q]) ∧ (c * d ≤ q ∧ q ≤ 9223372036854775807) ∧ BytesAt w' B (c * d) f ∧ (∀ i, i < c * d → 0 ≤ f i ∧ f i ≤ 255) ∧ Below w.heap.size w w' := by
  have hcd : c * d ≤ 64 := Nat.mul_le_mul hc.2 hd.2
  have hcd1 : 1 ≤ c * d := Nat.mul_le_mul hc.1 hd.1
  have hci : (c : Int) * d = ((c * d : Nat) : Int) := (Int.natCast_mul c d).symm
  have HM : Hid (∃ m, m = c * d) := ⟨_, rfl⟩
  generalize hM : c * d = m at hcd hcd1 hci
  have hMH : Hid _ := hM
  clear hM
  have H1 : Hid _ := hcut
  have H2 : Hid _ := hdut
  obtain ⟨i, hi, hi2⟩ := u8_info
  have hiH : Hid _ := hi
  have hi2H : Hid _ := hi2
  clear hcut hdut hi hi2
  go_enter Try.func30, Try.ntmps30
  go_wp2_with fail
  refine (H1.out _).mono ?_
  rintro e w' ⟨rfl, rfl⟩
  go_wp2_with fail
  refine (H2.out _).mono ?_
  rintro e w' ⟨rfl, rfl⟩
  go_wp2_with fail
  have hB0 : Hid _ := Grows.start (W := w) (t := 5) (c := c) (d := d) 56
  go_loopw [8] (fun i wr => ∃ (v : Value) (vs : List Int), vs.length ≤ m ∧ i = .int .i64 vs.length ∧ Grows w wr 5 c d v vs) (fun i _ => m - (intOf i).toNat)
  case atStart => exact ⟨_, [], Nat.zero_le _, rfl, hB0.out⟩
  case round =>
    obtain ⟨v, vs, hk, rfl, hB⟩ := hrel
    have hg := hB.grid
    have hgF := hB.gridF
    have hsz := hB.size
    have HB : Hid _ := hB
    clear hB hB0
    by_cases hlt : vs.length < m
    · go_wp2_with (first | (at_builtin; refine wpList_append_own _ rfl _ _ 28 rfl (w.heap.size + 2) 5 i (.int .u8 0) 1 1 Try.underlying28 hiH.out hi2H.out.1 hi2H.out.2.1 hi2H.out.2.2 rfl (by decide) v vs.length (vs.map (Value.int .u8)) rfl (ownsRow_below HB.out.own (by (repeat' (with_reducible first | exact Below.refl _ _ | refine past_le ?_ ?_ _ | refine Below.alloc ?_ ?_ _ | refine Below.drew ?_ | refine drewN_le ?_ _ | refine Below.setCell ?_ ?_ _ | refine step_le (by assumption) ?_ ?_ | omega | (simp only []; omega) | (simp only [World.size_alloc]; omega) | (simp only [World.size_setCell]; omega) | (simp only [World.size_drew]; omega) | (simp only [World.size_alloc, World.size_setCell]; omega) | (simp only [World.size_alloc, World.size_drew]; omega) | (simp only [World.size_setCell, World.size_drew]; omega) | (simp only [World.size_alloc, World.size_setCell, World.size_drew]; omega))))) ⟨wr.heap.size, 0, none⟩ 1 1 [.int .u8 vs.length] rfl rfl ?_ ?_ ?_ ?_ ?_ ?_))
      · intro j u hj
        match j, hj with
        | 0, hj => simp at hj; subst hj; simp [Addr.add, go_sem]
      · intro u hu; simp at hu; subst hu; rfl
      · unfold maxLen; omega
      · omega
      · simp only [World.size_alloc]; omega
      intro v' w2 hown hgrow _
      have hbl : Below wr.heap.size wr (wr.alloc (.cells #[.int .u8 vs.length] 5)) := (Below.refl _ _).alloc (Nat.le_refl _) _
      obtain ⟨hg2, hgF2⟩ := HB.out.mid hbl hgrow
      have HN : Hid _ := HB.out.next hbl (by omega) hown hgrow
      have hex : ∃ g q, v' = .slice (some ⟨g, 0, none⟩) (vs.length + 1) q := by
        rcases hown.2 with ⟨_, h2⟩ | ⟨g, q, cur, h1, _⟩
        · omega
        · exact ⟨g, q, h1⟩
      obtain ⟨g', q', hv'⟩ := hex
      rw [hv'] at HN ⊢
      clear hown hgrow hg hgF hbl hv'
      go_wp2_with fail
      go_roundw
      case rel => exact ⟨_, vs ++ [(vs.length : Int)], by simp; omega, by simp, HN.out⟩
      case measure => simp [intOf]; omega
    · have hkm : vs.length = m := by omega
      have hb := HB.out.box
      have hbF := HB.out.boxF
      obtain ⟨B, q, rfl, hq1, hq2, b, hBb, hbb, hpx⟩ := HB.out.slice (by omega)
      have hpH : Hid _ := hpx
      clear hpx
      go_wp2_with fail
      refine bodyPost_ret (by simp [results, Try.results30, go_sem, hb]; try rfl) rfl ?_
      have hB1 := HB.out.below
      refine ⟨some ⟨b, 0, none⟩, q, fun j => vs.getD j 0, by rw [← hkm], by rw [← hkm]; exact ⟨hq1, hq2⟩, ?_, ?_, ((hB1.setCell (Nat.le_refl _) _).setCell (Nat.le_refl _) _).setCell (Nat.le_refl _) _⟩
      · rw [← hkm]
        refine bytes_of_cells0 fun j hj => ?_
        rw [cell_setCell_if, if_neg (by omega), cell_setCell_if, if_neg (by omega), cell_setCell_if, if_neg (by omega)]
        exact hpH.out j hj
      · rw [← hkm]
        intro j hj
        have : vs.getD j 0 ∈ vs := by simp [hj]
        exact HB.out.bytes _ this
set_option maxRecDepth 20000 in
set_option maxHeartbeats 4000000 in
theorem small_yes (x y : Int) (c d : Nat) (hc : 1 ≤ c ∧ c ≤ 8) (hd : 1 ≤ d ∧ d ≤ 8) (hcut : ∀ w, Calls Try.prog 28 #[.int .i64 x, .int .i64 1, .int .i64 8] w fun e w' => e = .returned (.int .i64 c) ∧ w = w') (hdut : ∀ w, Calls Try.prog 28 #[.int .i64 y, .int .i64 1, .int .i64 8] w fun e w' => e = .returned (.int .i64 d) ∧ w = w') (A : Option Addr) (n cap : Nat) (g : Nat → Int) (w : World) (hn : 1 ≤ n) (hp : BytesAt w A n g) :
    Calls Try.prog 30 #[.int .i64 x, .int .i64 y, .slice A n cap] w fun e w' => ∃ (B : Option Addr) (q : Nat) (f : Nat → Int), e = .returned (.agg #[.int .i64 c, .int .i64 d, .slice B (c * d) q]) ∧ (c * d ≤ q ∧ q ≤ 9223372036854775807) ∧ BytesAt w' B (c * d) f ∧ (∀ i, i < c * d → 0 ≤ f i ∧ f i ≤ 255) ∧ Below w.heap.size w w' := by
  have hcd : c * d ≤ 64 := Nat.mul_le_mul hc.2 hd.2
  have hcd1 : 1 ≤ c * d := Nat.mul_le_mul hc.1 hd.1
  have hci : (c : Int) * d = ((c * d : Nat) : Int) := (Int.natCast_mul c d).symm
  have HM : Hid (∃ m, m = c * d) := ⟨_, rfl⟩
  generalize hM : c * d = m at hcd hcd1 hci
  have hMH : Hid _ := hM
  clear hM
  have H1 : Hid _ := hcut
  have H2 : Hid _ := hdut
  obtain ⟨i, hi, hi2⟩ := u8_info
  have hiH : Hid _ := hi
  have hi2H : Hid _ := hi2
  have hpH0 : Hid _ := hp
  clear hcut hdut hi hi2 hp
  go_enter Try.func30, Try.ntmps30
  go_wp2_with fail
  refine (H1.out _).mono ?_
  rintro e w' ⟨rfl, rfl⟩
  go_wp2_with fail
  refine (H2.out _).mono ?_
  rintro e w' ⟨rfl, rfl⟩
  go_wp2_with fail
  have hB0 : Hid _ := Grows.start (W := w) (t := 5) (c := c) (d := d) 56
  go_loopw [8] (fun i wr => ∃ (v : Value) (vs : List Int), vs.length ≤ m ∧ i = .int .i64 vs.length ∧ Grows w wr 5 c d v vs) (fun i _ => m - (intOf i).toNat)
  case atStart => exact ⟨_, [], Nat.zero_le _, rfl, hB0.out⟩
  case round =>
    obtain ⟨v, vs, hk, rfl, hB⟩ := hrel
    have hg := hB.grid
    have hgF := hB.gridF
    have hsz := hB.size
    have HB : Hid _ := hB
    clear hB hB0
    by_cases hlt : vs.length < m
    · obtain ⟨b0, off0, rfl, hb0, hpx0⟩ := BytesAt.below hpH0.out HB.out.below (by omega)
      have e0 := hpx0 (vs.length % n) (Nat.mod_lt _ (by omega))
      have e1 : (vs.length : Int).tmod n = ((vs.length % n : Nat) : Int) := by rw [Int.tmod_eq_emod_of_nonneg (by omega)]; simp
      have e2 : (vs.length : Int).tdiv n = ((vs.length / n : Nat) : Int) := by rw [Int.tdiv_eq_ediv_of_nonneg (by omega)]; simp
      have e3 := Nat.mod_lt vs.length (show n > 0 by omega)
      have e4 : vs.length / n ≤ vs.length := Nat.div_le_self _ _
      clear hpx0
      generalize vs.length % n = mo at *
      generalize vs.length / n = qu at *
      go_wp2_with fail
      go_quiet (fail)
      have hdz : (wr.drewN nq).heap.size = wr.heap.size := rfl
      have hrb : 0 ≤ (g mo + (qu : Int)) % 256 ∧ (g mo + (qu : Int)) % 256 ≤ 255 := by omega
      generalize (g mo + (qu : Int)) % 256 = r at *
      go_wp2_with (first | (at_builtin; refine wpList_append_own _ rfl _ _ 28 rfl (w.heap.size + 2) 5 i (.int .u8 0) 1 1 Try.underlying28 hiH.out hi2H.out.1 hi2H.out.2.1 hi2H.out.2.2 rfl (by decide) v vs.length (vs.map (Value.int .u8)) rfl (ownsRow_below HB.out.own (by (repeat' (with_reducible first | exact Below.refl _ _ | refine past_le ?_ ?_ _ | refine Below.alloc ?_ ?_ _ | refine Below.drew ?_ | refine drewN_le ?_ _ | refine Below.setCell ?_ ?_ _ | refine step_le (by assumption) ?_ ?_ | omega | (simp only []; omega) | (simp only [World.size_alloc]; omega) | (simp only [World.size_setCell]; omega) | (simp only [World.size_drew]; omega) | (simp only [World.size_alloc, World.size_setCell]; omega) | (simp only [World.size_alloc, World.size_drew]; omega) | (simp only [World.size_setCell, World.size_drew]; omega) | (simp only [World.size_alloc, World.size_setCell, World.size_drew]; omega))))) ⟨wr.heap.size, 0, none⟩ 1 1 [.int .u8 r] rfl rfl ?_ ?_ ?_ ?_ ?_ ?_))
      · intro j u hj
        match j, hj with
        | 0, hj => simp at hj; subst hj; simp [Addr.add, go_sem]
      · intro u hu; simp at hu; subst hu; rfl
      · unfold maxLen; omega
      · omega
      · simp only [World.size_alloc]; omega
      intro v' w2 hown hgrow _
      have hbl : Below wr.heap.size wr ((wr.drewN nq).alloc (.cells #[.int .u8 r] 5)) := (drewN_le (Below.refl _ _) _).alloc (Nat.le_refl _) _
      obtain ⟨hg2, hgF2⟩ := HB.out.mid hbl hgrow
      have HN : Hid _ := HB.out.next hbl hrb hown hgrow
      have hex : ∃ g q, v' = .slice (some ⟨g, 0, none⟩) (vs.length + 1) q := by
        rcases hown.2 with ⟨_, h2⟩ | ⟨g, q, cur, h1, _⟩
        · omega
        · exact ⟨g, q, h1⟩
      obtain ⟨g', q', hv'⟩ := hex
      rw [hv'] at HN ⊢
      clear hown hgrow hg hgF hbl hv'
      go_wp2_with fail
      go_roundw
      case rel => exact ⟨_, vs ++ [r], by simp; omega, by simp, HN.out⟩
      case measure => simp [intOf]; omega
    · have hkm : vs.length = m := by omega
      have hb := HB.out.box
      have hbF := HB.out.boxF
      obtain ⟨B, q, rfl, hq1, hq2, b, hBb, hbb, hpx⟩ := HB.out.slice (by omega)
      have hpH : Hid _ := hpx
      clear hpx
      go_wp2_with fail
      refine bodyPost_ret (by simp [results, Try.results30, go_sem, hb]; try rfl) rfl ?_
      have hB1 := HB.out.below
      refine ⟨some ⟨b, 0, none⟩, q, fun j => vs.getD j 0, by rw [← hkm], by rw [← hkm]; exact ⟨hq1, hq2⟩, ?_, ?_, ((hB1.setCell (Nat.le_refl _) _).setCell (Nat.le_refl _) _).setCell (Nat.le_refl _) _⟩
      · rw [← hkm]
        refine bytes_of_cells0 fun j hj => ?_
        rw [cell_setCell_if, if_neg (by omega), cell_setCell_if, if_neg (by omega), cell_setCell_if, if_neg (by omega)]
        exact hpH.out j hj
      · rw [← hkm]
        intro j hj
        have : vs.getD j 0 ∈ vs := by simp [hj]
        exact HB.out.bytes _ this
theorem small_any (x y : Int) : ∃ c d : Nat, (1 ≤ c ∧ c ≤ 8) ∧ (1 ≤ d ∧ d ≤ 8) ∧ ∀ (A : Option Addr) (n cap : Nat) (g : Nat → Int) (w : World), BytesAt w A n g →
    Calls Try.prog 30 #[.int .i64 x, .int .i64 y, .slice A n cap] w fun e w' => ∃ (B : Option Addr) (q : Nat) (f : Nat → Int), e = .returned (.agg #[.int .i64 c, .int .i64 d, .slice B (c * d) q]) ∧ (c * d ≤ q ∧ q ≤ 9223372036854775807) ∧ BytesAt w' B (c * d) f ∧ (∀ i, i < c * d → 0 ≤ f i ∧ f i ≤ 255) ∧ Below w.heap.size w w' := by
  obtain ⟨c, hc, hcut⟩ := cut8 x
  obtain ⟨d, hd, hdut⟩ := cut8 y
  refine ⟨c, d, hc, hd, fun A n cap g w hp => ?_⟩
  rcases Nat.eq_zero_or_pos n with rfl | hn
  · exact small_no x y c d hc hd hcut hdut A cap w
  · exact small_yes x y c d hc hd hcut hdut A n cap g w hn hp
end Go.Proofs.Ytoiblpncofbdpaa
