/-
  ListChecks: the law's walk.
-/
import Derived.Test.YtampdegpfndggaaMrg39
namespace Go.Proofs.Ytampdegpfndggaa.listChecks
open Go.RowKit Go.Deep
set_option linter.unusedVariables false
set_option maxRecDepth 20000
theorem depth_ok {I : Nat → ItemD} {rE sE : Nat → Int} {n : Nat} : DepthOk (fun x => (I x).K) (fun x o => itemE (I x).K (I x).rn (I x).nos (I x).al (I x).bl (I x).ov (I x).iso (I x).kn o (rE x) (sE x)) n := by
  refine ⟨fun x o _ h0 h1 => ?_, fun x o _ h0 h1 => ?_⟩
  · (try dsimp only at h0); (try dsimp only at h1)
    rcases Int.lt_or_le o 16 with h | h
    · exact h
    · unfold itemE at h0
      rw [h1] at h0
      split at h0
      · omega
      · split at h0
        · omega
        · split at h0
          · omega
          · rw [if_pos ⟨rfl, h⟩] at h0
            omega
  · (try dsimp only at h0); (try dsimp only at h1)
    intro h
    unfold itemE at h0
    rw [h1] at h0
    split at h0
    · omega
    · split at h0
      · omega
      · rw [if_pos ⟨rfl, h⟩] at h0
        omega
section
variable {W H : Int} {A B : Option Addr} {m sq n iq : Nat} {gs gi : Nat → Nat → Value} {w : World}
theorem both (hm : m ≤ sq ∧ sq ≤ maxLen) (hn : n ≤ iq ∧ iq ≤ maxLen) (hs : SliceG Try.prog w 9 A m gs) (hi : SliceG Try.prog w 127 B n gi) :
    ∃ e : Int, Gives Try.prog 41 [listA W H A m sq B n iq] (memOf w) (.val (.int .i64 e)) ∧ Gives Try.prog 42 [listA W H A m sq B n iq] (memOf w) (.val (.int .i64 e)) := by
  have m1 : ∀ z, z ≤ maxLen → z ≤ 9223372036854775807 := fun z hz => hz
  have hn1 := m1 _ (Nat.le_trans hn.1 hn.2)
  have hm1 := m1 _ (Nat.le_trans hm.1 hm.2)
  by_cases hm8 : 1 ≤ m ∧ m ≤ 8
  · have key : ∀ x, x < n → ∃ p : Int × Int, ∀ o : Int, 0 ≤ o ∧ o ≤ 16 →
        Gives Try.prog 78 [itemA (itemOf (gi x)), .val (.int .i64 m), .val (.int .i64 o)] (memOf w) (.val (.int .i64 (itemE (itemOf (gi x)).K (itemOf (gi x)).rn (itemOf (gi x)).nos (itemOf (gi x)).al (itemOf (gi x)).bl (itemOf (gi x)).ov (itemOf (gi x)).iso (itemOf (gi x)).kn o p.1 p.2))) ∧
        Gives Try.prog 80 [itemA (itemOf (gi x)), .val (.int .i64 m), .val (.int .i64 o)] (memOf w) (.val (.int .i64 (itemE (itemOf (gi x)).K (itemOf (gi x)).rn (itemOf (gi x)).nos (itemOf (gi x)).al (itemOf (gi x)).bl (itemOf (gi x)).ov (itemOf (gi x)).iso (itemOf (gi x)).kn o p.1 p.2))) := fun x hx => by
      obtain ⟨rE, sE, h⟩ := item_both hm8 (items_ok hi hx)
      exact ⟨(rE, sE), h⟩
    obtain ⟨p, hp⟩ := choose_lt key
    exact ⟨_, ListCheck_prog (strs_m hs) (items_m hi) hm.1 (fun _ x hx o h0 h1 => (hp x hx o ⟨h0, h1⟩).1) (depth_ok (I := fun x => itemOf (gi x)) (rE := fun x => (p x).1) (sE := fun x => (p x).2)) hn1 hm1,
      ListCheck_ref (strs_m hs) (items_m hi) hm.1 (fun _ x hx o h0 h1 => (hp x hx o ⟨h0, h1⟩).2) (depth_ok (I := fun x => itemOf (gi x)) (rE := fun x => (p x).1) (sE := fun x => (p x).2)) hn1 hm1⟩
  · have hd : DepthOk (fun x => (itemOf (gi x)).K) (fun _ _ => 1) n := ⟨fun x o _ h0 _ => absurd h0 (by decide), fun x o _ h0 _ => absurd h0 (by decide)⟩
    exact ⟨_, ListCheck_prog (strs_m hs) (items_m hi) hm.1 (fun h => absurd h hm8) hd hn1 hm1, ListCheck_ref (strs_m hs) (items_m hi) hm.1 (fun h => absurd h hm8) hd hn1 hm1⟩
theorem first_gives : Gives Try.prog 41 [listA 1 1 none 0 0 none 0 0] (memOf w) (.val (.int .i64 2)) :=
  ListCheck_prog (W := 1) (H := 1) (SA := none) (m := 0) (sq := 0) (IA := none) (n := 0) (iq := 0) (S := fun _ => ByteArray.empty) (I := fun _ => itemOf fun _ => undef) (E := fun _ _ => 1) (fun x hx => absurd hx (by omega)) (fun x hx => absurd hx (by omega)) (Nat.le_refl _) (fun h => absurd h (by omega)) ⟨fun x o hx => absurd hx (by omega), fun x o hx => absurd hx (by omega)⟩ (by omega) (by omega)
set_option maxHeartbeats 4000000 in
theorem body (hm : m ≤ sq ∧ sq ≤ maxLen) (hn : n ≤ iq ∧ iq ≤ maxLen) (hs : SliceG Try.prog w 9 A m gs) (hi : SliceG Try.prog w 127 B n gi) :
    bodyV Try.prog tab 0 Try.f11 [listA W H A m sq B n iq] [] (memOf w) fun v _ _ => v = .val (.bool true) := by
  obtain ⟨e, h1, h2⟩ := both (W := W) (H := H) hm hn hs hi
  have hf := first_gives (w := w)
  clear hs hi
  (repeat ((try (conv => whnf)); (first | (with_reducible refine condP_true ?_) | (with_reducible refine condP_false ?_) | (with_reducible refine condP_not ?_) | (with_reducible refine condP_and ?_) | ((with_reducible refine condP_dt ?_ ?_); (· omega)) | ((with_reducible refine condP_df ?_ ?_); (· omega)) | ((with_reducible refine condP_yes ?_ ?_); (· assumption)) | ((with_reducible refine condP_no ?_ ?_); (· assumption)) | ((with_reducible refine ArP_i64 ?_ ?_); (· omega)) | ((with_reducible refine mustP.mk ?_ ?_); (· first | omega | rfl | (dsimp only; omega))) | (with_reducible refine EqP_nil tab_ok ?_) | (with_reducible refine EqP_sli tab_ok ?_) | (with_reducible refine DrawP_auto tab_ok (by kernel_rfl) (by decide +kernel) ?_) | (with_reducible refine DrawP_auto2 tab_ok (by kernel_rfl) (by decide +kernel) ?_) | (with_reducible refine eq29 ?_) | (with_reducible refine eq31 ?_) | (with_reducible refine eq48 ?_) | (with_reducible refine eq52 ?_) | (with_reducible refine eq83 ?_) | (with_reducible refine eq110 ?_) | (with_reducible refine eq136 ?_) | (with_reducible refine eq155 ?_) | (with_reducible refine eq163 ?_) | (with_reducible refine eq170 ?_) | (with_reducible refine CallP_gives (fun vs w => by kernel_rfl) (by kernel_rfl) (hf) ?_) | (with_reducible refine RCallP_gives (fun vs w => by kernel_rfl) (by kernel_rfl) (hf) ?_) | (with_reducible refine CallP_gives (fun vs w => by kernel_rfl) (by kernel_rfl) (h1) ?_) | (with_reducible refine RCallP_gives (fun vs w => by kernel_rfl) (by kernel_rfl) (h1) ?_) | (with_reducible refine CallP_gives (fun vs w => by kernel_rfl) (by kernel_rfl) (h2) ?_) | (with_reducible refine RCallP_gives (fun vs w => by kernel_rfl) (by kernel_rfl) (h2) ?_))))
  conv => whnf
  try simp
end
set_option linter.unusedVariables false in
theorem walk (a0x0 : Int) (a0x1 : Int) (A0x2 : Option Addr) (n0x2 : Nat) (q0x2 : Nat) (g0x2 : Nat → Nat → Value) (A0x3 : Option Addr) (n0x3 : Nat) (q0x3 : Nat) (g0x3 : Nat → Nat → Value) (w : World) (w0x0 : (Lit.int .i64 a0x0).wf = true) (w0x1 : (Lit.int .i64 a0x1).wf = true) (c0x2 : n0x2 ≤ q0x2) (m0x2 : q0x2 ≤ maxLen) (s0x2 : SliceG Try.prog w 9 A0x2 n0x2 g0x2) (c0x3 : n0x3 ≤ q0x3) (m0x3 : q0x3 ≤ maxLen) (s0x3 : SliceG Try.prog w 127 A0x3 n0x3 g0x3) :
    Calls Try.prog 11 #[.agg #[.int .i64 a0x0, .int .i64 a0x1, .slice A0x2 n0x2 q0x2, .slice A0x3 n0x3 q0x3]] w fun e w' => e = .returned (.bool true) ∧ Below w.heap.size w w' := by
  refine walk_of tab_ok Try.func11 ?_ (body (W := a0x0) (H := a0x1) (A := A0x2) (m := n0x2) (sq := q0x2) (gs := g0x2) (B := A0x3) (n := n0x3) (iq := q0x3) (gi := g0x3) ⟨c0x2, m0x2⟩ ⟨c0x3, m0x3⟩ s0x2 s0x3)
  rw [AV.rels]
  refine ⟨_, _, rfl, ?_, rels_map_val []⟩
  rw [AV.rel]
  exact ⟨_, rfl, rels_map_val (β := noName) [.int .i64 a0x0, .int .i64 a0x1, .slice A0x2 n0x2 q0x2, .slice A0x3 n0x3 q0x3]⟩
end Go.Proofs.Ytampdegpfndggaa.listChecks
