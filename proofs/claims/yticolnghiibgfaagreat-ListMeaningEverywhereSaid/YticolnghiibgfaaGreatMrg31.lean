/-
  Merged: XListOk, XListOk2, XListOk3, XWhole, XSpot, XLists, XCut, XTiny.
-/
import Derived.Test.YticolnghiibgfaaGreatMrg30
import Derived.Test.YticolnghiibgfaaGreatMrg25
import Derived.Test.YticolnghiibgfaaGreatMrg18
import Derived.Test.YticolnghiibgfaaGreatMrg22
import Derived.Test.YticolnghiibgfaaGreatMrg24
import Derived.Test.YticolnghiibgfaaGreatMrg29
import Derived.Test.YticolnghiibgfaaGreatMrg14
import Derived.Test.YticolnghiibgfaaGreatMrg21
set_option linter.unusedVariables false
set_option linter.unusedSimpArgs false
set_option linter.unnecessarySimpa false
namespace Go.Proofs.YticolnghiibgfaaGreat
open Go.RowKit
theorem scanE_all {e : Nat → Int} : ∀ {n : Nat}, scanE e n = 0 → ∀ k, k < n → e k = 0
  | 0, _, k, hk => by omega
  | n + 1, h, k, hk => by
    unfold scanE at h
    split at h
    · rename_i h0
      rcases Nat.lt_or_ge k n with h1 | h1
      · exact scanE_all h0 k h1
      · obtain rfl : k = n := by omega
        exact h
    · rename_i h0
      exact absurd h h0
theorem itemE_ok {K : Int} {rn : Nat} {nos : Bool} {al bl : Int} {ov iso kn : Bool} {o rE sE : Int} (h : itemE K rn nos al bl ov iso kn o rE sE = 0) :
    (K = 0 ∨ K = 1 ∨ K = 2) ∧ (K = 2 → o ≠ 0) ∧ (K = 1 → o < 16) ∧ (0 ≤ bl ∧ bl ≤ 11) ∧ (K = 0 → rE = 0 ∧ sE = 0) := by
  unfold itemE at h
  split at h
  · omega
  · rename_i h1
    split at h
    · omega
    · split at h
      · omega
      · rename_i h3
        split at h
        · omega
        · rename_i h4
          split at h
          · omega
          · rename_i h5
            refine ⟨by omega, fun h6 h7 => h3 ⟨h6, h7⟩, fun h6 => Int.not_le.1 fun h7 => h4 ⟨h6, h7⟩, by omega, fun h6 => ?_⟩
            rw [if_neg (by omega)] at h
            split at h
            · rename_i h7; exact absurd h h7
            · rename_i h7; exact ⟨Classical.not_not.1 h7, h⟩
theorem zst_len {K : Nat → Int} {n : Nat} (hK : ∀ k, k < n → K k = 0 ∨ K k = 1 ∨ K k = 2) (hd : ∀ k, k < n → K k = 2 → depthI K k ≠ 0) : ∀ k, k ≤ n → ((zst K k).length : Int) = depthI K k + 1 ∧ 0 ≤ depthI K k
  | 0, _ => ⟨by simp [zst, depthI], by simp [depthI]⟩
  | k + 1, hk => by
    obtain ⟨ih1, ih2⟩ := zst_len hK hd k (by omega)
    have h1 := hK k (by omega)
    have h2 := hd k (by omega)
    show ((zstep k (K k) (zst K k)).length : Int) = depthI K (k + 1) + 1 ∧ 0 ≤ depthI K (k + 1)
    have e : depthI K (k + 1) = depthI K k + (if K k = 1 then 1 else if K k = 2 then -1 else 0) := rfl
    rw [e]
    generalize zst K k = s at *
    match s, ih1 with
    | [], ih1 => simp at ih1; omega
    | [(i, ms)], ih1 =>
      simp at ih1
      unfold zstep
      rcases h1 with h1 | h1 | h1
      · simp [h1]; omega
      · simp [h1]; omega
      · exact absurd (by omega) (h2 h1)
    | (i, ms) :: (j, ms') :: r, ih1 =>
      simp at ih1
      unfold zstep
      rcases h1 with h1 | h1 | h1
      · simp [h1]; omega
      · simp [h1]; omega
      · simp [h1]; omega
end Go.Proofs.YticolnghiibgfaaGreat
namespace Go.Proofs.YticolnghiibgfaaGreat
open Go.RowKit
set_option maxRecDepth 20000
open Go.Proofs.YticolnghiibgfaaGreat.gradientRamps Go.Proofs.YticolnghiibgfaaGreat.gradientPlaces Go.Proofs.YticolnghiibgfaaGreat.imageCells
theorem regValid {L : List Run} (h : errL L = 0) : ValidL L := by
  exact errL_ok h
section
variable {G : Mem}
structure RegE (G : Mem) (RA : Option Addr) (rn rq : Nat) (rE : Int) (L : List Run) : Prop where
  prog : Gives Tryz.prog 45 [.val (.slice RA rn rq)] G (.val (.int .i64 rE))
  ref : Gives Tryz.prog 29 [.val (.slice RA rn rq)] G (.val (.int .i64 rE))
  runs : RunsM G RA L
  len : rn = L.length
  ok : rE = 0 → ValidL L
structure SrcE (G : Mem) (i : ItemD) (m : Nat) (sE : Int) (fi : SrcF) : Prop where
  prog : Gives Tryz.prog 76 [itemSrc i, .val (.int .i64 m)] G (.val (.int .i64 sE))
  ref : Gives Tryz.prog 57 [itemSrc i, .val (.int .i64 m)] G (.val (.int .i64 sE))
  ok : sE = 0 → SrcBoth G i fi
theorem reg_e {RA : Option Addr} {rn rq : Nat} {L : List Run} (h : RunsM G RA L) (hl : rn = L.length) (h1 : rn ≤ rq) (h2 : rq ≤ maxLen) : RegE G RA rn rq (errL L) L := by
  subst hl
  exact ⟨_root_.Go.Proofs.YticolnghiibgfaaGreat.Check_gives h h1 h2, _root_.Go.Proofs.YticolnghiibgfaaGreat.RCheck_gives h h1 h2, h, rfl, regValid⟩
theorem src_e {i : ItemD} {m : Nat} {gs gp gf : Nat → Nat → Value} (hm : 1 ≤ m ∧ m ≤ 8) (h0 : ∃ G0 A q B pq C sq, SrcG G0 (setS i A q B pq C sq) gs gp gf) :
    ∃ sE fi, ∀ (G : Mem) (A : Option Addr) (q : Nat) (B : Option Addr) (pq : Nat) (C : Option Addr) (sq : Nat), SrcG G (setS i A q B pq C sq) gs gp gf → SrcE G (setS i A q B pq C sq) m sE fi := by
  obtain ⟨G0, A0, q0, B0, pq0, C0, sq0, ⟨_, _, hs, _⟩, ⟨_, _, hp, _⟩, ⟨_, _, hf, _⟩, hi2⟩ := h0
  have hi : ∀ j, j < 8 → 0 ≤ i.I j := fun j hj => (hi2 j hj).1
  obtain ⟨w1, A1, k1⟩ := id hs
  obtain ⟨w2, A2, k2⟩ := id hp
  have m1 : ∀ z, z ≤ maxLen → z ≤ 9223372036854775807 := fun z hz => hz
  have key : ∃ sE, (∀ (G : Mem) (A : Option Addr) (q : Nat) (B : Option Addr) (pq : Nat) (C : Option Addr) (sq : Nat), SrcG G (setS i A q B pq C sq) gs gp gf → Gives Tryz.prog 76 [itemSrc (setS i A q B pq C sq), .val (.int .i64 m)] G (.val (.int .i64 sE)) ∧ Gives Tryz.prog 57 [itemSrc (setS i A q B pq C sq), .val (.int .i64 m)] G (.val (.int .i64 sE))) ∧
      (sE = 0 → ∃ fi, ∀ (G : Mem) (A : Option Addr) (q : Nat) (B : Option Addr) (pq : Nat) (C : Option Addr) (sq : Nat), SrcG G (setS i A q B pq C sq) gs gp gf → SrcBoth G (setS i A q B pq C sq) fi) :=
    ⟨_, fun G A q B pq C sq h => ⟨Gives.worlds fun w hw => CheckSourceM_gives (k := i.k) (I := i.I) (fx := i.fx) (fy := i.fy) (tx := i.tx) (ty := i.ty) (r := i.r) (A := A) (n := i.n) (q := q) (W := i.W) (H := i.H) (B := B) (pn := i.pn) (pq := pq) (C := C) (sn := i.sn) (sq := sq) (a := i.a) (b := i.b) (c := i.c) (d := i.d) (e := i.e) (f := i.f) (s := i.s) (t := i.t) (m := m) hm (gradientPlaces.Check_gives ⟨h.stop.1, h.stop.2.1⟩ (stop_at h.stop.2.2 hw)) ICheck_gives (stop_m (stop_at h.stop.2.2 hw)) (pix_m (pix_at h.pix.2.2 hw)) (m1 _ (Nat.le_trans h.stop.1 h.stop.2.1)) (m1 _ (Nat.le_trans h.pix.1 h.pix.2.1)),
      Gives.worlds fun w hw => SourceCheckM_gives (k := i.k) (I := i.I) (fx := i.fx) (fy := i.fy) (tx := i.tx) (ty := i.ty) (r := i.r) (A := A) (n := i.n) (q := q) (W := i.W) (H := i.H) (B := B) (pn := i.pn) (pq := pq) (C := C) (sn := i.sn) (sq := sq) (a := i.a) (b := i.b) (c := i.c) (d := i.d) (e := i.e) (f := i.f) (s := i.s) (t := i.t) (m := m) hm hi (fun x hx j hj => (byte_bd (k1.int (j := j + 1) (by kernel_rfl) hx (stop_u8 hj)).2).1) (fun x hx j hj => (byte_bd (k2.int (j := j) (by kernel_rfl) hx (inks_u8 hj)).2).1) (gradientPlaces.RCheck_gives ⟨h.stop.1, h.stop.2.1⟩ (stop_at h.stop.2.2 hw)) RICheck_gives PlainK_gives (stop_i (stop_at h.stop.2.2 hw)) (pix_m (pix_at h.pix.2.2 hw)) (m1 _ (Nat.le_trans h.stop.1 h.stop.2.1)) (m1 _ (Nat.le_trans h.pix.1 h.pix.2.1))⟩,
      fun he => src_ok hi2 hs hp hf he⟩
  obtain ⟨sE, e1, e2⟩ := key
  by_cases h0 : sE = 0
  · obtain ⟨fi, hfi⟩ := e2 h0
    exact ⟨sE, fi, fun G A q B pq C sq h => ⟨(e1 G A q B pq C sq h).1, (e1 G A q B pq C sq h).2, fun _ => hfi G A q B pq C sq h⟩⟩
  · exact ⟨sE, fun _ _ => (fun _ => 0, 0), fun G A q B pq C sq h => ⟨(e1 G A q B pq C sq h).1, (e1 G A q B pq C sq h).2, fun e => absurd e h0⟩⟩
theorem item_both2 {i : ItemD} {m : Nat} {rE sE : Int} {L : List Run} {fi : SrcF} (ha : 0 ≤ i.al) (hr : RegE G i.RA i.rn i.rq rE L) (hs : SrcE G i m sE fi) {o : Int} (ho : 0 ≤ o ∧ o ≤ 16) :
    Gives Tryz.prog 52 [itemA i, .val (.int .i64 m), .val (.int .i64 o)] G (.val (.int .i64 (itemE i.K i.rn i.nos i.al i.bl i.ov i.iso i.kn o rE sE))) ∧
    Gives Tryz.prog 37 [itemA i, .val (.int .i64 m), .val (.int .i64 o)] G (.val (.int .i64 (itemE i.K i.rn i.nos i.al i.bl i.ov i.iso i.kn o rE sE))) :=
  ⟨checkItem_gives hr.prog hs.prog, itemCheck_gives ha ho hr.ref hs.ref⟩
end
end Go.Proofs.YticolnghiibgfaaGreat
namespace Go.Proofs.YticolnghiibgfaaGreat
open Go.RowKit Go.Deep Go.Proofs.YticolnghiibgfaaGreat.gradientRamps Go.Proofs.YticolnghiibgfaaGreat.gradientPlaces Go.Proofs.YticolnghiibgfaaGreat.imageCells
set_option maxRecDepth 20000
theorem depth_ok2 {I : Nat → ItemD} {rE sE : Nat → Int} {n : Nat} : DepthOk (fun x => (I x).K) (fun x o => itemE (I x).K (I x).rn (I x).nos (I x).al (I x).bl (I x).ov (I x).iso (I x).kn o (rE x) (sE x)) n := by
  refine ⟨fun x o _ h0 h1 => ?_, fun x o _ h0 h1 => ?_⟩
  · (try dsimp only at h0); (try dsimp only at h1)
    rcases Int.lt_or_le o 16 with h | h
    · exact h
    · unfold itemE at h0
      rw [h1] at h0
      split at h0
      · omega
      · split at h0
        · omega
        · split at h0
          · omega
          · rw [if_pos ⟨rfl, h⟩] at h0
            omega
  · (try dsimp only at h0); (try dsimp only at h1)
    intro h
    unfold itemE at h0
    rw [h1] at h0
    split at h0
    · omega
    · split at h0
      · omega
      · rw [if_pos ⟨rfl, h⟩] at h0
        omega
structure ItE (G : Mem) (i : ItemD) (m : Nat) (p : Int × Int) (L : List Run) (fi : SrcF) : Prop where
  reg : RegE G i.RA i.rn i.rq p.1 L
  src : SrcE G i m p.2 fi
  al : 0 ≤ i.al ∧ i.al ≤ 255
section
variable {G : Mem} {A B : Option Addr} {m sq n iq : Nat} {S : Nat → ByteArray} {I : Nat → ItemD} {p : Nat → Int × Int} {W H : Int} {R : Nat → List Run} {f : Nat → SrcF}
def lisE (W H : Int) (m : Nat) (S : Nat → ByteArray) (n : Nat) (I : Nat → ItemD) (p : Nat → Int × Int) : Int :=
  listE W H m S n (fun x => (I x).K) fun x o => if 1 ≤ m ∧ m ≤ 8 then itemE (I x).K (I x).rn (I x).nos (I x).al (I x).bl (I x).ov (I x).iso (I x).kn o (p x).1 (p x).2 else 1
theorem lisE_big (h : ¬ (1 ≤ m ∧ m ≤ 8)) : lisE W H m S n I p = listE W H m S n (fun x => (I x).K) fun _ _ => 1 := by
  unfold lisE
  congr 1
  funext x o
  rw [if_neg h]
theorem lisE_few (h : 1 ≤ m ∧ m ≤ 8) : lisE W H m S n I p = listE W H m S n (fun x => (I x).K) fun x o => itemE (I x).K (I x).rn (I x).nos (I x).al (I x).bl (I x).ov (I x).iso (I x).kn o (p x).1 (p x).2 := by
  unfold lisE
  congr 1
  funext x o
  rw [if_pos h]
structure ListOk (G : Mem) (W H : Int) (m n : Nat) (I : Nat → ItemD) (f : Nat → SrcF) (R : Nat → List Run) : Prop where
  wd : 1 ≤ W ∧ W ≤ 256
  ht : 1 ≤ H ∧ H ≤ 256
  few : 1 ≤ m ∧ m ≤ 8
  len : n ≤ 5000
  ok : LOk G I f R n
  ref : LRef G I f n
theorem lis_item (he : lisE W H m S n I p = 0) : ∀ x, x < n → itemE (I x).K (I x).rn (I x).nos (I x).al (I x).bl (I x).ov (I x).iso (I x).kn (depthI (fun x => (I x).K) x) (p x).1 (p x).2 = 0 := by
  by_cases hm8 : 1 ≤ m ∧ m ≤ 8
  · rw [lisE_few hm8] at he
    unfold listE at he
    split at he
    · omega
    split at he
    · omega
    split at he
    · exact absurd he ‹_›
    split at he
    · omega
    split at he
    · exact absurd he ‹_›
    split at he
    · omega
    rename_i g1 g2 g3 g4 g5 g6
    exact scanE_all (Classical.not_not.1 g5)
  · rw [lisE_big hm8] at he
    unfold listE at he
    split at he
    · omega
    · rw [if_pos (by omega)] at he; omega
theorem list_bothM (hm : m ≤ sq ∧ sq ≤ maxLen) (hn : n ≤ iq ∧ iq ≤ maxLen) (hs : StrM G A m S) (hi : ItemsM G B n I) (hp : (1 ≤ m ∧ m ≤ 8) → ∀ x, x < n → ItE G (I x) m (p x) (R x) (f x)) :
    Gives Tryz.prog 33 [listA W H A m sq B n iq] G (.val (.int .i64 (lisE W H m S n I p))) ∧ Gives Tryz.prog 11 [listA W H A m sq B n iq] G (.val (.int .i64 (lisE W H m S n I p))) ∧
      (lisE W H m S n I p = 0 → ListOk G W H m n I f R) := by
  have m1 : ∀ z, z ≤ maxLen → z ≤ 9223372036854775807 := fun z hz => hz
  have hn1 := m1 _ (Nat.le_trans hn.1 hn.2)
  have hm1 := m1 _ (Nat.le_trans hm.1 hm.2)
  by_cases hm8 : 1 ≤ m ∧ m ≤ 8
  · have hp := hp hm8
    have hall := fun h => lis_item (W := W) (H := H) (m := m) (S := S) (n := n) (I := I) (p := p) h
    rw [lisE_few hm8] at hall ⊢
    refine ⟨ListCheck_prog hs hi hm.1 (fun _ x hx o h0 h1 => (item_both2 (hp x hx).al.1 (hp x hx).reg (hp x hx).src ⟨h0, h1⟩).1) (depth_ok2 (I := I) (rE := fun x => (p x).1) (sE := fun x => (p x).2)) hn1 hm1,
      ListCheck_ref hs hi hm.1 (fun _ x hx o h0 h1 => (item_both2 (hp x hx).al.1 (hp x hx).reg (hp x hx).src ⟨h0, h1⟩).2) (depth_ok2 (I := I) (rE := fun x => (p x).1) (sE := fun x => (p x).2)) hn1 hm1, fun he => ?_⟩
    have hall := hall he
    unfold listE at he
    split at he
    · omega
    split at he
    · omega
    split at he
    · exact absurd he ‹_›
    split at he
    · omega
    split at he
    · exact absurd he ‹_›
    split at he
    · omega
    rename_i g1 g2 g3 g4 g5 g6
    have hit := fun x hx => itemE_ok (hall x hx)
    have hlen := zst_len (K := fun x => (I x).K) (n := n) (fun k hk => (hit k hk).1) (fun k hk h2 => (hit k hk).2.1 h2)
    have hq : ∀ k, k < n → (I k).K = 0 → SrcBoth G (I k) (f k) ∧ RunsM G (I k).RA (R k) ∧ (I k).rn = (R k).length ∧ ValidL (R k) := fun k hk h0 => by
      obtain ⟨e1, e2⟩ := (hit k hk).2.2.2.2 h0
      exact ⟨(hp k hk).src.ok e2, (hp k hk).reg.runs, (hp k hk).reg.len, (hp k hk).reg.ok e1⟩
    refine ⟨by omega, by omega, hm8, by omega, ⟨fun k hk h0 => (hq k hk h0).1.prog, fun k hk h0 => (hq k hk h0).2, fun k hk h0 => ⟨(hp k hk).al, (hit k hk).2.2.2.1, (hq k hk h0).1.bd⟩, fun k hk h1 => ⟨(hp k hk).al, (hit k hk).2.2.2.1⟩, fun k hk h0 h1 => ?_, ?_⟩, ⟨fun k hk => (hit k hk).1, fun k hk h0 => (hq k hk h0).1.ref⟩⟩
    · have h2 : (I k).K = 2 := ((hit k hk).1.resolve_left h0).resolve_left h1
      have := hlen k (by omega)
      have := (hit k hk).2.1 h2
      omega
    · have := hlen n (Nat.le_refl _)
      omega
  · have hd : DepthOk (fun x => (I x).K) (fun _ _ => 1) n := ⟨fun x o _ h0 _ => absurd h0 (by decide), fun x o _ h0 _ => absurd h0 (by decide)⟩
    rw [lisE_big hm8]
    refine ⟨ListCheck_prog hs hi hm.1 (fun h => absurd h hm8) hd hn1 hm1, ListCheck_ref hs hi hm.1 (fun h => absurd h hm8) hd hn1 hm1, fun he => ?_⟩
    unfold listE at he
    split at he
    · omega
    · rw [if_pos (by omega)] at he; omega
theorem item_e {i : ItemD} {gr gs gp gf : Nat → Nat → Value} (hm : 1 ≤ m ∧ m ≤ 8) (h : ItemG G i gr gs gp gf) : ∃ p fi, ItE G i m p (runsL (fun x => ⟨valI (gr x 0), valI (gr x 1), valI (gr x 2)⟩) i.rn) fi := by
  obtain ⟨sE, fi, h2⟩ := src_e (i := i) (m := m) hm ⟨G, i.A, i.q, i.B, i.pq, i.C, i.sq, h.src⟩
  exact ⟨(errL (runsL (fun x => ⟨valI (gr x 0), valI (gr x 1), valI (gr x 2)⟩) i.rn), sE), fi, reg_e (runs_mM h.run.2.2) (runsL_length _ _).symm h.run.1 h.run.2.1, h2 G i.A i.q i.B i.pq i.C i.sq h.src, h.al⟩
end
section
variable {w : World} {A B : Option Addr} {m sq n iq : Nat} {gs gi : Nat → Nat → Value} {W H : Int}
theorem list_both (hm : m ≤ sq ∧ sq ≤ maxLen) (hn : n ≤ iq ∧ iq ≤ maxLen) (hs : SliceG Tryz.prog w 9 A m gs) (hi : SliceG Tryz.prog w 56 B n gi) :
    ∃ e : Int, Gives Tryz.prog 33 [listA W H A m sq B n iq] (memOf w) (.val (.int .i64 e)) ∧ Gives Tryz.prog 11 [listA W H A m sq B n iq] (memOf w) (.val (.int .i64 e)) ∧
      (e = 0 → (1 ≤ W ∧ W ≤ 256) ∧ (1 ≤ H ∧ H ≤ 256) ∧ (1 ≤ m ∧ m ≤ 8) ∧ n ≤ 5000 ∧ ∃ f R, LOk (memOf w) (fun x => itemOf (gi x)) f R n ∧ LRef (memOf w) (fun x => itemOf (gi x)) f n) := by
  have hp : ∃ q : Nat → (Int × Int) × List Run × SrcF, (1 ≤ m ∧ m ≤ 8) → ∀ x, x < n → ItE (memOf w) (itemOf (gi x)) m (q x).1 (q x).2.1 (q x).2.2 := by
    by_cases hm8 : 1 ≤ m ∧ m ≤ 8
    · have key : ∀ x, x < n → ∃ q : (Int × Int) × List Run × SrcF, ItE (memOf w) (itemOf (gi x)) m q.1 q.2.1 q.2.2 := fun x hx => by
        obtain ⟨gr, gs, gp, gf, h⟩ := items_ok2 hi hx
        obtain ⟨p, fi, h⟩ := item_e hm8 h
        exact ⟨(p, _, fi), h⟩
      obtain ⟨q, hq⟩ := choose_lt key
      exact ⟨q, fun _ => hq⟩
    · exact ⟨fun _ => ((0, 0), [], fun _ _ => (fun _ => 0, 0)), fun h => absurd h hm8⟩
  obtain ⟨q, hq⟩ := hp
  obtain ⟨h1, h2, h3⟩ := list_bothM (W := W) (H := H) (p := fun x => (q x).1) (R := fun x => (q x).2.1) (f := fun x => (q x).2.2) hm hn (strs_m hs) (items_m hi) hq
  refine ⟨_, h1, h2, fun he => ?_⟩
  have k := h3 he
  exact ⟨k.wd, k.ht, k.few, k.len, _, _, k.ok, k.ref⟩
end
end Go.Proofs.YticolnghiibgfaaGreat
namespace Go.Proofs.YticolnghiibgfaaGreat
open Go.RowKit
set_option maxRecDepth 20000
def pairB (e : Bool) (a : AV) : AV := .tup [a, .val (.bool e)]
theorem pairB_wraps (e : Bool) : Wraps (pairB e) := .pair (.val (.bool e)) (fun _ => rfl) rfl
def wholeL (w h : Nat) : List Run := (List.range (16 * h)).map fun (y : Nat) => ⟨(y : Int), 0, 16 * (w : Int)⟩
theorem whole_flat (w h : Nat) : flatR (wholeL w h) = rowsOf 0 (16 * (w : Int)) 0 (16 * h) := by
  unfold flatR wholeL rowsOf
  rw [List.flatMap_map]
  simp
theorem whole_makes {w h : Nat} (hw : w ≤ 512) (hh : h ≤ 512) (G : Mem) : Makes Tryz.prog 49 [.val (.int .i64 w), .val (.int .i64 h)] G (pairB true) 87 3 (16 * h) (rowsOf 0 (16 * (w : Int)) 0 (16 * h)) := by
  refine Makes_of tab_ok Tryz.func49 (pairB_wraps true) ?_
  (repeat ((try (conv => whnf)); (refine stQ ?_)))
  conv => whnf
  refine LoopP_at tab_ok (fun i => i ≤ 16 * h) (fun (i : Nat) => [(7, .val (.int .i64 i)), (6, .own 0)]) (fun i => [.own 87 3 i (rowsOf 0 (16 * (w : Int)) 0 i)]) (fun i => 16 * h - i) 0 (Nat.zero_le _) ?_ ?_
  · refine Le_own 87 3 ?_
    conv => whnf
    ((refine Le_head ?_); (conv => whnf); (refine Le_mk (by rfl) (by rfl) flQ ?_))
    exact hpLe_own rfl (by simp [rowsOf]) hpLe_nil
  · intro i hi
    by_cases hlt : (i : Int) < 16 * (h : Int)
    · (repeat ((try (conv => whnf)); (refine stQ ?_)))
      refine ⟨i + 1, by omega, by omega, ?_⟩
      refine Le_move 2 0 rfl rfl rfl rfl ?_
      conv => whnf
      ((refine Le_head ?_); (conv => whnf); (refine Le_mk (by rfl) (by rfl) flQ ?_))
      exact hpLe_own rfl (by rw [rows_snoc, Int.zero_add]) hpLe_nil
    · (repeat ((try (conv => whnf)); (refine stQ ?_)))
      have hi2 : i = 16 * h := by omega
      subst hi2
      exact .inl ⟨0, rfl, rfl⟩
end Go.Proofs.YticolnghiibgfaaGreat
namespace Go.Proofs.YticolnghiibgfaaGreat
open Go.RowKit
set_option maxRecDepth 20000
theorem GivesM_ofA {P : Program} {T : Tab} (hT : TOk P T) {f : FuncId} {fn : Func} (hfn : P.funcs[f]? = some fn) {args : List AV} {G : Mem} {R : Value → Mem → Prop}
    (h : testP (noRngF fn) (bodyV P T 1 fn args [.muts fun _ => False] G fun v hp' G' => ∃ l : List Value, v = .agg (l.map .val) ∧ R (.agg l.toArray) G')) : GivesM P f args G R := by
  intro w vs hG ha
  refine (calls_of_bodyM hT hfn (args := args) ha hG h).mono ?_
  rintro e w' ⟨y, β', v, hp', G', h1, h2, h3, l, rfl, hR⟩
  simp only [AV.rel] at h3
  obtain ⟨cs, rfl, h4⟩ := h3
  have e : cs = l.toArray := by rw [← rels_plain h4]
  subst e
  exact ⟨_, G', h1, h2.below, h2.sub, h2.hold, h2.grow, hR⟩
theorem runs_flatR {G : Mem} {b : Nat} {L : List Run} (h : ∀ (j : Nat) u, (flatR L)[j]? = some u → G.cell? ⟨b, j, none⟩ = some u) : RunsM G (some ⟨b, 0, none⟩) L := fun i r hr => by
  obtain ⟨h1, h2, h3⟩ := flatR_get hr
  exact ⟨b, 0, rfl, by rw [Nat.zero_add]; exact h _ _ h1, by rw [Nat.zero_add]; exact h _ _ h2, by rw [Nat.zero_add]; exact h _ _ h3⟩
abbrev spIt (K : Int) (RA : Option Addr) (rn rq : Nat) (c : Int) (al : Int) (iso : Bool) : ItemD := ⟨K, RA, rn, rq, 0, fun j => if j = 0 then c else 0, 0, 0, 0, 0, 0, none, 0, 0, 0, 0, none, 0, 0, none, 0, 0, 0, 0, 0, 0, 0, 0, false, false, al, 0, false, iso, false⟩
def spI (A : Option Addr) (c b : Nat) : Nat → ItemD
  | 0 => spIt 0 A 16 c 200 255 false
  | 1 => spIt 1 none 0 0 0 255 true
  | 2 => spIt 0 (some ⟨b, 0, none⟩) 1 1 100 255 false
  | _ => spIt 2 none 0 0 0 0 false
set_option maxHeartbeats 4000000 in
theorem spotted_givesM {G : Mem} : GivesM Tryz.prog 32 [] G fun v F => ∃ A c b sb ib, v = .agg #[.int .i64 1, .int .i64 1, .slice (some ⟨sb, 0, none⟩) 1 1, .slice (some ⟨ib, 0, none⟩) 4 4] ∧ RunsM F A (wholeL 1 1) ∧ 16 ≤ c ∧ c ≤ maxLen ∧
    F sb = some (.cells #[.string ⟨#[98, 108, 97, 99, 107]⟩] 9 (0, 0)) ∧ F b = some (.cells #[.int .i64 0, .int .i64 0, .int .i64 1] 87 (0, 0)) ∧ F ib = some (.cells ((spI A c b 0).cells ++ (spI A c b 1).cells ++ (spI A c b 2).cells ++ (spI A c b 3).cells).toArray 56 (0, 0)) := by
  refine GivesM_ofA tab_ok Tryz.func32 ?_
  (repeat ((try (conv => whnf)); (refine stQ ?_)))
  conv => whnf
  refine CallP_freeze (fun vs w => by kernel_rfl) (pairB_wraps true) (by rfl) (whole_makes (w := 1) (h := 1) (by omega) (by omega) _) ?_
  intro A c G1 hG1 hc hcm hF
  (repeat ((try (conv => whnf)); (first | (with_reducible refine OpP_sliG tab_ok 0 false ?_) | (refine stQ ?_))))
  conv => whnf
  intro sb G2 hsb _ hG2
  conv => whnf
  (repeat ((try (conv => whnf)); (first | (with_reducible refine OpP_sliG tab_ok 0 false ?_) | (refine stQ ?_))))
  conv => whnf
  intro b G3 hb _ hG3
  conv => whnf
  (repeat ((try (conv => whnf)); (first | (with_reducible refine OpP_sliG tab_ok 0 false ?_) | (refine stQ ?_))))
  conv => whnf
  intro ib G4 hib _ hG4
  conv => whnf
  (repeat ((try (conv => whnf)); (refine stQ ?_)))
  conv => whnf
  have l2 : G1.le G2 := fun p o hp => by rw [hG2, Mem.put_ne _ _ (fun e => by rw [e, hsb] at hp; cases hp)]; exact hp
  have l3 : G2.le G3 := fun p o hp => by rw [hG3, Mem.put_ne _ _ (fun e => by rw [e, hb] at hp; cases hp)]; exact hp
  have l4 : G3.le G4 := fun p o hp => by rw [hG4, Mem.put_ne _ _ (fun e => by rw [e, hib] at hp; cases hp)]; exact hp
  refine ⟨[.int .i64 1, .int .i64 1, .slice (some ⟨sb, 0, none⟩) 1 1, .slice (some ⟨ib, 0, none⟩) 4 4], rfl, A, c, b, sb, ib, rfl, ?_, hc, hcm, l4 _ _ (l3 _ _ (by rw [hG2, Mem.put_same])), l4 _ _ (by rw [hG3, Mem.put_same]), by rw [hG4, Mem.put_same]; rfl⟩
  rcases hF with h | ⟨a, rfl, h⟩
  · exact absurd (congrArg List.length h) (by rw [rows_len]; decide)
  · exact (runs_flatR (fun j u hj => by rw [whole_flat] at hj; exact h j u hj)).mono (Mem.le_trans l2 (Mem.le_trans l3 l4))
end Go.Proofs.YticolnghiibgfaaGreat
namespace Go.Proofs.YticolnghiibgfaaGreat
open Go.RowKit Go.Deep Go.Proofs.YticolnghiibgfaaGreat.gradientRamps Go.Proofs.YticolnghiibgfaaGreat.gradientPlaces Go.Proofs.YticolnghiibgfaaGreat.imageCells
set_option maxRecDepth 20000
def spF (k : Nat) : SrcF := fun _ _ => (fun j => if j = 0 then (if k = 0 then 200 else 100) else 0, 255)
def spR (k : Nat) : List Run := if k = 0 then wholeL 1 1 else [⟨0, 0, 1⟩]
def spS : Nat → ByteArray := fun _ => ⟨#[98, 108, 97, 99, 107]⟩
section
variable {F : Mem} {A : Option Addr} {c b sb ib : Nat}
theorem sp_items (h : F ib = some (.cells ((spI A c b 0).cells ++ (spI A c b 1).cells ++ (spI A c b 2).cells ++ (spI A c b 3).cells).toArray 56 (0, 0))) : ItemsM F (some ⟨ib, 0, none⟩) 4 (spI A c b) := fun x hx => by
  refine ⟨_, rfl, fun K hK => ?_⟩
  match x, hx with
  | 0, _ => exact OldCells_at h (by rfl) (by rfl) (by rfl) hK
  | 1, _ => exact OldCells_at h (by rfl) (by rfl) (by rfl) hK
  | 2, _ => exact OldCells_at h (by rfl) (by rfl) (by rfl) hK
  | 3, _ => exact OldCells_at h (by rfl) (by rfl) (by rfl) hK
theorem sp_strs (h : F sb = some (.cells #[.string ⟨#[98, 108, 97, 99, 107]⟩] 9 (0, 0))) : StrM F (some ⟨sb, 0, none⟩) 1 spS := fun x hx => by
  refine ⟨_, rfl, fun K hK => ?_⟩
  match x, hx with
  | 0, _ => exact OldCells_at (vs := [.string ⟨#[98, 108, 97, 99, 107]⟩]) h (by rfl) (by rfl) (by rfl) hK
theorem sp_one (h : F b = some (.cells #[.int .i64 0, .int .i64 0, .int .i64 1] 87 (0, 0))) : RunsM F (some ⟨b, 0, none⟩) [⟨0, 0, 1⟩] := by
  refine runs_flatR fun j u hj => ?_
  unfold Mem.cell?
  simp only [h]
  simpa [flatR] using hj
theorem whole_ok : ValidL (wholeL 1 1) := regValid (by decide +kernel)
theorem one_ok : ValidL [⟨0, 0, 1⟩] := regValid (by decide +kernel)
theorem sp_reg (hR : RunsM F A (wholeL 1 1)) (h : F b = some (.cells #[.int .i64 0, .int .i64 0, .int .i64 1] 87 (0, 0))) {k : Nat} (hk : k < 4) (h0 : (spI A c b k).K = 0) : RegOk F (spI A c b) spR k := by
  match k, hk with
  | 0, _ => exact ⟨hR, by rfl, whole_ok⟩
  | 1, _ => exact absurd h0 (by simp [spI])
  | 2, _ => exact ⟨sp_one h, by rfl, one_ok⟩
  | 3, _ => exact absurd h0 (by simp [spI])
theorem sp_ok (hR : RunsM F A (wholeL 1 1)) (h : F b = some (.cells #[.int .i64 0, .int .i64 0, .int .i64 1] 87 (0, 0))) : LOk F (spI A c b) spF spR 4 := by
  refine ⟨fun k hk h0 => ?_, fun k hk h0 => sp_reg hR h hk h0, fun k hk h0 => ?_, fun k hk h1 => ?_, fun k hk h0 h1 => ?_, by rfl⟩
  · match k, hk with
    | 0, _ => exact sourceOf_solid
    | 1, _ => exact absurd h0 (by simp [spI])
    | 2, _ => exact sourceOf_solid
    | 3, _ => exact absurd h0 (by simp [spI])
  · have key : ∀ k : Nat, ∀ x y : Int, Bytes8 (spF k x y).1 ∧ 0 ≤ (spF k x y).2 ∧ (spF k x y).2 ≤ 255 := fun k x y => by
      refine ⟨fun j hj => ?_, show (0 : Int) ≤ 255 by omega, Int.le_refl _⟩
      show 0 ≤ (if j = 0 then (if k = 0 then (200 : Int) else 100) else 0) ∧ (if j = 0 then (if k = 0 then (200 : Int) else 100) else 0) ≤ 255
      split
      · split <;> omega
      · omega
    match k, hk with
    | 0, _ => exact ⟨show (0 : Int) ≤ 255 ∧ (255 : Int) ≤ 255 by omega, show (0 : Int) ≤ 0 ∧ (0 : Int) ≤ 11 by omega, fun x y _ _ => key 0 x y⟩
    | 1, _ => exact absurd h0 (by simp [spI])
    | 2, _ => exact ⟨show (0 : Int) ≤ 255 ∧ (255 : Int) ≤ 255 by omega, show (0 : Int) ≤ 0 ∧ (0 : Int) ≤ 11 by omega, fun x y _ _ => key 2 x y⟩
    | 3, _ => exact absurd h0 (by simp [spI])
  · match k, hk with
    | 0, _ => exact absurd h1 (by simp [spI])
    | 1, _ => exact ⟨show (0 : Int) ≤ 255 ∧ (255 : Int) ≤ 255 by omega, show (0 : Int) ≤ 0 ∧ (0 : Int) ≤ 11 by omega⟩
    | 2, _ => exact absurd h1 (by simp [spI])
    | 3, _ => exact absurd h1 (by simp [spI])
  · match k, hk with
    | 0, _ => exact absurd rfl h0
    | 1, _ => exact absurd rfl h1
    | 2, _ => exact absurd rfl h0
    | 3, _ => exact Nat.le_refl 2
theorem sp_page : pageT (spI A c b) 4 = [.fill 0, .group 1 [.fill 2]] := by rfl
set_option maxHeartbeats 4000000 in
theorem solid_check {I : Nat → Int} {m : Nat} (hm : 1 ≤ m ∧ m ≤ 8) (hI : fewB I m = true) : Gives Tryz.prog 76 [srcA 0 I 0 0 0 0 0 (.slice none 0 0) 0 0 (.slice none 0 0) (.slice none 0 0) 0 0 0 0 0 0 false false, .val (.int .i64 m)] F (.val (.int .i64 0)) := by
  have gz := isZero_gives (k := 0) (I := I) (fx := 0) (fy := 0) (tx := 0) (ty := 0) (r := 0) (A := none) (n := 0) (q := 0) (W := 0) (H := 0) (B := none) (pn := 0) (pq := 0) (C := none) (sn := 0) (sq := 0) (a := 0) (b := 0) (c := 0) (d := 0) (e := 0) (f := 0) (s := false) (t := false) (G := F)
  have gp := noImage_gives (W := 0) (H := 0) (B := none) (pn := 0) (pq := 0) (C := none) (sn := 0) (sq := 0) (a := 0) (b := 0) (c := 0) (d := 0) (e := 0) (f := 0) (s := false) (t := false) (G := F)
  have gw := fewM_gives (I := I) (G := F) hm
  rw [hI] at gw
  rw [show zeroB 0 0 0 0 0 0 = true from rfl] at gz
  rw [show plainB 0 0 0 0 0 0 0 0 0 0 false false = true from rfl] at gp
  refine Gives_of tab_ok Tryz.func76 ?_
  (repeat ((try (conv => whnf)); (first | (refine stQ ?_) | (with_reducible first | refine CallP_gives (fun vs w => by kernel_rfl) (by kernel_rfl) (gz) ?_ | refine RCallP_gives (fun vs w => by kernel_rfl) (by kernel_rfl) (gz) ?_ | refine CallP_gives (fun vs w => by kernel_rfl) (by kernel_rfl) (gp) ?_ | refine RCallP_gives (fun vs w => by kernel_rfl) (by kernel_rfl) (gp) ?_ | refine CallP_gives (fun vs w => by kernel_rfl) (by kernel_rfl) (gw) ?_ | refine RCallP_gives (fun vs w => by kernel_rfl) (by kernel_rfl) (gw) ?_))))
  exact ⟨rfl, rfl⟩
theorem sp_item (hR : RunsM F A (wholeL 1 1)) (hc : 16 ≤ c ∧ c ≤ maxLen) (h : F b = some (.cells #[.int .i64 0, .int .i64 0, .int .i64 1] 87 (0, 0))) {k : Nat} (hk : k < 4) {o : Int} :
    Gives Tryz.prog 52 [itemA (spI A c b k), .val (.int .i64 1), .val (.int .i64 o)] F (.val (.int .i64 (itemE (spI A c b k).K (spI A c b k).rn (spI A c b k).nos (spI A c b k).al (spI A c b k).bl (spI A c b k).ov (spI A c b k).iso (spI A c b k).kn o 0 0))) := by
  match k, hk with
  | 0, _ =>
    have h1 := _root_.Go.Proofs.YticolnghiibgfaaGreat.Check_gives hR hc.1 hc.2
    exact checkItem_gives h1 (solid_check ⟨Nat.le_refl 1, by decide⟩ (by rfl))
  | 1, _ =>
    have h1 := _root_.Go.Proofs.YticolnghiibgfaaGreat.Check_gives (G := F) (A := none) (L := []) (c := 0) (fun i r hr => by simp at hr) (Nat.le_refl _) (Nat.zero_le _)
    exact checkItem_gives h1 (solid_check ⟨Nat.le_refl 1, by decide⟩ (by rfl))
  | 2, _ =>
    have h1 := _root_.Go.Proofs.YticolnghiibgfaaGreat.Check_gives (sp_one h) (c := 1) (Nat.le_refl _) (by decide)
    exact checkItem_gives h1 (solid_check ⟨Nat.le_refl 1, by decide⟩ (by rfl))
  | 3, _ =>
    have h1 := _root_.Go.Proofs.YticolnghiibgfaaGreat.Check_gives (G := F) (A := none) (L := []) (c := 0) (fun i r hr => by simp at hr) (Nat.le_refl _) (Nat.zero_le _)
    exact checkItem_gives h1 (solid_check ⟨Nat.le_refl 1, by decide⟩ (by rfl))
theorem sp_check (hR : RunsM F A (wholeL 1 1)) (hc : 16 ≤ c ∧ c ≤ maxLen) (h : F b = some (.cells #[.int .i64 0, .int .i64 0, .int .i64 1] 87 (0, 0))) (hS : StrM F (some ⟨sb, 0, none⟩) 1 spS) (hI : ItemsM F (some ⟨ib, 0, none⟩) 4 (spI A c b)) :
    Gives Tryz.prog 33 [listA 1 1 (some ⟨sb, 0, none⟩) 1 1 (some ⟨ib, 0, none⟩) 4 4] F (.val (.int .i64 0)) := by
  have := ListCheck_prog (W := 1) (H := 1) (iq := 4) (sq := 1) hS hI (Nat.le_refl _) (fun _ x hx o h0 h1 => sp_item hR hc h hx) (depth_ok2 (I := spI A c b) (rE := fun _ => 0) (sE := fun _ => 0)) (by omega) (by omega)
  exact this
theorem sp_val0 : lstAt (spI A c b) spF spR 4 1 0 0 = fun o => if o = 0 then 100 else 0 := by
  unfold lstAt
  rw [sp_page]
  funext o
  by_cases ho : o < 1
  · obtain rfl : o = 0 := by omega
    simp only [evL, evT, covL, covT, rowI, cellX, spI, spR, spF, Bool.or_false, if_true, if_false]
    kernel_rfl
  · unfold rowI; rw [if_neg ho, if_neg (by omega)]
theorem sp_val1 : lstAt (spI A c b) spF spR 4 1 1 0 = fun o => if o = 0 then 200 else 0 := by
  unfold lstAt
  rw [sp_page]
  funext o
  by_cases ho : o < 1
  · obtain rfl : o = 0 := by omega
    simp only [evL, evT, covL, covT, rowI, cellX, spI, spR, spF, Bool.or_false, if_true, if_false]
    kernel_rfl
  · unfold rowI; rw [if_neg ho, if_neg (by omega)]
end
set_option maxHeartbeats 8000000 in
theorem lists_gives {G : Mem} : Gives Tryz.prog 9 [] G (.val (.bool true)) := by
  refine Gives_of tab_ok Tryz.func9 ?_
  have key : ∀ (x : Int), x = 0 ∨ x = 1 → ∀ (F : Mem) (A : Option Addr) (c b sb ib : Nat), RunsM F A (wholeL 1 1) → 16 ≤ c → c ≤ maxLen →
    F sb = some (.cells #[.string ⟨#[98, 108, 97, 99, 107]⟩] 9 (0, 0)) → F b = some (.cells #[.int .i64 0, .int .i64 0, .int .i64 1] 87 (0, 0)) → F ib = some (.cells ((spI A c b 0).cells ++ (spI A c b 1).cells ++ (spI A c b 2).cells ++ (spI A c b 3).cells).toArray 56 (0, 0)) →
    Gives Tryz.prog 10 [listA 1 1 (some ⟨sb, 0, none⟩) 1 1 (some ⟨ib, 0, none⟩) 4 4, .val (.int .i64 x), .val (.int .i64 0)] F (.tup [inA (fun o => if o = 0 then (if x = 0 then 100 else 200) else 0), .val (.int .i64 0)]) := by
    intro x hx F A c b sb ib hR h1 h2 h3 h4 h5
    have hI := sp_items h5
    have r := LAt_ok (x := x) (y := 0) (sp_check hR ⟨h1, h2⟩ h4 (sp_strs h3) hI) hI (by omega) (by omega) (by omega) (by omega) (sp_ok hR h4) (by omega) (by omega)
    rcases hx with rfl | rfl
    · rw [sp_val0] at r; exact r
    · rw [sp_val1] at r; exact r
  (repeat ((try (conv => whnf)); (refine stQ ?_)))
  conv => whnf
  refine CallP_givesF (fun vs w => by kernel_rfl) (by rfl) spotted_givesM ?_
  rintro v F hF ⟨A, c, b, sb, ib, rfl, q1, q2, q3, q4, q5, q6⟩
  have k0 := key 0 (.inl rfl) F A c b sb ib q1 q2 q3 q4 q5 q6
  (repeat ((try (conv => whnf)); (first | ((refine CallP_agg [.int .i64 1, .int .i64 1, .slice (some ⟨sb, 0, none⟩) 1 1, .slice (some ⟨ib, 0, none⟩) 4 4] ?_); (dsimp only [List.map])) | (refine stQ ?_) | (with_reducible first | refine CallP_gives (fun vs w => by kernel_rfl) (by kernel_rfl) (k0) ?_ | refine RCallP_gives (fun vs w => by kernel_rfl) (by kernel_rfl) (k0) ?_))))
  conv => whnf
  refine CallP_givesF (fun vs w => by kernel_rfl) (by rfl) spotted_givesM ?_
  rintro v F hF ⟨A, c, b, sb, ib, rfl, q1, q2, q3, q4, q5, q6⟩
  have k1 := key 1 (.inr rfl) F A c b sb ib q1 q2 q3 q4 q5 q6
  (repeat ((try (conv => whnf)); (first | ((refine CallP_agg [.int .i64 1, .int .i64 1, .slice (some ⟨sb, 0, none⟩) 1 1, .slice (some ⟨ib, 0, none⟩) 4 4] ?_); (dsimp only [List.map])) | (refine stQ ?_) | (with_reducible first | refine CallP_gives (fun vs w => by kernel_rfl) (by kernel_rfl) (k1) ?_ | refine RCallP_gives (fun vs w => by kernel_rfl) (by kernel_rfl) (k1) ?_))))
  conv => whnf
  exact ⟨rfl, rfl⟩
end Go.Proofs.YticolnghiibgfaaGreat
namespace Go.Proofs.YticolnghiibgfaaGreat
open Go.RowKit
set_option maxRecDepth 20000
theorem cutI_of (x lo hi : Int) (h : -1000000 ≤ lo ∧ lo ≤ hi ∧ hi ≤ 1000000) : ∃ s : Int, (lo ≤ s ∧ s ≤ hi) ∧ ∀ G, Gives Tryz.prog 30 [.val (.int .i64 x), .val (.int .i64 lo), .val (.int .i64 hi)] G (.val (.int .i64 s)) := by
  have h1 := Int.tmod_lt_of_pos x (show (0 : Int) < hi - lo + 1 by omega)
  have h2 : -(hi - lo + 1) < x.tmod (hi - lo + 1) := Int.lt_tmod_of_pos x (by omega)
  have h3 := Int.tmod_lt_of_pos (x.tmod (hi - lo + 1) + (hi - lo + 1)) (show (0 : Int) < hi - lo + 1 by omega)
  have h4 : 0 ≤ (x.tmod (hi - lo + 1) + (hi - lo + 1)).tmod (hi - lo + 1) := Int.tmod_nonneg _ (by omega)
  refine ⟨lo + (x.tmod (hi - lo + 1) + (hi - lo + 1)).tmod (hi - lo + 1), by omega, fun G => ?_⟩
  refine Gives_of tab_ok Tryz.func30 ?_
  (repeat ((try (conv => whnf)); (refine stQ ?_)))
  exact ⟨rfl, rfl⟩
end Go.Proofs.YticolnghiibgfaaGreat
namespace Go.Proofs.YticolnghiibgfaaGreat
open Go.RowKit
set_option maxRecDepth 20000
theorem SliceG.less {P : Program} {w : World} {e : TypeId} {A : Option Addr} {n m : Nat} {g : Nat → Nat → Value} (h : SliceG P w e A n g) (hm : m ≤ n) : SliceG P w e A m g := fun h0 => by
  obtain ⟨b, off, h1, h2, h3⟩ := h (by omega)
  exact ⟨b, off, h1, h2, fun x hx => h3 x (by omega)⟩
theorem cutA {c k : Nat} {A : Option Addr} : (if c = ((0 : Nat) : Int).toNat then A else A.map (·.add (((0 : Nat) : Int).toNat * k))) = A := by
  split
  · rfl
  · cases A with
    | none => rfl
    | some a => simp [Addr.add]
set_option maxHeartbeats 4000000 in
theorem tiny_of (W H : Int) (n : Nat) : ∃ W' H' : Int, ((1 ≤ W ∧ W ≤ 256) → 1 ≤ W' ∧ W' ≤ 2) ∧ (¬ (1 ≤ W ∧ W ≤ 256) → W' = W) ∧ ((1 ≤ H ∧ H ≤ 256) → 1 ≤ H' ∧ H' ≤ 2) ∧ (¬ (1 ≤ H ∧ H ≤ 256) → H' = H) ∧
    ∀ (G : Mem) (A B : Option Addr) (m sq iq : Nat), n ≤ iq → Gives Tryz.prog 14 [listA W H A m sq B n iq] G (listA W' H' A m sq B (min n 12) iq) := by
  obtain ⟨W1, hW1, gW⟩ := cutI_of W 1 2 (by omega)
  obtain ⟨H1, hH1, gH⟩ := cutI_of H 1 2 (by omega)
  refine ⟨if 1 ≤ W ∧ W ≤ 256 then W1 else W, if 1 ≤ H ∧ H ≤ 256 then H1 else H, fun h => ?_, fun h => ?_, fun h => ?_, fun h => ?_, fun G A B m sq iq hq => ?_⟩
  · rw [if_pos h]; exact hW1
  · rw [if_neg h]
  · rw [if_pos h]; exact hH1
  · rw [if_neg h]
  · have gW := gW G
    have gH := gH G
    refine Gives_of tab_ok Tryz.func14 ?_
    have key : (n ≤ 12 ∧ min n 12 = n) ∨ (12 < n ∧ min n 12 = 12) := by omega
    have kw : (W < 1 ∧ (if 1 ≤ W ∧ W ≤ 256 then W1 else W) = W) ∨ ((1 ≤ W ∧ W ≤ 256) ∧ (if 1 ≤ W ∧ W ≤ 256 then W1 else W) = W1) ∨ (256 < W ∧ (if 1 ≤ W ∧ W ≤ 256 then W1 else W) = W) := by
      split <;> simp_all <;> omega
    have kh : (H < 1 ∧ (if 1 ≤ H ∧ H ≤ 256 then H1 else H) = H) ∨ ((1 ≤ H ∧ H ≤ 256) ∧ (if 1 ≤ H ∧ H ≤ 256 then H1 else H) = H1) ∨ (256 < H ∧ (if 1 ≤ H ∧ H ≤ 256 then H1 else H) = H) := by
      split <;> simp_all <;> omega
    generalize (if 1 ≤ W ∧ W ≤ 256 then W1 else W) = W2 at *
    generalize (if 1 ≤ H ∧ H ≤ 256 then H1 else H) = H2 at *
    generalize min n 12 = k at *
    rcases key with ⟨h12, rfl⟩ | ⟨h12, rfl⟩ <;> rcases kw with ⟨w0, rfl⟩ | ⟨⟨w0, w1⟩, rfl⟩ | ⟨w0, rfl⟩ <;> rcases kh with ⟨k0, rfl⟩ | ⟨⟨k0, k1⟩, rfl⟩ | ⟨k0, rfl⟩
    all_goals ((repeat ((try (conv => whnf)); (first | (refine stQ ?_) | (with_reducible first | refine CallP_gives (fun vs w => by kernel_rfl) (by kernel_rfl) (gW) ?_ | refine RCallP_gives (fun vs w => by kernel_rfl) (by kernel_rfl) (gW) ?_ | refine CallP_gives (fun vs w => by kernel_rfl) (by kernel_rfl) (gH) ?_ | refine RCallP_gives (fun vs w => by kernel_rfl) (by kernel_rfl) (gH) ?_ | refine CallP_enter tab_ok Tryz.func12 (fun vs w => by kernel_rfl) (by rfl) ?_)))); (try rw [cutA]); exact ⟨rfl, rfl⟩)
end Go.Proofs.YticolnghiibgfaaGreat
