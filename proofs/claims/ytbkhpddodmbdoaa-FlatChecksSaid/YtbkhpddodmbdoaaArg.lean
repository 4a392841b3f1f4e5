/-
  The engine: rows and literals handed over as arguments, which stand from then on; loops in which memory is added to what stands. No program in sight.
-/
import Derived.Test.YtbkhpddodmbdoaaMrg8
namespace Go.Proofs.Ytbkhpddodmbdoaa
open Go.RowKit
set_option linter.unusedVariables false
set_option linter.unusedSimpArgs false
/-- A row of values in memory: nil, or in a block. -/
def RowM (G : Mem) (A : Option Addr) (xs : List Value) : Prop := (A = none ∧ xs = []) ∨ ∃ b off, A = some ⟨b, off, none⟩ ∧ ∀ (j : Nat) u, xs[j]? = some u → G.cell? ⟨b, off + j, none⟩ = some u
theorem RowM.mono {G G' : Mem} {A : Option Addr} {xs : List Value} (h : RowM G A xs) (hle : G.le G') : RowM G' A xs := by
  rcases h with h | ⟨b, off, h1, h2⟩
  · exact .inl h
  · exact .inr ⟨b, off, h1, fun j u hj => hle.cell (h2 j u hj)⟩
/-- A row of the caller's own that is handed to a function as its first argument, and not looked at any more: it stands from now on. -/
theorem CallP_arg {P : Program} {f : FuncId} (hen : ∀ vs w, (callFunc f vs).run P w = .ok (.enter f vs) w) {k : Nat} {post : List AV} {hp : List Blk} {G : Mem} {K : AV → List Blk → Mem → Prop} {E : TypeId} {sz n : Nat} {xs : List Value} (hk : nthB hp k = .own E sz n xs) (hu : AV.unders 0 post = true)
    (h : ∀ A cap G', G.le G' → n ≤ cap → cap ≤ maxLen → RowM G' A xs → setF hp k .gone fun hp' => CallP P f (.val (.slice A n cap) :: post) hp' G' K) : CallP P f (.own k :: post) hp G K := by
  refine ⟨hen, fun w0 G0 β w vs hr ha => ?_⟩
  have ha' := ha
  simp only [AV.rels] at ha
  obtain ⟨v, ts, hvs, hv, hts⟩ := ha
  simp only [AV.rel] at hv
  obtain ⟨x, hx1, hx2⟩ := hr.blk k v hv.1
  have hkx := nthB_live hk rfl
  rw [hkx] at hx1; cases hx1
  obtain ⟨⟨hlen, hown⟩, hfree⟩ := hx2
  rcases hown with ⟨rfl, h5⟩ | ⟨g, cap, cur, rfl, h5, h6, h7, h8, h9, h10⟩
  · have h0 := h none 0 G (Mem.le_refl _) (by omega) (Nat.zero_le _) (.inl ⟨rfl, by rw [h5] at hlen; simpa using hlen⟩)
    rw [setF_eq] at h0
    subst h5
    refine h0.calls w0 G0 β w vs (hr.forget k) ?_
    simp only [AV.rels, AV.rel]
    exact ⟨_, ts, hvs, rfl, hts⟩
  · have hcell : ∀ (j : Nat) u, xs[j]? = some u → (G.and w g).cell? ⟨g, 0 + j, none⟩ = some u := fun j u hj => by
      have h11 : (G.and w g) g = some (.cells cur E (0, 0)) := by simp [Mem.and, h6]
      unfold Mem.cell?
      rw [Nat.zero_add, h11]
      rw [← h10] at hj
      rw [List.getElem?_take] at hj
      split at hj
      · simpa using hj
      · cases hj
    have h0 := h (some ⟨g, 0, none⟩) cap (G.and w g) (Mem.le_and hr.hold g) h7 h8 (.inr ⟨g, 0, rfl, hcell⟩)
    rw [setF_eq] at h0
    have hf := hr.forget k
    have hbig := (hr.lt hv.1 hkx rfl (b := g) rfl).1
    refine h0.calls w0 G0 β w vs ⟨hf.below, Mem.and_holds hr.hold g, Mem.le_trans hr.sub (Mem.le_and hr.hold g), fun b o hb => ?_, fun j z hj => ?_, hf.inj, hf.wrt⟩ ?_
    · unfold Mem.and at hb
      split at hb
      · rename_i e1; subst e1
        exact .inr h5
      · exact hr.grow b o hb
    · obtain ⟨x, hx1, hx2⟩ := hf.blk j z hj
      refine ⟨x, hx1, ?_⟩
      have hne : ∀ b, x.live = true → blkOf z = some b → b ≠ g := fun b hl hb e => by
        subst e
        by_cases hjk : j = k
        · subst hjk
          rw [List.getElem?_set] at hx1
          simp [(List.getElem?_eq_some_iff.1 hkx).1] at hx1
          subst hx1; simp [Blk.live] at hl
        · have hx3 : hp[j]? = some x := by rw [List.getElem?_set, if_neg (fun e => hjk e.symm)] at hx1; exact hx1
          exact hr.inj j k z _ x _ b hjk hj hv.1 hx3 hkx hl rfl hb rfl
      cases x with
      | gone => trivial
      | muts S => exact hx2.elim
      | cells t l =>
        obtain ⟨b, c, q1, q2, q3, q4, q5⟩ := hx2
        refine ⟨b, c, q1, q2, ?_, q4, q5⟩
        have := hne b rfl (by rw [q1]; rfl)
        simp [Mem.and, this, q3]
      | own e sz' n' xs' =>
        obtain ⟨q1, q2⟩ := hx2
        refine ⟨q1, fun b hb => ?_⟩
        have := hne b rfl hb
        simp [Mem.and, this, q2 b hb]
      | lp i fr st p =>
        obtain ⟨q1, q2, q3, q4⟩ := hx2
        refine ⟨q1, q2, ?_, q4⟩
        have := hne i.l rfl (by rw [q1]; rfl)
        simp [Mem.and, this, q3]
      | mp f ks vs =>
        obtain ⟨b, ys, q1, q2, q3, q4⟩ := hx2
        refine ⟨b, ys, q1, q2, ?_, q4⟩
        have := hne b rfl (by rw [q1]; rfl)
        simp [Mem.and, this, q3]
    · simp only [AV.rels, AV.rel]
      exact ⟨_, ts, hvs, rfl, hts⟩
/-- The same of a literal slice that is handed over as the second argument. -/
theorem CallP_lit {P : Program} {f : FuncId} (hen : ∀ vs w, (callFunc f vs).run P w = .ok (.enter f vs) w) {k n c : Nat} {a : AV} {post : List AV} {hp : List Blk} {G : Mem} {K : AV → List Blk → Mem → Prop} {t : TypeId} {l : List AV} {xs : List Value} (hk : nthB hp k = .cells t l) (hl : l = xs.map .val)
    (h : ∀ b G', G.le G' → (∀ (j : Nat) u, xs[j]? = some u → G'.cell? ⟨b, j, none⟩ = some u) → setF hp k .gone fun hp' => CallP P f (a :: .val (.slice (some ⟨b, 0, none⟩) n c) :: post) hp' G' K) : CallP P f (a :: .sli k 0 n c :: post) hp G K := by
  refine ⟨hen, fun w0 G0 β w vs hr ha => ?_⟩
  simp only [AV.rels] at ha
  obtain ⟨v, ts, hvs, hv, v2, ts2, rfl, hv2, hts⟩ := ha
  simp only [AV.rel] at hv2
  obtain ⟨u, b, h2, h3, rfl⟩ := hv2
  obtain ⟨x, hx1, hx2⟩ := hr.blk k u h2
  have hkx := nthB_live hk rfl
  rw [hkx] at hx1; cases hx1
  obtain ⟨b', cs, rfl, h4, h5, h6, h7⟩ := hx2
  simp [blkOf] at h3; subst h3
  subst hl
  have h8 := rels_plain h7
  have hcell : ∀ (j : Nat) u, xs[j]? = some u → (G.and w b').cell? ⟨b', j, none⟩ = some u := fun j u hj => by
    rw [← h8] at hj
    simp only [Mem.cell?, Mem.and, if_true, h6]
    simpa using hj
  have h0 := h b' (G.and w b') (Mem.le_and hr.hold b') hcell
  rw [setF_eq] at h0
  have hf := hr.forget k
  refine h0.calls w0 G0 β w vs ⟨hf.below, Mem.and_holds hr.hold b', Mem.le_trans hr.sub (Mem.le_and hr.hold b'), fun b o hb => ?_, fun j z hj => ?_, hf.inj, hf.wrt⟩ ?_
  · unfold Mem.and at hb
    split at hb
    · rename_i e1; subst e1
      exact .inr h4
    · exact hr.grow b o hb
  · obtain ⟨x, hx1, hx2⟩ := hf.blk j z hj
    refine ⟨x, hx1, ?_⟩
    have hne : ∀ b, x.live = true → blkOf z = some b → b ≠ b' := fun b hl hb e => by
      subst e
      by_cases hjk : j = k
      · subst hjk
        rw [List.getElem?_set] at hx1
        simp [(List.getElem?_eq_some_iff.1 hkx).1] at hx1
        subst hx1; simp [Blk.live] at hl
      · have hx3 : hp[j]? = some x := by rw [List.getElem?_set, if_neg (fun e => hjk e.symm)] at hx1; exact hx1
        exact hr.inj j k z _ x _ b hjk hj h2 hx3 hkx hl rfl hb rfl
    cases x with
    | gone => trivial
    | muts S => exact hx2.elim
    | cells t l =>
      obtain ⟨b, c, q1, q2, q3, q4, q5⟩ := hx2
      refine ⟨b, c, q1, q2, ?_, q4, q5⟩
      have := hne b rfl (by rw [q1]; rfl)
      simp [Mem.and, this, q3]
    | own e sz' n' xs' =>
      obtain ⟨q1, q2⟩ := hx2
      refine ⟨q1, fun b hb => ?_⟩
      have := hne b rfl hb
      simp [Mem.and, this, q2 b hb]
    | lp i fr st p =>
      obtain ⟨q1, q2, q3, q4⟩ := hx2
      refine ⟨q1, q2, ?_, q4⟩
      have := hne i.l rfl (by rw [q1]; rfl)
      simp [Mem.and, this, q3]
    | mp f ks vs =>
      obtain ⟨b, ys, q1, q2, q3, q4⟩ := hx2
      refine ⟨b, ys, q1, q2, ?_, q4⟩
      have := hne b rfl (by rw [q1]; rfl)
      simp [Mem.and, this, q3]
  · simp only [AV.rels, AV.rel]
    exact ⟨v, _, hvs, hv, _, _, rfl, rfl, hts⟩
/-- A loop that adds to what stands. -/
theorem LoopP_atG {P : Program} {T : Tab} (hT : TOk P T) {n0 : Nat} {b : Code} {fr : List AV} {hp : List Blk} {G : Mem} {Q : Post} {ι : Type} (inv : ι → Prop) (S : ι → List (Nat × AV)) (H : ι → List Blk) (M : ι → Mem) (μ : ι → Nat) (i0 : ι) (h0 : inv i0)
    (start : Le n0 fr hp G (headFr b fr (S i0)) (H i0) (M i0))
    (round : ∀ i, inv i → natsF (written b []) fun ws => havocF ws 0 fr fun fr1 => setAllF fr1 (S i) fun fr2 => vcode P T n0 b fr2 (H i) (M i) fun e fr' hp' G' => match e with
      | .normal => ∃ i', inv i' ∧ μ i' < μ i ∧ Le n0 fr' hp' G' (headFr b fr (S i')) (H i') (M i')
      | e => Q e fr' hp' G') : LoopP P n0 b fr hp G Q := by
  refine LoopP_mk hT inv (fun i => headFr b fr (S i)) H M μ ⟨i0, h0, start⟩ fun i hi => ?_
  have h := round i hi
  rw [natsF_eq, havocF_eq, setAllF_eq] at h
  exact h
end Go.Proofs.Ytbkhpddodmbdoaa
