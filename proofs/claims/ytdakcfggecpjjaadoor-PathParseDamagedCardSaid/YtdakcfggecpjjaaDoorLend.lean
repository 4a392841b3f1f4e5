/-
  The engine: a row of the caller's own that is lent to a function as its first argument; it is the caller's again behind the call. No program in sight.
-/
import Derived.Test.YtdakcfggecpjjaaDoorArg
namespace Go.Proofs.YtdakcfggecpjjaaDoor
open Go.RowKit
set_option linter.unusedVariables false
theorem CallP_lend {P : Program} {f : FuncId} (hen : ∀ vs w, (callFunc f vs).run P w = .ok (.enter f vs) w) {k : Nat} {post : List AV} {hp : List Blk} {G : Mem} {K : AV → List Blk → Mem → Prop} {E : TypeId} {sz n : Nat} {xs : List Value} {v : AV} (hk : nthB hp k = .own E sz n xs) (hu : AV.unders 0 post = true)
    (hc : ∀ A cap G', G.le G' → n ≤ cap → cap ≤ maxLen → RowM G' A xs → Gives P f (.val (.slice A n cap) :: post) G' v) (h : K v hp G) : CallP P f (.own k :: post) hp G K := by
  refine ⟨hen, fun w0 G0 β w vs hr ha => ?_⟩
  simp only [AV.rels] at ha
  obtain ⟨y, ts, hvs, hv, hts⟩ := ha
  simp only [AV.rel] at hv
  obtain ⟨x, hx1, hx2⟩ := hr.blk k y hv.1
  have hkx := nthB_live hk rfl
  rw [hkx] at hx1; cases hx1
  obtain ⟨⟨hlen, hown⟩, hfree⟩ := hx2
  have fin : ∀ A cap G', G'.holds w → y = .slice A n cap → Gives P f (.val (.slice A n cap) :: post) G' v → Calls P f vs w fun e w' => ∃ (y : Value) (β' : Nm) (v : AV) (hp' : List Blk) (G' : Mem), e = .returned y ∧ β.le β' ∧ HR w0 G0 β' hp' G' w' ∧ v.rel β' y ∧ K v hp' G' := fun A cap G' hG' hy hg => by
    refine (hg w vs hG' ?_).mono ?_
    · simp only [AV.rels, AV.rel]
      exact ⟨_, ts, hvs, hy, bare_rels hu hts⟩
    · rintro e w' ⟨z, rfl, h2, h3⟩
      exact ⟨z, β, v, hp, G, rfl, Nm.le_refl _, hr.step h3, AV.rel_mono (noName_le β) _ _ h2, h⟩
  rcases hown with ⟨rfl, h5⟩ | ⟨g, cap, cur, rfl, h5, h6, h7, h8, h9, h10⟩
  · refine fin none 0 G hr.hold (by rw [h5]) (hc none 0 G (Mem.le_refl _) (by omega) (Nat.zero_le _) (.inl ⟨rfl, by rw [h5] at hlen; simpa using hlen⟩))
  · have hcell : ∀ (j : Nat) u, xs[j]? = some u → (G.and w g).cell? ⟨g, 0 + j, none⟩ = some u := fun j u hj => by
      have h11 : (G.and w g) g = some (.cells cur E (0, 0)) := by simp [Mem.and, h6]
      unfold Mem.cell?
      rw [Nat.zero_add, h11]
      rw [← h10] at hj
      rw [List.getElem?_take] at hj
      split at hj
      · simpa using hj
      · cases hj
    exact fin (some ⟨g, 0, none⟩) cap (G.and w g) (Mem.and_holds hr.hold g) rfl (hc (some ⟨g, 0, none⟩) cap (G.and w g) (Mem.le_and hr.hold g) h7 h8 (.inr ⟨g, 0, rfl, hcell⟩))
end Go.Proofs.YtdakcfggecpjjaaDoor
