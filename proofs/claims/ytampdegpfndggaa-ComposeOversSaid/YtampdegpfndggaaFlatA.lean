/-
  The cells of an array that is handed over. No program in sight.
-/
import Derived.Test.YtampdegpfndggaaFlat
namespace Go.Proofs.Ytampdegpfndggaa
open Go.RowKit Go.ChangeShapes Go.WideShapes Go.Deep

section
variable {H : Type} {enc : TypeId × Value → H} {P : Program} {w : World} {base b0 : Nat} {spare : Nat → Bool} {held : Bool} {r : Reach} {v : Value} {d : DataW H} {ps : List MemPlace}
theorem okWide_array' {t e : TypeId} {m : Nat} (ht : P.underlying t = some (.array m e)) (h : Value.okWide P w r b0 t v) : ∃ cs, v = .agg cs := by
  simp only [Value.okWide, ht] at h
  obtain ⟨cs, h1, _⟩ := h
  exact ⟨cs, h1⟩
theorem open_flatA (n : Nat) {t e : TypeId} {m : Nat} {l : List Scal} (ht : P.underlying t = some (.array m e)) (hok : flatOk P n t = true) (hl : flat P n t = l) (hv : Value.okWide P w r b0 t v) (h : DataW.Trod enc P w base spare held t v d ps) :
    ∃ cs : List Value, v = .agg cs.toArray ∧ All2 (SeesC P w) l cs := by
  obtain ⟨cs, rfl⟩ := okWide_array' ht hv
  obtain ⟨m, hs⟩ := sees_of_Trod h
  subst hl
  exact ⟨cs.toList, rfl, flat_sees n m t _ hok hs⟩
end
end Go.Proofs.Ytampdegpfndggaa
