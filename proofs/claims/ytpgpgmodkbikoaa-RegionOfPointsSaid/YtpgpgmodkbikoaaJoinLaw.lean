/-
  Sorting runs and joining them: the plain law. No program in sight.
-/
import Derived.Test.YtpgpgmodkbikoaaRegLaw
namespace Go.Proofs.Ytpgpgmodkbikoaa
set_option linter.unusedVariables false

/-- Builder.Add of all. -/
def jn (o L : List Run) : List Run := L.foldl (fun o r => addR o r.y r.x0 r.x1) o
def leR (r s : Run) : Prop := r.y < s.y ∨ (r.y = s.y ∧ r.x0 ≤ s.x0)
theorem addR_mem {L : List Run} {y a b : Int} (hs : ∀ r ∈ L, r.y < y ∨ (r.y = y ∧ r.x0 ≤ a)) : ∀ q ∈ addR L y a b, q ∈ L ∨ (q.y = y ∧ q.x0 ≤ a) := by
  intro q hq
  by_cases hb : b ≤ a
  · rw [addR_no hb] at hq; exact .inl hq
  · rcases last_or L with rfl | ⟨K, r, rfl⟩
    · rw [addR_nil hb] at hq; simp at hq; subst hq; exact .inr ⟨rfl, Int.le_refl _⟩
    · have hr := hs r (by simp)
      by_cases hj : r.y = y ∧ a ≤ r.x1
      · rw [addR_join hb hj.1 hj.2] at hq
        rcases List.mem_append.1 hq with hq | hq
        · exact .inl (by simp [hq])
        · simp at hq; subst hq; exact .inr ⟨rfl, by simp only; omega⟩
      · rw [addR_new hb hj] at hq
        rcases List.mem_append.1 hq with hq | hq
        · exact .inl hq
        · simp at hq; subst hq; exact .inr ⟨rfl, Int.le_refl _⟩
theorem addR_len {L : List Run} {y a b : Int} : (addR L y a b).length ≤ L.length + 1 := by
  by_cases hb : b ≤ a
  · rw [addR_no hb]; omega
  · rcases last_or L with rfl | ⟨K, r, rfl⟩
    · rw [addR_nil hb]; simp
    · by_cases hj : r.y = y ∧ a ≤ r.x1
      · rw [addR_join hb hj.1 hj.2]; simp
      · rw [addR_new hb hj]; simp
theorem addR_ok2 {L : List Run} {y a b : Int} (h : okR L) (hs : ∀ r ∈ L, r.y < y ∨ (r.y = y ∧ r.x0 ≤ a)) :
    okR (addR L y a b) ∧ (∀ u v, hasR (addR L y a b) u v ↔ hasR L u v ∨ (v = y ∧ a ≤ u ∧ u < b)) := by
  by_cases hb : b ≤ a
  · rw [addR_no hb]
    refine ⟨h, fun u v => ⟨.inl, ?_⟩⟩
    rintro (h' | h')
    · exact h'
    · omega
  · rcases last_or L with rfl | ⟨K, r, rfl⟩
    · rw [addR_nil hb]
      refine ⟨by simp [okR]; omega, fun u v => ?_⟩
      rw [hasR_one]; simp only [hasR_nil, false_or]; omega
    · have hr := hs r (by simp)
      obtain ⟨o1, o2, o3⟩ := okR_append.1 h
      have o4 := o2.1
      by_cases hj : r.y = y ∧ a ≤ r.x1
      · rw [addR_join hb hj.1 hj.2]
        refine ⟨okR_append.2 ⟨o1, ?_, fun q hq s hs' => ?_⟩, fun u v => ?_⟩
        · simp [okR]; omega
        · simp at hs'; subst hs'
          have := o3 q hq r (by simp)
          simp only; omega
        · rw [hasR_append, hasR_append, hasR_one, hasR_one]
          simp only
          constructor
          · rintro (h1 | h1)
            · exact .inl (.inl h1)
            · by_cases hx : u < r.x1
              · exact .inl (.inr (by omega))
              · exact .inr (by omega)
          · rintro ((h1 | h1) | h1)
            · exact .inl h1
            · exact .inr (by omega)
            · exact .inr (by omega)
      · rw [addR_new hb hj]
        refine ⟨okR_append.2 ⟨h, by simp [okR]; omega, fun q hq s hs' => ?_⟩, fun u v => ?_⟩
        · simp at hs'; subst hs'
          simp only
          rcases List.mem_append.1 hq with hq | hq
          · have := o3 q hq r (by simp); omega
          · simp at hq; subst hq; omega
        · rw [hasR_append, hasR_one]; simp only
          constructor
          · rintro (h1 | h1)
            · exact .inl h1
            · exact .inr (by omega)
          · rintro (h1 | h1)
            · exact .inl h1
            · exact .inr (by omega)
theorem jn_ok : ∀ (L o : List Run), okR o → (∀ r ∈ o, ∀ s ∈ L, leR r s) → L.Pairwise leR → okR (jn o L) ∧ (∀ u v, hasR (jn o L) u v ↔ hasR o u v ∨ hasR L u v)
  | [], o, h, _, _ => ⟨h, fun u v => by simp [jn, hasR_nil]⟩
  | s :: L, o, h, hs, hp => by
    obtain ⟨p1, p2⟩ := List.pairwise_cons.1 hp
    obtain ⟨a1, a2⟩ := addR_ok2 (y := s.y) (a := s.x0) (b := s.x1) h (fun r hr => hs r hr s (by simp))
    obtain ⟨b1, b2⟩ := jn_ok L (addR o s.y s.x0 s.x1) a1 (fun r hr t ht => by
      rcases addR_mem (fun r hr => hs r hr s (by simp)) r hr with h1 | h1
      · exact hs r h1 t (by simp [ht])
      · have := p1 t ht
        unfold leR at *; omega) p2
    refine ⟨b1, fun u v => ?_⟩
    show hasR (jn (addR o s.y s.x0 s.x1) L) u v ↔ _
    rw [b2, a2, hasR_cons]
    constructor
    · rintro ((h1 | h1) | h1)
      · exact .inl h1
      · exact .inr (.inl (by omega))
      · exact .inr (.inr h1)
    · rintro (h1 | (h1 | h1))
      · exact .inl (.inl h1)
      · exact .inl (.inr (by omega))
      · exact .inr h1
theorem jn_len : ∀ (L o : List Run), (jn o L).length ≤ o.length + L.length
  | [], o => by simp [jn]
  | s :: L, o => by
    have h1 := jn_len L (addR o s.y s.x0 s.x1)
    have h2 := addR_len (L := o) (y := s.y) (a := s.x0) (b := s.x1)
    show (jn (addR o s.y s.x0 s.x1) L).length ≤ _
    simp; omega
theorem jn_take {L : List Run} {i : Nat} {r : Run} (h : L[i]? = some r) : jn [] (L.take (i + 1)) = addR (jn [] (L.take i)) r.y r.x0 r.x1 := by
  rw [List.take_add_one, h]
  simp [jn, List.foldl_append]
/-- The region of some runs. -/
noncomputable def joinL (L : List Run) : List Run := open Classical in if h : ∃ M, okR M ∧ ∀ u v, hasR M u v ↔ hasR L u v then h.choose else []
theorem joinL_is {L M : List Run} (h : okR M) (h2 : ∀ u v, hasR M u v ↔ hasR L u v) : joinL L = M := by
  have hx : ∃ M, okR M ∧ ∀ u v, hasR M u v ↔ hasR L u v := ⟨M, h, h2⟩
  unfold joinL
  rw [dif_pos hx]
  exact okR_ext hx.choose_spec.1 h fun u v => by rw [hx.choose_spec.2, h2]
theorem hasR_perm {L M : List Run} (h : L.Perm M) {u v : Int} : hasR L u v ↔ hasR M u v :=
  ⟨fun ⟨r, hr, h'⟩ => ⟨r, h.mem_iff.1 hr, h'⟩, fun ⟨r, hr, h'⟩ => ⟨r, h.mem_iff.2 hr, h'⟩⟩
theorem jn_join {L M : List Run} (hp : M.Perm L) (hs : M.Pairwise leR) : jn [] M = joinL L := by
  obtain ⟨h1, h2⟩ := jn_ok M [] trivial (by simp) hs
  exact (joinL_is h1 fun u v => by rw [h2, hasR_perm hp]; simp [hasR_nil]).symm
end Go.Proofs.Ytpgpgmodkbikoaa
