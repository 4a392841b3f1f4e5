/-
  A region that draws its order, whose first operations stand in a fixed order (they may make memory), and whose other operations are reads and calls: the first ones are walked as they stand, one walk serves every order of the others. No program in sight.
-/
import Derived.Test.YtoiblpncofbdpaaPast
namespace Go.Proofs.Ytoiblpncofbdpaa
open Go.RowKit

def preB (md : Region.Mode) (ops : Array Oper) : Nat → Nat → Array Bool → Bool
  | 0, _, _ => true
  | m + 1, k, listed => decide (Region.ready md ops listed = [k]) && preB md ops m (k + 1) (listed.setIfInBounds k true)
def listUpto : Nat → Nat → Array Bool → Array Bool
  | 0, _, l => l
  | m + 1, k, l => listUpto m (k + 1) (l.setIfInBounds k true)
section
variable {P : Program} {ops : Array Oper} {md : Region.Mode} {Q : Exit → Act → World → Prop} {K : Act → World → Prop}
theorem wp_then {o : Oper} {a : Act} {w : World} {N : Act → World → Prop} (h : o.wp P a w N (Exit.then K Q)) : o.wp P a w N Q := by
  unfold Oper.wp at *
  generalize (execOp a.eval o).run P w = r at *
  cases r with
  | ok n w' =>
    cases n with
    | enter f args => exact h
    | _ => exact h
  | halt x w' =>
    cases x with
    | _ => exact h
theorem wpAny_pre {f : Nat} : ∀ (l : List Oper) (k : Nat) (listed : Array Bool) (a : Act) (w : World), (∀ j, j < l.length → l[j]? = ops[k + j]?) → preB md ops l.length k listed = true →
    (∀ a w, K a w → wpAny P md ops Q f (listUpto l.length k listed) a w) → wpList P ops (Exit.then K Q) l a w → wpAny P md ops Q (l.length + f) listed a w
  | [], k, listed, a, w, _, _, hK, h => by
    rw [List.length_nil, Nat.zero_add]
    exact hK a w h
  | o :: l, k, listed, a, w, hl, hB, hK, h => by
    simp only [List.length_cons, preB, Bool.and_eq_true, decide_eq_true_eq] at hB
    have h0 : ops[k]? = some o := by simpa using (hl 0 (by simp)).symm
    have ih : ∀ a w, wpList P ops (Exit.then K Q) l a w → wpAny P md ops Q (l.length + f) (listed.setIfInBounds k true) a w := fun a w h =>
      wpAny_pre l (k + 1) _ a w (fun j hj => by have := hl (j + 1) (by simp; omega); simpa [Nat.add_assoc, Nat.add_comm 1 j] using this) hB.2 hK h
    rw [List.length_cons, show l.length + 1 + f = (l.length + f) + 1 by omega]
    refine ⟨fun he => ?_, fun i hi => ?_⟩
    · rw [hB.1] at he; cases he
    · rw [hB.1] at hi
      simp at hi
      subst hi
      unfold wpOp
      rw [h0]
      unfold wpList at h
      simp only
      split
      · rename_i hw
        rw [if_pos hw] at h
        rcases h with h | ⟨h1, h2⟩
        · exact .inl (Oper.wp_mono ih (wp_then h))
        · exact .inr ⟨h1, h2⟩
      · rename_i hw
        rw [if_neg hw] at h
        exact ih _ _ h
end
theorem wp_region_pre {P : Program} {id : Nat} {Q : Exit → Act → World → Prop} {a : Act} {w : World} {l : List Oper} (m : Nat) (hm : P.follows .mixedOrders = true)
    (hB : (Region.noSelect l.toArray && (preB .any l.toArray m 0 (Array.replicate l.length false) && Region.lexFrom .any l.toArray (l.length - m) m (listUpto m 0 (Array.replicate l.length false)))) = true) (hle : m ≤ l.length)
    (h : wpList P l.toArray (Exit.then (fun a' w' => wpQuiet P l.toArray (fun w'' => ∃ x, w'' = past w' x) (fun a'' => ∀ w'', (∃ x, w'' = past w' x) → Q .normal a'' w'') (l.drop m) a') Q) (l.take m) a w.drew) : (Code.region id l.toArray true).wp P Q a w := by
  simp only [Bool.and_eq_true] at hB
  obtain ⟨h1, h2, h3⟩ := hB
  refine wp_region_any hm ?_
  have hlen : (l.take m).length = m := by simp [hle]
  have := wpAny_pre (P := P) (ops := l.toArray) (md := .any) (Q := Q) (f := l.length - m) (l.take m) 0 (Array.replicate l.length false) a w.drew (fun j hj => by
    rw [hlen] at hj
    simp [hj]) (by rw [hlen]; exact h2) (fun a' w' hq => by
      rw [hlen]
      have hq' := wpAnyQ_lex (C := fun w'' => ∃ x, w'' = past w' x) (md := .any) h1 (l.drop m) m (listUpto m 0 (Array.replicate l.length false)) a' (fun j => by simp) (by rw [List.length_drop]; exact h3) hq
      rw [List.length_drop] at hq'
      exact wpAny_of_quiet (Q := fun a'' => ∀ w'', (∃ x, w'' = past w' x) → Q .normal a'' w'') (fun _ w'' hw'' h => h w'' hw'') _ _ _ _ ⟨⟨w', Below.refl _ _⟩, rfl⟩ hq') h
  rw [hlen, show m + (l.length - m) = l.length by omega] at this
  simpa using this
end Go.Proofs.Ytoiblpncofbdpaa
