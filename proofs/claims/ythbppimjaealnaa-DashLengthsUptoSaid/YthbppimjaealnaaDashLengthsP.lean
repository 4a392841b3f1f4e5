/-
  For every input of bulk at most 1048576 the law DashLengths returns true, and every argument reads behind the call as it read before. Condition: that bound (the second form).
-/
import Derived.Test.YthbppimjaealnaaRows
import Derived.Test.YthbppimjaealnaaDashLengths
import Derived.ProofKit
import Derived.OpenShut
import Derived.ChangeOld
import Derived.Test.YthbppimjaealnaaBulk
import Derived.JoinedCond
import Derived.Test.YthbppimjaealnaaFlat
namespace Go.Proofs.Ythbppimjaealnaa.dashLengths
open Go.ChangeShapes Go.WideShapes Go.ChangeAt Go.RowKit
open Go.ChangeMaps (open_string shut_string)

theorem own : ownKnob Try.prog.godebug = none := by kernel_rfl
theorem laidOut : laidOutB Try.prog = true := by kernel_rfl
set_option linter.unusedVariables false
set_option maxRecDepth 100000 in
theorem lifted (os : Os) (started : os.Started) (H : Type) (enc : TypeId × Value → H) (F : Stop.Interp) :
    ReturnsInHanded {} Try.checked os 6 .any ((Rows.OpenSpec.upto Rows.dashLengthsSpec).pre6 enc Try.prog Try.f6 Rows.dashLengthsUptoRow.domain false) (((Rows.OpenSpec.upto Rows.dashLengthsSpec).at F).post enc Try.prog Try.f6 false true false false) := by
  refine returnsInHanded_of_cond (C := Try.checked) (s := (Rows.OpenSpec.upto Rows.dashLengthsSpec)) (k := Rows.uptoSmall) rfl own started (by kernel_rfl) Try.func6
    (OpenSpec.witness (enc := enc) (C := Try.checked) (s := (Rows.OpenSpec.upto Rows.dashLengthsSpec)) (k := Rows.uptoSmall) rfl false ⟨#[], #[.agg #[.slice none 0 0, .bool false]], []⟩ 12 (by kernel_rfl) (by kernel_rfl) (by kernel_rfl)
      (x := ([.agg [.nil, .lit (.bool false)]], [], [])) (by kernel_rfl) rfl (by kernel_rfl)) ?_
  intro W base args ds gs before hval0 hW hcnd hk _
  have hval : ∀ (j : Nat) t v, Try.f6.params[j]? = some t → args[j]? = some v → Value.okWide Try.prog W .any base t v := hval0
  have hW' := hW
  obtain ⟨p, q, hA0, hV, rfl, hfz, hnd⟩ := hW
  have hA : DataW.TrodAll enc Try.prog W 0 (fun _ => true) true Try.f6.params.toList args.toList ds p := hA0
  rw [Try.params6] at hA hval
  obtain ⟨v0, vs0, d0, ds0, p0, q0, hargs, rfl, rfl, h0, r0⟩ := trodAll_cons hA
  obtain ⟨rfl, rfl, rfl⟩ := trodAll_nil r0
  obtain rfl : args = #[v0] := by cases args; simp_all
  obtain ⟨rfl, rfl⟩ := trodVars_none hV
  have k0 := h0
  have lt0 : ∀ x ∈ p0, x.block < W.heap.size := by obtain ⟨m, hm⟩ := k0; exact DataW.trod_lt m _ _ _ hm
  obtain ⟨cs0x, rfl, hc0x⟩ := open_flat (l := [.slice 41, .bool]) 20 Try.underlying43 (by kernel_rfl) (by kernel_rfl) (hval 0 43 v0 rfl rfl) h0
  obtain ⟨u0x0, cs0x0, e0x0, f0x0, hc0x0⟩ := hc0x.cons
  subst e0x0
  obtain ⟨_, z0x0⟩ := f0x0
  obtain ⟨A0x0, n0x0, q0x0, g0x0, rfl, c0x0, m0x0, s0x0⟩ := slice_cell Try.underlying41 (of_decide_eq_true (by kernel_rfl)) z0x0
  obtain ⟨u0x1, cs0x1, e0x1, f0x1, hc0x1⟩ := hc0x0.cons
  subst e0x1
  obtain ⟨a0x1, rfl⟩ := f0x1
  obtain rfl := hc0x1.nil
  have u0 : n0x0 ≤ 1048576 := Nat.le_trans (Nat.le_trans (bulk_line1 h0) (bulk_part (by simp))) (bulk_all hk)
  clear hA0 hval0
  refine (walk A0x0 n0x0 q0x0 g0x0 a0x1 W c0x0 m0x0 s0x0 u0).mono fun e W' ⟨he, bel⟩ => ?_
  subst he
  exact ⟨_, rfl, _, _, _, [], _, [], hW', trodAll_mk1 (shut_bool Try.underlying4 _), (trodAll_cons_mk (Below.trod laidOut (by kernel_rfl) (of_decide_eq_true (by kernel_rfl)) k0 bel lt0) trodAll_mk0), rfl, bel.frame _, fun h => by cases h⟩

theorem over : Rows.dashLengthsUptoRow.holds Try.pinned (Rows.OpenSpec.upto Rows.dashLengthsSpec) :=
  OpenClaim.holds_of_cond 6 Try.f6 rfl rfl rfl rfl rfl rfl rfl ⟨rfl, rfl, rfl, rfl, rfl⟩ rfl rfl rfl rfl rfl (by kernel_rfl) Try.func6 (by kernel_rfl)
    (of_decide_eq_true (by kernel_rfl)) (by unfold Func.isWrapper; first | (rw [if_pos (by decide +kernel)]; kernel_rfl) | (rw [if_neg (by decide +kernel)]; exact ⟨rfl, rfl⟩))
    (fun os started H enc _ F => lifted os started H enc F)

/-- The statement: whatever the input, the law returns true and the arguments read as before. -/
theorem proved : Rows.DashLengthsUptoSaid := over
#print axioms proved
end Go.Proofs.Ythbppimjaealnaa.dashLengths
