/-
  For every input the law ConicPointsExact returns true, and every argument reads behind the call as it read before. No condition.
-/
import Derived.Test.YtampdegpfndggaaRows
import Derived.Test.YtampdegpfndggaaConicPointsExact
import Derived.ProofKit
import Derived.OpenShut
import Derived.ChangeOld
import Derived.Test.YtampdegpfndggaaTypes
import Derived.Test.YtampdegpfndggaaFlat
namespace Go.Proofs.Ytampdegpfndggaa.conicPointsExact
open Go.ChangeShapes Go.WideShapes Go.ChangeAt Go.RowKit
open Go.ChangeMaps (open_string shut_string)

theorem own : ownKnob Try.prog.godebug = none := by kernel_rfl
theorem laidOut : laidOutB Try.prog = true := by kernel_rfl
set_option linter.unusedVariables false
set_option maxRecDepth 100000 in
theorem lifted (os : Os) (started : os.Started) (H : Type) (enc : TypeId × Value → H) :
    ReturnsInHanded {} Try.checked os 13 .any (Rows.conicPointsExactSpec.pre6 enc Try.prog Try.f13 Rows.conicPointsExactRow.domain false) (Rows.conicPointsExactSpec.post enc Try.prog Try.f13 false true false false) := by
  refine returnsInHanded_of_change (C := Try.checked) own started (by kernel_rfl) Try.func13
    (ChangeSpec.witness6 (enc := enc) (C := Try.checked) false ⟨#[], #[.agg #[.int .i64 0, .int .i64 0], .agg #[.int .i64 0, .int .i64 0, .int .i64 0, .int .i64 0, .int .i64 0, .int .i64 0]], []⟩ 12 (by kernel_rfl) (by kernel_rfl) (by kernel_rfl) (by kernel_rfl)) ?_
  intro W base args ds gs before hval0 hW hcnd _
  have hval : ∀ (j : Nat) t v, Try.f13.params[j]? = some t → args[j]? = some v → Value.okWide Try.prog W .any base t v := hval0
  have hW' := hW
  obtain ⟨p, q, hA0, hV, rfl, hfz, hnd⟩ := hW
  have hA : DataW.TrodAll enc Try.prog W 0 (fun _ => true) true Try.f13.params.toList args.toList ds p := hA0
  rw [Try.params13] at hA hval
  obtain ⟨v0, vs0, d0, ds0, p0, q0, hargs, rfl, rfl, h0, r0⟩ := trodAll_cons hA
  obtain ⟨v1, vs1, d1, ds1, p1, q1, rfl, rfl, rfl, h1, r1⟩ := trodAll_cons r0
  obtain ⟨rfl, rfl, rfl⟩ := trodAll_nil r1
  obtain rfl : args = #[v0, v1] := by cases args; simp_all
  obtain ⟨rfl, rfl⟩ := trodVars_none hV
  have k0 := h0
  have lt0 : ∀ x ∈ p0, x.block < W.heap.size := by obtain ⟨m, hm⟩ := k0; exact DataW.trod_lt m _ _ _ hm
  have k1 := h1
  have lt1 : ∀ x ∈ p1, x.block < W.heap.size := by obtain ⟨m, hm⟩ := k1; exact DataW.trod_lt m _ _ _ hm
  obtain ⟨px0, py0, rfl, w0⟩ := open_Point (hval 0 48 v0 rfl rfl) h0
  obtain ⟨cs1x, rfl, hc1x⟩ := open_flat (l := [.int .i64, .int .i64, .int .i64, .int .i64, .int .i64, .int .i64]) 20 Try.underlying83 (by kernel_rfl) (by kernel_rfl) (hval 1 83 v1 rfl rfl) h1
  obtain ⟨u1x0, cs1x0, e1x0, f1x0, hc1x0⟩ := hc1x.cons
  subst e1x0
  obtain ⟨a1x0, rfl, w1x0⟩ := f1x0
  obtain ⟨u1x1, cs1x1, e1x1, f1x1, hc1x1⟩ := hc1x0.cons
  subst e1x1
  obtain ⟨a1x1, rfl, w1x1⟩ := f1x1
  obtain ⟨u1x2, cs1x2, e1x2, f1x2, hc1x2⟩ := hc1x1.cons
  subst e1x2
  obtain ⟨a1x2, rfl, w1x2⟩ := f1x2
  obtain ⟨u1x3, cs1x3, e1x3, f1x3, hc1x3⟩ := hc1x2.cons
  subst e1x3
  obtain ⟨a1x3, rfl, w1x3⟩ := f1x3
  obtain ⟨u1x4, cs1x4, e1x4, f1x4, hc1x4⟩ := hc1x3.cons
  subst e1x4
  obtain ⟨a1x4, rfl, w1x4⟩ := f1x4
  obtain ⟨u1x5, cs1x5, e1x5, f1x5, hc1x5⟩ := hc1x4.cons
  subst e1x5
  obtain ⟨a1x5, rfl, w1x5⟩ := f1x5
  obtain rfl := hc1x5.nil
  clear hA0 hval0
  refine (walk px0 py0 a1x0 a1x1 a1x2 a1x3 a1x4 a1x5 W w0 w1x0 w1x1 w1x2 w1x3 w1x4 w1x5).mono fun e W' ⟨he, bel⟩ => ?_
  subst he
  exact ⟨_, rfl, _, _, _, [], _, [], hW', trodAll_mk1 (shut_bool Try.underlying4 _), (trodAll_cons_mk (Below.trod laidOut (by kernel_rfl) (of_decide_eq_true (by kernel_rfl)) k0 bel lt0) (trodAll_cons_mk (Below.trod laidOut (by kernel_rfl) (of_decide_eq_true (by kernel_rfl)) k1 bel lt1) trodAll_mk0)), rfl, bel.frame _, fun h => by cases h⟩

theorem over : Rows.conicPointsExactRow.holds Try.pinned (OpenSpec.ofChange Rows.conicPointsExactSpec) :=
  OpenClaim.holds_of_wide 13 Try.f13 rfl rfl rfl rfl rfl rfl rfl ⟨rfl, rfl, rfl, rfl, rfl⟩ rfl rfl rfl rfl rfl (by kernel_rfl) Try.func13 (by kernel_rfl)
    (of_decide_eq_true (by kernel_rfl)) (by unfold Func.isWrapper; first | (rw [if_pos (by decide +kernel)]; kernel_rfl) | (rw [if_neg (by decide +kernel)]; exact ⟨rfl, rfl⟩))
    (fun os started H enc _ => lifted os started H enc)

/-- The statement: whatever the input, the law returns true and the arguments read as before. -/
theorem proved : Rows.ConicPointsExactSaid := over
#print axioms proved
end Go.Proofs.Ytampdegpfndggaa.conicPointsExact
