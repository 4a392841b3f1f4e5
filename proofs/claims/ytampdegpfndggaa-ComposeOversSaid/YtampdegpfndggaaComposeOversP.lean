/-
  For every input the law ComposeOvers returns true, and every argument reads behind the call as it read before. No condition.
-/
import Derived.Test.YtampdegpfndggaaRows
import Derived.Test.YtampdegpfndggaaComposeOvers
import Derived.ProofKit
import Derived.OpenShut
import Derived.ChangeOld
import Derived.Test.YtampdegpfndggaaFlat
import Derived.Test.YtampdegpfndggaaFlatA
namespace Go.Proofs.Ytampdegpfndggaa.composeOvers
open Go.ChangeShapes Go.WideShapes Go.ChangeAt Go.RowKit
open Go.ChangeMaps (open_string shut_string)

theorem own : ownKnob Try.prog.godebug = none := by kernel_rfl
theorem laidOut : laidOutB Try.prog = true := by kernel_rfl
set_option linter.unusedVariables false
set_option maxRecDepth 100000 in
theorem lifted (os : Os) (started : os.Started) (H : Type) (enc : TypeId × Value → H) :
    ReturnsInHanded {} Try.checked os 4 .any (Rows.composeOversSpec.pre6 enc Try.prog Try.f4 Rows.composeOversRow.domain false) (Rows.composeOversSpec.post enc Try.prog Try.f4 false true false false) := by
  refine returnsInHanded_of_change (C := Try.checked) own started (by kernel_rfl) Try.func4
    (ChangeSpec.witness6 (enc := enc) (C := Try.checked) false ⟨#[], #[.agg #[.int .u8 0, .int .u8 0, .int .u8 0, .int .u8 0, .int .u8 0, .int .u8 0, .int .u8 0, .int .u8 0, .int .u8 0], .agg #[.int .u8 0, .int .u8 0, .int .u8 0, .int .u8 0, .int .u8 0, .int .u8 0, .int .u8 0, .int .u8 0], .int .u8 0, .int .i64 0, .bool false], []⟩ 12 (by kernel_rfl) (by kernel_rfl) (by kernel_rfl) (by kernel_rfl)) ?_
  intro W base args ds gs before hval0 hW hcnd _
  have hval : ∀ (j : Nat) t v, Try.f4.params[j]? = some t → args[j]? = some v → Value.okWide Try.prog W .any base t v := hval0
  have hW' := hW
  obtain ⟨p, q, hA0, hV, rfl, hfz, hnd⟩ := hW
  have hA : DataW.TrodAll enc Try.prog W 0 (fun _ => true) true Try.f4.params.toList args.toList ds p := hA0
  rw [Try.params4] at hA hval
  obtain ⟨v0, vs0, d0, ds0, p0, q0, hargs, rfl, rfl, h0, r0⟩ := trodAll_cons hA
  obtain ⟨v1, vs1, d1, ds1, p1, q1, rfl, rfl, rfl, h1, r1⟩ := trodAll_cons r0
  obtain ⟨v2, vs2, d2, ds2, p2, q2, rfl, rfl, rfl, h2, r2⟩ := trodAll_cons r1
  obtain ⟨v3, vs3, d3, ds3, p3, q3, rfl, rfl, rfl, h3, r3⟩ := trodAll_cons r2
  obtain ⟨v4, vs4, d4, ds4, p4, q4, rfl, rfl, rfl, h4, r4⟩ := trodAll_cons r3
  obtain ⟨rfl, rfl, rfl⟩ := trodAll_nil r4
  obtain rfl : args = #[v0, v1, v2, v3, v4] := by cases args; simp_all
  obtain ⟨rfl, rfl⟩ := trodVars_none hV
  have k0 := h0
  have lt0 : ∀ x ∈ p0, x.block < W.heap.size := by obtain ⟨m, hm⟩ := k0; exact DataW.trod_lt m _ _ _ hm
  have k1 := h1
  have lt1 : ∀ x ∈ p1, x.block < W.heap.size := by obtain ⟨m, hm⟩ := k1; exact DataW.trod_lt m _ _ _ hm
  have k2 := h2
  have lt2 : ∀ x ∈ p2, x.block < W.heap.size := by obtain ⟨m, hm⟩ := k2; exact DataW.trod_lt m _ _ _ hm
  have k3 := h3
  have lt3 : ∀ x ∈ p3, x.block < W.heap.size := by obtain ⟨m, hm⟩ := k3; exact DataW.trod_lt m _ _ _ hm
  have k4 := h4
  have lt4 : ∀ x ∈ p4, x.block < W.heap.size := by obtain ⟨m, hm⟩ := k4; exact DataW.trod_lt m _ _ _ hm
  obtain ⟨cs0x, rfl, hc0x⟩ := open_flat (l := [.int .u8, .int .u8, .int .u8, .int .u8, .int .u8, .int .u8, .int .u8, .int .u8, .int .u8]) 20 Try.underlying31 (by kernel_rfl) (by kernel_rfl) (hval 0 31 v0 rfl rfl) h0
  obtain ⟨u0x0, cs0x0, e0x0, f0x0, hc0x0⟩ := hc0x.cons
  subst e0x0
  obtain ⟨a0x0, rfl, w0x0⟩ := f0x0
  obtain ⟨u0x1, cs0x1, e0x1, f0x1, hc0x1⟩ := hc0x0.cons
  subst e0x1
  obtain ⟨a0x1, rfl, w0x1⟩ := f0x1
  obtain ⟨u0x2, cs0x2, e0x2, f0x2, hc0x2⟩ := hc0x1.cons
  subst e0x2
  obtain ⟨a0x2, rfl, w0x2⟩ := f0x2
  obtain ⟨u0x3, cs0x3, e0x3, f0x3, hc0x3⟩ := hc0x2.cons
  subst e0x3
  obtain ⟨a0x3, rfl, w0x3⟩ := f0x3
  obtain ⟨u0x4, cs0x4, e0x4, f0x4, hc0x4⟩ := hc0x3.cons
  subst e0x4
  obtain ⟨a0x4, rfl, w0x4⟩ := f0x4
  obtain ⟨u0x5, cs0x5, e0x5, f0x5, hc0x5⟩ := hc0x4.cons
  subst e0x5
  obtain ⟨a0x5, rfl, w0x5⟩ := f0x5
  obtain ⟨u0x6, cs0x6, e0x6, f0x6, hc0x6⟩ := hc0x5.cons
  subst e0x6
  obtain ⟨a0x6, rfl, w0x6⟩ := f0x6
  obtain ⟨u0x7, cs0x7, e0x7, f0x7, hc0x7⟩ := hc0x6.cons
  subst e0x7
  obtain ⟨a0x7, rfl, w0x7⟩ := f0x7
  obtain ⟨u0x8, cs0x8, e0x8, f0x8, hc0x8⟩ := hc0x7.cons
  subst e0x8
  obtain ⟨a0x8, rfl, w0x8⟩ := f0x8
  obtain rfl := hc0x8.nil
  obtain ⟨cs1x, rfl, hc1x⟩ := open_flatA (l := [.int .u8, .int .u8, .int .u8, .int .u8, .int .u8, .int .u8, .int .u8, .int .u8]) 20 Try.underlying29 (by kernel_rfl) (by kernel_rfl) (hval 1 29 v1 rfl rfl) h1
  obtain ⟨u1x0, cs1x0, e1x0, f1x0, hc1x0⟩ := hc1x.cons
  subst e1x0
  obtain ⟨a1x0, rfl, w1x0⟩ := f1x0
  obtain ⟨u1x1, cs1x1, e1x1, f1x1, hc1x1⟩ := hc1x0.cons
  subst e1x1
  obtain ⟨a1x1, rfl, w1x1⟩ := f1x1
  obtain ⟨u1x2, cs1x2, e1x2, f1x2, hc1x2⟩ := hc1x1.cons
  subst e1x2
  obtain ⟨a1x2, rfl, w1x2⟩ := f1x2
  obtain ⟨u1x3, cs1x3, e1x3, f1x3, hc1x3⟩ := hc1x2.cons
  subst e1x3
  obtain ⟨a1x3, rfl, w1x3⟩ := f1x3
  obtain ⟨u1x4, cs1x4, e1x4, f1x4, hc1x4⟩ := hc1x3.cons
  subst e1x4
  obtain ⟨a1x4, rfl, w1x4⟩ := f1x4
  obtain ⟨u1x5, cs1x5, e1x5, f1x5, hc1x5⟩ := hc1x4.cons
  subst e1x5
  obtain ⟨a1x5, rfl, w1x5⟩ := f1x5
  obtain ⟨u1x6, cs1x6, e1x6, f1x6, hc1x6⟩ := hc1x5.cons
  subst e1x6
  obtain ⟨a1x6, rfl, w1x6⟩ := f1x6
  obtain ⟨u1x7, cs1x7, e1x7, f1x7, hc1x7⟩ := hc1x6.cons
  subst e1x7
  obtain ⟨a1x7, rfl, w1x7⟩ := f1x7
  obtain rfl := hc1x7.nil
  obtain ⟨a2, rfl, rfl, rfl, w2⟩ := open_int Try.underlying5 (hval 2 5 v2 rfl rfl) h2
  obtain ⟨a3, rfl, rfl, rfl, w3⟩ := open_int Try.underlying3 (hval 3 3 v3 rfl rfl) h3
  obtain ⟨a4, rfl, rfl, rfl⟩ := open_bool Try.underlying4 (hval 4 4 v4 rfl rfl) h4
  clear hA0 hval0
  refine (walk a0x0 a0x1 a0x2 a0x3 a0x4 a0x5 a0x6 a0x7 a0x8 a1x0 a1x1 a1x2 a1x3 a1x4 a1x5 a1x6 a1x7 a2 a3 a4 W w0x0 w0x1 w0x2 w0x3 w0x4 w0x5 w0x6 w0x7 w0x8 w1x0 w1x1 w1x2 w1x3 w1x4 w1x5 w1x6 w1x7 w2 w3).mono fun e W' ⟨he, bel⟩ => ?_
  subst he
  exact ⟨_, rfl, _, _, _, [], _, [], hW', trodAll_mk1 (shut_bool Try.underlying4 _), (trodAll_cons_mk (Below.trod laidOut (by kernel_rfl) (of_decide_eq_true (by kernel_rfl)) k0 bel lt0) (trodAll_cons_mk (Below.trod laidOut (by kernel_rfl) (of_decide_eq_true (by kernel_rfl)) k1 bel lt1) (trodAll_cons_mk (Below.trod laidOut (by kernel_rfl) (of_decide_eq_true (by kernel_rfl)) k2 bel lt2) (trodAll_cons_mk (Below.trod laidOut (by kernel_rfl) (of_decide_eq_true (by kernel_rfl)) k3 bel lt3) (trodAll_cons_mk (Below.trod laidOut (by kernel_rfl) (of_decide_eq_true (by kernel_rfl)) k4 bel lt4) trodAll_mk0))))), rfl, bel.frame _, fun h => by cases h⟩

theorem over : Rows.composeOversRow.holds Try.pinned (OpenSpec.ofChange Rows.composeOversSpec) :=
  OpenClaim.holds_of_wide 4 Try.f4 rfl rfl rfl rfl rfl rfl rfl ⟨rfl, rfl, rfl, rfl, rfl⟩ rfl rfl rfl rfl rfl (by kernel_rfl) Try.func4 (by kernel_rfl)
    (of_decide_eq_true (by kernel_rfl)) (by unfold Func.isWrapper; first | (rw [if_pos (by decide +kernel)]; kernel_rfl) | (rw [if_neg (by decide +kernel)]; exact ⟨rfl, rfl⟩))
    (fun os started H enc _ => lifted os started H enc)

/-- The statement: whatever the input, the law returns true and the arguments read as before. -/
theorem proved : Rows.ComposeOversSaid := over
#print axioms proved
end Go.Proofs.Ytampdegpfndggaa.composeOvers
