/-
  For every input the law ListSources returns true, and every argument reads behind the call as it read before. No condition.
-/
import Derived.Test.YtampdegpfndggaaRows
import Derived.Test.YtampdegpfndggaaListSources
import Derived.ProofKit
import Derived.OpenShut
import Derived.ChangeOld
import Derived.Test.YtampdegpfndggaaMrg16
namespace Go.Proofs.Ytampdegpfndggaa.listSources
open Go.ChangeShapes Go.WideShapes Go.ChangeAt Go.RowKit
open Go.ChangeMaps (open_string shut_string)

theorem own : ownKnob Try.prog.godebug = none := by kernel_rfl
theorem laidOut : laidOutB Try.prog = true := by kernel_rfl
set_option linter.unusedVariables false
set_option maxRecDepth 100000 in
theorem lifted (os : Os) (started : os.Started) (H : Type) (enc : TypeId × Value → H) :
    ReturnsInHanded {} Try.checked os 12 .any (Rows.listSourcesSpec.pre6 enc Try.prog Try.f12 Rows.listSourcesRow.domain false) (Rows.listSourcesSpec.post enc Try.prog Try.f12 false true false false) := by
  refine returnsInHanded_of_change (C := Try.checked) own started (by kernel_rfl) Try.func12
    (ChangeSpec.witness6 (enc := enc) (C := Try.checked) false ⟨#[], #[.agg #[.int .i64 0, .int .u8 0, .int .u8 0, .int .u8 0, .int .u8 0, .int .u8 0, .int .u8 0, .int .u8 0, .int .u8 0, .int .i64 0, .int .i64 0, .int .i64 0, .int .i64 0, .int .i64 0, .slice none 0 0, .int .i64 0, .int .i64 0, .slice none 0 0, .slice none 0 0, .int .i64 0, .int .i64 0, .int .i64 0, .int .i64 0, .int .i64 0, .int .i64 0, .bool false, .bool false], .int .i64 0, .int .i64 0], []⟩ 12 (by kernel_rfl) (by kernel_rfl) (by kernel_rfl) (by kernel_rfl)) ?_
  intro W base args ds gs before hval0 hW hcnd _
  have hval : ∀ (j : Nat) t v, Try.f12.params[j]? = some t → args[j]? = some v → Value.okWide Try.prog W .any base t v := hval0
  have hW' := hW
  obtain ⟨p, q, hA0, hV, rfl, hfz, hnd⟩ := hW
  have hA : DataW.TrodAll enc Try.prog W 0 (fun _ => true) true Try.f12.params.toList args.toList ds p := hA0
  rw [Try.params12] at hA hval
  obtain ⟨v0, vs0, d0, ds0, p0, q0, hargs, rfl, rfl, h0, r0⟩ := trodAll_cons hA
  obtain ⟨v1, vs1, d1, ds1, p1, q1, rfl, rfl, rfl, h1, r1⟩ := trodAll_cons r0
  obtain ⟨v2, vs2, d2, ds2, p2, q2, rfl, rfl, rfl, h2, r2⟩ := trodAll_cons r1
  obtain ⟨rfl, rfl, rfl⟩ := trodAll_nil r2
  obtain rfl : args = #[v0, v1, v2] := by cases args; simp_all
  obtain ⟨rfl, rfl⟩ := trodVars_none hV
  have k0 := h0
  have lt0 : ∀ x ∈ p0, x.block < W.heap.size := by obtain ⟨m, hm⟩ := k0; exact DataW.trod_lt m _ _ _ hm
  have k1 := h1
  have lt1 : ∀ x ∈ p1, x.block < W.heap.size := by obtain ⟨m, hm⟩ := k1; exact DataW.trod_lt m _ _ _ hm
  have k2 := h2
  have lt2 : ∀ x ∈ p2, x.block < W.heap.size := by obtain ⟨m, hm⟩ := k2; exact DataW.trod_lt m _ _ _ hm
  obtain ⟨cs0x, rfl, hc0x⟩ := open_flat (l := [.int .i64, .int .u8, .int .u8, .int .u8, .int .u8, .int .u8, .int .u8, .int .u8, .int .u8, .int .i64, .int .i64, .int .i64, .int .i64, .int .i64, .slice 41, .int .i64, .int .i64, .slice 49, .slice 50, .int .i64, .int .i64, .int .i64, .int .i64, .int .i64, .int .i64, .bool, .bool]) 20 Try.underlying56 (by kernel_rfl) (by kernel_rfl) (hval 0 56 v0 rfl rfl) h0
  obtain ⟨u0x0, cs0x0, e0x0, f0x0, hc0x0⟩ := hc0x.cons
  subst e0x0
  obtain ⟨a0x0, rfl, w0x0⟩ := f0x0
  obtain ⟨u0x1, cs0x1, e0x1, f0x1, hc0x1⟩ := hc0x0.cons
  subst e0x1
  obtain ⟨a0x1, rfl, w0x1⟩ := f0x1
  obtain ⟨u0x2, cs0x2, e0x2, f0x2, hc0x2⟩ := hc0x1.cons
  subst e0x2
  obtain ⟨a0x2, rfl, w0x2⟩ := f0x2
  obtain ⟨u0x3, cs0x3, e0x3, f0x3, hc0x3⟩ := hc0x2.cons
  subst e0x3
  obtain ⟨a0x3, rfl, w0x3⟩ := f0x3
  obtain ⟨u0x4, cs0x4, e0x4, f0x4, hc0x4⟩ := hc0x3.cons
  subst e0x4
  obtain ⟨a0x4, rfl, w0x4⟩ := f0x4
  obtain ⟨u0x5, cs0x5, e0x5, f0x5, hc0x5⟩ := hc0x4.cons
  subst e0x5
  obtain ⟨a0x5, rfl, w0x5⟩ := f0x5
  obtain ⟨u0x6, cs0x6, e0x6, f0x6, hc0x6⟩ := hc0x5.cons
  subst e0x6
  obtain ⟨a0x6, rfl, w0x6⟩ := f0x6
  obtain ⟨u0x7, cs0x7, e0x7, f0x7, hc0x7⟩ := hc0x6.cons
  subst e0x7
  obtain ⟨a0x7, rfl, w0x7⟩ := f0x7
  obtain ⟨u0x8, cs0x8, e0x8, f0x8, hc0x8⟩ := hc0x7.cons
  subst e0x8
  obtain ⟨a0x8, rfl, w0x8⟩ := f0x8
  obtain ⟨u0x9, cs0x9, e0x9, f0x9, hc0x9⟩ := hc0x8.cons
  subst e0x9
  obtain ⟨a0x9, rfl, w0x9⟩ := f0x9
  obtain ⟨u0x10, cs0x10, e0x10, f0x10, hc0x10⟩ := hc0x9.cons
  subst e0x10
  obtain ⟨a0x10, rfl, w0x10⟩ := f0x10
  obtain ⟨u0x11, cs0x11, e0x11, f0x11, hc0x11⟩ := hc0x10.cons
  subst e0x11
  obtain ⟨a0x11, rfl, w0x11⟩ := f0x11
  obtain ⟨u0x12, cs0x12, e0x12, f0x12, hc0x12⟩ := hc0x11.cons
  subst e0x12
  obtain ⟨a0x12, rfl, w0x12⟩ := f0x12
  obtain ⟨u0x13, cs0x13, e0x13, f0x13, hc0x13⟩ := hc0x12.cons
  subst e0x13
  obtain ⟨a0x13, rfl, w0x13⟩ := f0x13
  obtain ⟨u0x14, cs0x14, e0x14, f0x14, hc0x14⟩ := hc0x13.cons
  subst e0x14
  obtain ⟨_, z0x14⟩ := f0x14
  obtain ⟨A0x14, n0x14, q0x14, g0x14, rfl, c0x14, m0x14, s0x14⟩ := slice_cell Try.underlying41 (of_decide_eq_true (by kernel_rfl)) z0x14
  obtain ⟨u0x15, cs0x15, e0x15, f0x15, hc0x15⟩ := hc0x14.cons
  subst e0x15
  obtain ⟨a0x15, rfl, w0x15⟩ := f0x15
  obtain ⟨u0x16, cs0x16, e0x16, f0x16, hc0x16⟩ := hc0x15.cons
  subst e0x16
  obtain ⟨a0x16, rfl, w0x16⟩ := f0x16
  obtain ⟨u0x17, cs0x17, e0x17, f0x17, hc0x17⟩ := hc0x16.cons
  subst e0x17
  obtain ⟨_, z0x17⟩ := f0x17
  obtain ⟨A0x17, n0x17, q0x17, g0x17, rfl, c0x17, m0x17, s0x17⟩ := slice_cell Try.underlying49 (of_decide_eq_true (by kernel_rfl)) z0x17
  obtain ⟨u0x18, cs0x18, e0x18, f0x18, hc0x18⟩ := hc0x17.cons
  subst e0x18
  obtain ⟨_, z0x18⟩ := f0x18
  obtain ⟨A0x18, n0x18, q0x18, g0x18, rfl, c0x18, m0x18, s0x18⟩ := slice_cell Try.underlying50 (of_decide_eq_true (by kernel_rfl)) z0x18
  obtain ⟨u0x19, cs0x19, e0x19, f0x19, hc0x19⟩ := hc0x18.cons
  subst e0x19
  obtain ⟨a0x19, rfl, w0x19⟩ := f0x19
  obtain ⟨u0x20, cs0x20, e0x20, f0x20, hc0x20⟩ := hc0x19.cons
  subst e0x20
  obtain ⟨a0x20, rfl, w0x20⟩ := f0x20
  obtain ⟨u0x21, cs0x21, e0x21, f0x21, hc0x21⟩ := hc0x20.cons
  subst e0x21
  obtain ⟨a0x21, rfl, w0x21⟩ := f0x21
  obtain ⟨u0x22, cs0x22, e0x22, f0x22, hc0x22⟩ := hc0x21.cons
  subst e0x22
  obtain ⟨a0x22, rfl, w0x22⟩ := f0x22
  obtain ⟨u0x23, cs0x23, e0x23, f0x23, hc0x23⟩ := hc0x22.cons
  subst e0x23
  obtain ⟨a0x23, rfl, w0x23⟩ := f0x23
  obtain ⟨u0x24, cs0x24, e0x24, f0x24, hc0x24⟩ := hc0x23.cons
  subst e0x24
  obtain ⟨a0x24, rfl, w0x24⟩ := f0x24
  obtain ⟨u0x25, cs0x25, e0x25, f0x25, hc0x25⟩ := hc0x24.cons
  subst e0x25
  obtain ⟨a0x25, rfl⟩ := f0x25
  obtain ⟨u0x26, cs0x26, e0x26, f0x26, hc0x26⟩ := hc0x25.cons
  subst e0x26
  obtain ⟨a0x26, rfl⟩ := f0x26
  obtain rfl := hc0x26.nil
  obtain ⟨a1, rfl, rfl, rfl, w1⟩ := open_int Try.underlying3 (hval 1 3 v1 rfl rfl) h1
  obtain ⟨a2, rfl, rfl, rfl, w2⟩ := open_int Try.underlying3 (hval 2 3 v2 rfl rfl) h2
  clear hA0 hval0
  refine (walk a0x0 a0x1 a0x2 a0x3 a0x4 a0x5 a0x6 a0x7 a0x8 a0x9 a0x10 a0x11 a0x12 a0x13 A0x14 n0x14 q0x14 g0x14 a0x15 a0x16 A0x17 n0x17 q0x17 g0x17 A0x18 n0x18 q0x18 g0x18 a0x19 a0x20 a0x21 a0x22 a0x23 a0x24 a0x25 a0x26 a1 a2 W w0x0 w0x1 w0x2 w0x3 w0x4 w0x5 w0x6 w0x7 w0x8 w0x9 w0x10 w0x11 w0x12 w0x13 c0x14 m0x14 s0x14 w0x15 w0x16 c0x17 m0x17 s0x17 c0x18 m0x18 s0x18 w0x19 w0x20 w0x21 w0x22 w0x23 w0x24 w1 w2).mono fun e W' ⟨he, bel⟩ => ?_
  subst he
  exact ⟨_, rfl, _, _, _, [], _, [], hW', trodAll_mk1 (shut_bool Try.underlying4 _), (trodAll_cons_mk (Below.trod laidOut (by kernel_rfl) (of_decide_eq_true (by kernel_rfl)) k0 bel lt0) (trodAll_cons_mk (Below.trod laidOut (by kernel_rfl) (of_decide_eq_true (by kernel_rfl)) k1 bel lt1) (trodAll_cons_mk (Below.trod laidOut (by kernel_rfl) (of_decide_eq_true (by kernel_rfl)) k2 bel lt2) trodAll_mk0))), rfl, bel.frame _, fun h => by cases h⟩

theorem over : Rows.listSourcesRow.holds Try.pinned (OpenSpec.ofChange Rows.listSourcesSpec) :=
  OpenClaim.holds_of_wide 12 Try.f12 rfl rfl rfl rfl rfl rfl rfl ⟨rfl, rfl, rfl, rfl, rfl⟩ rfl rfl rfl rfl rfl (by kernel_rfl) Try.func12 (by kernel_rfl)
    (of_decide_eq_true (by kernel_rfl)) (by unfold Func.isWrapper; first | (rw [if_pos (by decide +kernel)]; kernel_rfl) | (rw [if_neg (by decide +kernel)]; exact ⟨rfl, rfl⟩))
    (fun os started H enc _ => lifted os started H enc)

/-- The statement: whatever the input, the law returns true and the arguments read as before. -/
theorem proved : Rows.ListSourcesSaid := over
#print axioms proved
end Go.Proofs.Ytampdegpfndggaa.listSources
