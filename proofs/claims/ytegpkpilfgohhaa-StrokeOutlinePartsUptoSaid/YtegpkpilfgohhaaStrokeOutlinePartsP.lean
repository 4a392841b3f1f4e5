/-
  For every input of bulk at most 1048576 the law StrokeOutlineParts returns true, and every argument reads behind the call as it read before. Condition: that bound (the second form).
-/
import Derived.Test.YtegpkpilfgohhaaRows
import Derived.Test.YtegpkpilfgohhaaStrokeOutlineParts
import Derived.ProofKit
import Derived.OpenShut
import Derived.ChangeOld
import Derived.Test.YtegpkpilfgohhaaMrg24
import Derived.JoinedCond
import Derived.Test.YtegpkpilfgohhaaFlat
set_option linter.unusedVariables false
set_option linter.unusedSimpArgs false
set_option linter.unnecessarySimpa false
namespace Go.Proofs.Ytegpkpilfgohhaa.strokeOutlineParts
open Go.ChangeShapes Go.WideShapes Go.ChangeAt Go.RowKit
open Go.ChangeMaps (open_string shut_string)
theorem own:ownKnob Try.prog.godebug=none:=by kernel_rfl
theorem laidOut:laidOutB Try.prog=true:=by kernel_rfl
set_option maxRecDepth 100000 in
theorem lifted (os:Os) (started:os.Started) (H:Type) (enc:TypeId × Value→H) (F:Stop.Interp) :
    ReturnsInHanded {} Try.checked os 4 .any ((Rows.OpenSpec.upto Rows.strokeOutlinePartsSpec).pre6 enc Try.prog Try.f4 Rows.strokeOutlinePartsUptoRow.domain false) (((Rows.OpenSpec.upto Rows.strokeOutlinePartsSpec).at F).post enc Try.prog Try.f4 false true false false):=by
  refine returnsInHanded_of_cond (C:=Try.checked) (s:=(Rows.OpenSpec.upto Rows.strokeOutlinePartsSpec)) (k:=Rows.uptoSmall) rfl own started (by kernel_rfl) Try.func4
    (OpenSpec.witness (enc:=enc) (C:=Try.checked) (s:=(Rows.OpenSpec.upto Rows.strokeOutlinePartsSpec)) (k:=Rows.uptoSmall) rfl false ⟨#[],#[.agg #[.slice none 0 0,.bool false],.agg #[.int .i64 0,.int .i64 0,.int .i64 0,.int .i64 0]],[]⟩ 12 (by kernel_rfl) (by kernel_rfl) (by kernel_rfl)
      (x:=([.agg [.nil,.lit (.bool false)],.agg [.lit (.int .i64 0),.lit (.int .i64 0),.lit (.int .i64 0),.lit (.int .i64 0)]],[],[])) (by kernel_rfl) rfl (by kernel_rfl)) ?_
  intro W base args ds gs before hval0 hW hcnd hk _
  have hval:∀ (j:Nat) t v,Try.f4.params[j]? = some t→args[j]? = some v→Value.okWide Try.prog W .any base t v:=hval0
  have hW':=hW
  obtain ⟨p,q,hA0,hV,rfl,hfz,hnd⟩:=hW
  have hA:DataW.TrodAll enc Try.prog W 0 (fun _=>true) true Try.f4.params.toList args.toList ds p:=hA0
  rw [Try.params4] at hA hval
  obtain ⟨v0,vs0,d0,ds0,p0,q0,hargs,rfl,rfl,h0,r0⟩:=trodAll_cons hA
  obtain ⟨v1,vs1,d1,ds1,p1,q1,rfl,rfl,rfl,h1,r1⟩:=trodAll_cons r0
  obtain ⟨rfl,rfl,rfl⟩:=trodAll_nil r1
  obtain rfl:args=#[v0,v1]:=by cases args;simp_all
  obtain ⟨rfl,rfl⟩:=trodVars_none hV
  have k0:=h0
  have lt0:∀ x∈p0,x.block<W.heap.size:=by obtain ⟨m,hm⟩:=k0;exact DataW.trod_lt m _ _ _ hm
  have k1:=h1
  have lt1:∀ x∈p1,x.block<W.heap.size:=by obtain ⟨m,hm⟩:=k1;exact DataW.trod_lt m _ _ _ hm
  obtain ⟨cs0x,rfl,hc0x⟩:=x15 (l:=[.slice 33,.bool]) 20 Try.underlying35 (by kernel_rfl) (by kernel_rfl) (hval 0 35 v0 rfl rfl) h0
  obtain ⟨u0x0,cs0x0,e0x0,f0x0,hc0x0⟩:=hc0x.cons
  subst e0x0
  obtain ⟨_,z0x0⟩:=f0x0
  obtain ⟨A0x0,n0x0,q0x0,g0x0,rfl,c0x0,m0x0,s0x0⟩:=x1y Try.underlying33 (of_decide_eq_true (by kernel_rfl)) z0x0
  obtain ⟨u0x1,cs0x1,e0x1,f0x1,hc0x1⟩:=hc0x0.cons
  subst e0x1
  obtain ⟨a0x1,rfl⟩:=f0x1
  obtain rfl:=hc0x1.nil
  obtain ⟨cs1x,rfl,hc1x⟩:=x15 (l:=[.int .i64,.int .i64,.int .i64,.int .i64]) 20 Try.underlying37 (by kernel_rfl) (by kernel_rfl) (hval 1 37 v1 rfl rfl) h1
  obtain ⟨u1x0,cs1x0,e1x0,f1x0,hc1x0⟩:=hc1x.cons
  subst e1x0
  obtain ⟨a1x0,rfl,w1x0⟩:=f1x0
  obtain ⟨u1x1,cs1x1,e1x1,f1x1,hc1x1⟩:=hc1x0.cons
  subst e1x1
  obtain ⟨a1x1,rfl,w1x1⟩:=f1x1
  obtain ⟨u1x2,cs1x2,e1x2,f1x2,hc1x2⟩:=hc1x1.cons
  subst e1x2
  obtain ⟨a1x2,rfl,w1x2⟩:=f1x2
  obtain ⟨u1x3,cs1x3,e1x3,f1x3,hc1x3⟩:=hc1x2.cons
  subst e1x3
  obtain ⟨a1x3,rfl,w1x3⟩:=f1x3
  obtain rfl:=hc1x3.nil
  have u0:n0x0≤1048576:=Nat.le_trans (Nat.le_trans (x14 h0) (z3y (by simp))) (x16 hk)
  clear hA0 hval0
  refine (walk A0x0 n0x0 q0x0 g0x0 a0x1 a1x0 a1x1 a1x2 a1x3 W c0x0 m0x0 s0x0 w1x0 w1x1 w1x2 w1x3 u0).mono fun e W' ⟨he,bel⟩=>?_
  subst he
  exact ⟨_,rfl,_,_,_,[],_,[],hW',trodAll_mk1 (shut_bool Try.underlying4 _),(trodAll_cons_mk (Below.trod laidOut (by kernel_rfl) (of_decide_eq_true (by kernel_rfl)) k0 bel lt0) (trodAll_cons_mk (Below.trod laidOut (by kernel_rfl) (of_decide_eq_true (by kernel_rfl)) k1 bel lt1) trodAll_mk0)),rfl,bel.frame _,fun h=>by cases h⟩
theorem over:Rows.strokeOutlinePartsUptoRow.holds Try.pinned (Rows.OpenSpec.upto Rows.strokeOutlinePartsSpec) :=
  OpenClaim.holds_of_cond 4 Try.f4 rfl rfl rfl rfl rfl rfl rfl ⟨rfl,rfl,rfl,rfl,rfl⟩ rfl rfl rfl rfl rfl (by kernel_rfl) Try.func4 (by kernel_rfl)
    (of_decide_eq_true (by kernel_rfl)) (by unfold Func.isWrapper;first |(rw [if_pos (by decide +kernel)];kernel_rfl) |(rw [if_neg (by decide +kernel)];exact ⟨rfl,rfl⟩))
    (fun os started H enc _ F=>lifted os started H enc F)
theorem proved:Rows.StrokeOutlinePartsUptoSaid:=over
#print axioms proved
end Go.Proofs.Ytegpkpilfgohhaa.strokeOutlineParts
