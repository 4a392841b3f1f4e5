/-
  For every input the law ListShifts returns true, and every argument reads behind the call as it read before. No condition.
-/
import Derived.Test.YticolnghiibgfaaGreatRows
import Derived.Test.YticolnghiibgfaaGreatListShifts
import Derived.ProofKit
import Derived.OpenShut
import Derived.ChangeOld
import Derived.Test.YticolnghiibgfaaGreatMrg9
set_option linter.unusedVariables false
set_option linter.unusedSimpArgs false
set_option linter.unnecessarySimpa false
namespace Go.Proofs.YticolnghiibgfaaGreat.listShifts
open Go.ChangeShapes Go.WideShapes Go.ChangeAt Go.RowKit
open Go.ChangeMaps (open_string shut_string)
theorem own:ownKnob Tryz.prog.godebug=none:=by kernel_rfl
theorem laidOut:laidOutB Tryz.prog=true:=by kernel_rfl
set_option maxRecDepth 100000 in
theorem lifted (os:Os) (started:os.Started) (H:Type) (enc:TypeId × Value→H) :
    ReturnsInHanded {} Tryz.checked os 7 .any (Rows.listShiftsSpec.pre6 enc Tryz.prog Tryz.f7 Rows.listShiftsRow.domain false) (Rows.listShiftsSpec.post enc Tryz.prog Tryz.f7 false true false false):=by
  refine returnsInHanded_of_change (C:=Tryz.checked) own started (by kernel_rfl) Tryz.func7
    (ChangeSpec.witness6 (enc:=enc) (C:=Tryz.checked) false ⟨#[],#[.agg #[.int .i64 0,.int .i64 0,.slice none 0 0,.slice none 0 0],.int .i64 0,.int .i64 0],[]⟩ 12 (by kernel_rfl) (by kernel_rfl) (by kernel_rfl) (by kernel_rfl)) ?_
  intro W base args ds gs before hval0 hW hcnd _
  have hval:∀ (j:Nat) t v,Tryz.f7.params[j]? = some t→args[j]? = some v→Value.okWide Tryz.prog W .any base t v:=hval0
  have hW':=hW
  obtain ⟨p,q,hA0,hV,rfl,hfz,hnd⟩:=hW
  have hA:DataW.TrodAll enc Tryz.prog W 0 (fun _=>true) true Tryz.f7.params.toList args.toList ds p:=hA0
  rw [Tryz.params7] at hA hval
  obtain ⟨v0,vs0,d0,ds0,p0,q0,hargs,rfl,rfl,h0,r0⟩:=trodAll_cons hA
  obtain ⟨v1,vs1,d1,ds1,p1,q1,rfl,rfl,rfl,h1,r1⟩:=trodAll_cons r0
  obtain ⟨v2,vs2,d2,ds2,p2,q2,rfl,rfl,rfl,h2,r2⟩:=trodAll_cons r1
  obtain ⟨rfl,rfl,rfl⟩:=trodAll_nil r2
  obtain rfl:args=#[v0,v1,v2]:=by cases args;simp_all
  obtain ⟨rfl,rfl⟩:=trodVars_none hV
  have k0:=h0
  have lt0:∀ x∈p0,x.block<W.heap.size:=by obtain ⟨m,hm⟩:=k0;exact DataW.trod_lt m _ _ _ hm
  have k1:=h1
  have lt1:∀ x∈p1,x.block<W.heap.size:=by obtain ⟨m,hm⟩:=k1;exact DataW.trod_lt m _ _ _ hm
  have k2:=h2
  have lt2:∀ x∈p2,x.block<W.heap.size:=by obtain ⟨m,hm⟩:=k2;exact DataW.trod_lt m _ _ _ hm
  obtain ⟨cs0x,rfl,hc0x⟩:=v14 (l:=[.int .i64,.int .i64,.slice 22,.slice 23]) 20 Tryz.underlying25 (by kernel_rfl) (by kernel_rfl) (hval 0 25 v0 rfl rfl) h0
  obtain ⟨u0x0,cs0x0,e0x0,f0x0,hc0x0⟩:=hc0x.cons
  subst e0x0
  obtain ⟨a0x0,rfl,w0x0⟩:=f0x0
  obtain ⟨u0x1,cs0x1,e0x1,f0x1,hc0x1⟩:=hc0x0.cons
  subst e0x1
  obtain ⟨a0x1,rfl,w0x1⟩:=f0x1
  obtain ⟨u0x2,cs0x2,e0x2,f0x2,hc0x2⟩:=hc0x1.cons
  subst e0x2
  obtain ⟨_,z0x2⟩:=f0x2
  obtain ⟨A0x2,n0x2,q0x2,g0x2,rfl,c0x2,m0x2,s0x2⟩:=x3z Tryz.underlying22 (of_decide_eq_true (by kernel_rfl)) z0x2
  obtain ⟨u0x3,cs0x3,e0x3,f0x3,hc0x3⟩:=hc0x2.cons
  subst e0x3
  obtain ⟨_,z0x3⟩:=f0x3
  obtain ⟨A0x3,n0x3,q0x3,g0x3,rfl,c0x3,m0x3,s0x3⟩:=x3z Tryz.underlying23 (of_decide_eq_true (by kernel_rfl)) z0x3
  obtain rfl:=hc0x3.nil
  obtain ⟨a1,rfl,rfl,rfl,w1⟩:=open_int Tryz.underlying3 (hval 1 3 v1 rfl rfl) h1
  obtain ⟨a2,rfl,rfl,rfl,w2⟩:=open_int Tryz.underlying3 (hval 2 3 v2 rfl rfl) h2
  clear hA0 hval0
  refine (walk a0x0 a0x1 A0x2 n0x2 q0x2 g0x2 A0x3 n0x3 q0x3 g0x3 a1 a2 W w0x0 w0x1 c0x2 m0x2 s0x2 c0x3 m0x3 s0x3 w1 w2).mono fun e W' ⟨he,bel⟩=>?_
  subst he
  exact ⟨_,rfl,_,_,_,[],_,[],hW',trodAll_mk1 (shut_bool Tryz.underlying4 _),(trodAll_cons_mk (Below.trod laidOut (by kernel_rfl) (of_decide_eq_true (by kernel_rfl)) k0 bel lt0) (trodAll_cons_mk (Below.trod laidOut (by kernel_rfl) (of_decide_eq_true (by kernel_rfl)) k1 bel lt1) (trodAll_cons_mk (Below.trod laidOut (by kernel_rfl) (of_decide_eq_true (by kernel_rfl)) k2 bel lt2) trodAll_mk0))),rfl,bel.frame _,fun h=>by cases h⟩
theorem over:Rows.listShiftsRow.holds Tryz.pinned (OpenSpec.ofChange Rows.listShiftsSpec) :=
  OpenClaim.holds_of_wide 7 Tryz.f7 rfl rfl rfl rfl rfl rfl rfl ⟨rfl,rfl,rfl,rfl,rfl⟩ rfl rfl rfl rfl rfl (by kernel_rfl) Tryz.func7 (by kernel_rfl)
    (of_decide_eq_true (by kernel_rfl)) (by unfold Func.isWrapper;first |(rw [if_pos (by decide +kernel)];kernel_rfl) |(rw [if_neg (by decide +kernel)];exact ⟨rfl,rfl⟩))
    (fun os started H enc _=>lifted os started H enc)
theorem proved:Rows.ListShiftsSaid:=over
#print axioms proved
end Go.Proofs.YticolnghiibgfaaGreat.listShifts
