/-
  For every input the law ListBrackets returns true, and every argument reads behind the call as it read before. No condition.
-/
import Derived.Test.YticolnghiibgfaaGreatRows
import Derived.Test.YticolnghiibgfaaGreatListBrackets
import Derived.ProofKit
import Derived.OpenShut
import Derived.ChangeOld
import Derived.Test.YticolnghiibgfaaGreatMrg9
set_option linter.unusedVariables false
set_option linter.unusedSimpArgs false
set_option linter.unnecessarySimpa false
namespace Go.Proofs.YticolnghiibgfaaGreat.listBrackets
open Go.ChangeShapes Go.WideShapes Go.ChangeAt Go.RowKit
open Go.ChangeMaps (open_string shut_string)
theorem own:ownKnob Tryz.prog.godebug=none:=by kernel_rfl
theorem laidOut:laidOutB Tryz.prog=true:=by kernel_rfl
set_option maxRecDepth 100000 in
theorem lifted (os:Os) (started:os.Started) (H:Type) (enc:TypeId × Value→H) :
    ReturnsInHanded {} Tryz.checked os 6 .any (Rows.listBracketsSpec.pre6 enc Tryz.prog Tryz.f6 Rows.listBracketsRow.domain false) (Rows.listBracketsSpec.post enc Tryz.prog Tryz.f6 false true false false):=by
  refine returnsInHanded_of_change (C:=Tryz.checked) own started (by kernel_rfl) Tryz.func6
    (ChangeSpec.witness6 (enc:=enc) (C:=Tryz.checked) false ⟨#[],#[.agg #[.int .i64 0,.int .i64 0,.slice none 0 0,.slice none 0 0],.int .i64 0,.int .i64 0,.agg #[.int .i64 0,.slice none 0 0,.int .i64 0,.int .u8 0,.int .u8 0,.int .u8 0,.int .u8 0,.int .u8 0,.int .u8 0,.int .u8 0,.int .u8 0,.int .i64 0,.int .i64 0,.int .i64 0,.int .i64 0,.int .i64 0,.slice none 0 0,.int .i64 0,.int .i64 0,.slice none 0 0,.slice none 0 0,.int .i64 0,.int .i64 0,.int .i64 0,.int .i64 0,.int .i64 0,.int .i64 0,.bool false,.bool false,.int .u8 0,.int .i64 0,.bool false,.bool false,.bool false]],[]⟩ 12 (by kernel_rfl) (by kernel_rfl) (by kernel_rfl) (by kernel_rfl)) ?_
  intro W base args ds gs before hval0 hW hcnd _
  have hval:∀ (j:Nat) t v,Tryz.f6.params[j]? = some t→args[j]? = some v→Value.okWide Tryz.prog W .any base t v:=hval0
  have hW':=hW
  obtain ⟨p,q,hA0,hV,rfl,hfz,hnd⟩:=hW
  have hA:DataW.TrodAll enc Tryz.prog W 0 (fun _=>true) true Tryz.f6.params.toList args.toList ds p:=hA0
  rw [Tryz.params6] at hA hval
  obtain ⟨v0,vs0,d0,ds0,p0,q0,hargs,rfl,rfl,h0,r0⟩:=trodAll_cons hA
  obtain ⟨v1,vs1,d1,ds1,p1,q1,rfl,rfl,rfl,h1,r1⟩:=trodAll_cons r0
  obtain ⟨v2,vs2,d2,ds2,p2,q2,rfl,rfl,rfl,h2,r2⟩:=trodAll_cons r1
  obtain ⟨v3,vs3,d3,ds3,p3,q3,rfl,rfl,rfl,h3,r3⟩:=trodAll_cons r2
  obtain ⟨rfl,rfl,rfl⟩:=trodAll_nil r3
  obtain rfl:args=#[v0,v1,v2,v3]:=by cases args;simp_all
  obtain ⟨rfl,rfl⟩:=trodVars_none hV
  have k0:=h0
  have lt0:∀ x∈p0,x.block<W.heap.size:=by obtain ⟨m,hm⟩:=k0;exact DataW.trod_lt m _ _ _ hm
  have k1:=h1
  have lt1:∀ x∈p1,x.block<W.heap.size:=by obtain ⟨m,hm⟩:=k1;exact DataW.trod_lt m _ _ _ hm
  have k2:=h2
  have lt2:∀ x∈p2,x.block<W.heap.size:=by obtain ⟨m,hm⟩:=k2;exact DataW.trod_lt m _ _ _ hm
  have k3:=h3
  have lt3:∀ x∈p3,x.block<W.heap.size:=by obtain ⟨m,hm⟩:=k3;exact DataW.trod_lt m _ _ _ hm
  obtain ⟨cs0x,rfl,hc0x⟩:=v1u (l:=[.int .i64,.int .i64,.slice 22,.slice 23]) 20 Tryz.underlying25 (by kernel_rfl) (by kernel_rfl) (hval 0 25 v0 rfl rfl) h0
  obtain ⟨u0x0,cs0x0,e0x0,f0x0,hc0x0⟩:=hc0x.cons
  subst e0x0
  obtain ⟨a0x0,rfl,w0x0⟩:=f0x0
  obtain ⟨u0x1,cs0x1,e0x1,f0x1,hc0x1⟩:=hc0x0.cons
  subst e0x1
  obtain ⟨a0x1,rfl,w0x1⟩:=f0x1
  obtain ⟨u0x2,cs0x2,e0x2,f0x2,hc0x2⟩:=hc0x1.cons
  subst e0x2
  obtain ⟨_,z0x2⟩:=f0x2
  obtain ⟨A0x2,n0x2,q0x2,g0x2,rfl,c0x2,m0x2,s0x2⟩:=x3m Tryz.underlying22 (of_decide_eq_true (by kernel_rfl)) z0x2
  obtain ⟨u0x3,cs0x3,e0x3,f0x3,hc0x3⟩:=hc0x2.cons
  subst e0x3
  obtain ⟨_,z0x3⟩:=f0x3
  obtain ⟨A0x3,n0x3,q0x3,g0x3,rfl,c0x3,m0x3,s0x3⟩:=x3m Tryz.underlying23 (of_decide_eq_true (by kernel_rfl)) z0x3
  obtain rfl:=hc0x3.nil
  obtain ⟨a1,rfl,rfl,rfl,w1⟩:=open_int Tryz.underlying3 (hval 1 3 v1 rfl rfl) h1
  obtain ⟨a2,rfl,rfl,rfl,w2⟩:=open_int Tryz.underlying3 (hval 2 3 v2 rfl rfl) h2
  obtain ⟨cs3x,rfl,hc3x⟩:=v1u (l:=[.int .i64,.slice 43,.int .i64,.int .u8,.int .u8,.int .u8,.int .u8,.int .u8,.int .u8,.int .u8,.int .u8,.int .i64,.int .i64,.int .i64,.int .i64,.int .i64,.slice 46,.int .i64,.int .i64,.slice 47,.slice 48,.int .i64,.int .i64,.int .i64,.int .i64,.int .i64,.int .i64,.bool,.bool,.int .u8,.int .i64,.bool,.bool,.bool]) 20 Tryz.underlying56 (by kernel_rfl) (by kernel_rfl) (hval 3 56 v3 rfl rfl) h3
  obtain ⟨u3x0,cs3x0,e3x0,f3x0,hc3x0⟩:=hc3x.cons
  subst e3x0
  obtain ⟨a3x0,rfl,w3x0⟩:=f3x0
  obtain ⟨u3x1,cs3x1,e3x1,f3x1,hc3x1⟩:=hc3x0.cons
  subst e3x1
  obtain ⟨_,z3x1⟩:=f3x1
  obtain ⟨A3x1,n3x1,q3x1,g3x1,rfl,c3x1,m3x1,s3x1⟩:=x3m Tryz.underlying43 (of_decide_eq_true (by kernel_rfl)) z3x1
  obtain ⟨u3x2,cs3x2,e3x2,f3x2,hc3x2⟩:=hc3x1.cons
  subst e3x2
  obtain ⟨a3x2,rfl,w3x2⟩:=f3x2
  obtain ⟨u3x3,cs3x3,e3x3,f3x3,hc3x3⟩:=hc3x2.cons
  subst e3x3
  obtain ⟨a3x3,rfl,w3x3⟩:=f3x3
  obtain ⟨u3x4,cs3x4,e3x4,f3x4,hc3x4⟩:=hc3x3.cons
  subst e3x4
  obtain ⟨a3x4,rfl,w3x4⟩:=f3x4
  obtain ⟨u3x5,cs3x5,e3x5,f3x5,hc3x5⟩:=hc3x4.cons
  subst e3x5
  obtain ⟨a3x5,rfl,w3x5⟩:=f3x5
  obtain ⟨u3x6,cs3x6,e3x6,f3x6,hc3x6⟩:=hc3x5.cons
  subst e3x6
  obtain ⟨a3x6,rfl,w3x6⟩:=f3x6
  obtain ⟨u3x7,cs3x7,e3x7,f3x7,hc3x7⟩:=hc3x6.cons
  subst e3x7
  obtain ⟨a3x7,rfl,w3x7⟩:=f3x7
  obtain ⟨u3x8,cs3x8,e3x8,f3x8,hc3x8⟩:=hc3x7.cons
  subst e3x8
  obtain ⟨a3x8,rfl,w3x8⟩:=f3x8
  obtain ⟨u3x9,cs3x9,e3x9,f3x9,hc3x9⟩:=hc3x8.cons
  subst e3x9
  obtain ⟨a3x9,rfl,w3x9⟩:=f3x9
  obtain ⟨u3x10,cs3x10,e3x10,f3x10,hc3x10⟩:=hc3x9.cons
  subst e3x10
  obtain ⟨a3x10,rfl,w3x10⟩:=f3x10
  obtain ⟨u3x11,cs3x11,e3x11,f3x11,hc3x11⟩:=hc3x10.cons
  subst e3x11
  obtain ⟨a3x11,rfl,w3x11⟩:=f3x11
  obtain ⟨u3x12,cs3x12,e3x12,f3x12,hc3x12⟩:=hc3x11.cons
  subst e3x12
  obtain ⟨a3x12,rfl,w3x12⟩:=f3x12
  obtain ⟨u3x13,cs3x13,e3x13,f3x13,hc3x13⟩:=hc3x12.cons
  subst e3x13
  obtain ⟨a3x13,rfl,w3x13⟩:=f3x13
  obtain ⟨u3x14,cs3x14,e3x14,f3x14,hc3x14⟩:=hc3x13.cons
  subst e3x14
  obtain ⟨a3x14,rfl,w3x14⟩:=f3x14
  obtain ⟨u3x15,cs3x15,e3x15,f3x15,hc3x15⟩:=hc3x14.cons
  subst e3x15
  obtain ⟨a3x15,rfl,w3x15⟩:=f3x15
  obtain ⟨u3x16,cs3x16,e3x16,f3x16,hc3x16⟩:=hc3x15.cons
  subst e3x16
  obtain ⟨_,z3x16⟩:=f3x16
  obtain ⟨A3x16,n3x16,q3x16,g3x16,rfl,c3x16,m3x16,s3x16⟩:=x3m Tryz.underlying46 (of_decide_eq_true (by kernel_rfl)) z3x16
  obtain ⟨u3x17,cs3x17,e3x17,f3x17,hc3x17⟩:=hc3x16.cons
  subst e3x17
  obtain ⟨a3x17,rfl,w3x17⟩:=f3x17
  obtain ⟨u3x18,cs3x18,e3x18,f3x18,hc3x18⟩:=hc3x17.cons
  subst e3x18
  obtain ⟨a3x18,rfl,w3x18⟩:=f3x18
  obtain ⟨u3x19,cs3x19,e3x19,f3x19,hc3x19⟩:=hc3x18.cons
  subst e3x19
  obtain ⟨_,z3x19⟩:=f3x19
  obtain ⟨A3x19,n3x19,q3x19,g3x19,rfl,c3x19,m3x19,s3x19⟩:=x3m Tryz.underlying47 (of_decide_eq_true (by kernel_rfl)) z3x19
  obtain ⟨u3x20,cs3x20,e3x20,f3x20,hc3x20⟩:=hc3x19.cons
  subst e3x20
  obtain ⟨_,z3x20⟩:=f3x20
  obtain ⟨A3x20,n3x20,q3x20,g3x20,rfl,c3x20,m3x20,s3x20⟩:=x3m Tryz.underlying48 (of_decide_eq_true (by kernel_rfl)) z3x20
  obtain ⟨u3x21,cs3x21,e3x21,f3x21,hc3x21⟩:=hc3x20.cons
  subst e3x21
  obtain ⟨a3x21,rfl,w3x21⟩:=f3x21
  obtain ⟨u3x22,cs3x22,e3x22,f3x22,hc3x22⟩:=hc3x21.cons
  subst e3x22
  obtain ⟨a3x22,rfl,w3x22⟩:=f3x22
  obtain ⟨u3x23,cs3x23,e3x23,f3x23,hc3x23⟩:=hc3x22.cons
  subst e3x23
  obtain ⟨a3x23,rfl,w3x23⟩:=f3x23
  obtain ⟨u3x24,cs3x24,e3x24,f3x24,hc3x24⟩:=hc3x23.cons
  subst e3x24
  obtain ⟨a3x24,rfl,w3x24⟩:=f3x24
  obtain ⟨u3x25,cs3x25,e3x25,f3x25,hc3x25⟩:=hc3x24.cons
  subst e3x25
  obtain ⟨a3x25,rfl,w3x25⟩:=f3x25
  obtain ⟨u3x26,cs3x26,e3x26,f3x26,hc3x26⟩:=hc3x25.cons
  subst e3x26
  obtain ⟨a3x26,rfl,w3x26⟩:=f3x26
  obtain ⟨u3x27,cs3x27,e3x27,f3x27,hc3x27⟩:=hc3x26.cons
  subst e3x27
  obtain ⟨a3x27,rfl⟩:=f3x27
  obtain ⟨u3x28,cs3x28,e3x28,f3x28,hc3x28⟩:=hc3x27.cons
  subst e3x28
  obtain ⟨a3x28,rfl⟩:=f3x28
  obtain ⟨u3x29,cs3x29,e3x29,f3x29,hc3x29⟩:=hc3x28.cons
  subst e3x29
  obtain ⟨a3x29,rfl,w3x29⟩:=f3x29
  obtain ⟨u3x30,cs3x30,e3x30,f3x30,hc3x30⟩:=hc3x29.cons
  subst e3x30
  obtain ⟨a3x30,rfl,w3x30⟩:=f3x30
  obtain ⟨u3x31,cs3x31,e3x31,f3x31,hc3x31⟩:=hc3x30.cons
  subst e3x31
  obtain ⟨a3x31,rfl⟩:=f3x31
  obtain ⟨u3x32,cs3x32,e3x32,f3x32,hc3x32⟩:=hc3x31.cons
  subst e3x32
  obtain ⟨a3x32,rfl⟩:=f3x32
  obtain ⟨u3x33,cs3x33,e3x33,f3x33,hc3x33⟩:=hc3x32.cons
  subst e3x33
  obtain ⟨a3x33,rfl⟩:=f3x33
  obtain rfl:=hc3x33.nil
  clear hA0 hval0
  refine (walk a0x0 a0x1 A0x2 n0x2 q0x2 g0x2 A0x3 n0x3 q0x3 g0x3 a1 a2 a3x0 A3x1 n3x1 q3x1 g3x1 a3x2 a3x3 a3x4 a3x5 a3x6 a3x7 a3x8 a3x9 a3x10 a3x11 a3x12 a3x13 a3x14 a3x15 A3x16 n3x16 q3x16 g3x16 a3x17 a3x18 A3x19 n3x19 q3x19 g3x19 A3x20 n3x20 q3x20 g3x20 a3x21 a3x22 a3x23 a3x24 a3x25 a3x26 a3x27 a3x28 a3x29 a3x30 a3x31 a3x32 a3x33 W w0x0 w0x1 c0x2 m0x2 s0x2 c0x3 m0x3 s0x3 w1 w2 w3x0 c3x1 m3x1 s3x1 w3x2 w3x3 w3x4 w3x5 w3x6 w3x7 w3x8 w3x9 w3x10 w3x11 w3x12 w3x13 w3x14 w3x15 c3x16 m3x16 s3x16 w3x17 w3x18 c3x19 m3x19 s3x19 c3x20 m3x20 s3x20 w3x21 w3x22 w3x23 w3x24 w3x25 w3x26 w3x29 w3x30).mono fun e W' ⟨he,bel⟩=>?_
  subst he
  exact ⟨_,rfl,_,_,_,[],_,[],hW',trodAll_mk1 (shut_bool Tryz.underlying4 _),(trodAll_cons_mk (Below.trod laidOut (by kernel_rfl) (of_decide_eq_true (by kernel_rfl)) k0 bel lt0) (trodAll_cons_mk (Below.trod laidOut (by kernel_rfl) (of_decide_eq_true (by kernel_rfl)) k1 bel lt1) (trodAll_cons_mk (Below.trod laidOut (by kernel_rfl) (of_decide_eq_true (by kernel_rfl)) k2 bel lt2) (trodAll_cons_mk (Below.trod laidOut (by kernel_rfl) (of_decide_eq_true (by kernel_rfl)) k3 bel lt3) trodAll_mk0)))),rfl,bel.frame _,fun h=>by cases h⟩
theorem over:Rows.listBracketsRow.holds Tryz.pinned (OpenSpec.ofChange Rows.listBracketsSpec) :=
  OpenClaim.holds_of_wide 6 Tryz.f6 rfl rfl rfl rfl rfl rfl rfl ⟨rfl,rfl,rfl,rfl,rfl⟩ rfl rfl rfl rfl rfl (by kernel_rfl) Tryz.func6 (by kernel_rfl)
    (of_decide_eq_true (by kernel_rfl)) (by unfold Func.isWrapper;first |(rw [if_pos (by decide +kernel)];kernel_rfl) |(rw [if_neg (by decide +kernel)];exact ⟨rfl,rfl⟩))
    (fun os started H enc _=>lifted os started H enc)
theorem proved:Rows.ListBracketsSaid:=over
#print axioms proved
end Go.Proofs.YticolnghiibgfaaGreat.listBrackets
