/-
  Merged: XClipLaw, XZeros, XGrow, XConcat, XGivesV, XFm, XStand, XBracket.
-/
import Derived.Test.YticolnghiibgfaaGreatMrg33
import Derived.Test.YticolnghiibgfaaGreatMrg18
import Derived.Test.YticolnghiibgfaaGreatMrg14
import Derived.Test.YticolnghiibgfaaGreatMrg32
import Derived.Test.YticolnghiibgfaaGreatMrg17
set_option linter.unusedVariables false
set_option linter.unusedSimpArgs false
set_option linter.unnecessarySimpa false
namespace Go.Proofs.YticolnghiibgfaaGreat
open Go.RowKit Go.Deep
section
variable {X Y:CellX} {p q:Nat→Prop}
end
structure SameI (i j:ItemD):Prop where
  K:j.K=i.K
  al:j.al=i.al
  bl:j.bl=i.bl
  ov:j.ov=i.ov
  iso:j.iso=i.iso
  kn:j.kn=i.kn
section
variable {I J:Nat→ItemD} {f:Nat→SrcF} {R R':Nat→List Run} {n m:Nat} {x y:Int} {G G':Mem}
theorem z22 {K K':Nat→Int} {n:Nat} (h:∀ x,x<n→K x=K' x):∀ k,k≤n→q0w K k=q0w K' k
  | 0,_=>rfl
  | k+1,hk=>by rw [q0w,q0w,z22 h k (by omega),h k (by omega)]
end
end Go.Proofs.YticolnghiibgfaaGreat
namespace Go.Proofs.YticolnghiibgfaaGreat
open Go.RowKit
theorem z56 {P:Program} (w:World) (t u ty e:TypeId) (i:TypeInfo) (z:Value) (ht:P.underlying t=some (.slice e)) (hu:P.underlying u=some (.int .i64)) (hi:P.info? e=some i) (hz:i.zero=some z) (hs:0<i.size)
    (n:Nat) (h0:0<n) (h63:(n:Int)≤9223372036854775807) (h48:n*i.bytes≤281474976710656) :
    (Builtin.append_ #[t,u] ty #[.slice none 0 0,.int .i64 n]).run P w =
      .ok (.slice (some ⟨w.heap.size,0,none⟩) n (grownCap w n 0 e)) (w.drew.alloc (.cells (Builtin.zeroCells z.cells n++Builtin.zeroCells z.cells (grownCap w n 0 e-n)) e)):=by
  have hn:n≠0:=by omega
  have hns:n*i.size≠0:=Nat.mul_ne_zero hn (by omega)
  have h63':¬ (9223372036854775807<(n:Int)):=by omega
  have h48':¬ (281474976710656<Builtin.nextslicecap n 0*i.bytes):=by rw [nextslicecap_zero h0];omega
  have h48i:¬ (281474976710656<(n:Int)*(i.bytes:Int)):=by
    have:(n:Int)*(i.bytes:Int)=((n*i.bytes:Nat):Int):=by push_cast;rfl
    omega
  have h0':¬ ((n:Int)<0):=by omega
  have hw:IntKind.i64.wrap (n:Int)=n:=IntWalk.i64_in _ (by omega)
  simp [Builtin.append_,run_underlying ht,run_underlying hu,sizeOf,typeInfo,zeroValue,hi,hz,asInt,asIntOf,hw,hn,h0',hns,h63',h48',h48i,Question.forced,run_firstCells_none,newRow,grownCap]
theorem x1u {P:Program} {T:Tab} (hT:TOk P T) {fr:List AV} {hp:List Blk} {G:Mem} {K:AV→List Blk→Mem→Prop} {d x:Operand} {t u:TypeId} {n:Nat} (hd:ev fr d=.val (.slice none 0 0)) (hx:ev fr x=.val (.int .i64 n)) (hu:P.underlying u=some (.int .i64)) (h0:0<n)
    (h : q02 T t fun i=>match i.td with
      | .slice e=>q02 T e fun j=>q0n (Nat.blt 0 j.size) (q0n (Nat.beq j.zero.length j.size) (mustP (n*j.bytes≤140737488355328∧n≤maxLen) (∀ xs:List Value,xs.length=n*j.size→lenF hp fun q=>catF hp [.own e j.size n xs] fun hp'=>K (.own q) hp' G)))
      | _=>False):OpP P (.call ⟨.builtin .append,⟨[d,x]⟩,⟨[t,u]⟩⟩) fr hp G K:=by
  refine ⟨fun o ho=>OpS.of_run ?_⟩
  obtain ⟨i,hi,h1⟩:=q0o hT h
  split at h1
  · rename_i e htd
    have ht:=q1e (htd ▸ hi.td)
    simp only [TD.says] at ht
    obtain ⟨j,hj,h2⟩:=q0o hT h1
    obtain ⟨hsz0,h3⟩:=q0l h2
    obtain ⟨hzl0,h4⟩:=q0l h3
    obtain ⟨⟨hb,hml⟩,h5⟩:=h4
    have hsz:0<j.size:=by simpa [Nat.blt_eq] using hsz0
    have hzl:=Nat.eq_of_beq_eq_true hzl0
    obtain ⟨q,z,hq,hqs,hqb,hqz,hzz⟩:=hj.info
    have hzs:z.cells.size=j.size:=by rw [← hzl,← hzz];simp
    have hlen:(Builtin.zeroCells z.cells n).toList.length=n*j.size:=by
      rw [Array.length_toList,size_zeroCells,hzs]
    have h6:=q1s (h5 _ hlen)
    rw [q09] at h6
    refine RunS.new ⟨_,_,h6,fun base β ρ w hr hbase hn hf=>?_⟩
    have hd1:=hf d (by simp [ho,Op.operands,Call.operands])
    have hx1:=hf x (by simp [ho,Op.operands,Call.operands])
    rw [hd] at hd1;simp only [AV.rel] at hd1
    rw [hx] at hx1;simp only [AV.rel] at hx1
    have hm63:(n:Int)≤9223372036854775807:=by unfold maxLen at hml;omega
    have hrun:=z56 (P:=P) w t u o.type e q z ht hu hq hqz (by omega) n h0 hm63 (by rw [hqb];omega)
    have hge:=grownCap_ge w n 0 e
    have hcm:=grownCap_le_maxLen w n 0 e hml
    have hown:(w.drew.alloc (.cells (Builtin.zeroCells z.cells n++Builtin.zeroCells z.cells (grownCap w n 0 e-n)) e)).ownsRow base e j.size (.slice (some ⟨w.heap.size,0,none⟩) n (grownCap w n 0 e)) n (Builtin.zeroCells z.cells n).toList:=by
      refine ⟨hlen,.inr ⟨w.heap.size,_,_,rfl,hbase,heap_alloc_new w.drew _,hge,hcm,?_,?_⟩⟩
      · simp only [Array.size_append,size_zeroCells,hzs,← Nat.add_mul]
        congr 1;omega
      · rw [Array.toList_append,← hlen]
        exact List.take_left
    refine ⟨_,.slice (some ⟨w.heap.size,0,none⟩) n (grownCap w n 0 e),_,by simp [execOp,ho,resolve,invoke,builtin,hd1,hx1,hrun];(try rfl),?_,⟨hown,fun g hg=>?_⟩,fun b hb=>?_,?_⟩
    · exact ⟨rfl,rfl,rfl,by simp,fun k hk=>heap_alloc_old w.drew _ hk⟩
    · simp [q0e] at hg;subst hg
      cases hG:G w.heap.size with
      | none=>rfl
      | some o' =>
        have:=(Array.getElem?_eq_some_iff.1 (hr.hold _ _ hG)).1
        omega
    · simp [q0e] at hb;omega
    · simp only [AV.rel];exact ⟨Nm.put_same _ _ _,rfl⟩
  · exact h1.elim
theorem v0i {P:Program} {fr:List AV} {hp:List Blk} {G:Mem} {K:AV→List Blk→Mem→Prop} {x:Operand} {t e:TypeId} {A:Option Addr} {n c:Nat} (hx:ev fr x=.val (.slice A n c)) (ht:P.underlying t=some (.slice e)) (h:K (.val (.int .i64 c)) hp G):OpP P (.call ⟨.builtin .cap,⟨[x]⟩,⟨[t]⟩⟩) fr hp G K:=by
  refine ⟨fun o ho=>OpS.of_run (RunS.pure ⟨_,h,fun base β ρ w hr hf=>?_⟩)⟩
  have hx1:=hf x (by simp [ho,Op.operands,Call.operands])
  rw [hx] at hx1;simp only [AV.rel] at hx1
  exact ⟨.int .i64 c,by simp [execOp,ho,resolve,invoke,builtin,Builtin.cap_,run_underlying ht,hx1,goInt],by simp only [AV.rel]⟩
end Go.Proofs.YticolnghiibgfaaGreat
namespace Go.Proofs.YticolnghiibgfaaGreat
open Go.RowKit
set_option maxRecDepth 20000
theorem x6s {P:Program} {T:Tab} (hT:TOk P T) {f:FuncId} {fn:Func} (hfn:P.funcs[f]? = some fn) {args:List AV} {G:Mem} {E:TypeId} {sz n:Nat} {ys:List Value} (hn:q5n fn=true)
    (h:q32 P T 0 fn args [] G fun v hp' _=>∃ k N xs,v=.vw k 0 n∧nthB hp' k=.own E sz N xs∧n≤N∧ys=xs.take (n*sz)):q33 P f args G id E sz n ys:=by
  intro w vs hG ha
  refine (q44 hT hfn (hp:=[]) h (.inl hn) w G _ w vs (HR.init hG) ha).mono ?_
  rintro e w' ⟨y,β',v',hp',G',h1,_,h2,h3,k,N,xs,rfl,hk,hle,rfl⟩
  simp only [AV.rel] at h3
  obtain ⟨A,c,rfl,hnc,⟨_,hm⟩,_⟩:=h3
  obtain ⟨m,hm⟩:=hm trivial
  obtain ⟨x,hx1,hx2⟩:=h2.blk k _ hm
  rw [q0s hk rfl] at hx1;cases hx1
  have hmN:m=N:=by
    rcases hx2.1.2 with ⟨e1,e2⟩ |⟨g,cap,cur,e1,_⟩
    · cases e1;exact e2.symm
    · cases e1;rfl
  subst hmN
  exact ⟨_,_,h1,by simp only [AV.rel,id],z14 hx2.1 hle,h2.below⟩
theorem x4i {n:Nat} (h0:0<n) (hn:n≤1000000) (G:Mem):q33 Tryz.prog 68 [.val (.slice none 0 0),.val (.int .i64 n)] G id 56 34 0 []:=by
  refine x6s tab_ok Tryz.func68 (by kernel_rfl) ?_
  (repeat ((try (conv=>whnf));(first |(refine v0i (e:=56) (A:=none) (n:=0) (c:=0) (by rfl) (by kernel_rfl) ?_) |(refine stQ ?_))))
  conv=>whnf
  refine x1u (n:=n) tab_ok (by rfl) (by rfl) (by kernel_rfl) h0 ?_
  conv=>whnf
  refine mustP.mk ⟨by show n*256≤140737488355328;omega,by unfold maxLen;omega⟩ fun xs hxs=>?_
  (repeat ((try (conv=>whnf));(refine stQ ?_)))
  conv=>whnf
  exact ⟨0,n,xs,rfl,rfl,Nat.zero_le _,by simp⟩
end Go.Proofs.YticolnghiibgfaaGreat
namespace Go.Proofs.YticolnghiibgfaaGreat
open Go.RowKit
set_option maxRecDepth 20000
set_option maxHeartbeats 8000000 in
theorem x0y {G:Mem} {b:Nat} {A0 A1 A2 A3 A4:Option Addr} {n0 n1 n2 n3 n4 q0 q1 q2 q3 q4:Nat} {c0 c1 c2 c3 c4:Nat→List Value}
    (hb:∀ (j:Nat) u,[Value.slice A0 n0 q0,.slice A1 n1 q1,.slice A2 n2 q2,.slice A3 n3 q3,.slice A4 n4 q4][j]? = some u→G.cell? ⟨b,j,none⟩=some u)
    (h0:ElsM G A0 34 n0 c0) (h1:ElsM G A1 34 n1 c1) (h2:ElsM G A2 34 n2 c2) (h3:ElsM G A3 34 n3 c3) (h4:ElsM G A4 34 n4 c4)
    (o0:∀ x,x<n0→∀ v∈c0 x,v.oneCell'=true) (o1:∀ x,x<n1→∀ v∈c1 x,v.oneCell'=true) (o2:∀ x,x<n2→∀ v∈c2 x,v.oneCell'=true) (o3:∀ x,x<n3→∀ v∈c3 x,v.oneCell'=true) (o4:∀ x,x<n4→∀ v∈c4 x,v.oneCell'=true)
    (hp:0<n0+n1+n2+n3+n4) (hs:n0+n1+n2+n3+n4≤1000000) :
    q33 Tryz.prog 42 [.val (.slice (some ⟨b,0,none⟩) 5 5)] G id 56 34 (n0+n1+n2+n3+n4) (q0p c0 n0++q0p c1 n1++q0p c2 n2++q0p c3 n3++q0p c4 n4):=by
  refine q4e tab_ok Tryz.func42 (.alone fun _=>rfl) ?_
  have k0:∀ K:List Value→Prop,K [.slice A0 n0 q0]→OldCells G ⟨b,0,none⟩ 1 K:=fun K k=>q03 _ rfl (fun j u hj=>by match j,hj with |0,hj=>exact hb 0 u hj) k
  have k1:∀ K:List Value→Prop,K [.slice A1 n1 q1]→OldCells G ⟨b,1,none⟩ 1 K:=fun K k=>q03 _ rfl (fun j u hj=>by match j,hj with |0,hj=>exact hb 1 u hj) k
  have k2:∀ K:List Value→Prop,K [.slice A2 n2 q2]→OldCells G ⟨b,2,none⟩ 1 K:=fun K k=>q03 _ rfl (fun j u hj=>by match j,hj with |0,hj=>exact hb 2 u hj) k
  have k3:∀ K:List Value→Prop,K [.slice A3 n3 q3]→OldCells G ⟨b,3,none⟩ 1 K:=fun K k=>q03 _ rfl (fun j u hj=>by match j,hj with |0,hj=>exact hb 3 u hj) k
  have k4:∀ K:List Value→Prop,K [.slice A4 n4 q4]→OldCells G ⟨b,4,none⟩ 1 K:=fun K k=>q03 _ rfl (fun j u hj=>by match j,hj with |0,hj=>exact hb 4 u hj) k
  have s0:=h0.srcV (by decide) o0
  have s1:=h1.srcV (by decide) o1
  have s2:=h2.srcV (by decide) o2
  have s3:=h3.srcV (by decide) o3
  have s4:=h4.srcV (by decide) o4
  (repeat ((try (conv=>whnf));(first |(with_reducible refine q4r tab_ok ?_) |(refine k0 _ ?_) |(refine k1 _ ?_) |(refine k2 _ ?_) |(refine k3 _ ?_) |(refine k4 _ ?_) |(refine stQ ?_))))
  rw [show (0:Int)+(n0:Int)+n1+n2+n3+n4=((n0+n1+n2+n3+n4:Nat):Int) by omega]
  have hgr:=x4i hp hs G
  refine q98 (fun vs w=>by kernel_rfl) (.alone fun _=>rfl) (by rfl) hgr ?_
  (repeat ((try (conv=>whnf));(first |(with_reducible refine q4r tab_ok ?_) |(refine k0 _ ?_) |(refine k1 _ ?_) |(refine k2 _ ?_) |(refine k3 _ ?_) |(refine k4 _ ?_) |(refine s0 _ ?_) |(refine s1 _ ?_) |(refine s2 _ ?_) |(refine s3 _ ?_) |(refine s4 _ ?_) |(refine stQ ?_))))
  conv=>whnf
  refine .inl ⟨5,rfl,?_⟩
  show Blk.own _ _ _ _=_
  rw [Nat.zero_add,List.nil_append]
abbrev endI:ItemD:=⟨2,none,0,0,0,fun _=>0,0,0,0,0,0,none,0,0,0,0,none,0,0,none,0,0,0,0,0,0,0,0,false,false,0,0,false,false,false⟩
def brI (I:Nat→ItemD) (i j:Nat) (g:ItemD) (x:Nat):ItemD:=if x<i then I x else if x=i then g else if x≤j then I (x-1) else if x=j+1 then endI else I (x-2)
theorem q5k {J:Nat→ItemD} {i j n:Nat} {g:ItemD} (hij:i≤j) (hj:j≤n) :
    q0p (fun x=>(J x).cells) i++q0p (fun _=>g.cells) 1++q0p (fun x=>(J (i+x)).cells) (j-i)++q0p (fun _=>endI.cells) 1++q0p (fun x=>(J (j+x)).cells) (n-j)=q0p (fun x=>(brI J i j g x).cells) (n+2):=by
  rw [show n+2=i+1+(j-i)+1+(n-j) by omega,q4a,q4a,q4a,q4a]
  congr 1
  · congr 1
    · congr 1
      · congr 1
        · exact q27 fun x hx=>by simp only [brI];rw [if_pos hx]
        · exact q27 fun x hx=>by simp only [brI];rw [if_neg (by omega),if_pos (by omega)]
      · exact q27 fun x hx=>by simp only [brI];rw [if_neg (by omega),if_neg (by omega),if_pos (by omega),show i+1+x-1=i+x by omega]
    · exact q27 fun x hx=>by simp only [brI];rw [if_neg (by omega),if_neg (by omega),if_neg (by omega),if_pos (by omega)]
  · exact q27 fun x hx=>by simp only [brI];rw [if_neg (by omega),if_neg (by omega),if_neg (by omega),if_neg (by omega),show i+1+(j-i)+1+x-2=j+x by omega]
theorem ElsM.cut {G:Mem} {A:Option Addr} {n cap i k:Nat} {c:Nat→List Value} (h:ElsM G A 34 n c) (hi:i≤n) (hn:n≤cap) (hk:i+k≤n):ElsM G (if cap=((i:Nat):Int).toNat then A else A.map fun x=>x.add (((i:Nat):Int).toNat * 34)) 34 k fun x=>c (i+x):=by
  rw [Int.toNat_natCast]
  split
  · have:k=0:=by omega
    subst this
    exact .none
  · exact (h.drop hi).less (by omega)
theorem x6t {G:Mem} {b:Nat} {A0 A1 A2 A3 A4:Option Addr} {n0 n2 n4 q0 q1 q2 q3 q4 i j n:Nat} {J:Nat→ItemD} {g:ItemD} (hij:i≤j) (hj:j≤n) (hn:n≤900000) (e0:n0=i) (e2:n2=j-i) (e4:n4=n-j)
    (hb:∀ (j:Nat) u,[Value.slice A0 n0 q0,.slice A1 1 q1,.slice A2 n2 q2,.slice A3 1 q3,.slice A4 n4 q4][j]? = some u→G.cell? ⟨b,j,none⟩=some u)
    (h0:ElsM G A0 34 i fun x=>(J x).cells) (h1:ElsM G A1 34 1 fun _=>g.cells) (h2:ElsM G A2 34 (j-i) fun x=>(J (i+x)).cells) (h3:ElsM G A3 34 1 fun _=>endI.cells) (h4:ElsM G A4 34 (n-j) fun x=>(J (j+x)).cells) :
    q33 Tryz.prog 42 [.val (.slice (some ⟨b,0,none⟩) 5 5)] G id 56 34 (n+2) (q0p (fun x=>(brI J i j g x).cells) (n+2)):=by
  subst e0;subst e2;subst e4
  have:=x0y hb h0 h1 h2 h3 h4 (fun x _=>q2x _) (fun x _=>q2x _) (fun x _=>q2x _) (fun x _=>q2x _) (fun x _=>q2x _) (by omega) (by omega)
  rw [q5k hij hj,show n0+1+(j-n0)+1+(n-j)=n+2 by omega] at this
  exact this
end Go.Proofs.YticolnghiibgfaaGreat
namespace Go.Proofs.YticolnghiibgfaaGreat
open Go.RowKit
def x0z (P:Program) (f:FuncId) (args:List AV) (G:Mem) (R:AV→Mem→Prop):Prop :=
  ∀ (w:World) (vs:Array Value),G.holds w→AV.rels noName args vs.toList→Calls P f vs w fun e w'=>∃ y v G',e=.returned y∧v.rel noName y∧Below w.heap.size w w' ∧
    G.le G'∧G'.holds w'∧(∀ b o,G' b=some o→G b=some o∨w.heap.size≤b)∧v.under 0=true∧R v G'
theorem x6u {P:Program} {T:Tab} (hT:TOk P T) {f:FuncId} {fn:Func} (hfn:P.funcs[f]? = some fn) {args:List AV} {G:Mem} {R:AV→Mem→Prop} (hn:q5n fn=true)
    (h:q32 P T 0 fn args [] G fun v hp' G1=>v.under 0=true∧R v G1):x0z P f args G R:=by
  intro w vs hG ha
  refine (q44 hT hfn (hp:=[]) h (.inl hn) w G _ w vs (HR.init hG) ha).mono ?_
  rintro e w' ⟨y,β',v',hp',G',h1,_,h2,h3,hb,hR⟩
  exact ⟨y,v',G',h1,q6z hb h3,h2.below,h2.sub,h2.hold,h2.grow,hb,hR⟩
theorem z23 {P:Program} {f:FuncId} (hen:∀ vs w,(callFunc f vs).run P w=.ok (.enter f vs) w) {args:List AV} {hp:List Blk} {G:Mem} {K:AV→List Blk→Mem→Prop} {R:AV→Mem→Prop} (hu:AV.unders 0 args=true)
    (hc:x0z P f args G R) (h:∀ v G',G.le G'→v.under 0=true→R v G'→K v hp G'):CallP P f args hp G K:=by
  refine ⟨hen,fun w0 G0 β w vs hr ha=>(hc w vs hr.hold (q3a hu ha)).mono ?_⟩
  rintro e w' ⟨y,v,G',rfl,h2,h3,hle,hh,hg,hb,hR⟩
  have hr':=hr.step h3
  have hno:∀ b,G b=none→b<w.heap.size→G' b=none:=fun b hb hl=>by
    cases e:G' b with
    | none=>rfl
    | some o =>
      rcases hg b o e with h6 |h6
      · rw [hb] at h6;cases h6
      · omega
  refine ⟨y,β,v,hp,G',rfl,Nm.le_refl _,⟨hr'.below,hh,Mem.le_trans hr.sub hle,fun b o ho=>?_,fun k z hk=>?_,hr'.inj,hr'.wrt⟩,AV.rel_mono (q3m β) _ _ h2,h v G' hle hb hR⟩
  · rcases hg b o ho with h6 |h6
    · exact hr.grow b o h6
    · exact .inr (Nat.le_trans hr.below.size h6)
  · obtain ⟨x,hx1,hx2⟩:=hr.blk k z hk
    obtain ⟨x',hx1',hx2'⟩:=hr'.blk k z hk
    rw [hx1] at hx1';cases hx1'
    refine ⟨x,hx1,?_⟩
    have hlt:∀ b,x.live=true→q0e z=some b→b<w.heap.size:=fun b hl hb=>(hr.lt hk hx1 hl hb).2.1
    cases x with
    | gone=>trivial
    | muts S=>exact hx2'.elim
    | cells t l =>
      obtain ⟨b,c,q1,q2,q3,q4,q5⟩:=hx2'
      exact ⟨b,c,q1,q2,hno b q3 (hlt b rfl (by rw [q1];rfl)),q4,q5⟩
    | own e' sz' n' xs' =>
      exact ⟨hx2'.1,fun b hb=>hno b (hx2'.2 b hb) (hlt b rfl hb)⟩
    | lp i fr st p =>
      obtain ⟨q1,q2,q3,q4⟩:=hx2'
      exact ⟨q1,q2,hno i.l q3 (hlt i.l rfl (by rw [q1];rfl)),q4⟩
    | mp f ks vs =>
      obtain ⟨b,ys,q1,q2,q3,q4⟩:=hx2'
      exact ⟨b,ys,q1,q2,hno b q3 (hlt b rfl (by rw [q1];rfl)),q4⟩
end Go.Proofs.YticolnghiibgfaaGreat
namespace Go.Proofs.YticolnghiibgfaaGreat
open Go.RowKit
section
variable {α:Type} {enc:α→List Value} {k:Nat}
end
end Go.Proofs.YticolnghiibgfaaGreat
namespace Go.Proofs.YticolnghiibgfaaGreat
open Go.RowKit
def Blk.plugB (k b:Nat):Blk→Blk
  | .cells t l=>.cells t (z0o k b l)
  | .lp i l st p=>.lp i (z0o k b l) st p
  | .mp f ks l=>.mp f ks (z0o k b l)
  | x=>x
def z69 (k b:Nat) (l:List Blk):(List Blk→Prop)→Prop :=
  List.rec (motive:=fun _=>(List Blk→Prop)→Prop) (fun K=>K []) (fun x _ ih K=>ih fun m=>match x with
    | .cells t cs=>q5h k b cs fun cs'=>K (.cells t cs'::m)
    | .own e sz n xs=>K (.own e sz n xs::m)
    | .gone=>K (.gone::m)
    | .muts S=>K (.muts S::m)
    | .lp i fr st p=>q5h k b fr fun fr'=>K (.lp i fr' st p::m)
    | .mp f ks vs=>q5h k b vs fun vs'=>K (.mp f ks vs'::m)) l
theorem z57 (k b:Nat):∀ (l:List Blk) (K:List Blk→Prop),z69 k b l K=K (l.map (Blk.plugB k b))
  | [],_=>rfl
  | x::l,K=>by
    show z69 k b l (fun m=>match x with
      | .cells t cs=>q5h k b cs fun cs'=>K (.cells t cs'::m)
      | .own e sz n xs=>K (.own e sz n xs::m)
      | .gone=>K (.gone::m)
      | .muts S=>K (.muts S::m)
      | .lp i fr st p=>q5h k b fr fun fr'=>K (.lp i fr' st p::m)
      | .mp f ks vs=>q5h k b vs fun vs'=>K (.mp f ks vs'::m))=_
    rw [z57 k b l]
    cases x with
    | cells t cs=>simp only [q6r];rfl
    | own e sz n xs=>rfl
    | gone=>rfl
    | muts S=>rfl
    | lp i fr st p=>simp only [q6r];rfl
    | mp f ks vs=>simp only [q6r];rfl
theorem HR.plugB {w0:World} {G0:Mem} {β:Nm} {hp:List Blk} {G:Mem} {w:World} (hr:HR w0 G0 β hp G w) {k b:Nat} {v:Value} (hv:β k=some v) (hb:q0e v=some b):HR w0 G0 β (hp.map (Blk.plugB k b)) G w:=by
  have live:∀ x:Blk,(x.plugB k b).live=x.live:=fun x=>by cases x <;> rfl
  refine ⟨hr.below,hr.hold,hr.sub,hr.grow,fun j y hj=>?_,fun i j y y' x x' c hne hi hj hx hx' hl hl' hy=>?_,x9g hr.wrt (fun x S e=>by cases x <;> first |exact e |cases e)⟩
  · obtain ⟨x,h1,h2⟩:=hr.blk j y hj
    refine ⟨x.plugB k b,by rw [List.getElem?_map,h1];rfl,?_⟩
    cases x with
    | gone=>trivial
    | muts S=>exact h2.elim
    | cells t l =>
      obtain ⟨b',c,q1,q2,q3,q4,q5⟩:=h2
      exact ⟨b',c,q1,q2,q3,q4,q6q hv hb q5⟩
    | own e sz n xs=>exact h2
    | lp i fr st p =>
      obtain ⟨q1,q2,q3,tm,q4,q5⟩:=h2
      exact ⟨q1,q2,q3,tm,q4,q6q hv hb q5⟩
    | mp f ks vs =>
      obtain ⟨b',ys,q1,q2,q3,q4,q5,q6⟩:=h2
      exact ⟨b',ys,q1,q2,q3,q4,q5,q6q hv hb q6⟩
  · rw [List.getElem?_map] at hx hx'
    cases h1:hp[i]? with
    | none=>rw [h1] at hx;cases hx
    | some z =>
      cases h2:hp[j]? with
      | none=>rw [h2] at hx';cases hx'
      | some z' =>
        rw [h1] at hx;rw [h2] at hx'
        simp only [Option.map_some,Option.some.injEq] at hx hx'
        subst hx;subst hx'
        rw [live] at hl hl'
        exact hr.inj i j y y' z z' c hne hi hj h1 h2 hl hl' hy
theorem z1v {P:Program} {f:FuncId} (k q:Nat) (hen:∀ vs w,(callFunc f vs).run P w=.ok (.enter f vs) w) {args:List AV} {hp:List Blk} {G:Mem} {K:AV→List Blk→Mem→Prop} {t tq:TypeId} {l lq:List AV} {xs:List Value}
    (hin:q7x q args=true) (hq:nthB hp q=.cells tq lq) (hkq:q7x k lq=true) (hk:nthB hp k=.cells t l) (hl:l=xs.map .val)
    (h:∀ b G',G.le G'→(∀ (j:Nat) u,xs[j]? = some u→G'.cell? ⟨b,j,none⟩=some u)→z69 k b hp fun hp1=>setF hp1 k .gone fun hp2=>CallP P f args hp2 G' K):CallP P f args hp G K:=by
  refine ⟨hen,fun w0 G0 β w vs hr ha=>?_⟩
  obtain ⟨vq,hvq⟩:=q7y ha hin
  obtain ⟨x,h1,h2⟩:=hr.blk q vq hvq
  rw [q0s hq rfl] at h1;cases h1
  obtain ⟨_,cs,_,_,_,_,q5⟩:=h2
  obtain ⟨v,hv⟩:=q7y q5 hkq
  obtain ⟨b,G',hb,hle,hc,hr'⟩:=hr.stand hv hk hl
  have h0:=h b G' hle hc
  rw [z57,q1j] at h0
  have hr2:=hr'.plugB hv hb
  have e:(hp.set k .gone).map (Blk.plugB k b)=(hp.map (Blk.plugB k b)).set k .gone:=by
    rw [List.map_set];rfl
  rw [e] at hr2
  exact h0.calls w0 G0 β w vs hr2 ha
section
variable {α:Type} {enc:α→List Value} {k:Nat}
end
end Go.Proofs.YticolnghiibgfaaGreat
namespace Go.Proofs.YticolnghiibgfaaGreat
open Go.RowKit Go.Deep
set_option maxRecDepth 20000
section
variable {G:Mem} {W H er:Int} {SA IA:Option Addr} {m sq n iq i j:Nat} {S:Nat→Nat→Value} {I:Nat→ItemD} {gr gs gp gf:Nat→Nat→Nat→Value} {g:ItemD} {K:AV→List Blk→Mem→Prop}
set_option maxHeartbeats 16000000 in
theorem x00 (hC:Gives Tryz.prog 33 [q2h W H SA m sq IA n iq] G (.val (.int .i64 0))) (hij:i≤j) (hj:j≤n) (hg:g.K=1)
    (hS:SliceM Tryz.prog G 9 SA m S) (hI:ItemsM G IA n I) (hIA:0<n→∀ p,IA=some p→∃ b off,p=⟨b,off,none⟩) (hm:m≤1000000) (hn:n≤900000) (hG:∀ x,x<n→ItemG G (I x) (gr x) (gs x) (gp x) (gf x)) (hB:∀ x,x<n→(I x).rn≤1000000000∧(I x).n≤1000000000∧(I x).pn≤1000000000∧(I x).sn≤1000000000)
    (hK:∀ (SA':Option Addr) (sq':Nat) (J:Nat→ItemD) (A:Option Addr) (cap:Nat) (G':Mem),G.le G'→m≤sq'→sq'≤maxLen→SliceM Tryz.prog G' 9 SA' m S→ItemsM G' A (n+2) (brI J i j g)→n+2≤cap→cap≤maxLen →
      (∀ x,x<n→(∃ RA rq A q B pq C sq,J x=setC (I x) RA rq A q B pq C sq)∧ItemG G' (J x) (gr x) (gs x) (gp x) (gf x)) →
      ∃ p:Int,Gives Tryz.prog 33 [q2h W H SA' m sq' A (n+2) cap] G' (.val (.int .i64 p))∧(p≠0→∀ hp,K (.tup [q8v,.val (.int .i64 p)]) hp G')∧(p=0→∀ hp,K (.tup [q2h W H SA' m sq' A (n+2) cap,.val (.int .i64 0)]) hp G')) :
    q32 Tryz.prog tab 0 Tryz.f20 [q2h W H SA m sq IA n iq,.val (.int .i64 i),.val (.int .i64 j),q3x g] [] G K:=by
  have hcp:=x0x (W:=W) (H:=H) (sq:=sq) (iq:=iq) hS hI hIA hm (show n≤1000000 by omega) hG hB
  (repeat ((try (conv=>whnf));(first |(refine stQ ?_) |(with_reducible first |refine q0b (fun vs w=>by kernel_rfl) (by kernel_rfl) (hC) ?_ |refine q0a (fun vs w=>by kernel_rfl) (by kernel_rfl) (hC) ?_))))
  conv=>whnf
  refine z8o (fun vs w=>by kernel_rfl) (by rfl) hcp ?_
  rintro wrap k xs G1 A1 cap G2 hG1 ⟨SA',sq',J,rfl,rfl,rfl,hq1,hq2,hS1,hJ⟩ hG2 hnc hcm hF
  have hE:ElsM G2 A1 34 k fun x=>(J x).cells:=hF.els (fun _ _=>rfl) (by omega)
  (repeat ((try (conv=>whnf));(first |(with_reducible refine q4d tab_ok (by kernel_rfl) 18 [] (by decide +kernel) ?_) |(refine stQ ?_))))
  conv=>whnf
  refine z1v 5 7 (xs:=g.cells) (fun vs w=>by kernel_rfl) rfl rfl rfl rfl rfl fun b5 G3 hG3 hc5=>?_
  conv=>whnf
  refine z1v 6 7 (xs:=endI.cells) (fun vs w=>by kernel_rfl) rfl rfl rfl rfl rfl fun b6 G4 hG4 hc6=>?_
  conv=>whnf
  refine x1k 7 (xs:=[.slice _ _ _,.slice _ _ _,.slice _ _ _,.slice _ _ _,.slice _ _ _]) (fun vs w=>by kernel_rfl) rfl rfl rfl fun b7 G5 hG5 hc7=>?_
  conv=>whnf
  have l5:=Mem.le_trans hG3 (Mem.le_trans hG4 hG5)
  have e5:ElsM G5 (some ⟨b5,0,none⟩) 34 1 fun _=>g.cells:=⟨fun _ _=>rfl,fun x hx=>⟨b5,0,rfl,fun y v hy=>by
    rw [show 0+x*34+y=y by omega];exact (Mem.le_trans hG4 hG5).cell (hc5 y v hy)⟩⟩
  have e6:ElsM G5 (some ⟨b6,0,none⟩) 34 1 fun _=>endI.cells:=⟨fun _ _=>rfl,fun x hx=>⟨b6,0,rfl,fun y v hy=>by
    rw [show 0+x*34+y=y by omega];exact hG5.cell (hc6 y v hy)⟩⟩
  have hE5:=hE.mono l5
  have e0:=(hE5.cut (i:=0) (k:=i) (Nat.zero_le _) hnc (by omega)).congr (d:=fun x=>(J x).cells) fun x _=>by rw [Nat.zero_add]
  have e2:=hE5.cut (i:=i) (k:=j-i) (by omega) hnc (by omega)
  have e4:=hE5.cut (i:=j) (k:=k-j) (by omega) hnc (by omega)
  have hcc:=x6t (G:=G5) hij hj hn (by omega) (by omega) (by omega) hc7 e0 e5 e2 e6 e4
  refine q3u (fun vs w=>by kernel_rfl) (.alone fun _=>rfl) (by rfl) hcc fun A' cap' G6 hG6 hq6 hq7 hF6=>?_
  have l6:G2.le G6:=Mem.le_trans l5 hG6
  obtain ⟨p,hp,k1,k2⟩:=hK SA' sq' J A' cap' G6 (Mem.le_trans hG1 (Mem.le_trans hG2 l6)) hq1 hq2 (hS1.mono (Mem.le_trans hG2 l6)) (z34 (ElsM.frozen (fun _ _=>rfl) hF6 (by omega))) hq6 hq7 fun x hx=>⟨(hJ x hx).1,(hJ x hx).2.mono (Mem.le_trans hG2 l6)⟩
  by_cases h0:p=0
  · subst h0
    (repeat ((try (conv=>whnf));(first |(refine stQ ?_) |(with_reducible first |refine q0b (fun vs w=>by kernel_rfl) (by kernel_rfl) (hp) ?_ |refine q0a (fun vs w=>by kernel_rfl) (by kernel_rfl) (hp) ?_))))
    exact k2 rfl _
  · (repeat ((try (conv=>whnf));(first |(refine stQ ?_) |(with_reducible first |refine q0b (fun vs w=>by kernel_rfl) (by kernel_rfl) (hp) ?_ |refine q0a (fun vs w=>by kernel_rfl) (by kernel_rfl) (hp) ?_))))
    exact k1 h0 _
end
end Go.Proofs.YticolnghiibgfaaGreat
