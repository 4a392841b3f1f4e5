/-
  Merged: XRBlend, XInk, XInks, XMix.
-/
import Derived.WalkKit
import Derived.ChangeKeysEq
import Derived.StillTail
import Derived.Test.YticolnghiibgfaaGreatMrg3
import Derived.Test.YticolnghiibgfaaGreatMode
import Derived.Test.YticolnghiibgfaaGreatProg
set_option linter.unusedVariables false
set_option linter.unusedSimpArgs false
set_option linter.unnecessarySimpa false
namespace Go.Proofs.YticolnghiibgfaaGreat
open Go.RowKit
end Go.Proofs.YticolnghiibgfaaGreat
namespace Go.Proofs.YticolnghiibgfaaGreat
open Go.RowKit
def inkV (k b s:Int):Int:=255-blV k (255-b) (255-s)
theorem x2w {k b s:Int} (hb:0≤b∧b≤255) (hs:0≤s∧s≤255):0≤inkV k b s∧inkV k b s≤255:=by
  have:=q34 (k:=k) (b:=255-b) (s:=255-s) (by omega) (by omega)
  unfold inkV;omega
set_option maxRecDepth 20000 in
set_option maxHeartbeats 2000000 in
theorem x77 (k:Int) (w:World) (hk:0≤k∧k≤11):Calls Tryz.prog 78 #[.int .i64 k] w fun e w'=>e=.returned (.func (.func 107) #[] #[.pointer (some ⟨w.heap.size+2,0,none⟩)]) ∧
    ((w.alloc q22).alloc (.cells #[.func (.func (q28 k)) #[] #[]] 113)).alloc (.cells #[.func (.func 134) #[] #[.pointer (some ⟨w.heap.size+1,0,none⟩)]] 131)=w':=by
  go_enter Tryz.func78,Tryz.ntmps78
  go_wp2_with fail
  refine (x76 k _ hk).mono ?_
  rintro e w' ⟨rfl,rfl⟩
  go_wp2_with fail
  go_ret
  exact ⟨rfl,rfl⟩
set_option maxRecDepth 20000 in
set_option maxHeartbeats 2000000 in
theorem x3u (k b s:Int) (p q:Nat) (w:World) (hk:0≤k∧k≤11) (hb:0≤b∧b≤255) (hs:0≤s∧s≤255) (hc:∀ o,w.cell? ⟨p,o,none⟩=#[Value.func (.func 134) #[] #[.pointer (some ⟨q,0,none⟩)]][o]?)
    (hq:∀ o,w.cell? ⟨q,o,none⟩=#[Value.func (.func (q28 k)) #[] #[]][o]?) :
    Calls Tryz.prog 107 #[.int .u8 b,.int .u8 s,.pointer (some ⟨p,0,none⟩)] w fun e w'=>e=.returned (.int .u8 (inkV k b s))∧w=w':=by
  have hr:=q34 (k:=k) (b:=255-b) (s:=255-s) (by omega) (by omega)
  have hqH:Hid _:=hq
  clear hq
  go_enter Tryz.func107,Tryz.ntmps107
  go_wp2_with fail
  refine (x3t k (255-b) (255-s) q _ hk (by omega) (by omega) hqH.out).mono ?_
  rintro e w' ⟨rfl,rfl⟩
  go_wp2_with fail
  go_ret
  exact ⟨rfl,rfl⟩
end Go.Proofs.YticolnghiibgfaaGreat
namespace Go.Proofs.YticolnghiibgfaaGreat
open Go.RowKit
theorem v1v (a b:Int) (w:World):(Op.equalIn 9999 5 (.int .u8 a) (.int .u8 b)).run Tryz.prog w=.ok (a==b) w:=run_equalIn_int w 9998 _ _ .u8 a b Tryz.underlying5
theorem q57 {xs ys:Array Value} {j:Nat} {a b:Int} {w:World} {is:List Nat} {r:Bool} (pa:(part 5 xs (j*1)).run Tryz.prog w=.ok (.int .u8 a) w) (pb:(part 5 ys (j*1)).run Tryz.prog w=.ok (.int .u8 b) w)
    (hr:(Op.eqItems 9999 5 1 xs ys is).run Tryz.prog w=.ok r w):(Op.eqItems 9999 5 1 xs ys (j::is)).run Tryz.prog w=.ok (a==b&&r) w:=by
  simp only [Op.eqItems,Sem.run_bind,pa,pb,Result.andThen_ok,v1v]
  cases h:(a==b)
  · simp
  · simpa using hr
@[go_sem] theorem v15 (a0 a1 a2 a3 a4 a5 a6 a7 b0 b1 b2 b3 b4 b5 b6 b7:Int) (w:World) :
    (Op.equalIn 10000 28 (.agg #[.int .u8 a0,.int .u8 a1,.int .u8 a2,.int .u8 a3,.int .u8 a4,.int .u8 a5,.int .u8 a6,.int .u8 a7]) (.agg #[.int .u8 b0,.int .u8 b1,.int .u8 b2,.int .u8 b3,.int .u8 b4,.int .u8 b5,.int .u8 b6,.int .u8 b7])).run Tryz.prog w =
      .ok (a0==b0&&(a1==b1&&(a2==b2&&(a3==b3&&(a4==b4&&(a5==b5&&(a6==b6&&(a7==b7&&true)))))))) w:=by
  have hc:Tryz.prog.cellsOf 5=1:=by kernel_rfl
  obtain ⟨i,hi⟩:∃ i,Tryz.prog.info? 5=some i:=Option.isSome_iff_exists.1 (by kernel_rfl)
  rw [run_equalIn_array w 9999 (e:=5) (n:=8) _ _ Tryz.underlying28 hi]
  rw [hc,show List.range 8=[0,1,2,3,4,5,6,7] from rfl]
  exact q57 (by kernel_rfl) (by kernel_rfl) (q57 (by kernel_rfl) (by kernel_rfl) (q57 (by kernel_rfl) (by kernel_rfl) (q57 (by kernel_rfl) (by kernel_rfl) (q57 (by kernel_rfl) (by kernel_rfl) (q57 (by kernel_rfl) (by kernel_rfl) (q57 (by kernel_rfl) (by kernel_rfl) (q57 (by kernel_rfl) (by kernel_rfl) (rfl))))))))
end Go.Proofs.YticolnghiibgfaaGreat
namespace Go.Proofs.YticolnghiibgfaaGreat
open Go.RowKit
structure Fam (w0:World) where
  X:Type
  f:X→World
  ne:Nonempty X
  below:∀ x,Below w0.heap.size w0 (f x)
  closed:∀ x w',Below (f x).heap.size (f x) w'→∃ y,w'=f y
def Fam.C {w0:World} (F:Fam w0):World→Prop:=fun w'=>∃ x,w'=F.f x
def z85 {w0 w:World} (h:Below w0.heap.size w0 w):Fam w0 where
  X:=Later w
  f:=past w
  ne:=instLater w
  below:=fun x=>h.trans ((q6h w x).mono h.size)
  closed:=fun x w' hb=>⟨⟨w',(q6h w x).trans (hb.mono (x5k w x))⟩,rfl⟩
section
variable {P:Program} {ops:Array Oper} {md:Region.Mode} {w0:World}
def Yv (P:Program) (ops:Array Oper) (w0:World) (o:Oper) (v:Value) (a:Act):Prop:=∀ F:Fam w0,∃ v',(o.dst=none∨v'=v)∧YieldsIn P ops F.C o v' a
theorem put_same {o:Oper} {v v':Value} (h:o.dst=none∨v'=v) (a:Act):a.put o.dst v'=a.put o.dst v:=by
  rcases h with h |h
  · rw [h];rfl
  · rw [h]
theorem Yv.of_same {o:Oper} {v:Value} {a a':Act} (hy:Yv P ops w0 o v a) (he:execOp a'.eval o=execOp a.eval o)
    (hw:Region.wanted o (yielded ops a'.tmps)=Region.wanted o (yielded ops a.tmps)):Yv P ops w0 o v a':=fun F=>by
  obtain ⟨v',h,hy'⟩:=hy F
  exact ⟨v',h,hy'.of_same he hw⟩
def z5l (P:Program) (ops:Array Oper) (w0:World) (Q:Act→Prop):List Oper→Act→Prop
  | [],a=>Q a
  | o::rest,a=>∃ v,Yv P ops w0 o v a∧z5l P ops w0 Q rest (a.put o.dst v)
theorem q88 {C:World→Prop} {Q:Act→Prop} {o:Oper} {rest:List Oper} {a:Act} (h:wpQuiet P ops C Q (o::rest) a):∃ v,YieldsIn P ops C o v a∧wpQuiet P ops C Q rest (a.put o.dst v):=by
  unfold wpQuiet at h
  by_cases hw:Region.wanted o (yielded ops a.tmps)=true
  · rw [if_pos hw] at h
    obtain ⟨v,h1,h2⟩:=h
    exact ⟨v,.inl ⟨hw,h1⟩,h2⟩
  · rw [if_neg hw] at h
    exact ⟨undef,.inr ⟨by simpa using hw,rfl⟩,h⟩
theorem z1m {a:Act} {x:Option Tmp} {v:Value} {d:Tmp} (h:x≠some d):(a.put x v).tmps[d]? = a.tmps[d]?:=by
  cases x with
  | none=>rfl
  | some e =>
    have:e≠d:=fun he=>h (by rw [he])
    simp [Act.put,Array.getElem?_setIfInBounds_ne this]
theorem q89 (a:Act) (x:Option Tmp) (v:Value):(a.put x v).tmps.size=a.tmps.size:=by cases x <;> simp [Act.put]
theorem z3i {a:Act} {v:Value} {d:Tmp} (h:d<a.tmps.size):(a.put (some d) v).tmps[d]? = some v:=by simp [Act.put,h]
theorem q77 {C:World→Prop} {A:Act} {d:Tmp}:∀ {l:List Oper} {a:Act},(∀ o∈l,o.dst≠some d)→wpQuiet P ops C (fun a'=>a'=A) l a→A.tmps[d]? = a.tmps[d]?
  | [],a,_,h=>by have:a=A:=h;rw [this]
  | o::l,a,hd,h=>by
    obtain ⟨v,_,h2⟩:=q88 h
    rw [q77 (fun o' ho'=>hd o' (List.mem_cons_of_mem _ ho')) h2,z1m (hd o (List.mem_cons_self ..))]
def q5o:List Oper→Bool
  | []=>true
  | o::l=>(match o.dst with |none=>true |some d=>l.all fun o'=>o'.dst != some d)&&q5o l
def z3j (n:Nat) (l:List Oper):Bool:=l.all fun o=>match o.dst with |none=>true |some d=>decide (d<n)
theorem z2n {A:Act}:∀ {l:List Oper} {a:Act},q5o l=true→z3j a.tmps.size l=true→Nonempty (Fam w0)→(∀ F:Fam w0,wpQuiet P ops F.C (fun a'=>a'=A) l a)→z5l P ops w0 (fun a'=>a'=A) l a
  | [],a,_,_,hne,h=>by
    obtain ⟨F⟩:=hne
    exact h F
  | o::l,a,hd,hi,hne,h=>by
    obtain ⟨F0⟩:=hne
    simp only [q5o,Bool.and_eq_true] at hd
    obtain ⟨hd1,hd2⟩:=hd
    simp only [z3j,List.all_cons,Bool.and_eq_true] at hi
    obtain ⟨hi1,hi2⟩:=hi
    obtain ⟨v,hy,hr⟩:=q88 (h F0)
    have key:∀ F:Fam w0,∃ v',(o.dst=none∨v'=v)∧YieldsIn P ops F.C o v' a∧wpQuiet P ops F.C (fun a'=>a'=A) l (a.put o.dst v'):=by
      intro F
      obtain ⟨v',hy',hr'⟩:=q88 (h F)
      refine ⟨v',?_,hy',hr'⟩
      cases hdst:o.dst with
      | none=>exact .inl rfl
      | some d =>
        rw [hdst] at hd1 hi1 hr hr'
        have hn:∀ o'∈l,o'.dst≠some d:=fun o' ho'=>by
          have:=List.all_eq_true.1 hd1 o' ho'
          simpa using this
        have hlt:d<a.tmps.size:=by simpa using hi1
        have e1:=q77 hn hr
        have e2:=q77 hn hr'
        rw [z3i hlt] at e1 e2
        rw [e1] at e2
        exact .inr (Option.some.inj e2).symm
    refine ⟨v,fun F=>?_,z2n hd2 (by rw [q89];exact hi2) ⟨F0⟩ fun F=>?_⟩
    · obtain ⟨v',h1,h2,_⟩:=key F
      exact ⟨v',h1,h2⟩
    · obtain ⟨v',h1,_,h3⟩:=key F
      rwa [put_same h1] at h3
def gOp (P:Program) (ops:Array Oper) (w0:World) (N:Nat) (i:Nat) (K:Act→Prop) (a:Act):Prop :=
  match ops[i]? with
  | none=>K a
  | some o=>if i<N then ∃ v,Yv P ops w0 o v a∧K (a.put o.dst v) else ∀ b,w0.heap.size≤b→K (a.put o.dst (.pointer (some ⟨b,0,none⟩)))
theorem x78 {N i:Nat} {a:Act} {K K':Act→Prop} (h:∀ a,K a→K' a) (hh:gOp P ops w0 N i K a):gOp P ops w0 N i K' a:=by
  unfold gOp at *
  split
  · exact h _ (by simpa [*] using hh)
  · rename_i o ho
    simp only [ho] at hh
    split
    · rename_i hi;rw [if_pos hi] at hh;obtain ⟨v,h1,h2⟩:=hh;exact ⟨v,h1,h _ h2⟩
    · rename_i hi;rw [if_neg hi] at hh;exact fun b hb=>h _ (hh b hb)
def gAny (P:Program) (md:Region.Mode) (ops:Array Oper) (w0:World) (N n:Nat) (L:Array Bool→Act→Prop):Nat→Array Bool→Act→Prop
  | 0,listed,a=>L listed a
  | f+1,listed,a =>
    Region.ready md ops listed≠[]∧∀ i∈Region.ready md ops listed,i<n∧gOp P ops w0 N i (gAny P md ops w0 N n L f (listed.setIfInBounds i true)) a
theorem x96 {N j:Nat} {oi oj:Oper} {v:Value} (hj:ops[j]? = some oj) (hap:oi.apart ops oj=true)
    (hsi:∀ cs b,oi.op≠.select cs b) (hsj:∀ cs b,oj.op≠.select cs b) {K:Act→Prop} {a:Act}
    (hy:Yv P ops w0 oi v a) (h:gOp P ops w0 N j K (a.put oi.dst v)) :
    gOp P ops w0 N j (fun a'=>Yv P ops w0 oi v a'∧K (a'.put oi.dst v)) a:=by
  obtain ⟨h1,h2,h3⟩:=Oper.apart_spec hap
  have keep:∀ (a:Act),Yv P ops w0 oi v a→∀ u,Yv P ops w0 oi v (a.put oj.dst u):=fun a hy u =>
    hy.of_same (execOp_put oi hsi a oj.dst u h3) (wanted_put oi a oj.dst u h3)
  unfold gOp at *
  simp only [hj] at *
  split
  · rename_i hlt
    rw [if_pos hlt] at h
    obtain ⟨u,hu,hn⟩:=h
    refine ⟨u,?_,keep a hy u,by rw [← Act.put_comm a v u h2];exact hn⟩
    exact hu.of_same (execOp_put oj hsj a oi.dst v h1).symm (wanted_put oj a oi.dst v h1).symm
  · rename_i hlt
    rw [if_neg hlt] at h
    exact fun b hb=>⟨keep a hy _,by rw [← Act.put_comm a v _ h2];exact h b hb⟩
theorem x3v {N n i:Nat} {oi:Oper} {v:Value} {L:Array Bool→Act→Prop} (hi:ops[i]? = some oi) (hsel:∀ (j:Nat) (o:Oper) cs b,ops[j]? = some o→o.op≠.select cs b)
    (hs:Region.sinkB md ops n=true) (hc:Region.chainB md ops n=true) (hn:n<ops.size) (hiN:i<N) (hNn:N≤n)
    (hdone:∀ listed a,L listed a→∀ j∈Region.ready md ops listed,n≤j) :
    ∀ (f:Nat) (listed:Array Bool) (a:Act),HeadInv md ops n listed →
      (∀ j oj,ops[j]? = some oj→j≠i→listed.getD j true=false→(∀ e∈oj.after,Region.binds md e=true→e.on≠i)→oi.apart ops oj=true) →
      i∈Region.ready md ops listed→Yv P ops w0 oi v a →
      gAny P md ops w0 N n L f (listed.setIfInBounds i true) (a.put oi.dst v)→gAny P md ops w0 N n L (f+1) listed a:=by
  have hin:i<n:=by omega
  have hgi:∀ (K:Act→Prop) (a:Act),Yv P ops w0 oi v a→K (a.put oi.dst v)→gOp P ops w0 N i K a:=fun K a hy hk=>by
    unfold gOp;simp only [hi];rw [if_pos hiN];exact ⟨v,hy,hk⟩
  intro f
  induction f with
  | zero =>
    intro listed a inv _ hr hy H
    have hun:=(mem_ready.1 hr).1
    refine ⟨fun h=>(by rw [h] at hr;cases hr),fun j hj=>?_⟩
    have hjn:j<n:=by
      rcases Nat.lt_or_ge j n with h |h
      · exact h
      · exact absurd hj (tail_waits hs hc hn inv _ i rfl hin hun j h)
    refine ⟨hjn,?_⟩
    by_cases hji:j=i
    · subst hji;exact hgi _ _ hy H
    · have:=hdone _ _ H j (ready_mono hj hji)
      omega
  | succ f ih =>
    intro listed a inv hfree hr hy H
    have hun:=(mem_ready.1 hr).1
    refine ⟨fun h=>(by rw [h] at hr;cases hr),fun j hj=>?_⟩
    have hjn:j<n:=by
      rcases Nat.lt_or_ge j n with h |h
      · exact h
      · exact absurd hj (tail_waits hs hc hn inv _ i rfl hin hun j h)
    refine ⟨hjn,?_⟩
    by_cases hji:j=i
    · subst hji;exact hgi _ _ hy H
    · have h1:=(H.2 j (ready_mono hj hji)).2
      obtain ⟨hjun,oj,hoj,hall⟩:=mem_ready.1 hj
      have hnot:∀ e∈oj.after,Region.binds md e=true→e.on≠i:=fun e he hb heq=>by
        have h1:=hall e he hb
        rw [heq,getD_both hun] at h1
        cases h1
      have h2:=x96 hoj (hfree j oj hoj hji hjun hnot) (fun cs b=>hsel i oi cs b hi) (fun cs b=>hsel j oj cs b hoj) hy h1
      have hfree':∀ k ok,ops[k]? = some ok→k≠i→(listed.setIfInBounds j true).getD k true=false →
          (∀ e∈ok.after,Region.binds md e=true→e.on≠i)→oi.apart ops ok=true:=fun k ok hk hki hun hno=>by
        refine hfree k ok hk hki ?_ hno
        by_cases hjk:j=k
        · subst hjk;exact hjun
        · rw [getD_set_ne true hjk] at hun;exact hun
      refine x78 (fun a' h3=>ih (listed.setIfInBounds j true) a' (inv.set hj hjn) hfree' (ready_mono hr (Ne.symm hji)) h3.1 ?_) h2
      rw [Array.setIfInBounds_comm _ _ hji]
      exact h3.2
theorem z94 {N n g m:Nat} {Lq:Act→Prop} (hsel:Region.noSelect ops=true) (hs:Region.sinkB md ops n=true) (hc:Region.chainB md ops n=true) (hn:n<ops.size) (hNn:N≤n)
    (hq:∀ listed a,Lq a→Region.seqB md ops g N listed=true→gAny P md ops w0 N n (fun listed' a'=>Region.seqB md ops (g-m) n listed'=true∧(m=1→listed'.getD N false=true)∧∃ a0,Lq a0∧((m=0∧a'=a0)∨(m=1∧∃ o b,ops[N]? = some o∧w0.heap.size≤b∧a'=a0.put o.dst (.pointer (some ⟨b,0,none⟩))))) m listed a)
    (hdone:∀ listed,Region.seqB md ops (g-m) n listed=true→∀ j∈Region.ready md ops listed,n≤j) :
    ∀ (l:List Oper) (k:Nat) (listed:Array Bool) (a:Act),(∀ j,j<l.length→l[j]? = ops[k+j]?)→k+l.length=N→HeadInv md ops n listed →
    Region.lexHead md ops g l.length k listed=true→z5l P ops w0 Lq l a →
    gAny P md ops w0 N n (fun listed' a'=>Region.seqB md ops (g-m) n listed'=true∧(m=1→listed'.getD N false=true)∧∃ a0,Lq a0∧((m=0∧a'=a0)∨(m=1∧∃ o b,ops[N]? = some o∧w0.heap.size≤b∧a'=a0.put o.dst (.pointer (some ⟨b,0,none⟩))))) (l.length+m) listed a
  | [],k,listed,a,_,hk,_,hB,h=>by
    have:k=N:=by simpa using hk
    subst this
    rw [List.length_nil,Nat.zero_add]
    exact hq listed a h (by simpa [Region.lexHead] using hB)
  | o::l,k,listed,a,hl,hk,inv,hB,h=>by
    have h0:ops[k]? = some o:=by simpa using (hl 0 (by simp)).symm
    simp only [List.length_cons,Region.lexHead,Bool.and_eq_true] at hB
    obtain ⟨⟨hr,hf⟩,hB'⟩:=hB
    have hkN:k<N:=by simp only [List.length_cons] at hk;omega
    have hr':k∈Region.ready md ops listed:=by simpa using hr
    obtain ⟨v,hy,hK⟩:=h
    rw [List.length_cons,show l.length+1+m=(l.length+m)+1 by omega]
    exact x3v h0 (Region.noSelect_spec hsel) hs hc hn hkN hNn (fun listed' a' hL=>hdone listed' hL.1) (l.length+m) listed a inv (Region.free_spec h0 hf) hr' hy
      (z94 hsel hs hc hn hNn hq hdone l (k+1) _ _ (fun j hj=>by have:=hl (j+1) (by simp;omega);simpa [Nat.add_assoc,Nat.add_comm 1 j] using this) (by simp only [List.length_cons] at hk;omega) (inv.set hr' (by omega)) hB' hK)
structure Track (w0:World) (N:Nat) (d:Tmp) (z:Obj) (listed:Array Bool) (a:Act) (w:World):Prop where
  below:Below w0.heap.size w0 w
  slot:listed.getD N false=true→∃ b,a.tmps[d]? = some (.pointer (some ⟨b,0,none⟩))∧w0.heap.size≤b∧w.heap[b]? = some z
  len:d<a.tmps.size
theorem q78 {N n g:Nat} {d:Tmp} {z:Obj} {L:Array Bool→Act→Prop} {Q':Exit→Act→World→Prop} (hNn:N≤n∧n≤N+1)
    (hal:n=N+1→∃ o,ops[N]? = some o∧o.dst=some d∧o.guard=none∧∀ (f:Operand→Value) (w:World),(execOp f o).run P w=.ok (.value (.pointer (some ⟨w.heap.size,0,none⟩))) (w.alloc z))
    (hd:∀ i o,i<N→ops[i]? = some o→o.dst≠some d)
    (hL:∀ listed a w,L listed a→Track w0 N d z listed a w→(n=N+1→listed.getD N false=true)→wpAny P md ops Q' g listed a w) :
    ∀ (f:Nat) (listed:Array Bool) (a:Act) (w:World),Track w0 N d z listed a w→(∀ listed' a',L listed' a'→n=N+1→listed'.getD N false=true)→gAny P md ops w0 N n L f listed a→wpAny P md ops Q' (f+g) listed a w
  | 0,listed,a,w,ht,hN,h=>by rw [Nat.zero_add];exact hL _ _ _ h ht (hN _ _ h)
  | f+1,listed,a,w,ht,hN,h=>by
    rw [show f+1+g=(f+g)+1 by omega]
    refine ⟨fun h0=>absurd h0 h.1,fun i hi=>?_⟩
    obtain ⟨hin,hg⟩:=h.2 i hi
    unfold gOp at hg
    unfold wpOp
    have hlt:i<ops.size:=by
      obtain ⟨_,o,ho,_⟩:=mem_ready.1 hi
      exact (Array.getElem?_eq_some_iff.1 ho).1
    have ho:ops[i]? = some ops[i]:=Array.getElem?_eq_getElem hlt
    rw [ho] at hg ⊢
    simp only at hg ⊢
    by_cases hiN:i<N
    · rw [if_pos hiN] at hg
      obtain ⟨v,hy,hk⟩:=hg
      have hdi:=hd i _ hiN ho
      obtain ⟨v',hv',hy'⟩:=hy (z85 ht.below)
      rw [← put_same hv'] at hk
      have next:∀ w'',Below w.heap.size w w''→wpAny P md ops Q' (f+g) (listed.setIfInBounds i true) (a.put ops[i].dst v') w'':=fun w'' hb=>by
        refine q78 hNn hal hd hL f _ _ w'' ⟨ht.below.trans (hb.mono ht.below.size),fun hl=>?_,by rw [q89];exact ht.len⟩ hN hk
        rw [getD_set_ne false (by omega)] at hl
        obtain ⟨b,h1,h2,h3⟩:=ht.slot hl
        refine ⟨b,by rw [z1m hdi];exact h1,h2,?_⟩
        rw [hb.block b (by
          rcases Nat.lt_or_ge b w.heap.size with h' |h'
          · exact h'
          · rw [Array.getElem?_eq_none h'] at h3;cases h3)]
        exact h3
      rcases hy' with ⟨hw,hq⟩ |⟨hw,rfl⟩
      · rw [if_pos hw]
        have h3:=hq w ⟨⟨w,Below.refl _ _⟩,rfl⟩
        refine .inl ?_
        unfold Oper.quietAt at h3
        unfold Oper.wp
        generalize (execOp a.eval ops[i]).run P w=r at *
        cases r with
        | ok nx w' =>
          cases nx <;> simp only [Oper.quietUpon] at h3 <;> simp only [Oper.upon]
          case value u =>
            obtain ⟨e1,e2⟩:=h3
            rw [e1,e2]
            exact next w (Below.refl _ _)
          case skip =>
            obtain ⟨e1,e2⟩:=h3
            rw [e1,← e2]
            exact next w (Below.refl _ _)
          case enter fn args =>
            obtain ⟨e1,hc⟩:=h3
            rw [e1]
            exact hc.mono fun e w'' ⟨he,x,hw''⟩=>by subst he;rw [hw''];exact next _ (q6h w x)
        | halt x w'=>simp only [Oper.quietUpon] at h3
      · rw [if_neg (by rw [hw];exact Bool.false_ne_true)]
        exact next w (Below.refl _ _)
    · rw [if_neg hiN] at hg
      have hiN':i=N:=by omega
      subst hiN'
      obtain ⟨o,ho',hod,hgd,hrun⟩:=hal (by omega)
      have hoo:ops[i]=o:=by rw [ho] at ho';exact Option.some.inj ho'
      rw [hoo] at hg ⊢
      rw [if_pos (by simp [Region.wanted,hgd])]
      refine .inl ?_
      unfold Oper.wp
      rw [hrun]
      simp only [Oper.upon]
      refine q78 hNn hal hd hL f _ _ _ ⟨ht.below.alloc ht.below.size _,fun _=>⟨w.heap.size,?_,ht.below.size,?_⟩,by rw [q89];exact ht.len⟩ hN (hg _ ht.below.size)
      · rw [hod];exact z3i ht.len
      · exact (MapKept.heap_alloc w _).1
def mixB (ops:List Oper) (N n:Nat) (d:Tmp):Bool :=
  Region.noSelect ops.toArray&&decide (n<ops.length)&&Region.sinkB .any ops.toArray n&&Region.chainB .any ops.toArray n&&Region.lexHead .any ops.toArray (ops.length-N) N 0 (Array.replicate ops.length false) &&
    q5o (ops.take N)&&(ops.take N).all fun o=>o.dst != some d
theorem x5w {ops:Array Oper} {md:Region.Mode} {g k:Nat} {listed:Array Bool} (h:Region.seqB md ops (g+1) k listed=true):Region.ready md ops listed=[k]∧Region.seqB md ops g (k+1) (listed.setIfInBounds k true)=true:=by
  simpa only [Region.seqB,Bool.and_eq_true,decide_eq_true_eq] using h
theorem z6x {id:Nat} {Q:Exit→Act→World→Prop} {a:Act} {w:World} {l:List Oper} (N:Nat) (d:Tmp) (z:Obj) (A:Act) (hm:P.follows .mixedOrders=true) (hB:mixB l N (N+1) d=true)
    (hlen:z3j a.tmps.size (l.take N)=true∧d<a.tmps.size)
    (hal:∃ o,l[N]? = some o∧o.dst=some d∧o.guard=none∧∀ (f:Operand→Value) (w:World),(execOp f o).run P w=.ok (.value (.pointer (some ⟨w.heap.size,0,none⟩))) (w.alloc z))
    (h:∀ F:Fam w.drew,wpQuiet P l.toArray (fun w'=>∃ x,w'=F.f x) (fun a'=>a'=A) (l.take N) a)
    (hend:∀ b w',w.heap.size≤b→Below w.heap.size w w'→w'.heap[b]? = some z→wpList P l.toArray Q (l.drop (N+1)) (A.put (some d) (.pointer (some ⟨b,0,none⟩))) w') :
    (Code.region id l.toArray true).wp P Q a w:=by
  simp only [mixB,Bool.and_eq_true,decide_eq_true_eq] at hB
  obtain ⟨⟨⟨⟨⟨⟨hsel,hn⟩,hs⟩,hc⟩,hlex⟩,hdd⟩,hdn⟩:=hB
  have htl:(l.take N).length=N:=by simp;omega
  have hH:=z2n (P:=P) (ops:=l.toArray) (w0:=w.drew) hdd hlen.1 ⟨z85 (Below.refl _ _)⟩ h
  have inv0:HeadInv .any l.toArray (N+1) (Array.replicate l.length false) :=
    ⟨by simp,fun j oj _ hl=>(by rw [getD_replicate_false] at hl;cases hl),fun t _ ht=>getD_in (by simpa using ht) (getD_replicate_false _ _)⟩
  have hd:∀ i o,i<N→l.toArray[i]? = some o→o.dst≠some d:=fun i o hi ho=>by
    have h1:=List.all_eq_true.1 hdn o (List.mem_of_getElem? (i:=i) (by rw [List.getElem?_take];simpa [hi] using ho))
    simpa using h1
  obtain ⟨o,ho,hod,hgd,hrun⟩:=hal
  have G:=z94 (P:=P) (md:=.any) (w0:=w.drew) (N:=N) (n:=N+1) (g:=l.length-N) (m:=1) (Lq:=fun a'=>a'=A) hsel hs hc (by simpa using hn) (by omega)
    (fun listed a' hLq hsq=>by
      obtain ⟨g',hg'⟩:∃ g',l.length-N=g'+1:=⟨l.length-N-1,by omega⟩
      rw [hg'] at hsq
      obtain ⟨hr,hs'⟩:=x5w hsq
      refine ⟨by rw [hr];simp,fun i hi=>?_⟩
      rw [hr] at hi
      have:i=N:=by simpa using hi
      subst this
      refine ⟨by omega,?_⟩
      unfold gOp
      rw [show l.toArray[i]? = some o by simpa using ho]
      simp only
      rw [if_neg (Nat.lt_irrefl _)]
      intro b hb
      have hrd:i∈Region.ready .any l.toArray listed:=by rw [hr];exact List.mem_singleton.2 rfl
      have hun:=(mem_ready.1 hrd).1
      have hsz:i<listed.size:=by
        rcases Nat.lt_or_ge i listed.size with h' |h'
        · exact h'
        · simp [Array.getElem?_eq_none h'] at hun
      exact ⟨by rw [hg'];exact hs',fun _=>by simp [hsz],a',hLq,.inr ⟨trivial,o,b,by simp,hb,rfl⟩⟩)
    (fun listed hsq=>seqB_ready hsq) (l.take N) 0 (Array.replicate l.length false) a (fun j hj=>by
      have hj':j<N:=by rw [htl] at hj;exact hj
      simp [hj']) (by simpa using htl) inv0 (by rw [htl];exact hlex) hH
  refine wp_region_any hm ?_
  have hfin:=q78 (P:=P) (md:=.any) (w0:=w.drew) (N:=N) (n:=N+1) (g:=l.length-N-1) (d:=d) (z:=z) (Q':=Q) ⟨by omega,by omega⟩
    (fun _=>⟨o,by simpa using ho,hod,hgd,hrun⟩) hd
    (fun listed a' w' hL ht _=>by
      obtain ⟨hsq,hl2,a0,rfl,hcase⟩:=hL
      rcases hcase with ⟨h0,_⟩ |⟨_,o',b,ho',hb,rfl⟩
      · omega
      · have:o'=o:=by
          have h2:l.toArray[N]? = some o:=by simpa using ho
          rw [h2] at ho';exact (Option.some.inj ho').symm
        subst this
        rw [hod] at ht ⊢
        have := wpAny_of_seq (P:=P) (ops:=l.toArray) (md:=.any) (Q':=Q) (l.drop (N+1)) (N+1) listed (a0.put (some d) (.pointer (some ⟨b,0,none⟩))) w' (fun j=>by simp [List.getElem?_drop]) (by
            rw [List.length_drop,show l.length-(N+1)=l.length-N-1 by omega];exact hsq) (by
            refine hend b w' hb ⟨ht.below.os,ht.below.tape,ht.below.output,ht.below.size,ht.below.block⟩ ?_
            have hlt:d<a0.tmps.size:=by have:=ht.len;rwa [q89] at this
            obtain ⟨b',h1,_,h3⟩:=ht.slot (hl2 rfl)
            rw [z3i hlt] at h1
            simp only [Option.some.injEq,Value.pointer.injEq,Addr.mk.injEq,and_true] at h1
            rw [h1];exact h3)
        rw [List.length_drop,show l.length-(N+1)=l.length-N-1 by omega] at this
        exact this)
    _ _ _ _ ⟨Below.refl _ _,fun hl=>(by rw [getD_replicate_false] at hl;cases hl),hlen.2⟩ (fun listed' a' hL' _=>hL'.2.1 rfl) G
  rw [htl,show N+1+(l.length-N-1)=l.length by omega] at hfin
  simpa using hfin
theorem mix1 {id:Nat} {Q:Exit→Act→World→Prop} {a:Act} {w:World} {l:List Oper} (N:Nat) (d:Tmp) (z:Obj) (hm:P.follows .mixedOrders=true) (hB:mixB l N (N+1) d=true)
    (hlen:z3j a.tmps.size (l.take N)=true∧d<a.tmps.size)
    (hal:∃ o,l[N]? = some o∧o.dst=some d∧o.guard=none∧∀ (f:Operand→Value) (w:World),(execOp f o).run P w=.ok (.value (.pointer (some ⟨w.heap.size,0,none⟩))) (w.alloc z))
    (h : ∃ A,(∀ F:Fam w.drew,wpQuiet P l.toArray (fun w'=>∃ x,w'=F.f x) (fun a'=>a'=A) (l.take N) a) ∧
      ∀ b w',w.heap.size≤b→Below w.heap.size w w'→w'.heap[b]? = some z→wpList P l.toArray Q (l.drop (N+1)) (A.put (some d) (.pointer (some ⟨b,0,none⟩))) w') :
    (Code.region id l.toArray true).wp P Q a w:=by
  obtain ⟨A,h1,h2⟩:=h
  exact z6x N d z A hm hB hlen hal h1 h2
theorem x79 {w0:World} (F:Fam w0) (x:F.X) (b o:Nat):(F.f x).cell? ⟨b,o,none⟩=if b<w0.heap.size then w0.cell? ⟨b,o,none⟩ else z0l (F.f x) b o:=by
  split
  · exact (F.below x).cell (p:=⟨b,o,none⟩) (by assumption)
  · rfl
theorem x3w {w0:World} (F:Fam w0) (x:F.X) (b o:Nat):(F.f x).frozen? ⟨b,o,none⟩=if b<w0.heap.size then w0.frozen? ⟨b,o,none⟩ else q7x (F.f x) b o:=by
  split
  · exact (F.below x).frozen (p:=⟨b,o,none⟩) (by assumption)
  · rfl
attribute [go_sem] x79 x3w
theorem q17 {f:FuncId} {args:Array Value} {w0:World} {F:Fam w0} {x:F.X} {v:Value}
    (h:Calls P f args (F.f x) fun e w'=>e=.returned v∧F.f x=w'):Calls P f args (F.f x) fun e w''=>e=.returned v∧∃ y,w''=F.f y :=
  h.mono fun _ _ ⟨he,hb⟩=>⟨he,x,hb.symm⟩
theorem q9u {w:World} {b:Nat} {cs:Array Value} {t:TypeId} (h:w.heap[b]? = some (.cells cs t)):(∀ o,z0l w b o=cs[o]?)∧(∀ o,q7x w b o=false)∧b<w.heap.size:=by
  refine ⟨fun o=>?_,fun o=>?_,?_⟩
  · unfold z0l World.cell?;simp only [h];simp
  · unfold q7x World.frozen?;simp only [h];simp
  · rcases Nat.lt_or_ge b w.heap.size with h' |h'
    · exact h'
    · rw [Array.getElem?_eq_none h'] at h;cases h
theorem q6i (w:World) (b o:Nat) (v:Value) (b' o':Nat):(w.setCell ⟨b,o,none⟩ v).cell? ⟨b',o',none⟩=if b'=b then (if o'=o then (w.cell? ⟨b,o,none⟩).map (fun _=>v) else w.cell? ⟨b',o',none⟩) else w.cell? ⟨b',o',none⟩:=by
  by_cases h:b'=b
  · rw [if_pos h]
    by_cases h':o'=o
    · rw [if_pos h']
      subst h;subst h'
      cases hc:w.cell? ⟨b',o',none⟩ with
      | some u=>rw [World.cell?_setCell_same _ _ _ hc];rfl
      | none =>
        unfold World.cell? World.setCell at *
        simp only [Array.getElem?_modify,if_true] at *
        cases hb:w.heap[b']? with
        | none=>rfl
        | some x =>
          rw [hb] at hc
          cases x <;> simp_all
    · rw [if_neg h']
      exact World.cell?_setCell_other _ _ _ _ (fun e=>h' (by injection e with e1 e2;exact e2.symm))
  · rw [if_neg h]
    exact World.cell?_setCell_other _ _ _ _ (fun e=>h (by injection e with e1 e2;exact e1.symm))
theorem q1b (w:World) (c:Array Value) (t:TypeId) (n i:Nat):(w.alloc (.cells c t)).frozen? ⟨n,i,none⟩=if n=w.heap.size then false else w.frozen? ⟨n,i,none⟩:=by
  unfold World.frozen? World.alloc
  by_cases h:n=w.heap.size
  · rw [if_pos h];subst h;simp
  · rw [if_neg h];simp [Array.getElem?_push,h]
end
attribute [go_sem] q6i q1b
end Go.Proofs.YticolnghiibgfaaGreat
