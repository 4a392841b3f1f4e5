/-
  Merged: XRBlend, XInk, XInks, XMix.
-/
import Derived.WalkKit
import Derived.ChangeKeysEq
import Derived.StillTail
import Derived.Test.YtkicdhaklnmonaaGreatMrg5
import Derived.Test.YtkicdhaklnmonaaGreatProg
set_option linter.unusedVariables false
set_option linter.unusedSimpArgs false
set_option linter.unnecessarySimpa false
namespace Go.Proofs.YtkicdhaklnmonaaGreat
open Go.RowKit
end Go.Proofs.YtkicdhaklnmonaaGreat
namespace Go.Proofs.YtkicdhaklnmonaaGreat
open Go.RowKit
def inkV (k b s:Int):Int:=255-blV k (255-b) (255-s)
theorem x3n {k b s:Int} (hb:0≤b∧b≤255) (hs:0≤s∧s≤255):0≤inkV k b s∧inkV k b s≤255:=by
  have:=q4b (k:=k) (b:=255-b) (s:=255-s) (by omega) (by omega)
  unfold inkV;omega
set_option maxRecDepth 20000 in
set_option maxHeartbeats 2000000 in
theorem x8z (k:Int) (w:World) (hk:0≤k∧k≤11):Calls Tryz.prog 83 #[.int .i64 k] w fun e w'=>e=.returned (.func (.func 109) #[] #[.pointer (some ⟨w.heap.size+2,0,none⟩)]) ∧
    ((w.alloc q26).alloc (.cells #[.func (.func (q3c k)) #[] #[]] 112)).alloc (.cells #[.func (.func 145) #[] #[.pointer (some ⟨w.heap.size+1,0,none⟩)]] 143)=w':=by
  go_enter Tryz.func83,Tryz.ntmps83
  go_wp2_with fail
  refine (x8y k _ hk).mono ?_
  rintro e w' ⟨rfl,rfl⟩
  go_wp2_with fail
  go_ret
  exact ⟨rfl,rfl⟩
set_option maxRecDepth 20000 in
set_option maxHeartbeats 2000000 in
theorem x4s (k b s:Int) (p q:Nat) (w:World) (hk:0≤k∧k≤11) (hb:0≤b∧b≤255) (hs:0≤s∧s≤255) (hc:∀ o,w.cell? ⟨p,o,none⟩=#[Value.func (.func 145) #[] #[.pointer (some ⟨q,0,none⟩)]][o]?)
    (hq:∀ o,w.cell? ⟨q,o,none⟩=#[Value.func (.func (q3c k)) #[] #[]][o]?) :
    Calls Tryz.prog 109 #[.int .u8 b,.int .u8 s,.pointer (some ⟨p,0,none⟩)] w fun e w'=>e=.returned (.int .u8 (inkV k b s))∧w=w':=by
  have hr:=q4b (k:=k) (b:=255-b) (s:=255-s) (by omega) (by omega)
  have hqH:Hid _:=hq
  clear hq
  go_enter Tryz.func109,Tryz.ntmps109
  go_wp2_with fail
  refine (x4r k (255-b) (255-s) q _ hk (by omega) (by omega) hqH.out).mono ?_
  rintro e w' ⟨rfl,rfl⟩
  go_wp2_with fail
  go_ret
  exact ⟨rfl,rfl⟩
end Go.Proofs.YtkicdhaklnmonaaGreat
namespace Go.Proofs.YtkicdhaklnmonaaGreat
open Go.RowKit
theorem v2q (a b:Int) (w:World):(Op.equalIn 9999 5 (.int .u8 a) (.int .u8 b)).run Tryz.prog w=.ok (a==b) w:=run_equalIn_int w 9998 _ _ .u8 a b Tryz.underlying5
theorem q6y {xs ys:Array Value} {j:Nat} {a b:Int} {w:World} {is:List Nat} {r:Bool} (pa:(part 5 xs (j*1)).run Tryz.prog w=.ok (.int .u8 a) w) (pb:(part 5 ys (j*1)).run Tryz.prog w=.ok (.int .u8 b) w)
    (hr:(Op.eqItems 9999 5 1 xs ys is).run Tryz.prog w=.ok r w):(Op.eqItems 9999 5 1 xs ys (j::is)).run Tryz.prog w=.ok (a==b&&r) w:=by
  simp only [Op.eqItems,Sem.run_bind,pa,pb,Result.andThen_ok,v2q]
  cases h:(a==b)
  · simp
  · simpa using hr
@[go_sem] theorem v22 (a0 a1 a2 a3 a4 a5 a6 a7 b0 b1 b2 b3 b4 b5 b6 b7:Int) (w:World) :
    (Op.equalIn 10000 33 (.agg #[.int .u8 a0,.int .u8 a1,.int .u8 a2,.int .u8 a3,.int .u8 a4,.int .u8 a5,.int .u8 a6,.int .u8 a7]) (.agg #[.int .u8 b0,.int .u8 b1,.int .u8 b2,.int .u8 b3,.int .u8 b4,.int .u8 b5,.int .u8 b6,.int .u8 b7])).run Tryz.prog w =
      .ok (a0==b0&&(a1==b1&&(a2==b2&&(a3==b3&&(a4==b4&&(a5==b5&&(a6==b6&&(a7==b7&&true)))))))) w:=by
  have hc:Tryz.prog.cellsOf 5=1:=by kernel_rfl
  obtain ⟨i,hi⟩:∃ i,Tryz.prog.info? 5=some i:=Option.isSome_iff_exists.1 (by kernel_rfl)
  rw [run_equalIn_array w 9999 (e:=5) (n:=8) _ _ Tryz.underlying33 hi]
  rw [hc,show List.range 8=[0,1,2,3,4,5,6,7] from rfl]
  exact q6y (by kernel_rfl) (by kernel_rfl) (q6y (by kernel_rfl) (by kernel_rfl) (q6y (by kernel_rfl) (by kernel_rfl) (q6y (by kernel_rfl) (by kernel_rfl) (q6y (by kernel_rfl) (by kernel_rfl) (q6y (by kernel_rfl) (by kernel_rfl) (q6y (by kernel_rfl) (by kernel_rfl) (q6y (by kernel_rfl) (by kernel_rfl) (rfl))))))))
end Go.Proofs.YtkicdhaklnmonaaGreat
namespace Go.Proofs.YtkicdhaklnmonaaGreat
open Go.RowKit
structure Fam (w0:World) where
  X:Type
  f:X→World
  ne:Nonempty X
  below:∀ x,Below w0.heap.size w0 (f x)
  closed:∀ x w',Below (f x).heap.size (f x) w'→∃ y,w'=f y
def Fam.C {w0:World} (F:Fam w0):World→Prop:=fun w'=>∃ x,w'=F.f x
def v0b {w0 w:World} (h:Below w0.heap.size w0 w):Fam w0 where
  X:=Later w
  f:=past w
  ne:=instLater w
  below:=fun x=>h.trans ((q8w w x).mono h.size)
  closed:=fun x w' hb=>⟨⟨w',(q8w w x).trans (hb.mono (x59 w x))⟩,rfl⟩
section
variable {P:Program} {ops:Array Oper} {md:Region.Mode} {w0:World}
def Yv (P:Program) (ops:Array Oper) (w0:World) (o:Oper) (v:Value) (a:Act):Prop:=∀ F:Fam w0,∃ v',(o.dst=none∨v'=v)∧YieldsIn P ops F.C o v' a
theorem put_same {o:Oper} {v v':Value} (h:o.dst=none∨v'=v) (a:Act):a.put o.dst v'=a.put o.dst v:=by
  rcases h with h |h
  · rw [h];rfl
  · rw [h]
theorem Yv.of_same {o:Oper} {v:Value} {a a':Act} (hy:Yv P ops w0 o v a) (he:execOp a'.eval o=execOp a.eval o)
    (hw:Region.wanted o (yielded ops a'.tmps)=Region.wanted o (yielded ops a.tmps)):Yv P ops w0 o v a':=fun F=>by
  obtain ⟨v',h,hy'⟩:=hy F
  exact ⟨v',h,hy'.of_same he hw⟩
def x0w (P:Program) (ops:Array Oper) (w0:World) (Q:Act→Prop):List Oper→Act→Prop
  | [],a=>Q a
  | o::rest,a=>∃ v,Yv P ops w0 o v a∧x0w P ops w0 Q rest (a.put o.dst v)
theorem q9k {C:World→Prop} {Q:Act→Prop} {o:Oper} {rest:List Oper} {a:Act} (h:wpQuiet P ops C Q (o::rest) a):∃ v,YieldsIn P ops C o v a∧wpQuiet P ops C Q rest (a.put o.dst v):=by
  unfold wpQuiet at h
  by_cases hw:Region.wanted o (yielded ops a.tmps)=true
  · rw [if_pos hw] at h
    obtain ⟨v,h1,h2⟩:=h
    exact ⟨v,.inl ⟨hw,h1⟩,h2⟩
  · rw [if_neg hw] at h
    exact ⟨undef,.inr ⟨by simpa using hw,rfl⟩,h⟩
theorem z53 {a:Act} {x:Option Tmp} {v:Value} {d:Tmp} (h:x≠some d):(a.put x v).tmps[d]? = a.tmps[d]?:=by
  cases x with
  | none=>rfl
  | some e =>
    have:e≠d:=fun he=>h (by rw [he])
    simp [Act.put,Array.getElem?_setIfInBounds_ne this]
theorem x0x (a:Act) (x:Option Tmp) (v:Value):(a.put x v).tmps.size=a.tmps.size:=by cases x <;> simp [Act.put]
theorem x3o {a:Act} {v:Value} {d:Tmp} (h:d<a.tmps.size):(a.put (some d) v).tmps[d]? = some v:=by simp [Act.put,h]
theorem q8l {C:World→Prop} {A:Act} {d:Tmp}:∀ {l:List Oper} {a:Act},(∀ o∈l,o.dst≠some d)→wpQuiet P ops C (fun a'=>a'=A) l a→A.tmps[d]? = a.tmps[d]?
  | [],a,_,h=>by have:a=A:=h;rw [this]
  | o::l,a,hd,h=>by
    obtain ⟨v,_,h2⟩:=q9k h
    rw [q8l (fun o' ho'=>hd o' (List.mem_cons_of_mem _ ho')) h2,z53 (hd o (List.mem_cons_self ..))]
def q70:List Oper→Bool
  | []=>true
  | o::l=>(match o.dst with |none=>true |some d=>l.all fun o'=>o'.dst != some d)&&q70 l
def z9q (n:Nat) (l:List Oper):Bool:=l.all fun o=>match o.dst with |none=>true |some d=>decide (d<n)
theorem z8k {A:Act}:∀ {l:List Oper} {a:Act},q70 l=true→z9q a.tmps.size l=true→Nonempty (Fam w0)→(∀ F:Fam w0,wpQuiet P ops F.C (fun a'=>a'=A) l a)→x0w P ops w0 (fun a'=>a'=A) l a
  | [],a,_,_,hne,h=>by
    obtain ⟨F⟩:=hne
    exact h F
  | o::l,a,hd,hi,hne,h=>by
    obtain ⟨F0⟩:=hne
    simp only [q70,Bool.and_eq_true] at hd
    obtain ⟨hd1,hd2⟩:=hd
    simp only [z9q,List.all_cons,Bool.and_eq_true] at hi
    obtain ⟨hi1,hi2⟩:=hi
    obtain ⟨v,hy,hr⟩:=q9k (h F0)
    have key:∀ F:Fam w0,∃ v',(o.dst=none∨v'=v)∧YieldsIn P ops F.C o v' a∧wpQuiet P ops F.C (fun a'=>a'=A) l (a.put o.dst v'):=by
      intro F
      obtain ⟨v',hy',hr'⟩:=q9k (h F)
      refine ⟨v',?_,hy',hr'⟩
      cases hdst:o.dst with
      | none=>exact .inl rfl
      | some d =>
        rw [hdst] at hd1 hi1 hr hr'
        have hn:∀ o'∈l,o'.dst≠some d:=fun o' ho'=>by
          have:=List.all_eq_true.1 hd1 o' ho'
          simpa using this
        have hlt:d<a.tmps.size:=by simpa using hi1
        have e1:=q8l hn hr
        have e2:=q8l hn hr'
        rw [x3o hlt] at e1 e2
        rw [e1] at e2
        exact .inr (Option.some.inj e2).symm
    refine ⟨v,fun F=>?_,z8k hd2 (by rw [x0x];exact hi2) ⟨F0⟩ fun F=>?_⟩
    · obtain ⟨v',h1,h2,_⟩:=key F
      exact ⟨v',h1,h2⟩
    · obtain ⟨v',h1,_,h3⟩:=key F
      rwa [put_same h1] at h3
theorem x80 {w0:World} (F:Fam w0) (x:F.X) (b o:Nat):(F.f x).cell? ⟨b,o,none⟩=if b<w0.heap.size then w0.cell? ⟨b,o,none⟩ else z7a (F.f x) b o:=by
  split
  · exact (F.below x).cell (p:=⟨b,o,none⟩) (by assumption)
  · rfl
theorem x4t {w0:World} (F:Fam w0) (x:F.X) (b o:Nat):(F.f x).frozen? ⟨b,o,none⟩=if b<w0.heap.size then w0.frozen? ⟨b,o,none⟩ else z2r (F.f x) b o:=by
  split
  · exact (F.below x).frozen (p:=⟨b,o,none⟩) (by assumption)
  · rfl
attribute [go_sem] x80 x4t
theorem x81 {f:FuncId} {args:Array Value} {w0:World} {F:Fam w0} {x:F.X} {v:Value}
    (h:Calls P f args (F.f x) fun e w'=>e=.returned v∧F.f x=w'):Calls P f args (F.f x) fun e w''=>e=.returned v∧∃ y,w''=F.f y :=
  h.mono fun _ _ ⟨he,hb⟩=>⟨he,x,hb.symm⟩
theorem q7b (w:World) (b o:Nat) (v:Value) (b' o':Nat):(w.setCell ⟨b,o,none⟩ v).cell? ⟨b',o',none⟩=if b'=b then (if o'=o then (w.cell? ⟨b,o,none⟩).map (fun _=>v) else w.cell? ⟨b',o',none⟩) else w.cell? ⟨b',o',none⟩:=by
  by_cases h:b'=b
  · rw [if_pos h]
    by_cases h':o'=o
    · rw [if_pos h']
      subst h;subst h'
      cases hc:w.cell? ⟨b',o',none⟩ with
      | some u=>rw [World.cell?_setCell_same _ _ _ hc];rfl
      | none =>
        unfold World.cell? World.setCell at *
        simp only [Array.getElem?_modify,if_true] at *
        cases hb:w.heap[b']? with
        | none=>rfl
        | some x =>
          rw [hb] at hc
          cases x <;> simp_all
    · rw [if_neg h']
      exact World.cell?_setCell_other _ _ _ _ (fun e=>h' (by injection e with e1 e2;exact e2.symm))
  · rw [if_neg h]
    exact World.cell?_setCell_other _ _ _ _ (fun e=>h (by injection e with e1 e2;exact e1.symm))
theorem q4c (w:World) (c:Array Value) (t:TypeId) (n i:Nat):(w.alloc (.cells c t)).frozen? ⟨n,i,none⟩=if n=w.heap.size then false else w.frozen? ⟨n,i,none⟩:=by
  unfold World.frozen? World.alloc
  by_cases h:n=w.heap.size
  · rw [if_pos h];subst h;simp
  · rw [if_neg h];simp [Array.getElem?_push,h]
end
attribute [go_sem] q7b q4c
end Go.Proofs.YtkicdhaklnmonaaGreat
