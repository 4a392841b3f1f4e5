/-
  Merged: XLit, XCut.
-/
import Derived.Test.YtegpkpilfgohhaaGreatMrg8
import Derived.Test.YtegpkpilfgohhaaGreatMrg7
set_option linter.unusedVariables false
set_option linter.unusedSimpArgs false
set_option linter.unnecessarySimpa false
namespace Go.Proofs.YtegpkpilfgohhaaGreat
open Go.RowKit
def AV.lit (k n m:Nat):AV→AV
  | .sli j o n' c=>match Nat.beq j k with
    | true=>match o with
      | 0=>match Nat.beq n' n with
        | true=>match Nat.beq c n with
          | true=>.own m
          | false=>.sli j 0 n' c
        | false=>.sli j 0 n' c
      | o+1=>.sli j (o+1) n' c
    | false=>.sli j o n' c
  | a=>a
theorem AV.lit_rel {β γ:Nm} (hle:β.le γ) {k n m b:Nat} {v:Value} (hv:β k=some v) (hb:q0i v=some b) (hm:γ m=some (.slice (some ⟨b,0,none⟩) n n)) {a:AV} {y:Value} (h:a.rel β y):(a.lit k n m).rel γ y:=by
  cases a with
  | sli j o n' c =>
    have keep:AV.rel γ (.sli j o n' c) y:=AV.rel_mono hle _ _ h
    cases e1:Nat.beq j k with
    | false=>rw [show AV.lit k n m (.sli j o n' c)=.sli j o n' c by simp only [AV.lit,e1]];exact keep
    | true =>
      have:=Nat.eq_of_beq_eq_true e1
      subst this
      cases o with
      | succ o=>rw [show AV.lit j n m (.sli j (o+1) n' c)=.sli j (o+1) n' c by simp only [AV.lit,e1]];exact keep
      | zero =>
        cases e2:Nat.beq n' n with
        | false=>rw [show AV.lit j n m (.sli j 0 n' c)=.sli j 0 n' c by simp only [AV.lit,e1,e2]];exact keep
        | true =>
          have:=Nat.eq_of_beq_eq_true e2
          subst this
          cases e3:Nat.beq c n' with
          | false=>rw [show AV.lit j n' m (.sli j 0 n' c)=.sli j 0 n' c by simp only [AV.lit,e1,e2,e3]];exact keep
          | true =>
            have:=Nat.eq_of_beq_eq_true e3
            subst this
            rw [show AV.lit j c m (.sli j 0 c c)=.own m by simp only [AV.lit,e1,e2]]
            simp only [AV.rel] at h ⊢
            obtain ⟨v',b',h1,h2,h3⟩:=h
            rw [hv] at h1;cases h1
            rw [hb] at h2;cases h2
            exact ⟨by rw [hm,h3],by rw [h3];rfl⟩
  | _=>exact AV.rel_mono hle _ _ h
def z6m (k n m:Nat) (l:List AV):List AV:=l.map (AV.lit k n m)
theorem z42 {β γ:Nm} (hle:β.le γ) {k n m b:Nat} {v:Value} (hv:β k=some v) (hb:q0i v=some b) (hm:γ m=some (.slice (some ⟨b,0,none⟩) n n)):∀ {l:List AV} {ys:List Value},AV.rels β l ys→AV.rels γ (z6m k n m l) ys
  | [],_,h=>by simpa [z6m,AV.rels] using h
  | a::l,_,h=>by
    simp only [AV.rels] at h
    obtain ⟨y,zs,rfl,h1,h2⟩:=h
    simp only [z6m,List.map_cons,AV.rels]
    exact ⟨y,zs,rfl,AV.lit_rel hle hv hb hm h1,z42 hle hv hb hm h2⟩
def Blk.lit (k n m:Nat):Blk→Blk
  | .cells t l=>.cells t (z6m k n m l)
  | x=>x
def z6n (k n m:Nat) (l:List AV):(List AV→Prop)→Prop :=
  List.rec (motive:=fun _=>(List AV→Prop)→Prop) (fun K=>K []) (fun a _ ih K=>ih fun r=>q2r (AV.lit k n m a) fun a'=>K (a'::r)) l
theorem z43 (k n m:Nat):∀ (l:List AV) (K:List AV→Prop),z6n k n m l K=K (z6m k n m l)
  | [],_=>rfl
  | a::l,K=>by
    show z6n k n m l (fun r=>q2r (AV.lit k n m a) fun a'=>K (a'::r))=_
    rw [z43 k n m l,q19];rfl
def x4h (k n m:Nat) (l:List Blk):(List Blk→Prop)→Prop :=
  List.rec (motive:=fun _=>(List Blk→Prop)→Prop) (fun K=>K []) (fun x _ ih K=>ih fun r=>match x with
    | .cells t cs=>z6n k n m cs fun cs'=>K (.cells t cs'::r)
    | x=>K (x::r)) l
theorem x1m (k n m:Nat):∀ (l:List Blk) (K:List Blk→Prop),x4h k n m l K=K (l.map (Blk.lit k n m))
  | [],_=>rfl
  | x::l,K=>by
    show x4h k n m l (fun r=>match x with
      | .cells t cs=>z6n k n m cs fun cs'=>K (.cells t cs'::r)
      | x=>K (x::r))=_
    rw [x1m k n m l]
    cases x with
    | cells t cs=>simp only [z43];rfl
    | own e sz n xs=>rfl
    | gone=>rfl
    | lp i fr st p=>rfl
    | mp f ks vs=>rfl
    | muts S=>rfl
def z3w (k:Nat):List AV→Bool
  | []=>false
  | .sli j _ _ _::l=>match Nat.beq j k with
    | true=>true
    | false=>z3w k l
  | _::l=>z3w k l
theorem z4g {β:Nm} {k:Nat}:∀ {l:List AV} {ys:List Value},z3w k l=true→AV.rels β l ys→∃ y,β k=some y
  | [],_,h,_=>by cases h
  | a::l,ys,h,e=>by
    simp only [AV.rels] at e
    obtain ⟨y,zs,rfl,h1,h2⟩:=e
    have rest:z3w k l=true→∃ y,β k=some y:=fun h=>z4g h h2
    cases a with
    | sli j o n c =>
      have h':(match Nat.beq j k with |true=>true |false=>z3w k l)=true:=h
      cases e1:Nat.beq j k with
      | true =>
        have:=Nat.eq_of_beq_eq_true e1
        subst this
        simp only [AV.rel] at h1
        obtain ⟨v,_,h3,_⟩:=h1
        exact ⟨v,h3⟩
      | false=>rw [e1] at h';exact rest h'
    | _=>exact rest h
theorem x9o {n0:Nat} (k sz n:Nat) {E:TypeId} {l:List AV} {fr fr':List AV} {hp hp':List Blk} {G G':Mem} (hk:nthB hp k=.cells E l) (hsz:0<sz)
    (h:q14 l fun xs=>q0w (Nat.beq xs.length (n*sz)) (mustP (n≤maxLen) (setF hp k .gone fun hp1=>lenF hp1 fun m=>catF hp1 [.own E sz n xs] fun hp2=>x4h k n m hp2 fun hp3=>z6n k n m fr fun fr1=>Le n0 fr1 hp3 G fr' hp' G')))
    (hin:z3w k fr=true):Le n0 fr hp G fr' hp' G':=by
  obtain ⟨xs,rfl,h1⟩:=q3f _ _ h
  obtain ⟨h2,h3,h4⟩:=q0t h1
  have hxl:=Nat.eq_of_beq_eq_true h2
  rw [q1c] at h4
  have h5:=q1y h4
  rw [q09,x1m,z43] at h5
  constructor
  intro w0 G0 β0 β w ys hb hle hr hfr
  obtain ⟨y,hy⟩:=z4g hin hfr
  have hkl:=q0x hk rfl
  obtain ⟨x1,hx1,hx2⟩:=hr.blk k y hy
  rw [hkl] at hx1;cases hx1
  obtain ⟨b,c,rfl,hb1,hb2,hb3,hb4⟩:=hx2
  have hc0:c.toList=xs:=q2a hb4
  have hcs:c.size=n*sz:=by rw [← hxl,← hc0];simp
  have hlen:(hp.set k .gone).length=hp.length:=by simp
  rw [hlen] at h5
  have hm:=hr.moveName (w':=w) (z:=.slice (some ⟨b,0,none⟩) n n) (u:=.own E sz n xs) hy hkl rfl ⟨rfl,rfl,rfl,Nat.le_refl _,fun _ _ _=>rfl⟩ (fun b' hb'=>.inr hb') (n:=hp.length) rfl ⟨⟨hxl,.inr ⟨b,n,c,rfl,hb1,hb3,Nat.le_refl _,h3,hcs,by rw [hc0];exact List.take_of_length_le (by omega)⟩⟩,fun g hg=>by
    simp [q0i] at hg;subst hg;exact hb2⟩
  have hn:β hp.length=none:=hr.fresh (Nat.le_refl _)
  have hle2:β.le (β.put hp.length (.slice (some ⟨b,0,none⟩) n n)):=Nm.le_put _ hn
  have hat:(β.put hp.length (.slice (some ⟨b,0,none⟩) n n)) hp.length=some (.slice (some ⟨b,0,none⟩) n n):=Nm.put_same _ _ _
  have hy2:=hle2 _ _ hy
  -- the cells,with the new name
  have live:∀ x:Blk,(x.lit k n hp.length).live=x.live:=fun x=>by cases x <;> rfl
  refine h5.out w0 G0 β0 _ w ys hb (Nm.le_trans hle hle2) ⟨hm.below,hm.hold,hm.sub,hm.grow,fun j z hj=>?_,fun i j z z' x x' b' hne hi hj hx hx' hl hl' hz=>?_,z3d hm.wrt (fun x S e=>by cases x <;> first |exact e |cases e)⟩ (z42 hle2 hy rfl hat hfr)
  · obtain ⟨x,g1,g2⟩:=hm.blk j z hj
    refine ⟨x.lit k n hp.length,by rw [List.getElem?_map,g1];rfl,?_⟩
    cases x with
    | gone=>trivial
    | cells t l =>
      obtain ⟨b',c',q1,q2,q3,q4,q5⟩:=g2
      exact ⟨b',c',q1,q2,q3,q4,z42 (Nm.le_refl _) hy2 rfl hat q5⟩
    | own e sz n xs=>exact g2
    | lp i fr st p=>exact g2
    | mp f ks vs=>exact g2
    | muts S=>exact g2.elim
  · rw [List.getElem?_map] at hx hx'
    cases g1:(hp.set k .gone++[Blk.own E sz n xs])[i]? with
    | none=>rw [g1] at hx;cases hx
    | some u =>
      cases g2:(hp.set k .gone++[Blk.own E sz n xs])[j]? with
      | none=>rw [g2] at hx';cases hx'
      | some u' =>
        rw [g1] at hx;rw [g2] at hx'
        simp only [Option.map_some,Option.some.injEq] at hx hx'
        subst hx;subst hx'
        rw [live] at hl hl'
        exact hm.inj i j z z' u u' b' hne hi hj g1 g2 hl hl' hz
end Go.Proofs.YtegpkpilfgohhaaGreat
namespace Go.Proofs.YtegpkpilfgohhaaGreat
open Go.RowKit
set_option maxRecDepth 20000
theorem z3x (x lo hi:Int) (h:-1000000≤lo∧lo≤hi∧hi≤1000000):∃ s:Int,(lo≤s∧s≤hi)∧∀ G,Gives Tryz.prog 12 [.val (.int .i64 x),.val (.int .i64 lo),.val (.int .i64 hi)] G (.val (.int .i64 s)):=by
  have h1:=Int.tmod_lt_of_pos x (show (0:Int)<hi-lo+1 by omega)
  have h2:-(hi-lo+1)<x.tmod (hi-lo+1):=Int.lt_tmod_of_pos x (by omega)
  have h3:=Int.tmod_lt_of_pos (x.tmod (hi-lo+1)+(hi-lo+1)) (show (0:Int)<hi-lo+1 by omega)
  have h4:0≤(x.tmod (hi-lo+1)+(hi-lo+1)).tmod (hi-lo+1):=Int.tmod_nonneg _ (by omega)
  refine ⟨lo+(x.tmod (hi-lo+1)+(hi-lo+1)).tmod (hi-lo+1),by omega,fun G=>?_⟩
  refine q06 tab_ok Tryz.func12 ?_
  (repeat ((try (conv=>whnf));(refine stQ ?_)))
  exact ⟨rfl,rfl⟩
end Go.Proofs.YtegpkpilfgohhaaGreat
