/-
  Merged: XLeUp, XAddE.
-/
import Derived.Test.YtegpkpilfgohhaaEng2
import Derived.Test.YtegpkpilfgohhaaMrg13
import Derived.Test.YtegpkpilfgohhaaJoined
set_option linter.unusedVariables false
set_option linter.unusedSimpArgs false
set_option linter.unnecessarySimpa false
namespace Go.Proofs.Ytegpkpilfgohhaa
open Go.RowKit
theorem z9k {β γ:Nm} {q m:Nat} (hle:β.le γ) (hq:∀ v,β q=some v→γ m=some v):(β.mv q m).le γ:=fun j v hj=>by
  unfold Nm.mv at hj
  split at hj
  · rename_i e;subst e;exact hq v hj
  · split at hj
    · cases hj
    · exact hle j v hj
theorem HR.mvAll {w0:World} {G0:Mem} {β:Nm} {hp:List Blk} {G:Mem} {w:World} (hr:HR w0 G0 β hp G w) {q m:Nat} (hqm:q≠m) (hle:(β.mv q m).le β):HR w0 G0 β (hp.map (Blk.mv q m)) G w:=by
  refine ⟨hr.below,hr.hold,hr.sub,hr.grow,fun j y hj=>?_,fun i j y y' x x' b hne hi hj hx hx' hl hl' hy=>?_,z5n hr.wrt (fun x S e=>by cases x <;> first |exact e |cases e)⟩
  · obtain ⟨x,h1,h2⟩:=hr.blk j y hj
    refine ⟨x.mv q m,by rw [List.getElem?_map,h1];rfl,?_⟩
    cases x with
    | gone=>trivial
    | muts S=>exact h2.elim
    | cells t l =>
      obtain ⟨b,c,q1,q2,q3,q4,q5⟩:=h2
      exact ⟨b,c,q1,q2,q3,q4,AV.rels_mono hle _ _ (AV.rels_mv hqm _ _ q5)⟩
    | own e sz n xs=>exact h2
    | lp i fr st p =>
      obtain ⟨q1,q2,q3,tm,q4,q5⟩:=h2
      exact ⟨q1,q2,q3,tm,q4,AV.rels_mono hle _ _ (AV.rels_mv hqm _ _ q5)⟩
    | mp f ks vs =>
      obtain ⟨b,ys,q1,q2,q3,q4,q5,q6⟩:=h2
      exact ⟨b,ys,q1,q2,q3,q4,q5,AV.rels_mono hle _ _ (AV.rels_mv hqm _ _ q6)⟩
  · rw [List.getElem?_map] at hx hx'
    cases h1:hp[i]? with
    | none=>rw [h1] at hx;cases hx
    | some z =>
      cases h2:hp[j]? with
      | none=>rw [h2] at hx';cases hx'
      | some z' =>
        rw [h1] at hx;rw [h2] at hx'
        simp only [Option.map_some,Option.some.injEq] at hx hx'
        subst hx;subst hx'
        rw [Blk.mv_live] at hl hl'
        exact hr.inj i j y y' z z' b hne hi hj h1 h2 hl hl' hy
theorem HR.lost {w0:World} {G0:Mem} {β:Nm} {hp:List Blk} {G:Mem} {w:World} (hr:HR w0 G0 β hp G w) {q:Nat} (hq:β q=none) {E:TypeId} {sz n:Nat} {xs:List Value}:HR w0 G0 β (hp.set q .gone++[.own E sz n xs]) G w:=by
  have get:∀ j y,β j=some y→(hp.set q .gone++[.own E sz n xs])[j]? = hp[j]?:=fun j y hj=>by
    obtain ⟨x,h1,_⟩:=hr.blk j y hj
    have hlt:=(List.getElem?_eq_some_iff.1 h1).1
    rw [List.getElem?_append_left (by simpa using hlt),List.getElem?_set_ne (fun e=>by subst e;rw [hq] at hj;cases hj)]
  refine ⟨hr.below,hr.hold,hr.sub,hr.grow,fun j y hj=>?_,fun i j y y' x x' b hne hi hj hx hx' hl hl' hy=>?_,fun k S hk b hb=>?_⟩
  · obtain ⟨x,h1,h2⟩:=hr.blk j y hj
    exact ⟨x,by rw [get j y hj];exact h1,h2⟩
  · rw [get i y hi] at hx;rw [get j y' hj] at hx'
    exact hr.inj i j y y' x x' b hne hi hj hx hx' hl hl' hy
  · rw [List.getElem?_append] at hk
    split at hk
    · rw [List.getElem?_set] at hk
      split at hk
      · split at hk <;> cases hk
      · exact hr.wrt k S hk b hb
    · generalize k-(hp.set q .gone).length=i at hk
      cases i with
      | zero=>cases hk
      | succ i=>cases hk
theorem x0n {n0 q m:Nat} {fr fr':List AV} {hp hp':List Blk} {G G':Mem} {E:TypeId} {sz n:Nat} {xs:List Value} (hm:hp.length=m) (hq:nthB hp q=.own E sz n xs) (h:Le n0 (AV.mvs q m fr) ((mvB q m hp).set q .gone++[.own E sz n xs]) G fr' hp' G'):Le n0 fr hp G fr' hp' G':=by
  have hkx:=q0l hq rfl
  have hql:=(List.getElem?_eq_some_iff.1 hkx).1
  have hqm:q≠m:=by omega
  have hmap:(mvB q m hp).set q .gone++[Blk.own E sz n xs]=(hp.set q .gone++[Blk.own E sz n xs]).map (Blk.mv q m):=by
    rw [q68,List.map_append,List.map_set];rfl
  rw [hmap] at h
  constructor
  intro w0 G0 β0 β w ys hb hle hr hfr
  have hfm:β m=none:=hr.fresh (Nat.le_of_eq hm)
  cases hβ:β q with
  | none =>
    have hl:(β.mv q m).le β:=z9k (Nm.le_refl _) fun v hv=>by rw [hβ] at hv;cases hv
    exact h.out w0 G0 β0 β w ys hb hle ((hr.lost hβ).mvAll hqm hl) (AV.rels_mono hl _ _ (AV.rels_mv hqm _ _ hfr))
  | some v =>
    obtain ⟨x1,hx1,hx2⟩:=hr.blk q v hβ
    rw [hkx] at hx1;cases hx1
    have hlp:β.le (β.put m v):=Nm.le_put v hfm
    have h1:=hr.moveName hβ hkx rfl (w':=w) ⟨rfl,rfl,rfl,Nat.le_refl _,fun _ _ _=>rfl⟩ (z:=v) (fun b hb=>.inr hb) hm.symm (u:=.own E sz n xs) hx2
    have hl:((β.put m v).mv q m).le (β.put m v):=z9k (Nm.le_refl _) fun u hu=>by
      rw [Nm.put_ne _ _ hqm,hβ] at hu;cases hu;exact Nm.put_same _ _ _
    exact h.out w0 G0 β0 (β.put m v) w ys hb (Nm.le_trans hle hlp) (h1.mvAll hqm hl) (AV.rels_mono hl _ _ (AV.rels_mv hqm _ _ (AV.rels_mono hlp _ _ hfr)))
theorem z8h (q:Nat) {n0:Nat} {fr fr':List AV} {hp hp':List Blk} {G G':Mem} {E:TypeId} {sz n:Nat} {xs:List Value} (hq:nthB hp q=.own E sz n xs)
    (h:lenF hp fun m=>mvsF q m fr fun fr1=>mvBF q m hp fun hp1=>setF hp1 q .gone fun hp2=>catF hp2 [.own E sz n xs] fun hp3=>Le n0 fr1 hp3 G fr' hp' G'):Le n0 fr hp G fr' hp' G':=by
  have h0:=q04 h
  rw [q51,z1y,q06,q0t] at h0
  exact x0n rfl hq h0
end Go.Proofs.Ytegpkpilfgohhaa
namespace Go.Proofs.Ytegpkpilfgohhaa
open Go.RowKit
set_option maxRecDepth 20000
section
variable {G:Mem} {y:Int}
set_option maxHeartbeats 8000000 in
theorem z86 {n0 n3 n5:Nat} {x0 r3 r5:List Value} {R:List Run} {a b yy cx cs:Int} {K:AV→List Blk→Mem→Prop} (hR:R.length≤1000000000)
    (h:K .any [.own 86 6 n0 x0,.cells 89 [.own 7],.cells 3 [.val (.int .i64 yy)],.own 86 6 n3 r3,.gone,.own 83 2 n5 r5,.cells 83 [.val (.int .i64 cx),.val (.int .i64 cs)],.own 60 3 (addR R y a b).length (q0x (addR R y a b))] G) :
    CallP Try.prog 46 [.ptr 1 0,.val (.int .i64 y),.val (.int .i64 a),.val (.int .i64 b)] [.own 86 6 n0 x0,.cells 89 [.own 4],.cells 3 [.val (.int .i64 yy)],.own 86 6 n3 r3,.own 60 3 R.length (q0x R),.own 83 2 n5 r5,.cells 83 [.val (.int .i64 cx),.val (.int .i64 cs)]] G K:=by
  refine q73 rfl (q0s tab_ok Try.func46 (fun vs w=>by kernel_rfl) rfl ?_)
  have hlen0:R.length=R.length:=rfl
  by_cases hx:b≤a
  · rw [z10 hx] at h
    (repeat ((try (conv=>whnf));(refine stQ ?_)))
    conv=>whnf
    refine ⟨.any,_,G,?_,h⟩
    refine z8h 4 rfl ?_
    conv=>whnf
    refine q0e rfl rfl (q4t q2r) ?_
    exact q0a rfl rfl (q0i (by exact flQ) (q0i (by exact flQ) (q0a rfl rfl (q3h (q0a rfl rfl (q0i (by exact flQ) (q0a rfl rfl q0b)))))))
  · rcases q52 R with hout |⟨K',r,hout⟩
    · have hlen:R.length=0:=by rw [hout];rfl
      rw [hout,q95 hx] at h
      (repeat ((try (conv=>whnf));(refine stQ ?_)))
      conv=>whnf
      refine ⟨.any,_,G,?_,h⟩
      first |(refine q1a 8 7 rfl rfl rfl rfl ?_;conv=>whnf) |skip
      refine q0e rfl rfl (q4t q2r) ?_
      exact q0a rfl rfl (q0i (by exact flQ) (q0i (by exact flQ) (q0a rfl rfl (q3h (q0a rfl rfl (q0i (by exact flQ) (q0a (by simp only [hlen];rfl) (by rw [hout];rfl) q0b)))))))
    · have hlen:R.length=K'.length+1:=by rw [hout];simp
      have hix:(((R.length:Nat):Int)-1).toNat=K'.length:=by omega
      obtain ⟨q0,q1,q2⟩:=z29 K' r
      rw [← hout,← hix] at q0 q1 q2
      rw [← Nat.add_zero ((((R.length:Nat):Int)-1).toNat * 3)] at q0
      by_cases hj1:r.y=y
      · by_cases hj2:a≤r.x1
        · rw [hout,q8t hx hj1 hj2] at h
          (repeat ((try (conv=>whnf));(first |(refine q0n (.int .i64 r.y) q0 ?_) |(refine q0n (.int .i64 r.x1) q2 ?_) |(refine stQ ?_))))
          conv=>whnf
          refine mustP.mk (by rw [hix,q13,hlen];simp;omega) ?_
          (repeat ((try (conv=>whnf));(refine stQ ?_)))
          conv=>whnf
          refine ⟨.any,_,G,?_,h⟩
          refine z8h 4 rfl ?_
          conv=>whnf
          refine q0e rfl rfl (q4t q2r) ?_
          exact q0a rfl rfl (q0i (by exact flQ) (q0i (by exact flQ) (q0a rfl rfl (q3h (q0a rfl rfl (q0i (by exact flQ) (q0a (by rw [hlen];simp) (by rw [hix,hout,← hj1];exact z46 K' r _) q0b)))))))
        · rw [hout,q70 hx (fun h=>hj2 h.2)] at h
          (repeat ((try (conv=>whnf));(first |(refine q0n (.int .i64 r.y) q0 ?_) |(refine q0n (.int .i64 r.x1) q2 ?_) |(refine stQ ?_))))
          conv=>whnf
          refine ⟨.any,_,G,?_,h⟩
          first |(refine q1a 8 7 rfl rfl rfl rfl ?_;conv=>whnf) |skip
          refine q0e rfl rfl (q4t q2r) ?_
          exact q0a rfl rfl (q0i (by exact flQ) (q0i (by exact flQ) (q0a rfl rfl (q3h (q0a rfl rfl (q0i (by exact flQ) (q0a (by rw [hlen];simp) (by rw [hout,q1g (K'++[r])];rfl) q0b)))))))
      · rw [hout,q70 hx (fun h=>hj1 h.1)] at h
        (repeat ((try (conv=>whnf));(first |(refine q0n (.int .i64 r.y) q0 ?_) |(refine q0n (.int .i64 r.x1) q2 ?_) |(refine stQ ?_))))
        conv=>whnf
        refine ⟨.any,_,G,?_,h⟩
        first |(refine q1a 8 7 rfl rfl rfl rfl ?_;conv=>whnf) |skip
        refine q0e rfl rfl (q4t q2r) ?_
        exact q0a rfl rfl (q0i (by exact flQ) (q0i (by exact flQ) (q0a rfl rfl (q3h (q0a rfl rfl (q0i (by exact flQ) (q0a (by rw [hlen];simp) (by rw [hout,q1g (K'++[r])];rfl) q0b)))))))
end
end Go.Proofs.Ytegpkpilfgohhaa
