/-
  Merged: XStabE, XDelE, XLeUp, XAddE, XCmpC, XSort.
-/
import Derived.Sort.Grow
import Derived.Shelf.SlSortCmp.NoneTotal
import Derived.Test.YtegpkpilfgohhaaGreatSymM
import Derived.Test.YtegpkpilfgohhaaGreatMrg21
import Derived.Test.YtegpkpilfgohhaaGreatEng2
import Derived.Test.YtegpkpilfgohhaaGreatMrg14
import Derived.Test.YtegpkpilfgohhaaGreatMrg6
import Derived.Test.YtegpkpilfgohhaaGreatMrg20
import Derived.Test.YtegpkpilfgohhaaGreatShelf
import Derived.Test.YtegpkpilfgohhaaGreatMrg7
import Derived.Test.YtegpkpilfgohhaaGreatMrg12
import Derived.Test.YtegpkpilfgohhaaGreatMrg13
set_option linter.unusedVariables false
set_option linter.unusedSimpArgs false
set_option linter.unnecessarySimpa false
namespace Go.Proofs.YtegpkpilfgohhaaGreat
open Go.RowKit
set_option maxRecDepth 20000
section
variable {G:Mem}
theorem q9i {l:List Edge} {n a b:Nat} {za zb:Int} (hn:l.length=n) (ha:za=a) (hb':zb=b) (hab:a≤b) (hb:b≤l.length) (hl:l.length≤4000000) :
    MendsR Tryz.prog 93 [.own 0,.val (.int .i64 za),.val (.int .i64 zb),q2o] G 108 6 n (l.flatMap encE) fun xs=>∃ l',xs=l'.flatMap encE∧SameIn l l' a b∧srtK Edge.y l' a b:=by
  subst hn;subst ha;subst hb';exact z6j hab hb hl
set_option maxHeartbeats 8000000 in
theorem x1e {l:List Edge} (hl:l.length≤39) :
    MendsR Tryz.prog 62 [.own 0,q2o] G 108 6 l.length (l.flatMap encE) fun xs=>∃ l',xs=l'.flatMap encE∧l'.Perm l∧srtK Edge.y l' 0 l.length:=by
  refine q77 tab_ok Tryz.func62 fun G' hG=>?_
  rcases Nat.lt_or_ge l.length 20 with h1 |h1
  · (repeat ((try (conv=>whnf));(first |(refine q01 tab_ok ?_) |(refine stQ ?_) |(with_reducible refine q0f tab_ok Tryz.func76 (fun vs w=>by kernel_rfl) (by rfl) ?_))))
    conv=>whnf
    refine q1i [.own 0,.val (.int .i64 0),.val (.int .i64 l.length),q2o] 0 0 (fun vs w=>by kernel_rfl) (by rfl) rfl (by rfl) rfl (q9i (l:=l) (a:=0) (b:=l.length) rfl rfl rfl (by omega) (by omega) (by omega)) ?_
    rintro _ ⟨l1,rfl,hS,hs⟩
    (repeat ((try (conv=>whnf));(first |(refine q01 tab_ok ?_) |(refine stQ ?_))))
    exact ⟨_,rfl,l1,rfl,hS.perm,hs⟩
  · (repeat ((try (conv=>whnf));(first |(refine q01 tab_ok ?_) |(refine stQ ?_) |(with_reducible refine q0f tab_ok Tryz.func76 (fun vs w=>by kernel_rfl) (by rfl) ?_))))
    conv=>whnf
    refine q1i [.own 0,.val (.int .i64 0),.val (.int .i64 20),q2o] 0 0 (fun vs w=>by kernel_rfl) (by rfl) rfl (by rfl) rfl (q9i (l:=l) (a:=0) (b:=20) rfl rfl rfl (by omega) (by omega) (by omega)) ?_
    rintro _ ⟨l1,rfl,hS,hs⟩
    have hlen1:=hS.len
    (repeat ((try (conv=>whnf));(first |(refine q01 tab_ok ?_) |(refine stQ ?_))))
    conv=>whnf
    refine q1i [.own 0,.val (.int .i64 20),.val (.int .i64 l.length),q2o] 0 0 (fun vs w=>by kernel_rfl) (by rfl) rfl (by rfl) rfl (q9i (l:=l1) (a:=20) (b:=l.length) hlen1 rfl rfl (by omega) (by omega) (by omega)) ?_
    rintro _ ⟨l2,rfl,hS2,hs2⟩
    have hlen2:=hS2.len
    have hs':=hs.congr (l':=l2) fun i e1 e2=>hS2.out i (by omega)
    rcases Nat.lt_or_ge 20 l.length with h2 |h2
    · (repeat ((try (conv=>whnf));(first |(refine q01 tab_ok ?_) |(refine stQ ?_))))
      conv=>whnf
      refine q1i [.own 0,.val (.int .i64 0),.val (.int .i64 20),.val (.int .i64 l.length),q2o] 0 0 (fun vs w=>by kernel_rfl) (by rfl) rfl (by rfl) rfl (q2y l.length (l:=l2) (a:=0) (m:=20) (b:=l.length) (by omega) rfl rfl rfl (by omega) (by omega) (by omega) (by omega) (by omega) hs' hs2) ?_
      rintro _ ⟨l3,rfl,hS3,hs3⟩
      (repeat ((try (conv=>whnf));(first |(refine q01 tab_ok ?_) |(refine stQ ?_))))
      exact ⟨_,rfl,l3,rfl,hS3.perm.trans (hS2.perm.trans hS.perm),hs3⟩
    · (repeat ((try (conv=>whnf));(first |(refine q01 tab_ok ?_) |(refine stQ ?_))))
      exact ⟨_,rfl,l2,rfl,hS2.perm.trans hS.perm,hs'.less (Nat.le_refl _) (by omega)⟩
end
end Go.Proofs.YtegpkpilfgohhaaGreat
namespace Go.Proofs.YtegpkpilfgohhaaGreat
open Go.RowKit
set_option maxRecDepth 20000
theorem x6d {P:Program} {f:FuncId} {args:List AV} {hp:List Blk} {G:Mem} {K:AV→List Blk→Mem→Prop}
    (h:CallP P f args hp G fun v hp' G'=>∃ k n N E sz xs,v=.vw k 0 n∧nthB hp' k=.own E sz N xs∧n≤N∧K (.own hp'.length) (hp'.set k .gone++[.own E sz n (xs.take (n*sz))]) G'):CallP P f args hp G K:=by
  refine ⟨h.enters,fun w0 G0 β w vs hr ha=>(h.calls w0 G0 β w vs hr ha).mono ?_⟩
  rintro e w' ⟨y,β',v,hp',G',rfl,h1,h2,h3,k,n,N,E,sz,xs,rfl,hk,hn,hK⟩
  simp only [AV.rel] at h3
  obtain ⟨A,c,rfl,hnc,⟨_,hd⟩,_⟩:=h3
  obtain ⟨m,hβ⟩:=hd trivial
  exact ⟨_,_,_,_,G',rfl,Nm.le_trans h1 (Nm.le_put (.slice A n c) (h2.fresh (Nat.le_refl hp'.length))),h2.trim hk hβ hn,by simp only [AV.rel];exact ⟨Nm.put_same _ _ _,rfl⟩,hK⟩
section
variable {G:Mem} {y:Int}
def q3q (y:Int) (e:Edge):Bool:=decide (y<e.e)
theorem q98 {l:List Edge} {x:Edge} {i:Nat} (h:l[i]? = some x) {K:List Value→Prop} (k:K [.int .i64 x.x,.int .i64 x.y,.int .i64 x.e,.int .i64 x.dx,.int .i64 x.dy,.int .i64 x.s]):OwnCells (l.flatMap encE) (i*6) 6 K:=q64 q11 h K k
set_option maxHeartbeats 4000000 in
theorem x6e {n0 m0:Nat} {x0 r0:List Value} {l:List Edge} {K:AV→List Blk→Mem→Prop} (hl:l.length≤4000000000000)
    (h:K (.own 5) [.own 108 6 n0 x0,.cells 87 [.own 4],.cells 3 [.val (.int .i64 y)],.gone,.own 74 3 m0 r0,.own 108 6 (l.filter (q3q y)).length ((l.filter (q3q y)).flatMap encE)] G) :
    CallP Tryz.prog 65 [.own 3,.fn (.func 66) [] [.ptr 2 0]] [.own 108 6 n0 x0,.cells 87 [.own 4],.cells 3 [.val (.int .i64 y)],.own 108 6 l.length (l.flatMap encE),.own 74 3 m0 r0] G K:=by
  have hHP:∀ {m:Nat} {t:List Blk} {xs ys:List Value},xs=ys→hpLe (m+5) (.own 108 6 n0 x0::.cells 87 [.own 4]::.cells 3 [.val (.int .i64 y)]::.own 108 6 l.length xs::.own 74 3 m0 r0::t) [.own 108 6 n0 x0,.cells 87 [.own 4],.cells 3 [.val (.int .i64 y)],.own 108 6 l.length (ys),.own 74 3 m0 r0]:=fun e=>by
    subst e
    exact q0d rfl rfl (q0c (by exact flQ) (q0c (by exact flQ) (q0d rfl rfl (q0d rfl rfl q0e))))
  have hLe:∀ {t:List Blk} {xs ys:List Value} {fr fr':List AV},xs=ys→frLe 5 fr fr'→Le 5 fr (.own 108 6 n0 x0::.cells 87 [.own 4]::.cells 3 [.val (.int .i64 y)]::.own 108 6 l.length xs::.own 74 3 m0 r0::t) G fr' [.own 108 6 n0 x0,.cells 87 [.own 4],.cells 3 [.val (.int .i64 y)],.own 108 6 l.length (ys),.own 74 3 m0 r0] G:=fun e hf=>q0h rfl rfl hf (hHP e)
  have hend:∀ xs:List Value,xs.length=l.length*6→xs.take ((l.filter (q3q y)).length*6)=(l.filter (q3q y)).flatMap encE→∃ k n N E sz zs,AV.vw 3 0 (l.filter (q3q y)).length=.vw k 0 n∧nthB [.own 108 6 n0 x0,.cells 87 [.own 4],.cells 3 [.val (.int .i64 y)],.own 108 6 l.length (xs),.own 74 3 m0 r0] k=.own E sz N zs∧n≤N∧K (.own 5) (([.own 108 6 n0 x0,.cells 87 [.own 4],.cells 3 [.val (.int .i64 y)],.own 108 6 l.length (xs),.own 74 3 m0 r0]:List Blk).set k .gone++[.own E sz n (zs.take (n*sz))]) G:=fun xs e1 e2 =>
    ⟨3,_,l.length,_,_,_,rfl,rfl,List.length_filter_le _ _,by rw [e2];exact h⟩
  refine x6d (z1p rfl (q0f tab_ok Tryz.func65 (fun vs w=>by kernel_rfl) rfl ?_))
  (repeat ((try (conv=>whnf));(first |(refine stQ ?_) |(with_reducible refine q0f tab_ok Tryz.func78 (fun vs w=>by kernel_rfl) (by rfl) ?_))))
  conv=>whnf
  refine q07 tab_ok (fun i=>i≤l.length∧∀ (k:Nat) x,k<i→l[k]? = some x→q3q y x=true) (fun (i:Nat)=>[(8,.val (.int .i64 i))]) (fun i=>[.own 108 6 n0 x0,.cells 87 [.own 4],.cells 3 [.val (.int .i64 y)],.own 108 6 l.length (l.flatMap encE),.own 74 3 m0 r0]) (fun i=>l.length-i) 0 ⟨Nat.zero_le _,fun k x h=>by omega⟩ ?_ ?_
  · ((refine q0g ?_);(conv=>whnf);(refine q0h (by rfl) (by rfl) flQ ?_))
    exact hHP rfl
  · rintro i ⟨hi,hk⟩
    rcases Nat.lt_or_ge i l.length with h1 |h1
    · obtain ⟨x,hx⟩:∃ x,l[i]? = some x:=⟨l[i],List.getElem?_eq_getElem h1⟩
      by_cases hc:x.e≤y
      · have hkx:q3q y x=false:=by unfold q3q;simp;omega
        (repeat ((try (conv=>whnf));(first |(refine q98 hx ?_) |(refine stQ ?_) |(with_reducible refine q0f tab_ok Tryz.func66 (fun vs w=>by kernel_rfl) (by rfl) ?_))))
        conv=>whnf
        (repeat ((try (conv=>whnf));(refine stQ ?_)))
        conv=>whnf
        refine z2q tab_ok (fun i j M=>MovF (q3q y) l M i j) (fun (i j:Nat) (M:List Edge)=>[(5,.val (.int .i64 i)),(6,.val (.int .i64 j))]) (fun i j M=>[.own 108 6 n0 x0,.cells 87 [.own 4],.cells 3 [.val (.int .i64 y)],.own 108 6 l.length (M.flatMap encE),.own 74 3 m0 r0]) (fun i j M=>l.length-j) i (i+1) l (MovF.start hk hx hkx) ?_ ?_
        · ((refine q0g ?_);(conv=>whnf);(refine q0h (by rfl) (by rfl) flQ ?_))
          exact hHP rfl
        · rintro i j M hM
          have hle:=hM.le
          have hlen:=hM.len
          rcases Nat.lt_or_ge j l.length with h2 |h2
          · obtain ⟨z,hz⟩:∃ z,l[j]? = some z:=⟨l[j],List.getElem?_eq_getElem h2⟩
            have hz':=(hM.rest j (Nat.le_refl _)).trans hz
            by_cases hd:z.e≤y
            · have hkz:q3q y z=false:=by unfold q3q;simp;omega
              (repeat ((try (conv=>whnf));(first |(refine q98 hz' ?_) |(refine stQ ?_) |(with_reducible refine q0f tab_ok Tryz.func66 (fun vs w=>by kernel_rfl) (by rfl) ?_))))
              conv=>whnf
              refine ⟨i,j+1,M,hM.drop_ hz hkz,by omega,?_⟩
              ((refine q0g ?_);(conv=>whnf);(refine q0h (by rfl) (by rfl) flQ ?_))
              exact hHP rfl
            · have hkz:q3q y z=true:=by unfold q3q;simp;omega
              (repeat ((try (conv=>whnf));(first |(refine q98 hz' ?_) |(refine stQ ?_) |(with_reducible refine q0f tab_ok Tryz.func66 (fun vs w=>by kernel_rfl) (by rfl) ?_))))
              conv=>whnf
              refine mustP.mk (by rw [q2w q11,hlen];simp;omega) ?_
              (repeat ((try (conv=>whnf));(refine stQ ?_)))
              conv=>whnf
              refine ⟨i+1,j+1,M.set i z,hM.keep_ hz hkz,by omega,?_⟩
              ((refine q0g ?_);(conv=>whnf);(refine q0h (by rfl) (by rfl) flQ ?_))
              refine hHP ?_
              show List.take ((i:Int).toNat * 6) _++encE z++List.drop ((i:Int).toNat * 6+6) _=_
              rw [Int.toNat_natCast]
              exact q74 q11 M i z (by omega)
          · obtain rfl:j=l.length:=by omega
            have hfr:=hM.front
            rw [List.take_length] at hfr
            have hi0:(l.filter (q3q y)).length=i:=by rw [← hfr,List.length_take];omega
            (repeat ((try (conv=>whnf));(refine stQ ?_)))
            conv=>whnf
            refine ⟨by rw [q2w q11,hlen];simp;omega,?_⟩
            (repeat ((try (conv=>whnf));(refine stQ ?_)))
            conv=>whnf
            refine ⟨.vw 3 0 (l.filter (q3q y)).length,_,G,hLe rfl (q71 ?_ (by rfl) q4b),hend _ ?_ ?_⟩
            · rw [hi0];rfl
            · have e:(i:Int).toNat=i:=rfl
              have e2:(l.length:Int).toNat=l.length:=rfl
              simp only [List.length_append,List.length_take,List.length_drop,z5c,q2w q11,e,e2,hlen,List.length_cons,List.length_nil]
              omega
            · have e:(i:Int).toNat=i:=rfl
              rw [hi0,← hfr,← q50 q11,List.append_assoc,e]
              show List.take (i*6) (List.take (i*6) _++_)=_
              rw [List.take_append_of_le_length (by rw [List.length_take,q2w q11];omega),List.take_take,Nat.min_self]
      · have hkx:q3q y x=true:=by unfold q3q;simp;omega
        (repeat ((try (conv=>whnf));(first |(refine q98 hx ?_) |(refine stQ ?_) |(with_reducible refine q0f tab_ok Tryz.func66 (fun vs w=>by kernel_rfl) (by rfl) ?_))))
        conv=>whnf
        refine ⟨i+1,⟨by omega,fun k z hkz hz=>?_⟩,by omega,?_⟩
        · by_cases e:k=i
          · subst e;rw [hx] at hz;cases hz;exact hkx
          · exact hk k z (by omega) hz
        · ((refine q0g ?_);(conv=>whnf);(refine q0h (by rfl) (by rfl) flQ ?_))
          exact hHP rfl
    · obtain rfl:i=l.length:=by omega
      have hf:l.filter (q3q y)=l:=by
        rw [List.filter_eq_self]
        intro z hz
        obtain ⟨k,hk'⟩:=List.mem_iff_getElem?.1 hz
        exact hk k z (List.getElem?_eq_some_iff.1 hk').1 hk'
      (repeat ((try (conv=>whnf));(refine stQ ?_)))
      conv=>whnf
      refine ⟨.vw 3 0 (l.filter (q3q y)).length,_,G,x7g rfl (hLe rfl (q71 (by rw [hf]) (by rfl) q4b)),hend _ ?_ ?_⟩
      · rw [q2w q11]
      · rw [hf,q50 q11,List.take_length]
end
end Go.Proofs.YtegpkpilfgohhaaGreat
namespace Go.Proofs.YtegpkpilfgohhaaGreat
open Go.RowKit
theorem x8l {β γ:Nm} {q m:Nat} (hle:β.le γ) (hq:∀ v,β q=some v→γ m=some v):(β.mv q m).le γ:=fun j v hj=>by
  unfold Nm.mv at hj
  split at hj
  · rename_i e;subst e;exact hq v hj
  · split at hj
    · cases hj
    · exact hle j v hj
theorem HR.mvAll {w0:World} {G0:Mem} {β:Nm} {hp:List Blk} {G:Mem} {w:World} (hr:HR w0 G0 β hp G w) {q m:Nat} (hqm:q≠m) (hle:(β.mv q m).le β):HR w0 G0 β (hp.map (Blk.mv q m)) G w:=by
  refine ⟨hr.below,hr.hold,hr.sub,hr.grow,fun j y hj=>?_,fun i j y y' x x' b hne hi hj hx hx' hl hl' hy=>?_,z3d hr.wrt (fun x S e=>by cases x <;> first |exact e |cases e)⟩
  · obtain ⟨x,h1,h2⟩:=hr.blk j y hj
    refine ⟨x.mv q m,by rw [List.getElem?_map,h1];rfl,?_⟩
    cases x with
    | gone=>trivial
    | muts S=>exact h2.elim
    | cells t l =>
      obtain ⟨b,c,q1,q2,q3,q4,q5⟩:=h2
      exact ⟨b,c,q1,q2,q3,q4,AV.rels_mono hle _ _ (AV.rels_mv hqm _ _ q5)⟩
    | own e sz n xs=>exact h2
    | lp i fr st p =>
      obtain ⟨q1,q2,q3,tm,q4,q5⟩:=h2
      exact ⟨q1,q2,q3,tm,q4,AV.rels_mono hle _ _ (AV.rels_mv hqm _ _ q5)⟩
    | mp f ks vs =>
      obtain ⟨b,ys,q1,q2,q3,q4,q5,q6⟩:=h2
      exact ⟨b,ys,q1,q2,q3,q4,q5,AV.rels_mono hle _ _ (AV.rels_mv hqm _ _ q6)⟩
  · rw [List.getElem?_map] at hx hx'
    cases h1:hp[i]? with
    | none=>rw [h1] at hx;cases hx
    | some z =>
      cases h2:hp[j]? with
      | none=>rw [h2] at hx';cases hx'
      | some z' =>
        rw [h1] at hx;rw [h2] at hx'
        simp only [Option.map_some,Option.some.injEq] at hx hx'
        subst hx;subst hx'
        rw [Blk.mv_live] at hl hl'
        exact hr.inj i j y y' z z' b hne hi hj h1 h2 hl hl' hy
theorem HR.lost {w0:World} {G0:Mem} {β:Nm} {hp:List Blk} {G:Mem} {w:World} (hr:HR w0 G0 β hp G w) {q:Nat} (hq:β q=none) {E:TypeId} {sz n:Nat} {xs:List Value}:HR w0 G0 β (hp.set q .gone++[.own E sz n xs]) G w:=by
  have get:∀ j y,β j=some y→(hp.set q .gone++[.own E sz n xs])[j]? = hp[j]?:=fun j y hj=>by
    obtain ⟨x,h1,_⟩:=hr.blk j y hj
    have hlt:=(List.getElem?_eq_some_iff.1 h1).1
    rw [List.getElem?_append_left (by simpa using hlt),List.getElem?_set_ne (fun e=>by subst e;rw [hq] at hj;cases hj)]
  refine ⟨hr.below,hr.hold,hr.sub,hr.grow,fun j y hj=>?_,fun i j y y' x x' b hne hi hj hx hx' hl hl' hy=>?_,fun k S hk b hb=>?_⟩
  · obtain ⟨x,h1,h2⟩:=hr.blk j y hj
    exact ⟨x,by rw [get j y hj];exact h1,h2⟩
  · rw [get i y hi] at hx;rw [get j y' hj] at hx'
    exact hr.inj i j y y' x x' b hne hi hj hx hx' hl hl' hy
  · rw [List.getElem?_append] at hk
    split at hk
    · rw [List.getElem?_set] at hk
      split at hk
      · split at hk <;> cases hk
      · exact hr.wrt k S hk b hb
    · generalize k-(hp.set q .gone).length=i at hk
      cases i with
      | zero=>cases hk
      | succ i=>cases hk
theorem x9w {n0 q m:Nat} {fr fr':List AV} {hp hp':List Blk} {G G':Mem} {E:TypeId} {sz n:Nat} {xs:List Value} (hm:hp.length=m) (hq:nthB hp q=.own E sz n xs) (h:Le n0 (AV.mvs q m fr) ((mvB q m hp).set q .gone++[.own E sz n xs]) G fr' hp' G'):Le n0 fr hp G fr' hp' G':=by
  have hkx:=q0x hq rfl
  have hql:=(List.getElem?_eq_some_iff.1 hkx).1
  have hqm:q≠m:=by omega
  have hmap:(mvB q m hp).set q .gone++[Blk.own E sz n xs]=(hp.set q .gone++[Blk.own E sz n xs]).map (Blk.mv q m):=by
    rw [z0m,List.map_append,List.map_set];rfl
  rw [hmap] at h
  constructor
  intro w0 G0 β0 β w ys hb hle hr hfr
  have hfm:β m=none:=hr.fresh (Nat.le_of_eq hm)
  cases hβ:β q with
  | none =>
    have hl:(β.mv q m).le β:=x8l (Nm.le_refl _) fun v hv=>by rw [hβ] at hv;cases hv
    exact h.out w0 G0 β0 β w ys hb hle ((hr.lost hβ).mvAll hqm hl) (AV.rels_mono hl _ _ (AV.rels_mv hqm _ _ hfr))
  | some v =>
    obtain ⟨x1,hx1,hx2⟩:=hr.blk q v hβ
    rw [hkx] at hx1;cases hx1
    have hlp:β.le (β.put m v):=Nm.le_put v hfm
    have h1:=hr.moveName hβ hkx rfl (w':=w) ⟨rfl,rfl,rfl,Nat.le_refl _,fun _ _ _=>rfl⟩ (z:=v) (fun b hb=>.inr hb) hm.symm (u:=.own E sz n xs) hx2
    have hl:((β.put m v).mv q m).le (β.put m v):=x8l (Nm.le_refl _) fun u hu=>by
      rw [Nm.put_ne _ _ hqm,hβ] at hu;cases hu;exact Nm.put_same _ _ _
    exact h.out w0 G0 β0 (β.put m v) w ys hb (Nm.le_trans hle hlp) (h1.mvAll hqm hl) (AV.rels_mono hl _ _ (AV.rels_mv hqm _ _ (AV.rels_mono hlp _ _ hfr)))
theorem x1f (q:Nat) {n0:Nat} {fr fr':List AV} {hp hp':List Blk} {G G':Mem} {E:TypeId} {sz n:Nat} {xs:List Value} (hq:nthB hp q=.own E sz n xs)
    (h:lenF hp fun m=>mvsF q m fr fun fr1=>mvBF q m hp fun hp1=>setF hp1 q .gone fun hp2=>catF hp2 [.own E sz n xs] fun hp3=>Le n0 fr1 hp3 G fr' hp' G'):Le n0 fr hp G fr' hp' G':=by
  have h0:=q1y h
  rw [q80,z60,q1c,q09] at h0
  exact x9w rfl hq h0
end Go.Proofs.YtegpkpilfgohhaaGreat
namespace Go.Proofs.YtegpkpilfgohhaaGreat
open Go.RowKit
set_option maxRecDepth 20000
section
variable {G:Mem} {y:Int}
set_option maxHeartbeats 8000000 in
theorem x7y {n0 n3 n5:Nat} {x0 r3 r5:List Value} {R:List Run} {a b yy cx cs:Int} {K:AV→List Blk→Mem→Prop} (hR:R.length≤1000000000)
    (h:K .any [.own 108 6 n0 x0,.cells 87 [.own 7],.cells 3 [.val (.int .i64 yy)],.own 108 6 n3 r3,.gone,.own 115 2 n5 r5,.cells 115 [.val (.int .i64 cx),.val (.int .i64 cs)],.own 74 3 (addR R y a b).length (q08 (addR R y a b))] G) :
    CallP Tryz.prog 47 [.ptr 1 0,.val (.int .i64 y),.val (.int .i64 a),.val (.int .i64 b)] [.own 108 6 n0 x0,.cells 87 [.own 4],.cells 3 [.val (.int .i64 yy)],.own 108 6 n3 r3,.own 74 3 R.length (q08 R),.own 115 2 n5 r5,.cells 115 [.val (.int .i64 cx),.val (.int .i64 cs)]] G K:=by
  refine z1p rfl (q0f tab_ok Tryz.func47 (fun vs w=>by kernel_rfl) rfl ?_)
  have hlen0:R.length=R.length:=rfl
  by_cases hx:b≤a
  · rw [q7i hx] at h
    (repeat ((try (conv=>whnf));(refine stQ ?_)))
    conv=>whnf
    refine ⟨.any,_,G,?_,h⟩
    refine x1f 4 rfl ?_
    conv=>whnf
    refine q0h rfl rfl (q7f q4b) ?_
    exact q0d rfl rfl (q0c (by exact flQ) (q0c (by exact flQ) (q0d rfl rfl (q0j (q0d rfl rfl (q0c (by exact flQ) (q0d rfl rfl q0e)))))))
  · rcases q6p R with hout |⟨K',r,hout⟩
    · have hlen:R.length=0:=by rw [hout];rfl
      rw [hout,q6h hx] at h
      (repeat ((try (conv=>whnf));(refine stQ ?_)))
      conv=>whnf
      refine ⟨.any,_,G,?_,h⟩
      first |(refine q0k 8 7 rfl rfl rfl rfl ?_;conv=>whnf) |skip
      refine q0h rfl rfl (q7f q4b) ?_
      exact q0d rfl rfl (q0c (by exact flQ) (q0c (by exact flQ) (q0d rfl rfl (q0j (q0d rfl rfl (q0c (by exact flQ) (q0d (by simp only [hlen];rfl) (by rw [hout];rfl) q0e)))))))
    · have hlen:R.length=K'.length+1:=by rw [hout];simp
      have hix:(((R.length:Nat):Int)-1).toNat=K'.length:=by omega
      obtain ⟨q0,q1,q2⟩:=z8h K' r
      rw [← hout,← hix] at q0 q1 q2
      rw [← Nat.add_zero ((((R.length:Nat):Int)-1).toNat * 3)] at q0
      by_cases hj1:r.y=y
      · by_cases hj2:a≤r.x1
        · rw [hout,q5j hx hj1 hj2] at h
          (repeat ((try (conv=>whnf));(first |(refine q1a (.int .i64 r.y) q0 ?_) |(refine q1a (.int .i64 r.x1) q2 ?_) |(refine stQ ?_))))
          conv=>whnf
          refine mustP.mk (by rw [hix,q2m,hlen];simp;omega) ?_
          (repeat ((try (conv=>whnf));(refine stQ ?_)))
          conv=>whnf
          refine ⟨.any,_,G,?_,h⟩
          refine x1f 4 rfl ?_
          conv=>whnf
          refine q0h rfl rfl (q7f q4b) ?_
          exact q0d rfl rfl (q0c (by exact flQ) (q0c (by exact flQ) (q0d rfl rfl (q0j (q0d rfl rfl (q0c (by exact flQ) (q0d (by rw [hlen];simp) (by rw [hix,hout,← hj1];exact x0s K' r _) q0e)))))))
        · rw [hout,q4t hx (fun h=>hj2 h.2)] at h
          (repeat ((try (conv=>whnf));(first |(refine q1a (.int .i64 r.y) q0 ?_) |(refine q1a (.int .i64 r.x1) q2 ?_) |(refine stQ ?_))))
          conv=>whnf
          refine ⟨.any,_,G,?_,h⟩
          first |(refine q0k 8 7 rfl rfl rfl rfl ?_;conv=>whnf) |skip
          refine q0h rfl rfl (q7f q4b) ?_
          exact q0d rfl rfl (q0c (by exact flQ) (q0c (by exact flQ) (q0d rfl rfl (q0j (q0d rfl rfl (q0c (by exact flQ) (q0d (by rw [hlen];simp) (by rw [hout,q2e (K'++[r])];rfl) q0e)))))))
      · rw [hout,q4t hx (fun h=>hj1 h.1)] at h
        (repeat ((try (conv=>whnf));(first |(refine q1a (.int .i64 r.y) q0 ?_) |(refine q1a (.int .i64 r.x1) q2 ?_) |(refine stQ ?_))))
        conv=>whnf
        refine ⟨.any,_,G,?_,h⟩
        first |(refine q0k 8 7 rfl rfl rfl rfl ?_;conv=>whnf) |skip
        refine q0h rfl rfl (q7f q4b) ?_
        exact q0d rfl rfl (q0c (by exact flQ) (q0c (by exact flQ) (q0d rfl rfl (q0j (q0d rfl rfl (q0c (by exact flQ) (q0d (by rw [hlen];simp) (by rw [hout,q2e (K'++[r])];rfl) q0e)))))))
end
end Go.Proofs.YtegpkpilfgohhaaGreat
namespace Go.Proofs.YtegpkpilfgohhaaGreat
open Go.RowKit Go.Shelf Go.Lib Go.Sort
set_option maxRecDepth 20000
theorem x9i (a b:Cr):cmpC a b=cmpI a.x b.x:=rfl
set_option maxHeartbeats 2000000 in
theorem x6f (x y:Cr) (W:World):Calls Tryz.prog 81 #[.agg (encC x).toArray,.agg (encC y).toArray] W fun e w'=>e=.returned (.int .i64 (cmpC x y))∧∃ q os',w'=grow (W.drewN q) os':=by
  obtain ⟨a,b⟩:=x
  obtain ⟨d,e⟩:=y
  have hcon:=fun W'=>z81 a d W'
  rw [x9i]
  simp only [encC]
  generalize hr:cmpI a d=r at hcon
  show Calls Tryz.prog 81 #[.agg #[.int .i64 a,.int .i64 b],.agg #[.int .i64 d,.int .i64 e]] W _
  go_enter Tryz.func81,Tryz.ntmps81
  go_wp2_with (go_at_call 64;refine (hcon _).mono ?_;rintro e w' ⟨rfl,rfl⟩)
  go_ret
  exact ⟨rfl,0,_,by rw [alloc_eq_grow,alloc_eq_grow,grow_grow];rfl⟩
theorem z3v (a b:Cr):(ltOf cmpC a b=false)↔b.x≤a.x:=by
  unfold ltOf cmpC
  rw [decide_eq_false_iff_not]
  split
  · omega
  · split <;> omega
theorem x7z:SWO (ltOf cmpC) where
  irrefl x:=by rw [z3v];omega
  trans x y z h1 h2:=by
    rw [← Bool.not_eq_false] at *
    rw [z3v] at *
    omega
  ntrans x y z h1 h2:=by rw [z3v] at *;omega
end Go.Proofs.YtegpkpilfgohhaaGreat
namespace Go.Proofs.YtegpkpilfgohhaaGreat
open Go.RowKit Go.Shelf Go.Lib Go.Sort
section
variable {α:Type} [Inhabited α] {enc:α→List Value} {k:Nat}
theorem x1g (hk:∀ x,(enc x).length=k) (l:List α) {t:Nat} (ht:t<l.length*k):(l.flatMap enc)[t]? = some ((Go.Sort.flatK enc k l.toArray)[t]!):=by
  have k0 : 0 < k := by rcases Nat.eq_zero_or_pos k with h |h;· subst h;simp at ht
                        · exact h
  have h1:t/k<l.length:=Nat.div_lt_of_lt_mul (by rw [Nat.mul_comm];exact ht)
  have h2:t%k<k:=Nat.mod_lt _ k0
  have h3:=z2z hk l (t/k) (t%k) l[t/k] (List.getElem?_eq_getElem h1) h2
  rw [Nat.div_add_mod' t k] at h3
  rw [h3,Go.Sort.get_flatK enc k l.toArray t (by simpa using ht)]
  have e:l.toArray[t/k]! = l[t/k]:=by simp [h1]
  rw [e,List.getElem?_eq_getElem (by rw [hk];exact h2)]
  simp [hk,h2]
theorem x4b (hk:∀ x,(enc x).length=k) {w:World} {E:TypeId} {g cap:Nat} {cur:Array Value} {l:List α} (hg:w.heap[g]? = some (.cells cur E (0,0))) (hc:cur.size=cap*k) (hl:l.length≤cap) (ht:cur.toList.take (l.length*k)=l.flatMap enc):HoldsK enc k w g 0 l.toArray:=by
  intro j hj
  have hj':j<l.length*k:=by simpa using hj
  have h1:=x1g hk l hj'
  rw [← ht,List.getElem?_take,if_pos hj'] at h1
  refine ⟨?_,?_⟩
  · simp only [World.cell?,hg,Nat.zero_add]
    simpa using h1
  · simp [World.frozen?,hg]
theorem x70 (hk:∀ x,(enc x).length=k) {cap:Nat} {cur:Array Value} {l:List α} (hc:cur.size=cap*k) (hl:l.length≤cap):(putCells id 0 (Go.Sort.flatK enc k l.toArray) cur).toList.take (l.length*k)=l.flatMap enc:=by
  have hle:l.length*k≤cap*k:=Nat.mul_le_mul_right _ hl
  apply List.ext_getElem?
  intro t
  rw [List.getElem?_take]
  by_cases ht:t<l.length*k
  · rw [if_pos ht,x1g hk l ht]
    have h2:t<cur.size:=by omega
    simp [putCells,h2,ht]
  · rw [if_neg ht,List.getElem?_eq_none (by rw [q2w hk];omega)]
theorem x4c {P:Program} {ρ:Ren} (L:SlLaysF0.n6 P ρ) (aE:∀ w,(isAgg (ρ.t 24)).run P w=.ok true w) (zE:∀ w,(Go.sizeOf (ρ.t 24)).run P w=.ok k w) (hk:∀ x,(enc x).length=k) (h1:∀ x,∀ v∈enc x,v.oneCell'=true) {cf:α→α→Int} (hO:SWO (ltOf cf)) {g:Nat}
    (eg:∀ args w,(callFunc g args).run P w=.ok (.enter g args) w) (hcl:∀ x y W,Calls P g #[.agg (enc x).toArray,.agg (enc y).toArray] W fun e w'=>e=.returned (.int .i64 (cf x y))∧∃ q os',w'=grow (W.drewN q) os')
    {base:Nat} {E:TypeId} {v:Value} {l:List α} {w:World} (hown:w.ownsRow base E k v l.length (l.flatMap enc)) (hsz:l.length<4611686018427387904) :
    Calls P (ρ.f 6) #[v,.func (.func g) #[] #[]] w fun e w'=>e=.returned (.tuple #[])∧∃ l':List α,l'.Perm l∧l'.Pairwise (fun a b=>ltOf cf b a=false)∧w'.ownsRow base E k v l'.length (l'.flatMap enc)∧w.grownBy w' (q0i v):=by
  have none:∀ (p:Option Addr) (cap:Nat),v=.slice p 0 cap→l=[]→Calls P (ρ.f 6) #[v,.func (.func g) #[] #[]] w fun e w'=>e=.returned (.tuple #[])∧∃ l':List α,l'.Perm l∧l'.Pairwise (fun a b=>ltOf cf b a=false)∧w'.ownsRow base E k v l'.length (l'.flatMap enc)∧w.grownBy w' (q0i v):=by
    rintro p cap rfl rfl
    refine (AnyF.slices_SortFunc_none L p cap _ w).mono ?_
    rintro e w' ⟨rfl,rfl⟩
    exact ⟨rfl,[],List.Perm.refl _,List.Pairwise.nil,hown,⟨rfl,rfl,rfl,Nat.le_refl _,fun _ _ _=>rfl⟩⟩
  have hown':=hown
  obtain ⟨hlen,hc⟩:=hown
  rcases hc with ⟨hv,hn⟩ |⟨b,cap,cur,rfl,hb,hcell,hcap,hmax,hcs,htk⟩
  · exact none _ _ hv (List.length_eq_zero_iff.1 hn)
  · by_cases h0:l=[]
    · subst h0;exact none _ _ rfl rfl
    · have hblk:=(Array.getElem?_eq_some_iff.1 hcell).1
      have hH:=x4b hk hcell hcs hcap htk
      have hs:=AnyQ.slices_SortFunc L k aE zE enc hk h1 cf hO g #[] b 0 cap l.toArray w eg (fun m os dk _ x y=>by simpa using hcl x y _) hH hblk (by simpa using hsz)
      refine hs.mono ?_
      rintro e w' ⟨rfl,d',m,os,⟨p1,p2,p3⟩,hso,rfl⟩
      have hd:d'.toList.length=l.length:=by simpa using p1
      have hex:∀ (a:Array α),a.extract 0 a.size=a:=fun a=>by simp
      have p4:d'.toList.Perm l:=by
        rw [show l.toArray.size=d'.size from p1.symm] at p3
        rw [hex] at p3
        rw [p1,hex] at p3
        simpa using p3
      have key:(sortWorldK enc k w b 0 m d' os).heap[b]? = some (.cells (putCells id 0 (Go.Sort.flatK enc k d') cur) E (0,0)):=by
        unfold sortWorldK grow putRowK putRow mapBlock Sort.ahead
        show (w.heap.modify b _++os)[b]? = _
        rw [Array.getElem?_append_left (by simpa using hblk),Array.getElem?_modify,if_pos rfl,hcell]
        rfl
      refine ⟨rfl,d'.toList,p4,?_,?_,?_⟩
      · rw [List.pairwise_iff_getElem]
        intro i j hi hj hij
        have:=hso i j (Nat.zero_le _) hij (by rw [← p1];simpa using hj)
        rw [getElem!_pos d' i (by simpa using hi),getElem!_pos d' j (by simpa using hj)] at this
        simpa using this
      · refine ⟨q2w hk _,.inr ⟨b,cap,_,by rw [hd],hb,key,by rw [hd];exact hcap,hmax,by simp [putCells,hcs],?_⟩⟩
        have:=x70 (l:=d'.toList) hk hcs (by rw [hd];exact hcap)
        simpa using this
      · refine ⟨rfl,rfl,rfl,?_,fun j hj hne=>?_⟩
        · unfold sortWorldK grow putRowK putRow mapBlock Sort.ahead
          simp
        · have hne':¬ b=j:=fun e=>hne (by simp [q0i,e])
          unfold sortWorldK grow putRowK putRow mapBlock Sort.ahead
          show (w.heap.modify b _++os)[j]? = _
          rw [Array.getElem?_append_left (by simpa using hj),Array.getElem?_modify,if_neg hne']
theorem z4f {P:Program} {ρ:Ren} (L:SlLaysF0.n6 P ρ) {f:FuncId} (hf:ρ.f 6=f) (hen:∀ vs w,(callFunc f vs).run P w=.ok (.enter f vs) w) (aE:∀ w,(isAgg (ρ.t 24)).run P w=.ok true w) (zE:∀ w,(Go.sizeOf (ρ.t 24)).run P w=.ok k w) (hk:∀ x,(enc x).length=k) (h1:∀ x,∀ v∈enc x,v.oneCell'=true) {cf:α→α→Int} (hO:SWO (ltOf cf)) {g:Nat}
    (eg:∀ args w,(callFunc g args).run P w=.ok (.enter g args) w) (hcl:∀ x y W,Calls P g #[.agg (enc x).toArray,.agg (enc y).toArray] W fun e w'=>e=.returned (.int .i64 (cf x y))∧∃ q os',w'=grow (W.drewN q) os')
    {j:Nat} {E:TypeId} {l:List α} {hp:List Blk} {G:Mem} {K:AV→List Blk→Mem→Prop} (hb:nthB hp j=.own E k l.length (l.flatMap enc)) (hsz:l.length<4611686018427387904)
    (h:∀ l':List α,l'.Perm l→l'.Pairwise (fun a b=>ltOf cf b a=false)→setF hp j (.own E k l'.length (l'.flatMap enc)) fun hp'=>K (.tup []) hp' G):CallP P f [.own j,.val (.func (.func g) #[] #[])] hp G K:=by
  refine ⟨hen,fun w0 G0 β w vs hr ha=>?_⟩
  simp only [AV.rels,AV.rel] at ha
  obtain ⟨v,ts,hvs,⟨hv,hsl⟩,u,us,rfl,rfl,rfl⟩:=ha
  have e:vs=#[v,.func (.func g) #[] #[]]:=Array.toList_inj.1 (by rw [hvs])
  subst e
  obtain ⟨x,hx1,hx2⟩:=hr.blk j v hv
  rw [q0x hb rfl] at hx1;cases hx1
  rw [← hf]
  refine (x4c L aE zE hk h1 hO eg hcl hx2.1 hsz).mono ?_
  rintro e w' ⟨rfl,l',hp',hs',hown',hgr⟩
  have h2:=h l' hp' hs'
  rw [q1c] at h2
  refine ⟨_,β,.tup [],_,G,rfl,Nm.le_refl _,?_,by simp only [AV.rel];exact ⟨_,rfl,rfl⟩,h2⟩
  have hrel:(Blk.own E k l'.length (l'.flatMap enc)).rel w0.heap.size β G w' v:=⟨hown',hx2.2⟩
  cases hb':q0i v with
  | some b=>exact hr.setBlk hv (q0x hb rfl) rfl hb' (by rw [← hb'];exact hgr) hrel
  | none =>
    have hl:l=[]:=by
      rcases hx2.1.2 with ⟨_,hn⟩ |⟨b,_,_,rfl,_⟩
      · exact List.length_eq_zero_iff.1 hn
      · simp [q0i] at hb'
    subst hl
    obtain rfl:l'=[]:=List.Perm.eq_nil hp'
    have e:hp.set j (.own E k ([]:List α).length (([]:List α).flatMap enc))=hp:=by
      apply List.ext_getElem?
      intro i
      rw [List.getElem?_set]
      split
      · rename_i hij
        subst hij
        have:=q0x hb rfl
        rw [this]
        simp [(List.getElem?_eq_some_iff.1 this).1]
      · rfl
    rw [e]
    exact hr.step ⟨hgr.os,hgr.tape,hgr.output,hgr.size,fun i hi=>hgr.block i hi (by rw [hb'];simp)⟩
end
end Go.Proofs.YtegpkpilfgohhaaGreat
