/-
  Merged: XStabE, XDelE.
-/
import Derived.Test.YtegpkpilfgohhaaSymM
import Derived.Test.YtegpkpilfgohhaaFillLaw
set_option linter.unusedVariables false
set_option linter.unusedSimpArgs false
set_option linter.unnecessarySimpa false
namespace Go.Proofs.Ytegpkpilfgohhaa
open Go.RowKit
set_option maxRecDepth 20000
section
variable {G:Mem}
theorem q6c {l:List Edge} {n a b:Nat} {za zb:Int} (hn:l.length=n) (ha:za=a) (hb':zb=b) (hab:a≤b) (hb:b≤l.length) (hl:l.length≤4000000) :
    MendsR Try.prog 74 [.own 0,.val (.int .i64 za),.val (.int .i64 zb),q1j] G 86 6 n (l.flatMap encE) fun xs=>∃ l',xs=l'.flatMap encE∧SameIn l l' a b∧srtK Edge.y l' a b:=by
  subst hn;subst ha;subst hb';exact z1h hab hb hl
set_option maxHeartbeats 8000000 in
theorem z43 {l:List Edge} (hl:l.length≤39) :
    MendsR Try.prog 41 [.own 0,q1j] G 86 6 l.length (l.flatMap encE) fun xs=>∃ l',xs=l'.flatMap encE∧l'.Perm l∧srtK Edge.y l' 0 l.length:=by
  refine q5f tab_ok Try.func41 fun G' hG=>?_
  rcases Nat.lt_or_ge l.length 20 with h1 |h1
  · (repeat ((try (conv=>whnf));(first |(refine q2o tab_ok ?_) |(refine stQ ?_) |(with_reducible refine q0s tab_ok Try.func59 (fun vs w=>by kernel_rfl) (by rfl) ?_))))
    conv=>whnf
    refine q0y [.own 0,.val (.int .i64 0),.val (.int .i64 l.length),q1j] 0 0 (fun vs w=>by kernel_rfl) (by rfl) rfl (by rfl) rfl (q6c (l:=l) (a:=0) (b:=l.length) rfl rfl rfl (by omega) (by omega) (by omega)) ?_
    rintro _ ⟨l1,rfl,hS,hs⟩
    (repeat ((try (conv=>whnf));(first |(refine q2o tab_ok ?_) |(refine stQ ?_))))
    exact ⟨_,rfl,l1,rfl,hS.perm,hs⟩
  · (repeat ((try (conv=>whnf));(first |(refine q2o tab_ok ?_) |(refine stQ ?_) |(with_reducible refine q0s tab_ok Try.func59 (fun vs w=>by kernel_rfl) (by rfl) ?_))))
    conv=>whnf
    refine q0y [.own 0,.val (.int .i64 0),.val (.int .i64 20),q1j] 0 0 (fun vs w=>by kernel_rfl) (by rfl) rfl (by rfl) rfl (q6c (l:=l) (a:=0) (b:=20) rfl rfl rfl (by omega) (by omega) (by omega)) ?_
    rintro _ ⟨l1,rfl,hS,hs⟩
    have hlen1:=hS.len
    (repeat ((try (conv=>whnf));(first |(refine q2o tab_ok ?_) |(refine stQ ?_))))
    conv=>whnf
    refine q0y [.own 0,.val (.int .i64 20),.val (.int .i64 l.length),q1j] 0 0 (fun vs w=>by kernel_rfl) (by rfl) rfl (by rfl) rfl (q6c (l:=l1) (a:=20) (b:=l.length) hlen1 rfl rfl (by omega) (by omega) (by omega)) ?_
    rintro _ ⟨l2,rfl,hS2,hs2⟩
    have hlen2:=hS2.len
    have hs':=hs.congr (l':=l2) fun i e1 e2=>hS2.out i (by omega)
    rcases Nat.lt_or_ge 20 l.length with h2 |h2
    · (repeat ((try (conv=>whnf));(first |(refine q2o tab_ok ?_) |(refine stQ ?_))))
      conv=>whnf
      refine q0y [.own 0,.val (.int .i64 0),.val (.int .i64 20),.val (.int .i64 l.length),q1j] 0 0 (fun vs w=>by kernel_rfl) (by rfl) rfl (by rfl) rfl (q1r l.length (l:=l2) (a:=0) (m:=20) (b:=l.length) (by omega) rfl rfl rfl (by omega) (by omega) (by omega) (by omega) (by omega) hs' hs2) ?_
      rintro _ ⟨l3,rfl,hS3,hs3⟩
      (repeat ((try (conv=>whnf));(first |(refine q2o tab_ok ?_) |(refine stQ ?_))))
      exact ⟨_,rfl,l3,rfl,hS3.perm.trans (hS2.perm.trans hS.perm),hs3⟩
    · (repeat ((try (conv=>whnf));(first |(refine q2o tab_ok ?_) |(refine stQ ?_))))
      exact ⟨_,rfl,l2,rfl,hS2.perm.trans hS.perm,hs'.less (Nat.le_refl _) (by omega)⟩
end
end Go.Proofs.Ytegpkpilfgohhaa
namespace Go.Proofs.Ytegpkpilfgohhaa
open Go.RowKit
set_option maxRecDepth 20000
theorem z8c {P:Program} {f:FuncId} {args:List AV} {hp:List Blk} {G:Mem} {K:AV→List Blk→Mem→Prop}
    (h:CallP P f args hp G fun v hp' G'=>∃ k n N E sz xs,v=.vw k 0 n∧nthB hp' k=.own E sz N xs∧n≤N∧K (.own hp'.length) (hp'.set k .gone++[.own E sz n (xs.take (n*sz))]) G'):CallP P f args hp G K:=by
  refine ⟨h.enters,fun w0 G0 β w vs hr ha=>(h.calls w0 G0 β w vs hr ha).mono ?_⟩
  rintro e w' ⟨y,β',v,hp',G',rfl,h1,h2,h3,k,n,N,E,sz,xs,rfl,hk,hn,hK⟩
  simp only [AV.rel] at h3
  obtain ⟨A,c,rfl,hnc,⟨_,hd⟩,_⟩:=h3
  obtain ⟨m,hβ⟩:=hd trivial
  exact ⟨_,_,_,_,G',rfl,Nm.le_trans h1 (Nm.le_put (.slice A n c) (h2.fresh (Nat.le_refl hp'.length))),h2.trim hk hβ hn,by simp only [AV.rel];exact ⟨Nm.put_same _ _ _,rfl⟩,hK⟩
section
variable {G:Mem} {y:Int}
def q18 (y:Int) (e:Edge):Bool:=decide (y<e.e)
theorem q6u {l:List Edge} {x:Edge} {i:Nat} (h:l[i]? = some x) {K:List Value→Prop} (k:K [.int .i64 x.x,.int .i64 x.y,.int .i64 x.e,.int .i64 x.dx,.int .i64 x.dy,.int .i64 x.s]):OwnCells (l.flatMap encE) (i*6) 6 K:=q7e q03 h K k
set_option maxHeartbeats 4000000 in
theorem z8d {n0 m0:Nat} {x0 r0:List Value} {l:List Edge} {K:AV→List Blk→Mem→Prop} (hl:l.length≤4000000000000)
    (h:K (.own 5) [.own 86 6 n0 x0,.cells 89 [.own 4],.cells 3 [.val (.int .i64 y)],.gone,.own 60 3 m0 r0,.own 86 6 (l.filter (q18 y)).length ((l.filter (q18 y)).flatMap encE)] G) :
    CallP Try.prog 44 [.own 3,.fn (.func 45) [] [.ptr 2 0]] [.own 86 6 n0 x0,.cells 89 [.own 4],.cells 3 [.val (.int .i64 y)],.own 86 6 l.length (l.flatMap encE),.own 60 3 m0 r0] G K:=by
  have hHP:∀ {m:Nat} {t:List Blk} {xs ys:List Value},xs=ys→hpLe (m+5) (.own 86 6 n0 x0::.cells 89 [.own 4]::.cells 3 [.val (.int .i64 y)]::.own 86 6 l.length xs::.own 60 3 m0 r0::t) [.own 86 6 n0 x0,.cells 89 [.own 4],.cells 3 [.val (.int .i64 y)],.own 86 6 l.length (ys),.own 60 3 m0 r0]:=fun e=>by
    subst e
    exact q0a rfl rfl (q0i (by exact flQ) (q0i (by exact flQ) (q0a rfl rfl (q0a rfl rfl q0b))))
  have hLe:∀ {t:List Blk} {xs ys:List Value} {fr fr':List AV},xs=ys→frLe 5 fr fr'→Le 5 fr (.own 86 6 n0 x0::.cells 89 [.own 4]::.cells 3 [.val (.int .i64 y)]::.own 86 6 l.length xs::.own 60 3 m0 r0::t) G fr' [.own 86 6 n0 x0,.cells 89 [.own 4],.cells 3 [.val (.int .i64 y)],.own 86 6 l.length (ys),.own 60 3 m0 r0] G:=fun e hf=>q0e rfl rfl hf (hHP e)
  have hend:∀ xs:List Value,xs.length=l.length*6→xs.take ((l.filter (q18 y)).length*6)=(l.filter (q18 y)).flatMap encE→∃ k n N E sz zs,AV.vw 3 0 (l.filter (q18 y)).length=.vw k 0 n∧nthB [.own 86 6 n0 x0,.cells 89 [.own 4],.cells 3 [.val (.int .i64 y)],.own 86 6 l.length (xs),.own 60 3 m0 r0] k=.own E sz N zs∧n≤N∧K (.own 5) (([.own 86 6 n0 x0,.cells 89 [.own 4],.cells 3 [.val (.int .i64 y)],.own 86 6 l.length (xs),.own 60 3 m0 r0]:List Blk).set k .gone++[.own E sz n (zs.take (n*sz))]) G:=fun xs e1 e2 =>
    ⟨3,_,l.length,_,_,_,rfl,rfl,List.length_filter_le _ _,by rw [e2];exact h⟩
  refine z8c (q73 rfl (q0s tab_ok Try.func44 (fun vs w=>by kernel_rfl) rfl ?_))
  (repeat ((try (conv=>whnf));(first |(refine stQ ?_) |(with_reducible refine q0s tab_ok Try.func61 (fun vs w=>by kernel_rfl) (by rfl) ?_))))
  conv=>whnf
  refine q00 tab_ok (fun i=>i≤l.length∧∀ (k:Nat) x,k<i→l[k]? = some x→q18 y x=true) (fun (i:Nat)=>[(8,.val (.int .i64 i))]) (fun i=>[.own 86 6 n0 x0,.cells 89 [.own 4],.cells 3 [.val (.int .i64 y)],.own 86 6 l.length (l.flatMap encE),.own 60 3 m0 r0]) (fun i=>l.length-i) 0 ⟨Nat.zero_le _,fun k x h=>by omega⟩ ?_ ?_
  · ((refine q0d ?_);(conv=>whnf);(refine q0e (by rfl) (by rfl) flQ ?_))
    exact hHP rfl
  · rintro i ⟨hi,hk⟩
    rcases Nat.lt_or_ge i l.length with h1 |h1
    · obtain ⟨x,hx⟩:∃ x,l[i]? = some x:=⟨l[i],List.getElem?_eq_getElem h1⟩
      by_cases hc:x.e≤y
      · have hkx:q18 y x=false:=by unfold q18;simp;omega
        (repeat ((try (conv=>whnf));(first |(refine q6u hx ?_) |(refine stQ ?_) |(with_reducible refine q0s tab_ok Try.func45 (fun vs w=>by kernel_rfl) (by rfl) ?_))))
        conv=>whnf
        (repeat ((try (conv=>whnf));(refine stQ ?_)))
        conv=>whnf
        refine q8u tab_ok (fun i j M=>MovF (q18 y) l M i j) (fun (i j:Nat) (M:List Edge)=>[(5,.val (.int .i64 i)),(6,.val (.int .i64 j))]) (fun i j M=>[.own 86 6 n0 x0,.cells 89 [.own 4],.cells 3 [.val (.int .i64 y)],.own 86 6 l.length (M.flatMap encE),.own 60 3 m0 r0]) (fun i j M=>l.length-j) i (i+1) l (MovF.start hk hx hkx) ?_ ?_
        · ((refine q0d ?_);(conv=>whnf);(refine q0e (by rfl) (by rfl) flQ ?_))
          exact hHP rfl
        · rintro i j M hM
          have hle:=hM.le
          have hlen:=hM.len
          rcases Nat.lt_or_ge j l.length with h2 |h2
          · obtain ⟨z,hz⟩:∃ z,l[j]? = some z:=⟨l[j],List.getElem?_eq_getElem h2⟩
            have hz':=(hM.rest j (Nat.le_refl _)).trans hz
            by_cases hd:z.e≤y
            · have hkz:q18 y z=false:=by unfold q18;simp;omega
              (repeat ((try (conv=>whnf));(first |(refine q6u hz' ?_) |(refine stQ ?_) |(with_reducible refine q0s tab_ok Try.func45 (fun vs w=>by kernel_rfl) (by rfl) ?_))))
              conv=>whnf
              refine ⟨i,j+1,M,hM.drop_ hz hkz,by omega,?_⟩
              ((refine q0d ?_);(conv=>whnf);(refine q0e (by rfl) (by rfl) flQ ?_))
              exact hHP rfl
            · have hkz:q18 y z=true:=by unfold q18;simp;omega
              (repeat ((try (conv=>whnf));(first |(refine q6u hz' ?_) |(refine stQ ?_) |(with_reducible refine q0s tab_ok Try.func45 (fun vs w=>by kernel_rfl) (by rfl) ?_))))
              conv=>whnf
              refine mustP.mk (by rw [q12 q03,hlen];simp;omega) ?_
              (repeat ((try (conv=>whnf));(refine stQ ?_)))
              conv=>whnf
              refine ⟨i+1,j+1,M.set i z,hM.keep_ hz hkz,by omega,?_⟩
              ((refine q0d ?_);(conv=>whnf);(refine q0e (by rfl) (by rfl) flQ ?_))
              refine hHP ?_
              show List.take ((i:Int).toNat * 6) _++encE z++List.drop ((i:Int).toNat * 6+6) _=_
              rw [Int.toNat_natCast]
              exact q81 q03 M i z (by omega)
          · obtain rfl:j=l.length:=by omega
            have hfr:=hM.front
            rw [List.take_length] at hfr
            have hi0:(l.filter (q18 y)).length=i:=by rw [← hfr,List.length_take];omega
            (repeat ((try (conv=>whnf));(refine stQ ?_)))
            conv=>whnf
            refine ⟨by rw [q12 q03,hlen];simp;omega,?_⟩
            (repeat ((try (conv=>whnf));(refine stQ ?_)))
            conv=>whnf
            refine ⟨.vw 3 0 (l.filter (q18 y)).length,_,G,hLe rfl (q5b ?_ (by rfl) q2r),hend _ ?_ ?_⟩
            · rw [hi0];rfl
            · have e:(i:Int).toNat=i:=rfl
              have e2:(l.length:Int).toNat=l.length:=rfl
              simp only [List.length_append,List.length_take,List.length_drop,z0k,q12 q03,e,e2,hlen,List.length_cons,List.length_nil]
              omega
            · have e:(i:Int).toNat=i:=rfl
              rw [hi0,← hfr,← z16 q03,List.append_assoc,e]
              show List.take (i*6) (List.take (i*6) _++_)=_
              rw [List.take_append_of_le_length (by rw [List.length_take,q12 q03];omega),List.take_take,Nat.min_self]
      · have hkx:q18 y x=true:=by unfold q18;simp;omega
        (repeat ((try (conv=>whnf));(first |(refine q6u hx ?_) |(refine stQ ?_) |(with_reducible refine q0s tab_ok Try.func45 (fun vs w=>by kernel_rfl) (by rfl) ?_))))
        conv=>whnf
        refine ⟨i+1,⟨by omega,fun k z hkz hz=>?_⟩,by omega,?_⟩
        · by_cases e:k=i
          · subst e;rw [hx] at hz;cases hz;exact hkx
          · exact hk k z (by omega) hz
        · ((refine q0d ?_);(conv=>whnf);(refine q0e (by rfl) (by rfl) flQ ?_))
          exact hHP rfl
    · obtain rfl:i=l.length:=by omega
      have hf:l.filter (q18 y)=l:=by
        rw [List.filter_eq_self]
        intro z hz
        obtain ⟨k,hk'⟩:=List.mem_iff_getElem?.1 hz
        exact hk k z (List.getElem?_eq_some_iff.1 hk').1 hk'
      (repeat ((try (conv=>whnf));(refine stQ ?_)))
      conv=>whnf
      refine ⟨.vw 3 0 (l.filter (q18 y)).length,_,G,z84 rfl (hLe rfl (q5b (by rw [hf]) (by rfl) q2r)),hend _ ?_ ?_⟩
      · rw [q12 q03]
      · rw [hf,z16 q03,List.take_length]
end
end Go.Proofs.Ytegpkpilfgohhaa
