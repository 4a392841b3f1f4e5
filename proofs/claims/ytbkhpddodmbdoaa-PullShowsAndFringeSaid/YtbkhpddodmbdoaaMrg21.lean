/-
  Merged: XApartCmp, XTrim, XDelO, XApart0.
-/
import Derived.Test.YtbkhpddodmbdoaaMrg19
import Derived.Test.YtbkhpddodmbdoaaMrg20
import Derived.Test.YtbkhpddodmbdoaaMrg13
import Derived.Test.YtbkhpddodmbdoaaGm
import Derived.Test.YtbkhpddodmbdoaaMrg7
import Derived.Test.YtbkhpddodmbdoaaMrg11
set_option linter.unusedVariables false
set_option linter.unusedSimpArgs false
set_option linter.unnecessarySimpa false
namespace Go.Proofs.Ytbkhpddodmbdoaa
open Go.RowKit Go.Shelf Go.Lib Go.Sort
set_option maxRecDepth 20000
def or3 (a b c:Int):Int:=if a≠0 then a else if b≠0 then b else c
set_option maxHeartbeats 2000000 in
theorem x2o (b:Nat) (a c d:Int) (W:World) (h0:W.cell? ⟨b,0,none⟩=some (.int .i64 a)) (h1:W.cell? ⟨b,1,none⟩=some (.int .i64 c)) (h2:W.cell? ⟨b,2,none⟩=some (.int .i64 d)) :
    Calls Try.prog 42 #[.slice (some ⟨b,0,none⟩) 3 3] W fun e w'=>e=.returned (.int .i64 (or3 a c d))∧∃ q,w'=W.drewN q:=by
  go_enter Try.func42,Try.ntmps42
  by_cases ha:a=0
  · subst ha
    by_cases hc:c=0
    · subst hc
      go_wp2
      refine wp_loop_rounds 4 ?_
      rw [rounds_succ]
      go_wp2
      repeat any_goals (rw [rounds_succ];go_wp2)
      all_goals go_ret
      all_goals ((try have hc:d=0:=by simpa using ‹(d != 0)=false›);(try subst hc);exact ⟨by simp [or3],0,rfl⟩)
    · go_wp2
      refine wp_loop_rounds 4 ?_
      rw [rounds_succ]
      go_wp2
      repeat any_goals (rw [rounds_succ];go_wp2)
      all_goals go_ret
      all_goals exact ⟨by simp [or3,hc],0,rfl⟩
  · go_wp2
    refine wp_loop_rounds 4 ?_
    rw [rounds_succ]
    go_wp2
    repeat any_goals (rw [rounds_succ];go_wp2)
    all_goals go_ret
    all_goals exact ⟨by simp [or3,ha],0,rfl⟩
def encO (r:Ow):List Value:=[.int .i64 r.r.y,.int .i64 r.r.x0,.int .i64 r.r.x1,.int .i64 r.p]
def cmpO (r s:Ow):Int:=or3 (r.r.y-s.r.y) (r.r.x0-s.r.x0) (r.p-s.p)
set_option maxHeartbeats 2000000 in
theorem x2p (x y:Ow) (W:World):Calls Try.prog 41 #[.agg (encO x).toArray,.agg (encO y).toArray] W fun e w'=>e=.returned (.int .i64 (cmpO x y))∧∃ q os',w'=grow (W.drewN q) os':=by
  obtain ⟨⟨a,b,c⟩,p,h1,h2,h5⟩:=x
  obtain ⟨⟨d,e,f⟩,s,h3,h4,h6⟩:=y
  simp only at h1 h2 h3 h4
  have hcon:=fun k W' h h' h''=>x2o k (a-d) (b-e) (p-s) W' h h' h''
  simp only [cmpO,encO]
  generalize hr:or3 (a-d) (b-e) (p-s)=r at hcon
  have w1:IntKind.i64.wrap (a-d)=a-d:=IntWalk.i64_in _ (by omega)
  have w2:IntKind.i64.wrap (b-e)=b-e:=IntWalk.i64_in _ (by omega)
  have w3:IntKind.i64.wrap (p-s)=p-s:=IntWalk.i64_in _ (by omega)
  show Calls Try.prog 41 #[.agg #[.int .i64 a,.int .i64 b,.int .i64 c,.int .i64 p],.agg #[.int .i64 d,.int .i64 e,.int .i64 f,.int .i64 s]] W _
  go_enter Try.func41,Try.ntmps41
  go_wp2_with (go_at_call 42;refine (hcon _ _ (by go_simp) (by go_simp) (by go_simp)).mono ?_;rintro e w' ⟨rfl,q,rfl⟩)
  go_ret
  exact ⟨rfl,q,_,by rw [alloc_eq_grow,alloc_eq_grow,alloc_eq_grow,grow_grow,grow_grow];rfl⟩
theorem lt_cmpO {a b:Ow}:ltOf cmpO b a=false↔leO a b:=by
  unfold ltOf cmpO leO or3
  rw [decide_eq_false_iff_not]
  split <;> (try split) <;> omega
theorem x38:SWO (ltOf cmpO) where
  irrefl x:=by rw [lt_cmpO];unfold leO;omega
  trans x y z h1 h2:=by
    rw [← Bool.not_eq_false] at *
    rw [lt_cmpO] at *
    unfold leO at *;omega
  ntrans x y z h1 h2:=by rw [lt_cmpO] at *;unfold leO at *;omega
end Go.Proofs.Ytbkhpddodmbdoaa
namespace Go.Proofs.Ytbkhpddodmbdoaa
open Go.RowKit
theorem x01 {P:Program} {f:FuncId} {args:List AV} {hp:List Blk} {G:Mem} {K:AV→List Blk→Mem→Prop} {n0:Nat} (hn:hp.length=n0)
    (h:CallP P f args hp G fun v hp' G'=>∃ v1 hp1 G1,Le n0 [v] hp' G' [v1] hp1 G1∧K v1 hp1 G1):CallP P f args hp G K:=by
  subst hn
  refine ⟨h.enters,fun w0 G0 β w vs hr ha=>(h.calls w0 G0 β w vs hr ha).mono ?_⟩
  rintro e w' ⟨y,β',v,hp',G',rfl,h1,h2,h3,v1,hp1,G1,hle,hK⟩
  obtain ⟨β'',g1,g2,g3⟩:=hle.out w0 G0 β β' w' [y] (Nm.below_of hr) h1 h2 (by simp only [AV.rels];exact ⟨y,[],rfl,h3,rfl⟩)
  simp only [AV.rels] at g3
  obtain ⟨z,zs,g4,g5,g6⟩:=g3
  cases g4
  exact ⟨y,β'',v1,hp1,G1,rfl,g1,g2,g5,hK⟩
theorem x39 {n0 q:Nat} {hp hp':List Blk} {G G':Mem} {fr':List AV} {E:TypeId} {sz n:Nat} {xs:List Value} (hq:nthB hp q=.own E sz n xs) (h:Le n0 [.vw q 0 n] hp G fr' hp' G'):Le n0 [.own q] hp G fr' hp' G':=by
  refine ⟨fun w0 G0 β0 β w ys h0 h1 hr hf=>h.out w0 G0 β0 β w ys h0 h1 hr ?_⟩
  simp only [AV.rels,AV.rel] at hf ⊢
  obtain ⟨y,zs,rfl,⟨hy,_⟩,rfl⟩:=hf
  refine ⟨y,[],rfl,?_,rfl⟩
  obtain ⟨x,hx1,hx2⟩:=hr.blk q y hy
  rw [q0z hq rfl] at hx1;cases hx1
  rcases hx2.1.2 with ⟨rfl,rfl⟩ |⟨g,cap,cur,rfl,_,_,h8,_⟩
  · exact ⟨none,0,rfl,Nat.le_refl _,⟨fun _=>rfl,fun _=>⟨0,hy⟩⟩,fun h=>by omega⟩
  · exact ⟨_,cap,rfl,h8,⟨(fun h=>by cases h),fun _=>⟨n,hy⟩⟩,fun _=>⟨_,g,hy,rfl,rfl⟩⟩
theorem HR.trim {w0:World} {G0:Mem} {β:Nm} {hp:List Blk} {G:Mem} {w:World} (hr:HR w0 G0 β hp G w) {k N n m c:Nat} {E:TypeId} {sz:Nat} {xs:List Value} {A:Option Addr} (hk:nthB hp k=.own E sz N xs) (hβ:β k=some (.slice A m c)) (hn:n≤N) :
    HR w0 G0 (β.put hp.length (.slice A n c)) (hp.set k .gone++[.own E sz n (xs.take (n*sz))]) G w:=by
  have hkx:=q0z hk rfl
  obtain ⟨x1,hx1,hx2⟩:=hr.blk k _ hβ
  rw [hkx] at hx1;cases hx1
  obtain rfl:=q9a hx2.1
  have eb:q0j (.slice A n c)=q0j (.slice A m c):=by cases A <;> rfl
  refine hr.moveName hβ hkx rfl (w':=w) ⟨rfl,rfl,rfl,Nat.le_refl _,fun _ _ _=>rfl⟩ (fun b hb=>.inr (by rw [← eb];exact hb)) rfl ⟨z0n hx2.1 hn,fun g hg=>hx2.2 g (by rw [← eb];exact hg)⟩
theorem x02 {P:Program} {f:FuncId} (hen:∀ vs w,(callFunc f vs).run P w=.ok (.enter f vs) w) {k n N:Nat} {post:List AV} {hp:List Blk} {G:Mem} {K:AV→List Blk→Mem→Prop} {E:TypeId} {sz:Nat} {xs:List Value} (hk:nthB hp k=.own E sz N xs) (hn:n≤N)
    (h:setF hp k .gone fun hp1=>lenF hp1 fun q=>catF hp1 [.own E sz n (xs.take (n*sz))] fun hp'=>CallP P f (.own q::post) hp' G K):CallP P f (.vw k 0 n::post) hp G K:=by
  rw [q1h] at h
  have h0:=q1i h
  rw [q03] at h0
  have hlen:(hp.set k .gone).length=hp.length:=by simp
  rw [hlen] at h0
  refine ⟨hen,fun w0 G0 β w vs hr ha=>?_⟩
  simp only [AV.rels,AV.rel] at ha
  obtain ⟨y,ts,hvs,⟨A,c,rfl,hnc,⟨_,hd⟩,_⟩,hts⟩:=ha
  obtain ⟨m,hβ⟩:=hd trivial
  have hle:=Nm.le_put (.slice A n c) (hr.fresh (Nat.le_refl hp.length))
  refine (h0.calls w0 G0 _ w vs (hr.trim hk hβ hn) ?_).mono ?_
  · simp only [AV.rels,AV.rel]
    exact ⟨_,ts,hvs,⟨Nm.put_same _ _ _,rfl⟩,AV.rels_mono hle _ _ hts⟩
  · rintro e w' ⟨y,β',v,hp',G',h1,h2,h3⟩
    exact ⟨y,β',v,hp',G',h1,Nm.le_trans hle h2,h3⟩
theorem z8w {P:Program} {f:FuncId} (hen:∀ vs w,(callFunc f vs).run P w=.ok (.enter f vs) w) {k N:Nat} {post:List AV} {hp:List Blk} {G:Mem} {K:AV→List Blk→Mem→Prop} {E:TypeId} {sz:Nat} {xs:List Value} (hk:nthB hp k=.own E sz N xs)
    (h:setF hp k .gone fun hp1=>lenF hp1 fun q=>catF hp1 [.own E sz N xs] fun hp'=>CallP P f (.own q::post) hp' G K):CallP P f (.own k::post) hp G K:=by
  rw [q1h] at h
  have h0:=q1i h
  rw [q03] at h0
  have hlen:(hp.set k .gone).length=hp.length:=by simp
  rw [hlen] at h0
  refine ⟨hen,fun w0 G0 β w vs hr ha=>?_⟩
  simp only [AV.rels,AV.rel] at ha
  obtain ⟨y,ts,hvs,⟨hy,hsl⟩,hts⟩:=ha
  obtain ⟨A,m,c,rfl⟩:∃ A m c,y=.slice A m c:=by cases y <;> first |exact ⟨_,_,_,rfl⟩ |cases hsl
  obtain ⟨x,hx1,hx2⟩:=hr.blk k _ hy
  rw [q0z hk rfl] at hx1;cases hx1
  obtain rfl:=q9a hx2.1
  have hle:=Nm.le_put (.slice A m c) (hr.fresh (Nat.le_refl hp.length))
  have ht:=hr.trim hk hy (Nat.le_refl _)
  have hxs:xs.take (m*sz)=xs:=List.take_of_length_le (by rw [hx2.1.1];exact Nat.le_refl _)
  rw [hxs] at ht
  refine (h0.calls w0 G0 _ w vs ht ?_).mono ?_
  · simp only [AV.rels,AV.rel]
    exact ⟨_,ts,hvs,⟨Nm.put_same _ _ _,rfl⟩,AV.rels_mono hle _ _ hts⟩
  · rintro e w' ⟨y,β',v,hp',G',h1,h2,h3⟩
    exact ⟨y,β',v,hp',G',h1,Nm.le_trans hle h2,h3⟩
section
variable {α:Type} {enc:α→List Value} {k:Nat}
theorem x2q (hk:∀ x,(enc x).length=k):∀ (l:List α) (i:Nat) (x:α),i<l.length→(l.flatMap enc).take (i*k)++enc x++(l.flatMap enc).drop (i*k+k)=(l.set i x).flatMap enc
  | [],i,x,h=>by simp at h
  | a::l,0,x,_=>by
    simp only [List.flatMap_cons,Nat.zero_mul,List.take_zero,List.nil_append,Nat.zero_add,List.set_cons_zero]
    rw [List.drop_left' (hk a)]
  | a::l,i+1,x,h=>by
    have e:(i+1)*k=k+i*k:=by rw [Nat.add_mul];omega
    simp only [List.flatMap_cons,List.set_cons_succ]
    rw [e,Nat.add_assoc,← hk a,List.take_length_add_append,List.drop_length_add_append,hk a]
    have:=x2q hk l i x (by simpa using h)
    rw [← this];simp [List.append_assoc]
theorem z4z (hk:∀ x,(enc x).length=k):∀ (l:List α) (i:Nat),(l.flatMap enc).take (i*k)=(l.take i).flatMap enc
  | l,0=>by simp
  | [],i+1=>by simp
  | a::l,i+1=>by
    have e:(i+1)*k=k+i*k:=by rw [Nat.add_mul];omega
    simp only [List.flatMap_cons,List.take_succ_cons]
    rw [e,← hk a,List.take_length_add_append,hk a,z4z hk l i]
end
end Go.Proofs.Ytbkhpddodmbdoaa
namespace Go.Proofs.Ytbkhpddodmbdoaa
open Go.RowKit
set_option maxRecDepth 20000
theorem q4c (x:Ow):(encO x).length=4:=rfl
theorem z8c {l:List Ow} {i:Nat} {x:Ow} (h:l[i]? = some x) (j:Nat) (hj:j<4):(l.flatMap encO)[i*4+j]? = (encO x)[j]?:=z8a q4c l i j x h hj
theorem q6w {l:List Ow} {i:Nat} {x:Ow} (h:l[i]? = some x) {K:List Value→Prop} (k:K [.int .i64 x.r.y,.int .i64 x.r.x0,.int .i64 x.r.x1,.int .i64 x.p]):OwnCells (l.flatMap encO) (i*4) 4 K :=
  q3f _ rfl (fun j v hj=>by
    have hj4:j<4:=(List.getElem?_eq_some_iff.1 hj).1
    rw [z8c h j hj4];exact hj) k
set_option maxHeartbeats 4000000 in
theorem z56 {S:Nat→Prop} {E1 E2:TypeId} {s1 s2 n1 n2:Nat} {x1 x2:List Value} {l:List Ow} {q:Ow} {G:Mem} {K:AV→List Blk→Mem→Prop} (hl:l.length≤4000000000000)
    (h:∀ xs:List Value,xs.length=l.length*4→xs.take ((l.filter (q25 q.r)).length*4)=(l.filter (q25 q.r)).flatMap encO→K (.vw 5 0 (l.filter (q25 q.r)).length) [.muts S,.own E1 s1 n1 x1,.own E2 s2 n2 x2,.gone,.cells 76 [.val (.int .i64 q.r.y),.val (.int .i64 q.r.x0),.val (.int .i64 q.r.x1),.val (.int .i64 q.p)],.own 76 4 l.length xs] G) :
    CallP Try.prog 43 [.own 5,.fn (.func 44) [] [.ptr 4 0]] [.muts S,.own E1 s1 n1 x1,.own E2 s2 n2 x2,.gone,.cells 76 [.val (.int .i64 q.r.y),.val (.int .i64 q.r.x0),.val (.int .i64 q.r.x1),.val (.int .i64 q.p)],.own 76 4 l.length (l.flatMap encO)] G K:=by
  have hHP:∀ {m:Nat} {t:List Blk} {xs ys:List Value},xs=ys→hpLe (m+6) (.muts S::.own E1 s1 n1 x1::.own E2 s2 n2 x2::.gone::.cells 76 [.val (.int .i64 q.r.y),.val (.int .i64 q.r.x0),.val (.int .i64 q.r.x1),.val (.int .i64 q.p)]::.own 76 4 l.length xs::t) [.muts S,.own E1 s1 n1 x1,.own E2 s2 n2 x2,.gone,.cells 76 [.val (.int .i64 q.r.y),.val (.int .i64 q.r.x0),.val (.int .i64 q.r.x1),.val (.int .i64 q.p)],.own 76 4 l.length ys]:=fun e=>by
    subst e
    exact q0w (fun _ h=>h) (q0e rfl rfl (q0e rfl rfl (q0n (q0f (by exact flQ) (q0e rfl rfl q0g)))))
  have hLe:∀ {t:List Blk} {xs ys:List Value} {fr fr':List AV},xs=ys→frLe 6 fr fr'→Le 6 fr (.muts S::.own E1 s1 n1 x1::.own E2 s2 n2 x2::.gone::.cells 76 [.val (.int .i64 q.r.y),.val (.int .i64 q.r.x0),.val (.int .i64 q.r.x1),.val (.int .i64 q.p)]::.own 76 4 l.length xs::t) G fr' [.muts S,.own E1 s1 n1 x1,.own E2 s2 n2 x2,.gone,.cells 76 [.val (.int .i64 q.r.y),.val (.int .i64 q.r.x0),.val (.int .i64 q.r.x1),.val (.int .i64 q.p)],.own 76 4 l.length ys] G:=fun e hf=>q0k rfl rfl hf (hHP e)
  refine x01 rfl (q0c tab_ok Try.func43 (fun vs w=>by kernel_rfl) rfl ?_)
  (repeat ((try (conv=>whnf));(first |(refine stQ ?_) |(with_reducible refine q0c tab_ok Try.func63 (fun vs w=>by kernel_rfl) (by rfl) ?_))))
  conv=>whnf
  refine q05 tab_ok (fun i=>i≤l.length∧∀ k x,k<i→l[k]? = some x→q25 q.r x=true) (fun (i:Nat)=>[(8,.val (.int .i64 i))]) (fun i=>[.muts S,.own E1 s1 n1 x1,.own E2 s2 n2 x2,.gone,.cells 76 [.val (.int .i64 q.r.y),.val (.int .i64 q.r.x0),.val (.int .i64 q.r.x1),.val (.int .i64 q.p)],.own 76 4 l.length (l.flatMap encO)]) (fun i=>l.length-i) 0 ⟨Nat.zero_le _,fun k x h=>by omega⟩ ?_ ?_
  · ((refine q0h ?_);(conv=>whnf);(refine q0k (by rfl) (by rfl) flQ ?_))
    exact hHP rfl
  · rintro i ⟨hi,hk⟩
    rcases Nat.lt_or_ge i l.length with h1 |h1
    · obtain ⟨x,hx⟩:∃ x,l[i]? = some x:=⟨l[i],List.getElem?_eq_getElem h1⟩
      by_cases hc:x.r.x1≤q.r.x0
      · have hkx:q25 q.r x=false:=by unfold q25;simp [hc]
        (repeat ((try (conv=>whnf));(first |(refine q6w hx ?_) |(refine stQ ?_) |(with_reducible refine q0c tab_ok Try.func44 (fun vs w=>by kernel_rfl) (by rfl) ?_))))
        conv=>whnf
        (repeat ((try (conv=>whnf));(refine stQ ?_)))
        conv=>whnf
        refine x12 tab_ok (fun i j M=>Moved (q25 q.r) l M i j) (fun (i j:Nat) (M:List Ow)=>[(5,.val (.int .i64 i)),(6,.val (.int .i64 j))]) (fun i j M=>[.muts S,.own E1 s1 n1 x1,.own E2 s2 n2 x2,.gone,.cells 76 [.val (.int .i64 q.r.y),.val (.int .i64 q.r.x0),.val (.int .i64 q.r.x1),.val (.int .i64 q.p)],.own 76 4 l.length (M.flatMap encO)]) (fun i j M=>l.length-j) i (i+1) l (Moved.start hk hx hkx) ?_ ?_
        · ((refine q0h ?_);(conv=>whnf);(refine q0k (by rfl) (by rfl) flQ ?_))
          exact hHP rfl
        · rintro i j M hM
          have hle:=hM.le
          have hlen:=hM.len
          rcases Nat.lt_or_ge j l.length with h2 |h2
          · obtain ⟨y,hy⟩:∃ y,l[j]? = some y:=⟨l[j],List.getElem?_eq_getElem h2⟩
            have hy':=hM.at_.trans hy
            by_cases hd:y.r.x1≤q.r.x0
            · have hky:q25 q.r y=false:=by unfold q25;simp [hd]
              (repeat ((try (conv=>whnf));(first |(refine q6w hy' ?_) |(refine stQ ?_) |(with_reducible refine q0c tab_ok Try.func44 (fun vs w=>by kernel_rfl) (by rfl) ?_))))
              conv=>whnf
              (repeat ((try (conv=>whnf));(refine stQ ?_)))
              conv=>whnf
              refine ⟨i,j+1,M,hM.drop_ hy hky,by omega,?_⟩
              ((refine q0h ?_);(conv=>whnf);(refine q0k (by rfl) (by rfl) flQ ?_))
              exact hHP rfl
            · have hky:q25 q.r y=true:=by unfold q25;simp [hd]
              (repeat ((try (conv=>whnf));(first |(refine q6w hy' ?_) |(refine stQ ?_) |(with_reducible refine q0c tab_ok Try.func44 (fun vs w=>by kernel_rfl) (by rfl) ?_))))
              conv=>whnf
              (repeat ((try (conv=>whnf));(refine stQ ?_)))
              conv=>whnf
              refine ⟨by rw [q4p q4c,hlen];simp;omega,?_⟩
              (repeat ((try (conv=>whnf));(refine stQ ?_)))
              conv=>whnf
              refine ⟨i+1,j+1,M.set i y,hM.keep_ hy hky,by omega,?_⟩
              ((refine q0h ?_);(conv=>whnf);(refine q0k (by rfl) (by rfl) flQ ?_))
              refine hHP ?_
              show List.take ((i:Int).toNat * 4) _++encO y++List.drop ((i:Int).toNat * 4+4) _=_
              rw [Int.toNat_natCast]
              exact x2q q4c M i y (by omega)
          · obtain rfl:j=l.length:=by omega
            have hfr:=hM.front
            rw [List.take_length] at hfr
            have hi0:(l.filter (q25 q.r)).length=i:=by rw [← hfr,List.length_take];omega
            (repeat ((try (conv=>whnf));(refine stQ ?_)))
            conv=>whnf
            refine ⟨by rw [q4p q4c,hlen];simp;omega,?_⟩
            (repeat ((try (conv=>whnf));(refine stQ ?_)))
            conv=>whnf
            refine ⟨.vw 5 0 (l.filter (q25 q.r)).length,_,G,hLe rfl (q07 ?_ (by rfl) q1e),h _ ?_ ?_⟩
            · rw [hi0];rfl
            · have e:(i:Int).toNat=i:=rfl
              have e2:(l.length:Int).toNat=l.length:=rfl
              simp only [List.length_append,List.length_take,List.length_drop,z3b,q4p q4c,e,e2,hlen,List.length_cons,List.length_nil]
              omega
            · have e:(i:Int).toNat=i:=rfl
              rw [hi0,← hfr,← z4z q4c,List.append_assoc,e]
              show List.take (i*4) (List.take (i*4) _++_)=_
              rw [List.take_append_of_le_length (by rw [List.length_take,q4p q4c];omega),List.take_take,Nat.min_self]
      · have hkx:q25 q.r x=true:=by unfold q25;simp [hc]
        (repeat ((try (conv=>whnf));(first |(refine q6w hx ?_) |(refine stQ ?_) |(with_reducible refine q0c tab_ok Try.func44 (fun vs w=>by kernel_rfl) (by rfl) ?_))))
        conv=>whnf
        refine ⟨i+1,⟨by omega,fun k y hky hy=>?_⟩,by omega,?_⟩
        · by_cases e:k=i
          · subst e;rw [hx] at hy;cases hy;exact hkx
          · exact hk k y (by omega) hy
        · ((refine q0h ?_);(conv=>whnf);(refine q0k (by rfl) (by rfl) flQ ?_))
          exact hHP rfl
    · obtain rfl:i=l.length:=by omega
      have hf:l.filter (q25 q.r)=l:=by
        rw [List.filter_eq_self]
        intro y hy
        obtain ⟨k,hk'⟩:=List.mem_iff_getElem?.1 hy
        exact hk k y (List.getElem?_eq_some_iff.1 hk').1 hk'
      (repeat ((try (conv=>whnf));(refine stQ ?_)))
      conv=>whnf
      (repeat ((try (conv=>whnf));(refine stQ ?_)))
      conv=>whnf
      refine ⟨.vw 5 0 (l.filter (q25 q.r)).length,_,G,x39 rfl (hLe rfl (q07 (by rw [hf]) (by rfl) q1e)),h _ ?_ ?_⟩
      · rw [q4p q4c]
      · rw [hf,z4z q4c,List.take_length]
end Go.Proofs.Ytbkhpddodmbdoaa
namespace Go.Proofs.Ytbkhpddodmbdoaa
open Go.RowKit
set_option maxRecDepth 20000
def encQ (e:Run × Int):List Value:=[.int .i64 e.1.y,.int .i64 e.1.x0,.int .i64 e.1.x1,.int .i64 e.2]
def allP (p:Nat→PcD):Nat→List (Run × Int)
  | 0=>[]
  | i+1=>allP p i++(p i).L.map fun r=>(r,(i:Int))
theorem mem_allP {p:Nat→PcD} {r:Run} {k:Int}:∀ {n:Nat},(r,k)∈allP p n↔∃ i,i<n∧k=(i:Int)∧r∈(p i).L
  | 0=>by simp [allP]
  | n+1=>by
    simp only [allP,List.mem_append,mem_allP (n:=n),List.mem_map,Prod.mk.injEq]
    constructor
    · rintro (⟨i,h1,h2,h3⟩ |⟨s,h1,rfl,rfl⟩)
      · exact ⟨i,by omega,h2,h3⟩
      · exact ⟨n,by omega,rfl,h1⟩
    · rintro ⟨i,h1,h2,h3⟩
      by_cases e:i=n
      · subst e;exact .inr ⟨r,h3,rfl,h2.symm⟩
      · exact .inl ⟨i,by omega,h2,h3⟩
theorem z2v {p:Nat→PcD} {m:Nat}:∀ {n:Nat},(∀ i,i<n→(p i).L.length≤m)→(allP p n).length≤n*m
  | 0,_=>by simp [allP]
  | n+1,h=>by
    have h1:=z2v (n:=n) fun i hi=>h i (by omega)
    have h2:=h n (by omega)
    simp only [allP,List.length_append,List.length_map,Nat.add_mul];omega
theorem x4q:∀ (L:List (Run × Int)),(∀ e∈L,(-100000≤e.1.y∧e.1.y≤100000)∧(-100000≤e.1.x0∧e.1.x0≤100000)∧(0≤e.2∧e.2≤100000))→∃ l:List Ow,l.map (fun o=>(o.r,o.p))=L
  | [],_=>⟨[],rfl⟩
  | e::L,h=>by
    obtain ⟨l,hl⟩:=x4q L fun s hs=>h s (by simp [hs])
    have:=h e (by simp)
    exact ⟨⟨e.1,e.2,this.1,this.2.1,this.2.2⟩::l,by simp [hl]⟩
theorem x5p (l:List Ow):(l.map fun o=>(o.r,o.p)).flatMap encQ=l.flatMap encO:=by rw [List.flatMap_map];rfl
theorem z92 {p:Nat→PcD}:∀ {n:Nat},(∀ i,i<n→ValidL (p i).L)→(allP p n).Pairwise fun a b=>a.2=b.2→¬ q64 a.1 b.1
  | 0,_=>by simp [allP]
  | n+1,h=>by
    rw [allP,List.pairwise_append]
    refine ⟨z92 fun i hi=>h i (by omega),?_,?_⟩
    · rw [List.pairwise_map]
      refine List.pairwise_iff_getElem.2 fun i j hi hj hij _ hm=>?_
      have:=q9j (h n (by omega)).ok hij (List.getElem?_eq_getElem hi) (List.getElem?_eq_getElem hj)
      obtain ⟨h1,x,h2,h3⟩:=hm
      dsimp only at h1 h2 h3
      omega
    · rintro ⟨r,k⟩ hr ⟨s,j⟩ hs e
      obtain ⟨i,h1,h2,_⟩:=mem_allP.1 hr
      simp only [List.mem_map,Prod.mk.injEq] at hs
      obtain ⟨_,_,_,h3⟩:=hs
      simp only at e;omega
/-! ### The marks -/
def marks (T:List Bool) (q:Int) (l:List Ow):List Bool:=l.foldl (fun T x=>T.set (max x.p q).toNat true) T
theorem z4a (T:List Bool) (q:Int) (l:List Ow) (x:Ow):marks T q (l++[x])=(marks T q l).set (max x.p q).toNat true:=by simp [marks]
theorem z1h (T:List Bool) (q:Int) (l:List Ow):(marks T q l).length=T.length:=by
  unfold marks
  induction l generalizing T with
  | nil=>rfl
  | cons a l ih=>simp [ih]
theorem z57 {q:Int} {i:Nat}:∀ {l:List Ow} {T:List Bool},i<T.length→((marks T q l)[i]? = some true↔T[i]? = some true∨∃ a∈l,(max a.p q).toNat=i)
  | [],T,hi=>by simp [marks]
  | a::l,T,hi=>by
    have:=z57 (q:=q) (i:=i) (l:=l) (T:=T.set (max a.p q).toNat true) (by simpa using hi)
    have e:marks T q (a::l)=marks (T.set (max a.p q).toNat true) q l:=rfl
    rw [e,this,List.getElem?_set]
    by_cases h:(max a.p q).toNat=i
    · simp [h,hi]
    · simp [h]
def tAll (n:Nat) (S:List Ow):Nat→List Bool
  | 0=>List.replicate n false
  | b+1=>match S[b]? with
    | some q=>marks (tAll n S b) q.p (q1k S b)
    | none=>tAll n S b
theorem q6x (n:Nat) (S:List Ow):∀ b,(tAll n S b).length=n
  | 0=>by simp [tAll]
  | b+1=>by
    unfold tAll
    split
    · rw [z1h,q6x n S b]
    · exact q6x n S b
theorem z8d {n:Nat} {S:List Ow} {i:Nat} (hi:i<n):∀ {b:Nat},b≤S.length→((tAll n S b)[i]? = some true↔∃ c q a,c<b∧S[c]? = some q∧a∈q1k S c∧max a.p q.p=(i:Int))
  | 0,_=>by simp [tAll,List.getElem?_replicate,hi]
  | b+1,hb=>by
    have hbl:b<S.length:=by omega
    obtain ⟨q,hq⟩:∃ q,S[b]? = some q:=⟨_,List.getElem?_eq_getElem hbl⟩
    have ih:=z8d (S:=S) hi (b:=b) (by omega)
    have e:tAll n S (b+1)=marks (tAll n S b) q.p (q1k S b):=by simp [tAll,hq]
    rw [e,z57 (by rw [q6x];exact hi),ih]
    have hmx:∀ a:Ow,(max a.p q.p).toNat=i↔max a.p q.p=(i:Int):=fun a=>by
      have:=a.hp;omega
    constructor
    · rintro (⟨c,q',a,h1,h2⟩ |⟨a,h1,h2⟩)
      · exact ⟨c,q',a,by omega,h2⟩
      · exact ⟨b,q,a,by omega,hq,h1,(hmx a).1 h2⟩
    · rintro ⟨c,q',a,h1,h2,h3,h4⟩
      by_cases e:c=b
      · subst e;rw [hq] at h2;cases h2
        exact .inr ⟨a,h3,(hmx a).2 h4⟩
      · exact .inl ⟨c,q',a,by omega,h2,h3,h4⟩
theorem x4a {n:Nat} {p:Nat→PcD} {l S:List Ow} (hl:l.map (fun o=>(o.r,o.p))=allP p n) (hp:S.Perm l) (hs:S.Pairwise leO) (hv:∀ i,i<n→ValidL (p i).L) {i:Nat} (hi:i<n) :
    (tAll n S S.length)[i]? = some true↔∃ k,k<i∧z31 (p k).L (p i).L:=by
  have hmem:∀ {a:Ow},a∈l↔(a.r,a.p)∈allP p n:=fun {a}=>by
    rw [← hl,List.mem_map]
    constructor
    · intro h;exact ⟨a,h,rfl⟩
    · rintro ⟨b,h1,h2⟩
      have:b=a:=by
        cases a;cases b;simp only [Prod.mk.injEq] at h2;obtain ⟨rfl,rfl⟩:=h2;rfl
      rwa [← this]
  have hpw:l.Pairwise fun a b=>a.p=b.p→¬ q64 a.r b.r:=by
    have:=z92 hv
    rw [← hl,List.pairwise_map] at this
    exact this
  have hlt:∀ a∈l,a.r.x0<a.r.x1:=fun a ha=>by
    obtain ⟨k,h1,_,h2⟩:=mem_allP.1 (hmem.1 ha)
    have:=(hv k h1).bd h2;omega
  rw [z8d hi (Nat.le_refl _)]
  have h0:=x5z hp hs hlt hpw (i:Int)
  have e1:(∃ c q a,c<S.length∧S[c]? = some q∧a∈q1k S c∧max a.p q.p=(i:Int))↔∃ c q a,S[c]? = some q∧a∈q1k S c∧max a.p q.p=(i:Int) :=
    ⟨fun ⟨c,q,a,_,h⟩=>⟨c,q,a,h⟩,fun ⟨c,q,a,h⟩=>⟨c,q,a,(List.getElem?_eq_some_iff.1 h.1).1,h⟩⟩
  rw [e1,h0]
  constructor
  · rintro ⟨a,ha,b,hb,h1,h2,hm⟩
    obtain ⟨k,k1,k2,k3⟩:=mem_allP.1 (hmem.1 ha)
    obtain ⟨j,j1,j2,j3⟩:=mem_allP.1 (hmem.1 hb)
    have:j=i:=by omega
    subst this
    obtain ⟨h4,x,h5,h6⟩:=hm
    exact ⟨k,by omega,x,a.r.y,⟨a.r,k3,rfl,h5⟩,⟨b.r,j3,h4.symm,h6⟩⟩
  · rintro ⟨k,hk,x,y,⟨r,hr,r1,r2⟩,⟨s,hs',s1,s2⟩⟩
    have g1:(r,(k:Int))∈allP p n:=mem_allP.2 ⟨k,by omega,rfl,hr⟩
    have g2:(s,(i:Int))∈allP p n:=mem_allP.2 ⟨i,hi,rfl,hs'⟩
    rw [← hl,List.mem_map] at g1 g2
    obtain ⟨a,a1,a2⟩:=g1
    obtain ⟨b,b1,b2⟩:=g2
    simp only [Prod.mk.injEq] at a2 b2
    refine ⟨a,a1,b,b1,by omega,by omega,?_,x,?_,?_⟩
    · rw [a2.1,b2.1,r1,s1]
    · rw [a2.1];exact r2
    · rw [b2.1];exact s2
/-! ### The vectors that were seen -/
def q85 (p:Nat→PcD):Nat→List (List Value × Value)
  | 0=>[]
  | i+1=>q85 p i++[(inkC (p i).I,.int .i64 i)]
theorem eq_ink {I J:Nat→Int}:q1a (inkC I) (inkC J)=true↔q3j I J:=by
  simp [inkC,q1a,q3j,and_assoc]
theorem z4b {k:List Value}:∀ {l m:List (List Value × Value)},atV? k (l++m)=(atV? k l).or (atV? k m)
  | [],m=>by simp [atV?]
  | (j,v)::l,m=>by
    simp only [List.cons_append,atV?]
    split
    · simp
    · exact z4b
theorem seen_none {p:Nat→PcD} {I:Nat→Int}:∀ {i:Nat},atV? (inkC I) (q85 p i)=none↔∀ k,k<i→¬ q3j I (p k).I
  | 0=>by simp [q85,atV?]
  | i+1=>by
    rw [q85,z4b,Option.or_eq_none_iff,seen_none (i:=i)]
    simp only [atV?]
    constructor
    · rintro ⟨h1,h2⟩ k hk hs
      by_cases e:k=i
      · subst e
        rw [if_pos (eq_ink.2 hs)] at h2;cases h2
      · exact h1 k (by omega) hs
    · intro h
      refine ⟨fun k hk=>h k (by omega),?_⟩
      rw [if_neg (fun e=>h i (by omega) (eq_ink.1 e))]
theorem z4c {I J:Nat→Int} (h:q3j I J):q3j J I:=by unfold q3j at *;omega
theorem z1i (S:List Ow) (b:Nat):(q1k S b).length≤b:=by
  unfold q1k
  split
  · exact Nat.le_trans (List.length_filter_le _ _) (List.length_take_le _ _)
  · exact Nat.zero_le _
theorem q99 {S:List Ow} {b:Nat} {q:Ow} (hq:S[b]? = some q):q50 S (b+1)=q1k S b++[q]:=by simp [q50,hq]
theorem x2r (S:List Ow) (b:Nat):(q50 S b).length≤b:=by
  cases b with
  | zero=>simp [q50]
  | succ b =>
    have:=z1i S b
    cases hq:S[b]? with
    | none=>simp [q50,hq]
    | some q=>rw [q99 hq];simp only [List.length_append,List.length_cons,List.length_nil];omega
theorem z58 {S:List Ow} {b:Nat} {q:Ow} (hq:S[b]? = some q):rowS S (b+1)=q.r.y:=by simp [rowS,hq]
theorem z59 {n:Nat} {S:List Ow} {b:Nat} {q:Ow} (hq:S[b]? = some q):tAll n S (b+1)=marks (tAll n S b) q.p (q1k S b):=by simp [tAll,hq]
theorem z0d {l:List Ow} {xs:List Value} {m o j:Nat} (hx:xs.take (m*4)=l.flatMap encO) {x:Ow} (h:l[j]? = some x) (ho:o=j*4) {K:List Value→Prop} (k:K [.int .i64 x.r.y,.int .i64 x.r.x0,.int .i64 x.r.x1,.int .i64 x.p]):OwnCells xs o 4 K :=
  q3f _ rfl (fun i v hj=>by
    have hj4:i<4:=(List.getElem?_eq_some_iff.1 hj).1
    have h1:=z8c h i hj4
    rw [← hx,List.getElem?_take] at h1
    subst ho
    split at h1
    · rw [h1];exact hj
    · have:(encO x)[i]? = some v:=hj
      rw [← h1] at this;cases this) k
theorem z6a (T:List Bool) (o:Nat) (ho:o<T.length):(T.map Value.bool).take o++[Value.bool true]++(T.map Value.bool).drop (o+1)=(T.set o true).map Value.bool:=by
  rw [List.map_set,List.set_eq_take_append_cons_drop,if_pos (by simpa using ho)]
  simp
theorem x2s (n:Nat):(List.replicate n [Value.bool false]).flatten=(List.replicate n false).map Value.bool:=by
  induction n with
  | zero=>rfl
  | succ n ih=>rw [List.replicate_succ,List.flatten_cons,ih,List.replicate_succ];rfl
theorem z6b {S:List Ow} {b:Nat} {x:Ow} (h:x∈q1k S b):x∈S:=by
  unfold q1k at h
  split at h
  · exact List.mem_of_mem_take (List.mem_filter.1 h).1
  · cases h
theorem q70 {L:List Run} (h:L.length≠0) {G:Mem} {A:Option Addr} (hR:RunsM G A L):∃ a:Addr,A=some a∧∀ K:List Value→Prop,K [.int .i64 (q1g L).y,.int .i64 (q1g L).x0,.int .i64 (q1g L).x1]→OldCells G (a.add (0*3)) 3 K:=by
  have h0:L[0]? = some (q1g L):=by
    unfold q1g nthR
    rw [List.getElem?_eq_getElem (show 0<L.length by omega)];rfl
  exact hR.cells h0
end Go.Proofs.Ytbkhpddodmbdoaa
