/-
  Merged: XShift, XArgL, XGivesV, XShiftL.
-/
import Derived.Test.YticolnghiibgfaaGreatMrg25
import Derived.Test.YticolnghiibgfaaGreatMrg18
import Derived.Test.YticolnghiibgfaaGreatMrg32
import Derived.Test.YticolnghiibgfaaGreatMrg33
set_option linter.unusedVariables false
set_option linter.unusedSimpArgs false
set_option linter.unnecessarySimpa false
namespace Go.Proofs.YticolnghiibgfaaGreat
open Go.RowKit
set_option maxRecDepth 20000
def shR (dx dy:Int) (r:Run):Run:=⟨r.y+dy,max (r.x0+dx) (-8192),min (r.x1+dx) 8192⟩
def inS (r:Run):Bool:=decide ((-8192≤r.y∧r.y≤8191)∧r.x0<r.x1)
def shL (dx dy:Int) (L:List Run):List Run:=(L.map (shR dx dy)).filter inS
theorem x1d {dx dy:Int} {L:List Run} {i:Nat} {r:Run} (h:L[i]? = some r):shL dx dy (L.take (i+1))=shL dx dy (L.take i)++(if inS (shR dx dy r)=true then [shR dx dy r] else []):=by
  unfold shL
  rw [List.take_add_one,h]
  simp only [Option.toList_some,List.map_append,List.map_cons,List.map_nil,List.filter_append]
  congr 1
  cases hi:inS (shR dx dy r) <;> simp [hi]
theorem z1w (dx dy:Int) (L:List Run):(shL dx dy L).length≤L.length:=by
  unfold shL
  exact Nat.le_trans (List.length_filter_le _ _) (by simp)
theorem x4v {dx dy:Int} {L:List Run} (v:ValidL L) {i:Nat} {r:Run} (h:L[i]? = some r):∀ q∈shL dx dy (L.take i),q.y<r.y+dy∨(q.y=r.y+dy∧q.x1<max (r.x0+dx) (-8192)):=fun q hq=>by
  unfold shL at hq
  obtain ⟨h1,_⟩:=List.mem_filter.1 hq
  obtain ⟨s,hs,rfl⟩:=List.mem_map.1 h1
  obtain ⟨j,hj⟩:=List.mem_iff_getElem?.1 hs
  rw [List.getElem?_take] at hj
  split at hj
  · rename_i hji
    have:=z0v v.ok hji hj h
    simp only [shR]
    omega
  · cases hj
section
variable {A:Option Addr} {L:List Run} {c:Nat} {G:Mem} {dx dy:Int}
set_option maxHeartbeats 2000000 in
theorem z8x (hR:RunsM G A L) (hc:L.length≤c) (hm:c≤maxLen) (v:ValidL L) (hx:-16384≤dx∧dx≤16384) (hy:-16384≤dy∧dy≤16384) :
    q4f Tryz.prog 25 [.val (.slice A L.length c),.val (.int .i64 dx),.val (.int .i64 dy)] G id 87 3 (shL dx dy L).length (q1u (shL dx dy L)):=by
  unfold maxLen at hm
  have hll:=v.length
  refine q3q tab_ok Tryz.func25 (.alone fun _=>rfl) ?_
  (repeat ((try (conv=>whnf));(refine stQ ?_)))
  conv=>whnf
  refine q02 tab_ok (fun i=>i≤L.length) (fun (i:Nat)=>[(14,.val (.int .i64 i)),(7,.own 0)]) (fun i=>[.own 87 3 (shL dx dy (L.take i)).length (q1u (shL dx dy (L.take i)))]) (fun i=>L.length-i) 0 (Nat.zero_le _) ?_ ?_
  · refine z5i 87 3 ?_
    conv=>whnf
    ((refine q0h ?_);(conv=>whnf);(refine q0j (by rfl) (by rfl) flQ ?_))
    exact q0i rfl rfl q0e
  · rintro i hi
    rcases Nat.lt_or_ge i L.length with h1 |h1
    · obtain ⟨r,hr⟩:∃ r,L[i]? = some r:=⟨L[i],List.getElem?_eq_getElem h1⟩
      obtain ⟨p,rfl,q0,q1,q2⟩:=hR.at_ hr
      have hb:=v.bd (List.mem_of_getElem? hr)
      have htk:=x1d (dx:=dx) (dy:=dy) hr
      have hsl:=z1w dx dy (L.take i)
      rw [List.length_take] at hsl
      have hins:inS (shR dx dy r)=decide ((-8192≤r.y+dy∧r.y+dy≤8191)∧max (r.x0+dx) (-8192)<min (r.x1+dx) 8192):=rfl
      have hne:shR dx dy r=⟨r.y+dy,max (r.x0+dx) (-8192),min (r.x1+dx) 8192⟩:=rfl
      have fin:((-8192≤r.y+dy∧r.y+dy≤8191)∧max (r.x0+dx) (-8192)<min (r.x1+dx) 8192)→shL dx dy (L.take (i+1))=shL dx dy (L.take i)++[⟨r.y+dy,max (r.x0+dx) (-8192),min (r.x1+dx) 8192⟩]:=fun h=>by
        rw [htk,hins,if_pos (by simpa using h),hne]
      have non:¬ ((-8192≤r.y+dy∧r.y+dy≤8191)∧max (r.x0+dx) (-8192)<min (r.x1+dx) 8192)→shL dx dy (L.take (i+1))=shL dx dy (L.take i):=fun h=>by
        rw [htk,hins,if_neg (by simpa using h),List.append_nil]
      clear htk hins hne
      by_cases e0:r.x0+dx < -8192 <;> by_cases e1:8192<r.x1+dx <;> by_cases e2:r.y+dy < -8192 <;> by_cases e3:8191<r.y+dy <;> by_cases e4:max (r.x0+dx) (-8192)<min (r.x1+dx) 8192
      all_goals first |omega |skip
      all_goals
        (repeat ((try (conv=>whnf));(first |(refine q0d _ q0 ?_) |(refine q0d _ q1 ?_) |(refine q0d _ q2 ?_) |(refine stQ ?_) |(with_reducible refine q0f tab_ok Tryz.func12 (fun vs w=>by kernel_rfl) (by rfl) ?_))))
        conv=>whnf
        refine ⟨i+1,by omega,by omega,?_⟩
        first
        | (rw [non (by omega)]
           ((refine q0h ?_);(conv=>whnf);(refine q0j (by rfl) (by rfl) flQ ?_))
           exact q0i rfl rfl q0e)
        | (refine q8s 2 0 rfl rfl rfl rfl ?_
           conv=>whnf
           ((refine q0h ?_);(conv=>whnf);(refine q0j (by rfl) (by rfl) flQ ?_))
           have fin':=fin (by omega)
           first |rw [show max (r.x0+dx) (-8192)=r.x0+dx by omega] at fin' |rw [show max (r.x0+dx) (-8192)=-8192 by omega] at fin'
           first |rw [show min (r.x1+dx) 8192=r.x1+dx by omega] at fin' |rw [show min (r.x1+dx) 8192=8192 by omega] at fin'
           exact q0i (by rw [fin'];simp) (by rw [fin',q3v];rfl) q0e)
    · obtain rfl:i=L.length:=by omega
      (repeat ((try (conv=>whnf));(refine stQ ?_)))
      exact .inl ⟨0,rfl,by rw [List.take_length];rfl⟩
set_option maxHeartbeats 4000000 in
theorem x17 (hR:RunsM G A L) (hc:L.length≤c) (hm:c≤maxLen) (he:errL L=0) (hx:-16384≤dx∧dx≤16384) (hy:-16384≤dy∧dy≤16384) :
    q4f Tryz.prog 44 [.val (.slice A L.length c),.val (.int .i64 dx),.val (.int .i64 dy)] G (x9p 0) 87 3 (shL dx dy L).length (q1u (shL dx dy L)):=by
  have v:=x27 he
  have hC:=Check_gives hR hc hm
  rw [he] at hC
  unfold maxLen at hm
  have hll:=v.length
  refine q3q tab_ok Tryz.func44 (z37 0) ?_
  (repeat ((try (conv=>whnf));(first |(refine stQ ?_) |(with_reducible first |refine q0b (fun vs w=>by kernel_rfl) (by kernel_rfl) (hC) ?_ |refine q0a (fun vs w=>by kernel_rfl) (by kernel_rfl) (hC) ?_))))
  conv=>whnf
  refine q02 tab_ok (fun i=>i≤L.length) (fun (i:Nat)=>[(33,.val (.int .i64 i))]) (fun i=>[.cells 125 [.own 1],.own 87 3 (shL dx dy (L.take i)).length (q1u (shL dx dy (L.take i)))]) (fun i=>L.length-i) 0 (Nat.zero_le _) ?_ ?_
  · refine z5i 87 3 ?_
    conv=>whnf
    ((refine q0h ?_);(conv=>whnf);(refine q0j (by rfl) (by rfl) flQ ?_))
    exact q0c (by exact flQ) (q0i rfl rfl q0e)
  · rintro i hi
    rcases Nat.lt_or_ge i L.length with h1 |h1
    · obtain ⟨r,hr⟩:∃ r,L[i]? = some r:=⟨L[i],List.getElem?_eq_getElem h1⟩
      obtain ⟨p,rfl,ca⟩:=hR.cells hr
      have hb:=v.bd (List.mem_of_getElem? hr)
      have htk:=x1d (dx:=dx) (dy:=dy) hr
      have hsl:=z1w dx dy (L.take i)
      have hbef:=x4v (dx:=dx) (dy:=dy) v hr
      rw [List.length_take] at hsl
      have hins:inS (shR dx dy r)=decide ((-8192≤r.y+dy∧r.y+dy≤8191)∧max (r.x0+dx) (-8192)<min (r.x1+dx) 8192):=rfl
      have hne:shR dx dy r=⟨r.y+dy,max (r.x0+dx) (-8192),min (r.x1+dx) 8192⟩:=rfl
      have fin:((-8192≤r.y+dy∧r.y+dy≤8191)∧max (r.x0+dx) (-8192)<min (r.x1+dx) 8192)→shL dx dy (L.take (i+1))=shL dx dy (L.take i)++[⟨r.y+dy,max (r.x0+dx) (-8192),min (r.x1+dx) 8192⟩]:=fun h=>by
        rw [htk,hins,if_pos (by simpa using h),hne]
      have non:¬ ((-8192≤r.y+dy∧r.y+dy≤8191)∧max (r.x0+dx) (-8192)<min (r.x1+dx) 8192)→shL dx dy (L.take (i+1))=shL dx dy (L.take i):=fun h=>by
        rw [htk,hins,if_neg (by simpa using h),List.append_nil]
      clear htk hins hne
      by_cases e2:r.y+dy < -8192
      · (repeat ((try (conv=>whnf));(first |(refine ca _ ?_) |(refine stQ ?_) |(with_reducible refine q0f tab_ok Tryz.func69 (fun vs w=>by kernel_rfl) (by rfl) ?_))))
        refine ⟨i+1,by omega,by omega,?_⟩
        rw [non (by omega)]
        ((refine q0h ?_);(conv=>whnf);(refine q0j (by rfl) (by rfl) flQ ?_))
        exact q0c (by exact flQ) (q0i rfl rfl q0e)
      by_cases e3:8191<r.y+dy
      · (repeat ((try (conv=>whnf));(first |(refine ca _ ?_) |(refine stQ ?_) |(with_reducible refine q0f tab_ok Tryz.func69 (fun vs w=>by kernel_rfl) (by rfl) ?_))))
        refine ⟨i+1,by omega,by omega,?_⟩
        rw [non (by omega)]
        ((refine q0h ?_);(conv=>whnf);(refine q0j (by rfl) (by rfl) flQ ?_))
        exact q0c (by exact flQ) (q0i rfl rfl q0e)
      by_cases e4:min (r.x1+dx) 8192≤max (r.x0+dx) (-8192)
      · (repeat ((try (conv=>whnf));(first |(refine ca _ ?_) |(refine stQ ?_) |(with_reducible first |refine q0f tab_ok Tryz.func69 (fun vs w=>by kernel_rfl) (by rfl) ?_ |refine q0f tab_ok Tryz.func70 (fun vs w=>by kernel_rfl) (by rfl) ?_))))
        refine ⟨i+1,by omega,by omega,?_⟩
        rw [non (by omega)]
        ((refine q0h ?_);(conv=>whnf);(refine q0j (by rfl) (by rfl) flQ ?_))
        exact q0c (by exact flQ) (q0i rfl rfl q0e)
      · rcases x2z (shL dx dy (L.take i)) with hout |⟨K,q,hout⟩
        · have hlen:(shL dx dy (L.take i)).length=0:=by rw [hout];rfl
          (repeat ((try (conv=>whnf));(first |(refine ca _ ?_) |(refine stQ ?_) |(with_reducible first |refine q0f tab_ok Tryz.func69 (fun vs w=>by kernel_rfl) (by rfl) ?_ |refine q0f tab_ok Tryz.func70 (fun vs w=>by kernel_rfl) (by rfl) ?_))))
          conv=>whnf
          refine ⟨i+1,by omega,by omega,?_⟩
          refine q8s 4 1 rfl rfl rfl rfl ?_
          conv=>whnf
          ((refine q0h ?_);(conv=>whnf);(refine q0j (by rfl) (by rfl) flQ ?_))
          exact q0c (by exact flQ) (q0i (by rw [fin (by omega)];simp) (by rw [fin (by omega),q3v];rfl) q0e)
        · have hlen:(shL dx dy (L.take i)).length=K.length+1:=by rw [hout];simp
          have hix:((((shL dx dy (L.take i)).length:Nat):Int)-1).toNat=K.length:=by omega
          obtain ⟨q0,q1,q2⟩:=x6t K q
          rw [← hout,← hix] at q0 q1 q2
          rw [← Nat.add_zero (((((shL dx dy (L.take i)).length:Nat):Int)-1).toNat * 3)] at q0
          have hq:=hbef q (by rw [hout];simp)
          by_cases hy':q.y=r.y+dy
          · (repeat ((try (conv=>whnf));(first |(refine ca _ ?_) |(refine q0r (.int .i64 q.y) q0 ?_) |(refine q0r (.int .i64 q.x1) q2 ?_) |(refine stQ ?_) |(with_reducible first |refine q0f tab_ok Tryz.func69 (fun vs w=>by kernel_rfl) (by rfl) ?_ |refine q0f tab_ok Tryz.func70 (fun vs w=>by kernel_rfl) (by rfl) ?_))))
            conv=>whnf
            refine ⟨i+1,by omega,by omega,?_⟩
            refine q8s 4 1 rfl rfl rfl rfl ?_
            conv=>whnf
            ((refine q0h ?_);(conv=>whnf);(refine q0j (by rfl) (by rfl) flQ ?_))
            exact q0c (by exact flQ) (q0i (by rw [fin (by omega)];simp) (by rw [fin (by omega),q3v];rfl) q0e)
          · (repeat ((try (conv=>whnf));(first |(refine ca _ ?_) |(refine q0r (.int .i64 q.y) q0 ?_) |(refine q0r (.int .i64 q.x1) q2 ?_) |(refine stQ ?_) |(with_reducible first |refine q0f tab_ok Tryz.func69 (fun vs w=>by kernel_rfl) (by rfl) ?_ |refine q0f tab_ok Tryz.func70 (fun vs w=>by kernel_rfl) (by rfl) ?_))))
            conv=>whnf
            refine ⟨i+1,by omega,by omega,?_⟩
            refine q8s 4 1 rfl rfl rfl rfl ?_
            conv=>whnf
            ((refine q0h ?_);(conv=>whnf);(refine q0j (by rfl) (by rfl) flQ ?_))
            exact q0c (by exact flQ) (q0i (by rw [fin (by omega)];simp) (by rw [fin (by omega),q3v];rfl) q0e)
    · obtain rfl:i=L.length:=by omega
      (repeat ((try (conv=>whnf));(refine stQ ?_)))
      exact .inl ⟨1,rfl,by rw [List.take_length];rfl⟩
end
end Go.Proofs.YticolnghiibgfaaGreat
namespace Go.Proofs.YticolnghiibgfaaGreat
open Go.RowKit
theorem z6c {P:Program} {f:FuncId} (hen:∀ vs w,(callFunc f vs).run P w=.ok (.enter f vs) w) {k:Nat} {pre:List Value} {hp:List Blk} {G:Mem} {K:AV→List Blk→Mem→Prop} {E:TypeId} {sz n:Nat} {xs:List Value} {l:List AV} (hl:l=pre.map .val++[.own k]) (hk:nthB hp k=.own E sz n xs)
    (h:∀ A cap G',G.le G'→n≤cap→cap≤maxLen→FlatM G' A xs→z2u k (.slice A n cap) hp fun hp1=>setF hp1 k .gone fun hp2=>CallP P f [.agg ((pre++[Value.slice A n cap]).map .val)] hp2 G' K):CallP P f [.agg l] hp G K:=by
  subst hl
  refine ⟨hen,fun w0 G0 β w vs hr ha=>?_⟩
  simp only [AV.rels,AV.rel] at ha
  obtain ⟨v1,ts1,hvs,⟨cs,rfl,hcs⟩,rfl⟩:=ha
  obtain ⟨zs,z,h1,h2,h3⟩:=q53 hcs
  simp only [AV.rel] at h3
  have hv:=h3.1
  obtain ⟨A,cap,G',rfl,hle,hnc,hcm,hF,hr'⟩:=hr.freeze hv hk
  have h0:=h A cap G' hle hnc hcm hF
  rw [q9x,q1c] at h0
  have hr2:=hr'.plug hv
  have e:(hp.set k .gone).map (Blk.plug k (.slice A n cap))=(hp.map (Blk.plug k (.slice A n cap))).set k .gone:=by
    rw [List.map_set];rfl
  rw [e] at hr2
  refine h0.calls w0 G0 β w vs hr2 ?_
  simp only [AV.rels,AV.rel]
  refine ⟨_,[],hvs,⟨cs,rfl,?_⟩,rfl⟩
  have hz:=q06 h2
  rw [h1,hz]
  exact AV.rels_vals (pre++[Value.slice A n cap])
end Go.Proofs.YticolnghiibgfaaGreat
namespace Go.Proofs.YticolnghiibgfaaGreat
open Go.RowKit
def x1e (P:Program) (f:FuncId) (args:List AV) (G:Mem) (R:AV→Mem→Prop):Prop :=
  ∀ (w:World) (vs:Array Value),G.holds w→AV.rels noName args vs.toList→Calls P f vs w fun e w'=>∃ y v G',e=.returned y∧v.rel noName y∧Below w.heap.size w w' ∧
    G.le G'∧G'.holds w'∧(∀ b o,G' b=some o→G b=some o∨w.heap.size≤b)∧v.under 0=true∧R v G'
theorem x69 {P:Program} {T:Tab} (hT:TOk P T) {f:FuncId} {fn:Func} (hfn:P.funcs[f]? = some fn) {args:List AV} {G:Mem} {R:AV→Mem→Prop} (hn:q6e fn=true)
    (h:q4d P T 0 fn args [] G fun v hp' G1=>v.under 0=true∧R v G1):x1e P f args G R:=by
  intro w vs hG ha
  refine (q5u hT hfn (hp:=[]) h (.inl hn) w G _ w vs (HR.init hG) ha).mono ?_
  rintro e w' ⟨y,β',v',hp',G',h1,_,h2,h3,hb,hR⟩
  exact ⟨y,v',G',h1,q6z hb h3,h2.below,h2.sub,h2.hold,h2.grow,hb,hR⟩
theorem x1f {P:Program} {f:FuncId} (hen:∀ vs w,(callFunc f vs).run P w=.ok (.enter f vs) w) {args:List AV} {hp:List Blk} {G:Mem} {K:AV→List Blk→Mem→Prop} {R:AV→Mem→Prop} (hu:AV.unders 0 args=true)
    (hc:x1e P f args G R) (h:∀ v G',G.le G'→v.under 0=true→R v G'→K v hp G'):CallP P f args hp G K:=by
  refine ⟨hen,fun w0 G0 β w vs hr ha=>(hc w vs hr.hold (q2z hu ha)).mono ?_⟩
  rintro e w' ⟨y,v,G',rfl,h2,h3,hle,hh,hg,hb,hR⟩
  have hr':=hr.step h3
  have hno:∀ b,G b=none→b<w.heap.size→G' b=none:=fun b hb hl=>by
    cases e:G' b with
    | none=>rfl
    | some o =>
      rcases hg b o e with h6 |h6
      · rw [hb] at h6;cases h6
      · omega
  refine ⟨y,β,v,hp,G',rfl,Nm.le_refl _,⟨hr'.below,hh,Mem.le_trans hr.sub hle,fun b o ho=>?_,fun k z hk=>?_,hr'.inj,hr'.wrt⟩,AV.rel_mono (q33 β) _ _ h2,h v G' hle hb hR⟩
  · rcases hg b o ho with h6 |h6
    · exact hr.grow b o h6
    · exact .inr (Nat.le_trans hr.below.size h6)
  · obtain ⟨x,hx1,hx2⟩:=hr.blk k z hk
    obtain ⟨x',hx1',hx2'⟩:=hr'.blk k z hk
    rw [hx1] at hx1';cases hx1'
    refine ⟨x,hx1,?_⟩
    have hlt:∀ b,x.live=true→q0g z=some b→b<w.heap.size:=fun b hl hb=>(hr.lt hk hx1 hl hb).2.1
    cases x with
    | gone=>trivial
    | muts S=>exact hx2'.elim
    | cells t l =>
      obtain ⟨b,c,q1,q2,q3,q4,q5⟩:=hx2'
      exact ⟨b,c,q1,q2,hno b q3 (hlt b rfl (by rw [q1];rfl)),q4,q5⟩
    | own e' sz' n' xs' =>
      exact ⟨hx2'.1,fun b hb=>hno b (hx2'.2 b hb) (hlt b rfl hb)⟩
    | lp i fr st p =>
      obtain ⟨q1,q2,q3,q4⟩:=hx2'
      exact ⟨q1,q2,hno i.l q3 (hlt i.l rfl (by rw [q1];rfl)),q4⟩
    | mp f ks vs =>
      obtain ⟨b,ys,q1,q2,q3,q4⟩:=hx2'
      exact ⟨b,ys,q1,q2,hno b q3 (hlt b rfl (by rw [q1];rfl)),q4⟩
end Go.Proofs.YticolnghiibgfaaGreat
namespace Go.Proofs.YticolnghiibgfaaGreat
open Go.RowKit Go.Deep
set_option maxRecDepth 20000
abbrev w64 (x:Int):Int:=IntKind.i64.wrap x
def mvI (dx dy:Int) (i:ItemD):ItemD:=⟨i.K,i.RA,i.rn,i.rq,i.k,i.I,if i.k=1∨i.k=2 then w64 (i.fx+dx) else i.fx,if i.k=1∨i.k=2 then w64 (i.fy+dy) else i.fy,if i.k=1 then w64 (i.tx+dx) else i.tx,if i.k=1 then w64 (i.ty+dy) else i.ty,i.r,i.A,i.n,i.q,i.W,i.H,i.B,i.pn,i.pq,i.C,i.sn,i.sq,i.a,i.b,i.c,i.d,if i.k=3 then w64 (i.e+4096*dx) else i.e,if i.k=3 then w64 (i.f+4096*dy) else i.f,i.s,i.t,i.al,i.bl,i.ov,i.iso,i.kn⟩
section
variable {G:Mem} {W H er dx dy:Int} {SA IA RB:Option Addr} {m sq n iq rd:Nat} {S:Nat→Nat→Value} {I:Nat→ItemD} {gr gs gp gf:Nat→Nat→Nat→Value} {L:List Run}
theorem x4w (hC:Gives Tryz.prog 33 [q2i W H SA m sq IA n iq] G (.val (.int .i64 er))) (he:er≠0) :
    Gives Tryz.prog 24 [q2i W H SA m sq IA n iq,.val (.int .i64 dx),.val (.int .i64 dy)] G (.tup [z0y,.val (.int .i64 er)]):=by
  refine q0w tab_ok Tryz.func24 ?_
  (repeat ((try (conv=>whnf));(first |(refine stQ ?_) |(with_reducible first |refine q0b (fun vs w=>by kernel_rfl) (by kernel_rfl) (hC) ?_ |refine q0a (fun vs w=>by kernel_rfl) (by kernel_rfl) (hC) ?_))))
  exact ⟨rfl,rfl⟩
theorem x4x (hC:Gives Tryz.prog 33 [q2i W H SA m sq IA n iq] G (.val (.int .i64 0))) (ho:¬ ((-8192≤dx∧dx≤8192)∧-8192≤dy∧dy≤8192)) :
    Gives Tryz.prog 24 [q2i W H SA m sq IA n iq,.val (.int .i64 dx),.val (.int .i64 dy)] G (.tup [z0y,.val (.int .i64 3)]):=by
  refine q0w tab_ok Tryz.func24 ?_
  by_cases h1:dx < -8192
  · (repeat ((try (conv=>whnf));(first |(refine stQ ?_) |(with_reducible first |refine q0b (fun vs w=>by kernel_rfl) (by kernel_rfl) (hC) ?_ |refine q0a (fun vs w=>by kernel_rfl) (by kernel_rfl) (hC) ?_))))
    exact ⟨rfl,rfl⟩
  by_cases h2:8192<dx
  · (repeat ((try (conv=>whnf));(first |(refine stQ ?_) |(with_reducible first |refine q0b (fun vs w=>by kernel_rfl) (by kernel_rfl) (hC) ?_ |refine q0a (fun vs w=>by kernel_rfl) (by kernel_rfl) (hC) ?_))))
    exact ⟨rfl,rfl⟩
  by_cases h3:dy < -8192
  · (repeat ((try (conv=>whnf));(first |(refine stQ ?_) |(with_reducible first |refine q0b (fun vs w=>by kernel_rfl) (by kernel_rfl) (hC) ?_ |refine q0a (fun vs w=>by kernel_rfl) (by kernel_rfl) (hC) ?_))))
    exact ⟨rfl,rfl⟩
  have h4:8192<dy:=by omega
  (repeat ((try (conv=>whnf));(first |(refine stQ ?_) |(with_reducible first |refine q0b (fun vs w=>by kernel_rfl) (by kernel_rfl) (hC) ?_ |refine q0a (fun vs w=>by kernel_rfl) (by kernel_rfl) (hC) ?_))))
  exact ⟨rfl,rfl⟩
structure ShInv (dx dy:Int) (I:Nat→ItemD) (R:Nat→List Run) (gr gs gp gf:Nat→Nat→Nat→Value) (n:Nat) (G:Mem) (t:CopyT):Prop where
  le:t.k≤n
  sub:G.le t.M
  old:∀ x,x<n→(t.k≤x∨(I x).K≠0)→(∃ RA rq A q B pq C sq,t.J x=setC (I x) RA rq A q B pq C sq)∧ItemG t.M (t.J x) (gr x) (gs x) (gp x) (gf x)
  new:∀ x,x<t.k→(I x).K=0→(∃ RA rq A q B pq C sq,t.J x=setR (setC (mvI dx dy (I x)) RA rq A q B pq C sq) RA (shL dx dy (R x)).length rq∧(shL dx dy (R x)).length≤rq∧rq≤maxLen∧RunsM t.M RA (shL dx dy (R x)))∧SrcG t.M (t.J x) (gs x) (gp x) (gf x)
abbrev setP (i:ItemD) (fx fy tx ty e f:Int):ItemD:=⟨i.K,i.RA,i.rn,i.rq,i.k,i.I,fx,fy,tx,ty,i.r,i.A,i.n,i.q,i.W,i.H,i.B,i.pn,i.pq,i.C,i.sn,i.sq,i.a,i.b,i.c,i.d,e,f,i.s,i.t,i.al,i.bl,i.ov,i.iso,i.kn⟩
theorem ShInv.step {R:Nat→List Run} {J J':Nat→ItemD} {M M1:Mem} {j rq':Nat} {RA':Option Addr} (h:ShInv dx dy I R gr gs gp gf n G ⟨j,J,M⟩) (hM1:M.le M1) (hj:j<n) (h0:(I j).K=0) (hne:∀ y,y≠j→J' y=J y)
    (hJ':∀ RA rq A q B pq C sq,J j=setC (I j) RA rq A q B pq C sq→J' j=setR (setC (mvI dx dy (I j)) RA rq A q B pq C sq) RA' (shL dx dy (R j)).length rq') (ha:(shL dx dy (R j)).length≤rq') (hb:rq'≤maxLen) (hF:FlatM M1 RA' (q1u (shL dx dy (R j)))) :
    ShInv dx dy I R gr gs gp gf n G ⟨j+1,J',M1⟩:=by
  obtain ⟨hk,hsub,hold,hnew⟩:=h
  dsimp only at hk hsub hold hnew
  refine ⟨by show j+1≤n;omega,Mem.le_trans hsub hM1,fun x hxk hor=>?_,fun x hxj hK=>?_⟩
  · have hxj:x≠j:=fun e=>by
      subst e
      rcases hor with h |h
      · have h:x+1≤x:=h
        omega
      · exact h h0
    dsimp only
    rw [hne x hxj]
    obtain ⟨q1,q2⟩:=hold x hxk (hor.imp (fun h=>by have h:j+1≤x:=h;show j≤x;omega) id)
    exact ⟨q1,q2.mono hM1⟩
  · have hxj:x<j+1:=hxj
    dsimp only
    by_cases e:x=j
    · subst e
      obtain ⟨⟨RA,rq,A,q,B,pq,C,sq2,hJj⟩,hi⟩:=hold x hj (.inl (Nat.le_refl _))
      rw [hJ' _ _ _ _ _ _ _ _ hJj]
      refine ⟨⟨RA',rq',A,q,B,pq,C,sq2,rfl,ha,hb,?_⟩,?_⟩
      · rcases hF with ⟨_,h⟩ |⟨b,off,rfl,h⟩
        · have hl0:(shL dx dy (R x)).length=0:=by
            have:=q3w (shL dx dy (R x));rw [h] at this;simp at this;omega
          rw [List.eq_nil_of_length_eq_zero hl0];exact RunsM.nil _ _
        · intro j r hr
          obtain ⟨h1,h2,h3⟩:=q6b hr
          exact ⟨b,off,rfl,h _ _ h1,by rw [Nat.add_assoc];exact h _ _ h2,by rw [Nat.add_assoc];exact h _ _ h3⟩
      · have:=hi.src.mono hM1
        rw [hJj] at this
        exact ⟨this.stop,this.pix,this.soft,this.ink⟩
    · rw [hne x e]
      obtain ⟨⟨RA2,rq2,A2,q2,B2,pq2,C2,sq3,z1,z2,z3,z4⟩,z5⟩:=hnew x (by omega) hK
      exact ⟨⟨RA2,rq2,A2,q2,B2,pq2,C2,sq3,z1,z2,z3,z4.mono hM1⟩,z5.mono hM1⟩
theorem ShInv.skip {R:Nat→List Run} {J:Nat→ItemD} {M:Mem} {j:Nat} (h:ShInv dx dy I R gr gs gp gf n G ⟨j,J,M⟩) (hj:j<n) (h0:(I j).K≠0):ShInv dx dy I R gr gs gp gf n G ⟨j+1,J,M⟩:=by
  obtain ⟨hk,hsub,hold,hnew⟩:=h
  dsimp only at hk hsub hold hnew
  refine ⟨by show j+1≤n;omega,hsub,fun x hxk hor=>hold x hxk (hor.imp (fun h=>by have h:j+1≤x:=h;show j≤x;omega) id),fun x hxj hK=>?_⟩
  have hxj:x<j+1:=hxj
  exact hnew x (by rcases Nat.eq_or_lt_of_le (Nat.le_of_lt_succ hxj) with e |e;(subst e;exact absurd hK h0);exact e) hK
theorem z28 {J J':Nat→ItemD} {n x o:Nat} {v u:Value} (hx:x<n) (ho:o+1<34) (h1:∀ y,y≠x→J' y=J y) (h2:((J x).cells.take o++[v]++(J x).cells.drop (o+1)).take (o+1)++[u]++((J x).cells.take o++[v]++(J x).cells.drop (o+1)).drop (o+1+1)=(J' x).cells) :
    ((q0o (fun y=>(J y).cells) n).take (x*34+o)++[v]++(q0o (fun y=>(J y).cells) n).drop (x*34+o+1)).take (x*34+o+1)++[u]++((q0o (fun y=>(J y).cells) n).take (x*34+o)++[v]++(q0o (fun y=>(J y).cells) n).drop (x*34+o+1)).drop (x*34+o+1+1)=q0o (fun y=>(J' y).cells) n:=by
  have e1:=z4x (c:=fun y=>(J y).cells) (sz:=34) (n:=n) (x:=x) (o:=o) (vs:=[v]) (fun _ _=>rfl) hx (by simp;omega)
  simp only [List.length_cons,List.length_nil,Nat.zero_add] at e1
  rw [e1]
  have e2:=z4x (c:=fun y=>if y=x then (J x).cells.take o++[v]++(J x).cells.drop (o+1) else (J y).cells) (sz:=34) (n:=n) (x:=x) (o:=o+1) (vs:=[u]) (fun y hy=>by
    split
    · simp [List.length_take,List.length_drop];omega
    · rfl) hx (by simp;omega)
  simp only [List.length_cons,List.length_nil,Nat.zero_add,if_true] at e2
  rw [← Nat.add_assoc (x*34) o 1] at e2
  rw [e2]
  refine q42 fun y hy=>?_
  split
  · rename_i e;subst e;exact h2
  · rename_i e;rw [h1 y e]
theorem q32 {J:Nat→ItemD} {n x o:Nat} {v:Value} (hx:x<n) (ho:o<34) (h:(J x).cells[o]? = some v):(q0o (fun y=>(J y).cells) n)[x*34+o]? = some v:=by
  rw [q39 (c:=fun x=>(J x).cells) (sz:=34) (fun _ _=>rfl) hx ho];exact h
theorem z7d {t0 t3 t5:TypeId} {l0 l3 l5:List AV} {n off:Nat} {a b:Int} {xs ys:List Value} {K:AV→List Blk→Mem→Prop} (hx:xs[off]? = some (.int .i64 a)) (hy:xs[off+1]? = some (.int .i64 b))
    (he:(xs.take off++[Value.int .i64 (w64 (a+dx))]++xs.drop (off+1)).take (off+1)++[Value.int .i64 (w64 (b+dy))]++(xs.take off++[Value.int .i64 (w64 (a+dx))]++xs.drop (off+1)).drop (off+1+1)=ys)
    (h:K (.tup []) [.cells t0 l0,.cells 3 [.val (.int .i64 dx)],.cells 3 [.val (.int .i64 dy)],.cells t3 l3,.own 56 34 n ys,.cells t5 l5,.gone] G) :
    CallP Tryz.prog 43 [.ptr 4 off,.ptr 1 0,.ptr 2 0] [.cells t0 l0,.cells 3 [.val (.int .i64 dx)],.cells 3 [.val (.int .i64 dy)],.cells t3 l3,.own 56 34 n xs,.cells t5 l5,.gone] G K:=by
  have hlen:off+1<xs.length:=(List.getElem?_eq_some_iff.1 hy).1
  (with_reducible refine q0f tab_ok Tryz.func43 (fun vs w=>by kernel_rfl) (by rfl) ?_)
  (repeat ((try (conv=>whnf));(first |(with_reducible refine z7x tab_ok (by kernel_rfl) 17 [4] [(5,4),(11,4)] (by decide +kernel) ?_) |(refine q0r _ hx ?_) |(refine q0r _ hy ?_) |(refine stQ ?_) |(refine q0y (k:=.i64) _ rfl ?_))))
  conv=>whnf
  refine mustP.mk (by simp;omega) ?_
  (repeat ((try (conv=>whnf));(refine stQ ?_)))
  conv=>whnf
  refine mustP.mk (by simp [List.length_take,List.length_drop];omega) ?_
  (repeat ((try (conv=>whnf));(refine stQ ?_)))
  conv=>whnf
  subst he
  exact h
set_option maxHeartbeats 16000000 in
theorem x18 {R:Nat→List Run} {K:AV→List Blk→Mem→Prop} (hC:Gives Tryz.prog 33 [q2i W H SA m sq IA n iq] G (.val (.int .i64 0))) (hdx:-8192≤dx∧dx≤8192) (hdy:-8192≤dy∧dy≤8192)
    (hS:SliceM Tryz.prog G 9 SA m S) (hI:ItemsM G IA n I) (hIA:0<n→∀ p,IA=some p→∃ b off,p=⟨b,off,none⟩) (hm:m≤1000000) (hn:n≤1000000) (hG:∀ x,x<n→ItemG G (I x) (gr x) (gs x) (gp x) (gf x)) (hB:∀ x,x<n→(I x).rn≤1000000000∧(I x).n≤1000000000∧(I x).pn≤1000000000∧(I x).sn≤1000000000)
    (hr:∀ x,x<n→(I x).K=0→R x=q2m (fun j=>⟨valI (gr x j 0),valI (gr x j 1),valI (gr x j 2)⟩) (I x).rn∧ValidL (R x))
    (hK:∀ (SA':Option Addr) (sq':Nat) (J:Nat→ItemD) (A:Option Addr) (cap:Nat) (G':Mem),G.le G'→m≤sq'→sq'≤maxLen→SliceM Tryz.prog G' 9 SA' m S→ItemsM G' A n J→n≤cap→cap≤maxLen→ShInv dx dy I R gr gs gp gf n G ⟨n,J,G'⟩ →
      ∃ p:Int,Gives Tryz.prog 33 [q2i W H SA' m sq' A n cap] G' (.val (.int .i64 p))∧(p≠0→∀ hp,K (.tup [z0y,.val (.int .i64 10)]) hp G')∧(p=0→∀ hp,K (.tup [q2i W H SA' m sq' A n cap,.val (.int .i64 0)]) hp G')) :
    q4d Tryz.prog tab 0 Tryz.f24 [q2i W H SA m sq IA n iq,.val (.int .i64 dx),.val (.int .i64 dy)] [] G K:=by
  have hcp:=x1c (W:=W) (H:=H) (sq:=sq) (iq:=iq) hS hI hIA hm hn hG hB
  (repeat ((try (conv=>whnf));(first |(refine stQ ?_) |(with_reducible first |refine q0b (fun vs w=>by kernel_rfl) (by kernel_rfl) (hC) ?_ |refine q0a (fun vs w=>by kernel_rfl) (by kernel_rfl) (hC) ?_))))
  conv=>whnf
  refine x1b (fun vs w=>by kernel_rfl) (by rfl) hcp ?_
  rintro wrap k xs G1 hG1 ⟨SA',sq',J0,rfl,rfl,rfl,hq1,hq2,hS1,hJ⟩
  (repeat ((try (conv=>whnf));(refine stQ ?_)))
  conv=>whnf
  refine q91 tab_ok (ι:=CopyT) (fun t=>ShInv dx dy I R gr gs gp gf k G t∧G1.le t.M) (fun t=>[(41,.val (.int .i64 t.k))]) (fun t=>[.cells 25 [.val (.int .i64 W),.val (.int .i64 H),.val (.slice SA m sq),.val (.slice IA k iq)],.cells 3 [.val (.int .i64 dx)],.cells 3 [.val (.int .i64 dy)],.cells 25 [.val (.int .i64 0),.val (.int .i64 0),.val (.slice none 0 0),.val (.slice none 0 0)],.own 56 34 k (q0o (fun x=>(t.J x).cells) k),.cells 25 [.val (.int .i64 W),.val (.int .i64 H),.val (.slice SA' m sq'),.own 4]]) (fun t=>t.M) (fun t=>k-t.k) ⟨0,J0,G1⟩ ?_ ?_ ?_
  · exact ⟨⟨Nat.zero_le _,hG1,fun x hx _=>hJ x hx,fun x hx=>absurd hx (Nat.not_lt_zero _)⟩,Mem.le_refl _⟩
  · dsimp only
    ((refine q0h ?_);(conv=>whnf);(refine q0j (by rfl) (by rfl) flQ ?_))
    exact q0c (by exact flQ) (q0c (by exact flQ) (q0c (by exact flQ) (q0c (by exact flQ) (q0i rfl rfl (q0c (by exact flQ) q0e)))))
  · rintro ⟨j,J,M⟩ ⟨hinv,hM⟩
    have hold:=hinv.old
    have hk:=hinv.le
    dsimp only at hk hold hM ⊢
    rcases Nat.lt_or_ge j k with h2 |h2
    · by_cases h0:(I j).K=0
      · obtain ⟨⟨RA,rq,A,q,B,pq,C,sq2,hJj⟩,hi⟩:=hold j h2 (.inl (Nat.le_refl _))
        obtain ⟨hRe,hRv⟩:=hr j h2 h0
        have hrn:(I j).rn=(R j).length:=by rw [hRe,q6s]
        have hrun:RunsM M (J j).RA (R j):=by
          rw [hRe]
          have:=z7c hi.run.2.2
          rw [show (J j).rn=(I j).rn by rw [hJj]] at this
          exact this
        have hl1:(R j).length≤(J j).rq:=by rw [← hrn];have:=hi.run.1;rw [show (J j).rn=(I j).rn by rw [hJj]] at this;exact this
        have hmk:=x17 hrun hl1 hi.run.2.1 (x68 hRv) (dx:=dx) (dy:=dy) (by omega) (by omega)
        rw [← hrn] at hmk
        have e0':(q0o (fun x=>(J x).cells) k)[j*34+0]? = some (.int .i64 0):=q32 h2 (by omega) (by rw [hJj,← h0];rfl)
        have e1':(q0o (fun x=>(J x).cells) k)[j*34+1]? = some (.slice (J j).RA (I j).rn (J j).rq):=q32 h2 (by omega) (by show some (Value.slice (J j).RA (J j).rn (J j).rq)=_;rw [show (J j).rn=(I j).rn by rw [hJj]])
        (repeat ((try (conv=>whnf));(first |(refine x5g tab_ok (by kernel_rfl) 13 [] [] 10 53 63 1 (by rfl) (by rfl) (by rfl) (by rfl) (by decide +kernel) ?_) |(refine q0r _ e0' ?_) |(refine q0r _ e1' ?_) |(refine stQ ?_))))
        conv=>whnf
        refine z2j (fun vs w=>by kernel_rfl) (z37 0) (by rfl) hmk ?_
        (repeat ((try (conv=>whnf));(refine stQ ?_)))
        conv=>whnf
        refine x0t tab_ok rfl rfl rfl fun RA' rq' M1 hM1 ha hb hF=>?_
        conv=>whnf
        have hx1:(setJ J j (setR (J j) RA' (shL dx dy (R j)).length rq')) j=setR (J j) RA' (shL dx dy (R j)).length rq':=q2x
        obtain ⟨p1,p2⟩:=q5z (J:=J) (J':=setJ J j (setR (J j) RA' (shL dx dy (R j)).length rq')) (n:=k) (x:=j) (o:=1) (v:=.slice RA' (shL dx dy (R j)).length rq') h2 (by omega) (fun y hy=>q1y hy) (by rw [hx1];rfl)
        refine q7e (o:=j*34+1) p1 p2 ?_
        have hn1:∀ y,y≠j→setJ J j (setR (J j) RA' (shL dx dy (R j)).length rq') y=J y:=fun y hy=>q1y hy
        clear p1 p2
        generalize setJ J j (setR (J j) RA' (shL dx dy (R j)).length rq')=J1 at *
        have e2:(q0o (fun x=>(J1 x).cells) k)[j*34+2]? = some (.int .i64 (I j).k):=q32 h2 (by omega) (by rw [hx1,hJj];rfl)
        by_cases k1:(I j).k=1
        · (repeat ((try (conv=>whnf));(first |(refine q0r (o:=j*34+2) _ e2 ?_) |(refine stQ ?_))))
          conv=>whnf
          have hx2:setJ J1 j (setP (J1 j) (I j).fx (I j).fy (w64 ((I j).tx+dx)) (w64 ((I j).ty+dy)) (I j).e (I j).f) j=setP (J1 j) (I j).fx (I j).fy (w64 ((I j).tx+dx)) (w64 ((I j).ty+dy)) (I j).e (I j).f:=q2x
          have hn2:∀ y,y≠j→setJ J1 j (setP (J1 j) (I j).fx (I j).fy (w64 ((I j).tx+dx)) (w64 ((I j).ty+dy)) (I j).e (I j).f) y=J y:=fun y hy=>by rw [q1y hy,hn1 y hy]
          have q:=z28 (J:=J1) (J':=setJ J1 j (setP (J1 j) (I j).fx (I j).fy (w64 ((I j).tx+dx)) (w64 ((I j).ty+dy)) (I j).e (I j).f)) (n:=k) (x:=j) (o:=13) (v:=.int .i64 (w64 ((I j).tx+dx))) (u:=.int .i64 (w64 ((I j).ty+dy))) h2 (by omega) (fun y hy=>q1y hy) (by rw [hx2];rw [hx1,hJj];rfl)
          have c1:(q0o (fun x=>(J1 x).cells) k)[j*34+13]? = some (.int .i64 (I j).tx):=q32 (x:=j) (o:=13) h2 (by omega) (by rw [hx1,hJj];rfl)
          have c2:(q0o (fun x=>(J1 x).cells) k)[j*34+13+1]? = some (.int .i64 (I j).ty):=q32 (x:=j) (o:=14) h2 (by omega) (by rw [hx1,hJj];rfl)
          refine z7d (off:=j*34+13) c1 c2 q ?_
          clear q c1 c2
          generalize setJ J1 j (setP (J1 j) (I j).fx (I j).fy (w64 ((I j).tx+dx)) (w64 ((I j).ty+dy)) (I j).e (I j).f)=J2 at *
          conv=>whnf
          (repeat ((try (conv=>whnf));(refine stQ ?_)))
          conv=>whnf
          have hx3:setJ J2 j (setP (J2 j) (w64 ((I j).fx+dx)) (w64 ((I j).fy+dy)) (w64 ((I j).tx+dx)) (w64 ((I j).ty+dy)) (I j).e (I j).f) j=setP (J2 j) (w64 ((I j).fx+dx)) (w64 ((I j).fy+dy)) (w64 ((I j).tx+dx)) (w64 ((I j).ty+dy)) (I j).e (I j).f:=q2x
          have hn3:∀ y,y≠j→setJ J2 j (setP (J2 j) (w64 ((I j).fx+dx)) (w64 ((I j).fy+dy)) (w64 ((I j).tx+dx)) (w64 ((I j).ty+dy)) (I j).e (I j).f) y=J y:=fun y hy=>by rw [q1y hy,hn2 y hy]
          have q:=z28 (J:=J2) (J':=setJ J2 j (setP (J2 j) (w64 ((I j).fx+dx)) (w64 ((I j).fy+dy)) (w64 ((I j).tx+dx)) (w64 ((I j).ty+dy)) (I j).e (I j).f)) (n:=k) (x:=j) (o:=11) (v:=.int .i64 (w64 ((I j).fx+dx))) (u:=.int .i64 (w64 ((I j).fy+dy))) h2 (by omega) (fun y hy=>q1y hy) (by rw [hx3];rw [hx2,hx1,hJj];rfl)
          have c1:(q0o (fun x=>(J2 x).cells) k)[j*34+11]? = some (.int .i64 (I j).fx):=q32 (x:=j) (o:=11) h2 (by omega) (by rw [hx2,hx1,hJj];rfl)
          have c2:(q0o (fun x=>(J2 x).cells) k)[j*34+11+1]? = some (.int .i64 (I j).fy):=q32 (x:=j) (o:=12) h2 (by omega) (by rw [hx2,hx1,hJj];rfl)
          refine z7d (off:=j*34+11) c1 c2 q ?_
          clear q c1 c2
          generalize setJ J2 j (setP (J2 j) (w64 ((I j).fx+dx)) (w64 ((I j).fy+dy)) (w64 ((I j).tx+dx)) (w64 ((I j).ty+dy)) (I j).e (I j).f)=J3 at *
          conv=>whnf
          (repeat ((try (conv=>whnf));(refine stQ ?_)))
          conv=>whnf
          refine ⟨⟨j+1,J3,M1⟩,⟨hinv.step hM1 h2 h0 hn3 (fun RA rq A q B pq C sq hJ=>by rw [hx3,hx2,hx1,hJ];simp [mvI,k1]) ha hb hF,Mem.le_trans hM hM1⟩,by show k-(j+1)<k-j;omega,?_⟩
          dsimp only
          ((refine q0h ?_);(conv=>whnf);(refine q0j (by rfl) (by rfl) flQ ?_))
          exact q0c (by exact flQ) (q0c (by exact flQ) (q0c (by exact flQ) (q0c (by exact flQ) (q0i rfl rfl (q0c (by exact flQ) q0e)))))
        by_cases k2:(I j).k=2
        · (repeat ((try (conv=>whnf));(first |(refine q0r (o:=j*34+2) _ e2 ?_) |(refine stQ ?_))))
          conv=>whnf
          have hx2:setJ J1 j (setP (J1 j) (w64 ((I j).fx+dx)) (w64 ((I j).fy+dy)) (I j).tx (I j).ty (I j).e (I j).f) j=setP (J1 j) (w64 ((I j).fx+dx)) (w64 ((I j).fy+dy)) (I j).tx (I j).ty (I j).e (I j).f:=q2x
          have hn2:∀ y,y≠j→setJ J1 j (setP (J1 j) (w64 ((I j).fx+dx)) (w64 ((I j).fy+dy)) (I j).tx (I j).ty (I j).e (I j).f) y=J y:=fun y hy=>by rw [q1y hy,hn1 y hy]
          have q:=z28 (J:=J1) (J':=setJ J1 j (setP (J1 j) (w64 ((I j).fx+dx)) (w64 ((I j).fy+dy)) (I j).tx (I j).ty (I j).e (I j).f)) (n:=k) (x:=j) (o:=11) (v:=.int .i64 (w64 ((I j).fx+dx))) (u:=.int .i64 (w64 ((I j).fy+dy))) h2 (by omega) (fun y hy=>q1y hy) (by rw [hx2];rw [hx1,hJj];rfl)
          have c1:(q0o (fun x=>(J1 x).cells) k)[j*34+11]? = some (.int .i64 (I j).fx):=q32 (x:=j) (o:=11) h2 (by omega) (by rw [hx1,hJj];rfl)
          have c2:(q0o (fun x=>(J1 x).cells) k)[j*34+11+1]? = some (.int .i64 (I j).fy):=q32 (x:=j) (o:=12) h2 (by omega) (by rw [hx1,hJj];rfl)
          refine z7d (off:=j*34+11) c1 c2 q ?_
          clear q c1 c2
          generalize setJ J1 j (setP (J1 j) (w64 ((I j).fx+dx)) (w64 ((I j).fy+dy)) (I j).tx (I j).ty (I j).e (I j).f)=J2 at *
          conv=>whnf
          (repeat ((try (conv=>whnf));(refine stQ ?_)))
          conv=>whnf
          refine ⟨⟨j+1,J2,M1⟩,⟨hinv.step hM1 h2 h0 hn2 (fun RA rq A q B pq C sq hJ=>by rw [hx2,hx1,hJ];simp [mvI,k2]) ha hb hF,Mem.le_trans hM hM1⟩,by show k-(j+1)<k-j;omega,?_⟩
          dsimp only
          ((refine q0h ?_);(conv=>whnf);(refine q0j (by rfl) (by rfl) flQ ?_))
          exact q0c (by exact flQ) (q0c (by exact flQ) (q0c (by exact flQ) (q0c (by exact flQ) (q0i rfl rfl (q0c (by exact flQ) q0e)))))
        by_cases k3:(I j).k=3
        · have e25:(q0o (fun x=>(J1 x).cells) k)[j*34+25]? = some (.int .i64 (I j).e):=q32 h2 (by omega) (by rw [hx1,hJj];rfl)
          (repeat ((try (conv=>whnf));(first |(refine q0r (o:=j*34+2) _ e2 ?_) |(refine q0r (o:=j*34+25) _ e25 ?_) |(refine stQ ?_) |(refine q0y (k:=.i64) _ rfl ?_))))
          conv=>whnf
          have hx2:setJ J1 j (setP (J1 j) (I j).fx (I j).fy (I j).tx (I j).ty (w64 ((I j).e+4096*dx)) (I j).f) j=setP (J1 j) (I j).fx (I j).fy (I j).tx (I j).ty (w64 ((I j).e+4096*dx)) (I j).f:=q2x
          have hn2:∀ y,y≠j→setJ J1 j (setP (J1 j) (I j).fx (I j).fy (I j).tx (I j).ty (w64 ((I j).e+4096*dx)) (I j).f) y=J y:=fun y hy=>by rw [q1y hy,hn1 y hy]
          obtain ⟨p1,p2⟩:=q5z (J:=J1) (J':=setJ J1 j (setP (J1 j) (I j).fx (I j).fy (I j).tx (I j).ty (w64 ((I j).e+4096*dx)) (I j).f)) (n:=k) (x:=j) (o:=25) (v:=.int .i64 (w64 ((I j).e+4096*dx))) h2 (by omega) (fun y hy=>q1y hy) (by rw [hx2];rw [hx1,hJj];rfl)
          refine q7e (o:=j*34+25) p1 p2 ?_
          clear p1 p2
          generalize setJ J1 j (setP (J1 j) (I j).fx (I j).fy (I j).tx (I j).ty (w64 ((I j).e+4096*dx)) (I j).f)=J2 at *
          conv=>whnf
          have e26:(q0o (fun x=>(J2 x).cells) k)[j*34+26]? = some (.int .i64 (I j).f):=q32 h2 (by omega) (by rw [hx2,hx1,hJj];rfl)
          (repeat ((try (conv=>whnf));(first |(refine q0r (o:=j*34+26) _ e26 ?_) |(refine stQ ?_) |(refine q0y (k:=.i64) _ rfl ?_))))
          conv=>whnf
          have hx3:setJ J2 j (setP (J2 j) (I j).fx (I j).fy (I j).tx (I j).ty (w64 ((I j).e+4096*dx)) (w64 ((I j).f+4096*dy))) j=setP (J2 j) (I j).fx (I j).fy (I j).tx (I j).ty (w64 ((I j).e+4096*dx)) (w64 ((I j).f+4096*dy)):=q2x
          have hn3:∀ y,y≠j→setJ J2 j (setP (J2 j) (I j).fx (I j).fy (I j).tx (I j).ty (w64 ((I j).e+4096*dx)) (w64 ((I j).f+4096*dy))) y=J y:=fun y hy=>by rw [q1y hy,hn2 y hy]
          obtain ⟨p1,p2⟩:=q5z (J:=J2) (J':=setJ J2 j (setP (J2 j) (I j).fx (I j).fy (I j).tx (I j).ty (w64 ((I j).e+4096*dx)) (w64 ((I j).f+4096*dy)))) (n:=k) (x:=j) (o:=26) (v:=.int .i64 (w64 ((I j).f+4096*dy))) h2 (by omega) (fun y hy=>q1y hy) (by rw [hx3];rw [hx2,hx1,hJj];rfl)
          refine q7e (o:=j*34+26) p1 p2 ?_
          clear p1 p2
          generalize setJ J2 j (setP (J2 j) (I j).fx (I j).fy (I j).tx (I j).ty (w64 ((I j).e+4096*dx)) (w64 ((I j).f+4096*dy)))=J3 at *
          conv=>whnf
          (repeat ((try (conv=>whnf));(refine stQ ?_)))
          conv=>whnf
          refine ⟨⟨j+1,J3,M1⟩,⟨hinv.step hM1 h2 h0 hn3 (fun RA rq A q B pq C sq hJ=>by rw [hx3,hx2,hx1,hJ];simp [mvI,k3]) ha hb hF,Mem.le_trans hM hM1⟩,by show k-(j+1)<k-j;omega,?_⟩
          dsimp only
          ((refine q0h ?_);(conv=>whnf);(refine q0j (by rfl) (by rfl) flQ ?_))
          exact q0c (by exact flQ) (q0c (by exact flQ) (q0c (by exact flQ) (q0c (by exact flQ) (q0i rfl rfl (q0c (by exact flQ) q0e)))))
        · (repeat ((try (conv=>whnf));(first |(refine q0r (o:=j*34+2) _ e2 ?_) |(refine stQ ?_))))
          conv=>whnf
          refine ⟨⟨j+1,J1,M1⟩,⟨hinv.step hM1 h2 h0 hn1 (fun RA rq A q B pq C sq hJ=>by rw [hx1,hJ];simp [mvI,k1,k2,k3]) ha hb hF,Mem.le_trans hM hM1⟩,by show k-(j+1)<k-j;omega,?_⟩
          dsimp only
          ((refine q0h ?_);(conv=>whnf);(refine q0j (by rfl) (by rfl) flQ ?_))
          exact q0c (by exact flQ) (q0c (by exact flQ) (q0c (by exact flQ) (q0c (by exact flQ) (q0i rfl rfl (q0c (by exact flQ) q0e)))))
      · obtain ⟨⟨RA,rq,A,q,B,pq,C,sq2,hJj⟩,hi⟩:=hold j h2 (.inl (Nat.le_refl _))
        have e0':(q0o (fun x=>(J x).cells) k)[j*34+0]? = some (.int .i64 (I j).K):=q32 h2 (by omega) (by rw [hJj];rfl)
        (repeat ((try (conv=>whnf));(first |(refine q0r _ e0' ?_) |(refine stQ ?_))))
        conv=>whnf
        refine ⟨⟨j+1,J,M⟩,⟨hinv.skip h2 h0,hM⟩,by show k-(j+1)<k-j;omega,?_⟩
        dsimp only
        ((refine q0h ?_);(conv=>whnf);(refine q0j (by rfl) (by rfl) flQ ?_))
        exact q0c (by exact flQ) (q0c (by exact flQ) (q0c (by exact flQ) (q0c (by exact flQ) (q0i rfl rfl (q0c (by exact flQ) q0e)))))
    · have hjk:j=k:=by omega
      subst hjk
      (repeat ((try (conv=>whnf));(refine stQ ?_)))
      conv=>whnf
      refine z6c (k:=4) (pre:=[.int .i64 W,.int .i64 H,.slice SA' m sq']) (fun vs w=>by kernel_rfl) rfl (by exact rfl) fun A cap G' hG' hc1 hc2 hF=>?_
      conv=>whnf
      have hI':=z0g (hF.els (fun _ _=>rfl) (by omega))
      obtain ⟨p,hp,r1,r2⟩:=hK SA' sq' J A cap G' (Mem.le_trans hinv.sub hG') hq1 hq2 (hS1.mono (Mem.le_trans hM hG')) hI' hc1 hc2 ⟨hinv.le,Mem.le_trans hinv.sub hG',fun x hx ho=>⟨(hinv.old x hx ho).1,(hinv.old x hx ho).2.mono hG'⟩,fun x hx h0=>by
        obtain ⟨⟨RA2,rq2,A2,q2,B2,pq2,C2,sq3,z1,z2,z3,z4⟩,z5⟩:=hinv.new x hx h0
        exact ⟨⟨RA2,rq2,A2,q2,B2,pq2,C2,sq3,z1,z2,z3,z4.mono hG'⟩,z5.mono hG'⟩⟩
      by_cases h0:p=0
      · subst h0
        refine q0b (fun vs w=>by kernel_rfl) (by kernel_rfl) hp ?_
        (repeat ((try (conv=>whnf));(refine stQ ?_)))
        exact r2 rfl _
      · refine q0b (fun vs w=>by kernel_rfl) (by kernel_rfl) hp ?_
        (repeat ((try (conv=>whnf));(refine stQ ?_)))
        exact r1 h0 _
end
end Go.Proofs.YticolnghiibgfaaGreat
