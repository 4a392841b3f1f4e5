/-
  Merged: XStrip, XMends, XCover, XCover2, XCopy, XLend, XLendS, XStates, XPntLaw.
-/
import Derived.Laws.CopyRow
import Derived.Test.YtkicdhaklnmonaaGreatMrg27
import Derived.Test.YtkicdhaklnmonaaGreatMrg13
import Derived.Test.YtkicdhaklnmonaaGreatMrg14
import Derived.Test.YtkicdhaklnmonaaGreatMrg17
set_option linter.unusedVariables false
set_option linter.unusedSimpArgs false
set_option linter.unnecessarySimpa false
namespace Go.Proofs.YtkicdhaklnmonaaGreat
open Go.RowKit
set_option maxRecDepth 20000
abbrev q1s (y x0 x1:Int):AV:=.agg [.val (.int .i64 y),.val (.int .i64 x0),.val (.int .i64 x1)]
section
variable {A:Option Addr} {L:List Run} {c:Nat} {G:Mem} {x y z:Int}
set_option maxHeartbeats 2000000 in
theorem z4j (r:Run):Gives Tryz.prog 111 [runA r,q1s y x z] G (.val (.int .i64 (cmpI x y r))):=by
  refine q01 tab_ok Tryz.func111 ?_
  by_cases h1:r.y<y
  · have e:cmpI x y r=-1:=by simp [cmpI,bef];omega
    rw [e]
    (repeat ((try (conv=>whnf));(refine stQ ?_)))
    exact ⟨rfl,rfl⟩
  by_cases h3:y<r.y
  · have e:cmpI x y r=1:=by simp [cmpI,bef];omega
    rw [e]
    (repeat ((try (conv=>whnf));(refine stQ ?_)))
    exact ⟨rfl,rfl⟩
  by_cases h4:r.x1≤x
  · have e:cmpI x y r=-1:=by simp [cmpI,bef];omega
    rw [e]
    (repeat ((try (conv=>whnf));(refine stQ ?_)))
    exact ⟨rfl,rfl⟩
  · have e:cmpI x y r=1:=by simp [cmpI,bef];omega
    rw [e]
    (repeat ((try (conv=>whnf));(refine stQ ?_)))
    exact ⟨rfl,rfl⟩
set_option maxHeartbeats 4000000 in
theorem z3a (hR:RunsM G A L) (v:ValidL L):Gives Tryz.prog 110 [.val (.slice A L.length c),q1s y x z,.val (.func (.func 111) #[] #[])] G (.tup [.val (.int .i64 (cntB x y L)),.val (.bool false)]):=by
  have hll:=v.length
  have hcl:=z6p x y L
  refine q01 tab_ok Tryz.func110 ?_
  (repeat ((try (conv=>whnf));(refine stQ ?_)))
  conv=>whnf
  refine q50 tab_ok (fun (lo hi:Nat)=>lo≤cntB x y L∧cntB x y L≤hi∧hi≤L.length) (fun lo hi=>[(9,.val (.int .i64 lo)),(10,.val (.int .i64 hi))]) (fun lo hi=>[.cells 120 [.val (.int .i64 y),.val (.int .i64 x),.val (.int .i64 z)]]) (fun lo hi=>hi-lo) 0 L.length ⟨Nat.zero_le _,hcl,Nat.le_refl _⟩ ?_ ?_
  · ((refine q0g ?_);(conv=>whnf);(refine q0k (by rfl) (by rfl) flQ ?_))
    exact q0a (by exact flQ) q0f
  · rintro lo hi ⟨h1,h2,h3⟩
    rcases Nat.lt_or_ge lo hi with hlt |hlt
    · obtain ⟨m,hm⟩:∃ m,m=(lo+hi)/2:=⟨_,rfl⟩
      obtain ⟨r,hr⟩:∃ r,L[m]? = some r:=⟨L[m]'(by omega),List.getElem?_eq_getElem (by omega)⟩
      obtain ⟨p,rfl,ca⟩:=hR.cells hr
      have hg:=z4j (G:=G) (x:=x) (y:=y) (z:=z) r
      have hneg:=x9y (x:=x) (y:=y) (r:=r)
      have e1:IntKind.u64.wrap ((lo:Int)+hi)=(lo:Int)+hi:=v2h _ (by omega)
      have e2:((lo:Int)+hi).fdiv (2 ^ min (Int.toNat 1) IntKind.u64.bits)=(m:Int):=by rw [x9x];omega
      have e3:IntKind.i64.wrap (m:Int)=(m:Int):=IntWalk.i64_in _ (by omega)
      cases hb:bef x y r with
      | true =>
        have hc0:cmpI x y r<0:=hneg.2 hb
        have hmk:m<cntB x y L:=by
          rcases Nat.lt_or_ge m (cntB x y L) with h |h
          · exact h
          · rw [z29 v h hr] at hb;cases hb
        (repeat ((try (conv=>whnf));(first |(with_reducible first |refine z5c _ e1 ?_ |refine z5c _ e3 ?_ |refine isP.mk _ e2 ?_) |(refine ca _ ?_) |(refine stQ ?_) |(with_reducible first |refine q0e (fun vs w=>by kernel_rfl) (by kernel_rfl) (hg) ?_ |refine q0d (fun vs w=>by kernel_rfl) (by kernel_rfl) (hg) ?_))))
        refine ⟨m+1,hi,⟨by omega,h2,h3⟩,by omega,?_⟩
        ((refine q0g ?_);(conv=>whnf);(refine q0k (by rfl) (by rfl) flQ ?_))
        exact q0a (by exact flQ) q0f
      | false =>
        have hc0:¬ cmpI x y r<0:=fun h=>by rw [hneg.1 h] at hb;cases hb
        have hmk:cntB x y L≤m:=by
          rcases Nat.lt_or_ge m (cntB x y L) with h |h
          · rw [x1u h hr] at hb;cases hb
          · exact h
        (repeat ((try (conv=>whnf));(first |(with_reducible first |refine z5c _ e1 ?_ |refine z5c _ e3 ?_ |refine isP.mk _ e2 ?_) |(refine ca _ ?_) |(refine stQ ?_) |(with_reducible first |refine q0e (fun vs w=>by kernel_rfl) (by kernel_rfl) (hg) ?_ |refine q0d (fun vs w=>by kernel_rfl) (by kernel_rfl) (hg) ?_))))
        refine ⟨lo,m,⟨h1,hmk,by omega⟩,by omega,?_⟩
        ((refine q0g ?_);(conv=>whnf);(refine q0k (by rfl) (by rfl) flQ ?_))
        exact q0a (by exact flQ) q0f
    · obtain rfl:lo=cntB x y L:=by omega
      rcases Nat.lt_or_ge (cntB x y L) L.length with h4 |h4
      · obtain ⟨r,hr⟩:∃ r,L[cntB x y L]? = some r:=⟨L[cntB x y L],List.getElem?_eq_getElem h4⟩
        obtain ⟨p,rfl,ca⟩:=hR.cells hr
        have hg:=z4j (G:=G) (x:=x) (y:=y) (z:=z) r
        have hne:=v1h (x:=x) (y:=y) (r:=r)
        (repeat ((try (conv=>whnf));(first |(refine ca _ ?_) |(refine stQ ?_) |(with_reducible first |refine q0e (fun vs w=>by kernel_rfl) (by kernel_rfl) (hg) ?_ |refine q0d (fun vs w=>by kernel_rfl) (by kernel_rfl) (hg) ?_))))
        conv=>whnf
        refine ⟨?_,rfl⟩
        rw [decide_eq_false hne]
      · (repeat ((try (conv=>whnf));(refine stQ ?_)))
        exact ⟨rfl,rfl⟩
end
end Go.Proofs.YtkicdhaklnmonaaGreat
namespace Go.Proofs.YtkicdhaklnmonaaGreat
open Go.RowKit
def subA (u:AV):AV→AV
  | .own 0=>u
  | a=>a
def Mends (P:Program) (f:FuncId) (args:List AV) (G:Mem) (E:TypeId) (sz n:Nat) (xs xs':List Value):Prop :=
  ∀ (base:Nat) (w:World) (v:Value) (vs:Array Value),G.holds w→w.ownsRow base E sz v n xs→base≤w.heap.size→(∀ g,q0h v=some g→G g=none)→AV.rels noName (args.map (subA (.val v))) vs.toList →
    Calls P f vs w fun e w'=>∃ y,e=.returned y∧w'.ownsRow base E sz v n xs'∧w.grownBy w' (q0h v)
theorem x1w {u a:AV} (h:a=.own 0):subA u a=u:=by subst h;rfl
theorem z7k {u a:AV} (h:a≠.own 0):subA u a=a:=by
  cases a with
  | own k=>cases k with
    | zero=>exact absurd rfl h
    | succ k=>rfl
  | _=>rfl
theorem x1x {β:Nm} {v:Value} (h0:β 0=some v) (hs:isSl v=true):∀ (l:List AV) (ys:List Value),AV.rels noName (l.map (subA (.val v))) ys→AV.rels β l ys
  | [],ys,h=>by simpa [AV.rels] using h
  | a::l,ys,h=>by
    simp only [List.map_cons,AV.rels] at h ⊢
    obtain ⟨y,zs,h1,h2,h3⟩:=h
    refine ⟨y,zs,h1,?_,x1x h0 hs l zs h3⟩
    by_cases ha:a=.own 0
    · rw [x1w ha] at h2
      simp only [AV.rel] at h2
      subst h2;subst ha
      simp only [AV.rel];exact ⟨h0,hs⟩
    · rw [z7k ha] at h2
      exact AV.rel_mono (q3s β) _ _ h2
theorem z6q {β:Nm} {k:Nat} {v:Value} (hk:β k=some v):∀ (l:List AV) (ys:List Value),AV.unders 0 (l.map (subA (.val undef)))=true→AV.rels β (l.map (subA (.own k))) ys→AV.rels noName (l.map (subA (.val v))) ys
  | [],ys,_,h=>by simpa [AV.rels] using h
  | a::l,ys,hu,h=>by
    simp only [List.map_cons,AV.rels,AV.unders,Bool.and_eq_true] at h hu ⊢
    obtain ⟨y,zs,h1,h2,h3⟩:=h
    refine ⟨y,zs,h1,?_,z6q hk l zs hu.2 h3⟩
    by_cases ha:a=.own 0
    · rw [x1w ha] at h2 ⊢
      simp only [AV.rel] at h2 ⊢
      rw [hk] at h2;exact (Option.some.inj h2.1).symm
    · rw [z7k ha] at h2 ⊢
      rw [z7k ha] at hu
      exact q7m hu.1 h2
theorem q7w {P:Program} {T:Tab} (hT:TOk P T) {f:FuncId} {fn:Func} (hfn:P.funcs[f]? = some fn) {args:List AV} {G:Mem} {E:TypeId} {sz n:Nat} {xs xs':List Value}
    (h:∀ G',G.le G'→q32 P T 1 fn args [.own E sz n xs] G' fun v hp' _=>nthB hp' 0=.own E sz n xs'):Mends P f args G E sz n xs xs':=by
  intro base w v vs hG hown hbase hfree hts
  have hle:G.le (q27 w (q0h v)):=fun b o hb=>by
    unfold q27
    by_cases h1:q0h v=some b
    · rw [hfree b h1] at hb;cases hb
    · rw [if_neg h1];exact hG b o hb
  have hmb:∀ b o,q27 w (q0h v) b=some o→w.heap[b]? = some o:=fun b o hb=>by
    unfold q27 at hb
    split at hb
    · cases hb
    · exact hb
  have hsl:=q16 hown
  have hw0:Below base {w with heap:=w.heap.extract 0 base} w:=by
    refine ⟨rfl,rfl,rfl,?_,fun k hk=>?_⟩
    · simp;omega
    · show w.heap[k]? = (w.heap.extract 0 base)[k]?
      rw [Array.getElem?_extract];simp;intro h;omega
  have hsz:({w with heap:=w.heap.extract 0 base}:World).heap.size=base:=by
    show (w.heap.extract 0 base).size=base
    simp;omega
  have hr:HR {w with heap:=w.heap.extract 0 base} (q27 w (q0h v)) (fun k=>if k=0 then some v else none) [.own E sz n xs] (q27 w (q0h v)) w:=by
    refine ⟨by rw [hsz];exact hw0,hmb,Mem.le_refl _,fun b o hb=>.inl hb,fun k y hk=>?_,fun k k' y y' x x' b hne hk hk'=>?_,fun k S hk=>(by cases k <;> simp at hk)⟩
    · by_cases h0:k=0
      · subst h0
        simp at hk;subst hk
        refine ⟨_,rfl,?_⟩
        rw [hsz]
        refine ⟨hown,fun g hg=>?_⟩
        unfold q27;rw [if_pos hg]
      · simp [h0] at hk
    · by_cases h0:k=0
      · have:k'≠0:=by omega
        simp [this] at hk'
      · simp [h0] at hk
  refine (q5t hT hfn (hp:=[.own E sz n xs]) (h _ hle) (.inr fun _ _ _ _ _ h=>h) _ _ _ w vs hr (x1x (by simp) hsl _ _ hts)).mono ?_
  rintro e w' ⟨y,β',v',hp',G',rfl,h1,h2,h3,hk⟩
  have hn:β' 0=some v:=h1 0 v (by simp)
  obtain ⟨x,hx1,hx2⟩:=h2.blk 0 v hn
  rw [q0p hk rfl] at hx1;cases hx1
  rw [hsz] at hx2
  have hold:∀ b,b<w.heap.size→q0h v≠some b→w'.heap[b]? = w.heap[b]?∧∃ o,G' b=some o:=fun b hb hne=>by
    have h4:q27 w (q0h v) b=some w.heap[b]:=by unfold q27;rw [if_neg hne];exact Array.getElem?_eq_getElem hb
    have h5:=h2.sub b _ h4
    exact ⟨by rw [h2.hold b _ h5,Array.getElem?_eq_getElem hb],_,h5⟩
  refine ⟨y,rfl,hx2.1,⟨h2.below.os,h2.below.tape,h2.below.output,?_,fun b hb hne=>(hold b hb (fun e=>hne e.symm)).1⟩⟩
  rcases Nat.eq_zero_or_pos w.heap.size with h0 |h0
  · omega
  · by_cases h4:q0h v=some (w.heap.size-1)
    · rcases hx2.1.2 with ⟨h5,_⟩ |⟨g,cap,cur,h5,_,h6,_⟩
      · subst h5;cases h4
      · have h7:=(Array.getElem?_eq_some_iff.1 h6).1
        subst h5
        simp [q0h] at h4
        omega
    · have h5:=(hold (w.heap.size-1) (by omega) h4).1
      rw [Array.getElem?_eq_getElem (show w.heap.size-1<w.heap.size by omega)] at h5
      have:=(Array.getElem?_eq_some_iff.1 h5).1
      omega
theorem HR.mend {w0:World} {G0:Mem} {β:Nm} {hp:List Blk} {G:Mem} {w w':World} (hr:HR w0 G0 β hp G w) {k:Nat} {v:Value} {E:TypeId} {sz n:Nat} {xs xs':List Value} (hk:β k=some v) (hx:hp[k]? = some (.own E sz n xs)) (hg:w.grownBy w' (q0h v)) (ho:w'.ownsRow w0.heap.size E sz v n xs') :
    HR w0 G0 β (hp.set k (.own E sz n xs')) G w':=by
  have h1:=hr.below_grown hk hx rfl hg
  have hkl:=(List.getElem?_eq_some_iff.1 hx).1
  obtain ⟨x0,hx0,hx1⟩:=hr.blk k v hk
  rw [hx] at hx0;cases hx0
  have old:∀ (j:Nat) (x:Blk),(hp.set k (.own E sz n xs'))[j]? = some x→x.live=true→∃ x',hp[j]? = some x'∧x'.live=true:=fun j x hj hl=>by
    by_cases e:k=j
    · subst e;exact ⟨_,hx,rfl⟩
    · rw [List.getElem?_set_ne e] at hj;exact ⟨x,hj,hl⟩
  refine ⟨h1.below,h1.hold,h1.sub,h1.grow,fun j y hj=>?_,fun j j' y y' x x' b hne hj hj' hx hx' hl hl' hb=>?_,fun j S hj=>?_⟩
  · by_cases e:k=j
    · subst e
      rw [hk] at hj;cases hj
      exact ⟨_,List.getElem?_set_self hkl,ho,hx1.2⟩
    · obtain ⟨x,h2,h3⟩:=h1.blk j y hj
      rw [List.getElem?_set_ne e] at h2
      exact ⟨x,by rw [List.getElem?_set_ne e];exact h2,h3⟩
  · obtain ⟨z,h2,h3⟩:=old j x hx hl
    obtain ⟨z',h2',h3'⟩:=old j' x' hx' hl'
    exact hr.inj j j' y y' z z' b hne hj hj' h2 h2' h3 h3' hb
  · by_cases e:k=j
    · subst e;rw [List.getElem?_set_self hkl] at hj;cases hj
    · rw [List.getElem?_set_ne e] at hj
      exact h1.wrt j S (by rw [List.getElem?_set_ne e];exact hj)
theorem q2u {P:Program} {f:FuncId} (args:List AV) (i k:Nat) (hen:∀ vs w,(callFunc f vs).run P w=.ok (.enter f vs) w) {L:List AV} {hp:List Blk} {G:Mem} {K:AV→List Blk→Mem→Prop} {E:TypeId} {sz n:Nat} {xs xs':List Value}
    (hL:L=args.map (subA (.own k))) (hi:args[i]? = some (.own 0)) (hu:AV.unders 0 (args.map (subA (.val undef)))=true) (hk:nthB hp k=.own E sz n xs) (hc:Mends P f args G E sz n xs xs') (h:setF hp k (.own E sz n xs') fun hp'=>K .any hp' G):CallP P f L hp G K:=by
  rw [q09] at h
  subst hL
  refine ⟨hen,fun w0 G0 β w vs hr ha=>?_⟩
  obtain ⟨v,hv⟩:∃ v,β k=some v:=by
    obtain ⟨y,_,hy⟩:=AV.rels_get ha (show (args.map (subA (.own k)))[i]? = some (.own k) by rw [List.getElem?_map,hi];rfl)
    simp only [AV.rel] at hy
    exact ⟨y,hy.1⟩
  have hkx:=q0p hk rfl
  obtain ⟨x,hx1,hx2⟩:=hr.blk k v hv
  rw [hkx] at hx1;cases hx1
  refine (hc w0.heap.size w v vs hr.hold hx2.1 hr.below.size hx2.2 (z6q hv _ _ hu ha)).mono ?_
  rintro e w' ⟨y,rfl,h1,h2⟩
  exact ⟨y,β,.any,_,G,rfl,Nm.le_refl _,hr.mend hv hkx h2 h1,by simp only [AV.rel],h⟩
theorem Mends.mono {P:Program} {f:FuncId} {args:List AV} {G G':Mem} {E:TypeId} {sz n:Nat} {xs xs':List Value} (h:Mends P f args G E sz n xs xs') (hG:G.le G'):Mends P f args G' E sz n xs xs' :=
  fun base w v vs hw ho hb hf ha=>h base w v vs (fun b o hb=>hw b o (hG b o hb)) ho hb (fun g hg=>Mem.le.none hG (hf g hg)) ha
end Go.Proofs.YtkicdhaklnmonaaGreat
namespace Go.Proofs.YtkicdhaklnmonaaGreat
open Go.RowKit
set_option maxRecDepth 20000
def bsL (n:Nat) (t:Nat→Bool):List Value:=(List.range n).map fun j=>.bool (t j)
theorem q6c (n:Nat) (t:Nat→Bool):(bsL n t).length=n:=by simp [bsL]
theorem q62 {n:Nat} {t:Nat→Bool} {j:Nat} (h:j<n):(bsL n t)[j]? = some (.bool (t j)):=by simp [bsL,h]
theorem q53 {n:Nat} {t t':Nat→Bool} (h:∀ j,j<n→t j=t' j):bsL n t=bsL n t':=by
  unfold bsL
  exact List.map_congr_left fun j hj=>by rw [h j (List.mem_range.1 hj)]
theorem v1i {n:Nat} {t:Nat→Bool} {o:Nat} (h:o<n):(bsL n t).take o++[Value.bool true]++(bsL n t).drop (o+1)=bsL n fun j=>t j||decide (j=o):=by
  apply List.ext_getElem?
  intro j
  by_cases hj:j<n
  · rw [q62 hj]
    rcases Nat.lt_trichotomy j o with h1 |h1 |h1
    · rw [List.append_assoc,List.getElem?_append_left (by simp [q6c];omega),List.getElem?_take,if_pos h1,q62 hj]
      simp;omega
    · subst h1
      rw [List.getElem?_append_left (by simp [q6c];omega),List.getElem?_append_right (by simp [q6c];omega)]
      simp [q6c,Nat.min_eq_left (Nat.le_of_lt h)]
    · rw [List.getElem?_append_right (by simp [q6c];omega),List.getElem?_drop]
      rw [show o+1+(j-((bsL n t).take o++[Value.bool true]).length)=j by simp [q6c];omega,q62 hj]
      simp;omega
  · rw [List.getElem?_eq_none (by simp [q6c];omega),List.getElem?_eq_none (by simp [q6c];omega)]
mutual
def AllT (p q:Nat→Prop):Tr→Prop
  | .fill i=>p i
  | .group i ms=>q i∧AllL p q ms
def AllL (p q:Nat→Prop):List Tr→Prop
  | []=>True
  | t::ts=>AllT p q t∧AllL p q ts
end
theorem AllL.get {p q:Nat→Prop}:∀ {ms:List Tr} {j:Nat} {t:Tr},AllL p q ms→ms[j]? = some t→AllT p q t
  | [],_,_,_,h=>by simp at h
  | a::l,0,t,hA,h=>by
    rw [AllL] at hA
    simp at h;subst h;exact hA.1
  | a::l,j+1,t,hA,h=>by
    rw [AllL] at hA
    exact AllL.get hA.2 (by simpa using h)
mutual
theorem AllT.mono {p q p' q':Nat→Prop} (hp:∀ i,p i→p' i) (hq:∀ i,q i→q' i):∀ t,AllT p q t→AllT p' q' t
  | .fill i,h=>by rw [AllT] at h ⊢;exact hp i h
  | .group i ms,h=>by rw [AllT] at h ⊢;exact ⟨hq i h.1,AllL.mono hp hq ms h.2⟩
theorem AllL.mono {p q p' q':Nat→Prop} (hp:∀ i,p i→p' i) (hq:∀ i,q i→q' i):∀ ts,AllL p q ts→AllL p' q' ts
  | [],h=>by rw [AllL];trivial
  | t::ts,h=>by rw [AllL] at h ⊢;exact ⟨AllT.mono hp hq t h.1,AllL.mono hp hq ts h.2⟩
end
theorem SpanL.all {K:Nat→Int} {ms:List Tr} {i j:Nat} (h:SpanL K ms i j):AllL (fun k=>K k=0∧k<j) (fun k=>K k=1∧k<j) ms:=by
  induction h with
  | nil i=>rw [AllL];trivial
  | fill i ts j h h2 ih =>
    rw [AllL]
    refine ⟨?_,ih⟩
    rw [AllT]
    exact ⟨h,by have:=h2.le;omega⟩
  | group i ms e ts j h h1 h0 h3 h2 ih1 ih2 =>
    rw [AllL]
    refine ⟨?_,ih2⟩
    rw [AllT]
    have l1:=h1.le
    have l2:=h2.le
    exact ⟨⟨h,by omega⟩,AllL.mono (fun k hk=>⟨hk.1,by omega⟩) (fun k hk=>⟨hk.1,by omega⟩) _ ih1⟩
def RegOk (F:Mem) (I:Nat→ItemD) (R:Nat→List Run) (i:Nat):Prop:=RunsM F (I i).RA (R i)∧(I i).rn=(R i).length∧ValidL (R i)
theorem RegOk.mono {F F':Mem} {I:Nat→ItemD} {R:Nat→List Run} {i:Nat} (h:RegOk F I R i) (hF:F.le F'):RegOk F' I R i:=⟨h.1.mono hF,h.2⟩
def mkB (m:Nat→Bool) (L:List Run) (x0 y:Int) (i j:Nat):Bool:=m j||(L.take i).any fun r=>inR r (x0+j) y
theorem mkB_start {m:Nat→Bool} {L:List Run} {x0 y:Int} {j:Nat}:mkB m L x0 y (cntB x0 y L) j=m j:=by
  unfold mkB
  have:((L.take (cntB x0 y L)).any fun r=>inR r (x0+j) y)=false:=by
    rw [List.any_eq_false]
    intro r hr
    obtain ⟨k,hk⟩:=List.mem_iff_getElem?.1 hr
    have hkl:k<cntB x0 y L:=by
      have:=(List.getElem?_eq_some_iff.1 hk).1
      simp at this;omega
    rw [List.getElem?_take,if_pos hkl] at hk
    have:=x1u hkl hk
    simp only [bef,decide_eq_true_eq] at this
    simp only [inR,decide_eq_true_eq]
    omega
  rw [this];simp
theorem z45 {m:Nat→Bool} {L:List Run} {x0 y:Int} {i j:Nat} {r:Run} (hr:L[i]? = some r):mkB m L x0 y (i+1) j=(mkB m L x0 y i j||inR r (x0+j) y):=by
  unfold mkB
  have hl:=(List.getElem?_eq_some_iff.1 hr)
  rw [List.take_add_one,hr]
  simp [List.any_append,Bool.or_assoc]
theorem z7l {m:Nat→Bool} {L:List Run} {x0 x1 y:Int} {i j:Nat} (v:ValidL L) (hj:x0+j<x1) (hi:∀ r,L[i]? = some r→¬ (r.y=y∧r.x0<x1)) (hc:cntB x0 y L≤i):mkB m L x0 y i j=(m j||hasL L (x0+j) y):=by
  unfold mkB hasL
  congr 1
  rw [← List.take_append_drop i L]
  rw [List.any_append]
  simp only [List.take_append_drop]
  have:((L.drop i).any fun r=>inR r (x0+j) y)=false:=by
    rw [List.any_eq_false]
    intro r hr
    obtain ⟨k,hk⟩:=List.mem_iff_getElem?.1 hr
    rw [List.getElem?_drop] at hk
    simp only [inR,decide_eq_true_eq]
    rintro ⟨h1,h2,h3⟩
    cases k with
    | zero=>exact hi r hk ⟨h1,by omega⟩
    | succ k =>
      have hlt:i<L.length:=by have:=(List.getElem?_eq_some_iff.1 hk).1;omega
      have hq:L[i]? = some L[i]:=List.getElem?_eq_getElem hlt
      have h4:=q9m v.ok (show i<i+(k+1) by omega) hq hk
      have h5:=z29 v hc hq
      simp only [bef,decide_eq_false_iff_not] at h5
      have h6:=v.bd (List.mem_of_getElem? hq)
      exact hi _ hq ⟨by omega,by omega⟩
  rw [this];simp
end Go.Proofs.YtkicdhaklnmonaaGreat
namespace Go.Proofs.YtkicdhaklnmonaaGreat
open Go.RowKit
set_option maxRecDepth 20000
section
variable {I:Nat→ItemD} {f:Nat→SrcF} {R:Nat→List Run} {F:Mem} {y x0 x1:Int} {n:Nat}
set_option maxHeartbeats 8000000 in
theorem x5b {i b:Nat} {sv mv:Value} (hx:x1=x0+n) (hb0:-100000≤x0∧n≤100000∧x0≤100000) (hb:F b=some (.cells ((I i).cells++[.int .i64 i,sv,mv]).toArray q9s (0,0))) (hR:RegOk F I R i) (m:Nat→Bool) :
    Mends Tryz.prog 113 [q1s y x0 x1,.val (.iface z03 (ptrV b)),.own 0] F 4 1 n (bsL n m) (bsL n fun j=>m j||hasL (R i) (x0+j) y):=by
  refine q7w tab_ok Tryz.func113 fun G hG=>?_
  have hb:=hG _ _ hb
  obtain ⟨hRM,hRn,hV⟩:=hR.mono hG
  have hbs:=z3a (c:=(I i).rq) (x:=x0) (y:=y) (z:=x1) hRM hV
  rw [← hRn] at hbs
  have c1:G.cell? ⟨b,1,none⟩=some (.slice (I i).RA (I i).rn (I i).rq):=by
    unfold Mem.cell?;simp only [hb];rfl
  have hcl:=z6p x0 y (R i)
  have hlen:=hV.length
  (repeat ((try (conv=>whnf));(first |(with_reducible refine q29 tab_ok (by kernel_rfl) 7 [] (by decide +kernel) ?_) |(refine q0b _ c1 ?_) |(refine stQ ?_) |(with_reducible first |refine q0i tab_ok Tryz.func85 (fun vs w=>by kernel_rfl) (by rfl) ?_ |refine q0e (fun vs w=>by kernel_rfl) (by kernel_rfl) (hbs) ?_ |refine q0d (fun vs w=>by kernel_rfl) (by kernel_rfl) (hbs) ?_))))
  conv=>whnf
  refine q0w tab_ok (fun j=>cntB x0 y (R i)≤j∧j≤(R i).length) (fun (j:Nat)=>[(6,.val (.int .i64 j))]) (fun j=>[.own 4 1 n (bsL n (mkB m (R i) x0 y j)),.cells 120 [.val (.int .i64 y),.val (.int .i64 x0),.val (.int .i64 x1)],.cells 129 [.own 0],.cells 120 [.val (.int .i64 y),.val (.int .i64 x0),.val (.int .i64 x1)]]) (fun j=>(R i).length-j) (cntB x0 y (R i)) ⟨Nat.le_refl _,hcl⟩ ?_ ?_
  · ((refine q0g ?_);(conv=>whnf);(refine q0k (by rfl) (by rfl) flQ ?_))
    exact q0c rfl (q53 fun j _=>mkB_start.symm) (q0a (by exact flQ) (q0a (by exact flQ) (q0a (by exact flQ) q0f)))
  · rintro k ⟨hk1,hk2⟩
    have fin:(∀ r,(R i)[k]? = some r→¬ (r.y=y∧r.x0<x1))→bsL n (mkB m (R i) x0 y k)=bsL n (fun j=>m j||hasL (R i) (x0+j) y):=fun h=>q53 fun j hj=>z7l hV (by omega) h hk1
    rcases Nat.lt_or_ge k (R i).length with h2 |h2
    · obtain ⟨r,hr⟩:∃ r,(R i)[k]? = some r:=⟨_,List.getElem?_eq_getElem h2⟩
      obtain ⟨p,hpA,q0,q1,q2⟩:=hRM.at_ hr
      have hbd:=hV.bd (List.mem_of_getElem? hr)
      have hbf:=z29 hV hk1 hr
      simp only [bef,decide_eq_false_iff_not] at hbf
      rw [hpA]
      by_cases hy:r.y=y
      · by_cases hx2:r.x0<x1
        · have hnx:=fun j=>z45 (m:=m) (x0:=x0) (y:=y) (j:=j) hr
          (repeat ((try (conv=>whnf));(first |(with_reducible refine q29 tab_ok (by kernel_rfl) 17 [] (by decide +kernel) ?_) |(refine q0b _ q0 ?_) |(refine q0b _ q1 ?_) |(refine q0b _ q2 ?_) |(refine stQ ?_) |(with_reducible refine q0i tab_ok Tryz.func147 (fun vs w=>by kernel_rfl) (by rfl) ?_))))
          conv=>whnf
          refine q0w tab_ok (fun (t:Nat)=>max r.x0 x0+t≤min r.x1 x1) (fun (t:Nat)=>[(6,.val (.int .i64 (max r.x0 x0+t)))]) (fun (t:Nat)=>[.own 4 1 n (bsL n fun j=>mkB m (R i) x0 y k j||decide (max r.x0 x0≤x0+j∧x0+(j:Int)<max r.x0 x0+t)),.cells 120 [.val (.int .i64 y),.val (.int .i64 x0),.val (.int .i64 x1)],.cells 129 [.own 0],.cells 120 [.val (.int .i64 y),.val (.int .i64 x0),.val (.int .i64 x1)]]) (fun (t:Nat)=>(min r.x1 x1-max r.x0 x0-t).toNat) 0 (by omega) ?_ ?_
          · ((refine q0g ?_);(conv=>whnf);(refine q0k (by rfl) (by rfl) flQ ?_))
            exact q0c rfl (q53 fun j _=>by simp;omega) (q0a (by exact flQ) (q0a (by exact flQ) (q0a (by exact flQ) q0f)))
          · intro t ht
            by_cases h3:max r.x0 x0+(t:Int)<min r.x1 x1
            · (repeat ((try (conv=>whnf));(refine stQ ?_)))
              conv=>whnf
              have hon:(max r.x0 x0+(t:Int)-x0).toNat * 1<n:=by omega
              refine mustP.mk (by rw [q6c];exact hon) ?_
              (repeat ((try (conv=>whnf));(refine stQ ?_)))
              conv=>whnf
              refine ⟨t+1,by omega,by omega,?_⟩
              ((refine q0g ?_);(conv=>whnf);(refine q0k (by rfl) (by rfl) flQ ?_))
              refine q0c rfl ((v1i (o:=(max r.x0 x0+(t:Int)-x0).toNat * 1) hon).trans (q53 fun j hj=>?_)) (q0a (by exact flQ) (q0a (by exact flQ) (q0a (by exact flQ) q0f)))
              rw [Bool.or_assoc]
              congr 1
              rw [Bool.eq_iff_iff]
              simp only [Bool.or_eq_true,decide_eq_true_eq]
              omega
            · (repeat ((try (conv=>whnf));(refine stQ ?_)))
              conv=>whnf
              refine ⟨k+1,⟨by omega,by omega⟩,by omega,?_⟩
              ((refine q0g ?_);(conv=>whnf);(refine q0k (by rfl) (by rfl) flQ ?_))
              refine q0c rfl (q53 fun j hj=>?_) (q0a (by exact flQ) (q0a (by exact flQ) (q0a (by exact flQ) q0f)))
              rw [hnx j]
              congr 1
              simp only [inR]
              rw [Bool.eq_iff_iff]
              simp only [decide_eq_true_eq]
              omega
        · have e:=fin (fun q hq=>by rw [hr] at hq;cases hq;omega)
          (repeat ((try (conv=>whnf));(first |(refine q0b _ q0 ?_) |(refine q0b _ q1 ?_) |(refine q0b _ q2 ?_) |(refine stQ ?_))))
          conv=>whnf
          show Blk.own _ _ _ _=_
          rw [e]
      · have e:=fin (fun q hq=>by rw [hr] at hq;cases hq;omega)
        (repeat ((try (conv=>whnf));(first |(refine q0b _ q0 ?_) |(refine q0b _ q1 ?_) |(refine q0b _ q2 ?_) |(refine stQ ?_))))
        conv=>whnf
        show Blk.own _ _ _ _=_
        rw [e]
    · have e:=fin (fun q hq=>by rw [List.getElem?_eq_none h2] at hq;cases hq)
      (repeat ((try (conv=>whnf));(refine stQ ?_)))
      conv=>whnf
      show Blk.own _ _ _ _=_
      rw [e]
theorem x7r {X:CellX} {ms:List Tr} {k:Nat} {t:Tr} (h:ms[k]? = some t):covL X (ms.take (k+1))=(covL X (ms.take k)||covT X t):=by
  induction ms generalizing k with
  | nil=>simp at h
  | cons a l ih =>
    cases k with
    | zero =>
      simp at h;subst h
      simp [covL]
    | succ k =>
      have:=ih (k:=k) (by simpa using h)
      simp only [List.take_succ_cons,covL] at this ⊢
      rw [this,Bool.or_assoc]
theorem FlatM.get {G:Mem} {A:Option Addr} {xs:List Value} (h:FlatM G A xs) {k:Nat} {u:Value} (hk:xs[k]? = some u):∃ p:Addr,A=some p∧G.cell? (p.add (k*1))=some u:=by
  rcases h with ⟨_,rfl⟩ |⟨b,off,h1,h2⟩
  · simp at hk
  · exact ⟨_,h1,by rw [q0m,Nat.mul_one];exact h2 k u hk⟩
set_option maxHeartbeats 8000000 in
theorem z9b {X:Nat→CellX} (hX:∀ j i,(X j).cov i=hasL (R i) (x0+(j:Int)) y) (hx:x1=x0+n) (hb0:-100000≤x0∧n≤100000∧x0≤100000) {q:Nat→Prop}:∀ (s:Nat) (t:Tr),SizeOf.sizeOf t≤s→AllT (RegOk F I R) q t→∀ v,NodeM I f F v t→∀ m:Nat→Bool,
    Mends Tryz.prog 113 [q1s y x0 x1,.val v,.own 0] F 4 1 n (bsL n m) (bsL n fun j=>m j||covT (X j) t)
  | 0,t,hs,_,_,_,_=>by cases t <;> simp at hs
  | s+1,.fill i,hs,hA,v,hv,m=>by
    cases hv with
    | fill i b sv mv hb hsv hmv =>
      rw [AllT] at hA
      have:=x5b (y:=y) (n:=n) hx hb0 hb hA m
      rw [show (fun j=>m j||covT (X j) (.fill i))=fun j=>m j||hasL (R i) (x0+(j:Int)) y from funext fun j=>by rw [covT,hX]]
      exact this
  | s+1,.group i ms,hs,hA,v,hv,m=>by
    cases hv with
    | group i b mv A k0 c vs ms hb hm hn hc hF hl hch =>
      subst hn
      rw [AllT] at hA
      have hrec:∀ (k:Nat) u t,vs[k]? = some u→ms[k]? = some t→∀ m:Nat→Bool,Mends Tryz.prog 113 [q1s y x0 x1,.val u,.own 0] F 4 1 n (bsL n m) (bsL n fun j=>m j||covT (X j) t):=fun k u t hu ht m =>
        z9b hX hx hb0 s t (by
          have:=List.sizeOf_lt_of_mem (List.mem_of_getElem? ht)
          simp at hs;omega) (hA.2.get ht) u (hch k u t hu ht) m
      have hvl:vs.length≤9223372036854775807:=by have:=hc;unfold maxLen at this;omega
      refine q7w tab_ok Tryz.func113 fun G hG=>?_
      have hb:=hG _ _ hb
      have hF:=hF.mono hG
      have c36:G.cell? ⟨b,36,none⟩=some (.slice A vs.length c):=by
        unfold Mem.cell?;simp only [hb];rfl
      (repeat ((try (conv=>whnf));(first |(refine q0b _ c36 ?_) |(refine stQ ?_))))
      conv=>whnf
      refine q0w tab_ok (fun k=>k≤vs.length) (fun (k:Nat)=>[(30,.val (.int .i64 k))]) (fun k=>[.own 4 1 n (bsL n fun j=>m j||covL (X j) (ms.take k)),.cells 120 [.val (.int .i64 y),.val (.int .i64 x0),.val (.int .i64 x1)],.cells 129 [.own 0]]) (fun k=>vs.length-k) 0 (Nat.zero_le _) ?_ ?_
      · ((refine q0g ?_);(conv=>whnf);(refine q0k (by rfl) (by rfl) flQ ?_))
        exact q0c rfl (q53 fun j _=>by simp [covL]) (q0a (by exact flQ) (q0a (by exact flQ) q0f))
      · intro k hk
        rcases Nat.lt_or_ge k vs.length with h2 |h2
        · obtain ⟨u,hu⟩:∃ u,vs[k]? = some u:=⟨_,List.getElem?_eq_getElem h2⟩
          obtain ⟨t,ht⟩:∃ t,ms[k]? = some t:=⟨_,List.getElem?_eq_getElem (by omega)⟩
          obtain ⟨p,rfl,hcu⟩:=hF.get hu
          have hcm:=(hrec k u t hu ht fun j=>m j||covL (X j) (ms.take k)).mono hG
          (repeat ((try (conv=>whnf));(first |(refine q0b _ hcu ?_) |(refine stQ ?_))))
          conv=>whnf
          refine q2u [q1s y x0 x1,.val u,.own 0] 2 0 (fun vs w=>by kernel_rfl) rfl rfl (by rfl) rfl hcm ?_
          conv=>whnf
          (repeat ((try (conv=>whnf));(refine stQ ?_)))
          conv=>whnf
          refine ⟨k+1,by omega,by omega,?_⟩
          ((refine q0g ?_);(conv=>whnf);(refine q0k (by rfl) (by rfl) flQ ?_))
          refine q0c rfl (q53 fun j _=>?_) (q0a (by exact flQ) (q0a (by exact flQ) q0f))
          rw [x7r ht,Bool.or_assoc]
        · obtain rfl:k=vs.length:=by omega
          (repeat ((try (conv=>whnf));(refine stQ ?_)))
          conv=>whnf
          show Blk.own _ _ _ _=_
          rw [hl,List.take_length]
          simp only [covT]
end
end Go.Proofs.YtkicdhaklnmonaaGreat
namespace Go.Proofs.YtkicdhaklnmonaaGreat
open Go.RowKit
theorem z9k {P:Program} (w:World) (dT sT ty elem:TypeId) (g o dLen dCap sz:Nat) (a:Addr) (sLen sCap:Nat) (cur:Array Value) (t:TypeId) (cs:List Value)
    (hu:P.underlying dT=some (.slice elem)) (hs:(P.info? elem).map (·.size)=some sz)
    (hg:w.heap[g]? = some (.cells cur t (0,0))) (hn:cs.length=Nat.min sLen dLen*sz)
    (hsrc:∀ j v,cs[j]? = some v→w.cell? (a.add j)=some v) (hfit:o+cs.length≤cur.size) (h1:∀ v∈cs,v.oneCell'=true) :
    (Builtin.copy_ #[dT,sT] ty #[.slice (some ⟨g,o,none⟩) dLen dCap,.slice (some a) sLen sCap]).run P w =
      .ok (goInt (Nat.min sLen dLen)) (w.setRow g (cur.toList.take o++cs++cur.toList.drop (o+cs.length)).toArray):=by
  have hl:=run_loadCells_list (P:=P) w a cs hsrc
  have hst:=run_storeCells_at P g o t cs 0 cur w hg (by simpa using hfit) h1
  cases hq:P.info? elem with
  | none=>simp [hq] at hs
  | some i =>
    have hi:i.size=sz:=by simpa [hq] using hs
    simp [Builtin.copy_,run_underlying hu,Builtin.lenOf,Builtin.firstCells,sizeOf,typeInfo,hq,hi,← hn,hl,hst]
theorem z3b {P:Program} {w0:World} {G0:Mem} {β:Nm} {hp:List Blk} {G:Mem} {w:World} (hr:HR w0 G0 β hp G w) {k:Nat} {v:Value} {E:TypeId} {sz N:Nat} {xs:List Value} (hv:β k=some v) (hk:hp[k]? = some (.own E sz N xs))
    {t t' ty e:TypeId} {s:Nat} (hu:P.underlying t=some (.slice e)) (hs:(P.info? e).map (·.size)=some s) {b o dLen dCap sLen sCap:Nat} {ad:Addr} {cs:List Value} (hb:q0h v=some b) (hn:cs.length=Nat.min sLen dLen*s)
    (hsrc:∀ (j:Nat) u,cs[j]? = some u→w.cell? (ad.add j)=some u) (hfit:o+cs.length≤xs.length) (h1:∀ v∈cs,v.oneCell'=true) :
    ∃ w',(Builtin.copy_ #[t,t'] ty #[.slice (some ⟨b,o,none⟩) dLen dCap,.slice (some ad) sLen sCap]).run P w=.ok (goInt (Nat.min sLen dLen)) w'∧HR w0 G0 β (hp.set k (.own E sz N (xs.take o++cs++xs.drop (o+cs.length)))) G w':=by
  obtain ⟨x1,hx1,hx2⟩:=hr.blk k v hv
  rw [hk] at hx1;cases hx1
  obtain ⟨hown,hG⟩:=hx2
  rcases hown.2 with ⟨rfl,_⟩ |⟨g,cap,cur,rfl,hg1,hg2,hg3,hg4,hg5,hg6⟩
  · cases hb
  have hb':=hb
  simp [q0h] at hb;subst hb
  have hxl:xs.length≤cur.size:=by rw [← hg6,List.length_take];simp;omega
  have hrun:=z9k (P:=P) w t t' ty e g o dLen dCap s ad sLen sCap cur E cs hu hs hg2 hn hsrc (by omega) h1
  refine ⟨_,hrun,hr.setBlk hv hk rfl hb' (q1r _ _ _) ⟨⟨?_,.inr ⟨g,cap,_,rfl,hg1,setRow_heap _ _ _ _ _ _ hg2,hg3,hg4,?_,?_⟩⟩,hG⟩⟩
  · rw [← hown.1]
    simp [List.length_take,List.length_drop];omega
  · rw [← hg5]
    simp [List.length_take,List.length_drop];omega
  · have hN:N*sz=xs.length:=hown.1.symm
    rw [hN] at hg6 ⊢
    apply List.ext_getElem?
    intro j
    have hx:∀ j,j<xs.length→cur.toList[j]? = xs[j]?:=fun j hj=>by rw [← hg6,List.getElem?_take,if_pos hj]
    simp only [List.getElem?_take,List.getElem?_append,List.length_take,List.length_append,List.getElem?_drop,Array.length_toList]
    have e1:min o cur.size=o:=by omega
    have e2:min o xs.length=o:=by omega
    rw [e1,e2]
    by_cases hj:j<xs.length
    · rw [if_pos hj]
      by_cases hj2:j<o
      · simp only [if_pos (show j<o+cs.length by omega),if_pos hj2];exact hx j hj
      · by_cases hj3:j<o+cs.length
        · simp only [if_pos hj3,if_neg hj2,if_pos (show j-o<cs.length by omega)]
        · simp only [if_neg hj3,if_neg hj2,if_neg (show ¬ j-o<cs.length by omega)]
          rw [hx _ (by omega)]
    · rw [if_neg hj]
      by_cases hj2:j<o+cs.length
      · omega
      · rw [if_neg hj2,List.getElem?_eq_none (by omega)]
theorem z3c {w:World} {base:Nat} {E:TypeId} {sz n:Nat} {v:Value} {xs:List Value} (h:w.ownsRow base E sz v n xs) (hn:0<n):∃ g cap,v=.slice (some ⟨g,0,none⟩) n cap:=by
  rcases h.2 with ⟨_,h0⟩ |⟨g,cap,cur,h1,_⟩
  · omega
  · exact ⟨g,cap,h1⟩
theorem x2q {P:Program} {T:Tab} (hT:TOk P T) (k k':Nat) {d x:Operand} {t t':TypeId} {fr:List AV} {hp:List Blk} {G:Mem} {K:AV→List Blk→Mem→Prop} {E E':TypeId} {sz n:Nat} {xs ys:List Value} (hd:ev fr d=.own k) (hx:ev fr x=.own k')
    (hk:nthB hp k=.own E sz n xs) (hk':nthB hp k'=.own E' sz n ys) (hn:0<n) (h1:∀ v∈ys,v.oneCell'=true) (h:q00 T t fun i=>match i.td with
      | .slice e=>q00 T e fun j=>q0o (Nat.beq j.size sz) (setF hp k (.own E sz n ys) fun hp'=>K .any hp' G)
      | _=>False):OpP P (.call ⟨.builtin .copy,⟨[d,x]⟩,⟨[t,t']⟩⟩) fr hp G K:=by
  refine ⟨fun o ho=>OpS.of_run fun w0 G0 β a w hr hf=>?_⟩
  have hdv:=q1f hf d
  have hxv:=q1f hf x
  rw [hd] at hdv;rw [hx] at hxv
  simp only [AV.rel] at hdv hxv
  obtain ⟨i,hi,h2⟩:=q0s hT h
  split at h2
  · rename_i e htd
    have hu:=q1e (htd ▸ hi.td)
    simp only [TD.says] at hu
    obtain ⟨j,hj,h3⟩:=q0s hT h2
    obtain ⟨hsz0,h4⟩:=q0n h3
    have hsz:=Nat.eq_of_beq_eq_true hsz0
    rw [q09] at h4
    obtain ⟨q,z,hq,hqs,_⟩:=hj.info
    have hs1:(P.info? e).map (·.size)=some sz:=by simp [hq,hqs,hsz]
    have hkx:=q0p hk rfl
    obtain ⟨x1,hx1,hx2⟩:=hr.blk k _ hdv.1
    rw [hkx] at hx1;cases hx1
    obtain ⟨x2,hx3,hx4⟩:=hr.blk k' _ hxv.1
    rw [q0p hk' rfl] at hx3;cases hx3
    obtain ⟨g,cap,e1⟩:=z3c hx2.1 hn
    obtain ⟨g',cap',e2⟩:=z3c hx4.1 hn
    have hyl:=hx4.1.1
    have hxl:=hx2.1.1
    obtain ⟨w',hrun,hr'⟩:=z3b (P:=P) (t':=t') (ty:=o.type) hr hdv.1 hkx hu hs1 (b:=g) (o:=0) (dLen:=n) (dCap:=cap) (sLen:=n) (sCap:=cap') (ad:=⟨g',0,none⟩) (cs:=ys) (by rw [e1];rfl) (by rw [hyl];simp) (fun j u hj=>by
      rw [q0m,Nat.zero_add]
      exact q5r hx4.1 (by rw [e2];rfl) hj) (by omega) h1
    have e3:xs.take 0++ys++xs.drop (0+ys.length)=ys:=by
      rw [List.drop_eq_nil_of_le (by omega)];simp
    rw [e3] at hr'
    exact ⟨_,_,w',β,.any,_,G,by simp [execOp,ho,resolve,invoke,builtin,e1,e2,hrun];rfl,.inl rfl,Nm.le_refl _,hr',by simp only [AV.rel],h4⟩
  · exact h2.elim
theorem x2r {P:Program} {T:Tab} (hT:TOk P T) (k:Nat) {d x:Operand} {t t':TypeId} {fr:List AV} {hp:List Blk} {G:Mem} {K:AV→List Blk→Mem→Prop} {E:TypeId} {sz n c:Nat} {A:Option Addr} {xs ys:List Value} (hd:ev fr d=.own k) (hx:ev fr x=.val (.slice A n c))
    (hk:nthB hp k=.own E sz n xs) (hF:FlatM G A ys) (hyl:ys.length=n*sz) (hsz0:0<sz) (hn:0<n) (h1:∀ v∈ys,v.oneCell'=true) (h:q00 T t fun i=>match i.td with
      | .slice e=>q00 T e fun j=>q0o (Nat.beq j.size sz) (setF hp k (.own E sz n ys) fun hp'=>K .any hp' G)
      | _=>False):OpP P (.call ⟨.builtin .copy,⟨[d,x]⟩,⟨[t,t']⟩⟩) fr hp G K:=by
  refine ⟨fun o ho=>OpS.of_run fun w0 G0 β a w hr hf=>?_⟩
  have hdv:=q1f hf d
  have hxv:=q1f hf x
  rw [hd] at hdv;rw [hx] at hxv
  simp only [AV.rel] at hdv hxv
  obtain ⟨i,hi,h2⟩:=q0s hT h
  split at h2
  · rename_i e htd
    have hu:=q1e (htd ▸ hi.td)
    simp only [TD.says] at hu
    obtain ⟨j,hj,h3⟩:=q0s hT h2
    obtain ⟨hsz1,h4⟩:=q0n h3
    have hsz:=Nat.eq_of_beq_eq_true hsz1
    rw [q09] at h4
    obtain ⟨q,z,hq,hqs,_⟩:=hj.info
    have hs1:(P.info? e).map (·.size)=some sz:=by simp [hq,hqs,hsz]
    have hkx:=q0p hk rfl
    obtain ⟨x1,hx1,hx2⟩:=hr.blk k _ hdv.1
    rw [hkx] at hx1;cases hx1
    obtain ⟨g,cap,e1⟩:=z3c hx2.1 hn
    have hxl:=hx2.1.1
    rcases hF with ⟨_,rfl⟩ |⟨b',off,rfl,hc⟩
    · have:=Nat.mul_pos hn hsz0
      simp at hyl;omega
    obtain ⟨w',hrun,hr'⟩:=z3b (P:=P) (t':=t') (ty:=o.type) hr hdv.1 hkx hu hs1 (b:=g) (o:=0) (dLen:=n) (dCap:=cap) (sLen:=n) (sCap:=c) (ad:=⟨b',off,none⟩) (cs:=ys) (by rw [e1];rfl) (by rw [hyl];simp) (fun j u hj=>by
      rw [q0m]
      exact hr.hold.cell (hc j u hj)) (by omega) h1
    have e3:xs.take 0++ys++xs.drop (0+ys.length)=ys:=by
      rw [List.drop_eq_nil_of_le (by omega)];simp
    rw [e3] at hr'
    exact ⟨_,_,w',β,.any,_,G,by simp [execOp,ho,resolve,invoke,builtin,e1,hxv,hrun];rfl,.inl rfl,Nm.le_refl _,hr',by simp only [AV.rel],h4⟩
  · exact h2.elim
end Go.Proofs.YtkicdhaklnmonaaGreat
namespace Go.Proofs.YtkicdhaklnmonaaGreat
open Go.RowKit
theorem z6r {P:Program} {f:FuncId} (hen:∀ vs w,(callFunc f vs).run P w=.ok (.enter f vs) w) {k:Nat} {post:List AV} {hp:List Blk} {G:Mem} {K:AV→List Blk→Mem→Prop} {E:TypeId} {sz n:Nat} {xs:List Value} {v:AV} (hk:nthB hp k=.own E sz n xs) (hu:AV.unders 0 post=true)
    (hc:∀ A cap G',G.le G'→n≤cap→cap≤maxLen→RowM G' A xs→Gives P f (.val (.slice A n cap)::post) G' v) (h:K v hp G):CallP P f (.own k::post) hp G K:=by
  refine ⟨hen,fun w0 G0 β w vs hr ha=>?_⟩
  simp only [AV.rels] at ha
  obtain ⟨y,ts,hvs,hv,hts⟩:=ha
  simp only [AV.rel] at hv
  obtain ⟨x,hx1,hx2⟩:=hr.blk k y hv.1
  have hkx:=q0p hk rfl
  rw [hkx] at hx1;cases hx1
  obtain ⟨⟨hlen,hown⟩,hfree⟩:=hx2
  have fin:∀ A cap G',G'.holds w→y=.slice A n cap→Gives P f (.val (.slice A n cap)::post) G' v→Calls P f vs w fun e w'=>∃ (y:Value) (β':Nm) (v:AV) (hp':List Blk) (G':Mem),e=.returned y∧β.le β'∧HR w0 G0 β' hp' G' w'∧v.rel β' y∧K v hp' G':=fun A cap G' hG' hy hg=>by
    refine (hg w vs hG' ?_).mono ?_
    · simp only [AV.rels,AV.rel]
      exact ⟨_,ts,hvs,hy,q2r hu hts⟩
    · rintro e w' ⟨z,rfl,h2,h3⟩
      exact ⟨z,β,v,hp,G,rfl,Nm.le_refl _,hr.step h3,AV.rel_mono (q3s β) _ _ h2,h⟩
  rcases hown with ⟨rfl,h5⟩ |⟨g,cap,cur,rfl,h5,h6,h7,h8,h9,h10⟩
  · refine fin none 0 G hr.hold (by rw [h5]) (hc none 0 G (Mem.le_refl _) (by omega) (Nat.zero_le _) (.inl ⟨rfl,by rw [h5] at hlen;simpa using hlen⟩))
  · have hcell:∀ (j:Nat) u,xs[j]? = some u→(G.and w g).cell? ⟨g,0+j,none⟩=some u:=fun j u hj=>by
      have h11:(G.and w g) g=some (.cells cur E (0,0)):=by simp [Mem.and,h6]
      unfold Mem.cell?
      rw [Nat.zero_add,h11]
      rw [← h10] at hj
      rw [List.getElem?_take] at hj
      split at hj
      · simpa using hj
      · cases hj
    exact fin (some ⟨g,0,none⟩) cap (G.and w g) (Mem.and_holds hr.hold g) rfl (hc (some ⟨g,0,none⟩) cap (G.and w g) (Mem.le_and hr.hold g) h7 h8 (.inr ⟨g,0,rfl,hcell⟩))
end Go.Proofs.YtkicdhaklnmonaaGreat
namespace Go.Proofs.YtkicdhaklnmonaaGreat
open Go.RowKit
theorem z46 {P:Program} {f:FuncId} (hen:∀ vs w,(callFunc f vs).run P w=.ok (.enter f vs) w) {k:Nat} {post:List AV} {hp:List Blk} {G:Mem} {K:AV→List Blk→Mem→Prop} {E:TypeId} {sz n:Nat} {xs:List Value} {E':TypeId} {sz' n':Nat} {xs':List Value} (hk:nthB hp k=.own E sz n xs) (hu:AV.unders 0 post=true) (hn:0<n) (hn':0<n')
    (hc:∀ A cap G',G.le G'→n≤cap→cap≤maxLen→RowM G' A xs→q5k P f (.val (.slice A n cap)::post) G' id E' sz' n' xs') (h:∀ b c G',G.le G'→n'≤c→c≤maxLen→FlatM G' (some ⟨b,0,none⟩) xs'→K (.val (.slice (some ⟨b,0,none⟩) n' c)) hp G'):CallP P f (.own k::post) hp G K:=by
  refine ⟨hen,fun w0 G0 β w vs hr ha=>?_⟩
  simp only [AV.rels] at ha
  obtain ⟨y,ts,hvs,hv,hts⟩:=ha
  simp only [AV.rel] at hv
  obtain ⟨x,hx1,hx2⟩:=hr.blk k y hv.1
  have hkx:=q0p hk rfl
  rw [hkx] at hx1;cases hx1
  obtain ⟨⟨hlen,hown⟩,hfree⟩:=hx2
  rcases hown with ⟨rfl,h5⟩ |⟨g,cap,cur,rfl,h5,h6,h7,h8,h9,h10⟩
  · omega
  have hcell:∀ (j:Nat) u,xs[j]? = some u→(G.and w g).cell? ⟨g,0+j,none⟩=some u:=fun j u hj=>by
    have h11:(G.and w g) g=some (.cells cur E (0,0)):=by simp [Mem.and,h6]
    unfold Mem.cell?
    rw [Nat.zero_add,h11]
    rw [← h10] at hj
    rw [List.getElem?_take] at hj
    split at hj
    · simpa using hj
    · cases hj
  have hm:=hc (some ⟨g,0,none⟩) cap (G.and w g) (Mem.le_and hr.hold g) h7 h8 (.inr ⟨g,0,rfl,hcell⟩)
  refine (hm w vs (Mem.and_holds hr.hold g) (by simp only [AV.rels,AV.rel];exact ⟨_,ts,hvs,rfl,q2r hu hts⟩)).mono ?_
  rintro e w' ⟨z,s,rfl,h11,h12,h13⟩
  simp only [id,AV.rel] at h11
  subst h11
  rcases h12.2 with ⟨_,h14⟩ |⟨b,c,cur',rfl,g1,g2,g3,g4,g5,g6⟩
  · omega
  have hr2:=hr.newG g1 h13 g2
  have hGn:G b=none:=q2k hr.hold g1
  refine ⟨_,β,_,hp,_,rfl,Nm.le_refl _,hr2,by simp only [AV.rel],h b c _ (fun b' o hb'=>by rw [Mem.put_ne _ _ (fun e=>by rw [e,hGn] at hb';cases hb')];exact hb') g3 g4 (.inr ⟨b,0,rfl,fun j u hj=>?_⟩)⟩
  unfold Mem.cell?
  simp only [Mem.put_same,Nat.zero_add]
  rw [← g6] at hj
  rw [List.getElem?_take] at hj
  split at hj
  · simpa using hj
  · cases hj
end Go.Proofs.YtkicdhaklnmonaaGreat
namespace Go.Proofs.YtkicdhaklnmonaaGreat
open Go.RowKit
set_option maxRecDepth 20000
def st9 (S:St):List Value:=[.int .u8 (S 0),.int .u8 (S 1),.int .u8 (S 2),.int .u8 (S 3),.int .u8 (S 4),.int .u8 (S 5),.int .u8 (S 6),.int .u8 (S 7),.int .u8 (S 8)]
def stL:Nat→(Nat→St)→List Value
  | 0,_=>[]
  | n+1,S=>stL n S++st9 (S n)
theorem q15:∀ (n:Nat) (S:Nat→St),(stL n S).length=n*9
  | 0,_=>rfl
  | n+1,S=>by
    rw [stL,List.length_append,q15 n S]
    simp [st9];omega
theorem q0v {S T:Nat→St}:∀ {n:Nat},(∀ j,j<n→st9 (S j)=st9 (T j))→stL n S=stL n T
  | 0,_=>rfl
  | n+1,h=>by rw [stL,stL,q0v (fun j hj=>h j (by omega)),h n (by omega)]
theorem q3b {S:Nat→St}:∀ {n j o:Nat},j<n→o<9→(stL n S)[j*9+o]? = (st9 (S j))[o]?
  | 0,j,o,h,_=>by omega
  | n+1,j,o,h,ho=>by
    rw [stL]
    rcases Nat.lt_or_ge j n with h1 |h1
    · rw [List.getElem?_append_left (by rw [q15];omega)];exact q3b h1 ho
    · obtain rfl:j=n:=by omega
      rw [List.getElem?_append_right (by rw [q15];omega),q15]
      congr 1;omega
theorem z32 (S:St):(st9 S).length=9:=rfl
theorem q4x {S:Nat→St} {T:St} {n j:Nat} (h:j<n):(stL n S).take (j*9)++st9 T++(stL n S).drop (j*9+9)=stL n fun i=>if i=j then T else S i:=by
  apply List.ext_getElem?
  intro k
  have hl:=q15 n S
  by_cases hk:k<n*9
  · obtain ⟨i,o,ho,rfl⟩:∃ i o,o<9∧k=i*9+o:=⟨k/9,k%9,by omega,by omega⟩
    have hi:i<n:=by omega
    rw [q3b hi ho]
    have h1:((stL n S).take (j*9)).length=j*9:=by rw [List.length_take];omega
    rcases Nat.lt_trichotomy i j with h2 |h2 |h2
    · rw [List.append_assoc,List.getElem?_append_left (by omega),List.getElem?_take,if_pos (by omega),q3b hi ho,if_neg (by omega)]
    · subst h2
      rw [List.getElem?_append_left (by rw [List.length_append,h1,z32];omega),List.getElem?_append_right (by omega),h1,if_pos rfl]
      congr 1;omega
    · rw [List.getElem?_append_right (by rw [List.length_append,h1,z32];omega),List.getElem?_drop,List.length_append,h1,z32,if_neg (by omega)]
      rw [show j*9+9+(i*9+o-(j*9+9))=i*9+o by omega,q3b hi ho]
  · rw [List.getElem?_eq_none (by simp only [List.length_append,List.length_take,List.length_drop,z32];omega),List.getElem?_eq_none (by rw [q15];omega)]
theorem z7m {n:Nat} {S:Nat→St}:∀ v∈stL n S,v.oneCell'=true:=by
  induction n with
  | zero=>intro v hv;simp [stL] at hv
  | succ n ih =>
    intro v hv
    rw [stL] at hv
    rcases List.mem_append.1 hv with hv |hv
    · exact ih v hv
    · simp only [st9,List.mem_cons,List.not_mem_nil,or_false] at hv
      rcases hv with rfl |rfl |rfl |rfl |rfl |rfl |rfl |rfl |rfl <;> rfl
section
variable {G:Mem} {A:Option Addr} {n c:Nat}
set_option maxHeartbeats 1000000 in
theorem x1y {xs:List Value} (h:RowM G A xs) (hx:xs.length=n*9) (h0:0<n) (hl:n≤1000000) (h1:∀ v∈xs,v.oneCell'=true) :
    q5k Tryz.prog 84 [.val (.slice A n c)] G id 117 9 n xs:=by
  refine q5x tab_ok Tryz.func84 (.alone fun _=>rfl) ?_
  rcases h with ⟨rfl,rfl⟩ |⟨b,off,rfl,hc⟩
  · simp at hx;omega
  have hs:∀ K:Nat→List Value→Prop,K n xs→SrcV G (some ⟨b,off,none⟩) n 9 K:=fun K k=>⟨xs,hx,fun h0=>⟨_,rfl,fun j u hj=>by rw [q0m];exact hc j u hj⟩,h1,k⟩
  have hb:n*9≤140737488355328:=by omega
  (repeat ((try (conv=>whnf));(first |(refine q1l (show Option.isNone (some (⟨b,off,none⟩:Addr))=false from rfl) ?_) |(refine hs _ ?_) |(refine stQ ?_))))
  exact .inl ⟨1,rfl,rfl⟩
def anyB (n:Nat) (t:Nat→Bool):Bool:=(List.range n).any t
theorem z47 {n k:Nat} {t:Nat→Bool} (h:k<n) (e:t k=true):anyB n t=true:=List.any_eq_true.2 ⟨k,List.mem_range.2 h,e⟩
theorem v1j {n:Nat} {t:Nat→Bool} (h:∀ k,k<n→t k=false):anyB n t=false:=by
  unfold anyB
  rw [List.any_eq_false]
  intro k hk
  rw [h k (List.mem_range.1 hk)];simp
set_option maxHeartbeats 4000000 in
theorem z0h {t:Nat→Bool} (hS:RowM G A (bsL n t)) (hn:n≤1000000):Gives Tryz.prog 114 [.val (.slice A n c),.val (.bool true)] G (.val (.bool (anyB n t))):=by
  refine q01 tab_ok Tryz.func114 ?_
  (repeat ((try (conv=>whnf));(first |(refine stQ ?_) |(with_reducible refine q0i tab_ok Tryz.func148 (fun vs w=>by kernel_rfl) (by rfl) ?_))))
  conv=>whnf
  refine q0w tab_ok (fun i=>i≤n∧∀ k,k<i→t k=false) (fun (i:Nat)=>[(8,.val (.int .i64 i))]) (fun i=>[]) (fun i=>n-i) 0 ⟨Nat.zero_le _,fun k hk=>by omega⟩ ?_ ?_
  · ((refine q0g ?_);(conv=>whnf);(refine q0k (by rfl) (by rfl) flQ ?_))
    exact q0f
  · rintro i ⟨hi,hall⟩
    rcases Nat.lt_or_ge i n with h1 |h1
    · obtain ⟨p,rfl,hc⟩:=FlatM.get (show FlatM G A (bsL n t) from hS) (q62 h1)
      cases hq:t i with
      | false =>
        rw [hq] at hc
        (repeat ((try (conv=>whnf));(first |(refine q0b _ hc ?_) |(with_reducible refine q95 (by kernel_rfl) ?_) |(refine stQ ?_))))
        refine ⟨i+1,⟨by omega,fun k hk=>?_⟩,by omega,?_⟩
        · rcases Nat.lt_or_ge k i with h2 |h2
          · exact hall k h2
          · obtain rfl:k=i:=by omega
            exact hq
        · ((refine q0g ?_);(conv=>whnf);(refine q0k (by rfl) (by rfl) flQ ?_))
          exact q0f
      | true =>
        rw [hq] at hc
        (repeat ((try (conv=>whnf));(first |(refine q0b _ hc ?_) |(with_reducible refine q95 (by kernel_rfl) ?_) |(refine stQ ?_))))
        conv=>whnf
        exact ⟨by rw [z47 h1 hq];first |rfl |(rw [decide_eq_true (by omega)]),rfl⟩
    · obtain rfl:i=n:=by omega
      (repeat ((try (conv=>whnf));(refine stQ ?_)))
      exact ⟨by rw [v1j hall];first |rfl |(rw [decide_eq_false (by omega)]),rfl⟩
end
end Go.Proofs.YtkicdhaklnmonaaGreat
namespace Go.Proofs.YtkicdhaklnmonaaGreat
open Go.RowKit
def inkI (S:St):Nat→Int:=fun k=>S (k+1)
def q1z:St:=fun _=>0
def qE (so al:Int):Int:=near (so*al) 255
def q7i (md al:Int) (ov:Bool) (v:(Nat→Int) × Int) (b:St):St:=pnt md b (if qE v.2 al=0 then fun _=>0 else v.1) (qE v.2 al) ov
def grpS (iso:Bool) (md al:Int) (b s:St):St:=if iso=false then betw b s al else pnt md b (if qE (s 0) al=0 then fun _=>0 else inkI s) (qE (s 0) al) false
def q0u (I:Nat→ItemD) (f:Nat→SrcF) (R:Nat→List Run) (x y:Int):CellX where
  cov i:=hasL (R i) x y
  fill i b:=q7i (I i).bl (I i).al (I i).ov (f i x y) b
  kn i:=(I i).kn
  start i b:=if (I i).iso=true then q1z else b
  grp i b s:=grpS (I i).iso (I i).bl (I i).al b s
theorem x1z {X:CellX} {kn:Bool} {b0:St} {ms:List Tr} {k:Nat} {t:Tr} (h:ms[k]? = some t):∀ now,evL X kn b0 (ms.take (k+1)) now=(let s:=evL X kn b0 (ms.take k) now;if covT X t=true then evT X t (if kn=true then b0 else s) else s):=by
  induction ms generalizing k with
  | nil=>simp at h
  | cons a l ih =>
    intro now
    cases k with
    | zero =>
      simp at h;subst h
      simp [evL]
    | succ k =>
      simp only [List.take_succ_cons,evL]
      exact ih (by simpa using h) _
theorem z33 {so al:Int} (h:0≤so∧so≤255) (h2:0≤al∧al≤255):0≤qE so al∧qE so al≤255:=by
  have h3:=mulN h h2
  exact q3a _ _ 255 (by omega) (by omega) (by omega)
theorem v1k {S T:St} {t:Int} (hS:q0z S) (hT:q0z T) (ht:0≤t∧t≤255):q0z (betw S T t):=by
  intro o ho
  have s0:=hS 0 (by omega)
  have t0:=hT 0 (by omega)
  have so:=hS o ho
  have to:=hT o ho
  have h1:=mulN (a:=255-t) (b:=S 0) (A:=255) (B:=255) ⟨by omega,by omega⟩ s0
  have h2:=mulN ht t0
  have e:(255-t)*S 0+t * T 0≤65025:=by
    have:(255-t)*S 0≤(255-t)*255:=Int.mul_le_mul_of_nonneg_left s0.2 (by omega)
    have:t * T 0≤t * 255:=Int.mul_le_mul_of_nonneg_left t0.2 ht.1
    omega
  unfold betw
  split
  · omega
  · rename_i h0
    split
    · exact q3a _ _ 255 (by omega) (by omega) (by omega)
    · have hpos:1≤(255-t)*S 0+t * T 0:=by
        apply Classical.byContradiction
        intro hn
        have:(255-t)*S 0+t * T 0=0:=by omega
        rw [this] at h0
        exact h0 (z8m 255 (by omega))
      exact x6m h1.1 h2.1 so to hpos
theorem q9u:q0z q1z:=fun o _=>⟨Int.le_refl _,show (0:Int)≤255 by omega⟩
theorem x9z {md al:Int} {ov:Bool} {v:(Nat→Int) × Int} {b:St} (hv:z25 v.1) (hs:0≤v.2∧v.2≤255) (ha:0≤al∧al≤255) (hb:q0z b):q0z (q7i md al ov v b):=fun o ho=>by
  unfold q7i
  refine x0y ov hb (fun k hk=>?_) (z33 hs ha) ho
  split
  · exact ⟨Int.le_refl _,show (0:Int)≤255 by omega⟩
  · exact hv k hk
theorem z7n {s:St} (h:q0z s):z25 (inkI s):=fun k hk=>h (k+1) (by omega)
theorem v1l {iso:Bool} {md al:Int} {b s:St} (ha:0≤al∧al≤255) (hb:q0z b) (hs:q0z s):q0z (grpS iso md al b s):=by
  unfold grpS
  split
  · exact v1k hb hs ha
  · intro o ho
    refine x0y false hb (fun k hk=>?_) (z33 (hs 0 (by omega)) ha) ho
    split
    · exact ⟨Int.le_refl _,show (0:Int)≤255 by omega⟩
    · exact z7n hs k hk
def ItOk (I:Nat→ItemD) (f:Nat→SrcF) (i:Nat):Prop:=(0≤(I i).al∧(I i).al≤255)∧(0≤(I i).bl∧(I i).bl≤11)∧∀ x y:Int,(-8192≤x∧x<8192)→(-8192≤y∧y<8192)→z25 (f i x y).1∧0≤(f i x y).2∧(f i x y).2≤255
def GrOk (I:Nat→ItemD) (i:Nat):Prop:=(0≤(I i).al∧(I i).al≤255)∧(0≤(I i).bl∧(I i).bl≤11)
section
variable {I:Nat→ItemD} {f:Nat→SrcF} {R:Nat→List Run} {x y:Int} {p q:Nat→Prop}
mutual
theorem v2i (hx:-8192≤x∧x<8192) (hy:-8192≤y∧y<8192) (hp:∀ i,p i→ItOk I f i) (hq:∀ i,q i→GrOk I i):∀ t,AllT p q t→∀ b,q0z b→q0z (evT (q0u I f R x y) t b)
  | .fill i,h,b,hb=>by
    rw [AllT] at h
    rw [evT]
    obtain ⟨h1,h2,h3⟩:=hp i h
    exact x9z (h3 x y hx hy).1 (h3 x y hx hy).2 h1 hb
  | .group i ms,h,b,hb=>by
    rw [AllT] at h
    rw [evT]
    have hst:q0z ((q0u I f R x y).start i b):=by
      show q0z (if (I i).iso=true then q1z else b)
      split
      · exact q9u
      · exact hb
    exact v1l (hq i h.1).1 hb (z3d hx hy hp hq ms h.2 _ _ _ hst hst)
theorem z3d (hx:-8192≤x∧x<8192) (hy:-8192≤y∧y<8192) (hp:∀ i,p i→ItOk I f i) (hq:∀ i,q i→GrOk I i):∀ ts,AllL p q ts→∀ kn b0 now,q0z b0→q0z now→q0z (evL (q0u I f R x y) kn b0 ts now)
  | [],h,kn,b0,now,h0,h1=>by rw [evL];exact h1
  | t::ts,h,kn,b0,now,h0,h1=>by
    rw [AllL] at h
    rw [evL]
    refine z3d hx hy hp hq ts h.2 kn b0 _ h0 ?_
    split
    · refine v2i hx hy hp hq t h.1 _ ?_
      split
      · exact h0
      · exact h1
    · exact h1
end
end
end Go.Proofs.YtkicdhaklnmonaaGreat
