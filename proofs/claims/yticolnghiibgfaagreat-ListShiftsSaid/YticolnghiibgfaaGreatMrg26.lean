/-
  Merged: XMeasures, XStrip, XMends.
-/
import Derived.Test.YticolnghiibgfaaGreatMrg25
import Derived.Test.YticolnghiibgfaaGreatMrg17
set_option linter.unusedVariables false
set_option linter.unusedSimpArgs false
set_option linter.unnecessarySimpa false
namespace Go.Proofs.YticolnghiibgfaaGreat
open Go.RowKit
set_option maxRecDepth 20000
def bef (x y:Int) (r:Run):Bool:=decide (r.y<y∨(r.y=y∧r.x1≤x))
def cmpI (x y:Int) (r:Run):Int:=if bef x y r=true then -1 else 1
def cntB (x y:Int) (L:List Run):Nat:=(L.takeWhile (bef x y)).length
theorem z55 (x y:Int) (L:List Run):cntB x y L≤L.length:=by unfold cntB;exact (List.takeWhile_sublist _).length_le
theorem x01 {x y:Int}:∀ {L:List Run} {i:Nat} {r:Run},i<cntB x y L→L[i]? = some r→bef x y r=true
  | [],_,_,h,_=>by simp [cntB] at h
  | a::l,i,r,h,hr=>by
    unfold cntB at h
    rw [List.takeWhile_cons] at h
    split at h
    · rename_i ha
      cases i with
      | zero=>simp at hr;subst hr;exact ha
      | succ i=>exact x01 (L:=l) (i:=i) (by simpa [cntB] using h) (by simpa using hr)
    · simp at h
theorem x02 {x y:Int}:∀ {L:List Run} {r:Run},L[cntB x y L]? = some r→bef x y r=false
  | [],_,hr=>by simp at hr
  | a::l,r,hr=>by
    by_cases ha:bef x y a=true
    · have e:cntB x y (a::l)=cntB x y l+1:=by unfold cntB;rw [List.takeWhile_cons,if_pos ha];simp
      rw [e] at hr
      exact x02 (L:=l) (by simpa using hr)
    · have e:cntB x y (a::l)=0:=by unfold cntB;rw [List.takeWhile_cons,if_neg ha];rfl
      rw [e] at hr
      simp at hr;subst hr
      simpa using ha
theorem z21 {x y:Int} {L:List Run} (v:ValidL L) {i:Nat} {r:Run} (h:cntB x y L≤i) (hr:L[i]? = some r):bef x y r=false:=by
  rcases Nat.lt_or_ge (cntB x y L) i with h1 |h1
  · have hl:=(List.getElem?_eq_some_iff.1 hr).1
    have hq:L[cntB x y L]? = some (L[cntB x y L]'(by omega)):=List.getElem?_eq_getElem (by omega)
    have h2:=x02 hq
    have h3:=z0v v.ok h1 hq hr
    have h4:=v.bd (List.mem_of_getElem? hr)
    simp only [bef,decide_eq_false_iff_not] at h2 ⊢
    omega
  · have:i=cntB x y L:=by omega
    subst this;exact x02 hr
abbrev runA (r:Run):AV:=.agg [.val (.int .i64 r.y),.val (.int .i64 r.x0),.val (.int .i64 r.x1)]
theorem v1j (n:Int) (h:0≤n∧n≤9223372036854775807):IntKind.u64.wrap n=n:=by rw [IntKind.wrap_u64];omega
section
variable {A:Option Addr} {L:List Run} {c:Nat} {G:Mem} {x y:Int}
theorem x8w (z:Int):z.fdiv (2 ^ min (Int.toNat 1) IntKind.u64.bits)=z/2:=by
  rw [show ((2:Int) ^ min (Int.toNat 1) IntKind.u64.bits)=2 by decide]
  rw [Int.fdiv_eq_ediv_of_nonneg _ (by omega)]
theorem x8x {r:Run}:cmpI x y r<0↔bef x y r=true:=by unfold cmpI;split <;> simp_all
theorem v0l {r:Run}:cmpI x y r≠0:=by unfold cmpI;split <;> omega
/-! ### Bounds -/
end
end Go.Proofs.YticolnghiibgfaaGreat
namespace Go.Proofs.YticolnghiibgfaaGreat
open Go.RowKit
set_option maxRecDepth 20000
abbrev q1s (y x0 x1:Int):AV:=.agg [.val (.int .i64 y),.val (.int .i64 x0),.val (.int .i64 x1)]
section
variable {A:Option Addr} {L:List Run} {c:Nat} {G:Mem} {x y z:Int}
set_option maxHeartbeats 2000000 in
theorem z38 (r:Run):Gives Tryz.prog 109 [runA r,q1s y x z] G (.val (.int .i64 (cmpI x y r))):=by
  refine q0w tab_ok Tryz.func109 ?_
  by_cases h1:r.y<y
  · have e:cmpI x y r=-1:=by simp [cmpI,bef];omega
    rw [e]
    (repeat ((try (conv=>whnf));(refine stQ ?_)))
    exact ⟨rfl,rfl⟩
  by_cases h3:y<r.y
  · have e:cmpI x y r=1:=by simp [cmpI,bef];omega
    rw [e]
    (repeat ((try (conv=>whnf));(refine stQ ?_)))
    exact ⟨rfl,rfl⟩
  by_cases h4:r.x1≤x
  · have e:cmpI x y r=-1:=by simp [cmpI,bef];omega
    rw [e]
    (repeat ((try (conv=>whnf));(refine stQ ?_)))
    exact ⟨rfl,rfl⟩
  · have e:cmpI x y r=1:=by simp [cmpI,bef];omega
    rw [e]
    (repeat ((try (conv=>whnf));(refine stQ ?_)))
    exact ⟨rfl,rfl⟩
set_option maxHeartbeats 4000000 in
theorem z22 (hR:RunsM G A L) (v:ValidL L):Gives Tryz.prog 108 [.val (.slice A L.length c),q1s y x z,.val (.func (.func 109) #[] #[])] G (.tup [.val (.int .i64 (cntB x y L)),.val (.bool false)]):=by
  have hll:=v.length
  have hcl:=z55 x y L
  refine q0w tab_ok Tryz.func108 ?_
  (repeat ((try (conv=>whnf));(refine stQ ?_)))
  conv=>whnf
  refine x6g tab_ok (fun (lo hi:Nat)=>lo≤cntB x y L∧cntB x y L≤hi∧hi≤L.length) (fun lo hi=>[(9,.val (.int .i64 lo)),(10,.val (.int .i64 hi))]) (fun lo hi=>[.cells 106 [.val (.int .i64 y),.val (.int .i64 x),.val (.int .i64 z)]]) (fun lo hi=>hi-lo) 0 L.length ⟨Nat.zero_le _,hcl,Nat.le_refl _⟩ ?_ ?_
  · ((refine q0h ?_);(conv=>whnf);(refine q0j (by rfl) (by rfl) flQ ?_))
    exact q0c (by exact flQ) q0e
  · rintro lo hi ⟨h1,h2,h3⟩
    rcases Nat.lt_or_ge lo hi with hlt |hlt
    · obtain ⟨m,hm⟩:∃ m,m=(lo+hi)/2:=⟨_,rfl⟩
      obtain ⟨r,hr⟩:∃ r,L[m]? = some r:=⟨L[m]'(by omega),List.getElem?_eq_getElem (by omega)⟩
      obtain ⟨p,rfl,ca⟩:=hR.cells hr
      have hg:=z38 (G:=G) (x:=x) (y:=y) (z:=z) r
      have hneg:=x8x (x:=x) (y:=y) (r:=r)
      have e1:IntKind.u64.wrap ((lo:Int)+hi)=(lo:Int)+hi:=v1j _ (by omega)
      have e2:((lo:Int)+hi).fdiv (2 ^ min (Int.toNat 1) IntKind.u64.bits)=(m:Int):=by rw [x8w];omega
      have e3:IntKind.i64.wrap (m:Int)=(m:Int):=IntWalk.i64_in _ (by omega)
      cases hb:bef x y r with
      | true =>
        have hc0:cmpI x y r<0:=hneg.2 hb
        have hmk:m<cntB x y L:=by
          rcases Nat.lt_or_ge m (cntB x y L) with h |h
          · exact h
          · rw [z21 v h hr] at hb;cases hb
        (repeat ((try (conv=>whnf));(first |(with_reducible first |refine q0y _ e1 ?_ |refine q0y _ e3 ?_ |refine isP.mk _ e2 ?_) |(refine ca _ ?_) |(refine stQ ?_) |(with_reducible first |refine q0b (fun vs w=>by kernel_rfl) (by kernel_rfl) (hg) ?_ |refine q0a (fun vs w=>by kernel_rfl) (by kernel_rfl) (hg) ?_))))
        refine ⟨m+1,hi,⟨by omega,h2,h3⟩,by omega,?_⟩
        ((refine q0h ?_);(conv=>whnf);(refine q0j (by rfl) (by rfl) flQ ?_))
        exact q0c (by exact flQ) q0e
      | false =>
        have hc0:¬ cmpI x y r<0:=fun h=>by rw [hneg.1 h] at hb;cases hb
        have hmk:cntB x y L≤m:=by
          rcases Nat.lt_or_ge m (cntB x y L) with h |h
          · rw [x01 h hr] at hb;cases hb
          · exact h
        (repeat ((try (conv=>whnf));(first |(with_reducible first |refine q0y _ e1 ?_ |refine q0y _ e3 ?_ |refine isP.mk _ e2 ?_) |(refine ca _ ?_) |(refine stQ ?_) |(with_reducible first |refine q0b (fun vs w=>by kernel_rfl) (by kernel_rfl) (hg) ?_ |refine q0a (fun vs w=>by kernel_rfl) (by kernel_rfl) (hg) ?_))))
        refine ⟨lo,m,⟨h1,hmk,by omega⟩,by omega,?_⟩
        ((refine q0h ?_);(conv=>whnf);(refine q0j (by rfl) (by rfl) flQ ?_))
        exact q0c (by exact flQ) q0e
    · obtain rfl:lo=cntB x y L:=by omega
      rcases Nat.lt_or_ge (cntB x y L) L.length with h4 |h4
      · obtain ⟨r,hr⟩:∃ r,L[cntB x y L]? = some r:=⟨L[cntB x y L],List.getElem?_eq_getElem h4⟩
        obtain ⟨p,rfl,ca⟩:=hR.cells hr
        have hg:=z38 (G:=G) (x:=x) (y:=y) (z:=z) r
        have hne:=v0l (x:=x) (y:=y) (r:=r)
        (repeat ((try (conv=>whnf));(first |(refine ca _ ?_) |(refine stQ ?_) |(with_reducible first |refine q0b (fun vs w=>by kernel_rfl) (by kernel_rfl) (hg) ?_ |refine q0a (fun vs w=>by kernel_rfl) (by kernel_rfl) (hg) ?_))))
        conv=>whnf
        refine ⟨?_,rfl⟩
        rw [decide_eq_false hne]
      · (repeat ((try (conv=>whnf));(refine stQ ?_)))
        exact ⟨rfl,rfl⟩
end
end Go.Proofs.YticolnghiibgfaaGreat
namespace Go.Proofs.YticolnghiibgfaaGreat
open Go.RowKit
def subA (u:AV):AV→AV
  | .own 0=>u
  | a=>a
def Mends (P:Program) (f:FuncId) (args:List AV) (G:Mem) (E:TypeId) (sz n:Nat) (xs xs':List Value):Prop :=
  ∀ (base:Nat) (w:World) (v:Value) (vs:Array Value),G.holds w→w.ownsRow base E sz v n xs→base≤w.heap.size→(∀ g,q0g v=some g→G g=none)→AV.rels noName (args.map (subA (.val v))) vs.toList →
    Calls P f vs w fun e w'=>∃ y,e=.returned y∧w'.ownsRow base E sz v n xs'∧w.grownBy w' (q0g v)
theorem x03 {u a:AV} (h:a=.own 0):subA u a=u:=by subst h;rfl
theorem z67 {u a:AV} (h:a≠.own 0):subA u a=a:=by
  cases a with
  | own k=>cases k with
    | zero=>exact absurd rfl h
    | succ k=>rfl
  | _=>rfl
theorem x04 {β:Nm} {v:Value} (h0:β 0=some v) (hs:isSl v=true):∀ (l:List AV) (ys:List Value),AV.rels noName (l.map (subA (.val v))) ys→AV.rels β l ys
  | [],ys,h=>by simpa [AV.rels] using h
  | a::l,ys,h=>by
    simp only [List.map_cons,AV.rels] at h ⊢
    obtain ⟨y,zs,h1,h2,h3⟩:=h
    refine ⟨y,zs,h1,?_,x04 h0 hs l zs h3⟩
    by_cases ha:a=.own 0
    · rw [x03 ha] at h2
      simp only [AV.rel] at h2
      subst h2;subst ha
      simp only [AV.rel];exact ⟨h0,hs⟩
    · rw [z67 ha] at h2
      exact AV.rel_mono (q33 β) _ _ h2
theorem z56 {β:Nm} {k:Nat} {v:Value} (hk:β k=some v):∀ (l:List AV) (ys:List Value),AV.unders 0 (l.map (subA (.val undef)))=true→AV.rels β (l.map (subA (.own k))) ys→AV.rels noName (l.map (subA (.val v))) ys
  | [],ys,_,h=>by simpa [AV.rels] using h
  | a::l,ys,hu,h=>by
    simp only [List.map_cons,AV.rels,AV.unders,Bool.and_eq_true] at h hu ⊢
    obtain ⟨y,zs,h1,h2,h3⟩:=h
    refine ⟨y,zs,h1,?_,z56 hk l zs hu.2 h3⟩
    by_cases ha:a=.own 0
    · rw [x03 ha] at h2 ⊢
      simp only [AV.rel] at h2 ⊢
      rw [hk] at h2;exact (Option.some.inj h2.1).symm
    · rw [z67 ha] at h2 ⊢
      rw [z67 ha] at hu
      exact q6z hu.1 h2
theorem q7c {P:Program} {T:Tab} (hT:TOk P T) {f:FuncId} {fn:Func} (hfn:P.funcs[f]? = some fn) {args:List AV} {G:Mem} {E:TypeId} {sz n:Nat} {xs xs':List Value}
    (h:∀ G',G.le G'→q4d P T 1 fn args [.own E sz n xs] G' fun v hp' _=>nthB hp' 0=.own E sz n xs'):Mends P f args G E sz n xs xs':=by
  intro base w v vs hG hown hbase hfree hts
  have hle:G.le (q6o w (q0g v)):=fun b o hb=>by
    unfold q6o
    by_cases h1:q0g v=some b
    · rw [hfree b h1] at hb;cases hb
    · rw [if_neg h1];exact hG b o hb
  have hmb:∀ b o,q6o w (q0g v) b=some o→w.heap[b]? = some o:=fun b o hb=>by
    unfold q6o at hb
    split at hb
    · cases hb
    · exact hb
  have hsl:=q2g hown
  have hw0:Below base {w with heap:=w.heap.extract 0 base} w:=by
    refine ⟨rfl,rfl,rfl,?_,fun k hk=>?_⟩
    · simp;omega
    · show w.heap[k]? = (w.heap.extract 0 base)[k]?
      rw [Array.getElem?_extract];simp;intro h;omega
  have hsz:({w with heap:=w.heap.extract 0 base}:World).heap.size=base:=by
    show (w.heap.extract 0 base).size=base
    simp;omega
  have hr:HR {w with heap:=w.heap.extract 0 base} (q6o w (q0g v)) (fun k=>if k=0 then some v else none) [.own E sz n xs] (q6o w (q0g v)) w:=by
    refine ⟨by rw [hsz];exact hw0,hmb,Mem.le_refl _,fun b o hb=>.inl hb,fun k y hk=>?_,fun k k' y y' x x' b hne hk hk'=>?_,fun k S hk=>(by cases k <;> simp at hk)⟩
    · by_cases h0:k=0
      · subst h0
        simp at hk;subst hk
        refine ⟨_,rfl,?_⟩
        rw [hsz]
        refine ⟨hown,fun g hg=>?_⟩
        unfold q6o;rw [if_pos hg]
      · simp [h0] at hk
    · by_cases h0:k=0
      · have:k'≠0:=by omega
        simp [this] at hk'
      · simp [h0] at hk
  refine (q5u hT hfn (hp:=[.own E sz n xs]) (h _ hle) (.inr fun _ _ _ _ _ h=>h) _ _ _ w vs hr (x04 (by simp) hsl _ _ hts)).mono ?_
  rintro e w' ⟨y,β',v',hp',G',rfl,h1,h2,h3,hk⟩
  have hn:β' 0=some v:=h1 0 v (by simp)
  obtain ⟨x,hx1,hx2⟩:=h2.blk 0 v hn
  rw [q0z hk rfl] at hx1;cases hx1
  rw [hsz] at hx2
  have hold:∀ b,b<w.heap.size→q0g v≠some b→w'.heap[b]? = w.heap[b]?∧∃ o,G' b=some o:=fun b hb hne=>by
    have h4:q6o w (q0g v) b=some w.heap[b]:=by unfold q6o;rw [if_neg hne];exact Array.getElem?_eq_getElem hb
    have h5:=h2.sub b _ h4
    exact ⟨by rw [h2.hold b _ h5,Array.getElem?_eq_getElem hb],_,h5⟩
  refine ⟨y,rfl,hx2.1,⟨h2.below.os,h2.below.tape,h2.below.output,?_,fun b hb hne=>(hold b hb (fun e=>hne e.symm)).1⟩⟩
  rcases Nat.eq_zero_or_pos w.heap.size with h0 |h0
  · omega
  · by_cases h4:q0g v=some (w.heap.size-1)
    · rcases hx2.1.2 with ⟨h5,_⟩ |⟨g,cap,cur,h5,_,h6,_⟩
      · subst h5;cases h4
      · have h7:=(Array.getElem?_eq_some_iff.1 h6).1
        subst h5
        simp [q0g] at h4
        omega
    · have h5:=(hold (w.heap.size-1) (by omega) h4).1
      rw [Array.getElem?_eq_getElem (show w.heap.size-1<w.heap.size by omega)] at h5
      have:=(Array.getElem?_eq_some_iff.1 h5).1
      omega
theorem HR.mend {w0:World} {G0:Mem} {β:Nm} {hp:List Blk} {G:Mem} {w w':World} (hr:HR w0 G0 β hp G w) {k:Nat} {v:Value} {E:TypeId} {sz n:Nat} {xs xs':List Value} (hk:β k=some v) (hx:hp[k]? = some (.own E sz n xs)) (hg:w.grownBy w' (q0g v)) (ho:w'.ownsRow w0.heap.size E sz v n xs') :
    HR w0 G0 β (hp.set k (.own E sz n xs')) G w':=by
  have h1:=hr.below_grown hk hx rfl hg
  have hkl:=(List.getElem?_eq_some_iff.1 hx).1
  obtain ⟨x0,hx0,hx1⟩:=hr.blk k v hk
  rw [hx] at hx0;cases hx0
  have old:∀ (j:Nat) (x:Blk),(hp.set k (.own E sz n xs'))[j]? = some x→x.live=true→∃ x',hp[j]? = some x'∧x'.live=true:=fun j x hj hl=>by
    by_cases e:k=j
    · subst e;exact ⟨_,hx,rfl⟩
    · rw [List.getElem?_set_ne e] at hj;exact ⟨x,hj,hl⟩
  refine ⟨h1.below,h1.hold,h1.sub,h1.grow,fun j y hj=>?_,fun j j' y y' x x' b hne hj hj' hx hx' hl hl' hb=>?_,fun j S hj=>?_⟩
  · by_cases e:k=j
    · subst e
      rw [hk] at hj;cases hj
      exact ⟨_,List.getElem?_set_self hkl,ho,hx1.2⟩
    · obtain ⟨x,h2,h3⟩:=h1.blk j y hj
      rw [List.getElem?_set_ne e] at h2
      exact ⟨x,by rw [List.getElem?_set_ne e];exact h2,h3⟩
  · obtain ⟨z,h2,h3⟩:=old j x hx hl
    obtain ⟨z',h2',h3'⟩:=old j' x' hx' hl'
    exact hr.inj j j' y y' z z' b hne hj hj' h2 h2' h3 h3' hb
  · by_cases e:k=j
    · subst e;rw [List.getElem?_set_self hkl] at hj;cases hj
    · rw [List.getElem?_set_ne e] at hj
      exact h1.wrt j S (by rw [List.getElem?_set_ne e];exact hj)
theorem q2n {P:Program} {f:FuncId} (args:List AV) (i k:Nat) (hen:∀ vs w,(callFunc f vs).run P w=.ok (.enter f vs) w) {L:List AV} {hp:List Blk} {G:Mem} {K:AV→List Blk→Mem→Prop} {E:TypeId} {sz n:Nat} {xs xs':List Value}
    (hL:L=args.map (subA (.own k))) (hi:args[i]? = some (.own 0)) (hu:AV.unders 0 (args.map (subA (.val undef)))=true) (hk:nthB hp k=.own E sz n xs) (hc:Mends P f args G E sz n xs xs') (h:setF hp k (.own E sz n xs') fun hp'=>K .any hp' G):CallP P f L hp G K:=by
  rw [q1c] at h
  subst hL
  refine ⟨hen,fun w0 G0 β w vs hr ha=>?_⟩
  obtain ⟨v,hv⟩:∃ v,β k=some v:=by
    obtain ⟨y,_,hy⟩:=AV.rels_get ha (show (args.map (subA (.own k)))[i]? = some (.own k) by rw [List.getElem?_map,hi];rfl)
    simp only [AV.rel] at hy
    exact ⟨y,hy.1⟩
  have hkx:=q0z hk rfl
  obtain ⟨x,hx1,hx2⟩:=hr.blk k v hv
  rw [hkx] at hx1;cases hx1
  refine (hc w0.heap.size w v vs hr.hold hx2.1 hr.below.size hx2.2 (z56 hv _ _ hu ha)).mono ?_
  rintro e w' ⟨y,rfl,h1,h2⟩
  exact ⟨y,β,.any,_,G,rfl,Nm.le_refl _,hr.mend hv hkx h2 h1,by simp only [AV.rel],h⟩
theorem Mends.mono {P:Program} {f:FuncId} {args:List AV} {G G':Mem} {E:TypeId} {sz n:Nat} {xs xs':List Value} (h:Mends P f args G E sz n xs xs') (hG:G.le G'):Mends P f args G' E sz n xs xs' :=
  fun base w v vs hw ho hb hf ha=>h base w v vs (fun b o hb=>hw b o (hG b o hb)) ho hb (fun g hg=>Mem.le.none hG (hf g hg)) ha
end Go.Proofs.YticolnghiibgfaaGreat
