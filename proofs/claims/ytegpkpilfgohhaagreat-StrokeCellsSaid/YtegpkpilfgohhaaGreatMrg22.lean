/-
  Merged: XMendsR, XEdgesW, XSwapE, XInsE, XSymE.
-/
import Derived.Test.YtegpkpilfgohhaaGreatMrg17
import Derived.Test.YtegpkpilfgohhaaGreatMrg20
import Derived.Test.YtegpkpilfgohhaaGreatMrg12
import Derived.Test.YtegpkpilfgohhaaGreatMrg7
import Derived.Test.YtegpkpilfgohhaaGreatStabLaw
import Derived.Test.YtegpkpilfgohhaaGreatMrg13
set_option linter.unusedVariables false
set_option linter.unusedSimpArgs false
set_option linter.unnecessarySimpa false
namespace Go.Proofs.YtegpkpilfgohhaaGreat
open Go.RowKit
def MendsR (P:Program) (f:FuncId) (args:List AV) (G:Mem) (E:TypeId) (sz n:Nat) (xs:List Value) (R:List Value→Prop):Prop :=
  ∀ (base:Nat) (w:World) (v:Value) (vs:Array Value),G.holds w→w.ownsRow base E sz v n xs→base≤w.heap.size→(∀ g,q0i v=some g→G g=none)→AV.rels noName (args.map (subA (.val v))) vs.toList →
    Calls P f vs w fun e w'=>∃ y xs',e=.returned y∧R xs'∧w'.ownsRow base E sz v n xs'∧w.grownBy w' (q0i v)
theorem q77 {P:Program} {T:Tab} (hT:TOk P T) {f:FuncId} {fn:Func} (hfn:P.funcs[f]? = some fn) {args:List AV} {G:Mem} {E:TypeId} {sz n:Nat} {xs:List Value} {R:List Value→Prop}
    (h:∀ G',G.le G'→q4f P T 1 fn args [.own E sz n xs] G' fun v hp' _=>∃ xs',nthB hp' 0=.own E sz n xs'∧R xs'):MendsR P f args G E sz n xs R:=by
  intro base w v vs hG hown hbase hfree hts
  have hle:G.le (q29 w (q0i v)):=fun b o hb=>by
    unfold q29
    by_cases h1:q0i v=some b
    · rw [hfree b h1] at hb;cases hb
    · rw [if_neg h1];exact hG b o hb
  have hmb:∀ b o,q29 w (q0i v) b=some o→w.heap[b]? = some o:=fun b o hb=>by
    unfold q29 at hb
    split at hb
    · cases hb
    · exact hb
  have hsl:=q22 hown
  have hw0:Below base {w with heap:=w.heap.extract 0 base} w:=by
    refine ⟨rfl,rfl,rfl,?_,fun k hk=>?_⟩
    · simp;omega
    · show w.heap[k]? = (w.heap.extract 0 base)[k]?
      rw [Array.getElem?_extract];simp;intro h;omega
  have hsz:({w with heap:=w.heap.extract 0 base}:World).heap.size=base:=by
    show (w.heap.extract 0 base).size=base
    simp;omega
  have hr:HR {w with heap:=w.heap.extract 0 base} (q29 w (q0i v)) (fun k=>if k=0 then some v else none) [.own E sz n xs] (q29 w (q0i v)) w:=by
    refine ⟨by rw [hsz];exact hw0,hmb,Mem.le_refl _,fun b o hb=>.inl hb,fun k y hk=>?_,fun k k' y y' x x' b hne hk hk'=>?_,fun k S hk=>(by cases k <;> simp at hk)⟩
    · by_cases h0:k=0
      · subst h0
        simp at hk;subst hk
        refine ⟨_,rfl,?_⟩
        rw [hsz]
        refine ⟨hown,fun g hg=>?_⟩
        unfold q29;rw [if_pos hg]
      · simp [h0] at hk
    · by_cases h0:k=0
      · have:k'≠0:=by omega
        simp [this] at hk'
      · simp [h0] at hk
  refine (q5c hT hfn (hp:=[.own E sz n xs]) (h _ hle) (.inr fun _ _ _ _ _ h=>h) _ _ _ w vs hr (z4v (by simp) hsl _ _ hts)).mono ?_
  rintro e w' ⟨y,β',v',hp',G',rfl,h1,h2,h3,xs',hk,hR⟩
  have hn:β' 0=some v:=h1 0 v (by simp)
  obtain ⟨x,hx1,hx2⟩:=h2.blk 0 v hn
  rw [q0x hk rfl] at hx1;cases hx1
  rw [hsz] at hx2
  have hold:∀ b,b<w.heap.size→q0i v≠some b→w'.heap[b]? = w.heap[b]?∧∃ o,G' b=some o:=fun b hb hne=>by
    have h4:q29 w (q0i v) b=some w.heap[b]:=by unfold q29;rw [if_neg hne];exact Array.getElem?_eq_getElem hb
    have h5:=h2.sub b _ h4
    exact ⟨by rw [h2.hold b _ h5,Array.getElem?_eq_getElem hb],_,h5⟩
  refine ⟨y,xs',rfl,hR,hx2.1,⟨h2.below.os,h2.below.tape,h2.below.output,?_,fun b hb hne=>(hold b hb (fun e=>hne e.symm)).1⟩⟩
  rcases Nat.eq_zero_or_pos w.heap.size with h0 |h0
  · omega
  · by_cases h4:q0i v=some (w.heap.size-1)
    · rcases hx2.1.2 with ⟨h5,_⟩ |⟨g,cap,cur,h5,_,h6,_⟩
      · subst h5;cases h4
      · have h7:=(Array.getElem?_eq_some_iff.1 h6).1
        subst h5
        simp [q0i] at h4
        omega
    · have h5:=(hold (w.heap.size-1) (by omega) h4).1
      rw [Array.getElem?_eq_getElem (show w.heap.size-1<w.heap.size by omega)] at h5
      have:=(Array.getElem?_eq_some_iff.1 h5).1
      omega
theorem q1i {P:Program} {f:FuncId} (args:List AV) (i k:Nat) (hen:∀ vs w,(callFunc f vs).run P w=.ok (.enter f vs) w) {L:List AV} {hp:List Blk} {G:Mem} {K:AV→List Blk→Mem→Prop} {E:TypeId} {sz n:Nat} {xs:List Value} {R:List Value→Prop}
    (hL:L=args.map (subA (.own k))) (hi:args[i]? = some (.own 0)) (hu:AV.unders 0 (args.map (subA (.val undef)))=true) (hk:nthB hp k=.own E sz n xs) (hc:MendsR P f args G E sz n xs R) (h:∀ xs',R xs'→setF hp k (.own E sz n xs') fun hp'=>K .any hp' G):CallP P f L hp G K:=by
  subst hL
  refine ⟨hen,fun w0 G0 β w vs hr ha=>?_⟩
  obtain ⟨v,hv⟩:∃ v,β k=some v:=by
    obtain ⟨y,_,hy⟩:=AV.rels_get ha (show (args.map (subA (.own k)))[i]? = some (.own k) by rw [List.getElem?_map,hi];rfl)
    simp only [AV.rel] at hy
    exact ⟨y,hy.1⟩
  have hkx:=q0x hk rfl
  obtain ⟨x,hx1,hx2⟩:=hr.blk k v hv
  rw [hkx] at hx1;cases hx1
  refine (hc w0.heap.size w v vs hr.hold hx2.1 hr.below.size hx2.2 (z6a hv _ _ hu ha)).mono ?_
  rintro e w' ⟨y,xs',rfl,hR,h1,h2⟩
  have h':=h xs' hR
  rw [q1c] at h'
  exact ⟨y,β,.any,_,G,rfl,Nm.le_refl _,hr.mend hv hkx h2 h1,by simp only [AV.rel],h'⟩
theorem MendsR.mono {P:Program} {f:FuncId} {args:List AV} {G G':Mem} {E:TypeId} {sz n:Nat} {xs:List Value} {R:List Value→Prop} (h:MendsR P f args G E sz n xs R) (hG:G.le G'):MendsR P f args G' E sz n xs R :=
  fun base w v vs hw ho hb hf ha=>h base w v vs (fun b o hb=>hw b o (hG b o hb)) ho hb (fun g hg=>Mem.le.none hG (hf g hg)) ha
end Go.Proofs.YtegpkpilfgohhaaGreat
namespace Go.Proofs.YtegpkpilfgohhaaGreat
open Go.RowKit
set_option maxRecDepth 20000
theorem q11:∀ r:Edge,(encE r).length=6:=fun _=>rfl
theorem x7w:∀ r:Cr,(encC r).length=2:=fun _=>rfl
section
variable {G:Mem} {A:Option Addr} {n c:Nat} {L:Nat→LineD}
def upE (L:Nat→LineD) (x i:Nat):List Edge:=q1t L x++q2b (L x).X (L x).Y (L x).n i
theorem x7x {x i:Nat}:upE L x (i+1)=upE L x i++q40 ((L x).X i) ((L x).Y i) ((L x).X (nx (L x).n i)) ((L x).Y (nx (L x).n i)):=by
  unfold upE;rw [q2b,List.append_assoc]
theorem x9u {x i n:Nat} (hx:x<n) (hi:i≤(L x).n):(upE L x i).length≤cntN L n:=by
  unfold upE
  have h1:=q41 (L:=L) x
  have h2:=q6c (X:=(L x).X) (Y:=(L x).Y) (n:=(L x).n) i
  have h3:=z8l (L:=L) hx hi
  rw [List.length_append];omega
set_option maxHeartbeats 8000000 in
theorem x19 (h:LinesM G A n L) (hn:n≤maxLen) (hb:q1n L n=true) (hcnt:cntN L n≤1048576) :
    q57 Tryz.prog 41 [.val (.slice A n c)] G id 108 6 (q1t L n).length ((q1t L n).flatMap encE):=by
  have hok:=q2v hb
  have hn':n≤9223372036854775807:=by unfold maxLen at hn;omega
  refine q9b tab_ok Tryz.func41 (.alone fun _=>rfl) ?_
  (repeat ((try (conv=>whnf));(refine stQ ?_)))
  conv=>whnf
  refine q07 tab_ok (fun x=>x≤n) (fun (x:Nat)=>[(12,.val (.int .i64 x)),(3,.own 0)]) (fun x=>[.own 108 6 (q1t L x).length ((q1t L x).flatMap encE)]) (fun x=>n-x) 0 (Nat.zero_le _) ?_ ?_
  · refine q15 108 6 ?_
    conv=>whnf
    ((refine q0g ?_);(conv=>whnf);(refine q0h (by rfl) (by rfl) flQ ?_))
    exact q0d rfl rfl q0e
  · rintro x hx
    rcases Nat.lt_or_ge x n with h1 |h1
    · obtain ⟨p,rfl,ca⟩:=h.rows.cells h1
      have hp:=h.pts x h1
      have hcap:=h.cap x h1
      unfold maxLen at hcap
      (repeat ((try (conv=>whnf));(first |(refine ca _ ?_) |(refine stQ ?_))))
      conv=>whnf
      refine q07 tab_ok (fun i=>i≤(L x).n) (fun (i:Nat)=>[(19,.val (.int .i64 i)),(3,.own 0)]) (fun i=>[.own 108 6 (upE L x i).length ((upE L x i).flatMap encE),.cells 37 [.val (.slice (L x).A (L x).n (L x).q),.val (.bool (L x).cl)]]) (fun i=>(L x).n-i) 0 (Nat.zero_le _) ?_ ?_
      · ((refine q0g ?_);(conv=>whnf);(refine q0h (by rfl) (by rfl) flQ ?_))
        exact q0d (by simp [upE,q2b]) (by simp [upE,q2b]) (q0c (by exact flQ) q0e)
      · rintro i hi
        rcases Nat.lt_or_ge i (L x).n with h2 |h2
        · obtain ⟨p2,hp2,cb⟩:=hp.cells h2
          obtain ⟨p3,hp3,cc⟩:=hp.cells (q8q h2)
          rw [hp2] at hp3;cases hp3
          have hm:=x0k h2
          have hm':(Int.tmod ((i:Int)+1) ((L x).n:Int)).toNat=nx (L x).n i:=by rw [hm];omega
          have hlt:=q8q h2
          have hnext:=x7x (L:=L) (x:=x) (i:=i)
          have hbd:=x9u (L:=L) h1 hi
          obtain ⟨b1,b2⟩:=q2u (hok x h1 i h2)
          obtain ⟨b3,b4⟩:=q2u (hok x h1 _ hlt)
          rw [← hm'] at cc hnext b3 b4
          rw [hp2]
          generalize hu':upE L x (i+1)=u' at *
          generalize upE L x i=u at *
          unfold q40 at hnext
          clear hok hp ca h
          rcases Int.lt_trichotomy ((L x).Y (Int.tmod ((i:Int)+1) ((L x).n:Int)).toNat) ((L x).Y i) with e |e |e
          · rw [if_pos e] at hnext
            (repeat ((try (conv=>whnf));(first |(refine cb _ ?_) |(refine cc _ ?_) |((with_reducible refine mustP.mk ?_ ?_);(· rw [hm];omega)) |(refine stQ ?_))))
            refine ⟨i+1,by omega,by omega,?_⟩
            rw [hu']
            refine q0k 5 0 rfl rfl rfl rfl ?_
            conv=>whnf
            ((refine q0g ?_);(conv=>whnf);(refine q0h (by rfl) (by rfl) flQ ?_))
            exact q0d (by rw [hnext];simp) (by rw [hnext,List.flatMap_append];rfl) (q0c (by exact flQ) q0e)
          · rw [if_neg (by omega),if_neg (by omega),List.append_nil] at hnext
            (repeat ((try (conv=>whnf));(first |(refine cb _ ?_) |(refine cc _ ?_) |((with_reducible refine mustP.mk ?_ ?_);(· rw [hm];omega)) |(refine stQ ?_))))
            refine ⟨i+1,by omega,by omega,?_⟩
            rw [hu',hnext]
            ((refine q0g ?_);(conv=>whnf);(refine q0h (by rfl) (by rfl) flQ ?_))
            exact q0d rfl rfl (q0c (by exact flQ) q0e)
          · rw [if_neg (by omega),if_pos e] at hnext
            (repeat ((try (conv=>whnf));(first |(refine cb _ ?_) |(refine cc _ ?_) |((with_reducible refine mustP.mk ?_ ?_);(· rw [hm];omega)) |(refine stQ ?_))))
            refine ⟨i+1,by omega,by omega,?_⟩
            rw [hu']
            refine q0k 5 0 rfl rfl rfl rfl ?_
            conv=>whnf
            ((refine q0g ?_);(conv=>whnf);(refine q0h (by rfl) (by rfl) flQ ?_))
            exact q0d (by rw [hnext];simp) (by rw [hnext,List.flatMap_append];rfl) (q0c (by exact flQ) q0e)
        · obtain rfl:i=(L x).n:=by omega
          (repeat ((try (conv=>whnf));(refine stQ ?_)))
          refine ⟨x+1,by omega,by omega,?_⟩
          ((refine q0g ?_);(conv=>whnf);(refine q0h (by rfl) (by rfl) flQ ?_))
          exact q0d rfl rfl q0e
    · obtain rfl:x=n:=by omega
      (repeat ((try (conv=>whnf));(refine stQ ?_)))
      exact .inl ⟨0,rfl,rfl⟩
end
section
variable {G:Mem} {r:Edge} {y:Int}
theorem x9h (h:EdgeOk r) (hy:r.y≤y∧y<r.e):(-4294836224≤2*r.dy*r.x∧2*r.dy*r.x≤4294836224)∧(-8590000000≤r.dx*(2*(y-r.y)+1)∧r.dx*(2*(y-r.y)+1)≤8590000000):=by
  obtain ⟨h1,h2,h3,h4,h5,h6,h7⟩:=h
  have e1:=q04 (a:=2*r.dy) (b:=r.x) (A:=131068) (B:=32767) (by omega) (by omega)
  have e2:=q04 (a:=r.dx) (b:=2*(y-r.y)+1) (A:=65534) (B:=131069) (by omega) (by omega)
  omega
set_option maxHeartbeats 2000000 in
theorem x2a (h:EdgeOk r) (hy:r.y≤y∧y<r.e):Gives Tryz.prog 79 [.agg [.val (.int .i64 r.x),.val (.int .i64 r.y),.val (.int .i64 r.e),.val (.int .i64 r.dx),.val (.int .i64 r.dy),.val (.int .i64 r.s)],.val (.int .i64 y)] G (.val (.int .i64 (q68 r y))):=by
  obtain ⟨b1,b2⟩:=x9h h hy
  have hq:=x5d (a:=0-numE r y) (b:=2*r.dy) (G:=G) (by unfold numE;have:=h.dy;omega) (by have:=h.dy;omega)
  have hqb:-17179869184≤(0-numE r y)/(2*r.dy)∧(0-numE r y)/(2*r.dy)≤17179869184:=by
    have hd:=h.dy
    have hn:-12884936224≤numE r y∧numE r y≤12884936224:=by unfold numE;omega
    generalize numE r y=z at *
    have h1:0<2*r.dy:=by omega
    constructor
    · rw [Int.le_ediv_iff_mul_le h1]
      have:17179869184*(2*r.dy)≥17179869184*2:=Int.mul_le_mul_of_nonneg_left (by omega) (by omega)
      omega
    · have:(0-z)/(2*r.dy)<17179869185:=by
        rw [Int.ediv_lt_iff_lt_mul h1]
        have:17179869185*(2*r.dy)≥17179869185*2:=Int.mul_le_mul_of_nonneg_left (by omega) (by omega)
        omega
      omega
  rw [show q68 r y=0-(0-numE r y)/(2*r.dy) by unfold q68;rw [Int.zero_sub,Int.zero_sub]]
  unfold numE at hq hqb ⊢
  have hd:=h.dy
  have h2:=h.y
  have h3:=h.e
  have h4:=h.x
  generalize (0-(2*r.dy*r.x+r.dx*(2*(y-r.y)+1)-r.dy))/(2*r.dy)=q at *
  clear h
  refine q06 tab_ok Tryz.func79 ?_
  (repeat ((try (conv=>whnf));(first |(refine stQ ?_) |(with_reducible first |refine q0b (fun vs w=>by kernel_rfl) (by kernel_rfl) (hq) ?_ |refine q0a (fun vs w=>by kernel_rfl) (by kernel_rfl) (hq) ?_))))
  exact ⟨rfl,rfl⟩
end
end Go.Proofs.YtegpkpilfgohhaaGreat
namespace Go.Proofs.YtegpkpilfgohhaaGreat
open Go.RowKit
set_option maxRecDepth 20000
abbrev q2o:AV:=.val (.func (.func 63) #[] #[])
theorem q1j {l:List Edge} {z:Int} {i:Nat} (hz:z.toNat=i) (h:i<l.length) (K:List Value→Prop) (k:K (encE (gAt l i))):OwnCells (l.flatMap encE) (z.toNat * 6) 6 K:=by
  rw [hz];exact q64 q11 (z7c h) K k
theorem q5q {l:List Edge} {z:Int} {i:Nat} (hz:z.toNat=i) (h:i<l.length) {xs:List Value} (hx:xs.length=(l.flatMap encE).length):z.toNat * 6+6≤xs.length:=by
  rw [hx,q2w q11];omega
theorem q97 {l:List Edge} {z:Int} {i:Nat} (hz:z.toNat=i) (h:i<l.length) (x:Edge):((l.flatMap encE).take (z.toNat * 6)++encE x++(l.flatMap encE).drop (z.toNat * 6+6)).length=(l.flatMap encE).length:=by
  subst hz
  rw [q74 q11 l _ x h,q2w q11,q2w q11];simp
theorem z8t {l:List Edge} {zi zj:Int} {i j:Nat} (hi:zi.toNat=i) (hj:zj.toNat=j) (h1:i<l.length) (h2:j<l.length) :
    ((l.flatMap encE).take (zi.toNat * 6)++encE (gAt l j)++(l.flatMap encE).drop (zi.toNat * 6+6)).take (zj.toNat * 6)++encE (gAt l i)++((l.flatMap encE).take (zi.toNat * 6)++encE (gAt l j)++(l.flatMap encE).drop (zi.toNat * 6+6)).drop (zj.toNat * 6+6)=(swp l i j).flatMap encE:=by
  rw [hi,hj,q74 q11 l i _ h1,q74 q11 _ j _ (by simpa using h2)];rfl
section
variable {G:Mem}
set_option maxHeartbeats 4000000 in
theorem z6i {l:List Edge} {a b c:Nat} (hab:a+c≤b) (hb:b+c≤l.length) (hl:l.length≤4000000) :
    MendsR Tryz.prog 111 [.own 0,.val (.int .i64 a),.val (.int .i64 b),.val (.int .i64 c),q2o] G 108 6 l.length (l.flatMap encE) fun xs=>∃ l',xs=l'.flatMap encE∧RngAt l l' a b c:=by
  refine q77 tab_ok Tryz.func111 fun G' hG=>?_
  (repeat ((try (conv=>whnf));(refine stQ ?_)))
  conv=>whnf
  refine q2k tab_ok (fun (i:Nat) (cur:List Edge)=>i≤c∧RngAt l cur a b i) (fun i cur=>[(10,.val (.int .i64 i))]) (fun i cur=>[.own 108 6 l.length (cur.flatMap encE)]) (fun i cur=>c-i) 0 l ⟨Nat.zero_le _,RngAt.start l a b⟩ ?_ ?_
  · ((refine q0g ?_);(conv=>whnf);(refine q0h (by rfl) (by rfl) flQ ?_))
    exact q0d rfl rfl q0e
  · rintro i cur ⟨hi,hc⟩
    have hlen:=hc.perm.length_eq
    rcases Nat.lt_or_ge i c with h1 |h1
    · have hnx:=hc.next (by omega) (by omega)
      (repeat ((try (conv=>whnf));(first |(with_reducible refine q5g tab_ok (by kernel_rfl) 22 [0] [(12,0),(13,0),(18,0),(19,0),(20,0)] (by decide +kernel) ?_) |(refine q1j (i:=b+i) (by omega) (by omega) _ ?_) |(refine q1j (i:=a+i) (by omega) (by omega) _ ?_) |(refine stQ ?_))))
      conv=>whnf
      refine mustP.mk (q5q (l:=cur) (i:=a+i) (by omega) (by omega) rfl) ?_
      (repeat ((try (conv=>whnf));(refine stQ ?_)))
      conv=>whnf
      refine mustP.mk (q5q (l:=cur) (i:=b+i) (by omega) (by omega) (q97 (i:=a+i) (by omega) (by omega) _)) ?_
      (repeat ((try (conv=>whnf));(refine stQ ?_)))
      refine ⟨i+1,_,⟨by omega,hnx⟩,by omega,?_⟩
      ((refine q0g ?_);(conv=>whnf);(refine q0h (by rfl) (by rfl) flQ ?_))
      exact q0d rfl (z8t (by omega) (by omega) (by omega) (by omega)) q0e
    · obtain rfl:i=c:=by omega
      (repeat ((try (conv=>whnf));(refine stQ ?_)))
      exact ⟨_,rfl,cur,rfl,hc⟩
end
end Go.Proofs.YtegpkpilfgohhaaGreat
namespace Go.Proofs.YtegpkpilfgohhaaGreat
open Go.RowKit
set_option maxRecDepth 20000
def cmpE (a b:Edge):Int:=if a.y<b.y then -1 else if b.y<a.y then 1 else 0
theorem q9g {a b:Edge}:cmpE a b<0↔a.y<b.y:=by unfold cmpE;split <;> (try split) <;> omega
theorem z03 (a b:Edge):-1≤cmpE a b∧cmpE a b≤1:=by unfold cmpE;split <;> (try split) <;> omega
abbrev x8k (r:Edge):AV:=.agg [.val (.int .i64 r.x),.val (.int .i64 r.y),.val (.int .i64 r.e),.val (.int .i64 r.dx),.val (.int .i64 r.dy),.val (.int .i64 r.s)]
section
variable {G:Mem}
set_option maxHeartbeats 2000000 in
theorem q7b (a b:Edge):Gives Tryz.prog 63 [x8k a,x8k b] G (.val (.int .i64 (cmpE a b))):=by
  refine q06 tab_ok Tryz.func63 ?_
  unfold cmpE
  by_cases h1:a.y<b.y
  · rw [if_pos h1]
    (repeat ((try (conv=>whnf));(first |(refine stQ ?_) |(with_reducible first |refine q0f tab_ok Tryz.func64 (fun vs w=>by kernel_rfl) (by rfl) ?_ |refine q0f tab_ok Tryz.func77 (fun vs w=>by kernel_rfl) (by rfl) ?_))))
    exact ⟨rfl,rfl⟩
  · rw [if_neg h1]
    by_cases h2:b.y<a.y
    · rw [if_pos h2]
      (repeat ((try (conv=>whnf));(first |(refine stQ ?_) |(with_reducible first |refine q0f tab_ok Tryz.func64 (fun vs w=>by kernel_rfl) (by rfl) ?_ |refine q0f tab_ok Tryz.func77 (fun vs w=>by kernel_rfl) (by rfl) ?_))))
      exact ⟨rfl,rfl⟩
    · rw [if_neg h2]
      (repeat ((try (conv=>whnf));(first |(refine stQ ?_) |(with_reducible first |refine q0f tab_ok Tryz.func64 (fun vs w=>by kernel_rfl) (by rfl) ?_ |refine q0f tab_ok Tryz.func77 (fun vs w=>by kernel_rfl) (by rfl) ?_))))
      exact ⟨rfl,rfl⟩
theorem z10 {l:List Edge} {zi zj:Int} {i j:Nat} (hi:zi.toNat=i) (hj:zj.toNat=j) (h1:i<l.length) (h2:j<l.length) {e:TypeId} {n:Nat} :
    hpLe 1 [.own e 6 n (((l.flatMap encE).take (zi.toNat * 6)++encE (gAt l j)++(l.flatMap encE).drop (zi.toNat * 6+6)).take (zj.toNat * 6)++encE (gAt l i)++((l.flatMap encE).take (zi.toNat * 6)++encE (gAt l j)++(l.flatMap encE).drop (zi.toNat * 6+6)).drop (zj.toNat * 6+6))] [.own e 6 n ((swp l i j).flatMap encE)] :=
  q0d rfl (z8t hi hj h1 h2) q0e
set_option maxHeartbeats 8000000 in
theorem z6j {l:List Edge} {a b:Nat} (hab:a≤b) (hb:b≤l.length) (hl:l.length≤4000000) :
    MendsR Tryz.prog 93 [.own 0,.val (.int .i64 a),.val (.int .i64 b),q2o] G 108 6 l.length (l.flatMap encE) fun xs=>∃ l',xs=l'.flatMap encE∧SameIn l l' a b∧srtK Edge.y l' a b:=by
  refine q77 tab_ok Tryz.func93 fun G' hG=>?_
  (repeat ((try (conv=>whnf));(refine stQ ?_)))
  conv=>whnf
  refine q2k tab_ok (fun (i:Nat) (cur:List Edge)=>i≤b-a∧SameIn l cur a b∧srtK Edge.y cur a (a+1+i)) (fun i cur=>[(8,.val (.int .i64 ((a+1+i:Nat):Int)))]) (fun i cur=>[.own 108 6 l.length (cur.flatMap encE)]) (fun i cur=>b-a-i) 0 l ⟨Nat.zero_le _,SameIn.refl _ _ _,srtK.one (by omega)⟩ ?_ ?_
  · ((refine q0g ?_);(conv=>whnf);(refine q0h (by rfl) (by rfl) flQ ?_))
    exact q0d rfl rfl q0e
  · rintro i cur ⟨hi,hc,hs⟩
    have hlen:=hc.len
    rcases Nat.lt_or_ge (a+1+i) b with h1 |h1
    · (repeat ((try (conv=>whnf));(refine stQ ?_)))
      conv=>whnf
      refine q2k tab_ok (fun (j:Nat) (c2:List Edge)=>InsAt Edge.y cur c2 a (a+1+i) j) (fun j c2=>[(9,.val (.int .i64 j))]) (fun j c2=>[.own 108 6 l.length (c2.flatMap encE)]) (fun j c2=>j) (a+1+i) cur (InsAt.start hs (by omega)) ?_ ?_
      · ((refine q0g ?_);(conv=>whnf);(refine q0h (by rfl) (by rfl) flQ ?_))
        exact q0d rfl rfl q0e
      · rintro j c2 hj
        have hlen2:=hj.same.len
        have hle:=hj.le
        rcases Nat.lt_or_ge a j with h2 |h2
        · have hg:=q7b (G:=G') (gAt c2 j) (gAt c2 (j-1))
          have hbd:=z03 (gAt c2 j) (gAt c2 (j-1))
          have hng:=q9g (a:=gAt c2 j) (b:=gAt c2 (j-1))
          generalize cmpE (gAt c2 j) (gAt c2 (j-1))=z at *
          by_cases h3:(gAt c2 j).y<(gAt c2 (j-1)).y
          · have hz:=hng.2 h3
            have hnx:=hj.next (by omega) h2 h3
            (repeat ((try (conv=>whnf));(first |(refine q1j (i:=j) (by omega) (by omega) _ ?_) |(refine q1j (i:=j-1) (by omega) (by omega) _ ?_) |(with_reducible first |refine q24 tab_ok (by kernel_rfl) 14 [] (by decide +kernel) ?_ |refine q5g tab_ok (by kernel_rfl) 16 [0] [(8,0),(9,0),(12,0),(13,0),(14,0)] (by decide +kernel) ?_) |(refine stQ ?_) |(with_reducible first |refine q0b (fun vs w=>by kernel_rfl) (by kernel_rfl) (hg) ?_ |refine q0a (fun vs w=>by kernel_rfl) (by kernel_rfl) (hg) ?_))))
            conv=>whnf
            refine mustP.mk (q5q (l:=c2) (i:=j) (by omega) (by omega) rfl) ?_
            (repeat ((try (conv=>whnf));(refine stQ ?_)))
            conv=>whnf
            refine mustP.mk (q5q (l:=c2) (i:=j-1) (by omega) (by omega) (q97 (i:=j) (by omega) (by omega) _)) ?_
            (repeat ((try (conv=>whnf));(refine stQ ?_)))
            refine ⟨j-1,_,hnx,by omega,?_⟩
            ((refine q0g ?_);(conv=>whnf);(refine q0h (by rfl) (by rfl) flQ ?_))
            exact z10 (by omega) (by omega) (by omega) (by omega)
          · have hz:¬ z<0:=fun h=>h3 (hng.1 h)
            have hfin:=hj.fin (.inr (by omega))
            (repeat ((try (conv=>whnf));(first |(refine q1j (i:=j) (by omega) (by omega) _ ?_) |(refine q1j (i:=j-1) (by omega) (by omega) _ ?_) |(with_reducible first |refine q24 tab_ok (by kernel_rfl) 14 [] (by decide +kernel) ?_ |refine q5g tab_ok (by kernel_rfl) 16 [0] [(8,0),(9,0),(12,0),(13,0),(14,0)] (by decide +kernel) ?_) |(refine stQ ?_) |(with_reducible first |refine q0b (fun vs w=>by kernel_rfl) (by kernel_rfl) (hg) ?_ |refine q0a (fun vs w=>by kernel_rfl) (by kernel_rfl) (hg) ?_))))
            refine ⟨i+1,c2,⟨by omega,hc.trans (hj.same.wide (Nat.le_refl _) (by omega)),hfin⟩,by omega,?_⟩
            ((refine q0g ?_);(conv=>whnf);(refine q0h (by rfl) (by rfl) flQ ?_))
            exact q0d rfl rfl q0e
        · have hfin:=hj.fin (.inl (by omega))
          (repeat ((try (conv=>whnf));(first |(with_reducible refine q24 tab_ok (by kernel_rfl) 14 [] (by decide +kernel) ?_) |(refine stQ ?_))))
          refine ⟨i+1,c2,⟨by omega,hc.trans (hj.same.wide (Nat.le_refl _) (by omega)),hfin⟩,by omega,?_⟩
          ((refine q0g ?_);(conv=>whnf);(refine q0h (by rfl) (by rfl) flQ ?_))
          exact q0d rfl rfl q0e
    · (repeat ((try (conv=>whnf));(refine stQ ?_)))
      exact ⟨_,rfl,cur,rfl,hc,hs.less (Nat.le_refl _) (by omega)⟩
end
end Go.Proofs.YtegpkpilfgohhaaGreat
namespace Go.Proofs.YtegpkpilfgohhaaGreat
open Go.RowKit
set_option maxRecDepth 20000
section
variable {G:Mem}
theorem q9h {l:List Edge} {a b c:Nat} {za zb zc:Int} (ha:za=a) (hb':zb=b) (hc:zc=c) (hab:a+c≤b) (hb:b+c≤l.length) (hl:l.length≤4000000) :
    MendsR Tryz.prog 111 [.own 0,.val (.int .i64 za),.val (.int .i64 zb),.val (.int .i64 zc),q2o] G 108 6 l.length (l.flatMap encE) fun xs=>∃ l',xs=l'.flatMap encE∧RngAt l l' a b c:=by
  subst ha;subst hb';subst hc;exact z6i hab hb hl
set_option maxHeartbeats 8000000 in
theorem x1d {l:List Edge} {a m b:Nat} (ham:a<m) (hmb:m<b) (hb:b≤l.length) (hl:l.length≤4000000) :
    MendsR Tryz.prog 101 [.own 0,.val (.int .i64 a),.val (.int .i64 m),.val (.int .i64 b),q2o] G 108 6 l.length (l.flatMap encE) fun xs=>∃ l',xs=l'.flatMap encE∧l'.Perm l∧∀ t,gAt l' t=rotF l a m b t:=by
  refine q77 tab_ok Tryz.func101 fun G' hG=>?_
  (repeat ((try (conv=>whnf));(refine stQ ?_)))
  conv=>whnf
  refine z2q tab_ok (fun (i j:Nat) (cur:List Edge)=>RotAt l cur a m b i j) (fun i j cur=>[(10,.val (.int .i64 i)),(11,.val (.int .i64 j))]) (fun i j cur=>[.own 108 6 l.length (cur.flatMap encE)]) (fun i j cur=>i+j) (m-a) (b-m) l (RotAt.start l ham hmb) ?_ ?_
  · ((refine q0g ?_);(conv=>whnf);(refine q0h (by rfl) (by rfl) flQ ?_))
    exact q0d rfl rfl q0e
  · rintro i j cur hc
    have hlen:=hc.perm.length_eq
    obtain ⟨p1,p2,p3,p4⟩:=hc.pos
    rcases Nat.lt_trichotomy i j with e |e |e
    · (repeat ((try (conv=>whnf));(refine stQ ?_)))
      conv=>whnf
      refine q1i [.own 0,.val (.int .i64 (m-i:Int)),.val (.int .i64 (m+j-i:Int)),.val (.int .i64 i),q2o] 0 0 (fun vs w=>by kernel_rfl) (by rfl) rfl (by rfl) (by rw [← hlen];rfl) (q9h (l:=cur) (a:=m-i) (b:=m+j-i) (c:=i) (by omega) (by omega) rfl (by omega) (by omega) (by omega)) ?_
      rintro _ ⟨c2,rfl,hr⟩
      have hnx:=hc.right e hr
      (repeat ((try (conv=>whnf));(refine stQ ?_)))
      refine ⟨i,j-i,c2,hnx,by omega,?_⟩
      rw [hlen]
      ((refine q0g ?_);(conv=>whnf);(refine q0h (by rfl) (by rfl) flQ ?_))
      exact q0d rfl rfl q0e
    · subst e
      (repeat ((try (conv=>whnf));(refine stQ ?_)))
      conv=>whnf
      refine q1i [.own 0,.val (.int .i64 (m-i:Int)),.val (.int .i64 m),.val (.int .i64 i),q2o] 0 0 (fun vs w=>by kernel_rfl) (by rfl) rfl (by rfl) (by rw [← hlen];rfl) (q9h (l:=cur) (a:=m-i) (b:=m) (c:=i) (by omega) rfl rfl (by omega) (by omega) (by omega)) ?_
      rintro _ ⟨c2,rfl,hr⟩
      have hnx:=hc.fin hr
      (repeat ((try (conv=>whnf));(refine stQ ?_)))
      rw [hlen]
      exact ⟨_,rfl,c2,rfl,hr.perm.trans hc.perm,hnx⟩
    · (repeat ((try (conv=>whnf));(refine stQ ?_)))
      conv=>whnf
      refine q1i [.own 0,.val (.int .i64 (m-i:Int)),.val (.int .i64 m),.val (.int .i64 j),q2o] 0 0 (fun vs w=>by kernel_rfl) (by rfl) rfl (by rfl) (by rw [← hlen];rfl) (q9h (l:=cur) (a:=m-i) (b:=m) (c:=j) (by omega) rfl rfl (by omega) (by omega) (by omega)) ?_
      rintro _ ⟨c2,rfl,hr⟩
      have hnx:=hc.left e hr
      (repeat ((try (conv=>whnf));(refine stQ ?_)))
      refine ⟨i-j,j,c2,hnx,by omega,?_⟩
      rw [hlen]
      ((refine q0g ?_);(conv=>whnf);(refine q0h (by rfl) (by rfl) flQ ?_))
      exact q0d rfl rfl q0e
end
end Go.Proofs.YtegpkpilfgohhaaGreat
