/-
  Merged: XEz, XRow.
-/
import Derived.Test.YtegpkpilfgohhaaEng2
set_option linter.unusedVariables false
set_option linter.unusedSimpArgs false
set_option linter.unnecessarySimpa false
namespace Go.Proofs.Ytegpkpilfgohhaa
open Go.RowKit
theorem q2h {P:Program} {T:Tab} (hT:TOk P T) {n0:Nat} {b:Code} {fr:List AV} {hp:List Blk} {G:Mem} {Q:Post} {ι κ:Type} (inv:ι→κ→Prop) (S:ι→κ→List (Nat × AV)) (H:ι→κ→List Blk) (μ:ι→κ→Nat) (i0:ι) (k0:κ) (h0:inv i0 k0)
    (start:Le n0 fr hp G (q28 b fr (S i0 k0)) (H i0 k0) G)
    (round:∀ i k,inv i k→q6p (q15 b []) fun ws=>q49 ws 0 fr fun fr1=>q37 fr1 (S i k) fun fr2=>q6m P T n0 b fr2 (H i k) G fun e fr' hp' G'=>match e with
      | .normal=>∃ i' k',inv i' k'∧μ i' k'<μ i k∧Le n0 fr' hp' G' (q28 b fr (S i' k')) (H i' k') G
      | e=>Q e fr' hp' G'):LoopP P n0 b fr hp G Q:=by
  refine q90 hT (fun i:ι × κ=>inv i.1 i.2) (fun i=>q28 b fr (S i.1 i.2)) (fun i=>H i.1 i.2) (fun _=>G) (fun i=>μ i.1 i.2) ⟨(i0,k0),h0,start⟩ fun i hi=>?_
  have h:=round i.1 i.2 hi
  rw [q4s,q36,q3q] at h
  refine cast (congrArg _ ?_) h
  funext e fr' hp' G'
  cases e with
  | normal=>exact propext ⟨fun ⟨i',k',h1,h2,h3⟩=>⟨(i',k'),h1,h2,h3⟩,fun ⟨p,h1,h2,h3⟩=>⟨p.1,p.2,h1,h2,h3⟩⟩
  | _=>rfl
theorem q8u {P:Program} {T:Tab} (hT:TOk P T) {n0:Nat} {b:Code} {fr:List AV} {hp:List Blk} {G:Mem} {Q:Post} {ι κ ν:Type} (inv:ι→κ→ν→Prop) (S:ι→κ→ν→List (Nat × AV)) (H:ι→κ→ν→List Blk) (μ:ι→κ→ν→Nat) (i0:ι) (k0:κ) (m0:ν) (h0:inv i0 k0 m0)
    (start:Le n0 fr hp G (q28 b fr (S i0 k0 m0)) (H i0 k0 m0) G)
    (round:∀ i k m,inv i k m→q6p (q15 b []) fun ws=>q49 ws 0 fr fun fr1=>q37 fr1 (S i k m) fun fr2=>q6m P T n0 b fr2 (H i k m) G fun e fr' hp' G'=>match e with
      | .normal=>∃ i' k' m',inv i' k' m'∧μ i' k' m'<μ i k m∧Le n0 fr' hp' G' (q28 b fr (S i' k' m')) (H i' k' m') G
      | e=>Q e fr' hp' G'):LoopP P n0 b fr hp G Q:=by
  refine q2h hT (fun (i:ι) (q:κ × ν)=>inv i q.1 q.2) (fun i q=>S i q.1 q.2) (fun i q=>H i q.1 q.2) (fun i q=>μ i q.1 q.2) i0 (k0,m0) h0 start fun i q hi=>?_
  have h:=round i q.1 q.2 hi
  rw [q4s,q36,q3q] at h ⊢
  refine cast (congrArg _ ?_) h
  funext e fr' hp' G'
  cases e with
  | normal=>exact propext ⟨fun ⟨i',k',m',h1,h2,h3⟩=>⟨i',(k',m'),h1,h2,h3⟩,fun ⟨i',p,h1,h2,h3⟩=>⟨i',p.1,p.2,h1,h2,h3⟩⟩
  | _=>rfl
def q1z (w:World) (o:Option Nat):Mem:=fun b=>if o=some b then none else w.heap[b]?
theorem z4o {P:Program} {T:Tab} (hT:TOk P T) {f:FuncId} {fn:Func} (hfn:P.funcs[f]? = some fn) {post:List AV} {G:Mem} {E:TypeId} {sz n:Nat} {xs:List Value} {n':Nat} {xs':List Value} (hn':0<n')
    (h:∀ G',G.le G'→q40 P T 1 fn (.own 0::post) [.own E sz n xs] G' fun v hp' _=>∃ k,v=.own k∧nthB hp' k=.own E sz n' xs'):q86 P f post G E sz n xs n' xs':=by
  intro base w v ts hG hown hbase hfree hts
  have hle:G.le (q1z w (q0c v)):=fun b o hb=>by
    unfold q1z
    by_cases h1:q0c v=some b
    · rw [hfree b h1] at hb;cases hb
    · rw [if_neg h1];exact hG b o hb
  have hmb:∀ b o,q1z w (q0c v) b=some o→w.heap[b]? = some o:=fun b o hb=>by
    unfold q1z at hb
    split at hb
    · cases hb
    · exact hb
  have hsl:=q1i hown
  have hw0:Below base {w with heap:=w.heap.extract 0 base} w:=by
    refine ⟨rfl,rfl,rfl,?_,fun k hk=>?_⟩
    · simp;omega
    · show w.heap[k]? = (w.heap.extract 0 base)[k]?
      rw [Array.getElem?_extract];simp;intro h;omega
  have hsz:({w with heap:=w.heap.extract 0 base}:World).heap.size=base:=by
    show (w.heap.extract 0 base).size=base
    simp;omega
  have hr:HR {w with heap:=w.heap.extract 0 base} (q1z w (q0c v)) (fun k=>if k=0 then some v else none) [.own E sz n xs] (q1z w (q0c v)) w:=by
    refine ⟨by rw [hsz];exact hw0,hmb,Mem.le_refl _,fun b o hb=>.inl hb,fun k y hk=>?_,fun k k' y y' x x' b hne hk hk'=>?_,fun k S hk=>(by cases k <;> simp at hk)⟩
    · by_cases h0:k=0
      · subst h0
        simp at hk;subst hk
        refine ⟨_,rfl,?_⟩
        rw [hsz]
        refine ⟨hown,fun g hg=>?_⟩
        unfold q1z;rw [if_pos hg]
      · simp [h0] at hk
    · by_cases h0:k=0
      · have:k'≠0:=by omega
        simp [this] at hk'
      · simp [h0] at hk
  refine (q7p hT hfn (hp:=[.own E sz n xs]) (h _ hle) (.inr fun _ _ _ _ _ h=>h) _ _ _ w (v::ts).toArray hr ?_).mono ?_
  · simp only [AV.rels]
    refine ⟨v,ts,rfl,?_,AV.rels_mono (q21 _) _ _ hts⟩
    simp only [AV.rel];exact ⟨by simp,hsl⟩
  · rintro e w' ⟨y,β',v',hp',G',rfl,h1,h2,h3,k,rfl,hk⟩
    simp only [AV.rel] at h3
    obtain ⟨x,hx1,hx2⟩:=h2.blk k y h3.1
    rw [q0l hk rfl] at hx1;cases hx1
    rw [hsz] at hx2
    have hold:∀ b,b<w.heap.size→q0c v≠some b→w'.heap[b]? = w.heap[b]?∧∃ o,G' b=some o:=fun b hb hne=>by
      have h4:q1z w (q0c v) b=some w.heap[b]:=by unfold q1z;rw [if_neg hne];exact Array.getElem?_eq_getElem hb
      have h5:=h2.sub b _ h4
      exact ⟨by rw [h2.hold b _ h5,Array.getElem?_eq_getElem hb],_,h5⟩
    have hat:∀ b,q0c y=some b→w.heap.size≤b∨q0c v=some b:=fun b hb=>by
      by_cases h4:w.heap.size≤b
      · exact .inl h4
      · right
        apply Classical.byContradiction
        intro hne
        obtain ⟨_,o,h5⟩:=hold b (by omega) hne
        rw [hx2.2 b hb] at h5;cases h5
    refine ⟨y,rfl,hx2.1,⟨h2.below.os,h2.below.tape,h2.below.output,?_,fun b hb hne=>(hold b hb (fun e=>hne e.symm)).1⟩,hat⟩
    rcases Nat.eq_zero_or_pos w.heap.size with h0 |h0
    · omega
    · by_cases h4:q0c v=some (w.heap.size-1)
      · rcases hx2.1.2 with ⟨_,h5⟩ |⟨g,cap,cur,rfl,h5,h6,_⟩
        · omega
        · have h7:=(Array.getElem?_eq_some_iff.1 h6).1
          rcases hat g rfl with h8 |h8
          · omega
          · rw [h4] at h8;cases h8;omega
      · have h5:=(hold (w.heap.size-1) (by omega) h4).1
        rw [Array.getElem?_eq_getElem (show w.heap.size-1<w.heap.size by omega)] at h5
        have:=(Array.getElem?_eq_some_iff.1 h5).1
        omega
theorem q61 {P:Program} {f:FuncId} (hen:∀ vs w,(callFunc f vs).run P w=.ok (.enter f vs) w) {k:Nat} {post:List AV} {hp:List Blk} {G:Mem} {K:AV→List Blk→Mem→Prop} {E:TypeId} {sz n:Nat} {xs:List Value} {n':Nat} {xs':List Value}
    (hk:nthB hp k=.own E sz n xs) (hu:AV.unders 0 post=true) (hc:q86 P f post G E sz n xs n' xs') (h:setF hp k .gone fun hp1=>lenF hp1 fun q=>catF hp1 [.own E sz n' xs'] fun hp'=>K (.own q) hp' G):CallP P f (.own k::post) hp G K:=by
  rw [q06] at h
  have h0:=q04 h
  rw [q0t] at h0
  refine ⟨hen,fun w0 G0 β w vs hr ha=>?_⟩
  simp only [AV.rels] at ha
  obtain ⟨v,ts,hvs,hv,hts⟩:=ha
  have e:vs=(v::ts).toArray:=by rw [← hvs]
  subst e
  simp only [AV.rel] at hv
  obtain ⟨x,hx1,hx2⟩:=hr.blk k v hv.1
  rw [q0l hk rfl] at hx1;cases hx1
  refine (hc w0.heap.size w v ts hr.hold hx2.1 hr.below.size hx2.2 (q34 hu hts)).mono ?_
  rintro e w' ⟨y,rfl,h1,h2,h3⟩
  have hlen:(hp.set k .gone).length=hp.length:=by simp
  rw [hlen] at h0
  refine ⟨y,_,_,_,G,rfl,Nm.le_put y (hr.fresh (Nat.le_refl _)),hr.moveName hv.1 (q0l hk rfl) rfl h2 h3 rfl (u:=.own E sz n' xs') ⟨h1,fun g hg=>?_⟩,by simp only [AV.rel];exact ⟨Nm.put_same _ _ _,q1i h1⟩,h0⟩
  rcases h3 g hg with h7 |h7
  · exact q4p hr.hold h7
  · exact hx2.2 g h7
theorem z4p {P:Program} {f:FuncId} {k:Nat} {post:List AV} {hp0:List Blk} {G:Mem} {K:Blk→Prop} {E:TypeId} {sz n:Nat} {xs:List Value} {n':Nat} {xs':List Value} (hk:nthB hp0 k=.own E sz n xs) (he:∀ vs w,(callFunc f vs).run P w=.ok (.enter f vs) w) (hu:AV.unders 0 post=true) (hc:q86 P f post G E sz n xs n' xs') (h:K (.own E sz n' xs')):TakeP P f k post hp0 G K :=
  .mk E sz n xs n' xs' hk he hu hc h
end Go.Proofs.Ytegpkpilfgohhaa
namespace Go.Proofs.Ytegpkpilfgohhaa
open Go.RowKit
def q3e (c:Nat→List Value):Nat→List Value
  | 0=>[]
  | n+1=>q3e c n++c n
theorem q59 {c:Nat→List Value} {sz:Nat}:∀ {n:Nat},(∀ x,x<n→(c x).length=sz)→(q3e c n).length=n*sz
  | 0,_=>by simp [q3e]
  | n+1,h=>by
    rw [q3e,List.length_append,q59 (n:=n) (fun x hx=>h x (by omega)),h n (by omega),Nat.add_mul,Nat.one_mul]
theorem z2w {c:Nat→List Value} {sz:Nat}:∀ {n:Nat},(∀ x,x<n→(c x).length=sz)→∀ {x j:Nat},x<n→j<sz→(q3e c n)[x*sz+j]? = (c x)[j]?
  | 0,_,_,_,hx,_=>by omega
  | n+1,h,x,j,hx,hj=>by
    have hl:=q59 (n:=n) (fun x hx=>h x (by omega))
    rw [q3e]
    rcases Nat.lt_or_ge x n with h1 |h1
    · have:x*sz+j<n*sz:=by
        have:=Nat.mul_le_mul_right sz (show x+1≤n by omega)
        rw [Nat.add_mul,Nat.one_mul] at this;omega
      rw [List.getElem?_append_left (by omega)]
      exact z2w (fun x hx=>h x (by omega)) h1 hj
    · obtain rfl:x=n:=by omega
      rw [List.getElem?_append_right (by omega),hl]
      congr 1;omega
structure ElsM (G:Mem) (A:Option Addr) (sz n:Nat) (c:Nat→List Value):Prop where
  len:∀ x,x<n→(c x).length=sz
  at_:∀ x,x<n→∃ b off,A=some ⟨b,off,none⟩∧∀ j v,(c x)[j]? = some v→G.cell? ⟨b,off+x*sz+j,none⟩=some v
section
variable {G G':Mem} {A:Option Addr} {sz n:Nat} {c d:Nat→List Value}
theorem ElsM.mono (h:ElsM G A sz n c) (hle:G.le G'):ElsM G' A sz n c:=⟨h.len,fun x hx=>by
  obtain ⟨b,off,h1,h2⟩:=h.at_ x hx
  exact ⟨b,off,h1,fun j v hj=>hle.cell (h2 j v hj)⟩⟩
theorem ElsM.less (h:ElsM G A sz n c) {k:Nat} (hk:k≤n):ElsM G A sz k c:=⟨fun x hx=>h.len x (by omega),fun x hx=>h.at_ x (by omega)⟩
theorem ElsM.congr (h:ElsM G A sz n c) (e:∀ x,x<n→c x=d x):ElsM G A sz n d :=
  ⟨fun x hx=>by rw [← e x hx];exact h.len x hx,fun x hx=>by rw [← e x hx];exact h.at_ x hx⟩
theorem ElsM.none:ElsM G A sz 0 c:=⟨fun x hx=>by omega,fun x hx=>by omega⟩
theorem ElsM.drop (h:ElsM G A sz n c) {k:Nat} (hk:k≤n):ElsM G (A.map fun p=>p.add (k*sz)) sz (n-k) (fun x=>c (k+x)) :=
  ⟨fun x hx=>h.len _ (by omega),fun x hx=>by
    obtain ⟨b,off,rfl,h2⟩:=h.at_ (k+x) (by omega)
    refine ⟨b,off+k*sz,by simp [q0r],fun j v hj=>?_⟩
    have:=h2 j v hj
    rwa [show off+k*sz+x*sz+j=off+(k+x)*sz+j by rw [Nat.add_mul];omega]⟩
theorem ElsM.cells (h:ElsM G A sz n c) {x:Nat} (hx:x<n):∃ p:Addr,A=some p∧∀ K:List Value→Prop,K (c x)→OldCells G (p.add (x*sz)) sz K:=by
  obtain ⟨b,off,rfl,h2⟩:=h.at_ x hx
  refine ⟨_,rfl,fun K k=>q3w _ (h.len x hx) (fun j u hj=>?_) k⟩
  rw [q0r,q0r]
  exact h2 j u hj
theorem ElsM.cell (h:ElsM G A sz n c) {x j:Nat} {v:Value} (hx:x<n) (hj:(c x)[j]? = some v):∃ p:Addr,A=some p∧G.cell? (Addr.add (p.add (x*sz)) j)=some v:=by
  obtain ⟨b,off,rfl,h2⟩:=h.at_ x hx
  exact ⟨_,rfl,by rw [q0r,q0r];exact h2 j v hj⟩
theorem ElsM.frozen (hl:∀ x,x<n→(c x).length=sz) (h:q3e c n=[]∨∃ b,A=some ⟨b,0,Option.none⟩∧∀ (j:Nat) u,(q3e c n)[j]? = some u→G.cell? ⟨b,j,Option.none⟩=some u) (hA:0<sz):ElsM G A sz n c:=by
  refine ⟨hl,fun x hx=>?_⟩
  rcases h with h |⟨b,rfl,h⟩
  · have:=q59 hl
    rw [h] at this
    have h1:0<n*sz:=Nat.mul_pos (by omega) hA
    simp at this;omega
  · refine ⟨b,0,rfl,fun j v hj=>?_⟩
    have hjl:j<sz:=by have:=(List.getElem?_eq_some_iff.1 hj).1;rw [hl x hx] at this;exact this
    rw [Nat.zero_add]
    exact h _ _ (by rw [z2w hl hx hjl];exact hj)
end
end Go.Proofs.Ytegpkpilfgohhaa
