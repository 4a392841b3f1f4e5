/-
  Merged: XEz, XRow, XFreeze.
-/
import Derived.Test.YtbkhpddodmbdoaaEng2
set_option linter.unusedVariables false
set_option linter.unusedSimpArgs false
set_option linter.unnecessarySimpa false
namespace Go.Proofs.Ytbkhpddodmbdoaa
open Go.RowKit
theorem q33 {P:Program} {T:Tab} (hT:TOk P T) {n0:Nat} {b:Code} {fr:List AV} {hp:List Blk} {G:Mem} {Q:Post} {ι κ:Type} (inv:ι→κ→Prop) (S:ι→κ→List (Nat × AV)) (H:ι→κ→List Blk) (μ:ι→κ→Nat) (i0:ι) (k0:κ) (h0:inv i0 k0)
    (start:Le n0 fr hp G (q40 b fr (S i0 k0)) (H i0 k0) G)
    (round:∀ i k,inv i k→q8z (q3d b []) fun ws=>q7d ws 0 fr fun fr1=>q6b fr1 (S i k) fun fr2=>q8w P T n0 b fr2 (H i k) G fun e fr' hp' G'=>match e with
      | .normal=>∃ i' k',inv i' k'∧μ i' k'<μ i k∧Le n0 fr' hp' G' (q40 b fr (S i' k')) (H i' k') G
      | e=>Q e fr' hp' G'):LoopP P n0 b fr hp G Q:=by
  refine z2n hT (fun i:ι × κ=>inv i.1 i.2) (fun i=>q40 b fr (S i.1 i.2)) (fun i=>H i.1 i.2) (fun _=>G) (fun i=>μ i.1 i.2) ⟨(i0,k0),h0,start⟩ fun i hi=>?_
  have h:=round i.1 i.2 hi
  rw [q6t,q6a,q5o] at h
  refine cast (congrArg _ ?_) h
  funext e fr' hp' G'
  cases e with
  | normal=>exact propext ⟨fun ⟨i',k',h1,h2,h3⟩=>⟨(i',k'),h1,h2,h3⟩,fun ⟨p,h1,h2,h3⟩=>⟨p.1,p.2,h1,h2,h3⟩⟩
  | _=>rfl
theorem x12 {P:Program} {T:Tab} (hT:TOk P T) {n0:Nat} {b:Code} {fr:List AV} {hp:List Blk} {G:Mem} {Q:Post} {ι κ ν:Type} (inv:ι→κ→ν→Prop) (S:ι→κ→ν→List (Nat × AV)) (H:ι→κ→ν→List Blk) (μ:ι→κ→ν→Nat) (i0:ι) (k0:κ) (m0:ν) (h0:inv i0 k0 m0)
    (start:Le n0 fr hp G (q40 b fr (S i0 k0 m0)) (H i0 k0 m0) G)
    (round:∀ i k m,inv i k m→q8z (q3d b []) fun ws=>q7d ws 0 fr fun fr1=>q6b fr1 (S i k m) fun fr2=>q8w P T n0 b fr2 (H i k m) G fun e fr' hp' G'=>match e with
      | .normal=>∃ i' k' m',inv i' k' m'∧μ i' k' m'<μ i k m∧Le n0 fr' hp' G' (q40 b fr (S i' k' m')) (H i' k' m') G
      | e=>Q e fr' hp' G'):LoopP P n0 b fr hp G Q:=by
  refine q33 hT (fun (i:ι) (q:κ × ν)=>inv i q.1 q.2) (fun i q=>S i q.1 q.2) (fun i q=>H i q.1 q.2) (fun i q=>μ i q.1 q.2) i0 (k0,m0) h0 start fun i q hi=>?_
  have h:=round i q.1 q.2 hi
  rw [q6t,q6a,q5o] at h ⊢
  refine cast (congrArg _ ?_) h
  funext e fr' hp' G'
  cases e with
  | normal=>exact propext ⟨fun ⟨i',k',m',h1,h2,h3⟩=>⟨i',(k',m'),h1,h2,h3⟩,fun ⟨i',p,h1,h2,h3⟩=>⟨i',p.1,p.2,h1,h2,h3⟩⟩
  | _=>rfl
def q6j (w:World) (o:Option Nat):Mem:=fun b=>if o=some b then none else w.heap[b]?
theorem z7r {P:Program} {T:Tab} (hT:TOk P T) {f:FuncId} {fn:Func} (hfn:P.funcs[f]? = some fn) {post:List AV} {G:Mem} {E:TypeId} {sz n:Nat} {xs:List Value} {n':Nat} {xs':List Value} (hn':0<n')
    (h:∀ G',G.le G'→q5n P T 1 fn (.own 0::post) [.own E sz n xs] G' fun v hp' _=>∃ k,v=.own k∧nthB hp' k=.own E sz n' xs'):z1s P f post G E sz n xs n' xs':=by
  intro base w v ts hG hown hbase hfree hts
  have hle:G.le (q6j w (q0j v)):=fun b o hb=>by
    unfold q6j
    by_cases h1:q0j v=some b
    · rw [hfree b h1] at hb;cases hb
    · rw [if_neg h1];exact hG b o hb
  have hmb:∀ b o,q6j w (q0j v) b=some o→w.heap[b]? = some o:=fun b o hb=>by
    unfold q6j at hb
    split at hb
    · cases hb
    · exact hb
  have hsl:=q2g hown
  have hw0:Below base {w with heap:=w.heap.extract 0 base} w:=by
    refine ⟨rfl,rfl,rfl,?_,fun k hk=>?_⟩
    · simp;omega
    · show w.heap[k]? = (w.heap.extract 0 base)[k]?
      rw [Array.getElem?_extract];simp;intro h;omega
  have hsz:({w with heap:=w.heap.extract 0 base}:World).heap.size=base:=by
    show (w.heap.extract 0 base).size=base
    simp;omega
  have hr:HR {w with heap:=w.heap.extract 0 base} (q6j w (q0j v)) (fun k=>if k=0 then some v else none) [.own E sz n xs] (q6j w (q0j v)) w:=by
    refine ⟨by rw [hsz];exact hw0,hmb,Mem.le_refl _,fun b o hb=>.inl hb,fun k y hk=>?_,fun k k' y y' x x' b hne hk hk'=>?_,fun k S hk=>(by cases k <;> simp at hk)⟩
    · by_cases h0:k=0
      · subst h0
        simp at hk;subst hk
        refine ⟨_,rfl,?_⟩
        rw [hsz]
        refine ⟨hown,fun g hg=>?_⟩
        unfold q6j;rw [if_pos hg]
      · simp [h0] at hk
    · by_cases h0:k=0
      · have:k'≠0:=by omega
        simp [this] at hk'
      · simp [h0] at hk
  refine (q9r hT hfn (hp:=[.own E sz n xs]) (h _ hle) (.inr fun _ _ _ _ _ h=>h) _ _ _ w (v::ts).toArray hr ?_).mono ?_
  · simp only [AV.rels]
    refine ⟨v,ts,rfl,?_,AV.rels_mono (q5b _) _ _ hts⟩
    simp only [AV.rel];exact ⟨by simp,hsl⟩
  · rintro e w' ⟨y,β',v',hp',G',rfl,h1,h2,h3,k,rfl,hk⟩
    simp only [AV.rel] at h3
    obtain ⟨x,hx1,hx2⟩:=h2.blk k y h3.1
    rw [q0z hk rfl] at hx1;cases hx1
    rw [hsz] at hx2
    have hold:∀ b,b<w.heap.size→q0j v≠some b→w'.heap[b]? = w.heap[b]?∧∃ o,G' b=some o:=fun b hb hne=>by
      have h4:q6j w (q0j v) b=some w.heap[b]:=by unfold q6j;rw [if_neg hne];exact Array.getElem?_eq_getElem hb
      have h5:=h2.sub b _ h4
      exact ⟨by rw [h2.hold b _ h5,Array.getElem?_eq_getElem hb],_,h5⟩
    have hat:∀ b,q0j y=some b→w.heap.size≤b∨q0j v=some b:=fun b hb=>by
      by_cases h4:w.heap.size≤b
      · exact .inl h4
      · right
        apply Classical.byContradiction
        intro hne
        obtain ⟨_,o,h5⟩:=hold b (by omega) hne
        rw [hx2.2 b hb] at h5;cases h5
    refine ⟨y,rfl,hx2.1,⟨h2.below.os,h2.below.tape,h2.below.output,?_,fun b hb hne=>(hold b hb (fun e=>hne e.symm)).1⟩,hat⟩
    rcases Nat.eq_zero_or_pos w.heap.size with h0 |h0
    · omega
    · by_cases h4:q0j v=some (w.heap.size-1)
      · rcases hx2.1.2 with ⟨_,h5⟩ |⟨g,cap,cur,rfl,h5,h6,_⟩
        · omega
        · have h7:=(Array.getElem?_eq_some_iff.1 h6).1
          rcases hat g rfl with h8 |h8
          · omega
          · rw [h4] at h8;cases h8;omega
      · have h5:=(hold (w.heap.size-1) (by omega) h4).1
        rw [Array.getElem?_eq_getElem (show w.heap.size-1<w.heap.size by omega)] at h5
        have:=(Array.getElem?_eq_some_iff.1 h5).1
        omega
theorem q3n {P:Program} {f:FuncId} (hen:∀ vs w,(callFunc f vs).run P w=.ok (.enter f vs) w) {k:Nat} {post:List AV} {hp:List Blk} {G:Mem} {K:AV→List Blk→Mem→Prop} {E:TypeId} {sz n:Nat} {xs:List Value} {n':Nat} {xs':List Value}
    (hk:nthB hp k=.own E sz n xs) (hu:AV.unders 0 post=true) (hc:z1s P f post G E sz n xs n' xs') (h:setF hp k .gone fun hp1=>lenF hp1 fun q=>catF hp1 [.own E sz n' xs'] fun hp'=>K (.own q) hp' G):CallP P f (.own k::post) hp G K:=by
  rw [q1h] at h
  have h0:=q1i h
  rw [q03] at h0
  refine ⟨hen,fun w0 G0 β w vs hr ha=>?_⟩
  simp only [AV.rels] at ha
  obtain ⟨v,ts,hvs,hv,hts⟩:=ha
  have e:vs=(v::ts).toArray:=by rw [← hvs]
  subst e
  simp only [AV.rel] at hv
  obtain ⟨x,hx1,hx2⟩:=hr.blk k v hv.1
  rw [q0z hk rfl] at hx1;cases hx1
  refine (hc w0.heap.size w v ts hr.hold hx2.1 hr.below.size hx2.2 (q31 hu hts)).mono ?_
  rintro e w' ⟨y,rfl,h1,h2,h3⟩
  have hlen:(hp.set k .gone).length=hp.length:=by simp
  rw [hlen] at h0
  refine ⟨y,_,_,_,G,rfl,Nm.le_put y (hr.fresh (Nat.le_refl _)),hr.moveName hv.1 (q0z hk rfl) rfl h2 h3 rfl (u:=.own E sz n' xs') ⟨h1,fun g hg=>?_⟩,by simp only [AV.rel];exact ⟨Nm.put_same _ _ _,q2g h1⟩,h0⟩
  rcases h3 g hg with h7 |h7
  · exact q3r hr.hold h7
  · exact hx2.2 g h7
theorem q52 {P:Program} {f:FuncId} {k:Nat} {post:List AV} {hp0:List Blk} {G:Mem} {K:Blk→Prop} {E:TypeId} {sz n:Nat} {xs:List Value} {n':Nat} {xs':List Value} (hk:nthB hp0 k=.own E sz n xs) (he:∀ vs w,(callFunc f vs).run P w=.ok (.enter f vs) w) (hu:AV.unders 0 post=true) (hc:z1s P f post G E sz n xs n' xs') (h:K (.own E sz n' xs')):TakeP P f k post hp0 G K :=
  .mk E sz n xs n' xs' hk he hu hc h
end Go.Proofs.Ytbkhpddodmbdoaa
namespace Go.Proofs.Ytbkhpddodmbdoaa
open Go.RowKit
def q0p (c:Nat→List Value):Nat→List Value
  | 0=>[]
  | n+1=>q0p c n++c n
theorem q2b {c:Nat→List Value} {sz:Nat}:∀ {n:Nat},(∀ x,x<n→(c x).length=sz)→(q0p c n).length=n*sz
  | 0,_=>by simp [q0p]
  | n+1,h=>by
    rw [q0p,List.length_append,q2b (n:=n) (fun x hx=>h x (by omega)),h n (by omega),Nat.add_mul,Nat.one_mul]
theorem q5f {c:Nat→List Value} {sz:Nat}:∀ {n:Nat},(∀ x,x<n→(c x).length=sz)→∀ {x j:Nat},x<n→j<sz→(q0p c n)[x*sz+j]? = (c x)[j]?
  | 0,_,_,_,hx,_=>by omega
  | n+1,h,x,j,hx,hj=>by
    have hl:=q2b (n:=n) (fun x hx=>h x (by omega))
    rw [q0p]
    rcases Nat.lt_or_ge x n with h1 |h1
    · have:x*sz+j<n*sz:=by
        have:=Nat.mul_le_mul_right sz (show x+1≤n by omega)
        rw [Nat.add_mul,Nat.one_mul] at this;omega
      rw [List.getElem?_append_left (by omega)]
      exact q5f (fun x hx=>h x (by omega)) h1 hj
    · obtain rfl:x=n:=by omega
      rw [List.getElem?_append_right (by omega),hl]
      congr 1;omega
theorem q2d {c d:Nat→List Value}:∀ {n:Nat},(∀ x,x<n→c x=d x)→q0p c n=q0p d n
  | 0,_=>rfl
  | n+1,h=>by rw [q0p,q0p,q2d (n:=n) (fun x hx=>h x (by omega)),h n (by omega)]
theorem q7g (c:Nat→List Value) (m:Nat):∀ (n:Nat),q0p c (m+n)=q0p c m++q0p (fun x=>c (m+x)) n
  | 0=>by simp [q0p]
  | n+1=>by rw [← Nat.add_assoc,q0p,q7g c m n,q0p,List.append_assoc]
structure ElsM (G:Mem) (A:Option Addr) (sz n:Nat) (c:Nat→List Value):Prop where
  len:∀ x,x<n→(c x).length=sz
  at_:∀ x,x<n→∃ b off,A=some ⟨b,off,none⟩∧∀ j v,(c x)[j]? = some v→G.cell? ⟨b,off+x*sz+j,none⟩=some v
section
variable {G G':Mem} {A:Option Addr} {sz n:Nat} {c d:Nat→List Value}
theorem ElsM.mono (h:ElsM G A sz n c) (hle:G.le G'):ElsM G' A sz n c:=⟨h.len,fun x hx=>by
  obtain ⟨b,off,h1,h2⟩:=h.at_ x hx
  exact ⟨b,off,h1,fun j v hj=>hle.cell (h2 j v hj)⟩⟩
theorem ElsM.less (h:ElsM G A sz n c) {k:Nat} (hk:k≤n):ElsM G A sz k c:=⟨fun x hx=>h.len x (by omega),fun x hx=>h.at_ x (by omega)⟩
theorem ElsM.congr (h:ElsM G A sz n c) (e:∀ x,x<n→c x=d x):ElsM G A sz n d :=
  ⟨fun x hx=>by rw [← e x hx];exact h.len x hx,fun x hx=>by rw [← e x hx];exact h.at_ x hx⟩
theorem ElsM.none:ElsM G A sz 0 c:=⟨fun x hx=>by omega,fun x hx=>by omega⟩
theorem ElsM.drop (h:ElsM G A sz n c) {k:Nat} (hk:k≤n):ElsM G (A.map fun p=>p.add (k*sz)) sz (n-k) (fun x=>c (k+x)) :=
  ⟨fun x hx=>h.len _ (by omega),fun x hx=>by
    obtain ⟨b,off,rfl,h2⟩:=h.at_ (k+x) (by omega)
    refine ⟨b,off+k*sz,by simp [q0t],fun j v hj=>?_⟩
    have:=h2 j v hj
    rwa [show off+k*sz+x*sz+j=off+(k+x)*sz+j by rw [Nat.add_mul];omega]⟩
theorem ElsM.cells (h:ElsM G A sz n c) {x:Nat} (hx:x<n):∃ p:Addr,A=some p∧∀ K:List Value→Prop,K (c x)→OldCells G (p.add (x*sz)) sz K:=by
  obtain ⟨b,off,rfl,h2⟩:=h.at_ x hx
  refine ⟨_,rfl,fun K k=>q41 _ (h.len x hx) (fun j u hj=>?_) k⟩
  rw [q0t,q0t]
  exact h2 j u hj
theorem ElsM.cell (h:ElsM G A sz n c) {x j:Nat} {v:Value} (hx:x<n) (hj:(c x)[j]? = some v):∃ p:Addr,A=some p∧G.cell? (Addr.add (p.add (x*sz)) j)=some v:=by
  obtain ⟨b,off,rfl,h2⟩:=h.at_ x hx
  exact ⟨_,rfl,by rw [q0t,q0t];exact h2 j v hj⟩
theorem ElsM.frozen (hl:∀ x,x<n→(c x).length=sz) (h:q0p c n=[]∨∃ b,A=some ⟨b,0,Option.none⟩∧∀ (j:Nat) u,(q0p c n)[j]? = some u→G.cell? ⟨b,j,Option.none⟩=some u) (hA:0<sz):ElsM G A sz n c:=by
  refine ⟨hl,fun x hx=>?_⟩
  rcases h with h |⟨b,rfl,h⟩
  · have:=q2b hl
    rw [h] at this
    have h1:0<n*sz:=Nat.mul_pos (by omega) hA
    simp at this;omega
  · refine ⟨b,0,rfl,fun j v hj=>?_⟩
    have hjl:j<sz:=by have:=(List.getElem?_eq_some_iff.1 hj).1;rw [hl x hx] at this;exact this
    rw [Nat.zero_add]
    exact h _ _ (by rw [q5f hl hx hjl];exact hj)
end
end Go.Proofs.Ytbkhpddodmbdoaa
namespace Go.Proofs.Ytbkhpddodmbdoaa
open Go.RowKit
def FlatM (G:Mem) (A:Option Addr) (xs:List Value):Prop:=(A=none∧xs=[])∨∃ b off,A=some ⟨b,off,none⟩∧∀ (j:Nat) u,xs[j]? = some u→G.cell? ⟨b,off+j,none⟩=some u
theorem FlatM.mono {G G':Mem} {A:Option Addr} {xs:List Value} (h:FlatM G A xs) (hle:G.le G'):FlatM G' A xs:=by
  rcases h with h |⟨b,off,h1,h2⟩
  · exact .inl h
  · exact .inr ⟨b,off,h1,fun j u hj=>hle.cell (h2 j u hj)⟩
theorem FlatM.els {G:Mem} {A:Option Addr} {sz n:Nat} {c:Nat→List Value} (h:FlatM G A (q0p c n)) (hl:∀ x,x<n→(c x).length=sz) (hs:0<sz):ElsM G A sz n c:=by
  refine ⟨hl,fun x hx=>?_⟩
  rcases h with ⟨_,h⟩ |⟨b,off,h1,h2⟩
  · have:=q2b hl
    rw [h] at this
    have h1:0<n*sz:=Nat.mul_pos (by omega) hs
    simp at this;omega
  · refine ⟨b,off,h1,fun j v hj=>?_⟩
    have hjl:j<sz:=by have:=(List.getElem?_eq_some_iff.1 hj).1;rw [hl x hx] at this;exact this
    rw [Nat.add_assoc]
    exact h2 _ _ (by rw [q5f hl hx hjl];exact hj)
def Mem.plus (G:Mem) (w:World) (g:Nat):Mem:=fun b=>if b=g then w.heap[g]? else G b
theorem Mem.le_plus {G:Mem} {w:World} (h:G.holds w) (g:Nat):G.le (G.plus w g):=fun b o hb=>by
  unfold Mem.plus
  split
  · rename_i e;subst e;exact h b o hb
  · exact hb
theorem Mem.plus_holds {G:Mem} {w:World} (h:G.holds w) (g:Nat):(G.plus w g).holds w:=fun b o hb=>by
  unfold Mem.plus at hb
  split at hb
  · rename_i e;subst e;exact hb
  · exact h b o hb
section
variable {w0:World} {G0:Mem} {β:Nm} {hp:List Blk} {G:Mem} {w:World}
theorem HR.freeze (hr:HR w0 G0 β hp G w) {k:Nat} {v:Value} {E:TypeId} {sz n:Nat} {xs:List Value} (hv:β k=some v) (hk:nthB hp k=.own E sz n xs) :
    ∃ A cap G',v=.slice A n cap∧G.le G'∧n≤cap∧cap≤maxLen∧FlatM G' A xs∧HR w0 G0 β (hp.set k .gone) G' w:=by
  obtain ⟨x,hx1,hx2⟩:=hr.blk k v hv
  have hkx:=q0z hk rfl
  rw [hkx] at hx1;cases hx1
  obtain ⟨⟨hlen,hown⟩,hfree⟩:=hx2
  rcases hown with ⟨rfl,h5⟩ |⟨g,cap,cur,rfl,h5,h6,h7,h8,h9,h10⟩
  · subst h5
    exact ⟨none,0,G,rfl,Mem.le_refl _,Nat.le_refl _,Nat.zero_le _,.inl ⟨rfl,by simpa using hlen⟩,hr.forget k⟩
  · have hcell:∀ (j:Nat) u,xs[j]? = some u→(G.plus w g).cell? ⟨g,0+j,none⟩=some u:=fun j u hj=>by
      have h11:(G.plus w g) g=some (.cells cur E (0,0)):=by simp [Mem.plus,h6]
      unfold Mem.cell?
      rw [Nat.zero_add,h11]
      rw [← h10] at hj
      rw [List.getElem?_take] at hj
      split at hj
      · simpa using hj
      · cases hj
    have hf:=hr.forget k
    refine ⟨some ⟨g,0,none⟩,cap,G.plus w g,rfl,Mem.le_plus hr.hold g,h7,h8,.inr ⟨g,0,rfl,hcell⟩,⟨hf.below,Mem.plus_holds hr.hold g,Mem.le_trans hr.sub (Mem.le_plus hr.hold g),fun b o hb=>?_,fun j z hj=>?_,hf.inj,hf.wrt⟩⟩
    · unfold Mem.plus at hb
      split at hb
      · rename_i e1;subst e1
        exact .inr h5
      · exact hr.grow b o hb
    · obtain ⟨x,hx1,hx2⟩:=hf.blk j z hj
      refine ⟨x,hx1,?_⟩
      have hne:∀ b,x.live=true→q0j z=some b→b≠g:=fun b hl hb e=>by
        subst e
        by_cases hjk:j=k
        · subst hjk
          rw [List.getElem?_set] at hx1
          simp [(List.getElem?_eq_some_iff.1 hkx).1] at hx1
          subst hx1;simp [Blk.live] at hl
        · have hx3:hp[j]? = some x:=by rw [List.getElem?_set,if_neg (fun e=>hjk e.symm)] at hx1;exact hx1
          exact hr.inj j k z _ x _ b hjk hj hv hx3 hkx hl rfl hb rfl
      cases x with
      | gone=>trivial
      | muts S=>exact hx2.elim
      | cells t l =>
        obtain ⟨b,c,q1,q2,q3,q4,q5⟩:=hx2
        refine ⟨b,c,q1,q2,?_,q4,q5⟩
        have:=hne b rfl (by rw [q1];rfl)
        simp [Mem.plus,this,q3]
      | own e sz' n' xs' =>
        obtain ⟨q1,q2⟩:=hx2
        refine ⟨q1,fun b hb=>?_⟩
        have:=hne b rfl hb
        simp [Mem.plus,this,q2 b hb]
      | lp i fr st p =>
        obtain ⟨q1,q2,q3,q4⟩:=hx2
        refine ⟨q1,q2,?_,q4⟩
        have:=hne i.l rfl (by rw [q1];rfl)
        simp [Mem.plus,this,q3]
      | mp f ks vs =>
        obtain ⟨b,ys,q1,q2,q3,q4⟩:=hx2
        refine ⟨b,ys,q1,q2,?_,q4⟩
        have:=hne b rfl (by rw [q1];rfl)
        simp [Mem.plus,this,q3]
end
end Go.Proofs.Ytbkhpddodmbdoaa
