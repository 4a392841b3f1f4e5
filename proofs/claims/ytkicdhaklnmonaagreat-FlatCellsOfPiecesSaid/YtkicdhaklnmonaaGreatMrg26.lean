/-
  Merged: XRunsSl, XListM, XTreeM.
-/
import Derived.Test.YtkicdhaklnmonaaGreatMrg13
import Derived.Test.YtkicdhaklnmonaaGreatMrg4
import Derived.Test.YtkicdhaklnmonaaGreatMrg25
import Derived.Test.YtkicdhaklnmonaaGreatMrg23
import Derived.Test.YtkicdhaklnmonaaGreatMrg24
set_option linter.unusedVariables false
set_option linter.unusedSimpArgs false
set_option linter.unnecessarySimpa false
namespace Go.Proofs.YtkicdhaklnmonaaGreat
open Go.RowKit
set_option maxRecDepth 20000
section
variable {w:World} {A:Option Addr} {n:Nat}
theorem v19 {g:Nat→Nat→Value} (h:SliceG Tryz.prog w 78 A n g):RunsM (q69 w) A (q2p (fun x=>⟨valI (g x 0),valI (g x 1),valI (g x 2)⟩) n):=by
  have e3:Tryz.prog.cellsOf 78=3:=by kernel_rfl
  have ef:flat Tryz.prog 20 78=[.int .i64,.int .i64,.int .i64]:=by kernel_rfl
  intro i r hr
  have hi:i<n:=by have:=(List.getElem?_eq_some_iff.1 hr).1;simpa [q2p] using this
  have e:(⟨valI (g i 0),valI (g i 1),valI (g i 2)⟩:Run)=r:=by simpa [q2p,List.getElem?_range hi] using hr
  subst e
  have h0:=(h.int (j:=0) (k:=.i64) (by kernel_rfl) hi (by rw [ef];rfl)).1
  have h1:=(h.int (j:=1) (k:=.i64) (by kernel_rfl) hi (by rw [ef];rfl)).1
  have h2:=(h.int (j:=2) (k:=.i64) (by kernel_rfl) hi (by rw [ef];rfl)).1
  obtain ⟨b,off,hA,_,hc⟩:=h (by omega)
  rw [e3] at hc
  dsimp only
  rw [← h0,← h1,← h2]
  exact ⟨b,off,hA,(hc i hi).1 0 (by omega),(hc i hi).1 1 (by omega),(hc i hi).1 2 (by omega)⟩
end
end Go.Proofs.YtkicdhaklnmonaaGreat
namespace Go.Proofs.YtkicdhaklnmonaaGreat
open Go.RowKit Go.Proofs.YtkicdhaklnmonaaGreat.gradientRamps Go.Proofs.YtkicdhaklnmonaaGreat.gradientPlaces Go.Proofs.YtkicdhaklnmonaaGreat.imageCells
set_option maxRecDepth 20000
section
variable {w:World} {A:Option Addr} {n:Nat} {g:Nat→Nat→Value}
end
end Go.Proofs.YtkicdhaklnmonaaGreat
namespace Go.Proofs.YtkicdhaklnmonaaGreat
open Go.RowKit
inductive Tr where
  | fill (i:Nat)
  | group (i:Nat) (ms:List Tr)
  deriving Inhabited
abbrev q9s:TypeId:=153
abbrev q1j:TypeId:=146
abbrev z03:TypeId:=148
abbrev q1r:TypeId:=92
abbrev q6s:TypeId:=156
abbrev ptrV (b:Nat):Value:=.pointer (some ⟨b,0,none⟩)
section
variable (I:Nat→ItemD) (f:Nat→SrcF)
inductive NodeM (F:Mem):Value→Tr→Prop
  | fill (i b:Nat) (sv mv:Value) (hb:F b=some (.cells ((I i).cells++[.int .i64 i,sv,mv]).toArray q9s (0,0))) (hs:IsSrc F sv (f i)) (hm:IsMix F mv (I i).bl):NodeM F (.iface z03 (ptrV b)) (.fill i)
  | group (i b:Nat) (mv:Value) (A:Option Addr) (n c:Nat) (vs:List Value) (ms:List Tr) (hb:F b=some (.cells ((I i).cells++[.int .i64 i,mv,.slice A n c]).toArray q1j (0,0))) (hm:IsMix F mv (I i).bl) (hn:n=vs.length) (hc:n≤c∧c≤maxLen) (hF:FlatM F A vs)
      (hl:vs.length=ms.length) (h:∀ (j:Nat) v t,vs[j]? = some v→ms[j]? = some t→NodeM F v t):NodeM F (.iface q1r (ptrV b)) (.group i ms)
def NodesM (F:Mem) (vs:List Value) (ms:List Tr):Prop:=vs.length=ms.length∧∀ (j:Nat) v t,vs[j]? = some v→ms[j]? = some t→NodeM I f F v t
variable {I f}
theorem NodeM.mono {F F':Mem} (hF:F.le F') {v:Value} {t:Tr} (h:NodeM I f F v t):NodeM I f F' v t:=by
  induction h with
  | fill i b sv mv hb hs hm=>exact .fill i b sv mv (hF _ _ hb) (hs.mono hF) (hm.mono hF)
  | group i b mv A n c vs ms hb hm hn hc hFl hl h ih=>exact .group i b mv A n c vs ms (hF _ _ hb) (hm.mono hF) hn hc (hFl.mono hF) hl ih
theorem NodesM.mono {F F':Mem} (hF:F.le F') {vs:List Value} {ms:List Tr} (h:NodesM I f F vs ms):NodesM I f F' vs ms:=⟨h.1,fun j v t hv ht=>(h.2 j v t hv ht).mono hF⟩
theorem NodesM.nil {F:Mem}:NodesM I f F [] []:=⟨rfl,fun j v t hv=>by simp at hv⟩
theorem NodesM.snoc {F:Mem} {vs:List Value} {ms:List Tr} {v:Value} {t:Tr} (h:NodesM I f F vs ms) (hv:NodeM I f F v t):NodesM I f F (vs++[v]) (ms++[t]):=by
  refine ⟨by simp [h.1],fun j u s hu hs=>?_⟩
  have h1:=h.1
  rcases Nat.lt_trichotomy j vs.length with hj |hj |hj
  · rw [List.getElem?_append_left hj] at hu
    rw [List.getElem?_append_left (by omega)] at hs
    exact h.2 j u s hu hs
  · subst hj
    rw [List.getElem?_append_right (Nat.le_refl _)] at hu
    rw [List.getElem?_append_right (by omega)] at hs
    simp [h1] at hu hs
    subst hu;subst hs;exact hv
  · rw [List.getElem?_eq_none (by simp;omega)] at hu;cases hu
def PageM (I:Nat→ItemD) (f:Nat→SrcF) (F:Mem) (v:Value) (ms:List Tr):Prop :=
  ∃ b hd A c vs,v=ptrV b∧F b=some (.cells (hd++[.slice A vs.length c]).toArray q1j (0,0))∧hd.length=36∧hd[33]? = some (.bool false)∧vs.length≤c∧c≤maxLen∧FlatM F A vs∧NodesM I f F vs ms
structure Ent where
  b:Nat
  i:Nat
  hd:List Value
  s:Value
  full:List Value
  vs:List Value
  ms:List Tr
  pg:Bool
def linkL:Option Nat→List Ent→Prop
  | _,[]=>True
  | none,e::r=>e.full=e.vs∧linkL (some e.b) r
  | some b,e::r=>e.full=e.vs++[.iface q1r (ptrV b)]∧linkL (some e.b) r
def pgL (I:Nat→ItemD) (F:Mem):List Ent→Prop
  | []=>False
  | [e]=>e.pg=true∧e.hd[33]? = some (.bool false)
  | e::e'::r=>e.pg=false∧(∃ mv,e.hd=(I e.i).cells++[.int .i64 e.i,mv]∧IsMix F mv (I e.i).bl)∧pgL I F (e'::r)
theorem pgL.mono {F F':Mem} (hF:F.le F'):∀ {es:List Ent},pgL I F es→pgL I F' es
  | [],h=>h
  | [e],h=>h
  | e::e'::r,⟨h1,⟨mv,h2,h3⟩,h4⟩=>⟨h1,⟨mv,h2,h3.mono hF⟩,pgL.mono hF h4⟩
structure StackI (I:Nat→ItemD) (f:Nat→SrcF) (S:Nat→Prop) (M F:Mem) (es:List Ent):Prop where
  fm:F.le M
  fs:∀ b,S b→F b=none
  blk:∀ e∈es,S e.b∧M e.b=some (.cells (e.hd++[e.s]).toArray q1j (0,0))∧e.hd.length=36
  row:∀ e∈es,RowS S M q6s 1 e.s e.full.length e.full
  dist:es.Pairwise fun e e'=>e.b≠e'.b∧∀ x,q0i e.s=some x→q0i e'.s≠some x
  nodes:∀ e∈es,NodesM I f F e.vs e.ms
  pgs:pgL I F es
def OpenI (S:Nat→Prop) (M:Mem) (es:List Ent) (ov:Value):Prop:=RowS S M q1r 1 ov es.length (es.map fun e=>ptrV e.b).reverse
theorem RowS.type {S:Nat→Prop} {G:Mem} {E:TypeId} {sz n:Nat} {v:Value} {xs:List Value} (h:RowS S G E sz v n xs) {b:Nat} (hb:q0i v=some b):∃ c,G b=some (.cells c E (0,0)):=by
  rcases h.2 with ⟨rfl,_⟩ |⟨g,cap,cur,rfl,h1,h2,h3⟩
  · cases hb
  · simp [q0i] at hb;subst hb;exact ⟨_,h2⟩
theorem x63 {S S':Nat→Prop} {G:Mem} {E E':TypeId} {sz n sz' n':Nat} {v v':Value} {xs xs':List Value} (h:RowS S G E sz v n xs) (h':RowS S' G E' sz' v' n' xs') (hE:E≠E'):∀ b,q0i v=some b→q0i v'≠some b:=fun b hb hb'=>by
  obtain ⟨c,h1⟩:=h.type hb
  obtain ⟨c',h2⟩:=h'.type hb'
  rw [h1] at h2;cases h2;exact hE rfl
theorem q4g {S:Nat→Prop} {G:Mem} {E E':TypeId} {sz n b:Nat} {v:Value} {xs:List Value} {c:Array Value} (h:RowS S G E sz v n xs) (h':G b=some (.cells c E' (0,0))) (hE:E≠E'):q0i v≠some b:=fun hb=>by
  obtain ⟨c',h1⟩:=h.type hb
  rw [h1] at h';cases h';exact hE rfl
theorem z11:q6s≠q1j:=by decide
theorem x4q:q6s≠q1r:=by decide
theorem z9k:q1r≠q1j:=by decide
section
variable {S S':Nat→Prop} {M M' F F':Mem} {es r:List Ent} {e e1:Ent} {ov ov':Value}
theorem StackI.grow (h:StackI I f S M F es) (hS:∀ b,S b→S' b) (hM:∀ b,S b→M' b=M b) (hF:F.le F') (hFM:F'.le M') (hd:∀ b,S' b→F' b=none):StackI I f S' M' F' es:=by
  refine ⟨hFM,hd,fun e he=>?_,fun e he=>?_,h.dist,fun e he=>(h.nodes e he).mono hF,h.pgs.mono hF⟩
  · obtain ⟨h1,h2,h3⟩:=h.blk e he
    exact ⟨hS _ h1,by rw [hM _ h1];exact h2,h3⟩
  · exact (h.row e he).of hS fun b hb=>hM b ((h.row e he).blk hb).1
theorem OpenI.grow (h:OpenI S M es ov) (hS:∀ b,S b→S' b) (hM:∀ b,S b→M' b=M b):OpenI S' M' es ov:=RowS.of h hS fun b hb=>hM b (RowS.blk h hb).1
theorem StackI.kept (h:StackI I f S M F es) {v v':Value} (hG:RowG S M v S' M' v') (hv:∀ b,q0i v=some b→S b):(∀ b,S' b→F b=none)∧F.le M':=by
  refine ⟨fun b hb=>?_,fun b o ho=>?_⟩
  · rcases hG.only b hb with h1 |h1
    · exact h.fs b h1
    · by_cases h2:q0i v=some b
      · exact h.fs b (hv b h2)
      · exact Mem.le.none h.fm (hG.fresh b h1 h2)
  · refine hG.old b o (h.fm b o ho) fun h1=>?_
    rw [h.fs b (hv b h1)] at ho;cases ho
theorem StackI.opened (h:StackI I f S M F es) {n:Nat} {xs:List Value} (ho:RowS S M q1r 1 ov n xs) (hG:RowG S M ov S' M' ov'):StackI I f S' M' F es:=by
  obtain ⟨k1,k2⟩:=h.kept hG fun b hb=>(ho.blk hb).1
  refine ⟨k2,k1,fun e he=>?_,fun e he=>?_,h.dist,h.nodes,h.pgs⟩
  · obtain ⟨h1,h2,h3⟩:=h.blk e he
    exact ⟨hG.more _ h1,hG.old _ _ h2 (q4g ho h2 z9k),h3⟩
  · exact hG.row (h.row e he) (x63 (h.row e he) ho x4q)
theorem StackI.top (h:StackI I f S M F (e::r)) {s':Value} {full' vs':List Value} {ms':List Tr} (hG:RowG S M e.s S' M' s') (hr:RowS S' M' q6s 1 s' full'.length full') (hn:NodesM I f F vs' ms') :
    StackI I f S' (M'.put e.b (.cells (e.hd++[s']).toArray q1j (0,0))) F (⟨e.b,e.i,e.hd,s',full',vs',ms',e.pg⟩::r) ∧
      (∀ ov n xs,RowS S M q1r 1 ov n xs→RowS S' (M'.put e.b (.cells (e.hd++[s']).toArray q1j (0,0))) q1r 1 ov n xs)∧(∀ b c,b≠e.b→M b=some (.cells c q1j (0,0))→M'.put e.b (.cells (e.hd++[s']).toArray q1j (0,0)) b=some (.cells c q1j (0,0))) ∧
      M' e.b=some (.cells (e.hd++[e.s]).toArray q1j (0,0))∧S' e.b:=by
  have he:=h.blk e (by simp)
  have hrow:=h.row e (by simp)
  obtain ⟨hfs,hfm⟩:=h.kept hG fun b hb=>(hrow.blk hb).1
  have hMe:M' e.b=some (.cells (e.hd++[e.s]).toArray q1j (0,0)):=hG.old _ _ he.2.1 (q4g hrow he.2.1 z11)
  have hFb:F e.b=none:=h.fs _ he.1
  have hp:=List.pairwise_cons.1 h.dist
  -- a row of another entry's
  have keep:∀ {E:TypeId} {v:Value} {n:Nat} {xs:List Value},RowS S' M' E 1 v n xs→E≠q1j→RowS S' (M'.put e.b (.cells (e.hd++[s']).toArray q1j (0,0))) E 1 v n xs:=fun hx hE=>hx.of (fun _ h=>h) fun b hb=>by
    rw [Mem.put_ne]
    intro hbe;subst hbe
    exact q4g hx hMe hE hb
  have hdist:∀ e'∈r,∀ x,q0i s'=some x→q0i e'.s≠some x:=fun e' he' x hx hx'=>by
    obtain ⟨hS,o,ho⟩:=(h.row e' (List.mem_cons_of_mem _ he')).blk hx'
    by_cases h2:q0i e.s=some x
    · exact (hp.1 e' he').2 x h2 hx'
    · rw [hG.fresh x hx h2] at ho;cases ho
  refine ⟨⟨fun b o ho=>?_,hfs,fun q hq=>?_,fun q hq=>?_,?_,fun q hq=>?_,?_⟩,fun ov n xs hov=>?_,fun b c hbe hb=>?_,hMe,hG.more _ he.1⟩
  · have hne:b≠e.b:=fun e1=>by rw [e1,hFb] at ho;cases ho
    rw [Mem.put_ne _ _ hne];exact hfm b o ho
  · rcases List.mem_cons.1 hq with rfl |hq
    · exact ⟨hG.more _ he.1,Mem.put_same _ _ _,he.2.2⟩
    · obtain ⟨h1,h2,h3⟩:=h.blk q (List.mem_cons_of_mem _ hq)
      refine ⟨hG.more _ h1,?_,h3⟩
      rw [Mem.put_ne _ _ (fun e1=>(hp.1 q hq).1 e1.symm)]
      exact hG.old _ _ h2 (q4g hrow h2 z11)
  · rcases List.mem_cons.1 hq with rfl |hq
    · exact keep hr z11
    · exact keep (hG.row (h.row q (List.mem_cons_of_mem _ hq)) fun b hb hb'=>(hp.1 q hq).2 b hb' hb) z11
  · exact List.pairwise_cons.2 ⟨fun q hq=>⟨(hp.1 q hq).1,hdist q hq⟩,hp.2⟩
  · rcases List.mem_cons.1 hq with rfl |hq
    · exact hn
    · exact h.nodes q (List.mem_cons_of_mem _ hq)
  · have hg:=h.pgs
    cases r with
    | nil=>exact hg
    | cons e' r'=>exact hg
  · exact keep (hG.row hov (x63 hov hrow (Ne.symm x4q))) z9k
  · rw [Mem.put_ne _ _ hbe]
    exact hG.old _ _ hb (q4g hrow hb z11)
theorem StackI.push (h:StackI I f S M F es) (hne:es≠[]) (hS:S e.b) (hM:M e.b=some (.cells (e.hd++[e.s]).toArray q1j (0,0))) (hb:∀ q∈es,e.b≠q.b) (hs:e.s=.slice none 0 0) (hf:e.full=[]) (hv:e.vs=[]) (hms:e.ms=[]) (hpg:e.pg=false) {mv:Value} (hhd:e.hd=(I e.i).cells++[.int .i64 e.i,mv]) (hmx:IsMix F mv (I e.i).bl):StackI I f S M F (e::es):=by
  refine ⟨h.fm,h.fs,fun q hq=>?_,fun q hq=>?_,List.pairwise_cons.2 ⟨fun q hq=>⟨hb q hq,fun x hx=>by rw [hs] at hx;cases hx⟩,h.dist⟩,fun q hq=>?_,?_⟩
  · rcases List.mem_cons.1 hq with rfl |hq
    · exact ⟨hS,hM,by rw [hhd];rfl⟩
    · exact h.blk q hq
  · rcases List.mem_cons.1 hq with rfl |hq
    · rw [hf,hs];exact RowS.nil _ _ _ _
    · exact h.row q hq
  · rcases List.mem_cons.1 hq with rfl |hq
    · rw [hv,hms];exact NodesM.nil
    · exact h.nodes q hq
  · cases es with
    | nil=>exact absurd rfl hne
    | cons q r=>exact ⟨hpg,⟨mv,hhd,hmx⟩,h.pgs⟩
theorem FlatM.blk {G G':Mem} {A:Option Addr} {xs:List Value} (h:FlatM G A xs) (hG:∀ a,A=some a→G' a.block=G a.block):FlatM G' A xs:=by
  rcases h with h |⟨b,off,h1,h2⟩
  · exact .inl h
  · refine .inr ⟨b,off,h1,fun j u hj=>?_⟩
    have:=h2 j u hj
    unfold Mem.cell? at this ⊢
    rw [hG _ h1];exact this
open Classical in
noncomputable def q7i (F M:Mem) (e:Ent):Mem:=fun b=>if b=e.b∨q0i e.s=some b then M b else F b
theorem StackI.pop (h:StackI I f S M F (e::e1::r)) (hl:linkL none (e::e1::r)) :
    StackI I f (fun b=>S b∧b≠e.b∧q0i e.s≠some b) M (q7i F M e) (⟨e1.b,e1.i,e1.hd,e1.s,e1.full,e1.full,e1.ms++[.group e.i e.ms],e1.pg⟩::r)∧F.le (q7i F M e):=by
  have he:=h.blk e (by simp)
  have hrow:=h.row e (by simp)
  have hp:=List.pairwise_cons.1 h.dist
  have hle:F.le (q7i F M e):=fun b o ho=>by
    unfold q7i
    have h1:¬ (b=e.b∨q0i e.s=some b):=by
      rintro (h2 |h2)
      · rw [h2,h.fs _ he.1] at ho;cases ho
      · rw [h.fs _ (hrow.blk h2).1] at ho;cases ho
    rw [if_neg h1];exact ho
  have hS:∀ q∈e1::r,q.b≠e.b∧q0i e.s≠some q.b:=fun q hq=>⟨fun h1=>(hp.1 q hq).1 h1.symm,q4g hrow (h.blk q (List.mem_cons_of_mem _ hq)).2.1 z11⟩
  have hR:∀ q∈e1::r,∀ b,q0i q.s=some b→b≠e.b∧q0i e.s≠some b:=fun q hq b hb=>⟨fun h1=>by
    subst h1;exact q4g (h.row q (List.mem_cons_of_mem _ hq)) he.2.1 z11 hb,fun h1=>(hp.1 q hq).2 b h1 hb⟩
  obtain ⟨hpg,⟨mv,hhd,hmx⟩,hpgr⟩:e.pg=false∧(∃ mv,e.hd=(I e.i).cells++[.int .i64 e.i,mv]∧IsMix F mv (I e.i).bl)∧pgL I F (e1::r):=by
    have h0:=h.pgs
    rw [pgL] at h0
    exact h0
  have hnode:NodeM I f (q7i F M e) (.iface q1r (ptrV e.b)) (.group e.i e.ms):=by
    obtain ⟨A,c,hsv,hnc,hcm⟩:=hrow.isSl
    have hvs:e.full=e.vs:=hl.1
    have hn:=h.nodes e (by simp)
    refine .group e.i e.b mv A e.full.length c e.vs e.ms ?_ (hmx.mono hle) (by rw [hvs]) ⟨hnc,hcm⟩ ?_ hn.1 fun j v t hv ht=>(hn.2 j v t hv ht).mono hle
    · unfold q7i
      rw [if_pos (.inl rfl),he.2.1,hhd,hsv]
      simp
    · rw [← hvs]
      have hfl:FlatM M A e.full:=by
        rw [hsv] at hrow;exact hrow.flat
      refine hfl.blk fun a ha=>?_
      unfold q7i
      rw [if_pos (.inr (by rw [hsv,ha];rfl))]
  refine ⟨⟨fun b o ho=>?_,fun b hb=>?_,fun q hq=>?_,fun q hq=>?_,?_,fun q hq=>?_,?_⟩,hle⟩
  · unfold q7i at ho
    split at ho
    · exact ho
    · exact h.fm b o ho
  · unfold q7i
    rw [if_neg (by rintro (h1 |h1);exact hb.2.1 h1;exact hb.2.2 h1)]
    exact h.fs b hb.1
  · rcases List.mem_cons.1 hq with rfl |hq
    · have h1:=h.blk e1 (by simp)
      exact ⟨⟨h1.1,hS e1 (by simp)⟩,h1.2⟩
    · have h1:=h.blk q (by simp [hq])
      exact ⟨⟨h1.1,hS q (by simp [hq])⟩,h1.2⟩
  · have key:∀ q∈e1::r,RowS (fun b=>S b∧b≠e.b∧q0i e.s≠some b) M q6s 1 q.s q.full.length q.full:=fun q hq=>by
      have h1:=h.row q (List.mem_cons_of_mem _ hq)
      refine ⟨h1.1,?_⟩
      rcases h1.2 with h2 |⟨g,cap,cur,h2,h3,h4⟩
      · exact .inl h2
      · exact .inr ⟨g,cap,cur,h2,⟨h3,hR q hq g (by rw [h2];rfl)⟩,h4⟩
    rcases List.mem_cons.1 hq with rfl |hq
    · exact key e1 (by simp)
    · exact key q (by simp [hq])
  · have h1:=List.pairwise_cons.1 hp.2
    exact List.pairwise_cons.2 ⟨h1.1,h1.2⟩
  · rcases List.mem_cons.1 hq with rfl |hq
    · have h1:=(h.nodes e1 (by simp)).mono hle
      have h2:e1.full=e1.vs++[.iface q1r (ptrV e.b)]:=hl.2.1
      show NodesM I f _ e1.full _
      rw [h2];exact h1.snoc hnode
    · exact (h.nodes q (by simp [hq])).mono hle
  · have:=hpgr.mono hle
    cases r with
    | nil=>exact this
    | cons q r'=>exact this
theorem linkL.pop (hl:linkL none (e::e1::r)) {ms:List Tr}:linkL none (⟨e1.b,e1.i,e1.hd,e1.s,e1.full,e1.full,ms,e1.pg⟩::r):=⟨rfl,hl.2.2⟩
theorem OpenI.pop {c:Nat} {A:Option Addr} (h:OpenI S M (e::e1::r) (.slice A (r.length+2) c)) (hs:StackI I f S M F (e::e1::r)) {ms:List Tr} :
    OpenI (fun b=>S b∧b≠e.b∧q0i e.s≠some b) M (⟨e1.b,e1.i,e1.hd,e1.s,e1.full,e1.full,ms,e1.pg⟩::r) (.slice A (r.length+1) c):=by
  have hb:=hs.blk e (by simp)
  have hrow:=hs.row e (by simp)
  unfold OpenI at h ⊢
  refine ⟨by simp,?_⟩
  rcases h.2 with ⟨h1,h2⟩ |⟨g,cap,cur,h1,h2,h3,h4,h5,h6,h7⟩
  · simp at h2
  · cases h1
    refine .inr ⟨g,c,cur,rfl,⟨h2,fun h8=>?_,fun h8=>?_⟩,h3,by simp at h4 ⊢;omega,h5,h6,?_⟩
    · subst h8;rw [hb.2.1] at h3;injection h3 with h3;injection h3 with _ h3 _;exact z9k h3.symm
    · obtain ⟨c',h9⟩:=hrow.type h8
      rw [h3] at h9;injection h9 with h9;injection h9 with _ h9 _;exact x4q h9.symm
    · have:=congrArg (List.take (r.length+1)) h7
      simp only [List.length_cons,Nat.mul_one] at this ⊢
      rw [List.take_take] at this
      rw [show min (r.length+1) (r.length+1+1)=r.length+1 by omega] at this
      rw [this]
      simp only [List.map_cons,List.reverse_cons,List.append_assoc]
      rw [← List.append_assoc,List.take_append_of_le_length (by simp)]
      rw [List.take_of_length_le (by simp)]
end
end
end Go.Proofs.YtkicdhaklnmonaaGreat
