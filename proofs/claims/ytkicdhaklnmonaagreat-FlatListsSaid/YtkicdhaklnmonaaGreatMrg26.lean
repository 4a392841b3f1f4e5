/-
  Merged: XRunsSl, XListM, XTreeM, XChain.
-/
import Derived.Test.YtkicdhaklnmonaaGreatMrg13
import Derived.Test.YtkicdhaklnmonaaGreatMrg4
import Derived.Test.YtkicdhaklnmonaaGreatMrg25
import Derived.Test.YtkicdhaklnmonaaGreatMrg23
import Derived.Test.YtkicdhaklnmonaaGreatMrg24
import Derived.Test.YtkicdhaklnmonaaGreatEng2
set_option linter.unusedVariables false
set_option linter.unusedSimpArgs false
set_option linter.unnecessarySimpa false
namespace Go.Proofs.YtkicdhaklnmonaaGreat
open Go.RowKit
set_option maxRecDepth 20000
section
variable {w:World} {A:Option Addr} {n:Nat}
theorem v2g {g:Nat→Nat→Value} (h:SliceG Tryz.prog w 78 A n g):RunsM (q64 w) A (q2h (fun x=>⟨valI (g x 0),valI (g x 1),valI (g x 2)⟩) n):=by
  have e3:Tryz.prog.cellsOf 78=3:=by kernel_rfl
  have ef:flat Tryz.prog 20 78=[.int .i64,.int .i64,.int .i64]:=by kernel_rfl
  intro i r hr
  have hi:i<n:=by have:=(List.getElem?_eq_some_iff.1 hr).1;simpa [q2h] using this
  have e:(⟨valI (g i 0),valI (g i 1),valI (g i 2)⟩:Run)=r:=by simpa [q2h,List.getElem?_range hi] using hr
  subst e
  have h0:=(h.int (j:=0) (k:=.i64) (by kernel_rfl) hi (by rw [ef];rfl)).1
  have h1:=(h.int (j:=1) (k:=.i64) (by kernel_rfl) hi (by rw [ef];rfl)).1
  have h2:=(h.int (j:=2) (k:=.i64) (by kernel_rfl) hi (by rw [ef];rfl)).1
  obtain ⟨b,off,hA,_,hc⟩:=h (by omega)
  rw [e3] at hc
  dsimp only
  rw [← h0,← h1,← h2]
  exact ⟨b,off,hA,(hc i hi).1 0 (by omega),(hc i hi).1 1 (by omega),(hc i hi).1 2 (by omega)⟩
end
end Go.Proofs.YtkicdhaklnmonaaGreat
namespace Go.Proofs.YtkicdhaklnmonaaGreat
open Go.RowKit Go.Proofs.YtkicdhaklnmonaaGreat.gradientRamps Go.Proofs.YtkicdhaklnmonaaGreat.gradientPlaces Go.Proofs.YtkicdhaklnmonaaGreat.imageCells
set_option maxRecDepth 20000
def valS:Value→ByteArray
  | .string s=>s
  | _=>ByteArray.empty
section
variable {w:World} {A:Option Addr} {n:Nat} {g:Nat→Nat→Value}
end
end Go.Proofs.YtkicdhaklnmonaaGreat
namespace Go.Proofs.YtkicdhaklnmonaaGreat
open Go.RowKit
inductive Tr where
  | fill (i:Nat)
  | group (i:Nat) (ms:List Tr)
  deriving Inhabited
abbrev q9s:TypeId:=153
abbrev q1j:TypeId:=146
abbrev z03:TypeId:=148
abbrev q1p:TypeId:=92
abbrev q6p:TypeId:=156
abbrev ptrV (b:Nat):Value:=.pointer (some ⟨b,0,none⟩)
section
variable (I:Nat→ItemD) (f:Nat→SrcF)
inductive NodeM (F:Mem):Value→Tr→Prop
  | fill (i b:Nat) (sv mv:Value) (hb:F b=some (.cells ((I i).cells++[.int .i64 i,sv,mv]).toArray q9s (0,0))) (hs:IsSrc F sv (f i)) (hm:IsMix F mv (I i).bl):NodeM F (.iface z03 (ptrV b)) (.fill i)
  | group (i b:Nat) (mv:Value) (A:Option Addr) (n c:Nat) (vs:List Value) (ms:List Tr) (hb:F b=some (.cells ((I i).cells++[.int .i64 i,mv,.slice A n c]).toArray q1j (0,0))) (hm:IsMix F mv (I i).bl) (hn:n=vs.length) (hc:n≤c∧c≤maxLen) (hF:FlatM F A vs)
      (hl:vs.length=ms.length) (h:∀ (j:Nat) v t,vs[j]? = some v→ms[j]? = some t→NodeM F v t):NodeM F (.iface q1p (ptrV b)) (.group i ms)
def NodesM (F:Mem) (vs:List Value) (ms:List Tr):Prop:=vs.length=ms.length∧∀ (j:Nat) v t,vs[j]? = some v→ms[j]? = some t→NodeM I f F v t
variable {I f}
theorem NodeM.mono {F F':Mem} (hF:F.le F') {v:Value} {t:Tr} (h:NodeM I f F v t):NodeM I f F' v t:=by
  induction h with
  | fill i b sv mv hb hs hm=>exact .fill i b sv mv (hF _ _ hb) (hs.mono hF) (hm.mono hF)
  | group i b mv A n c vs ms hb hm hn hc hFl hl h ih=>exact .group i b mv A n c vs ms (hF _ _ hb) (hm.mono hF) hn hc (hFl.mono hF) hl ih
theorem NodesM.mono {F F':Mem} (hF:F.le F') {vs:List Value} {ms:List Tr} (h:NodesM I f F vs ms):NodesM I f F' vs ms:=⟨h.1,fun j v t hv ht=>(h.2 j v t hv ht).mono hF⟩
theorem NodesM.nil {F:Mem}:NodesM I f F [] []:=⟨rfl,fun j v t hv=>by simp at hv⟩
theorem NodesM.snoc {F:Mem} {vs:List Value} {ms:List Tr} {v:Value} {t:Tr} (h:NodesM I f F vs ms) (hv:NodeM I f F v t):NodesM I f F (vs++[v]) (ms++[t]):=by
  refine ⟨by simp [h.1],fun j u s hu hs=>?_⟩
  have h1:=h.1
  rcases Nat.lt_trichotomy j vs.length with hj |hj |hj
  · rw [List.getElem?_append_left hj] at hu
    rw [List.getElem?_append_left (by omega)] at hs
    exact h.2 j u s hu hs
  · subst hj
    rw [List.getElem?_append_right (Nat.le_refl _)] at hu
    rw [List.getElem?_append_right (by omega)] at hs
    simp [h1] at hu hs
    subst hu;subst hs;exact hv
  · rw [List.getElem?_eq_none (by simp;omega)] at hu;cases hu
def PageM (I:Nat→ItemD) (f:Nat→SrcF) (F:Mem) (v:Value) (ms:List Tr):Prop :=
  ∃ b hd A c vs,v=ptrV b∧F b=some (.cells (hd++[.slice A vs.length c]).toArray q1j (0,0))∧hd.length=36∧hd[33]? = some (.bool false)∧vs.length≤c∧c≤maxLen∧FlatM F A vs∧NodesM I f F vs ms
structure Ent where
  b:Nat
  i:Nat
  hd:List Value
  s:Value
  full:List Value
  vs:List Value
  ms:List Tr
  pg:Bool
def linkL:Option Nat→List Ent→Prop
  | _,[]=>True
  | none,e::r=>e.full=e.vs∧linkL (some e.b) r
  | some b,e::r=>e.full=e.vs++[.iface q1p (ptrV b)]∧linkL (some e.b) r
def pgL (I:Nat→ItemD) (F:Mem):List Ent→Prop
  | []=>False
  | [e]=>e.pg=true∧e.hd[33]? = some (.bool false)
  | e::e'::r=>e.pg=false∧(∃ mv,e.hd=(I e.i).cells++[.int .i64 e.i,mv]∧IsMix F mv (I e.i).bl)∧pgL I F (e'::r)
theorem pgL.mono {F F':Mem} (hF:F.le F'):∀ {es:List Ent},pgL I F es→pgL I F' es
  | [],h=>h
  | [e],h=>h
  | e::e'::r,⟨h1,⟨mv,h2,h3⟩,h4⟩=>⟨h1,⟨mv,h2,h3.mono hF⟩,pgL.mono hF h4⟩
structure StackI (I:Nat→ItemD) (f:Nat→SrcF) (S:Nat→Prop) (M F:Mem) (es:List Ent):Prop where
  fm:F.le M
  fs:∀ b,S b→F b=none
  blk:∀ e∈es,S e.b∧M e.b=some (.cells (e.hd++[e.s]).toArray q1j (0,0))∧e.hd.length=36
  row:∀ e∈es,RowS S M q6p 1 e.s e.full.length e.full
  dist:es.Pairwise fun e e'=>e.b≠e'.b∧∀ x,q0h e.s=some x→q0h e'.s≠some x
  nodes:∀ e∈es,NodesM I f F e.vs e.ms
  pgs:pgL I F es
def OpenI (S:Nat→Prop) (M:Mem) (es:List Ent) (ov:Value):Prop:=RowS S M q1p 1 ov es.length (es.map fun e=>ptrV e.b).reverse
theorem RowS.type {S:Nat→Prop} {G:Mem} {E:TypeId} {sz n:Nat} {v:Value} {xs:List Value} (h:RowS S G E sz v n xs) {b:Nat} (hb:q0h v=some b):∃ c,G b=some (.cells c E (0,0)):=by
  rcases h.2 with ⟨rfl,_⟩ |⟨g,cap,cur,rfl,h1,h2,h3⟩
  · cases hb
  · simp [q0h] at hb;subst hb;exact ⟨_,h2⟩
theorem x7k {S S':Nat→Prop} {G:Mem} {E E':TypeId} {sz n sz' n':Nat} {v v':Value} {xs xs':List Value} (h:RowS S G E sz v n xs) (h':RowS S' G E' sz' v' n' xs') (hE:E≠E'):∀ b,q0h v=some b→q0h v'≠some b:=fun b hb hb'=>by
  obtain ⟨c,h1⟩:=h.type hb
  obtain ⟨c',h2⟩:=h'.type hb'
  rw [h1] at h2;cases h2;exact hE rfl
theorem q4g {S:Nat→Prop} {G:Mem} {E E':TypeId} {sz n b:Nat} {v:Value} {xs:List Value} {c:Array Value} (h:RowS S G E sz v n xs) (h':G b=some (.cells c E' (0,0))) (hE:E≠E'):q0h v≠some b:=fun hb=>by
  obtain ⟨c',h1⟩:=h.type hb
  rw [h1] at h';cases h';exact hE rfl
theorem z11:q6p≠q1j:=by decide
theorem x48:q6p≠q1p:=by decide
theorem z9u:q1p≠q1j:=by decide
section
variable {S S':Nat→Prop} {M M' F F':Mem} {es r:List Ent} {e e1:Ent} {ov ov':Value}
theorem StackI.grow (h:StackI I f S M F es) (hS:∀ b,S b→S' b) (hM:∀ b,S b→M' b=M b) (hF:F.le F') (hFM:F'.le M') (hd:∀ b,S' b→F' b=none):StackI I f S' M' F' es:=by
  refine ⟨hFM,hd,fun e he=>?_,fun e he=>?_,h.dist,fun e he=>(h.nodes e he).mono hF,h.pgs.mono hF⟩
  · obtain ⟨h1,h2,h3⟩:=h.blk e he
    exact ⟨hS _ h1,by rw [hM _ h1];exact h2,h3⟩
  · exact (h.row e he).of hS fun b hb=>hM b ((h.row e he).blk hb).1
theorem OpenI.grow (h:OpenI S M es ov) (hS:∀ b,S b→S' b) (hM:∀ b,S b→M' b=M b):OpenI S' M' es ov:=RowS.of h hS fun b hb=>hM b (RowS.blk h hb).1
theorem StackI.kept (h:StackI I f S M F es) {v v':Value} (hG:RowG S M v S' M' v') (hv:∀ b,q0h v=some b→S b):(∀ b,S' b→F b=none)∧F.le M':=by
  refine ⟨fun b hb=>?_,fun b o ho=>?_⟩
  · rcases hG.only b hb with h1 |h1
    · exact h.fs b h1
    · by_cases h2:q0h v=some b
      · exact h.fs b (hv b h2)
      · exact Mem.le.none h.fm (hG.fresh b h1 h2)
  · refine hG.old b o (h.fm b o ho) fun h1=>?_
    rw [h.fs b (hv b h1)] at ho;cases ho
theorem StackI.opened (h:StackI I f S M F es) {n:Nat} {xs:List Value} (ho:RowS S M q1p 1 ov n xs) (hG:RowG S M ov S' M' ov'):StackI I f S' M' F es:=by
  obtain ⟨k1,k2⟩:=h.kept hG fun b hb=>(ho.blk hb).1
  refine ⟨k2,k1,fun e he=>?_,fun e he=>?_,h.dist,h.nodes,h.pgs⟩
  · obtain ⟨h1,h2,h3⟩:=h.blk e he
    exact ⟨hG.more _ h1,hG.old _ _ h2 (q4g ho h2 z9u),h3⟩
  · exact hG.row (h.row e he) (x7k (h.row e he) ho x48)
theorem StackI.top (h:StackI I f S M F (e::r)) {s':Value} {full' vs':List Value} {ms':List Tr} (hG:RowG S M e.s S' M' s') (hr:RowS S' M' q6p 1 s' full'.length full') (hn:NodesM I f F vs' ms') :
    StackI I f S' (M'.put e.b (.cells (e.hd++[s']).toArray q1j (0,0))) F (⟨e.b,e.i,e.hd,s',full',vs',ms',e.pg⟩::r) ∧
      (∀ ov n xs,RowS S M q1p 1 ov n xs→RowS S' (M'.put e.b (.cells (e.hd++[s']).toArray q1j (0,0))) q1p 1 ov n xs)∧(∀ b c,b≠e.b→M b=some (.cells c q1j (0,0))→M'.put e.b (.cells (e.hd++[s']).toArray q1j (0,0)) b=some (.cells c q1j (0,0))) ∧
      M' e.b=some (.cells (e.hd++[e.s]).toArray q1j (0,0))∧S' e.b:=by
  have he:=h.blk e (by simp)
  have hrow:=h.row e (by simp)
  obtain ⟨hfs,hfm⟩:=h.kept hG fun b hb=>(hrow.blk hb).1
  have hMe:M' e.b=some (.cells (e.hd++[e.s]).toArray q1j (0,0)):=hG.old _ _ he.2.1 (q4g hrow he.2.1 z11)
  have hFb:F e.b=none:=h.fs _ he.1
  have hp:=List.pairwise_cons.1 h.dist
  -- a row of another entry's
  have keep:∀ {E:TypeId} {v:Value} {n:Nat} {xs:List Value},RowS S' M' E 1 v n xs→E≠q1j→RowS S' (M'.put e.b (.cells (e.hd++[s']).toArray q1j (0,0))) E 1 v n xs:=fun hx hE=>hx.of (fun _ h=>h) fun b hb=>by
    rw [Mem.put_ne]
    intro hbe;subst hbe
    exact q4g hx hMe hE hb
  have hdist:∀ e'∈r,∀ x,q0h s'=some x→q0h e'.s≠some x:=fun e' he' x hx hx'=>by
    obtain ⟨hS,o,ho⟩:=(h.row e' (List.mem_cons_of_mem _ he')).blk hx'
    by_cases h2:q0h e.s=some x
    · exact (hp.1 e' he').2 x h2 hx'
    · rw [hG.fresh x hx h2] at ho;cases ho
  refine ⟨⟨fun b o ho=>?_,hfs,fun q hq=>?_,fun q hq=>?_,?_,fun q hq=>?_,?_⟩,fun ov n xs hov=>?_,fun b c hbe hb=>?_,hMe,hG.more _ he.1⟩
  · have hne:b≠e.b:=fun e1=>by rw [e1,hFb] at ho;cases ho
    rw [Mem.put_ne _ _ hne];exact hfm b o ho
  · rcases List.mem_cons.1 hq with rfl |hq
    · exact ⟨hG.more _ he.1,Mem.put_same _ _ _,he.2.2⟩
    · obtain ⟨h1,h2,h3⟩:=h.blk q (List.mem_cons_of_mem _ hq)
      refine ⟨hG.more _ h1,?_,h3⟩
      rw [Mem.put_ne _ _ (fun e1=>(hp.1 q hq).1 e1.symm)]
      exact hG.old _ _ h2 (q4g hrow h2 z11)
  · rcases List.mem_cons.1 hq with rfl |hq
    · exact keep hr z11
    · exact keep (hG.row (h.row q (List.mem_cons_of_mem _ hq)) fun b hb hb'=>(hp.1 q hq).2 b hb' hb) z11
  · exact List.pairwise_cons.2 ⟨fun q hq=>⟨(hp.1 q hq).1,hdist q hq⟩,hp.2⟩
  · rcases List.mem_cons.1 hq with rfl |hq
    · exact hn
    · exact h.nodes q (List.mem_cons_of_mem _ hq)
  · have hg:=h.pgs
    cases r with
    | nil=>exact hg
    | cons e' r'=>exact hg
  · exact keep (hG.row hov (x7k hov hrow (Ne.symm x48))) z9u
  · rw [Mem.put_ne _ _ hbe]
    exact hG.old _ _ hb (q4g hrow hb z11)
theorem StackI.push (h:StackI I f S M F es) (hne:es≠[]) (hS:S e.b) (hM:M e.b=some (.cells (e.hd++[e.s]).toArray q1j (0,0))) (hb:∀ q∈es,e.b≠q.b) (hs:e.s=.slice none 0 0) (hf:e.full=[]) (hv:e.vs=[]) (hms:e.ms=[]) (hpg:e.pg=false) {mv:Value} (hhd:e.hd=(I e.i).cells++[.int .i64 e.i,mv]) (hmx:IsMix F mv (I e.i).bl):StackI I f S M F (e::es):=by
  refine ⟨h.fm,h.fs,fun q hq=>?_,fun q hq=>?_,List.pairwise_cons.2 ⟨fun q hq=>⟨hb q hq,fun x hx=>by rw [hs] at hx;cases hx⟩,h.dist⟩,fun q hq=>?_,?_⟩
  · rcases List.mem_cons.1 hq with rfl |hq
    · exact ⟨hS,hM,by rw [hhd];rfl⟩
    · exact h.blk q hq
  · rcases List.mem_cons.1 hq with rfl |hq
    · rw [hf,hs];exact RowS.nil _ _ _ _
    · exact h.row q hq
  · rcases List.mem_cons.1 hq with rfl |hq
    · rw [hv,hms];exact NodesM.nil
    · exact h.nodes q hq
  · cases es with
    | nil=>exact absurd rfl hne
    | cons q r=>exact ⟨hpg,⟨mv,hhd,hmx⟩,h.pgs⟩
theorem FlatM.blk {G G':Mem} {A:Option Addr} {xs:List Value} (h:FlatM G A xs) (hG:∀ a,A=some a→G' a.block=G a.block):FlatM G' A xs:=by
  rcases h with h |⟨b,off,h1,h2⟩
  · exact .inl h
  · refine .inr ⟨b,off,h1,fun j u hj=>?_⟩
    have:=h2 j u hj
    unfold Mem.cell? at this ⊢
    rw [hG _ h1];exact this
open Classical in
noncomputable def q7g (F M:Mem) (e:Ent):Mem:=fun b=>if b=e.b∨q0h e.s=some b then M b else F b
theorem StackI.pop (h:StackI I f S M F (e::e1::r)) (hl:linkL none (e::e1::r)) :
    StackI I f (fun b=>S b∧b≠e.b∧q0h e.s≠some b) M (q7g F M e) (⟨e1.b,e1.i,e1.hd,e1.s,e1.full,e1.full,e1.ms++[.group e.i e.ms],e1.pg⟩::r)∧F.le (q7g F M e):=by
  have he:=h.blk e (by simp)
  have hrow:=h.row e (by simp)
  have hp:=List.pairwise_cons.1 h.dist
  have hle:F.le (q7g F M e):=fun b o ho=>by
    unfold q7g
    have h1:¬ (b=e.b∨q0h e.s=some b):=by
      rintro (h2 |h2)
      · rw [h2,h.fs _ he.1] at ho;cases ho
      · rw [h.fs _ (hrow.blk h2).1] at ho;cases ho
    rw [if_neg h1];exact ho
  have hS:∀ q∈e1::r,q.b≠e.b∧q0h e.s≠some q.b:=fun q hq=>⟨fun h1=>(hp.1 q hq).1 h1.symm,q4g hrow (h.blk q (List.mem_cons_of_mem _ hq)).2.1 z11⟩
  have hR:∀ q∈e1::r,∀ b,q0h q.s=some b→b≠e.b∧q0h e.s≠some b:=fun q hq b hb=>⟨fun h1=>by
    subst h1;exact q4g (h.row q (List.mem_cons_of_mem _ hq)) he.2.1 z11 hb,fun h1=>(hp.1 q hq).2 b h1 hb⟩
  obtain ⟨hpg,⟨mv,hhd,hmx⟩,hpgr⟩:e.pg=false∧(∃ mv,e.hd=(I e.i).cells++[.int .i64 e.i,mv]∧IsMix F mv (I e.i).bl)∧pgL I F (e1::r):=by
    have h0:=h.pgs
    rw [pgL] at h0
    exact h0
  have hnode:NodeM I f (q7g F M e) (.iface q1p (ptrV e.b)) (.group e.i e.ms):=by
    obtain ⟨A,c,hsv,hnc,hcm⟩:=hrow.isSl
    have hvs:e.full=e.vs:=hl.1
    have hn:=h.nodes e (by simp)
    refine .group e.i e.b mv A e.full.length c e.vs e.ms ?_ (hmx.mono hle) (by rw [hvs]) ⟨hnc,hcm⟩ ?_ hn.1 fun j v t hv ht=>(hn.2 j v t hv ht).mono hle
    · unfold q7g
      rw [if_pos (.inl rfl),he.2.1,hhd,hsv]
      simp
    · rw [← hvs]
      have hfl:FlatM M A e.full:=by
        rw [hsv] at hrow;exact hrow.flat
      refine hfl.blk fun a ha=>?_
      unfold q7g
      rw [if_pos (.inr (by rw [hsv,ha];rfl))]
  refine ⟨⟨fun b o ho=>?_,fun b hb=>?_,fun q hq=>?_,fun q hq=>?_,?_,fun q hq=>?_,?_⟩,hle⟩
  · unfold q7g at ho
    split at ho
    · exact ho
    · exact h.fm b o ho
  · unfold q7g
    rw [if_neg (by rintro (h1 |h1);exact hb.2.1 h1;exact hb.2.2 h1)]
    exact h.fs b hb.1
  · rcases List.mem_cons.1 hq with rfl |hq
    · have h1:=h.blk e1 (by simp)
      exact ⟨⟨h1.1,hS e1 (by simp)⟩,h1.2⟩
    · have h1:=h.blk q (by simp [hq])
      exact ⟨⟨h1.1,hS q (by simp [hq])⟩,h1.2⟩
  · have key:∀ q∈e1::r,RowS (fun b=>S b∧b≠e.b∧q0h e.s≠some b) M q6p 1 q.s q.full.length q.full:=fun q hq=>by
      have h1:=h.row q (List.mem_cons_of_mem _ hq)
      refine ⟨h1.1,?_⟩
      rcases h1.2 with h2 |⟨g,cap,cur,h2,h3,h4⟩
      · exact .inl h2
      · exact .inr ⟨g,cap,cur,h2,⟨h3,hR q hq g (by rw [h2];rfl)⟩,h4⟩
    rcases List.mem_cons.1 hq with rfl |hq
    · exact key e1 (by simp)
    · exact key q (by simp [hq])
  · have h1:=List.pairwise_cons.1 hp.2
    exact List.pairwise_cons.2 ⟨h1.1,h1.2⟩
  · rcases List.mem_cons.1 hq with rfl |hq
    · have h1:=(h.nodes e1 (by simp)).mono hle
      have h2:e1.full=e1.vs++[.iface q1p (ptrV e.b)]:=hl.2.1
      show NodesM I f _ e1.full _
      rw [h2];exact h1.snoc hnode
    · exact (h.nodes q (by simp [hq])).mono hle
  · have:=hpgr.mono hle
    cases r with
    | nil=>exact this
    | cons q r'=>exact this
theorem linkL.pop (hl:linkL none (e::e1::r)) {ms:List Tr}:linkL none (⟨e1.b,e1.i,e1.hd,e1.s,e1.full,e1.full,ms,e1.pg⟩::r):=⟨rfl,hl.2.2⟩
theorem OpenI.pop {c:Nat} {A:Option Addr} (h:OpenI S M (e::e1::r) (.slice A (r.length+2) c)) (hs:StackI I f S M F (e::e1::r)) {ms:List Tr} :
    OpenI (fun b=>S b∧b≠e.b∧q0h e.s≠some b) M (⟨e1.b,e1.i,e1.hd,e1.s,e1.full,e1.full,ms,e1.pg⟩::r) (.slice A (r.length+1) c):=by
  have hb:=hs.blk e (by simp)
  have hrow:=hs.row e (by simp)
  unfold OpenI at h ⊢
  refine ⟨by simp,?_⟩
  rcases h.2 with ⟨h1,h2⟩ |⟨g,cap,cur,h1,h2,h3,h4,h5,h6,h7⟩
  · simp at h2
  · cases h1
    refine .inr ⟨g,c,cur,rfl,⟨h2,fun h8=>?_,fun h8=>?_⟩,h3,by simp at h4 ⊢;omega,h5,h6,?_⟩
    · subst h8;rw [hb.2.1] at h3;injection h3 with h3;injection h3 with _ h3 _;exact z9u h3.symm
    · obtain ⟨c',h9⟩:=hrow.type h8
      rw [h3] at h9;injection h9 with h9;injection h9 with _ h9 _;exact x48 h9.symm
    · have:=congrArg (List.take (r.length+1)) h7
      simp only [List.length_cons,Nat.mul_one] at this ⊢
      rw [List.take_take] at this
      rw [show min (r.length+1) (r.length+1+1)=r.length+1 by omega] at this
      rw [this]
      simp only [List.map_cons,List.reverse_cons,List.append_assoc]
      rw [← List.append_assoc,List.take_append_of_le_length (by simp)]
      rw [List.take_of_length_le (by simp)]
end
end
end Go.Proofs.YtkicdhaklnmonaaGreat
namespace Go.Proofs.YtkicdhaklnmonaaGreat
open Go.RowKit
theorem z89:∀ {l:List Nat} {j k i:Nat},l.Nodup→l[j]? = some i→l[k]? = some i→j=k
  | [],_,_,_,_,h,_=>by simp at h
  | a::l,0,0,_,_,_,_=>rfl
  | a::l,0,k+1,i,hn,h,h'=>by
    simp at h;subst h
    exact absurd (List.mem_of_getElem? (by simpa using h')) (List.nodup_cons.1 hn).1
  | a::l,j+1,0,i,hn,h,h'=>by
    simp at h';subst h'
    exact absurd (List.mem_of_getElem? (by simpa using h)) (List.nodup_cons.1 hn).1
  | a::l,j+1,k+1,i,hn,h,h'=>by
    have:=z89 (i:=i) (j:=j) (k:=k) (List.nodup_cons.1 hn).2 (by simpa using h) (by simpa using h')
    omega
def z6m (P:Program) (T:Tab) (op:Op) (fr:List AV) (hp:List Blk) (G:Mem) (K:AV→Prop):Prop :=
  match op with
  | .move x=>K (ev fr x)
  | .assign x=>K (ev fr x)
  | .load t x=>q8r T t x fr hp G fun v _ _=>K v
  | .nilCheck x=>q9z x fr K
  | .binOp op t x y _=>vBin P op t x y fr K
  | .fieldAddr s x n=>z1c T s x n fr K
  | .field s x n=>z95 T s x n fr K
  | .indexAddr t x i=>z1d T t x i fr hp K
  | .index t x i=>z96 T t x i fr K
  | .extract x n=>z1e x n fr K
  | .call ⟨.builtin .len,⟨[x]⟩,⟨[t]⟩⟩=>vLen T t (ev fr x) hp K
  | _=>False
theorem x9u {P:Program} {T:Tab} (hT:TOk P T) {o:Oper} {fr:List AV} {hp:List Blk} {G:Mem} {K:AV→Prop} (h:z6m P T o.op fr hp G K):q2b P o fr hp G K:=by
  generalize ho:o.op=op at h
  unfold z6m at h
  split at h
  · exact ⟨_,h,fun base β ρ w hr hf=>⟨_,by simp [execOp,ho];(try rfl),hf _ (by simp [ho,Op.operands])⟩⟩
  · exact ⟨_,h,fun base β ρ w hr hf=>⟨_,by simp [execOp,ho];(try rfl),hf _ (by simp [ho,Op.operands])⟩⟩
  · exact z4m hT ho h
  · exact q9e ho h
  · exact z6x ho h
  · exact q8i hT ho h
  · exact z2a hT ho h
  · exact q8j hT ho h
  · exact z2b hT ho h
  · exact z0n ho h
  · exact z6z hT ho h
  · exact h.elim
def q9t (o:Oper):Bool:=match o.op with
  | .move _=>true
  | _=>false
def rops (P:Program) (T:Tab) (l:List Oper):List AV→List Blk→Mem→(List AV→Prop)→Prop :=
  List.rec (motive:=fun _=>List AV→List Blk→Mem→(List AV→Prop)→Prop) (fun fr _ _ K=>K fr)
    (fun o _ ih fr hp G K=>z6m P T o.op fr hp G fun v=>putF o.dst v fr fun fr'=>ih fr' hp G K) l
theorem x7l {P:Program} {T:Tab} {o:Oper} {l:List Oper} {fr:List AV} {hp:List Blk} {G:Mem} {K:List AV→Prop}:rops P T (o::l) fr hp G K=z6m P T o.op fr hp G fun v=>putF o.dst v fr fun fr'=>rops P T l fr' hp G K:=rfl
def q7h (n:Nat):List Blk→Bool
  | []=>true
  | .cells _ l::r=>AV.unders n l&&q7h n r
  | .own _ _ _ _::r=>q7h n r
  | .gone::r=>q7h n r
  | .muts _::r=>q7h n r
  | .lp _ l _ _::r=>AV.unders n l&&q7h n r
  | .mp _ _ l::r=>AV.unders n l&&q7h n r
theorem z27 {n:Nat}:∀ (l:List AV),AV.unders n l=true→frLe n l l:=by
  intro l
  induction l with
  | nil=>intro _;trivial
  | cons a l ih =>
    intro h
    simp only [AV.unders,Bool.and_eq_true] at h
    have h2:=ih h.2
    cases a <;> first |exact h2 |exact ⟨⟨rfl,h.1⟩,h2⟩
theorem q6q {n:Nat}:∀ {l r:List Blk},q7h n l=true→hpLe n (l++r) l
  | [],r,_=>by cases r <;> trivial
  | x::l,r,h=>by
    cases x with
    | cells t cs=>simp only [q7h,Bool.and_eq_true] at h;exact ⟨⟨rfl,z27 _ h.1⟩,q6q h.2⟩
    | own e sz k xs=>exact ⟨⟨rfl,rfl,rfl,rfl⟩,q6q h⟩
    | gone=>exact ⟨trivial,q6q h⟩
    | muts S=>exact ⟨fun _ h=>h,q6q h⟩
    | lp i fr st p=>simp only [q7h,Bool.and_eq_true] at h;exact ⟨⟨⟨rfl,rfl,rfl⟩,z27 _ h.1⟩,q6q h.2⟩
    | mp f ks vs=>simp only [q7h,Bool.and_eq_true] at h;exact ⟨⟨⟨rfl,rfl⟩,z27 _ h.1⟩,q6q h.2⟩
structure KeepP (hp:List Blk) (G:Mem) (hp':List Blk) (G':Mem) (A:Prop):Prop where
  le:hpLe hp.length hp' hp
  sub:G.le G'
  go:A
theorem q44 {hp r:List Blk} {G G':Mem} {A:Prop} (hs:q7h hp.length hp=true) (hG:G.le G') (h:A):KeepP hp G (hp++r) G' A:=⟨q6q hs,hG,h⟩
def x49 (b:Bool) (hp:List Blk) (G:Mem) (hp':List Blk) (G':Mem) (A:Prop):Prop:=match b with
  | true=>KeepP hp G hp' G' A
  | false=>A
def cops (P:Program) (T:Tab) (hp0:List Blk) (G0:Mem) (l:List (Oper × Bool)):List AV→List Blk→Mem→(List AV→List Blk→Mem→Prop)→Prop :=
  List.rec (motive:=fun _=>List AV→List Blk→Mem→(List AV→List Blk→Mem→Prop)→Prop) (fun fr hp G K=>K fr hp G)
    (fun o _ ih fr hp G K=>vop P T o.1.op fr hp G fun v hp' G'=>x49 o.2 hp0 G0 hp' G' (putF o.1.dst v fr fun fr'=>ih fr' hp' G' K)) l
theorem x7m {P:Program} {T:Tab} {hp0:List Blk} {G0:Mem} {o:Oper × Bool} {l:List (Oper × Bool)} {fr:List AV} {hp:List Blk} {G:Mem} {K:List AV→List Blk→Mem→Prop}:cops P T hp0 G0 (o::l) fr hp G K=vop P T o.1.op fr hp G fun v hp' G'=>x49 o.2 hp0 G0 hp' G' (putF o.1.dst v fr fun fr'=>cops P T hp0 G0 l fr' hp' G' K):=rfl
def q5a (ops:List Oper):List Nat→List Oper
  | []=>[]
  | i::l=>match ops[i]? with
    | some o=>o::q5a ops l
    | none=>q5a ops l
theorem q8h {ops:List Oper}:∀ {is:List Nat},(∀ i∈is,i<ops.length)→∀ (p:Nat),(q5a ops is)[p]? = (is[p]?).bind (ops[·]?)
  | [],_,p=>by simp [q5a]
  | i::l,h,p=>by
    have hi:=h i (by simp)
    unfold q5a
    rw [List.getElem?_eq_getElem hi]
    simp only
    cases p with
    | zero=>simp [List.getElem?_eq_getElem hi]
    | succ p=>simpa using q8h (fun j hj=>h j (List.mem_cons_of_mem _ hj)) p
theorem z0g {ops:List Oper}:∀ {is:List Nat},(∀ i∈is,i<ops.length)→(q5a ops is).length=is.length
  | [],_=>by simp [q5a]
  | i::l,h=>by
    have hi:=h i (by simp)
    unfold q5a
    rw [List.getElem?_eq_getElem hi]
    simp [z0g (fun j hj=>h j (List.mem_cons_of_mem _ hj))]
def q9b (o:Oper):Bool:=o.guard.isNone&&(match o.op with
  | .select _ _=>false
  | _=>true)
def dstB (ops:List Oper) (i x:Nat):Bool:=match ops[i]? with
  | some o=>o.dst==some x
  | none=>false
def z6n (ops:List Oper) (i:Nat):List Nat:=match ops[i]? with
  | some o=>o.looksAt ops.toArray
  | none=>[]
def chainB (ops:List Oper) (rs c1 c2:List Nat):Bool :=
  (ops.zipIdx.all fun (o,i)=>q9b o&&(o.after.toList.all fun e=>!Region.binds .any e||Nat.blt e.on i)&&(rs.contains i||(c1++c2).contains i)) &&
  ((rs++(c1++c2)).all fun i=>Nat.blt i ops.length) &&
  decide (rs++(c1++c2)).Nodup &&
  ((c1++c2).zipIdx.all fun (i,p)=>(c1++c2).zipIdx.all fun (j,q)=>!Nat.blt q p||q1x ops 12 i j) &&
  (c2.all fun i=>rs.all fun r=>((ops[r]?).map q9t).getD false||q1x ops 12 i r) &&
  ((c1++c2).all fun i=>(z6n ops i).all fun x=>rs.all fun r=>!dstB ops r x||q1x ops 12 i r) &&
  (rs.zipIdx.all fun (i,p)=>(z6n ops i).all fun x=>((c1++c2).all fun j=>!dstB ops j x)&&rs.zipIdx.all fun (j,q)=>!dstB ops j x||(Nat.blt q p&&q1x ops 12 i j)) &&
  (rs.all fun r=>(c1++c2).all fun j=>match (ops[r]?).bind (·.dst) with
    | some x=>!dstB ops j x
    | none=>true) &&
  decide ((q5a ops rs).filterMap (·.dst)).Nodup
structure ChainOk (ops:List Oper) (rs c1 c2:List Nat):Prop where
  plain:∀ (i:Nat) o,ops[i]? = some o→q9b o=true
  edge:∀ (i:Nat) o,ops[i]? = some o→∀ e∈o.after,Region.binds .any e=true→e.on<i
  part:∀ i,i<ops.length→i∈rs∨i∈c1++c2
  lt:∀ i∈rs++(c1++c2),i<ops.length
  nodup:(rs++(c1++c2)).Nodup
  chain:∀ (p q i j:Nat),(c1++c2)[p]? = some i→(c1++c2)[q]? = some j→q<p→q1x ops 12 i j=true
  late:∀ i∈c2,∀ r∈rs,∀ o,ops[r]? = some o→q9t o=true∨q1x ops 12 i r=true
  look:∀ i∈c1++c2,∀ o,ops[i]? = some o→∀ x∈o.looksAt ops.toArray,∀ r∈rs,∀ q,ops[r]? = some q→q.dst=some x→q1x ops 12 i r=true
  lookr:∀ (p i:Nat),rs[p]? = some i→∀ o,ops[i]? = some o→∀ x∈o.looksAt ops.toArray,(∀ j∈c1++c2,∀ q,ops[j]? = some q→q.dst≠some x)∧∀ (p' j:Nat),rs[p']? = some j→∀ q,ops[j]? = some q→q.dst=some x→p'<p∧q1x ops 12 i j=true
  apart:∀ r∈rs,∀ q,ops[r]? = some q→∀ x,q.dst=some x→∀ j∈c1++c2,∀ o,ops[j]? = some o→o.dst≠some x
  dsts:((q5a ops rs).filterMap (·.dst)).Nodup
theorem x7n {ops:List Oper} {rs c1 c2:List Nat} (h:chainB ops rs c1 c2=true):ChainOk ops rs c1 c2:=by
  simp only [chainB,Bool.and_eq_true] at h
  obtain ⟨⟨⟨⟨⟨⟨⟨⟨h1,h2⟩,h3⟩,h4⟩,h5⟩,h6⟩,h7⟩,h8⟩,h9⟩:=h
  have ofMem:∀ {l:List Nat} {p:Nat→Bool},l.all p=true→∀ i∈l,p i=true:=fun h i hi=>by
    rw [List.all_eq_true] at h;exact h i hi
  refine ⟨fun i o ho=>?_,fun i o ho e he hb=>?_,fun i hi=>?_,fun i hi=>q1t (ofMem h2 i hi),of_decide_eq_true h3,fun p q i j hp hq hlt=>?_,fun i hi r hr o ho=>?_,fun i hi o ho x hx r hr q hq hd=>?_,fun p i hp o ho x hx=>⟨fun j hj q hq hd=>?_,fun p' j hp' q hq hd=>?_⟩,fun r hr q hq x hx j hj o ho hd=>?_,of_decide_eq_true h9⟩
  · have:=q2m h1 ho
    simp only [Bool.and_eq_true] at this;exact this.1.1
  · have:=q2m h1 ho
    simp only [Bool.and_eq_true] at this
    have h10:=this.1.2
    rw [List.all_eq_true] at h10
    have h11:=h10 e (by simpa using he)
    simp only [hb,Bool.not_true,Bool.false_or] at h11
    exact q1t h11
  · have:=q2m h1 (List.getElem?_eq_getElem hi)
    simp only [Bool.and_eq_true,Bool.or_eq_true] at this
    have h10:=this.2
    rcases h10 with h10 |h10
    · exact .inl (by simpa using h10)
    · exact .inr (by simpa using h10)
  · have h10:=q2m h4 hp
    have h11:=q2m h10 hq
    simp only [Bool.or_eq_true,Bool.not_eq_true'] at h11
    rcases h11 with h11 |h11
    · rw [show Nat.blt q p=true by simpa [Nat.blt_eq] using hlt] at h11;cases h11
    · exact h11
  · have h10:=ofMem (ofMem h5 i hi) r hr
    simp only [ho,Option.map_some,Option.getD_some,Bool.or_eq_true] at h10
    exact h10
  · have h10:=ofMem h6 i hi
    simp only [z6n,ho] at h10
    have h11:=ofMem (ofMem h10 x hx) r hr
    simpa [dstB,hq,hd] using h11
  · have h10:=q2m h7 hp
    simp only [z6n,ho] at h10
    have h11:=ofMem h10 x hx
    simp only [Bool.and_eq_true] at h11
    have h12:=ofMem h11.1 j hj
    simp [dstB,hq,hd] at h12
  · have h10:=q2m h7 hp
    simp only [z6n,ho] at h10
    have h11:=ofMem h10 x hx
    simp only [Bool.and_eq_true] at h11
    have h12:=q2m h11.2 hp'
    simp only [dstB,hq,hd,beq_self_eq_true,Bool.not_true,Bool.false_or,Bool.and_eq_true] at h12
    exact ⟨q1t h12.1,h12.2⟩
  · have h10:=ofMem (ofMem h8 r hr) j hj
    simp [hq,hx,dstB,ho,hd] at h10
def RdOk (P:Program) (o:Oper) (fr:List AV) (hp:List Blk) (G:Mem):Prop :=
  ∃ v,(∀ x,o.dst=some x→x<fr.length→fr[x]? = some v)∧(∀ (base:Nat) (β:Nm) (ρ:Operand→Value) (w:World),BR base β hp G w→q13 o fr β ρ→∃ y,(execOp ρ o).run P w=.ok (.value y) w∧v.rel β y) ∧
    (q9t o=true→∀ (β:Nm) (ρ:Operand→Value) (w:World),q13 o fr β ρ→∃ y,(execOp ρ o).run P w=.ok (.value y) w∧v.rel β y)
theorem x31 {fr fr':List AV} {o:Oper} (h:∀ t,(Operand.tmp t)∈o.op.operands.toList→fr'[t]? = fr[t]?):∀ x∈o.op.operands.toList,ev fr' x=ev fr x:=by
  intro x hx
  cases x with
  | tmp t=>simp only [ev,q6u,h t hx]
  | const v=>rfl
  | global g=>rfl
  | func f=>rfl
def setD (dst:Option Tmp) (v:AV) (fr:List AV):List AV:=match dst with
  | some d=>fr.set d v
  | none=>fr
theorem x1r {dst:Option Tmp} {v:AV} {fr:List AV} {K:List AV→Prop} (h:putF dst v fr K):K (setD dst v fr):=by
  unfold putF at h
  cases dst with
  | none=>exact h
  | some d=>simp only [q2f,q09] at h;exact h
theorem x32 {P:Program} {T:Tab} (hT:TOk P T) {hp:List Blk} {G:Mem}:∀ (l:List Oper) (fr:List AV) (K:List AV→Prop),
    (∀ (p p':Nat) o q,l[p]? = some o→l[p']? = some q→p≤p'→∀ t,(Operand.tmp t)∈o.op.operands.toList→q.dst≠some t)→(l.filterMap (·.dst)).Nodup→rops P T l fr hp G K →
    ∃ frR,K frR∧frR.length=fr.length∧(∀ x,(∀ o∈l,o.dst≠some x)→frR[x]? = fr[x]?)∧(∀ o∈l,RdOk P o frR hp G) ∧
      ∀ (base:Nat) (β:Nm) (a:Act) (w:World),BR base β hp G w→AV.rels β fr a.tmps.toList→∃ b:Act,AV.rels β frR b.tmps.toList∧b.defers=a.defers∧b.tmps.size=a.tmps.size∧∀ x,(∀ o∈l,o.dst≠some x)→b.tmps[x]? = a.tmps[x]?
  | [],fr,K,_,_,h=>⟨fr,h,rfl,fun _ _=>rfl,fun o ho=>by simp at ho,fun base β a w hb hf=>⟨a,hf,rfl,rfl,fun _ _=>rfl⟩⟩
  | o::l,fr,K,hl,hnd,h=>by
    rw [x7l] at h
    have hmv:∀ x,o.op=.move x→z6m P T o.op fr hp G (fun v=>putF o.dst v fr fun fr'=>rops P T l fr' hp G K)=putF o.dst (ev fr x) fr fun fr'=>rops P T l fr' hp G K:=fun x hx=>by rw [hx];rfl
    have key:∃ v,(putF o.dst v fr fun fr'=>rops P T l fr' hp G K)∧(∀ (base:Nat) (β:Nm) (ρ:Operand→Value) (w:World),BR base β hp G w→q13 o fr β ρ→∃ y,(execOp ρ o).run P w=.ok (.value y) w∧v.rel β y) ∧
        (q9t o=true→∀ (β:Nm) (ρ:Operand→Value) (w:World),q13 o fr β ρ→∃ y,(execOp ρ o).run P w=.ok (.value y) w∧v.rel β y):=by
      cases hm:q9t o with
      | false =>
        obtain ⟨v,h1,h2⟩:=x9u hT h
        exact ⟨v,h1,h2,fun h=>by cases h⟩
      | true =>
        have:∃ x,o.op=.move x:=by
          unfold q9t at hm
          split at hm
          · exact ⟨_,by assumption⟩
          · cases hm
        obtain ⟨x,hx⟩:=this
        rw [hmv x hx] at h
        have h2:∀ (β:Nm) (ρ:Operand→Value) (w:World),q13 o fr β ρ→∃ y,(execOp ρ o).run P w=.ok (.value y) w∧(ev fr x).rel β y:=fun β ρ w hf=>⟨ρ x,by simp [execOp,hx];(try rfl),hf x (by simp [hx,Op.operands])⟩
        exact ⟨_,h,fun base β ρ w _ hf=>h2 β ρ w hf,fun _=>h2⟩
    obtain ⟨v,h1,h2,h3⟩:=key
    have h1:=x1r h1
    generalize hfr:setD o.dst v fr=fr1 at h1
    have hnd':(l.filterMap (·.dst)).Nodup:=by
      cases hd:o.dst with
      | none=>simpa [hd] using hnd
      | some d=>rw [List.filterMap_cons_some hd] at hnd;exact hnd.of_cons
    have hself:∀ q∈l,∀ x,o.dst=some x→q.dst≠some x:=fun q hq x hx hd=>by
      rw [List.filterMap_cons_some hx] at hnd
      exact (List.nodup_cons.1 hnd).1 (List.mem_filterMap.2 ⟨q,hq,hd⟩)
    have hne:∀ x,o.dst≠some x→fr1[x]? = fr[x]?:=fun x hx=>by
      rw [← hfr]
      cases hd:o.dst with
      | none=>rfl
      | some d=>simp only [setD];rw [List.getElem?_set_ne (fun e=>hx (by rw [hd,e]))]
    have hfl:fr1.length=fr.length:=by
      rw [← hfr];cases o.dst <;> simp [setD]
    obtain ⟨frR,g1,g2,g3,g4,g5⟩:=x32 hT l fr1 K (fun p p' o q hp hq hle t ht=>hl (p+1) (p'+1) o q (by simpa using hp) (by simpa using hq) (by omega) t ht) hnd' h1
    have hops:∀ t,(Operand.tmp t)∈o.op.operands.toList→frR[t]? = fr[t]?:=fun t ht=>by
      rw [g3 t (fun q hq=>by
        obtain ⟨j,hj⟩:=List.mem_iff_getElem?.1 hq
        exact hl 0 (j+1) o q rfl (by simpa using hj) (by omega) t ht),hne t (hl 0 0 o o rfl rfl (by omega) t ht)]
    have hev:=x31 hops
    have hrd:∀ {β:Nm} {ρ:Operand→Value},q13 o frR β ρ→q13 o fr β ρ:=fun h x hx=>by rw [← hev x hx];exact h x hx
    refine ⟨frR,g1,by rw [g2,hfl],fun x hx=>by rw [g3 x (fun q hq=>hx q (List.mem_cons_of_mem _ hq)),hne x (hx o (by simp))],fun q hq=>?_,fun base β a w hb hf=>?_⟩
    · rcases List.mem_cons.1 hq with rfl |hq
      · refine ⟨v,fun x hx hlt=>?_,fun base β ρ w hb hf=>h2 base β ρ w hb (hrd hf),fun hm β ρ w hf=>h3 hm β ρ w (hrd hf)⟩
        rw [g3 x (fun p hp=>hself p hp x hx),← hfr,hx]
        simp only [setD]
        rw [List.getElem?_set_self (by rw [← hfl,← g2];exact hlt)]
      · exact g4 q hq
    · obtain ⟨y,h4,h5⟩:=h2 base β a.eval w hb (z09 hf)
      have hf1:AV.rels β fr1 (a.put o.dst y).tmps.toList:=by
        rw [← hfr]
        cases hd:o.dst with
        | none=>simpa [Act.put,setD] using hf
        | some d=>simpa [Act.put,setD,Array.toList_setIfInBounds] using AV.rels_set d hf h5
      obtain ⟨b,k1,k2,k3,k4⟩:=g5 base β (a.put o.dst y) w hb hf1
      refine ⟨b,k1,by rw [k2,q1n],by rw [k3];cases o.dst <;> simp [Act.put],fun x hx=>?_⟩
      rw [k4 x (fun q hq=>hx q (List.mem_cons_of_mem _ hq))]
      cases hd:o.dst with
      | none=>rfl
      | some d=>simp only [Act.put];rw [Array.getElem?_setIfInBounds_ne (fun e=>hx o (by simp) (by rw [hd,e]))]
theorem x7o {P:Program} {o:Oper} {a b:Act} {w:World} {N:Act→World→Prop} {Q:Exit→Act→World→Prop} (hp:q9b o=true) (hev:∀ x∈o.op.operands.toList,b.eval x=a.eval x) (hs:b.tmps.size=a.tmps.size)
    (h:Oper.wpW P o b w (fun b' w'=>∃ y,b'=b.put o.dst y∧N (a.put o.dst y) w') (fun _ _ _=>False)):Oper.wpW P o a w N Q:=by
  have hinj:∀ y y',b.put o.dst y=b.put o.dst y'→a.put o.dst y=a.put o.dst y':=fun y y' e=>by
    cases hd:o.dst with
    | none=>rfl
    | some d =>
      rw [hd] at e
      simp only [Act.put] at e ⊢
      have e1:b.tmps.setIfInBounds d y=b.tmps.setIfInBounds d y':=congrArg Act.tmps e
      by_cases hlt:d<b.tmps.size
      · have e2:=congrArg (fun t:Array Value=>t[d]?) e1
        simp [Array.getElem?_setIfInBounds_self_of_lt,hlt] at e2
        rw [e2]
      · have hge:a.tmps.size≤d:=by rw [← hs];exact Nat.le_of_not_lt hlt
        rw [Array.setIfInBounds_eq_of_size_le hge,Array.setIfInBounds_eq_of_size_le hge]
  have hN:∀ y w',(∃ y',b.put o.dst y=b.put o.dst y'∧N (a.put o.dst y') w')→N (a.put o.dst y) w':=fun y w' ⟨y',e,h⟩=>by rw [hinj y y' e];exact h
  have hop:execOp a.eval o=execOp b.eval o:=(execOp_congr o (fun cs d e=>by simp [q9b,e] at hp) (fun x hx=>(hev x (by simpa using hx)))).symm
  unfold Oper.wpW at h ⊢
  rw [hop]
  generalize (execOp b.eval o).run P w=r at h
  cases r with
  | ok nx w' =>
    cases nx <;> simp only [Oper.uponIn] at h ⊢ <;> first
      | exact hN _ w' h
      | (obtain ⟨y,e,_⟩:=h
         have e1:=congrArg Act.defers e
         rw [q1n,q1n] at e1
         exact absurd e1 (by simp))
      | exact ⟨h.1,CallsIn.mono h.2 (fun e w'' he=>by cases e <;> first |exact hN _ _ he |exact he.elim |(obtain ⟨_,_,f⟩:=he;exact f.elim))⟩
      | exact ⟨h.1,RowsIn.mono h.2 (fun _ _ he=>hN _ _ he)⟩
      | exact ⟨h.1,RoundIn.mono h.2 (fun e w'' he=>by cases e <;> first |exact hN _ _ he |exact he.elim |(obtain ⟨_,_,f⟩:=he;exact f.elim))⟩
      | exact h.elim
  | halt x w'=>cases x <;> simp only [Oper.uponIn] at h ⊢ <;> exact h.elim
section
variable {P:Program} {T:Tab} {ops:List Oper} {rs c1 c2:List Nat} {w0:World} {G0:Mem} {β0:Nm} {ds:List Deferred} {Q:Exit→Act→World→Prop} {K:List AV→List Blk→Mem→Prop}
def chL (ops:List Oper) (c1 c2:List Nat):List (Oper × Bool):=(q5a ops c1).map (fun o=>(o,true))++(q5a ops c2).map (fun o=>(o,false))
theorem v1e (h1:∀ i∈c1,i<ops.length) (h2:∀ i∈c2,i<ops.length) {p i:Nat} (hi:(c1++c2)[p]? = some i):∃ o,ops[i]? = some o∧(chL ops c1 c2)[p]? = some (o,decide (p<c1.length)):=by
  unfold chL
  have l1:=z0g h1
  by_cases hp:p<c1.length
  · rw [List.getElem?_append_left hp] at hi
    have hlt:=h1 i (List.mem_of_getElem? hi)
    refine ⟨ops[i],List.getElem?_eq_getElem hlt,?_⟩
    rw [List.getElem?_append_left (by rw [List.length_map,l1];exact hp),List.getElem?_map,q8h h1,hi]
    simp [hp,List.getElem?_eq_getElem hlt]
  · rw [List.getElem?_append_right (by omega)] at hi
    have hlt:=h2 i (List.mem_of_getElem? hi)
    refine ⟨ops[i],List.getElem?_eq_getElem hlt,?_⟩
    rw [List.getElem?_append_right (by rw [List.length_map,l1];omega),List.getElem?_map,List.length_map,l1,q8h h2,hi]
    simp [hp,List.getElem?_eq_getElem hlt]
theorem v1f (h1:∀ i∈c1,i<ops.length) (h2:∀ i∈c2,i<ops.length):(chL ops c1 c2).length=(c1++c2).length:=by
  unfold chL;simp [z0g h1,z0g h2]
structure CInv (P:Program) (T:Tab) (ops:List Oper) (rs c1 c2:List Nat) (w0:World) (G0:Mem) (β0:Nm) (ds:List Deferred) (hp:List Blk) (G:Mem) (frR:List AV) (K:List AV→List Blk→Mem→Prop) (listed:Array Bool) (a:Act) (w:World):Prop where
  size:listed.size=ops.length
  closed:∀ (i:Nat) o,ops[i]? = some o→listed.getD i true=true→∀ j,depB o j=true→listed.getD j true=true
  state:∃ (p:Nat) (β:Nm) (fr':List AV) (hp':List Blk) (G':Mem) (b:Act),
    p≤(c1++c2).length∧(∀ j i,(c1++c2)[j]? = some i→(listed.getD i true=true↔j<p))∧β0.le β∧HR w0 G0 β hp' G' w∧a.defers=ds∧AV.rels β fr' b.tmps.toList∧b.defers=a.defers∧b.tmps.size=a.tmps.size ∧
    (∀ x,(∀ r∈rs,∀ o,ops[r]? = some o→listed.getD r true=false→o.dst≠some x)→a.tmps[x]? = b.tmps[x]?) ∧
    (∀ x,(∀ i∈c1++c2,∀ o,ops[i]? = some o→o.dst≠some x)→fr'[x]? = frR[x]?)∧fr'.length=frR.length ∧
    (p≤c1.length→hpLe hp.length hp' hp∧G.le G')∧cops P T hp G ((chL ops c1 c2).drop p) fr' hp' G' K
theorem x9v (hok:ChainOk ops rs c1 c2) {L:Nat→Prop} (hcl:∀ (i:Nat) o,ops[i]? = some o→L i→∀ j,depB o j=true→L j) {i j:Nat} {o:Oper} (ho:ops[i]? = some o) (hd:∀ j,depB o j=true→L j) (h:q1x ops 12 i j=true):L j:=q3e hcl 12 i o ho hd j h
theorem z9a:∀ {l:List AV} {n x:Nat} {v:AV},AV.unders n l=true→l[x]? = some v→v.under n=true
  | [],_,_,_,_,h=>by simp at h
  | a::l,n,0,v,hu,h=>by
    simp only [AV.unders,Bool.and_eq_true] at hu
    simp at h;subst h;exact hu.1
  | a::l,n,x+1,v,hu,h=>by
    simp only [AV.unders,Bool.and_eq_true] at hu
    exact z9a hu.2 (by simpa using h)
theorem x7p (hT:TOk P T) (hok:ChainOk ops rs c1 c2) {hp:List Blk} {G:Mem} {frR:List AV} (hQ:∀ a' w',Sat w0 G0 β0 ds K a' w'→Q .normal a' w')
    (hrd:∀ r∈rs,∀ o,ops[r]? = some o→RdOk P o frR hp G) (hu:AV.unders hp.length frR=true) :
    ∀ (fuel:Nat) (listed:Array Bool) (a:Act) (w:World),unl listed ops.length=fuel→CInv P T ops rs c1 c2 w0 G0 β0 ds hp G frR K listed a w→q5p P ops.toArray Q fuel listed a w:=by
  have lt1:∀ i∈c1,i<ops.length:=fun i hi=>hok.lt i (by simp [hi])
  have lt2:∀ i∈c2,i<ops.length:=fun i hi=>hok.lt i (by simp [hi])
  have hnd:=List.nodup_append.1 hok.nodup
  intro fuel
  induction fuel with
  | zero =>
    rintro listed a w hunl ⟨hs,hcl,p,β,fr',hp',G',b,h1,h2,h3,h4,h5,h6,h7,h8,h9,h10,h11,h12,h13⟩
    have hall:=q7n _ hunl
    refine ⟨z1k hall,hQ a w ⟨β,fr',hp',G',h3,h4,?_,h5,?_⟩⟩
    · have:a.tmps=b.tmps:=by
        apply Array.ext_getElem?
        intro x
        refine h9 x fun r hr o ho hl=>?_
        rw [hall r (List.getElem?_eq_some_iff.1 ho).1] at hl;cases hl
      rw [this];exact h6
    · have:p=(c1++c2).length:=by
        rcases Nat.lt_or_ge p (c1++c2).length with hlt |hge
        · have e:=List.getElem?_eq_getElem hlt
          have:=(h2 p _ e).1 (hall _ (hok.lt _ (List.mem_append_right _ (List.getElem_mem hlt))))
          omega
        · omega
      rw [this,← v1f lt1 lt2,List.drop_length] at h13
      exact h13
  | succ fuel ih =>
    rintro listed a w hunl ⟨hs,hcl,p,β,fr',hp',G',b,h1,h2,h3,h4,h5,h6,h7,h8,h9,h10,h11,h12,h13⟩
    refine ⟨fun he=>?_,fun i hi=>?_⟩
    · exfalso
      obtain ⟨i,g1,g2,g3⟩:=z3l _ (by rw [hunl];exact Nat.succ_ne_zero _)
      have ho:ops[i]? = some ops[i]:=List.getElem?_eq_getElem g1
      have:i∈Region.ready .any ops.toArray listed:=mem_ready.2 ⟨g2,ops[i],by simpa using ho,fun e he hb=>by
        have h4:=hok.edge i _ ho e he hb
        rw [← q6n (by omega)];exact g3 _ h4⟩
      rw [he] at this;cases this
    obtain ⟨g1,o,g2,g3⟩:=mem_ready.1 hi
    have hlt:i<ops.length:=by have:=(Array.getElem?_eq_some_iff.1 g2).1;simpa using this
    have ho:ops[i]? = some o:=by simpa using g2
    have hpl:=hok.plain i o ho
    have hdep:∀ j,depB o j=true→listed.getD j true=true:=fun j hj=>by
      obtain ⟨e,he,hb,heq⟩:=z3j hj
      have h5:=g3 e he hb
      have h6:=hok.edge i o ho e he hb
      rw [heq] at h5 h6
      rw [q6n (by omega)];exact h5
    have hwait:∀ j,q1x ops 12 i j=true→listed.getD j true=true:=fun j hj=>x9v hok (L:=fun j=>listed.getD j true=true) hcl ho hdep hj
    have hs':(listed.setIfInBounds i true).size=ops.length:=by simp [hs]
    have hu':unl (listed.setIfInBounds i true) ops.length=fuel:=by
      have:=z0w g1 ops.length
      rw [if_pos hlt] at this;omega
    have hcl':∀ (k:Nat) q,ops[k]? = some q→(listed.setIfInBounds i true).getD k true=true→∀ j,depB q j=true→(listed.setIfInBounds i true).getD j true=true:=fun k q hq hk j hj=>by
      have hset:∀ j,listed.getD j true=true→(listed.setIfInBounds i true).getD j true=true:=fun j hj=>by
        by_cases e:i=j
        · subst e;rw [q18 (by omega)]
        · rw [q0x e];exact hj
      by_cases e:i=k
      · subst e;rw [ho] at hq;cases hq;exact hset j (hdep j hj)
      · rw [q0x e] at hk;exact hset j (hcl k q hq hk j hj)
    have hwant:Region.wanted o (yielded ops.toArray a.tmps)=true:=by
      have:o.guard=none:=by simpa [q9b] using (show o.guard.isNone=true by simp [q9b] at hpl;simpa using hpl.1)
      simp [Region.wanted,this]
    have hlook:∀ t,(Operand.tmp t)∈o.op.operands.toList→t∈o.looksAt ops.toArray:=fun t ht=>List.mem_append_left _ (List.mem_filterMap.2 ⟨.tmp t,by simpa using ht,rfl⟩)
    unfold q8p
    rw [g2]
    simp only
    rw [if_pos hwant]
    refine .inl ?_
    rcases hok.part i hlt with hir |hic
    · -- a read
      obtain ⟨v,k1,k2,k3⟩:=hrd i hir o ho
      obtain ⟨pi,hpi⟩:=List.mem_iff_getElem?.1 hir
      have hslot:∀ t,(Operand.tmp t)∈o.op.operands.toList→a.tmps[t]? = b.tmps[t]?∧fr'[t]? = frR[t]?:=fun t ht=>by
        obtain ⟨q1,q2⟩:=hok.lookr pi i hpi o ho t (hlook t ht)
        refine ⟨h9 t fun r hr q hq hl hd=>?_,h10 t fun j hj q hq=>q1 j hj q hq⟩
        obtain ⟨pr,hpr⟩:=List.mem_iff_getElem?.1 hr
        have:=hwait r (q2 pr r hpr q hq hd).2
        rw [this] at hl;cases hl
      have hreads:q13 o frR β a.eval:=by
        intro x hx
        have e1:ev frR x=ev fr' x:=x31 (fr:=fr') (fr':=frR) (o:=o) (fun t ht=>(hslot t ht).2.symm) x hx
        have e2:a.eval x=b.eval x:=by
          cases x with
          | tmp t=>simp only [Act.eval,Array.getD_eq_getD_getElem?];rw [(hslot t hx).1]
          | const v=>rfl
          | global g=>rfl
          | func f=>rfl
        rw [e1,e2];exact q1f h6 x
      have hreads':q13 o frR (β.cut hp.length) a.eval:=fun x hx=>by
        refine AV.rel_cut _ _ ?_ (hreads x hx)
        cases x with
        | tmp t =>
          simp only [ev,q6u]
          cases hv:frR[t]? with
          | none=>rfl
          | some v=>exact z9a hu hv
        | const v=>rfl
        | global g=>rfl
        | func f=>rfl
      have hval:∃ y,(execOp a.eval o).run P w=.ok (.value y) w∧v.rel β y:=by
        by_cases hm:q9t o=true
        · exact k3 hm β _ w hreads
        · have hp1:p≤c1.length:=by
            rcases Nat.lt_or_ge c1.length p with hgt |hle
            · exfalso
              have hlt2:c1.length<(c1++c2).length:=by omega
              have e:=List.getElem?_eq_getElem hlt2
              have hl:=(h2 _ _ e).2 hgt
              have hmem:(c1++c2)[c1.length]∈c2:=by
                rw [List.getElem_append_right (Nat.le_refl _)];exact List.getElem_mem _
              have hq:ops[(c1++c2)[c1.length]]? = some _:=List.getElem?_eq_getElem (lt2 _ hmem)
              rcases hok.late _ hmem i hir o ho with hmv |hw
              · exact hm hmv
              · have:=q3e (ops:=ops) (L:=fun j=>listed.getD j true=true) hcl 12 _ _ hq (fun j hj=>hcl _ _ hq hl j hj) i hw
                rw [this] at g1;cases g1
            · exact hle
          obtain ⟨q1,q2⟩:=h12 hp1
          have hw:=h4.weaken (n:=hp.length) rfl q1
          have hbr:BR w0.heap.size (β.cut hp.length) hp G w:=by
            have:=hw.br
            refine ⟨fun k y x hk hx=>?_,fun b o hb=>this.hold b o (q2 b o hb)⟩
            have h14:=this.blk k y x hk hx
            refine Blk.rel_of (Nm.le_refl _) h14 (fun c hc=>⟨rfl,fun h4=>?_⟩)
            exact Mem.le.none q2 h4
          obtain ⟨y,q3,q4⟩:=k2 _ _ _ _ hbr hreads'
          exact ⟨y,q3,AV.rel_mono (fun k y hk=>(Nm.cut_some hk).2) _ _ q4⟩
      obtain ⟨y,q1,q2⟩:=hval
      unfold Oper.wpW
      rw [q1]
      refine ih _ _ _ hu' ⟨hs',hcl',p,β,fr',hp',G',b.put o.dst y,h1,fun j k hj=>?_,h3,h4,by rw [q1n];exact h5,?_,by rw [q1n,q1n];exact h7,?_,fun x hx=>?_,h10,h11,h12,h13⟩
      · have hne:i≠k:=fun e=>by
          subst e
          exact hnd.2.2 i hir i (List.mem_of_getElem? hj) rfl
        rw [q0x hne];exact h2 j k hj
      · cases hd:o.dst with
        | none=>simpa [Act.put] using h6
        | some d =>
          have hset:=AV.rels_set d h6 q2
          by_cases hdl:d<frR.length
          · have e:fr'.set d v=fr':=by
              apply List.ext_getElem?
              intro j
              by_cases hj:d=j
              · subst hj
                rw [List.getElem?_set_self (show d<fr'.length by rw [h11];exact hdl),h10 d (fun j hj q hq=>hok.apart i hir o ho d hd j hj q hq),k1 d hd hdl]
              · rw [List.getElem?_set_ne hj]
            rw [e] at hset
            simpa [Act.put,Array.toList_setIfInBounds] using hset
          · have:fr'.set d v=fr':=List.set_eq_of_length_le (by rw [h11];exact Nat.le_of_not_lt hdl)
            rw [this] at hset
            simpa [Act.put,Array.toList_setIfInBounds] using hset
      · cases o.dst <;> simp [Act.put,h8]
      · by_cases hd:o.dst=some x
        · rw [hd]
          simp only [Act.put,Array.getElem?_setIfInBounds,if_pos,h8]
        · have h14:a.tmps[x]? = b.tmps[x]?:=h9 x fun r hr q hq hl=>by
            by_cases e:i=r
            · subst e;rw [ho] at hq;cases hq;exact hd
            · exact hx r hr q hq (by rw [q0x e];exact hl)
          cases hdd:o.dst with
          | none=>exact h14
          | some d =>
            have hne:d≠x:=fun e=>hd (by rw [hdd,e])
            simp only [Act.put]
            rw [Array.getElem?_setIfInBounds_ne hne,Array.getElem?_setIfInBounds_ne hne];exact h14
    · -- one of the chain
      obtain ⟨j,hj⟩:=List.mem_iff_getElem?.1 hic
      have hjp:j=p:=by
        have hge:p≤j:=by
          rcases Nat.lt_or_ge j p with h14 |h14
          · rw [(h2 j i hj).2 h14] at g1;cases g1
          · exact h14
        rcases Nat.lt_or_ge p j with h14 |h14
        · exfalso
          have hpl:p<(c1++c2).length:=by have:=(List.getElem?_eq_some_iff.1 hj).1;omega
          have e:=List.getElem?_eq_getElem hpl
          have:=(h2 p _ e).1 (hwait _ (hok.chain j p i _ hj e h14))
          omega
        · omega
      subst hjp
      obtain ⟨o',ho',hget⟩:=v1e lt1 lt2 hj
      rw [ho] at ho';cases ho'
      have hjl:j<(chL ops c1 c2).length:=(List.getElem?_eq_some_iff.1 hget).1
      have hdrop:(chL ops c1 c2).drop j=(o,decide (j<c1.length))::(chL ops c1 c2).drop (j+1):=by
        rw [List.drop_eq_getElem_cons hjl]
        have:(chL ops c1 c2)[j]=(o,decide (j<c1.length)):=by rw [List.getElem?_eq_getElem hjl] at hget;injection hget
        rw [this]
      rw [hdrop,x7m] at h13
      refine x7o hpl (b:=b) (fun x hx=>?_) h8 (z5l hT h13 w0 G0 β b w _ _ h4 h6 ?_)
      · cases x with
        | tmp t =>
          simp only [Act.eval,Array.getD_eq_getD_getElem?]
          rw [h9 t fun r hr q hq hl hd=>?_]
          have:=hwait r (hok.look i hic o ho t (hlook t hx) r hr q hq hd)
          rw [this] at hl;cases hl
        | const v=>rfl
        | global g=>rfl
        | func f=>rfl
      · intro β' v y hp'' G'' w' q1 q2 q3 q4
        refine ⟨y,rfl,?_⟩
        have hkeep:(j+1≤c1.length→hpLe hp.length hp'' hp∧G.le G'')∧putF o.dst v fr' fun fr'=>cops P T hp G ((chL ops c1 c2).drop (j+1)) fr' hp'' G'' K:=by
          unfold x49 at q4
          by_cases hjc:j<c1.length
          · simp only [hjc,decide_true] at q4
            exact ⟨fun _=>⟨q4.le,q4.sub⟩,q4.go⟩
          · simp only [hjc,decide_false] at q4
            exact ⟨fun h=>absurd h (by omega),q4⟩
        obtain ⟨q5,q6⟩:=hkeep
        have q7:=x1r q6
        refine ih _ _ _ hu' ⟨hs',hcl',j+1,β',setD o.dst v fr',hp'',G'',b.put o.dst y,by have:=(List.getElem?_eq_some_iff.1 hj).1;omega,fun k l hk=>?_,Nm.le_trans h3 q1,q2,by rw [q1n];exact h5,?_,by rw [q1n,q1n];exact h7,?_,fun x hx=>?_,fun x hx=>?_,?_,q5,q7⟩
        · by_cases e:i=l
          · subst e
            have:j=k:=z89 hnd.2.1 hj hk
            rw [q18 (by omega)];simp;omega
          · rw [q0x e,h2 k l hk]
            have:j≠k:=fun e2=>e (by subst e2;rw [hj] at hk;injection hk)
            omega
        · have hm:=AV.rels_mono q1 _ _ h6
          cases hd:o.dst with
          | none=>simpa [Act.put,setD] using hm
          | some d=>simpa [Act.put,setD,Array.toList_setIfInBounds] using AV.rels_set d hm q3
        · cases o.dst <;> simp [Act.put,h8]
        · have h14:a.tmps[x]? = b.tmps[x]?:=h9 x fun r hr q hq hl=>hx r hr q hq (by
            have:i≠r:=fun e=>by subst e;exact hnd.2.2 i hr i hic rfl
            rw [q0x this];exact hl)
          cases hdd:o.dst with
          | none=>exact h14
          | some d =>
            simp only [Act.put,Array.getElem?_setIfInBounds,h8,h14]
        · cases hdd:o.dst with
          | none=>exact h10 x hx
          | some d =>
            simp only [setD]
            rw [List.getElem?_set_ne (fun e=>hx i hic o ho (by rw [hdd,e]))];exact h10 x hx
        · cases o.dst <;> simp [setD,h11]
end
theorem z0u {P:Program} {T:Tab} (hT:TOk P T) (hm:P.follows .mixedOrders=true) {ops:List Oper} (rs c1 c2:List Nat) (hB:chainB ops rs c1 c2=true) {fr:List AV} {hp:List Blk} {G:Mem} {K:List AV→List Blk→Mem→Prop}
    (h:rops P T (q5a ops rs) fr hp G fun frR=>q0o (AV.unders hp.length frR) (KeepP hp G hp G (cops P T hp G (chL ops c1 c2) frR hp G K))):DrawP P ops fr hp G K:=by
  refine ⟨hm,?_⟩
  intro w0 G0 ds β0 β a w Q hβ hr hf hd hQ
  have hok:=x7n hB
  have ltr:∀ i∈rs,i<ops.length:=fun i hi=>hok.lt i (by simp [hi])
  have hget:∀ (p:Nat) o,(q5a ops rs)[p]? = some o→∃ i,rs[p]? = some i∧ops[i]? = some o:=fun p o hp=>by
    rw [q8h ltr] at hp
    obtain ⟨i,h1,h2⟩:=Option.bind_eq_some_iff.1 hp
    exact ⟨i,h1,h2⟩
  obtain ⟨frR,h1,h2,h3,h4,h5⟩:=x32 hT (q5a ops rs) fr _ (fun p p' o q ho hq hle t ht hdst=>by
    obtain ⟨i,hi,hoi⟩:=hget p o ho
    obtain ⟨j,hj,hqj⟩:=hget p' q hq
    have:=((hok.lookr p i hi o hoi t (List.mem_append_left _ (List.mem_filterMap.2 ⟨.tmp t,by simpa using ht,rfl⟩))).2 p' j hj q hqj hdst).1
    omega) hok.dsts h
  obtain ⟨hu,h6⟩:=q0n h1
  have hrd:∀ r∈rs,∀ o,ops[r]? = some o→RdOk P o frR hp G:=fun r hr o ho=>by
    obtain ⟨p,hp⟩:=List.mem_iff_getElem?.1 hr
    refine h4 o (List.mem_of_getElem? (i:=p) ?_)
    rw [q8h ltr,hp];exact ho
  obtain ⟨b,k1,k2,k3,k4⟩:=h5 _ β a w hr.br hf
  have hrep:∀ i,i<ops.length→(Array.replicate ops.length false).getD i true=false:=fun i hi=>by simp [Array.getD,hi]
  have hunl:∀ n,n≤ops.length→unl (Array.replicate ops.length false) n=n:=by
    intro n
    induction n with
    | zero=>intro _;rfl
    | succ n ih=>intro hn;simp only [unl,ih (by omega),hrep n (by omega),if_true]
  refine x7p hT hok hQ hrd hu _ _ _ _ (by simpa using hunl ops.length (Nat.le_refl _)) ⟨by simp,fun i o ho hl=>?_,0,β,frR,hp,G,b,Nat.zero_le _,fun j i hj=>?_,hβ,hr.drew,hd,k1,k2,k3,fun x hx=>(k4 x fun o ho hdst=>?_).symm,fun _ _=>rfl,rfl,fun _=>⟨h6.le,h6.sub⟩,h6.go⟩
  · have:=hrep i (List.getElem?_eq_some_iff.1 ho).1
    simp only [List.size_toArray] at hl
    rw [this] at hl;cases hl
  · have:=hrep i (hok.lt i (List.mem_append_right _ (List.mem_of_getElem? hj)))
    simp only [List.size_toArray]
    rw [this];simp
  · obtain ⟨p,hp⟩:=List.mem_iff_getElem?.1 ho
    obtain ⟨r,hr1,hr2⟩:=hget p o hp
    exact hx r (List.mem_of_getElem? hr1) o hr2 (by simp only [List.size_toArray];exact hrep r (List.getElem?_eq_some_iff.1 hr2).1) hdst
end Go.Proofs.YtkicdhaklnmonaaGreat
