/-
  Merged: XArg, XSort, XApartLaw, XApartCmp, XGm.
-/
import Derived.Shelf.SlSortCmp.NoneTotal
import Derived.Test.YtkicdhaklnmonaaGreatMrg13
import Derived.Test.YtkicdhaklnmonaaGreatMrg16
import Derived.Test.YtkicdhaklnmonaaGreatMrg14
import Derived.Test.YtkicdhaklnmonaaGreatMrg15
set_option linter.unusedVariables false
set_option linter.unusedSimpArgs false
set_option linter.unnecessarySimpa false
namespace Go.Proofs.YtkicdhaklnmonaaGreat
open Go.RowKit
def RowM (G:Mem) (A:Option Addr) (xs:List Value):Prop:=(A=none∧xs=[])∨∃ b off,A=some ⟨b,off,none⟩∧∀ (j:Nat) u,xs[j]? = some u→G.cell? ⟨b,off+j,none⟩=some u
theorem RowM.mono {G G':Mem} {A:Option Addr} {xs:List Value} (h:RowM G A xs) (hle:G.le G'):RowM G' A xs:=by
  rcases h with h |⟨b,off,h1,h2⟩
  · exact .inl h
  · exact .inr ⟨b,off,h1,fun j u hj=>hle.cell (h2 j u hj)⟩
theorem x62 {P:Program} {f:FuncId} (hen:∀ vs w,(callFunc f vs).run P w=.ok (.enter f vs) w) {k:Nat} {post:List AV} {hp:List Blk} {G:Mem} {K:AV→List Blk→Mem→Prop} {E:TypeId} {sz n:Nat} {xs:List Value} (hk:nthB hp k=.own E sz n xs) (hu:AV.unders 0 post=true)
    (h:∀ A cap G',G.le G'→n≤cap→cap≤maxLen→RowM G' A xs→setF hp k .gone fun hp'=>CallP P f (.val (.slice A n cap)::post) hp' G' K):CallP P f (.own k::post) hp G K:=by
  refine ⟨hen,fun w0 G0 β w vs hr ha=>?_⟩
  have ha':=ha
  simp only [AV.rels] at ha
  obtain ⟨v,ts,hvs,hv,hts⟩:=ha
  simp only [AV.rel] at hv
  obtain ⟨x,hx1,hx2⟩:=hr.blk k v hv.1
  have hkx:=q0p hk rfl
  rw [hkx] at hx1;cases hx1
  obtain ⟨⟨hlen,hown⟩,hfree⟩:=hx2
  rcases hown with ⟨rfl,h5⟩ |⟨g,cap,cur,rfl,h5,h6,h7,h8,h9,h10⟩
  · have h0:=h none 0 G (Mem.le_refl _) (by omega) (Nat.zero_le _) (.inl ⟨rfl,by rw [h5] at hlen;simpa using hlen⟩)
    rw [q09] at h0
    subst h5
    refine h0.calls w0 G0 β w vs (hr.forget k) ?_
    simp only [AV.rels,AV.rel]
    exact ⟨_,ts,hvs,rfl,hts⟩
  · have hcell:∀ (j:Nat) u,xs[j]? = some u→(G.and w g).cell? ⟨g,0+j,none⟩=some u:=fun j u hj=>by
      have h11:(G.and w g) g=some (.cells cur E (0,0)):=by simp [Mem.and,h6]
      unfold Mem.cell?
      rw [Nat.zero_add,h11]
      rw [← h10] at hj
      rw [List.getElem?_take] at hj
      split at hj
      · simpa using hj
      · cases hj
    have h0:=h (some ⟨g,0,none⟩) cap (G.and w g) (Mem.le_and hr.hold g) h7 h8 (.inr ⟨g,0,rfl,hcell⟩)
    rw [q09] at h0
    have hf:=hr.forget k
    have hbig:=(hr.lt hv.1 hkx rfl (b:=g) rfl).1
    refine h0.calls w0 G0 β w vs ⟨hf.below,Mem.and_holds hr.hold g,Mem.le_trans hr.sub (Mem.le_and hr.hold g),fun b o hb=>?_,fun j z hj=>?_,hf.inj,hf.wrt⟩ ?_
    · unfold Mem.and at hb
      split at hb
      · rename_i e1;subst e1
        exact .inr h5
      · exact hr.grow b o hb
    · obtain ⟨x,hx1,hx2⟩:=hf.blk j z hj
      refine ⟨x,hx1,?_⟩
      have hne:∀ b,x.live=true→q0h z=some b→b≠g:=fun b hl hb e=>by
        subst e
        by_cases hjk:j=k
        · subst hjk
          rw [List.getElem?_set] at hx1
          simp [(List.getElem?_eq_some_iff.1 hkx).1] at hx1
          subst hx1;simp [Blk.live] at hl
        · have hx3:hp[j]? = some x:=by rw [List.getElem?_set,if_neg (fun e=>hjk e.symm)] at hx1;exact hx1
          exact hr.inj j k z _ x _ b hjk hj hv.1 hx3 hkx hl rfl hb rfl
      cases x with
      | gone=>trivial
      | muts S=>exact hx2.elim
      | cells t l =>
        obtain ⟨b,c,q1,q2,q3,q4,q5⟩:=hx2
        refine ⟨b,c,q1,q2,?_,q4,q5⟩
        have:=hne b rfl (by rw [q1];rfl)
        simp [Mem.and,this,q3]
      | own e sz' n' xs' =>
        obtain ⟨q1,q2⟩:=hx2
        refine ⟨q1,fun b hb=>?_⟩
        have:=hne b rfl hb
        simp [Mem.and,this,q2 b hb]
      | lp i fr st p =>
        obtain ⟨q1,q2,q3,q4⟩:=hx2
        refine ⟨q1,q2,?_,q4⟩
        have:=hne i.l rfl (by rw [q1];rfl)
        simp [Mem.and,this,q3]
      | mp f ks vs =>
        obtain ⟨b,ys,q1,q2,q3,q4⟩:=hx2
        refine ⟨b,ys,q1,q2,?_,q4⟩
        have:=hne b rfl (by rw [q1];rfl)
        simp [Mem.and,this,q3]
    · simp only [AV.rels,AV.rel]
      exact ⟨_,ts,hvs,rfl,hts⟩
theorem q43 {P:Program} {T:Tab} (hT:TOk P T) {n0:Nat} {b:Code} {fr:List AV} {hp:List Blk} {G:Mem} {Q:Post} {ι:Type} (inv:ι→Prop) (S:ι→List (Nat × AV)) (H:ι→List Blk) (M:ι→Mem) (μ:ι→Nat) (i0:ι) (h0:inv i0)
    (start:Le n0 fr hp G (q5e b fr (S i0)) (H i0) (M i0))
    (round:∀ i,inv i→q7z (q3i b []) fun ws=>q6f ws 0 fr fun fr1=>q5g fr1 (S i) fun fr2=>q91 P T n0 b fr2 (H i) (M i) fun e fr' hp' G'=>match e with
      | .normal=>∃ i',inv i'∧μ i'<μ i∧Le n0 fr' hp' G' (q5e b fr (S i')) (H i') (M i')
      | e=>Q e fr' hp' G'):LoopP P n0 b fr hp G Q:=by
  refine z4r hT inv (fun i=>q5e b fr (S i)) H M μ ⟨i0,h0,start⟩ fun i hi=>?_
  have h:=round i hi
  rw [q5y,q4z,q39] at h
  exact h
end Go.Proofs.YtkicdhaklnmonaaGreat
namespace Go.Proofs.YtkicdhaklnmonaaGreat
open Go.RowKit Go.Shelf Go.Lib Go.Sort
section
variable {α:Type} [Inhabited α] {enc:α→List Value} {k:Nat}
theorem x1c (hk:∀ x,(enc x).length=k) (l:List α) {t:Nat} (ht:t<l.length*k):(l.flatMap enc)[t]? = some ((Go.Sort.flatK enc k l.toArray)[t]!):=by
  have k0 : 0 < k := by rcases Nat.eq_zero_or_pos k with h |h;· subst h;simp at ht
                        · exact h
  have h1:t/k<l.length:=Nat.div_lt_of_lt_mul (by rw [Nat.mul_comm];exact ht)
  have h2:t%k<k:=Nat.mod_lt _ k0
  have h3:=x1b hk l (t/k) (t%k) l[t/k] (List.getElem?_eq_getElem h1) h2
  rw [Nat.div_add_mod' t k] at h3
  rw [h3,Go.Sort.get_flatK enc k l.toArray t (by simpa using ht)]
  have e:l.toArray[t/k]! = l[t/k]:=by simp [h1]
  rw [e,List.getElem?_eq_getElem (by rw [hk];exact h2)]
  simp [hk,h2]
theorem x4x (hk:∀ x,(enc x).length=k) {w:World} {E:TypeId} {g cap:Nat} {cur:Array Value} {l:List α} (hg:w.heap[g]? = some (.cells cur E (0,0))) (hc:cur.size=cap*k) (hl:l.length≤cap) (ht:cur.toList.take (l.length*k)=l.flatMap enc):HoldsK enc k w g 0 l.toArray:=by
  intro j hj
  have hj':j<l.length*k:=by simpa using hj
  have h1:=x1c hk l hj'
  rw [← ht,List.getElem?_take,if_pos hj'] at h1
  refine ⟨?_,?_⟩
  · simp only [World.cell?,hg,Nat.zero_add]
    simpa using h1
  · simp [World.frozen?,hg]
theorem x9h (hk:∀ x,(enc x).length=k) {cap:Nat} {cur:Array Value} {l:List α} (hc:cur.size=cap*k) (hl:l.length≤cap):(putCells id 0 (Go.Sort.flatK enc k l.toArray) cur).toList.take (l.length*k)=l.flatMap enc:=by
  have hle:l.length*k≤cap*k:=Nat.mul_le_mul_right _ hl
  apply List.ext_getElem?
  intro t
  rw [List.getElem?_take]
  by_cases ht:t<l.length*k
  · rw [if_pos ht,x1c hk l ht]
    have h2:t<cur.size:=by omega
    simp [putCells,h2,ht]
  · rw [if_neg ht,List.getElem?_eq_none (by rw [q42 hk];omega)]
theorem x4y {P:Program} {ρ:Ren} (L:SlLaysF0.n6 P ρ) (aE:∀ w,(isAgg (ρ.t 24)).run P w=.ok true w) (zE:∀ w,(Go.sizeOf (ρ.t 24)).run P w=.ok k w) (hk:∀ x,(enc x).length=k) (h1:∀ x,∀ v∈enc x,v.oneCell'=true) {cf:α→α→Int} (hO:SWO (ltOf cf)) {g:Nat}
    (eg:∀ args w,(callFunc g args).run P w=.ok (.enter g args) w) (hcl:∀ x y W,Calls P g #[.agg (enc x).toArray,.agg (enc y).toArray] W fun e w'=>e=.returned (.int .i64 (cf x y))∧∃ q os',w'=grow (W.drewN q) os')
    {base:Nat} {E:TypeId} {v:Value} {l:List α} {w:World} (hown:w.ownsRow base E k v l.length (l.flatMap enc)) (hsz:l.length<4611686018427387904) :
    Calls P (ρ.f 6) #[v,.func (.func g) #[] #[]] w fun e w'=>e=.returned (.tuple #[])∧∃ l':List α,l'.Perm l∧l'.Pairwise (fun a b=>ltOf cf b a=false)∧w'.ownsRow base E k v l'.length (l'.flatMap enc)∧w.grownBy w' (q0h v):=by
  have none:∀ (p:Option Addr) (cap:Nat),v=.slice p 0 cap→l=[]→Calls P (ρ.f 6) #[v,.func (.func g) #[] #[]] w fun e w'=>e=.returned (.tuple #[])∧∃ l':List α,l'.Perm l∧l'.Pairwise (fun a b=>ltOf cf b a=false)∧w'.ownsRow base E k v l'.length (l'.flatMap enc)∧w.grownBy w' (q0h v):=by
    rintro p cap rfl rfl
    refine (AnyF.slices_SortFunc_none L p cap _ w).mono ?_
    rintro e w' ⟨rfl,rfl⟩
    exact ⟨rfl,[],List.Perm.refl _,List.Pairwise.nil,hown,⟨rfl,rfl,rfl,Nat.le_refl _,fun _ _ _=>rfl⟩⟩
  have hown':=hown
  obtain ⟨hlen,hc⟩:=hown
  rcases hc with ⟨hv,hn⟩ |⟨b,cap,cur,rfl,hb,hcell,hcap,hmax,hcs,htk⟩
  · exact none _ _ hv (List.length_eq_zero_iff.1 hn)
  · by_cases h0:l=[]
    · subst h0;exact none _ _ rfl rfl
    · have hblk:=(Array.getElem?_eq_some_iff.1 hcell).1
      have hH:=x4x hk hcell hcs hcap htk
      have hs:=AnyQ.slices_SortFunc L k aE zE enc hk h1 cf hO g #[] b 0 cap l.toArray w eg (fun m os dk _ x y=>by simpa using hcl x y _) hH hblk (by simpa using hsz)
      refine hs.mono ?_
      rintro e w' ⟨rfl,d',m,os,⟨p1,p2,p3⟩,hso,rfl⟩
      have hd:d'.toList.length=l.length:=by simpa using p1
      have hex:∀ (a:Array α),a.extract 0 a.size=a:=fun a=>by simp
      have p4:d'.toList.Perm l:=by
        rw [show l.toArray.size=d'.size from p1.symm] at p3
        rw [hex] at p3
        rw [p1,hex] at p3
        simpa using p3
      have key:(sortWorldK enc k w b 0 m d' os).heap[b]? = some (.cells (putCells id 0 (Go.Sort.flatK enc k d') cur) E (0,0)):=by
        unfold sortWorldK grow putRowK putRow mapBlock Sort.ahead
        show (w.heap.modify b _++os)[b]? = _
        rw [Array.getElem?_append_left (by simpa using hblk),Array.getElem?_modify,if_pos rfl,hcell]
        rfl
      refine ⟨rfl,d'.toList,p4,?_,?_,?_⟩
      · rw [List.pairwise_iff_getElem]
        intro i j hi hj hij
        have:=hso i j (Nat.zero_le _) hij (by rw [← p1];simpa using hj)
        rw [getElem!_pos d' i (by simpa using hi),getElem!_pos d' j (by simpa using hj)] at this
        simpa using this
      · refine ⟨q42 hk _,.inr ⟨b,cap,_,by rw [hd],hb,key,by rw [hd];exact hcap,hmax,by simp [putCells,hcs],?_⟩⟩
        have:=x9h (l:=d'.toList) hk hcs (by rw [hd];exact hcap)
        simpa using this
      · refine ⟨rfl,rfl,rfl,?_,fun j hj hne=>?_⟩
        · unfold sortWorldK grow putRowK putRow mapBlock Sort.ahead
          simp
        · have hne':¬ b=j:=fun e=>hne (by simp [q0h,e])
          unfold sortWorldK grow putRowK putRow mapBlock Sort.ahead
          show (w.heap.modify b _++os)[j]? = _
          rw [Array.getElem?_append_left (by simpa using hj),Array.getElem?_modify,if_neg hne']
theorem z4h {P:Program} {ρ:Ren} (L:SlLaysF0.n6 P ρ) {f:FuncId} (hf:ρ.f 6=f) (hen:∀ vs w,(callFunc f vs).run P w=.ok (.enter f vs) w) (aE:∀ w,(isAgg (ρ.t 24)).run P w=.ok true w) (zE:∀ w,(Go.sizeOf (ρ.t 24)).run P w=.ok k w) (hk:∀ x,(enc x).length=k) (h1:∀ x,∀ v∈enc x,v.oneCell'=true) {cf:α→α→Int} (hO:SWO (ltOf cf)) {g:Nat}
    (eg:∀ args w,(callFunc g args).run P w=.ok (.enter g args) w) (hcl:∀ x y W,Calls P g #[.agg (enc x).toArray,.agg (enc y).toArray] W fun e w'=>e=.returned (.int .i64 (cf x y))∧∃ q os',w'=grow (W.drewN q) os')
    {j:Nat} {E:TypeId} {l:List α} {hp:List Blk} {G:Mem} {K:AV→List Blk→Mem→Prop} (hb:nthB hp j=.own E k l.length (l.flatMap enc)) (hsz:l.length<4611686018427387904)
    (h:∀ l':List α,l'.Perm l→l'.Pairwise (fun a b=>ltOf cf b a=false)→setF hp j (.own E k l'.length (l'.flatMap enc)) fun hp'=>K (.tup []) hp' G):CallP P f [.own j,.val (.func (.func g) #[] #[])] hp G K:=by
  refine ⟨hen,fun w0 G0 β w vs hr ha=>?_⟩
  simp only [AV.rels,AV.rel] at ha
  obtain ⟨v,ts,hvs,⟨hv,hsl⟩,u,us,rfl,rfl,rfl⟩:=ha
  have e:vs=#[v,.func (.func g) #[] #[]]:=Array.toList_inj.1 (by rw [hvs])
  subst e
  obtain ⟨x,hx1,hx2⟩:=hr.blk j v hv
  rw [q0p hb rfl] at hx1;cases hx1
  rw [← hf]
  refine (x4y L aE zE hk h1 hO eg hcl hx2.1 hsz).mono ?_
  rintro e w' ⟨rfl,l',hp',hs',hown',hgr⟩
  have h2:=h l' hp' hs'
  rw [q09] at h2
  refine ⟨_,β,.tup [],_,G,rfl,Nm.le_refl _,?_,by simp only [AV.rel];exact ⟨_,rfl,rfl⟩,h2⟩
  have hrel:(Blk.own E k l'.length (l'.flatMap enc)).rel w0.heap.size β G w' v:=⟨hown',hx2.2⟩
  cases hb':q0h v with
  | some b=>exact hr.setBlk hv (q0p hb rfl) rfl hb' (by rw [← hb'];exact hgr) hrel
  | none =>
    have hl:l=[]:=by
      rcases hx2.1.2 with ⟨_,hn⟩ |⟨b,_,_,rfl,_⟩
      · exact List.length_eq_zero_iff.1 hn
      · simp [q0h] at hb'
    subst hl
    obtain rfl:l'=[]:=List.Perm.eq_nil hp'
    have e:hp.set j (.own E k ([]:List α).length (([]:List α).flatMap enc))=hp:=by
      apply List.ext_getElem?
      intro i
      rw [List.getElem?_set]
      split
      · rename_i hij
        subst hij
        have:=q0p hb rfl
        rw [this]
        simp [(List.getElem?_eq_some_iff.1 this).1]
      · rfl
    rw [e]
    exact hr.step ⟨hgr.os,hgr.tape,hgr.output,hgr.size,fun i hi=>hgr.block i hi (by rw [hb'];simp)⟩
end
end Go.Proofs.YtkicdhaklnmonaaGreat
namespace Go.Proofs.YtkicdhaklnmonaaGreat
structure Ow where
  r:Run
  p:Int
  hy:-100000≤r.y∧r.y≤100000
  hx:-100000≤r.x0∧r.x0≤100000
  hp:0≤p∧p≤100000
instance:Inhabited Ow:=⟨⟨⟨0,0,0⟩,0,by simp,by simp,by simp⟩⟩
def leO (a b:Ow):Prop:=a.r.y<b.r.y∨(a.r.y=b.r.y∧(a.r.x0<b.r.x0∨(a.r.x0=b.r.x0∧a.p≤b.p)))
def q25 (q:Run) (a:Ow):Bool:=!decide (a.r.x1≤q.x0)
def z31 (q:Run) (a:Ow):Bool:=decide (a.r.y=q.y)&&q25 q a
def q1k (S:List Ow) (b:Nat):List Ow :=
  match S[b]? with
  | some q=>(S.take b).filter (z31 q.r)
  | none=>[]
def q6m (S:List Ow):Nat→List Ow
  | 0=>[]
  | b+1=>match S[b]? with
    | some q=>q1k S b++[q]
    | none=>[]
def rowS (S:List Ow):Nat→Int
  | 0=>-1
  | b+1=>match S[b]? with
    | some q=>q.r.y
    | none=>0
theorem x4z {S:List Ow} (hs:S.Pairwise leO) {b:Nat} {q:Ow} (hq:S[b]? = some q):(if q.r.y≠rowS S b then [] else q6m S b).filter (q25 q.r)=q1k S b:=by
  unfold q1k
  rw [hq]
  dsimp only
  have hle:∀ {i j:Nat} {x y:Ow},i<j→S[i]? = some x→S[j]? = some y→leO x y:=fun {i j x y} hij hi hj=>by
    obtain ⟨h1,e1⟩:=List.getElem?_eq_some_iff.1 hi
    obtain ⟨h2,e2⟩:=List.getElem?_eq_some_iff.1 hj
    rw [← e1,← e2]
    exact List.pairwise_iff_getElem.1 hs i j h1 h2 hij
  cases b with
  | zero=>simp [q6m]
  | succ c =>
    obtain ⟨a,ha⟩:∃ a,S[c]? = some a:=⟨_,List.getElem?_eq_getElem (by have:=(List.getElem?_eq_some_iff.1 hq).1;omega)⟩
    have haq:=hle (Nat.lt_succ_self c) ha hq
    have htk:S.take (c+1)=S.take c++[a]:=by
      rw [List.take_add_one,ha];rfl
    simp only [rowS,q6m,ha,q1k]
    by_cases hy:q.r.y=a.r.y
    · rw [if_neg (by simp [hy]),htk,List.filter_append,List.filter_append,List.filter_filter]
      congr 1
      · apply List.filter_congr
        intro x hx
        unfold z31 q25
        have h1:a.r.x0≤q.r.x0:=by unfold leO at haq;omega
        rw [hy]
        by_cases h2:x.r.x1≤q.r.x0 <;> by_cases h3:x.r.x1≤a.r.x0 <;> simp [h2,h3]
        omega
      · unfold z31
        simp [hy,List.filter_cons]
    · rw [if_pos hy]
      symm
      rw [List.filter_nil,List.filter_eq_nil_iff]
      intro x hx
      unfold z31
      obtain ⟨i,hi⟩:=List.mem_iff_getElem?.1 hx
      rw [List.getElem?_take] at hi
      split at hi
      · rename_i hlt
        have:=hle hlt hi hq
        by_cases hic:i=c
        · subst hic;rw [ha] at hi;cases hi
          have:¬ a.r.y=q.r.y:=fun h=>hy h.symm
          simp [this]
        · have h2:=hle (show i<c by omega) hi ha
          have:x.r.y≠q.r.y:=by unfold leO at *;omega
          simp [this]
      · cases hi
def q71 (a b:Run):Prop:=a.y=b.y∧∃ x,(a.x0≤x∧x<a.x1)∧(b.x0≤x∧x<b.x1)
theorem z1y {a b:Run} (h:q71 a b):q71 b a:=by
  obtain ⟨h1,x,h2,h3⟩:=h
  exact ⟨h1.symm,x,h3,h2⟩
theorem v2t {all S:List Ow} (hp:S.Perm all) (hs:S.Pairwise leO) (hv:∀ a∈all,a.r.x0<a.r.x1) (hd:all.Pairwise fun a b=>a.p=b.p→¬ q71 a.r b.r) (i:Int) :
    (∃ c q a,S[c]? = some q∧a∈q1k S c∧max a.p q.p=i)↔∃ a∈all,∃ b∈all,a.p<b.p∧b.p=i∧q71 a.r b.r:=by
  have hle:∀ {i j:Nat} {x y:Ow},i<j→S[i]? = some x→S[j]? = some y→leO x y:=fun {i j x y} hij hi hj=>by
    obtain ⟨h1,e1⟩:=List.getElem?_eq_some_iff.1 hi
    obtain ⟨h2,e2⟩:=List.getElem?_eq_some_iff.1 hj
    rw [← e1,← e2]
    exact List.pairwise_iff_getElem.1 hs i j h1 h2 hij
  have hd':S.Pairwise fun a b=>a.p=b.p→¬ q71 a.r b.r:=(hp.pairwise_iff (fun {x y} h e hm=>h e.symm (z1y hm))).2 hd
  have hdd:∀ {i j:Nat} {x y:Ow},i<j→S[i]? = some x→S[j]? = some y→x.p=y.p→¬ q71 x.r y.r:=fun {i j x y} hij hi hj=>by
    obtain ⟨h1,e1⟩:=List.getElem?_eq_some_iff.1 hi
    obtain ⟨h2,e2⟩:=List.getElem?_eq_some_iff.1 hj
    rw [← e1,← e2]
    exact List.pairwise_iff_getElem.1 hd' i j h1 h2 hij
  have hmem:∀ {i:Nat} {x:Ow},S[i]? = some x→x∈all:=fun h=>hp.mem_iff.1 (List.mem_of_getElem? h)
  constructor
  · rintro ⟨c,q,a,hq,ha,hm⟩
    unfold q1k at ha
    rw [hq] at ha
    dsimp only at ha
    rw [List.mem_filter] at ha
    obtain ⟨ha1,ha2⟩:=ha
    obtain ⟨j,hj⟩:=List.mem_iff_getElem?.1 ha1
    rw [List.getElem?_take] at hj
    split at hj
    · rename_i hlt
      unfold z31 q25 at ha2
      simp at ha2
      have h1:=hle hlt hj hq
      have hvq:=hv q (hmem hq)
      have hmt:q71 a.r q.r:=⟨ha2.1,q.r.x0,by unfold leO at h1;omega,by omega⟩
      have hne:a.p≠q.p:=fun e=>hdd hlt hj hq e hmt
      rcases Int.lt_or_gt_of_ne hne with h2 |h2
      · exact ⟨a,hmem hj,q,hmem hq,h2,by omega,hmt⟩
      · exact ⟨q,hmem hq,a,hmem hj,h2,by omega,z1y hmt⟩
    · cases hj
  · rintro ⟨a,ha,b,hb,hlt,rfl,hm⟩
    obtain ⟨j,hj⟩:=List.mem_iff_getElem?.1 (hp.mem_iff.2 ha)
    obtain ⟨k,hk⟩:=List.mem_iff_getElem?.1 (hp.mem_iff.2 hb)
    have key:∀ {j k:Nat} {a b:Ow},j<k→S[j]? = some a→S[k]? = some b→q71 a.r b.r→a∈q1k S k:=fun {j k a b} hjk hj hk hm=>by
      have h1:=hle hjk hj hk
      unfold q1k
      rw [hk]
      dsimp only
      rw [List.mem_filter]
      refine ⟨List.mem_iff_getElem?.2 ⟨j,by rw [List.getElem?_take,if_pos hjk];exact hj⟩,?_⟩
      obtain ⟨h2,x,h3,h4⟩:=hm
      unfold z31 q25
      simp [h2];omega
    have hne:j≠k:=fun e=>by subst e;rw [hj] at hk;cases hk;omega
    rcases Nat.lt_or_gt_of_ne hne with h |h
    · exact ⟨k,b,a,hk,key h hj hk hm,by omega⟩
    · exact ⟨j,a,b,hj,key h hk hj (z1y hm),by omega⟩
/-! ### Deleting in place -/
structure Moved {α:Type} (keep:α→Bool) (L M:List α) (i j:Nat):Prop where
  len:M.length=L.length
  front:M.take i=(L.take j).filter keep
  back:M.drop j=L.drop j
  le:i≤j∧j≤L.length
theorem Moved.start {α:Type} {keep:α→Bool} {L:List α} {i:Nat} (h:∀ k x,k<i→L[k]? = some x→keep x=true) {x:α} (hx:L[i]? = some x) (hk:keep x=false):Moved keep L L i (i+1):=by
  have hi:=(List.getElem?_eq_some_iff.1 hx).1
  refine ⟨rfl,?_,rfl,by omega,by omega⟩
  rw [List.take_add_one,hx,List.filter_append]
  simp only [Option.toList,List.filter_cons,hk,List.filter_nil,if_false,List.append_nil,Bool.false_eq_true]
  symm
  rw [List.filter_eq_self]
  intro y hy
  obtain ⟨k,hk'⟩:=List.mem_iff_getElem?.1 hy
  rw [List.getElem?_take] at hk'
  split at hk'
  · rename_i hlt;exact h k y hlt hk'
  · cases hk'
theorem Moved.at_ {α:Type} {keep:α→Bool} {L M:List α} {i j:Nat} (h:Moved keep L M i j):M[j]? = L[j]?:=by
  have:=congrArg (fun l:List α=>l[0]?) h.back
  simpa using this
theorem Moved.drop_ {α:Type} {keep:α→Bool} {L M:List α} {i j:Nat} (h:Moved keep L M i j) {x:α} (hx:L[j]? = some x) (hk:keep x=false):Moved keep L M i (j+1):=by
  have hj:=(List.getElem?_eq_some_iff.1 hx).1
  refine ⟨h.len,?_,?_,by have:=h.le;omega,by omega⟩
  · rw [List.take_add_one,hx,List.filter_append,h.front]
    simp [hk]
  · rw [← List.drop_drop,← List.drop_drop,h.back]
theorem Moved.keep_ {α:Type} {keep:α→Bool} {L M:List α} {i j:Nat} (h:Moved keep L M i j) {x:α} (hx:L[j]? = some x) (hk:keep x=true):Moved keep L (M.set i x) (i+1) (j+1):=by
  have hj:=(List.getElem?_eq_some_iff.1 hx).1
  have hl:=h.le
  have hlen:=h.len
  refine ⟨by simp [h.len],?_,?_,by omega,by omega⟩
  · rw [List.take_add_one,List.take_add_one,hx,List.filter_append,← h.front]
    rw [List.take_set_of_le (Nat.le_refl i)]
    simp [hk,List.getElem?_set,show i<M.length by omega]
  · rw [List.drop_set_of_lt (by omega),← List.drop_drop,← List.drop_drop,h.back]
end Go.Proofs.YtkicdhaklnmonaaGreat
namespace Go.Proofs.YtkicdhaklnmonaaGreat
open Go.RowKit Go.Shelf Go.Lib Go.Sort
set_option maxRecDepth 20000
def or3 (a b c:Int):Int:=if a≠0 then a else if b≠0 then b else c
set_option maxHeartbeats 2000000 in
theorem x63 (b:Nat) (a c d:Int) (W:World) (h0:W.cell? ⟨b,0,none⟩=some (.int .i64 a)) (h1:W.cell? ⟨b,1,none⟩=some (.int .i64 c)) (h2:W.cell? ⟨b,2,none⟩=some (.int .i64 d)) :
    Calls Tryz.prog 67 #[.slice (some ⟨b,0,none⟩) 3 3] W fun e w'=>e=.returned (.int .i64 (or3 a c d))∧∃ q,w'=W.drewN q:=by
  go_enter Tryz.func67,Tryz.ntmps67
  by_cases ha:a=0
  · subst ha
    by_cases hc:c=0
    · subst hc
      go_wp2
      refine wp_loop_rounds 4 ?_
      rw [rounds_succ]
      go_wp2
      repeat any_goals (rw [rounds_succ];go_wp2)
      all_goals go_ret
      all_goals ((try have hc:d=0:=by simpa using ‹(d != 0)=false›);(try subst hc);exact ⟨by simp [or3],0,rfl⟩)
    · go_wp2
      refine wp_loop_rounds 4 ?_
      rw [rounds_succ]
      go_wp2
      repeat any_goals (rw [rounds_succ];go_wp2)
      all_goals go_ret
      all_goals exact ⟨by simp [or3,hc],0,rfl⟩
  · go_wp2
    refine wp_loop_rounds 4 ?_
    rw [rounds_succ]
    go_wp2
    repeat any_goals (rw [rounds_succ];go_wp2)
    all_goals go_ret
    all_goals exact ⟨by simp [or3,ha],0,rfl⟩
def encO (r:Ow):List Value:=[.int .i64 r.r.y,.int .i64 r.r.x0,.int .i64 r.r.x1,.int .i64 r.p]
def cmpO (r s:Ow):Int:=or3 (r.r.y-s.r.y) (r.r.x0-s.r.x0) (r.p-s.p)
set_option maxHeartbeats 2000000 in
theorem x64 (x y:Ow) (W:World):Calls Tryz.prog 66 #[.agg (encO x).toArray,.agg (encO y).toArray] W fun e w'=>e=.returned (.int .i64 (cmpO x y))∧∃ q os',w'=grow (W.drewN q) os':=by
  obtain ⟨⟨a,b,c⟩,p,h1,h2,h5⟩:=x
  obtain ⟨⟨d,e,f⟩,s,h3,h4,h6⟩:=y
  simp only at h1 h2 h3 h4
  have hcon:=fun k W' h h' h''=>x63 k (a-d) (b-e) (p-s) W' h h' h''
  simp only [cmpO,encO]
  generalize hr:or3 (a-d) (b-e) (p-s)=r at hcon
  have w1:IntKind.i64.wrap (a-d)=a-d:=IntWalk.i64_in _ (by omega)
  have w2:IntKind.i64.wrap (b-e)=b-e:=IntWalk.i64_in _ (by omega)
  have w3:IntKind.i64.wrap (p-s)=p-s:=IntWalk.i64_in _ (by omega)
  show Calls Tryz.prog 66 #[.agg #[.int .i64 a,.int .i64 b,.int .i64 c,.int .i64 p],.agg #[.int .i64 d,.int .i64 e,.int .i64 f,.int .i64 s]] W _
  go_enter Tryz.func66,Tryz.ntmps66
  go_wp2_with (go_at_call 67;refine (hcon _ _ (by go_simp) (by go_simp) (by go_simp)).mono ?_;rintro e w' ⟨rfl,q,rfl⟩)
  go_ret
  exact ⟨rfl,q,_,by rw [alloc_eq_grow,alloc_eq_grow,alloc_eq_grow,grow_grow,grow_grow];rfl⟩
theorem lt_cmpO {a b:Ow}:ltOf cmpO b a=false↔leO a b:=by
  unfold ltOf cmpO leO or3
  rw [decide_eq_false_iff_not]
  split <;> (try split) <;> omega
theorem x9i:SWO (ltOf cmpO) where
  irrefl x:=by rw [lt_cmpO];unfold leO;omega
  trans x y z h1 h2:=by
    rw [← Bool.not_eq_false] at *
    rw [lt_cmpO] at *
    unfold leO at *;omega
  ntrans x y z h1 h2:=by rw [lt_cmpO] at *;unfold leO at *;omega
end Go.Proofs.YtkicdhaklnmonaaGreat
namespace Go.Proofs.YtkicdhaklnmonaaGreat
open Go.RowKit
section
variable {w0:World} {G0:Mem} {β:Nm} {hp:List Blk} {G:Mem} {w:World}
theorem HR.writeG (hr:HR w0 G0 β hp G w) {b:Nat} (hb:w0.heap.size≤b) (h0:G0 b=none) {o0:Obj} (hG:G b=some o0) {w':World} (hg:w.grownBy w' (some b)) {o:Obj} (ho:w'.heap[b]? = some o):HR w0 G0 β hp (G.put b o) w':=by
  have hoth:∀ c,c<w.heap.size→c≠b→w'.heap[c]? = w.heap[c]?:=fun c hc hne=>hg.block c hc (fun e=>by cases e;exact hne rfl)
  refine ⟨hr.below.trans ⟨hg.os,hg.tape,hg.output,hg.size,fun j hj=>hoth j (Nat.lt_of_lt_of_le hj hr.below.size) (by omega)⟩,fun c o' hc=>?_,fun c o' hc=>?_,fun c o' hc=>?_,fun k y hk=>?_,hr.inj,fun k S hk c hc=>⟨(hr.wrt k S hk c hc).1,Nat.lt_of_lt_of_le (hr.wrt k S hk c hc).2.1 hg.size,(hr.wrt k S hk c hc).2.2⟩⟩
  · by_cases e:c=b
    · subst e;rw [Mem.put_same] at hc;cases hc;exact ho
    · rw [Mem.put_ne _ _ e] at hc
      have h1:=hr.hold c o' hc
      rw [hoth c (Array.getElem?_eq_some_iff.1 h1).1 e];exact h1
  · have e:c≠b:=fun e=>by rw [e,h0] at hc;cases hc
    rw [Mem.put_ne _ _ e];exact hr.sub c o' hc
  · by_cases e:c=b
    · subst e;exact .inr hb
    · rw [Mem.put_ne _ _ e] at hc;exact hr.grow c o' hc
  · obtain ⟨x,h1,h2⟩:=hr.blk k y hk
    refine ⟨x,h1,?_⟩
    by_cases hl:x.live=true
    · refine Blk.rel_of (Nm.le_refl _) h2 (fun c hc=>?_)
      have h3:=hr.lt hk h1 hl hc
      have hne:c≠b:=fun e=>by rw [e,hG] at h3;cases h3.2.2
      exact ⟨hoth c h3.2.1 hne,fun h4=>by rw [Mem.put_ne _ _ hne];exact h4⟩
    · cases x <;> simp [Blk.live] at hl <;> first |trivial |exact h2.elim
theorem HR.newG (hr:HR w0 G0 β hp G w) {b:Nat} (hb:w.heap.size≤b) {w':World} (hg:Below w.heap.size w w') {o:Obj} (ho:w'.heap[b]? = some o):HR w0 G0 β hp (G.put b o) w':=by
  have hr':=hr.step hg
  refine ⟨hr'.below,fun c o' hc=>?_,fun c o' hc=>?_,fun c o' hc=>?_,fun k y hk=>?_,hr.inj,hr'.wrt⟩
  · by_cases e:c=b
    · subst e;rw [Mem.put_same] at hc;cases hc;exact ho
    · rw [Mem.put_ne _ _ e] at hc;exact hr'.hold c o' hc
  · have e:c≠b:=fun e=>by
      have h1:=hr.sub c o' hc
      have:=(Array.getElem?_eq_some_iff.1 (hr.hold c o' h1)).1
      omega
    rw [Mem.put_ne _ _ e];exact hr.sub c o' hc
  · by_cases e:c=b
    · subst e;exact .inr (Nat.le_trans hr.below.size hb)
    · rw [Mem.put_ne _ _ e] at hc;exact hr.grow c o' hc
  · obtain ⟨x,h1,h2⟩:=hr.blk k y hk
    refine ⟨x,h1,?_⟩
    by_cases hl:x.live=true
    · refine Blk.rel_of (Nm.le_refl _) h2 (fun c hc=>?_)
      have h3:=hr.lt hk h1 hl hc
      have hne:c≠b:=by omega
      exact ⟨hg.block c h3.2.1,fun h4=>by rw [Mem.put_ne _ _ hne];exact h4⟩
    · cases x <;> simp [Blk.live] at hl <;> first |trivial |exact h2.elim
theorem HR.moreS (hr:HR w0 G0 β hp G w) {m:Nat} {S:Nat→Prop} (hm:hp[m]? = some (.muts S)) {b:Nat} (hb:w0.heap.size≤b) (hs:b<w.heap.size) (h0:G0 b=none):HR w0 G0 β (hp.set m (.muts fun c=>S c∨c=b)) G w:=by
  have hml:=(List.getElem?_eq_some_iff.1 hm).1
  refine ⟨hr.below,hr.hold,hr.sub,hr.grow,fun k y hk=>?_,fun k k' y y' x x' c hne hk hk' hx hx' hl hl' hy=>?_,fun k S' hk c hc=>?_⟩
  · obtain ⟨x,h1,h2⟩:=hr.blk k y hk
    have hkm:m≠k:=fun e=>by subst e;rw [hm] at h1;cases h1;exact h2.elim
    exact ⟨x,by rw [List.getElem?_set,if_neg hkm];exact h1,h2⟩
  · have old:∀ (i:Nat) (q:Blk),(hp.set m (.muts fun c=>S c∨c=b))[i]? = some q→q.live=true→hp[i]? = some q:=fun i q hq hql=>by
      by_cases hi:m=i
      · subst hi
        rw [List.getElem?_set] at hq
        simp at hq
        obtain ⟨_,rfl⟩:=hq
        simp [Blk.live] at hql
      · rw [List.getElem?_set,if_neg hi] at hq;exact hq
    exact hr.inj k k' y y' x x' c hne hk hk' (old k x hx hl) (old k' x' hx' hl') hl hl' hy
  · by_cases e:m=k
    · subst e
      rw [List.getElem?_set] at hk
      simp [hml] at hk
      subst hk
      rcases hc with hc |rfl
      · exact hr.wrt m S hm c hc
      · exact ⟨hb,hs,h0⟩
    · rw [List.getElem?_set,if_neg e] at hk
      exact hr.wrt k S' hk c hc
end
def RowS (S:Nat→Prop) (G:Mem) (E:TypeId) (sz:Nat) (v:Value) (n:Nat) (xs:List Value):Prop :=
  xs.length=n*sz∧((v=.slice none 0 0∧n=0)∨∃ g cap cur,v=.slice (some ⟨g,0,none⟩) n cap∧S g∧G g=some (.cells cur E (0,0))∧n≤cap∧cap≤maxLen∧cur.size=cap*sz∧cur.toList.take (n*sz)=xs)
theorem RowS.nil (S:Nat→Prop) (G:Mem) (E:TypeId) (sz:Nat):RowS S G E sz (.slice none 0 0) 0 []:=⟨by simp,.inl ⟨rfl,rfl⟩⟩
theorem RowS.of {S S':Nat→Prop} {G G':Mem} {E:TypeId} {sz n:Nat} {v:Value} {xs:List Value} (h:RowS S G E sz v n xs) (hS:∀ b,S b→S' b) (hG:∀ b,q0h v=some b→G' b=G b):RowS S' G' E sz v n xs:=by
  refine ⟨h.1,?_⟩
  rcases h.2 with h |⟨g,cap,cur,rfl,h1,h2,h3⟩
  · exact .inl h
  · exact .inr ⟨g,cap,cur,rfl,hS g h1,by rw [hG g rfl];exact h2,h3⟩
theorem RowS.blk {S:Nat→Prop} {G:Mem} {E:TypeId} {sz n:Nat} {v:Value} {xs:List Value} (h:RowS S G E sz v n xs) {b:Nat} (hb:q0h v=some b):S b∧∃ o,G b=some o:=by
  rcases h.2 with ⟨rfl,_⟩ |⟨g,cap,cur,rfl,h1,h2,h3⟩
  · cases hb
  · simp [q0h] at hb;subst hb;exact ⟨h1,_,h2⟩
theorem RowS.isSl {S:Nat→Prop} {G:Mem} {E:TypeId} {sz n:Nat} {v:Value} {xs:List Value} (h:RowS S G E sz v n xs):∃ A c,v=.slice A n c∧n≤c∧c≤maxLen:=by
  rcases h.2 with ⟨rfl,rfl⟩ |⟨g,cap,cur,rfl,h1,h2,h3,h4,_⟩
  · exact ⟨none,0,rfl,Nat.le_refl _,Nat.zero_le _⟩
  · exact ⟨_,cap,rfl,h3,h4⟩
theorem RowS.flat {S:Nat→Prop} {G:Mem} {E:TypeId} {sz n c:Nat} {A:Option Addr} {xs:List Value} (h:RowS S G E sz (.slice A n c) n xs):FlatM G A xs:=by
  obtain ⟨hlen,h⟩:=h
  rcases h with ⟨h1,h2⟩ |⟨g,cap,cur,h1,h2,h3,h4,h5,h6,h7⟩
  · cases h1;rw [Nat.zero_mul] at hlen;exact .inl ⟨rfl,List.eq_nil_of_length_eq_zero hlen⟩
  · cases h1
    refine .inr ⟨g,0,rfl,fun j u hj=>?_⟩
    unfold Mem.cell?
    simp only [h3,Nat.zero_add]
    rw [← h7] at hj
    rw [List.getElem?_take] at hj
    split at hj
    · simpa using hj
    · cases hj
theorem RowS.cell {S:Nat→Prop} {G:Mem} {E:TypeId} {sz n b o:Nat} {c:Nat} {sp:Option _} {xs:List Value} (h:RowS S G E sz (.slice (some ⟨b,o,sp⟩) n c) n xs) {j:Nat} {u:Value} (hj:xs[j]? = some u):G.cell? ⟨b,o+j,sp⟩=some u:=by
  obtain ⟨hlen,h⟩:=h
  rcases h with ⟨h1,h2⟩ |⟨g,cap,cur,h1,h2,h3,h4,h5,h6,h7⟩
  · cases h1
  · cases h1
    unfold Mem.cell?
    simp only [h3,Nat.zero_add]
    rw [← h7] at hj
    rw [List.getElem?_take] at hj
    split at hj
    · simpa using hj
    · cases hj
theorem RowS.owns {S:Nat→Prop} {w0:World} {G0:Mem} {β:Nm} {hp:List Blk} {G:Mem} {w:World} (hr:HR w0 G0 β hp G w) {m:Nat} (hm:hp[m]? = some (.muts S)) {E:TypeId} {sz n:Nat} {v:Value} {xs:List Value} (h:RowS S G E sz v n xs):w.ownsRow w0.heap.size E sz v n xs:=by
  refine ⟨h.1,?_⟩
  rcases h.2 with h |⟨g,cap,cur,rfl,h1,h2,h3⟩
  · exact .inl h
  · exact .inr ⟨g,cap,cur,rfl,(hr.wrt m S hm g h1).1,hr.hold g _ h2,h3⟩
structure RowG (S:Nat→Prop) (G:Mem) (v:Value) (S':Nat→Prop) (G':Mem) (v':Value):Prop where
  more:∀ b,S b→S' b
  only:∀ b,S' b→S b∨q0h v'=some b
  rest:∀ b,q0h v≠some b→q0h v'≠some b→G' b=G b
  fresh:∀ b,q0h v'=some b→q0h v≠some b→G b=none
  old:∀ b o,G b=some o→q0h v≠some b→G' b=some o
theorem RowG.row {S S':Nat→Prop} {G G':Mem} {v v':Value} (h:RowG S G v S' G' v') {E:TypeId} {sz n:Nat} {u:Value} {xs:List Value} (hu:RowS S G E sz u n xs) (hne:∀ b,q0h u=some b→q0h v≠some b):RowS S' G' E sz u n xs:=by
  refine hu.of h.more fun b hb=>?_
  obtain ⟨_,o,ho⟩:=hu.blk hb
  rw [h.old b o ho (hne b hb),ho]
theorem HR.rowG {w0:World} {G0:Mem} {β:Nm} {hp:List Blk} {G:Mem} {w:World} (hr:HR w0 G0 β hp G w) {m:Nat} {S:Nat→Prop} (hm:hp[m]? = some (.muts S)) {E:TypeId} {sz n:Nat} {v:Value} {xs:List Value} (h:RowS S G E sz v n xs)
    {w':World} {v':Value} {n':Nat} {xs':List Value} (hown:w'.ownsRow w0.heap.size E sz v' n' xs') (hg:w.grownBy w' (q0h v)) (hat:∀ b,q0h v'=some b→w.heap.size≤b∨q0h v=some b) :
    ∃ S' G',RowG S G v S' G' v'∧RowS S' G' E sz v' n' xs'∧HR w0 G0 β (hp.set m (.muts S')) G' w':=by
  have hml:=(List.getElem?_eq_some_iff.1 hm).1
  -- first the old block
  have h1:∃ G1,HR w0 G0 β hp G1 w'∧(∀ b,q0h v≠some b→G1 b=G b)∧(∀ b,q0h v=some b→G1 b=w'.heap[b]?∧G1 b≠none):=by
    cases hv:q0h v with
    | none =>
      rw [hv] at hg
      exact ⟨G,hr.step ⟨hg.os,hg.tape,hg.output,hg.size,fun j hj=>hg.block j hj (by simp)⟩,fun _ _=>rfl,fun b hb=>by cases hb⟩
    | some b =>
      rw [hv] at hg
      obtain ⟨hS,o,ho⟩:=h.blk hv
      obtain ⟨g1,g2,g3⟩:=hr.wrt m S hm b hS
      have hb':∃ o',w'.heap[b]? = some o':=⟨_,Array.getElem?_eq_getElem (Nat.lt_of_lt_of_le g2 hg.size)⟩
      obtain ⟨o',ho'⟩:=hb'
      refine ⟨G.put b o',hr.writeG g1 g3 ho hg ho',fun c hc=>Mem.put_ne _ _ (fun e=>hc (by rw [e])),fun c hc=>?_⟩
      cases hc
      rw [Mem.put_same,ho'];exact ⟨rfl,by simp⟩
  obtain ⟨G1,hr1,e1,e2⟩:=h1
  -- then the new one
  rcases hown.2 with ⟨rfl,rfl⟩ |⟨g,cap,cur,rfl,k1,k2,k3⟩
  · refine ⟨S,G1,⟨fun _ h=>h,fun _ h=>.inl h,fun b hb _=>e1 b hb,fun b hb=>(by cases hb),fun b o ho hb=>by rw [e1 b hb];exact ho⟩,⟨hown.1,.inl ⟨rfl,rfl⟩⟩,?_⟩
    have:hp.set m (.muts S)=hp:=by
      apply List.ext_getElem?
      intro i
      by_cases hi:m=i
      · subst hi;rw [hm];simp [List.getElem?_set,hml]
      · rw [List.getElem?_set,if_neg hi]
    rw [this];exact hr1
  · by_cases hvg:q0h v=some g
    · obtain ⟨hS,o,ho⟩:=h.blk hvg
      refine ⟨S,G1,⟨fun _ h=>h,fun _ h=>.inl h,fun b hb _=>e1 b hb,fun b hb hb2=>by simp [q0h] at hb;subst hb;exact absurd hvg hb2,fun b o ho hb=>by rw [e1 b hb];exact ho⟩,⟨hown.1,.inr ⟨g,cap,cur,rfl,hS,by rw [(e2 g hvg).1];exact k2,k3⟩⟩,?_⟩
      have:hp.set m (.muts S)=hp:=by
        apply List.ext_getElem?
        intro i
        by_cases hi:m=i
        · subst hi;rw [hm];simp [List.getElem?_set,hml]
        · rw [List.getElem?_set,if_neg hi]
      rw [this];exact hr1
    · have hge:w.heap.size≤g:=(hat g rfl).resolve_right hvg
      have hGn:G g=none:=q2k hr.hold hge
      have hGz:G0 g=none:=Mem.le.none hr.sub hGn
      have hG1n:G1 g=none:=by rw [e1 g hvg];exact hGn
      have hlt:=(Array.getElem?_eq_some_iff.1 k2).1
      have hr2:HR w0 G0 β hp (G1.put g (.cells cur E (0,0))) w':=by
        refine ⟨hr1.below,fun c o' hc=>?_,fun c o' hc=>?_,fun c o' hc=>?_,fun k y hk=>?_,hr1.inj,hr1.wrt⟩
        · by_cases e:c=g
          · subst e;rw [Mem.put_same] at hc;cases hc;exact k2
          · rw [Mem.put_ne _ _ e] at hc;exact hr1.hold c o' hc
        · rw [Mem.put_ne _ _ (fun e=>by rw [e,hGz] at hc;cases hc)];exact hr1.sub c o' hc
        · by_cases e:c=g
          · subst e;exact .inr k1
          · rw [Mem.put_ne _ _ e] at hc;exact hr1.grow c o' hc
        · obtain ⟨x,h1,h2⟩:=hr1.blk k y hk
          refine ⟨x,h1,?_⟩
          by_cases hl:x.live=true
          · obtain ⟨x0,q1,q2⟩:=hr.blk k y hk
            rw [h1] at q1;cases q1
            refine Blk.rel_of (Nm.le_refl _) h2 (fun c hc=>⟨rfl,fun h4=>?_⟩)
            have h3:=hr.lt hk h1 hl hc
            rw [Mem.put_ne _ _ (by omega)];exact h4
          · cases x <;> simp [Blk.live] at hl <;> first |trivial |exact h2.elim
      refine ⟨fun c=>S c∨c=g,G1.put g (.cells cur E (0,0)),⟨fun _ h=>.inl h,fun b hb=>?_,fun b hb hb2=>?_,fun b hb _=>?_,fun b o ho hb=>?_⟩,⟨hown.1,.inr ⟨g,cap,cur,rfl,.inr rfl,Mem.put_same _ _ _,k3⟩⟩,hr2.moreS hm k1 hlt hGz⟩
      · rcases hb with hb |rfl
        · exact .inl hb
        · exact .inr rfl
      · have hne:b≠g:=fun e=>hb2 (by rw [e];rfl)
        rw [Mem.put_ne _ _ hne];exact e1 b hb
      · simp [q0h] at hb;subst hb;exact hGn
      · have hne:b≠g:=fun e=>by rw [e,hGn] at ho;cases ho
        rw [Mem.put_ne _ _ hne,e1 b hb];exact ho
def x9j (T:Tab) (t:TypeId) (v:Value) (x:AV) (m:Nat) (hp:List Blk) (G:Mem) (K:AV→List Blk→Mem→Prop):Prop :=
  q00 T t fun i=>match i.td with
    | .slice e=>q00 T e fun j=>q0o (Nat.blt 0 j.size) (q0o (Nat.beq j.zero.length j.size) (q0o (Nat.blt 0 j.bytes) (srcF hp G x j.size fun k vs =>
        match nthB hp m with
        | .muts S=>∃ n xs,RowS S G e j.size v n xs∧(n+k)*j.bytes≤140737488355328∧∀ v' S' G',RowG S G v S' G' v'→RowS S' G' e j.size v' (n+k) (xs++vs)→setF hp m (.muts S') fun hp'=>K (.val v') hp' G'
        | _=>False)))
    | _=>False
theorem q3v {l:List Blk} {n:Nat} {S:Nat→Prop} (h:nthB l n=.muts S):l[n]? = some (.muts S):=by
  rw [q2p] at h
  cases hx:l[n]? with
  | none=>rw [hx] at h;cases h
  | some y=>rw [hx] at h;simpa using h
theorem q3d {P:Program} {T:Tab} (hT:TOk P T) (m:Nat) {op:Op} {fr:List AV} {hp:List Blk} {G:Mem} {K:AV→List Blk→Mem→Prop} {t:TypeId} {d x:Operand} {v:Value} (hop:op=.call ⟨.builtin .append,⟨[d,x]⟩,⟨[t,t]⟩⟩) (hd:ev fr d=.val v)
    (h:x9j T t v (ev fr x) m hp G K):OpP P op fr hp G K:=by
  refine ⟨fun o ho=>OpS.of_run fun w0 G0 β a w hr hf=>?_⟩
  have ho:o.op=.call ⟨.builtin .append,#[d,x],#[t,t]⟩:=ho.trans hop
  have hdv:=q1f hf d
  have hx:=q1f hf x
  obtain ⟨i,hi,h1⟩:=q0s hT h
  split at h1
  · rename_i e htd
    have hu:=q1e (htd ▸ hi.td)
    simp only [TD.says] at hu
    obtain ⟨j,hj,h20⟩:=q0s hT h1
    obtain ⟨hsz0,h21⟩:=q0n h20
    obtain ⟨hzl0,h22⟩:=q0n h21
    obtain ⟨hby0,h2⟩:=q0n h22
    have hzl:=Nat.eq_of_beq_eq_true hzl0
    have hby:0<j.bytes:=by simpa [Nat.blt_eq] using hby0
    have hmax:∀ k,k*j.bytes≤140737488355328→k≤maxLen:=fun k hk=>by
      have:=Nat.le_mul_of_pos_right k hby
      unfold maxLen;omega
    have hsz:0<j.size:=by simpa [Nat.blt_eq] using hsz0
    obtain ⟨q,z,hq,hqs,hqb,hqz,hzz⟩:=hj.info
    have hzs:z.cells.size=j.size:=by rw [← hzl,← hzz];simp
    obtain ⟨A,c,k,vs,hxe,hvl,hnews,hone,h3⟩:=x28 hr hx h2
    split at h3
    · rename_i S hS
      obtain ⟨n,xs,hrow,hbd,hK⟩:=h3
      have hmS:=q3v hS
      have hown0:=hrow.owns hr hmS
      rw [hd] at hdv;simp only [AV.rel] at hdv
      have run:∃ v' w',(execOp a.eval o).run P w=.ok (.value v') w'∧w'.ownsRow w0.heap.size e j.size v' (n+k) (xs++vs)∧w.grownBy w' (q0h v)∧(∀ b,q0h v'=some b→w.heap.size≤b∨q0h v=some b):=by
        rcases hnews with ⟨ad,rfl,hnews⟩ |⟨rfl,rfl⟩
        rotate_left
        · have hv0:vs=[]:=List.eq_nil_of_length_eq_zero (by simpa using hvl)
          subst hv0
          have hrun:=q6e (P:=P) w w0.heap.size t o.type e q j.size hu hq v n xs hown0 c
          exact ⟨v,w,by simp [execOp,ho,resolve,invoke,builtin,hdv,hxe,hrun],by simpa using hown0,⟨rfl,rfl,rfl,Nat.le_refl _,fun _ _ _=>rfl⟩,fun b hb=>.inr hb⟩
        obtain ⟨v',w',hrun,hown',hgr,_,hat⟩:=run_append_own_at (P:=P) w w0.heap.size t o.type e q z j.size j.bytes hu hq hqz hqs hqb hzs hsz v n xs hown0 ad k c vs hvl hnews hone (hmax _ hbd) hbd hr.below.size
        refine ⟨v',w',by simp [execOp,ho,resolve,invoke,builtin,hdv,hxe,hrun],hown',by rw [← q3p hown0];exact hgr,fun b hb=>?_⟩
        rw [q3p hown',q3p hown0] at hat
        rcases hat with h |h
        · right;rw [← h];exact hb
        · left;rw [hb] at h;cases h;exact Nat.le_refl _
      obtain ⟨v',w',hrun,hown',hgr,hat⟩:=run
      obtain ⟨S',G',h4,h5,h6⟩:=hr.rowG hmS hrow hown' hgr hat
      have h7:=hK v' S' G' h4 h5
      rw [q09] at h7
      exact ⟨_,v',w',β,.val v',_,G',hrun,.inl rfl,Nm.le_refl _,h6,by simp only [AV.rel],h7⟩
    · exact h3.elim
  · exact h1.elim
theorem z6c {P:Program} {T:Tab} (hT:TOk P T) (m:Nat) {op:Op} {fr:List AV} {hp:List Blk} {G:Mem} {K:AV→List Blk→Mem→Prop} {t:TypeId} {x z:Operand} {b off:Nat} (hop:op=.store t x z) (hx:ev fr x=.val (.pointer (some ⟨b,off,none⟩)))
    (h : q00 T t fun i=>q65 (ev fr z) fun cs=>q1o cs fun vs=>q0o (Nat.beq vs.length i.size) (q0o (q76 vs) (match nthB hp m with
      | .muts S=>∃ E sz n cap xs,RowS S G E sz (.slice (some ⟨b,0,none⟩) n cap) n xs∧off+vs.length≤xs.length∧∀ G',(∀ c,c≠b→G' c=G c)→RowS S G' E sz (.slice (some ⟨b,0,none⟩) n cap) n (xs.take off++vs++xs.drop (off+vs.length))→K (.val undef) hp G'
      | _=>False))):OpP P op fr hp G K:=by
  refine ⟨fun o ho=>OpS.of_run fun w0 G0 β a w hr hf=>?_⟩
  have ho:o.op=.store t x z:=ho.trans hop
  obtain ⟨i,hi,h1⟩:=q0s hT h
  obtain ⟨cs,h2,hcs⟩:=q5q h1
  obtain ⟨vs,rfl,h3⟩:=q2q _ _ h2
  obtain ⟨hl0,h4⟩:=q0n h3
  obtain ⟨hone,h5⟩:=q0n h4
  have hlen:=Nat.eq_of_beq_eq_true hl0
  have he:=q1f hf x
  rw [hx] at he;simp only [AV.rel] at he
  have hz:=q07 (hcs _ _ (q1f hf z))
  split at h5
  · rename_i S hS
    obtain ⟨E,sz,n,cap,xs,hrow,hle,hK⟩:=h5
    have hmS:=q3v hS
    obtain ⟨hxl,hrow'⟩:=hrow
    rcases hrow' with ⟨h6,_⟩ |⟨g,cp,cur,h6,g1,g2,g3,g4,g5,g6⟩
    · cases h6
    · cases h6
      obtain ⟨k1,k2,k3⟩:=hr.wrt m S hmS b g1
      have hh:=hr.hold b _ g2
      have hxle:xs.length≤cur.size:=by rw [← g6,List.length_take];simp;omega
      have hrun:=q4r (P:=P) hi (off:=off) hz hh hlen (by omega) (q6t hone)
      have hnew:(w.setRow b (cur.toList.take off++vs++cur.toList.drop (off+vs.length)).toArray).heap[b]? = some (.cells (cur.toList.take off++vs++cur.toList.drop (off+vs.length)).toArray E (0,0)):=setRow_heap _ _ _ _ _ _ hh
      refine ⟨.skip,undef,_,β,.val undef,_,_,by simp [execOp,ho,he,Instr.storeAt,Instr.sureAddr,hrun];(try rfl),.inr ⟨rfl,rfl⟩,Nm.le_refl _,hr.writeG k1 k3 g2 (q1r w b _) hnew,by simp only [AV.rel],hK _ (fun c hc=>Mem.put_ne _ _ hc) ⟨?_,.inr ⟨b,cap,_,rfl,g1,Mem.put_same _ _ _,g3,g4,?_,?_⟩⟩⟩
      · rw [← hxl]
        simp [List.length_take,List.length_drop];omega
      · rw [← g5]
        simp [List.length_take,List.length_drop];omega
      · rw [← hxl] at g6 ⊢
        apply List.ext_getElem?
        intro j
        have hx:∀ j,j<xs.length→cur.toList[j]? = xs[j]?:=fun j hj=>by rw [← g6,List.getElem?_take,if_pos hj]
        simp only [List.getElem?_take,List.getElem?_append,List.length_take,List.length_append,List.getElem?_drop,Array.length_toList]
        have e1:min off cur.size=off:=by omega
        have e2:min off xs.length=off:=by omega
        rw [e1,e2]
        by_cases hj:j<xs.length
        · rw [if_pos hj]
          by_cases hj2:j<off
          · simp only [if_pos (show j<off+vs.length by omega),if_pos hj2];exact hx j hj
          · by_cases hj3:j<off+vs.length
            · simp only [if_pos hj3,if_neg hj2,if_pos (show j-off<vs.length by omega)]
            · simp only [if_neg hj3,if_neg hj2,if_neg (show ¬ j-off<vs.length by omega)]
              rw [hx _ (by omega)]
        · rw [if_neg hj]
          by_cases hj2:j<off+vs.length
          · omega
          · rw [if_neg hj2,List.getElem?_eq_none (by omega)]
  · exact h5.elim
end Go.Proofs.YtkicdhaklnmonaaGreat
