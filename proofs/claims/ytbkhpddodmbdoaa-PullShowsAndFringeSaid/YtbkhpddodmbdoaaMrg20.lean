/-
  Merged: XSort, XApartLaw.
-/
import Derived.Shelf.SlSortCmp.NoneTotal
import Derived.Test.YtbkhpddodmbdoaaMrg6
import Derived.Test.YtbkhpddodmbdoaaMrg19
import Derived.Test.YtbkhpddodmbdoaaMrg13
import Derived.Test.YtbkhpddodmbdoaaMrg10
set_option linter.unusedVariables false
set_option linter.unusedSimpArgs false
set_option linter.unnecessarySimpa false
namespace Go.Proofs.Ytbkhpddodmbdoaa
open Go.RowKit Go.Shelf Go.Lib Go.Sort
section
variable {α:Type} [Inhabited α] {enc:α→List Value} {k:Nat}
theorem z8b (hk:∀ x,(enc x).length=k) (l:List α) {t:Nat} (ht:t<l.length*k):(l.flatMap enc)[t]? = some ((Go.Sort.flatK enc k l.toArray)[t]!):=by
  have k0 : 0 < k := by rcases Nat.eq_zero_or_pos k with h |h;· subst h;simp at ht
                        · exact h
  have h1:t/k<l.length:=Nat.div_lt_of_lt_mul (by rw [Nat.mul_comm];exact ht)
  have h2:t%k<k:=Nat.mod_lt _ k0
  have h3:=z8a hk l (t/k) (t%k) l[t/k] (List.getElem?_eq_getElem h1) h2
  rw [Nat.div_add_mod' t k] at h3
  rw [h3,Go.Sort.get_flatK enc k l.toArray t (by simpa using ht)]
  have e:l.toArray[t/k]! = l[t/k]:=by simp [h1]
  rw [e,List.getElem?_eq_getElem (by rw [hk];exact h2)]
  simp [hk,h2]
theorem x0y (hk:∀ x,(enc x).length=k) {w:World} {E:TypeId} {g cap:Nat} {cur:Array Value} {l:List α} (hg:w.heap[g]? = some (.cells cur E (0,0))) (hc:cur.size=cap*k) (hl:l.length≤cap) (ht:cur.toList.take (l.length*k)=l.flatMap enc):HoldsK enc k w g 0 l.toArray:=by
  intro j hj
  have hj':j<l.length*k:=by simpa using hj
  have h1:=z8b hk l hj'
  rw [← ht,List.getElem?_take,if_pos hj'] at h1
  refine ⟨?_,?_⟩
  · simp only [World.cell?,hg,Nat.zero_add]
    simpa using h1
  · simp [World.frozen?,hg]
theorem x37 (hk:∀ x,(enc x).length=k) {cap:Nat} {cur:Array Value} {l:List α} (hc:cur.size=cap*k) (hl:l.length≤cap):(putCells id 0 (Go.Sort.flatK enc k l.toArray) cur).toList.take (l.length*k)=l.flatMap enc:=by
  have hle:l.length*k≤cap*k:=Nat.mul_le_mul_right _ hl
  apply List.ext_getElem?
  intro t
  rw [List.getElem?_take]
  by_cases ht:t<l.length*k
  · rw [if_pos ht,z8b hk l ht]
    have h2:t<cur.size:=by omega
    simp [putCells,h2,ht]
  · rw [if_neg ht,List.getElem?_eq_none (by rw [q4p hk];omega)]
theorem x0z {P:Program} {ρ:Ren} (L:SlLaysF0.n6 P ρ) (aE:∀ w,(isAgg (ρ.t 24)).run P w=.ok true w) (zE:∀ w,(Go.sizeOf (ρ.t 24)).run P w=.ok k w) (hk:∀ x,(enc x).length=k) (h1:∀ x,∀ v∈enc x,v.oneCell'=true) {cf:α→α→Int} (hO:SWO (ltOf cf)) {g:Nat}
    (eg:∀ args w,(callFunc g args).run P w=.ok (.enter g args) w) (hcl:∀ x y W,Calls P g #[.agg (enc x).toArray,.agg (enc y).toArray] W fun e w'=>e=.returned (.int .i64 (cf x y))∧∃ q os',w'=grow (W.drewN q) os')
    {base:Nat} {E:TypeId} {v:Value} {l:List α} {w:World} (hown:w.ownsRow base E k v l.length (l.flatMap enc)) (hsz:l.length<4611686018427387904) :
    Calls P (ρ.f 6) #[v,.func (.func g) #[] #[]] w fun e w'=>e=.returned (.tuple #[])∧∃ l':List α,l'.Perm l∧l'.Pairwise (fun a b=>ltOf cf b a=false)∧w'.ownsRow base E k v l'.length (l'.flatMap enc)∧w.grownBy w' (q0j v):=by
  have none:∀ (p:Option Addr) (cap:Nat),v=.slice p 0 cap→l=[]→Calls P (ρ.f 6) #[v,.func (.func g) #[] #[]] w fun e w'=>e=.returned (.tuple #[])∧∃ l':List α,l'.Perm l∧l'.Pairwise (fun a b=>ltOf cf b a=false)∧w'.ownsRow base E k v l'.length (l'.flatMap enc)∧w.grownBy w' (q0j v):=by
    rintro p cap rfl rfl
    refine (AnyF.slices_SortFunc_none L p cap _ w).mono ?_
    rintro e w' ⟨rfl,rfl⟩
    exact ⟨rfl,[],List.Perm.refl _,List.Pairwise.nil,hown,⟨rfl,rfl,rfl,Nat.le_refl _,fun _ _ _=>rfl⟩⟩
  have hown':=hown
  obtain ⟨hlen,hc⟩:=hown
  rcases hc with ⟨hv,hn⟩ |⟨b,cap,cur,rfl,hb,hcell,hcap,hmax,hcs,htk⟩
  · exact none _ _ hv (List.length_eq_zero_iff.1 hn)
  · by_cases h0:l=[]
    · subst h0;exact none _ _ rfl rfl
    · have hblk:=(Array.getElem?_eq_some_iff.1 hcell).1
      have hH:=x0y hk hcell hcs hcap htk
      have hs:=AnyQ.slices_SortFunc L k aE zE enc hk h1 cf hO g #[] b 0 cap l.toArray w eg (fun m os dk _ x y=>by simpa using hcl x y _) hH hblk (by simpa using hsz)
      refine hs.mono ?_
      rintro e w' ⟨rfl,d',m,os,⟨p1,p2,p3⟩,hso,rfl⟩
      have hd:d'.toList.length=l.length:=by simpa using p1
      have hex:∀ (a:Array α),a.extract 0 a.size=a:=fun a=>by simp
      have p4:d'.toList.Perm l:=by
        rw [show l.toArray.size=d'.size from p1.symm] at p3
        rw [hex] at p3
        rw [p1,hex] at p3
        simpa using p3
      have key:(sortWorldK enc k w b 0 m d' os).heap[b]? = some (.cells (putCells id 0 (Go.Sort.flatK enc k d') cur) E (0,0)):=by
        unfold sortWorldK grow putRowK putRow mapBlock Sort.ahead
        show (w.heap.modify b _++os)[b]? = _
        rw [Array.getElem?_append_left (by simpa using hblk),Array.getElem?_modify,if_pos rfl,hcell]
        rfl
      refine ⟨rfl,d'.toList,p4,?_,?_,?_⟩
      · rw [List.pairwise_iff_getElem]
        intro i j hi hj hij
        have:=hso i j (Nat.zero_le _) hij (by rw [← p1];simpa using hj)
        rw [getElem!_pos d' i (by simpa using hi),getElem!_pos d' j (by simpa using hj)] at this
        simpa using this
      · refine ⟨q4p hk _,.inr ⟨b,cap,_,by rw [hd],hb,key,by rw [hd];exact hcap,hmax,by simp [putCells,hcs],?_⟩⟩
        have:=x37 (l:=d'.toList) hk hcs (by rw [hd];exact hcap)
        simpa using this
      · refine ⟨rfl,rfl,rfl,?_,fun j hj hne=>?_⟩
        · unfold sortWorldK grow putRowK putRow mapBlock Sort.ahead
          simp
        · have hne':¬ b=j:=fun e=>hne (by simp [q0j,e])
          unfold sortWorldK grow putRowK putRow mapBlock Sort.ahead
          show (w.heap.modify b _++os)[j]? = _
          rw [Array.getElem?_append_left (by simpa using hj),Array.getElem?_modify,if_neg hne']
theorem z2e {P:Program} {ρ:Ren} (L:SlLaysF0.n6 P ρ) {f:FuncId} (hf:ρ.f 6=f) (hen:∀ vs w,(callFunc f vs).run P w=.ok (.enter f vs) w) (aE:∀ w,(isAgg (ρ.t 24)).run P w=.ok true w) (zE:∀ w,(Go.sizeOf (ρ.t 24)).run P w=.ok k w) (hk:∀ x,(enc x).length=k) (h1:∀ x,∀ v∈enc x,v.oneCell'=true) {cf:α→α→Int} (hO:SWO (ltOf cf)) {g:Nat}
    (eg:∀ args w,(callFunc g args).run P w=.ok (.enter g args) w) (hcl:∀ x y W,Calls P g #[.agg (enc x).toArray,.agg (enc y).toArray] W fun e w'=>e=.returned (.int .i64 (cf x y))∧∃ q os',w'=grow (W.drewN q) os')
    {j:Nat} {E:TypeId} {l:List α} {hp:List Blk} {G:Mem} {K:AV→List Blk→Mem→Prop} (hb:nthB hp j=.own E k l.length (l.flatMap enc)) (hsz:l.length<4611686018427387904)
    (h:∀ l':List α,l'.Perm l→l'.Pairwise (fun a b=>ltOf cf b a=false)→setF hp j (.own E k l'.length (l'.flatMap enc)) fun hp'=>K (.tup []) hp' G):CallP P f [.own j,.val (.func (.func g) #[] #[])] hp G K:=by
  refine ⟨hen,fun w0 G0 β w vs hr ha=>?_⟩
  simp only [AV.rels,AV.rel] at ha
  obtain ⟨v,ts,hvs,⟨hv,hsl⟩,u,us,rfl,rfl,rfl⟩:=ha
  have e:vs=#[v,.func (.func g) #[] #[]]:=Array.toList_inj.1 (by rw [hvs])
  subst e
  obtain ⟨x,hx1,hx2⟩:=hr.blk j v hv
  rw [q0z hb rfl] at hx1;cases hx1
  rw [← hf]
  refine (x0z L aE zE hk h1 hO eg hcl hx2.1 hsz).mono ?_
  rintro e w' ⟨rfl,l',hp',hs',hown',hgr⟩
  have h2:=h l' hp' hs'
  rw [q1h] at h2
  refine ⟨_,β,.tup [],_,G,rfl,Nm.le_refl _,?_,by simp only [AV.rel];exact ⟨_,rfl,rfl⟩,h2⟩
  have hrel:(Blk.own E k l'.length (l'.flatMap enc)).rel w0.heap.size β G w' v:=⟨hown',hx2.2⟩
  cases hb':q0j v with
  | some b=>exact hr.setBlk hv (q0z hb rfl) rfl hb' (by rw [← hb'];exact hgr) hrel
  | none =>
    have hl:l=[]:=by
      rcases hx2.1.2 with ⟨_,hn⟩ |⟨b,_,_,rfl,_⟩
      · exact List.length_eq_zero_iff.1 hn
      · simp [q0j] at hb'
    subst hl
    obtain rfl:l'=[]:=List.Perm.eq_nil hp'
    have e:hp.set j (.own E k ([]:List α).length (([]:List α).flatMap enc))=hp:=by
      apply List.ext_getElem?
      intro i
      rw [List.getElem?_set]
      split
      · rename_i hij
        subst hij
        have:=q0z hb rfl
        rw [this]
        simp [(List.getElem?_eq_some_iff.1 this).1]
      · rfl
    rw [e]
    exact hr.step ⟨hgr.os,hgr.tape,hgr.output,hgr.size,fun i hi=>hgr.block i hi (by rw [hb'];simp)⟩
end
end Go.Proofs.Ytbkhpddodmbdoaa
namespace Go.Proofs.Ytbkhpddodmbdoaa
structure Ow where
  r:Run
  p:Int
  hy:-100000≤r.y∧r.y≤100000
  hx:-100000≤r.x0∧r.x0≤100000
  hp:0≤p∧p≤100000
instance:Inhabited Ow:=⟨⟨⟨0,0,0⟩,0,by simp,by simp,by simp⟩⟩
def leO (a b:Ow):Prop:=a.r.y<b.r.y∨(a.r.y=b.r.y∧(a.r.x0<b.r.x0∨(a.r.x0=b.r.x0∧a.p≤b.p)))
def q25 (q:Run) (a:Ow):Bool:=!decide (a.r.x1≤q.x0)
def z12 (q:Run) (a:Ow):Bool:=decide (a.r.y=q.y)&&q25 q a
def q1k (S:List Ow) (b:Nat):List Ow :=
  match S[b]? with
  | some q=>(S.take b).filter (z12 q.r)
  | none=>[]
def q50 (S:List Ow):Nat→List Ow
  | 0=>[]
  | b+1=>match S[b]? with
    | some q=>q1k S b++[q]
    | none=>[]
def rowS (S:List Ow):Nat→Int
  | 0=>-1
  | b+1=>match S[b]? with
    | some q=>q.r.y
    | none=>0
theorem x00 {S:List Ow} (hs:S.Pairwise leO) {b:Nat} {q:Ow} (hq:S[b]? = some q):(if q.r.y≠rowS S b then [] else q50 S b).filter (q25 q.r)=q1k S b:=by
  unfold q1k
  rw [hq]
  dsimp only
  have hle:∀ {i j:Nat} {x y:Ow},i<j→S[i]? = some x→S[j]? = some y→leO x y:=fun {i j x y} hij hi hj=>by
    obtain ⟨h1,e1⟩:=List.getElem?_eq_some_iff.1 hi
    obtain ⟨h2,e2⟩:=List.getElem?_eq_some_iff.1 hj
    rw [← e1,← e2]
    exact List.pairwise_iff_getElem.1 hs i j h1 h2 hij
  cases b with
  | zero=>simp [q50]
  | succ c =>
    obtain ⟨a,ha⟩:∃ a,S[c]? = some a:=⟨_,List.getElem?_eq_getElem (by have:=(List.getElem?_eq_some_iff.1 hq).1;omega)⟩
    have haq:=hle (Nat.lt_succ_self c) ha hq
    have htk:S.take (c+1)=S.take c++[a]:=by
      rw [List.take_add_one,ha];rfl
    simp only [rowS,q50,ha,q1k]
    by_cases hy:q.r.y=a.r.y
    · rw [if_neg (by simp [hy]),htk,List.filter_append,List.filter_append,List.filter_filter]
      congr 1
      · apply List.filter_congr
        intro x hx
        unfold z12 q25
        have h1:a.r.x0≤q.r.x0:=by unfold leO at haq;omega
        rw [hy]
        by_cases h2:x.r.x1≤q.r.x0 <;> by_cases h3:x.r.x1≤a.r.x0 <;> simp [h2,h3]
        omega
      · unfold z12
        simp [hy,List.filter_cons]
    · rw [if_pos hy]
      symm
      rw [List.filter_nil,List.filter_eq_nil_iff]
      intro x hx
      unfold z12
      obtain ⟨i,hi⟩:=List.mem_iff_getElem?.1 hx
      rw [List.getElem?_take] at hi
      split at hi
      · rename_i hlt
        have:=hle hlt hi hq
        by_cases hic:i=c
        · subst hic;rw [ha] at hi;cases hi
          have:¬ a.r.y=q.r.y:=fun h=>hy h.symm
          simp [this]
        · have h2:=hle (show i<c by omega) hi ha
          have:x.r.y≠q.r.y:=by unfold leO at *;omega
          simp [this]
      · cases hi
def q64 (a b:Run):Prop:=a.y=b.y∧∃ x,(a.x0≤x∧x<a.x1)∧(b.x0≤x∧x<b.x1)
theorem q98 {a b:Run} (h:q64 a b):q64 b a:=by
  obtain ⟨h1,x,h2,h3⟩:=h
  exact ⟨h1.symm,x,h3,h2⟩
theorem x5z {all S:List Ow} (hp:S.Perm all) (hs:S.Pairwise leO) (hv:∀ a∈all,a.r.x0<a.r.x1) (hd:all.Pairwise fun a b=>a.p=b.p→¬ q64 a.r b.r) (i:Int) :
    (∃ c q a,S[c]? = some q∧a∈q1k S c∧max a.p q.p=i)↔∃ a∈all,∃ b∈all,a.p<b.p∧b.p=i∧q64 a.r b.r:=by
  have hle:∀ {i j:Nat} {x y:Ow},i<j→S[i]? = some x→S[j]? = some y→leO x y:=fun {i j x y} hij hi hj=>by
    obtain ⟨h1,e1⟩:=List.getElem?_eq_some_iff.1 hi
    obtain ⟨h2,e2⟩:=List.getElem?_eq_some_iff.1 hj
    rw [← e1,← e2]
    exact List.pairwise_iff_getElem.1 hs i j h1 h2 hij
  have hd':S.Pairwise fun a b=>a.p=b.p→¬ q64 a.r b.r:=(hp.pairwise_iff (fun {x y} h e hm=>h e.symm (q98 hm))).2 hd
  have hdd:∀ {i j:Nat} {x y:Ow},i<j→S[i]? = some x→S[j]? = some y→x.p=y.p→¬ q64 x.r y.r:=fun {i j x y} hij hi hj=>by
    obtain ⟨h1,e1⟩:=List.getElem?_eq_some_iff.1 hi
    obtain ⟨h2,e2⟩:=List.getElem?_eq_some_iff.1 hj
    rw [← e1,← e2]
    exact List.pairwise_iff_getElem.1 hd' i j h1 h2 hij
  have hmem:∀ {i:Nat} {x:Ow},S[i]? = some x→x∈all:=fun h=>hp.mem_iff.1 (List.mem_of_getElem? h)
  constructor
  · rintro ⟨c,q,a,hq,ha,hm⟩
    unfold q1k at ha
    rw [hq] at ha
    dsimp only at ha
    rw [List.mem_filter] at ha
    obtain ⟨ha1,ha2⟩:=ha
    obtain ⟨j,hj⟩:=List.mem_iff_getElem?.1 ha1
    rw [List.getElem?_take] at hj
    split at hj
    · rename_i hlt
      unfold z12 q25 at ha2
      simp at ha2
      have h1:=hle hlt hj hq
      have hvq:=hv q (hmem hq)
      have hmt:q64 a.r q.r:=⟨ha2.1,q.r.x0,by unfold leO at h1;omega,by omega⟩
      have hne:a.p≠q.p:=fun e=>hdd hlt hj hq e hmt
      rcases Int.lt_or_gt_of_ne hne with h2 |h2
      · exact ⟨a,hmem hj,q,hmem hq,h2,by omega,hmt⟩
      · exact ⟨q,hmem hq,a,hmem hj,h2,by omega,q98 hmt⟩
    · cases hj
  · rintro ⟨a,ha,b,hb,hlt,rfl,hm⟩
    obtain ⟨j,hj⟩:=List.mem_iff_getElem?.1 (hp.mem_iff.2 ha)
    obtain ⟨k,hk⟩:=List.mem_iff_getElem?.1 (hp.mem_iff.2 hb)
    have key:∀ {j k:Nat} {a b:Ow},j<k→S[j]? = some a→S[k]? = some b→q64 a.r b.r→a∈q1k S k:=fun {j k a b} hjk hj hk hm=>by
      have h1:=hle hjk hj hk
      unfold q1k
      rw [hk]
      dsimp only
      rw [List.mem_filter]
      refine ⟨List.mem_iff_getElem?.2 ⟨j,by rw [List.getElem?_take,if_pos hjk];exact hj⟩,?_⟩
      obtain ⟨h2,x,h3,h4⟩:=hm
      unfold z12 q25
      simp [h2];omega
    have hne:j≠k:=fun e=>by subst e;rw [hj] at hk;cases hk;omega
    rcases Nat.lt_or_gt_of_ne hne with h |h
    · exact ⟨k,b,a,hk,key h hj hk hm,by omega⟩
    · exact ⟨j,a,b,hj,key h hk hj (q98 hm),by omega⟩
/-! ### Deleting in place -/
structure Moved {α:Type} (keep:α→Bool) (L M:List α) (i j:Nat):Prop where
  len:M.length=L.length
  front:M.take i=(L.take j).filter keep
  back:M.drop j=L.drop j
  le:i≤j∧j≤L.length
theorem Moved.start {α:Type} {keep:α→Bool} {L:List α} {i:Nat} (h:∀ k x,k<i→L[k]? = some x→keep x=true) {x:α} (hx:L[i]? = some x) (hk:keep x=false):Moved keep L L i (i+1):=by
  have hi:=(List.getElem?_eq_some_iff.1 hx).1
  refine ⟨rfl,?_,rfl,by omega,by omega⟩
  rw [List.take_add_one,hx,List.filter_append]
  simp only [Option.toList,List.filter_cons,hk,List.filter_nil,if_false,List.append_nil,Bool.false_eq_true]
  symm
  rw [List.filter_eq_self]
  intro y hy
  obtain ⟨k,hk'⟩:=List.mem_iff_getElem?.1 hy
  rw [List.getElem?_take] at hk'
  split at hk'
  · rename_i hlt;exact h k y hlt hk'
  · cases hk'
theorem Moved.at_ {α:Type} {keep:α→Bool} {L M:List α} {i j:Nat} (h:Moved keep L M i j):M[j]? = L[j]?:=by
  have:=congrArg (fun l:List α=>l[0]?) h.back
  simpa using this
theorem Moved.drop_ {α:Type} {keep:α→Bool} {L M:List α} {i j:Nat} (h:Moved keep L M i j) {x:α} (hx:L[j]? = some x) (hk:keep x=false):Moved keep L M i (j+1):=by
  have hj:=(List.getElem?_eq_some_iff.1 hx).1
  refine ⟨h.len,?_,?_,by have:=h.le;omega,by omega⟩
  · rw [List.take_add_one,hx,List.filter_append,h.front]
    simp [hk]
  · rw [← List.drop_drop,← List.drop_drop,h.back]
theorem Moved.keep_ {α:Type} {keep:α→Bool} {L M:List α} {i j:Nat} (h:Moved keep L M i j) {x:α} (hx:L[j]? = some x) (hk:keep x=true):Moved keep L (M.set i x) (i+1) (j+1):=by
  have hj:=(List.getElem?_eq_some_iff.1 hx).1
  have hl:=h.le
  have hlen:=h.len
  refine ⟨by simp [h.len],?_,?_,by omega,by omega⟩
  · rw [List.take_add_one,List.take_add_one,hx,List.filter_append,← h.front]
    rw [List.take_set_of_le (Nat.le_refl i)]
    simp [hk,List.getElem?_set,show i<M.length by omega]
  · rw [List.drop_set_of_lt (by omega),← List.drop_drop,← List.drop_drop,h.back]
end Go.Proofs.Ytbkhpddodmbdoaa
