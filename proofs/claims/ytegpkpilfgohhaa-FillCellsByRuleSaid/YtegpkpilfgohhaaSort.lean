/-
  The engine: slices.SortFunc of a row of the caller's own. No program in sight.
-/
import Derived.Test.YtegpkpilfgohhaaMrg6
import Derived.Test.YtegpkpilfgohhaaMrg8
import Derived.Test.YtegpkpilfgohhaaArg
import Derived.Shelf.SlSortCmp.NoneTotal
set_option linter.unusedVariables false
set_option linter.unusedSimpArgs false
set_option linter.unnecessarySimpa false
namespace Go.Proofs.Ytegpkpilfgohhaa
open Go.RowKit Go.Shelf Go.Lib Go.Sort
section
variable {α:Type} [Inhabited α] {enc:α→List Value} {k:Nat}
theorem z4w (hk:∀ x,(enc x).length=k) (l:List α) {t:Nat} (ht:t<l.length*k):(l.flatMap enc)[t]? = some ((Go.Sort.flatK enc k l.toArray)[t]!):=by
  have k0 : 0 < k := by rcases Nat.eq_zero_or_pos k with h |h;· subst h;simp at ht
                        · exact h
  have h1:t/k<l.length:=Nat.div_lt_of_lt_mul (by rw [Nat.mul_comm];exact ht)
  have h2:t%k<k:=Nat.mod_lt _ k0
  have h3:=q7d hk l (t/k) (t%k) l[t/k] (List.getElem?_eq_getElem h1) h2
  rw [Nat.div_add_mod' t k] at h3
  rw [h3,Go.Sort.get_flatK enc k l.toArray t (by simpa using ht)]
  have e:l.toArray[t/k]! = l[t/k]:=by simp [h1]
  rw [e,List.getElem?_eq_getElem (by rw [hk];exact h2)]
  simp [hk,h2]
theorem z63 (hk:∀ x,(enc x).length=k) {w:World} {E:TypeId} {g cap:Nat} {cur:Array Value} {l:List α} (hg:w.heap[g]? = some (.cells cur E (0,0))) (hc:cur.size=cap*k) (hl:l.length≤cap) (ht:cur.toList.take (l.length*k)=l.flatMap enc):HoldsK enc k w g 0 l.toArray:=by
  intro j hj
  have hj':j<l.length*k:=by simpa using hj
  have h1:=z4w hk l hj'
  rw [← ht,List.getElem?_take,if_pos hj'] at h1
  refine ⟨?_,?_⟩
  · simp only [World.cell?,hg,Nat.zero_add]
    simpa using h1
  · simp [World.frozen?,hg]
theorem z82 (hk:∀ x,(enc x).length=k) {cap:Nat} {cur:Array Value} {l:List α} (hc:cur.size=cap*k) (hl:l.length≤cap):(putCells id 0 (Go.Sort.flatK enc k l.toArray) cur).toList.take (l.length*k)=l.flatMap enc:=by
  have hle:l.length*k≤cap*k:=Nat.mul_le_mul_right _ hl
  apply List.ext_getElem?
  intro t
  rw [List.getElem?_take]
  by_cases ht:t<l.length*k
  · rw [if_pos ht,z4w hk l ht]
    have h2:t<cur.size:=by omega
    simp [putCells,h2,ht]
  · rw [if_neg ht,List.getElem?_eq_none (by rw [q12 hk];omega)]
theorem z64 {P:Program} {ρ:Ren} (L:SlLaysF0.n6 P ρ) (aE:∀ w,(isAgg (ρ.t 24)).run P w=.ok true w) (zE:∀ w,(Go.sizeOf (ρ.t 24)).run P w=.ok k w) (hk:∀ x,(enc x).length=k) (h1:∀ x,∀ v∈enc x,v.oneCell'=true) {cf:α→α→Int} (hO:SWO (ltOf cf)) {g:Nat}
    (eg:∀ args w,(callFunc g args).run P w=.ok (.enter g args) w) (hcl:∀ x y W,Calls P g #[.agg (enc x).toArray,.agg (enc y).toArray] W fun e w'=>e=.returned (.int .i64 (cf x y))∧∃ q os',w'=grow (W.drewN q) os')
    {base:Nat} {E:TypeId} {v:Value} {l:List α} {w:World} (hown:w.ownsRow base E k v l.length (l.flatMap enc)) (hsz:l.length<4611686018427387904) :
    Calls P (ρ.f 6) #[v,.func (.func g) #[] #[]] w fun e w'=>e=.returned (.tuple #[])∧∃ l':List α,l'.Perm l∧l'.Pairwise (fun a b=>ltOf cf b a=false)∧w'.ownsRow base E k v l'.length (l'.flatMap enc)∧w.grownBy w' (q0c v):=by
  have none:∀ (p:Option Addr) (cap:Nat),v=.slice p 0 cap→l=[]→Calls P (ρ.f 6) #[v,.func (.func g) #[] #[]] w fun e w'=>e=.returned (.tuple #[])∧∃ l':List α,l'.Perm l∧l'.Pairwise (fun a b=>ltOf cf b a=false)∧w'.ownsRow base E k v l'.length (l'.flatMap enc)∧w.grownBy w' (q0c v):=by
    rintro p cap rfl rfl
    refine (AnyF.slices_SortFunc_none L p cap _ w).mono ?_
    rintro e w' ⟨rfl,rfl⟩
    exact ⟨rfl,[],List.Perm.refl _,List.Pairwise.nil,hown,⟨rfl,rfl,rfl,Nat.le_refl _,fun _ _ _=>rfl⟩⟩
  have hown':=hown
  obtain ⟨hlen,hc⟩:=hown
  rcases hc with ⟨hv,hn⟩ |⟨b,cap,cur,rfl,hb,hcell,hcap,hmax,hcs,htk⟩
  · exact none _ _ hv (List.length_eq_zero_iff.1 hn)
  · by_cases h0:l=[]
    · subst h0;exact none _ _ rfl rfl
    · have hblk:=(Array.getElem?_eq_some_iff.1 hcell).1
      have hH:=z63 hk hcell hcs hcap htk
      have hs:=AnyQ.slices_SortFunc L k aE zE enc hk h1 cf hO g #[] b 0 cap l.toArray w eg (fun m os dk _ x y=>by simpa using hcl x y _) hH hblk (by simpa using hsz)
      refine hs.mono ?_
      rintro e w' ⟨rfl,d',m,os,⟨p1,p2,p3⟩,hso,rfl⟩
      have hd:d'.toList.length=l.length:=by simpa using p1
      have hex:∀ (a:Array α),a.extract 0 a.size=a:=fun a=>by simp
      have p4:d'.toList.Perm l:=by
        rw [show l.toArray.size=d'.size from p1.symm] at p3
        rw [hex] at p3
        rw [p1,hex] at p3
        simpa using p3
      have key:(sortWorldK enc k w b 0 m d' os).heap[b]? = some (.cells (putCells id 0 (Go.Sort.flatK enc k d') cur) E (0,0)):=by
        unfold sortWorldK grow putRowK putRow mapBlock Sort.ahead
        show (w.heap.modify b _++os)[b]? = _
        rw [Array.getElem?_append_left (by simpa using hblk),Array.getElem?_modify,if_pos rfl,hcell]
        rfl
      refine ⟨rfl,d'.toList,p4,?_,?_,?_⟩
      · rw [List.pairwise_iff_getElem]
        intro i j hi hj hij
        have:=hso i j (Nat.zero_le _) hij (by rw [← p1];simpa using hj)
        rw [getElem!_pos d' i (by simpa using hi),getElem!_pos d' j (by simpa using hj)] at this
        simpa using this
      · refine ⟨q12 hk _,.inr ⟨b,cap,_,by rw [hd],hb,key,by rw [hd];exact hcap,hmax,by simp [putCells,hcs],?_⟩⟩
        have:=z82 (l:=d'.toList) hk hcs (by rw [hd];exact hcap)
        simpa using this
      · refine ⟨rfl,rfl,rfl,?_,fun j hj hne=>?_⟩
        · unfold sortWorldK grow putRowK putRow mapBlock Sort.ahead
          simp
        · have hne':¬ b=j:=fun e=>hne (by simp [q0c,e])
          unfold sortWorldK grow putRowK putRow mapBlock Sort.ahead
          show (w.heap.modify b _++os)[j]? = _
          rw [Array.getElem?_append_left (by simpa using hj),Array.getElem?_modify,if_neg hne']
theorem q9p {P:Program} {ρ:Ren} (L:SlLaysF0.n6 P ρ) {f:FuncId} (hf:ρ.f 6=f) (hen:∀ vs w,(callFunc f vs).run P w=.ok (.enter f vs) w) (aE:∀ w,(isAgg (ρ.t 24)).run P w=.ok true w) (zE:∀ w,(Go.sizeOf (ρ.t 24)).run P w=.ok k w) (hk:∀ x,(enc x).length=k) (h1:∀ x,∀ v∈enc x,v.oneCell'=true) {cf:α→α→Int} (hO:SWO (ltOf cf)) {g:Nat}
    (eg:∀ args w,(callFunc g args).run P w=.ok (.enter g args) w) (hcl:∀ x y W,Calls P g #[.agg (enc x).toArray,.agg (enc y).toArray] W fun e w'=>e=.returned (.int .i64 (cf x y))∧∃ q os',w'=grow (W.drewN q) os')
    {j:Nat} {E:TypeId} {l:List α} {hp:List Blk} {G:Mem} {K:AV→List Blk→Mem→Prop} (hb:nthB hp j=.own E k l.length (l.flatMap enc)) (hsz:l.length<4611686018427387904)
    (h:∀ l':List α,l'.Perm l→l'.Pairwise (fun a b=>ltOf cf b a=false)→setF hp j (.own E k l'.length (l'.flatMap enc)) fun hp'=>K (.tup []) hp' G):CallP P f [.own j,.val (.func (.func g) #[] #[])] hp G K:=by
  refine ⟨hen,fun w0 G0 β w vs hr ha=>?_⟩
  simp only [AV.rels,AV.rel] at ha
  obtain ⟨v,ts,hvs,⟨hv,hsl⟩,u,us,rfl,rfl,rfl⟩:=ha
  have e:vs=#[v,.func (.func g) #[] #[]]:=Array.toList_inj.1 (by rw [hvs])
  subst e
  obtain ⟨x,hx1,hx2⟩:=hr.blk j v hv
  rw [q0l hb rfl] at hx1;cases hx1
  rw [← hf]
  refine (z64 L aE zE hk h1 hO eg hcl hx2.1 hsz).mono ?_
  rintro e w' ⟨rfl,l',hp',hs',hown',hgr⟩
  have h2:=h l' hp' hs'
  rw [q06] at h2
  refine ⟨_,β,.tup [],_,G,rfl,Nm.le_refl _,?_,by simp only [AV.rel];exact ⟨_,rfl,rfl⟩,h2⟩
  have hrel:(Blk.own E k l'.length (l'.flatMap enc)).rel w0.heap.size β G w' v:=⟨hown',hx2.2⟩
  cases hb':q0c v with
  | some b=>exact hr.setBlk hv (q0l hb rfl) rfl hb' (by rw [← hb'];exact hgr) hrel
  | none =>
    have hl:l=[]:=by
      rcases hx2.1.2 with ⟨_,hn⟩ |⟨b,_,_,rfl,_⟩
      · exact List.length_eq_zero_iff.1 hn
      · simp [q0c] at hb'
    subst hl
    obtain rfl:l'=[]:=List.Perm.eq_nil hp'
    have e:hp.set j (.own E k ([]:List α).length (([]:List α).flatMap enc))=hp:=by
      apply List.ext_getElem?
      intro i
      rw [List.getElem?_set]
      split
      · rename_i hij
        subst hij
        have:=q0l hb rfl
        rw [this]
        simp [(List.getElem?_eq_some_iff.1 this).1]
      · rfl
    rw [e]
    exact hr.step ⟨hgr.os,hgr.tape,hgr.output,hgr.size,fun i hi=>hgr.block i hi (by rw [hb'];simp)⟩
end
end Go.Proofs.Ytegpkpilfgohhaa
