/-
  Merged: XGatM, XMends.
-/
import Derived.Test.YtegpkpilfgohhaaGreatMrg11
import Derived.Test.YtegpkpilfgohhaaGreatMrg16
import Derived.Test.YtegpkpilfgohhaaGreatMrg7
set_option linter.unusedVariables false
set_option linter.unusedSimpArgs false
set_option linter.unnecessarySimpa false
namespace Go.Proofs.YtegpkpilfgohhaaGreat
open Go.RowKit
def q65:Nat→List Pc→List (List Value × Value)
  | _,[]=>[]
  | n,p::t=>(p.1.map (.int .u8),.int .i64 n)::q65 (n+1) t
theorem z59:∀ (n:Nat) (gs:List Pc) (p:Pc),q65 n (gs++[p])=q65 n gs++[(p.1.map (.int .u8),.int .i64 ((n+gs.length:Nat):Int))]
  | n,[],p=>by simp [q65]
  | n,q::t,p=>by
    simp only [List.cons_append,q65,z59 (n+1) t p,List.length_cons]
    rw [show n+1+t.length=n+(t.length+1) by omega]
theorem z21:∀ (n:Nat) (gs:List Pc) (k:Nat) (v:List Int) (L M:List Run),gs[k]? = some (v,L)→q65 n (gs.set k (v,M))=q65 n gs
  | n,[],k,v,L,M,h=>by simp at h
  | n,q::t,0,v,L,M,h=>by
    simp at h;subst h
    simp [q65]
  | n,q::t,k+1,v,L,M,h=>by
    simp only [List.set_cons_succ,q65]
    rw [z21 (n+1) t k v L M (by simpa using h)]
def putV (B:Nat→Value) (k:Nat) (v:Value):Nat→Value:=fun x=>if x=k then v else B x
theorem q3c {B:Nat→Value} {k:Nat} {v:Value}:putV B k v k=v:=if_pos rfl
theorem q2x {B:Nat→Value} {k x:Nat} {v:Value} (h:x≠k):putV B k v x=B x:=if_neg h
structure GatM (G0:Mem) (E:TypeId) (bm:Nat) (S:Nat→Prop) (M:Mem) (gs:List Pc) (B:Nat→Value):Prop where
  le:G0.le M
  rows:∀ (k:Nat) (p:Pc),gs[k]? = some p→RowS S M E 3 (B k) p.2.length (q08 p.2)
  apart:∀ k l b,k<gs.length→l<gs.length→k≠l→q0i (B k)=some b→q0i (B l)≠some b
  free:∀ k b,k<gs.length→q0i (B k)=some b→G0 b=none∧b≠bm
  map:MapM .u8 8 M bm (q65 0 gs)
  mapS:S bm
  mapF:G0 bm=none
section
variable {G0:Mem} {E:TypeId} {bm:Nat} {S S':Nat→Prop} {M M':Mem} {gs:List Pc} {B:Nat→Value} {k:Nat} {v:List Int} {L:List Run} {r:Run}
theorem GatM.app (h:GatM G0 E bm S M gs B) (hk:gs[k]? = some (v,L)) {x:Value} (hG:RowG S M (B k) S' M' x) (hR:RowS S' M' E 3 x (L.length+1) (q08 (L++[r]))):GatM G0 E bm S' M' (gs.set k (v,L++[r])) (putV B k x):=by
  have hkl:=(List.getElem?_eq_some_iff.1 hk).1
  have hfree:=h.free k
  have hG0:∀ b,q0i x=some b→G0 b=none∧b≠bm:=fun b hb=>by
    by_cases e:q0i (B k)=some b
    · exact h.free k b hkl e
    · have hn:=hG.fresh b hb e
      refine ⟨Mem.le.none h.le hn,fun e2=>?_⟩
      subst e2
      rw [h.map.at_] at hn;cases hn
  have hle:G0.le M':=fun b o hb=>hG.old b o (h.le b o hb) fun e=>by
    have:=(h.free k b hkl e).1
    rw [this] at hb;cases hb
  have hne:∀ l,l<gs.length→l≠k→∀ b,q0i (B l)=some b→q0i (B k)≠some b:=fun l hl hlk b hb=>h.apart l k b hl hkl hlk hb
  have hx:∀ l,l<gs.length→l≠k→∀ b,q0i (B l)=some b→q0i x≠some b:=fun l hl hlk b hb e=>by
    by_cases e2:q0i (B k)=some b
    · exact hne l hl hlk b hb e2
    · have hn:=hG.fresh b e e2
      obtain ⟨p,hp⟩:∃ p,gs[l]? = some p:=⟨_,List.getElem?_eq_getElem hl⟩
      obtain ⟨_,o,ho⟩:=(h.rows l p hp).blk hb
      rw [hn] at ho;cases ho
  refine ⟨hle,fun l p hl=>?_,fun i j b hi hj hij hb=>?_,fun i b hi hb=>?_,?_,hG.more bm h.mapS,h.mapF⟩
  · by_cases e:k=l
    · subst e
      rw [List.getElem?_set_self hkl] at hl;cases hl
      rw [q3c]
      simpa using hR
    · rw [List.getElem?_set_ne e] at hl
      have hll:=(List.getElem?_eq_some_iff.1 hl).1
      rw [q2x (fun e2=>e e2.symm)]
      exact hG.row (h.rows l p hl) (hne l hll (fun e2=>e e2.symm))
  · simp only [List.length_set] at hi hj
    by_cases e1:i=k
    · subst e1
      rw [q3c] at hb
      rw [q2x (fun e2=>hij e2.symm)]
      exact fun e3=>hx j hj (fun e2=>hij e2.symm) b e3 hb
    · rw [q2x e1] at hb
      by_cases e2:j=k
      · subst e2;rw [q3c];exact hx i hi e1 b hb
      · rw [q2x e2];exact h.apart i j b hi hj hij hb
  · simp only [List.length_set] at hi
    by_cases e1:i=k
    · subst e1;rw [q3c] at hb;exact hG0 b hb
    · rw [q2x e1] at hb;exact h.free i b hi hb
  · rw [z21 0 gs k v L _ hk]
    refine h.map.of (hG.rest bm (fun e=>?_) (fun e=>?_))
    · exact (h.free k bm hkl e).2 rfl
    · exact (hG0 bm e).2 rfl
theorem GatM.put {b:Nat} (h:GatM G0 E bm S M gs B) (hk:gs[k]? = some (v,L)) (hb:q0i (B k)=some b) (hM:∀ c,c≠b→M' c=M c) {L':List Run} (hR:RowS S M' E 3 (B k) L'.length (q08 L')):GatM G0 E bm S M' (gs.set k (v,L')) B:=by
  have hkl:=(List.getElem?_eq_some_iff.1 hk).1
  obtain ⟨f1,f2⟩:=h.free k b hkl hb
  refine ⟨fun c o hc=>?_,fun l p hl=>?_,fun i j c hi hj=>?_,fun i c hi=>?_,?_,h.mapS,h.mapF⟩
  · rw [hM c (fun e=>by rw [e,f1] at hc;cases hc)];exact h.le c o hc
  · by_cases e:k=l
    · subst e
      rw [List.getElem?_set_self hkl] at hl;cases hl
      exact hR
    · rw [List.getElem?_set_ne e] at hl
      have hll:=(List.getElem?_eq_some_iff.1 hl).1
      exact (h.rows l p hl).of (fun _ h=>h) fun c hc=>hM c fun e2=>by
        subst e2
        exact h.apart l k c hll hkl (fun e3=>e e3.symm) hc hb
  · simp only [List.length_set] at hi hj;exact h.apart i j c hi hj
  · simp only [List.length_set] at hi;exact h.free i c hi
  · rw [z21 0 gs k v L _ hk]
    exact h.map.of (hM bm fun e=>f2 e.symm)
theorem GatM.key (h:GatM G0 E bm S M gs B) (hM:∀ c,c≠bm→M' c=M c) (hm:MapM .u8 8 M' bm (q65 0 gs++[(v.map (.int .u8),.int .i64 (gs.length:Int))])):GatM G0 E bm S M' (gs++[(v,[])]) (putV B gs.length (.slice none 0 0)):=by
  refine ⟨fun c o hc=>?_,fun l p hl=>?_,fun i j c hi hj hij hb=>?_,fun i c hi hb=>?_,?_,h.mapS,h.mapF⟩
  · rw [hM c (fun e=>by rw [e,h.mapF] at hc;cases hc)];exact h.le c o hc
  · rw [List.getElem?_append] at hl
    split at hl
    · rename_i hll
      rw [q2x (by omega)]
      exact (h.rows l p hl).of (fun _ h=>h) fun c hc=>hM c (h.free l c hll hc).2
    · rename_i hll
      have e:l-gs.length=0:=by have:=(List.getElem?_eq_some_iff.1 hl).1;simp at this;omega
      rw [e] at hl;simp at hl;subst hl
      rw [show l=gs.length by omega,q3c]
      exact RowS.nil _ _ _ _
  · simp at hi hj
    by_cases e1:i=gs.length
    · subst e1;rw [q3c] at hb;cases hb
    · rw [q2x e1] at hb
      by_cases e2:j=gs.length
      · subst e2;rw [q3c];exact fun e=>by cases e
      · rw [q2x e2];exact h.apart i j c (by omega) (by omega) hij hb
  · simp at hi
    by_cases e1:i=gs.length
    · subst e1;rw [q3c] at hb;cases hb
    · rw [q2x e1] at hb;exact h.free i c (by omega) hb
  · rw [z59,Nat.zero_add];exact hm
end
end Go.Proofs.YtegpkpilfgohhaaGreat
namespace Go.Proofs.YtegpkpilfgohhaaGreat
open Go.RowKit
def subA (u:AV):AV→AV
  | .own 0=>u
  | a=>a
def Mends (P:Program) (f:FuncId) (args:List AV) (G:Mem) (E:TypeId) (sz n:Nat) (xs xs':List Value):Prop :=
  ∀ (base:Nat) (w:World) (v:Value) (vs:Array Value),G.holds w→w.ownsRow base E sz v n xs→base≤w.heap.size→(∀ g,q0i v=some g→G g=none)→AV.rels noName (args.map (subA (.val v))) vs.toList →
    Calls P f vs w fun e w'=>∃ y,e=.returned y∧w'.ownsRow base E sz v n xs'∧w.grownBy w' (q0i v)
theorem x0u {u a:AV} (h:a=.own 0):subA u a=u:=by subst h;rfl
theorem z69 {u a:AV} (h:a≠.own 0):subA u a=a:=by
  cases a with
  | own k=>cases k with
    | zero=>exact absurd rfl h
    | succ k=>rfl
  | _=>rfl
theorem z4v {β:Nm} {v:Value} (h0:β 0=some v) (hs:isSl v=true):∀ (l:List AV) (ys:List Value),AV.rels noName (l.map (subA (.val v))) ys→AV.rels β l ys
  | [],ys,h=>by simpa [AV.rels] using h
  | a::l,ys,h=>by
    simp only [List.map_cons,AV.rels] at h ⊢
    obtain ⟨y,zs,h1,h2,h3⟩:=h
    refine ⟨y,zs,h1,?_,z4v h0 hs l zs h3⟩
    by_cases ha:a=.own 0
    · rw [x0u ha] at h2
      simp only [AV.rel] at h2
      subst h2;subst ha
      simp only [AV.rel];exact ⟨h0,hs⟩
    · rw [z69 ha] at h2
      exact AV.rel_mono (q4o β) _ _ h2
theorem z6a {β:Nm} {k:Nat} {v:Value} (hk:β k=some v):∀ (l:List AV) (ys:List Value),AV.unders 0 (l.map (subA (.val undef)))=true→AV.rels β (l.map (subA (.own k))) ys→AV.rels noName (l.map (subA (.val v))) ys
  | [],ys,_,h=>by simpa [AV.rels] using h
  | a::l,ys,hu,h=>by
    simp only [List.map_cons,AV.rels,AV.unders,Bool.and_eq_true] at h hu ⊢
    obtain ⟨y,zs,h1,h2,h3⟩:=h
    refine ⟨y,zs,h1,?_,z6a hk l zs hu.2 h3⟩
    by_cases ha:a=.own 0
    · rw [x0u ha] at h2 ⊢
      simp only [AV.rel] at h2 ⊢
      rw [hk] at h2;exact (Option.some.inj h2.1).symm
    · rw [z69 ha] at h2 ⊢
      rw [z69 ha] at hu
      exact q5d hu.1 h2
theorem x7h {P:Program} {T:Tab} (hT:TOk P T) {f:FuncId} {fn:Func} (hfn:P.funcs[f]? = some fn) {args:List AV} {G:Mem} {E:TypeId} {sz n:Nat} {xs xs':List Value}
    (h:∀ G',G.le G'→q4f P T 1 fn args [.own E sz n xs] G' fun v hp' _=>nthB hp' 0=.own E sz n xs'):Mends P f args G E sz n xs xs':=by
  intro base w v vs hG hown hbase hfree hts
  have hle:G.le (q29 w (q0i v)):=fun b o hb=>by
    unfold q29
    by_cases h1:q0i v=some b
    · rw [hfree b h1] at hb;cases hb
    · rw [if_neg h1];exact hG b o hb
  have hmb:∀ b o,q29 w (q0i v) b=some o→w.heap[b]? = some o:=fun b o hb=>by
    unfold q29 at hb
    split at hb
    · cases hb
    · exact hb
  have hsl:=q22 hown
  have hw0:Below base {w with heap:=w.heap.extract 0 base} w:=by
    refine ⟨rfl,rfl,rfl,?_,fun k hk=>?_⟩
    · simp;omega
    · show w.heap[k]? = (w.heap.extract 0 base)[k]?
      rw [Array.getElem?_extract];simp;intro h;omega
  have hsz:({w with heap:=w.heap.extract 0 base}:World).heap.size=base:=by
    show (w.heap.extract 0 base).size=base
    simp;omega
  have hr:HR {w with heap:=w.heap.extract 0 base} (q29 w (q0i v)) (fun k=>if k=0 then some v else none) [.own E sz n xs] (q29 w (q0i v)) w:=by
    refine ⟨by rw [hsz];exact hw0,hmb,Mem.le_refl _,fun b o hb=>.inl hb,fun k y hk=>?_,fun k k' y y' x x' b hne hk hk'=>?_,fun k S hk=>(by cases k <;> simp at hk)⟩
    · by_cases h0:k=0
      · subst h0
        simp at hk;subst hk
        refine ⟨_,rfl,?_⟩
        rw [hsz]
        refine ⟨hown,fun g hg=>?_⟩
        unfold q29;rw [if_pos hg]
      · simp [h0] at hk
    · by_cases h0:k=0
      · have:k'≠0:=by omega
        simp [this] at hk'
      · simp [h0] at hk
  refine (q5c hT hfn (hp:=[.own E sz n xs]) (h _ hle) (.inr fun _ _ _ _ _ h=>h) _ _ _ w vs hr (z4v (by simp) hsl _ _ hts)).mono ?_
  rintro e w' ⟨y,β',v',hp',G',rfl,h1,h2,h3,hk⟩
  have hn:β' 0=some v:=h1 0 v (by simp)
  obtain ⟨x,hx1,hx2⟩:=h2.blk 0 v hn
  rw [q0x hk rfl] at hx1;cases hx1
  rw [hsz] at hx2
  have hold:∀ b,b<w.heap.size→q0i v≠some b→w'.heap[b]? = w.heap[b]?∧∃ o,G' b=some o:=fun b hb hne=>by
    have h4:q29 w (q0i v) b=some w.heap[b]:=by unfold q29;rw [if_neg hne];exact Array.getElem?_eq_getElem hb
    have h5:=h2.sub b _ h4
    exact ⟨by rw [h2.hold b _ h5,Array.getElem?_eq_getElem hb],_,h5⟩
  refine ⟨y,rfl,hx2.1,⟨h2.below.os,h2.below.tape,h2.below.output,?_,fun b hb hne=>(hold b hb (fun e=>hne e.symm)).1⟩⟩
  rcases Nat.eq_zero_or_pos w.heap.size with h0 |h0
  · omega
  · by_cases h4:q0i v=some (w.heap.size-1)
    · rcases hx2.1.2 with ⟨h5,_⟩ |⟨g,cap,cur,h5,_,h6,_⟩
      · subst h5;cases h4
      · have h7:=(Array.getElem?_eq_some_iff.1 h6).1
        subst h5
        simp [q0i] at h4
        omega
    · have h5:=(hold (w.heap.size-1) (by omega) h4).1
      rw [Array.getElem?_eq_getElem (show w.heap.size-1<w.heap.size by omega)] at h5
      have:=(Array.getElem?_eq_some_iff.1 h5).1
      omega
theorem HR.mend {w0:World} {G0:Mem} {β:Nm} {hp:List Blk} {G:Mem} {w w':World} (hr:HR w0 G0 β hp G w) {k:Nat} {v:Value} {E:TypeId} {sz n:Nat} {xs xs':List Value} (hk:β k=some v) (hx:hp[k]? = some (.own E sz n xs)) (hg:w.grownBy w' (q0i v)) (ho:w'.ownsRow w0.heap.size E sz v n xs') :
    HR w0 G0 β (hp.set k (.own E sz n xs')) G w':=by
  have h1:=hr.below_grown hk hx rfl hg
  have hkl:=(List.getElem?_eq_some_iff.1 hx).1
  obtain ⟨x0,hx0,hx1⟩:=hr.blk k v hk
  rw [hx] at hx0;cases hx0
  have old:∀ (j:Nat) (x:Blk),(hp.set k (.own E sz n xs'))[j]? = some x→x.live=true→∃ x',hp[j]? = some x'∧x'.live=true:=fun j x hj hl=>by
    by_cases e:k=j
    · subst e;exact ⟨_,hx,rfl⟩
    · rw [List.getElem?_set_ne e] at hj;exact ⟨x,hj,hl⟩
  refine ⟨h1.below,h1.hold,h1.sub,h1.grow,fun j y hj=>?_,fun j j' y y' x x' b hne hj hj' hx hx' hl hl' hb=>?_,fun j S hj=>?_⟩
  · by_cases e:k=j
    · subst e
      rw [hk] at hj;cases hj
      exact ⟨_,List.getElem?_set_self hkl,ho,hx1.2⟩
    · obtain ⟨x,h2,h3⟩:=h1.blk j y hj
      rw [List.getElem?_set_ne e] at h2
      exact ⟨x,by rw [List.getElem?_set_ne e];exact h2,h3⟩
  · obtain ⟨z,h2,h3⟩:=old j x hx hl
    obtain ⟨z',h2',h3'⟩:=old j' x' hx' hl'
    exact hr.inj j j' y y' z z' b hne hj hj' h2 h2' h3 h3' hb
  · by_cases e:k=j
    · subst e;rw [List.getElem?_set_self hkl] at hj;cases hj
    · rw [List.getElem?_set_ne e] at hj
      exact h1.wrt j S (by rw [List.getElem?_set_ne e];exact hj)
theorem Mends.mono {P:Program} {f:FuncId} {args:List AV} {G G':Mem} {E:TypeId} {sz n:Nat} {xs xs':List Value} (h:Mends P f args G E sz n xs xs') (hG:G.le G'):Mends P f args G' E sz n xs xs' :=
  fun base w v vs hw ho hb hf ha=>h base w v vs (fun b o hb=>hw b o (hG b o hb)) ho hb (fun g hg=>Mem.le.none hG (hf g hg)) ha
end Go.Proofs.YtegpkpilfgohhaaGreat
