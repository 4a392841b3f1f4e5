/-
  Merged: XIsSrc, XMixFn, XListK.
-/
import Derived.Test.YticolnghiibgfaaGreatMrg17
import Derived.Test.YticolnghiibgfaaGreatMrg19
import Derived.Test.YticolnghiibgfaaGreatMrg6
import Derived.Test.YticolnghiibgfaaGreatMrg7
import Derived.Test.YticolnghiibgfaaGreatMrg16
set_option linter.unusedVariables false
set_option linter.unusedSimpArgs false
set_option linter.unnecessarySimpa false
namespace Go.Proofs.YticolnghiibgfaaGreat
open Go.RowKit Go.Proofs.YticolnghiibgfaaGreat.gradientRamps Go.Proofs.YticolnghiibgfaaGreat.gradientPlaces Go.Proofs.YticolnghiibgfaaGreat.imageCells
set_option maxRecDepth 20000
abbrev SrcF:=Int→Int→(Nat→Int) × Int
def IsSrc (F:Mem) (v:Value) (f:SrcF):Prop :=
  ∃ id p,v=.func (.func id) #[] #[.pointer (some ⟨p,0,none⟩)]∧(∀ vs w,(callFunc id vs).run Tryz.prog w=.ok (.enter id vs) w)∧∀ x y:Int,(-8192≤x∧x<8192)→(-8192≤y∧y<8192) →
    Gives Tryz.prog id [.val (.int .i64 x),.val (.int .i64 y),.val (.pointer (some ⟨p,0,none⟩))] F (.tup [q1q (f x y).1,.val (.int .u8 (f x y).2)])
section
variable {k:Int} {I:Nat→Int} {fx fy tx ty r:Int} {A:Option Addr} {n q:Nat} {W H:Int} {B:Option Addr} {pn pq:Nat} {C:Option Addr} {sn sq:Nat} {a b c d e f:Int} {s t:Bool} {G:Mem} {x y:Int}
set_option maxHeartbeats 4000000
abbrev q3u (k:Int) (I:Nat→Int) (fx fy tx ty r:Int) (st:Value) (W H:Int) (px sf:Value) (a b c d e f:Int) (s t:Bool):List Value:=[.int .i64 k,.int .u8 (I 0),.int .u8 (I 1),.int .u8 (I 2),.int .u8 (I 3),.int .u8 (I 4),.int .u8 (I 5),.int .u8 (I 6),.int .u8 (I 7),.int .i64 fx,.int .i64 fy,.int .i64 tx,.int .i64 ty,.int .i64 r,st,.int .i64 W,.int .i64 H,px,sf,.int .i64 a,.int .i64 b,.int .i64 c,.int .i64 d,.int .i64 e,.int .i64 f,.bool s,.bool t]
theorem q7a:GivesM Tryz.prog 77 [srcA 0 I fx fy tx ty r (.slice A n q) W H (.slice B pn pq) (.slice C sn sq) a b c d e f s t] G fun v F=>IsSrc F v fun _ _=>(I,255):=by
  refine z1s tab_ok Tryz.func77 (by kernel_rfl) ?_
  (repeat ((try (conv=>whnf));(refine stQ ?_)))
  refine ⟨_,0,_,_,q3u 0 I fx fy tx ty r (.slice A n q) W H (.slice B pn pq) (.slice C sn sq) a b c d e f s t,rfl,rfl,fun β zs h=>q06 (m:=q3u 0 I fx fy tx ty r (.slice A n q) W H (.slice B pn pq) (.slice C sn sq) a b c d e f s t) h,fun p hp=>⟨_,p,rfl,fun vs w=>by kernel_rfl,fun x y _ _=>?_⟩⟩
  have hs:=Mem.put_same G p (Obj.cells (q3u 0 I fx fy tx ty r (.slice A n q) W H (.slice B pn pq) (.slice C sn sq) a b c d e f s t).toArray 54 (0,0))
  refine q0w tab_ok Tryz.func100 ?_
  (repeat ((try (conv=>whnf));(first |(refine q3a hs (by rfl) (by rfl) (by rfl) ?_) |(refine stQ ?_))))
  exact ⟨rfl,rfl⟩
theorem z8p {V:Int→Int→Nat→Int} (hk:k=1∨k=2)
    (hp:∀ x y:Int,(-8192≤x∧x<8192)→(-8192≤y∧y<8192)→∃ p,(∀ G',G.le G'→Gives Tryz.prog 132 [srcA k I fx fy tx ty r (.slice A n q) W H (.slice B pn pq) (.slice C sn sq) a b c d e f s t,.val (.int .i64 x),.val (.int .i64 y)] G' (.val (.int .i64 p)))∧∀ G',G.le G'→Gives Tryz.prog 131 [.val (.slice A n q),.val (.int .i64 p)] G' (inks (V x y))) :
    GivesM Tryz.prog 77 [srcA k I fx fy tx ty r (.slice A n q) W H (.slice B pn pq) (.slice C sn sq) a b c d e f s t] G fun v F=>IsSrc F v fun x y=>(V x y,255):=by
  refine z1s tab_ok Tryz.func77 (by kernel_rfl) ?_
  have key:∀ p,G p=none→IsSrc (G.put p (Obj.cells (q3u k I fx fy tx ty r (.slice A n q) W H (.slice B pn pq) (.slice C sn sq) a b c d e f s t).toArray 54 (0,0))) (.func (.func 104) #[] #[.pointer (some ⟨p,0,none⟩)]) fun x y=>(V x y,255):=by
    intro p hpn
    refine ⟨_,p,rfl,fun vs w=>by kernel_rfl,fun x y hx hy=>?_⟩
    have hs:=Mem.put_same G p (Obj.cells (q3u k I fx fy tx ty r (.slice A n q) W H (.slice B pn pq) (.slice C sn sq) a b c d e f s t).toArray 54 (0,0))
    obtain ⟨pl,h1,h2⟩:=hp x y hx hy
    have hle:G.le (G.put p (Obj.cells (q3u k I fx fy tx ty r (.slice A n q) W H (.slice B pn pq) (.slice C sn sq) a b c d e f s t).toArray 54 (0,0))):=fun b o hb=>by
      rw [Mem.put_ne _ _ (fun e=>by rw [e,hpn] at hb;cases hb)];exact hb
    have h1:=h1 _ hle
    have h2:=h2 _ hle
    generalize G.put p (Obj.cells (q3u k I fx fy tx ty r (.slice A n q) W H (.slice B pn pq) (.slice C sn sq) a b c d e f s t).toArray 54 (0,0))=G' at *
    refine q0w tab_ok Tryz.func104 ?_
    (repeat ((try (conv=>whnf));(first |(refine q3a hs (by rfl) (by rfl) (by rfl) ?_) |(refine stQ ?_) |(with_reducible first |refine q0f tab_ok Tryz.func105 (fun vs w=>by kernel_rfl) (by rfl) ?_ |refine q0b (fun vs w=>by kernel_rfl) (by kernel_rfl) (h1) ?_ |refine q0a (fun vs w=>by kernel_rfl) (by kernel_rfl) (h1) ?_ |refine q0b (fun vs w=>by kernel_rfl) (by kernel_rfl) (h2) ?_ |refine q0a (fun vs w=>by kernel_rfl) (by kernel_rfl) (h2) ?_))))
    exact ⟨rfl,rfl⟩
  rcases hk with rfl |rfl
  · (repeat ((try (conv=>whnf));(refine stQ ?_)))
    exact ⟨_,0,_,_,q3u 1 I fx fy tx ty r (.slice A n q) W H (.slice B pn pq) (.slice C sn sq) a b c d e f s t,rfl,rfl,fun β zs h=>q06 (m:=q3u 1 I fx fy tx ty r (.slice A n q) W H (.slice B pn pq) (.slice C sn sq) a b c d e f s t) h,key⟩
  · (repeat ((try (conv=>whnf));(refine stQ ?_)))
    exact ⟨_,0,_,_,q3u 2 I fx fy tx ty r (.slice A n q) W H (.slice B pn pq) (.slice C sn sq) a b c d e f s t,rfl,rfl,fun β zs h=>q06 (m:=q3u 2 I fx fy tx ty r (.slice A n q) W H (.slice B pn pq) (.slice C sn sq) a b c d e f s t) h,key⟩
abbrev q5w (W H:Int) (px sf:Value) (a b c d e f:Int) (s r:Bool) (V:Nat→Int):List Value :=
  [.int .i64 W,.int .i64 H,px,sf,.int .i64 a,.int .i64 b,.int .i64 c,.int .i64 d,.int .i64 e,.int .i64 f,.bool s,.bool r,.int .i64 (V 0),.int .i64 (V 1),.int .i64 (V 2),.int .i64 (V 3),.int .i64 (V 4),.int .i64 (V 5)]
theorem z62 {R:Int→Int→Nat→Int} {so:Int→Int→Int}
    (hA:∀ x y:Int,(-8192≤x∧x<8192)→(-8192≤y∧y<8192)→∀ G',G.le G'→Gives Tryz.prog 102 [pntA W H (.slice B pn pq) (.slice C sn sq) a b c d e f s t (invL a b c d e f),.val (.int .i64 x),.val (.int .i64 y)] G' (.tup [q1q (R x y),.val (.int .u8 (so x y))])) :
    GivesM Tryz.prog 77 [srcA 3 I fx fy tx ty r (.slice A n q) W H (.slice B pn pq) (.slice C sn sq) a b c d e f s t] G fun v F=>IsSrc F v fun x y=>(if so x y=0 then fun _=>0 else R x y,so x y):=by
  have hO:=x8m (W:=W) (H:=H) (A:=B) (B:=C) (n:=pn) (p:=pq) (m:=sn) (q:=sq) (a:=a) (b:=b) (c:=c) (d:=d) (e:=e) (f:=f) (s:=s) (r:=t) (G:=G)
  refine z1s tab_ok Tryz.func77 (by kernel_rfl) ?_
  (repeat ((try (conv=>whnf));(first |(refine stQ ?_) |(with_reducible first |refine q0b (fun vs w=>by kernel_rfl) (by kernel_rfl) (hO) ?_ |refine q0a (fun vs w=>by kernel_rfl) (by kernel_rfl) (hO) ?_))))
  refine ⟨_,1,_,_,[.func (.func 102) #[.agg (q5w W H (.slice B pn pq) (.slice C sn sq) a b c d e f s t (invL a b c d e f)).toArray] #[]],rfl,rfl,fun β zs h=>?_,?_⟩
  · simp only [AV.rels,AV.rel] at h
    obtain ⟨y,zs',rfl,⟨xs,ys,rfl,⟨y1,r1,h1,⟨cs,rfl,h2⟩,h3⟩,h4⟩,rfl⟩:=h
    have e:=q06 (m:=q5w W H (.slice B pn pq) (.slice C sn sq) a b c d e f s t (invL a b c d e f)) (β:=β) (ys:=cs.toList) (by simp only [q5w,List.map,AV.rels,AV.rel];exact h2)
    subst h3
    have e1:xs=#[.agg cs]:=Array.toList_inj.1 h1
    have e2:ys=#[]:=Array.toList_inj.1 h4
    rw [e1,e2,← e]
  · intro p hpn
    refine ⟨_,p,rfl,fun vs w=>by kernel_rfl,fun x y hx hy=>?_⟩
    have hs:=Mem.put_same G p (Obj.cells [Value.func (.func 102) #[.agg (q5w W H (.slice B pn pq) (.slice C sn sq) a b c d e f s t (invL a b c d e f)).toArray] #[]].toArray 137 (0,0))
    have hle:G.le (G.put p (Obj.cells [Value.func (.func 102) #[.agg (q5w W H (.slice B pn pq) (.slice C sn sq) a b c d e f s t (invL a b c d e f)).toArray] #[]].toArray 137 (0,0))):=fun b o hb=>by
      rw [Mem.put_ne _ _ (fun e=>by rw [e,hpn] at hb;cases hb)];exact hb
    have h1:=hA x y hx hy _ hle
    generalize G.put p _=G' at *
    dsimp only
    generalize R x y=V at *
    generalize so x y=o at *
    refine q0w tab_ok Tryz.func103 ?_
    by_cases h0:o=0
    · subst h0
      rw [if_pos rfl]
      (repeat ((try (conv=>whnf));(first |(refine q3a hs (by rfl) (by rfl) (by rfl) ?_) |((refine q9y (q5w W H (.slice B pn pq) (.slice C sn sq) a b c d e f s t (invL a b c d e f)) ?_);(dsimp only [List.map])) |(refine stQ ?_) |(with_reducible first |refine q0b (fun vs w=>by kernel_rfl) (by kernel_rfl) (h1) ?_ |refine q0a (fun vs w=>by kernel_rfl) (by kernel_rfl) (h1) ?_))))
      exact ⟨rfl,rfl⟩
    · rw [if_neg h0]
      (repeat ((try (conv=>whnf));(first |(refine q3a hs (by rfl) (by rfl) (by rfl) ?_) |((refine q9y (q5w W H (.slice B pn pq) (.slice C sn sq) a b c d e f s t (invL a b c d e f)) ?_);(dsimp only [List.map])) |(refine stQ ?_) |(with_reducible first |refine q0b (fun vs w=>by kernel_rfl) (by kernel_rfl) (h1) ?_ |refine q0a (fun vs w=>by kernel_rfl) (by kernel_rfl) (h1) ?_))))
      exact ⟨rfl,rfl⟩
end
end Go.Proofs.YticolnghiibgfaaGreat
namespace Go.Proofs.YticolnghiibgfaaGreat
open Go.RowKit
set_option maxRecDepth 20000
def IsMix (F:Mem) (v:Value) (k:Int):Prop :=
  ∃ p p2,v=.func (.func 107) #[] #[.pointer (some ⟨p,0,none⟩)]∧F p=some (.cells #[.func (.func 134) #[] #[.pointer (some ⟨p2,0,none⟩)]] 131 (0,0))∧F p2=some (.cells #[.func (.func (q28 k)) #[] #[]] 113 (0,0))
theorem IsMix.mono {F F':Mem} {v:Value} {k:Int} (h:IsMix F v k) (hF:F.le F'):IsMix F' v k:=by
  obtain ⟨p,p2,h1,h2,h3⟩:=h
  exact ⟨p,p2,h1,hF _ _ h2,hF _ _ h3⟩
theorem Gives.mono {P:Program} {f:FuncId} {args:List AV} {F F':Mem} {v:AV} (h:Gives P f args F v) (hF:F.le F'):Gives P f args F' v:=fun w vs hw ha=>h w vs (fun b o hb=>hw b o (hF b o hb)) ha
theorem IsSrc.mono {F F':Mem} {v:Value} {f:SrcF} (h:IsSrc F v f) (hF:F.le F'):IsSrc F' v f:=by
  obtain ⟨id,p,h1,h2,h3⟩:=h
  exact ⟨id,p,h1,h2,fun x y hx hy=>(h3 x y hx hy).mono hF⟩
theorem GivesM.mono {P:Program} {f:FuncId} {args:List AV} {F F1:Mem} {R:Value→Mem→Prop} (h:GivesM P f args F R) (hF:F.le F1) (hR:∀ y G G',Mem.le G G'→R y G→R y G'):GivesM P f args F1 R:=by
  intro w vs hw ha
  refine (h w vs (fun b o hb=>hw b o (hF b o hb)) ha).mono ?_
  rintro e w' ⟨y,F',h1,h2,h3,h4,h5,h6⟩
  have hge:∀ b o,F1 b=none→F' b=some o→w.heap.size≤b:=fun b o hb ho=>by
    rcases h5 b o ho with h |h
    · rw [hF b o h] at hb;cases hb
    · exact h
  refine ⟨y,F1.over F',h1,h2,Mem.le_over _ _,fun b o hb=>?_,fun b o hb=>?_,hR y F' _ (fun b o hb=>?_) h6⟩
  · unfold Mem.over at hb
    cases hG:F1 b with
    | none=>rw [hG] at hb;exact h4 b o hb
    | some q =>
      rw [hG] at hb;cases hb
      rw [h2.block b (Array.getElem?_eq_some_iff.1 (hw b _ hG)).1];exact hw b _ hG
  · unfold Mem.over at hb
    cases hG:F1 b with
    | none=>rw [hG] at hb;exact .inr (hge b o hG hb)
    | some q=>rw [hG] at hb;exact .inl hb
  · unfold Mem.over
    cases hG:F1 b with
    | none=>exact hb
    | some q =>
      rcases h5 b o hb with h |h
      · rw [hF b o h] at hG;cases hG;rfl
      · have:=q24 (G:=F1) (w:=w) hw h
        rw [this] at hG;cases hG
theorem z36 {k:Int} (hk:0≤k∧k≤11) {G:Mem}:GivesM Tryz.prog 78 [.val (.int .i64 k)] G fun v F=>IsMix F v k:=by
  intro w vs hG ha
  have e:vs=#[.int .i64 k]:=Array.toList_inj.1 (q06 (m:=[.int .i64 k]) ha)
  subst e
  refine (x77 k w hk).mono ?_
  rintro e w' ⟨rfl,hw'⟩
  have n0:∀ b,w.heap.size≤b→G b=none:=fun b hb=>q24 hG hb
  generalize ho1:Obj.cells #[.func (.func (q28 k)) #[] #[]] 113 (0,0)=o1 at *
  generalize ho2:Obj.cells #[.func (.func 134) #[] #[.pointer (some ⟨w.heap.size+1,0,none⟩)]] 131 (0,0)=o2 at *
  have hb:Below w.heap.size w w':=by
    rw [← hw']
    exact (((Below.refl _ _).alloc (Nat.le_refl _) _).alloc (by simp) _).alloc (by simp;omega) _
  have s1:(w.alloc q22).heap.size=w.heap.size+1:=by simp
  have s2:((w.alloc q22).alloc o1).heap.size=w.heap.size+2:=by simp
  have g1:w'.heap[w.heap.size+1]? = some o1:=by
    rw [← hw',((Below.refl ((w.alloc q22).alloc o1).heap.size _).alloc (Nat.le_refl _) o2).block _ (by omega),← s1]
    exact heap_alloc_new _ o1
  have g2:w'.heap[w.heap.size+2]? = some o2:=by
    rw [← hw',← s2];exact heap_alloc_new _ o2
  refine ⟨_,(G.put (w.heap.size+1) o1).put (w.heap.size+2) o2,rfl,hb,fun b o hb'=>?_,fun b o hb'=>?_,fun b o hb'=>?_,w.heap.size+2,w.heap.size+1,rfl,by rw [Mem.put_same,ho2],by rw [Mem.put_ne _ _ (by omega),Mem.put_same,ho1]⟩
  · have h1:b<w.heap.size:=(Array.getElem?_eq_some_iff.1 (hG b o hb')).1
    rw [Mem.put_ne _ _ (by omega),Mem.put_ne _ _ (by omega)];exact hb'
  · by_cases h2:b=w.heap.size+2
    · subst h2;rw [Mem.put_same] at hb';cases hb';exact g2
    · rw [Mem.put_ne _ _ h2] at hb'
      by_cases h1:b=w.heap.size+1
      · subst h1;rw [Mem.put_same] at hb';cases hb';exact g1
      · rw [Mem.put_ne _ _ h1] at hb'
        rw [hb.block b (Array.getElem?_eq_some_iff.1 (hG b o hb')).1];exact hG b o hb'
  · by_cases h2:b=w.heap.size+2
    · right;omega
    · rw [Mem.put_ne _ _ h2] at hb'
      by_cases h1:b=w.heap.size+1
      · right;omega
      · rw [Mem.put_ne _ _ h1] at hb';exact .inl hb'
abbrev stA (S:Nat→Int):AV:=.agg [.val (.int .u8 (S 0)),.val (.int .u8 (S 1)),.val (.int .u8 (S 2)),.val (.int .u8 (S 3)),.val (.int .u8 (S 4)),.val (.int .u8 (S 5)),.val (.int .u8 (S 6)),.val (.int .u8 (S 7)),.val (.int .u8 (S 8))]
abbrev stV (S:Nat→Int):Value:=.agg #[.int .u8 (S 0),.int .u8 (S 1),.int .u8 (S 2),.int .u8 (S 3),.int .u8 (S 4),.int .u8 (S 5),.int .u8 (S 6),.int .u8 (S 7),.int .u8 (S 8)]
abbrev inA (I:Nat→Int):AV:=.agg [.val (.int .u8 (I 0)),.val (.int .u8 (I 1)),.val (.int .u8 (I 2)),.val (.int .u8 (I 3)),.val (.int .u8 (I 4)),.val (.int .u8 (I 5)),.val (.int .u8 (I 6)),.val (.int .u8 (I 7))]
def q01 (S:Nat→Int):Prop:=∀ o,o<9→0≤S o∧S o≤255
def z0t (S:Nat→Int):Prop:=∀ o,o<8→0≤S o∧S o≤255
theorem q9z {β:Nm} {l:List Value} {r:List AV} {vs:List Value} (h:AV.rels β (.agg (l.map .val)::r) vs):∃ zs,vs=.agg l.toArray::zs∧AV.rels β r zs:=by
  simp only [AV.rels] at h
  obtain ⟨y,zs,rfl,h1,h2⟩:=h
  rw [AV.rel] at h1
  obtain ⟨cs,rfl,h3⟩:=h1
  exact ⟨zs,by rw [← q06 h3],h2⟩
theorem q6a {β:Nm} {v:Value} {r:List AV} {vs:List Value} (h:AV.rels β (.val v::r) vs):∃ zs,vs=v::zs∧AV.rels β r zs:=by
  simp only [AV.rels] at h
  obtain ⟨y,zs,rfl,h1,h2⟩:=h
  rw [AV.rel] at h1
  exact ⟨zs,by rw [h1],h2⟩
theorem z2v {β:Nm} {vs:List Value} (h:AV.rels β [] vs):vs=[]:=by simpa only [AV.rels] using h
theorem x6i {S:Nat→Int} {β:Nm}:(stA S).rel β (stV S):=by
  rw [AV.rel];exact ⟨_,rfl,AV.rels_vals [.int .u8 (S 0),.int .u8 (S 1),.int .u8 (S 2),.int .u8 (S 3),.int .u8 (S 4),.int .u8 (S 5),.int .u8 (S 6),.int .u8 (S 7),.int .u8 (S 8)]⟩
section
variable {S T I:Nat→Int} {t q md:Int} {ov:Bool} {v:Value} {G:Mem}
theorem z10 (hS:q01 S) (hT:q01 T) (ht:0≤t∧t≤255):Gives Tryz.prog 113 [stA S,stA T,.val (.int .u8 t)] G (stA (betw S T t)):=by
  refine Gives.of_callsA (args:=[stV S,stV T,.int .u8 t]) (fun vs h=>?_) x6i fun w _=>x1m S T (betw S T t) t w hS hT ht (fun _ _=>rfl)
  obtain ⟨z1,rfl,h1⟩:=q9z (l:=[.int .u8 (S 0),.int .u8 (S 1),.int .u8 (S 2),.int .u8 (S 3),.int .u8 (S 4),.int .u8 (S 5),.int .u8 (S 6),.int .u8 (S 7),.int .u8 (S 8)]) h
  obtain ⟨z2,rfl,h2⟩:=q9z (l:=[.int .u8 (T 0),.int .u8 (T 1),.int .u8 (T 2),.int .u8 (T 3),.int .u8 (T 4),.int .u8 (T 5),.int .u8 (T 6),.int .u8 (T 7),.int .u8 (T 8)]) h1
  obtain ⟨z3,rfl,h3⟩:=q6a h2
  rw [z2v h3]
theorem q3m (hv:IsMix G v md) (hmd:0≤md∧md≤11) (hS:q01 S) (hI:z0t I) (hq:0≤q∧q≤255):Gives Tryz.prog 83 [stA S,inA I,.val (.int .u8 q),.val v,.val (.bool ov)] G (stA (pnt md S I q ov)):=by
  obtain ⟨p,p2,rfl,hp,hp2⟩:=hv
  refine Gives.of_callsA (args:=[stV S,.agg #[.int .u8 (I 0),.int .u8 (I 1),.int .u8 (I 2),.int .u8 (I 3),.int .u8 (I 4),.int .u8 (I 5),.int .u8 (I 6),.int .u8 (I 7)],.int .u8 q,.func (.func 107) #[] #[.pointer (some ⟨p,0,none⟩)],.bool ov]) (fun vs h=>?_) x6i fun w hG=>x5y md S I (pnt md S I q ov) q ov w p p2 ⟨(Array.getElem?_eq_some_iff.1 (hG _ _ hp)).1,(Array.getElem?_eq_some_iff.1 (hG _ _ hp2)).1⟩ (fun o=>q25 (hG _ _ hp) o) (fun o=>q25 (hG _ _ hp2) o) hmd hS hI hq (fun _ _=>rfl)
  obtain ⟨z1,rfl,h1⟩:=q9z (l:=[.int .u8 (S 0),.int .u8 (S 1),.int .u8 (S 2),.int .u8 (S 3),.int .u8 (S 4),.int .u8 (S 5),.int .u8 (S 6),.int .u8 (S 7),.int .u8 (S 8)]) h
  obtain ⟨z2,rfl,h2⟩:=q9z (l:=[.int .u8 (I 0),.int .u8 (I 1),.int .u8 (I 2),.int .u8 (I 3),.int .u8 (I 4),.int .u8 (I 5),.int .u8 (I 6),.int .u8 (I 7)]) h1
  obtain ⟨z3,rfl,h3⟩:=q6a h2
  obtain ⟨z4,rfl,h4⟩:=q6a h3
  obtain ⟨z5,rfl,h5⟩:=q6a h4
  rw [z2v h5]
end
end Go.Proofs.YticolnghiibgfaaGreat
namespace Go.Proofs.YticolnghiibgfaaGreat
open Go.RowKit
set_option maxRecDepth 20000
def fewB (I:Nat→Int) (m:Nat):Bool:=(List.range 8).all fun j=>decide (j<m∨I j=0)
theorem x8r {I:Nat→Int} {m:Nat} (h:∀ j,j<8→m≤j→I j=0):fewB I m=true:=by
  unfold fewB
  rw [List.all_eq_true]
  intro j hj
  have h8:=List.mem_range.1 hj
  rcases Nat.lt_or_ge j m with h1 |h1
  · exact decide_eq_true (.inl h1)
  · exact decide_eq_true (.inr (h j h8 h1))
theorem z79 {I:Nat→Int} {m:Nat} (h0:0<m∨I 0=0) (h1:1<m∨I 1=0) (h2:2<m∨I 2=0) (h3:3<m∨I 3=0) (h4:4<m∨I 4=0) (h5:5<m∨I 5=0) (h6:6<m∨I 6=0) (h7:7<m∨I 7=0):fewB I m=true:=by
  refine x8r fun j hj hm=>?_
  obtain rfl |rfl |rfl |rfl |rfl |rfl |rfl |rfl:j=0∨j=1∨j=2∨j=3∨j=4∨j=5∨j=6∨j=7:=by omega
  all_goals omega
theorem q2w {I:Nat→Int} {m:Nat} (j:Nat) (h:j<8) (h1:m≤j) (h2:¬ I j=0):fewB I m=false:=by
  unfold fewB
  rw [List.all_eq_false]
  exact ⟨j,List.mem_range.2 h,by rw [decide_eq_true_eq];omega⟩
def allB (f:Nat→Bool):Nat→Bool
  | 0=>true
  | n+1=>allB f n&&f n
def srcM (k:Int) (z p i fw sg pg:Bool) (gE iE:Int):Int :=
  if k=0 then (if z=true∧p=true∧fw=true then 0 else 4) else if k=1∨k=2 then (if gE=0 then (if sg=true then 0 else 4) else gE) else if k=3 then (if z=true∧i=true then (if iE=0 then (if pg=true then 0 else 4) else iE) else 4) else 14
section
variable {k:Int} {I:Nat→Int} {fx fy tx ty r:Int} {A:Option Addr} {n q:Nat} {W H:Int} {B:Option Addr} {pn pq:Nat} {C:Option Addr} {sn sq:Nat} {a b c d e f:Int} {s t:Bool} {G:Mem} {gE iE:Int} {T:Nat→Int} {D D':Nat→Nat→Int} {m:Nat}
set_option maxHeartbeats 4000000 in
theorem q6q (hm:1≤m∧m≤8):Gives Tryz.prog 97 [.agg [.val (.int .u8 (I 0)),.val (.int .u8 (I 1)),.val (.int .u8 (I 2)),.val (.int .u8 (I 3)),.val (.int .u8 (I 4)),.val (.int .u8 (I 5)),.val (.int .u8 (I 6)),.val (.int .u8 (I 7))],.val (.int .i64 m)] G (.val (.bool (fewB I m))):=by
  refine q0w tab_ok Tryz.func97 ?_
  obtain rfl |rfl |rfl |rfl |rfl |rfl |rfl |rfl:m=1∨m=2∨m=3∨m=4∨m=5∨m=6∨m=7∨m=8:=by omega
  all_goals
    (repeat' ((try (conv=>whnf));(first |(with_reducible refine q6f tab_ok ?_) |(refine stQ ?_) |(with_reducible refine q03 (fun h0=>?_) (fun h0=>?_)))))
    all_goals first
      | exact ⟨by rw [z79 (by omega) (by omega) (by omega) (by omega) (by omega) (by omega) (by omega) (by omega)];try rfl,rfl⟩
      | exact ⟨by rw [q2w 0 (by omega) (by omega) (by assumption)];try rfl,rfl⟩
      | exact ⟨by rw [q2w 1 (by omega) (by omega) (by assumption)];try rfl,rfl⟩
      | exact ⟨by rw [q2w 2 (by omega) (by omega) (by assumption)];try rfl,rfl⟩
      | exact ⟨by rw [q2w 3 (by omega) (by omega) (by assumption)];try rfl,rfl⟩
      | exact ⟨by rw [q2w 4 (by omega) (by omega) (by assumption)];try rfl,rfl⟩
      | exact ⟨by rw [q2w 5 (by omega) (by omega) (by assumption)];try rfl,rfl⟩
      | exact ⟨by rw [q2w 6 (by omega) (by omega) (by assumption)];try rfl,rfl⟩
      | exact ⟨by rw [q2w 7 (by omega) (by omega) (by assumption)];try rfl,rfl⟩
set_option maxHeartbeats 4000000 in
theorem q7l (hm:1≤m∧m≤8) (hI:∀ j,j<8→0≤I j):Gives Tryz.prog 86 [.agg [.val (.int .u8 (I 0)),.val (.int .u8 (I 1)),.val (.int .u8 (I 2)),.val (.int .u8 (I 3)),.val (.int .u8 (I 4)),.val (.int .u8 (I 5)),.val (.int .u8 (I 6)),.val (.int .u8 (I 7))],.val (.int .i64 m)] G (.val (.bool (!fewB I m))):=by
  have p0:=hI 0 (by omega)
  have p1:=hI 1 (by omega)
  have p2:=hI 2 (by omega)
  have p3:=hI 3 (by omega)
  have p4:=hI 4 (by omega)
  have p5:=hI 5 (by omega)
  have p6:=hI 6 (by omega)
  have p7:=hI 7 (by omega)
  refine q0w tab_ok Tryz.func86 ?_
  obtain rfl |rfl |rfl |rfl |rfl |rfl |rfl |rfl:m=1∨m=2∨m=3∨m=4∨m=5∨m=6∨m=7∨m=8:=by omega
  all_goals
    (repeat' ((try (conv=>whnf));(first |(with_reducible refine q6f tab_ok ?_) |(refine stQ ?_) |(with_reducible refine q03 (fun h0=>?_) (fun h0=>?_)))))
    all_goals first
      | exact ⟨by rw [z79 (by omega) (by omega) (by omega) (by omega) (by omega) (by omega) (by omega) (by omega)];try rfl,rfl⟩
      | exact ⟨by rw [q2w 0 (by omega) (by omega) (by omega)];try rfl,rfl⟩
      | exact ⟨by rw [q2w 1 (by omega) (by omega) (by omega)];try rfl,rfl⟩
      | exact ⟨by rw [q2w 2 (by omega) (by omega) (by omega)];try rfl,rfl⟩
      | exact ⟨by rw [q2w 3 (by omega) (by omega) (by omega)];try rfl,rfl⟩
      | exact ⟨by rw [q2w 4 (by omega) (by omega) (by omega)];try rfl,rfl⟩
      | exact ⟨by rw [q2w 5 (by omega) (by omega) (by omega)];try rfl,rfl⟩
      | exact ⟨by rw [q2w 6 (by omega) (by omega) (by omega)];try rfl,rfl⟩
      | exact ⟨by rw [q2w 7 (by omega) (by omega) (by omega)];try rfl,rfl⟩
set_option maxHeartbeats 8000000 in
theorem z2w (hm:1≤m∧m≤8) (hG:Gives Tryz.prog 98 [srcA k I fx fy tx ty r (.slice A n q) W H (.slice B pn pq) (.slice C sn sq) a b c d e f s t] G (.val (.int .i64 gE)))
    (hI:Gives Tryz.prog 99 [imgA W H (.slice B pn pq) (.slice C sn sq) a b c d e f s t] G (.val (.int .i64 iE)))
    (hS:x9f G A n T D) (hP:PixM G B pn D') (hn:n≤9223372036854775807) (hpn:pn≤9223372036854775807) :
    Gives Tryz.prog 76 [srcA k I fx fy tx ty r (.slice A n q) W H (.slice B pn pq) (.slice C sn sq) a b c d e f s t,.val (.int .i64 m)] G (.val (.int .i64 (srcM k (q29 fx fy tx ty r n) (q1d W H pn sn a b c d e f s t) (inkZ (I 0) (I 1) (I 2) (I 3) (I 4) (I 5) (I 6) (I 7)) (fewB I m) (allB (fun j=>fewB (D j) m) n) (allB (fun j=>fewB (D' j) m) pn) gE iE))):=by
  have gz:=q9b (k:=k) (I:=I) (fx:=fx) (fy:=fy) (tx:=tx) (ty:=ty) (r:=r) (A:=A) (n:=n) (q:=q) (W:=W) (H:=H) (B:=B) (pn:=pn) (pq:=pq) (C:=C) (sn:=sn) (sq:=sq) (a:=a) (b:=b) (c:=c) (d:=d) (e:=e) (f:=f) (s:=s) (t:=t) (G:=G)
  have gp:=q79 (W:=W) (H:=H) (B:=B) (pn:=pn) (pq:=pq) (C:=C) (sn:=sn) (sq:=sq) (a:=a) (b:=b) (c:=c) (d:=d) (e:=e) (f:=f) (s:=s) (t:=t) (G:=G)
  have gw:=q6q (I:=I) (G:=G) hm
  refine q0w tab_ok Tryz.func76 ?_
  generalize q29 fx fy tx ty r n=z at *
  generalize q1d W H pn sn a b c d e f s t=p at *
  by_cases k0:k=0
  · subst k0
    generalize fewB I m=fw at *
    cases z <;> cases p <;> cases fw <;> ((repeat ((try (conv=>whnf));(first |(refine stQ ?_) |(with_reducible first |refine q0b (fun vs w=>by kernel_rfl) (by kernel_rfl) (gz) ?_ |refine q0a (fun vs w=>by kernel_rfl) (by kernel_rfl) (gz) ?_ |refine q0b (fun vs w=>by kernel_rfl) (by kernel_rfl) (gp) ?_ |refine q0a (fun vs w=>by kernel_rfl) (by kernel_rfl) (gp) ?_ |refine q0b (fun vs w=>by kernel_rfl) (by kernel_rfl) (gw) ?_ |refine q0a (fun vs w=>by kernel_rfl) (by kernel_rfl) (gw) ?_))))) <;> exact ⟨rfl,rfl⟩
  by_cases k3:k=3
  · subst k3
    cases z
    · (repeat ((try (conv=>whnf));(first |(refine stQ ?_) |(with_reducible first |refine q0b (fun vs w=>by kernel_rfl) (by kernel_rfl) (gz) ?_ |refine q0a (fun vs w=>by kernel_rfl) (by kernel_rfl) (gz) ?_))))
      exact ⟨rfl,rfl⟩
    · have gi:=q9w (I:=I)
      cases hi:inkZ (I 0) (I 1) (I 2) (I 3) (I 4) (I 5) (I 6) (I 7)
      · rw [hi] at gi
        clear hI hP hS
        (repeat' ((try (conv=>whnf));(first |(refine stQ ?_) |(with_reducible first |refine q0b (fun vs w=>by kernel_rfl) (by kernel_rfl) (gz) ?_ |refine q0a (fun vs w=>by kernel_rfl) (by kernel_rfl) (gz) ?_ |refine q03 (fun h0=>?_) (fun h0=>?_)))))
        all_goals first |exact ⟨rfl,rfl⟩ |exact absurd (gi.2 ⟨by assumption,by assumption,by assumption,by assumption,by assumption,by assumption,by assumption,by assumption⟩) (by simp)
      · rw [hi] at gi
        obtain ⟨e0,e1,e2,e3,e4,e5,e6,e7⟩:=gi.1 rfl
        by_cases he:iE=0
        · subst he
          (repeat ((try (conv=>whnf));(first |(refine stQ ?_) |(with_reducible first |refine q0b (fun vs w=>by kernel_rfl) (by kernel_rfl) (gz) ?_ |refine q0a (fun vs w=>by kernel_rfl) (by kernel_rfl) (gz) ?_ |refine q0b (fun vs w=>by kernel_rfl) (by kernel_rfl) (hI) ?_ |refine q0a (fun vs w=>by kernel_rfl) (by kernel_rfl) (hI) ?_))))
          conv=>whnf
          refine q02 tab_ok (fun x=>x≤pn) (fun (x:Nat)=>[(73,.val (.int .i64 x)),(5,.val (.bool (allB (fun j=>fewB (D' j) m) x)))]) (fun x=>[.gone]) (fun x=>pn-x) 0 (Nat.zero_le _) ?_ ?_
          · ((refine q0h ?_);(conv=>whnf);(refine q0j (by rfl) (by rfl) flQ ?_))
            exact q54 q0e
          · rintro x hx
            rcases Nat.lt_or_ge x pn with h1 |h1
            · obtain ⟨u,rfl,ca⟩:=hP x h1
              have hs:(allB (fun j=>fewB (D' j) m) (x+1))=((allB (fun j=>fewB (D' j) m) x&&fewB (D' x) m)):=rfl
              generalize allB (fun j=>fewB (D' j) m) x=g0 at *
              have gf:=q6q (I:=D' x) (G:=G) hm
              generalize fewB (D' x) m=g2 at *
              cases g0 <;> cases g2
              all_goals
                (repeat ((try (conv=>whnf));(first |(refine ca _ ?_) |(refine stQ ?_) |(with_reducible first |refine q0b (fun vs w=>by kernel_rfl) (by kernel_rfl) (gf) ?_ |refine q0a (fun vs w=>by kernel_rfl) (by kernel_rfl) (gf) ?_))))
                refine ⟨x+1,by omega,by omega,?_⟩
                ((refine q0h ?_);(conv=>whnf);(refine q0j (by rfl) (by rfl) flQ ?_))
                exact q54 q0e
            · obtain rfl:x=pn:=by omega
              generalize allB (fun j=>fewB (D' j) m) x=g0 at *
              cases g0
              all_goals
                (repeat ((try (conv=>whnf));(refine stQ ?_)))
                exact ⟨rfl,rfl⟩
        · have hr:srcM 3 true p true (fewB I m) (allB (fun j=>fewB (D j) m) n) (allB (fun j=>fewB (D' j) m) pn) gE iE=iE:=by unfold srcM;simp [he]
          rw [hr]
          (repeat ((try (conv=>whnf));(first |(refine stQ ?_) |(with_reducible first |refine q0b (fun vs w=>by kernel_rfl) (by kernel_rfl) (gz) ?_ |refine q0a (fun vs w=>by kernel_rfl) (by kernel_rfl) (gz) ?_ |refine q0b (fun vs w=>by kernel_rfl) (by kernel_rfl) (hI) ?_ |refine q0a (fun vs w=>by kernel_rfl) (by kernel_rfl) (hI) ?_))))
          exact ⟨rfl,rfl⟩
  by_cases k12:k=1∨k=2
  · by_cases hg:gE=0
    · subst hg
      have hr:srcM k z p (inkZ (I 0) (I 1) (I 2) (I 3) (I 4) (I 5) (I 6) (I 7)) (fewB I m) (allB (fun j=>fewB (D j) m) n) (allB (fun j=>fewB (D' j) m) pn) 0 iE=if allB (fun j=>fewB (D j) m) n=true then 0 else 4:=by unfold srcM;rw [if_neg k0,if_pos k12,if_pos rfl]
      rw [hr]
      rcases k12 with rfl |rfl
      · (repeat ((try (conv=>whnf));(first |(refine stQ ?_) |(with_reducible first |refine q0b (fun vs w=>by kernel_rfl) (by kernel_rfl) (hG) ?_ |refine q0a (fun vs w=>by kernel_rfl) (by kernel_rfl) (hG) ?_))))
        conv=>whnf
        refine q02 tab_ok (fun x=>x≤n) (fun (x:Nat)=>[(40,.val (.int .i64 x)),(5,.val (.bool (allB (fun j=>fewB (D j) m) x)))]) (fun x=>[.gone]) (fun x=>n-x) 0 (Nat.zero_le _) ?_ ?_
        · ((refine q0h ?_);(conv=>whnf);(refine q0j (by rfl) (by rfl) flQ ?_))
          exact q54 q0e
        · rintro x hx
          rcases Nat.lt_or_ge x n with h1 |h1
          · obtain ⟨u,rfl,ca⟩:=hS x h1
            have hs:(allB (fun j=>fewB (D j) m) (x+1))=((allB (fun j=>fewB (D j) m) x&&fewB (D x) m)):=rfl
            generalize allB (fun j=>fewB (D j) m) x=g0 at *
            have gf:=q6q (I:=D x) (G:=G) hm
            generalize fewB (D x) m=g2 at *
            cases g0 <;> cases g2
            all_goals
              (repeat ((try (conv=>whnf));(first |(refine ca _ ?_) |(refine stQ ?_) |(with_reducible first |refine q0b (fun vs w=>by kernel_rfl) (by kernel_rfl) (gf) ?_ |refine q0a (fun vs w=>by kernel_rfl) (by kernel_rfl) (gf) ?_))))
              refine ⟨x+1,by omega,by omega,?_⟩
              ((refine q0h ?_);(conv=>whnf);(refine q0j (by rfl) (by rfl) flQ ?_))
              exact q54 q0e
          · obtain rfl:x=n:=by omega
            generalize allB (fun j=>fewB (D j) m) x=g0 at *
            cases g0
            all_goals
              (repeat ((try (conv=>whnf));(refine stQ ?_)))
              exact ⟨rfl,rfl⟩
      · (repeat ((try (conv=>whnf));(first |(refine stQ ?_) |(with_reducible first |refine q0b (fun vs w=>by kernel_rfl) (by kernel_rfl) (hG) ?_ |refine q0a (fun vs w=>by kernel_rfl) (by kernel_rfl) (hG) ?_))))
        conv=>whnf
        refine q02 tab_ok (fun x=>x≤n) (fun (x:Nat)=>[(40,.val (.int .i64 x)),(5,.val (.bool (allB (fun j=>fewB (D j) m) x)))]) (fun x=>[.gone]) (fun x=>n-x) 0 (Nat.zero_le _) ?_ ?_
        · ((refine q0h ?_);(conv=>whnf);(refine q0j (by rfl) (by rfl) flQ ?_))
          exact q54 q0e
        · rintro x hx
          rcases Nat.lt_or_ge x n with h1 |h1
          · obtain ⟨u,rfl,ca⟩:=hS x h1
            have hs:(allB (fun j=>fewB (D j) m) (x+1))=((allB (fun j=>fewB (D j) m) x&&fewB (D x) m)):=rfl
            generalize allB (fun j=>fewB (D j) m) x=g0 at *
            have gf:=q6q (I:=D x) (G:=G) hm
            generalize fewB (D x) m=g2 at *
            cases g0 <;> cases g2
            all_goals
              (repeat ((try (conv=>whnf));(first |(refine ca _ ?_) |(refine stQ ?_) |(with_reducible first |refine q0b (fun vs w=>by kernel_rfl) (by kernel_rfl) (gf) ?_ |refine q0a (fun vs w=>by kernel_rfl) (by kernel_rfl) (gf) ?_))))
              refine ⟨x+1,by omega,by omega,?_⟩
              ((refine q0h ?_);(conv=>whnf);(refine q0j (by rfl) (by rfl) flQ ?_))
              exact q54 q0e
          · obtain rfl:x=n:=by omega
            generalize allB (fun j=>fewB (D j) m) x=g0 at *
            cases g0
            all_goals
              (repeat ((try (conv=>whnf));(refine stQ ?_)))
              exact ⟨rfl,rfl⟩
    · have hr:srcM k z p (inkZ (I 0) (I 1) (I 2) (I 3) (I 4) (I 5) (I 6) (I 7)) (fewB I m) (allB (fun j=>fewB (D j) m) n) (allB (fun j=>fewB (D' j) m) pn) gE iE=gE:=by unfold srcM;rw [if_neg k0,if_pos k12,if_neg hg]
      rw [hr]
      rcases k12 with rfl |rfl <;> ((repeat ((try (conv=>whnf));(first |(refine stQ ?_) |(with_reducible first |refine q0b (fun vs w=>by kernel_rfl) (by kernel_rfl) (hG) ?_ |refine q0a (fun vs w=>by kernel_rfl) (by kernel_rfl) (hG) ?_))))) <;> exact ⟨rfl,rfl⟩
  · have hr:∀ i fw sg pg,srcM k z p i fw sg pg gE iE=14:=by intro i fw sg pg;unfold srcM;rw [if_neg k0,if_neg k12,if_neg k3]
    rw [hr]
    have k1:k≠1:=fun h=>k12 (.inl h)
    have k2:k≠2:=fun h=>k12 (.inr h)
    clear hr k12
    (repeat ((try (conv=>whnf));(refine stQ ?_)))
    exact ⟨rfl,rfl⟩
set_option maxHeartbeats 16000000 in
theorem z2x (hm:1≤m∧m≤8) (hI0:∀ j,j<8→0≤I j) (hS0:∀ x,x<n→∀ j,j<8→0≤D x j) (hP0:∀ x,x<pn→∀ j,j<8→0≤D' x j) (hG:Gives Tryz.prog 88 [srcA k I fx fy tx ty r (.slice A n q) W H (.slice B pn pq) (.slice C sn sq) a b c d e f s t] G (.val (.int .i64 gE)))
    (hI:Gives Tryz.prog 87 [imgA W H (.slice B pn pq) (.slice C sn sq) a b c d e f s t] G (.val (.int .i64 iE)))
    (gp:Gives Tryz.prog 85 [imgA W H (.slice B pn pq) (.slice C sn sq) a b c d e f s t] G (.val (.bool (q1d W H pn sn a b c d e f s t))))
    (hS:x9g G A n D) (hP:PixM G B pn D') (hn:n≤9223372036854775807) (hpn:pn≤9223372036854775807) :
    Gives Tryz.prog 57 [srcA k I fx fy tx ty r (.slice A n q) W H (.slice B pn pq) (.slice C sn sq) a b c d e f s t,.val (.int .i64 m)] G (.val (.int .i64 (srcM k (q29 fx fy tx ty r n) (q1d W H pn sn a b c d e f s t) (inkZ (I 0) (I 1) (I 2) (I 3) (I 4) (I 5) (I 6) (I 7)) (fewB I m) (allB (fun j=>fewB (D j) m) n) (allB (fun j=>fewB (D' j) m) pn) gE iE))):=by
  have gw:=q7l (I:=I) (G:=G) hm hI0
  refine q0w tab_ok Tryz.func57 ?_
  have gz:=x0p (fx:=fx) (fy:=fy) (tx:=tx) (ty:=ty) (r:=r) (n:=n)
  have gi:=q9w (I:=I)
  generalize q29 fx fy tx ty r n=z at *
  generalize q1d W H pn sn a b c d e f s t=p at *
  generalize inkZ (I 0) (I 1) (I 2) (I 3) (I 4) (I 5) (I 6) (I 7)=i at *
  by_cases k0:k=0
  · subst k0
    generalize fewB I m=fw at *
    cases z
    · clear hG hI hS hP gw
      (repeat' ((try (conv=>whnf));(first |(refine stQ ?_) |(with_reducible refine q03 (fun h0=>?_) (fun h0=>?_)))))
      all_goals first |exact ⟨rfl,rfl⟩ |exact absurd (gz.2 ⟨by assumption,by assumption,by assumption,by assumption,by assumption,by omega⟩) (by simp)
    · obtain ⟨z0,z1,z2,z3,z4,z5⟩:=gz.1 rfl
      cases p <;> cases fw <;> ((repeat ((try (conv=>whnf));(first |(refine stQ ?_) |(with_reducible first |refine q0b (fun vs w=>by kernel_rfl) (by kernel_rfl) (gp) ?_ |refine q0a (fun vs w=>by kernel_rfl) (by kernel_rfl) (gp) ?_ |refine q0b (fun vs w=>by kernel_rfl) (by kernel_rfl) (gw) ?_ |refine q0a (fun vs w=>by kernel_rfl) (by kernel_rfl) (gw) ?_))))) <;> exact ⟨rfl,rfl⟩
  by_cases k3:k=3
  · subst k3
    cases z
    · clear hG hI hS hP gw
      (repeat' ((try (conv=>whnf));(first |(refine stQ ?_) |(with_reducible refine q03 (fun h0=>?_) (fun h0=>?_)))))
      all_goals first |exact ⟨rfl,rfl⟩ |exact absurd (gz.2 ⟨by assumption,by assumption,by assumption,by assumption,by assumption,by omega⟩) (by simp)
    · obtain ⟨z0,z1,z2,z3,z4,z5⟩:=gz.1 rfl
      cases i
      · clear hG hI hS hP gw
        (repeat' ((try (conv=>whnf));(first |(refine stQ ?_) |(with_reducible refine q03 (fun h0=>?_) (fun h0=>?_)))))
        all_goals first |exact ⟨rfl,rfl⟩ |exact absurd (gi.2 ⟨by assumption,by assumption,by assumption,by assumption,by assumption,by assumption,by assumption,by assumption⟩) (by simp)
      · obtain ⟨e0,e1,e2,e3,e4,e5,e6,e7⟩:=gi.1 rfl
        by_cases he:iE=0
        · subst he
          (repeat ((try (conv=>whnf));(first |(refine stQ ?_) |(with_reducible first |refine q0b (fun vs w=>by kernel_rfl) (by kernel_rfl) (hI) ?_ |refine q0a (fun vs w=>by kernel_rfl) (by kernel_rfl) (hI) ?_))))
          conv=>whnf
          refine q02 tab_ok (fun x=>x≤pn) (fun (x:Nat)=>[(68,.val (.int .i64 x)),(6,.val (.bool (!allB (fun j=>fewB (D' j) m) x)))]) (fun x=>[.cells 54 [.val (.int .i64 3),.val (.int .u8 (I 0)),.val (.int .u8 (I 1)),.val (.int .u8 (I 2)),.val (.int .u8 (I 3)),.val (.int .u8 (I 4)),.val (.int .u8 (I 5)),.val (.int .u8 (I 6)),.val (.int .u8 (I 7)),.val (.int .i64 fx),.val (.int .i64 fy),.val (.int .i64 tx),.val (.int .i64 ty),.val (.int .i64 r),.val (.slice A n q),.val (.int .i64 W),.val (.int .i64 H),.val (.slice B pn pq),.val (.slice C sn sq),.val (.int .i64 a),.val (.int .i64 b),.val (.int .i64 c),.val (.int .i64 d),.val (.int .i64 e),.val (.int .i64 f),.val (.bool s),.val (.bool t)]]) (fun x=>pn-x) 0 (Nat.zero_le _) ?_ ?_
          · ((refine q0h ?_);(conv=>whnf);(refine q0j (by rfl) (by rfl) flQ ?_))
            exact q0c (by exact flQ) q0e
          · rintro x hx
            rcases Nat.lt_or_ge x pn with h1 |h1
            · obtain ⟨u,rfl,ca⟩:=hP x h1
              have hs:(!allB (fun j=>fewB (D' j) m) (x+1))=(!(allB (fun j=>fewB (D' j) m) x&&fewB (D' x) m)):=rfl
              generalize allB (fun j=>fewB (D' j) m) x=g0 at *
              have gf:=q7l (I:=D' x) (G:=G) hm (hP0 x h1)
              generalize fewB (D' x) m=g2 at *
              cases g0 <;> cases g2
              all_goals
                (repeat ((try (conv=>whnf));(first |(refine ca _ ?_) |(refine stQ ?_) |(with_reducible first |refine q0b (fun vs w=>by kernel_rfl) (by kernel_rfl) (gf) ?_ |refine q0a (fun vs w=>by kernel_rfl) (by kernel_rfl) (gf) ?_))))
                refine ⟨x+1,by omega,by omega,?_⟩
                ((refine q0h ?_);(conv=>whnf);(refine q0j (by rfl) (by rfl) flQ ?_))
                exact q0c (by exact flQ) q0e
            · obtain rfl:x=pn:=by omega
              generalize allB (fun j=>fewB (D' j) m) x=g0 at *
              cases g0
              all_goals
                (repeat ((try (conv=>whnf));(refine stQ ?_)))
                exact ⟨rfl,rfl⟩
        · have hr:srcM 3 true p true (fewB I m) (allB (fun j=>fewB (D j) m) n) (allB (fun j=>fewB (D' j) m) pn) gE iE=iE:=by unfold srcM;simp [he]
          rw [hr]
          (repeat ((try (conv=>whnf));(first |(refine stQ ?_) |(with_reducible first |refine q0b (fun vs w=>by kernel_rfl) (by kernel_rfl) (hI) ?_ |refine q0a (fun vs w=>by kernel_rfl) (by kernel_rfl) (hI) ?_))))
          exact ⟨rfl,rfl⟩
  by_cases k12:k=1∨k=2
  · by_cases hg:gE=0
    · subst hg
      have hr:srcM k z p i (fewB I m) (allB (fun j=>fewB (D j) m) n) (allB (fun j=>fewB (D' j) m) pn) 0 iE=if allB (fun j=>fewB (D j) m) n=true then 0 else 4:=by unfold srcM;rw [if_neg k0,if_pos k12,if_pos rfl]
      rw [hr]
      rcases k12 with rfl |rfl
      · (repeat' ((try (conv=>whnf));(first |(refine stQ ?_) |(with_reducible first |refine q0b (fun vs w=>by kernel_rfl) (by kernel_rfl) (hG) ?_ |refine q0a (fun vs w=>by kernel_rfl) (by kernel_rfl) (hG) ?_ |refine q03 (fun h0=>?_) (fun h0=>?_)))))
        all_goals conv=>whnf
        all_goals
          refine q02 tab_ok (fun x=>x≤n) (fun (x:Nat)=>[(94,.val (.int .i64 x)),(6,.val (.bool (!allB (fun j=>fewB (D j) m) x)))]) (fun x=>[.cells 54 [.val (.int .i64 1),.val (.int .u8 (I 0)),.val (.int .u8 (I 1)),.val (.int .u8 (I 2)),.val (.int .u8 (I 3)),.val (.int .u8 (I 4)),.val (.int .u8 (I 5)),.val (.int .u8 (I 6)),.val (.int .u8 (I 7)),.val (.int .i64 fx),.val (.int .i64 fy),.val (.int .i64 tx),.val (.int .i64 ty),.val (.int .i64 r),.val (.slice A n q),.val (.int .i64 W),.val (.int .i64 H),.val (.slice B pn pq),.val (.slice C sn sq),.val (.int .i64 a),.val (.int .i64 b),.val (.int .i64 c),.val (.int .i64 d),.val (.int .i64 e),.val (.int .i64 f),.val (.bool s),.val (.bool t)]]) (fun x=>n-x) 0 (Nat.zero_le _) ?_ ?_
          · ((refine q0h ?_);(conv=>whnf);(refine q0j (by rfl) (by rfl) flQ ?_))
            exact q0c (by exact flQ) q0e
          · rintro x hx
            rcases Nat.lt_or_ge x n with h1 |h1
            · obtain ⟨u,rfl,ca⟩:=hS x h1
              have hs:(!allB (fun j=>fewB (D j) m) (x+1))=(!(allB (fun j=>fewB (D j) m) x&&fewB (D x) m)):=rfl
              generalize allB (fun j=>fewB (D j) m) x=g0 at *
              have gf:=q7l (I:=D x) (G:=G) hm (hS0 x h1)
              generalize fewB (D x) m=g2 at *
              cases g0 <;> cases g2
              all_goals
                (repeat ((try (conv=>whnf));(first |(refine ca _ ?_) |(refine stQ ?_) |(with_reducible first |refine q0b (fun vs w=>by kernel_rfl) (by kernel_rfl) (gf) ?_ |refine q0a (fun vs w=>by kernel_rfl) (by kernel_rfl) (gf) ?_))))
                refine ⟨x+1,by omega,by omega,?_⟩
                ((refine q0h ?_);(conv=>whnf);(refine q0j (by rfl) (by rfl) flQ ?_))
                exact q0c (by exact flQ) q0e
            · obtain rfl:x=n:=by omega
              generalize allB (fun j=>fewB (D j) m) x=g0 at *
              cases g0
              all_goals
                (repeat ((try (conv=>whnf));(refine stQ ?_)))
                exact ⟨rfl,rfl⟩
      · (repeat' ((try (conv=>whnf));(first |(refine stQ ?_) |(with_reducible first |refine q0b (fun vs w=>by kernel_rfl) (by kernel_rfl) (hG) ?_ |refine q0a (fun vs w=>by kernel_rfl) (by kernel_rfl) (hG) ?_ |refine q03 (fun h0=>?_) (fun h0=>?_)))))
        all_goals conv=>whnf
        all_goals
          refine q02 tab_ok (fun x=>x≤n) (fun (x:Nat)=>[(94,.val (.int .i64 x)),(6,.val (.bool (!allB (fun j=>fewB (D j) m) x)))]) (fun x=>[.cells 54 [.val (.int .i64 2),.val (.int .u8 (I 0)),.val (.int .u8 (I 1)),.val (.int .u8 (I 2)),.val (.int .u8 (I 3)),.val (.int .u8 (I 4)),.val (.int .u8 (I 5)),.val (.int .u8 (I 6)),.val (.int .u8 (I 7)),.val (.int .i64 fx),.val (.int .i64 fy),.val (.int .i64 tx),.val (.int .i64 ty),.val (.int .i64 r),.val (.slice A n q),.val (.int .i64 W),.val (.int .i64 H),.val (.slice B pn pq),.val (.slice C sn sq),.val (.int .i64 a),.val (.int .i64 b),.val (.int .i64 c),.val (.int .i64 d),.val (.int .i64 e),.val (.int .i64 f),.val (.bool s),.val (.bool t)]]) (fun x=>n-x) 0 (Nat.zero_le _) ?_ ?_
          · ((refine q0h ?_);(conv=>whnf);(refine q0j (by rfl) (by rfl) flQ ?_))
            exact q0c (by exact flQ) q0e
          · rintro x hx
            rcases Nat.lt_or_ge x n with h1 |h1
            · obtain ⟨u,rfl,ca⟩:=hS x h1
              have hs:(!allB (fun j=>fewB (D j) m) (x+1))=(!(allB (fun j=>fewB (D j) m) x&&fewB (D x) m)):=rfl
              generalize allB (fun j=>fewB (D j) m) x=g0 at *
              have gf:=q7l (I:=D x) (G:=G) hm (hS0 x h1)
              generalize fewB (D x) m=g2 at *
              cases g0 <;> cases g2
              all_goals
                (repeat ((try (conv=>whnf));(first |(refine ca _ ?_) |(refine stQ ?_) |(with_reducible first |refine q0b (fun vs w=>by kernel_rfl) (by kernel_rfl) (gf) ?_ |refine q0a (fun vs w=>by kernel_rfl) (by kernel_rfl) (gf) ?_))))
                refine ⟨x+1,by omega,by omega,?_⟩
                ((refine q0h ?_);(conv=>whnf);(refine q0j (by rfl) (by rfl) flQ ?_))
                exact q0c (by exact flQ) q0e
            · obtain rfl:x=n:=by omega
              generalize allB (fun j=>fewB (D j) m) x=g0 at *
              cases g0
              all_goals
                (repeat ((try (conv=>whnf));(refine stQ ?_)))
                exact ⟨rfl,rfl⟩
    · have hr:srcM k z p i (fewB I m) (allB (fun j=>fewB (D j) m) n) (allB (fun j=>fewB (D' j) m) pn) gE iE=gE:=by unfold srcM;rw [if_neg k0,if_pos k12,if_neg hg]
      rw [hr]
      rcases k12 with rfl |rfl <;> ((repeat' ((try (conv=>whnf));(first |(refine stQ ?_) |(with_reducible first |refine q0b (fun vs w=>by kernel_rfl) (by kernel_rfl) (hG) ?_ |refine q0a (fun vs w=>by kernel_rfl) (by kernel_rfl) (hG) ?_ |refine q03 (fun h0=>?_) (fun h0=>?_)))))) <;> exact ⟨rfl,rfl⟩
  · have hr:∀ i fw sg pg,srcM k z p i fw sg pg gE iE=14:=by intro i fw sg pg;unfold srcM;rw [if_neg k0,if_neg k12,if_neg k3]
    rw [hr]
    have k1:k≠1:=fun h=>k12 (.inl h)
    have k2:k≠2:=fun h=>k12 (.inr h)
    clear hr k12 hG hI hS hP
    (repeat' ((try (conv=>whnf));(first |(refine stQ ?_) |(with_reducible refine q03 (fun h0=>?_) (fun h0=>?_)))))
    all_goals exact ⟨rfl,rfl⟩
end
end Go.Proofs.YticolnghiibgfaaGreat
