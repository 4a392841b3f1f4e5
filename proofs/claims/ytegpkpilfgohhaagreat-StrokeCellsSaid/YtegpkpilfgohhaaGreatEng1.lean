/-
  Merged: XEa, XEb, XEc, XEd, XEe, XEf, XEy, XEm, XEg, XEh.
-/
import Derived.WalkKit
import Derived.Handy
import Derived.Laws.EntriesVeiled
import Derived.Laws.CopyOwn
import Derived.OrdersIn
import Derived.Maps.AppendAt
import Derived.Laws.OwnMore
import Derived.MapKept
import Derived.RangeFuncOwn
import Derived.RangeFuncRecord
import Derived.RangeFuncLeaves
set_option linter.unusedVariables false
set_option linter.unusedSimpArgs false
set_option linter.unnecessarySimpa false
namespace Go.Proofs.YtegpkpilfgohhaaGreat
open Go.RowKit
inductive AV where
  | val (x:Value)
  | ptr (k off:Nat)
  | sli (k off len cap:Nat)
  | own (k:Nat)
  | vw (k off len:Nat)
  | agg (l:List AV)
  | tup (l:List AV)
  | fn (f:Fn) (first caps:List AV)
  | any
  | yl (k:Nat)
  | mpv (k:Nat)
  deriving Inhabited
abbrev Nm:=Nat→Option Value
def isSl:Value→Bool
  | .slice _ _ _=>true
  | _=>false
def q0i:Value→Option Nat
  | .pointer (some a)=>some a.block
  | .slice (some a) _ _=>some a.block
  | _=>none
mutual
def AV.rel (β:Nm):AV→Value→Prop
  | .val x,y=>y=x
  | .ptr k o,y=>∃ v b,β k=some v∧q0i v=some b∧y=.pointer (some ⟨b,o,none⟩)
  | .sli k o l c,y=>∃ v b,β k=some v∧q0i v=some b∧y=.slice (some ⟨b,o,none⟩) l c
  | .own k,y=>β k=some y∧isSl y=true
  | .vw k o n,y=>∃ A c,y=.slice A n c∧n≤c∧((A=none→c=0)∧(o=0→∃ m,β k=some (.slice A m c)))∧(0<n→∃ v b,β k=some v∧q0i v=some b∧A=some ⟨b,o,none⟩)
  | .agg l,y=>∃ cs,y=.agg cs∧AV.rels β l cs.toList
  | .tup l,y=>∃ cs,y=.tuple cs∧AV.rels β l cs.toList
  | .fn f a b,y=>∃ xs ys,y=.func f xs ys∧AV.rels β a xs.toList∧AV.rels β b ys.toList
  | .any,_=>True
  | .yl k,y=>∃ v b,β k=some v∧q0i v=some b∧y=.func (.yield b) #[] #[]
  | .mpv k,y=>∃ v b,β k=some v∧q0i v=some b∧y=.map (some b)
def AV.rels (β:Nm):List AV→List Value→Prop
  | [],ys=>ys=[]
  | a::l,ys=>∃ y zs,ys=y::zs∧AV.rel β a y∧AV.rels β l zs
end
def Nm.le (β γ:Nm):Prop:=∀ k v,β k=some v→γ k=some v
theorem Nm.le_refl (β:Nm):β.le β:=fun _ _ h=>h
theorem Nm.le_trans {a b c:Nm} (h:a.le b) (h':b.le c):a.le c:=fun k v e=>h' k v (h k v e)
mutual
theorem AV.rel_mono {β γ:Nm} (h:β.le γ):∀ (a:AV) (y:Value),AV.rel β a y→AV.rel γ a y
  | .val _,_,e=>by simpa [AV.rel] using e
  | .ptr _ _,_,e=>by simp only [AV.rel] at e ⊢;obtain ⟨v,b,h1,h2,h3⟩:=e;exact ⟨v,b,h _ _ h1,h2,h3⟩
  | .sli _ _ _ _,_,e=>by simp only [AV.rel] at e ⊢;obtain ⟨v,b,h1,h2,h3⟩:=e;exact ⟨v,b,h _ _ h1,h2,h3⟩
  | .own _,_,e=>by simp only [AV.rel] at e ⊢;exact ⟨h _ _ e.1,e.2⟩
  | .vw _ _ _,_,e=>by
    simp only [AV.rel] at e ⊢
    obtain ⟨A,c,h1,h2,h3,h4⟩:=e
    exact ⟨A,c,h1,h2,⟨h3.1,fun ho=>by obtain ⟨m,hm⟩:=h3.2 ho;exact ⟨m,h _ _ hm⟩⟩,fun hn=>by obtain ⟨v,b,g1,g2,g3⟩:=h4 hn;exact ⟨v,b,h _ _ g1,g2,g3⟩⟩
  | .agg l,_,e=>by simp only [AV.rel] at e ⊢;obtain ⟨cs,h1,h2⟩:=e;exact ⟨cs,h1,AV.rels_mono h l _ h2⟩
  | .tup l,_,e=>by simp only [AV.rel] at e ⊢;obtain ⟨cs,h1,h2⟩:=e;exact ⟨cs,h1,AV.rels_mono h l _ h2⟩
  | .fn _ a b,_,e=>by simp only [AV.rel] at e ⊢;obtain ⟨xs,ys,h1,h2,h3⟩:=e;exact ⟨xs,ys,h1,AV.rels_mono h a _ h2,AV.rels_mono h b _ h3⟩
  | .any,_,_=>by simp only [AV.rel]
  | .yl _,_,e=>by simp only [AV.rel] at e ⊢;obtain ⟨v,b,h1,h2,h3⟩:=e;exact ⟨v,b,h _ _ h1,h2,h3⟩
  | .mpv _,_,e=>by simp only [AV.rel] at e ⊢;obtain ⟨v,b,h1,h2,h3⟩:=e;exact ⟨v,b,h _ _ h1,h2,h3⟩
theorem AV.rels_mono {β γ:Nm} (h:β.le γ):∀ (l:List AV) (ys:List Value),AV.rels β l ys→AV.rels γ l ys
  | [],_,e=>by simpa [AV.rels] using e
  | a::l,_,e=>by
    simp only [AV.rels] at e ⊢
    obtain ⟨y,zs,h1,h2,h3⟩:=e
    exact ⟨y,zs,h1,AV.rel_mono h a _ h2,AV.rels_mono h l _ h3⟩
end
theorem AV.rels_length {β:Nm}:∀ {l:List AV} {ys:List Value},AV.rels β l ys→ys.length=l.length
  | [],_,e=>by simp only [AV.rels] at e;subst e;rfl
  | a::l,_,e=>by
    simp only [AV.rels] at e
    obtain ⟨y,zs,rfl,_,h3⟩:=e
    simp [AV.rels_length h3]
theorem AV.rels_get {β:Nm}:∀ {l:List AV} {ys:List Value} {i:Nat} {a:AV},AV.rels β l ys→l[i]? = some a→∃ y,ys[i]? = some y∧AV.rel β a y
  | [],_,_,_,_,h=>by simp at h
  | a::l,_,0,b,e,h=>by
    simp only [AV.rels] at e
    obtain ⟨y,zs,rfl,h2,_⟩:=e
    simp at h;subst h
    exact ⟨y,by simp,h2⟩
  | a::l,_,i+1,b,e,h=>by
    simp only [AV.rels] at e
    obtain ⟨y,zs,rfl,_,h3⟩:=e
    obtain ⟨y',h4,h5⟩:=AV.rels_get h3 (i:=i) (by simpa using h)
    exact ⟨y',by simpa using h4,h5⟩
theorem AV.rels_of_get {β:Nm}:∀ {l:List AV} {ys:List Value},ys.length=l.length→(∀ (i:Nat) a y,l[i]? = some a→ys[i]? = some y→AV.rel β a y)→AV.rels β l ys
  | [],ys,h,_=>by simp only [AV.rels];exact List.eq_nil_of_length_eq_zero (by simpa using h)
  | a::l,[],h,_=>by simp at h
  | a::l,y::ys,h,k=>by
    simp only [AV.rels]
    exact ⟨y,ys,rfl,k 0 a y (by simp) (by simp),AV.rels_of_get (by simpa using h) (fun i b z hb hz=>k (i+1) b z (by simpa using hb) (by simpa using hz))⟩
theorem AV.rels_append {β:Nm}:∀ {l m:List AV} {ys zs:List Value},AV.rels β l ys→AV.rels β m zs→AV.rels β (l++m) (ys++zs)
  | [],_,_,_,e,h=>by simp only [AV.rels] at e;subst e;simpa using h
  | a::l,m,_,zs,e,h=>by
    simp only [AV.rels] at e
    obtain ⟨y,ws,rfl,h2,h3⟩:=e
    simp only [List.cons_append,AV.rels]
    exact ⟨y,ws++zs,rfl,h2,AV.rels_append h3 h⟩
theorem AV.rels_take {β:Nm}:∀ {l:List AV} {ys:List Value} (n:Nat),AV.rels β l ys→AV.rels β (l.take n) (ys.take n)
  | _,_,0,_=>by simp [AV.rels]
  | [],_,n+1,e=>by simp only [AV.rels] at e;subst e;simp [AV.rels]
  | a::l,_,n+1,e=>by
    simp only [AV.rels] at e
    obtain ⟨y,ws,rfl,h2,h3⟩:=e
    simp only [List.take_succ_cons,AV.rels]
    exact ⟨y,ws.take n,rfl,h2,AV.rels_take n h3⟩
theorem AV.rels_drop {β:Nm}:∀ {l:List AV} {ys:List Value} (n:Nat),AV.rels β l ys→AV.rels β (l.drop n) (ys.drop n)
  | _,_,0,e=>by simpa using e
  | [],_,n+1,e=>by simp only [AV.rels] at e;subst e;simp [AV.rels]
  | a::l,_,n+1,e=>by
    simp only [AV.rels] at e
    obtain ⟨y,ws,rfl,h2,h3⟩:=e
    simpa using AV.rels_drop n h3
theorem AV.rels_set {β:Nm}:∀ {l:List AV} {ys:List Value} (n:Nat) {a:AV} {y:Value},AV.rels β l ys→AV.rel β a y→AV.rels β (l.set n a) (ys.set n y)
  | [],_,_,_,_,e,_=>by simp only [AV.rels] at e;subst e;simp [AV.rels]
  | a::l,_,0,b,z,e,h=>by
    simp only [AV.rels] at e
    obtain ⟨y,ws,rfl,h2,h3⟩:=e
    simp only [List.set_cons_zero,AV.rels]
    exact ⟨z,ws,rfl,h,h3⟩
  | a::l,_,n+1,b,z,e,h=>by
    simp only [AV.rels] at e
    obtain ⟨y,ws,rfl,h2,h3⟩:=e
    simp only [List.set_cons_succ,AV.rels]
    exact ⟨y,ws.set n z,rfl,h2,AV.rels_set n h3 h⟩
theorem AV.rels_vals {β:Nm}:∀ (ys:List Value),AV.rels β (ys.map .val) ys
  | []=>by simp [AV.rels]
  | y::ys=>by simp only [List.map_cons,AV.rels];exact ⟨y,ys,rfl,by simp only [AV.rel],AV.rels_vals ys⟩
abbrev Mem:=Nat→Option Obj
def Mem.le (G H:Mem):Prop:=∀ b o,G b=some o→H b=some o
theorem Mem.le_refl (G:Mem):G.le G:=fun _ _ h=>h
theorem Mem.le_trans {a b c:Mem} (h:a.le b) (h':b.le c):a.le c:=fun k v e=>h' k v (h k v e)
theorem Mem.le.none {G H:Mem} (h:G.le H) {b:Nat} (hb:H b=none):G b=none:=by
  cases e:G b with
  | none=>rfl
  | some o=>rw [h b o e] at hb;cases hb
def Mem.holds (G:Mem) (w:World):Prop:=∀ b o,G b=some o→w.heap[b]? = some o
def Mem.cell? (G:Mem) (a:Addr):Option Value :=
  match G a.block with
  | some (.cells c _ _)=>if a.spot.isSome then none else c[a.off]?
  | _=>none
theorem Mem.holds.cell {G:Mem} {w:World} (h:G.holds w) {a:Addr} {v:Value} (hv:G.cell? a=some v):w.cell? a=some v:=by
  unfold Mem.cell? at hv
  unfold World.cell?
  cases hg:G a.block with
  | none=>rw [hg] at hv;cases hv
  | some o=>rw [hg] at hv;rw [h _ _ hg];exact hv
theorem Mem.le.cell {G H:Mem} (h:G.le H) {a:Addr} {v:Value} (hv:G.cell? a=some v):H.cell? a=some v:=by
  unfold Mem.cell? at hv ⊢
  cases hg:G a.block with
  | none=>rw [hg] at hv;cases hv
  | some o=>rw [hg] at hv;rw [h _ _ hg];exact hv
def q8e (w:World):Mem:=fun b=>w.heap[b]?
theorem x1s (w:World):(q8e w).holds w:=fun _ _ h=>h
structure LpI where
  l:Nat
  D:Nat
  fn:FuncId
  ps:Array Tmp
  ca:Code
  body:Code
  deriving Inhabited
def LpI.rec_ (i:LpI) (tmps:Array Value) (st:LoopState) (pend:Option Code):Obj:=.loop { state:=st,pending:=pend,fn:=i.fn,tmps:=tmps,params:=i.ps,assign:=i.ca,body:=i.body,defers:=i.D }
inductive Blk where
  | cells (t:TypeId) (l:List AV)
  | own (e:TypeId) (sz n:Nat) (xs:List Value)
  | gone
  | lp (i:LpI) (fr:List AV) (st:LoopState) (pend:Option Code)
  | mp (f:Int→Option Value) (ks:List Int) (vs:List AV)
  | muts (S:Nat→Prop)
  deriving Inhabited
def q2z:List (Int × Value)→Nat→List MapEntry
  | [],_=>[]
  | (k,v)::l,c=>⟨.int .i64 k,v,c⟩::q2z l (c+1)
def atI? (k:Int):List (Int × Value)→Option Value
  | []=>none
  | (j,v)::l=>if k=j then some v else atI? k l
def Blk.live:Blk→Bool
  | .gone=>false
  | .muts _=>false
  | _=>true
def Blk.rel (base:Nat) (β:Nm) (G:Mem) (w:World):Blk→Value→Prop
  | .cells t l,y=>∃ b c,y=.pointer (some ⟨b,0,none⟩)∧base≤b∧G b=none∧w.heap[b]? = some (.cells c t (0,0))∧AV.rels β l c.toList
  | .own e sz n xs,y=>w.ownsRow base e sz y n xs∧∀ g,q0i y=some g→G g=none
  | .gone,_=>True
  | .muts _,_=>False
  | .lp i fr st pend,y=>y=.pointer (some ⟨i.l,0,none⟩)∧base≤i.l∧G i.l=none∧∃ tmps,w.heap[i.l]? = some (i.rec_ tmps st pend)∧AV.rels β fr tmps.toList
  | .mp f ks vs,y=>∃ b ys,y=.pointer (some ⟨b,0,none⟩)∧base≤b∧G b=none∧(∃ l,w.heap[b]? = some (.map (q2z l 0).toArray l.length)∧∀ k,atI? k l=(atI? k (ks.zip ys)).or (f k))∧ys.length=ks.length∧AV.rels β vs ys
theorem Blk.rel_muts {base:Nat} {β:Nm} {G:Mem} {w:World} {x:Blk} {y:Value} (h:x.rel base β G w y):∀ S,x≠.muts S:=fun S e=>by subst e;exact h.elim
theorem z9j {hp:List Blk} {u:Blk} {Q:(Nat→Prop)→Prop} (h:∀ (k:Nat) S,hp[k]? = some (.muts S)→Q S) (hu:∀ S,u≠.muts S):∀ (k:Nat) S,(hp++[u])[k]? = some (.muts S)→Q S:=fun k S hk=>by
  rcases Nat.lt_or_ge k hp.length with h1 |h1
  · rw [List.getElem?_append_left h1] at hk;exact h k S hk
  · rw [List.getElem?_append_right h1] at hk
    obtain ⟨h2,h3⟩:=List.getElem?_eq_some_iff.1 hk
    exact absurd (by simpa using h3) (hu S)
theorem x2e {hp:List Blk} {u:Blk} {j:Nat} {Q:(Nat→Prop)→Prop} (h:∀ (k:Nat) S,hp[k]? = some (.muts S)→Q S) (hu:∀ S,u≠.muts S):∀ (k:Nat) S,(hp.set j u)[k]? = some (.muts S)→Q S:=fun k S hk=>by
  by_cases hjk:j=k
  · subst hjk
    rw [List.getElem?_set] at hk
    simp at hk
    exact absurd hk.2 (hu S)
  · rw [List.getElem?_set,if_neg hjk] at hk
    exact h k S hk
theorem z3d {hp:List Blk} {g:Blk→Blk} {Q:(Nat→Prop)→Prop} (h:∀ (k:Nat) S,hp[k]? = some (.muts S)→Q S) (hg:∀ x S,g x=.muts S→x=.muts S):∀ (k:Nat) S,(hp.map g)[k]? = some (.muts S)→Q S:=fun k S hk=>by
  rw [List.getElem?_map] at hk
  cases e:hp[k]? with
  | none=>rw [e] at hk;cases hk
  | some x =>
    rw [e] at hk
    simp only [Option.map_some,Option.some.injEq] at hk
    exact h k S (by rw [e,hg x S hk])
structure HR (w0:World) (G0:Mem) (β:Nm) (hp:List Blk) (G:Mem) (w:World):Prop where
  below:Below w0.heap.size w0 w
  hold:G.holds w
  sub:G0.le G
  grow:∀ b o,G b=some o→G0 b=some o∨w0.heap.size≤b
  blk:∀ k y,β k=some y→∃ x,hp[k]? = some x∧x.rel w0.heap.size β G w y
  inj:∀ k k' y y' x x' b,k≠k'→β k=some y→β k'=some y'→hp[k]? = some x→hp[k']? = some x'→x.live=true→x'.live=true→q0i y=some b→q0i y'≠some b
  wrt:∀ (k:Nat) S,hp[k]? = some (.muts S)→∀ b,S b→w0.heap.size≤b∧b<w.heap.size∧G0 b=none
theorem x4k (y:Value):y.ownBlock=q0i y∨y.ownBlock=none:=by
  cases y <;> first |(right;rfl) |(left;rfl) |skip
  rename_i a _ _;cases a <;> (left;rfl)
theorem HR.lt {w0:World} {G0:Mem} {β:Nm} {hp:List Blk} {G:Mem} {w:World} (h:HR w0 G0 β hp G w) {k:Nat} {y:Value} {x:Blk} {b:Nat} (hk:β k=some y) (hx:hp[k]? = some x) (hl:x.live=true) (hb:q0i y=some b) :
    w0.heap.size≤b∧b<w.heap.size∧G b=none:=by
  obtain ⟨x',h1,h2⟩:=h.blk k y hk
  rw [hx] at h1;cases h1
  cases x with
  | gone=>simp [Blk.live] at hl
  | muts S=>simp [Blk.live] at hl
  | cells t l =>
    obtain ⟨b',c,rfl,h3,h4,h5,_⟩:=h2
    simp [q0i] at hb;subst hb
    exact ⟨h3,(Array.getElem?_eq_some_iff.1 h5).1,h4⟩
  | own e sz n xs =>
    obtain ⟨h3,h4⟩:=h2
    refine ⟨?_,?_,h4 b hb⟩
    · rcases h3.2 with ⟨rfl,_⟩ |⟨g,cap,cur,rfl,h5,_⟩
      · simp [q0i] at hb
      · simp [q0i] at hb;omega
    · rcases h3.2 with ⟨rfl,_⟩ |⟨g,cap,cur,rfl,h5,h6,_⟩
      · simp [q0i] at hb
      · simp [q0i] at hb;subst hb;exact (Array.getElem?_eq_some_iff.1 h6).1
  | lp i fr st pend =>
    obtain ⟨rfl,h3,h4,tm,h5,_⟩:=h2
    simp [q0i] at hb;subst hb
    exact ⟨h3,(Array.getElem?_eq_some_iff.1 h5).1,h4⟩
  | mp f ks vs =>
    obtain ⟨b',ys,rfl,h3,h4,⟨_,h5,_⟩,_⟩:=h2
    simp [q0i] at hb;subst hb
    exact ⟨h3,(Array.getElem?_eq_some_iff.1 h5).1,h4⟩
theorem Blk.rel_of {base:Nat} {β γ:Nm} {G H:Mem} {w w':World} (hβ:β.le γ) {x:Blk} {y:Value} (h:x.rel base β G w y) (hb:∀ b,q0i y=some b→w'.heap[b]? = w.heap[b]?∧(G b=none→H b=none)):x.rel base γ H w' y:=by
  cases x with
  | gone=>trivial
  | muts S=>exact h.elim
  | cells t l =>
    obtain ⟨b,c,rfl,h1,h2,h3,h4⟩:=h
    obtain ⟨h5,h6⟩:=hb b rfl
    exact ⟨b,c,rfl,h1,h6 h2,h5.trans h3,AV.rels_mono hβ _ _ h4⟩
  | own e sz n xs =>
    obtain ⟨⟨h1,h2⟩,h3⟩:=h
    refine ⟨⟨h1,?_⟩,fun g hg=>(hb g hg).2 (h3 g hg)⟩
    rcases h2 with h2 |⟨g,cap,cur,rfl,h5,h6,h7⟩
    · exact .inl h2
    · exact .inr ⟨g,cap,cur,rfl,h5,(hb g rfl).1.trans h6,h7⟩
  | lp i fr st pend =>
    obtain ⟨rfl,h1,h2,tm,h3,h4⟩:=h
    obtain ⟨h5,h6⟩:=hb i.l rfl
    exact ⟨rfl,h1,h6 h2,tm,h5.trans h3,AV.rels_mono hβ _ _ h4⟩
  | mp f ks vs =>
    obtain ⟨b,ys,rfl,h1,h2,h3,h4,h5⟩:=h
    obtain ⟨h6,h7⟩:=hb b rfl
    obtain ⟨l,h3,h8⟩:=h3
    exact ⟨b,ys,rfl,h1,h7 h2,⟨l,h6.trans h3,h8⟩,h4,AV.rels_mono hβ _ _ h5⟩
section
variable {w0:World} {G0:Mem} {β:Nm} {hp:List Blk} {G:Mem} {w:World}
theorem HR.step (h:HR w0 G0 β hp G w) {w':World} (hb':Below w.heap.size w w'):HR w0 G0 β hp G w' where
  below:=h.below.trans (hb'.mono h.below.size)
  hold:=fun b o hg=>(hb'.block b (Array.getElem?_eq_some_iff.1 (h.hold b o hg)).1).trans (h.hold b o hg)
  sub:=h.sub
  grow:=h.grow
  blk:=fun k y hk=>by
    obtain ⟨x,h1,h2⟩:=h.blk k y hk
    refine ⟨x,h1,?_⟩
    by_cases hl:x.live=true
    · exact Blk.rel_of (Nm.le_refl _) h2 (fun b hb2=>⟨hb'.block b (h.lt hk h1 hl hb2).2.1,id⟩)
    · cases x <;> simp [Blk.live] at hl <;> first |trivial |exact h2.elim
  inj:=h.inj
  wrt:=fun k S hk b hb=>⟨(h.wrt k S hk b hb).1,Nat.lt_of_lt_of_le (h.wrt k S hk b hb).2.1 hb'.size,(h.wrt k S hk b hb).2.2⟩
theorem HR.drew (h:HR w0 G0 β hp G w):HR w0 G0 β hp G w.drew:=h.step (Below.refl _ _).drew
theorem HR.fresh (h:HR w0 G0 β hp G w) {n:Nat} (hn:hp.length≤n):β n=none:=by
  cases hb:β n with
  | none=>rfl
  | some y =>
    obtain ⟨x,h1,_⟩:=h.blk n y hb
    rw [List.getElem?_eq_none hn] at h1;cases h1
def Nm.put (β:Nm) (n:Nat) (y:Value):Nm:=fun k=>if k=n then some y else β k
theorem Nm.put_same (β:Nm) (n:Nat) (y:Value):β.put n y n=some y:=by simp [Nm.put]
theorem Nm.put_ne (β:Nm) {n k:Nat} (y:Value) (h:k≠n):β.put n y k=β k:=by simp [Nm.put,h]
theorem Nm.le_put {β:Nm} {n:Nat} (y:Value) (hn:β n=none):β.le (β.put n y):=fun k v h=>by
  by_cases hk:k=n
  · subst hk;rw [hn] at h;cases h
  · rw [Nm.put_ne β y hk];exact h
theorem HR.name (h:HR w0 G0 β hp G w) {w':World} (hb:Below w.heap.size w w') {y:Value} {x:Blk} {n:Nat} (hx:x.rel w0.heap.size (β.put n y) G w' y) (hn:n=hp.length)
    (hy:∀ b,q0i y=some b→w.heap.size≤b):HR w0 G0 (β.put n y) (hp++[x]) G w' where
  below:=(h.step hb).below
  hold:=(h.step hb).hold
  sub:=h.sub
  grow:=h.grow
  blk:=fun k z hk=>by
    by_cases hkn:k=n
    · rw [hkn,Nm.put_same] at hk
      cases hk
      exact ⟨x,by rw [hkn,hn];simp,hx⟩
    · rw [Nm.put_ne β y hkn] at hk
      obtain ⟨x',h1,h2⟩:=(h.step hb).blk k z hk
      refine ⟨x',?_,Blk.rel_of (Nm.le_put y (h.fresh (by omega))) h2 (fun b _=>⟨rfl,id⟩)⟩
      rw [List.getElem?_append_left (List.getElem?_eq_some_iff.1 h1).1];exact h1
  inj:=fun k k' z z' u u' b hne hk hk' hu hu' hl hl' hz hz'=>by
    have old:∀ {j:Nat} {q:Value} {s:Blk},j≠n→(β.put n y) j=some q→(hp++[x])[j]? = some s→s.live=true→q0i q=some b→b<w.heap.size∧hp[j]? = some s∧β j=some q:=by
      intro j q s hj hq hs hls hqb
      rw [Nm.put_ne β y hj] at hq
      obtain ⟨x',h1,_⟩:=h.blk j q hq
      rw [List.getElem?_append_left (List.getElem?_eq_some_iff.1 h1).1] at hs
      exact ⟨(h.lt hq hs hls hqb).2.1,hs,hq⟩
    by_cases h1:k=n
    · have h2:k'≠n:=by omega
      obtain ⟨h3,_,_⟩:=old h2 hk' hu' hl' hz'
      rw [h1,Nm.put_same] at hk;cases hk
      have:=hy b hz;omega
    · obtain ⟨h3,h4,h5⟩:=old h1 hk hu hl hz
      by_cases h2:k'=n
      · rw [h2,Nm.put_same] at hk';cases hk'
        have:=hy b hz';omega
      · obtain ⟨_,h6,h7⟩:=old h2 hk' hu' hl' hz'
        exact h.inj k k' z z' u u' b hne h5 h7 h4 h6 hl hl' hz hz'
  wrt:=z9j (h.step hb).wrt (Blk.rel_muts hx)
theorem HR.alloc (h:HR w0 G0 β hp G w) {t:TypeId} {l:List AV} {c:Array Value} (hc:AV.rels β l c.toList) {n:Nat} (hn:n=hp.length) :
    HR w0 G0 (β.put n (.pointer (some ⟨w.heap.size,0,none⟩))) (hp++[.cells t l]) G (w.alloc (.cells c t)):=by
  have hN:β n=none:=h.fresh (by omega)
  have hG:G w.heap.size=none:=by
    cases hg:G w.heap.size with
    | none=>rfl
    | some o =>
      have:=(Array.getElem?_eq_some_iff.1 (h.hold _ _ hg)).1
      omega
  refine h.name ((Below.refl _ _).alloc (Nat.le_refl _) _) ?_ hn (fun b hb=>by simp [q0i] at hb;omega)
  exact ⟨_,c,rfl,h.below.size,hG,heap_alloc_new w _,AV.rels_mono (Nm.le_put _ hN) _ _ hc⟩
theorem HR.setBlk (h:HR w0 G0 β hp G w) {k:Nat} {y:Value} {x x':Blk} {b:Nat} (hk:β k=some y) (hx:hp[k]? = some x) (hl:x.live=true) (hb:q0i y=some b) {w':World}
    (hg:w.grownBy w' (some b)) (hr:x'.rel w0.heap.size β G w' y):HR w0 G0 β (hp.set k x') G w' where
  below:=h.below.trans ⟨hg.os,hg.tape,hg.output,hg.size,fun j hj=>by
    have h1:=(h.lt hk hx hl hb).1
    exact hg.block j (Nat.lt_of_lt_of_le hj h.below.size) (fun e=>by cases e;omega)⟩
  hold:=fun c o hc=>by
    have h1:=(h.lt hk hx hl hb).2.2
    have h2:=h.hold c o hc
    rw [hg.block c (Array.getElem?_eq_some_iff.1 h2).1 (fun e=>by cases e;rw [h1] at hc;cases hc)]
    exact h2
  sub:=h.sub
  grow:=h.grow
  blk:=fun j z hj=>by
    obtain ⟨u,h1,h2⟩:=h.blk j z hj
    have hjl:=(List.getElem?_eq_some_iff.1 h1).1
    by_cases hjk:k=j
    · subst hjk
      rw [hk] at hj;cases hj
      exact ⟨x',by simp [List.getElem?_set,hjl],hr⟩
    · refine ⟨u,by rw [List.getElem?_set,if_neg hjk];exact h1,?_⟩
      by_cases hul:u.live=true
      · refine Blk.rel_of (Nm.le_refl _) h2 (fun c hc=>⟨hg.block c (h.lt hj h1 hul hc).2.1 (fun e=>?_),id⟩)
        cases e
        exact h.inj k j y z x u b hjk hk hj hx h1 hl hul hb hc
      · cases u <;> simp [Blk.live] at hul <;> first |trivial |exact h2.elim
  wrt:=x2e (fun k S hk b hb=>⟨(h.wrt k S hk b hb).1,Nat.lt_of_lt_of_le (h.wrt k S hk b hb).2.1 hg.size,(h.wrt k S hk b hb).2.2⟩) (Blk.rel_muts hr)
  inj:=fun j j' z z' u u' c hne hj hj' hu hu' hul hul' hz hz'=>by
    have key:∀ (i:Nat) (q:Blk),(hp.set k x')[i]? = some q→q.live=true→∃ q',hp[i]? = some q'∧q'.live=true:=fun i q hq hql=>by
      by_cases hi:k=i
      · subst hi;exact ⟨x,hx,hl⟩
      · rw [List.getElem?_set,if_neg hi] at hq;exact ⟨q,hq,hql⟩
    obtain ⟨q,hq,hql⟩:=key j u hu hul
    obtain ⟨q',hq',hql'⟩:=key j' u' hu' hul'
    exact h.inj j j' z z' q q' c hne hj hj' hq hq' hql hql' hz hz'
theorem HR.forget (h:HR w0 G0 β hp G w) (k:Nat):HR w0 G0 β (hp.set k .gone) G w where
  below:=h.below
  hold:=h.hold
  sub:=h.sub
  grow:=h.grow
  blk:=fun j z hj=>by
    obtain ⟨u,h1,h2⟩:=h.blk j z hj
    by_cases hjk:k=j
    · subst hjk;exact ⟨.gone,by simp [List.getElem?_set,(List.getElem?_eq_some_iff.1 h1).1],trivial⟩
    · exact ⟨u,by rw [List.getElem?_set,if_neg hjk];exact h1,h2⟩
  wrt:=x2e h.wrt (fun S e=>by cases e)
  inj:=fun j j' z z' u u' c hne hj hj' hu hu' hul hul' hz hz'=>by
    have key:∀ (i:Nat) (q:Blk),(hp.set k .gone)[i]? = some q→q.live=true→hp[i]? = some q:=fun i q hq hql=>by
      by_cases hi:k=i
      · subst hi
        rw [List.getElem?_set] at hq
        simp at hq
        obtain ⟨_,rfl⟩:=hq
        simp [Blk.live] at hql
      · rw [List.getElem?_set,if_neg hi] at hq;exact hq
    exact h.inj j j' z z' u u' c hne hj hj' (key j u hu hul) (key j' u' hu' hul') hul hul' hz hz'
end
/-! ### Weakening -/
mutual
def AV.under (n:Nat):AV→Bool
  | .val _=>true
  | .ptr k _=>Nat.blt k n
  | .sli k _ _ _=>Nat.blt k n
  | .own k=>Nat.blt k n
  | .vw k _ _=>Nat.blt k n
  | .agg l=>AV.unders n l
  | .tup l=>AV.unders n l
  | .fn _ a b=>AV.unders n a&&AV.unders n b
  | .any=>true
  | .yl k=>Nat.blt k n
  | .mpv k=>Nat.blt k n
def AV.unders (n:Nat):List AV→Bool
  | []=>true
  | a::l=>AV.under n a&&AV.unders n l
end
def Nm.cut (β:Nm) (n:Nat):Nm:=fun k=>if k<n then β k else none
theorem Nm.cut_lt {β:Nm} {n k:Nat} (h:k<n):β.cut n k=β k:=by simp [Nm.cut,h]
theorem Nm.cut_some {β:Nm} {n k:Nat} {y:Value} (h:β.cut n k=some y):k<n∧β k=some y:=by
  unfold Nm.cut at h;split at h
  · exact ⟨by assumption,h⟩
  · cases h
theorem q1w {k n:Nat} (h:Nat.blt k n=true):k<n:=by
  simpa [Nat.blt_eq] using h
mutual
theorem AV.rel_cut {β:Nm} {n:Nat}:∀ (a:AV) (y:Value),a.under n=true→AV.rel β a y→AV.rel (β.cut n) a y
  | .val _,_,_,e=>by simpa [AV.rel] using e
  | .ptr k _,_,u,e=>by simp only [AV.rel,AV.under] at e u ⊢;rw [Nm.cut_lt (q1w u)];exact e
  | .sli k _ _ _,_,u,e=>by simp only [AV.rel,AV.under] at e u ⊢;rw [Nm.cut_lt (q1w u)];exact e
  | .own k,_,u,e=>by simp only [AV.rel,AV.under] at e u ⊢;rw [Nm.cut_lt (q1w u)];exact e
  | .vw k _ _,_,u,e=>by simp only [AV.rel,AV.under] at e u ⊢;rw [Nm.cut_lt (q1w u)];exact e
  | .agg l,_,u,e=>by simp only [AV.rel,AV.under] at e u ⊢;obtain ⟨cs,h1,h2⟩:=e;exact ⟨cs,h1,AV.rels_cut l _ u h2⟩
  | .tup l,_,u,e=>by simp only [AV.rel,AV.under] at e u ⊢;obtain ⟨cs,h1,h2⟩:=e;exact ⟨cs,h1,AV.rels_cut l _ u h2⟩
  | .fn _ a b,_,u,e=>by
    simp only [AV.rel,AV.under,Bool.and_eq_true] at e u ⊢
    obtain ⟨xs,ys,h1,h2,h3⟩:=e
    exact ⟨xs,ys,h1,AV.rels_cut a _ u.1 h2,AV.rels_cut b _ u.2 h3⟩
  | .any,_,_,_=>by simp only [AV.rel]
  | .yl k,_,u,e=>by simp only [AV.rel,AV.under] at e u ⊢;rw [Nm.cut_lt (q1w u)];exact e
  | .mpv k,_,u,e=>by simp only [AV.rel,AV.under] at e u ⊢;rw [Nm.cut_lt (q1w u)];exact e
theorem AV.rels_cut {β:Nm} {n:Nat}:∀ (l:List AV) (ys:List Value),AV.unders n l=true→AV.rels β l ys→AV.rels (β.cut n) l ys
  | [],_,_,e=>by simpa [AV.rels] using e
  | a::l,_,u,e=>by
    simp only [AV.rels,AV.unders,Bool.and_eq_true] at e u ⊢
    obtain ⟨y,zs,h1,h2,h3⟩:=e
    exact ⟨y,zs,h1,AV.rel_cut a _ u.1 h2,AV.rels_cut l _ u.2 h3⟩
end
def frLe (n:Nat):List AV→List AV→Prop
  | [],[]=>True
  | _::l,.any::m=>frLe n l m
  | a::l,b::m=>(a=b∧a.under n=true)∧frLe n l m
  | _,_=>False
theorem q6k {β:Nm} {n:Nat}:∀ {l m:List AV} {ys:List Value},frLe n l m→AV.rels β l ys→AV.rels (β.cut n) m ys
  | [],[],_,_,e=>by simpa [AV.rels] using e
  | [],_::_,_,h,_=>h.elim
  | a::l,[],_,h,_=>by simp [frLe] at h
  | a::l,b::m,ys,h,e=>by
    simp only [AV.rels] at e ⊢
    obtain ⟨y,zs,h1,h2,h3⟩:=e
    by_cases hb:b=.any
    · subst hb
      exact ⟨y,zs,h1,by simp only [AV.rel],q6k (by simpa [frLe] using h) h3⟩
    · have h':(a=b∧a.under n=true)∧frLe n l m:=by
        unfold frLe at h
        split at h
        · rename_i h4 h5;cases h4
        · rename_i h4 h5;cases h5;exact absurd rfl hb
        · rename_i h4 h5;cases h4;cases h5;exact h
        · exact h.elim
      obtain ⟨⟨rfl,hu⟩,h6⟩:=h'
      exact ⟨y,zs,h1,AV.rel_cut _ _ hu h2,q6k h6 h3⟩
def Blk.wk (n:Nat):Blk→Blk→Prop
  | _,.gone=>True
  | .cells t l,.cells t' l'=>t=t'∧frLe n l l'
  | .own e sz k xs,.own e' sz' k' xs'=>e=e'∧sz=sz'∧k=k'∧xs=xs'
  | .lp i fr st p,.lp i' fr' st' p'=>(i=i'∧st=st'∧p=p')∧frLe n fr fr'
  | .mp f ks vs,.mp f' ks' vs'=>(f=f'∧ks=ks')∧frLe n vs vs'
  | .muts S,.muts S'=>∀ b,S' b→S b
  | _,_=>False
def hpLe (n:Nat):List Blk→List Blk→Prop
  | _,[]=>True
  | x::l,y::m=>x.wk n y∧hpLe n l m
  | _,_=>False
theorem q84 {n:Nat}:∀ {l m:List Blk} {k:Nat} {y:Blk},hpLe n l m→m[k]? = some y→∃ x,l[k]? = some x∧x.wk n y
  | _,[],_,_,_,h=>by simp at h
  | [],y::m,_,_,h,_=>by simp [hpLe] at h
  | x::l,y::m,0,z,h,e=>by simp at e;subst e;exact ⟨x,by simp,h.1⟩
  | x::l,y::m,k+1,z,h,e=>by
    obtain ⟨x',h1,h2⟩:=q84 h.2 (k:=k) (by simpa using e)
    exact ⟨x',by simpa using h1,h2⟩
theorem Blk.wk_rel {base n:Nat} {β:Nm} {G:Mem} {w:World} {x x':Blk} {y:Value} (h:x.wk n x') (e:x.rel base β G w y):x'.rel base (β.cut n) G w y:=by
  cases x' with
  | gone=>trivial
  | muts S =>
    cases x with
    | muts S'=>exact e
    | _=>exact h.elim
  | cells t' l' =>
    cases x with
    | cells t l =>
      obtain ⟨rfl,h2⟩:=h
      obtain ⟨b,c,h3,h4,h5,h6,h7⟩:=e
      exact ⟨b,c,h3,h4,h5,h6,q6k h2 h7⟩
    | _=>exact h.elim
  | own e' sz' k' xs' =>
    cases x with
    | own e sz k xs =>
      obtain ⟨rfl,rfl,rfl,rfl⟩:=h
      exact e
    | _=>exact h.elim
  | lp i' fr' st' p' =>
    cases x with
    | lp i fr st p =>
      obtain ⟨⟨rfl,rfl,rfl⟩,h2⟩:=h
      obtain ⟨h3,h4,h5,tm,h6,h7⟩:=e
      exact ⟨h3,h4,h5,tm,h6,q6k h2 h7⟩
    | _=>exact h.elim
  | mp f' ks' vs' =>
    cases x with
    | mp f ks vs =>
      obtain ⟨⟨rfl,rfl⟩,h2⟩:=h
      obtain ⟨b,ys,h3,h4,h5,h6,h7,h8⟩:=e
      exact ⟨b,ys,h3,h4,h5,h6,h7,q6k h2 h8⟩
    | _=>exact h.elim
theorem HR.weaken {w0:World} {G0:Mem} {β:Nm} {hp hp':List Blk} {G:Mem} {w:World} (h:HR w0 G0 β hp G w) {n:Nat} (hn:hp'.length=n) (hl:hpLe n hp hp'):HR w0 G0 (β.cut n) hp' G w where
  below:=h.below
  hold:=h.hold
  sub:=h.sub
  grow:=h.grow
  blk:=fun k y hk=>by
    obtain ⟨h1,h2⟩:=Nm.cut_some hk
    obtain ⟨x,h3,h4⟩:=h.blk k y h2
    have h5:hp'[k]? = some hp'[k]:=List.getElem?_eq_getElem (by omega)
    obtain ⟨x',h6,h7⟩:=q84 hl h5
    rw [h3] at h6;cases h6
    exact ⟨_,h5,Blk.wk_rel h7 h4⟩
  wrt:=fun k S hS b hb=>by
    obtain ⟨x,h3,h4⟩:=q84 hl hS
    cases x with
    | muts S'=>exact h.wrt k S' h3 b (h4 b hb)
    | _=>exact h4.elim
  inj:=fun j j' z z' u u' c hne hj hj' hu hu' hul hul' hz hz'=>by
    obtain ⟨x,h1,h2⟩:=q84 hl hu
    obtain ⟨x',h1',h2'⟩:=q84 hl hu'
    have live:∀ {a b:Blk},a.wk n b→b.live=true→a.live=true:=fun {a b} hw hb=>by
      cases b <;> cases a <;> simp_all [Blk.wk,Blk.live]
    exact h.inj j j' z z' x x' c hne (Nm.cut_some hj).2 (Nm.cut_some hj').2 h1 h1' (live h2 hul) (live h2' hul') hz hz'
end Go.Proofs.YtegpkpilfgohhaaGreat
namespace Go.Proofs.YtegpkpilfgohhaaGreat
open Go.RowKit
/-! ### List functions that pass their result on -/
def setF {α:Type}:List α→Nat→α→(List α→Prop)→Prop
  | [],_,_,K=>K []
  | _::l,0,x,K=>K (x::l)
  | y::l,n+1,x,K=>setF l n x fun m=>K (y::m)
theorem q1c {α:Type}:∀ (l:List α) (n:Nat) (x:α) (K:List α→Prop),setF l n x K=K (l.set n x)
  | [],_,_,_=>rfl
  | _::_,0,_,_=>rfl
  | y::l,n+1,x,K=>by simp [setF,q1c l n x]
def catF {α:Type}:List α→List α→(List α→Prop)→Prop
  | [],m,K=>K m
  | x::l,m,K=>catF l m fun r=>K (x::r)
theorem q09 {α:Type}:∀ (l m:List α) (K:List α→Prop),catF l m K=K (l++m)
  | [],_,_=>rfl
  | x::l,m,K=>by simp [catF,q09 l m]
def z06 {α:Type}:List α→Nat→(List α→Prop)→Prop
  | _,0,K=>K []
  | [],_+1,_=>False
  | x::l,n+1,K=>z06 l n fun r=>K (x::r)
theorem z9k {α:Type}:∀ (l:List α) (n:Nat) (K:List α→Prop),z06 l n K→n≤l.length∧K (l.take n)
  | _,0,_,h=>⟨Nat.zero_le _,by simpa [z06] using h⟩
  | [],n+1,_,h=>by simp [z06] at h
  | x::l,n+1,K,h=>by
    have:=z9k l n _ h
    exact ⟨by simp;exact this.1,by simpa using this.2⟩
def z07 {α:Type}:List α→Nat→(List α→Prop)→Prop
  | l,0,K=>K l
  | [],_+1,_=>False
  | _::l,n+1,K=>z07 l n K
theorem z9l {α:Type}:∀ (l:List α) (n:Nat) (K:List α→Prop),z07 l n K→n≤l.length∧K (l.drop n)
  | l,0,_,h=>by
    cases l <;> exact ⟨Nat.zero_le _,by simpa [z07] using h⟩
  | [],n+1,_,h=>by simp [z07] at h
  | x::l,n+1,K,h=>by
    have:=z9l l n _ h
    exact ⟨by simp;exact this.1,by simpa using this.2⟩
def subF {α:Type} (l:List α) (off n:Nat) (K:List α→Prop):Prop:=z07 l off fun m=>z06 m n K
theorem x2f {α:Type} {l:List α} {off n:Nat} {K:List α→Prop} (h:subF l off n K):off+n≤l.length∧K ((l.drop off).take n):=by
  obtain ⟨h1,h2⟩:=z9l _ _ _ h
  obtain ⟨h3,h4⟩:=z9k _ _ _ h2
  rw [List.length_drop] at h3
  exact ⟨by omega,h4⟩
def z3e {α:Type}:List α→List α→(List α→Prop)→Prop
  | l,[],K=>K l
  | [],_::_,_=>False
  | _::l,y::m,K=>z3e l m fun r=>K (y::r)
theorem z9m {α:Type}:∀ (l m:List α) (K:List α→Prop),z3e l m K→m.length≤l.length∧K (m++l.drop m.length)
  | l,[],_,h=>by
    cases l <;> exact ⟨Nat.zero_le _,by simpa [z3e] using h⟩
  | [],_::_,_,h=>by simp [z3e] at h
  | x::l,y::m,K,h=>by
    have:=z9m l m _ h
    exact ⟨by simp;exact this.1,by simpa using this.2⟩
def q8w {α:Type}:List α→Nat→List α→(List α→Prop)→Prop
  | l,0,m,K=>z3e l m K
  | [],_+1,_,_=>False
  | x::l,n+1,m,K=>q8w l n m fun r=>K (x::r)
theorem q8f {α:Type}:∀ (l:List α) (n:Nat) (m:List α) (K:List α→Prop),q8w l n m K→n+m.length≤l.length∧K (l.take n++m++l.drop (n+m.length))
  | l,0,m,K,h=>by
    have h':z3e l m K:=by cases l <;> exact h
    have:=z9m _ _ _ h'
    exact ⟨by omega,by simpa using this.2⟩
  | [],n+1,_,_,h=>by simp [q8w] at h
  | x::l,n+1,m,K,h=>by
    have:=q8f l n m _ h
    refine ⟨by simp;omega,?_⟩
    have e:n+1+m.length=(n+m.length)+1:=by omega
    rw [e]
    simpa using this.2
def lits:List Nat:=[0,1,2,3,4,5,6,7,8,9,10,11,12,13,14,15,16,17,18,19,20,21,22,23,24,25,26,27,28,29,30,31,32,33,34,35,36,37,38,39,40,41,42,43,44,45,46,47,48,49,50,51,52,53,54,55,56,57,58,59,60,61,62,63,64,65,66,67,68,69,70,71,72,73,74,75,76,77,78,79,80,81,82,83,84,85,86,87,88,89,90,91,92,93,94,95,96,97,98,99,100,101,102,103,104,105,106,107,108,109,110,111,112,113,114,115,116,117,118,119,120,121,122,123,124,125,126,127,128]
def q6l {α:Type}:List α→List Nat→(Nat→Prop)→Prop
  | [],n::_,K=>K n
  | _::l,_::ns,K=>q6l l ns K
  | _,[],_=>False
theorem z44 {α:Type}:∀ (l:List α) (ns:List Nat) (i:Nat) (K:Nat→Prop),(∀ j n,ns[j]? = some n→n=i+j)→q6l l ns K→K (i+l.length)
  | [],n::_,i,K,hn,h=>by have:=hn 0 n (by simp);simp only [q6l] at h;rw [List.length_nil,← this];exact h
  | _::l,_::ns,i,K,hn,h=>by
    have:=z44 l ns (i+1) K (fun j n hj=>by have:=hn (j+1) n (by simpa using hj);omega) h
    rw [List.length_cons,Nat.add_comm l.length 1,← Nat.add_assoc];exact this
  | [],[],_,_,_,h=>by simp [q6l] at h
  | _::_,[],_,_,_,h=>by simp [q6l] at h
def lenF {α:Type} (l:List α) (K:Nat→Prop):Prop:=q6l l lits K
theorem x6p:∀ j n,lits[j]? = some n→n=0+j:=by
  intro j n h
  have hl:j<129:=(List.getElem?_eq_some_iff.1 h).1
  have:∀ j,j<129→lits[j]? = some j:=by decide
  rw [this j hl] at h;cases h;omega
theorem q1y {α:Type} {l:List α} {K:Nat→Prop} (h:lenF l K):K l.length:=by
  simpa using z44 l lits 0 K x6p h
def q0w (b:Bool) (A:Prop):Prop :=
  match b with
  | true=>A
  | false=>False
theorem q0t {b:Bool} {A:Prop} (h:q0w b A):b=true∧A:=by cases b <;> first |exact h.elim |exact ⟨rfl,h⟩
def q12 (i:Nat):List Nat→Bool
  | []=>false
  | w::ws=>match Nat.beq i w with
    | true=>true
    | false=>q12 i ws
def z0i:List Value→Bool
  | []=>true
  | v::l=>v.oneCell'&&z0i l
theorem q9k:∀ {l:List Value},z0i l=true→∀ v∈l,v.oneCell'=true
  | [],_,v,h=>by cases h
  | u::l,h,v,hv=>by
    simp only [z0i,Bool.and_eq_true] at h
    rcases List.mem_cons.1 hv with rfl |hv
    · exact h.1
    · exact q9k h.2 v hv
def nthV:List Value→Nat→(Value→Prop)→Prop
  | [],_,_=>False
  | x::_,0,K=>K x
  | _::l,n+1,K=>nthV l n K
theorem x2g:∀ {l:List Value} {n:Nat} {K:Value→Prop},nthV l n K→∃ v,l[n]? = some v∧K v
  | [],_,_,h=>h.elim
  | x::_,0,_,h=>⟨x,by simp,h⟩
  | _::l,n+1,_,h=>by
    obtain ⟨v,h1,h2⟩:=x2g (l:=l) (n:=n) h
    exact ⟨v,by simpa using h1,h2⟩
def nthA:List AV→Nat→AV
  | [],_=>.any
  | x::_,0=>x
  | _::l,n+1=>nthA l n
theorem q5s:∀ (l:List AV) (n:Nat),nthA l n=(l[n]?).getD .any
  | [],_=>rfl
  | _::_,0=>rfl
  | _::l,n+1=>by simpa [nthA] using q5s l n
def q2r (a:AV) (K:AV→Prop):Prop :=
  match a with
  | .val x=>K (.val x)
  | .ptr k o=>K (.ptr k o)
  | .sli k o l c=>K (.sli k o l c)
  | .own k=>K (.own k)
  | .vw k o n=>K (.vw k o n)
  | .agg l=>K (.agg l)
  | .tup l=>K (.tup l)
  | .fn f a b=>K (.fn f a b)
  | .any=>K .any
  | .yl k=>K (.yl k)
  | .mpv k=>K (.mpv k)
theorem q19 (a:AV) (K:AV→Prop):q2r a K=K a:=by cases a <;> rfl
def nthB:List Blk→Nat→Blk
  | [],_=>.gone
  | x::_,0=>x
  | _::l,n+1=>nthB l n
theorem q3j:∀ (l:List Blk) (n:Nat),nthB l n=(l[n]?).getD .gone
  | [],_=>rfl
  | _::_,0=>rfl
  | _::l,n+1=>by simpa [nthB] using q3j l n
theorem q0x {l:List Blk} {n:Nat} {x:Blk} (h:nthB l n=x) (hl:x.live=true):l[n]? = some x:=by
  rw [q3j] at h
  cases hx:l[n]? with
  | none=>rw [hx] at h;subst h;simp [Blk.live] at hl
  | some y=>rw [hx] at h;simpa using h
def q4e:List Value→(List AV→Prop)→Prop
  | [],K=>K []
  | x::l,K=>q4e l fun m=>K (.val x::m)
theorem q2i:∀ (l:List Value) (K:List AV→Prop),q4e l K=K (l.map .val)
  | [],_=>rfl
  | x::l,K=>by simp [q4e,q2i l]
def q14:List AV→(List Value→Prop)→Prop
  | [],K=>K []
  | .val x::l,K=>q14 l fun m=>K (x::m)
  | _::_,_=>False
theorem q3f:∀ (l:List AV) (K:List Value→Prop),q14 l K→∃ m,l=m.map .val∧K m
  | [],K,h=>⟨[],rfl,h⟩
  | .val x::l,K,h=>by
    obtain ⟨m,rfl,h2⟩:=q3f l _ h
    exact ⟨x::m,rfl,h2⟩
  | .ptr _ _::_,_,h=>h.elim
  | .sli _ _ _ _::_,_,h=>h.elim
  | .own _::_,_,h=>h.elim
  | .vw _ _ _::_,_,h=>h.elim
  | .agg _::_,_,h=>h.elim
  | .tup _::_,_,h=>h.elim
  | .fn _ _ _::_,_,h=>h.elim
  | .any::_,_,h=>h.elim
  | .yl _::_,_,h=>h.elim
  | .mpv _::_,_,h=>h.elim
theorem q2a {β:Nm}:∀ {m ys:List Value},AV.rels β (m.map .val) ys→ys=m
  | [],ys,h=>by simpa [AV.rels] using h
  | x::m,ys,h=>by
    simp only [List.map_cons,AV.rels] at h
    obtain ⟨y,zs,rfl,h2,h3⟩:=h
    simp only [AV.rel] at h2
    rw [h2,q2a h3]
def AV.cell:AV→Bool
  | .val x=>x.oneCell'
  | .ptr _ _=>true
  | .sli _ _ _ _=>true
  | .fn _ _ _=>true
  | .own _=>true
  | .vw _ _ _=>true
  | .yl _=>true
  | .mpv _=>true
  | _=>false
def AV.cells:List AV→Bool
  | []=>true
  | a::l=>a.cell&&AV.cells l
theorem AV.cell_rel {β:Nm} {a:AV} {y:Value} (h:a.cell=true) (e:AV.rel β a y):y.oneCell'=true:=by
  cases a <;> simp only [AV.cell] at h <;> simp only [AV.rel] at e
  · rw [e];exact h
  · obtain ⟨_,_,_,_,rfl⟩:=e;rfl
  · obtain ⟨_,_,_,_,rfl⟩:=e;rfl
  · obtain ⟨_,e2⟩:=e
    cases y <;> first |rfl |cases e2
  · obtain ⟨_,_,rfl,_⟩:=e;rfl
  · cases h
  · cases h
  · obtain ⟨_,_,rfl,_⟩:=e;rfl
  · cases h
  · obtain ⟨_,_,_,_,rfl⟩:=e;rfl
  · obtain ⟨_,_,_,_,rfl⟩:=e;rfl
theorem AV.cells_rel {β:Nm}:∀ {l:List AV} {ys:List Value},AV.cells l=true→AV.rels β l ys→∀ y∈ys,y.oneCell'=true
  | [],_,_,e=>by simp only [AV.rels] at e;subst e;simp
  | a::l,_,h,e=>by
    simp only [AV.rels] at e
    obtain ⟨y,zs,rfl,h2,h3⟩:=e
    simp only [AV.cells,Bool.and_eq_true] at h
    intro z hz
    rcases List.mem_cons.1 hz with rfl |hz
    · exact AV.cell_rel h.1 h2
    · exact AV.cells_rel h.2 h3 z hz
/-! ### Tables of types -/
inductive TD where
  | int (k:IntKind)
  | bool
  | str
  | ptr (e:TypeId)
  | slice (e:TypeId)
  | arr (n:Nat) (e:TypeId)
  | strct (fs:List (Nat × TypeId))
  | fn
  | mapT (k e:TypeId)
  | iface
  | other
  deriving Inhabited
structure TI where
  td:TD
  size:Nat
  bytes:Nat
  zero:List Value
  deriving Inhabited
def tdOf (P:Program) (t:TypeId):TD :=
  match P.underlying t with
  | some (.int k)=>.int k
  | some .bool=>.bool
  | some .string=>.str
  | some (.pointer e)=>.ptr e
  | some (.slice e)=>.slice e
  | some (.array n e)=>.arr n e
  | some (.struct fs)=>.strct (fs.toList.map fun f=>(f.offset,f.type))
  | some (.func _ _ _)=>.fn
  | some (.map k e)=>.mapT k e
  | some (.interface _)=>.iface
  | _=>.other
def tiOf (P:Program) (t:TypeId):Option TI:=(P.info? t).bind fun i=>i.zero.map fun z=>⟨tdOf P t,i.size,i.bytes,z.cells.toList⟩
abbrev Tab:=List (TypeId × TI)
def look:Tab→TypeId→Option TI
  | [],_=>none
  | (u,i)::l,t=>cond (Nat.beq u t) (some i) (look l t)
def TOk (P:Program) (T:Tab):Prop:=T.map (fun e=>tiOf P e.1)=T.map (fun e=>some e.2)
theorem TOk.look {P:Program}:∀ {T:Tab},TOk P T→∀ {t:TypeId} {i:TI},look T t=some i→tiOf P t=some i
  | [],_,_,_,h=>by simp [Go.Proofs.YtegpkpilfgohhaaGreat.look] at h
  | (u,j)::l,hT,t,i,h=>by
    simp only [TOk,List.map_cons,List.cons.injEq] at hT
    unfold Go.Proofs.YtegpkpilfgohhaaGreat.look at h
    cases he:Nat.beq u t with
    | true =>
      rw [he] at h
      have:=Nat.eq_of_beq_eq_true he
      subst this
      cases h
      exact hT.1
    | false =>
      rw [he] at h
      exact TOk.look hT.2 h
structure TIok (P:Program) (t:TypeId) (i:TI):Prop where
  info:∃ q z,P.info? t=some q∧q.size=i.size∧q.bytes=i.bytes∧q.zero=some z∧z.cells.toList=i.zero
  td:tdOf P t=i.td
theorem tiOk {P:Program} {T:Tab} (hT:TOk P T) {t:TypeId} {i:TI} (h:look T t=some i):TIok P t i:=by
  have h1:=hT.look h
  unfold tiOf at h1
  cases hi:P.info? t with
  | none=>rw [hi] at h1;cases h1
  | some q =>
    rw [hi] at h1
    simp only [Option.bind_some] at h1
    cases hz:q.zero with
    | none=>rw [hz] at h1;cases h1
    | some z =>
      rw [hz] at h1
      simp only [Option.map_some,Option.some.injEq] at h1
      subst h1
      exact ⟨⟨q,z,hi,rfl,rfl,hz,rfl⟩,rfl⟩
section
variable {P:Program} {t:TypeId} {i:TI} (h:TIok P t i)
include h
theorem TIok.size (w:World):(sizeOf t).run P w=.ok i.size w:=by
  obtain ⟨q,z,h1,h2,_⟩:=h.info
  simp [sizeOf,typeInfo,h1,h2]
theorem TIok.zero (w:World):∃ z,(zeroValue t).run P w=.ok z w∧z.cells.toList=i.zero:=by
  obtain ⟨q,z,h1,_,_,h4,h5⟩:=h.info
  exact ⟨z,by simp [zeroValue,typeInfo,h1,h4],h5⟩
end
def q1b (T:Tab) (t:TypeId) (K:TI→Prop):Prop :=
  match look T t with
  | some i=>K i
  | none=>False
theorem q0y {P:Program} {T:Tab} (hT:TOk P T) {t:TypeId} {K:TI→Prop} (h:q1b T t K):∃ i,TIok P t i∧K i:=by
  unfold q1b at h
  split at h
  · rename_i i hi;exact ⟨i,tiOk hT hi,h⟩
  · exact h.elim
end Go.Proofs.YtegpkpilfgohhaaGreat
namespace Go.Proofs.YtegpkpilfgohhaaGreat
open Go.RowKit
def ev (fr:List AV):Operand→AV
  | .tmp t=>nthA fr t
  | .const v=>.val v
  | .global g=>.val (.pointer (some ⟨g,0,none⟩))
  | .func f=>.val (.func (.func f) #[] #[])
theorem q2s {β:Nm} {fr:List AV} {a:Act} (h:AV.rels β fr a.tmps.toList) (x:Operand):(ev fr x).rel β (a.eval x):=by
  cases x with
  | tmp t =>
    simp only [ev,Act.eval,q5s]
    cases hb:fr[t]? with
    | none=>simp only [Option.getD_none,AV.rel]
    | some b =>
      obtain ⟨y,h1,h2⟩:=AV.rels_get h hb
      have:a.tmps.getD t undef=y:=by
        rw [Array.getD_eq_getD_getElem?]
        simp at h1;simp [h1]
      rw [this];exact h2
  | const v=>simp only [ev,Act.eval,AV.rel]
  | global g=>simp only [ev,Act.eval,AV.rel]
  | func f=>simp only [ev,Act.eval,AV.rel]
def FW (ro:Option Nat):Fence:={ Fence.wide with round:=ro }
def Oper.wpW (P:Program) (o:Oper) (a:Act) (w:World) (next:Act→World→Prop) (Q:Exit→Act→World→Prop):Prop :=
  o.uponIn Fence.wide 0 P a next Q ((execOp a.eval o).run P w)
def q8g (P:Program) (ops:Array Oper) (Q:Exit→Act→World→Prop) (i:Nat) (K:Act→World→Prop) (a:Act) (w:World):Prop :=
  match ops[i]? with
  | none=>K a w
  | some o=>if Region.wanted o (yielded ops a.tmps) then Oper.wpW P o a w K Q∨False else K (a.put o.dst undef) w
def z45 (P:Program) (ops:Array Oper) (Q:Exit→Act→World→Prop):List Nat→Act→World→Prop
  | [],a,w=>Q .normal a w
  | i::rest,a,w=>q8g P ops Q i (z45 P ops Q rest) a w
def q5b (P:Program) (ops:Array Oper) (Q:Exit→Act→World→Prop):Nat→Array Bool→Act→World→Prop
  | 0,listed,a,w=>Region.ready .any ops listed=[]∧Q .normal a w
  | fuel+1,listed,a,w =>
    (Region.ready .any ops listed=[]→Q .normal a w) ∧
    ∀ i∈Region.ready .any ops listed,q8g P ops Q i (q5b P ops Q fuel (listed.setIfInBounds i true)) a w
def ndOp:Op→Bool
  | .defer _=>false
  | _=>true
def q9l:List Oper→Bool
  | []=>true
  | o::l=>match ndOp o.op with
    | true=>q9l l
    | false=>false
theorem z7j:∀ {l:List Oper},q9l l=true→∀ o∈l,∀ c,o.op≠.defer c
  | [],_,_,h,_=>by cases h
  | p::l,h,o,ho,c=>by
    have h':(match ndOp p.op with |true=>q9l l |false=>false)=true:=h
    cases hp:ndOp p.op with
    | false=>rw [hp] at h';cases h'
    | true =>
      rw [hp] at h'
      rcases List.mem_cons.1 ho with rfl |ho
      · intro e;rw [e] at hp;cases hp
      · exact z7j h' o ho c
theorem Oper.wpW_in {P:Program} {o:Oper} {a:Act} {w:World} {N:Act→World→Prop} {Q:Exit→Act→World→Prop} {ro:Option Nat} (hn:ro=none∨∀ c,o.op≠.defer c) (h:Oper.wpW P o a w N Q):o.wpIn (FW ro) 0 P a w N Q:=by
  refine ⟨fun _ _=>trivial,?_⟩
  have e:Oper.semAt (FW ro).round a.eval o=execOp a.eval o:=by
    rcases hn with rfl |hn
    · rfl
    · exact Oper.semAt_eq _ _ _ hn
  rw [e]
  unfold Oper.wpW at h
  generalize (execOp a.eval o).run P w=r at h ⊢
  cases r with
  | ok x w'=>cases x <;> first |exact h |exact h.elim
  | halt x w'=>cases x <;> first |exact h |exact h.elim
theorem z9n {P:Program} {ops:Array Oper} {Q:Exit→Act→World→Prop} {ro:Option Nat} (hn:ro=none∨q9l ops.toList=true) {i:Nat} {K:Act→World→Prop} {a:Act} {w:World} (h:q8g P ops Q i K a w):wpOpIn (FW ro) 0 P ops Q i K a w:=by
  unfold q8g at h
  unfold wpOpIn
  cases ho:ops[i]? with
  | none=>rw [ho] at h;exact h
  | some o =>
    rw [ho] at h
    simp only at h ⊢
    split
    · rename_i hw
      rw [if_pos hw] at h
      refine Oper.wpW_in ?_ (h.resolve_right id)
      rcases hn with hn |hn
      · exact .inl hn
      · exact .inr (z7j hn o (by simpa using Array.mem_of_getElem? ho))
    · rename_i hw
      rw [if_neg hw] at h
      exact ⟨fun _ _=>trivial,h⟩
theorem z7k {P:Program} {ops:Array Oper} {Q:Exit→Act→World→Prop} {ro:Option Nat} (hn:ro=none∨q9l ops.toList=true):∀ (l:List Nat) (a:Act) (w:World),z45 P ops Q l a w→wpOpsIn (FW ro) 0 P ops Q l a w
  | [],_,_,h=>h
  | i::l,a,w,h=>by
    rw [wpOpsIn_cons]
    exact wpOpIn_mono (fun a w h=>z7k hn l a w h) (z9n hn h)
theorem z7l {P:Program} {ops:Array Oper} {Q:Exit→Act→World→Prop} {ro:Option Nat} (hn:ro=none∨q9l ops.toList=true):∀ (fuel:Nat) (listed:Array Bool) (a:Act) (w:World),q5b P ops Q fuel listed a w→wpAnyIn (FW ro) 0 P .any ops Q fuel listed a w
  | 0,_,_,_,h=>h
  | fuel+1,_,a,w,h=>⟨h.1,fun i hi=>wpOpIn_mono (fun a w h=>z7l hn fuel _ a w h) (z9n hn (h.2 i hi))⟩
def OpS (P:Program) (o:Oper) (fr:List AV) (hp:List Blk) (G:Mem) (K:AV→List Blk→Mem→Prop):Prop :=
  ∀ (w0:World) (G0:Mem) (β:Nm) (a:Act) (w:World) (Q:Exit→Act→World→Prop) (N:Act→World→Prop),HR w0 G0 β hp G w→AV.rels β fr a.tmps.toList →
    (∀ β' v y hp' G' w',β.le β'→HR w0 G0 β' hp' G' w'→v.rel β' y→K v hp' G'→N (a.put o.dst y) w')→Oper.wpW P o a w N Q
def RunS (P:Program) (o:Oper) (fr:List AV) (hp:List Blk) (G:Mem) (K:AV→List Blk→Mem→Prop):Prop :=
  ∀ (w0:World) (G0:Mem) (β:Nm) (a:Act) (w:World),HR w0 G0 β hp G w→AV.rels β fr a.tmps.toList →
    ∃ nx y w' β' v hp' G',(execOp a.eval o).run P w=.ok nx w'∧(nx=.value y∨nx=.skip∧y=undef)∧β.le β'∧HR w0 G0 β' hp' G' w'∧v.rel β' y∧K v hp' G'
theorem OpS.of_run {P:Program} {o:Oper} {fr:List AV} {hp:List Blk} {G:Mem} {K:AV→List Blk→Mem→Prop} (h:RunS P o fr hp G K):OpS P o fr hp G K:=by
  intro w0 G0 β a w Q N hr hf hN
  obtain ⟨nx,y,w',β',v,hp',G',h1,h2,h3,h4,h5,h6⟩:=h w0 G0 β a w hr hf
  unfold Oper.wpW
  rw [h1]
  rcases h2 with rfl |⟨rfl,rfl⟩
  · exact hN β' v y hp' G' w' h3 h4 h5 h6
  · exact hN β' v undef hp' G' w' h3 h4 h5 h6
structure BR (base:Nat) (β:Nm) (hp:List Blk) (G:Mem) (w:World):Prop where
  blk:∀ k y x,β k=some y→hp[k]? = some x→x.rel base β G w y
  hold:G.holds w
theorem HR.br {w0:World} {G0:Mem} {β:Nm} {hp:List Blk} {G:Mem} {w:World} (h:HR w0 G0 β hp G w):BR w0.heap.size β hp G w :=
  ⟨fun k y x hk hx=>by
    obtain ⟨x',h1,h2⟩:=h.blk k y hk
    rw [hx] at h1;cases h1;exact h2,h.hold⟩
def q13 (o:Oper) (fr:List AV) (β:Nm) (ρ:Operand→Value):Prop:=∀ x∈o.op.operands.toList,(ev fr x).rel β (ρ x)
theorem q85 {o:Oper} {fr:List AV} {β:Nm} {a:Act} (h:AV.rels β fr a.tmps.toList):q13 o fr β a.eval:=fun x _=>q2s h x
def q2g (P:Program) (o:Oper) (fr:List AV) (hp:List Blk) (G:Mem) (K:AV→Prop):Prop :=
  ∃ v,K v∧∀ (base:Nat) (β:Nm) (ρ:Operand→Value) (w:World),BR base β hp G w→q13 o fr β ρ→∃ y,(execOp ρ o).run P w=.ok (.value y) w∧v.rel β y
theorem RunS.pure {P:Program} {o:Oper} {fr:List AV} {hp:List Blk} {G:Mem} {K:AV→List Blk→Mem→Prop} (h:q2g P o fr hp G fun v=>K v hp G):RunS P o fr hp G K:=by
  intro w0 G0 β a w hr hf
  obtain ⟨v,h1,h2⟩:=h
  obtain ⟨y,h3,h4⟩:=h2 _ β a.eval w hr.br (q85 hf)
  exact ⟨_,y,w,β,v,hp,G,h3,.inl rfl,Nm.le_refl _,hr,h4,h1⟩
/-! ### Taking abstract values apart -/
def q1v (a:AV) (K:IntKind→Int→Prop):Prop :=
  match a with
  | .val (.int k n)=>K k n
  | _=>False
theorem q1d {a:AV} {K:IntKind→Int→Prop} (h:q1v a K):∃ k n,a=.val (.int k n)∧K k n:=by
  unfold q1v at h
  split at h
  · exact ⟨_,_,rfl,h⟩
  · exact h.elim
def q7c (a:AV) (K:Bool→Prop):Prop :=
  match a with
  | .val (.bool b)=>K b
  | _=>False
theorem q99 {a:AV} {K:Bool→Prop} (h:q7c a K):∃ b,a=.val (.bool b)∧K b:=by
  unfold q7c at h
  split at h
  · exact ⟨_,rfl,h⟩
  · exact h.elim
def q8x (a:AV) (K:ByteArray→Prop):Prop :=
  match a with
  | .val (.string s)=>K s
  | _=>False
theorem q8h {a:AV} {K:ByteArray→Prop} (h:q8x a K):∃ b,a=.val (.string b)∧K b:=by
  unfold q8x at h
  split at h
  · exact ⟨_,rfl,h⟩
  · exact h.elim
def z0j (a:AV) (K:List AV→Prop):Prop :=
  match a with
  | .agg l=>K l
  | .val (.agg cs)=>q4e cs.toList K
  | .val (.tuple _)=>False
  | .any=>False
  | .tup _=>False
  | .val x=>K [.val x]
  | .ptr k o=>K [.ptr k o]
  | .sli k o l c=>K [.sli k o l c]
  | .own k=>K [.own k]
  | .vw k o n=>K [.vw k o n]
  | .fn f a b=>K [.fn f a b]
  | .yl k=>K [.yl k]
  | .mpv k=>K [.mpv k]
theorem q9m {a:AV} {K:List AV→Prop} (h:z0j a K):∃ l,K l∧∀ β y,a.rel β y→AV.rels β l y.cells.toList:=by
  unfold z0j at h
  split at h
  · rename_i l
    refine ⟨l,h,fun β y e=>?_⟩
    simp only [AV.rel] at e
    obtain ⟨cs,rfl,h2⟩:=e
    exact h2
  · rename_i cs
    rw [q2i] at h
    refine ⟨_,h,fun β y e=>?_⟩
    simp only [AV.rel] at e
    subst e
    exact AV.rels_vals _
  · exact h.elim
  · exact h.elim
  · exact h.elim
  · rename_i x h1 h2
    refine ⟨_,h,fun β y e=>?_⟩
    have e':=e
    simp only [AV.rel] at e'
    subst e'
    have hc:y.cells=#[y]:=by cases y <;> first |rfl |exact absurd rfl (h1 _)
    rw [hc];simp only [AV.rels];exact ⟨y,[],rfl,e,rfl⟩
  · refine ⟨_,h,fun β y e=>?_⟩
    have hc:y.cells=#[y]:=by
      simp only [AV.rel] at e;obtain ⟨_,_,_,_,rfl⟩:=e;rfl
    rw [hc];simp only [AV.rels];exact ⟨y,[],rfl,e,rfl⟩
  · refine ⟨_,h,fun β y e=>?_⟩
    have hc:y.cells=#[y]:=by
      simp only [AV.rel] at e;obtain ⟨_,_,_,_,rfl⟩:=e;rfl
    rw [hc];simp only [AV.rels];exact ⟨y,[],rfl,e,rfl⟩
  · refine ⟨_,h,fun β y e=>?_⟩
    have hc:y.cells=#[y]:=by
      simp only [AV.rel] at e;obtain ⟨_,e2⟩:=e
      cases y <;> first |rfl |cases e2
    rw [hc];simp only [AV.rels];exact ⟨y,[],rfl,e,rfl⟩
  · refine ⟨_,h,fun β y e=>?_⟩
    have hc:y.cells=#[y]:=by
      simp only [AV.rel] at e;obtain ⟨_,_,rfl,_⟩:=e;rfl
    rw [hc];simp only [AV.rels];exact ⟨y,[],rfl,e,rfl⟩
  · refine ⟨_,h,fun β y e=>?_⟩
    have hc:y.cells=#[y]:=by
      simp only [AV.rel] at e;obtain ⟨_,_,rfl,_⟩:=e;rfl
    rw [hc];simp only [AV.rels];exact ⟨y,[],rfl,e,rfl⟩
  · refine ⟨_,h,fun β y e=>?_⟩
    have hc:y.cells=#[y]:=by
      simp only [AV.rel] at e;obtain ⟨_,_,_,_,rfl⟩:=e;rfl
    rw [hc];simp only [AV.rels];exact ⟨y,[],rfl,e,rfl⟩
  · refine ⟨_,h,fun β y e=>?_⟩
    have hc:y.cells=#[y]:=by
      simp only [AV.rel] at e;obtain ⟨_,_,_,_,rfl⟩:=e;rfl
    rw [hc];simp only [AV.rels];exact ⟨y,[],rfl,e,rfl⟩
/-! ### New variables -/
def vNew (t:TypeId) (cs:List AV) (hp:List Blk) (G:Mem) (K:AV→List Blk→Mem→Prop):Prop :=
  lenF hp fun n=>catF hp [.cells t cs] fun hp'=>K (.ptr n 0) hp' G
def NewS (P:Program) (o:Oper) (fr:List AV) (hp:List Blk) (G:Mem) (K:AV→List Blk→Mem→Prop):Prop :=
  ∃ v x,K v (hp++[x]) G∧∀ (base:Nat) (β:Nm) (ρ:Operand→Value) (w:World),BR base β hp G w→base≤w.heap.size→β hp.length=none→q13 o fr β ρ →
    ∃ y z w',(execOp ρ o).run P w=.ok (.value y) w'∧Below w.heap.size w w'∧x.rel base (β.put hp.length z) G w' z∧(∀ b,q0i z=some b→w.heap.size≤b)∧v.rel (β.put hp.length z) y
theorem RunS.new {P:Program} {o:Oper} {fr:List AV} {hp:List Blk} {G:Mem} {K:AV→List Blk→Mem→Prop} (h:NewS P o fr hp G K):RunS P o fr hp G K:=by
  intro w0 G0 β a w hr hf
  obtain ⟨v,x,h1,h2⟩:=h
  have hn:=hr.fresh (Nat.le_refl _)
  obtain ⟨y,z,w',h3,h4,h5,h6,h7⟩:=h2 _ β a.eval w hr.br hr.below.size hn (q85 hf)
  exact ⟨_,y,w',_,v,_,G,h3,.inl rfl,Nm.le_put z hn,hr.name h4 h5 rfl h6,h7,h1⟩
theorem q5t {G:Mem} {w:World} (h:G.holds w) {b:Nat} (hb:w.heap.size≤b):G b=none:=by
  cases hg:G b with
  | none=>rfl
  | some o =>
    have:=(Array.getElem?_eq_some_iff.1 (h _ _ hg)).1
    omega
theorem z7m {base:Nat} {β:Nm} {hp:List Blk} {G:Mem} {w:World} (h:BR base β hp G w) (hb:base≤w.heap.size) {n:Nat} (hn:β n=none) {t:TypeId} {l:List AV} {c:Array Value} (hc:AV.rels β l c.toList) :
    (Blk.cells t l).rel base (β.put n (.pointer (some ⟨w.heap.size,0,none⟩))) G (w.alloc (.cells c t)) (.pointer (some ⟨w.heap.size,0,none⟩)) :=
  ⟨_,c,rfl,hb,q5t h.hold (Nat.le_refl _),heap_alloc_new w _,AV.rels_mono (Nm.le_put _ hn) _ _ hc⟩
theorem x2h {P:Program} {o:Oper} {fr:List AV} {hp:List Blk} {G:Mem} {K:AV→List Blk→Mem→Prop} {t:TypeId} {cs:List AV} (h:vNew t cs hp G K)
    (hrun:∀ (base:Nat) (β:Nm) (ρ:Operand→Value) (w:World),BR base β hp G w→q13 o fr β ρ→∃ c,AV.rels β cs c.toList∧(execOp ρ o).run P w=.ok (.value (.pointer (some ⟨w.heap.size,0,none⟩))) (w.alloc (.cells c t))):NewS P o fr hp G K:=by
  have h3:=q1y h
  rw [q09] at h3
  refine ⟨_,_,h3,fun base β ρ w hb hs hn hf=>?_⟩
  obtain ⟨c,h1,h2⟩:=hrun base β ρ w hb hf
  refine ⟨_,.pointer (some ⟨w.heap.size,0,none⟩),_,h2,(Below.refl _ _).alloc (Nat.le_refl _) _,z7m hb hs hn h1,fun b hb'=>by simp [q0i] at hb';omega,?_⟩
  simp only [AV.rel]
  exact ⟨_,w.heap.size,Nm.put_same _ _ _,rfl,rfl⟩
def z2a (T:Tab) (e:TypeId) (hp:List Blk) (G:Mem) (K:AV→List Blk→Mem→Prop):Prop :=
  q1b T e fun i=>q4e i.zero fun zs=>vNew e zs hp G K
theorem q9n {P:Program} {T:Tab} (hT:TOk P T) {o:Oper} {fr:List AV} {hp:List Blk} {G:Mem} {K:AV→List Blk→Mem→Prop} {e:TypeId} (ho:o.op=.alloc e) (h:z2a T e hp G K):NewS P o fr hp G K:=by
  obtain ⟨i,hi,h1⟩:=q0y hT h
  rw [q2i] at h1
  refine x2h h1 fun base β ρ w hr hf=>?_
  obtain ⟨z,hz,hz2⟩:=hi.zero (P:=P) w
  refine ⟨z.cells,by rw [hz2];exact AV.rels_vals _,?_⟩
  simp [execOp,ho,Instr.alloc,hz,newVar,newRow]
def vBox (e:TypeId) (x:Operand) (fr:List AV) (hp:List Blk) (G:Mem) (K:AV→List Blk→Mem→Prop):Prop :=
  z0j (ev fr x) fun cs=>vNew e cs hp G K
theorem z6p {P:Program} {o:Oper} {fr:List AV} {hp:List Blk} {G:Mem} {K:AV→List Blk→Mem→Prop} {e:TypeId} {x:Operand} (ho:o.op=.box e x) (h:vBox e x fr hp G K):NewS P o fr hp G K:=by
  obtain ⟨l,h1,h2⟩:=q9m h
  refine x2h h1 fun base β ρ w hr hf=>⟨(ρ x).cells,h2 _ _ (hf x (by simp [ho,Op.operands])),?_⟩
  simp [execOp,ho,Instr.box,newVar,newRow]
/-! ### Loads and stores -/
def TD.agg:TD→Bool
  | .strct _=>true
  | .arr _ _=>true
  | _=>false
def TD.says (P:Program) (t:TypeId):TD→Prop
  | .int k=>P.underlying t=some (.int k)
  | .bool=>P.underlying t=some .bool
  | .str=>P.underlying t=some .string
  | .ptr e=>P.underlying t=some (.pointer e)
  | .slice e=>P.underlying t=some (.slice e)
  | .arr n e=>P.underlying t=some (.array n e)
  | .strct fs=>∃ gs,P.underlying t=some (.struct gs)∧gs.toList.map (fun f=>(f.offset,f.type))=fs
  | .fn=>∃ a b c,P.underlying t=some (.func a b c)
  | .mapT k e=>P.underlying t=some (.map k e)
  | .iface=>∃ m,P.underlying t=some (.interface m)
  | .other=>True
theorem q1r {P:Program} {t:TypeId} {d:TD} (h:tdOf P t=d):d.says P t:=by
  subst h
  unfold tdOf
  cases hd:P.underlying t with
  | none=>trivial
  | some d=>cases d <;> simp [TD.says,hd]
def TD.known:TD→Bool
  | .other=>false
  | _=>true
theorem q9o {P:Program} {t:TypeId} {i:TI} (h:TIok P t i) (hk:i.td.known=true) (w:World):(isAgg t).run P w=.ok i.td.agg w:=by
  have h1:=q1r h.td
  cases hd:i.td with
  | other=>rw [hd] at hk;simp [TD.known] at hk
  | strct fs=>rw [hd] at h1;obtain ⟨gs,h2,_⟩:=h1;simp [isAgg,run_underlying h2,TD.agg]
  | fn=>rw [hd] at h1;obtain ⟨_,_,_,h2⟩:=h1;simp [isAgg,run_underlying h2,TD.agg]
  | iface=>rw [hd] at h1;obtain ⟨_,h2⟩:=h1;simp [isAgg,run_underlying h2,TD.agg]
  | _=>rw [hd] at h1;simp [isAgg,run_underlying h1,TD.agg]
theorem q02 (b o j:Nat):(⟨b,o,none⟩:Addr).add j=⟨b,o+j,none⟩:=by unfold Addr.add;split <;> simp_all
theorem z30 {P:Program} {t:TypeId} {i:TI} (h:TIok P t i) (hk:i.td.known=true) (w:World) (a:Addr) (cs:List Value) (hc:∀ j v,cs[j]? = some v→w.cell? (a.add j)=some v) (hl:cs.length=i.size) :
    (i.td.agg=true→(loadVar t a).run P w=.ok (.agg cs.toArray) w)∧(i.td.agg=false→∀ v,cs=[v]→(loadVar t a).run P w=.ok v w):=by
  refine ⟨fun ha=>?_,fun ha v hv=>?_⟩
  · have h1:=run_loadCells_list (P:=P) w a cs hc
    rw [hl] at h1
    simp [loadVar,q9o h hk,ha,h.size,h1]
  · subst hv
    have h1:=hc 0 v (by simp)
    have:a.add 0=a:=by simp [Addr.add]
    rw [this] at h1
    simp [loadVar,q9o h hk,ha,load,Sem.run,h1]
def aggF (i:TI) (cs:List AV) (K:AV→Prop):Prop :=
  match i.td with
  | .other=>False
  | .strct _=>K (.agg cs)
  | .arr _ _=>K (.agg cs)
  | _=>match cs with
    | [c]=>K c
    | _=>False
theorem x2i {i:TI} {cs:List AV} {K:AV→Prop} (h:aggF i cs K):i.td.known=true∧((i.td.agg=true∧K (.agg cs))∨(i.td.agg=false∧∃ c,cs=[c]∧K c)):=by
  unfold aggF at h
  cases hd:i.td <;> rw [hd] at h <;> simp only [TD.known,TD.agg,true_and,Bool.true_eq_false,Bool.false_eq_true,false_and,or_false,false_or] at *
  all_goals first |exact h.elim |exact h |skip
  all_goals
    split at h
    · exact ⟨_,rfl,h⟩
    · exact h.elim
def Mem.cellsAt (G:Mem) (a:Addr) (vs:List Value):Prop:=∀ j v,vs[j]? = some v→G.cell? (a.add j)=some v
inductive OldCells (G:Mem) (a:Addr) (n:Nat) (K:List Value→Prop):Prop
  | mk (vs:List Value) (e:vs.length=n∧G.cellsAt a vs) (h:K vs)
inductive OwnCells (xs:List Value) (o n:Nat) (K:List Value→Prop):Prop
  | mk (vs:List Value) (e:vs.length=n∧∀ (j:Nat) v,vs[j]? = some v→xs[o+j]? = some v) (h:K vs)
def q8i (T:Tab) (t:TypeId) (x:Operand) (fr:List AV) (hp:List Blk) (G:Mem) (K:AV→List Blk→Mem→Prop):Prop :=
  q1b T t fun i =>
    match ev fr x with
    | .ptr k o=>match nthB hp k with
      | .cells _ l=>subF l o i.size fun cs=>aggF i cs fun v=>K v hp G
      | .own _ _ _ xs=>OwnCells xs o i.size fun vs=>q4e vs fun cs=>aggF i cs fun v=>K v hp G
      | _=>False
    | .val (.pointer (some a))=>OldCells G a i.size fun vs=>q4e vs fun cs=>aggF i cs fun v=>K v hp G
    | _=>False
theorem q5u {w:World} {b:Nat} {c:Array Value} {t:TypeId} {fr:Nat × Nat} (h:w.heap[b]? = some (.cells c t fr)) (o:Nat):w.cell? ⟨b,o,none⟩=c[o]?:=by simp [World.cell?,h]
theorem q6u {w:World} {base e sz n:Nat} {y:Value} {xs:List Value} {b:Nat} (h:w.ownsRow base e sz y n xs) (hb:q0i y=some b) {j:Nat} {v:Value} (hj:xs[j]? = some v):w.cell? ⟨b,j,none⟩=some v:=by
  have hob:y.ownBlock=some b:=by
    rcases x4k y with h1 |h1
    · rw [h1];exact hb
    · rcases h.2 with ⟨rfl,_⟩ |⟨g,cap,cur,rfl,_⟩
      · simp [q0i] at hb
      · simp [Value.ownBlock] at h1
  have:=h.cells hob j v hj
  rwa [q02,Nat.zero_add] at this
theorem z2b {P:Program} {t:TypeId} {i:TI} (h:TIok P t i) {cs:List AV} {K:AV→Prop} (hK:aggF i cs K) :
    ∃ v,K v∧∀ (w:World) (a:Addr) (ys:List Value) (β:Nm),AV.rels β cs ys→(∀ j v,ys[j]? = some v→w.cell? (a.add j)=some v)→ys.length=i.size→∃ y,(loadVar t a).run P w=.ok y w∧v.rel β y:=by
  obtain ⟨hk,h1⟩:=x2i hK
  rcases h1 with ⟨ha,hK'⟩ |⟨ha,c,rfl,hK'⟩
  · refine ⟨_,hK',fun w a ys β hr hc hl=>?_⟩
    obtain ⟨h2,h3⟩:=z30 h hk w a ys hc hl
    exact ⟨_,h2 ha,by simp only [AV.rel];exact ⟨_,rfl,by simpa using hr⟩⟩
  · refine ⟨_,hK',fun w a ys β hr hc hl=>?_⟩
    obtain ⟨h2,h3⟩:=z30 h hk w a ys hc hl
    simp only [AV.rels] at hr
    obtain ⟨y,zs,rfl,h4,rfl⟩:=hr
    exact ⟨y,h3 ha y rfl,h4⟩
theorem z46 {P:Program} {T:Tab} (hT:TOk P T) {fr:List AV} {hp:List Blk} {G:Mem} {K:AV→List Blk→Mem→Prop} {t:TypeId} {x:Operand} (h:q8i T t x fr hp G K) :
    ∃ v,K v hp G∧∀ (base:Nat) (β:Nm) (u:Value) (w:World),BR base β hp G w→(ev fr x).rel β u→∃ p y,u=.pointer (some p)∧(loadVar t p).run P w=.ok y w∧v.rel β y:=by
  obtain ⟨i,hi,h1⟩:=q0y hT h
  split at h1
  · rename_i k off hx
    split at h1
    · rename_i t' l hl
      obtain ⟨h5,h6⟩:=x2f h1
      have hk:=q0x hl rfl
      obtain ⟨v,hv,hrun⟩:=z2b hi h6
      refine ⟨v,hv,fun base β u w hr he=>?_⟩
      rw [hx] at he
      simp only [AV.rel] at he
      obtain ⟨q,b,h2,h3,h4⟩:=he
      obtain ⟨b',c,rfl,_,_,h9,h10⟩:=hr.blk k q _ h2 hk
      simp [q0i] at h3;subst h3
      obtain ⟨y,h7,h8⟩:=hrun w ⟨b',off,none⟩ _ β (AV.rels_take _ (AV.rels_drop _ h10)) (fun j v hj=>by
        rw [q02,q5u h9]
        rw [List.getElem?_take] at hj
        split at hj
        · simpa using hj
        · cases hj) (by
        have:=AV.rels_length h10
        rw [List.length_take,List.length_drop];omega)
      exact ⟨_,y,h4,h7,h8⟩
    · rename_i e sz n xs hl
      obtain ⟨vs,⟨h5,h6⟩,h7⟩:=h1
      rw [q2i] at h7
      have hk:=q0x hl rfl
      obtain ⟨v,hv,hrun⟩:=z2b hi h7
      refine ⟨v,hv,fun base β u w hr he=>?_⟩
      rw [hx] at he
      simp only [AV.rel] at he
      obtain ⟨q,b,h2,h3,h4⟩:=he
      have h9:=hr.blk k q _ h2 hk
      obtain ⟨y,h10,h11⟩:=hrun w ⟨b,off,none⟩ _ β (AV.rels_vals _) (fun j v hj=>by
        rw [q02]
        exact q6u h9.1 h3 (h6 j v hj)) h5
      exact ⟨_,y,h4,h10,h11⟩
    · exact h1.elim
  · rename_i p hx
    obtain ⟨vs,⟨h5,h6⟩,h7⟩:=h1
    rw [q2i] at h7
    obtain ⟨v,hv,hrun⟩:=z2b hi h7
    refine ⟨v,hv,fun base β u w hr he=>?_⟩
    rw [hx] at he
    simp only [AV.rel] at he
    obtain ⟨y,h10,h11⟩:=hrun w p _ β (AV.rels_vals _) (fun j v hj=>hr.hold.cell (h6 j v hj)) h5
    exact ⟨_,y,he,h10,h11⟩
  · exact h1.elim
theorem z4h {P:Program} {T:Tab} (hT:TOk P T) {o:Oper} {fr:List AV} {hp:List Blk} {G:Mem} {K:AV→List Blk→Mem→Prop} {t:TypeId} {x:Operand} (ho:o.op=.load t x) (h:q8i T t x fr hp G K):q2g P o fr hp G fun v=>K v hp G:=by
  obtain ⟨v,h1,h2⟩:=z46 hT h
  refine ⟨v,h1,fun base β ρ w hr hf=>?_⟩
  obtain ⟨p,y,h3,h4,h5⟩:=h2 base β _ w hr (hf x (by simp [ho,Op.operands]))
  exact ⟨y,by simp [execOp,ho,h3,Instr.loadAt,Instr.sureAddr,h4],h5⟩
structure mustP (A B:Prop):Prop where
  left:A
  right:B
def x4l (T:Tab) (t:TypeId) (x z:Operand) (fr:List AV) (hp:List Blk) (G:Mem) (K:AV→List Blk→Mem→Prop):Prop :=
  q1b T t fun i=>z0j (ev fr z) fun cs=>lenF cs fun m=>q0w (Nat.beq m i.size) (q0w (AV.cells cs)
    (match ev fr x with
    | .ptr k o=>match nthB hp k with
      | .cells t' l=>q8w l o cs fun l'=>setF hp k (.cells t' l') fun hp'=>K (.val undef) hp' G
      | .own e sz n xs=>q14 cs fun vs=>mustP (o+vs.length≤xs.length) (setF hp k (.own e sz n (xs.take o++vs++xs.drop (o+vs.length))) fun hp'=>K (.val undef) hp' G)
      | _=>False
    | _=>False))
theorem q2t (w:World) (b:Nat) (c:Array Value):w.grownBy (w.setRow b c) (some b) :=
  ⟨rfl,rfl,rfl,by simp,fun k _ hne=>setRow_other w b k c (fun e=>hne (by rw [e]))⟩
theorem q6v {P:Program} {t:TypeId} {i:TI} (hi:TIok P t i) {w:World} {b off:Nat} {c:Array Value} {t':TypeId} {y:Value} {L:List Value} (hL:y.cells.toList=L) (hb:w.heap[b]? = some (.cells c t' (0,0))) (hs:L.length=i.size) (hle:off+L.length≤c.size)
    (h1:∀ v∈L,v.oneCell'=true):(storeVar t ⟨b,off,none⟩ y).run P w=.ok () (w.setRow b (c.toList.take off++L++c.toList.drop (off+L.length)).toArray):=by
  have h2:=run_storeCells_at P b off t' L 0 c w hb (by simpa using hle) h1
  simp only [Nat.add_zero] at h2
  have h3:y.cells.size=i.size:=by rw [← hs,← hL];simp
  unfold storeVar
  simp only [Sem.run_bind,hi.size,Result.andThen_ok,h3,ne_eq,not_true_eq_false,if_false]
  rw [hL]
  simpa using h2
theorem x2j {w:World} {base:Nat} {e:TypeId} {sz n:Nat} {xs vs:List Value} {v:Value} {off b:Nat} (hown:w.ownsRow base e sz v n xs) (h6:q0i v=some b) (h8:off+vs.length≤xs.length) :
    ∃ (cur:Array Value) (t':TypeId),w.heap[b]? = some (.cells cur t' (0,0))∧off+vs.length≤cur.size∧(w.setRow b (cur.toList.take off++vs++cur.toList.drop (off+vs.length)).toArray).ownsRow base e sz v n (xs.take off++vs++xs.drop (off+vs.length)):=by
  rcases hown.2 with ⟨rfl,_⟩ |⟨g,cap,cur,rfl,hg1,hg2,hg3,hg4,hg5,hg6⟩
  · simp [q0i] at h6
  simp [q0i] at h6;subst h6
  have hxl:xs.length≤cur.size:=by rw [← hg6,List.length_take];simp;omega
  refine ⟨cur,_,hg2,by omega,?_,.inr ⟨g,cap,_,rfl,hg1,setRow_heap _ _ _ _ _ _ hg2,hg3,hg4,?_,?_⟩⟩
  · rw [← hown.1]
    simp [List.length_take,List.length_drop];omega
  · rw [← hg5]
    simp [List.length_take,List.length_drop];omega
  · have hn:n*sz=xs.length:=hown.1.symm
    rw [hn] at hg6 ⊢
    apply List.ext_getElem?
    intro j
    have hx:∀ j,j<xs.length→cur.toList[j]? = xs[j]?:=fun j hj=>by rw [← hg6,List.getElem?_take,if_pos hj]
    simp only [List.getElem?_take,List.getElem?_append,List.length_take,List.length_append,List.getElem?_drop,Array.length_toList]
    have e1:min off cur.size=off:=by omega
    have e2:min off xs.length=off:=by omega
    rw [e1,e2]
    by_cases hj:j<xs.length
    · rw [if_pos hj]
      by_cases hj2:j<off
      · simp only [if_pos (show j<off+vs.length by omega),if_pos hj2];exact hx j hj
      · by_cases hj3:j<off+vs.length
        · simp only [if_pos hj3,if_neg hj2,if_pos (show j-off<vs.length by omega)]
        · simp only [if_neg hj3,if_neg hj2,if_neg (show ¬ j-off<vs.length by omega)]
          rw [hx _ (by omega)]
    · rw [if_neg hj]
      by_cases hj2:j<off+vs.length
      · omega
      · rw [if_neg hj2,List.getElem?_eq_none (by omega)]
theorem x4m {P:Program} {T:Tab} (hT:TOk P T) {o:Oper} {fr:List AV} {hp:List Blk} {G:Mem} {K:AV→List Blk→Mem→Prop} {t:TypeId} {x z:Operand} (ho:o.op=.store t x z) (h:x4l T t x z fr hp G K):RunS P o fr hp G K:=by
  obtain ⟨i,hi,h1⟩:=q0y hT h
  obtain ⟨cs,h2,hcs⟩:=q9m h1
  have h3:=q1y h2
  obtain ⟨hlen0,h3'⟩:=q0t h3
  obtain ⟨hcell,h4⟩:=q0t h3'
  have hlen:=Nat.eq_of_beq_eq_true hlen0
  intro w0 G0 β a w hr hf
  have he:=q2s hf x
  have hz:=hcs _ _ (q2s hf z)
  have hzl:(a.eval z).cells.toList.length=i.size:=by rw [AV.rels_length hz,hlen]
  have hone:=AV.cells_rel hcell hz
  split at h4
  · rename_i k off hx
    rw [hx] at he
    simp only [AV.rel] at he
    obtain ⟨v,b,h5,h6,h7⟩:=he
    split at h4
    · rename_i t' l hl
      have hk:=q0x hl rfl
      obtain ⟨h8,h9⟩:=q8f _ _ _ _ h4
      rw [q1c] at h9
      obtain ⟨x',h10,h11⟩:=hr.blk k v h5
      rw [hk] at h10;cases h10
      obtain ⟨b',c,rfl,hb1,hb2,hb3,hb4⟩:=h11
      have h6':=h6
      simp [q0i] at h6;subst h6
      have hcl:=AV.rels_length hb4
      have hrun:=q6v (P:=P) hi (off:=off) rfl hb3 hzl (by rw [hzl,← hlen];simp at hcl;omega) hone
      generalize hL:(a.eval z).cells.toList=L at *
      refine ⟨.skip,undef,_,β,.val undef,_,G,by simp [execOp,ho,h7,Instr.storeAt,Instr.sureAddr,hrun];rfl,.inr ⟨rfl,rfl⟩,Nm.le_refl _,?_,by simp only [AV.rel],h9⟩
      refine hr.setBlk h5 hk rfl h6' (q2t _ _ _) ⟨b',_,rfl,hb1,hb2,setRow_heap _ _ _ _ _ _ hb3,?_⟩
      have e:off+L.length=off+cs.length:=by rw [AV.rels_length hz]
      rw [e]
      simpa [List.append_assoc] using AV.rels_append (AV.rels_append (AV.rels_take off hb4) hz) (AV.rels_drop (off+cs.length) hb4)
    · rename_i e sz n xs hl
      have hk:=q0x hl rfl
      obtain ⟨vs,rfl,h8,h9⟩:=q3f _ _ h4
      rw [q1c] at h9
      obtain ⟨x',h10,h11⟩:=hr.blk k v h5
      rw [hk] at h10;cases h10
      obtain ⟨hown,hG⟩:=h11
      have hzv:=q2a hz
      obtain ⟨cur,t',hg2,hle,hnew⟩:=x2j hown h6 h8
      rw [List.append_assoc (cur.toList.take off)] at hnew
      have hrun:=q6v (P:=P) hi (off:=off) hzv hg2 (by rw [← hzv];exact hzl) hle (by rw [← hzv];exact hone)
      refine ⟨.skip,undef,_,β,.val undef,_,G,by simp [execOp,ho,h7,Instr.storeAt,Instr.sureAddr,hrun];rfl,.inr ⟨rfl,rfl⟩,Nm.le_refl _,?_,by simp only [AV.rel],h9⟩
      exact hr.setBlk h5 hk rfl h6 (q2t _ _ _) ⟨hnew,hG⟩
    · exact h4.elim
  · exact h4.elim
end Go.Proofs.YtegpkpilfgohhaaGreat
namespace Go.Proofs.YtegpkpilfgohhaaGreat
open Go.RowKit
structure condP (b:Bool) (A B:Prop):Prop where
  yes:b=true→A
  no:b=false→B
theorem z08 {A B:Prop} (h:A):condP true A B:=⟨fun _=>h,(fun e=>by cases e)⟩
theorem z0a {A B:Prop} (h:B):condP false A B:=⟨(fun e=>by cases e),fun _=>h⟩
theorem z2c {b:Bool} {A B:Prop} (e:b=true) (h:A):condP b A B:=by subst e;exact z08 h
theorem z4i {b:Bool} {A B:Prop} (e:b=false) (h:B):condP b A B:=by subst e;exact z0a h
theorem z9o {p:Prop} {i:Decidable p} {A B:Prop} (e:p) (h:A):condP (@decide p i) A B:=z2c (decide_eq_true e) h
theorem z9p {p:Prop} {i:Decidable p} {A B:Prop} (e:¬ p) (h:B):condP (@decide p i) A B:=z4i (decide_eq_false e) h
theorem q7t {p:Prop} {i:Decidable p} {A B:Prop} (h:p→A) (k:¬ p→B):condP (@decide p i) A B:=⟨fun e=>h (of_decide_eq_true e),fun e=>k (of_decide_eq_false e)⟩
inductive ArP (k:IntKind) (r:Int) (K:Int→Prop):Prop
  | mk (c:Int) (e:k.wrap r=c) (h:K c)
theorem z9q {k:IntKind} {r:Int} {K:Int→Prop} (c:Int) (e:k.wrap r=c) (h:K c):ArP k r K:=⟨c,e,h⟩
theorem x2k {r:Int} {K:Int→Prop} (e:-9223372036854775808≤r∧r≤9223372036854775807) (h:K r):ArP .i64 r K:=⟨r,IntWalk.i64_in _ e,h⟩
inductive isP {α:Type} (x:α) (K:α→Prop):Prop
  | mk (c:α) (e:x=c) (h:K c)
def x3g:IntKind→IntKind→Bool
  | .i8,.i8=>true
  | .i16,.i16=>true
  | .i32,.i32=>true
  | .i64,.i64=>true
  | .u8,.u8=>true
  | .u16,.u16=>true
  | .u32,.u32=>true
  | .u64,.u64=>true
  | _,_=>false
theorem z4j {a b:IntKind} (h:x3g a b=true):a=b:=by cases a <;> cases b <;> first |rfl |cases h
/-! ### Operations on values alone -/
def x3h (op:BinOp) (k:IntKind) (m:Int) (k':IntKind) (n:Int) (K:AV→Prop):Prop :=
  match op with
  | .shl=>mustP (0≤n) (ArP k (m*2 ^ (min n.toNat k.bits)) fun c=>K (.val (.int k c)))
  | .shr=>mustP (0≤n) (isP (m.fdiv (2 ^ (min n.toNat k.bits))) fun c=>K (.val (.int k c)))
  | _=>match x3g k k' with
    | false=>False
    | true=>match op with
      | .add=>ArP k (m+n) fun c=>K (.val (.int k c))
      | .sub=>ArP k (m-n) fun c=>K (.val (.int k c))
      | .mul=>ArP k (m*n) fun c=>K (.val (.int k c))
      | .quo=>mustP (n≠0) (ArP k (m.tdiv n) fun c=>K (.val (.int k c)))
      | .rem=>mustP (n≠0) (K (.val (.int k (m.tmod n))))
      | .and=>isP (bits .and k m n) fun c=>K (.val (.int k c))
      | .or=>isP (bits .or k m n) fun c=>K (.val (.int k c))
      | .xor=>isP (bits .xor k m n) fun c=>K (.val (.int k c))
      | .andNot=>isP (bits .andNot k m n) fun c=>K (.val (.int k c))
      | .eql=>K (.val (.bool (decide (m=n))))
      | .neq=>K (.val (.bool (decide (m≠n))))
      | .lss=>K (.val (.bool (decide (m<n))))
      | .leq=>K (.val (.bool (decide (m≤n))))
      | .gtr=>K (.val (.bool (decide (n<m))))
      | .geq=>K (.val (.bool (decide (n≤m))))
      | _=>False
theorem x6q {P:Program} {op:BinOp} {t:TypeId} {k k':IntKind} {m n:Int} {K:AV→Prop} (h:x3h op k m k' n K):∃ y,K (.val y)∧∀ w,(binOp op t (.int k m) (.int k' n)).run P w=.ok y w:=by
  unfold x3h at h
  split at h
  · obtain ⟨h0,c,h1,h2⟩:=h
    have:¬ n<0:=by omega
    exact ⟨_,h2,fun w=>by simp [binOp,Op.shift,this,h1]⟩
  · obtain ⟨h0,c,h1,h2⟩:=h
    have:¬ n<0:=by omega
    exact ⟨_,h2,fun w=>by simp [binOp,Op.shift,this,h1]⟩
  · rename_i hs1 hs2
    split at h
    · exact h.elim
    · rename_i hk
      obtain rfl:=z4j hk
      split at h
      · obtain ⟨c,h1,h2⟩:=h;exact ⟨_,h2,fun w=>by simp [binOp,Op.intArith,h1]⟩
      · obtain ⟨c,h1,h2⟩:=h;exact ⟨_,h2,fun w=>by simp [binOp,Op.intArith,h1]⟩
      · obtain ⟨c,h1,h2⟩:=h;exact ⟨_,h2,fun w=>by simp [binOp,Op.intArith,h1]⟩
      · obtain ⟨h0,c,h1,h2⟩:=h;exact ⟨_,h2,fun w=>by simp [binOp,Op.intDiv,h0,h1]⟩
      · obtain ⟨h0,h2⟩:=h;exact ⟨_,h2,fun w=>by simp [binOp,Op.intDiv,h0]⟩
      · obtain ⟨c,h1,h2⟩:=h;exact ⟨.int k c,h2,fun w=>by rw [← h1];simp [binOp,Op.intBits,bits]⟩
      · obtain ⟨c,h1,h2⟩:=h;exact ⟨.int k c,h2,fun w=>by rw [← h1];simp [binOp,Op.intBits,bits]⟩
      · obtain ⟨c,h1,h2⟩:=h;exact ⟨.int k c,h2,fun w=>by rw [← h1];simp [binOp,Op.intBits,bits]⟩
      · obtain ⟨c,h1,h2⟩:=h;exact ⟨.int k c,h2,fun w=>by rw [← h1];simp [binOp,Op.intBits,bits]⟩
      · exact ⟨_,h,fun w=>by simp [binOp,Op.intCmp];try rfl⟩
      · refine ⟨_,h,fun w=>?_⟩
        have e:(m != n)=decide (m≠n):=by by_cases hh:m=n <;> simp [hh]
        simp only [binOp,Op.intCmp,ne_eq,not_true_eq_false,if_false];rw [e];rfl
      · exact ⟨_,h,fun w=>by simp [binOp,Op.intCmp];try rfl⟩
      · exact ⟨_,h,fun w=>by simp [binOp,Op.intCmp];try rfl⟩
      · exact ⟨_,h,fun w=>by simp [binOp,Op.intCmp];try rfl⟩
      · exact ⟨_,h,fun w=>by simp [binOp,Op.intCmp];try rfl⟩
      · exact h.elim
inductive EqP (P:Program) (t:TypeId) (x y:Operand) (a b:AV) (K:Bool→Prop):Prop
  | mk (q:Bool) (e:∀ β u v w,a.rel β u→b.rel β v→(eqGuard .eql t x y u v).run P w=.ok () w∧(eqGuard .neq t x y u v).run P w=.ok () w∧(binOp .eql t u v).run P w=.ok (.bool q) w∧(binOp .neq t u v).run P w=.ok (.bool (!q)) w) (h:K q)
def vBin (P:Program) (op:BinOp) (t:TypeId) (x y:Operand) (fr:List AV) (K:AV→Prop):Prop :=
  q2r (ev fr x) fun a=>q2r (ev fr y) fun b=>match a with
  | .val (.int k m)=>q1v b fun k' n=>x3h op k m k' n K
  | .val (.string s)=>q8x b fun u=>match op with
    | .eql=>K (.val (.bool (s.toList==u.toList)))
    | .neq=>K (.val (.bool (!(s.toList==u.toList))))
    | .add=>mustP (s.size+u.size≤9223372036854775807) (K (.val (.string (s++u))))
    | _=>False
  | a=>match op with
    | .eql=>EqP P t x y a b fun q=>K (.val (.bool q))
    | .neq=>EqP P t x y a b fun q=>K (.val (.bool (!q)))
    | _=>False
theorem z6q {P:Program} {o:Oper} {fr:List AV} {hp:List Blk} {G:Mem} {K:AV→Prop} {op:BinOp} {t yt:TypeId} {x y:Operand} (ho:o.op=.binOp op t x y yt) (h:vBin P op t x y fr K):q2g P o fr hp G K:=by
  have hmx:x∈o.op.operands.toList:=by simp [ho,Op.operands]
  have hmy:y∈o.op.operands.toList:=by simp [ho,Op.operands]
  unfold vBin at h
  rw [q19,q19] at h
  split at h
  · rename_i k m hx'
    obtain ⟨k',n,hy',h1⟩:=q1d h
    obtain ⟨z,h3,h2⟩:=x6q (P:=P) (t:=t) h1
    refine ⟨_,h3,fun base β ρ w hr hf=>?_⟩
    have hx:=hf x hmx
    have hy:=hf y hmy
    rw [hx'] at hx;rw [hy'] at hy
    simp only [AV.rel] at hx hy
    exact ⟨z,by simp [execOp,ho,hx,hy,eqGuard,h2],by simp only [AV.rel]⟩
  · rename_i s hx'
    obtain ⟨u,hy',h1⟩:=q8h h
    split at h1
    · refine ⟨_,h1,fun base β ρ w hr hf=>?_⟩
      have hx:=hf x hmx
      have hy:=hf y hmy
      rw [hx'] at hx;rw [hy'] at hy
      simp only [AV.rel] at hx hy
      exact ⟨_,by simp [execOp,ho,hx,hy,eqGuard,binOp,Op.stringOp];(try rfl),by simp only [AV.rel]⟩
    · refine ⟨_,h1,fun base β ρ w hr hf=>?_⟩
      have hx:=hf x hmx
      have hy:=hf y hmy
      rw [hx'] at hx;rw [hy'] at hy
      simp only [AV.rel] at hx hy
      exact ⟨_,by simp [execOp,ho,hx,hy,eqGuard,binOp,Op.stringOp];(try rfl),by simp only [AV.rel]⟩
    · obtain ⟨h0,h2⟩:=h1
      refine ⟨_,h2,fun base β ρ w hr hf=>?_⟩
      have hx:=hf x hmx
      have hy:=hf y hmy
      rw [hx'] at hx;rw [hy'] at hy
      simp only [AV.rel] at hx hy
      exact ⟨_,by simp [execOp,ho,hx,hy,eqGuard,binOp,run_string_add_sum _ _ _ h0];(try rfl),by simp only [AV.rel]⟩
    · exact h1.elim
  · split at h
    · obtain ⟨q,h1,h2⟩:=h
      refine ⟨_,h2,fun base β ρ w hr hf=>?_⟩
      obtain ⟨h3,_,h4,_⟩:=h1 β _ _ w (hf x hmx) (hf y hmy)
      exact ⟨_,by simp [execOp,ho,h3,h4];(try rfl),by simp only [AV.rel]⟩
    · obtain ⟨q,h1,h2⟩:=h
      refine ⟨_,h2,fun base β ρ w hr hf=>?_⟩
      obtain ⟨_,h3,_,h4⟩:=h1 β _ _ w (hf x hmx) (hf y hmy)
      exact ⟨_,by simp [execOp,ho,h3,h4];(try rfl),by simp only [AV.rel]⟩
    · exact h.elim
def vUn (op:UnOp) (x:Operand) (fr:List AV) (K:AV→Prop):Prop :=
  match op with
  | .not=>q7c (ev fr x) fun b=>K (.val (.bool (!b)))
  | .neg=>q1v (ev fr x) fun k n=>ArP k (0-n) fun c=>K (.val (.int k c))
  | .xor=>q1v (ev fr x) fun k n=>isP (bits .xor k (if k.signed then -1 else k.max) n) fun c=>K (.val (.int k c))
  | _=>False
theorem x4n {P:Program} {o:Oper} {fr:List AV} {hp:List Blk} {G:Mem} {K:AV→Prop} {op:UnOp} {t:TypeId} {x:Operand} (ho:o.op=.unOp op t x) (h:vUn op x fr K):q2g P o fr hp G K:=by
  have hmx:x∈o.op.operands.toList:=by simp [ho,Op.operands]
  unfold vUn at h
  split at h
  · obtain ⟨b,hx',h1⟩:=q99 h
    refine ⟨_,h1,fun base β ρ w hr hf=>?_⟩
    have hx:=hf x hmx
    rw [hx'] at hx;simp only [AV.rel] at hx
    exact ⟨_,by simp [execOp,ho,hx,Op.unary];(try rfl),by simp only [AV.rel]⟩
  · obtain ⟨k,n,hx',c,h1,h2⟩:=q1d h
    refine ⟨_,h2,fun base β ρ w hr hf=>?_⟩
    have hx:=hf x hmx
    rw [hx'] at hx;simp only [AV.rel] at hx
    exact ⟨.int k c,by rw [← h1];simp [execOp,ho,hx,Op.unary,Op.intArith],by simp only [AV.rel]⟩
  · obtain ⟨k,n,hx',c,h1,h2⟩:=q1d h
    refine ⟨_,h2,fun base β ρ w hr hf=>?_⟩
    have hx:=hf x hmx
    rw [hx'] at hx;simp only [AV.rel] at hx
    exact ⟨.int k c,by rw [← h1];simp [execOp,ho,hx,Op.unary,Op.intBits,bits],by simp only [AV.rel]⟩
  · exact h.elim
def x79 (T:Tab) (F:Prop) (s d:TypeId) (x:Operand) (fr:List AV) (K:AV→Prop):Prop :=
  q1b T s fun i=>q1b T d fun j=>match j.td,i.td with
    | .int k,.int _=>q1v (ev fr x) fun _ n=>ArP k n fun c=>K (.val (.int k c))
    | .str,.str=>q8x (ev fr x) fun s=>K (.val (.string s))
    | _,_=>F
theorem z9r {P:Program} {T:Tab} (hT:TOk P T) {o:Oper} {fr:List AV} {hp:List Blk} {G:Mem} {K:AV→Prop} {s d:TypeId} {x:Operand} (ho:o.op=.convert s d x) {F:Prop} (h:x79 T F s d x fr K):q2g P o fr hp G K∨F:=by
  have hmx:x∈o.op.operands.toList:=by simp [ho,Op.operands]
  obtain ⟨i,hi,h1⟩:=q0y hT h
  obtain ⟨j,hj,h2⟩:=q0y hT h1
  split at h2
  · rename_i k k' hd hs
    have e1:=q1r (hd ▸ hj.td);have e2:=q1r (hs ▸ hi.td)
    simp only [TD.says] at e1 e2
    obtain ⟨k2,n,hx',c,h3,h4⟩:=q1d h2
    refine .inl ⟨_,h4,fun base β ρ w hr hf=>?_⟩
    have hx:=hf x hmx
    rw [hx'] at hx;simp only [AV.rel] at hx
    exact ⟨_,by simp [execOp,ho,hx,convert,run_underlying e1,run_underlying e2,Conv.intToInt];(try rfl),by simp only [AV.rel];rw [← h3]⟩
  · rename_i hd hs
    have e1:=q1r (hd ▸ hj.td);have e2:=q1r (hs ▸ hi.td)
    simp only [TD.says] at e1 e2
    obtain ⟨u,hx',h3⟩:=q8h h2
    refine .inl ⟨_,h3,fun base β ρ w hr hf=>?_⟩
    have hx:=hf x hmx
    rw [hx'] at hx;simp only [AV.rel] at hx
    exact ⟨_,by simp [execOp,ho,hx,convert,run_underlying e1,run_underlying e2];(try rfl),by simp only [AV.rel]⟩
  · exact .inr h2
def q9p (x:Operand) (fr:List AV) (K:AV→Prop):Prop :=
  match ev fr x with
  | .ptr k o=>K (.ptr k o)
  | .val (.pointer (some a))=>K (.val (.pointer (some a)))
  | _=>False
theorem q86 {P:Program} {o:Oper} {fr:List AV} {hp:List Blk} {G:Mem} {K:AV→Prop} {x:Operand} (ho:o.op=.nilCheck x) (h:q9p x fr K):q2g P o fr hp G K:=by
  have hmx:x∈o.op.operands.toList:=by simp [ho,Op.operands]
  unfold q9p at h
  split at h
  · rename_i k off hx'
    refine ⟨_,h,fun base β ρ w hr hf=>?_⟩
    have hx:=hf x hmx
    rw [hx'] at hx
    have hx2:=hx
    simp only [AV.rel] at hx
    obtain ⟨v,b,_,_,h3⟩:=hx
    exact ⟨ρ x,by simp [execOp,ho,h3],hx2⟩
  · rename_i p hx'
    refine ⟨_,h,fun base β ρ w hr hf=>?_⟩
    have hx:=hf x hmx
    rw [hx'] at hx
    have hx2:=hx
    simp only [AV.rel] at hx
    exact ⟨ρ x,by simp [execOp,ho,hx],hx2⟩
  · exact h.elim
def z47:List (Nat × TypeId)→Nat→(Nat→TypeId→Prop)→Prop
  | [],_,_=>False
  | (o,t)::_,0,K=>K o t
  | _::l,n+1,K=>z47 l n K
theorem z09:∀ {l:List (Nat × TypeId)} {n:Nat} {K:Nat→TypeId→Prop},z47 l n K→∃ o t,l[n]? = some (o,t)∧K o t
  | [],_,_,h=>h.elim
  | (o,t)::_,0,_,h=>⟨o,t,by simp,h⟩
  | _::l,n+1,_,h=>by
    obtain ⟨o,t,h1,h2⟩:=z09 (l:=l) (n:=n) h
    exact ⟨o,t,by simpa using h1,h2⟩
theorem z9s {P:Program} {s:TypeId} {fs:List (Nat × TypeId)} (h:tdOf P s=.strct fs) {n o:Nat} {t:TypeId} (hn:fs[n]? = some (o,t)):∃ (gs:Array Field) (f:Field),P.underlying s=some (.struct gs)∧gs[n]? = some f∧f.offset=o∧f.type=t:=by
  obtain ⟨gs,h1,h2⟩:=q1r h
  rw [← h2,List.getElem?_map] at hn
  cases hg:gs.toList[n]? with
  | none=>rw [hg] at hn;cases hn
  | some f =>
    rw [hg] at hn
    simp at hn
    exact ⟨gs,f,h1,by simpa using hg,hn.1,hn.2⟩
def z1a (T:Tab) (s:TypeId) (x:Operand) (n:Nat) (fr:List AV) (K:AV→Prop):Prop :=
  q1b T s fun i=>match i.td with
    | .strct fs=>z47 fs n fun off t=>q1b T t fun j=>q0w (Nat.blt 0 j.size) (match ev fr x with
      | .ptr k o=>K (.ptr k (o+off))
      | .val (.pointer (some a))=>K (.val (.pointer (some (a.add off))))
      | _=>False)
    | _=>False
theorem q79 {P:Program} {T:Tab} (hT:TOk P T) {o:Oper} {fr:List AV} {hp:List Blk} {G:Mem} {K:AV→Prop} {s:TypeId} {x:Operand} {n:Nat} (ho:o.op=.fieldAddr s x n) (h:z1a T s x n fr K):q2g P o fr hp G K:=by
  have hmx:x∈o.op.operands.toList:=by simp [ho,Op.operands]
  obtain ⟨i,hi,h1⟩:=q0y hT h
  split at h1
  · rename_i fs hd
    obtain ⟨off,t,h2,h3⟩:=z09 h1
    obtain ⟨gs,f,h4,h5,h6,h7⟩:=z9s (hd ▸ hi.td) h2
    obtain ⟨j,hj,h89⟩:=q0y hT h3
    obtain ⟨h8,h9⟩:=q0t h89
    have hsz:j.size≠0:=by simp [Nat.blt_eq] at h8;omega
    split at h9
    · rename_i k off' hx'
      refine ⟨_,h9,fun base β ρ w hr hf=>?_⟩
      have hx:=hf x hmx
      have hfs:=hj.size (P:=P) w
      rw [← h7] at hfs
      rw [hx'] at hx
      simp only [AV.rel] at hx
      obtain ⟨v,b,h10,h11,h12⟩:=hx
      refine ⟨.pointer (some ⟨b,off'+off,none⟩),?_,by simp only [AV.rel];exact ⟨v,b,h10,h11,rfl⟩⟩
      simp [execOp,ho,h12,Instr.fieldAt,run_underlying h4,h5,Instr.sureAddr,fieldPlace,hfs,hsz,h6,q02]
    · rename_i p hx'
      refine ⟨_,h9,fun base β ρ w hr hf=>?_⟩
      have hx:=hf x hmx
      have hfs:=hj.size (P:=P) w
      rw [← h7] at hfs
      rw [hx'] at hx
      simp only [AV.rel] at hx
      refine ⟨.pointer (some (p.add off)),?_,by simp only [AV.rel]⟩
      simp [execOp,ho,hx,Instr.fieldAt,run_underlying h4,h5,Instr.sureAddr,fieldPlace,hfs,hsz,h6]
    · exact h9.elim
  · exact h1.elim
def z3f (a:AV) (K:List AV→Prop):Prop :=
  match a with
  | .agg l=>K l
  | .val (.agg cs)=>q4e cs.toList K
  | _=>False
theorem z48 {a:AV} {K:List AV→Prop} (h:z3f a K):∃ l,K l∧∀ β y,a.rel β y→∃ cs,y=.agg cs∧AV.rels β l cs.toList:=by
  unfold z3f at h
  split at h
  · exact ⟨_,h,fun β y e=>by simpa only [AV.rel] using e⟩
  · rename_i cs
    rw [q2i] at h
    exact ⟨_,h,fun β y e=>by simp only [AV.rel] at e;exact ⟨cs,e,AV.rels_vals _⟩⟩
  · exact h.elim
theorem z9t {P:Program} {t:TypeId} {i:TI} (hi:TIok P t i) {l:List AV} {off:Nat} {K:AV→Prop} (h:subF l off i.size fun m=>aggF i m K) :
    ∃ v,K v∧∀ (β:Nm) (cs:Array Value) (w:World),AV.rels β l cs.toList→∃ y,(part t cs off).run P w=.ok y w∧v.rel β y:=by
  obtain ⟨h1,h2⟩:=x2f h
  obtain ⟨hk,h3⟩:=x2i h2
  rcases h3 with ⟨ha,h4⟩ |⟨ha,c,hc,h4⟩
  · refine ⟨_,h4,fun β cs w hl=>⟨.agg (cs.extract off (off+i.size)),?_,?_⟩⟩
    · simp [part,q9o hi hk,ha,hi.size]
    · simp only [AV.rel]
      refine ⟨_,rfl,?_⟩
      have:=AV.rels_take i.size (AV.rels_drop off hl)
      have e:(cs.extract off (off+i.size)).toList=(cs.toList.drop off).take i.size:=by simp [List.extract_eq_take_drop]
      rw [e];exact this
  · refine ⟨_,h4,fun β cs w hl=>?_⟩
    have:=AV.rels_take i.size (AV.rels_drop off hl)
    rw [hc] at this
    simp only [AV.rels] at this
    obtain ⟨y,zs,h5,h6,rfl⟩:=this
    have h7:cs[off]? = some y:=by
      have h8:=congrArg (fun l:List Value=>l[0]?) h5
      have hp:0<i.size:=by
        rcases Nat.eq_zero_or_pos i.size with h0 |h0
        · rw [h0] at h5;simp at h5
        · exact h0
      simp [hp] at h8
      exact h8
    exact ⟨y,by simp [part,q9o hi hk,ha,h7],h6⟩
def z9u (T:Tab) (s:TypeId) (x:Operand) (n:Nat) (fr:List AV) (K:AV→Prop):Prop :=
  q1b T s fun i=>match i.td with
    | .strct fs=>z47 fs n fun off t=>q1b T t fun j=>z3f (ev fr x) fun l=>subF l off j.size fun cs=>aggF j cs K
    | _=>False
theorem z2d {P:Program} {T:Tab} (hT:TOk P T) {o:Oper} {fr:List AV} {hp:List Blk} {G:Mem} {K:AV→Prop} {s:TypeId} {x:Operand} {n:Nat} (ho:o.op=.field s x n) (h:z9u T s x n fr K):q2g P o fr hp G K:=by
  have hmx:x∈o.op.operands.toList:=by simp [ho,Op.operands]
  obtain ⟨i,hi,h1⟩:=q0y hT h
  split at h1
  · rename_i fs hd
    obtain ⟨off,t,h2,h3⟩:=z09 h1
    obtain ⟨gs,f,h4,h5,h6,h7⟩:=z9s (hd ▸ hi.td) h2
    obtain ⟨j,hj,h8⟩:=q0y hT h3
    obtain ⟨l,h9,h10⟩:=z48 h8
    obtain ⟨v,h13,h14⟩:=z9t hj h9
    refine ⟨v,h13,fun base β ρ w hr hf=>?_⟩
    obtain ⟨cs,h11,h12⟩:=h10 β _ (hf x hmx)
    obtain ⟨y,h15,h16⟩:=h14 β cs w h12
    subst h6;subst h7
    exact ⟨y,by simp [execOp,ho,h11,Instr.field,run_underlying h4,h5,asAgg,h15],h16⟩
  · exact h1.elim
def q87 (i:Int) (n:Nat) (K:Nat→Prop):Prop:=mustP (0≤i∧i<n) (K i.toNat)
def z1b (T:Tab) (t:TypeId) (x ix:Operand) (fr:List AV) (hp:List Blk) (K:AV→Prop):Prop :=
  q1v (ev fr ix) fun _ i=>q1b T t fun q=>match q.td with
    | .arr n e=>q1b T e fun j=>match ev fr x with
      | .ptr k o=>q87 i n fun m=>K (.ptr k (o+m*j.size))
      | .val (.pointer (some a))=>q87 i n fun m=>K (.val (.pointer (some (a.add (m*j.size)))))
      | _=>False
    | .slice e=>q1b T e fun j=>match ev fr x with
      | .sli k o n _=>q87 i n fun m=>K (.ptr k (o+m*j.size))
      | .own k=>match nthB hp k with
        | .own _ _ n _=>q87 i n fun m=>K (.ptr k (m*j.size))
        | _=>False
      | .vw k o n=>q87 i n fun m=>K (.ptr k (o+m*j.size))
      | .val (.slice (some a) n _)=>q87 i n fun m=>K (.val (.pointer (some (a.add (m*j.size)))))
      | _=>False
    | _=>False
theorem q8a {P:Program} {T:Tab} (hT:TOk P T) {o:Oper} {fr:List AV} {hp:List Blk} {G:Mem} {K:AV→Prop} {t:TypeId} {x ix:Operand} (ho:o.op=.indexAddr t x ix) (h:z1b T t x ix fr hp K):q2g P o fr hp G K:=by
  have hmx:x∈o.op.operands.toList:=by simp [ho,Op.operands]
  have hmi:ix∈o.op.operands.toList:=by simp [ho,Op.operands]
  obtain ⟨ki,i,he,h1⟩:=q1d h
  obtain ⟨q,hq,h2⟩:=q0y hT h1
  split at h2
  · rename_i n e hd
    have hu:=q1r (hd ▸ hq.td)
    simp only [TD.says] at hu
    obtain ⟨j,hj,h3⟩:=q0y hT h2
    split at h3
    · rename_i k off hx'
      obtain ⟨⟨h4,h5⟩,h6⟩:=h3
      refine ⟨_,h6,fun base β ρ w hr hf=>?_⟩
      have hx:=hf x hmx
      have hix:=hf ix hmi
      rw [he] at hix;rw [hx'] at hx;simp only [AV.rel] at hx hix
      obtain ⟨v,b,h7,h8,h9⟩:=hx
      refine ⟨.pointer (some ⟨b,off+i.toNat * j.size,none⟩),?_,by simp only [AV.rel];exact ⟨v,b,h7,h8,rfl⟩⟩
      simp [execOp,ho,h9,hix,Instr.indexAt,asIntOf,run_underlying hu,Instr.sureAddr,h4,h5,hj.size,q02]
    · rename_i p hx'
      obtain ⟨⟨h4,h5⟩,h6⟩:=h3
      refine ⟨_,h6,fun base β ρ w hr hf=>?_⟩
      have hx:=hf x hmx
      have hix:=hf ix hmi
      rw [he] at hix;rw [hx'] at hx;simp only [AV.rel] at hx hix
      refine ⟨.pointer (some (p.add (i.toNat * j.size))),?_,by simp only [AV.rel]⟩
      simp [execOp,ho,hx,hix,Instr.indexAt,asIntOf,run_underlying hu,Instr.sureAddr,h4,h5,hj.size]
    · exact h3.elim
  · rename_i e hd
    have hu:=q1r (hd ▸ hq.td)
    simp only [TD.says] at hu
    obtain ⟨j,hj,h3⟩:=q0y hT h2
    split at h3
    · rename_i k off n c hx'
      obtain ⟨⟨h4,h5⟩,h6⟩:=h3
      refine ⟨_,h6,fun base β ρ w hr hf=>?_⟩
      have hx:=hf x hmx
      have hix:=hf ix hmi
      rw [he] at hix;rw [hx'] at hx;simp only [AV.rel] at hx hix
      obtain ⟨v,b,h7,h8,h9⟩:=hx
      refine ⟨.pointer (some ⟨b,off+i.toNat * j.size,none⟩),?_,by simp only [AV.rel];exact ⟨v,b,h7,h8,rfl⟩⟩
      simp [execOp,ho,h9,hix,Instr.indexAt,asIntOf,run_underlying hu,h4,h5,hj.size,q02]
    · rename_i k hx'
      split at h3
      · rename_i e' sz n xs hb
        obtain ⟨⟨h4,h5⟩,h6⟩:=h3
        refine ⟨_,h6,fun base β ρ w hr hf=>?_⟩
        have hx:=hf x hmx
        have hix:=hf ix hmi
        rw [he] at hix;rw [hx'] at hx;simp only [AV.rel] at hx hix
        have hu2:=hr.blk k _ _ hx.1 (q0x hb rfl)
        rcases hu2.1.2 with ⟨h7,h8⟩ |⟨g,cap,cur,h7,_⟩
        · omega
        · refine ⟨.pointer (some ⟨g,i.toNat * j.size,none⟩),?_,by simp only [AV.rel];exact ⟨_,g,hx.1,by rw [h7];rfl,rfl⟩⟩
          simp [execOp,ho,h7,hix,Instr.indexAt,asIntOf,run_underlying hu,h4,h5,hj.size,q02]
      · exact h3.elim
    · rename_i k off n hx'
      obtain ⟨⟨h4,h5⟩,h6⟩:=h3
      refine ⟨_,h6,fun base β ρ w hr hf=>?_⟩
      have hx:=hf x hmx
      have hix:=hf ix hmi
      rw [he] at hix;rw [hx'] at hx;simp only [AV.rel] at hx hix
      obtain ⟨A,c,h9,_,_,h10⟩:=hx
      obtain ⟨v,b,h7,h8,rfl⟩:=h10 (by omega)
      refine ⟨.pointer (some ⟨b,off+i.toNat * j.size,none⟩),?_,by simp only [AV.rel];exact ⟨v,b,h7,h8,rfl⟩⟩
      simp [execOp,ho,h9,hix,Instr.indexAt,asIntOf,run_underlying hu,h4,h5,hj.size,q02]
    · rename_i p n c hx'
      obtain ⟨⟨h4,h5⟩,h6⟩:=h3
      refine ⟨_,h6,fun base β ρ w hr hf=>?_⟩
      have hx:=hf x hmx
      have hix:=hf ix hmi
      rw [he] at hix;rw [hx'] at hx;simp only [AV.rel] at hx hix
      refine ⟨.pointer (some (p.add (i.toNat * j.size))),?_,by simp only [AV.rel]⟩
      simp [execOp,ho,hx,hix,Instr.indexAt,asIntOf,run_underlying hu,h4,h5,hj.size]
    · exact h3.elim
  · exact h2.elim
end Go.Proofs.YtegpkpilfgohhaaGreat
namespace Go.Proofs.YtegpkpilfgohhaaGreat
open Go.RowKit
def z9v (T:Tab) (t:TypeId) (x ix:Operand) (fr:List AV) (K:AV→Prop):Prop :=
  q1v (ev fr ix) fun _ i=>q1b T t fun q=>match q.td with
    | .arr n e=>q1b T e fun j=>z3f (ev fr x) fun l=>q87 i n fun m=>subF l (m*j.size) j.size fun cs=>aggF j cs K
    | .str=>q8x (ev fr x) fun s=>mustP (0≤i) (∃ b:UInt8,s[i.toNat]? = some b∧K (.val (.int .u8 b.toNat)))
    | _=>False
theorem z2e {P:Program} {T:Tab} (hT:TOk P T) {o:Oper} {fr:List AV} {hp:List Blk} {G:Mem} {K:AV→Prop} {t:TypeId} {x ix:Operand} (ho:o.op=.index t x ix) (h:z9v T t x ix fr K):q2g P o fr hp G K:=by
  have hmx:x∈o.op.operands.toList:=by simp [ho,Op.operands]
  have hmi:ix∈o.op.operands.toList:=by simp [ho,Op.operands]
  obtain ⟨ki,i,he,h1⟩:=q1d h
  obtain ⟨q,hq,h2⟩:=q0y hT h1
  split at h2
  · rename_i n e hd
    have hu:=q1r (hd ▸ hq.td)
    simp only [TD.says] at hu
    obtain ⟨j,hj,h3⟩:=q0y hT h2
    obtain ⟨l,h4,h5⟩:=z48 h3
    obtain ⟨⟨h8,h9⟩,h10⟩:=h4
    obtain ⟨v,h11,h12⟩:=z9t hj h10
    refine ⟨v,h11,fun base β ρ w hr hf=>?_⟩
    have hix:=hf ix hmi
    rw [he] at hix;simp only [AV.rel] at hix
    obtain ⟨cs,h6,h7⟩:=h5 β _ (hf x hmx)
    obtain ⟨y,h13,h14⟩:=h12 β cs w h7
    exact ⟨y,by simp [execOp,ho,h6,hix,Instr.index,asIntOf,run_underlying hu,h8,h9,hj.size,h13],h14⟩
  · rename_i hd
    have hu:=q1r (hd ▸ hq.td)
    simp only [TD.says] at hu
    obtain ⟨s,hs,h3,b,h4,h5⟩:=q8h h2
    refine ⟨_,h5,fun base β ρ w hr hf=>?_⟩
    have hx:=hf x hmx
    have hix:=hf ix hmi
    rw [he] at hix;rw [hs] at hx;simp only [AV.rel] at hx hix
    exact ⟨.int .u8 b.toNat,by simp [execOp,ho,hx,hix,Instr.index,asIntOf,run_underlying hu,h3,h4],by simp only [AV.rel]⟩
  · exact h2.elim
def lowF (x:Option Operand) (fr:List AV) (d:Nat) (K:Int→Prop):Prop :=
  match x with
  | none=>K d
  | some x=>q1v (ev fr x) fun _ i=>K i
def x4o (T:Tab) (t:TypeId) (x:Operand) (lo hi:Option Operand) (fr:List AV) (hp:List Blk) (K:AV→Prop):Prop :=
  q1b T t fun q=>match q.td with
    | .slice e=>q1b T e fun j=>match ev fr x with
      | .val (.slice A n c)=>lowF lo fr 0 fun l=>lowF hi fr n fun h=>mustP (0≤l∧l≤h∧h≤c) (K (.val (.slice (if c=l.toNat then A else A.map (·.add (l.toNat * j.size))) (h.toNat-l.toNat) (c-l.toNat))))
      | .sli k o n c=>lowF lo fr 0 fun l=>lowF hi fr n fun h=>mustP (0≤l∧l≤h∧h≤c) (K (.sli k (if c=l.toNat then o else o+l.toNat * j.size) (h.toNat-l.toNat) (c-l.toNat)))
      | .own k=>match nthB hp k with
        | .own _ _ n _=>q0w (Nat.blt 0 j.size) (lowF lo fr 0 fun l=>lowF hi fr n fun h=>mustP (0≤l∧l≤h∧h≤n) (K (.vw k (l.toNat * j.size) (h.toNat-l.toNat))))
        | _=>False
      | .vw k o n=>q0w (Nat.blt 0 j.size) (lowF lo fr 0 fun l=>lowF hi fr n fun h=>mustP (0≤l∧l≤h∧h≤n) (K (.vw k (o+l.toNat * j.size) (h.toNat-l.toNat))))
      | _=>False
    | .arr n e=>q1b T e fun j=>match ev fr x with
      | .ptr k o=>lowF lo fr 0 fun l=>lowF hi fr n fun h=>mustP (0≤l∧l≤h∧h≤n) (K (.sli k (if n=l.toNat then o else o+l.toNat * j.size) (h.toNat-l.toNat) (n-l.toNat)))
      | _=>False
    | .ptr a=>q1b T a fun r=>match r.td with
      | .arr n e=>q1b T e fun j=>match ev fr x with
        | .ptr k o=>lowF lo fr 0 fun l=>lowF hi fr n fun h=>mustP (0≤l∧l≤h∧h≤n) (K (.sli k (if n=l.toNat then o else o+l.toNat * j.size) (h.toNat-l.toNat) (n-l.toNat)))
        | _=>False
      | _=>False
    | .str=>match ev fr x with
      | .val (.string s)=>lowF lo fr 0 fun l=>lowF hi fr s.size fun h=>mustP (0≤l∧l≤h∧h≤s.size) (K (.val (.string (s.extract l.toNat h.toNat))))
      | _=>False
    | _=>False
theorem q2p {fr:List AV} {lo:Option Operand} {d:Nat} {K:Int→Prop} (h:lowF lo fr d K) :
    ∃ l,K l∧∀ (β:Nm) (ρ:Operand→Value),(∀ x∈lo.toArray.toList,(ev fr x).rel β (ρ x))→((lo=none∧l=d)∨∃ x k,lo=some x∧ρ x=.int k l):=by
  unfold lowF at h
  split at h
  · exact ⟨_,h,fun _ _ _=>.inl ⟨rfl,rfl⟩⟩
  · rename_i x
    obtain ⟨k,i,h1,h2⟩:=q1d h
    refine ⟨i,h2,fun β ρ hf=>?_⟩
    have:=hf x (by simp)
    rw [h1] at this;simp only [AV.rel] at this
    exact .inr ⟨x,k,rfl,this⟩
theorem q21 {P:Program} {ρ:Operand→Value} {w:World} {isS:Bool} {len cap:Nat} {lo hi:Option Operand} {l h:Int} (hl:(lo=none∧l=(0:Nat))∨∃ x k,lo=some x∧ρ x=.int k l) (hh:(hi=none∧h=len)∨∃ x k,hi=some x∧ρ x=.int k h)
    (h1:0≤l) (h2:l≤h) (h3:h≤cap):(Instr.sliceBounds isS len cap (lo.map ρ) (hi.map ρ) none).run P w=.ok (l.toNat,h.toNat,cap) w:=by
  have b:∀ (k:IntKind) (i:Int) (y:Nat) (code:BoundsCode),0≤i→i≤y→(Instr.sliceBound (.int k i) y code).run P w=.ok i.toNat w:=fun k i y code g1 g2=>run_sliceBound w k i y code g1 g2
  have hh':h=(h.toNat:Int):=by omega
  rcases hl with ⟨rfl,rfl⟩ |⟨x,k,rfl,e1⟩ <;> rcases hh with ⟨rfl,rfl⟩ |⟨x',k',rfl,e2⟩
  · simp [Instr.sliceBounds]
  · simp [Instr.sliceBounds,e2,b k' h cap _ (by omega) h3]
  · simp [Instr.sliceBounds,e1,b k l len _ h1 h2]
  · simp [Instr.sliceBounds,e1,e2,b k' h cap _ (by omega) h3,b k l h.toNat _ h1 (by omega)]
theorem z7n {P:Program} {T:Tab} (hT:TOk P T) {o:Oper} {fr:List AV} {hp:List Blk} {G:Mem} {K:AV→Prop} {t:TypeId} {x:Operand} {lo hi:Option Operand} (ho:o.op=.slice t x lo hi none) (h:x4o T t x lo hi fr hp K):q2g P o fr hp G K:=by
  have hmx:x∈o.op.operands.toList:=by simp [ho,Op.operands]
  have hml:∀ z∈lo.toArray.toList,z∈o.op.operands.toList:=fun z hz=>by cases lo <;> simp_all [Op.operands]
  have hmh:∀ z∈hi.toArray.toList,z∈o.op.operands.toList:=fun z hz=>by cases hi <;> simp_all [Op.operands]
  obtain ⟨q,hq,h1⟩:=q0y hT h
  split at h1
  · rename_i e hd
    have hu:=q1r (hd ▸ hq.td)
    simp only [TD.says] at hu
    obtain ⟨j,hj,h2⟩:=q0y hT h1
    split at h2
    · rename_i A n c hx'
      obtain ⟨l,h3,hl⟩:=q2p h2
      obtain ⟨r,h4,hh⟩:=q2p h3
      obtain ⟨⟨g1,g2,g3⟩,h5⟩:=h4
      refine ⟨_,h5,fun base β ρ w hr hf=>?_⟩
      have hx:=hf x hmx
      rw [hx'] at hx;simp only [AV.rel] at hx
      have hb:=q21 (P:=P) (w:=w) (isS:=true) (hl β ρ fun z hz=>hf z (hml z hz)) (hh β ρ fun z hz=>hf z (hmh z hz)) g1 g2 g3
      exact ⟨_,by simp [execOp,ho,hx,Instr.sliceAt,Instr.slice,run_underlying hu,hb,hj.size];(try rfl),by simp only [AV.rel]⟩
    · rename_i k off n c hx'
      obtain ⟨l,h3,hl⟩:=q2p h2
      obtain ⟨r,h4,hh⟩:=q2p h3
      obtain ⟨⟨g1,g2,g3⟩,h5⟩:=h4
      refine ⟨_,h5,fun base β ρ w hr hf=>?_⟩
      have hx:=hf x hmx
      rw [hx'] at hx;simp only [AV.rel] at hx
      obtain ⟨v,b,e1,e2,hx⟩:=hx
      have hb:=q21 (P:=P) (w:=w) (isS:=true) (hl β ρ fun z hz=>hf z (hml z hz)) (hh β ρ fun z hz=>hf z (hmh z hz)) g1 g2 g3
      refine ⟨.slice (some ⟨b,if c=l.toNat then off else off+l.toNat * j.size,none⟩) (r.toNat-l.toNat) (c-l.toNat),?_,by simp only [AV.rel];exact ⟨v,b,e1,e2,rfl⟩⟩
      simp only [execOp,ho,hx,Instr.sliceAt,Instr.slice,run_underlying hu,Option.map_none,Sem.run_bind,Sem.run_pure,Result.andThen_ok,hb,hj.size]
      split <;> simp [q02]
    · rename_i k hx'
      split at h2
      · rename_i e' sz n xs hbk
        obtain ⟨hsz0,h2⟩:=q0t h2
        have hsz:0<j.size:=by simpa [Nat.blt_eq] using hsz0
        obtain ⟨l,h3,hl⟩:=q2p h2
        obtain ⟨r,h4,hh⟩:=q2p h3
        obtain ⟨⟨g1,g2,g3⟩,h5⟩:=h4
        refine ⟨_,h5,fun base β ρ w hr hf=>?_⟩
        have hx:=hf x hmx
        rw [hx'] at hx;simp only [AV.rel] at hx
        have hu2:=hr.blk k _ _ hx.1 (q0x hbk rfl)
        have form:∃ A c,ρ x=.slice A n c∧n≤c∧((A=none→c=0)∧∃ m,β k=some (.slice A m c))∧(0<n→∃ v b,β k=some v∧q0i v=some b∧A=some ⟨b,0,none⟩):=by
          rcases hu2.1.2 with ⟨h7,h8⟩ |⟨g,cap,cur,h7,_,_,h8,_⟩
          · subst h8;exact ⟨none,0,h7,Nat.le_refl _,⟨fun _=>rfl,0,by rw [hx.1,h7]⟩,fun h=>by omega⟩
          · exact ⟨_,cap,h7,h8,⟨(fun h=>by cases h),n,by rw [hx.1,h7]⟩,fun _=>⟨_,g,hx.1,by rw [h7];rfl,rfl⟩⟩
        obtain ⟨A,c,e1,e2,e3,e4⟩:=form
        have hb:=q21 (P:=P) (w:=w) (isS:=true) (cap:=c) (hl β ρ fun z hz=>hf z (hml z hz)) (hh β ρ fun z hz=>hf z (hmh z hz)) g1 g2 (by omega)
        refine ⟨.slice (if c=l.toNat then A else A.map (·.add (l.toNat * j.size))) (r.toNat-l.toNat) (c-l.toNat),?_,?_⟩
        · simp [execOp,ho,e1,Instr.sliceAt,Instr.slice,run_underlying hu,hb,hj.size];(try rfl)
        · simp only [AV.rel]
          refine ⟨_,_,rfl,by omega,⟨fun h=>?_,fun h=>?_⟩,fun h=>?_⟩
          · split at h
            · omega
            · have:=e3.1 (by simpa using h);omega
          · have hl0:l.toNat=0:=by
              rcases Nat.mul_eq_zero.1 h with h |h
              · exact h
              · omega
            obtain ⟨m,hm⟩:=e3.2
            refine ⟨m,?_⟩
            rw [hm,hl0]
            cases A <;> simp [Addr.add]
          · obtain ⟨v,b,q1,q2,q3⟩:=e4 (by omega)
            refine ⟨v,b,q1,q2,?_⟩
            rw [if_neg (by omega),q3]
            simp [q02]
      · exact h2.elim
    · rename_i k off n hx'
      obtain ⟨hsz0,h2⟩:=q0t h2
      have hsz:0<j.size:=by simpa [Nat.blt_eq] using hsz0
      obtain ⟨l,h3,hl⟩:=q2p h2
      obtain ⟨r,h4,hh⟩:=q2p h3
      obtain ⟨⟨g1,g2,g3⟩,h5⟩:=h4
      refine ⟨_,h5,fun base β ρ w hr hf=>?_⟩
      have hx:=hf x hmx
      rw [hx'] at hx;simp only [AV.rel] at hx
      obtain ⟨A,c,e1,e2,e3,e4⟩:=hx
      have hb:=q21 (P:=P) (w:=w) (isS:=true) (cap:=c) (hl β ρ fun z hz=>hf z (hml z hz)) (hh β ρ fun z hz=>hf z (hmh z hz)) g1 g2 (by omega)
      refine ⟨.slice (if c=l.toNat then A else A.map (·.add (l.toNat * j.size))) (r.toNat-l.toNat) (c-l.toNat),?_,?_⟩
      · simp [execOp,ho,e1,Instr.sliceAt,Instr.slice,run_underlying hu,hb,hj.size];(try rfl)
      · simp only [AV.rel]
        refine ⟨_,_,rfl,by omega,⟨fun h=>?_,fun h=>?_⟩,fun h=>?_⟩
        · split at h
          · omega
          · have:=e3.1 (by simpa using h);omega
        · have hl0:l.toNat=0:=by
            rcases Nat.mul_eq_zero.1 (show l.toNat * j.size=0 by omega) with h |h
            · exact h
            · omega
          obtain ⟨m,hm⟩:=e3.2 (by omega)
          refine ⟨m,?_⟩
          rw [hm,hl0]
          cases A <;> simp [Addr.add]
        · obtain ⟨v,b,q1,q2,q3⟩:=e4 (by omega)
          refine ⟨v,b,q1,q2,?_⟩
          rw [if_neg (by omega),q3]
          simp [q02]
    · exact h2.elim
  · rename_i n e hd
    have hu:=q1r (hd ▸ hq.td)
    simp only [TD.says] at hu
    obtain ⟨j,hj,h3⟩:=q0y hT h1
    split at h3
    · rename_i k off hx'
      obtain ⟨l,h4,hl⟩:=q2p h3
      obtain ⟨r,h5,hh⟩:=q2p h4
      obtain ⟨⟨g1,g2,g3⟩,h6⟩:=h5
      refine ⟨_,h6,fun base β ρ w hr hf=>?_⟩
      have hx:=hf x hmx
      rw [hx'] at hx;simp only [AV.rel] at hx
      obtain ⟨v,b,e1,e2,hx⟩:=hx
      have hb:=q21 (P:=P) (w:=w) (isS:=false) (hl β ρ fun z hz=>hf z (hml z hz)) (hh β ρ fun z hz=>hf z (hmh z hz)) g1 g2 g3
      refine ⟨.slice (some ⟨b,if n=l.toNat then off else off+l.toNat * j.size,none⟩) (r.toNat-l.toNat) (n-l.toNat),?_,by simp only [AV.rel];exact ⟨v,b,e1,e2,rfl⟩⟩
      simp only [execOp,ho,hx,Instr.sliceAt,run_underlying hu,Instr.sureAddr,Option.map_none,Sem.run_bind,Sem.run_pure,Result.andThen_ok,hb,hj.size]
      split <;> simp [q02]
    · exact h3.elim
  · rename_i a hd
    have hu:=q1r (hd ▸ hq.td)
    simp only [TD.says] at hu
    obtain ⟨r,hr0,h2⟩:=q0y hT h1
    split at h2
    · rename_i n e hd2
      have hu2:=q1r (hd2 ▸ hr0.td)
      simp only [TD.says] at hu2
      obtain ⟨j,hj,h3⟩:=q0y hT h2
      split at h3
      · rename_i k off hx'
        obtain ⟨l,h4,hl⟩:=q2p h3
        obtain ⟨r,h5,hh⟩:=q2p h4
        obtain ⟨⟨g1,g2,g3⟩,h6⟩:=h5
        refine ⟨_,h6,fun base β ρ w hr hf=>?_⟩
        have hx:=hf x hmx
        rw [hx'] at hx;simp only [AV.rel] at hx
        obtain ⟨v,b,e1,e2,hx⟩:=hx
        have hb:=q21 (P:=P) (w:=w) (isS:=false) (hl β ρ fun z hz=>hf z (hml z hz)) (hh β ρ fun z hz=>hf z (hmh z hz)) g1 g2 g3
        refine ⟨.slice (some ⟨b,if n=l.toNat then off else off+l.toNat * j.size,none⟩) (r.toNat-l.toNat) (n-l.toNat),?_,by simp only [AV.rel];exact ⟨v,b,e1,e2,rfl⟩⟩
        simp only [execOp,ho,hx,Instr.sliceAt,Instr.slice,run_underlying hu,run_underlying hu2,asAddr,Option.map_none,Sem.run_bind,Sem.run_pure,Result.andThen_ok,hb,hj.size]
        split <;> simp [q02]
      · exact h3.elim
    · exact h2.elim
  · rename_i hd
    have hu:=q1r (hd ▸ hq.td)
    simp only [TD.says] at hu
    split at h1
    · rename_i s hx'
      obtain ⟨l,h3,hl⟩:=q2p h1
      obtain ⟨r,h4,hh⟩:=q2p h3
      obtain ⟨⟨g1,g2,g3⟩,h5⟩:=h4
      refine ⟨_,h5,fun base β ρ w hr hf=>?_⟩
      have hx:=hf x hmx
      rw [hx'] at hx;simp only [AV.rel] at hx
      have hb:=q21 (P:=P) (w:=w) (isS:=false) (hl β ρ fun z hz=>hf z (hml z hz)) (hh β ρ fun z hz=>hf z (hmh z hz)) g1 g2 g3
      exact ⟨_,by simp [execOp,ho,hx,Instr.sliceAt,Instr.slice,run_underlying hu,hb];(try rfl),by simp only [AV.rel]⟩
    · exact h1.elim
  · exact h1.elim
def x2l (T:Tab) (t:TypeId) (x:Operand) (lo:Option Operand) (hi mx:Operand) (fr:List AV) (K:AV→Prop):Prop :=
  q1b T t fun q=>match q.td with
    | .slice e=>q1b T e fun j=>match ev fr x with
      | .val (.slice A n c)=>lowF lo fr 0 fun l=>q1v (ev fr hi) fun _ h=>q1v (ev fr mx) fun _ m=>mustP (0≤l∧l≤h∧h≤m∧m≤c) (K (.val (.slice (if m.toNat=l.toNat then A else A.map (·.add (l.toNat * j.size))) (h.toNat-l.toNat) (m.toNat-l.toNat))))
      | _=>False
    | _=>False
theorem z49 {P:Program} {T:Tab} (hT:TOk P T) {o:Oper} {fr:List AV} {hp:List Blk} {G:Mem} {K:AV→Prop} {t:TypeId} {x:Operand} {lo:Option Operand} {hi mx:Operand} (ho:o.op=.slice t x lo (some hi) (some mx)) (h0:x2l T t x lo hi mx fr K):q2g P o fr hp G K:=by
  have hmx:x∈o.op.operands.toList:=by simp [ho,Op.operands]
  have hml:∀ z∈lo.toArray.toList,z∈o.op.operands.toList:=fun z hz=>by cases lo <;> simp_all [Op.operands]
  have hmh:hi∈o.op.operands.toList:=by simp [ho,Op.operands]
  have hmm:mx∈o.op.operands.toList:=by simp [ho,Op.operands]
  obtain ⟨q,hq,h1⟩:=q0y hT h0
  split at h1
  · rename_i e hd
    have hu:=q1r (hd ▸ hq.td)
    simp only [TD.says] at hu
    obtain ⟨j,hj,h2⟩:=q0y hT h1
    split at h2
    · rename_i A n c hx'
      obtain ⟨l,h3,hl⟩:=q2p h2
      obtain ⟨k1,h,hh',h4⟩:=q1d h3
      obtain ⟨k2,m,hm',h5⟩:=q1d h4
      obtain ⟨⟨g1,g2,g3,g4⟩,h6⟩:=h5
      refine ⟨_,h6,fun base β ρ w hr hf=>?_⟩
      have hx:=hf x hmx
      have hxh:=hf hi hmh
      have hxm:=hf mx hmm
      rw [hx'] at hx;rw [hh'] at hxh;rw [hm'] at hxm
      simp only [AV.rel] at hx hxh hxm
      have b:∀ (k:IntKind) (i:Int) (y:Nat) (code:BoundsCode),0≤i→i≤y→(Instr.sliceBound (.int k i) y code).run P w=.ok i.toNat w:=fun k i y code g1 g2=>run_sliceBound w k i y code g1 g2
      have hb:(Instr.sliceBounds true n c (lo.map ρ) (some (ρ hi)) (some (ρ mx))).run P w=.ok (l.toNat,h.toNat,m.toNat) w:=by
        rcases hl β ρ fun z hz=>hf z (hml z hz) with ⟨rfl,rfl⟩ |⟨x',k',rfl,e1⟩
        · simp [Instr.sliceBounds,hxh,hxm,b k2 m c _ (by omega) g4,b k1 h m.toNat _ (by omega) (by omega)]
        · simp [Instr.sliceBounds,hxh,hxm,e1,b k2 m c _ (by omega) g4,b k1 h m.toNat _ (by omega) (by omega),b k' l h.toNat _ g1 (by omega)]
      exact ⟨_,by simp [execOp,ho,hx,Instr.sliceAt,Instr.slice,run_underlying hu,hb,hj.size];(try rfl),by simp only [AV.rel]⟩
    · exact h2.elim
  · exact h1.elim
def q88 (x:Operand) (n:Nat) (fr:List AV) (K:AV→Prop):Prop :=
  match ev fr x with
  | .tup l=>q0w (Nat.blt n l.length) (K (nthA l n))
  | .val (.tuple vs)=>nthV vs.toList n fun v=>K (.val v)
  | _=>False
theorem q7m {P:Program} {o:Oper} {fr:List AV} {hp:List Blk} {G:Mem} {K:AV→Prop} {x:Operand} {n:Nat} (ho:o.op=.extract x n) (h:q88 x n fr K):q2g P o fr hp G K:=by
  have hmx:x∈o.op.operands.toList:=by simp [ho,Op.operands]
  unfold q88 at h
  split at h
  · rename_i l hx'
    obtain ⟨h1,h2⟩:=q0t h
    refine ⟨_,h2,fun base β ρ w hr hf=>?_⟩
    have hx:=hf x hmx
    rw [hx'] at hx;simp only [AV.rel] at hx
    obtain ⟨cs,h3,h4⟩:=hx
    have hlt:=q1w h1
    obtain ⟨y,h5,h6⟩:=AV.rels_get h4 (List.getElem?_eq_getElem hlt)
    have h7:cs[n]? = some y:=by simpa using h5
    refine ⟨y,by simp [execOp,ho,h3,Instr.extract,h7],?_⟩
    rw [q5s,List.getElem?_eq_getElem hlt];exact h6
  · rename_i vs hx'
    obtain ⟨v,h10,h2⟩:=x2g h
    have h1:vs[n]? = some v:=by simpa using h10
    refine ⟨_,h2,fun base β ρ w hr hf=>?_⟩
    have hx:=hf x hmx
    rw [hx'] at hx;simp only [AV.rel] at hx
    exact ⟨v,by simp [execOp,ho,hx,Instr.extract,h1],by simp only [AV.rel]⟩
  · exact h.elim
def evsF (fr:List AV):List Operand→(List AV→Prop)→Prop
  | [],K=>K []
  | x::l,K=>evsF fr l fun m=>q2r (ev fr x) fun a=>K (a::m)
theorem q8y (fr:List AV):∀ (l:List Operand) (K:List AV→Prop),evsF fr l K=K (l.map (ev fr))
  | [],_=>rfl
  | x::l,K=>by
    rw [evsF,q8y fr l,List.map_cons,q19]
theorem q8z {β:Nm} {fr:List AV} {ρ:Operand→Value}:∀ (l:List Operand),(∀ x∈l,(ev fr x).rel β (ρ x))→AV.rels β (l.map (ev fr)) (l.map ρ)
  | [],_=>by simp [AV.rels]
  | x::l,h=>by simp only [List.map_cons,AV.rels];exact ⟨_,_,rfl,h x (by simp),q8z l fun z hz=>h z (by simp [hz])⟩
def z2f (f:Fn) (first caps:Array Operand) (fr:List AV) (K:AV→Prop):Prop :=
  evsF fr first.toList fun a=>evsF fr caps.toList fun b=>K (.fn f a b)
theorem z2g {P:Program} {o:Oper} {fr:List AV} {hp:List Blk} {G:Mem} {K:AV→Prop} {f:Fn} {first caps:Array Operand} (ho:o.op=.makeFunc f first caps) (h:z2f f first caps fr K):q2g P o fr hp G K:=by
  unfold z2f at h
  rw [q8y,q8y] at h
  refine ⟨_,h,fun base β ρ w hr hf=>⟨.func f (first.map ρ) (caps.map ρ),by simp [execOp,ho,Instr.makeFunc],?_⟩⟩
  simp only [AV.rel]
  have h1:=q8z (β:=β) (fr:=fr) (ρ:=ρ) first.toList fun z hz=>hf z (by simp [ho,Op.operands];left;simpa using hz)
  have h2:=q8z (β:=β) (fr:=fr) (ρ:=ρ) caps.toList fun z hz=>hf z (by simp [ho,Op.operands];right;simpa using hz)
  exact ⟨_,_,rfl,by simpa using h1,by simpa using h2⟩
/-! ### Literals -/
def x4p (T:Tab) (d:TD) (i:Nat) (K:Nat→Nat→Prop):Prop :=
  match d with
  | .strct fs=>z47 fs i fun off t=>q1b T t fun j=>K off j.size
  | .arr _ e=>q1b T e fun j=>K (i*j.size) j.size
  | .slice e=>q1b T e fun j=>K (i*j.size) j.size
  | _=>False
def z5a (T:Tab) (d:TD) (fr:List AV):List (Nat × Operand)→List AV→(List AV→Prop)→Prop
  | [],cs,K=>K cs
  | (i,x)::ps,cs,K=>x4p T d i fun off sz=>z0j (ev fr x) fun l=>lenF l fun m=>q0w (Nat.beq m sz) (q8w cs off l fun cs'=>z5a T d fr ps cs' K)
theorem z9w (l:List Value):∀ (off:Nat) (cs:Array Value),off+l.length≤cs.size→((l.zipIdx 0).foldl (fun cs (c,j)=>cs.setIfInBounds (off+j) c) cs).toList=cs.toList.take off++l++cs.toList.drop (off+l.length):=by
  have key:∀ (l:List Value) (k off:Nat) (cs:Array Value),off+k+l.length≤cs.size→((l.zipIdx k).foldl (fun cs (c,j)=>cs.setIfInBounds (off+j) c) cs).toList=cs.toList.take (off+k)++l++cs.toList.drop (off+k+l.length):=by
    intro l
    induction l with
    | nil=>intro k off cs h;simp
    | cons x l ih =>
      intro k off cs h
      rw [List.zipIdx_cons,List.foldl_cons,ih (k+1) off _ (by simp at h ⊢;omega)]
      have e:=list_seg_step cs.toList (off+k) x l (by simp at h ⊢;omega)
      simpa [Array.toList_setIfInBounds,Nat.add_assoc] using e
  intro off cs h
  have:=key l 0 off cs (by simpa using h)
  simpa using this
theorem z1c {P:Program} {T:Tab} (hT:TOk P T) {d:TD} {fr:List AV} (place:Nat→Option (Nat × Nat)) (hplace:∀ i (K:Nat→Nat→Prop),x4p T d i K→∃ off sz,place i=some (off,sz)∧K off sz) :
    ∀ (ps:List (Nat × Operand)) (cs:List AV) (K:List AV→Prop),z5a T d fr ps cs K→∃ cs',K cs'∧∀ (β:Nm) (ρ:Operand→Value) (c:Array Value),(∀ p∈ps,(ev fr p.2).rel β (ρ p.2))→AV.rels β cs c.toList→∃ c',Instr.fill place c (ps.map fun (i,x)=>(i,ρ x))=some c'∧AV.rels β cs' c'.toList
  | [],cs,K,h=>⟨cs,h,fun β ρ c _ hc=>⟨c,rfl,hc⟩⟩
  | (i,x)::ps,cs,K,h=>by
    obtain ⟨off,sz,h1,h2⟩:=hplace i _ h
    obtain ⟨l,h3,h4⟩:=q9m h2
    obtain ⟨h50,h6⟩:=q0t (q1y h3)
    have h5:=Nat.eq_of_beq_eq_true h50
    obtain ⟨h7,h8⟩:=q8f _ _ _ _ h6
    obtain ⟨cs',h9,h10⟩:=z1c hT place hplace ps _ K h8
    refine ⟨cs',h9,fun β ρ c hf hc=>?_⟩
    have hz:=h4 _ _ (hf (i,x) (by simp))
    simp only at hz
    have hzl:=AV.rels_length hz
    have hcl:=AV.rels_length hc
    have hsz:(ρ x).cells.size=sz:=by rw [← h5,← hzl];simp
    simp at hcl
    have hfold:=z9w (ρ x).cells.toList off c (by rw [hzl];omega)
    obtain ⟨c',h11,h12⟩:=h10 β ρ ((ρ x).cells.zipIdx.foldl (fun cs (c,j)=>cs.setIfInBounds (off+j) c) c) (fun p hp=>hf p (by simp [hp])) (by
      have e:((ρ x).cells.zipIdx.foldl (fun cs (c,j)=>cs.setIfInBounds (off+j) c) c).toList=c.toList.take off++(ρ x).cells.toList++c.toList.drop (off+(ρ x).cells.toList.length):=by
        rw [← hfold,← Array.foldl_toList];simp
      rw [e,hzl]
      exact AV.rels_append (AV.rels_append (AV.rels_take off hc) hz) (AV.rels_drop _ hc))
    refine ⟨c',?_,h12⟩
    have hle:¬ (off+(ρ x).cells.size > c.size):=by rw [hsz,← h5];omega
    simp only [List.map_cons,Instr.fill,h1,hsz,ne_eq,not_true_eq_false]
    rw [if_neg (by rw [hsz] at hle;simpa using hle)]
    exact h11
def z9b (T:Tab):List (Nat × TypeId)→Bool
  | []=>true
  | (_,t)::l=>(look T t).isSome&&z9b T l
theorem z7o {P:Program} {T:Tab} (hT:TOk P T):∀ {l:List (Nat × TypeId)},z9b T l=true→∀ x∈l,∃ i,look T x.2=some i∧TIok P x.2 i
  | [],_,_,h=>by cases h
  | (o,t)::l,h,x,hx=>by
    simp only [z9b,Bool.and_eq_true] at h
    rcases List.mem_cons.1 hx with rfl |hx
    · obtain ⟨i,hi⟩:=Option.isSome_iff_exists.1 h.1
      exact ⟨i,hi,tiOk hT hi⟩
    · exact z7o hT h.2 x hx
def x4q (T:Tab) (t:TypeId) (ps:Array (Nat × Operand)) (fr:List AV) (K:AV→Prop):Prop :=
  q1b T t fun i=>match i.td with
    | .strct fs=>q0w (z9b T fs) (q4e i.zero fun zs=>z5a T (.strct fs) fr ps.toList zs fun cs=>K (.agg cs))
    | .arr n e=>q1b T e fun _=>q4e i.zero fun zs=>z5a T (.arr n e) fr ps.toList zs fun cs=>K (.agg cs)
    | _=>False
theorem x2m {P:Program}:∀ (gs:List Field),(∀ f∈gs,∃ i,TIok P f.type i) →
    ∃ ps:List (Nat × Nat),(∀ w,(gs.mapM fun (f:Field)=>Prod.mk f.offset <$> sizeOf f.type).run P w=.ok ps w)∧∀ (j:Nat) (f:Field),gs[j]? = some f→∃ i,TIok P f.type i∧ps[j]? = some (f.offset,i.size)
  | [],_=>⟨[],by simp,by simp⟩
  | f::gs,h=>by
    obtain ⟨i,hi⟩:=h f (by simp)
    obtain ⟨ps,h1,h2⟩:=x2m gs (fun f hf=>h f (by simp [hf]))
    refine ⟨(f.offset,i.size)::ps,fun w=>?_,?_⟩
    · simp [List.mapM_cons,hi.size,h1]
    · intro j g hg
      cases j with
      | zero=>simp at hg;subst hg;exact ⟨i,hi,by simp⟩
      | succ j=>simpa using h2 j g (by simpa using hg)
theorem z7p {P:Program} {T:Tab} (hT:TOk P T) {o:Oper} {fr:List AV} {hp:List Blk} {G:Mem} {K:AV→Prop} {t:TypeId} {ps:Array (Nat × Operand)} (ho:o.op=.build t ps) (h:x4q T t ps fr K):q2g P o fr hp G K:=by
  have hm:∀ p∈ps.toList,p.2∈o.op.operands.toList:=fun p hp=>by
    simp [ho,Op.operands];exact ⟨p.1,by simpa using hp⟩
  obtain ⟨i,hi,h1⟩:=q0y hT h
  split at h1
  · rename_i fs hd
    obtain ⟨ha,h2⟩:=q0t h1
    rw [q2i] at h2
    obtain ⟨gs,hu,hgs⟩:=q1r (hd ▸ hi.td)
    have hin:∀ f∈gs.toList,∃ i,TIok P f.type i:=fun f hfm=>by
      obtain ⟨i,_,h3⟩:=z7o hT ha (f.offset,f.type) (by rw [← hgs];exact List.mem_map_of_mem (f:=fun f:Field=>(f.offset,f.type)) hfm)
      exact ⟨i,h3⟩
    obtain ⟨pl,hpl0,hpl2⟩:=x2m (P:=P) gs.toList hin
    obtain ⟨cs',h5,h6⟩:=z1c hT (fun x=>pl.toArray[x]?) (fun j K hK=>by
      obtain ⟨off,ty,g1,g2⟩:=z09 hK
      obtain ⟨q,hq,g3⟩:=q0y hT g2
      rw [← hgs,List.getElem?_map] at g1
      cases hg:gs.toList[j]? with
      | none=>rw [hg] at g1;cases g1
      | some f =>
        rw [hg] at g1
        simp at g1
        obtain ⟨rfl,rfl⟩:=g1
        obtain ⟨q',hq',g4⟩:=hpl2 j f hg
        have e1:q'.size=q.size:=by
          have a1:=hq'.size (default:World);have a2:=hq.size (default:World)
          rw [a1] at a2;injection a2
        exact ⟨f.offset,q.size,by simp [g4,e1],g3⟩) ps.toList _ _ h2
    refine ⟨_,h5,fun base β ρ w hr hf=>?_⟩
    obtain ⟨z,hz,hz2⟩:=hi.zero (P:=P) w
    have hzr:AV.rels β (i.zero.map .val) z.cells.toList:=by rw [hz2];exact AV.rels_vals _
    obtain ⟨c',h3,h4⟩:=h6 β ρ z.cells (fun p hp=>hf _ (hm p hp)) hzr
    have hpl:=hpl0 w
    refine ⟨.agg c',?_,by simp only [AV.rel];exact ⟨c',rfl,h4⟩⟩
    simp [execOp,ho,Instr.build,run_underlying hu,hz,Array.mapM_eq_mapM_toList,hpl]
    simp at h3
    simp [h3]
  · rename_i n e hd
    obtain ⟨j,hj,h2⟩:=q0y hT h1
    rw [q2i] at h2
    have hu:=q1r (hd ▸ hi.td)
    simp only [TD.says] at hu
    obtain ⟨cs',h5,h6⟩:=z1c hT (fun m=>some (m*j.size,j.size)) (fun m K hK=>by
      obtain ⟨q,hq,g3⟩:=q0y hT hK
      have e1:q.size=j.size:=by
        have a1:=hq.size (default:World);have a2:=hj.size (default:World)
        rw [a1] at a2;injection a2
      exact ⟨m*j.size,j.size,rfl,by rw [e1] at g3;exact g3⟩) ps.toList _ _ h2
    refine ⟨_,h5,fun base β ρ w hr hf=>?_⟩
    obtain ⟨z,hz,hz2⟩:=hi.zero (P:=P) w
    have hzr:AV.rels β (i.zero.map .val) z.cells.toList:=by rw [hz2];exact AV.rels_vals _
    obtain ⟨c',h3,h4⟩:=h6 β ρ z.cells (fun p hp=>hf _ (hm p hp)) hzr
    refine ⟨.agg c',?_,by simp only [AV.rel];exact ⟨c',rfl,h4⟩⟩
    simp [execOp,ho,Instr.build,run_underlying hu,hz,hj.size]
    simp at h3
    simp [h3]
  · exact h1.elim
def repF:Nat→List Value→(List AV→Prop)→Prop
  | 0,_,K=>K []
  | n+1,z,K=>repF n z fun m=>q4e z fun q=>catF q m K
theorem z6r:∀ (n:Nat) (z:List Value) (K:List AV→Prop),repF n z K=K ((List.replicate n z).flatten.map .val)
  | 0,_,_=>rfl
  | n+1,z,K=>by
    rw [repF,z6r n z,q2i,q09,List.replicate_succ,List.flatten_cons,List.map_append]
theorem z2h (z:Array Value):∀ (n:Nat),((Array.range (n*z.size)).map (z[·%z.size]!)).toList=(List.replicate n z.toList).flatten:=by
  intro n
  apply List.ext_getElem?
  intro j
  by_cases hz:z.size=0
  · have:z.toList=[]:=by simpa using hz
    simp [hz,this]
  · have key:∀ n j,(List.replicate n z.toList).flatten[j]? = if j<n*z.size then some z[j%z.size]! else none:=by
      intro n
      induction n with
      | zero=>intro j;simp
      | succ n ih =>
        intro j
        rw [List.replicate_succ,List.flatten_cons,List.getElem?_append]
        by_cases hj:j<z.size
        · have h2:j<(n+1)*z.size:=by rw [Nat.add_mul];omega
          simp [hj,h2,Nat.mod_eq_of_lt hj]
        · have e:j%z.size=(j-z.size)%z.size:=by rw [← Nat.mod_eq_sub_mod (by omega)]
          simp only [Array.length_toList,hj,if_false,ih,e]
          have:(j-z.size<n*z.size)=(j<(n+1)*z.size):=by rw [Nat.add_mul];apply propext;omega
          simp [this]
    rw [key]
    by_cases hj:j<n*z.size
    · simp [hj]
    · simp [hj]
def q51 (T:Tab) (t:TypeId) (len:Nat) (ps:Array (Nat × Operand)) (fr:List AV) (hp:List Blk) (G:Mem) (K:AV→List Blk→Mem→Prop):Prop :=
  q1b T t fun i=>match i.td with
    | .slice e=>q1b T e fun j=>q0w (Nat.ble (len*j.size) 16777216) (q0w (Nat.beq j.zero.length j.size) (repF len j.zero fun zs=>z5a T (.slice e) fr ps.toList zs fun cs =>
        lenF hp fun n=>catF hp [.cells e cs] fun hp'=>K (.sli n 0 len len) hp' G))
    | _=>False
theorem q5v {P:Program} {T:Tab} (hT:TOk P T) {o:Oper} {fr:List AV} {hp:List Blk} {G:Mem} {K:AV→List Blk→Mem→Prop} {t:TypeId} {len:Nat} {ps:Array (Nat × Operand)} (ho:o.op=.buildSlice t len ps) (h:q51 T t len ps fr hp G K):NewS P o fr hp G K:=by
  have hm:∀ p∈ps.toList,p.2∈o.op.operands.toList:=fun p hp=>by
    simp [ho,Op.operands];exact ⟨p.1,by simpa using hp⟩
  obtain ⟨i,hi,h1⟩:=q0y hT h
  split at h1
  · rename_i e hd
    have hu:=q1r (hd ▸ hi.td)
    simp only [TD.says] at hu
    obtain ⟨j,hj,h20⟩:=q0y hT h1
    obtain ⟨hle,h21⟩:=q0t h20
    obtain ⟨hzl0,h2⟩:=q0t h21
    have hzl:=Nat.eq_of_beq_eq_true hzl0
    rw [z6r] at h2
    obtain ⟨cs',h5,h10⟩:=z1c hT (fun m=>some (m*j.size,j.size)) (fun m K hK=>by
      obtain ⟨q,hq,g3⟩:=q0y hT hK
      have e1:q.size=j.size:=by
        have a1:=hq.size (default:World);have a2:=hj.size (default:World)
        rw [a1] at a2;injection a2
      exact ⟨m*j.size,j.size,rfl,by rw [e1] at g3;exact g3⟩) ps.toList _ _ h2
    have h6:=q1y h5
    rw [q09] at h6
    refine ⟨.sli hp.length 0 len len,_,h6,fun base β ρ w hb hs hn hf=>?_⟩
    obtain ⟨z,hz,hz2⟩:=hj.zero (P:=P) w
    have hzs:z.cells.size=j.size:=by rw [← hzl,← hz2];simp
    have hrep:=z2h z.cells len
    rw [hzs,hz2] at hrep
    obtain ⟨c',h3,h4⟩:=h10 β ρ ((Array.range (len*j.size)).map (z.cells[·%j.size]!)) (fun p hp=>hf _ (hm p hp)) (by rw [hrep];exact AV.rels_vals _)
    have hle':¬ (len*j.size > 2 ^ 24):=by have:=Nat.le_of_ble_eq_true hle;omega
    have hrun:(Instr.buildSlice t len (ps.map fun (i,x)=>(i,ρ x))).run P w=.ok (.slice (some ⟨w.heap.size,0,none⟩) len len) (w.alloc (.cells c' e)):=by
      have h3':=h3
      rw [← hzs] at h3'
      by_cases h0:len*j.size=0
      · have hz0:((Array.range (len*j.size)).map (z.cells[·%z.cells.size]!))=#[]:=by rw [h0];simp
        rw [hzs] at h3'
        simp only [hzs] at hz0
        rw [hz0] at h3'
        simp at h3'
        simp [Instr.buildSlice,run_underlying hu,hj.size,h0,newRow,h3',Array.range_zero']
      · rw [hzs] at h3'
        simp at h3'
        simp [Instr.buildSlice,run_underlying hu,hj.size,hle',h0,newRow,hz,hzs,h3']
    refine ⟨_,.pointer (some ⟨w.heap.size,0,none⟩),_,by simp [execOp,ho,hrun];rfl,(Below.refl _ _).alloc (Nat.le_refl _) _,z7m hb hs hn h4,fun b hb'=>by simp [q0i] at hb';omega,?_⟩
    simp only [AV.rel]
    exact ⟨_,w.heap.size,Nm.put_same _ _ _,rfl,rfl⟩
  · exact h1.elim
end Go.Proofs.YtegpkpilfgohhaaGreat
namespace Go.Proofs.YtegpkpilfgohhaaGreat
open Go.RowKit
structure CallP (P:Program) (f:FuncId) (args:List AV) (hp:List Blk) (G:Mem) (K:AV→List Blk→Mem→Prop):Prop where
  enters:∀ vs w,(callFunc f vs).run P w=.ok (.enter f vs) w
  calls:∀ (w0:World) (G0:Mem) (β:Nm) (w:World) (vs:Array Value),HR w0 G0 β hp G w→AV.rels β args vs.toList →
    Calls P f vs w fun e w'=>∃ y β' v hp' G',e=.returned y∧β.le β'∧HR w0 G0 β' hp' G' w'∧v.rel β' y∧K v hp' G'
structure YieldP (P:Program) (k:Nat) (args:List AV) (hp:List Blk) (G:Mem) (K:AV→List Blk→Mem→Prop):Prop where
  rounds:∀ (w0:World) (G0:Mem) (β:Nm) (w:World) (vs:Array Value) (v:Value) (l:Nat),β k=some v→q0i v=some l→HR w0 G0 β hp G w→AV.rels β args vs.toList →
    ∃ fn tmps assign body,(Instr.yield l vs).run P w=.ok (.round l fn tmps assign body) w∧RoundIn Fence.wide 0 P l fn tmps assign body w fun e w'=>∃ y β' v hp' G',e=.returned y∧β.le β'∧HR w0 G0 β' hp' G' w'∧v.rel β' y∧K v hp' G'
def x3i (P:Program) (c:AV) (args:List AV) (hp:List Blk) (G:Mem) (K:AV→List Blk→Mem→Prop):Prop :=
  match c with
  | .val (.func (.func f) a b)=>q4e a.toList fun a=>q4e b.toList fun b=>catF a args fun r=>catF r b fun r=>CallP P f r hp G K
  | .yl k=>YieldP P k args hp G K
  | .fn (.func f) a b=>catF a args fun r=>catF r b fun r=>CallP P f r hp G K
  | _=>False
theorem x6r {P:Program} {o:Oper} {fr:List AV} {hp:List Blk} {G:Mem} {K:AV→List Blk→Mem→Prop} {x:Operand} {xs:Array Operand} {ts:Array TypeId} (ho:o.op=.call ⟨.value x,xs,ts⟩) (h:evsF fr xs.toList fun args=>x3i P (ev fr x) args hp G K):OpS P o fr hp G K:=by
  rw [q8y] at h
  intro w0 G0 β a w Q N hr hf hN
  have hx:=q2s hf x
  have hargs:=q8z (β:=β) (fr:=fr) (ρ:=a.eval) xs.toList (fun x _=>q2s hf x)
  have fin:∀ (f:FuncId) (A B:List AV) (u v:Array Value),a.eval x=.func (.func f) u v→AV.rels β A u.toList→AV.rels β B v.toList→CallP P f (A++xs.toList.map (ev fr)++B) hp G K→Oper.wpW P o a w N Q:=by
    intro f A B u v he hA hB hc
    have hrel:AV.rels β (A++xs.toList.map (ev fr)++B) (u++xs.map a.eval++v).toList:=by
      have:=AV.rels_append (AV.rels_append hA hargs) hB
      simpa using this
    have h1:=hc.2 w0 G0 β w _ hr hrel
    unfold Oper.wpW
    have hrun:(execOp a.eval o).run P w=.ok (.enter f (u++xs.map a.eval++v)) w:=by
      have h2:=hc.1 (u++xs.map a.eval++v) w
      simp only [execOp,ho,resolve,he,Deferred.ofValue,Sem.run_bind,Sem.run_pure,Result.andThen_ok,invoke]
      exact h2
    rw [hrun]
    refine ⟨fun h=>(by cases h),callsIn_wide.2 (h1.mono ?_)⟩
    rintro e w' ⟨y,β',v',hp',G',rfl,h3,h4,h5,h6⟩
    exact hN β' v' y hp' G' w' h3 h4 h5 h6
  unfold x3i at h
  split at h
  · rename_i f u v hx'
    rw [hx'] at hx;simp only [AV.rel] at hx
    rw [q2i,q2i,q09,q09] at h
    exact fin f _ _ u v hx (AV.rels_vals _) (AV.rels_vals _) h
  · rename_i k hx'
    rw [hx'] at hx;simp only [AV.rel] at hx
    obtain ⟨v,l,hv,hl,hx⟩:=hx
    obtain ⟨fn,tmps,assign,body,h1,h2⟩:=h.rounds w0 G0 β w (xs.map a.eval) v l hv hl hr (by simpa using hargs)
    unfold Oper.wpW
    have hrun:(execOp a.eval o).run P w=.ok (.round l fn tmps assign body) w:=by
      simp only [execOp,ho,resolve,hx,Deferred.ofValue,Sem.run_bind,Sem.run_pure,Result.andThen_ok,invoke]
      simpa using h1
    rw [hrun]
    refine ⟨fun h=>(by cases h),h2.mono ?_⟩
    rintro e w' ⟨y,β',v,hp',G',rfl,h3,h4,h5,h6⟩
    exact hN β' v y hp' G' w' h3 h4 h5 h6
  · rename_i f A B hx'
    rw [hx'] at hx;simp only [AV.rel] at hx
    obtain ⟨u,v,h1,h2,h3⟩:=hx
    rw [q09,q09] at h
    exact fin f A B u v h1 h2 h3 h
  · exact h.elim
/-! ### The builtins -/
theorem z0b {P:Program} (w:World) (base:Nat) (t ty e:TypeId) (i:TypeInfo) (size:Nat) (ht:P.underlying t=some (.slice e)) (hi:P.info? e=some i)
    (v:Value) (n:Nat) (xs:List Value) (hown:w.ownsRow base e size v n xs) (c0:Nat) :
    (Builtin.append_ #[t,t] ty #[v,.slice none 0 c0]).run P w=.ok v w:=by
  rcases hown.2 with ⟨rfl,rfl⟩ |⟨g,cap,cur,rfl,_,_,hnc,_⟩
  · simp [Builtin.append_,run_underlying ht,sizeOf,typeInfo,hi,Builtin.lenOf,Builtin.firstCells]
  · simp [Builtin.append_,run_underlying ht,sizeOf,typeInfo,hi,Builtin.lenOf,Builtin.firstCells,hnc,storeCells]
inductive SrcV (G:Mem) (A:Option Addr) (n sz:Nat) (K:Nat→List Value→Prop):Prop
  | mk (vs:List Value) (hl:vs.length=n*sz) (hc:n≠0→∃ p,A=some p∧G.cellsAt p vs) (h1:∀ v∈vs,v.oneCell'=true) (h:K n vs)
def srcF (hp:List Blk) (G:Mem) (x:AV) (sz:Nat) (K:Nat→List Value→Prop):Prop :=
  match x with
  | .val (.slice A n _)=>SrcV G A n sz K
  | .sli k 0 n _=>match nthB hp k with
    | .cells _ l=>q14 l fun vs=>q0w (Nat.beq vs.length (n*sz)) (q0w (z0i vs) (K n vs))
    | _=>False
  | .vw k o n=>match nthB hp k with
    | .own _ _ _ xs=>mustP (0<n) (OwnCells xs o (n*sz) fun vs=>mustP (∀ v∈vs,v.oneCell'=true) (K n vs))
    | _=>False
  | .own k=>match nthB hp k with
    | .own _ sz' n xs=>q0w (Nat.beq sz' sz) (mustP (0<n∧∀ v∈xs,v.oneCell'=true) (K n xs))
    | _=>False
  | _=>False
def z0k (T:Tab) (t:TypeId) (d x:AV) (hp:List Blk) (G:Mem) (K:AV→List Blk→Mem→Prop):Prop :=
  q1b T t fun i=>match i.td with
    | .slice e=>q1b T e fun j=>q0w (Nat.blt 0 j.size) (q0w (Nat.beq j.zero.length j.size) (q0w (Nat.blt 0 j.bytes) (srcF hp G x j.size fun m vs =>
        match d with
        | .val (.slice none 0 0)=>mustP (m*j.bytes≤140737488355328) (lenF hp fun n=>catF hp [.own e j.size m vs] fun hp'=>K (.own n) hp' G)
        | .own k=>match nthB hp k with
          | .own e' sz n xs=>q0w (Nat.beq e' e) (q0w (Nat.beq sz j.size) (mustP ((n+m)*j.bytes≤140737488355328)
              (setF hp k .gone fun hp1=>lenF hp1 fun q=>catF hp1 [.own e j.size (n+m) (xs++vs)] fun hp'=>K (.own q) hp' G)))
          | _=>False
        | .sli k 0 0 0=>match nthB hp k with
          | .cells e' []=>q0w (Nat.beq e' e) (mustP (m*j.bytes≤140737488355328)
              (setF hp k .gone fun hp1=>lenF hp1 fun q=>catF hp1 [.own e j.size m vs] fun hp'=>K (.own q) hp' G))
          | _=>False
        | .sli k 0 n c=>match nthB hp k with
          | .cells e' l=>q0w (Nat.beq e' e) (q0w (Nat.beq n c) (q14 l fun xs=>q0w (Nat.beq xs.length (n*j.size)) (mustP ((n+m)*j.bytes≤140737488355328)
              (setF hp k .gone fun hp1=>lenF hp1 fun q=>catF hp1 [.own e j.size (n+m) (xs++vs)] fun hp'=>K (.own q) hp' G))))
          | _=>False
        | .vw k o n=>match nthB hp k with
          | .own e' sz N xs=>q0w (Nat.beq e' e) (q0w (Nat.beq sz j.size) (mustP (o=0∧n≤N∧(n+m)*j.bytes≤140737488355328)
              (setF hp k .gone fun hp1=>lenF hp1 fun q=>catF hp1 [.own e j.size (n+m) (xs.take (n*sz)++vs)] fun hp'=>K (.own q) hp' G)))
          | _=>False
        | _=>False)))
    | _=>False
theorem q89 {w:World} {base e sz N n c:Nat} {A:Option Addr} {xs:List Value} (h:w.ownsRow base e sz (.slice A N c) N xs) (hn:n≤N):w.ownsRow base e sz (.slice A n c) n (xs.take (n*sz)):=by
  have hm:n*sz≤N*sz:=Nat.mul_le_mul_right _ hn
  refine ⟨by rw [List.length_take,h.1];omega,?_⟩
  rcases h.2 with ⟨h1,rfl⟩ |⟨g,cap,cur,h1,h2,h3,h4,h5,h6,h7⟩
  · obtain rfl:n=0:=by omega
    cases h1
    exact .inl ⟨rfl,rfl⟩
  · cases h1
    refine .inr ⟨g,c,cur,rfl,h2,h3,by omega,h5,h6,?_⟩
    rw [← h7,List.take_take,Nat.min_eq_left hm]
theorem z31 {w:World} {base e sz N m c:Nat} {A:Option Addr} {xs:List Value} (h:w.ownsRow base e sz (.slice A m c) N xs):m=N:=by
  rcases h.2 with ⟨h1,rfl⟩ |⟨g,cap,cur,h1,_⟩
  · cases h1;rfl
  · cases h1;rfl
theorem HR.below_grown {w0:World} {G0:Mem} {β:Nm} {hp:List Blk} {G:Mem} {w w':World} (h:HR w0 G0 β hp G w) {k:Nat} {y:Value} {x:Blk} (hk:β k=some y) (hx:hp[k]? = some x) (hl:x.live=true) (hg:w.grownBy w' (q0i y)) :
    HR w0 G0 β (hp.set k .gone) G w':=by
  cases hb:q0i y with
  | none =>
    rw [hb] at hg
    exact (h.forget k).step ⟨hg.os,hg.tape,hg.output,hg.size,fun j hj=>hg.block j hj (by simp)⟩
  | some b =>
    rw [hb] at hg
    exact (h.setBlk hk hx hl hb hg (x':=.gone) trivial)
theorem HR.moveName {w0:World} {G0:Mem} {β:Nm} {hp:List Blk} {G:Mem} {w w':World} (h:HR w0 G0 β hp G w) {k:Nat} {y:Value} {x:Blk} (hk:β k=some y) (hx:hp[k]? = some x) (hl:x.live=true) (hg:w.grownBy w' (q0i y)) {z:Value} {u:Blk}
    (hz:∀ b,q0i z=some b→w.heap.size≤b∨q0i y=some b) {n:Nat} (hn:n=hp.length) (hu:u.rel w0.heap.size (β.put n z) G w' z):HR w0 G0 (β.put n z) (hp.set k .gone++[u]) G w':=by
  have h1:=h.below_grown hk hx hl hg
  have hlen:(hp.set k .gone).length=n:=by simp [hn]
  have hlek:k<hp.length:=(List.getElem?_eq_some_iff.1 hx).1
  refine ⟨h1.below,h1.hold,h1.sub,h1.grow,fun j q hj=>?_,fun j j' q q' s s' b hne hj hj' hs hs' hls hls' hq hq'=>?_,z9j h1.wrt (Blk.rel_muts hu)⟩
  · by_cases hjn:j=n
    · rw [hjn,Nm.put_same] at hj;cases hj
      exact ⟨u,by rw [hjn,← hlen];simp,hu⟩
    · rw [Nm.put_ne _ _ hjn] at hj
      obtain ⟨x',h2,h3⟩:=h1.blk j q hj
      refine ⟨x',?_,Blk.rel_of (Nm.le_put z (h.fresh (by omega))) h3 (fun b _=>⟨rfl,id⟩)⟩
      rw [List.getElem?_append_left (List.getElem?_eq_some_iff.1 h2).1];exact h2
  · have old:∀ {i:Nat} {p:Value} {r:Blk} {c:Nat},i≠n→(β.put n z) i=some p→(hp.set k .gone++[u])[i]? = some r→r.live=true→q0i p=some c→c<w.heap.size∧(hp.set k .gone)[i]? = some r∧β i=some p∧q0i y≠some c:=by
      intro i p r c hi hp' hr' hlr hc
      rw [Nm.put_ne _ _ hi] at hp'
      obtain ⟨x',h2,_⟩:=h1.blk i p hp'
      rw [List.getElem?_append_left (List.getElem?_eq_some_iff.1 h2).1] at hr'
      have hik:k≠i:=fun e=>by
        subst e
        rw [List.getElem?_set] at hr'
        simp at hr'
        obtain ⟨_,rfl⟩:=hr'
        simp [Blk.live] at hlr
      have hr2:hp[i]? = some r:=by rw [List.getElem?_set,if_neg hik] at hr';exact hr'
      exact ⟨(h.lt hp' hr2 hlr hc).2.1,hr',hp',fun e=>h.inj k i y p x r c hik hk hp' hx hr2 hl hlr e hc⟩
    by_cases h2:j=n
    · have h3:j'≠n:=by omega
      obtain ⟨h4,_,_,h5⟩:=old h3 hj' hs' hls' hq'
      rw [h2,Nm.put_same] at hj;cases hj
      rcases hz b hq with h6 |h6
      · omega
      · exact h5 h6
    · obtain ⟨h4,h5,h6,h7⟩:=old h2 hj hs hls hq
      by_cases h3:j'=n
      · rw [h3,Nm.put_same] at hj';cases hj'
        rcases hz b hq' with h8 |h8
        · omega
        · exact h7 h8
      · obtain ⟨_,h8,h9,_⟩:=old h3 hj' hs' hls' hq'
        exact h1.inj j j' q q' s s' b hne h6 h9 h5 h8 hls hls' hq hq'
theorem q5w {w:World} {base e sz n:Nat} {y:Value} {xs:List Value} (h:w.ownsRow base e sz y n xs):y.ownBlock=q0i y:=by
  rcases h.2 with ⟨rfl,_⟩ |⟨g,cap,cur,rfl,_⟩ <;> rfl
theorem q22 {w:World} {base e sz n:Nat} {y:Value} {xs:List Value} (h:w.ownsRow base e sz y n xs):isSl y=true:=by
  rcases h.2 with ⟨rfl,rfl⟩ |⟨g,cap,cur,rfl,_⟩ <;> rfl
theorem x8n {w0:World} {G0:Mem} {β:Nm} {hp:List Blk} {G:Mem} {w:World} (hr:HR w0 G0 β hp G w) {x:AV} {v:Value} (hx:x.rel β v) {sz:Nat} {K:Nat→List Value→Prop} (h:srcF hp G x sz K) :
    ∃ A c m vs,v=.slice A m c∧vs.length=m*sz∧((∃ ad,A=some ad∧∀ (i:Nat) u,vs[i]? = some u→w.cell? (ad.add i)=some u)∨(A=none∧m=0))∧(∀ u∈vs,u.oneCell'=true)∧K m vs:=by
  unfold srcF at h
  split at h
  · rename_i A n c
    obtain ⟨vs,g1,g2,g4,g3⟩:=h
    simp only [AV.rel] at hx
    refine ⟨A,_,n,vs,hx,g1,?_,g4,g3⟩
    by_cases h0:n=0
    · cases A with
      | none=>exact .inr ⟨rfl,h0⟩
      | some ad=>exact .inl ⟨ad,rfl,fun i u hu=>by
          have:vs=[]:=List.eq_nil_of_length_eq_zero (by rw [g1,h0,Nat.zero_mul])
          subst this;simp at hu⟩
    · obtain ⟨ad,rfl,g5⟩:=g2 h0
      exact .inl ⟨ad,rfl,fun i u hu=>hr.hold.cell (g5 i u hu)⟩
  · rename_i k m m'
    simp only [AV.rel] at hx
    obtain ⟨v',b,hv,hb,hxe⟩:=hx
    split at h
    · rename_i t' l hl
      obtain ⟨vs,rfl,h30⟩:=q3f _ _ h
      obtain ⟨hvl0,h31⟩:=q0t h30
      obtain ⟨hone,h3⟩:=q0t h31
      have hvl:=Nat.eq_of_beq_eq_true hvl0
      obtain ⟨x1,hx1,hx2⟩:=hr.blk k v' hv
      rw [q0x hl rfl] at hx1;cases hx1
      obtain ⟨b',c,rfl,hb1,hb2,hb3,hb4⟩:=hx2
      simp [q0i] at hb;subst hb
      have hcv:=q2a hb4
      refine ⟨_,_,_,vs,hxe,hvl,.inl ⟨_,rfl,fun j u hj=>?_⟩,q9k hone,h3⟩
      rw [q02,Nat.zero_add,q5u hb3]
      rw [← hcv] at hj;simpa using hj
    · exact h.elim
  · rename_i k o m
    simp only [AV.rel] at hx
    split at h
    · rename_i e sz' N xs hl
      obtain ⟨g0,vs,⟨g1,g2⟩,g4,g3⟩:=h
      obtain ⟨A,c,hxe,_,_,hx⟩:=hx
      obtain ⟨v',b,hv,hb,rfl⟩:=hx g0
      obtain ⟨x1,hx1,hx2⟩:=hr.blk k v' hv
      rw [q0x hl rfl] at hx1;cases hx1
      refine ⟨_,_,_,vs,hxe,g1,.inl ⟨_,rfl,fun j u hj=>?_⟩,g4,g3⟩
      rw [q02]
      exact q6u hx2.1 hb (g2 j u hj)
    · exact h.elim
  · rename_i k
    simp only [AV.rel] at hx
    split at h
    · rename_i e sz' n xs hl
      obtain ⟨g1,⟨g2,g4⟩,g3⟩:=h |> q0t
      obtain rfl:=Nat.eq_of_beq_eq_true g1
      obtain ⟨x1,hx1,hx2⟩:=hr.blk k v hx.1
      rw [q0x hl rfl] at hx1;cases hx1
      have hown:=hx2.1
      rcases hown.2 with ⟨_,h0⟩ |⟨g,cap,cur,he,p1⟩
      · omega
      · refine ⟨some ⟨g,0,none⟩,cap,n,xs,he,hown.1,.inl ⟨_,rfl,fun j u hj=>?_⟩,g4,g3⟩
        rw [q02,Nat.zero_add]
        exact q6u hown (by rw [he];rfl) hj
    · exact h.elim
  · exact h.elim
theorem q8j {P:Program} {T:Tab} (hT:TOk P T) {o:Oper} {fr:List AV} {hp:List Blk} {G:Mem} {K:AV→List Blk→Mem→Prop} {d x:Operand} {t:TypeId} (ho:o.op=.call ⟨.builtin .append,#[d,x],#[t,t]⟩) (h:z0k T t (ev fr d) (ev fr x) hp G K):RunS P o fr hp G K:=by
  intro w0 G0 β a w hr hf
  have hd:=q2s hf d
  have hx:=q2s hf x
  obtain ⟨i,hi,h1⟩:=q0y hT h
  split at h1
  · rename_i e htd
    have hu:=q1r (htd ▸ hi.td)
    simp only [TD.says] at hu
    obtain ⟨j,hj,h20⟩:=q0y hT h1
    obtain ⟨hsz0,h21⟩:=q0t h20
    obtain ⟨hzl0,h22⟩:=q0t h21
    obtain ⟨hby0,h2⟩:=q0t h22
    have hzl:=Nat.eq_of_beq_eq_true hzl0
    have hby:0<j.bytes:=by simpa [Nat.blt_eq] using hby0
    have hmax:∀ k,k*j.bytes≤140737488355328→k≤maxLen:=fun k hk=>by
      have:=Nat.le_mul_of_pos_right k hby
      unfold maxLen;omega
    have hsz:0<j.size:=by simpa [Nat.blt_eq] using hsz0
    obtain ⟨q,z,hq,hqs,hqb,hqz,hzz⟩:=hj.info
    have hzs:z.cells.size=j.size:=by rw [← hzl,← hzz];simp
    obtain ⟨A,c,m,vs,hxe,hvl,hnews,hone,h3⟩:=x8n hr hx h2
    have run:∀ (v:Value) (n:Nat) (xs:List Value),a.eval d=v→w.ownsRow w0.heap.size e j.size v n xs→n+m≤maxLen→(n+m)*j.bytes≤140737488355328→(∀ u∈vs,u.oneCell'=true) →
        ∃ v' w',(execOp a.eval o).run P w=.ok (.value v') w'∧w'.ownsRow w0.heap.size e j.size v' (n+m) (xs++vs)∧w.grownBy w' (q0i v)∧(∀ b,q0i v'=some b→w.heap.size≤b∨q0i v=some b):=by
      intro v n xs hv hown g1 g2 g3
      rcases hnews with ⟨ad,rfl,hnews⟩ |⟨rfl,rfl⟩
      rotate_left
      · have hv0:vs=[]:=List.eq_nil_of_length_eq_zero (by simpa using hvl)
        subst hv0
        have hrun:=z0b (P:=P) w w0.heap.size t o.type e q j.size hu hq v n xs hown c
        exact ⟨v,w,by simp [execOp,ho,resolve,invoke,builtin,hv,hxe,hrun],by simpa using hown,⟨rfl,rfl,rfl,Nat.le_refl _,fun _ _ _=>rfl⟩,fun b hb=>.inr hb⟩
      obtain ⟨v',w',hrun,hown',hgr,_,hat⟩:=run_append_own_at (P:=P) w w0.heap.size t o.type e q z j.size j.bytes hu hq hqz hqs hqb hzs hsz v n xs hown ad m c vs hvl hnews g3 g1 g2 hr.below.size
      refine ⟨v',w',by simp [execOp,ho,resolve,invoke,builtin,hv,hxe,hrun],hown',by rw [← q5w hown];exact hgr,fun b hb=>?_⟩
      rw [q5w hown',q5w hown] at hat
      rcases hat with h |h
      · right;rw [← h];exact hb
      · left;rw [hb] at h;cases h;exact Nat.le_refl _
    split at h3
    · rename_i hd'
      obtain ⟨g1,h4⟩:=h3
      have g2:=hmax _ g1
      have g3:=hone
      have h5:=q1y h4
      rw [q09] at h5
      rw [hd'] at hd;simp only [AV.rel] at hd
      obtain ⟨v',w',hrun,hown,hgr,hat⟩:=run _ 0 [] hd (World.ownsRow_nil w _ _ _) (by omega) (by simpa using g1) g3
      have hb:Below w.heap.size w w':=⟨hgr.os,hgr.tape,hgr.output,hgr.size,fun k hk=>hgr.block k hk (by simp [q0i])⟩
      have hfresh:∀ b,q0i v'=some b→w.heap.size≤b:=fun b hb=>by
        rcases hat b hb with h |h
        · exact h
        · simp [q0i] at h
      refine ⟨_,v',w',_,.own hp.length,_,G,hrun,.inl rfl,Nm.le_put v' (hr.fresh (Nat.le_refl _)),hr.name hb (x:=.own e j.size m vs) ⟨by simpa using hown,fun g hg=>?_⟩ rfl hfresh,by simp only [AV.rel];exact ⟨Nm.put_same _ _ _,q22 hown⟩,h5⟩
      cases hG:G g with
      | none=>rfl
      | some ob =>
        have h6:=(Array.getElem?_eq_some_iff.1 (hr.hold _ _ hG)).1
        have h7:=hfresh g hg
        omega
    · rename_i k hd'
      rw [hd'] at hd;simp only [AV.rel] at hd
      split at h3
      · rename_i e' sz n xs hb
        obtain ⟨h31,h32⟩:=q0t h3
        obtain ⟨h33,g1,h4⟩:=q0t h32
        obtain rfl:=Nat.eq_of_beq_eq_true h31
        obtain rfl:=Nat.eq_of_beq_eq_true h33
        have g2:=hmax _ g1
        have g3:=hone
        rw [q1c] at h4
        have h5:=q1y h4
        rw [q09] at h5
        have hk:=q0x hb rfl
        obtain ⟨x1,hx1,hx2⟩:=hr.blk k _ hd.1
        rw [hk] at hx1;cases hx1
        obtain ⟨v',w',hrun,hown,hgr,hat⟩:=run _ n xs rfl hx2.1 g2 g1 g3
        have hlen:(hp.set k .gone).length=hp.length:=by simp
        rw [hlen] at h5
        refine ⟨_,v',w',_,.own hp.length,_,G,hrun,.inl rfl,Nm.le_put v' (hr.fresh (Nat.le_refl _)),hr.moveName hd.1 hk rfl hgr hat rfl (u:=.own _ _ (n+m) (xs++vs)) ⟨hown,fun g hg=>?_⟩,by simp only [AV.rel];exact ⟨Nm.put_same _ _ _,q22 hown⟩,h5⟩
        rcases hat g hg with h7 |h7
        · cases hG:G g with
          | none=>rfl
          | some ob =>
            have h6:=(Array.getElem?_eq_some_iff.1 (hr.hold _ _ hG)).1
            omega
        · exact (hr.lt hd.1 hk rfl h7).2.2
      · exact h3.elim
    · rename_i k hd'
      rw [hd'] at hd;simp only [AV.rel] at hd
      split at h3
      · rename_i e' hb
        obtain ⟨h31,g1,h4⟩:=q0t h3
        obtain rfl:=Nat.eq_of_beq_eq_true h31
        have g2:=hmax _ g1
        have g3:=hone
        rw [q1c] at h4
        have h5:=q1y h4
        rw [q09] at h5
        have hk:=q0x hb rfl
        obtain ⟨u,b,hu1,hu2,hu3⟩:=hd
        obtain ⟨x1,hx1,hx2⟩:=hr.blk k _ hu1
        rw [hk] at hx1;cases hx1
        obtain ⟨b',c',rfl,hb1,hb2,hb3,hb4⟩:=hx2
        simp [q0i] at hu2;subst hu2
        have hc0:c'=#[]:=by
          simp only [AV.rels] at hb4
          exact Array.toList_eq_nil_iff.1 hb4
        subst hc0
        have hown0:w.ownsRow w0.heap.size e' j.size (.slice (some ⟨b',0,none⟩) 0 0) 0 []:=⟨by simp,.inr ⟨b',0,#[],rfl,hb1,hb3,Nat.le_refl _,Nat.zero_le _,by simp,by simp⟩⟩
        obtain ⟨v',w',hrun,hown,hgr,hat⟩:=run _ 0 [] hu3 hown0 (by omega) (by simpa using g1) g3
        have hlen:(hp.set k .gone).length=hp.length:=by simp
        rw [hlen] at h5
        refine ⟨_,v',w',_,.own hp.length,_,G,hrun,.inl rfl,Nm.le_put v' (hr.fresh (Nat.le_refl _)),hr.moveName hu1 hk rfl hgr hat rfl (u:=.own _ _ m vs) ⟨by simpa using hown,fun g hg=>?_⟩,by simp only [AV.rel];exact ⟨Nm.put_same _ _ _,q22 hown⟩,h5⟩
        rcases hat g hg with h7 |h7
        · cases hG:G g with
          | none=>rfl
          | some ob =>
            have h6:=(Array.getElem?_eq_some_iff.1 (hr.hold _ _ hG)).1
            omega
        · exact (hr.lt hu1 hk rfl h7).2.2
      · exact h3.elim
    · rename_i k n cc _ hd'
      rw [hd'] at hd;simp only [AV.rel] at hd
      split at h3
      · rename_i e' l hb
        obtain ⟨h31,h32⟩:=q0t h3
        obtain ⟨h33,h34⟩:=q0t h32
        obtain rfl:=Nat.eq_of_beq_eq_true h31
        obtain rfl:=Nat.eq_of_beq_eq_true h33
        obtain ⟨xs,rfl,h35⟩:=q3f _ _ h34
        obtain ⟨h36,g1,h4⟩:=q0t h35
        have hxl:=Nat.eq_of_beq_eq_true h36
        have g2:=hmax _ g1
        have g3:=hone
        rw [q1c] at h4
        have h5:=q1y h4
        rw [q09] at h5
        have hk:=q0x hb rfl
        obtain ⟨u,b,hu1,hu2,hu3⟩:=hd
        obtain ⟨x1,hx1,hx2⟩:=hr.blk k _ hu1
        rw [hk] at hx1;cases hx1
        obtain ⟨b',c',rfl,hb1,hb2,hb3,hb4⟩:=hx2
        simp [q0i] at hu2;subst hu2
        have hc0:c'.toList=xs:=q2a hb4
        have hcs:c'.size=n*j.size:=by rw [← hxl,← hc0];simp
        have hown0:w.ownsRow w0.heap.size e' j.size (.slice (some ⟨b',0,none⟩) n n) n xs:=⟨hxl,.inr ⟨b',n,c',rfl,hb1,hb3,Nat.le_refl _,by omega,hcs,by rw [hc0];exact List.take_of_length_le (by omega)⟩⟩
        obtain ⟨v',w',hrun,hown,hgr,hat⟩:=run _ n xs hu3 hown0 g2 g1 g3
        have hlen:(hp.set k .gone).length=hp.length:=by simp
        rw [hlen] at h5
        refine ⟨_,v',w',_,.own hp.length,_,G,hrun,.inl rfl,Nm.le_put v' (hr.fresh (Nat.le_refl _)),hr.moveName hu1 hk rfl hgr hat rfl (u:=.own _ _ (n+m) (xs++vs)) ⟨hown,fun g hg=>?_⟩,by simp only [AV.rel];exact ⟨Nm.put_same _ _ _,q22 hown⟩,h5⟩
        rcases hat g hg with h7 |h7
        · cases hG:G g with
          | none=>rfl
          | some ob =>
            have h6:=(Array.getElem?_eq_some_iff.1 (hr.hold _ _ hG)).1
            omega
        · exact (hr.lt hu1 hk rfl h7).2.2
      · exact h3.elim
    · rename_i k o n hd'
      rw [hd'] at hd;simp only [AV.rel] at hd
      split at h3
      · rename_i e' sz N xs hb
        obtain ⟨h31,h32⟩:=q0t h3
        obtain ⟨h33,⟨g0,gN,g1⟩,h4⟩:=q0t h32
        obtain rfl:=Nat.eq_of_beq_eq_true h31
        obtain rfl:=Nat.eq_of_beq_eq_true h33
        have g2:=hmax _ g1
        have g3:=hone
        rw [q1c] at h4
        have h5:=q1y h4
        rw [q09] at h5
        have hk:=q0x hb rfl
        obtain ⟨A,c,he,_,⟨_,hd3⟩,_⟩:=hd
        obtain ⟨mm,hβ⟩:=hd3 g0
        obtain ⟨x1,hx1,hx2⟩:=hr.blk k _ hβ
        rw [hk] at hx1;cases hx1
        obtain rfl:=z31 hx2.1
        obtain ⟨v',w',hrun,hown,hgr,hat⟩:=run _ n (xs.take (n*j.size)) he (q89 hx2.1 gN) g2 g1 g3
        have eb:q0i (.slice A n c)=q0i (.slice A mm c):=by cases A <;> rfl
        rw [eb] at hgr hat
        have hlen:(hp.set k .gone).length=hp.length:=by simp
        rw [hlen] at h5
        refine ⟨_,v',w',_,.own hp.length,_,G,hrun,.inl rfl,Nm.le_put v' (hr.fresh (Nat.le_refl _)),hr.moveName hβ hk rfl hgr hat rfl (u:=.own _ _ (n+m) (xs.take (n*j.size)++vs)) ⟨hown,fun g hg=>?_⟩,by simp only [AV.rel];exact ⟨Nm.put_same _ _ _,q22 hown⟩,h5⟩
        rcases hat g hg with h7 |h7
        · exact q5t hr.hold h7
        · exact (hr.lt hβ hk rfl h7).2.2
      · exact h3.elim
    · exact h3.elim
  · exact h1.elim
def vLen (T:Tab) (t:TypeId) (x:AV) (hp:List Blk) (K:AV→Prop):Prop :=
  q1b T t fun i=>match i.td with
    | .slice _=>match x with
      | .val (.slice _ n _)=>K (.val (.int .i64 n))
      | .sli _ _ n _=>K (.val (.int .i64 n))
      | .vw _ _ n=>K (.val (.int .i64 n))
      | .own k=>match nthB hp k with
        | .own _ _ n _=>K (.val (.int .i64 n))
        | _=>False
      | _=>False
    | .str=>q8x x fun s=>K (.val (.int .i64 s.size))
    | .arr n _=>K (.val (.int .i64 n))
    | _=>False
theorem z9x {w:World} {base e sz n:Nat} {y:Value} {xs:List Value} (h:w.ownsRow base e sz y n xs):∃ A c,y=.slice A n c:=by
  rcases h.2 with ⟨rfl,rfl⟩ |⟨g,cap,cur,rfl,_⟩
  · exact ⟨_,_,rfl⟩
  · exact ⟨_,_,rfl⟩
theorem z6s {P:Program} {T:Tab} (hT:TOk P T) {o:Oper} {fr:List AV} {hp:List Blk} {G:Mem} {K:AV→Prop} {x:Operand} {t:TypeId} (ho:o.op=.call ⟨.builtin .len,#[x],#[t]⟩) (h:vLen T t (ev fr x) hp K):q2g P o fr hp G K:=by
  have hmx:x∈o.op.operands.toList:=by simp [ho,Op.operands,Call.operands]
  obtain ⟨i,hi,h1⟩:=q0y hT h
  split at h1
  · rename_i e hd
    have hu:=q1r (hd ▸ hi.td)
    simp only [TD.says] at hu
    have fin:∀ (A:Option Addr) (n c:Nat) (β:Nm) (ρ:Operand→Value) (w:World),ρ x=.slice A n c→∃ y,(execOp ρ o).run P w=.ok (.value y) w∧AV.rel β (.val (.int .i64 n)) y:=fun A n c β ρ w he =>
      ⟨.int .i64 n,by simp [execOp,ho,resolve,invoke,builtin,Builtin.len_,run_underlying hu,he,goInt],by simp only [AV.rel]⟩
    split at h1
    · rename_i A n c hx'
      refine ⟨_,h1,fun base β ρ w hr hf=>?_⟩
      have hx:=hf x hmx
      rw [hx'] at hx;simp only [AV.rel] at hx
      exact fin _ _ _ _ _ _ hx
    · rename_i k o' n c hx'
      refine ⟨_,h1,fun base β ρ w hr hf=>?_⟩
      have hx:=hf x hmx
      rw [hx'] at hx;simp only [AV.rel] at hx
      obtain ⟨v,b,_,_,h2⟩:=hx
      exact fin _ _ _ _ _ _ h2
    · rename_i k o' n hx'
      refine ⟨_,h1,fun base β ρ w hr hf=>?_⟩
      have hx:=hf x hmx
      rw [hx'] at hx;simp only [AV.rel] at hx
      obtain ⟨A,c,h2,_⟩:=hx
      exact fin _ _ _ _ _ _ h2
    · rename_i k hx'
      split at h1
      · rename_i e' sz n xs hb
        refine ⟨_,h1,fun base β ρ w hr hf=>?_⟩
        have hx:=hf x hmx
        rw [hx'] at hx;simp only [AV.rel] at hx
        obtain ⟨A,c,h2⟩:=z9x (hr.blk k _ _ hx.1 (q0x hb rfl)).1
        exact fin _ _ _ _ _ _ h2
      · exact h1.elim
    · exact h1.elim
  · rename_i hd
    have hu:=q1r (hd ▸ hi.td)
    simp only [TD.says] at hu
    obtain ⟨s,hs,h2⟩:=q8h h1
    refine ⟨_,h2,fun base β ρ w hr hf=>?_⟩
    have hx:=hf x hmx
    rw [hs] at hx;simp only [AV.rel] at hx
    exact ⟨.int .i64 s.size,by simp [execOp,ho,resolve,invoke,builtin,Builtin.len_,run_underlying hu,hx,goInt],by simp only [AV.rel]⟩
  · rename_i n e hd
    have hu:=q1r (hd ▸ hi.td)
    simp only [TD.says] at hu
    exact ⟨_,h1,fun base β ρ w hr hf=>⟨.int .i64 n,by simp [execOp,ho,resolve,invoke,builtin,Builtin.len_,run_underlying hu,goInt],by simp only [AV.rel]⟩⟩
  · exact h1.elim
def z9c (mn:Bool) (a b:AV) (K:AV→Prop):Prop :=
  match mn with
  | true=>q1v a fun k m=>q1v b fun _ n=>K (.val (.int k (min m n)))
  | false=>q1v a fun k m=>q1v b fun _ n=>K (.val (.int k (max m n)))
theorem x2n {P:Program} {o:Oper} {fr:List AV} {hp:List Blk} {G:Mem} {K:AV→Prop} {x y:Operand} {ts:Array TypeId} (ho:o.op=.call ⟨.builtin .min,#[x,y],ts⟩) (h:z9c true (ev fr x) (ev fr y) K):q2g P o fr hp G K:=by
  have hmx:x∈o.op.operands.toList:=by simp [ho,Op.operands,Call.operands]
  have hmy:y∈o.op.operands.toList:=by simp [ho,Op.operands,Call.operands]
  obtain ⟨k,m,hx',h1⟩:=q1d h
  obtain ⟨k',n,hy',h2⟩:=q1d h1
  refine ⟨_,h2,fun base β ρ w hr hf=>?_⟩
  have hx:=hf x hmx
  have hy:=hf y hmy
  rw [hx'] at hx;rw [hy'] at hy
  simp only [AV.rel] at hx hy
  refine ⟨.int k (min m n),?_,by simp only [AV.rel]⟩
  have e:(if n<m then n else m)=min m n:=by split <;> omega
  simp [execOp,ho,resolve,invoke,builtin,hx,hy,Builtin.min_,Builtin.min2,e]
theorem x2o {P:Program} {o:Oper} {fr:List AV} {hp:List Blk} {G:Mem} {K:AV→Prop} {x y:Operand} {ts:Array TypeId} (ho:o.op=.call ⟨.builtin .max,#[x,y],ts⟩) (h:z9c false (ev fr x) (ev fr y) K):q2g P o fr hp G K:=by
  have hmx:x∈o.op.operands.toList:=by simp [ho,Op.operands,Call.operands]
  have hmy:y∈o.op.operands.toList:=by simp [ho,Op.operands,Call.operands]
  obtain ⟨k,m,hx',h1⟩:=q1d h
  obtain ⟨k',n,hy',h2⟩:=q1d h1
  refine ⟨_,h2,fun base β ρ w hr hf=>?_⟩
  have hx:=hf x hmx
  have hy:=hf y hmy
  rw [hx'] at hx;rw [hy'] at hy
  simp only [AV.rel] at hx hy
  refine ⟨.int k (max m n),?_,by simp only [AV.rel]⟩
  have e:(if m<n then n else m)=max m n:=by split <;> omega
  simp [execOp,ho,resolve,invoke,builtin,hx,hy,Builtin.max_,Builtin.max2,e]
def z9d (mn:Bool) (a b c:AV) (K:AV→Prop):Prop :=
  match mn with
  | true=>q1v a fun k m=>q1v b fun _ n=>q1v c fun _ q=>K (.val (.int k (min (min m n) q)))
  | false=>q1v a fun k m=>q1v b fun _ n=>q1v c fun _ q=>K (.val (.int k (max (max m n) q)))
theorem z9y {P:Program} {o:Oper} {fr:List AV} {hp:List Blk} {G:Mem} {K:AV→Prop} {x y z:Operand} {ts:Array TypeId} (ho:o.op=.call ⟨.builtin .min,#[x,y,z],ts⟩) (h:z9d true (ev fr x) (ev fr y) (ev fr z) K):q2g P o fr hp G K:=by
  have hmx:x∈o.op.operands.toList:=by simp [ho,Op.operands,Call.operands]
  have hmy:y∈o.op.operands.toList:=by simp [ho,Op.operands,Call.operands]
  have hmz:z∈o.op.operands.toList:=by simp [ho,Op.operands,Call.operands]
  obtain ⟨k,m,hx',h1⟩:=q1d h
  obtain ⟨k',n,hy',h2⟩:=q1d h1
  obtain ⟨k'',q,hz',h3⟩:=q1d h2
  refine ⟨_,h3,fun base β ρ w hr hf=>?_⟩
  have hx:=hf x hmx
  have hy:=hf y hmy
  have hz:=hf z hmz
  rw [hx'] at hx;rw [hy'] at hy;rw [hz'] at hz
  simp only [AV.rel] at hx hy hz
  refine ⟨.int k (min (min m n) q),?_,by simp only [AV.rel]⟩
  have e:∀ u v:Int,(if v<u then v else u)=min u v:=fun u v=>by split <;> omega
  simp [execOp,ho,resolve,invoke,builtin,hx,hy,hz,Builtin.min_,Builtin.min2,e]
theorem z9z {P:Program} {o:Oper} {fr:List AV} {hp:List Blk} {G:Mem} {K:AV→Prop} {x y z:Operand} {ts:Array TypeId} (ho:o.op=.call ⟨.builtin .max,#[x,y,z],ts⟩) (h:z9d false (ev fr x) (ev fr y) (ev fr z) K):q2g P o fr hp G K:=by
  have hmx:x∈o.op.operands.toList:=by simp [ho,Op.operands,Call.operands]
  have hmy:y∈o.op.operands.toList:=by simp [ho,Op.operands,Call.operands]
  have hmz:z∈o.op.operands.toList:=by simp [ho,Op.operands,Call.operands]
  obtain ⟨k,m,hx',h1⟩:=q1d h
  obtain ⟨k',n,hy',h2⟩:=q1d h1
  obtain ⟨k'',q,hz',h3⟩:=q1d h2
  refine ⟨_,h3,fun base β ρ w hr hf=>?_⟩
  have hx:=hf x hmx
  have hy:=hf y hmy
  have hz:=hf z hmz
  rw [hx'] at hx;rw [hy'] at hy;rw [hz'] at hz
  simp only [AV.rel] at hx hy hz
  refine ⟨.int k (max (max m n) q),?_,by simp only [AV.rel]⟩
  have e:∀ u v:Int,(if u<v then v else u)=max u v:=fun u v=>by split <;> omega
  simp [execOp,ho,resolve,invoke,builtin,hx,hy,hz,Builtin.max_,Builtin.max2,e]
def z5b (T:Tab) (t:TypeId) (x y:Operand) (fr:List AV) (hp:List Blk) (G:Mem) (K:AV→List Blk→Mem→Prop):Prop :=
  q1b T t fun i=>match i.td with
    | .slice e=>q1b T e fun j=>q1v (ev fr x) fun _ l=>q1v (ev fr y) fun _ c =>
        mustP (0≤l∧l≤c∧(j.bytes:Int)*c≤281474976710656∧c≤9223372036854775807) (q0w (Nat.beq j.zero.length j.size) (lenF hp fun n=>catF hp [.own e j.size l.toNat (List.replicate l.toNat j.zero).flatten] fun hp'=>K (.own n) hp' G))
    | _=>False
theorem z90 (z:Array Value) (n:Nat):(madeCells z (n*z.size)).toList=(List.replicate n z.toList).flatten:=z2h z n
theorem z16 {P:Program} {T:Tab} (hT:TOk P T) {o:Oper} {fr:List AV} {hp:List Blk} {G:Mem} {K:AV→List Blk→Mem→Prop} {x y:Operand} {t:TypeId} (ho:o.op=.makeSlice t x y) (h:z5b T t x y fr hp G K):NewS P o fr hp G K:=by
  have hmx:x∈o.op.operands.toList:=by simp [ho,Op.operands]
  have hmy:y∈o.op.operands.toList:=by simp [ho,Op.operands]
  obtain ⟨i,hi,h1⟩:=q0y hT h
  split at h1
  · rename_i e hd
    have hu:=q1r (hd ▸ hi.td)
    simp only [TD.says] at hu
    obtain ⟨j,hj,h2⟩:=q0y hT h1
    obtain ⟨k,l,hx',h3⟩:=q1d h2
    obtain ⟨k',c,hy',⟨g1,g2,g3,g4⟩,h40⟩:=q1d h3
    obtain ⟨g50,h4⟩:=q0t h40
    have g5:=Nat.eq_of_beq_eq_true g50
    have h5:=q1y h4
    rw [q09] at h5
    refine ⟨.own hp.length,_,h5,fun base β ρ w hb hs hn hf=>?_⟩
    have hx:=hf x hmx
    have hy:=hf y hmy
    rw [hx'] at hx;rw [hy'] at hy
    simp only [AV.rel] at hx hy
    obtain ⟨q,z,hq,hqs,hqb,hqz,hzz⟩:=hj.info
    have hzs:z.cells.size=j.size:=by rw [← g5,← hzz];simp
    have hrun:=run_make (P:=P) w t e q z hu hq hqz k k' l c g1 g2 (by rw [hqb];exact g3) g4
    rw [hqs] at hrun
    have hG:G w.heap.size=none:=q5t hb.hold (Nat.le_refl _)
    refine ⟨.slice (some ⟨w.heap.size,0,none⟩) l.toNat c.toNat,.slice (some ⟨w.heap.size,0,none⟩) l.toNat c.toNat,w.alloc (.cells (madeCells z.cells (c.toNat * j.size)) e),by simp [execOp,ho,hx,hy,hrun],(Below.refl _ _).alloc (Nat.le_refl _) _,
      ⟨⟨?_,.inr ⟨w.heap.size,c.toNat,_,rfl,hs,heap_alloc_new w _,by omega,by unfold maxLen;omega,size_madeCells _ _,?_⟩⟩,fun g hg=>?_⟩,fun b hb=>by simp [q0i] at hb;omega,by simp only [AV.rel];exact ⟨Nm.put_same _ _ _,rfl⟩⟩
    · simp [g5]
    · rw [← hzs,z90,hzz]
      have e1:c.toNat=l.toNat+(c.toNat-l.toNat):=by omega
      rw [e1,← List.replicate_append_replicate,List.flatten_append]
      have e2:((List.replicate l.toNat j.zero).flatten).length=l.toNat * z.cells.size:=by simp [g5,hzs]
      rw [← e2,List.take_left']
      rfl
    · simp [q0i] at hg;subst hg;exact hG
  · exact h1.elim
end Go.Proofs.YtegpkpilfgohhaaGreat
namespace Go.Proofs.YtegpkpilfgohhaaGreat
open Go.RowKit
/-! ### The builtin copy -/
def srcC (hp:List Blk) (G:Mem) (x:AV) (m:Nat) (K:List Value→Prop):Prop :=
  match x with
  | .val (.slice (some p) _ _)=>OldCells G p m K
  | .sli k o _ _=>match nthB hp k with
    | .cells _ l=>q14 l fun vs=>OwnCells vs o m K
    | _=>False
  | .vw k o n=>match nthB hp k with
    | .own _ _ _ xs=>mustP (m≤n) (OwnCells xs o m K)
    | _=>False
  | _=>False
theorem x8o {w0:World} {G0:Mem} {β:Nm} {hp:List Blk} {G:Mem} {w:World} (hr:HR w0 G0 β hp G w) {x:AV} {v:Value} (hx:x.rel β v) {m:Nat} {K:List Value→Prop} (h:srcC hp G x m K) :
    ∃ vs,K vs∧vs.length=m∧∃ A n c,v=.slice A n c∧(0<m→∃ ad,A=some ad∧∀ (i:Nat) u,vs[i]? = some u→w.cell? (ad.add i)=some u):=by
  unfold srcC at h
  split at h
  · obtain ⟨vs,⟨g1,g2⟩,g3⟩:=h
    simp only [AV.rel] at hx
    exact ⟨vs,g3,g1,_,_,_,hx,fun _=>⟨_,rfl,fun i u hu=>hr.hold.cell (g2 i u hu)⟩⟩
  · rename_i k o n c
    simp only [AV.rel] at hx
    obtain ⟨v',b,hv,hb,hxe⟩:=hx
    split at h
    · rename_i t' l hl
      obtain ⟨vs,rfl,⟨us,⟨g1,g2⟩,g3⟩⟩:=q3f _ _ h
      obtain ⟨x1,hx1,hx2⟩:=hr.blk k v' hv
      rw [q0x hl rfl] at hx1;cases hx1
      obtain ⟨b',cc,rfl,hb1,hb2,hb3,hb4⟩:=hx2
      simp [q0i] at hb;subst hb
      have hcv:=q2a hb4
      refine ⟨us,g3,g1,_,_,_,hxe,fun _=>⟨_,rfl,fun i u hu=>?_⟩⟩
      have:=g2 i u hu
      rw [q02,q5u hb3]
      rw [← hcv] at this;simpa using this
    · exact h.elim
  · rename_i k o n
    simp only [AV.rel] at hx
    obtain ⟨A,c,hxe,_,_,h4⟩:=hx
    split at h
    · rename_i e sz N xs hl
      obtain ⟨hmn,us,⟨g1,g2⟩,g3⟩:=h
      refine ⟨us,g3,g1,_,_,_,hxe,fun hm=>?_⟩
      obtain ⟨v',b,hv,hb,rfl⟩:=h4 (by omega)
      obtain ⟨x1,hx1,hx2⟩:=hr.blk k v' hv
      rw [q0x hl rfl] at hx1;cases hx1
      refine ⟨_,rfl,fun i u hu=>?_⟩
      rw [q02]
      exact q6u hx2.1 hb (g2 i u hu)
    · exact h.elim
  · exact h.elim
def lenC (x:AV) (K:Nat→Prop):Prop :=
  match x with
  | .val (.slice _ n _)=>K n
  | .sli _ _ n _=>K n
  | .vw _ _ n=>K n
  | _=>False
theorem x8p {x:AV} {β:Nm} {v:Value} (hx:x.rel β v) {K:Nat→Prop} (h:lenC x K):∃ m A c,v=.slice A m c∧K m:=by
  unfold lenC at h
  split at h
  · simp only [AV.rel] at hx
    exact ⟨_,_,_,hx,h⟩
  · simp only [AV.rel] at hx
    obtain ⟨_,_,_,_,hxe⟩:=hx
    exact ⟨_,_,_,hxe,h⟩
  · simp only [AV.rel] at hx
    obtain ⟨_,_,hxe,_⟩:=hx
    exact ⟨_,_,_,hxe,h⟩
  · exact h.elim
def x8a (T:Tab) (t:TypeId) (d x:AV) (hp:List Blk) (G:Mem) (K:AV→List Blk→Mem→Prop):Prop :=
  q1b T t fun i=>match i.td with
    | .slice e=>q1b T e fun j=>q0w (Nat.beq j.size 1) (match d with
      | .vw k o n=>lenC x fun m=>srcC hp G x (min m n) fun vs=>match nthB hp k with
        | .own e' sz N xs=>mustP (o+vs.length≤xs.length∧∀ v∈vs,v.oneCell'=true) (setF hp k (.own e' sz N (xs.take o++vs++xs.drop (o+vs.length))) fun hp'=>K (.val (.int .i64 vs.length)) hp' G)
        | _=>False
      | _=>False)
    | _=>False
theorem x6s {P:Program} {T:Tab} (hT:TOk P T) {o:Oper} {fr:List AV} {hp:List Blk} {G:Mem} {K:AV→List Blk→Mem→Prop} {d x:Operand} {t t':TypeId} (ho:o.op=.call ⟨.builtin .copy,#[d,x],#[t,t']⟩) (h:x8a T t (ev fr d) (ev fr x) hp G K):RunS P o fr hp G K:=by
  intro w0 G0 β a w hr hf
  have hd:=q2s hf d
  have hx:=q2s hf x
  obtain ⟨i,hi,h1⟩:=q0y hT h
  split at h1
  · rename_i e htd
    have hu:=q1r (htd ▸ hi.td)
    simp only [TD.says] at hu
    obtain ⟨j,hj,h20⟩:=q0y hT h1
    obtain ⟨hsz0,h21⟩:=q0t h20
    have hsz:=Nat.eq_of_beq_eq_true hsz0
    obtain ⟨q,z,hq,hqs,_⟩:=hj.info
    have hs1:(P.info? e).map (·.size)=some 1:=by simp [hq,hqs,hsz]
    split at h21
    · rename_i k off n hd'
      rw [hd'] at hd;simp only [AV.rel] at hd
      obtain ⟨D,c,hde,_,_,hD⟩:=hd
      obtain ⟨m,A,c',hxv,h22⟩:=x8p hx h21
      obtain ⟨vs,h3,hvl,A',n',c'',hxe,hcell⟩:=x8o hr hx h22
      have hxv2:=hxv
      rw [hxe] at hxv2;cases hxv2
      split at h3
      · rename_i e' sz N xs hl
        obtain ⟨⟨g1,g2⟩,h4⟩:=h3
        rw [q1c] at h4
        have hk:=q0x hl rfl
        rcases Nat.eq_zero_or_pos (min m n) with hm0 |hm0
        · have hrun:=run_copy_none (P:=P) w t t' o.type e D A n c m c' hu hs1 hm0
          have hv0:vs=[]:=List.eq_nil_of_length_eq_zero (by rw [hvl,hm0])
          subst hv0
          have he:hp.set k (.own e' sz N (xs.take off++[]++xs.drop (off+([]:List Value).length)))=hp:=by
            simp only [List.append_nil,List.length_nil,Nat.add_zero,List.take_append_drop]
            apply List.ext_getElem?
            intro j
            rw [List.getElem?_set]
            split
            · rename_i h;subst h
              rw [hk];simp [(List.getElem?_eq_some_iff.1 hk).1]
            · rfl
          rw [he] at h4
          exact ⟨_,.int .i64 ((0:Nat):Int),w,β,_,hp,G,by simp [execOp,ho,resolve,invoke,builtin,hde,hxv,hrun,goInt],.inl rfl,Nm.le_refl _,hr,by simp only [AV.rel];rfl,h4⟩
        obtain ⟨v',b,hv,hb,rfl⟩:=hD (by omega)
        obtain ⟨ad,rfl,hcell'⟩:=hcell hm0
        obtain ⟨x1,hx1,hx2⟩:=hr.blk k v' hv
        rw [hk] at hx1;cases hx1
        obtain ⟨hown,hG⟩:=hx2
        rcases hown.2 with ⟨rfl,_⟩ |⟨g,cap,cur,rfl,hg1,hg2,hg3,hg4,hg5,hg6⟩
        · simp [q0i] at hb
        have hb':=hb
        simp [q0i] at hb;subst hb
        have hxl:xs.length≤cur.size:=by rw [← hg6,List.length_take];simp;omega
        have hrun:=run_copy_row (P:=P) w t t' o.type e g off n c ad m c' cur e' vs hu hs1 hg2 (by rw [hvl]) hcell' (by omega) g2
        refine ⟨_,.int .i64 vs.length,_,β,_,_,G,by simp [execOp,ho,resolve,invoke,builtin,hde,hxv,hrun,goInt];rfl,.inl rfl,Nm.le_refl _,?_,by simp only [AV.rel],h4⟩
        refine hr.setBlk hv hk rfl hb' (q2t _ _ _) ⟨⟨?_,.inr ⟨g,cap,_,rfl,hg1,setRow_heap _ _ _ _ _ _ hg2,hg3,hg4,?_,?_⟩⟩,hG⟩
        · rw [← hown.1]
          simp [List.length_take,List.length_drop];omega
        · rw [← hg5]
          simp [List.length_take,List.length_drop];omega
        · have hn:N*sz=xs.length:=hown.1.symm
          rw [hn] at hg6 ⊢
          apply List.ext_getElem?
          intro j
          have hx:∀ j,j<xs.length→cur.toList[j]? = xs[j]?:=fun j hj=>by rw [← hg6,List.getElem?_take,if_pos hj]
          simp only [List.getElem?_take,List.getElem?_append,List.length_take,List.length_append,List.getElem?_drop,Array.length_toList]
          have e1:min off cur.size=off:=by omega
          have e2:min off xs.length=off:=by omega
          rw [e1,e2]
          by_cases hj:j<xs.length
          · rw [if_pos hj]
            by_cases hj2:j<off
            · simp only [if_pos (show j<off+vs.length by omega),if_pos hj2];exact hx j hj
            · by_cases hj3:j<off+vs.length
              · simp only [if_pos hj3,if_neg hj2,if_pos (show j-off<vs.length by omega)]
              · simp only [if_neg hj3,if_neg hj2,if_neg (show ¬ j-off<vs.length by omega)]
                rw [hx _ (by omega),Nat.sub_sub]
          · rw [if_neg hj]
            by_cases hj2:j<off+vs.length
            · omega
            · rw [if_neg hj2,List.getElem?_eq_none (by omega)]
      · exact h3.elim
    · exact h21.elim
  · exact h1.elim
/-! ### The builtin clear -/
def x4r (T:Tab) (t:TypeId) (x:AV) (hp:List Blk) (G:Mem) (K:AV→List Blk→Mem→Prop):Prop :=
  q1b T t fun i=>match i.td with
    | .slice e=>q1b T e fun j=>q0w (z0i j.zero) (match x with
      | .vw k o n=>match nthB hp k with
        | .own e' sz N xs=>mustP (o+n*j.zero.length≤xs.length) (setF hp k (.own e' sz N (xs.take o++(List.replicate n j.zero).flatten++xs.drop (o+n*j.zero.length))) fun hp'=>K (.val (.tuple #[])) hp' G)
        | _=>False
      | _=>False)
    | _=>False
theorem x3j {z:List Value} (h:∀ v∈z,v.oneCell'=true) (n:Nat):∀ v∈(List.replicate n z).flatten,v.oneCell'=true:=fun v hv=>by
  obtain ⟨l,h1,h2⟩:=List.mem_flatten.1 hv
  rw [List.mem_replicate] at h1
  rw [h1.2] at h2
  exact h v h2
theorem z5c (n:Nat) (z:List Value):(List.replicate n z).flatten.length=n*z.length:=by
  induction n with
  | zero=>simp
  | succ n ih=>rw [List.replicate_succ,List.flatten_cons,List.length_append,ih,Nat.add_mul];omega
theorem x4s {P:Program} {T:Tab} (hT:TOk P T) {o:Oper} {fr:List AV} {hp:List Blk} {G:Mem} {K:AV→List Blk→Mem→Prop} {x:Operand} {t:TypeId} (ho:o.op=.call ⟨.builtin .clear,#[x],#[t]⟩) (h:x4r T t (ev fr x) hp G K):RunS P o fr hp G K:=by
  intro w0 G0 β a w hr hf
  have hx:=q2s hf x
  obtain ⟨i,hi,h1⟩:=q0y hT h
  split at h1
  · rename_i e htd
    have hu:=q1r (htd ▸ hi.td)
    simp only [TD.says] at hu
    obtain ⟨j,hj,h20⟩:=q0y hT h1
    obtain ⟨hone,h21⟩:=q0t h20
    split at h21
    · rename_i k off n hx'
      rw [hx'] at hx;simp only [AV.rel] at hx
      obtain ⟨D,c,hde,_,_,hD⟩:=hx
      split at h21
      · rename_i e' sz N xs hl
        obtain ⟨g1,h4⟩:=h21
        rw [q1c] at h4
        have hk:=q0x hl rfl
        rcases Nat.eq_zero_or_pos n with hn0 |hn0
        · subst hn0
          have he:hp.set k (.own e' sz N (xs.take off++(List.replicate 0 j.zero).flatten++xs.drop (off+0*j.zero.length)))=hp:=by
            simp only [List.replicate_zero,List.flatten_nil,List.append_nil,Nat.zero_mul,Nat.add_zero,List.take_append_drop]
            apply List.ext_getElem?
            intro j
            rw [List.getElem?_set]
            split
            · rename_i h;subst h
              rw [hk];simp [(List.getElem?_eq_some_iff.1 hk).1]
            · rfl
          rw [he] at h4
          refine ⟨_,.tuple #[],w,β,_,hp,G,?_,.inl rfl,Nm.le_refl _,hr,by simp only [AV.rel],h4⟩
          cases D <;> simp [execOp,ho,resolve,invoke,builtin,hde,Builtin.clear_,run_underlying hu]
        obtain ⟨v',b,hv,hb,rfl⟩:=hD hn0
        obtain ⟨x1,hx1,hx2⟩:=hr.blk k v' hv
        rw [hk] at hx1;cases hx1
        obtain ⟨hown,hG⟩:=hx2
        rcases hown.2 with ⟨rfl,_⟩ |⟨g,cap,cur,rfl,hg1,hg2,hg3,hg4,hg5,hg6⟩
        · simp [q0i] at hb
        have hb':=hb
        simp [q0i] at hb;subst hb
        have hxl:xs.length≤cur.size:=by rw [← hg6,List.length_take];simp;omega
        obtain ⟨z,hz1,hz2⟩:=hj.zero (P:=P) w
        have hzc:(Builtin.zeroCells z.cells n).toList=(List.replicate n j.zero).flatten:=by
          unfold Builtin.zeroCells
          rw [z2h,hz2]
        have hvl:=z5c n j.zero
        have hst:=run_storeCells_at P g off e' (List.replicate n j.zero).flatten 0 cur w hg2 (by simp only [Nat.add_zero,Array.length_toList];omega) (x3j (q9k hone) n)
        simp only [Nat.add_zero] at hst
        generalize hvs:(List.replicate n j.zero).flatten=vs at *
        rw [← hvl] at h4 g1
        have hn:n=(n-1)+1:=by omega
        refine ⟨_,.tuple #[],w.setRow g (cur.toList.take off++vs++cur.toList.drop (off+vs.length)).toArray,β,_,_,G,?_,.inl rfl,Nm.le_refl _,?_,by simp only [AV.rel],h4⟩
        rotate_left
        · refine hr.setBlk hv hk rfl hb' (q2t w g (cur.toList.take off++vs++cur.toList.drop (off+vs.length)).toArray) ⟨⟨?_,.inr ⟨g,cap,_,rfl,hg1,setRow_heap _ _ _ _ _ _ hg2,hg3,hg4,?_,?_⟩⟩,hG⟩
          · rw [← hown.1]
            simp [List.length_take,List.length_drop];omega
          · rw [← hg5]
            simp [List.length_take,List.length_drop];omega
          · have hn:N*sz=xs.length:=hown.1.symm
            rw [hn] at hg6 ⊢
            apply List.ext_getElem?
            intro j
            have hx:∀ j,j<xs.length→cur.toList[j]? = xs[j]?:=fun j hj=>by rw [← hg6,List.getElem?_take,if_pos hj]
            simp only [List.getElem?_take,List.getElem?_append,List.length_take,List.length_append,List.getElem?_drop,Array.length_toList]
            have e1:min off cur.size=off:=by omega
            have e2:min off xs.length=off:=by omega
            rw [e1,e2]
            by_cases hj:j<xs.length
            · rw [if_pos hj]
              by_cases hj2:j<off
              · simp only [if_pos (show j<off+vs.length by omega),if_pos hj2];exact hx j hj
              · by_cases hj3:j<off+vs.length
                · simp only [if_pos hj3,if_neg hj2,if_pos (show j-off<vs.length by omega)]
                · simp only [if_neg hj3,if_neg hj2,if_neg (show ¬ j-off<vs.length by omega)]
                  (first |(rw [hx _ (by omega),Nat.sub_sub]) |(rw [hx _ (by omega)]))
            · rw [if_neg hj]
              by_cases hj2:j<off+vs.length
              · omega
              · rw [if_neg hj2,List.getElem?_eq_none (by omega)]
        · rw [hn] at hde hzc
          simp [execOp,ho,resolve,invoke,builtin,hde,Builtin.clear_,run_underlying hu,hz1,hzc,hst]
      · exact h21.elim
    · exact h21.elim
  · exact h1.elim
end Go.Proofs.YtegpkpilfgohhaaGreat
namespace Go.Proofs.YtegpkpilfgohhaaGreat
open Go.RowKit
def q27 (k:Int):List (Int × Value)→Option Nat
  | []=>none
  | (j,v)::l=>if k=j then some 0 else (q27 k l).map (·+1)
theorem q6w {k:Int}:∀ (l:List (Int × Value)) (c i:Nat),Instr.findNow (.int .i64) (.int .i64 k) (q2z l c) i=some (match q27 k l with
    | none=>none
    | some p=>(atI? k l).map fun v=>(i+p,v))
  | [],c,i=>rfl
  | (j,v)::l,c,i=>by
    unfold q2z Instr.findNow
    simp only [Instr.sameNow,if_true]
    by_cases h:k=j
    · subst h
      simp [q27,atI?]
    · have hb:(k==j)=false:=by simp [h]
      simp only [hb,q6w l (c+1) (i+1),q27,atI?,if_neg h]
      cases hp:q27 k l with
      | none=>rfl
      | some p =>
        simp only [Option.map_some]
        cases atI? k l with
        | none=>rfl
        | some v=>simp only [Option.map_some];congr 2;simp;omega
theorem placeI_at {k:Int}:∀ {l:List (Int × Value)},q27 k l=none↔atI? k l=none
  | []=>by simp [q27,atI?]
  | (j,v)::l=>by
    unfold q27 atI?
    split
    · simp
    · simp [placeI_at (l:=l)]
section
variable {P:Program} {t kt et:TypeId} {w:World} {b clock:Nat} {l:List (Int × Value)} {k:Int} {z:Value}
theorem q9q (hk:P.underlying kt=some (.int .i64)) (e:Bool) (n:Nat):(Instr.checkKey e (n+1) kt (.int .i64 k)).run P w=.ok () w:=by
  unfold Instr.checkKey
  simp [run_underlying hk,Result.andThen]
theorem q56 (hk:P.underlying kt=some (.int .i64)) {r:Option (Nat × Value)} {es:List MapEntry} (hf:Instr.findNow (.int .i64) (.int .i64 k) es 0=some r):(Instr.findKey kt (.int .i64 k) es).run P w=.ok r w:=by
  unfold Instr.findKey
  simp [run_underlying hk,hf,Result.andThen]
theorem z91 (ht:P.underlying t=some (.map kt et)) (hk:P.underlying kt=some (.int .i64)) (hz:(zeroValue et).run P w=.ok z w) (hb:w.heap[b]? = some (.map (q2z l 0).toArray clock)) :
    (Instr.lookup t (.map (some b)) (.int .i64 k) false).run P w=.ok ((atI? k l).getD z) w:=by
  have hf:=q6w (k:=k) l 0 0
  cases hp:q27 k l with
  | none =>
    have ha:=placeI_at.1 hp
    rw [hp] at hf
    simp [Instr.lookup,run_underlying ht,MapKept.run_getObj_map hb,q9q hk _ 9999,q56 hk hf,hz,Result.andThen,ha]
  | some p =>
    cases ha:atI? k l with
    | none=>exact absurd (placeI_at.2 ha) (by rw [hp];simp)
    | some v =>
      rw [hp,ha] at hf
      simp [Instr.lookup,run_underlying ht,MapKept.run_getObj_map hb,q9q hk _ 9999,q56 hk hf,hz,Result.andThen,ha]
theorem z7q:∀ (l:List (Int × Value)) (c:Nat) (k:Int) (v:Value),q2z (l++[(k,v)]) c=q2z l c++[⟨.int .i64 k,v,c+l.length⟩]
  | [],c,k,v=>by simp [q2z]
  | (j,u)::l,c,k,v=>by
    simp only [List.cons_append,q2z,z7q l (c+1) k v,List.length_cons]
    rw [show c+1+l.length=c+(l.length+1) by omega]
def setI (k:Int) (v:Value):List (Int × Value)→List (Int × Value)
  | []=>[]
  | (j,u)::l=>if k=j then (j,v)::l else (j,u)::setI k v l
theorem z7r {k:Int} {v:Value}:∀ (l:List (Int × Value)) (c p:Nat),q27 k l=some p→(q2z l c).modify p (fun e=>{ e with key:=.int .i64 k,val:=v })=q2z (setI k v l) c
  | [],c,p,h=>by cases h
  | (j,u)::l,c,p,h=>by
    unfold q27 at h
    split at h
    · rename_i e;subst e
      cases h
      simp [q2z,setI]
    · rename_i e
      cases hp:q27 k l with
      | none=>rw [hp] at h;cases h
      | some p' =>
        rw [hp] at h;cases h
        simp only [q2z,List.modify_succ_cons,z7r l (c+1) p' hp,setI,if_neg e]
theorem z3y (ht:P.underlying t=some (.map kt et)) (hk:P.underlying kt=some (.int .i64)) (hb:w.heap[b]? = some (.map (q2z l 0).toArray l.length)) (ha:atI? k l=none) (v:Value) :
    (Instr.mapUpdate t (.map (some b)) (.int .i64 k) v).run P w=(setObj b (.map (q2z (l++[(k,v)]) 0).toArray (l.length+1))).run P w:=by
  have hf:=q6w (k:=k) l 0 0
  rw [placeI_at.2 ha] at hf
  simp [Instr.mapUpdate,run_underlying ht,MapKept.run_getObj_map hb,q9q hk _ 9999,q56 hk hf,Result.andThen,z7q]
theorem z7s {k:Int}:∀ (l:List (Int × Value)) (c p:Nat),q27 k l=some p→((q2z l c)[p]?).map (·.key)=some (.int .i64 k)
  | [],c,p,h=>by cases h
  | (j,u)::l,c,p,h=>by
    unfold q27 at h
    split at h
    · rename_i e;subst e
      cases h
      simp [q2z]
    · cases hp:q27 k l with
      | none=>rw [hp] at h;cases h
      | some p' =>
        rw [hp] at h;cases h
        simp only [q2z,List.getElem?_cons_succ]
        exact z7s l (c+1) p' hp
theorem z4k (k:Int):(Instr.keyThatStays (.int .i64 k) (.int .i64 k)).run P w=.ok (.int .i64 k) w:=by
  have h:Instr.sameBits 10000 (.int .i64 k) (.int .i64 k)=true:=by unfold Instr.sameBits;simp
  unfold Instr.keyThatStays
  rw [if_pos h]
  rfl
theorem z3z (ht:P.underlying t=some (.map kt et)) (hk:P.underlying kt=some (.int .i64)) (hb:w.heap[b]? = some (.map (q2z l 0).toArray clock)) {u:Value} (ha:atI? k l=some u) (v:Value) :
    (Instr.mapUpdate t (.map (some b)) (.int .i64 k) v).run P w=(setObj b (.map (q2z (setI k v l) 0).toArray clock)).run P w:=by
  have hf:=q6w (k:=k) l 0 0
  cases hp:q27 k l with
  | none=>rw [placeI_at.1 hp] at ha;cases ha
  | some p =>
    rw [hp,ha] at hf
    have hkey:=z7s l 0 p hp
    have e1:(((q2z l 0).toArray[p]?).map (·.key)).getD (.int .i64 k)=.int .i64 k:=by rw [List.getElem?_toArray,hkey];rfl
    have e2:(q2z l 0).toArray.modify p (fun e=>{ e with key:=.int .i64 k,val:=v })=(q2z (setI k v l) 0).toArray:=by rw [← z7r l 0 p hp,List.modify_toArray]
    simp only [Option.map_some,Nat.zero_add] at hf
    unfold Instr.mapUpdate
    simp only [Sem.run_bind,run_underlying ht,Result.andThen,MapKept.run_getObj_map hb,q9q hk _ 9999,q56 hk hf,e1,z4k,e2]
end
theorem z6t {k i:Int} {y:Value}:∀ (l:List (Int × Value)),atI? k (l++[(i,y)])=(atI? k l).or (if k=i then some y else none)
  | []=>by simp [atI?]
  | (j,v)::l=>by
    simp only [List.cons_append,atI?,z6t l]
    split <;> simp
theorem z6u {k i:Int} {y u:Value}:∀ {l:List (Int × Value)},atI? i l=some u→atI? k (setI i y l)=if k=i then some y else atI? k l
  | [],h=>by simp [atI?] at h
  | (j,v)::l,h=>by
    unfold atI? at h
    simp only [setI]
    by_cases e:i=j
    · subst e
      rw [if_pos rfl]
      simp only [atI?]
      split <;> rfl
    · rw [if_neg e] at h ⊢
      simp only [atI?,z6u h]
      by_cases e2:k=j
      · subst e2
        rw [if_pos rfl,if_neg (fun h=>e h.symm),if_pos rfl]
      · rw [if_neg e2,if_neg e2]
theorem z92 {i:Int} {y:Value}:∀ (l:List (Int × Value)),(setI i y l).length=l.length
  | []=>rfl
  | (j,v)::l=>by simp only [setI];split <;> simp [z92 l]
/-! ### The operations -/
def z5d (i:Int) (z:AV):List Int→List AV→AV
  | k::ks,v::vs=>if i=k then v else z5d i z ks vs
  | _,_=>z
def hasK (i:Int):List Int→Bool
  | []=>false
  | k::ks=>if i=k then true else hasK i ks
def putA (i:Int) (v:AV):List Int→List AV→List AV
  | k::ks,u::us=>if i=k then v::us else u::putA i v ks us
  | _,us=>us
theorem z7t {β:Nm} {i:Int} {z:Value} {q:Option Value}:∀ {ks:List Int} {vs:List AV} {ys:List Value},ys.length=ks.length→AV.rels β vs ys→(z5d i (.val (q.getD z)) ks vs).rel β (((atI? i (ks.zip ys)).or q).getD z)
  | [],vs,ys,hl,h=>by
    cases vs <;> simp [z5d,atI?,AV.rel]
  | k::ks,[],ys,hl,h=>by
    simp only [AV.rels] at h
    subst h
    simp at hl
  | k::ks,v::vs,ys,hl,h=>by
    simp only [AV.rels] at h
    obtain ⟨y,t,rfl,h1,h2⟩:=h
    simp only [z5d,List.zip_cons_cons,atI?]
    by_cases e:i=k
    · rw [if_pos e,if_pos e];exact h1
    · rw [if_neg e,if_neg e];exact z7t (by simpa using hl) h2
theorem z6v {i:Int}:∀ {ks:List Int} {ys:List Value},ys.length=ks.length→(hasK i ks=false→atI? i (ks.zip ys)=none)∧(hasK i ks=true→∃ u,atI? i (ks.zip ys)=some u)
  | [],ys,hl=>by simp [hasK,atI?]
  | k::ks,[],hl=>by simp at hl
  | k::ks,y::ys,hl=>by
    simp only [hasK,List.zip_cons_cons,atI?]
    by_cases e:i=k
    · rw [if_pos e,if_pos e];simp
    · rw [if_neg e,if_neg e];exact z6v (by simpa using hl)
theorem z93 {β:Nm} {i:Int} {v:AV} {y:Value} (hv:v.rel β y):∀ {ks:List Int} {vs:List AV} {ys:List Value},ys.length=ks.length→AV.rels β vs ys→∃ zs,setI i y (ks.zip ys)=ks.zip zs∧zs.length=ks.length∧AV.rels β (putA i v ks vs) zs
  | [],vs,ys,hl,h=>⟨ys,by simp [setI],hl,by simpa [putA] using h⟩
  | k::ks,[],ys,hl,h=>by
    simp only [AV.rels] at h
    subst h
    simp at hl
  | k::ks,u::us,ys,hl,h=>by
    simp only [AV.rels] at h
    obtain ⟨x,t,rfl,h1,h2⟩:=h
    simp only [putA,List.zip_cons_cons,setI]
    by_cases e:i=k
    · rw [if_pos e,if_pos e]
      exact ⟨y::t,by simp,by simpa using hl,by simp only [AV.rels];exact ⟨_,_,rfl,hv,h2⟩⟩
    · rw [if_neg e,if_neg e]
      obtain ⟨zs,h3,h4,h5⟩:=z93 hv (i:=i) (ks:=ks) (by simpa using hl) h2
      exact ⟨x::zs,by simp [h3],by simp [h4],by simp only [AV.rels];exact ⟨_,_,rfl,h1,h5⟩⟩
inductive LookP (P:Program) (t:TypeId) (i:Int) (f:Int→Option Value) (ks:List Int) (vs:List AV) (K:AV→Prop):Prop
  | mk (kt et:TypeId) (z:Value) (ht:P.underlying t=some (.map kt et)) (hk:P.underlying kt=some (.int .i64)) (hz:∀ w,(zeroValue et).run P w=.ok z w) (a:AV) (e:z5d i (.val ((f i).getD z)) ks vs=a) (h:K a)
inductive PutP (P:Program) (t:TypeId) (i:Int) (v:AV) (ks:List Int) (vs:List AV) (N:Prop) (O:List AV→Prop):Prop
  | new (kt et:TypeId) (ht:P.underlying t=some (.map kt et)) (hk:P.underlying kt=some (.int .i64)) (e:hasK i ks=false) (h:N)
  | old (kt et:TypeId) (ht:P.underlying t=some (.map kt et)) (hk:P.underlying kt=some (.int .i64)) (e:hasK i ks=true) (us:List AV) (e':putA i v ks vs=us) (h:O us)
def z94 (hp:List Blk) (G:Mem) (K:AV→List Blk→Mem→Prop):Prop :=
  lenF hp fun n=>catF hp [.mp (fun _=>none) [] []] fun hp'=>K (.mpv n) hp' G
def z6w (P:Program) (t:TypeId) (m k:Operand) (fr:List AV) (hp:List Blk) (K:AV→Prop):Prop :=
  match ev fr m with
  | .mpv q=>match nthB hp q with
    | .mp f ks vs=>q1v (ev fr k) fun kd i=>match kd with
      | .i64=>LookP P t i f ks vs K
      | _=>False
    | _=>False
  | _=>False
def z6x (P:Program) (t:TypeId) (m k x:Operand) (fr:List AV) (hp:List Blk) (G:Mem) (K:AV→List Blk→Mem→Prop):Prop :=
  match ev fr m with
  | .mpv q=>match nthB hp q with
    | .mp f ks vs=>q1v (ev fr k) fun kd i=>match kd with
      | .i64=>q2r (ev fr x) fun v=>PutP P t i v ks vs (catF ks [i] fun ks'=>catF vs [v] fun vs'=>setF hp q (.mp f ks' vs') fun hp'=>K (.val undef) hp' G) (fun us=>setF hp q (.mp f ks us) fun hp'=>K (.val undef) hp' G)
      | _=>False
    | _=>False
  | _=>False
theorem z32 {P:Program} {o:Oper} {fr:List AV} {hp:List Blk} {G:Mem} {K:AV→List Blk→Mem→Prop} {t:TypeId} (ho:o.op=.makeMap t none) (h:z94 hp G K):NewS P o fr hp G K:=by
  have h1:=q1y h
  rw [q09] at h1
  refine ⟨_,_,h1,fun base β ρ w hb hs hn hf=>?_⟩
  refine ⟨.map (some w.heap.size),.pointer (some ⟨w.heap.size,0,none⟩),w.alloc (.map #[] 0),?_,(Below.refl _ _).alloc (Nat.le_refl _) _,?_,fun b hb'=>by simp [q0i] at hb';omega,?_⟩
  · simp [execOp,ho,Instr.makeMap,newObj,Sem.run,World.alloc,Result.andThen,-World.alloc_eq]
  · refine ⟨w.heap.size,[],rfl,hs,?_,⟨[],heap_alloc_new w _,fun k=>rfl⟩,rfl,by simp [AV.rels]⟩
    cases hg:G w.heap.size with
    | none=>rfl
    | some o'=>exact absurd (Array.getElem?_eq_some_iff.1 (hb.hold _ _ hg)).1 (Nat.lt_irrefl _)
  · simp only [AV.rel]
    exact ⟨_,w.heap.size,Nm.put_same _ _ _,rfl,rfl⟩
theorem z5e {P:Program} {o:Oper} {fr:List AV} {hp:List Blk} {G:Mem} {K:AV→Prop} {t:TypeId} {m k:Operand} (ho:o.op=.lookup t m k false) (h:z6w P t m k fr hp K):q2g P o fr hp G K:=by
  have hmm:m∈o.op.operands.toList:=by simp [ho,Op.operands]
  have hmk:k∈o.op.operands.toList:=by simp [ho,Op.operands]
  unfold z6w at h
  split at h
  · rename_i q hm
    split at h
    · rename_i f ks vs hq
      obtain ⟨kd,i,hi,h1⟩:=q1d h
      split at h1
      · obtain ⟨kt,et,z,ht,hk,hz,a,e,h2⟩:=h1
        refine ⟨a,h2,fun base β ρ w hr hf=>?_⟩
        have h3:=hf m hmm
        rw [hm] at h3;simp only [AV.rel] at h3
        have h4:=hf k hmk
        rw [hi] at h4;simp only [AV.rel] at h4
        obtain ⟨v,b,h5,h6,h7⟩:=h3
        have h9:=hr.blk q v _ h5 (q0x hq rfl)
        obtain ⟨b',ys,rfl,q2,q3,⟨l,q4,q7⟩,q5,q6⟩:=h9
        simp [q0i] at h6;subst h6
        refine ⟨(atI? i l).getD z,?_,by rw [← e,q7];exact z7t q5 q6⟩
        simp [execOp,ho,h7,h4,z91 ht hk (hz w) q4]
      · exact h1.elim
    · exact h.elim
  · exact h.elim
theorem x3k {P:Program} {o:Oper} {fr:List AV} {hp:List Blk} {G:Mem} {K:AV→List Blk→Mem→Prop} {t:TypeId} {m k x:Operand} (ho:o.op=.mapUpdate t m k x) (h:z6x P t m k x fr hp G K):RunS P o fr hp G K:=by
  unfold z6x at h
  split at h
  · rename_i q hm
    split at h
    · rename_i f ks vs hq
      obtain ⟨kd,i,hi,h1⟩:=q1d h
      split at h1
      · rw [q19] at h1
        intro w0 G0 β a w hr hf
        have h3:=q2s hf m
        rw [hm] at h3;simp only [AV.rel] at h3
        have h4:=q2s hf k
        rw [hi] at h4;simp only [AV.rel] at h4
        have hx:=q2s hf x
        obtain ⟨v,b,h5,h6,h7⟩:=h3
        obtain ⟨u,h8,h9⟩:=hr.blk q v h5
        have hqx:=q0x hq rfl
        rw [hqx] at h8;cases h8
        obtain ⟨b',ys,rfl,q2,q3,⟨l,q4,q7⟩,q5,q6⟩:=h9
        have h6':=h6
        simp [q0i] at h6;subst h6
        have hgr:∀ o',w.grownBy { w with heap:=w.heap.setIfInBounds b' o' } (some b'):=fun o' =>
          ⟨rfl,rfl,rfl,by simp,fun j hj hne=>by
            simp only [Array.getElem?_setIfInBounds]
            rw [if_neg (fun e=>hne (by rw [e]))]⟩
        have hat:∀ o',({ w with heap:=w.heap.setIfInBounds b' o' }:World).heap[b']? = some o':=fun o'=>by
          simp [Array.getElem?_setIfInBounds,(Array.getElem?_eq_some_iff.1 q4).1]
        -- the entries behind the update
        have hnew:∃ l',(Instr.mapUpdate t (.map (some b')) (.int .i64 i) (a.eval x)).run P w=.ok () { w with heap:=w.heap.setIfInBounds b' (.map (q2z l' 0).toArray l'.length) }∧∀ k,atI? k l'=if k=i then some (a.eval x) else atI? k l:=by
          have kt_:∃ kt et,P.underlying t=some (.map kt et)∧P.underlying kt=some (.int .i64):=by
            cases h1 with
            | new kt et ht hk e h2=>exact ⟨kt,et,ht,hk⟩
            | old kt et ht hk e us e' h2=>exact ⟨kt,et,ht,hk⟩
          obtain ⟨kt,et,ht,hk⟩:=kt_
          cases ha:atI? i l with
          | none =>
            have hrun:=z3y (P:=P) ht hk (w:=w) (b:=b') (l:=l) q4 ha (a.eval x)
            rw [MapKept.run_setObj_map _ q4] at hrun
            refine ⟨l++[(i,a.eval x)],by rw [hrun];simp,fun k=>?_⟩
            rw [z6t]
            by_cases e:k=i
            · subst e;rw [ha,if_pos rfl];simp
            · rw [if_neg e,if_neg e];simp
          | some u =>
            have hrun:=z3z (P:=P) ht hk (w:=w) (b:=b') (l:=l) q4 ha (a.eval x)
            rw [MapKept.run_setObj_map _ q4] at hrun
            exact ⟨setI i (a.eval x) l,by rw [hrun,z92],fun k=>z6u ha⟩
        obtain ⟨l',hrun,hl'⟩:=hnew
        cases h1 with
        | new kt et ht hk e h2 =>
          rw [q09,q09,q1c] at h2
          have ha:=(z6v (i:=i) q5).1 e
          refine ⟨.skip,undef,_,β,.val undef,_,G,by simp [execOp,ho,h7,h4,hrun];rfl,.inr ⟨rfl,rfl⟩,Nm.le_refl _,?_,by simp only [AV.rel],h2⟩
          refine hr.setBlk h5 hqx rfl h6' (hgr _) ⟨b',ys++[a.eval x],rfl,q2,q3,⟨l',hat _,fun k=>?_⟩,by simp [q5],AV.rels_append q6 (by simp only [AV.rels];exact ⟨_,_,rfl,hx,rfl⟩)⟩
          rw [hl',List.zip_append q5.symm]
          show _=((atI? k (ks.zip ys++[(i,a.eval x)])).or (f k))
          rw [z6t]
          by_cases e2:k=i
          · subst e2;rw [ha,if_pos rfl];simp
          · rw [if_neg e2,if_neg e2,q7];simp
        | old kt et ht hk e us e' h2 =>
          subst e'
          rw [q1c] at h2
          obtain ⟨u,ha⟩:=(z6v (i:=i) q5).2 e
          obtain ⟨zs,g1,g2,g3⟩:=z93 hx (i:=i) q5 q6
          refine ⟨.skip,undef,_,β,.val undef,_,G,by simp [execOp,ho,h7,h4,hrun];rfl,.inr ⟨rfl,rfl⟩,Nm.le_refl _,?_,by simp only [AV.rel],h2⟩
          refine hr.setBlk h5 hqx rfl h6' (hgr _) ⟨b',zs,rfl,q2,q3,⟨l',hat _,fun k=>?_⟩,g2,g3⟩
          rw [hl',← g1,z6u ha,q7]
          by_cases e2:k=i
          · rw [if_pos e2,if_pos e2];rfl
          · rw [if_neg e2,if_neg e2]
      · exact h1.elim
    · exact h.elim
  · exact h.elim
end Go.Proofs.YtegpkpilfgohhaaGreat
namespace Go.Proofs.YtegpkpilfgohhaaGreat
open Go.RowKit
theorem z95 {P:Program} {o:Oper} {fr:List AV} {hp:List Blk} {G:Mem} {K:AV→Prop} {c x y:Operand} (ho:o.op=.pick c x y) (h:q7c (ev fr c) fun b=>condP b (K (ev fr x)) (K (ev fr y))):q2g P o fr hp G K:=by
  have hmc:c∈o.op.operands.toList:=by simp [ho,Op.operands]
  have hmx:x∈o.op.operands.toList:=by simp [ho,Op.operands]
  have hmy:y∈o.op.operands.toList:=by simp [ho,Op.operands]
  obtain ⟨b,h1,h2⟩:=q99 h
  cases b
  · refine ⟨_,h2.no rfl,fun base β ρ w hr hf=>?_⟩
    have hc:=hf c hmc
    rw [h1] at hc;simp only [AV.rel] at hc
    exact ⟨ρ y,by simp [execOp,ho,hc,asBool],hf y hmy⟩
  · refine ⟨_,h2.yes rfl,fun base β ρ w hr hf=>?_⟩
    have hc:=hf c hmc
    rw [h1] at hc;simp only [AV.rel] at hc
    exact ⟨ρ x,by simp [execOp,ho,hc,asBool],hf x hmx⟩
inductive OpP (P:Program) (op:Op) (fr:List AV) (hp:List Blk) (G:Mem) (K:AV→List Blk→Mem→Prop):Prop
  | mk (h:∀ o:Oper,o.op=op→OpS P o fr hp G K)
def z96:List AV→Bool
  | []=>true
  | .val _::l=>z96 l
  | _=>false
def appF (hp:List Blk) (x:AV) (F A:Prop):Prop :=
  match x with
  | .sli k _ _ _=>match nthB hp k with
    | .cells _ l=>match z96 l with
      | true=>A
      | false=>F
    | _=>A
  | _=>A
theorem x3l {hp:List Blk} {x:AV} {F A:Prop} (h:appF hp x F A):A∨F:=by
  unfold appF at h
  split at h
  · split at h
    · split at h
      · exact .inl h
      · exact .inr h
    · exact .inl h
  · exact .inl h
def gmF (hp:List Blk) (F A:Prop):Prop :=
  match hp with
  | .muts _::_=>F
  | _=>A
theorem q7u {hp:List Blk} {F A:Prop} (h:gmF hp F A):A∨F:=by
  unfold gmF at h
  split at h
  · exact .inr h
  · exact .inl h
def stF (x:AV) (F A:Prop):Prop :=
  match x with
  | .val _=>F
  | _=>A
theorem x4t {x:AV} {F A:Prop} (h:stF x F A):A∨F:=by
  unfold stF at h
  split at h
  · exact .inr h
  · exact .inl h
def eqF (b:Bool) (F A:Prop):Prop :=
  match b with
  | true=>A
  | false=>F
theorem x4u {b:Bool} {F A:Prop} (h:eqF b F A):(b=true∧A)∨F:=by
  cases b
  · exact .inr h
  · exact .inl ⟨rfl,h⟩
def stF2 (x z:AV) (hp:List Blk) (F A:Prop):Prop :=
  match x with
  | .val _=>F
  | .ptr k _=>match z with
    | .own _=>match nthB hp k with
      | .own _ _ _ _=>F
      | _=>A
    | _=>A
  | _=>A
theorem x3m {x z:AV} {hp:List Blk} {F A:Prop} (h:stF2 x z hp F A):A∨F:=by
  unfold stF2 at h
  split at h
  · exact .inr h
  · split at h
    · split at h
      · exact .inr h
      · exact .inl h
    · exact .inl h
  · exact .inl h
def apF (d:AV) (hp:List Blk) (F A:Prop):Prop :=
  match hp with
  | .muts _::_=>match d with
    | .val _=>F
    | _=>A
  | _=>match d with
    | .val (.slice (some _) _ _)=>F
    | _=>A
theorem x4v {x:AV} {hp:List Blk} {F A:Prop} (h:apF x hp F A):A∨F:=by
  unfold apF at h
  split at h
  · split at h
    · exact .inr h
    · exact .inl h
  · split at h
    · exact .inr h
    · exact .inl h
def cpF (d:AV) (F A:Prop):Prop :=
  match d with
  | .vw _ _ _=>A
  | _=>F
theorem x4w {d:AV} {F A:Prop} (h:cpF d F A):A∨F:=by
  unfold cpF at h
  split at h
  · exact .inl h
  · exact .inr h
structure LookGP (P:Program) (t:TypeId) (m k:AV) (c:Bool) (G:Mem) (K:AV→Prop):Prop where
  ex:∃ v,K v∧∀ (β:Nm) (w:World) (x y:Value),G.holds w→m.rel β x→k.rel β y→∃ u,(Instr.lookup t x y c).run P w=.ok u w∧v.rel β u
theorem z7u {P:Program} {o:Oper} {fr:List AV} {hp:List Blk} {G:Mem} {K:AV→Prop} {t:TypeId} {m k:Operand} {c:Bool} (ho:o.op=.lookup t m k c) (h:LookGP P t (ev fr m) (ev fr k) c G K):q2g P o fr hp G K:=by
  obtain ⟨v,h1,h2⟩:=h.ex
  refine ⟨v,h1,fun base β ρ w hr hf=>?_⟩
  obtain ⟨u,h3,h4⟩:=h2 β w _ _ hr.hold (hf m (by simp [ho,Op.operands])) (hf k (by simp [ho,Op.operands]))
  exact ⟨u,by simp [execOp,ho,h3],h4⟩
def lkF (x:AV) (c:Bool) (F A:Prop):Prop :=
  match x,c with
  | .mpv _,false=>A
  | _,_=>F
theorem z7v {x:AV} {c:Bool} {F A:Prop} (h:lkF x c F A):(c=false∧A)∨F:=by
  unfold lkF at h
  split at h
  · exact .inl ⟨rfl,h⟩
  · exact .inr h
def vMkI (T:Tab) (t:TypeId) (x:AV) (K:AV→Prop):Prop :=
  q1b T t fun i=>match i.td with
    | .ptr _=>match x with
      | .val v=>K (.val (.iface t v))
      | _=>False
    | _=>False
theorem x2p {P:Program} {T:Tab} (hT:TOk P T) {o:Oper} {fr:List AV} {hp:List Blk} {G:Mem} {K:AV→Prop} {t:TypeId} {x:Operand} (ho:o.op=.makeInterface t x) (h:vMkI T t (ev fr x) K):q2g P o fr hp G K:=by
  obtain ⟨i,hi,h1⟩:=q0y hT h
  split at h1
  · rename_i e htd
    have hu:=q1r (htd ▸ hi.td)
    simp only [TD.says] at hu
    split at h1
    · rename_i v hv
      refine ⟨_,h1,fun base β ρ w hr hf=>?_⟩
      have hx:=hf x (by simp [ho,Op.operands])
      rw [hv] at hx;simp only [AV.rel] at hx
      refine ⟨.iface t v,?_,by simp only [AV.rel]⟩
      simp [execOp,ho,Instr.makeInterface,run_underlying hu,hx]
    · exact h1.elim
  · exact h1.elim
def vAss (T:Tab) (t:TypeId) (x:AV) (K:AV→Prop):Prop :=
  q1b T t fun i=>match i.td with
    | .ptr _=>match x with
      | .val (.iface u v)=>match Nat.beq u t with
        | true=>K (.tup [.val v,.val (.bool true)])
        | false=>K (.tup [.any,.val (.bool false)])
      | _=>False
    | _=>False
theorem x2q {P:Program} {T:Tab} (hT:TOk P T) {o:Oper} {fr:List AV} {hp:List Blk} {G:Mem} {K:AV→Prop} {t u:TypeId} {x:Operand} (ho:o.op=.typeAssert x u t true) (h:vAss T t (ev fr x) K):q2g P o fr hp G K:=by
  obtain ⟨i,hi,h1⟩:=q0y hT h
  split at h1
  · rename_i e htd
    have hu:=q1r (htd ▸ hi.td)
    simp only [TD.says] at hu
    split at h1
    · rename_i q v hv
      have hx:∀ {β:Nm} {ρ:Operand→Value},q13 o fr β ρ→ρ x=.iface q v:=fun hf=>by
        have hx:=hf x (by simp [ho,Op.operands])
        rw [hv] at hx;simpa only [AV.rel] using hx
      cases hb:Nat.beq q t with
      | true =>
        rw [hb] at h1
        obtain rfl:=Nat.eq_of_beq_eq_true hb
        refine ⟨_,h1,fun base β ρ w hr hf=>⟨.tuple #[v,.bool true],?_,?_⟩⟩
        · simp [execOp,ho,Instr.typeAssert,run_underlying hu,hx hf]
        · simp only [AV.rel,AV.rels];exact ⟨_,rfl,v,[.bool true],rfl,rfl,_,[],rfl,rfl,rfl⟩
      | false =>
        rw [hb] at h1
        have hne:q≠t:=fun e=>by subst e;simp at hb
        refine ⟨_,h1,fun base β ρ w hr hf=>?_⟩
        obtain ⟨z,hz,_⟩:=hi.zero (P:=P) w
        refine ⟨.tuple #[z,.bool false],?_,?_⟩
        · simp [execOp,ho,Instr.typeAssert,run_underlying hu,hx hf,hne,hz]
        · simp only [AV.rel,AV.rels];exact ⟨_,rfl,z,[.bool false],rfl,trivial,_,[],rfl,rfl,rfl⟩
    · exact h1.elim
  · exact h1.elim
def vopF (P:Program) (T:Tab) (F:Prop) (op:Op) (fr:List AV) (hp:List Blk) (G:Mem) (K:AV→List Blk→Mem→Prop):Prop :=
  match op with
  | .move x=>K (ev fr x) hp G
  | .assign x=>K (ev fr x) hp G
  | .alloc e=>gmF hp F (z2a T e hp G K)
  | .box e x=>gmF hp F (vBox e x fr hp G K)
  | .build t ps=>x4q T t ps fr fun v=>K v hp G
  | .buildSlice t n ps=>gmF hp F (q51 T t n ps fr hp G K)
  | .load t x=>q8i T t x fr hp G K
  | .store t x z=>stF2 (ev fr x) (ev fr z) hp F (x4l T t x z fr hp G K)
  | .nilCheck x=>q9p x fr fun v=>K v hp G
  | .binOp op t x y _=>vBin P op t x y fr fun v=>K v hp G
  | .unOp op _ x=>vUn op x fr fun v=>K v hp G
  | .convert s d x=>x79 T F s d x fr fun v=>K v hp G
  | .makeFunc f a b=>z2f f a b fr fun v=>K v hp G
  | .makeSlice t x y=>z5b T t x y fr hp G K
  | .slice t x lo hi none=>x4o T t x lo hi fr hp fun v=>K v hp G
  | .fieldAddr s x n=>z1a T s x n fr fun v=>K v hp G
  | .field s x n=>z9u T s x n fr fun v=>K v hp G
  | .indexAddr t x i=>z1b T t x i fr hp fun v=>K v hp G
  | .index t x i=>z9v T t x i fr fun v=>K v hp G
  | .extract x n=>q88 x n fr fun v=>K v hp G
  | .pick c x y=>q7c (ev fr c) fun b=>condP b (K (ev fr x) hp G) (K (ev fr y) hp G)
  | .call ⟨.value f,xs,_⟩=>evsF fr xs.toList fun args=>x3i P (ev fr f) args hp G K
  | .call ⟨.builtin .len,⟨[x]⟩,⟨[t]⟩⟩=>vLen T t (ev fr x) hp fun v=>K v hp G
  | .call ⟨.builtin .append,⟨[d,x]⟩,⟨[t,t']⟩⟩=>eqF (Nat.beq t t') F (apF (ev fr d) hp F (appF hp (ev fr x) F (z0k T t (ev fr d) (ev fr x) hp G K)))
  | .call ⟨.builtin .copy,⟨[d,x]⟩,⟨[t,_]⟩⟩=>cpF (ev fr d) F (x8a T t (ev fr d) (ev fr x) hp G K)
  | .call ⟨.builtin .min,⟨[x,y]⟩,_⟩=>z9c true (ev fr x) (ev fr y) fun v=>K v hp G
  | .call ⟨.builtin .max,⟨[x,y]⟩,_⟩=>z9c false (ev fr x) (ev fr y) fun v=>K v hp G
  | .call ⟨.builtin .min,⟨[x,y,z]⟩,_⟩=>z9d true (ev fr x) (ev fr y) (ev fr z) fun v=>K v hp G
  | .call ⟨.builtin .max,⟨[x,y,z]⟩,_⟩=>z9d false (ev fr x) (ev fr y) (ev fr z) fun v=>K v hp G
  | .call ⟨.builtin .clear,⟨[x]⟩,⟨[t]⟩⟩=>x4r T t (ev fr x) hp G K
  | .slice t x lo (some hi) (some mx)=>x2l T t x lo hi mx fr fun v=>K v hp G
  | .makeMap _ none=>gmF hp F (z94 hp G K)
  | .lookup t m k c=>lkF (ev fr m) c (LookGP P t (ev fr m) (ev fr k) c G fun v=>K v hp G) (z6w P t m k fr hp fun v=>K v hp G)
  | .mapUpdate t m k x=>stF (ev fr m) F (z6x P t m k x fr hp G K)
  | .makeInterface t x=>vMkI T t (ev fr x) fun v=>K v hp G
  | .typeAssert x _ t true=>vAss T t (ev fr x) fun v=>K v hp G
  | _=>F
def vop (P:Program) (T:Tab) (op:Op) (fr:List AV) (hp:List Blk) (G:Mem) (K:AV→List Blk→Mem→Prop):Prop:=vopF P T (OpP P op fr hp G K) op fr hp G K
theorem z5f {P:Program} {T:Tab} (hT:TOk P T) {o:Oper} {fr:List AV} {hp:List Blk} {G:Mem} {K:AV→List Blk→Mem→Prop} (h:vop P T o.op fr hp G K):OpS P o fr hp G K:=by
  generalize ho:o.op=op at h
  unfold vop at h
  generalize hF:OpP P op fr hp G K=F at h
  unfold vopF at h
  split at h
  · exact OpS.of_run (RunS.pure ⟨_,h,fun base β ρ w hr hf=>⟨_,by simp [execOp,ho];(try rfl),hf _ (by simp [ho,Op.operands])⟩⟩)
  · exact OpS.of_run (RunS.pure ⟨_,h,fun base β ρ w hr hf=>⟨_,by simp [execOp,ho];(try rfl),hf _ (by simp [ho,Op.operands])⟩⟩)
  · rcases q7u h with h |h
    · exact OpS.of_run (RunS.new (q9n hT ho h))
    · subst hF;exact h.1 o ho
  · rcases q7u h with h |h
    · exact OpS.of_run (RunS.new (z6p ho h))
    · subst hF;exact h.1 o ho
  · exact OpS.of_run (RunS.pure (z7p hT ho h))
  · rcases q7u h with h |h
    · exact OpS.of_run (RunS.new (q5v hT ho h))
    · subst hF;exact h.1 o ho
  · exact OpS.of_run (RunS.pure (z4h hT ho h))
  · rcases x3m h with h |h
    · exact OpS.of_run (x4m hT ho h)
    · subst hF;exact h.1 o ho
  · exact OpS.of_run (RunS.pure (q86 ho h))
  · exact OpS.of_run (RunS.pure (z6q ho h))
  · exact OpS.of_run (RunS.pure (x4n ho h))
  · rcases z9r hT ho h with h |h
    · exact OpS.of_run (RunS.pure h)
    · subst hF;exact h.1 o ho
  · exact OpS.of_run (RunS.pure (z2g ho h))
  · exact OpS.of_run (RunS.new (z16 hT ho h))
  · exact OpS.of_run (RunS.pure (z7n hT ho h))
  · exact OpS.of_run (RunS.pure (q79 hT ho h))
  · exact OpS.of_run (RunS.pure (z2d hT ho h))
  · exact OpS.of_run (RunS.pure (q8a hT ho h))
  · exact OpS.of_run (RunS.pure (z2e hT ho h))
  · exact OpS.of_run (RunS.pure (q7m ho h))
  · exact OpS.of_run (RunS.pure (z95 ho h))
  · exact x6r ho h
  · exact OpS.of_run (RunS.pure (z6s hT ho h))
  · rcases x4u h with ⟨h1,h2⟩ |h2
    · obtain rfl:=Nat.eq_of_beq_eq_true h1
      rcases x4v h2 with h2 |h2
      · rcases x3l h2 with h2 |h2
        · exact OpS.of_run (q8j hT ho h2)
        · subst hF;exact h2.1 o ho
      · subst hF;exact h2.1 o ho
    · subst hF;exact h2.1 o ho
  · rcases x4w h with h |h
    · exact OpS.of_run (x6s hT ho h)
    · subst hF;exact h.1 o ho
  · exact OpS.of_run (RunS.pure (x2n ho h))
  · exact OpS.of_run (RunS.pure (x2o ho h))
  · exact OpS.of_run (RunS.pure (z9y ho h))
  · exact OpS.of_run (RunS.pure (z9z ho h))
  · exact OpS.of_run (x4s hT ho h)
  · exact OpS.of_run (RunS.pure (z49 hT ho h))
  · rcases q7u h with h |h
    · exact OpS.of_run (RunS.new (z32 ho h))
    · subst hF;exact h.1 o ho
  · rcases z7v h with ⟨rfl,h'⟩ |h
    · exact OpS.of_run (RunS.pure (z5e ho h'))
    · exact OpS.of_run (RunS.pure (z7u ho h))
  · rcases x4t h with h |h
    · exact OpS.of_run (x3k ho h)
    · subst hF;exact h.1 o ho
  · exact OpS.of_run (RunS.pure (x2p hT ho h))
  · exact OpS.of_run (RunS.pure (x2q hT ho h))
  · subst hF;exact h.1 o ho
theorem z97 {P:Program} {e:TypeId} {x:Operand} {fr:List AV} {hp:List Blk} {G:Mem} {K:AV→List Blk→Mem→Prop} (h:vBox e x fr hp G K):OpP P (.box e x) fr hp G K:=⟨fun o ho=>OpS.of_run (RunS.new (z6p ho h))⟩
theorem z98 {P:Program} {T:Tab} (hT:TOk P T) {t:TypeId} {n:Nat} {ps:Array (Nat × Operand)} {fr:List AV} {hp:List Blk} {G:Mem} {K:AV→List Blk→Mem→Prop} (h:q51 T t n ps fr hp G K):OpP P (.buildSlice t n ps) fr hp G K:=⟨fun o ho=>OpS.of_run (RunS.new (q5v hT ho h))⟩
theorem z33 {P:Program} {T:Tab} (hT:TOk P T) {d x:Operand} {t:TypeId} {fr:List AV} {hp:List Blk} {G:Mem} {K:AV→List Blk→Mem→Prop} (hd:ev fr d=.val (.slice none 0 0)) (h:z0k T t (ev fr d) (ev fr x) hp G K):OpP P (.call ⟨.builtin .append,⟨[d,x]⟩,⟨[t,t]⟩⟩) fr hp G K:=⟨fun o ho=>OpS.of_run (q8j hT ho h)⟩
theorem z5g {P:Program} {T:Tab} (hT:TOk P T) {e:TypeId} {fr:List AV} {hp:List Blk} {G:Mem} {K:AV→List Blk→Mem→Prop} (h:z2a T e hp G K):OpP P (.alloc e) fr hp G K:=⟨fun o ho=>OpS.of_run (RunS.new (q9n hT ho h))⟩
def noName:Nm:=fun _=>none
theorem q4o (β:Nm):noName.le β:=fun _ _ h=>by cases h
inductive RobS (P:Program) (o:Oper) (fr:List AV) (hp:List Blk) (G:Mem) (K:AV→List Blk→Prop):Prop
  | pure (h:q2g P o fr hp G fun v=>K v hp)
  | new (h:NewS P o fr hp G fun v hp' _=>K v hp')
  | call (v:AV) (f:FuncId) (hK:K v hp) (h:∀ (base:Nat) (β:Nm) (ρ:Operand→Value) (w:World),BR base β hp G w→q13 o fr β ρ→∃ args,(execOp ρ o).run P w=.ok (.enter f args) w∧Calls P f args w fun e w'=>∃ y,e=.returned y∧v.rel noName y∧Below w.heap.size w w')
  | callNew (v:AV) (x:Blk) (f:FuncId) (hK:K v (hp++[x])) (h:∀ (base:Nat) (β:Nm) (ρ:Operand→Value) (w:World),BR base β hp G w→base≤w.heap.size→β hp.length=none→q13 o fr β ρ→∃ args,(execOp ρ o).run P w=.ok (.enter f args) w∧Calls P f args w fun e w'=>∃ y z,e=.returned y∧Below w.heap.size w w'∧x.rel base (β.put hp.length z) G w' z∧(∀ b,q0i z=some b→w.heap.size≤b)∧v.rel (β.put hp.length z) y)
inductive RCallP (P:Program) (f:FuncId) (args:List AV) (hp:List Blk) (G:Mem) (K:AV→Prop) (M:AV→Blk→Prop):Prop
  | mk (v:AV) (e:∀ vs w,(callFunc f vs).run P w=.ok (.enter f vs) w) (c:∀ (base:Nat) (β:Nm) (w:World) (vs:Array Value),BR base β hp G w→AV.rels β args vs.toList→Calls P f vs w fun e w'=>∃ y,e=.returned y∧v.rel noName y∧Below w.heap.size w w') (h:K v)
  | make (v:AV) (x:Blk) (e:∀ vs w,(callFunc f vs).run P w=.ok (.enter f vs) w) (c:∀ (base:Nat) (β:Nm) (w:World) (vs:Array Value),BR base β hp G w→base≤w.heap.size→β hp.length=none→AV.rels β args vs.toList→Calls P f vs w fun e w'=>∃ y z,e=.returned y∧Below w.heap.size w w'∧x.rel base (β.put hp.length z) G w' z∧(∀ b,q0i z=some b→w.heap.size≤b)∧v.rel (β.put hp.length z) y) (h:M v x)
def x4x (P:Program) (c:AV) (args:List AV) (hp:List Blk) (G:Mem) (K:AV→Prop) (M:AV→Blk→Prop):Prop :=
  match c with
  | .val (.func (.func f) a b)=>q4e a.toList fun a=>q4e b.toList fun b=>catF a args fun r=>catF r b fun r=>RCallP P f r hp G K M
  | .fn (.func f) a b=>catF a args fun r=>catF r b fun r=>RCallP P f r hp G K M
  | _=>False
def litF (T:Tab) (t:TypeId) (hp:List Blk) (x:AV) (K:TypeId→TI→Nat→List Value→Prop):Prop :=
  q1b T t fun i=>match i.td with
    | .slice e=>q1b T e fun j=>q0w (Nat.blt 0 j.size) (q0w (Nat.beq j.zero.length j.size) (q0w (Nat.blt 0 j.bytes) (match x with
      | .sli q 0 m _=>match nthB hp q with
        | .cells _ l=>q14 l fun vs=>q0w (Nat.beq vs.length (m*j.size)) (q0w (z0i vs) (K e j m vs))
        | _=>False
      | _=>False)))
    | _=>False
theorem x2r {P:Program} {T:Tab} (hT:TOk P T) {o:Oper} {fr:List AV} {hp:List Blk} {G:Mem} {d x:Operand} {t:TypeId} (ho:o.op=.call ⟨.builtin .append,#[d,x],#[t,t]⟩) {K:TypeId→TI→Nat→List Value→Prop} (h:litF T t hp (ev fr x) K) :
    ∃ e j m vs,K e j m vs∧∀ (base:Nat) (β:Nm) (ρ:Operand→Value) (w:World) (v:Value) (n:Nat) (xs:List Value),BR base β hp G w→base≤w.heap.size→q13 o fr β ρ→ρ d=v→w.ownsRow base e j.size v n xs→(n+m)*j.bytes≤140737488355328 →
      ∃ v' w',(execOp ρ o).run P w=.ok (.value v') w'∧w'.ownsRow base e j.size v' (n+m) (xs++vs)∧w.grownBy w' (q0i v)∧(∀ b,q0i v'=some b→w.heap.size≤b∨q0i v=some b):=by
  obtain ⟨i,hi,h1⟩:=q0y hT h
  split at h1
  · rename_i e htd
    have hu:=q1r (htd ▸ hi.td)
    simp only [TD.says] at hu
    obtain ⟨j,hj,h20⟩:=q0y hT h1
    obtain ⟨hsz0,h21⟩:=q0t h20
    obtain ⟨hzl0,h22⟩:=q0t h21
    obtain ⟨hby0,h2⟩:=q0t h22
    have hzl:=Nat.eq_of_beq_eq_true hzl0
    have hby:0<j.bytes:=by simpa [Nat.blt_eq] using hby0
    have hsz:0<j.size:=by simpa [Nat.blt_eq] using hsz0
    obtain ⟨q,z,hq,hqs,hqb,hqz,hzz⟩:=hj.info
    have hzs:z.cells.size=j.size:=by rw [← hzl,← hzz];simp
    split at h2
    · rename_i k m c hx
      split at h2
      · rename_i t' l hl
        obtain ⟨vs,rfl,h30⟩:=q3f _ _ h2
        obtain ⟨hvl0,h31⟩:=q0t h30
        obtain ⟨hone,h3⟩:=q0t h31
        have hvl:=Nat.eq_of_beq_eq_true hvl0
        refine ⟨e,j,m,vs,h3,fun base β ρ w v n xs hr hb hf hv hown hg=>?_⟩
        have hxr:=hf x (by simp [ho,Op.operands,Call.operands])
        rw [hx] at hxr;simp only [AV.rel] at hxr
        obtain ⟨v',b,hvk,hbk,hxe⟩:=hxr
        obtain ⟨b',c',rfl,hb1,hb2,hb3,hb4⟩:=hr.blk k v' _ hvk (q0x hl rfl)
        simp [q0i] at hbk;subst hbk
        have hcv:=q2a hb4
        have hnews:∀ (j:Nat) u,vs[j]? = some u→w.cell? ((⟨b',0,none⟩:Addr).add j)=some u:=fun j u hj=>by
          rw [q02,Nat.zero_add,q5u hb3]
          rw [← hcv] at hj;simpa using hj
        have g2:n+m≤maxLen:=by
          have:=Nat.le_mul_of_pos_right (n+m) hby
          unfold maxLen;omega
        obtain ⟨v',w',hrun,hown',hgr,_,hat⟩:=run_append_own_at (P:=P) w base t o.type e q z j.size j.bytes hu hq hqz hqs hqb hzs hsz v n xs hown ⟨b',0,none⟩ m c vs hvl hnews (q9k hone) g2 hg hb
        refine ⟨v',w',by simp [execOp,ho,resolve,invoke,builtin,hv,hxe,hrun],hown',by rw [← q5w hown];exact hgr,fun b hb=>?_⟩
        rw [q5w hown',q5w hown] at hat
        rcases hat with h |h
        · right;rw [← h];exact hb
        · left;rw [hb] at h;cases h;exact Nat.le_refl _
      · exact h2.elim
    · exact h2.elim
  · exact h1.elim
def vrop (P:Program) (T:Tab) (op:Op) (fr:List AV) (hp:List Blk) (G:Mem) (K:AV→List Blk→Prop):Prop :=
  match op with
  | .store _ _ _=>False
  | .call ⟨.value x,xs,_⟩=>evsF fr xs.toList fun args=>x4x P (ev fr x) args hp G (fun v=>K v hp) fun v x=>catF hp [x] fun hp'=>K v hp'
  | .call ⟨.builtin .append,⟨[d,x]⟩,⟨[t,t']⟩⟩=>q0w (Nat.beq t t') (match ev fr d with
    | .val (.slice none 0 0)=>litF T t hp (ev fr x) fun e j m vs=>mustP (m*j.bytes≤140737488355328) (lenF hp fun q=>catF hp [.own e j.size m vs] fun hp'=>K (.own q) hp')
    | _=>False)
  | .call ⟨.builtin .append,_,_⟩=>False
  | .call ⟨.builtin .copy,_,_⟩=>False
  | .call ⟨.builtin .clear,_,_⟩=>False
  | .mapUpdate _ _ _ _=>False
  | .alloc e=>z2a T e hp G fun v hp' _=>K v hp'
  | .box e x=>vBox e x fr hp G fun v hp' _=>K v hp'
  | .buildSlice t n ps=>q51 T t n ps fr hp G fun v hp' _=>K v hp'
  | op=>vopF P T False op fr hp G fun v hp' _=>K v hp'
theorem x2s {P:Program} {T:Tab} (hT:TOk P T) {o:Oper} {fr:List AV} {hp:List Blk} {G:Mem} {K:AV→List Blk→Prop} (h:vrop P T o.op fr hp G K):RobS P o fr hp G K:=by
  generalize ho:o.op=op at h
  unfold vrop at h
  split at h
  · exact h.elim
  · rename_i x xs ts
    rw [q8y] at h
    have hargs:∀ (β:Nm) (ρ:Operand→Value),q13 o fr β ρ→AV.rels β (xs.toList.map (ev fr)) (xs.toList.map ρ):=fun β ρ hf=>q8z (β:=β) (fr:=fr) (ρ:=ρ) xs.toList (fun x hx=>hf x (by simp [ho,Op.operands,Call.operands];right;simpa using hx))
    have hxm:x∈o.op.operands.toList:=by simp [ho,Op.operands,Call.operands]
    have fin:∀ (f:FuncId) (A B:List AV) (v:AV),(∀ vs w,(callFunc f vs).run P w=.ok (.enter f vs) w)→(∀ (base:Nat) (β:Nm) (w:World) (vs:Array Value),BR base β hp G w→AV.rels β (A++xs.toList.map (ev fr)++B) vs.toList→Calls P f vs w fun e w'=>∃ y,e=.returned y∧v.rel noName y∧Below w.heap.size w w') →
        K v hp→(∀ (β:Nm) (y:Value),(ev fr x).rel β y→∃ u z,y=.func (.func f) u z∧AV.rels β A u.toList∧AV.rels β B z.toList)→RobS P o fr hp G K:=by
      intro f A B v h1 h2 h3 h4
      refine .call v f h3 fun base β ρ w hG hf=>?_
      obtain ⟨u,z,h5,h6,h7⟩:=h4 β _ (hf x hxm)
      have hrel:AV.rels β (A++xs.toList.map (ev fr)++B) (u++xs.map ρ++z).toList:=by
        have:=AV.rels_append (AV.rels_append h6 (hargs β ρ hf)) h7
        simpa using this
      refine ⟨u++xs.map ρ++z,?_,h2 base β w _ hG hrel⟩
      simp only [execOp,ho,resolve,h5,Deferred.ofValue,Sem.run_bind,Sem.run_pure,Result.andThen_ok,invoke]
      exact h1 _ w
    have fin2:∀ (f:FuncId) (A B:List AV) (v:AV) (x':Blk),(∀ vs w,(callFunc f vs).run P w=.ok (.enter f vs) w)→(∀ (base:Nat) (β:Nm) (w:World) (vs:Array Value),BR base β hp G w→base≤w.heap.size→β hp.length=none→AV.rels β (A++xs.toList.map (ev fr)++B) vs.toList→Calls P f vs w fun e w'=>∃ y z,e=.returned y∧Below w.heap.size w w'∧x'.rel base (β.put hp.length z) G w' z∧(∀ b,q0i z=some b→w.heap.size≤b)∧v.rel (β.put hp.length z) y) →
        (catF hp [x'] fun hp'=>K v hp')→(∀ (β:Nm) (y:Value),(ev fr x).rel β y→∃ u z,y=.func (.func f) u z∧AV.rels β A u.toList∧AV.rels β B z.toList)→RobS P o fr hp G K:=by
      intro f A B v x' h1 h2 h3 h4
      rw [q09] at h3
      refine .callNew v x' f h3 fun base β ρ w hG hb hn hf=>?_
      obtain ⟨u,z,h5,h6,h7⟩:=h4 β _ (hf x hxm)
      have hrel:AV.rels β (A++xs.toList.map (ev fr)++B) (u++xs.map ρ++z).toList:=by
        have:=AV.rels_append (AV.rels_append h6 (hargs β ρ hf)) h7
        simpa using this
      refine ⟨u++xs.map ρ++z,?_,h2 base β w _ hG hb hn hrel⟩
      simp only [execOp,ho,resolve,h5,Deferred.ofValue,Sem.run_bind,Sem.run_pure,Result.andThen_ok,invoke]
      exact h1 _ w
    unfold x4x at h
    split at h
    · rename_i f u z hx'
      rw [q2i,q2i,q09,q09] at h
      have hback:∀ (β:Nm) (y:Value),(ev fr x).rel β y→∃ u' z',y=.func (.func f) u' z'∧AV.rels β (u.toList.map .val) u'.toList∧AV.rels β (z.toList.map .val) z'.toList:=fun β y hy=>by
        rw [hx'] at hy;simp only [AV.rel] at hy
        exact ⟨u,z,hy,AV.rels_vals _,AV.rels_vals _⟩
      cases h with
      | mk v h1 h2 h3=>exact fin f _ _ v h1 h2 h3 hback
      | make v x' h1 h2 h3=>exact fin2 f _ _ v x' h1 h2 h3 hback
    · rename_i f A B hx'
      rw [q09,q09] at h
      have hback:∀ (β:Nm) (y:Value),(ev fr x).rel β y→∃ u z,y=.func (.func f) u z∧AV.rels β A u.toList∧AV.rels β B z.toList:=fun β y hy=>by
        rw [hx'] at hy;simp only [AV.rel] at hy
        exact hy
      cases h with
      | mk v h1 h2 h3=>exact fin f A B v h1 h2 h3 hback
      | make v x' h1 h2 h3=>exact fin2 f A B v x' h1 h2 h3 hback
    · exact h.elim
  · rename_i d x t t'
    obtain ⟨h1,h2⟩:=q0t h
    obtain rfl:=Nat.eq_of_beq_eq_true h1
    split at h2
    · rename_i hd
      obtain ⟨e,j,m,vs,⟨hm,h3⟩,hrun⟩:=x2r (G:=G) hT ho h2
      have h5:=q1y h3
      rw [q09] at h5
      refine .new ⟨_,_,h5,fun base β ρ w hr hb hn hf=>?_⟩
      have hdr:=hf d (by simp [ho,Op.operands,Call.operands])
      rw [hd] at hdr;simp only [AV.rel] at hdr
      obtain ⟨v',w',g1,g2,g3,g4⟩:=hrun base β ρ w _ 0 [] hr hb hf hdr (World.ownsRow_nil w _ _ _) (by simpa using hm)
      have hfresh:∀ b,q0i v'=some b→w.heap.size≤b:=fun b hb=>by
        rcases g4 b hb with h |h
        · exact h
        · simp [q0i] at h
      refine ⟨v',v',w',g1,⟨g3.os,g3.tape,g3.output,g3.size,fun k hk=>g3.block k hk (by simp [q0i])⟩,⟨by simpa using g2,fun g hg=>?_⟩,hfresh,by simp only [AV.rel];exact ⟨Nm.put_same _ _ _,q22 g2⟩⟩
      cases hG:G g with
      | none=>rfl
      | some ob =>
        have h6:=(Array.getElem?_eq_some_iff.1 (hr.hold _ _ hG)).1
        have h7:=hfresh g hg
        omega
    · exact h2.elim
  · exact h.elim
  · exact h.elim
  · exact h.elim
  · exact h.elim
  · exact .new (q9n hT ho h)
  · exact .new (z6p ho h)
  · exact .new (q5v hT ho h)
  · rename_i hs hc' ha0 ha hcp hcl hmu hal hbx hbs
    unfold vopF at h
    split at h
    · exact .pure ⟨_,h,fun base β ρ w hr hf=>⟨_,by simp [execOp,ho];(try rfl),hf _ (by simp [ho,Op.operands])⟩⟩
    · exact .pure ⟨_,h,fun base β ρ w hr hf=>⟨_,by simp [execOp,ho];(try rfl),hf _ (by simp [ho,Op.operands])⟩⟩
    · exact absurd rfl (hal _)
    · exact absurd rfl (hbx _ _)
    · exact .pure (z7p hT ho h)
    · exact absurd rfl (hbs _ _ _)
    · exact .pure (z4h hT ho h)
    · exact absurd rfl (hs _ _ _)
    · exact .pure (q86 ho h)
    · exact .pure (z6q ho h)
    · exact .pure (x4n ho h)
    · rcases z9r hT ho h with h |h
      · exact .pure h
      · exact h.elim
    · exact .pure (z2g ho h)
    · exact .new (z16 hT ho h)
    · exact .pure (z7n hT ho h)
    · exact .pure (q79 hT ho h)
    · exact .pure (z2d hT ho h)
    · exact .pure (q8a hT ho h)
    · exact .pure (z2e hT ho h)
    · exact .pure (q7m ho h)
    · exact .pure (z95 ho h)
    · exact absurd rfl (hc' _ _ _)
    · exact .pure (z6s hT ho h)
    · exact absurd rfl (ha _ _)
    · exact absurd rfl (hcp _ _)
    · exact .pure (x2n ho h)
    · exact .pure (x2o ho h)
    · exact .pure (z9y ho h)
    · exact .pure (z9z ho h)
    · exact absurd rfl (hcl _ _)
    · exact .pure (z49 hT ho h)
    · rcases q7u h with h |h
      · exact .new (z32 ho h)
      · exact h.elim
    · rcases z7v h with ⟨rfl,h'⟩ |h
      · exact .pure (z5e ho h')
      · exact .pure (z7u ho h)
    · exact absurd rfl (hmu _ _ _ _)
    · exact .pure (x2p hT ho h)
    · exact .pure (x2q hT ho h)
    · exact h.elim
/-! ### Regions -/
def putF (dst:Option Tmp) (v:AV) (fr:List AV) (K:List AV→Prop):Prop :=
  match dst with
  | some d=>q2r v fun v=>setF fr d v K
  | none=>K fr
theorem z3g {β:Nm} {dst:Option Tmp} {v:AV} {y:Value} {fr:List AV} {a:Act} {K:List AV→Prop} (hf:AV.rels β fr a.tmps.toList) (hv:v.rel β y) (h:putF dst v fr K):∃ fr',AV.rels β fr' (a.put dst y).tmps.toList∧K fr':=by
  unfold putF at h
  split at h
  · rename_i d
    rw [q19,q1c] at h
    exact ⟨_,by simpa [Act.put,Array.toList_setIfInBounds] using AV.rels_set d hf hv,h⟩
  · exact ⟨fr,by simpa [Act.put] using hf,h⟩
def z9e:List Oper→Nat→Option Tmp
  | [],_=>none
  | o::_,0=>o.dst
  | _::l,n+1=>z9e l n
theorem z4l:∀ (l:List Oper) (n:Nat),z9e l n=(l[n]?).bind (·.dst)
  | [],_=>rfl
  | _::_,0=>rfl
  | _::l,n+1=>by simpa [z9e] using z4l l n
def q7v (all:List Oper) (g:Option (Nat × Bool)) (fr:List AV) (A B:Prop):Prop :=
  match g with
  | none=>A
  | some (j,want)=>match z9e all j with
    | some d=>match nthA fr d with
      | .val (.bool b)=>match want with
        | true=>condP b A B
        | false=>condP b B A
      | .val (.tuple _)=>B
      | _=>False
    | none=>False
theorem z2i {β:Nm} {ops:List Oper} {o:Oper} {fr:List AV} {a:Act} {A B:Prop} (hf:AV.rels β fr a.tmps.toList) (h:q7v ops o.guard fr A B) :
    (Region.wanted o (yielded ops.toArray a.tmps)=true∧A)∨(Region.wanted o (yielded ops.toArray a.tmps)=false∧B):=by
  unfold q7v at h
  split at h
  · rename_i hg;exact .inl ⟨by simp [Region.wanted,hg],h⟩
  · rename_i j want hg
    split at h
    · rename_i d hd
      rw [z4l] at hd
      have key:∀ (v:AV),nthA fr d=v→v≠.any→∃ y,a.tmps[d]? = some y∧v.rel β y:=by
        intro v hv hne
        rw [q5s] at hv
        cases hx:fr[d]? with
        | none=>rw [hx] at hv;exact absurd hv.symm hne
        | some x =>
          rw [hx] at hv;simp at hv;subst hv
          obtain ⟨y,h1,h2⟩:=AV.rels_get hf hx
          exact ⟨y,by simpa using h1,h2⟩
      split at h
      · rename_i b hb
        obtain ⟨y,h1,h2⟩:=key _ hb (by simp)
        simp only [AV.rel] at h2
        subst h2
        have hy:yielded ops.toArray a.tmps j=some b:=by
          have:(ops.toArray[j]?).bind (·.dst)=some d:=by simpa using hd
          unfold yielded;rw [this];simp [h1]
        split at h
        · cases b
          · exact .inr ⟨by simp [Region.wanted,hg,hy],h.no rfl⟩
          · exact .inl ⟨by simp [Region.wanted,hg,hy],h.yes rfl⟩
        · cases b
          · exact .inl ⟨by simp [Region.wanted,hg,hy],h.no rfl⟩
          · exact .inr ⟨by simp [Region.wanted,hg,hy],h.yes rfl⟩
      · rename_i vs hb
        obtain ⟨y,h1,h2⟩:=key _ hb (by simp)
        simp only [AV.rel] at h2
        subst h2
        have hy:yielded ops.toArray a.tmps j=none:=by
          have:(ops.toArray[j]?).bind (·.dst)=some d:=by simpa using hd
          unfold yielded;rw [this];simp [h1]
        exact .inr ⟨by simp [Region.wanted,hg,hy],h⟩
      · exact h.elim
    · exact h.elim
def vops (P:Program) (T:Tab) (all:List Oper) (l:List Oper):List AV→List Blk→Mem→(List AV→List Blk→Mem→Prop)→Prop :=
  List.rec (motive:=fun _=>List AV→List Blk→Mem→(List AV→List Blk→Mem→Prop)→Prop) (fun fr hp G K=>K fr hp G)
    (fun o _ ih fr hp G K=>q7v all o.guard fr (vop P T o.op fr hp G fun v hp' G'=>putF o.dst v fr fun fr'=>ih fr' hp' G' K) (putF o.dst (.val undef) fr fun fr'=>ih fr' hp G K)) l
theorem z7w {P:Program} {T:Tab} {all:List Oper} {o:Oper} {rest:List Oper} {fr:List AV} {hp:List Blk} {G:Mem} {K:List AV→List Blk→Mem→Prop} :
    vops P T all (o::rest) fr hp G K=q7v all o.guard fr (vop P T o.op fr hp G fun v hp' G'=>putF o.dst v fr fun fr'=>vops P T all rest fr' hp' G' K) (putF o.dst (.val undef) fr fun fr'=>vops P T all rest fr' hp G K):=rfl
def Sat (w0:World) (G0:Mem) (β0:Nm) (ds:List Deferred) (K:List AV→List Blk→Mem→Prop) (a:Act) (w:World):Prop :=
  ∃ β fr hp G,β0.le β∧HR w0 G0 β hp G w∧AV.rels β fr a.tmps.toList∧a.defers=ds∧K fr hp G
theorem q05 (a:Act) (d:Option Tmp) (v:Value):(a.put d v).defers=a.defers:=by cases d <;> rfl
theorem z6y {P:Program} {T:Tab} (hT:TOk P T) {all:List Oper} {w0:World} {G0:Mem} {β0:Nm} {ds:List Deferred} {Q:Exit→Act→World→Prop} :
    ∀ (l:List Oper) (fr:List AV) (hp:List Blk) (G:Mem) (K:List AV→List Blk→Mem→Prop) (β:Nm) (a:Act) (w:World) (i:Nat),(∀ j,l[j]? = all[i+j]?)→β0.le β→HR w0 G0 β hp G w→AV.rels β fr a.tmps.toList→a.defers=ds→vops P T all l fr hp G K →
      (∀ a' w',Sat w0 G0 β0 ds K a' w'→Q .normal a' w')→z45 P all.toArray Q (List.range' i l.length) a w
  | [],fr,hp,G,K,β,a,w,i,_,h0,hr,hf,hd,h,hQ=>hQ a w ⟨β,fr,hp,G,h0,hr,hf,hd,h⟩
  | o::rest,fr,hp,G,K,β,a,w,i,hi,hβ,hr,hf,hd,h,hQ=>by
    have h0:all.toArray[i]? = some o:=by simpa using (hi 0).symm
    have hi':∀ j,rest[j]? = all[i+1+j]?:=fun j=>by have:=hi (j+1);simpa [Nat.add_assoc,Nat.add_comm 1 j] using this
    rw [List.length_cons,List.range'_succ]
    simp only [z45,q8g,h0]
    rw [z7w] at h
    rcases z2i hf h with ⟨hw,h1⟩ |⟨hw,h1⟩
    · rw [if_pos hw]
      refine .inl (z5f hT h1 w0 G0 β a w Q _ hr hf ?_)
      intro β' v y hp' G' w' h2 h3 h4 h5
      obtain ⟨fr',h6,h7⟩:=z3g (AV.rels_mono h2 _ _ hf) h4 h5
      exact z6y hT rest fr' hp' G' K β' _ w' (i+1) hi' (Nm.le_trans hβ h2) h3 h6 (by rw [q05];exact hd) h7 hQ
    · rw [if_neg (by rw [hw];simp)]
      obtain ⟨fr',h6,h7⟩:=z3g hf (by simp only [AV.rel]:AV.rel β (.val undef) undef) h1
      exact z6y hT rest fr' hp G K β _ w (i+1) hi' hβ hr h6 (by rw [q05];exact hd) h7 hQ
theorem x1t {P:Program} {T:Tab} (hT:TOk P T) {w0:World} {G0:Mem} {β0:Nm} {ds:List Deferred} {Q:Exit→Act→World→Prop} {id:Nat} {ops:Array Oper} {ro:Option Nat} (hn:ro=none∨q9l ops.toList=true) {fr:List AV} {hp:List Blk} {G:Mem} {K:List AV→List Blk→Mem→Prop} {β:Nm} {a:Act} {w:World}
    (hβ:β0.le β) (hr:HR w0 G0 β hp G w) (hf:AV.rels β fr a.tmps.toList) (hd:a.defers=ds) (h:vops P T ops.toList ops.toList fr hp G K) (hQ:∀ a' w',Sat w0 G0 β0 ds K a' w'→Q .normal a' w'):(Code.region id ops false).wpIn (FW ro) 0 P Q a w:=by
  refine wpIn_region ?_
  have:=z6y hT ops.toList fr hp G K β a w 0 (by simp) hβ hr hf hd h hQ
  exact z7k hn _ _ _ (by simpa [List.range_eq_range'] using this)
/-! ### Code -/
abbrev Post:=Exit→List AV→List Blk→Mem→Prop
def mark (D:Nat):Deferred:={ target:=.collected D,args:=#[] }
structure Ext (m:Bool) (w0:World) (G0:Mem) (ds:List Deferred) (G1:Mem) (ds':List Deferred):Prop where
  le:G0.le G1
  grow:∀ b o,G1 b=some o→G0 b=some o∨w0.heap.size≤b
  marks:∃ Ds:List Nat,ds'=Ds.map mark++ds∧Ds.Nodup∧∀ D∈Ds,G0 D=none∧w0.heap.size≤D∧G1 D=some (.deferred (some []))
  none_:m=false→ds'=ds∧G1=G0
theorem Ext.refl (m:Bool) (w0:World) (G0:Mem) (ds:List Deferred):Ext m w0 G0 ds G0 ds :=
  ⟨Mem.le_refl _,fun _ _ h=>.inl h,⟨[],by simp,List.nodup_nil,by simp⟩,fun _=>⟨rfl,rfl⟩⟩
theorem Ext.trans {m:Bool} {w0:World} {G0 G1 G2:Mem} {ds ds1 ds2:List Deferred} (h:Ext m w0 G0 ds G1 ds1) (k:Ext m w0 G1 ds1 G2 ds2):Ext m w0 G0 ds G2 ds2:=by
  refine ⟨Mem.le_trans h.le k.le,fun b o hb=>?_,?_,fun hm=>?_⟩
  · rcases k.grow b o hb with h1 |h1
    · exact h.grow b o h1
    · exact .inr h1
  · obtain ⟨Ds,h1,h2,h3⟩:=h.marks
    obtain ⟨Es,k1,k2,k3⟩:=k.marks
    refine ⟨Es++Ds,by rw [k1,h1];simp,?_,fun D hD=>?_⟩
    · rw [List.nodup_append]
      refine ⟨k2,h2,fun a ha b hb e=>?_⟩
      subst e
      have g1:=(k3 a ha).1
      rw [(h3 a hb).2.2] at g1;cases g1
    · rcases List.mem_append.1 hD with hD |hD
      · obtain ⟨g1,g2,g3⟩:=k3 D hD
        refine ⟨?_,g2,g3⟩
        cases hg:G0 D with
        | none=>rfl
        | some o=>rw [h.le D o hg] at g1;cases g1
      · obtain ⟨g1,g2,g3⟩:=h3 D hD
        exact ⟨g1,g2,k.le D _ g3⟩
  · obtain ⟨rfl,rfl⟩:=k.none_ hm
    exact h.none_ hm
def SatM (m:Bool) (w0:World) (G0:Mem) (β0:Nm) (ds:List Deferred) (K:List AV→List Blk→Mem→Prop) (a:Act) (w:World):Prop :=
  ∃ G1 ds',Ext m w0 G0 ds G1 ds'∧Sat w0 G1 β0 ds' K a w
theorem SatM.of {m:Bool} {w0:World} {G0:Mem} {β0:Nm} {ds:List Deferred} {K:List AV→List Blk→Mem→Prop} {a:Act} {w:World} (h:Sat w0 G0 β0 ds K a w):SatM m w0 G0 β0 ds K a w:=⟨G0,ds,Ext.refl _ _ _ _,h⟩
theorem SatM.ext {m:Bool} {w0:World} {G0 G1:Mem} {β0:Nm} {ds ds1:List Deferred} {K:List AV→List Blk→Mem→Prop} {a:Act} {w:World} (he:Ext m w0 G0 ds G1 ds1) (h:SatM m w0 G1 β0 ds1 K a w):SatM m w0 G0 β0 ds K a w:=by
  obtain ⟨G2,ds2,h1,h2⟩:=h
  exact ⟨G2,ds2,he.trans h1,h2⟩
def q7n:Code→Bool
  | .seq a b=>match q7n a with
    | true=>q7n b
    | false=>false
  | .cond _ a b=>match q7n a with
    | true=>q7n b
    | false=>false
  | .block _ a=>q7n a
  | .loop a=>q7n a
  | .rangeFunc _ _ _ _=>false
  | .scope a=>q7n a
  | _=>true
def q7w:Code→Bool
  | .region _ ops _=>q9l ops.toList
  | .seq a b=>match q7w a with
    | true=>q7w b
    | false=>false
  | .cond _ a b=>match q7w a with
    | true=>q7w b
    | false=>false
  | .block _ a=>q7w a
  | .loop a=>q7w a
  | .rangeFunc _ _ _ _=>false
  | .scope a=>q7w a
  | _=>true
theorem q4p {a b:Bool} (h:(match a with |true=>b |false=>false)=true):a=true∧b=true:=by cases a <;> cases b <;> simp_all
structure DrawP (P:Program) (ops:List Oper) (fr:List AV) (hp:List Blk) (G:Mem) (K:List AV→List Blk→Mem→Prop):Prop where
  mixed:P.follows .mixedOrders=true
  out:∀ (w0:World) (G0:Mem) (ds:List Deferred) (β0 β:Nm) (a:Act) (w:World) (Q:Exit→Act→World→Prop),β0.le β→HR w0 G0 β hp G w→AV.rels β fr a.tmps.toList→a.defers=ds→(∀ a' w',Sat w0 G0 β0 ds K a' w'→Q .normal a' w')→q5b P ops.toArray Q ops.toArray.size (Array.replicate ops.toArray.size false) a { w with drawn:=w.drawn+1 }
def Nm.below (β:Nm) (n:Nat):Prop:=∀ k v,β k=some v→k<n
def Fit (m:Bool) (ro:Option Nat) (c:Code):Prop:=(ro=none∨q7w c=true)∧(m=true∨q7n c=true)
structure LoopP (P:Program) (n0:Nat) (b:Code) (fr:List AV) (hp:List Blk) (G:Mem) (Q:Post):Prop where
  out:∀ (w0:World) (G0:Mem) (ds:List Deferred) (β0 β:Nm) (a:Act) (w:World) (m:Bool) (ro:Option Nat),Fit m ro b→β0.below n0→β0.le β→HR w0 G0 β hp G w→AV.rels β fr a.tmps.toList→a.defers=ds→∀ (bf:Frame) (k:List Item) (cs:List Frame),bf.roundOf=ro→∃ e a' w',SatM m w0 G0 β0 ds (Q e) a' w'∧ArrivesIn (Machine.fenced P (FW ro)) P (lone (bf.atR a (.code b::.inLoop b::k)) cs w) bf k cs e a' w'
structure RangeP (P:Program) (n0:Nat) (f:Operand) (ps:Array Tmp) (ca b:Code) (fr:List AV) (hp:List Blk) (G:Mem) (Q:Post):Prop where
  out:∀ (w0:World) (G0:Mem) (ds:List Deferred) (β0 β:Nm) (a:Act) (w:World),β0.below n0→β0.le β→HR w0 G0 β hp G w→AV.rels β fr a.tmps.toList→a.defers=ds→(Code.rangeFunc f ps ca b).wpIn (FW none) 0 P (fun e=>SatM true w0 G0 β0 ds (Q e)) a w
def q9r (P:Program) (T:Tab) (n0:Nat) (c:Code):List AV→List Blk→Mem→Post→Prop :=
  Code.rec (motive:=fun _=>List AV→List Blk→Mem→Post→Prop)
    (skip:=fun fr hp G Q=>Q .normal fr hp G)
    (region:=fun _ ops draw fr hp G Q=>match draw with
      | false=>vops P T ops.toList ops.toList fr hp G (Q .normal)
      | true=>DrawP P ops.toList fr hp G (Q .normal))
    (seq:=fun _ _ iha ihb fr hp G Q=>iha fr hp G fun e fr' hp' G'=>match e with
      | .normal=>ihb fr' hp' G' Q
      | e=>Q e fr' hp' G')
    (cond:=fun c _ _ iha ihb fr hp G Q=>q7c (ev fr c) fun t=>condP t (iha fr hp G Q) (ihb fr hp G Q))
    (block:=fun id _ ih fr hp G Q=>ih fr hp G fun e fr' hp' G'=>match e with
      | .exit i=>match Nat.beq i id with
        | true=>Q .normal fr' hp' G'
        | false=>Q (.exit i) fr' hp' G'
      | e=>Q e fr' hp' G')
    (loop:=fun b _ fr hp G Q=>LoopP P n0 b fr hp G Q)
    (rangeFunc:=fun f ps a b _ _ fr hp G Q=>RangeP P n0 f ps a b fr hp G Q)
    (exit:=fun id fr hp G Q=>Q (.exit id) fr hp G)
    (scope:=fun _ ih fr hp G Q=>ih fr hp G fun e fr' hp' G'=>match e with
      | .goto _=>False
      | e=>Q e fr' hp' G')
    (label:=fun _ fr hp G Q=>Q .normal fr hp G)
    (goto:=fun _ _ _ _ _=>False)
    (ret:=fun fr hp G Q=>Q .ret fr hp G)
    (refuse:=fun _ _ _ _ _=>False) c
theorem Sat.mono {w0:World} {G0:Mem} {β0:Nm} {ds:List Deferred} {K K':List AV→List Blk→Mem→Prop} (h:∀ fr hp G,K fr hp G→K' fr hp G) {a:Act} {w:World} (s:Sat w0 G0 β0 ds K a w):Sat w0 G0 β0 ds K' a w:=by
  obtain ⟨β,fr,hp,G,h0,h1,h2,h3,h4⟩:=s
  exact ⟨β,fr,hp,G,h0,h1,h2,h3,h _ _ _ h4⟩
theorem SatM.mono {m:Bool} {w0:World} {G0:Mem} {β0:Nm} {ds:List Deferred} {K K':List AV→List Blk→Mem→Prop} (h:∀ fr hp G,K fr hp G→K' fr hp G) {a:Act} {w:World} (s:SatM m w0 G0 β0 ds K a w):SatM m w0 G0 β0 ds K' a w:=by
  obtain ⟨G1,ds',h1,h2⟩:=s
  exact ⟨G1,ds',h1,h2.mono h⟩
theorem q7x (P:Program) (ro:Option Nat) (m:Machine):m.fenced P (FW ro):=fenced_wide P m
theorem x2t (ro:Option Nat) (n:Nat):(FW ro).room n:=fun _ h=>by simp [FW,Fence.wide] at h
theorem z19 {P:Program} {ro:Option Nat} {Q:Exit→Act→World→Prop} {a:Act} {w:World} {c:Code} (h:c.wpIn (FW ro) 0 P (Exit.noGoto Q) a w):(Code.scope c).wpIn (FW ro) 0 P Q a w:=by
  intro b k cs hro hb hr
  have s1:StepsIn (Machine.fenced P (FW ro)) P (lone (b.atR a (.code (.scope c)::k)) cs w) (lone (b.atR a (.code c::.inScope c::k)) cs w):=.one (q7x _ _ _) (step_lone_go (by simp [stepG,stepG.exec,Frame.atR]))
  obtain ⟨e,a₁,w₁,hq,harr⟩:=h b (.inScope c::k) cs hro hb hr
  cases e with
  | normal=>exact ⟨.normal,a₁,w₁,hq,s1.trans (StepsIn.trans harr (.one (q7x _ _ _) (step_lone_go (by simp [stepG,stepG.exec,Frame.atR]))))⟩
  | exit id=>exact ⟨.exit id,a₁,w₁,hq,.of_steps s1 ⟨fun k' hk=>harr.1 k' (by simp [exitTo,hk]),fun hr hk=>harr.2 hr (by simp [exitTo,hk])⟩⟩
  | goto l=>exact hq.elim
  | ret=>exact ⟨_,a₁,w₁,hq,.of_steps s1 harr⟩
  | panic ch=>exact ⟨_,a₁,w₁,hq,.of_steps s1 harr⟩
  | outgrown=>exact ⟨_,a₁,w₁,hq,.of_steps s1 harr⟩
theorem z4m {P:Program} {T:Tab} (hT:TOk P T) {n0:Nat} {w0:World} {β0:Nm} {m:Bool} {ro:Option Nat} (hn0:β0.below n0):∀ (c:Code) (fr:List AV) (hp:List Blk) (G:Mem) (Q:Post) (G0:Mem) (ds:List Deferred) (β:Nm) (a:Act) (w:World),Fit m ro c→β0.le β→HR w0 G0 β hp G w→AV.rels β fr a.tmps.toList→a.defers=ds→q9r P T n0 c fr hp G Q →
    c.wpIn (FW ro) 0 P (fun e=>SatM m w0 G0 β0 ds (Q e)) a w:=by
  intro c
  induction c with
  | skip=>intro fr hp G Q G0 ds β a w ht hβ hr hf hd h;exact wpIn_skip (.of ⟨β,fr,hp,G,hβ,hr,hf,hd,h⟩)
  | region id ops draw =>
    intro fr hp G Q G0 ds β a w ht hβ hr hf hd h
    cases draw with
    | false=>exact x1t hT ht.1 hβ hr hf hd h (fun a' w' hs=>.of hs)
    | true =>
      have:=h.out w0 G0 ds β0 β a w (fun e=>SatM m w0 G0 β0 ds (Q e)) hβ hr hf hd (fun a' w' hs=>.of hs)
      exact wpIn_region_any h.mixed (z7l ht.1 _ _ _ _ (by simpa using this))
  | seq x y ihx ihy =>
    intro fr hp G Q G0 ds β a w ht hβ hr hf hd h
    have hx:Fit m ro x:=⟨ht.1.imp id fun h=>(q4p h).1,ht.2.imp id fun h=>(q4p h).1⟩
    have hy:Fit m ro y:=⟨ht.1.imp id fun h=>(q4p h).2,ht.2.imp id fun h=>(q4p h).2⟩
    refine wpIn_seq (wpIn_mono (ihx fr hp G _ G0 ds β a w hx hβ hr hf hd h) ?_)
    intro e a' w' hs
    cases e with
    | normal =>
      obtain ⟨G1,ds',he,β',fr',hp',G',h0,h1,h2,h3,h4⟩:=hs
      exact wpIn_mono (ihy fr' hp' G' Q G1 ds' β' a' w' hy h0 h1 h2 h3 h4) (fun e a w h=>h.ext he)
    | exit id=>exact hs
    | goto l=>exact hs
    | ret=>exact hs
    | panic ch=>exact hs
    | outgrown=>exact hs
  | cond c x y ihx ihy =>
    intro fr hp G Q G0 ds β a w ht hβ hr hf hd h
    have hx:Fit m ro x:=⟨ht.1.imp id fun h=>(q4p h).1,ht.2.imp id fun h=>(q4p h).1⟩
    have hy:Fit m ro y:=⟨ht.1.imp id fun h=>(q4p h).2,ht.2.imp id fun h=>(q4p h).2⟩
    obtain ⟨t,h1,h2⟩:=q99 h
    have hc:=q2s hf c
    rw [h1] at hc;simp only [AV.rel] at hc
    refine wpIn_cond hc ?_
    cases t
    · exact ihy fr hp G Q G0 ds β a w hy hβ hr hf hd (h2.no rfl)
    · exact ihx fr hp G Q G0 ds β a w hx hβ hr hf hd (h2.yes rfl)
  | block id b ih =>
    intro fr hp G Q G0 ds β a w ht hβ hr hf hd h
    refine wpIn_block (wpIn_mono (ih fr hp G _ G0 ds β a w ht hβ hr hf hd h) ?_)
    intro e a' w' hs
    cases e with
    | normal=>exact hs
    | exit i =>
      simp only [Exit.inBlock]
      by_cases hi:i=id
      · rw [if_pos hi]
        refine hs.mono fun fr' hp' G' hq=>?_
        have hb:Nat.beq i id=true:=by rw [hi];simp
        simpa [hb] using hq
      · rw [if_neg hi]
        refine hs.mono fun fr' hp' G' hq=>?_
        have:Nat.beq i id=false:=by rw [← Bool.not_eq_true,Nat.beq_eq];exact hi
        simpa [this] using hq
    | goto l=>exact hs
    | ret=>exact hs
    | panic ch=>exact hs
    | outgrown=>exact hs
  | loop b ih =>
    intro fr hp G Q G0 ds β a w ht hβ hr hf hd h
    intro bf k cs hro hb hr'
    obtain ⟨e,a',w',hq,harr⟩:=h.out w0 G0 ds β0 β a w m ro ht hn0 hβ hr hf hd bf k cs hro
    exact ⟨e,a',w',hq,.of_steps (.one (q7x _ _ _) stepR_loop) harr⟩
  | exit id=>intro fr hp G Q G0 ds β a w ht hβ hr hf hd h;exact wpIn_exit (.of ⟨β,fr,hp,G,hβ,hr,hf,hd,h⟩)
  | ret=>intro fr hp G Q G0 ds β a w ht hβ hr hf hd h;exact wpIn_ret (.of ⟨β,fr,hp,G,hβ,hr,hf,hd,h⟩)
  | label l=>intro fr hp G Q G0 ds β a w ht hβ hr hf hd h;exact wpIn_label (.of ⟨β,fr,hp,G,hβ,hr,hf,hd,h⟩)
  | scope b ih =>
    intro fr hp G Q G0 ds β a w ht hβ hr hf hd h
    refine z19 (wpIn_mono (ih fr hp G _ G0 ds β a w ht hβ hr hf hd h) ?_)
    intro e a' w' hs
    cases e with
    | goto l=>obtain ⟨_,_,_,_,_,_,_,_,_,_,_,h4⟩:=hs;exact h4.elim
    | normal=>exact hs
    | exit id=>exact hs
    | ret=>exact hs
    | panic ch=>exact hs
    | outgrown=>exact hs
  | rangeFunc f ps a b iha ihb =>
    intro fr hp G Q G0 ds β act w ht hβ hr hf hd h
    rcases ht with ⟨rfl |h1,rfl |h2⟩
    · exact h.out w0 G0 ds β0 β _ w hn0 hβ hr hf hd
    · cases h2
    · cases h1
    · cases h1
  | goto l=>intro fr hp G Q G0 ds β a w ht hβ hr hf hd h;exact h.elim
  | refuse why=>intro fr hp G Q G0 ds β a w ht hβ hr hf hd h;exact h.elim
end Go.Proofs.YtegpkpilfgohhaaGreat
namespace Go.Proofs.YtegpkpilfgohhaaGreat
open Go.RowKit
/-! ### What a function hands back -/
def z5h (T:Tab) (r:ResultVar) (fr:List AV) (hp:List Blk) (G:Mem) (K:AV→Prop):Prop :=
  match r with
  | .tmp t=>q2r (nthA fr t) K
  | .cell t ty=>q8i T ty (.tmp t) fr hp G fun v _ _=>K v
def z0l (T:Tab) (l:List ResultVar):List AV→List Blk→Mem→(List AV→Prop)→Prop :=
  List.rec (motive:=fun _=>List AV→List Blk→Mem→(List AV→Prop)→Prop) (fun _ _ _ K=>K [])
    (fun r _ ih fr hp G K=>z5h T r fr hp G fun v=>ih fr hp G fun vs=>K (v::vs)) l
def resF (T:Tab) (rs:List ResultVar) (fr:List AV) (hp:List Blk) (G:Mem) (K:AV→Prop):Prop :=
  z0l T rs fr hp G fun vs=>match vs with
    | [v]=>K v
    | vs=>K (.tup vs)
def z5i (tmps:Array Value) (r:ResultVar):Sem Value :=
  match r with
  | .tmp t=>pure (tmps.getD t undef)
  | .cell a t=>do loadVar t (← asAddr (tmps.getD a undef))
theorem x4y {P:Program} {T:Tab} (hT:TOk P T) {w0:World} {G0:Mem} {β:Nm} {hp:List Blk} {G:Mem} {w:World} (hr:HR w0 G0 β hp G w) {fr:List AV} {a:Act} (hf:AV.rels β fr a.tmps.toList) {r:ResultVar} {K:AV→Prop} (h:z5h T r fr hp G K) :
    ∃ y v,(z5i a.tmps r).run P w=.ok y w∧v.rel β y∧K v:=by
  cases r with
  | tmp t=>have h':q2r (nthA fr t) K:=h;rw [q19] at h';exact ⟨_,_,rfl,q2s hf (.tmp t),h'⟩
  | cell t ty =>
    have hx:=q2s hf (.tmp t)
    obtain ⟨v,h1,h2⟩:=z46 hT (show q8i T ty (.tmp t) fr hp G fun v _ _=>K v from h)
    obtain ⟨p,y,h3,h4,h5⟩:=h2 _ β _ w hr.br hx
    have he:a.tmps.getD t undef=.pointer (some p):=h3
    exact ⟨y,v,by simp [z5i,he,asAddr,h4],h5,h1⟩
theorem z5j {P:Program} {T:Tab} (hT:TOk P T) {w0:World} {G0:Mem} {β:Nm} {hp:List Blk} {G:Mem} {w:World} (hr:HR w0 G0 β hp G w) {fr:List AV} {a:Act} (hf:AV.rels β fr a.tmps.toList) :
    ∀ (rs:List ResultVar) (K:List AV→Prop),z0l T rs fr hp G K→∃ ys vs,(rs.mapM (z5i a.tmps)).run P w=.ok ys w∧AV.rels β vs ys∧K vs
  | [],K,h=>⟨[],[],rfl,by simp only [AV.rels],h⟩
  | r::rs,K,h=>by
    obtain ⟨y,v,h1,h2,h3⟩:=x4y (P:=P) hT hr hf h
    obtain ⟨ys,vs,h4,h5,h6⟩:=z5j hT hr hf rs _ h3
    refine ⟨y::ys,v::vs,?_,by simp only [AV.rels];exact ⟨y,ys,rfl,h2,h5⟩,h6⟩
    simp [List.mapM_cons,h1,h4]
theorem x2u {P:Program} {T:Tab} (hT:TOk P T) {w0:World} {G0:Mem} {β:Nm} {hp:List Blk} {G:Mem} {w:World} (hr:HR w0 G0 β hp G w) {fr:List AV} {a:Act} (hf:AV.rels β fr a.tmps.toList) {fn:Func} {K:AV→Prop} (h:resF T fn.results.toList fr hp G K) :
    ∃ y v,(results fn a.tmps).run P w=.ok y w∧v.rel β y∧K v:=by
  obtain ⟨ys,vs,h1,h2,h3⟩:=z5j (P:=P) hT hr hf _ _ h
  have hl:=AV.rels_length h2
  have hres:(results fn a.tmps).run P w=.ok (if h:ys.toArray.size=1 then ys.toArray[0] else .tuple ys.toArray) w:=by
    have e:results fn a.tmps=(do
        let vs ← fn.results.mapM (z5i a.tmps)
        pure (if h:vs.size=1 then vs[0] else .tuple vs)):=by
      unfold results
      congr 2
    rw [e,Array.mapM_eq_mapM_toList]
    simp [h1]
  split at h3
  · rename_i v
    simp only [AV.rels] at h2
    obtain ⟨y,zs,rfl,h4,rfl⟩:=h2
    exact ⟨y,v,by rw [hres];rfl,h4,h3⟩
  · rename_i hne
    have hy:ys.length≠1:=fun e=>by
      rw [hl] at e
      obtain ⟨v,hv⟩:=List.length_eq_one_iff.1 e
      exact hne v hv
    refine ⟨.tuple ys.toArray,.tup vs,by rw [hres];simp [hy],?_,h3⟩
    simp only [AV.rel]
    exact ⟨_,rfl,by simpa using h2⟩
/-! ### A function's body -/
def q4f (P:Program) (T:Tab) (n0:Nat) (fn:Func) (args:List AV) (hp:List Blk) (G:Mem) (K:AV→List Blk→Mem→Prop):Prop :=
  match fn.body with
  | some c=>lenF args fun m=>repF (fn.ntmps-m) [undef] fun us=>catF args us fun fr=>q9r P T n0 c fr hp G fun e fr' hp' G'=>match e with
    | .normal=>resF T fn.results.toList fr' hp' G' fun v=>K v hp' G'
    | .ret=>resF T fn.results.toList fr' hp' G' fun v=>K v hp' G'
    | _=>False
  | none=>False
theorem Nm.below_of {w0:World} {G0:Mem} {β:Nm} {hp:List Blk} {G:Mem} {w:World} (hr:HR w0 G0 β hp G w):β.below hp.length:=fun k v hk=>by
  obtain ⟨x,h1,_⟩:=hr.blk k v hk
  exact (List.getElem?_eq_some_iff.1 h1).1
/-! ### The marks are taken -/
def Mem.cle (G H:Mem):Prop:=∀ a v,G.cell? a=some v→H.cell? a=some v
def Mem.less (G:Mem) (D:Nat):Mem:=fun b=>if b=D then none else G b
theorem Mem.cle_refl (G:Mem):G.cle G:=fun _ _ h=>h
theorem Mem.less_cle {G:Mem} {D:Nat} {ds:Option (List Deferred)} (h:G D=some (.deferred ds)):G.cle (G.less D):=fun a v hv=>by
  unfold Mem.cell? Mem.less at *
  by_cases e:a.block=D
  · rw [e,h] at hv;cases hv
  · rw [if_neg e];exact hv
theorem HR.less {w0:World} {G0:Mem} {β:Nm} {hp:List Blk} {G:Mem} {w:World} (h:HR w0 G0 β hp G w) {D:Nat} {o:Obj} (hD:G D=some o) (h0:G0 D=none) (hs:w0.heap.size≤D) (o':Obj):HR w0 G0 β hp (G.less D) (w.putObj D o'):=by
  have hg:=grownBy_putObj' w D o'
  have hoth:∀ b,b≠D→(w.putObj D o').heap[b]? = w.heap[b]?:=fun b hb=>World.putObj_heap_other (fun e=>hb (by rw [e]))
  refine ⟨⟨hg.os.trans h.below.os,hg.tape.trans h.below.tape,hg.output.trans h.below.output,Nat.le_trans h.below.size hg.size,fun k hk=>(hoth k (by omega)).trans (h.below.block k hk)⟩,fun b o'' hb=>?_,fun b o'' hb=>?_,fun b o'' hb=>?_,fun k y hk=>?_,h.inj,fun k S hk b hb=>⟨(h.wrt k S hk b hb).1,Nat.lt_of_lt_of_le (h.wrt k S hk b hb).2.1 hg.size,(h.wrt k S hk b hb).2.2⟩⟩
  · simp only [Mem.less] at hb
    split at hb
    · cases hb
    · rename_i e;rw [hoth b e];exact h.hold b o'' hb
  · simp only [Mem.less]
    rw [if_neg (fun e=>by rw [e,h0] at hb;cases hb)]
    exact h.sub b o'' hb
  · simp only [Mem.less] at hb
    split at hb
    · cases hb
    · exact h.grow b o'' hb
  · obtain ⟨x,h1,h2⟩:=h.blk k y hk
    refine ⟨x,h1,?_⟩
    by_cases hl:x.live=true
    · refine Blk.rel_of (Nm.le_refl _) h2 (fun b hb=>?_)
      have h3:=(h.lt hk h1 hl hb).2.2
      have hne:b≠D:=fun e=>by rw [e,hD] at h3;cases h3
      exact ⟨hoth b hne,fun h4=>by simp only [Mem.less];rw [if_neg hne];exact h4⟩
    · cases x <;> simp [Blk.live] at hl <;> first |trivial |exact h2.elim
theorem z2j {P:Program} {fn:Func} {tmps:Array Value} {R:Ending→World→Prop} {w0:World} {G0:Mem} {β:Nm} {hp:List Blk}:∀ (Ds:List Nat) (G:Mem) (w:World),Ds.Nodup→(∀ D∈Ds,G0 D=none∧w0.heap.size≤D∧G D=some (.deferred (some [])))→HR w0 G0 β hp G w →
    (∀ G' w',G.cle G'→HR w0 G0 β hp G' w'→∃ v,(results fn tmps).run P w'=.ok v w'∧R (.returned v) w')→LeavesInM Fence.wide 0 P fn tmps R (Ds.map mark) .returning w
  | [],G,w,_,_,hr,h=>h G w (Mem.cle_refl _) hr
  | D::Ds,G,w,hn,hD,hr,h=>by
    obtain ⟨h1,h2,h3⟩:=hD D (by simp)
    rw [List.nodup_cons] at hn
    refine ⟨by simp,.inl ⟨D,_,rfl,run_takeDeferred (hr.hold D _ h3),z2j Ds (G.less D) _ hn.2 (fun E hE=>?_) (hr.less h3 h1 h2 _) (fun G' w' hc hr'=>h G' w' (fun a v hv=>hc a v (Mem.less_cle h3 a v hv)) hr')⟩⟩
    obtain ⟨g1,g2,g3⟩:=hD E (by simp [hE])
    refine ⟨g1,g2,?_⟩
    simp only [Mem.less]
    rw [if_neg (fun (e:E=D)=>hn.1 (by rw [← e];exact hE))];exact g3
theorem z5k {α:Type} {K K':List α→Prop} (h:∀ m,K m→K' m):∀ (l:List α) (n:Nat),z07 l n K→z07 l n K'
  | l,0,x=>by cases l <;> exact h _ x
  | [],n+1,x=>x.elim
  | _::l,n+1,x=>z5k h l n x
theorem z5l {α:Type}:∀ (l:List α) (n:Nat) {K K':List α→Prop},(∀ m,K m→K' m)→z06 l n K→z06 l n K'
  | l,0,K,K',h,x=>by cases l <;> exact h _ x
  | [],n+1,K,K',h,x=>x.elim
  | _::l,n+1,K,K',h,x=>z5l l n (fun m hm=>h _ hm) x
theorem z2k {i:TI} {cs:List AV} {K K':AV→Prop} (h:∀ v,K v→K' v) (x:aggF i cs K):aggF i cs K':=by
  unfold aggF at x ⊢
  generalize i.td=d at x ⊢
  cases d <;> first |exact h _ x |exact x.elim |(cases cs with |nil=>exact x |cons c l=>cases l with |nil=>exact h _ x |cons _ _=>exact x)
theorem x4z {T:Tab} {t:TypeId} {x:Operand} {fr:List AV} {hp:List Blk} {G H:Mem} (hc:G.cle H) {K K':AV→Prop} (hk:∀ v,K v→K' v) (h:q8i T t x fr hp G fun v _ _=>K v):q8i T t x fr hp H fun v _ _=>K' v:=by
  unfold q8i q1b at h ⊢
  generalize look T t=z at h ⊢
  cases z with
  | none=>exact h
  | some i =>
    simp only at h ⊢
    generalize ev fr x=y at h ⊢
    cases y with
    | ptr k o =>
      simp only at h ⊢
      generalize nthB hp k=b at h ⊢
      cases b with
      | cells t' l=>exact z5k (fun m hm=>z5l _ _ (fun cs hcs=>z2k hk hcs) hm) _ _ h
      | own e sz n xs =>
        obtain ⟨vs,h1,h2⟩:=h
        refine ⟨vs,h1,?_⟩
        rw [q2i] at h2 ⊢
        exact z2k hk h2
      | gone=>exact h
      | lp _ _ _ _=>exact h
      | mp _ _ _=>exact h
      | muts _=>exact h
    | val v =>
      cases v with
      | pointer p =>
        cases p with
        | none=>exact h
        | some a =>
          obtain ⟨vs,⟨h1,h2⟩,h3⟩:=h
          refine ⟨vs,⟨h1,fun j v hv=>hc _ _ (h2 j v hv)⟩,?_⟩
          rw [q2i] at h3 ⊢
          exact z2k hk h3
      | _=>exact h
    | _=>exact h
theorem x3n {T:Tab} {r:ResultVar} {fr:List AV} {hp:List Blk} {G H:Mem} (hc:G.cle H) {K K':AV→Prop} (hk:∀ v,K v→K' v) (h:z5h T r fr hp G K):z5h T r fr hp H K':=by
  cases r with
  | tmp t =>
    have h':q2r (nthA fr t) K:=h
    rw [q19] at h'
    show q2r (nthA fr t) K'
    rw [q19];exact hk _ h'
  | cell t ty=>exact x4z hc hk h
theorem z34 {T:Tab} {fr:List AV} {hp:List Blk} {G H:Mem} (hc:G.cle H):∀ (l:List ResultVar) {K K':List AV→Prop},(∀ v,K v→K' v)→z0l T l fr hp G K→z0l T l fr hp H K'
  | [],K,K',hk,h=>hk _ h
  | r::l,K,K',hk,h=>x3n (K:=fun v=>z0l T l fr hp G fun vs=>K (v::vs)) hc (fun v hv=>z34 hc l (fun vs hvs=>hk _ hvs) hv) h
theorem x6t {T:Tab} {fr:List AV} {hp:List Blk} {G H:Mem} (hc:G.cle H) {l:List ResultVar} {K K':AV→Prop} (hk:∀ v,K v→K' v) (h:resF T l fr hp G K):resF T l fr hp H K':=by
  unfold resF at h ⊢
  refine z34 hc l (fun vs hvs=>?_) h
  split at hvs <;> exact hk _ hvs
def q6x (fn:Func):Bool :=
  match fn.body with
  | some c=>q7n c
  | none=>true
theorem q5c {P:Program} {T:Tab} (hT:TOk P T) {f:FuncId} {fn:Func} (hfn:P.funcs[f]? = some fn) {args:List AV} {hp:List Blk} {G:Mem} {K:AV→List Blk→Mem→Prop} (h:q4f P T hp.length fn args hp G K)
    (hm:q6x fn=true∨∀ v hp G G',G.cle G'→K v hp G→K v hp G')
    (w0:World) (G0:Mem) (β:Nm) (w:World) (vs:Array Value) (hr:HR w0 G0 β hp G w) (ha:AV.rels β args vs.toList) :
    Calls P f vs w fun e w'=>∃ y β' v hp' G',e=.returned y∧β.le β'∧HR w0 G0 β' hp' G' w'∧v.rel β' y∧K v hp' G':=by
  unfold q4f at h
  split at h
  · rename_i c hc
    have h1:=q1y h
    rw [z6r,q09] at h1
    obtain ⟨m,hm1,hm2⟩:∃ m:Bool,(m=true∨q7n c=true)∧(m=true→∀ v hp G G',G.cle G'→K v hp G→K v hp G'):=by
      rcases hm with hm |hm
      · unfold q6x at hm;rw [hc] at hm;exact ⟨false,.inr hm,fun h=>by cases h⟩
      · exact ⟨true,.inl rfl,fun _=>hm⟩
    refine callsIn_wide (n:=0).1 (callsIn_of_wp_marks (F:=Fence.wide) hfn hc trivial (wpIn_mono (z4m (m:=m) (ro:=none) hT (Nm.below_of hr) c _ hp G _ G0 [] β _ w ⟨.inl rfl,hm1⟩ (Nm.le_refl _) hr ?_ rfl h1) ?_))
    · have hl:=AV.rels_length ha
      have e:(vs++Array.replicate (fn.ntmps-vs.size) undef).toList=vs.toList++(List.replicate (fn.ntmps-args.length) [undef]).flatten:=by
        simp at hl
        rw [← hl];simp
      show AV.rels β _ (vs++Array.replicate (fn.ntmps-vs.size) undef).toList
      rw [e]
      exact AV.rels_append ha (AV.rels_vals _)
    · intro e a' w' hs
      obtain ⟨G1,ds',hext,β',fr',hp',G',h0,h2,h3,h4,h5⟩:=hs
      have fin:(resF T fn.results.toList fr' hp' G' fun v=>K v hp' G')→LeavesInM Fence.wide 0 P fn a'.tmps (fun e w'=>∃ y β' v hp' G',e=.returned y∧β.le β'∧HR w0 G0 β' hp' G' w'∧v.rel β' y∧K v hp' G') a'.defers .returning w':=by
        intro h5
        cases m with
        | false =>
          obtain ⟨rfl,rfl⟩:=hext.none_ rfl
          rw [h4]
          obtain ⟨y,v,h6,h7,h8⟩:=x2u (P:=P) hT h2 h3 h5
          exact ⟨y,h6,y,β',v,hp',G',rfl,h0,h2,h7,h8⟩
        | true =>
        obtain ⟨Ds,k1,k2,k3⟩:=hext.marks
        rw [h4,k1,List.append_nil]
        have hr0:HR w0 G0 β' hp' G' w':=⟨h2.below,h2.hold,Mem.le_trans hext.le h2.sub,fun b o hb=>by
          rcases h2.grow b o hb with h6 |h6
          · exact hext.grow b o h6
          · exact .inr h6,h2.blk,h2.inj,fun k S hk b hb=>⟨(h2.wrt k S hk b hb).1,(h2.wrt k S hk b hb).2.1,hext.le.none (h2.wrt k S hk b hb).2.2⟩⟩
        refine z2j Ds G' w' k2 (fun D hD=>⟨(k3 D hD).1,(k3 D hD).2.1,h2.sub D _ (k3 D hD).2.2⟩) hr0 (fun G'' w'' hcl hr''=>?_)
        obtain ⟨y,v,h6,h7,h8⟩:=x2u (P:=P) hT hr'' h3 (x6t hcl (fun _ h=>h) h5)
        exact ⟨y,h6,y,β',v,hp',G'',rfl,h0,hr'',h7,hm2 rfl _ _ _ _ hcl h8⟩
      cases e with
      | normal=>exact fin h5
      | ret=>exact fin h5
      | exit id=>exact h5.elim
      | goto l=>exact h5.elim
      | panic ch=>exact h5.elim
      | outgrown=>exact h5.elim
  · exact h.elim
theorem q0f {P:Program} {T:Tab} (hT:TOk P T) {f:FuncId} {fn:Func} (hfn:P.funcs[f]? = some fn) (hen:∀ vs w,(callFunc f vs).run P w=.ok (.enter f vs) w) {args:List AV} {hp:List Blk} {G:Mem} {K:AV→List Blk→Mem→Prop} {n0:Nat} (hn:hp.length=n0)
    (h:q0w (q6x fn) (q4f P T n0 fn args hp G K)):CallP P f args hp G K:=by
  subst hn
  obtain ⟨h1,h2⟩:=q0t h
  exact ⟨hen,fun w0 G0 β w vs hr ha=>q5c hT hfn h2 (.inl h1) w0 G0 β w vs hr ha⟩
theorem HR.init {G:Mem} {w:World} (hG:G.holds w):HR w G (fun _=>none) [] G w :=
  ⟨Below.refl _ _,hG,Mem.le_refl _,fun _ _ h=>.inl h,fun _ _ h=>(by cases h),fun _ _ _ _ _ _ _ _ h=>(by cases h),fun k S h=>(by simp at h)⟩
theorem q9a {β:Nm} (l:List Value):AV.rels β (l.map .val) l:=AV.rels_vals l
theorem q8b {P:Program} {T:Tab} (hT:TOk P T) {f:FuncId} {fn:Func} (hfn:P.funcs[f]? = some fn) {args:List AV} {vs:Array Value} (ha:AV.rels (fun _=>none) args vs.toList) {G:Mem} {w:World} (hG:G.holds w) {K:AV→List Blk→Mem→Prop} (h:q4f P T 0 fn args [] G K) (hk:∀ v hp G G',G.cle G'→K v hp G→K v hp G') :
    Calls P f vs w fun e w'=>∃ y β' v hp' G',e=.returned y∧HR w G β' hp' G' w'∧v.rel β' y∧K v hp' G':=by
  refine (q5c hT hfn (hp:=[]) h (.inr hk) w G _ w vs (HR.init hG) ha).mono ?_
  rintro e w' ⟨y,β',v,hp',G',h1,_,h2,h3,h4⟩
  exact ⟨y,β',v,hp',G',h1,h2,h3,h4⟩
/-! ### Weakening -/
structure Le (n0:Nat) (fr:List AV) (hp:List Blk) (G:Mem) (fr':List AV) (hp':List Blk) (G':Mem):Prop where
  out:∀ (w0:World) (G0:Mem) (β0 β:Nm) (w:World) (ys:List Value),β0.below n0→β0.le β→HR w0 G0 β hp G w→AV.rels β fr ys→∃ β',β0.le β'∧HR w0 G0 β' hp' G' w∧AV.rels β' fr' ys
theorem q0h {n0 n:Nat} {fr fr':List AV} {hp hp':List Blk} {G:Mem} (hn:hp'.length=n) (h0:Nat.ble n0 n=true) (hf:frLe n fr fr') (hh:hpLe n hp hp'):Le n0 fr hp G fr' hp' G:=by
  constructor
  intro w0 G0 β0 β w ys hb hle hr hfr
  refine ⟨β.cut n,fun k v hk=>?_,hr.weaken hn hh,q6k hf hfr⟩
  have h1:=hb k v hk
  have h2:=Nat.le_of_ble_eq_true h0
  rw [Nm.cut_lt (by omega)]
  exact hle k v hk
mutual
def AV.mv (q k:Nat):AV→AV
  | .val x=>.val x
  | .ptr j o=>if Nat.beq j q then .ptr k o else if Nat.beq j k then .any else .ptr j o
  | .sli j o l c=>if Nat.beq j q then .sli k o l c else if Nat.beq j k then .any else .sli j o l c
  | .own j=>if Nat.beq j q then .own k else if Nat.beq j k then .any else .own j
  | .vw j o n=>if Nat.beq j q then .vw k o n else if Nat.beq j k then .any else .vw j o n
  | .agg l=>.agg (AV.mvs q k l)
  | .tup l=>.tup (AV.mvs q k l)
  | .fn f a b=>.fn f (AV.mvs q k a) (AV.mvs q k b)
  | .any=>.any
  | .yl j=>if Nat.beq j q then .yl k else if Nat.beq j k then .any else .yl j
  | .mpv j=>if Nat.beq j q then .mpv k else if Nat.beq j k then .any else .mpv j
def AV.mvs (q k:Nat):List AV→List AV
  | []=>[]
  | a::l=>AV.mv q k a::AV.mvs q k l
end
def Nm.mv (β:Nm) (q k:Nat):Nm:=fun j=>if j=k then β q else if j=q then none else β j
theorem q8k {β:Nm} {q k j:Nat} (hqk:q≠k) {v:Value} (h:β j=some v):(j=q→β.mv q k k=some v)∧(j≠q→j≠k→β.mv q k j=some v):=by
  refine ⟨fun e=>?_,fun h1 h2=>?_⟩
  · subst e;simp [Nm.mv,h]
  · simp [Nm.mv,h1,h2,h]
mutual
theorem AV.rel_mv {β:Nm} {q k:Nat} (hqk:q≠k):∀ (a:AV) (y:Value),AV.rel β a y→AV.rel (β.mv q k) (a.mv q k) y
  | .val _,_,e=>by simpa [AV.rel,AV.mv] using e
  | .ptr j o,_,e=>by
    simp only [AV.rel] at e
    obtain ⟨v,b,h1,h2,h3⟩:=e
    obtain ⟨g1,g2⟩:=q8k hqk h1
    simp only [AV.mv]
    split
    · rename_i h;simp only [AV.rel];exact ⟨v,b,g1 (Nat.eq_of_beq_eq_true h),h2,h3⟩
    · split
      · simp only [AV.rel]
      · rename_i h h';simp only [AV.rel];exact ⟨v,b,g2 (fun e=>h (by rw [e];simp)) (fun e=>h' (by rw [e];simp)),h2,h3⟩
  | .sli j o l c,_,e=>by
    simp only [AV.rel] at e
    obtain ⟨v,b,h1,h2,h3⟩:=e
    obtain ⟨g1,g2⟩:=q8k hqk h1
    simp only [AV.mv]
    split
    · rename_i h;simp only [AV.rel];exact ⟨v,b,g1 (Nat.eq_of_beq_eq_true h),h2,h3⟩
    · split
      · simp only [AV.rel]
      · rename_i h h';simp only [AV.rel];exact ⟨v,b,g2 (fun e=>h (by rw [e];simp)) (fun e=>h' (by rw [e];simp)),h2,h3⟩
  | .vw j o n,_,e=>by
    simp only [AV.rel] at e
    obtain ⟨A,c,h1,h2,h3,h4⟩:=e
    simp only [AV.mv]
    split
    · rename_i h;simp only [AV.rel]
      exact ⟨A,c,h1,h2,⟨h3.1,fun ho=>by obtain ⟨m,hm⟩:=h3.2 ho;exact ⟨m,(q8k hqk hm).1 (Nat.eq_of_beq_eq_true h)⟩⟩,fun hn=>by obtain ⟨v,b,q1,q2,q3⟩:=h4 hn;exact ⟨v,b,(q8k hqk q1).1 (Nat.eq_of_beq_eq_true h),q2,q3⟩⟩
    · split
      · simp only [AV.rel]
      · rename_i h h';simp only [AV.rel]
        exact ⟨A,c,h1,h2,⟨h3.1,fun ho=>by obtain ⟨m,hm⟩:=h3.2 ho;exact ⟨m,(q8k hqk hm).2 (fun e=>h (by rw [e];simp)) (fun e=>h' (by rw [e];simp))⟩⟩,fun hn=>by obtain ⟨v,b,q1,q2,q3⟩:=h4 hn;exact ⟨v,b,(q8k hqk q1).2 (fun e=>h (by rw [e];simp)) (fun e=>h' (by rw [e];simp)),q2,q3⟩⟩
  | .own j,_,e=>by
    simp only [AV.rel] at e
    obtain ⟨e,e2⟩:=e
    obtain ⟨g1,g2⟩:=q8k hqk e
    simp only [AV.mv]
    split
    · rename_i h;simp only [AV.rel];exact ⟨g1 (Nat.eq_of_beq_eq_true h),e2⟩
    · split
      · simp only [AV.rel]
      · rename_i h h';simp only [AV.rel];exact ⟨g2 (fun e=>h (by rw [e];simp)) (fun e=>h' (by rw [e];simp)),e2⟩
  | .agg l,_,e=>by simp only [AV.rel,AV.mv] at e ⊢;obtain ⟨cs,h1,h2⟩:=e;exact ⟨cs,h1,AV.rels_mv hqk l _ h2⟩
  | .tup l,_,e=>by simp only [AV.rel,AV.mv] at e ⊢;obtain ⟨cs,h1,h2⟩:=e;exact ⟨cs,h1,AV.rels_mv hqk l _ h2⟩
  | .fn _ a b,_,e=>by simp only [AV.rel,AV.mv] at e ⊢;obtain ⟨xs,ys,h1,h2,h3⟩:=e;exact ⟨xs,ys,h1,AV.rels_mv hqk a _ h2,AV.rels_mv hqk b _ h3⟩
  | .any,_,_=>by simp only [AV.rel,AV.mv]
  | .yl j,_,e=>by
    simp only [AV.rel] at e
    obtain ⟨v,b,h1,h2,h3⟩:=e
    obtain ⟨g1,g2⟩:=q8k hqk h1
    simp only [AV.mv]
    split
    · rename_i h;simp only [AV.rel];exact ⟨v,b,g1 (Nat.eq_of_beq_eq_true h),h2,h3⟩
    · split
      · simp only [AV.rel]
      · rename_i h h';simp only [AV.rel];exact ⟨v,b,g2 (fun e=>h (by rw [e];simp)) (fun e=>h' (by rw [e];simp)),h2,h3⟩
  | .mpv j,_,e=>by
    simp only [AV.rel] at e
    obtain ⟨v,b,h1,h2,h3⟩:=e
    obtain ⟨g1,g2⟩:=q8k hqk h1
    simp only [AV.mv]
    split
    · rename_i h;simp only [AV.rel];exact ⟨v,b,g1 (Nat.eq_of_beq_eq_true h),h2,h3⟩
    · split
      · simp only [AV.rel]
      · rename_i h h';simp only [AV.rel];exact ⟨v,b,g2 (fun e=>h (by rw [e];simp)) (fun e=>h' (by rw [e];simp)),h2,h3⟩
theorem AV.rels_mv {β:Nm} {q k:Nat} (hqk:q≠k):∀ (l:List AV) (ys:List Value),AV.rels β l ys→AV.rels (β.mv q k) (AV.mvs q k l) ys
  | [],_,e=>by simpa [AV.rels,AV.mvs] using e
  | a::l,_,e=>by
    simp only [AV.rels,AV.mvs] at e ⊢
    obtain ⟨y,zs,h1,h2,h3⟩:=e
    exact ⟨y,zs,h1,AV.rel_mv hqk a _ h2,AV.rels_mv hqk l _ h3⟩
end
def Blk.mv (q k:Nat):Blk→Blk
  | .cells t l=>.cells t (AV.mvs q k l)
  | .lp i l st p=>.lp i (AV.mvs q k l) st p
  | .mp f ks l=>.mp f ks (AV.mvs q k l)
  | x=>x
def mvB (q k:Nat):List Blk→List Blk
  | []=>[]
  | x::l=>x.mv q k::mvB q k l
theorem z0m (q k:Nat):∀ (l:List Blk),mvB q k l=l.map (·.mv q k)
  | []=>rfl
  | x::l=>by simp [mvB,z0m q k l]
theorem Blk.mv_live (q k:Nat) (x:Blk):(x.mv q k).live=x.live:=by cases x <;> rfl
theorem Blk.mv_rel {base:Nat} {β:Nm} {q k:Nat} (hqk:q≠k) {G:Mem} {w:World} {x:Blk} {y:Value} (e:x.rel base β G w y):(x.mv q k).rel base (β.mv q k) G w y:=by
  cases x with
  | gone=>trivial
  | muts S=>exact e
  | cells t l =>
    obtain ⟨b,c,h3,h4,h5,h6,h7⟩:=e
    exact ⟨b,c,h3,h4,h5,h6,AV.rels_mv hqk _ _ h7⟩
  | own e' sz n xs=>exact e
  | lp i fr st p =>
    obtain ⟨h3,h4,h5,tm,h6,h7⟩:=e
    exact ⟨h3,h4,h5,tm,h6,AV.rels_mv hqk _ _ h7⟩
  | mp f ks vs =>
    obtain ⟨b,ys,h3,h4,h5,h6,h7,h8⟩:=e
    exact ⟨b,ys,h3,h4,h5,h6,h7,AV.rels_mv hqk _ _ h8⟩
theorem x91 {n0 q k:Nat} {fr fr':List AV} {hp hp':List Blk} {G G':Mem} (h1:Nat.ble n0 q=true) (h2:Nat.ble n0 k=true) (h3:Nat.blt k q=true) (h4:Nat.blt q hp.length=true) (h:Le n0 (AV.mvs q k fr) (((mvB q k hp).set k (nthB (mvB q k hp) q)).set q .gone) G fr' hp' G'):Le n0 fr hp G fr' hp' G':=by
  constructor
  intro w0 G0 β0 β w ys hb hle hr hfr
  have g1:=Nat.le_of_ble_eq_true h1
  have g2:=Nat.le_of_ble_eq_true h2
  have g3:=q1w h3
  have hqk:q≠k:=by omega
  have hql:=q1w h4
  refine h.out w0 G0 β0 (β.mv q k) w ys hb (fun j v hj=>?_) ?_ (AV.rels_mv hqk _ _ hfr)
  · have:=hb j v hj
    have h5:=hle j v hj
    simp only [Nm.mv]
    rw [if_neg (by omega),if_neg (by omega)];exact h5
  · have hkl:k<hp.length:=by omega
    have get:∀ (j:Nat) (x:Blk),(((mvB q k hp).set k (nthB (mvB q k hp) q)).set q .gone)[j]? = some x→(j=q∧x=.gone)∨(j≠q∧j=k∧∃ x',hp[q]? = some x'∧x=x'.mv q k)∨(j≠q∧j≠k∧∃ x',hp[j]? = some x'∧x=x'.mv q k):=by
      intro j x hx
      rw [z0m] at hx
      by_cases hjq:j=q
      · left
        subst hjq
        rw [List.getElem?_set_self (by simp;omega)] at hx
        cases hx;exact ⟨rfl,rfl⟩
      · right
        rw [List.getElem?_set_ne (by omega)] at hx
        by_cases hjk:j=k
        · left
          subst hjk
          rw [List.getElem?_set_self (by simp;omega)] at hx
          cases hx
          refine ⟨hjq,rfl,hp[q],List.getElem?_eq_getElem hql,?_⟩
          rw [q3j,List.getElem?_map,List.getElem?_eq_getElem hql];rfl
        · right
          rw [List.getElem?_set_ne (by omega),List.getElem?_map] at hx
          cases hhj:hp[j]? with
          | none=>rw [hhj] at hx;cases hx
          | some x'=>rw [hhj] at hx;simp at hx;exact ⟨hjq,hjk,x',rfl,hx.symm⟩
    have mvs:∀ (j:Nat) (v:Value),(β.mv q k) j=some v→(j=k∧β q=some v)∨(j≠k∧j≠q∧β j=some v):=by
      intro j v hj
      simp only [Nm.mv] at hj
      split at hj
      · exact .inl ⟨by assumption,hj⟩
      · split at hj
        · cases hj
        · exact .inr ⟨by assumption,by assumption,hj⟩
    refine ⟨hr.below,hr.hold,hr.sub,hr.grow,fun j v hj=>?_,fun j j' z z' u u' c hne hj hj' hu hu' hul hul' hz hz'=>?_,fun j S hS=>?_⟩
    · rcases mvs j v hj with ⟨rfl,h5⟩ |⟨h5,h6,h7⟩
      · obtain ⟨x,h8,h9⟩:=hr.blk q v h5
        refine ⟨x.mv q j,?_,Blk.mv_rel hqk h9⟩
        rw [List.getElem?_set_ne (by omega),List.getElem?_set_self (by rw [z0m];simp;omega),q3j,z0m,List.getElem?_map,h8];rfl
      · obtain ⟨x,h8,h9⟩:=hr.blk j v h7
        refine ⟨x.mv q k,?_,Blk.mv_rel hqk h9⟩
        rw [List.getElem?_set_ne (by omega),List.getElem?_set_ne (by omega),z0m,List.getElem?_map,h8];rfl
    · have src:∀ (i:Nat) (p:Value) (r:Blk),(β.mv q k) i=some p→(((mvB q k hp).set k (nthB (mvB q k hp) q)).set q .gone)[i]? = some r→r.live=true→∃ i' r',β i'=some p∧hp[i']? = some r'∧r'.live=true∧((i=k∧i'=q)∨(i≠k∧i≠q∧i'=i)):=by
        intro i p r hi hri hrl
        rcases get i r hri with ⟨_,rfl⟩ |⟨h5,rfl,x',h6,rfl⟩ |⟨h5,h6,x',h7,rfl⟩
        · simp [Blk.live] at hrl
        · rcases mvs i p hi with ⟨_,h8⟩ |⟨h8,_,_⟩
          · exact ⟨q,x',h8,h6,by rw [← Blk.mv_live q i];exact hrl,.inl ⟨rfl,rfl⟩⟩
          · exact absurd rfl h8
        · rcases mvs i p hi with ⟨h8,_⟩ |⟨_,_,h8⟩
          · exact absurd h8 h6
          · exact ⟨i,x',h8,h7,by rw [← Blk.mv_live q k];exact hrl,.inr ⟨h6,h5,rfl⟩⟩
      obtain ⟨i,r,h5,h6,h7,h8⟩:=src j z u hj hu hul
      obtain ⟨i',r',h5',h6',h7',h8'⟩:=src j' z' u' hj' hu' hul'
      refine hr.inj i i' z z' r r' c ?_ h5 h5' h6 h6' h7 h7' hz hz'
      rcases h8 with ⟨rfl,rfl⟩ |⟨a1,a2,rfl⟩ <;> rcases h8' with ⟨rfl,rfl⟩ |⟨b1,b2,rfl⟩ <;> omega
    · have mvm:∀ x:Blk,x.mv q k=.muts S→x=.muts S:=fun x e=>by
        cases x <;> simp [Blk.mv] at e ⊢;exact e
      rcases get j _ hS with ⟨_,e⟩ |⟨_,_,x',h6,e⟩ |⟨_,_,x',h6,e⟩
      · cases e
      · exact hr.wrt q S (by rw [h6,mvm x' e.symm])
      · exact hr.wrt j S (by rw [h6,mvm x' e.symm])
/-! ### Loops -/
theorem z4n {P:Program} {T:Tab} (hT:TOk P T) {n0:Nat} {b:Code} {fr:List AV} {hp:List Blk} {G:Mem} {Q:Post} {ι:Type} (inv:ι→Prop) (F:ι→List AV) (H:ι→List Blk) (M:ι→Mem) (μ:ι→Nat)
    (hstart:∃ i,inv i∧Le n0 fr hp G (F i) (H i) (M i))
    (round:∀ i,inv i→q9r P T n0 b (F i) (H i) (M i) fun e fr' hp' G'=>match e with
      | .normal=>∃ i',inv i'∧μ i'<μ i∧Le n0 fr' hp' G' (F i') (H i') (M i')
      | e=>Q e fr' hp' G'):LoopP P n0 b fr hp G Q:=by
  constructor
  intro w0 G0 ds β0 β a w m ro ht hb hβ hr hf hd bf k cs hro
  obtain ⟨i0,hv0,hi0⟩:=hstart
  obtain ⟨β1,hβ1,hr1,hf1⟩:=hi0.out w0 G0 β0 β w _ hb hβ hr hf
  have key:∀ (n:Nat) (i:ι),inv i→μ i=n→∀ (G0:Mem) (ds:List Deferred) (β:Nm) (a:Act) (w:World),β0.le β→HR w0 G0 β (H i) (M i) w→AV.rels β (F i) a.tmps.toList→a.defers=ds →
      ∃ e a' w',SatM m w0 G0 β0 ds (Q e) a' w'∧ArrivesIn (Machine.fenced P (FW ro)) P (lone (bf.atR a (.code b::.inLoop b::k)) cs w) bf k cs e a' w':=by
    intro n
    induction n using Nat.strongRecOn with
    | _ n ih =>
      intro i hv hn G0 ds β a w hβ hr hf hd
      obtain ⟨e,a₁,w₁,hq,harr⟩:=z4m (m:=m) (ro:=ro) hT hb b (F i) (H i) (M i) _ G0 ds β a w ht hβ hr hf hd (round i hv) bf (.inLoop b::k) cs hro trivial (x2t _ _)
      cases e with
      | normal =>
        obtain ⟨G1,ds',he,β',fr',hp',G',g0,g1,g2,g3,i',hv',hlt,hle⟩:=hq
        obtain ⟨β2,k1,k2,k3⟩:=hle.out w0 G1 β0 β' w₁ _ hb g0 g1 g2
        obtain ⟨e₂,a₂,w₂,hq₂,harr₂⟩:=ih (μ i') (hn ▸ hlt) i' hv' rfl G1 ds' β2 a₁ w₁ k1 k2 k3 g3
        exact ⟨e₂,a₂,w₂,hq₂.ext he,.of_steps (StepsIn.trans harr (.one (q7x _ _ _) stepR_inLoop)) harr₂⟩
      | exit id=>exact ⟨_,a₁,w₁,hq,.pass (x:=.inLoop b) rfl (fun _ _=>.inl (by simp)) harr⟩
      | goto l=>exact ⟨_,a₁,w₁,hq,.pass (x:=.inLoop b) rfl (fun _ _=>.inl (by simp)) harr⟩
      | ret=>exact ⟨_,a₁,w₁,hq,.pass (x:=.inLoop b) rfl (fun _ _=>.inl (by simp)) harr⟩
      | panic ch=>exact ⟨_,a₁,w₁,hq,.pass (x:=.inLoop b) rfl (fun _ _=>.inl (by simp)) harr⟩
      | outgrown=>exact ⟨_,a₁,w₁,hq,.pass (x:=.inLoop b) rfl (fun _ _=>.inl (by simp)) harr⟩
  exact key _ i0 hv0 rfl G0 ds β1 a w hβ1 hr1 hf1 hd
theorem q01 {P:Program} {T:Tab} (hT:TOk P T) {n0:Nat} {b:Code} {fr:List AV} {hp:List Blk} {G:Mem} {Q:Post} (h:q9r P T n0 b fr hp G fun e fr' hp' G'=>match e with
      | .normal=>LoopP P n0 b fr' hp' G' Q
      | e=>Q e fr' hp' G'):LoopP P n0 b fr hp G Q:=by
  constructor
  intro w0 G0 ds β0 β a w m ro ht hb hβ hr hf hd bf k cs hro
  obtain ⟨e,a₁,w₁,hq,harr⟩:=z4m (m:=m) (ro:=ro) hT hb b fr hp G _ G0 ds β a w ht hβ hr hf hd h bf (.inLoop b::k) cs hro trivial (x2t _ _)
  cases e with
  | normal =>
    obtain ⟨G1,ds',he,β',fr',hp',G',g0,g1,g2,g3,g4⟩:=hq
    obtain ⟨e₂,a₂,w₂,hq₂,harr₂⟩:=g4.out w0 G1 ds' β0 β' a₁ w₁ m ro ht hb g0 g1 g2 g3 bf k cs hro
    exact ⟨e₂,a₂,w₂,hq₂.ext he,.of_steps (StepsIn.trans harr (.one (q7x _ _ _) stepR_inLoop)) harr₂⟩
  | exit id=>exact ⟨_,a₁,w₁,hq,.pass (x:=.inLoop b) rfl (fun _ _=>.inl (by simp)) harr⟩
  | goto l=>exact ⟨_,a₁,w₁,hq,.pass (x:=.inLoop b) rfl (fun _ _=>.inl (by simp)) harr⟩
  | ret=>exact ⟨_,a₁,w₁,hq,.pass (x:=.inLoop b) rfl (fun _ _=>.inl (by simp)) harr⟩
  | panic ch=>exact ⟨_,a₁,w₁,hq,.pass (x:=.inLoop b) rfl (fun _ _=>.inl (by simp)) harr⟩
  | outgrown=>exact ⟨_,a₁,w₁,hq,.pass (x:=.inLoop b) rfl (fun _ _=>.inl (by simp)) harr⟩
end Go.Proofs.YtegpkpilfgohhaaGreat
