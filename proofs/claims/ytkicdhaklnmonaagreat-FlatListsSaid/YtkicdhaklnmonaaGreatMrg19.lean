/-
  Merged: XRect, XBothU, XInkKey, XApart0, XApart1, XFlatCheck, XJoin.
-/
import Derived.Shelf.SlicesE.Clone
import Derived.Test.YtkicdhaklnmonaaGreatMrg13
import Derived.Test.YtkicdhaklnmonaaGreatCombine
import Derived.Test.YtkicdhaklnmonaaGreatMrg16
import Derived.Test.YtkicdhaklnmonaaGreatMrg18
import Derived.Test.YtkicdhaklnmonaaGreatMrg14
import Derived.Test.YtkicdhaklnmonaaGreatMrg17
set_option linter.unusedVariables false
set_option linter.unusedSimpArgs false
set_option linter.unnecessarySimpa false
namespace Go.Proofs.YtkicdhaklnmonaaGreat
open Go.RowKit
set_option maxRecDepth 20000
def q6h (x0 x1 y:Int) (n:Nat):List Value:=(List.range n).flatMap fun (i:Nat)=>[.int .i64 (y+i),.int .i64 x0,.int .i64 x1]
theorem x9l (x0 x1 y:Int) (n:Nat):(q6h x0 x1 y n).length=n*3:=by
  unfold q6h
  induction n with
  | zero=>rfl
  | succ n ih=>rw [List.range_succ,List.flatMap_append,List.length_append,ih];simp;omega
theorem x69 (x0 x1 y:Int) (n:Nat):q6h x0 x1 y (n+1)=q6h x0 x1 y n++[.int .i64 (y+n),.int .i64 x0,.int .i64 x1]:=by
  unfold q6h;rw [List.range_succ,List.flatMap_append];simp
def z9s (e:Int) (a:AV):AV:=.tup [a,.val (.int .i64 e)]
theorem z0t (e:Int):Wraps (z9s e):=.pair (.val (.int .i64 e)) (fun _=>rfl) rfl
end Go.Proofs.YtkicdhaklnmonaaGreat
namespace Go.Proofs.YtkicdhaklnmonaaGreat
open Go.RowKit
set_option maxRecDepth 20000
section
variable {A B:Option Addr} {La Lb:List Run} {c d:Nat} {G:Mem}
end
end Go.Proofs.YtkicdhaklnmonaaGreat
namespace Go.Proofs.YtkicdhaklnmonaaGreat
open Go.RowKit
set_option maxRecDepth 20000
theorem q2i:KeyT Tryz.prog 33 8 .u8:=⟨⟨5,by kernel_rfl,by kernel_rfl,(Tryz.prog.info? 5).get (by kernel_rfl),by kernel_rfl,by kernel_rfl⟩,by kernel_rfl⟩
theorem q2y:Tryz.prog.underlying 100=some (.map 33 3):=by kernel_rfl
theorem q31 (w:World):(zeroValue 3).run Tryz.prog w=.ok (.int .i64 0) w:=by kernel_rfl
theorem q2j (I:Nat→Int):q0t (List.replicate 8 (.int .u8)) (inkC I)=true:=by rfl
theorem x2k {w h:Int} {G:Mem}:Gives Tryz.prog 35 [.val (.int .i64 w),.val (.int .i64 h)] G (.val (.bool (decide ((1≤w∧w≤256)∧(1≤h∧h≤256))))):=by
  refine q01 tab_ok Tryz.func35 ?_
  by_cases h1:1≤w
  · by_cases h2:w≤256
    · by_cases h3:1≤h
      · by_cases h4:h≤256
        · rw [decide_eq_true (show (1≤w∧w≤256)∧(1≤h∧h≤256) from ⟨⟨h1,h2⟩,h3,h4⟩)]
          (repeat ((try (conv=>whnf));(refine stQ ?_)))
          exact ⟨by simp [h4],rfl⟩
        · rw [decide_eq_false (by omega)]
          (repeat ((try (conv=>whnf));(refine stQ ?_)))
          exact ⟨by simp [h4],rfl⟩
      · rw [decide_eq_false (by omega)]
        (repeat ((try (conv=>whnf));(refine stQ ?_)))
        exact ⟨rfl,rfl⟩
    · rw [decide_eq_false (by omega)]
      (repeat ((try (conv=>whnf));(refine stQ ?_)))
      exact ⟨rfl,rfl⟩
  · rw [decide_eq_false (by omega)]
    (repeat ((try (conv=>whnf));(refine stQ ?_)))
    exact ⟨rfl,rfl⟩
end Go.Proofs.YtkicdhaklnmonaaGreat
namespace Go.Proofs.YtkicdhaklnmonaaGreat
open Go.RowKit
set_option maxRecDepth 20000
def encQ (e:Run × Int):List Value:=[.int .i64 e.1.y,.int .i64 e.1.x0,.int .i64 e.1.x1,.int .i64 e.2]
def allP (p:Nat→PcD):Nat→List (Run × Int)
  | 0=>[]
  | i+1=>allP p i++(p i).L.map fun r=>(r,(i:Int))
theorem mem_allP {p:Nat→PcD} {r:Run} {k:Int}:∀ {n:Nat},(r,k)∈allP p n↔∃ i,i<n∧k=(i:Int)∧r∈(p i).L
  | 0=>by simp [allP]
  | n+1=>by
    simp only [allP,List.mem_append,mem_allP (n:=n),List.mem_map,Prod.mk.injEq]
    constructor
    · rintro (⟨i,h1,h2,h3⟩ |⟨s,h1,rfl,rfl⟩)
      · exact ⟨i,by omega,h2,h3⟩
      · exact ⟨n,by omega,rfl,h1⟩
    · rintro ⟨i,h1,h2,h3⟩
      by_cases e:i=n
      · subst e;exact .inr ⟨r,h3,rfl,h2.symm⟩
      · exact .inl ⟨i,by omega,h2,h3⟩
theorem z4z {p:Nat→PcD} {m:Nat}:∀ {n:Nat},(∀ i,i<n→(p i).L.length≤m)→(allP p n).length≤n*m
  | 0,_=>by simp [allP]
  | n+1,h=>by
    have h1:=z4z (n:=n) fun i hi=>h i (by omega)
    have h2:=h n (by omega)
    simp only [allP,List.length_append,List.length_map,Nat.add_mul];omega
theorem v0h:∀ (L:List (Run × Int)),(∀ e∈L,(-100000≤e.1.y∧e.1.y≤100000)∧(-100000≤e.1.x0∧e.1.x0≤100000)∧(0≤e.2∧e.2≤100000))→∃ l:List Ow,l.map (fun o=>(o.r,o.p))=L
  | [],_=>⟨[],rfl⟩
  | e::L,h=>by
    obtain ⟨l,hl⟩:=v0h L fun s hs=>h s (by simp [hs])
    have:=h e (by simp)
    exact ⟨⟨e.1,e.2,this.1,this.2.1,this.2.2⟩::l,by simp [hl]⟩
theorem v2e (l:List Ow):(l.map fun o=>(o.r,o.p)).flatMap encQ=l.flatMap encO:=by rw [List.flatMap_map];rfl
theorem x3y {p:Nat→PcD}:∀ {n:Nat},(∀ i,i<n→ValidL (p i).L)→(allP p n).Pairwise fun a b=>a.2=b.2→¬ q71 a.1 b.1
  | 0,_=>by simp [allP]
  | n+1,h=>by
    rw [allP,List.pairwise_append]
    refine ⟨x3y fun i hi=>h i (by omega),?_,?_⟩
    · rw [List.pairwise_map]
      refine List.pairwise_iff_getElem.2 fun i j hi hj hij _ hm=>?_
      have:=q9m (h n (by omega)).ok hij (List.getElem?_eq_getElem hi) (List.getElem?_eq_getElem hj)
      obtain ⟨h1,x,h2,h3⟩:=hm
      dsimp only at h1 h2 h3
      omega
    · rintro ⟨r,k⟩ hr ⟨s,j⟩ hs e
      obtain ⟨i,h1,h2,_⟩:=mem_allP.1 hr
      simp only [List.mem_map,Prod.mk.injEq] at hs
      obtain ⟨_,_,_,h3⟩:=hs
      simp only at e;omega
/-! ### The marks -/
def marks (T:List Bool) (q:Int) (l:List Ow):List Bool:=l.foldl (fun T x=>T.set (max x.p q).toNat true) T
theorem z6d (T:List Bool) (q:Int) (l:List Ow) (x:Ow):marks T q (l++[x])=(marks T q l).set (max x.p q).toNat true:=by simp [marks]
theorem z21 (T:List Bool) (q:Int) (l:List Ow):(marks T q l).length=T.length:=by
  unfold marks
  induction l generalizing T with
  | nil=>rfl
  | cons a l ih=>simp [ih]
theorem z8z {q:Int} {i:Nat}:∀ {l:List Ow} {T:List Bool},i<T.length→((marks T q l)[i]? = some true↔T[i]? = some true∨∃ a∈l,(max a.p q).toNat=i)
  | [],T,hi=>by simp [marks]
  | a::l,T,hi=>by
    have:=z8z (q:=q) (i:=i) (l:=l) (T:=T.set (max a.p q).toNat true) (by simpa using hi)
    have e:marks T q (a::l)=marks (T.set (max a.p q).toNat true) q l:=rfl
    rw [e,this,List.getElem?_set]
    by_cases h:(max a.p q).toNat=i
    · simp [h,hi]
    · simp [h]
def tAll (n:Nat) (S:List Ow):Nat→List Bool
  | 0=>List.replicate n false
  | b+1=>match S[b]? with
    | some q=>marks (tAll n S b) q.p (q1k S b)
    | none=>tAll n S b
theorem q7t (n:Nat) (S:List Ow):∀ b,(tAll n S b).length=n
  | 0=>by simp [tAll]
  | b+1=>by
    unfold tAll
    split
    · rw [z21,q7t n S b]
    · exact q7t n S b
theorem x1h {n:Nat} {S:List Ow} {i:Nat} (hi:i<n):∀ {b:Nat},b≤S.length→((tAll n S b)[i]? = some true↔∃ c q a,c<b∧S[c]? = some q∧a∈q1k S c∧max a.p q.p=(i:Int))
  | 0,_=>by simp [tAll,List.getElem?_replicate,hi]
  | b+1,hb=>by
    have hbl:b<S.length:=by omega
    obtain ⟨q,hq⟩:∃ q,S[b]? = some q:=⟨_,List.getElem?_eq_getElem hbl⟩
    have ih:=x1h (S:=S) hi (b:=b) (by omega)
    have e:tAll n S (b+1)=marks (tAll n S b) q.p (q1k S b):=by simp [tAll,hq]
    rw [e,z8z (by rw [q7t];exact hi),ih]
    have hmx:∀ a:Ow,(max a.p q.p).toNat=i↔max a.p q.p=(i:Int):=fun a=>by
      have:=a.hp;omega
    constructor
    · rintro (⟨c,q',a,h1,h2⟩ |⟨a,h1,h2⟩)
      · exact ⟨c,q',a,by omega,h2⟩
      · exact ⟨b,q,a,by omega,hq,h1,(hmx a).1 h2⟩
    · rintro ⟨c,q',a,h1,h2,h3,h4⟩
      by_cases e:c=b
      · subst e;rw [hq] at h2;cases h2
        exact .inr ⟨a,h3,(hmx a).2 h4⟩
      · exact .inl ⟨c,q',a,by omega,h2,h3,h4⟩
theorem x9m {n:Nat} {p:Nat→PcD} {l S:List Ow} (hl:l.map (fun o=>(o.r,o.p))=allP p n) (hp:S.Perm l) (hs:S.Pairwise leO) (hv:∀ i,i<n→ValidL (p i).L) {i:Nat} (hi:i<n) :
    (tAll n S S.length)[i]? = some true↔∃ k,k<i∧z3y (p k).L (p i).L:=by
  have hmem:∀ {a:Ow},a∈l↔(a.r,a.p)∈allP p n:=fun {a}=>by
    rw [← hl,List.mem_map]
    constructor
    · intro h;exact ⟨a,h,rfl⟩
    · rintro ⟨b,h1,h2⟩
      have:b=a:=by
        cases a;cases b;simp only [Prod.mk.injEq] at h2;obtain ⟨rfl,rfl⟩:=h2;rfl
      rwa [← this]
  have hpw:l.Pairwise fun a b=>a.p=b.p→¬ q71 a.r b.r:=by
    have:=x3y hv
    rw [← hl,List.pairwise_map] at this
    exact this
  have hlt:∀ a∈l,a.r.x0<a.r.x1:=fun a ha=>by
    obtain ⟨k,h1,_,h2⟩:=mem_allP.1 (hmem.1 ha)
    have:=(hv k h1).bd h2;omega
  rw [x1h hi (Nat.le_refl _)]
  have h0:=v2t hp hs hlt hpw (i:Int)
  have e1:(∃ c q a,c<S.length∧S[c]? = some q∧a∈q1k S c∧max a.p q.p=(i:Int))↔∃ c q a,S[c]? = some q∧a∈q1k S c∧max a.p q.p=(i:Int) :=
    ⟨fun ⟨c,q,a,_,h⟩=>⟨c,q,a,h⟩,fun ⟨c,q,a,h⟩=>⟨c,q,a,(List.getElem?_eq_some_iff.1 h.1).1,h⟩⟩
  rw [e1,h0]
  constructor
  · rintro ⟨a,ha,b,hb,h1,h2,hm⟩
    obtain ⟨k,k1,k2,k3⟩:=mem_allP.1 (hmem.1 ha)
    obtain ⟨j,j1,j2,j3⟩:=mem_allP.1 (hmem.1 hb)
    have:j=i:=by omega
    subst this
    obtain ⟨h4,x,h5,h6⟩:=hm
    exact ⟨k,by omega,x,a.r.y,⟨a.r,k3,rfl,h5⟩,⟨b.r,j3,h4.symm,h6⟩⟩
  · rintro ⟨k,hk,x,y,⟨r,hr,r1,r2⟩,⟨s,hs',s1,s2⟩⟩
    have g1:(r,(k:Int))∈allP p n:=mem_allP.2 ⟨k,by omega,rfl,hr⟩
    have g2:(s,(i:Int))∈allP p n:=mem_allP.2 ⟨i,hi,rfl,hs'⟩
    rw [← hl,List.mem_map] at g1 g2
    obtain ⟨a,a1,a2⟩:=g1
    obtain ⟨b,b1,b2⟩:=g2
    simp only [Prod.mk.injEq] at a2 b2
    refine ⟨a,a1,b,b1,by omega,by omega,?_,x,?_,?_⟩
    · rw [a2.1,b2.1,r1,s1]
    · rw [a2.1];exact r2
    · rw [b2.1];exact s2
/-! ### The vectors that were seen -/
def z0e (p:Nat→PcD):Nat→List (List Value × Value)
  | 0=>[]
  | i+1=>z0e p i++[(inkC (p i).I,.int .i64 i)]
theorem eq_ink {I J:Nat→Int}:q1a (inkC I) (inkC J)=true↔q3q I J:=by
  simp [inkC,q1a,q3q,and_assoc]
theorem z6e {k:List Value}:∀ {l m:List (List Value × Value)},atV? k (l++m)=(atV? k l).or (atV? k m)
  | [],m=>by simp [atV?]
  | (j,v)::l,m=>by
    simp only [List.cons_append,atV?]
    split
    · simp
    · exact z6e
theorem seen_none {p:Nat→PcD} {I:Nat→Int}:∀ {i:Nat},atV? (inkC I) (z0e p i)=none↔∀ k,k<i→¬ q3q I (p k).I
  | 0=>by simp [z0e,atV?]
  | i+1=>by
    rw [z0e,z6e,Option.or_eq_none_iff,seen_none (i:=i)]
    simp only [atV?]
    constructor
    · rintro ⟨h1,h2⟩ k hk hs
      by_cases e:k=i
      · subst e
        rw [if_pos (eq_ink.2 hs)] at h2;cases h2
      · exact h1 k (by omega) hs
    · intro h
      refine ⟨fun k hk=>h k (by omega),?_⟩
      rw [if_neg (fun e=>h i (by omega) (eq_ink.1 e))]
theorem z6f {I J:Nat→Int} (h:q3q I J):q3q J I:=by unfold q3q at *;omega
theorem z22 (S:List Ow) (b:Nat):(q1k S b).length≤b:=by
  unfold q1k
  split
  · exact Nat.le_trans (List.length_filter_le _ _) (List.length_take_le _ _)
  · exact Nat.zero_le _
theorem z10 {S:List Ow} {b:Nat} {q:Ow} (hq:S[b]? = some q):q6m S (b+1)=q1k S b++[q]:=by simp [q6m,hq]
theorem x7a (S:List Ow) (b:Nat):(q6m S b).length≤b:=by
  cases b with
  | zero=>simp [q6m]
  | succ b =>
    have:=z22 S b
    cases hq:S[b]? with
    | none=>simp [q6m,hq]
    | some q=>rw [z10 hq];simp only [List.length_append,List.length_cons,List.length_nil];omega
theorem z80 {S:List Ow} {b:Nat} {q:Ow} (hq:S[b]? = some q):rowS S (b+1)=q.r.y:=by simp [rowS,hq]
theorem z81 {n:Nat} {S:List Ow} {b:Nat} {q:Ow} (hq:S[b]? = some q):tAll n S (b+1)=marks (tAll n S b) q.p (q1k S b):=by simp [tAll,hq]
theorem z13 {l:List Ow} {xs:List Value} {m o j:Nat} (hx:xs.take (m*4)=l.flatMap encO) {x:Ow} (h:l[j]? = some x) (ho:o=j*4) {K:List Value→Prop} (k:K [.int .i64 x.r.y,.int .i64 x.r.x0,.int .i64 x.r.x1,.int .i64 x.p]):OwnCells xs o 4 K :=
  q08 _ rfl (fun i v hj=>by
    have hj4:i<4:=(List.getElem?_eq_some_iff.1 hj).1
    have h1:=x1g h i hj4
    rw [← hx,List.getElem?_take] at h1
    subst ho
    split at h1
    · rw [h1];exact hj
    · have:(encO x)[i]? = some v:=hj
      rw [← h1] at this;cases this) k
theorem z82 (T:List Bool) (o:Nat) (ho:o<T.length):(T.map Value.bool).take o++[Value.bool true]++(T.map Value.bool).drop (o+1)=(T.set o true).map Value.bool:=by
  rw [List.map_set,List.set_eq_take_append_cons_drop,if_pos (by simpa using ho)]
  simp
theorem x7b (n:Nat):(List.replicate n [Value.bool false]).flatten=(List.replicate n false).map Value.bool:=by
  induction n with
  | zero=>rfl
  | succ n ih=>rw [List.replicate_succ,List.flatten_cons,ih,List.replicate_succ];rfl
theorem z83 {S:List Ow} {b:Nat} {x:Ow} (h:x∈q1k S b):x∈S:=by
  unfold q1k at h
  split at h
  · exact List.mem_of_mem_take (List.mem_filter.1 h).1
  · cases h
theorem q80 {L:List Run} (h:L.length≠0) {G:Mem} {A:Option Addr} (hR:RunsM G A L):∃ a:Addr,A=some a∧∀ K:List Value→Prop,K [.int .i64 (q1c L).y,.int .i64 (q1c L).x0,.int .i64 (q1c L).x1]→OldCells G (a.add (0*3)) 3 K:=by
  have h0:L[0]? = some (q1c L):=by
    unfold q1c nthR
    rw [List.getElem?_eq_getElem (show 0<L.length by omega)];rfl
  exact hR.cells h0
end Go.Proofs.YtkicdhaklnmonaaGreat
namespace Go.Proofs.YtkicdhaklnmonaaGreat
open Go.RowKit Go.Shelf Go.Lib Go.Sort
set_option maxRecDepth 20000
theorem x1i (r s:Run) (G:Mem) (b:Bool) (hb:b=true↔(r.y<s.y∨(r.y=s.y∧r.x0<s.x0))):Gives Tryz.prog 70 [.agg [.val (.int .i64 r.y),.val (.int .i64 r.x0),.val (.int .i64 r.x1)],.agg [.val (.int .i64 s.y),.val (.int .i64 s.x0),.val (.int .i64 s.x1)]] G (.val (.bool b)):=by
  refine q01 tab_ok Tryz.func70 ?_
  by_cases h1:r.y<s.y
  · obtain rfl:b=true:=by rw [hb];exact .inl h1
    (repeat ((try (conv=>whnf));(refine stQ ?_)))
    exact ⟨rfl,rfl⟩
  · by_cases h2:r.y=s.y
    · by_cases h3:r.x0<s.x0
      · obtain rfl:b=true:=by rw [hb];exact .inr ⟨h2,h3⟩
        (repeat ((try (conv=>whnf));(refine stQ ?_)))
        exact ⟨by simp [h3],rfl⟩
      · obtain rfl:b=false:=by rw [← Bool.not_eq_true,hb];omega
        (repeat ((try (conv=>whnf));(refine stQ ?_)))
        exact ⟨by simp [h3],rfl⟩
    · obtain rfl:b=false:=by rw [← Bool.not_eq_true,hb];omega
      (repeat ((try (conv=>whnf));(refine stQ ?_)))
      exact ⟨rfl,rfl⟩
abbrev pcA (p:PcD):List AV:=[.val (.slice p.A p.L.length p.q),.val (.int .u8 (p.I 0)),.val (.int .u8 (p.I 1)),.val (.int .u8 (p.I 2)),.val (.int .u8 (p.I 3)),.val (.int .u8 (p.I 4)),.val (.int .u8 (p.I 5)),.val (.int .u8 (p.I 6)),.val (.int .u8 (p.I 7))]
section
variable {A:Option Addr} {n c:Nat} {p:Nat→PcD} {G:Mem}
set_option maxHeartbeats 4000000 in
theorem x2l (h:PcsM G A n p) (hn:n≤5000) (hv:∀ i,i<n→ValidL (p i).L) (hne:∀ i,i<n→(p i).L.length≠0):Gives Tryz.prog 49 [.val (.slice A n c)] G (.val (.int .i64 (q1w (apE p) n))):=by
  refine x67 tab_ok Tryz.func49 ?_
  conv=>whnf
  (repeat ((try (conv=>whnf));(refine stQ ?_)))
  conv=>whnf
  refine q0w tab_ok (fun i=>i≤n) (fun (i:Nat)=>[(22,.val (.int .i64 i)),(3,.own 1)]) (fun i=>[.muts (fun _=>False),.own 125 4 (allP p i).length ((allP p i).flatMap encQ)]) (fun i=>n-i) 0 (Nat.zero_le _) ?_ ?_
  · refine q3z 125 4 ?_
    conv=>whnf
    ((refine q0g ?_);(conv=>whnf);(refine q0k (by rfl) (by rfl) flQ ?_))
    exact q0y (fun _ h=>h) (q0c rfl rfl q0f)
  · rintro i hi
    rcases Nat.lt_or_ge i n with h1 |h1
    · obtain ⟨a,rfl,ca⟩:=h.cells h1
      have hR:=h.runs i h1
      have hroom:=h.room i h1
      have hlen:=(hv i h1).length
      have hall:(allP p i).length≤i*268451840:=z4z fun k hk=>(hv k (by omega)).length
      (repeat ((try (conv=>whnf));(first |(refine ca _ ?_) |(refine stQ ?_))))
      conv=>whnf
      refine q0w tab_ok (fun k=>k≤(p i).L.length) (fun (k:Nat)=>[(30,.val (.int .i64 k)),(3,.own 1)]) (fun k=>[.muts (fun _=>False),.own 125 4 (allP p i++((p i).L.take k).map fun r=>(r,(i:Int))).length ((allP p i++((p i).L.take k).map fun r=>(r,(i:Int))).flatMap encQ),.cells 35 (pcA (p i))]) (fun k=>(p i).L.length-k) 0 (Nat.zero_le _) ?_ ?_
      · ((refine q0g ?_);(conv=>whnf);(refine q0k (by rfl) (by rfl) flQ ?_))
        exact q0y (fun _ h=>h) (q0c (by simp) (by simp) (q0a (by exact flQ) q0f))
      · rintro k hk
        rcases Nat.lt_or_ge k (p i).L.length with h2 |h2
        · obtain ⟨r,hr⟩:∃ r,(p i).L[k]? = some r:=⟨_,List.getElem?_eq_getElem h2⟩
          obtain ⟨b,hb,cb⟩:=hR.cells hr
          have htk:(p i).L.take (k+1)=(p i).L.take k++[r]:=by rw [List.take_add_one,hr];rfl
          have hlk:(allP p i++((p i).L.take k).map fun r=>(r,(i:Int))).length=(allP p i).length+k:=by simp;omega
          rw [hb]
          (repeat ((try (conv=>whnf));(first |(refine cb _ ?_) |(refine stQ ?_))))
          conv=>whnf
          refine ⟨k+1,by omega,by omega,?_⟩
          refine q1y 5 1 rfl rfl rfl rfl ?_
          conv=>whnf
          ((refine q0g ?_);(conv=>whnf);(refine q0k (by rfl) (by rfl) flQ ?_))
          exact q0y (fun _ h=>h) (q0c (by simp;omega) (by rw [htk];simp [encQ]) (q0a (by exact flQ) q0f))
        · obtain rfl:k=(p i).L.length:=by omega
          (repeat ((try (conv=>whnf));(refine stQ ?_)))
          conv=>whnf
          refine ⟨i+1,by omega,by omega,?_⟩
          ((refine q0g ?_);(conv=>whnf);(refine q0k (by rfl) (by rfl) flQ ?_))
          exact q0y (fun _ h=>h) (q0c (by simp [allP]) (by simp [allP]) q0f)
    · obtain rfl:i=n:=by omega
      clear hi
      have hall:(allP p i).length≤i*268451840:=z4z fun k hk=>(hv k (by omega)).length
      obtain ⟨l,hl⟩:∃ l:List Ow,l.map (fun o=>(o.r,o.p))=allP p i:=v0h _ fun e he=>by
        obtain ⟨k,h2,h3,h4⟩:=mem_allP.1 (show (e.1,e.2)∈allP p i from he)
        have:=(hv k (by omega)).bd h4
        omega
      have hll:(allP p i).length=l.length:=by rw [← hl];simp
      have hend:=fun {S:List Ow} (hp:S.Perm l) (hs:S.Pairwise leO) {j:Nat} (hj:j<i)=>x9m hl hp hs hv hj
      have hfl:(allP p i).flatMap encQ=l.flatMap encO:=by rw [← hl];exact v2e l
      have hpl:∀ o∈l,o.p<i:=fun o ho=>by
        have h1:(o.r,o.p)∈allP p i:=by rw [← hl];exact List.mem_map.2 ⟨o,ho,rfl⟩
        obtain ⟨k,h2,h3,h4⟩:=mem_allP.1 h1
        omega
      rw [hll,hfl]
      rw [hll] at hall
      clear hll hfl hl
      (repeat ((try (conv=>whnf));(refine stQ ?_)))
      conv=>whnf
      refine z4h Tryz.sortOwned rfl (fun vs w=>by kernel_rfl) Tryz.isAgg125 Tryz.sizeOf125 q4n (fun x v hv=>by simp [encO] at hv;rcases hv with rfl |rfl |rfl |rfl <;> rfl) x9i (fun vs w=>by kernel_rfl) x64 (by exact rfl) (by omega) fun S hp hs=>?_
      have hs':S.Pairwise leO:=hs.imp fun h=>lt_cmpO.1 h
      have hSl:=hp.length_eq
      have hpS:∀ o∈S,o.p<i:=fun o ho=>hpl o (hp.mem_iff.1 ho)
      (repeat ((try (conv=>whnf));(refine stQ ?_)))
      conv=>whnf
      refine q0w tab_ok (fun b=>b≤S.length) (fun (b:Nat)=>[(49,.val (.int .i64 b)),(9,.val (.int .i64 (rowS S b))),(10,.own 3)]) (fun b=>[.muts (fun _=>False),.own 125 4 S.length (S.flatMap encO),.own 4 1 i ((tAll i S b).map .bool),.own 125 4 (q6m S b).length ((q6m S b).flatMap encO)]) (fun b=>S.length-b) 0 (Nat.zero_le _) ?_ ?_
      · refine q3z 125 4 ?_
        conv=>whnf
        ((refine q0g ?_);(conv=>whnf);(refine q0k (by rfl) (by rfl) flQ ?_))
        refine q0y (fun _ h=>h) (q0c rfl rfl (q0c rfl ?_ (q0c rfl rfl q0f)))
        exact x7b i
      · rintro b hb
        rcases Nat.lt_or_ge b S.length with h1 |h1
        · obtain ⟨q,hq⟩:∃ q,S[b]? = some q:=⟨_,List.getElem?_eq_getElem h1⟩
          have hst:=x4z hs' hq
          by_cases hy:q.r.y=rowS S b
          · rw [if_neg (by simp [hy])] at hst
            have hlive:(q6m S b).length≤4000000000000:=by have:=x7a S b;omega
            (repeat ((try (conv=>whnf));(first |(refine q7s hq ?_) |(refine stQ ?_))))
            conv=>whnf
            refine x2j (fun vs w=>by kernel_rfl) rfl ?_
            conv=>whnf
            refine z8x hlive fun xs hx1 hx2=>?_
            rw [hst] at hx2 ⊢
            have hlb:=z22 S b
            have hlx:=hx1
            (repeat ((try (conv=>whnf));(refine stQ ?_)))
            conv=>whnf
            refine q0w tab_ok (fun j=>j≤(q1k S b).length) (fun (j:Nat)=>[(68,.val (.int .i64 j))]) (fun j=>[.muts (fun _=>False),.own 125 4 S.length (S.flatMap encO),.own 4 1 i ((marks (tAll i S b) q.p ((q1k S b).take j)).map .bool),.gone,.cells 125 [.val (.int .i64 q.r.y),.val (.int .i64 q.r.x0),.val (.int .i64 q.r.x1),.val (.int .i64 q.p)],.own 125 4 (q6m S b).length xs]) (fun j=>(q1k S b).length-j) 0 (Nat.zero_le _) ?_ ?_
            · ((refine q0g ?_);(conv=>whnf);(refine q0k (by rfl) (by rfl) flQ ?_))
              exact q0y (fun _ h=>h) (q0c rfl rfl (q0c rfl rfl (q0j (q0a (by exact flQ) (q0c rfl rfl q0f)))))
            · rintro j hj
              rcases Nat.lt_or_ge j (q1k S b).length with h2 |h2
              · obtain ⟨x,hx⟩:∃ x,(q1k S b)[j]? = some x:=⟨_,List.getElem?_eq_getElem h2⟩
                have hxp:=x.hp
                have hqp:=q.hp
                have hxi:max x.p q.p<i:=by
                  have g1:=hpS x (z83 (List.mem_of_getElem? hx))
                  have g2:=hpS q (List.mem_of_getElem? hq)
                  omega
                have htk:(q1k S b).take (j+1)=(q1k S b).take j++[x]:=by rw [List.take_add_one,hx];rfl
                (repeat ((try (conv=>whnf));(first |(refine z13 hx2 hx (by simp) ?_) |(refine stQ ?_))))
                conv=>whnf
                have hT:(marks (tAll i S b) q.p ((q1k S b).take j)).length=i:=by rw [z21,q7t]
                refine ⟨by rw [List.length_map,hT];show (max x.p q.p).toNat * 1+1≤i;omega,?_⟩
                (repeat ((try (conv=>whnf));(refine stQ ?_)))
                conv=>whnf
                refine ⟨j+1,by omega,by omega,?_⟩
                ((refine q0g ?_);(conv=>whnf);(refine q0k (by rfl) (by rfl) flQ ?_))
                refine q0y (fun _ h=>h) (q0c rfl rfl (q0c rfl ?_ (q0j (q0a (by exact flQ) (q0c rfl rfl q0f)))))
                rw [htk,z6d,← z82 _ _ (by rw [hT];omega)]
                show List.take ((max x.p q.p).toNat * 1) _++_++List.drop ((max x.p q.p).toNat * 1+1) _=_
                rw [Nat.mul_one]
              · obtain rfl:j=(q1k S b).length:=by omega
                rw [List.take_length]
                (repeat ((try (conv=>whnf));(refine stQ ?_)))
                conv=>whnf
                refine ⟨⟨rfl,by rw [← hst];exact List.length_filter_le _ _,by show ((q1k S b).length+1)*32≤_;omega⟩,?_⟩
                (repeat ((try (conv=>whnf));(refine stQ ?_)))
                conv=>whnf
                refine ⟨b+1,by omega,by omega,?_⟩
                rw [z80 hq,z10 hq,z81 hq]
                refine q1y 7 3 rfl rfl rfl rfl ?_
                conv=>whnf
                ((refine q0g ?_);(conv=>whnf);(refine q0k (by rfl) (by rfl) flQ ?_))
                exact q0y (fun _ h=>h) (q0c rfl rfl (q0c rfl rfl (q0c (by simp) (by rw [hx2];simp [encO]) q0f)))
          · rw [if_pos (by simpa using hy)] at hst
            (repeat ((try (conv=>whnf));(first |(refine q7s hq ?_) |(refine stQ ?_))))
            conv=>whnf
            refine x40 (fun vs w=>by kernel_rfl) rfl (Nat.zero_le _) ?_
            conv=>whnf
            refine z8x (l:=[]) (by simp) fun xs hx1 hx2=>?_
            rw [hst] at hx2 ⊢
            have hlb:=z22 S b
            have hlx:=hx1
            (repeat ((try (conv=>whnf));(refine stQ ?_)))
            conv=>whnf
            refine q0w tab_ok (fun j=>j≤(q1k S b).length) (fun (j:Nat)=>[(68,.val (.int .i64 j))]) (fun j=>[.muts (fun _=>False),.own 125 4 S.length (S.flatMap encO),.own 4 1 i ((marks (tAll i S b) q.p ((q1k S b).take j)).map .bool),.gone,.cells 125 [.val (.int .i64 q.r.y),.val (.int .i64 q.r.x0),.val (.int .i64 q.r.x1),.val (.int .i64 q.p)],.own 125 4 ([]:List Ow).length xs]) (fun j=>(q1k S b).length-j) 0 (Nat.zero_le _) ?_ ?_
            · ((refine q0g ?_);(conv=>whnf);(refine q0k (by rfl) (by rfl) flQ ?_))
              exact q0y (fun _ h=>h) (q0c rfl rfl (q0c rfl rfl (q0j (q0a (by exact flQ) (q0c rfl rfl q0f)))))
            · rintro j hj
              rcases Nat.lt_or_ge j (q1k S b).length with h2 |h2
              · obtain ⟨x,hx⟩:∃ x,(q1k S b)[j]? = some x:=⟨_,List.getElem?_eq_getElem h2⟩
                have hxp:=x.hp
                have hqp:=q.hp
                have hxi:max x.p q.p<i:=by
                  have g1:=hpS x (z83 (List.mem_of_getElem? hx))
                  have g2:=hpS q (List.mem_of_getElem? hq)
                  omega
                have htk:(q1k S b).take (j+1)=(q1k S b).take j++[x]:=by rw [List.take_add_one,hx];rfl
                (repeat ((try (conv=>whnf));(first |(refine z13 hx2 hx (by simp) ?_) |(refine stQ ?_))))
                conv=>whnf
                have hT:(marks (tAll i S b) q.p ((q1k S b).take j)).length=i:=by rw [z21,q7t]
                refine ⟨by rw [List.length_map,hT];show (max x.p q.p).toNat * 1+1≤i;omega,?_⟩
                (repeat ((try (conv=>whnf));(refine stQ ?_)))
                conv=>whnf
                refine ⟨j+1,by omega,by omega,?_⟩
                ((refine q0g ?_);(conv=>whnf);(refine q0k (by rfl) (by rfl) flQ ?_))
                refine q0y (fun _ h=>h) (q0c rfl rfl (q0c rfl ?_ (q0j (q0a (by exact flQ) (q0c rfl rfl q0f)))))
                rw [htk,z6d,← z82 _ _ (by rw [hT];omega)]
                show List.take ((max x.p q.p).toNat * 1) _++_++List.drop ((max x.p q.p).toNat * 1+1) _=_
                rw [Nat.mul_one]
              · obtain rfl:j=(q1k S b).length:=by omega
                rw [List.take_length]
                (repeat ((try (conv=>whnf));(refine stQ ?_)))
                conv=>whnf
                refine ⟨⟨rfl,by rw [← hst];exact List.length_filter_le _ _,by show ((q1k S b).length+1)*32≤_;omega⟩,?_⟩
                (repeat ((try (conv=>whnf));(refine stQ ?_)))
                conv=>whnf
                refine ⟨b+1,by omega,by omega,?_⟩
                rw [z80 hq,z10 hq,z81 hq]
                refine q1y 7 3 rfl rfl rfl rfl ?_
                conv=>whnf
                ((refine q0g ?_);(conv=>whnf);(refine q0k (by rfl) (by rfl) flQ ?_))
                exact q0y (fun _ h=>h) (q0c rfl rfl (q0c rfl rfl (q0c (by simp) (by rw [hx2];simp [encO]) q0f)))
        · obtain rfl:b=S.length:=by omega
          have hfin:=fun {j:Nat} (hj:j<i)=>hend hp hs' hj
          generalize hTT:tAll i S S.length=T at hfin
          have hTl:T.length=i:=by rw [← hTT];exact q7t i S _
          clear hTT
          (repeat ((try (conv=>whnf));(refine stQ ?_)))
          conv=>whnf
          refine x1f 0 rfl rfl .u8 8 fun bm G1 S1 hbn hSb hSS hG1 hM1=>?_
          conv=>whnf
          (repeat ((try (conv=>whnf));(refine stQ ?_)))
          conv=>whnf
          have hle1:G.le G1:=fun c o hc=>by
            rw [hG1 c (fun e=>by rw [e,hbn] at hc;cases hc)];exact hc
          refine q43 tab_ok (ι:=Nat × Mem) (fun s=>s.1≤i∧q1w (apE p) s.1=0∧G.le s.2∧MapM .u8 8 s.2 bm (z0e p s.1)) (fun s=>match s with |(j,M)=>[(88,.val (.int .i64 j))]) (fun s=>[.muts S1,.gone,.own 4 1 i (T.map .bool),.gone]) (fun s=>s.2) (fun s=>i-s.1) (0,G1) ⟨Nat.zero_le _,rfl,hle1,hM1⟩ ?_ ?_
          · ((refine q0g ?_);(conv=>whnf);(refine q0k (by rfl) (by rfl) flQ ?_))
            exact q0y (fun _ h=>h) (q0j (q0c rfl rfl (q0j q0f)))
          · rintro ⟨j,M⟩ ⟨hj,h0,hle,hM⟩
            dsimp only at hj h0 hle hM ⊢
            have hMp:=h.mono hle
            rcases Nat.lt_or_ge j i with h2 |h2
            · obtain ⟨a,rfl,ca⟩:=hMp.cells h2
              have hfirst:=fun h=>z0a (n:=i) h0 h h2
              by_cases hs1:∃ k,k<j∧q3q (p j).I (p k).I
              · obtain ⟨v,hv⟩:∃ v,atV? (inkC (p j).I) (z0e p j)=some v:=by
                  cases e:atV? (inkC (p j).I) (z0e p j) with
                  | some v=>exact ⟨v,rfl⟩
                  | none =>
                    obtain ⟨k,k1,k2⟩:=hs1
                    exact absurd k2 (seen_none.1 e k k1)
                have htw:twP p j:=by
                  obtain ⟨k,k1,k2⟩:=hs1
                  exact ⟨k,k1,.inl (z6f k2)⟩
                have e7:=z58 htw
                rw [hfirst (by omega),e7]
                (repeat ((try (conv=>whnf));(first |(refine ca _ ?_) |(refine q48 q2y q2i q31 hM (q2j (p j).I) rfl hv ?_) |(refine stQ ?_))))
                conv=>whnf
                exact ⟨rfl,rfl⟩
              · have hn:atV? (inkC (p j).I) (z0e p j)=none:=seen_none.2 fun k hk hs=>hs1 ⟨k,hk,hs⟩
                obtain ⟨t,ht⟩:∃ t,T[j]? = some t:=⟨_,List.getElem?_eq_getElem (by omega)⟩
                have htc:(T.map Value.bool)[j]? = some (.bool t):=by rw [List.getElem?_map,ht];rfl
                have hft:=hfin h2
                rw [ht] at hft
                cases t with
                | true =>
                  have htw:twP p j:=by
                    obtain ⟨k,k1,k2⟩:=hft.1 rfl
                    exact ⟨k,k1,.inr k2⟩
                  have e7:=z58 htw
                  rw [hfirst (by omega),e7]
                  (repeat ((try (conv=>whnf));(first |(refine ca _ ?_) |(refine q8z q2y q2i q31 hM (q2j (p j).I) rfl hn ?_) |(refine q0l (.bool true) (by simpa using htc) ?_) |(refine stQ ?_))))
                  conv=>whnf
                  exact ⟨rfl,rfl⟩
                | false =>
                  have htw:¬ twP p j:=by
                    rintro ⟨k,k1,k2 |k2⟩
                    · exact hs1 ⟨k,k1,z6f k2⟩
                    · have:=hft.2 ⟨k,k1,k2⟩
                      simp at this
                  (repeat ((try (conv=>whnf));(first |(refine ca _ ?_) |(refine q8z q2y q2i q31 hM (q2j (p j).I) rfl hn ?_) |(refine q0l (.bool false) (by simpa using htc) ?_) |(refine stQ ?_))))
                  conv=>whnf
                  refine z4y 0 rfl hSb rfl rfl rfl rfl rfl q2y q2i hM (q2j (p j).I) hn fun G2 hG2 hM2=>?_
                  have hle2:G.le G2:=fun c o hc=>by
                    rw [hG2 c (fun e=>by rw [e,hbn] at hc;cases hc)];exact hle c o hc
                  have hMp2:=h.mono hle2
                  obtain ⟨a1,ha1,c1⟩:=q80 (hne j h2) (hMp2.runs j h2)
                  by_cases hj0:j=0
                  · subst hj0
                    have e0:=z0z htw (fun ho=>by unfold ordP at ho;omega)
                    (repeat ((try (conv=>whnf));(refine stQ ?_)))
                    conv=>whnf
                    refine ⟨(1,G2),⟨by omega,q5h h0 e0,hle2,hM2⟩,by dsimp only;omega,?_⟩
                    ((refine q0g ?_);(conv=>whnf);(refine q0k (by rfl) (by rfl) flQ ?_))
                    exact q0y (fun _ h=>h) (q0j (q0c rfl rfl (q0j q0f)))
                  · obtain ⟨m,rfl⟩:∃ m,j=m+1:=⟨j-1,by omega⟩
                    obtain ⟨a2,ha2,c2⟩:=q80 (hne m (by omega)) (hMp2.runs m (by omega))
                    obtain ⟨a3,ha3,hd⟩:=hMp2.head (show m<i by omega)
                    cases ha3
                    have hix:(((m+1:Nat):Int)-1).toNat=m:=by omega
                    rw [ha2,← hix] at hd
                    have hl1:0<(p (m+1)).L.length:=Nat.pos_of_ne_zero (hne _ h2)
                    have hl2:0<(p m).L.length:=Nat.pos_of_ne_zero (hne _ (by omega))
                    rw [← hix] at hl2
                    have hb:=fun b (h:b=true↔_)=>x1i (q1c (p (m+1)).L) (q1c (p m).L) G2 b h
                    have hod:ordP p (m+1)↔((q1c (p (m+1)).L).y<(q1c (p m).L).y∨((q1c (p (m+1)).L).y=(q1c (p m).L).y∧(q1c (p (m+1)).L).x0<(q1c (p m).L).x0)):=by
                      unfold ordP;rw [Nat.add_sub_cancel];simp
                    rw [ha1]
                    by_cases ho:ordP p (m+1)
                    · have e7:=x3w htw ho
                      have hb1:=hb true (by rw [← hod];simp [ho])
                      have hfst:=hfirst (by omega)
                      rw [e7] at hfst
                      rw [hfst]
                      (repeat ((try (conv=>whnf));(first |(refine c1 _ ?_) |(refine c2 _ ?_) |(refine q0b _ hd ?_) |(refine stQ ?_) |(with_reducible first |refine q0e (fun vs w=>by kernel_rfl) (by kernel_rfl) (hb1) ?_ |refine q0d (fun vs w=>by kernel_rfl) (by kernel_rfl) (hb1) ?_))))
                      conv=>whnf
                      exact ⟨rfl,rfl⟩
                    · have e7:=z0z htw ho
                      have hb1:=hb false (by rw [← hod];simp [ho])
                      (repeat ((try (conv=>whnf));(first |(refine c1 _ ?_) |(refine c2 _ ?_) |(refine q0b _ hd ?_) |(refine stQ ?_) |(with_reducible first |refine q0e (fun vs w=>by kernel_rfl) (by kernel_rfl) (hb1) ?_ |refine q0d (fun vs w=>by kernel_rfl) (by kernel_rfl) (hb1) ?_))))
                      conv=>whnf
                      refine ⟨(m+1+1,G2),⟨by omega,q5h h0 e7,hle2,hM2⟩,by dsimp only;omega,?_⟩
                      ((refine q0g ?_);(conv=>whnf);(refine q0k (by rfl) (by rfl) flQ ?_))
                      exact q0y (fun _ h=>h) (q0j (q0c rfl rfl (q0j q0f)))
            · obtain rfl:j=i:=by omega
              rw [h0]
              (repeat ((try (conv=>whnf));(refine stQ ?_)))
              conv=>whnf
              exact ⟨rfl,rfl⟩
end
end Go.Proofs.YtkicdhaklnmonaaGreat
namespace Go.Proofs.YtkicdhaklnmonaaGreat
open Go.RowKit
set_option maxRecDepth 20000
theorem x1j {w h:Int} {n:Nat} {p:Nat→PcD} (h0:q1w (fun i=>pcE w h (p i)) n=0):∀ i,i<n→ValidL (p i).L∧(p i).L.length≠0∧(∀ r∈(p i).L,¬ outP w h r)∧¬ q3j (p i).I:=fun i hi=>by
  obtain ⟨h1,h2,h3,h4⟩:=x07 (q8y h0 i hi)
  exact ⟨q6z h1,h2,h3,h4⟩
section
variable {A:Option Addr} {n c:Nat} {p:Nat→PcD} {G:Mem} {w h:Int}
set_option maxHeartbeats 4000000 in
theorem q7d (hp:PcsM G A n p) (hm:n≤maxLen):Gives Tryz.prog 27 [.val (.int .i64 w),.val (.int .i64 h),.val (.slice A n c)] G (.val (.int .i64 (pcsE w h n p))):=by
  unfold maxLen at hm
  have gs:=x2k (w:=w) (h:=h) (G:=G)
  refine q01 tab_ok Tryz.func27 ?_
  unfold pcsE
  by_cases hz:(1≤w∧w≤256)∧(1≤h∧h≤256)
  · rw [decide_eq_true hz] at gs
    rw [if_neg (fun h=>h hz)]
    by_cases hn:4096<n
    · rw [if_pos hn]
      (repeat ((try (conv=>whnf));(first |(refine stQ ?_) |(with_reducible first |refine q0e (fun vs w=>by kernel_rfl) (by kernel_rfl) (gs) ?_ |refine q0d (fun vs w=>by kernel_rfl) (by kernel_rfl) (gs) ?_))))
      exact ⟨rfl,rfl⟩
    · rw [if_neg hn]
      have ga:=fun hv hne=>x2l (c:=c) hp (by omega) hv hne
      (repeat ((try (conv=>whnf));(first |(refine stQ ?_) |(with_reducible first |refine q0e (fun vs w=>by kernel_rfl) (by kernel_rfl) (gs) ?_ |refine q0d (fun vs w=>by kernel_rfl) (by kernel_rfl) (gs) ?_))))
      conv=>whnf
      refine q0w tab_ok (fun i=>i≤n∧q1w (fun i=>pcE w h (p i)) i=0) (fun (i:Nat)=>[(21,.val (.int .i64 i))]) (fun i=>[]) (fun i=>n-i) 0 ⟨Nat.zero_le _,rfl⟩ ?_ ?_
      · ((refine q0g ?_);(conv=>whnf);(refine q0k (by rfl) (by rfl) flQ ?_))
        exact q0f
      · rintro i ⟨hi,h0⟩
        rcases Nat.lt_or_ge i n with h1 |h1
        · obtain ⟨a,rfl,ca⟩:=hp.cells h1
          have hR:=hp.runs i h1
          have hroom:=hp.room i h1
          have gc:=Check_gives (c:=(p i).q) hR hroom.1 hroom.2
          have hfirst:pcE w h (p i)≠0→q1w (fun i=>pcE w h (p i)) n=pcE w h (p i):=fun e=>z0a (f:=fun i=>pcE w h (p i)) h0 e h1
          by_cases e1:errL (p i).L=0
          · rw [e1] at gc
            by_cases e2:(p i).L.length=0
            · have e:=x05 (w:=w) (h:=h) e1 e2
              have hf:=hfirst (by omega)
              rw [if_pos (by rw [hf];omega),hf,e]
              (repeat ((try (conv=>whnf));(first |(refine ca _ ?_) |(refine stQ ?_) |(with_reducible first |refine q0e (fun vs w=>by kernel_rfl) (by kernel_rfl) (gc) ?_ |refine q0d (fun vs w=>by kernel_rfl) (by kernel_rfl) (gc) ?_))))
              conv=>whnf
              exact ⟨rfl,rfl⟩
            · have hlen:=(q6z e1).length
              (repeat ((try (conv=>whnf));(first |(refine ca _ ?_) |(refine stQ ?_) |(with_reducible first |refine q0e (fun vs w=>by kernel_rfl) (by kernel_rfl) (gc) ?_ |refine q0d (fun vs w=>by kernel_rfl) (by kernel_rfl) (gc) ?_))))
              conv=>whnf
              refine q0w tab_ok (fun k=>k≤(p i).L.length∧∀ r∈(p i).L.take k,¬ outP w h r) (fun (k:Nat)=>[(38,.val (.int .i64 k))]) (fun k=>[.cells 35 (pcA (p i))]) (fun k=>(p i).L.length-k) 0 ⟨Nat.zero_le _,fun r hr=>by cases hr⟩ ?_ ?_
              · ((refine q0g ?_);(conv=>whnf);(refine q0k (by rfl) (by rfl) flQ ?_))
                exact q0a (by exact flQ) q0f
              · rintro k ⟨hk,hout⟩
                rcases Nat.lt_or_ge k (p i).L.length with h2 |h2
                · obtain ⟨r,hr⟩:∃ r,(p i).L[k]? = some r:=⟨_,List.getElem?_eq_getElem h2⟩
                  obtain ⟨b,hb,cb⟩:=hR.cells hr
                  have hbd:=(q6z e1).bd (List.mem_of_getElem? hr)
                  have htk:(p i).L.take (k+1)=(p i).L.take k++[r]:=by rw [List.take_add_one,hr];rfl
                  rw [hb]
                  have bad:outP w h r→q1w (fun i=>pcE w h (p i)) n=3:=fun ho=>by
                    have e:=x3v (w:=w) (h:=h) e1 e2 ⟨r,List.mem_of_getElem? hr,ho⟩
                    rw [hfirst (by omega),e]
                  by_cases o1:r.y<0
                  · rw [bad (.inl o1),if_pos (by omega)]
                    (repeat ((try (conv=>whnf));(first |(refine cb _ ?_) |(refine stQ ?_))))
                    conv=>whnf
                    exact ⟨rfl,rfl⟩
                  by_cases o2:16*h≤r.y
                  · rw [bad (.inr (.inl o2)),if_pos (by omega)]
                    (repeat ((try (conv=>whnf));(first |(refine cb _ ?_) |(refine stQ ?_))))
                    conv=>whnf
                    exact ⟨rfl,rfl⟩
                  by_cases o3:r.x0<0
                  · rw [bad (.inr (.inr (.inl o3))),if_pos (by omega)]
                    (repeat ((try (conv=>whnf));(first |(refine cb _ ?_) |(refine stQ ?_))))
                    conv=>whnf
                    exact ⟨rfl,rfl⟩
                  by_cases o4:16*w<r.x1
                  · rw [bad (.inr (.inr (.inr o4))),if_pos (by omega)]
                    (repeat ((try (conv=>whnf));(first |(refine cb _ ?_) |(refine stQ ?_))))
                    conv=>whnf
                    exact ⟨rfl,rfl⟩
                  · (repeat ((try (conv=>whnf));(first |(refine cb _ ?_) |(refine stQ ?_))))
                    conv=>whnf
                    refine ⟨k+1,⟨by omega,fun s hs=>?_⟩,by omega,?_⟩
                    · rw [htk,List.mem_append] at hs
                      rcases hs with hs |hs
                      · exact hout s hs
                      · simp at hs;subst hs;unfold outP;omega
                    · ((refine q0g ?_);(conv=>whnf);(refine q0k (by rfl) (by rfl) flQ ?_))
                      exact q0a (by exact flQ) q0f
                · obtain rfl:k=(p i).L.length:=by omega
                  rw [List.take_length] at hout
                  have e3:¬ ∃ r∈(p i).L,outP w h r:=fun ⟨r,h3,h4⟩=>hout r h3 h4
                  by_cases e4:q3j (p i).I
                  · have e:=x06 (w:=w) (h:=h) e1 e2 e3 e4
                    have hf:=hfirst (by omega)
                    rw [if_pos (by rw [hf];omega),hf,e]
                    unfold q3j at e4
                    (repeat ((try (conv=>whnf));(refine stQ ?_)))
                    conv=>whnf
                    exact ⟨rfl,rfl⟩
                  · have e:=z57 (w:=w) (h:=h) e1 e2 e3 e4
                    have hnz:=z0b e4
                    (repeat ((try (conv=>whnf));(first |(with_reducible refine q1l hnz ?_) |(refine stQ ?_))))
                    conv=>whnf
                    refine ⟨i+1,⟨by omega,q5h (f:=fun i=>pcE w h (p i)) h0 e⟩,by omega,?_⟩
                    ((refine q0g ?_);(conv=>whnf);(refine q0k (by rfl) (by rfl) flQ ?_))
                    exact q0f
          · have e:=x3u (w:=w) (h:=h) e1
            have hf:=hfirst (by omega)
            rw [if_pos (by rw [hf,e];exact e1),hf,e]
            (repeat ((try (conv=>whnf));(first |(refine ca _ ?_) |(refine stQ ?_) |(with_reducible first |refine q0e (fun vs w=>by kernel_rfl) (by kernel_rfl) (gc) ?_ |refine q0d (fun vs w=>by kernel_rfl) (by kernel_rfl) (gc) ?_))))
            conv=>whnf
            exact ⟨rfl,rfl⟩
        · obtain rfl:i=n:=by omega
          rw [if_neg (by omega)]
          have ga':=ga (fun k hk=>(x1j h0 k hk).1) (fun k hk=>(x1j h0 k hk).2.1)
          (repeat ((try (conv=>whnf));(first |(refine stQ ?_) |(with_reducible first |refine q0e (fun vs w=>by kernel_rfl) (by kernel_rfl) (ga') ?_ |refine q0d (fun vs w=>by kernel_rfl) (by kernel_rfl) (ga') ?_))))
          conv=>whnf
          exact ⟨rfl,rfl⟩
  · rw [decide_eq_false hz] at gs
    rw [if_pos hz]
    (repeat ((try (conv=>whnf));(first |(refine stQ ?_) |(with_reducible first |refine q0e (fun vs w=>by kernel_rfl) (by kernel_rfl) (gs) ?_ |refine q0d (fun vs w=>by kernel_rfl) (by kernel_rfl) (gs) ?_))))
    exact ⟨rfl,rfl⟩
end
end Go.Proofs.YtkicdhaklnmonaaGreat
namespace Go.Proofs.YtkicdhaklnmonaaGreat
open Go.RowKit Go.Shelf Go.Lib Go.Sort
set_option maxRecDepth 20000
noncomputable def runI:TypeInfo:=(Tryz.prog.info? 78).get (by kernel_rfl)
theorem x2m {A:Option Addr} {L:List Run} {c:Nat} {G:Mem} (h:RowM G A (q0r L)) (hl:L.length≤1000000000000) :
    q5k Tryz.prog 40 [.val (.slice A L.length c)] G id 78 3 L.length (q0r L):=by
  intro w vs hG ha
  simp only [AV.rels,AV.rel] at ha
  obtain ⟨v,ts,hvs,rfl,rfl⟩:=ha
  have e:vs=#[.slice A L.length c]:=Array.toList_inj.1 (by rw [hvs])
  subst e
  rcases h with ⟨rfl,h2⟩ |⟨b,off,rfl,h2⟩
  · have hn:L.length=0:=by have:=q1h L;rw [h2] at this;simp at this;omega
    refine (AnyE.slices_Clone_nil Tryz.cloneRun L.length c w).mono ?_
    rintro e w' ⟨rfl,rfl⟩
    refine ⟨_,.slice none 0 0,rfl,by simp only [id,AV.rel],?_,Below.refl _ _⟩
    rw [h2,hn]
    exact World.ownsRow_nil _ _ _ _
  · refine (AnyE.slices_Clone Tryz.cloneRun runI (.agg #[.int .i64 0,.int .i64 0,.int .i64 0]) 3 24 (by kernel_rfl) (by kernel_rfl) (by kernel_rfl) (by kernel_rfl) rfl (by decide) Tryz.sizeOf78 b off L.length c (q0r L) w (q1h L) (by unfold maxLen;omega) (by omega) (fun j u hj=>?_) z1s).mono ?_
    · exact hG.cell (h2 j u hj)
    · rintro e w' ⟨v',rfl,h3,_,h4⟩
      exact ⟨_,v',rfl,by simp only [id,AV.rel],h3,h4⟩
theorem x3z:∀ (L:List Run),(∀ r∈L,(-1152921504606846976≤r.y∧r.y≤1152921504606846976)∧(-1152921504606846976≤r.x0∧r.x0≤1152921504606846976))→∃ l:List BRun,l.map BRun.r=L
  | [],_=>⟨[],rfl⟩
  | r::L,h=>by
    obtain ⟨l,hl⟩:=x3z L fun s hs=>h s (by simp [hs])
    have:=h r (by simp)
    exact ⟨⟨r,this.1,this.2⟩::l,by simp [hl]⟩
theorem x7c (l:List BRun):l.flatMap encB=q0r (l.map BRun.r):=by
  unfold q0r encB;rw [List.flatMap_map]
theorem lt_cmp {a b:BRun}:ltOf cmpB b a=false↔leR a.r b.r:=by
  unfold ltOf cmpB leR orI
  rw [decide_eq_false_iff_not]
  split <;> omega
theorem v1d:SWO (ltOf cmpB) where
  irrefl x:=by rw [lt_cmp];unfold leR;omega
  trans x y z h1 h2:=by
    rw [← Bool.not_eq_false] at *
    rw [lt_cmp] at *
    unfold leR at *;omega
  ntrans x y z h1 h2:=by rw [lt_cmp] at *;unfold leR at *;omega
set_option maxHeartbeats 4000000 in
theorem x41 {A:Option Addr} {L:List Run} {c:Nat} {G:Mem} (h:RowM G A (q0r L)) (hb:∀ r∈L,(-1152921504606846976≤r.y∧r.y≤1152921504606846976)∧(-1152921504606846976≤r.x0∧r.x0≤1152921504606846976)) (hl:L.length≤1000000000000) :
    q5k Tryz.prog 50 [.val (.slice A L.length c)] G id 78 3 (q97 L).length (q0r (q97 L)):=by
  have hc:=x2m (c:=c) h hl
  obtain ⟨l,rfl⟩:=x3z L hb
  rw [← x7c,List.length_map] at hc
  rw [List.length_map] at hl
  refine q5x tab_ok Tryz.func50 (.alone fun _=>rfl) ?_
  rw [List.length_map]
  (repeat ((try (conv=>whnf));(refine stQ ?_)))
  conv=>whnf
  refine z0p (fun vs w=>by kernel_rfl) (.alone fun _=>rfl) (by kernel_rfl) hc ?_
  (repeat ((try (conv=>whnf));(refine stQ ?_)))
  conv=>whnf
  refine z4h Tryz.sortRun rfl (fun vs w=>by kernel_rfl) Tryz.isAgg78 Tryz.sizeOf78 (fun _=>rfl) (fun x v hv=>by simp [encB] at hv;rcases hv with rfl |rfl |rfl <;> rfl) v1d (fun vs w=>by kernel_rfl) x9g (by exact rfl) (by omega) fun l' hp hs=>?_
  (repeat ((try (conv=>whnf));(refine stQ ?_)))
  conv=>whnf
  have hpl:=hp.length_eq
  refine q50 tab_ok (fun i out=>i≤l'.length∧out=jn [] ((l'.map BRun.r).take i)) (fun (i:Nat) out=>[(12,.val (.int .i64 i))]) (fun i out=>[.own 78 3 l'.length (l'.flatMap encB),.cells 106 [.own 2],.own 78 3 out.length (q0r out)]) (fun i _=>l'.length-i) 0 [] ⟨Nat.zero_le _,rfl⟩ ?_ ?_
  · refine q3z 78 3 ?_
    conv=>whnf
    ((refine q0g ?_);(conv=>whnf);(refine q0k (by rfl) (by rfl) flQ ?_))
    exact q0c rfl rfl (q0a (by exact flQ) (q0c rfl rfl q0f))
  · rintro i out ⟨hi,ho⟩
    rcases Nat.lt_or_ge i l'.length with h1 |h1
    · obtain ⟨q,hq⟩:∃ q,l'[i]? = some q:=⟨l'[i],List.getElem?_eq_getElem h1⟩
      have hqr:(l'.map BRun.r)[i]? = some q.r:=by rw [List.getElem?_map,hq];rfl
      have hst:=v0v hqr
      rw [← ho] at hst
      have hol:out.length≤1000000000000:=by
        have:=x58 ((l'.map BRun.r).take i) []
        rw [← ho,List.length_take,List.length_map] at this
        simp at this;omega
      obtain ⟨c0,c1,c2⟩:=q24 hqr
      rw [← x7c] at c0 c1 c2
      have e3:∀ K:List Value→Prop,K [.int .i64 q.r.y,.int .i64 q.r.x0,.int .i64 q.r.x1]→OwnCells (l'.flatMap encB) ((i:Int).toNat * 3) 3 K:=fun K k=>q08 _ rfl (fun j u hj=>by
        rw [Int.toNat_natCast]
        match j,hj with
        | 0,hj=>simp at hj;subst hj;exact c0
        | 1,hj=>simp at hj;subst hj;exact c1
        | 2,hj=>simp at hj;subst hj;exact c2) k
      have hqy:=q.hy
      have hqx:=q.hx
      generalize hqq:q.r=s at *
      by_cases hx:s.x1≤s.x0
      · rw [q6w hx] at hst
        (repeat ((try (conv=>whnf));(first |(with_reducible refine e3 _ ?_) |(refine stQ ?_) |(with_reducible refine q0i tab_ok Tryz.func73 (fun vs w=>by kernel_rfl) (by rfl) ?_))))
        conv=>whnf
        refine ⟨i+1,out,⟨by omega,hst.symm⟩,by omega,?_⟩
        ((refine q0g ?_);(conv=>whnf);(refine q0k (by rfl) (by rfl) flQ ?_))
        exact q0c rfl rfl (q0a (by exact flQ) (q0c rfl rfl q0f))
      · rcases q36 out with hout |⟨K,r,hout⟩
        · have hlen:out.length=0:=by rw [hout];rfl
          rw [hout,q30 hx] at hst
          (repeat ((try (conv=>whnf));(first |(with_reducible refine e3 _ ?_) |(refine stQ ?_) |(with_reducible refine q0i tab_ok Tryz.func73 (fun vs w=>by kernel_rfl) (by rfl) ?_))))
          conv=>whnf
          refine ⟨i+1,[⟨s.y,s.x0,s.x1⟩],⟨by omega,hst.symm⟩,by omega,?_⟩
          refine q1y 5 2 rfl rfl rfl rfl ?_
          conv=>whnf
          ((refine q0g ?_);(conv=>whnf);(refine q0k (by rfl) (by rfl) flQ ?_))
          exact q0c rfl rfl (q0a (by exact flQ) (q0c (by simp only [hlen];rfl) (by rw [hout];rfl) q0f))
        · have hlen:out.length=K.length+1:=by rw [hout];simp
          have hix:(((out.length:Nat):Int)-1).toNat=K.length:=by omega
          obtain ⟨q0,q1,q2⟩:=z8p K r
          rw [← hout,← hix] at q0 q1 q2
          rw [← Nat.add_zero ((((out.length:Nat):Int)-1).toNat * 3)] at q0
          by_cases hj1:r.y=s.y
          · by_cases hj2:s.x0≤r.x1
            · rw [hout,q2g hx hj1 hj2] at hst
              (repeat ((try (conv=>whnf));(first |(with_reducible refine e3 _ ?_) |(refine q0l (.int .i64 r.y) q0 ?_) |(refine q0l (.int .i64 r.x1) q2 ?_) |(refine stQ ?_) |(with_reducible refine q0i tab_ok Tryz.func73 (fun vs w=>by kernel_rfl) (by rfl) ?_))))
              conv=>whnf
              refine mustP.mk (by rw [hix,q1h,hlen];simp;omega) ?_
              (repeat ((try (conv=>whnf));(first |(with_reducible refine e3 _ ?_) |(refine q0l (.int .i64 r.y) q0 ?_) |(refine q0l (.int .i64 r.x1) q2 ?_) |(refine stQ ?_) |(with_reducible refine q0i tab_ok Tryz.func73 (fun vs w=>by kernel_rfl) (by rfl) ?_))))
              conv=>whnf
              refine ⟨i+1,K++[⟨s.y,r.x0,max r.x1 s.x1⟩],⟨by omega,hst.symm⟩,by omega,?_⟩
              ((refine q0g ?_);(conv=>whnf);(refine q0k (by rfl) (by rfl) flQ ?_))
              exact q0c rfl rfl (q0a (by exact flQ) (q0c (by rw [hlen];simp) (by rw [hix,hout,← hj1];exact x02 K r _) q0f))
            · rw [hout,q3l hx (fun h=>hj2 h.2)] at hst
              (repeat ((try (conv=>whnf));(first |(with_reducible refine e3 _ ?_) |(refine q0l (.int .i64 r.y) q0 ?_) |(refine q0l (.int .i64 r.x1) q2 ?_) |(refine stQ ?_) |(with_reducible refine q0i tab_ok Tryz.func73 (fun vs w=>by kernel_rfl) (by rfl) ?_))))
              conv=>whnf
              refine ⟨i+1,K++[r]++[⟨s.y,s.x0,s.x1⟩],⟨by omega,hst.symm⟩,by omega,?_⟩
              refine q1y 5 2 rfl rfl rfl rfl ?_
              conv=>whnf
              ((refine q0g ?_);(conv=>whnf);(refine q0k (by rfl) (by rfl) flQ ?_))
              exact q0c rfl rfl (q0a (by exact flQ) (q0c (by rw [hlen];simp) (by rw [hout,q1m (K++[r])];rfl) q0f))
          · rw [hout,q3l hx (fun h=>hj1 h.1)] at hst
            (repeat ((try (conv=>whnf));(first |(with_reducible refine e3 _ ?_) |(refine q0l (.int .i64 r.y) q0 ?_) |(refine q0l (.int .i64 r.x1) q2 ?_) |(refine stQ ?_) |(with_reducible refine q0i tab_ok Tryz.func73 (fun vs w=>by kernel_rfl) (by rfl) ?_))))
            conv=>whnf
            refine ⟨i+1,K++[r]++[⟨s.y,s.x0,s.x1⟩],⟨by omega,hst.symm⟩,by omega,?_⟩
            refine q1y 5 2 rfl rfl rfl rfl ?_
            conv=>whnf
            ((refine q0g ?_);(conv=>whnf);(refine q0k (by rfl) (by rfl) flQ ?_))
            exact q0c rfl rfl (q0a (by exact flQ) (q0c (by rw [hlen];simp) (by rw [hout,q1m (K++[r])];rfl) q0f))
    · obtain rfl:i=l'.length:=by omega
      have he:jn [] ((l'.map BRun.r).take l'.length)=q97 (l.map BRun.r):=by
        rw [List.take_of_length_le (by simp)]
        refine v0w (hp.map _) ?_
        rw [List.pairwise_map]
        exact hs.imp fun h=>lt_cmp.1 h
      rw [he] at ho
      subst ho
      (repeat ((try (conv=>whnf));(refine stQ ?_)))
      conv=>whnf
      exact .inl ⟨2,rfl,rfl⟩
end Go.Proofs.YtkicdhaklnmonaaGreat
