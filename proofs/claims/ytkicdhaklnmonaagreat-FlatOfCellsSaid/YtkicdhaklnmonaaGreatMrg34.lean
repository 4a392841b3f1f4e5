/-
  Merged: XMorph, XPaper, XRowsM, XPcsOfW, XSamePcs, XFlats, XCut, XArg2, XPiecesM.
-/
import Derived.Test.YtkicdhaklnmonaaGreatMrg33
import Derived.Test.YtkicdhaklnmonaaGreatErode1
import Derived.Test.YtkicdhaklnmonaaGreatMrg16
import Derived.Test.YtkicdhaklnmonaaGreatMrg19
import Derived.Test.YtkicdhaklnmonaaGreatMrg13
import Derived.Test.YtkicdhaklnmonaaGreatMrg21
import Derived.Test.YtkicdhaklnmonaaGreatMrg27
import Derived.Test.YtkicdhaklnmonaaGreatMrg14
import Derived.Test.YtkicdhaklnmonaaGreatMrg20
import Derived.Test.YtkicdhaklnmonaaGreatMrg17
import Derived.Test.YtkicdhaklnmonaaGreatMrg18
import Derived.Test.YtkicdhaklnmonaaGreatMrg31
import Derived.Test.YtkicdhaklnmonaaGreatPcsList
import Derived.Test.YtkicdhaklnmonaaGreatMrg26
import Derived.Test.YtkicdhaklnmonaaGreatMrg6
set_option linter.unusedVariables false
set_option linter.unusedSimpArgs false
set_option linter.unnecessarySimpa false
namespace Go.Proofs.YtkicdhaklnmonaaGreat
open Go.RowKit
set_option maxRecDepth 20000
section
variable {A:Option Addr} {L:List Run} {c:Nat} {w:Int} {G:Mem}
end
end Go.Proofs.YtkicdhaklnmonaaGreat
namespace Go.Proofs.YtkicdhaklnmonaaGreat
open Go.RowKit
set_option maxRecDepth 20000
theorem z7k {W H:Int} (hW:0<W) (hH:0≤H):okR (q4r 0 W 0 H.toNat)∧∀ x y,hasR (q4r 0 W 0 H.toNat) x y↔(0≤x∧x<W)∧0≤y∧y<H:=by
  constructor
  · generalize H.toNat=n
    induction n with
    | zero=>simp [q4r,okR]
    | succ n ih =>
      have e:q4r 0 W 0 (n+1)=q4r 0 W 0 n++[⟨0+n,0,W⟩]:=by simp [q4r,List.range_succ]
      rw [e,okR_append]
      refine ⟨ih,⟨hW,by simp,trivial⟩,fun r hr s hs=>?_⟩
      simp only [q4r,List.mem_map,List.mem_range] at hr
      obtain ⟨i,hi,rfl⟩:=hr
      simp at hs;subst hs
      left;show (0:Int)+i<_;dsimp only;omega
  · intro x y
    unfold q4r hasR
    constructor
    · rintro ⟨r,hr,h1,h2,h3⟩
      simp only [List.mem_map,List.mem_range] at hr
      obtain ⟨i,hi,rfl⟩:=hr
      dsimp only at h1 h2 h3
      omega
    · rintro ⟨h1,h2⟩
      exact ⟨⟨0+(y.toNat:Int),0,W⟩,List.mem_map.2 ⟨y.toNat,List.mem_range.2 (by omega),rfl⟩,by show 0+(y.toNat:Int)=y;omega,h1.1,h1.2⟩
end Go.Proofs.YtkicdhaklnmonaaGreat
namespace Go.Proofs.YtkicdhaklnmonaaGreat
open Go.RowKit
structure PRowsM (G0:Mem) (E:TypeId) (S:Nat→Prop) (M:Mem) (gs:List Pc) (B:Nat→Value):Prop where
  le:G0.le M
  rows:∀ (k:Nat) (p:Pc),gs[k]? = some p→RowS S M E 3 (B k) p.2.length (q0s p.2)
  apart:∀ k l b,k<gs.length→l<gs.length→k≠l→q0f (B k)=some b→q0f (B l)≠some b
  free:∀ k b,k<gs.length→q0f (B k)=some b→G0 b=none
section
variable {G0:Mem} {E:TypeId} {S S':Nat→Prop} {M M':Mem} {gs:List Pc} {B:Nat→Value} {k:Nat} {v:List Int} {L:List Run} {r:Run}
theorem PRowsM.app (h:PRowsM G0 E S M gs B) (hk:gs[k]? = some (v,L)) {x:Value} (hG:RowG S M (B k) S' M' x) (hR:RowS S' M' E 3 x (L.length+1) (q0s (L++[r]))):PRowsM G0 E S' M' (gs.set k (v,L++[r])) (putV B k x):=by
  have hkl:=(List.getElem?_eq_some_iff.1 hk).1
  have hG0:∀ b,q0f x=some b→G0 b=none:=fun b hb=>by
    by_cases e:q0f (B k)=some b
    · exact h.free k b hkl e
    · exact Mem.le.none h.le (hG.fresh b hb e)
  have hle:G0.le M':=fun b o hb=>hG.old b o (h.le b o hb) fun e=>by
    have:=h.free k b hkl e
    rw [this] at hb;cases hb
  have hne:∀ l,l<gs.length→l≠k→∀ b,q0f (B l)=some b→q0f (B k)≠some b:=fun l hl hlk b hb=>h.apart l k b hl hkl hlk hb
  have hx:∀ l,l<gs.length→l≠k→∀ b,q0f (B l)=some b→q0f x≠some b:=fun l hl hlk b hb e=>by
    by_cases e2:q0f (B k)=some b
    · exact hne l hl hlk b hb e2
    · have hn:=hG.fresh b e e2
      obtain ⟨p,hp⟩:∃ p,gs[l]? = some p:=⟨_,List.getElem?_eq_getElem hl⟩
      obtain ⟨_,o,ho⟩:=(h.rows l p hp).blk hb
      rw [hn] at ho;cases ho
  refine ⟨hle,fun l p hl=>?_,fun i j b hi hj hij hb=>?_,fun i b hi hb=>?_⟩
  · by_cases e:k=l
    · subst e
      rw [List.getElem?_set_self hkl] at hl;cases hl
      rw [q1f]
      simpa using hR
    · rw [List.getElem?_set_ne e] at hl
      have hll:=(List.getElem?_eq_some_iff.1 hl).1
      rw [q17 (fun e2=>e e2.symm)]
      exact hG.row (h.rows l p hl) (hne l hll (fun e2=>e e2.symm))
  · simp only [List.length_set] at hi hj
    by_cases e1:i=k
    · subst e1
      rw [q1f] at hb
      rw [q17 (fun e2=>hij e2.symm)]
      exact fun e3=>hx j hj (fun e2=>hij e2.symm) b e3 hb
    · rw [q17 e1] at hb
      by_cases e2:j=k
      · subst e2;rw [q1f];exact hx i hi e1 b hb
      · rw [q17 e2];exact h.apart i j b hi hj hij hb
  · simp only [List.length_set] at hi
    by_cases e1:i=k
    · subst e1;rw [q1f] at hb;exact hG0 b hb
    · rw [q17 e1] at hb;exact h.free i b hi hb
theorem PRowsM.put {b:Nat} (h:PRowsM G0 E S M gs B) (hk:gs[k]? = some (v,L)) (hb:q0f (B k)=some b) (hM:∀ c,c≠b→M' c=M c) {L':List Run} (hR:RowS S M' E 3 (B k) L'.length (q0s L')):PRowsM G0 E S M' (gs.set k (v,L')) B:=by
  have hkl:=(List.getElem?_eq_some_iff.1 hk).1
  have f1:=h.free k b hkl hb
  refine ⟨fun c o hc=>?_,fun l p hl=>?_,fun i j c hi hj=>?_,fun i c hi=>?_⟩
  · rw [hM c (fun e=>by rw [e,f1] at hc;cases hc)];exact h.le c o hc
  · by_cases e:k=l
    · subst e
      rw [List.getElem?_set_self hkl] at hl;cases hl
      exact hR
    · rw [List.getElem?_set_ne e] at hl
      have hll:=(List.getElem?_eq_some_iff.1 hl).1
      exact (h.rows l p hl).of (fun _ h=>h) fun c hc=>hM c fun e2=>by
        subst e2
        exact h.apart l k c hll hkl (fun e3=>e e3.symm) hc hb
  · simp only [List.length_set] at hi hj;exact h.apart i j c hi hj
  · simp only [List.length_set] at hi;exact h.free i c hi
theorem PRowsM.key (h:PRowsM G0 E S M gs B):PRowsM G0 E S M (gs++[(v,[])]) (putV B gs.length (.slice none 0 0)):=by
  refine ⟨h.le,fun l p hl=>?_,fun i j c hi hj hij hb=>?_,fun i c hi hb=>?_⟩
  · rw [List.getElem?_append] at hl
    split at hl
    · rename_i hll
      rw [q17 (by omega)]
      exact h.rows l p hl
    · rename_i hll
      have e:l-gs.length=0:=by have:=(List.getElem?_eq_some_iff.1 hl).1;simp at this;omega
      rw [e] at hl;simp at hl;subst hl
      rw [show l=gs.length by omega,q1f]
      exact RowS.nil _ _ _ _
  · simp at hi hj
    by_cases e1:i=gs.length
    · subst e1;rw [q1f] at hb;cases hb
    · rw [q17 e1] at hb
      by_cases e2:j=gs.length
      · subst e2;rw [q1f];exact fun e=>by cases e
      · rw [q17 e2];exact h.apart i j c (by omega) (by omega) hij hb
  · simp at hi
    by_cases e1:i=gs.length
    · subst e1;rw [q1f] at hb;cases hb
    · rw [q17 e1] at hb;exact h.free i c (by omega) hb
end
end Go.Proofs.YtkicdhaklnmonaaGreat
namespace Go.Proofs.YtkicdhaklnmonaaGreat
open Go.RowKit
set_option maxRecDepth 20000
def v0n (c:Nat→List Int) (W N:Nat) (wrap:AV→AV) (n:Nat) (xs:List Value) (G1:Mem):Prop :=
  (∀ a,wrap a=.tup [a,.val (.bool true)])∧n=(gat c W N).length∧∃ B,xs=q0m (fun k=>B k::inkC (keyI (gat c W N) k)) n∧∀ k p,(gat c W N)[k]? = some p→(gatP (gat c W N) B k).L=p.2∧B k=.slice (gatP (gat c W N) B k).A (gatP (gat c W N) B k).L.length (gatP (gat c W N) B k).q∧(gatP (gat c W N) B k).L.length≤(gatP (gat c W N) B k).q∧(gatP (gat c W N) B k).q≤maxLen∧RunsM G1 (gatP (gat c W N) B k).A (gatP (gat c W N) B k).L
theorem PRowsM.piece {G0:Mem} {E:TypeId} {S:Nat→Prop} {M:Mem} {gs:List Pc} {B:Nat→Value} (h:PRowsM G0 E S M gs B) {k:Nat} {p:Pc} (hk:gs[k]? = some p):(gatP gs B k).L=p.2∧B k=.slice (gatP gs B k).A (gatP gs B k).L.length (gatP gs B k).q∧(gatP gs B k).L.length≤(gatP gs B k).q∧(gatP gs B k).q≤maxLen∧RunsM M (gatP gs B k).A (gatP gs B k).L:=by
  have hL:(gatP gs B k).L=p.2:=by simp [gatP,hk]
  have hr:=h.rows k p hk
  obtain ⟨A,c,e,h1,h2⟩:=hr.isSl
  have eA:(gatP gs B k).A=A:=by simp [gatP,e,slA]
  have eq:(gatP gs B k).q=c:=by simp [gatP,e,slQ]
  rw [hL,eA,eq]
  refine ⟨rfl,e,h1,h2,?_⟩
  rw [e] at hr
  have hF:=hr.flat
  intro i r hi
  obtain ⟨q0,q1,q2⟩:=q30 hi
  rcases hF with ⟨_,h0⟩ |⟨b,off,rfl,h3⟩
  · rw [h0] at q0;simp at q0
  · exact ⟨b,off,rfl,by simpa using h3 _ _ q0,by simpa [Nat.add_assoc] using h3 _ _ q1,by simpa [Nat.add_assoc] using h3 _ _ q2⟩
theorem z3v {v:List Int} {y a b:Int}:∀ {gs:List Pc} {p:Pc},p∈gput gs v y a b→p.1=v∨∃ q∈gs,q.1=p.1
  | [],p,h=>by simp [gput] at h;exact .inl (by rw [h])
  | (u,L)::t,p,h=>by
    unfold gput at h
    split at h
    · rename_i e
      rcases List.mem_cons.1 h with rfl |h
      · exact .inl e
      · exact .inr ⟨p,List.mem_cons_of_mem _ h,rfl⟩
    · rcases List.mem_cons.1 h with rfl |h
      · exact .inr ⟨(u,L),by simp,rfl⟩
      · rcases z3v h with h |⟨q,h1,h2⟩
        · exact .inl h
        · exact .inr ⟨q,List.mem_cons_of_mem _ h1,h2⟩
theorem z57 (J:Nat→Nat→Int) (W:Nat):∀ (i:Nat) (p:Pc),p∈gat (fun i=>vecI (J i)) W i→p.1.length=8
  | 0,p,h=>by simp [gat] at h
  | i+1,p,h=>by
    unfold gat gadd at h
    split at h
    · exact z57 J W i p h
    · rcases z3v h with h |⟨q,h1,h2⟩
      · rw [h];rfl
      · rw [← h2];exact z57 J W i q h1
theorem q6g {B:Nat→Value} {gs:List Pc} {k m:Nat} {x:Value} (h:k<m):k*9+0+[x].length≤(q0m (fun j=>B j::inkC (keyI gs j)) m).length∧(q0m (fun j=>B j::inkC (keyI gs j)) m).take (k*9+0)++[x]++(q0m (fun j=>B j::inkC (keyI gs j)) m).drop (k*9+0+[x].length)=q0m (fun j=>putV B k x j::inkC (keyI gs j)) m:=by
  refine ⟨by rw [q2y (sz:=9) (fun _ _=>rfl)];simp;omega,?_⟩
  rw [z3p (sz:=9) (fun _ _=>rfl) h (by simp)]
  refine q14 fun y hy=>?_
  unfold putV
  split
  · rename_i e;subst e;simp
  · rfl
theorem x5g {B:Nat→Value} {k:Nat} {x:Value} (h:B k=x):putV B k x=B:=by
  funext j;unfold putV;split
  · rename_i e;rw [e,h]
  · rfl
theorem x7p {B:Nat→Value} {gs:List Pc} {I:Nat→Int} {x:Value}:q0m (fun j=>B j::inkC (keyI gs j)) gs.length++(x::inkC I)=q0m (fun j=>putV B gs.length x j::inkC (keyI (gs++[(vecI I,[])]) j)) (gs.length+1):=by
  rw [q0m,q1f,z9l (p:=(vecI I,[])) rfl]
  congr 1
  exact q14 fun y hy=>by rw [q17 (by omega),z9k hy]
theorem x5h {gs:List Pc} {v:List Int} {L M:List Run}:keyI (gs++[(v,L)])=keyI (gs++[(v,M)]):=by
  funext x j
  unfold keyI
  rw [List.getElem?_append,List.getElem?_append]
  split
  · rfl
  · cases x-gs.length <;> simp
set_option maxHeartbeats 4000000 in
theorem z58 {A:Option Addr} {w W N c:Nat} {J:Nat→Nat→Int} {G:Mem} (hw:1≤w∧w≤256) (hW:W=16*w) (hN4:N≤4095) (hc:N≤c∧c≤maxLen) (hE:ElsM G A 8 N fun i=>inkC (J i)) :
    MakesX Tryz.prog 16 [.val (.int .i64 w),.val (.slice A N c)] G 35 9 (v0n (fun i=>vecI (J i)) W N):=by
  have hW0:0<W:=by omega
  unfold maxLen at hc
  refine z0z tab_ok Tryz.func16 ?_
  (repeat ((try (conv=>whnf));(refine stQ ?_)))
  conv=>whnf
  have hg0:PRowsM G 78 (fun _=>False) G (gat (fun i=>vecI (J i)) W 0) (fun _=>.slice none 0 0) :=
    ⟨Mem.le_refl _,fun k p hk=>by simp [gat] at hk,fun k l b hk=>by simp [gat] at hk,fun k b hk=>by simp [gat] at hk⟩
  refine q5d tab_ok (ι:=Nat × GSt) (fun s=>s.1≤N∧PRowsM G 78 s.2.S s.2.M (gat (fun i=>vecI (J i)) W s.1) s.2.B) (fun s=>match s with |(i,_)=>[(13,.val (.int .i64 i)),(6,.own 1)])
    (fun s=>[.muts s.2.S,.own 35 9 (gat (fun i=>vecI (J i)) W s.1).length (q0m (fun k=>s.2.B k::inkC (keyI (gat (fun i=>vecI (J i)) W s.1) k)) (gat (fun i=>vecI (J i)) W s.1).length)])
    (fun s=>s.2.M) (fun s=>N-s.1) (0,⟨fun _=>False,fun _=>.slice none 0 0,G⟩) ⟨Nat.zero_le _,hg0⟩ ?_ ?_
  · refine q4u 35 9 ?_
    conv=>whnf
    ((refine q0g ?_);(conv=>whnf);(refine q0i (by rfl) (by rfl) flQ ?_))
    exact q0l (fun _ h=>h) (q0b rfl rfl q0d)
  · rintro ⟨i,st⟩ ⟨hi,hg⟩
    dsimp only at hi hg ⊢
    have hE3:=hE.mono hg.le
    rcases Nat.lt_or_ge i N with h1 |h1
    · obtain ⟨a,rfl,ci⟩:=hE3.cells h1
      have hg3:=q7t (fun i=>vecI (J i)) hW0 i
      have hnext:gadd (gat (fun i=>vecI (J i)) W i) (vecI (J i)) ((i/W:Nat):Int) ((i%W:Nat):Int) ((i%W:Nat)+1:Int)=gat (fun i=>vecI (J i)) W (i+1):=rfl
      have hW':(16:Int)*(w:Int)=(W:Int):=by omega
      have hd:(i:Int).tdiv (16*(w:Int))=((i/W:Nat):Int):=by rw [hW'];exact (Int.ofNat_tdiv i W).symm
      have hm:(i:Int).tmod (16*(w:Int))=((i%W:Nat):Int):=by rw [hW'];exact (Int.ofNat_tmod i W).symm
      have hdb:i/W≤i:=Nat.div_le_self _ _
      have hmb:i%W<W:=Nat.mod_lt _ hW0
      have hd0:=Int.natCast_nonneg (i/W)
      have hm0:=Int.natCast_nonneg (i%W)
      generalize hJ:J i=I at *
      generalize hgs:gat (fun i=>vecI (J i)) W i=gs at *
      have hfew:=hg3.few
      by_cases hz:q2r I
      · have ea:gadd gs (vecI I) ((i/W:Nat):Int) ((i%W:Nat):Int) ((i%W:Nat)+1:Int)=gs:=by unfold gadd;rw [if_pos (vecI_zero.2 hz)]
        unfold q2r at hz
        (repeat ((try (conv=>whnf));(first |(refine ci _ ?_) |(refine stQ ?_))))
        conv=>whnf
        refine ⟨(i+1,st),⟨by omega,by dsimp only;rw [← hnext,ea];exact hg⟩,by dsimp only;omega,?_⟩
        dsimp only
        rw [← hnext,ea]
        ((refine q0g ?_);(conv=>whnf);(refine q0i (by rfl) (by rfl) flQ ?_))
        exact q0l (fun _ h=>h) (q0b rfl rfl q0d)
      · have hnz:=q6b hz
        (repeat ((try (conv=>whnf));(first |(refine ci _ ?_) |(with_reducible refine q03 hnz ?_) |(refine stQ ?_))))
        conv=>whnf
        have hlen8:=z57 J W i
        rw [hgs] at hlen8
        have cK:∀ {k:Nat},k<gs.length→∀ K:List Value→Prop,K [.int .u8 (keyI gs k 0),.int .u8 (keyI gs k 1),.int .u8 (keyI gs k 2),.int .u8 (keyI gs k 3),.int .u8 (keyI gs k 4),.int .u8 (keyI gs k 5),.int .u8 (keyI gs k 6),.int .u8 (keyI gs k 7)]→OwnCells (q0m (fun k=>st.B k::inkC (keyI gs k)) gs.length) (k*9+1) 8 K:=fun {k} hk K hK=>q04 (inkC (keyI gs k)) rfl (fun j v hj=>by
          have hj8:j<8:=(List.getElem?_eq_some_iff.1 hj).1
          rw [Nat.add_assoc,q3c (sz:=9) (fun _ _=>rfl) hk (by omega),Nat.add_comm 1 j];exact hj) hK
        refine q0y tab_ok (fun k=>k≤gidx (vecI I) gs) (fun (k:Nat)=>[(8,.val (.int .i64 k))]) (fun k=>[.muts st.S,.own 35 9 gs.length (q0m (fun k=>st.B k::inkC (keyI gs k)) gs.length)]) (fun k=>gs.length-k) 0 (Nat.zero_le _) ?_ ?_
        · ((refine q0g ?_);(conv=>whnf);(refine q0i (by rfl) (by rfl) flQ ?_))
          exact q0l (fun _ h=>h) (q0b rfl rfl q0d)
        · rintro k hk
          have hkl:=q66 (vecI I) gs
          rcases Nat.lt_or_ge k gs.length with h2 |h2
          · have ck:=cK h2
            have hp:=List.getElem?_eq_getElem h2
            have hv:=x8y hp (hlen8 _ (List.mem_of_getElem? hp))
            by_cases hs:q3g (keyI gs k) I
            · have hq:gidx (vecI I) gs=k:=by
                rcases Nat.lt_or_ge k (gidx (vecI I) gs) with h3 |h3
                · exact absurd (hv ▸ vecI_same.2 hs) (z5t h3 hp)
                · omega
              have hs':=hs
              unfold q3g at hs
              obtain ⟨L,hL⟩:=q6a (v:=vecI I) (gs:=gs) (by omega)
              rw [hq] at hL
              have ea:gadd gs (vecI I) ((i/W:Nat):Int) ((i%W:Nat):Int) ((i%W:Nat)+1:Int)=gs.set k (vecI I,addR L ((i/W:Nat):Int) ((i%W:Nat):Int) ((i%W:Nat)+1:Int)):=by unfold gadd;rw [if_neg (fun h=>hz (vecI_zero.1 h)),q5y (by rw [hq];exact hL),hq]
              have hr:=hg.rows k _ hL
              have hLn:=(hg3.keys _ (List.mem_of_getElem? hL)).2
              rcases q3q L with rfl |⟨K,r,rfl⟩
              · exact absurd rfl hLn
              obtain ⟨hKl,hup,_⟩:=hg3.runs _ (List.mem_of_getElem? hL)
              obtain ⟨g,cg,hB,hcg,hcm,hSg,m0,m2⟩:=hr.last
              have hr1:RowS st.S st.M 78 3 (.slice (some ⟨g,0,none⟩) (K.length+1) cg) (K.length+1) (q0s (K++[r])):=by
                rw [← hB];simpa using hr
              have cB:(q0m (fun k=>st.B k::inkC (keyI gs k)) gs.length)[k*9+0]? = some (.slice (some ⟨g,0,none⟩) (K.length+1) cg):=by
                rw [q3c (sz:=9) (fun _ _=>rfl) h2 (by omega),← hB];rfl
              have hzK:((((K.length+1:Nat):Int))-1).toNat=K.length:=by omega
              rw [← hzK] at m0 m2
              have hKl2:K.length+1≤i:=by simpa using hKl
              (repeat ((try (conv=>whnf));(first |(refine ck _ ?_) |(refine ci _ ?_) |(refine q0n _ cB ?_) |(refine stQ ?_))))
              conv=>whnf
              rw [hd,hm]
              have hur:=hup r (by simp)
              by_cases hj:r.y=((i/W:Nat):Int)∧r.x1=((i%W:Nat):Int)
              · rw [q16 (by omega) hj.1 (by omega)] at ea
                rw [show max r.x1 (((i%W:Nat):Int)+1)=((i%W:Nat):Int)+1 by omega] at ea
                (repeat ((try (conv=>whnf));(first |(refine q0c _ m0 ?_) |(refine q0c _ m2 ?_) |(refine stQ ?_) |(with_reducible refine q0e tab_ok Tryz.func34 (fun vs w=>by kernel_rfl) (by rfl) ?_))))
                conv=>whnf
                have hx:AV.val (.pointer (some (Addr.add (Addr.add ⟨g,0,none⟩ (((((K.length+1:Nat):Int))-1).toNat * 3)) 2)))=.val (.pointer (some ⟨g,0+((((K.length+1:Nat):Int))-1).toNat * 3+2,none⟩)):=by rw [q0o,q0o]
                refine q6q tab_ok 0 (by exact rfl) (Eq.trans (by exact rfl) hx) ?_
                conv=>whnf
                refine ⟨78,3,K.length+1,cg,q0s (K++[r]),hr1,by rw [q1k,List.length_append];show (0+((((K.length+1:Nat):Int))-1).toNat * 3+2)+1≤(K.length+1)*3;omega,fun M2 hM2 hr2=>?_⟩
                have hr4:RowS st.S M2 78 3 (.slice (some ⟨g,0,none⟩) (K.length+1) cg) (K.length+1) ((q0s (K++[r])).take (0+((((K.length+1:Nat):Int))-1).toNat * 3+2)++[.int .i64 (((i%W:Nat):Int)+1)]++(q0s (K++[r])).drop (0+((((K.length+1:Nat):Int))-1).toNat * 3+2+1)):=hr2
                rw [hzK,Nat.zero_add,q7v] at hr4
                have hr3:RowS st.S M2 78 3 (st.B k) (K++([⟨((i/W:Nat):Int),r.x0,((i%W:Nat):Int)+1⟩]:List Run)).length (q0s (K++([⟨((i/W:Nat):Int),r.x0,((i%W:Nat):Int)+1⟩]:List Run))):=by
                  rw [← hj.1,hB,List.length_append]
                  exact hr4
                have hg4:=hg.put hL (by rw [hB];rfl) hM2 hr3
                conv=>whnf
                (repeat ((try (conv=>whnf));(refine stQ ?_)))
                conv=>whnf
                refine q2p (q6g h2).1 (q6g h2).2 ?_
                conv=>whnf
                rw [x5g hB]
                (repeat ((try (conv=>whnf));(refine stQ ?_)))
                conv=>whnf
                refine ⟨(i+1,⟨st.S,st.B,M2⟩),⟨by omega,by dsimp only;rw [← hnext,ea];exact hg4⟩,by dsimp only;omega,?_⟩
                dsimp only
                rw [← hnext,ea,q2l hL]
                ((refine q0g ?_);(conv=>whnf);(refine q0i (by rfl) (by rfl) flQ ?_))
                exact q0l (fun _ h=>h) (q0b (by simp) (by simp) q0d)
              · rw [q2w (by omega) (by omega)] at ea
                by_cases h5:r.y=((i/W:Nat):Int)
                · have h6:r.x1≠((i%W:Nat):Int):=fun h=>hj ⟨h5,h⟩
                  (repeat ((try (conv=>whnf));(first |(refine q0c _ m0 ?_) |(refine q0c _ m2 ?_) |(refine stQ ?_) |(with_reducible refine q0e tab_ok Tryz.func34 (fun vs w=>by kernel_rfl) (by rfl) ?_))))
                  conv=>whnf
                  refine q1d tab_ok 0 (by exact rfl) (by exact rfl) ?_
                  conv=>whnf
                  refine ⟨K.length+1,_,hr1,show (K.length+1+1)*24≤140737488355328 by omega,fun v2 S2 M2 hG2 hr2=>?_⟩
                  obtain ⟨A2,c4,rfl,_,_⟩:=hr2.isSl
                  have hg4:=hg.app (r:=⟨((i/W:Nat):Int),((i%W:Nat):Int),((i%W:Nat):Int)+1⟩) hL (by rw [hB];exact hG2) (by rw [q2k,List.length_append];exact hr2)
                  conv=>whnf
                  (repeat ((try (conv=>whnf));(refine stQ ?_)))
                  conv=>whnf
                  refine q2p (q6g h2).1 (q6g h2).2 ?_
                  conv=>whnf
                  (repeat ((try (conv=>whnf));(refine stQ ?_)))
                  conv=>whnf
                  refine ⟨(i+1,⟨S2,_,M2⟩),⟨by omega,by dsimp only;rw [← hnext,ea];exact hg4⟩,by dsimp only;omega,?_⟩
                  dsimp only
                  rw [← hnext,ea,q2l hL]
                  ((refine q0g ?_);(conv=>whnf);(refine q0i (by rfl) (by rfl) flQ ?_))
                  exact q0l (fun _ h=>h) (q0b (by simp) (by simp) q0d)
                · skip
                  (repeat ((try (conv=>whnf));(first |(refine q0c _ m0 ?_) |(refine q0c _ m2 ?_) |(refine stQ ?_) |(with_reducible refine q0e tab_ok Tryz.func34 (fun vs w=>by kernel_rfl) (by rfl) ?_))))
                  conv=>whnf
                  refine q1d tab_ok 0 (by exact rfl) (by exact rfl) ?_
                  conv=>whnf
                  refine ⟨K.length+1,_,hr1,show (K.length+1+1)*24≤140737488355328 by omega,fun v2 S2 M2 hG2 hr2=>?_⟩
                  obtain ⟨A2,c4,rfl,_,_⟩:=hr2.isSl
                  have hg4:=hg.app (r:=⟨((i/W:Nat):Int),((i%W:Nat):Int),((i%W:Nat):Int)+1⟩) hL (by rw [hB];exact hG2) (by rw [q2k,List.length_append];exact hr2)
                  conv=>whnf
                  (repeat ((try (conv=>whnf));(refine stQ ?_)))
                  conv=>whnf
                  refine q2p (q6g h2).1 (q6g h2).2 ?_
                  conv=>whnf
                  (repeat ((try (conv=>whnf));(refine stQ ?_)))
                  conv=>whnf
                  refine ⟨(i+1,⟨S2,_,M2⟩),⟨by omega,by dsimp only;rw [← hnext,ea];exact hg4⟩,by dsimp only;omega,?_⟩
                  dsimp only
                  rw [← hnext,ea,q2l hL]
                  ((refine q0g ?_);(conv=>whnf);(refine q0i (by rfl) (by rfl) flQ ?_))
                  exact q0l (fun _ h=>h) (q0b (by simp) (by simp) q0d)
            · have hns:=z1w hs
              have hne:k≠gidx (vecI I) gs:=fun e=>by
                obtain ⟨L,hL⟩:=q6a (v:=vecI I) (gs:=gs) (by omega)
                rw [← e,hp] at hL
                cases hL':gs[k] with
                | mk u M =>
                  rw [hL'] at hL hv
                  cases hL
                  exact hs (vecI_same.1 hv)
              (repeat ((try (conv=>whnf));(first |(refine ck _ ?_) |(refine ci _ ?_) |(with_reducible refine q03 hns ?_) |(refine stQ ?_))))
              conv=>whnf
              refine ⟨k+1,by omega,by omega,?_⟩
              ((refine q0g ?_);(conv=>whnf);(refine q0i (by rfl) (by rfl) flQ ?_))
              exact q0l (fun _ h=>h) (q0b rfl rfl q0d)
          · have hq:gidx (vecI I) gs=gs.length:=by omega
            obtain rfl:k=gs.length:=by omega
            have ea:gadd gs (vecI I) ((i/W:Nat):Int) ((i%W:Nat):Int) ((i%W:Nat)+1:Int)=gs++[(vecI I,[⟨((i/W:Nat):Int),((i%W:Nat):Int),((i%W:Nat):Int)+1⟩])]:=by unfold gadd;rw [if_neg (fun h=>hz (vecI_zero.1 h)),q5z hq]
            (repeat ((try (conv=>whnf));(first |(refine ci _ ?_) |(refine stQ ?_))))
            conv=>whnf
            obtain ⟨A0,c0,hn0⟩:∃ A0 c0,(Value.slice none 0 0)=.slice A0 0 c0:=⟨none,0,rfl⟩
            have hsn:q0m (fun j=>st.B j::inkC (keyI gs j)) gs.length++[Value.slice none 0 0,.int .u8 (I 0),.int .u8 (I 1),.int .u8 (I 2),.int .u8 (I 3),.int .u8 (I 4),.int .u8 (I 5),.int .u8 (I 6),.int .u8 (I 7)]=_:=x7p
            rw [hsn]
            have hpn:(q0m (fun j=>putV st.B gs.length (.slice none 0 0) j::inkC (keyI (gs++[(vecI I,[])]) j)) (gs.length+1))[gs.length*9+0]? = some (.slice A0 0 c0):=by
              rw [q3c (sz:=9) (fun _ _=>rfl) (by omega) (by omega),q1f,hn0];rfl
            (repeat ((try (conv=>whnf));(first |(refine q0n _ hpn ?_) |(refine stQ ?_))))
            conv=>whnf
            rw [hd,hm]
            (repeat ((try (conv=>whnf));(first |(refine stQ ?_) |(with_reducible refine q0e tab_ok Tryz.func34 (fun vs w=>by kernel_rfl) (by rfl) ?_))))
            conv=>whnf
            refine q1d tab_ok 0 (by exact rfl) (by exact rfl) ?_
            conv=>whnf
            have hnil:RowS st.S st.M 78 3 (.slice A0 0 c0) 0 (q0s []):=by rw [← hn0];exact RowS.nil _ _ _ _
            refine ⟨0,_,hnil,show (0+1)*24≤140737488355328 by omega,fun v2 S2 M2 hG3 hr2=>?_⟩
            obtain ⟨A2,c4,rfl,_,_⟩:=hr2.isSl
            have hLq:(gs++[(vecI I,([]:List Run))])[gs.length]? = some (vecI I,[]):=by simp
            have hg5:=(hg.key (v:=vecI I)).app (r:=⟨((i/W:Nat):Int),((i%W:Nat):Int),((i%W:Nat):Int)+1⟩) hLq (by rw [q1f,hn0];exact hG3) (by rw [q2k];exact hr2)
            rw [show (gs++[(vecI I,([]:List Run))]).set gs.length (vecI I,[]++[⟨((i/W:Nat):Int),((i%W:Nat):Int),((i%W:Nat):Int)+1⟩])=gs++[(vecI I,[⟨((i/W:Nat):Int),((i%W:Nat):Int),((i%W:Nat):Int)+1⟩])] by simp] at hg5
            conv=>whnf
            (repeat ((try (conv=>whnf));(refine stQ ?_)))
            conv=>whnf
            refine q2p (q6g (show gs.length<gs.length+1 by omega)).1 (q6g (show gs.length<gs.length+1 by omega)).2 ?_
            conv=>whnf
            (repeat ((try (conv=>whnf));(refine stQ ?_)))
            conv=>whnf
            refine ⟨(i+1,⟨S2,_,M2⟩),⟨by omega,by dsimp only;rw [← hnext,ea];exact hg5⟩,by dsimp only;omega,?_⟩
            dsimp only
            rw [← hnext,ea]
            have hks:keyI (gs++[(vecI I,([⟨((i/W:Nat):Int),((i%W:Nat):Int),((i%W:Nat):Int)+1⟩]:List Run))])=keyI (gs++[(vecI I,[])]):=x5h
            rw [hks]
            refine q1v 3 1 rfl rfl rfl rfl ?_
            conv=>whnf
            ((refine q0g ?_);(conv=>whnf);(refine q0i (by rfl) (by rfl) flQ ?_))
            exact q0l (fun _ h=>h) (q0b (by simp) (by simp) q0d)
    · obtain rfl:i=N:=by omega
      (repeat ((try (conv=>whnf));(refine stQ ?_)))
      conv=>whnf
      refine ⟨fun a=>.tup [a,.val (.bool true)],1,_,_,.pair (.val (.bool true)) (fun _=>rfl) rfl,rfl,rfl,?_⟩
      refine ⟨fun _=>rfl,rfl,st.B,rfl,fun k p hk=>?_⟩
      obtain ⟨q0,q1,q2,q3,q4⟩:=hg.piece hk
      exact ⟨q0,q1,q2,q3,q4⟩
end Go.Proofs.YtkicdhaklnmonaaGreat
namespace Go.Proofs.YtkicdhaklnmonaaGreat
open Go.RowKit
set_option maxRecDepth 20000
theorem z3w {c:Nat→List Int} {W:Nat}:∀ (i:Nat) (p:Pc),p∈gat c W i→∃ j,j<i∧p.1=c j
  | 0,p,h=>by simp [gat] at h
  | i+1,p,h=>by
    unfold gat gadd at h
    split at h
    · obtain ⟨j,h1,h2⟩:=z3w i p h
      exact ⟨j,by omega,h2⟩
    · rcases z3v h with h |⟨q,h1,h2⟩
      · exact ⟨i,by omega,h⟩
      · obtain ⟨j,h3,h4⟩:=z3w i q h1
        exact ⟨j,by omega,by rw [← h2,h4]⟩
theorem z7l {c d:Nat→List Int} {W:Nat}:∀ {i:Nat},(∀ j,j<i→c j=d j)→gat c W i=gat d W i
  | 0,_=>rfl
  | i+1,h=>by
    unfold gat
    rw [z7l (i:=i) (fun j hj=>h j (by omega)),h i (by omega)]
theorem x5i {J:Nat→Nat→Int} {W N:Nat} (hJ:∀ i,i<N→∀ j,0≤J i j∧J i j≤255) (k j:Nat):0≤keyI (gat (fun i=>vecI (J i)) W N) k j∧keyI (gat (fun i=>vecI (J i)) W N) k j≤255:=by
  unfold keyI
  cases h:(gat (fun i=>vecI (J i)) W N)[k]? with
  | none=>simp
  | some p =>
    obtain ⟨i,hi,e⟩:=z3w _ _ (List.mem_of_getElem? h)
    simp only [Option.map_some,Option.getD_some]
    rw [e]
    by_cases hj:j<8
    · rw [List.getD_eq_getElem?_getD,x68 hj];exact hJ i hi j
    · rw [List.getD_eq_getElem?_getD,List.getElem?_eq_none (by simp [vecI];omega)];simp
theorem x5j {J:Nat→Nat→Int} {W N:Nat} {G:Mem} {A:Option Addr} {B:Nat→Value} (hJ:∀ i,i<N→∀ j,0≤J i j∧J i j≤255) (hF:FlatM G A (q0m (fun k=>pcC (gatP (gat (fun i=>vecI (J i)) W N) B k)) (gat (fun i=>vecI (J i)) W N).length))
    (hR:∀ k p,(gat (fun i=>vecI (J i)) W N)[k]? = some p→(gatP (gat (fun i=>vecI (J i)) W N) B k).L=p.2∧(gatP (gat (fun i=>vecI (J i)) W N) B k).L.length≤(gatP (gat (fun i=>vecI (J i)) W N) B k).q∧(gatP (gat (fun i=>vecI (J i)) W N) B k).q≤maxLen∧RunsM G (gatP (gat (fun i=>vecI (J i)) W N) B k).A (gatP (gat (fun i=>vecI (J i)) W N) B k).L) :
    PcsM G A (gat (fun i=>vecI (J i)) W N).length (gatP (gat (fun i=>vecI (J i)) W N) B) :=
  ⟨hF.els (fun _ _=>rfl) (by omega),fun i hi=>(hR i _ (List.getElem?_eq_getElem hi)).2.2.2,fun i hi=>⟨(hR i _ (List.getElem?_eq_getElem hi)).2.1,(hR i _ (List.getElem?_eq_getElem hi)).2.2.1⟩,fun i hi j=>x5i hJ i j⟩
set_option maxHeartbeats 4000000 in
theorem z3x {A B:Option Addr} {n c d:Nat} {p q:Nat→PcD} {G:Mem} (hA:PcsM G A n p) (hB:PcsM G B n q) (hL:∀ k,k<n→(q k).L=(p k).L∧(q k).I=(p k).I) (hn:n≤maxLen) (hl:∀ k,k<n→(p k).L.length≤1000000000000) :
    Gives Tryz.prog 17 [.val (.slice A n c),.val (.slice B n d)] G (.val (.bool true)):=by
  unfold maxLen at hn
  refine q1p tab_ok Tryz.func17 ?_
  (repeat ((try (conv=>whnf));(refine stQ ?_)))
  conv=>whnf
  refine q0y tab_ok (fun k=>k≤n) (fun (k:Nat)=>[(13,.val (.int .i64 k))]) (fun k=>[]) (fun k=>n-k) 0 (Nat.zero_le _) ?_ ?_
  · ((refine q0g ?_);(conv=>whnf);(refine q0i (by rfl) (by rfl) flQ ?_))
    exact q0d
  · rintro k hk
    rcases Nat.lt_or_ge k n with h1 |h1
    · obtain ⟨a,rfl,ca⟩:=hA.inks h1
      obtain ⟨b,rfl,cb⟩:=hB.inks h1
      obtain ⟨a',ha',da⟩:=hA.head h1
      cases ha'
      obtain ⟨b',hb',db⟩:=hB.head h1
      cases hb'
      obtain ⟨e1,e2⟩:=hL k h1
      have rA:=hA.runs k h1
      have rB:=hB.runs k h1
      rw [e1] at rB db
      rw [e2] at cb
      have sr:=z5w (p k).A (q k).A (p k).L (p k).q (q k).q G rA rB (hl k h1)
      (repeat ((try (conv=>whnf));(first |(refine ca _ ?_) |(refine cb _ ?_) |(refine q0c _ da ?_) |(refine q0c _ db ?_) |(refine stQ ?_) |(with_reducible first |refine q0k (fun vs w=>by kernel_rfl) (by kernel_rfl) (sr) ?_ |refine q0j (fun vs w=>by kernel_rfl) (by kernel_rfl) (sr) ?_))))
      conv=>whnf
      refine ⟨k+1,by omega,by omega,?_⟩
      ((refine q0g ?_);(conv=>whnf);(refine q0i (by rfl) (by rfl) flQ ?_))
      exact q0d
    · obtain rfl:k=n:=by omega
      (repeat ((try (conv=>whnf));(refine stQ ?_)))
      conv=>whnf
      exact ⟨rfl,rfl⟩
end Go.Proofs.YtkicdhaklnmonaaGreat
namespace Go.Proofs.YtkicdhaklnmonaaGreat
open Go.RowKit
set_option maxRecDepth 20000
def flC (i:Nat):List Int:=if i=0 then [100,0,0,0,0,0,0,0] else [200,0,0,0,0,0,0,0]
def flL:List Run:=⟨0,1,16⟩::q4r 0 16 1 15
def flG:List Pc:=[([100,0,0,0,0,0,0,0],[⟨0,0,1⟩]),([200,0,0,0,0,0,0,0],flL)]
theorem x9j:gat flC 16 256=flG:=by kernel_rfl
theorem x5k {I:Nat→ItemD} {f:Nat→SrcF} {R:Nat→List Run} {n m:Nat} {x y x' y':Int} (h1:∀ i,hasL (R i) x y=hasL (R i) x' y') (h2:∀ i,f i x y=f i x' y'):q33 I f R n m x y=q33 I f R n m x' y':=by
  have:q0v I f R x y=q0v I f R x' y':=by
    unfold q0v
    simp only [h1,h2]
  unfold q33
  rw [this]
theorem x5l (i:Nat) (x y:Int) (hx:0≤x∧x<16) (hy:0≤y∧y<16):hasL (spR i) x y=if i=0 then true else decide (x=0∧y=0):=by
  by_cases hi:i=0
  · subst hi
    rw [if_pos rfl,hasL_iff]
    have:=(z7k (W:=16) (H:=16) (by omega) (by omega)).2 x y
    exact this.2 ⟨by omega,by omega⟩
  · rw [if_neg hi]
    unfold spR
    rw [if_neg hi]
    apply Bool.eq_iff_iff.2
    rw [hasL_iff,decide_eq_true_iff]
    unfold hasR
    constructor
    · rintro ⟨r,hr,h1,h2,h3⟩
      simp at hr;subst hr
      dsimp only at h1 h2 h3
      omega
    · rintro ⟨rfl,rfl⟩
      exact ⟨⟨0,0,1⟩,by simp,rfl,Int.le_refl _,by decide⟩
theorem x9k {A:Option Addr} {c b i:Nat} (hi:i<256):vecI (q33 (spI A c b) spF spR 4 1 ((i%16:Nat):Int) ((i/16:Nat):Int))=flC i:=by
  unfold flC
  by_cases h:i=0
  · subst h
    rw [if_pos rfl]
    show vecI (q33 (spI A c b) spF spR 4 1 0 0)=_
    rw [x9h];rfl
  · rw [if_neg h]
    have e:q33 (spI A c b) spF spR 4 1 ((i%16:Nat):Int) ((i/16:Nat):Int)=q33 (spI A c b) spF spR 4 1 1 0:=by
      refine x5k (fun k=>?_) (fun k=>rfl)
      rw [x5l k _ _ (by omega) (by omega),x5l k 1 0 (by omega) (by omega)]
      by_cases hk:k=0
      · rw [if_pos hk,if_pos hk]
      · rw [if_neg hk,if_neg hk]
        rw [decide_eq_false (by omega),decide_eq_false (by omega)]
    rw [e,x9i];rfl
theorem x7q:∀ k j,0≤keyI flG k j∧keyI flG k j≤255:=by
  intro k j
  unfold keyI flG
  match k with
  | 0 =>
    rcases Nat.lt_or_ge j 8 with h |h
    · rcases lt8 h with rfl |rfl |rfl |rfl |rfl |rfl |rfl |rfl <;> decide
    · rw [List.getD_eq_getElem?_getD,List.getElem?_eq_none (by simpa using h)];decide
  | 1 =>
    rcases Nat.lt_or_ge j 8 with h |h
    · rcases lt8 h with rfl |rfl |rfl |rfl |rfl |rfl |rfl |rfl <;> decide
    · rw [List.getD_eq_getElem?_getD,List.getElem?_eq_none (by simpa using h)];decide
  | k+2=>simp
theorem z59 (x y:Int):hasR flL x y↔(0≤x∧x<16)∧(0≤y∧y<16)∧¬ (x=0∧y=0):=by
  unfold flL q4r hasR
  constructor
  · rintro ⟨r,hr,h1,h2,h3⟩
    rcases List.mem_cons.1 hr with rfl |hr
    · dsimp only at h1 h2 h3;omega
    · simp only [List.mem_map,List.mem_range] at hr
      obtain ⟨i,hi,rfl⟩:=hr
      dsimp only at h1 h2 h3
      omega
  · rintro ⟨h1,h2,h3⟩
    by_cases hy:y=0
    · exact ⟨⟨0,1,16⟩,List.mem_cons_self ..,hy.symm,by show (1:Int)≤x;omega,h1.2⟩
    · exact ⟨⟨1+((y-1).toNat:Int),0,16⟩,List.mem_cons_of_mem _ (List.mem_map.2 ⟨(y-1).toNat,List.mem_range.2 (by omega),rfl⟩),by show 1+((y-1).toNat:Int)=y;omega,h1.1,h1.2⟩
theorem fl_one {x y:Int}:hasR [⟨0,0,1⟩] x y↔x=0∧y=0:=by
  unfold hasR
  constructor
  · rintro ⟨r,hr,h1,h2,h3⟩
    simp at hr;subst hr
    dsimp only at h1 h2 h3
    omega
  · rintro ⟨rfl,rfl⟩
    exact ⟨⟨0,0,1⟩,by simp,rfl,Int.le_refl _,by decide⟩
theorem fl_e (B:Nat→Value):pcsE 1 1 2 (gatP flG B)=0:=by
  have h0:pcE 1 1 (gatP flG B 0)=0:=z87 (show errL [⟨0,0,1⟩]=0 by decide) (show 1≠0 by omega) (by
    rintro ⟨r,hr,ho⟩
    have hr':r∈([⟨0,0,1⟩]:List Run):=hr
    simp at hr';subst hr'
    unfold outP at ho
    dsimp only at ho
    omega) (by
    intro h
    have:(100:Int)=0:=h.1
    omega)
  have h1:pcE 1 1 (gatP flG B 1)=0:=z87 (show errL flL=0 by decide +kernel) (show 16≠0 by omega) (by
    rintro ⟨r,hr,ho⟩
    have hr':r∈flL:=hr
    unfold flL at hr'
    rcases List.mem_cons.1 hr' with rfl |hr'
    · unfold outP at ho
      dsimp only at ho
      omega
    · simp only [q4r,List.mem_map,List.mem_range] at hr'
      obtain ⟨i,hi,rfl⟩:=hr'
      unfold outP at ho
      dsimp only at ho
      omega) (by
    intro h
    have:(200:Int)=0:=h.1
    omega)
  have a0:apE (gatP flG B) 0=0:=z4s (by rintro ⟨k,hk,_⟩;omega) (by rintro ⟨h,_⟩;omega)
  have a1:apE (gatP flG B) 1=0:=z4s (by
    rintro ⟨k,hk,h⟩
    obtain rfl:k=0:=by omega
    rcases h with h |h
    · have:(100:Int)=200:=h.1
      omega
    · have h':x2l [⟨0,0,1⟩] flL:=h
      obtain ⟨x,y,g1,g2⟩:=h'
      rw [fl_one] at g1;rw [z59] at g2;omega) (by
    rintro ⟨_,h⟩
    have h':(q1l flL).y<(q1l [⟨0,0,1⟩]).y∨((q1l flL).y=(q1l [⟨0,0,1⟩]).y∧(q1l flL).x0<(q1l [⟨0,0,1⟩]).x0):=h
    revert h'
    decide)
  unfold pcsE
  rw [if_neg (by omega),if_neg (by omega)]
  have f1:q2f (fun i=>pcE 1 1 (gatP flG B i)) 2=0:=by
    simp only [q2f,h0,h1,ne_eq,not_true_eq_false,if_false]
  rw [if_neg (by rw [f1];simp)]
  simp only [q2f,a0,a1,ne_eq,not_true_eq_false,if_false]
theorem x9l (B:Nat→Value):z2r (gatP flG B) (fun _=>true) 2=q4r 0 16 0 16:=by
  have ok:=z89 (fl_e B)
  have b:okR (q4r 0 16 0 16)∧∀ x y,hasR (q4r 0 16 0 16) x y↔(0≤x∧x<16)∧0≤y∧y<16:=z7k (W:=16) (H:=16) (by omega) (by omega)
  refine z5q ok.some_ok.1 b.1 fun x y=>?_
  have b2:=b.2 x y
  rw [ok.some_ok.2,b2]
  constructor
  · rintro ⟨k,hk,_,h⟩
    match k,hk with
    | 0,_ =>
      have h':hasR [⟨0,0,1⟩] x y:=h
      rw [fl_one] at h';omega
    | 1,_ =>
      have h':hasR flL x y:=h
      rw [z59] at h';omega
  · intro h
    by_cases h0:x=0∧y=0
    · exact ⟨0,by omega,rfl,show hasR [⟨0,0,1⟩] x y from fl_one.2 h0⟩
    · exact ⟨1,by omega,rfl,show hasR flL x y from (z59 x y).2 ⟨by omega,by omega,h0⟩⟩
set_option maxHeartbeats 8000000 in
theorem z3c (G:Mem):Gives Tryz.prog 7 [] G (.val (.bool true)):=by
  have key:∀ (F:Mem) (A:Option Addr) (c b sb ib:Nat),RunsM F A (q5s 1 1)→16≤c→c≤maxLen →
    F sb=some (.cells #[.string ⟨#[98,108,97,99,107]⟩] 9 (0,0))→F b=some (.cells #[.int .i64 0,.int .i64 0,.int .i64 1] 78 (0,0))→F ib=some (.cells ((spI A c b 0).cells++(spI A c b 1).cells++(spI A c b 2).cells++(spI A c b 3).cells).toArray 63 (0,0)) →
    MakesX Tryz.prog 24 [z01 1 1 (some ⟨sb,0,none⟩) 1 1 (some ⟨ib,0,none⟩) 4 4] F 35 9 (ofR flC 16 256):=by
    intro F A c b sb ib hR h1 h2 h3 h4 h5
    have hI:=x7m h5
    have r:=z93 (w:=1) (h:=1) (W:=16) (N:=256) (x7o hR ⟨h1,h2⟩ h4 (x9f h3) hI) hI (by omega) (by omega) (v0m hR h4) (by omega) (by omega) rfl rfl (by omega)
    have e:ofR (fun i=>vecI (q33 (spI A c b) spF spR 4 1 ((i%16:Nat):Int) ((i/16:Nat):Int))) 16 256=ofR flC 16 256:=by
      unfold ofR
      rw [z7l fun j hj=>x9k hj]
    rw [← e]
    exact r
  refine q1p tab_ok Tryz.func7 ?_
  (repeat ((try (conv=>whnf));(refine stQ ?_)))
  conv=>whnf
  refine z14 (fun vs w=>by kernel_rfl) (by rfl) z56 ?_
  rintro v F hF ⟨A,c,b,sb,ib,rfl,q1,q2,q3,q4,q5,q6⟩
  have k0:=key F A c b sb ib q1 q2 q3 q4 q5 q6
  (repeat ((try (conv=>whnf));(refine stQ ?_)))
  conv=>whnf
  refine x4v [.int .i64 1,.int .i64 1,.slice (some ⟨sb,0,none⟩) 1 1,.slice (some ⟨ib,0,none⟩) 4 4] ?_
  refine z05 (fun vs w=>by kernel_rfl) (by kernel_rfl) k0 fun wr n2 xs2 G2 A2 c2 G3 hG2 hR2 hG3 hc2 hm2 hF2=>?_
  unfold ofR at hR2
  rw [x9j] at hR2
  obtain ⟨rfl,rfl,B2,rfl,hB2⟩:=hR2
  have hQ:PcsM G3 A2 2 (gatP flG B2):=⟨hF2.els (fun _ _=>rfl) (by omega),fun i hi=>((hB2 i _ (List.getElem?_eq_getElem (show i<flG.length from hi))).2.2.2).mono hG3,fun i hi=>⟨(hB2 i _ (List.getElem?_eq_getElem (show i<flG.length from hi))).2.1,(hB2 i _ (List.getElem?_eq_getElem (show i<flG.length from hi))).2.2.1⟩,fun i hi j=>x7q i j⟩
  have ok:=z89 (fl_e B2)
  have mp:=z7n (c:=c2) ok (fl_e B2) hQ
  rw [x9l] at mp
  conv=>whnf
  (repeat ((try (conv=>whnf));(refine stQ ?_)))
  conv=>whnf
  refine z1v (fun vs w=>by kernel_rfl) (q7g 0) (by kernel_rfl) mp fun A6 c6 G6 hG6 hc6 hm6 hx6=>?_
  have hR6:=RunsM.frozen hx6
  have hQ6:=hQ.mono hG6
  have a1:Gives Tryz.prog 26 [.val (.slice A6 16 c6)] G6 (.val (.int .i64 256)):=x0k (c:=c6) hR6 (q8l (by decide +kernel))
  obtain ⟨a,rfl,ca⟩:=hQ6.inks (show 0<2 by omega)
  have ca1:∀ K:List Value→Prop,K [.int .u8 100,.int .u8 0,.int .u8 0,.int .u8 0,.int .u8 0,.int .u8 0,.int .u8 0,.int .u8 0]→OldCells G6 (Addr.add (a.add (0*9)) 1) 8 K:=fun K k=>ca K k
  have n1:(q4r 0 16 0 16).length=16:=rfl
  have n2:flG.length=2:=rfl
  clear ca
  rw [n1,n2]
  (repeat ((try (conv=>whnf));(first |(refine ca1 _ ?_) |(refine stQ ?_) |(with_reducible first |refine q0k (fun vs w=>by kernel_rfl) (by kernel_rfl) (a1) ?_ |refine q0j (fun vs w=>by kernel_rfl) (by kernel_rfl) (a1) ?_))))
  conv=>whnf
  exact ⟨rfl,rfl⟩
end Go.Proofs.YtkicdhaklnmonaaGreat
namespace Go.Proofs.YtkicdhaklnmonaaGreat
open Go.RowKit
set_option maxRecDepth 20000
theorem z6a (x lo hi:Int) (h:-1000000≤lo∧lo≤hi∧hi≤1000000):∃ s:Int,(lo≤s∧s≤hi)∧∀ G,Gives Tryz.prog 14 [.val (.int .i64 x),.val (.int .i64 lo),.val (.int .i64 hi)] G (.val (.int .i64 s)):=by
  have h1:=Int.tmod_lt_of_pos x (show (0:Int)<hi-lo+1 by omega)
  have h2:-(hi-lo+1)<x.tmod (hi-lo+1):=Int.lt_tmod_of_pos x (by omega)
  have h3:=Int.tmod_lt_of_pos (x.tmod (hi-lo+1)+(hi-lo+1)) (show (0:Int)<hi-lo+1 by omega)
  have h4:0≤(x.tmod (hi-lo+1)+(hi-lo+1)).tmod (hi-lo+1):=Int.tmod_nonneg _ (by omega)
  refine ⟨lo+(x.tmod (hi-lo+1)+(hi-lo+1)).tmod (hi-lo+1),by omega,fun G=>?_⟩
  refine q1p tab_ok Tryz.func14 ?_
  (repeat ((try (conv=>whnf));(refine stQ ?_)))
  exact ⟨rfl,rfl⟩
end Go.Proofs.YtkicdhaklnmonaaGreat
namespace Go.Proofs.YtkicdhaklnmonaaGreat
open Go.RowKit
theorem x29 {P:Program} {f:FuncId} (hen:∀ vs w,(callFunc f vs).run P w=.ok (.enter f vs) w) {k:Nat} {a:Value} {hp:List Blk} {G:Mem} {K:AV→List Blk→Mem→Prop} {E:TypeId} {sz n:Nat} {xs:List Value} (hk:nthB hp k=.own E sz n xs)
    (h:∀ A cap G',G.le G'→n≤cap→cap≤maxLen→FlatM G' A xs→setF hp k .gone fun hp'=>CallP P f [.val a,.val (.slice A n cap)] hp' G' K):CallP P f [.val a,.own k] hp G K:=by
  refine ⟨hen,fun w0 G0 β w vs hr ha=>?_⟩
  simp only [AV.rels] at ha
  obtain ⟨v1,ts1,hvs,hv1,v2,ts2,hts1,hv2,rfl⟩:=ha
  have hv1':=hv1
  simp only [AV.rel] at hv1 hv2
  obtain ⟨A,cap,G',rfl,hle,hnc,hcm,hF,hr2⟩:=hr.freeze hv2.1 hk
  have h0:=h A cap G' hle hnc hcm hF
  rw [q06] at h0
  refine h0.calls w0 G0 β w vs hr2 ?_
  simp only [AV.rels,AV.rel]
  exact ⟨v1,ts1,hvs,hv1,_,[],hts1,rfl,rfl⟩
end Go.Proofs.YtkicdhaklnmonaaGreat
namespace Go.Proofs.YtkicdhaklnmonaaGreat
open Go.RowKit Go.Deep
set_option maxRecDepth 20000
theorem v0o {z:Int} (h:(Lit.int .u8 z).wf=true):0≤z∧z≤255:=by
  simp [Lit.wf,IntKind.min,IntKind.max,IntKind.signed,IntKind.bits] at h
  omega
section
variable {w:World} {A:Option Addr} {n:Nat} {g:Nat→Nat→Value}
end
end Go.Proofs.YtkicdhaklnmonaaGreat
