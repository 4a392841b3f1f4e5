/-
  Merged: XPcsOfW, XLeUp.
-/
import Derived.Test.YtbkhpddodmbdoaaMrg13
import Derived.Test.YtbkhpddodmbdoaaMrg14
import Derived.Test.YtbkhpddodmbdoaaMrg8
import Derived.Test.YtbkhpddodmbdoaaEng2
set_option linter.unusedVariables false
set_option linter.unusedSimpArgs false
set_option linter.unnecessarySimpa false
namespace Go.Proofs.Ytbkhpddodmbdoaa
open Go.RowKit
set_option maxRecDepth 20000
def x6e (c:Nat→List Int) (W N:Nat) (wrap:AV→AV) (n:Nat) (xs:List Value) (G1:Mem):Prop :=
  (∀ a,wrap a=.tup [a,.val (.bool true)])∧n=(gat c W N).length∧∃ B,xs=q0m (fun k=>B k::inkC (keyI (gat c W N) k)) n∧∀ k p,(gat c W N)[k]? = some p→(gatP (gat c W N) B k).L=p.2∧B k=.slice (gatP (gat c W N) B k).A (gatP (gat c W N) B k).L.length (gatP (gat c W N) B k).q∧(gatP (gat c W N) B k).L.length≤(gatP (gat c W N) B k).q∧(gatP (gat c W N) B k).q≤maxLen∧RunsM G1 (gatP (gat c W N) B k).A (gatP (gat c W N) B k).L
theorem PRowsM.piece {G0:Mem} {E:TypeId} {S:Nat→Prop} {M:Mem} {gs:List Pc} {B:Nat→Value} (h:PRowsM G0 E S M gs B) {k:Nat} {p:Pc} (hk:gs[k]? = some p):(gatP gs B k).L=p.2∧B k=.slice (gatP gs B k).A (gatP gs B k).L.length (gatP gs B k).q∧(gatP gs B k).L.length≤(gatP gs B k).q∧(gatP gs B k).q≤maxLen∧RunsM M (gatP gs B k).A (gatP gs B k).L:=by
  have hL:(gatP gs B k).L=p.2:=by simp [gatP,hk]
  have hr:=h.rows k p hk
  obtain ⟨A,c,e,h1,h2⟩:=hr.isSl
  have eA:(gatP gs B k).A=A:=by simp [gatP,e,slA]
  have eq:(gatP gs B k).q=c:=by simp [gatP,e,slQ]
  rw [hL,eA,eq]
  refine ⟨rfl,e,h1,h2,?_⟩
  rw [e] at hr
  have hF:=hr.flat
  intro i r hi
  obtain ⟨q0,q1,q2⟩:=q3q hi
  rcases hF with ⟨_,h0⟩ |⟨b,off,rfl,h3⟩
  · rw [h0] at q0;simp at q0
  · exact ⟨b,off,rfl,by simpa using h3 _ _ q0,by simpa [Nat.add_assoc] using h3 _ _ q1,by simpa [Nat.add_assoc] using h3 _ _ q2⟩
theorem z2l {v:List Int} {y a b:Int}:∀ {gs:List Pc} {p:Pc},p∈gput gs v y a b→p.1=v∨∃ q∈gs,q.1=p.1
  | [],p,h=>by simp [gput] at h;exact .inl (by rw [h])
  | (u,L)::t,p,h=>by
    unfold gput at h
    split at h
    · rename_i e
      rcases List.mem_cons.1 h with rfl |h
      · exact .inl e
      · exact .inr ⟨p,List.mem_cons_of_mem _ h,rfl⟩
    · rcases List.mem_cons.1 h with rfl |h
      · exact .inr ⟨(u,L),by simp,rfl⟩
      · rcases z2l h with h |⟨q,h1,h2⟩
        · exact .inl h
        · exact .inr ⟨q,List.mem_cons_of_mem _ h1,h2⟩
theorem z4w (J:Nat→Nat→Int) (W:Nat):∀ (i:Nat) (p:Pc),p∈gat (fun i=>vecI (J i)) W i→p.1.length=8
  | 0,p,h=>by simp [gat] at h
  | i+1,p,h=>by
    unfold gat gadd at h
    split at h
    · exact z4w J W i p h
    · rcases z2l h with h |⟨q,h1,h2⟩
      · rw [h];rfl
      · rw [← h2];exact z4w J W i q h1
theorem q58 {B:Nat→Value} {gs:List Pc} {k m:Nat} {x:Value} (h:k<m):k*9+0+[x].length≤(q0m (fun j=>B j::inkC (keyI gs j)) m).length∧(q0m (fun j=>B j::inkC (keyI gs j)) m).take (k*9+0)++[x]++(q0m (fun j=>B j::inkC (keyI gs j)) m).drop (k*9+0+[x].length)=q0m (fun j=>putV B k x j::inkC (keyI gs j)) m:=by
  refine ⟨by rw [q1o (sz:=9) (fun _ _=>rfl)];simp;omega,?_⟩
  rw [q6n (sz:=9) (fun _ _=>rfl) h (by simp)]
  refine q1m fun y hy=>?_
  unfold putV
  split
  · rename_i e;subst e;simp
  · rfl
theorem x2n {B:Nat→Value} {k:Nat} {x:Value} (h:B k=x):putV B k x=B:=by
  funext j;unfold putV;split
  · rename_i e;rw [e,h]
  · rfl
theorem x4d {B:Nat→Value} {gs:List Pc} {I:Nat→Int} {x:Value}:q0m (fun j=>B j::inkC (keyI gs j)) gs.length++(x::inkC I)=q0m (fun j=>putV B gs.length x j::inkC (keyI (gs++[(vecI I,[])]) j)) (gs.length+1):=by
  rw [q0m,q1t,z78 (p:=(vecI I,[])) rfl]
  congr 1
  exact q1m fun y hy=>by rw [q16 (by omega),z77 hy]
theorem x2o {gs:List Pc} {v:List Int} {L M:List Run}:keyI (gs++[(v,L)])=keyI (gs++[(v,M)]):=by
  funext x j
  unfold keyI
  rw [List.getElem?_append,List.getElem?_append]
  split
  · rfl
  · cases x-gs.length <;> simp
set_option maxHeartbeats 4000000 in
theorem z4x {A:Option Addr} {w W N c:Nat} {J:Nat→Nat→Int} {G:Mem} (hw:1≤w∧w≤256) (hW:W=16*w) (hN4:N≤4095) (hc:N≤c∧c≤maxLen) (hE:ElsM G A 8 N fun i=>inkC (J i)) :
    MakesX Try.prog 12 [.val (.int .i64 w),.val (.slice A N c)] G 29 9 (x6e (fun i=>vecI (J i)) W N):=by
  have hW0:0<W:=by omega
  unfold maxLen at hc
  refine q9y tab_ok Try.func12 ?_
  (repeat ((try (conv=>whnf));(refine stQ ?_)))
  conv=>whnf
  have hg0:PRowsM G 54 (fun _=>False) G (gat (fun i=>vecI (J i)) W 0) (fun _=>.slice none 0 0) :=
    ⟨Mem.le_refl _,fun k p hk=>by simp [gat] at hk,fun k l b hk=>by simp [gat] at hk,fun k b hk=>by simp [gat] at hk⟩
  refine q7b tab_ok (ι:=Nat × GSt) (fun s=>s.1≤N∧PRowsM G 54 s.2.S s.2.M (gat (fun i=>vecI (J i)) W s.1) s.2.B) (fun s=>match s with |(i,_)=>[(13,.val (.int .i64 i)),(6,.own 1)])
    (fun s=>[.muts s.2.S,.own 29 9 (gat (fun i=>vecI (J i)) W s.1).length (q0m (fun k=>s.2.B k::inkC (keyI (gat (fun i=>vecI (J i)) W s.1) k)) (gat (fun i=>vecI (J i)) W s.1).length)])
    (fun s=>s.2.M) (fun s=>N-s.1) (0,⟨fun _=>False,fun _=>.slice none 0 0,G⟩) ⟨Nat.zero_le _,hg0⟩ ?_ ?_
  · refine q3i 29 9 ?_
    conv=>whnf
    ((refine q0h ?_);(conv=>whnf);(refine q0k (by rfl) (by rfl) flQ ?_))
    exact q0q (fun _ h=>h) (q0c rfl rfl q0g)
  · rintro ⟨i,st⟩ ⟨hi,hg⟩
    dsimp only at hi hg ⊢
    have hE3:=hE.mono hg.le
    rcases Nat.lt_or_ge i N with h1 |h1
    · obtain ⟨a,rfl,ci⟩:=hE3.cells h1
      have hg3:=q9e (fun i=>vecI (J i)) hW0 i
      have hnext:gadd (gat (fun i=>vecI (J i)) W i) (vecI (J i)) ((i/W:Nat):Int) ((i%W:Nat):Int) ((i%W:Nat)+1:Int)=gat (fun i=>vecI (J i)) W (i+1):=rfl
      have hW':(16:Int)*(w:Int)=(W:Int):=by omega
      have hd:(i:Int).tdiv (16*(w:Int))=((i/W:Nat):Int):=by rw [hW'];exact (Int.ofNat_tdiv i W).symm
      have hm:(i:Int).tmod (16*(w:Int))=((i%W:Nat):Int):=by rw [hW'];exact (Int.ofNat_tmod i W).symm
      have hdb:i/W≤i:=Nat.div_le_self _ _
      have hmb:i%W<W:=Nat.mod_lt _ hW0
      have hd0:=Int.natCast_nonneg (i/W)
      have hm0:=Int.natCast_nonneg (i%W)
      generalize hJ:J i=I at *
      generalize hgs:gat (fun i=>vecI (J i)) W i=gs at *
      have hfew:=hg3.few
      by_cases hz:q2l I
      · have ea:gadd gs (vecI I) ((i/W:Nat):Int) ((i%W:Nat):Int) ((i%W:Nat)+1:Int)=gs:=by unfold gadd;rw [if_pos (vecI_zero.2 hz)]
        unfold q2l at hz
        (repeat ((try (conv=>whnf));(first |(refine ci _ ?_) |(refine stQ ?_))))
        conv=>whnf
        refine ⟨(i+1,st),⟨by omega,by dsimp only;rw [← hnext,ea];exact hg⟩,by dsimp only;omega,?_⟩
        dsimp only
        rw [← hnext,ea]
        ((refine q0h ?_);(conv=>whnf);(refine q0k (by rfl) (by rfl) flQ ?_))
        exact q0q (fun _ h=>h) (q0c rfl rfl q0g)
      · have hnz:=q7a hz
        (repeat ((try (conv=>whnf));(first |(refine ci _ ?_) |(with_reducible refine q1q hnz ?_) |(refine stQ ?_))))
        conv=>whnf
        have hlen8:=z4w J W i
        rw [hgs] at hlen8
        have cK:∀ {k:Nat},k<gs.length→∀ K:List Value→Prop,K [.int .u8 (keyI gs k 0),.int .u8 (keyI gs k 1),.int .u8 (keyI gs k 2),.int .u8 (keyI gs k 3),.int .u8 (keyI gs k 4),.int .u8 (keyI gs k 5),.int .u8 (keyI gs k 6),.int .u8 (keyI gs k 7)]→OwnCells (q0m (fun k=>st.B k::inkC (keyI gs k)) gs.length) (k*9+1) 8 K:=fun {k} hk K hK=>q23 (inkC (keyI gs k)) rfl (fun j v hj=>by
          have hj8:j<8:=(List.getElem?_eq_some_iff.1 hj).1
          rw [Nat.add_assoc,q3o (sz:=9) (fun _ _=>rfl) hk (by omega),Nat.add_comm 1 j];exact hj) hK
        refine q0y tab_ok (fun k=>k≤gidx (vecI I) gs) (fun (k:Nat)=>[(8,.val (.int .i64 k))]) (fun k=>[.muts st.S,.own 29 9 gs.length (q0m (fun k=>st.B k::inkC (keyI gs k)) gs.length)]) (fun k=>gs.length-k) 0 (Nat.zero_le _) ?_ ?_
        · ((refine q0h ?_);(conv=>whnf);(refine q0k (by rfl) (by rfl) flQ ?_))
          exact q0q (fun _ h=>h) (q0c rfl rfl q0g)
        · rintro k hk
          have hkl:=q9d (vecI I) gs
          rcases Nat.lt_or_ge k gs.length with h2 |h2
          · have ck:=cK h2
            have hp:=List.getElem?_eq_getElem h2
            have hv:=x5m hp (hlen8 _ (List.mem_of_getElem? hp))
            by_cases hs:q27 (keyI gs k) I
            · have hq:gidx (vecI I) gs=k:=by
                rcases Nat.lt_or_ge k (gidx (vecI I) gs) with h3 |h3
                · exact absurd (hv ▸ vecI_same.2 hs) (z4s h3 hp)
                · omega
              have hs':=hs
              unfold q27 at hs
              obtain ⟨L,hL⟩:=q72 (v:=vecI I) (gs:=gs) (by omega)
              rw [hq] at hL
              have ea:gadd gs (vecI I) ((i/W:Nat):Int) ((i%W:Nat):Int) ((i%W:Nat)+1:Int)=gs.set k (vecI I,addR L ((i/W:Nat):Int) ((i%W:Nat):Int) ((i%W:Nat)+1:Int)):=by unfold gadd;rw [if_neg (fun h=>hz (vecI_zero.1 h)),q8e (by rw [hq];exact hL),hq]
              have hr:=hg.rows k _ hL
              have hLn:=(hg3.keys _ (List.mem_of_getElem? hL)).2
              rcases q2h L with rfl |⟨K,r,rfl⟩
              · exact absurd rfl hLn
              obtain ⟨hKl,hup,_⟩:=hg3.runs _ (List.mem_of_getElem? hL)
              obtain ⟨g,cg,hB,hcg,hcm,hSg,m0,m2⟩:=hr.last
              have hr1:RowS st.S st.M 54 3 (.slice (some ⟨g,0,none⟩) (K.length+1) cg) (K.length+1) (q0n (K++[r])):=by
                rw [← hB];simpa using hr
              have cB:(q0m (fun k=>st.B k::inkC (keyI gs k)) gs.length)[k*9+0]? = some (.slice (some ⟨g,0,none⟩) (K.length+1) cg):=by
                rw [q3o (sz:=9) (fun _ _=>rfl) h2 (by omega),← hB];rfl
              have hzK:((((K.length+1:Nat):Int))-1).toNat=K.length:=by omega
              rw [← hzK] at m0 m2
              have hKl2:K.length+1≤i:=by simpa using hKl
              (repeat ((try (conv=>whnf));(first |(refine ck _ ?_) |(refine ci _ ?_) |(refine q0i _ cB ?_) |(refine stQ ?_))))
              conv=>whnf
              rw [hd,hm]
              have hur:=hup r (by simp)
              by_cases hj:r.y=((i/W:Nat):Int)∧r.x1=((i%W:Nat):Int)
              · rw [q1p (by omega) hj.1 (by omega)] at ea
                rw [show max r.x1 (((i%W:Nat):Int)+1)=((i%W:Nat):Int)+1 by omega] at ea
                (repeat ((try (conv=>whnf));(first |(refine q0d _ m0 ?_) |(refine q0d _ m2 ?_) |(refine stQ ?_) |(with_reducible refine q0e tab_ok Try.func32 (fun vs w=>by kernel_rfl) (by rfl) ?_))))
                conv=>whnf
                have hx:AV.val (.pointer (some (Addr.add (Addr.add ⟨g,0,none⟩ (((((K.length+1:Nat):Int))-1).toNat * 3)) 2)))=.val (.pointer (some ⟨g,0+((((K.length+1:Nat):Int))-1).toNat * 3+2,none⟩)):=by rw [q0r,q0r]
                refine q9v tab_ok 0 (by exact rfl) (Eq.trans (by exact rfl) hx) ?_
                conv=>whnf
                refine ⟨54,3,K.length+1,cg,q0n (K++[r]),hr1,by rw [q1b,List.length_append];show (0+((((K.length+1:Nat):Int))-1).toNat * 3+2)+1≤(K.length+1)*3;omega,fun M2 hM2 hr2=>?_⟩
                have hr4:RowS st.S M2 54 3 (.slice (some ⟨g,0,none⟩) (K.length+1) cg) (K.length+1) ((q0n (K++[r])).take (0+((((K.length+1:Nat):Int))-1).toNat * 3+2)++[.int .i64 (((i%W:Nat):Int)+1)]++(q0n (K++[r])).drop (0+((((K.length+1:Nat):Int))-1).toNat * 3+2+1)):=hr2
                rw [hzK,Nat.zero_add,z03] at hr4
                have hr3:RowS st.S M2 54 3 (st.B k) (K++([⟨((i/W:Nat):Int),r.x0,((i%W:Nat):Int)+1⟩]:List Run)).length (q0n (K++([⟨((i/W:Nat):Int),r.x0,((i%W:Nat):Int)+1⟩]:List Run))):=by
                  rw [← hj.1,hB,List.length_append]
                  exact hr4
                have hg4:=hg.put hL (by rw [hB];rfl) hM2 hr3
                conv=>whnf
                (repeat ((try (conv=>whnf));(refine stQ ?_)))
                conv=>whnf
                refine q20 (q58 h2).1 (q58 h2).2 ?_
                conv=>whnf
                rw [x2n hB]
                (repeat ((try (conv=>whnf));(refine stQ ?_)))
                conv=>whnf
                refine ⟨(i+1,⟨st.S,st.B,M2⟩),⟨by omega,by dsimp only;rw [← hnext,ea];exact hg4⟩,by dsimp only;omega,?_⟩
                dsimp only
                rw [← hnext,ea,q4v hL]
                ((refine q0h ?_);(conv=>whnf);(refine q0k (by rfl) (by rfl) flQ ?_))
                exact q0q (fun _ h=>h) (q0c (by simp) (by simp) q0g)
              · rw [q1n (by omega) (by omega)] at ea
                by_cases h5:r.y=((i/W:Nat):Int)
                · have h6:r.x1≠((i%W:Nat):Int):=fun h=>hj ⟨h5,h⟩
                  (repeat ((try (conv=>whnf));(first |(refine q0d _ m0 ?_) |(refine q0d _ m2 ?_) |(refine stQ ?_) |(with_reducible refine q0e tab_ok Try.func32 (fun vs w=>by kernel_rfl) (by rfl) ?_))))
                  conv=>whnf
                  refine q2o tab_ok 0 (by exact rfl) (by exact rfl) ?_
                  conv=>whnf
                  refine ⟨K.length+1,_,hr1,show (K.length+1+1)*24≤140737488355328 by omega,fun v2 S2 M2 hG2 hr2=>?_⟩
                  obtain ⟨A2,c4,rfl,_,_⟩:=hr2.isSl
                  have hg4:=hg.app (r:=⟨((i/W:Nat):Int),((i%W:Nat):Int),((i%W:Nat):Int)+1⟩) hL (by rw [hB];exact hG2) (by rw [q3t,List.length_append];exact hr2)
                  conv=>whnf
                  (repeat ((try (conv=>whnf));(refine stQ ?_)))
                  conv=>whnf
                  refine q20 (q58 h2).1 (q58 h2).2 ?_
                  conv=>whnf
                  (repeat ((try (conv=>whnf));(refine stQ ?_)))
                  conv=>whnf
                  refine ⟨(i+1,⟨S2,_,M2⟩),⟨by omega,by dsimp only;rw [← hnext,ea];exact hg4⟩,by dsimp only;omega,?_⟩
                  dsimp only
                  rw [← hnext,ea,q4v hL]
                  ((refine q0h ?_);(conv=>whnf);(refine q0k (by rfl) (by rfl) flQ ?_))
                  exact q0q (fun _ h=>h) (q0c (by simp) (by simp) q0g)
                · skip
                  (repeat ((try (conv=>whnf));(first |(refine q0d _ m0 ?_) |(refine q0d _ m2 ?_) |(refine stQ ?_) |(with_reducible refine q0e tab_ok Try.func32 (fun vs w=>by kernel_rfl) (by rfl) ?_))))
                  conv=>whnf
                  refine q2o tab_ok 0 (by exact rfl) (by exact rfl) ?_
                  conv=>whnf
                  refine ⟨K.length+1,_,hr1,show (K.length+1+1)*24≤140737488355328 by omega,fun v2 S2 M2 hG2 hr2=>?_⟩
                  obtain ⟨A2,c4,rfl,_,_⟩:=hr2.isSl
                  have hg4:=hg.app (r:=⟨((i/W:Nat):Int),((i%W:Nat):Int),((i%W:Nat):Int)+1⟩) hL (by rw [hB];exact hG2) (by rw [q3t,List.length_append];exact hr2)
                  conv=>whnf
                  (repeat ((try (conv=>whnf));(refine stQ ?_)))
                  conv=>whnf
                  refine q20 (q58 h2).1 (q58 h2).2 ?_
                  conv=>whnf
                  (repeat ((try (conv=>whnf));(refine stQ ?_)))
                  conv=>whnf
                  refine ⟨(i+1,⟨S2,_,M2⟩),⟨by omega,by dsimp only;rw [← hnext,ea];exact hg4⟩,by dsimp only;omega,?_⟩
                  dsimp only
                  rw [← hnext,ea,q4v hL]
                  ((refine q0h ?_);(conv=>whnf);(refine q0k (by rfl) (by rfl) flQ ?_))
                  exact q0q (fun _ h=>h) (q0c (by simp) (by simp) q0g)
            · have hns:=z01 hs
              have hne:k≠gidx (vecI I) gs:=fun e=>by
                obtain ⟨L,hL⟩:=q72 (v:=vecI I) (gs:=gs) (by omega)
                rw [← e,hp] at hL
                cases hL':gs[k] with
                | mk u M =>
                  rw [hL'] at hL hv
                  cases hL
                  exact hs (vecI_same.1 hv)
              (repeat ((try (conv=>whnf));(first |(refine ck _ ?_) |(refine ci _ ?_) |(with_reducible refine q1q hns ?_) |(refine stQ ?_))))
              conv=>whnf
              refine ⟨k+1,by omega,by omega,?_⟩
              ((refine q0h ?_);(conv=>whnf);(refine q0k (by rfl) (by rfl) flQ ?_))
              exact q0q (fun _ h=>h) (q0c rfl rfl q0g)
          · have hq:gidx (vecI I) gs=gs.length:=by omega
            obtain rfl:k=gs.length:=by omega
            have ea:gadd gs (vecI I) ((i/W:Nat):Int) ((i%W:Nat):Int) ((i%W:Nat)+1:Int)=gs++[(vecI I,[⟨((i/W:Nat):Int),((i%W:Nat):Int),((i%W:Nat):Int)+1⟩])]:=by unfold gadd;rw [if_neg (fun h=>hz (vecI_zero.1 h)),q8f hq]
            (repeat ((try (conv=>whnf));(first |(refine ci _ ?_) |(refine stQ ?_))))
            conv=>whnf
            obtain ⟨A0,c0,hn0⟩:∃ A0 c0,(Value.slice none 0 0)=.slice A0 0 c0:=⟨none,0,rfl⟩
            have hsn:q0m (fun j=>st.B j::inkC (keyI gs j)) gs.length++[Value.slice none 0 0,.int .u8 (I 0),.int .u8 (I 1),.int .u8 (I 2),.int .u8 (I 3),.int .u8 (I 4),.int .u8 (I 5),.int .u8 (I 6),.int .u8 (I 7)]=_:=x4d
            rw [hsn]
            have hpn:(q0m (fun j=>putV st.B gs.length (.slice none 0 0) j::inkC (keyI (gs++[(vecI I,[])]) j)) (gs.length+1))[gs.length*9+0]? = some (.slice A0 0 c0):=by
              rw [q3o (sz:=9) (fun _ _=>rfl) (by omega) (by omega),q1t,hn0];rfl
            (repeat ((try (conv=>whnf));(first |(refine q0i _ hpn ?_) |(refine stQ ?_))))
            conv=>whnf
            rw [hd,hm]
            (repeat ((try (conv=>whnf));(first |(refine stQ ?_) |(with_reducible refine q0e tab_ok Try.func32 (fun vs w=>by kernel_rfl) (by rfl) ?_))))
            conv=>whnf
            refine q2o tab_ok 0 (by exact rfl) (by exact rfl) ?_
            conv=>whnf
            have hnil:RowS st.S st.M 54 3 (.slice A0 0 c0) 0 (q0n []):=by rw [← hn0];exact RowS.nil _ _ _ _
            refine ⟨0,_,hnil,show (0+1)*24≤140737488355328 by omega,fun v2 S2 M2 hG3 hr2=>?_⟩
            obtain ⟨A2,c4,rfl,_,_⟩:=hr2.isSl
            have hLq:(gs++[(vecI I,([]:List Run))])[gs.length]? = some (vecI I,[]):=by simp
            have hg5:=(hg.key (v:=vecI I)).app (r:=⟨((i/W:Nat):Int),((i%W:Nat):Int),((i%W:Nat):Int)+1⟩) hLq (by rw [q1t,hn0];exact hG3) (by rw [q3t];exact hr2)
            rw [show (gs++[(vecI I,([]:List Run))]).set gs.length (vecI I,[]++[⟨((i/W:Nat):Int),((i%W:Nat):Int),((i%W:Nat):Int)+1⟩])=gs++[(vecI I,[⟨((i/W:Nat):Int),((i%W:Nat):Int),((i%W:Nat):Int)+1⟩])] by simp] at hg5
            conv=>whnf
            (repeat ((try (conv=>whnf));(refine stQ ?_)))
            conv=>whnf
            refine q20 (q58 (show gs.length<gs.length+1 by omega)).1 (q58 (show gs.length<gs.length+1 by omega)).2 ?_
            conv=>whnf
            (repeat ((try (conv=>whnf));(refine stQ ?_)))
            conv=>whnf
            refine ⟨(i+1,⟨S2,_,M2⟩),⟨by omega,by dsimp only;rw [← hnext,ea];exact hg5⟩,by dsimp only;omega,?_⟩
            dsimp only
            rw [← hnext,ea]
            have hks:keyI (gs++[(vecI I,([⟨((i/W:Nat):Int),((i%W:Nat):Int),((i%W:Nat):Int)+1⟩]:List Run))])=keyI (gs++[(vecI I,[])]):=x2o
            rw [hks]
            refine q0u 3 1 rfl rfl rfl rfl ?_
            conv=>whnf
            ((refine q0h ?_);(conv=>whnf);(refine q0k (by rfl) (by rfl) flQ ?_))
            exact q0q (fun _ h=>h) (q0c (by simp) (by simp) q0g)
    · obtain rfl:i=N:=by omega
      (repeat ((try (conv=>whnf));(refine stQ ?_)))
      conv=>whnf
      refine ⟨fun a=>.tup [a,.val (.bool true)],1,_,_,.pair (.val (.bool true)) (fun _=>rfl) rfl,rfl,rfl,?_⟩
      refine ⟨fun _=>rfl,rfl,st.B,rfl,fun k p hk=>?_⟩
      obtain ⟨q0,q1,q2,q3,q4⟩:=hg.piece hk
      exact ⟨q0,q1,q2,q3,q4⟩
end Go.Proofs.Ytbkhpddodmbdoaa
namespace Go.Proofs.Ytbkhpddodmbdoaa
open Go.RowKit
theorem x43 {β γ:Nm} {q m:Nat} (hle:β.le γ) (hq:∀ v,β q=some v→γ m=some v):(β.mv q m).le γ:=fun j v hj=>by
  unfold Nm.mv at hj
  split at hj
  · rename_i e;subst e;exact hq v hj
  · split at hj
    · cases hj
    · exact hle j v hj
theorem HR.mvAll {w0:World} {G0:Mem} {β:Nm} {hp:List Blk} {G:Mem} {w:World} (hr:HR w0 G0 β hp G w) {q m:Nat} (hqm:q≠m) (hle:(β.mv q m).le β):HR w0 G0 β (hp.map (Blk.mv q m)) G w:=by
  refine ⟨hr.below,hr.hold,hr.sub,hr.grow,fun j y hj=>?_,fun i j y y' x x' b hne hi hj hx hx' hl hl' hy=>?_,x47 hr.wrt (fun x S e=>by cases x <;> first |exact e |cases e)⟩
  · obtain ⟨x,h1,h2⟩:=hr.blk j y hj
    refine ⟨x.mv q m,by rw [List.getElem?_map,h1];rfl,?_⟩
    cases x with
    | gone=>trivial
    | muts S=>exact h2.elim
    | cells t l =>
      obtain ⟨b,c,q1,q2,q3,q4,q5⟩:=h2
      exact ⟨b,c,q1,q2,q3,q4,AV.rels_mono hle _ _ (AV.rels_mv hqm _ _ q5)⟩
    | own e sz n xs=>exact h2
    | lp i fr st p =>
      obtain ⟨q1,q2,q3,tm,q4,q5⟩:=h2
      exact ⟨q1,q2,q3,tm,q4,AV.rels_mono hle _ _ (AV.rels_mv hqm _ _ q5)⟩
    | mp f ks vs =>
      obtain ⟨b,ys,q1,q2,q3,q4,q5,q6⟩:=h2
      exact ⟨b,ys,q1,q2,q3,q4,q5,AV.rels_mono hle _ _ (AV.rels_mv hqm _ _ q6)⟩
  · rw [List.getElem?_map] at hx hx'
    cases h1:hp[i]? with
    | none=>rw [h1] at hx;cases hx
    | some z =>
      cases h2:hp[j]? with
      | none=>rw [h2] at hx';cases hx'
      | some z' =>
        rw [h1] at hx;rw [h2] at hx'
        simp only [Option.map_some,Option.some.injEq] at hx hx'
        subst hx;subst hx'
        rw [Blk.mv_live] at hl hl'
        exact hr.inj i j y y' z z' b hne hi hj h1 h2 hl hl' hy
theorem HR.lost {w0:World} {G0:Mem} {β:Nm} {hp:List Blk} {G:Mem} {w:World} (hr:HR w0 G0 β hp G w) {q:Nat} (hq:β q=none) {E:TypeId} {sz n:Nat} {xs:List Value}:HR w0 G0 β (hp.set q .gone++[.own E sz n xs]) G w:=by
  have get:∀ j y,β j=some y→(hp.set q .gone++[.own E sz n xs])[j]? = hp[j]?:=fun j y hj=>by
    obtain ⟨x,h1,_⟩:=hr.blk j y hj
    have hlt:=(List.getElem?_eq_some_iff.1 h1).1
    rw [List.getElem?_append_left (by simpa using hlt),List.getElem?_set_ne (fun e=>by subst e;rw [hq] at hj;cases hj)]
  refine ⟨hr.below,hr.hold,hr.sub,hr.grow,fun j y hj=>?_,fun i j y y' x x' b hne hi hj hx hx' hl hl' hy=>?_,fun k S hk b hb=>?_⟩
  · obtain ⟨x,h1,h2⟩:=hr.blk j y hj
    exact ⟨x,by rw [get j y hj];exact h1,h2⟩
  · rw [get i y hi] at hx;rw [get j y' hj] at hx'
    exact hr.inj i j y y' x x' b hne hi hj hx hx' hl hl' hy
  · rw [List.getElem?_append] at hk
    split at hk
    · rw [List.getElem?_set] at hk
      split at hk
      · split at hk <;> cases hk
      · exact hr.wrt k S hk b hb
    · generalize k-(hp.set q .gone).length=i at hk
      cases i with
      | zero=>cases hk
      | succ i=>cases hk
theorem x52 {n0 q m:Nat} {fr fr':List AV} {hp hp':List Blk} {G G':Mem} {E:TypeId} {sz n:Nat} {xs:List Value} (hm:hp.length=m) (hq:nthB hp q=.own E sz n xs) (h:Le n0 (AV.mvs q m fr) ((mvB q m hp).set q .gone++[.own E sz n xs]) G fr' hp' G'):Le n0 fr hp G fr' hp' G':=by
  have hkx:=q0x hq rfl
  have hql:=(List.getElem?_eq_some_iff.1 hkx).1
  have hqm:q≠m:=by omega
  have hmap:(mvB q m hp).set q .gone++[Blk.own E sz n xs]=(hp.set q .gone++[Blk.own E sz n xs]).map (Blk.mv q m):=by
    rw [q9a,List.map_append,List.map_set];rfl
  rw [hmap] at h
  constructor
  intro w0 G0 β0 β w ys hb hle hr hfr
  have hfm:β m=none:=hr.fresh (Nat.le_of_eq hm)
  cases hβ:β q with
  | none =>
    have hl:(β.mv q m).le β:=x43 (Nm.le_refl _) fun v hv=>by rw [hβ] at hv;cases hv
    exact h.out w0 G0 β0 β w ys hb hle ((hr.lost hβ).mvAll hqm hl) (AV.rels_mono hl _ _ (AV.rels_mv hqm _ _ hfr))
  | some v =>
    obtain ⟨x1,hx1,hx2⟩:=hr.blk q v hβ
    rw [hkx] at hx1;cases hx1
    have hlp:β.le (β.put m v):=Nm.le_put v hfm
    have h1:=hr.moveName hβ hkx rfl (w':=w) ⟨rfl,rfl,rfl,Nat.le_refl _,fun _ _ _=>rfl⟩ (z:=v) (fun b hb=>.inr hb) hm.symm (u:=.own E sz n xs) hx2
    have hl:((β.put m v).mv q m).le (β.put m v):=x43 (Nm.le_refl _) fun u hu=>by
      rw [Nm.put_ne _ _ hqm,hβ] at hu;cases hu;exact Nm.put_same _ _ _
    exact h.out w0 G0 β0 (β.put m v) w ys hb (Nm.le_trans hle hlp) (h1.mvAll hqm hl) (AV.rels_mono hl _ _ (AV.rels_mv hqm _ _ (AV.rels_mono hlp _ _ hfr)))
theorem x2p (q:Nat) {n0:Nat} {fr fr':List AV} {hp hp':List Blk} {G G':Mem} {E:TypeId} {sz n:Nat} {xs:List Value} (hq:nthB hp q=.own E sz n xs)
    (h:lenF hp fun m=>mvsF q m fr fun fr1=>mvBF q m hp fun hp1=>setF hp1 q .gone fun hp2=>catF hp2 [.own E sz n xs] fun hp3=>Le n0 fr1 hp3 G fr' hp' G'):Le n0 fr hp G fr' hp' G':=by
  have h0:=q1h h
  rw [q71,z4o,q1g,q01] at h0
  exact x52 rfl hq h0
end Go.Proofs.Ytbkhpddodmbdoaa
