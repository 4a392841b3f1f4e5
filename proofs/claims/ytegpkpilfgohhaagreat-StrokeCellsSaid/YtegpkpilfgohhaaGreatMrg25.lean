/-
  Merged: XFilled, XOr, XJoinCmp, XJoin, XLoopFrz.
-/
import Derived.Sort.Grow
import Derived.Deep.Draws
import Derived.Shelf.SlicesE.Clone
import Derived.Test.YtegpkpilfgohhaaGreatMrg24
import Derived.Test.YtegpkpilfgohhaaGreatMrg16
import Derived.Test.YtegpkpilfgohhaaGreatMrg13
import Derived.Test.YtegpkpilfgohhaaGreatMrg8
import Derived.Test.YtegpkpilfgohhaaGreatMrg7
import Derived.Test.YtegpkpilfgohhaaGreatShelf
import Derived.Test.YtegpkpilfgohhaaGreatMrg6
import Derived.Test.YtegpkpilfgohhaaGreatMrg23
set_option linter.unusedVariables false
set_option linter.unusedSimpArgs false
set_option linter.unnecessarySimpa false
namespace Go.Proofs.YtegpkpilfgohhaaGreat
open Go.RowKit
set_option maxRecDepth 20000
theorem RunsM.flatF {G:Mem} {A:Option Addr} {L:List Run} (h:RunsM G A L) (hne:L≠[]):∃ p:Addr,A=some p∧∀ K:List Value→Prop,K (q08 L)→OldCells G p (L.length*3) K:=by
  cases L with
  | nil=>exact absurd rfl hne
  | cons r l =>
    obtain ⟨b,off,rfl,_⟩:=h 0 r (by simp)
    refine ⟨_,rfl,fun K k=>q58 _ (q2m _) (fun j u hj=>?_) k⟩
    have hlt:=(List.getElem?_eq_some_iff.1 hj).1
    rw [q2m] at hlt
    obtain ⟨q,hq⟩:∃ q,(r::l)[j/3]? = some q:=⟨_,List.getElem?_eq_getElem (by omega)⟩
    obtain ⟨b',off',he,c0,c1,c2⟩:=h (j/3) q hq
    cases he
    obtain ⟨d0,d1,d2⟩:=q92 hq
    rw [q02]
    have hm:j%3=0∨j%3=1∨j%3=2:=by omega
    rcases hm with h0 |h0 |h0
    · have e:j/3*3=j:=by omega
      rw [e] at c0 d0;rw [hj] at d0;cases d0;exact c0
    · have e:j/3*3+1=j:=by omega
      rw [Nat.add_assoc,e] at c1;rw [e] at d1;rw [hj] at d1;cases d1;exact c1
    · have e:j/3*3+2=j:=by omega
      rw [Nat.add_assoc,e] at c2;rw [e] at d2;rw [hj] at d2;cases d2;exact c2
theorem RunsM.srcF {G:Mem} {A:Option Addr} {L:List Run} (h:RunsM G A L) {K:Nat→List Value→Prop} (k:K L.length (q08 L)):SrcV G A L.length 3 K:=by
  refine ⟨q08 L,q2m L,fun hn=>?_,z55,k⟩
  obtain ⟨p,h1,h2⟩:=h.flatF (by intro e;subst e;simp at hn)
  obtain ⟨vs,⟨h3,h4⟩,h5⟩:=h2 (fun vs=>vs=q08 L) rfl
  exact ⟨p,h1,h5 ▸ h4⟩
section
variable {G:Mem} {A:Option Addr} {n c:Nat} {L:Nat→LineD} {odd:Bool}
end
end Go.Proofs.YtegpkpilfgohhaaGreat
namespace Go.Proofs.YtegpkpilfgohhaaGreat
open Go.RowKit
set_option maxRecDepth 20000
def orI (a c:Int):Int:=if a=0 then c else a
end Go.Proofs.YtegpkpilfgohhaaGreat
namespace Go.Proofs.YtegpkpilfgohhaaGreat
open Go.RowKit Go.Shelf Go.Lib Go.Sort
set_option maxRecDepth 20000
set_option maxHeartbeats 2000000 in
theorem x74 (b:Nat) (a c:Int) (W:World) (h0:W.cell? ⟨b,0,none⟩=some (.int .i64 a)) (h1:W.cell? ⟨b,1,none⟩=some (.int .i64 c)) :
    Calls Tryz.prog 46 #[.slice (some ⟨b,0,none⟩) 2 2] W fun e w'=>e=.returned (.int .i64 (orI a c))∧∃ q,w'=W.drewN q:=by
  go_enter Tryz.func46,Tryz.ntmps46
  by_cases ha:a=0
  · subst ha
    go_wp2
    refine wp_loop_rounds 3 ?_
    rw [rounds_succ]
    go_wp2
    repeat any_goals (rw [rounds_succ];go_wp2)
    all_goals go_ret
    all_goals ((try have hc:c=0:=by simpa using ‹(c != 0)=false›);(try subst hc);exact ⟨by simp [orI],0,rfl⟩)
  · go_wp2
    refine wp_loop_rounds 3 ?_
    rw [rounds_succ]
    go_wp2
    repeat any_goals (rw [rounds_succ];go_wp2)
    all_goals go_ret
    all_goals exact ⟨by simp [orI,ha],0,rfl⟩
structure BRun where
  r:Run
  hy:-1152921504606846976≤r.y∧r.y≤1152921504606846976
  hx:-1152921504606846976≤r.x0∧r.x0≤1152921504606846976
instance:Inhabited BRun:=⟨⟨⟨0,0,0⟩,by simp,by simp⟩⟩
def encB (r:BRun):List Value:=[.int .i64 r.r.y,.int .i64 r.r.x0,.int .i64 r.r.x1]
def cmpB (r s:BRun):Int:=orI (r.r.y-s.r.y) (r.r.x0-s.r.x0)
set_option maxHeartbeats 2000000 in
theorem x75 (x y:BRun) (W:World):Calls Tryz.prog 45 #[.agg (encB x).toArray,.agg (encB y).toArray] W fun e w'=>e=.returned (.int .i64 (cmpB x y))∧∃ q os',w'=grow (W.drewN q) os':=by
  obtain ⟨⟨a,b,c⟩,h1,h2⟩:=x
  obtain ⟨⟨d,e,f⟩,h3,h4⟩:=y
  simp only at h1 h2 h3 h4
  have hcon:=fun k W' h h'=>x74 k (a-d) (b-e) W' h h'
  simp only [cmpB,encB]
  generalize hr:orI (a-d) (b-e)=r at hcon
  have w1:IntKind.i64.wrap (a-d)=a-d:=IntWalk.i64_in _ (by omega)
  have w2:IntKind.i64.wrap (b-e)=b-e:=IntWalk.i64_in _ (by omega)
  show Calls Tryz.prog 45 #[.agg #[.int .i64 a,.int .i64 b,.int .i64 c],.agg #[.int .i64 d,.int .i64 e,.int .i64 f]] W _
  go_enter Tryz.func45,Tryz.ntmps45
  go_wp2_with (go_at_call 46;refine (hcon _ _ (by go_simp) (by go_simp)).mono ?_;rintro e w' ⟨rfl,q,rfl⟩)
  go_ret
  exact ⟨rfl,q,_,by rw [alloc_eq_grow,alloc_eq_grow,alloc_eq_grow,grow_grow,grow_grow];rfl⟩
end Go.Proofs.YtegpkpilfgohhaaGreat
namespace Go.Proofs.YtegpkpilfgohhaaGreat
open Go.RowKit Go.Shelf Go.Lib Go.Sort
set_option maxRecDepth 20000
noncomputable def runI:TypeInfo:=(Tryz.prog.info? 74).get (by kernel_rfl)
theorem x2c {A:Option Addr} {L:List Run} {c:Nat} {G:Mem} (h:RowM G A (q08 L)) (hl:L.length≤1000000000000) :
    q57 Tryz.prog 43 [.val (.slice A L.length c)] G id 74 3 L.length (q08 L):=by
  intro w vs hG ha
  simp only [AV.rels,AV.rel] at ha
  obtain ⟨v,ts,hvs,rfl,rfl⟩:=ha
  have e:vs=#[.slice A L.length c]:=Array.toList_inj.1 (by rw [hvs])
  subst e
  rcases h with ⟨rfl,h2⟩ |⟨b,off,rfl,h2⟩
  · have hn:L.length=0:=by have:=q2m L;rw [h2] at this;simp at this;omega
    refine (AnyE.slices_Clone_nil Tryz.cloneRun L.length c w).mono ?_
    rintro e w' ⟨rfl,rfl⟩
    refine ⟨_,.slice none 0 0,rfl,by simp only [id,AV.rel],?_,Below.refl _ _⟩
    rw [h2,hn]
    exact World.ownsRow_nil _ _ _ _
  · refine (AnyE.slices_Clone Tryz.cloneRun runI (.agg #[.int .i64 0,.int .i64 0,.int .i64 0]) 3 24 (by kernel_rfl) (by kernel_rfl) (by kernel_rfl) (by kernel_rfl) rfl (by decide) Tryz.sizeOf74 b off L.length c (q08 L) w (q2m L) (by unfold maxLen;omega) (by omega) (fun j u hj=>?_) z55).mono ?_
    · exact hG.cell (h2 j u hj)
    · rintro e w' ⟨v',rfl,h3,_,h4⟩
      exact ⟨_,v',rfl,by simp only [id,AV.rel],h3,h4⟩
theorem x3d:∀ (L:List Run),(∀ r∈L,(-1152921504606846976≤r.y∧r.y≤1152921504606846976)∧(-1152921504606846976≤r.x0∧r.x0≤1152921504606846976))→∃ l:List BRun,l.map BRun.r=L
  | [],_=>⟨[],rfl⟩
  | r::L,h=>by
    obtain ⟨l,hl⟩:=x3d L fun s hs=>h s (by simp [hs])
    have:=h r (by simp)
    exact ⟨⟨r,this.1,this.2⟩::l,by simp [hl]⟩
theorem x6g (l:List BRun):l.flatMap encB=q08 (l.map BRun.r):=by
  unfold q08 encB;rw [List.flatMap_map]
theorem lt_cmp {a b:BRun}:ltOf cmpB b a=false↔leR a.r b.r:=by
  unfold ltOf cmpB leR orI
  rw [decide_eq_false_iff_not]
  split <;> omega
theorem x9n:SWO (ltOf cmpB) where
  irrefl x:=by rw [lt_cmp];unfold leR;omega
  trans x y z h1 h2:=by
    rw [← Bool.not_eq_false] at *
    rw [lt_cmp] at *
    unfold leR at *;omega
  ntrans x y z h1 h2:=by rw [lt_cmp] at *;unfold leR at *;omega
set_option maxHeartbeats 4000000 in
theorem x4e {A:Option Addr} {L:List Run} {c:Nat} {G:Mem} (h:RowM G A (q08 L)) (hb:∀ r∈L,(-1152921504606846976≤r.y∧r.y≤1152921504606846976)∧(-1152921504606846976≤r.x0∧r.x0≤1152921504606846976)) (hl:L.length≤1000000000000) :
    q57 Tryz.prog 23 [.val (.slice A L.length c)] G id 74 3 (q38 L).length (q08 (q38 L)):=by
  have hc:=x2c (c:=c) h hl
  obtain ⟨l,rfl⟩:=x3d L hb
  rw [← x6g,List.length_map] at hc
  rw [List.length_map] at hl
  refine q9b tab_ok Tryz.func23 (.alone fun _=>rfl) ?_
  rw [List.length_map]
  (repeat ((try (conv=>whnf));(refine stQ ?_)))
  conv=>whnf
  refine z0c (fun vs w=>by kernel_rfl) (.alone fun _=>rfl) (by kernel_rfl) hc ?_
  (repeat ((try (conv=>whnf));(refine stQ ?_)))
  conv=>whnf
  refine z4f Tryz.sortRun rfl (fun vs w=>by kernel_rfl) Tryz.isAgg74 Tryz.sizeOf74 (fun _=>rfl) (fun x v hv=>by simp [encB] at hv;rcases hv with rfl |rfl |rfl <;> rfl) x9n (fun vs w=>by kernel_rfl) x75 (by exact rfl) (by omega) fun l' hp hs=>?_
  (repeat ((try (conv=>whnf));(refine stQ ?_)))
  conv=>whnf
  have hpl:=hp.length_eq
  refine q2k tab_ok (fun i out=>i≤l'.length∧out=jn [] ((l'.map BRun.r).take i)) (fun (i:Nat) out=>[(12,.val (.int .i64 i))]) (fun i out=>[.own 74 3 l'.length (l'.flatMap encB),.cells 87 [.own 2],.own 74 3 out.length (q08 out)]) (fun i _=>l'.length-i) 0 [] ⟨Nat.zero_le _,rfl⟩ ?_ ?_
  · refine q15 74 3 ?_
    conv=>whnf
    ((refine q0g ?_);(conv=>whnf);(refine q0h (by rfl) (by rfl) flQ ?_))
    exact q0d rfl rfl (q0c (by exact flQ) (q0d rfl rfl q0e))
  · rintro i out ⟨hi,ho⟩
    rcases Nat.lt_or_ge i l'.length with h1 |h1
    · obtain ⟨q,hq⟩:∃ q,l'[i]? = some q:=⟨l'[i],List.getElem?_eq_getElem h1⟩
      have hqr:(l'.map BRun.r)[i]? = some q.r:=by rw [List.getElem?_map,hq];rfl
      have hst:=x80 hqr
      rw [← ho] at hst
      have hol:out.length≤1000000000000:=by
        have:=x0h ((l'.map BRun.r).take i) []
        rw [← ho,List.length_take,List.length_map] at this
        simp at this;omega
      obtain ⟨c0,c1,c2⟩:=q92 hqr
      rw [← x6g] at c0 c1 c2
      have e3:∀ K:List Value→Prop,K [.int .i64 q.r.y,.int .i64 q.r.x0,.int .i64 q.r.x1]→OwnCells (l'.flatMap encB) ((i:Int).toNat * 3) 3 K:=fun K k=>z17 _ rfl (fun j u hj=>by
        rw [Int.toNat_natCast]
        match j,hj with
        | 0,hj=>simp at hj;subst hj;exact c0
        | 1,hj=>simp at hj;subst hj;exact c1
        | 2,hj=>simp at hj;subst hj;exact c2) k
      have hqy:=q.hy
      have hqx:=q.hx
      generalize hqq:q.r=s at *
      by_cases hx:s.x1≤s.x0
      · rw [q7i hx] at hst
        (repeat ((try (conv=>whnf));(first |(with_reducible refine e3 _ ?_) |(refine stQ ?_) |(with_reducible refine q0f tab_ok Tryz.func47 (fun vs w=>by kernel_rfl) (by rfl) ?_))))
        conv=>whnf
        refine ⟨i+1,out,⟨by omega,hst.symm⟩,by omega,?_⟩
        ((refine q0g ?_);(conv=>whnf);(refine q0h (by rfl) (by rfl) flQ ?_))
        exact q0d rfl rfl (q0c (by exact flQ) (q0d rfl rfl q0e))
      · rcases q6p out with hout |⟨K,r,hout⟩
        · have hlen:out.length=0:=by rw [hout];rfl
          rw [hout,q6h hx] at hst
          (repeat ((try (conv=>whnf));(first |(with_reducible refine e3 _ ?_) |(refine stQ ?_) |(with_reducible refine q0f tab_ok Tryz.func47 (fun vs w=>by kernel_rfl) (by rfl) ?_))))
          conv=>whnf
          refine ⟨i+1,[⟨s.y,s.x0,s.x1⟩],⟨by omega,hst.symm⟩,by omega,?_⟩
          refine q0k 5 2 rfl rfl rfl rfl ?_
          conv=>whnf
          ((refine q0g ?_);(conv=>whnf);(refine q0h (by rfl) (by rfl) flQ ?_))
          exact q0d rfl rfl (q0c (by exact flQ) (q0d (by simp only [hlen];rfl) (by rw [hout];rfl) q0e))
        · have hlen:out.length=K.length+1:=by rw [hout];simp
          have hix:(((out.length:Nat):Int)-1).toNat=K.length:=by omega
          obtain ⟨q0,q1,q2⟩:=z8h K r
          rw [← hout,← hix] at q0 q1 q2
          rw [← Nat.add_zero ((((out.length:Nat):Int)-1).toNat * 3)] at q0
          by_cases hj1:r.y=s.y
          · by_cases hj2:s.x0≤r.x1
            · rw [hout,q5j hx hj1 hj2] at hst
              (repeat ((try (conv=>whnf));(first |(with_reducible refine e3 _ ?_) |(refine q1a (.int .i64 r.y) q0 ?_) |(refine q1a (.int .i64 r.x1) q2 ?_) |(refine stQ ?_) |(with_reducible refine q0f tab_ok Tryz.func47 (fun vs w=>by kernel_rfl) (by rfl) ?_))))
              conv=>whnf
              refine mustP.mk (by rw [hix,q2m,hlen];simp;omega) ?_
              (repeat ((try (conv=>whnf));(first |(with_reducible refine e3 _ ?_) |(refine q1a (.int .i64 r.y) q0 ?_) |(refine q1a (.int .i64 r.x1) q2 ?_) |(refine stQ ?_) |(with_reducible refine q0f tab_ok Tryz.func47 (fun vs w=>by kernel_rfl) (by rfl) ?_))))
              conv=>whnf
              refine ⟨i+1,K++[⟨s.y,r.x0,max r.x1 s.x1⟩],⟨by omega,hst.symm⟩,by omega,?_⟩
              ((refine q0g ?_);(conv=>whnf);(refine q0h (by rfl) (by rfl) flQ ?_))
              exact q0d rfl rfl (q0c (by exact flQ) (q0d (by rw [hlen];simp) (by rw [hix,hout,← hj1];exact x0s K r _) q0e))
            · rw [hout,q4t hx (fun h=>hj2 h.2)] at hst
              (repeat ((try (conv=>whnf));(first |(with_reducible refine e3 _ ?_) |(refine q1a (.int .i64 r.y) q0 ?_) |(refine q1a (.int .i64 r.x1) q2 ?_) |(refine stQ ?_) |(with_reducible refine q0f tab_ok Tryz.func47 (fun vs w=>by kernel_rfl) (by rfl) ?_))))
              conv=>whnf
              refine ⟨i+1,K++[r]++[⟨s.y,s.x0,s.x1⟩],⟨by omega,hst.symm⟩,by omega,?_⟩
              refine q0k 5 2 rfl rfl rfl rfl ?_
              conv=>whnf
              ((refine q0g ?_);(conv=>whnf);(refine q0h (by rfl) (by rfl) flQ ?_))
              exact q0d rfl rfl (q0c (by exact flQ) (q0d (by rw [hlen];simp) (by rw [hout,q2e (K++[r])];rfl) q0e))
          · rw [hout,q4t hx (fun h=>hj1 h.1)] at hst
            (repeat ((try (conv=>whnf));(first |(with_reducible refine e3 _ ?_) |(refine q1a (.int .i64 r.y) q0 ?_) |(refine q1a (.int .i64 r.x1) q2 ?_) |(refine stQ ?_) |(with_reducible refine q0f tab_ok Tryz.func47 (fun vs w=>by kernel_rfl) (by rfl) ?_))))
            conv=>whnf
            refine ⟨i+1,K++[r]++[⟨s.y,s.x0,s.x1⟩],⟨by omega,hst.symm⟩,by omega,?_⟩
            refine q0k 5 2 rfl rfl rfl rfl ?_
            conv=>whnf
            ((refine q0g ?_);(conv=>whnf);(refine q0h (by rfl) (by rfl) flQ ?_))
            exact q0d rfl rfl (q0c (by exact flQ) (q0d (by rw [hlen];simp) (by rw [hout,q2e (K++[r])];rfl) q0e))
    · obtain rfl:i=l'.length:=by omega
      have he:jn [] ((l'.map BRun.r).take l'.length)=q38 (l.map BRun.r):=by
        rw [List.take_of_length_le (by simp)]
        refine z62 (hp.map _) ?_
        rw [List.pairwise_map]
        exact hs.imp fun h=>lt_cmp.1 h
      rw [he] at ho
      subst ho
      (repeat ((try (conv=>whnf));(refine stQ ?_)))
      conv=>whnf
      exact .inl ⟨2,rfl,rfl⟩
end Go.Proofs.YtegpkpilfgohhaaGreat
namespace Go.Proofs.YtegpkpilfgohhaaGreat
open Go.RowKit
theorem z3b {P:Program} {n0:Nat} {b:Code} {fr:List AV} {hp:List Blk} {G:Mem} {Q:Post} (k:Nat) {E:TypeId} {sz n:Nat} {xs:List Value} (hk:nthB hp k=.own E sz n xs) (hin:q33 k fr=true)
    (h:∀ A cap G',G.le G'→n≤cap→cap≤maxLen→FlatM G' A xs→q53 k (.slice A n cap) fr fun fr'=>z0t k (.slice A n cap) hp fun hp1=>setF hp1 k .gone fun hp2=>LoopP P n0 b fr' hp2 G' Q):LoopP P n0 b fr hp G Q:=by
  refine ⟨fun w0 G0 ds β0 β a w m ro hfit hb hle hr hf hd bf kk cs hbf=>?_⟩
  obtain ⟨v,hv⟩:=q4q (hp:=hp) hf (q3e hin)
  obtain ⟨A,cap,G',rfl,hle',hn,hm,hF,hr'⟩:=hr.freeze hv hk
  have h3:=h A cap G' hle' hn hm hF
  rw [q6q,q72,q1c] at h3
  have hr2:=hr'.plug hv
  have e:(hp.set k .gone).map (Blk.plug k (.slice A n cap))=(hp.map (Blk.plug k (.slice A n cap))).set k .gone:=by
    rw [List.map_set];rfl
  rw [e] at hr2
  exact h3.out w0 G0 ds β0 β a w m ro hfit hb hle hr2 (q39 hv hf) hd bf kk cs hbf
end Go.Proofs.YtegpkpilfgohhaaGreat
