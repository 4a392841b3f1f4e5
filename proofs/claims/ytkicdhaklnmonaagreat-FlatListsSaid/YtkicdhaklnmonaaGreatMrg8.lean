/-
  Merged: XHead, XCompose, XBetween, XMixed, XPaint.
-/
import Derived.Test.YtkicdhaklnmonaaGreatMrg7
import Derived.Test.YtkicdhaklnmonaaGreatMrg6
set_option linter.unusedVariables false
set_option linter.unusedSimpArgs false
set_option linter.unnecessarySimpa false
namespace Go.Proofs.YtkicdhaklnmonaaGreat
open Go.RowKit
def x4u (ops:List Oper) (N:Nat):Bool :=
  Region.noSelect ops.toArray&&decide (N<ops.length)&&Region.sinkB .any ops.toArray N&&Region.chainB .any ops.toArray N&&q9l .any ops.toArray (Region.seqB .any ops.toArray (ops.length-N) N) N 0 (Array.replicate ops.length false) &&
    q70 (ops.take N)
theorem z7b {P:Program} {id:Nat} {Q:Exit→Act→World→Prop} {a:Act} {w:World} {l:List Oper} (N:Nat) (A:Act) (hm:P.follows .mixedOrders=true) (hB:x4u l N=true)
    (hlen:z9q a.tmps.size (l.take N)=true)
    (h:∀ F:Fam w.drew,wpQuiet P l.toArray (fun w'=>∃ x,w'=F.f x) (fun a'=>a'=A) (l.take N) a)
    (hend:∀ w',Below w.heap.size w w'→wpList P l.toArray Q (l.drop N) A w') :
    (Code.region id l.toArray true).wp P Q a w:=by
  simp only [x4u,Bool.and_eq_true,decide_eq_true_eq] at hB
  obtain ⟨⟨⟨⟨⟨hsel,hn⟩,hs⟩,hc⟩,hlex⟩,hdd⟩:=hB
  have htl:(l.take N).length=N:=by simp;omega
  have hH:=z8k (P:=P) (ops:=l.toArray) (w0:=w.drew) hdd hlen ⟨v0b (Below.refl _ _)⟩ h
  have inv0:HeadInv .any l.toArray N (Array.replicate l.length false) :=
    ⟨by simp,fun j oj _ hl=>(by rw [getD_replicate_false] at hl;cases hl),fun t _ ht=>getD_in (by simpa using ht) (getD_replicate_false _ _)⟩
  have G:=z8l (P:=P) (md:=.any) (w0:=w.drew) (mk:=fun _=>none) (N:=N) (n:=N) (m:=0) (E:=Region.seqB .any l.toArray (l.length-N) N) (Lq:=fun a'=>a'=A)
    (L:=fun listed a'=>Region.seqB .any l.toArray (l.length-N) N listed=true∧a'=A) hsel hs hc (by simpa using hn) (Nat.le_refl _) (fun _ _=>rfl)
    (fun listed a' _ hq he=>⟨he,hq⟩) (fun listed a' hL=>seqB_ready hL.1) (l.take N) 0 (Array.replicate l.length false) a (fun j hj=>by
      have hj':j<N:=by rw [htl] at hj;exact hj
      simp [hj']) (by simpa using htl) inv0 (by rw [htl];exact hlex) hH
  refine wp_region_any hm ?_
  have hfin:=q7p (P:=P) (md:=.any) (w0:=w.drew) (mk:=fun _=>none) (n:=N) (g:=l.length-N) (Q':=Q) (fun i R h=>by cases h) (fun i R h=>by cases h) (fun j R oj d h=>by cases h)
    (fun listed a' w' hL ht=>by
      obtain ⟨hsq,rfl⟩:=hL
      have:=wpAny_of_seq (P:=P) (ops:=l.toArray) (md:=.any) (Q':=Q) (l.drop N) N listed a' w' (fun j=>by simp [List.getElem?_drop]) (by
        rw [List.length_drop];exact hsq) (hend w' ⟨ht.below.os,ht.below.tape,ht.below.output,ht.below.size,ht.below.block⟩)
      rw [List.length_drop] at this
      exact this)
    _ _ _ _ ⟨Below.refl _ _,(fun i R h=>by cases h),(fun i R o d h=>by cases h)⟩ G
  rw [htl,Nat.add_zero,show N+(l.length-N)=l.length by omega] at hfin
  simpa using hfin
theorem head {P:Program} {id:Nat} {Q:Exit→Act→World→Prop} {a:Act} {w:World} {l:List Oper} (N:Nat) (hm:P.follows .mixedOrders=true) (hB:x4u l N=true)
    (hlen:z9q a.tmps.size (l.take N)=true)
    (h:∃ A:Act,(∀ F:Fam w.drew,wpQuiet P l.toArray (fun w'=>∃ x,w'=F.f x) (fun a'=>a'=A) (l.take N) a)∧∀ w',Below w.heap.size w w'→wpList P l.toArray Q (l.drop N) A w') :
    (Code.region id l.toArray true).wp P Q a w:=by
  obtain ⟨A,h1,h2⟩:=h
  exact z7b N A hm hB hlen h1 h2
end Go.Proofs.YtkicdhaklnmonaaGreat
namespace Go.Proofs.YtkicdhaklnmonaaGreat
open Go.RowKit
end Go.Proofs.YtkicdhaklnmonaaGreat
namespace Go.Proofs.YtkicdhaklnmonaaGreat
open Go.RowKit
def betw (S T:Nat→Int) (t:Int) (o:Nat):Int :=
  if near ((255-t)*S 0+t * T 0) 255=0 then 0
  else if o=0 then near ((255-t)*S 0+t * T 0) 255
  else near ((255-t)*S 0*S o+t * T 0*T o) ((255-t)*S 0+t * T 0)
theorem mulN {a b A B:Int} (ha:0≤a∧a≤A) (hb:0≤b∧b≤B):0≤a*b∧a*b≤A*B :=
  ⟨Int.mul_nonneg ha.1 hb.1,Int.mul_le_mul ha.2 hb.2 hb.1 (by omega)⟩
theorem z8m (b:Int) (hb:1≤b):near 0 b=0:=by
  have:=q3a 0 b 0 hb (by omega) (by omega);omega
theorem x6m {p q x y:Int} (hp:0≤p) (hq:0≤q) (hx:0≤x∧x≤255) (hy:0≤y∧y≤255) (h:1≤p+q):0≤near (p*x+q*y) (p+q)∧near (p*x+q*y) (p+q)≤255:=by
  have h1:=mulN ⟨hp,Int.le_refl p⟩ hx
  have h2:=mulN ⟨hq,Int.le_refl q⟩ hy
  exact q3a _ _ 255 h (by omega) (by rw [Int.mul_add];omega)
structure Fill9 (W wr:World) (b k:Nat) (B:Nat→Int):Prop where
  below:Below b W wr
  size:b<wr.heap.size
  cells:∀ o,o<9→wr.cell? ⟨b,o,none⟩=some (.int .u8 (if o≤k then B o else 0))
  free:∀ o,wr.frozen? ⟨b,o,none⟩=false
theorem Fill9.later {W wr w':World} {b k:Nat} {B:Nat→Int} (h:Fill9 W wr b k B) (hb:Below wr.heap.size wr w'):Fill9 W w' b k B:=by
  have hs:=h.size
  refine ⟨h.below.trans (hb.mono (by omega)),Nat.lt_of_lt_of_le hs hb.size,fun o ho=>?_,fun o=>?_⟩
  · exact (hb.cell (p:=⟨b,o,none⟩) hs).trans (h.cells o ho)
  · exact (hb.frozen (p:=⟨b,o,none⟩) hs).trans (h.free o)
theorem Fill9.step {W wr:World} {b k:Nat} {B:Nat→Int} (h:Fill9 W wr b k B) (_:k<8):Fill9 W (wr.setCell ⟨b,1+k,none⟩ (.int .u8 (B (k+1)))) b (k+1) B:=by
  refine ⟨h.below.setCell (Nat.le_refl _) _,by rw [World.size_setCell];exact h.size,fun o ho=>?_,fun o=>by rw [World.frozen?_setCell];exact h.free o⟩
  rw [q7b,if_pos rfl]
  by_cases hc:o=1+k
  · subst hc
    rw [if_pos rfl,h.cells _ (by omega),if_pos (show 1+k≤k+1 by omega),Nat.add_comm 1 k]
    rfl
  · rw [if_neg hc,h.cells o ho]
    by_cases h1:o≤k
    · rw [if_pos h1,if_pos (by omega)]
    · rw [if_neg h1,if_neg (by omega)]
theorem nine (S:Nat→Int) (o:Nat) (ho:o<9):(#[Value.int .u8 (S 0),.int .u8 (S 1),.int .u8 (S 2),.int .u8 (S 3),.int .u8 (S 4),.int .u8 (S 5),.int .u8 (S 6),.int .u8 (S 7),.int .u8 (S 8)])[o]? = some (.int .u8 (S o)):=by
  match o,ho with
  | 0,_=>rfl
  | 1,_=>rfl
  | 2,_=>rfl
  | 3,_=>rfl
  | 4,_=>rfl
  | 5,_=>rfl
  | 6,_=>rfl
  | 7,_=>rfl
  | 8,_=>rfl
set_option maxRecDepth 20000 in
set_option maxHeartbeats 4000000 in
theorem x2h (S T B:Nat→Int) (t:Int) (w:World) (hS:∀ o,o<9→0≤S o∧S o≤255) (hT:∀ o,o<9→0≤T o∧T o≤255) (ht:0≤t∧t≤255) (hB:∀ o,o<9→B o=betw S T t o) :
    Calls Tryz.prog 115 #[.agg #[.int .u8 (S 0),.int .u8 (S 1),.int .u8 (S 2),.int .u8 (S 3),.int .u8 (S 4),.int .u8 (S 5),.int .u8 (S 6),.int .u8 (S 7),.int .u8 (S 8)],.agg #[.int .u8 (T 0),.int .u8 (T 1),.int .u8 (T 2),.int .u8 (T 3),.int .u8 (T 4),.int .u8 (T 5),.int .u8 (T 6),.int .u8 (T 7),.int .u8 (T 8)],.int .u8 t] w fun e w'=>e=.returned (.agg #[.int .u8 (B 0),.int .u8 (B 1),.int .u8 (B 2),.int .u8 (B 3),.int .u8 (B 4),.int .u8 (B 5),.int .u8 (B 6),.int .u8 (B 7),.int .u8 (B 8)])∧Below w.heap.size w w':=by
  have hs0:=hS 0 (by omega)
  have ht0:=hT 0 (by omega)
  have hp:=mulN (a:=255-t) (A:=255) ⟨by omega,by omega⟩ hs0
  have hq:=mulN ht ht0
  have hpq:(255-t)*S 0+t * T 0≤65025:=by
    have h1:=mulN (a:=255-t) (b:=S 0) (A:=255-t) ⟨by omega,by omega⟩ hs0
    have h2:=mulN (a:=t) (b:=T 0) (A:=t) ⟨by omega,by omega⟩ ht0
    omega
  have hal:=q3a ((255-t)*S 0+t * T 0) 255 255 (by omega) (by omega) (by omega)
  by_cases h0:near ((255-t)*S 0+t * T 0) 255=0
  · have hb:∀ o,o<9→B o=0:=fun o ho=>by rw [hB o ho,betw,if_pos h0]
    have b0:=hb 0 (by omega)
    have b1:=hb 1 (by omega)
    have b2:=hb 2 (by omega)
    have b3:=hb 3 (by omega)
    have b4:=hb 4 (by omega)
    have b5:=hb 5 (by omega)
    have b6:=hb 6 (by omega)
    have b7:=hb 7 (by omega)
    have b8:=hb 8 (by omega)
    rw [b0,b1,b2,b3,b4,b5,b6,b7,b8]
    clear hB hb b0 b1 b2 b3 b4 b5 b6 b7 b8
    generalize hpe:(255-t)*S 0=p at *
    generalize hqe:t * T 0=q at *
    go_enter Tryz.func115,Tryz.ntmps115
    go_wp2_with fail
    go_quiet (fail)
    go_wp2_with (go_at_call 112;refine (q2x _ _ _ ?_ ?_).mono ?_;omega;omega;rintro e w' ⟨rfl,rfl⟩)
    refine bodyPost_ret (by simp [results,Tryz.results115,go_sem];try rfl) rfl ?_
    refine ⟨rfl,by exact blQ⟩
  · have hpos:1≤(255-t)*S 0+t * T 0:=by
      rcases Int.lt_or_le 0 ((255-t)*S 0+t * T 0) with h |h
      · omega
      · exact absurd (by rw [show (255-t)*S 0+t * T 0=0 by omega];exact z8m 255 (by omega)) h0
    have hb0:B 0=near ((255-t)*S 0+t * T 0) 255:=by rw [hB 0 (by omega),betw,if_neg h0,if_pos rfl]
    have hb1:Hid (∀ o,1≤o→o<9→B o=near ((255-t)*S 0*S o+t * T 0*T o) ((255-t)*S 0+t * T 0)):=fun o h1 h2=>by rw [hB o h2,betw,if_neg h0,if_neg (by omega)]
    have HS:Hid _:=hS
    have HT:Hid _:=hT
    have HBD:Hid (∀ o,1≤o→o<9→0≤B o∧B o≤255):=fun o h1 h2=>by rw [hb1.out o h1 h2];exact x6m hp.1 hq.1 (hS o h2) (hT o h2) hpos
    clear hB hS hT
    generalize hpe:(255-t)*S 0=p at *
    generalize hqe:t * T 0=q at *
    have h0b:(near (p+q) 255==0)=false:=by simpa using h0
    have hb0':Hid _:=hb0
    clear hb0
    go_enter Tryz.func115,Tryz.ntmps115
    go_wp2_with fail
    go_quiet (fail)
    go_wp2_with (go_at_call 112;refine (q2x _ _ _ ?_ ?_).mono ?_;omega;omega;rintro e w' ⟨rfl,rfl⟩)
    obtain ⟨W1,hW1⟩:∃ W1,W1=((((w.alloc (.cells #[Value.int .u8 (S 0),.int .u8 (S 1),.int .u8 (S 2),.int .u8 (S 3),.int .u8 (S 4),.int .u8 (S 5),.int .u8 (S 6),.int .u8 (S 7),.int .u8 (S 8)] 117)).alloc (.cells #[Value.int .u8 (T 0),.int .u8 (T 1),.int .u8 (T 2),.int .u8 (T 3),.int .u8 (T 4),.int .u8 (T 5),.int .u8 (T 6),.int .u8 (T 7),.int .u8 (T 8)] 117)).alloc (.cells #[.int .u8 0,.int .u8 0,.int .u8 0,.int .u8 0,.int .u8 0,.int .u8 0,.int .u8 0,.int .u8 0,.int .u8 0] 117)).drewN nq).alloc (.cells #[.int .u8 (near (p+q) 255),.int .u8 0,.int .u8 0,.int .u8 0,.int .u8 0,.int .u8 0,.int .u8 0,.int .u8 0,.int .u8 0] 117):=⟨_,rfl⟩
    rw [← hW1]
    have B1:Hid (Below w.heap.size w W1):=show Below w.heap.size w W1 by rw [hW1];exact blQ
    have CS:Hid (∀ o,o<9→W1.cell? ⟨w.heap.size,o,none⟩=some (.int .u8 (S o))):=show ∀ o,o<9→W1.cell? ⟨w.heap.size,o,none⟩=some (.int .u8 (S o)) from fun o ho=>by
      rw [hW1,q03,if_neg (by simp only [World.size_alloc,q58];omega),World.cell?_drewN,q03,if_neg (by simp only [World.size_alloc];omega),q03,if_neg (by simp only [World.size_alloc];omega),q03,if_pos rfl]
      exact nine S o ho
    have CT:Hid (∀ o,o<9→W1.cell? ⟨w.heap.size+1,o,none⟩=some (.int .u8 (T o))):=show ∀ o,o<9→W1.cell? ⟨w.heap.size+1,o,none⟩=some (.int .u8 (T o)) from fun o ho=>by
      rw [hW1,q03,if_neg (by simp only [World.size_alloc,q58];omega),World.cell?_drewN,q03,if_neg (by simp only [World.size_alloc];omega),q03,if_pos (by simp only [World.size_alloc])]
      exact nine T o ho
    have CR:Hid (∀ o,W1.cell? ⟨w.heap.size+1+1,o,none⟩=#[Value.int .u8 0,.int .u8 0,.int .u8 0,.int .u8 0,.int .u8 0,.int .u8 0,.int .u8 0,.int .u8 0,.int .u8 0][o]?):=show ∀ o,W1.cell? ⟨w.heap.size+1+1,o,none⟩=#[Value.int .u8 0,.int .u8 0,.int .u8 0,.int .u8 0,.int .u8 0,.int .u8 0,.int .u8 0,.int .u8 0,.int .u8 0][o]? from fun o=>by
      rw [hW1,q03,if_neg (by simp only [World.size_alloc,q58];omega),World.cell?_drewN,q03,if_pos (by simp only [World.size_alloc])]
    have FR:Hid (∀ o,W1.frozen? ⟨w.heap.size+1+1,o,none⟩=false):=show ∀ o,W1.frozen? ⟨w.heap.size+1+1,o,none⟩=false from fun o=>by
      rw [hW1];simp [q4c]
    have S1:Hid (Fill9 W1 W1 (w.heap.size+1+1+1) 0 B):=show Fill9 W1 W1 (w.heap.size+1+1+1) 0 B by
      refine ⟨Below.refl _ _,by rw [hW1];simp only [World.size_alloc,q58];omega,fun o ho=>?_,fun o=>?_⟩
      · rw [hW1,q03,if_pos (by simp only [World.size_alloc,q58])]
        match o,ho with
        | 0,_=>simp [hb0'.out]
        | 1,_=>rfl
        | 2,_=>rfl
        | 3,_=>rfl
        | 4,_=>rfl
        | 5,_=>rfl
        | 6,_=>rfl
        | 7,_=>rfl
        | 8,_=>rfl
      · rw [hW1];simp [q4c]
    have hz1:w.heap.size+1+1+1<W1.heap.size:=S1.out.size
    clear hW1 hal h0 h0b hb0'
    go_loopw [34] (fun v wr=>∃ k:Nat,k≤8∧v=.int .i64 k∧Fill9 W1 wr (w.heap.size+1+1+1) k B) (fun v _=>8-(intOf v).toNat)
    case atStart=>exact ⟨0,by omega,rfl,S1.out⟩
    case round =>
      obtain ⟨k,hk,rfl,hF⟩:=hrel
      have HF:Hid _:=hF
      have hszr:=hF.size
      by_cases hlk:k<8
      · have e1:=(hF.below.cell (p:=⟨w.heap.size,1+k,none⟩) (by show w.heap.size<_;omega)).trans (CS.out (1+k) (by omega))
        have e2:=(hF.below.cell (p:=⟨w.heap.size+1,1+k,none⟩) (by show w.heap.size+1<_;omega)).trans (CT.out (1+k) (by omega))
        have hx:=HS.out (1+k) (by omega)
        have hy:=HT.out (1+k) (by omega)
        have hn:=hb1.out (1+k) (by omega) (by omega)
        have hz:=HBD.out (1+k) (by omega) (by omega)
        have hu:=mulN hp hx
        have hv:=mulN hq hy
        have HN:Hid (∀ w',Fill9 W1 w' (w.heap.size+1+1+1) k B→Fill9 W1 (w'.setCell ⟨w.heap.size+1+1+1,1+k,none⟩ (.int .u8 (B (1+k)))) (w.heap.size+1+1+1) (k+1) B):=fun w' h=>by rw [Nat.add_comm 1 k];have:=h.step hlk;rwa [Nat.add_comm 1 k] at this
        clear hF
        generalize B (1+k)=z at *
        generalize S (1+k)=x at *
        generalize T (1+k)=y at *
        generalize hue:p*x=u at *
        generalize hve:q*y=v at *
        subst hn
        go_wp2_with fail
        refine head 22 (by kernel_rfl) (by kernel_rfl) (by rfl) ?_
        apply Exists.intro
        refine ⟨fun F'=>?_,fun w' hb=>?_⟩
        · haveI:=F'.ne
          simp only [List.take_succ_cons,List.take_zero]
          repeat (go_big_quiet_step (first |(go_at_call 112;exact x81 (q2x _ _ _ (by omega) (by omega)))))
          exact wpQuiet_nil rfl
        have hF':Hid _:=HF.out.later hb
        have c1:w'.cell? ⟨w.heap.size+1+1+1,1+k,none⟩=some (.int .u8 0):=by rw [hF'.out.cells (1+k) (by omega),if_neg (by omega)]
        have f1:=hF'.out.free (1+k)
        simp only [List.drop_succ_cons,List.drop_zero]
        go_wp2_with fail
        go_roundw
        case rel=>exact ⟨k+1,by omega,by go_num,HN.out _ hF'.out⟩
        case measure=>simp [intOf];omega
      · obtain rfl:k=8:=by omega
        have hr:∀ o,_:=fun o=>(hF.below.cell (p:=⟨w.heap.size+1+1,o,none⟩) (by show w.heap.size+1+1<_;omega)).trans (CR.out o)
        have hrF:∀ o,_:=fun o=>(hF.below.frozen (p:=⟨w.heap.size+1+1,o,none⟩) (by show w.heap.size+1+1<_;omega)).trans (FR.out o)
        have hc:∀ o,o<9→wr.cell? ⟨w.heap.size+1+1+1,o,none⟩=some (.int .u8 (B o)):=fun o ho=>by rw [hF.cells o ho,if_pos (by omega)]
        have c0:=hc 0 (by omega)
        have c1:=hc 1 (by omega)
        have c2:=hc 2 (by omega)
        have c3:=hc 3 (by omega)
        have c4:=hc 4 (by omega)
        have c5:=hc 5 (by omega)
        have c6:=hc 6 (by omega)
        have c7:=hc 7 (by omega)
        have c8:=hc 8 (by omega)
        have hbw:Below w.heap.size w wr:=B1.out.trans (hF.below.mono (by omega))
        have HBW:Hid _:=hbw
        clear hF hc hbw
        go_wp2_with fail
        refine bodyPost_ret (by simp [results,Tryz.results115,go_sem,hr];try rfl) rfl ?_
        exact ⟨rfl,(((((((((HBW.out.setCell (by show w.heap.size≤w.heap.size+1+1;omega) _).setCell (by show w.heap.size≤w.heap.size+1+1;omega) _).setCell (by show w.heap.size≤w.heap.size+1+1;omega) _).setCell (by show w.heap.size≤w.heap.size+1+1;omega) _).setCell (by show w.heap.size≤w.heap.size+1+1;omega) _).setCell (by show w.heap.size≤w.heap.size+1+1;omega) _).setCell (by show w.heap.size≤w.heap.size+1+1;omega) _).setCell (by show w.heap.size≤w.heap.size+1+1;omega) _).setCell (by show w.heap.size≤w.heap.size+1+1;omega) _)⟩
end Go.Proofs.YtkicdhaklnmonaaGreat
namespace Go.Proofs.YtkicdhaklnmonaaGreat
open Go.RowKit
end Go.Proofs.YtkicdhaklnmonaaGreat
namespace Go.Proofs.YtkicdhaklnmonaaGreat
open Go.RowKit
def allV (a q:Int):Int:=255*(a+q)-a*q
theorem x3p {a q:Int} (ha:0≤a∧a≤255) (hq:0≤q∧q≤255):255*a≤allV a q∧255*q≤allV a q∧allV a q≤65025:=by
  have h1:=mulN ha hq
  have h2:=Int.mul_le_mul_of_nonneg_left hq.2 ha.1
  have h3:=Int.mul_le_mul_of_nonneg_right ha.2 hq.1
  have h4:=Int.mul_nonneg (show (0:Int)≤255-a by omega) (show (0:Int)≤255-q by omega)
  have h5:(255-a)*(255-q)=65025-255*a-255*q+a*q:=by rw [Int.sub_mul,Int.mul_sub,Int.mul_sub];omega
  unfold allV;omega
def argV (a q c v b:Int):Int:=(255-q)*a*c+q*((255-a)*v+a*b)
theorem x3q {a q c v b:Int} (ha:0≤a∧a≤255) (hq:0≤q∧q≤255) (hc:0≤c∧c≤255) (hv:0≤v∧v≤255) (hb:0≤b∧b≤255):0≤argV a q c v b∧argV a q c v b≤255*allV a q:=by
  have u1:=Int.mul_nonneg (show (0:Int)≤255-q by omega) ha.1
  have e1:(255-q)*a=255*a-a*q:=by rw [Int.sub_mul,Int.mul_comm q a]
  have u2:=mulN ⟨u1,Int.le_refl _⟩ hc
  have u3:=mulN (a:=255-a) (A:=255-a) ⟨by omega,by omega⟩ hv
  have u4:=mulN (a:=a) (A:=a) ⟨by omega,by omega⟩ hb
  have u5:=mulN (a:=q) (A:=q) (b:=(255-a)*v+a*b) (B:=65025) ⟨by omega,by omega⟩ ⟨by omega,by omega⟩
  unfold argV allV;omega
theorem v03 {a q c v b:Int} (ha:0≤a∧a≤255) (hq:0≤q∧q≤255) (hc:0≤c∧c≤255) (hv:0≤v∧v≤255) (hb:0≤b∧b≤255) (h1:1≤allV a q):0≤near (argV a q c v b) (allV a q)∧near (argV a q c v b) (allV a q)≤255 :=
  q3a _ _ 255 h1 (x3q ha hq hc hv hb).1 (x3q ha hq hc hv hb).2
def pnt (md:Int) (S I:Nat→Int) (q:Int) (ov:Bool) (o:Nat):Int :=
  if allV (S 0) q=0 then 0
  else if o=0 then near (allV (S 0) q) 255
  else if ov=true∧I (o-1)=0∧0<S 0 then S o
  else near (argV (S 0) q (S o) (I (o-1)) (inkV md (S o) (I (o-1)))) (allV (S 0) q)
theorem x0y {md:Int} {S I:Nat→Int} {q:Int} (ov:Bool) {o:Nat} (hS:∀ o,o<9→0≤S o∧S o≤255) (hI:∀ o,o<8→0≤I o∧I o≤255) (hq:0≤q∧q≤255) (ho:o<9):0≤pnt md S I q ov o∧pnt md S I q ov o≤255:=by
  have h0:=hS 0 (by omega)
  have hL:=x3p h0 hq
  unfold pnt
  split
  · omega
  · split
    · exact q3a _ _ 255 (by omega) (by omega) (by omega)
    · split
      · exact hS o ho
      · exact v03 h0 hq (hS o ho) (hI _ (by omega)) (x3n (hS o ho) (hI _ (by omega))) (by omega)
theorem v2r (I:Nat→Int) (o:Nat) (ho:o<8):(#[Value.int .u8 (I 0),.int .u8 (I 1),.int .u8 (I 2),.int .u8 (I 3),.int .u8 (I 4),.int .u8 (I 5),.int .u8 (I 6),.int .u8 (I 7)])[o]? = some (.int .u8 (I o)):=by
  match o,ho with
  | 0,_=>rfl
  | 1,_=>rfl
  | 2,_=>rfl
  | 3,_=>rfl
  | 4,_=>rfl
  | 5,_=>rfl
  | 6,_=>rfl
  | 7,_=>rfl
theorem v2c (S:Nat→Int) (k:Nat) (hk:k<8):∀ w,(Instr.index 33 (.agg #[.int .u8 (S 1),.int .u8 (S 2),.int .u8 (S 3),.int .u8 (S 4),.int .u8 (S 5),.int .u8 (S 6),.int .u8 (S 7),.int .u8 (S 8)]) (.int .i64 k)).run Tryz.prog w=.ok (.int .u8 (S (1+k))) w :=
  match k,hk with
  | 0,_=>fun _=>by kernel_rfl
  | 1,_=>fun _=>by kernel_rfl
  | 2,_=>fun _=>by kernel_rfl
  | 3,_=>fun _=>by kernel_rfl
  | 4,_=>fun _=>by kernel_rfl
  | 5,_=>fun _=>by kernel_rfl
  | 6,_=>fun _=>by kernel_rfl
  | 7,_=>fun _=>by kernel_rfl
set_option maxRecDepth 20000 in
set_option maxHeartbeats 8000000 in
theorem x6n (md:Int) (S I B:Nat→Int) (q:Int) (ov:Bool) (w:World) (p p2:Nat) (hp:p<w.heap.size∧p2<w.heap.size) (hpc:∀ o,w.cell? ⟨p,o,none⟩=#[Value.func (.func 145) #[] #[.pointer (some ⟨p2,0,none⟩)]][o]?)
    (hp2:∀ o,w.cell? ⟨p2,o,none⟩=#[Value.func (.func (q3c md)) #[] #[]][o]?) (hmd:0≤md∧md≤11) (hS:∀ o,o<9→0≤S o∧S o≤255) (hI:∀ o,o<8→0≤I o∧I o≤255) (hq:0≤q∧q≤255) (hB:∀ o,o<9→B o=pnt md S I q ov o) :
    Calls Tryz.prog 88 #[.agg #[.int .u8 (S 0),.int .u8 (S 1),.int .u8 (S 2),.int .u8 (S 3),.int .u8 (S 4),.int .u8 (S 5),.int .u8 (S 6),.int .u8 (S 7),.int .u8 (S 8)],.agg #[.int .u8 (I 0),.int .u8 (I 1),.int .u8 (I 2),.int .u8 (I 3),.int .u8 (I 4),.int .u8 (I 5),.int .u8 (I 6),.int .u8 (I 7)],.int .u8 q,.func (.func 109) #[] #[.pointer (some ⟨p,0,none⟩)],.bool ov] w fun e w'=>e=.returned (.agg #[.int .u8 (B 0),.int .u8 (B 1),.int .u8 (B 2),.int .u8 (B 3),.int .u8 (B 4),.int .u8 (B 5),.int .u8 (B 6),.int .u8 (B 7),.int .u8 (B 8)])∧Below w.heap.size w w':=by
  have ha:=hS 0 (by omega)
  have hL:=x3p ha hq
  have hm:=mulN ha hq
  have hLe:255*(S 0+q)-S 0*q=allV (S 0) q:=rfl
  by_cases h0:allV (S 0) q=0
  · have hb:∀ o,o<9→B o=0:=fun o ho=>by rw [hB o ho,pnt,if_pos h0]
    have b0:=hb 0 (by omega)
    have b1:=hb 1 (by omega)
    have b2:=hb 2 (by omega)
    have b3:=hb 3 (by omega)
    have b4:=hb 4 (by omega)
    have b5:=hb 5 (by omega)
    have b6:=hb 6 (by omega)
    have b7:=hb 7 (by omega)
    have b8:=hb 8 (by omega)
    rw [b0,b1,b2,b3,b4,b5,b6,b7,b8]
    clear hB hb b0 b1 b2 b3 b4 b5 b6 b7 b8
    have hs0:S 0=0:=by omega
    have hq0:q=0:=by omega
    clear hL hm hLe h0 ha
    subst hq0
    go_enter Tryz.func88,Tryz.ntmps88
    go_wp2_with fail
    refine bodyPost_ret (by simp [results,Tryz.results88,go_sem];try rfl) rfl ?_
    refine ⟨rfl,by exact blQ⟩
  · have hpos:1≤allV (S 0) q:=by omega
    have hal:=q3a (allV (S 0) q) 255 255 (by omega) (by omega) (by omega)
    have hb0:Hid (B 0=near (allV (S 0) q) 255):=show B 0=near (allV (S 0) q) 255 by rw [hB 0 (by omega),pnt,if_neg h0,if_pos rfl]
    have hb1:Hid (∀ k,k<8→ov=true∧I k=0∧0<S 0→B (1+k)=S (1+k)):=fun k hk h=>by rw [hB (1+k) (by omega),pnt,if_neg h0,if_neg (by omega),show 1+k-1=k by omega,if_pos h]
    have hb2:Hid (∀ k,k<8→¬(ov=true∧I k=0∧0<S 0)→B (1+k)=near (argV (S 0) q (S (1+k)) (I k) (inkV md (S (1+k)) (I k))) (allV (S 0) q)):=fun k hk h=>by rw [hB (1+k) (by omega),pnt,if_neg h0,if_neg (by omega),show 1+k-1=k by omega,if_neg h]
    have HBD:Hid (∀ o,o<9→0≤B o∧B o≤255):=fun o ho=>by rw [hB o ho];exact x0y ov hS hI hq ho
    have HS:Hid _:=hS
    have HI:Hid _:=hI
    have HP:Hid _:=hpc
    have HP2:Hid _:=hp2
    clear hpc hp2
    clear hB hS hI
    generalize hme:S 0*q=m at *
    generalize hLL:allV (S 0) q=L at *
    have hLH:Hid _:=hLL
    clear hLL
    go_enter Tryz.func88,Tryz.ntmps88
    go_wp2_with (first |(go_at_call 112;refine (q2x _ _ _ ?_ ?_).mono ?_;omega;omega;rintro e w' ⟨rfl,rfl⟩))
    obtain ⟨W1,hW1⟩:∃ W1,W1=((((w.alloc (.cells #[Value.int .u8 (S 0),.int .u8 (S 1),.int .u8 (S 2),.int .u8 (S 3),.int .u8 (S 4),.int .u8 (S 5),.int .u8 (S 6),.int .u8 (S 7),.int .u8 (S 8)] 117)).alloc (.cells #[Value.int .u8 (I 0),.int .u8 (I 1),.int .u8 (I 2),.int .u8 (I 3),.int .u8 (I 4),.int .u8 (I 5),.int .u8 (I 6),.int .u8 (I 7)] 33)).alloc (.cells #[.int .u8 0,.int .u8 0,.int .u8 0,.int .u8 0,.int .u8 0,.int .u8 0,.int .u8 0,.int .u8 0,.int .u8 0] 117))).alloc (.cells #[.int .u8 (near L 255),.int .u8 0,.int .u8 0,.int .u8 0,.int .u8 0,.int .u8 0,.int .u8 0,.int .u8 0,.int .u8 0] 117):=⟨_,rfl⟩
    rw [← hW1]
    have B1:Hid (Below w.heap.size w W1):=show Below w.heap.size w W1 by rw [hW1];exact blQ
    have CS:Hid (∀ o,o<9→W1.cell? ⟨w.heap.size,o,none⟩=some (.int .u8 (S o))):=show ∀ o,o<9→W1.cell? ⟨w.heap.size,o,none⟩=some (.int .u8 (S o)) from fun o ho=>by
      rw [hW1,q03,if_neg (by simp only [World.size_alloc];omega),q03,if_neg (by simp only [World.size_alloc];omega),q03,if_neg (by simp only [World.size_alloc];omega),q03,if_pos rfl]
      exact nine S o ho
    have CI:Hid (∀ o,o<8→W1.cell? ⟨w.heap.size+1,o,none⟩=some (.int .u8 (I o))):=show ∀ o,o<8→W1.cell? ⟨w.heap.size+1,o,none⟩=some (.int .u8 (I o)) from fun o ho=>by
      rw [hW1,q03,if_neg (by simp only [World.size_alloc];omega),q03,if_neg (by simp only [World.size_alloc];omega),q03,if_pos (by simp only [World.size_alloc])]
      exact v2r I o ho
    have CR:Hid (∀ o,W1.cell? ⟨w.heap.size+1+1,o,none⟩=#[Value.int .u8 0,.int .u8 0,.int .u8 0,.int .u8 0,.int .u8 0,.int .u8 0,.int .u8 0,.int .u8 0,.int .u8 0][o]?):=show ∀ o,W1.cell? ⟨w.heap.size+1+1,o,none⟩=#[Value.int .u8 0,.int .u8 0,.int .u8 0,.int .u8 0,.int .u8 0,.int .u8 0,.int .u8 0,.int .u8 0,.int .u8 0][o]? from fun o=>by
      rw [hW1,q03,if_neg (by simp only [World.size_alloc];omega),q03,if_pos (by simp only [World.size_alloc])]
    have FR:Hid (∀ o,W1.frozen? ⟨w.heap.size+1+1,o,none⟩=false):=show ∀ o,W1.frozen? ⟨w.heap.size+1+1,o,none⟩=false from fun o=>by
      rw [hW1];simp [q4c]
    have S1:Hid (Fill9 W1 W1 (w.heap.size+1+1+1) 0 B):=show Fill9 W1 W1 (w.heap.size+1+1+1) 0 B by
      refine ⟨Below.refl _ _,by rw [hW1];simp only [World.size_alloc];omega,fun o ho=>?_,fun o=>?_⟩
      · rw [hW1,q03,if_pos (by simp only [World.size_alloc])]
        match o,ho with
        | 0,_=>simp [hb0.out]
        | 1,_=>rfl
        | 2,_=>rfl
        | 3,_=>rfl
        | 4,_=>rfl
        | 5,_=>rfl
        | 6,_=>rfl
        | 7,_=>rfl
        | 8,_=>rfl
      · rw [hW1];simp [q4c]
    have hz1:w.heap.size+1+1+1<W1.heap.size:=S1.out.size
    clear hW1 hal
    go_loopw [40] (fun v wr=>∃ k:Nat,k≤8∧v=.int .i64 k∧Fill9 W1 wr (w.heap.size+1+1+1) k B) (fun v _=>8-(intOf v).toNat)
    case atStart=>exact ⟨0,by omega,rfl,S1.out⟩
    case round =>
      obtain ⟨k,hk,rfl,hF⟩:=hrel
      have HF:Hid _:=hF
      have hszr:=hF.size
      by_cases hlk:k<8
      · have e1:=(hF.below.cell (p:=⟨w.heap.size,1+k,none⟩) (by show w.heap.size<_;omega)).trans (CS.out (1+k) (by omega))
        have e2:=(hF.below.cell (p:=⟨w.heap.size+1,k,none⟩) (by show w.heap.size+1<_;omega)).trans (CI.out k (by omega))
        have c1:wr.cell? ⟨w.heap.size+1+1+1,1+k,none⟩=some (.int .u8 0):=by rw [hF.cells (1+k) (by omega),if_neg (by omega)]
        have f1:=hF.free (1+k)
        have hx:=HS.out (1+k) (by omega)
        have hy:=HI.out k hlk
        have hz:=HBD.out (1+k) (by omega)
        have hn1:=hb1.out k hlk
        have hn2:=hb2.out k hlk
        have hib:=x3n (k:=md) hx hy
        have HPk:Hid (∀ o,wr.cell? ⟨p,o,none⟩=#[Value.func (.func 145) #[] #[.pointer (some ⟨p2,0,none⟩)]][o]?):=fun o=>(hF.below.cell (p:=⟨p,o,none⟩) (by show p<_;omega)).trans ((B1.out.cell (p:=⟨p,o,none⟩) hp.1).trans (HP.out o))
        have HP2k:Hid (∀ o,wr.cell? ⟨p2,o,none⟩=#[Value.func (.func (q3c md)) #[] #[]][o]?):=fun o=>(hF.below.cell (p:=⟨p2,o,none⟩) (by show p2<_;omega)).trans ((B1.out.cell (p:=⟨p2,o,none⟩) hp.2).trans (HP2.out o))
        have hix:=v2c S k hlk
        have HN:Hid (Fill9 W1 (wr.setCell ⟨w.heap.size+1+1+1,1+k,none⟩ (.int .u8 (B (1+k)))) (w.heap.size+1+1+1) (k+1) B):=show Fill9 W1 (wr.setCell ⟨w.heap.size+1+1+1,1+k,none⟩ (.int .u8 (B (1+k)))) (w.heap.size+1+1+1) (k+1) B by rw [Nat.add_comm 1 k];have:=hF.step hlk;rwa [Nat.add_comm 1 k] at this
        clear hF
        generalize B (1+k)=z at *
        generalize S (1+k)=x at *
        generalize I k=y at *
        generalize S 0=a at *
        by_cases hov:ov=true∧y=0∧0<a
        · obtain ⟨rfl,rfl,ha0⟩:=hov
          obtain rfl:=hn1 ⟨rfl,rfl,ha0⟩
          clear hn1 hn2
          go_wp2_with fail
          go_roundw
          case rel=>exact ⟨k+1,by omega,by go_num,HN.out⟩
          case measure=>simp [intOf];omega
        · have hzz:=hn2 hov
          have hv:(ov=false)∨(ov=true∧(y==0)=false)∨(ov=true∧(y==0)=true∧a≤0):=by
            cases ov with
            | false=>exact .inl rfl
            | true =>
              by_cases hy0:y=0
              · exact .inr (.inr ⟨rfl,by simpa using hy0,by have:¬ (0<a):=fun h=>hov ⟨rfl,hy0,h⟩;omega⟩)
              · exact .inr (.inl ⟨rfl,by simpa using hy0⟩)
          clear hn1 hn2 hov
          have hzH:Hid _:=hzz
          clear hzz
          generalize hib2:inkV md x y=ib at *
          have hibH:Hid _:=hib2
          clear hib2
          have v1:=mulN (a:=255-q) (b:=a) (A:=255) ⟨by omega,by omega⟩ ha
          have v2:=mulN (b:=x) v1 hx
          have v3:=mulN (a:=255-a) (b:=y) (A:=255) ⟨by omega,by omega⟩ hy
          have v4:=mulN (a:=a) (b:=ib) ha hib
          have v5:=mulN (a:=q) (b:=(255-a)*y+a*ib) (B:=130050) hq ⟨by omega,by omega⟩
          have hzr:Hid (z=near ((255-q)*a*x+q*((255-a)*y+a*ib)) L):=hzH.out
          generalize hv1:(255-q)*a=u1 at *
          generalize hv2:u1*x=u2 at *
          generalize hv3:(255-a)*y=u3 at *
          generalize hv4:a*ib=u4 at *
          generalize hv5:q*(u3+u4)=u5 at *
          obtain rfl:=hzr.out
          rcases hv with rfl |⟨rfl,hy0⟩ |⟨rfl,hy0,ha0⟩
          all_goals
            go_wp2_with (first |(go_at_call 109;refine (x4s md _ _ p p2 _ hmd hx hy HPk.out HP2k.out).mono ?_;rw [hibH.out];rintro e w' ⟨rfl,rfl⟩) |(go_at_call 112;refine (q2x _ _ _ ?_ ?_).mono ?_;omega;omega;rintro e w' ⟨rfl,rfl⟩))
            go_roundw
            case rel=>exact ⟨k+1,by omega,by go_num,HN.out⟩
            case measure=>simp [intOf];omega
      · obtain rfl:k=8:=by omega
        have hr:∀ o,_:=fun o=>(hF.below.cell (p:=⟨w.heap.size+1+1,o,none⟩) (by show w.heap.size+1+1<_;omega)).trans (CR.out o)
        have hrF:∀ o,_:=fun o=>(hF.below.frozen (p:=⟨w.heap.size+1+1,o,none⟩) (by show w.heap.size+1+1<_;omega)).trans (FR.out o)
        have hc:∀ o,o<9→wr.cell? ⟨w.heap.size+1+1+1,o,none⟩=some (.int .u8 (B o)):=fun o ho=>by rw [hF.cells o ho,if_pos (by omega)]
        have c0:=hc 0 (by omega)
        have c1:=hc 1 (by omega)
        have c2:=hc 2 (by omega)
        have c3:=hc 3 (by omega)
        have c4:=hc 4 (by omega)
        have c5:=hc 5 (by omega)
        have c6:=hc 6 (by omega)
        have c7:=hc 7 (by omega)
        have c8:=hc 8 (by omega)
        have hbw:Below w.heap.size w wr:=B1.out.trans (hF.below.mono (by omega))
        have HBW:Hid _:=hbw
        clear hF hc hbw
        go_wp2_with fail
        refine bodyPost_ret (by simp [results,Tryz.results88,go_sem,hr];try rfl) rfl ?_
        exact ⟨rfl,(((((((((HBW.out.setCell (by show w.heap.size≤w.heap.size+1+1;omega) _).setCell (by show w.heap.size≤w.heap.size+1+1;omega) _).setCell (by show w.heap.size≤w.heap.size+1+1;omega) _).setCell (by show w.heap.size≤w.heap.size+1+1;omega) _).setCell (by show w.heap.size≤w.heap.size+1+1;omega) _).setCell (by show w.heap.size≤w.heap.size+1+1;omega) _).setCell (by show w.heap.size≤w.heap.size+1+1;omega) _).setCell (by show w.heap.size≤w.heap.size+1+1;omega) _).setCell (by show w.heap.size≤w.heap.size+1+1;omega) _)⟩
end Go.Proofs.YtkicdhaklnmonaaGreat
