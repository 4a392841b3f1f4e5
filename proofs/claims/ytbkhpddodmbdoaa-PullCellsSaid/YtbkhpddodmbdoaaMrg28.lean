/-
  Merged: XPullE, XAreaR, XPulls, XInG.
-/
import Derived.Test.YtbkhpddodmbdoaaMrg26
import Derived.Test.YtbkhpddodmbdoaaMrg27
import Derived.Test.YtbkhpddodmbdoaaMrg9
import Derived.Test.YtbkhpddodmbdoaaMrg10
import Derived.Test.YtbkhpddodmbdoaaMrg20
import Derived.Test.YtbkhpddodmbdoaaMrg8
import Derived.Test.YtbkhpddodmbdoaaEng2
set_option linter.unusedVariables false
set_option linter.unusedSimpArgs false
set_option linter.unnecessarySimpa false
namespace Go.Proofs.Ytbkhpddodmbdoaa
open Go.RowKit
set_option maxRecDepth 20000
section
variable {A:Option Addr} {w h:Int} {n c:Nat} {key ink r dx dy:Int} {p:Nat→PcD} {G:Mem}
theorem q4o (hP:PcsM G A n p) (hn:n≤maxLen) (he:pcsE w h n p≠0) :
    Gives Try.prog 11 [.val (.int .i64 w),.val (.int .i64 h),.val (.slice A n c),.val (.int .i64 key),.val (.int .i64 r)] G (.tup [.val (.slice none 0 0),.val (.int .i64 (pcsE w h n p))]):=by
  have gc:=q3v (c:=c) (w:=w) (h:=h) hP hn
  generalize pcsE w h n p=e at *
  refine q1u tab_ok Try.func11 ?_
  (repeat ((try (conv=>whnf));(first |(refine stQ ?_) |(with_reducible first |refine q0b (fun vs w=>by kernel_rfl) (by kernel_rfl) (gc) ?_ |refine q0a (fun vs w=>by kernel_rfl) (by kernel_rfl) (gc) ?_ |refine q0e tab_ok Try.func27 (fun vs w=>by kernel_rfl) (by rfl) ?_))))
  exact ⟨rfl,rfl⟩
theorem z6k (hP:PcsM G A n p) (hn:n≤maxLen) (he:pcsE w h n p=0) (hk:¬ (0≤key∧key≤7)) :
    Gives Try.prog 11 [.val (.int .i64 w),.val (.int .i64 h),.val (.slice A n c),.val (.int .i64 key),.val (.int .i64 r)] G (.tup [.val (.slice none 0 0),.val (.int .i64 3)]):=by
  have gc:=q3v (c:=c) (w:=w) (h:=h) hP hn
  rw [he] at gc
  refine q1u tab_ok Try.func11 ?_
  by_cases h1:key<0
  · (repeat ((try (conv=>whnf));(first |(refine stQ ?_) |(with_reducible first |refine q0b (fun vs w=>by kernel_rfl) (by kernel_rfl) (gc) ?_ |refine q0a (fun vs w=>by kernel_rfl) (by kernel_rfl) (gc) ?_ |refine q0e tab_ok Try.func27 (fun vs w=>by kernel_rfl) (by rfl) ?_))))
    exact ⟨rfl,rfl⟩
  · (repeat ((try (conv=>whnf));(first |(refine stQ ?_) |(with_reducible first |refine q0b (fun vs w=>by kernel_rfl) (by kernel_rfl) (gc) ?_ |refine q0a (fun vs w=>by kernel_rfl) (by kernel_rfl) (gc) ?_ |refine q0e tab_ok Try.func27 (fun vs w=>by kernel_rfl) (by rfl) ?_))))
    exact ⟨rfl,rfl⟩
theorem x3j (ok:PcsOk w h n p) (hP:PcsM G A n p) (hc:n≤c) (hm:c≤maxLen) (he:pcsE w h n p=0) (hk:0≤key∧key≤7) (hr:¬ (0≤r∧r≤64)) :
    Gives Try.prog 11 [.val (.int .i64 w),.val (.int .i64 h),.val (.slice A n c),.val (.int .i64 key),.val (.int .i64 r)] G (.tup [.val (.slice none 0 0),.val (.int .i64 3)]):=by
  have gc:=q3v (c:=c) (w:=w) (h:=h) hP (by omega)
  rw [he] at gc
  have mp:=q88 (key:=key) ok he hP hc hm
  obtain ⟨vP,_⟩:=ok.paper_valid
  refine q1u tab_ok Try.func11 ?_
  (repeat ((try (conv=>whnf));(first |(refine stQ ?_) |(with_reducible first |refine q0b (fun vs w=>by kernel_rfl) (by kernel_rfl) (gc) ?_ |refine q0a (fun vs w=>by kernel_rfl) (by kernel_rfl) (gc) ?_ |refine q0e tab_ok Try.func27 (fun vs w=>by kernel_rfl) (by rfl) ?_))))
  conv=>whnf
  refine q1d (fun vs w=>by kernel_rfl) (.alone fun _=>rfl) (by kernel_rfl) mp fun A1 c1 G1 hG1 hc1 hm1 hx1=>?_
  have hA1:=RunsM.frozen hx1
  have hsp:spE (q2p w h n p) r=3:=by unfold spE;rw [if_neg (by rw [q3c vP];simp),if_neg hr]
  have md:=x1i (w:=r) hA1 hc1 hm1 (by rw [hsp];omega)
  rw [hsp] at md
  (repeat ((try (conv=>whnf));(first |(refine stQ ?_) |(with_reducible first |refine q0b (fun vs w=>by kernel_rfl) (by kernel_rfl) (md) ?_ |refine q0a (fun vs w=>by kernel_rfl) (by kernel_rfl) (md) ?_))))
  exact ⟨rfl,rfl⟩
end
end Go.Proofs.Ytbkhpddodmbdoaa
namespace Go.Proofs.Ytbkhpddodmbdoaa
open Go.RowKit
set_option maxRecDepth 20000
section
variable {A:Option Addr} {L:List Run} {c:Nat} {G:Mem} {x y:Int}
def q35:List Run→Int
  | []=>0
  | r::l=>(r.x1-r.x0)+q35 l
theorem z1i:∀ (K L:List Run),q35 (K++L)=q35 K+q35 L
  | [],L=>by simp [q35]
  | r::K,L=>by simp only [List.cons_append,q35,z1i K L];omega
theorem x1m {i:Nat} {r:Run} (h:L[i]? = some r):q35 (L.take (i+1))=q35 (L.take i)+(r.x1-r.x0):=by
  rw [List.take_add_one,h,z1i];simp [q35]
theorem z8w:∀ {L:List Run},(∀ r∈L,0≤r.x1-r.x0∧r.x1-r.x0≤16384)→0≤q35 L∧q35 L≤16384*(L.length:Int)
  | [],_=>by simp [q35]
  | r::l,h=>by
    have h1:=h r (by simp)
    have h2:=z8w (L:=l) (fun q hq=>h q (by simp [hq]))
    simp only [q35,List.length_cons];omega
theorem x5v (v:ValidL L) (i:Nat):0≤q35 (L.take i)∧q35 (L.take i)≤16384*268451840:=by
  have h1:=z8w (L:=L.take i) (fun r hr=>by have:=v.bd (List.mem_of_mem_take hr);omega)
  have h2:=v.length
  have h3:(L.take i).length≤L.length:=by rw [List.length_take];omega
  omega
set_option maxHeartbeats 2000000 in
theorem z19 (hR:RunsM G A L) (v:ValidL L):Gives Try.prog 26 [.val (.slice A L.length c)] G (.val (.int .i64 (q35 L))):=by
  have hll:=v.length
  refine q1u tab_ok Try.func26 ?_
  (repeat ((try (conv=>whnf));(refine stQ ?_)))
  conv=>whnf
  refine q0y tab_ok (fun i=>i≤L.length) (fun (i:Nat)=>[(7,.val (.int .i64 i)),(3,.val (.int .i64 (q35 (L.take i))))]) (fun i=>[]) (fun i=>L.length-i) 0 (Nat.zero_le _) ?_ ?_
  · ((refine q0h ?_);(conv=>whnf);(refine q0k (by rfl) (by rfl) flQ ?_))
    exact q0g
  · rintro i hi
    have hab:=x5v v i
    rcases Nat.lt_or_ge i L.length with h1 |h1
    · obtain ⟨r,hr⟩:∃ r,L[i]? = some r:=⟨L[i],List.getElem?_eq_getElem h1⟩
      obtain ⟨p,rfl,q0,q1,q2⟩:=hR.at_ hr
      have hb:=v.bd (List.mem_of_getElem? hr)
      have htk:=x1m hr
      (repeat ((try (conv=>whnf));(first |(refine q0d _ q1 ?_) |(refine q0d _ q2 ?_) |(refine stQ ?_))))
      refine ⟨i+1,by omega,by omega,?_⟩
      rw [htk]
      ((refine q0h ?_);(conv=>whnf);(refine q0k (by rfl) (by rfl) flQ ?_))
      exact q0g
    · obtain rfl:i=L.length:=by omega
      (repeat ((try (conv=>whnf));(refine stQ ?_)))
      exact ⟨by rw [List.take_length],rfl⟩
end
end Go.Proofs.Ytbkhpddodmbdoaa
namespace Go.Proofs.Ytbkhpddodmbdoaa
open Go.RowKit
set_option maxRecDepth 20000
theorem half_ok:okR (q0z 0 8 0 16)∧∀ x y,hasR (q0z 0 8 0 16) x y↔(0≤x∧x<8)∧0≤y∧y<16:=q7c (W:=8) (H:=16) (by omega) (by omega)
theorem x4v {a b:Int} (h:a<b):okR (q0z a b 0 16)∧∀ x y,hasR (q0z a b 0 16) x y↔(a≤x∧x<b)∧0≤y∧y<16:=by
  constructor
  · generalize 16=n
    induction n with
    | zero=>simp [q0z,okR]
    | succ n ih =>
      rw [z30,okR_append]
      refine ⟨ih,⟨h,by simp,trivial⟩,fun r hr s hs=>?_⟩
      simp only [q0z,List.mem_map,List.mem_range] at hr
      obtain ⟨i,hi,rfl⟩:=hr
      simp at hs;subst hs
      left;dsimp only;omega
  · intro x y
    unfold q0z hasR
    constructor
    · rintro ⟨r,hr,h1,h2,h3⟩
      simp only [List.mem_map,List.mem_range] at hr
      obtain ⟨i,hi,rfl⟩:=hr
      dsimp only at h1 h2 h3
      omega
    · rintro ⟨h1,h2⟩
      exact ⟨⟨0+(y.toNat:Int),a,b⟩,List.mem_map.2 ⟨y.toNat,List.mem_range.2 (by omega),rfl⟩,by show 0+(y.toNat:Int)=y;omega,h1.1,h1.2⟩
theorem z1w (A:Option Addr) (q:Nat):pcsE 1 1 1 (edgP A q)=0:=by
  have h1:pcE 1 1 (edgP A q 0)=0:=z74 (by show errL (q0z 0 8 0 16)=0;decide) (by show (q0z 0 8 0 16).length≠0;rw [q5e];omega) (by
    rintro ⟨r,hr,ho⟩
    have hr':r∈q0z 0 8 0 16:=hr
    simp only [q0z,List.mem_map,List.mem_range] at hr'
    obtain ⟨i,hi,rfl⟩:=hr'
    unfold outP at ho
    dsimp only at ho
    omega) (by
    intro h
    have:(255:Int)=0:=h.1
    omega)
  have h2:apE (edgP A q) 0=0:=z00 (by rintro ⟨k,hk,_⟩;omega) (by rintro ⟨h,_⟩;omega)
  unfold pcsE
  rw [if_neg (by omega),if_neg (by omega)]
  have f1:q13 (fun i=>pcE 1 1 (edgP A q i)) 1=0:=by
    show (if (0:Int)≠0 then (0:Int) else pcE 1 1 (edgP A q 0))=0
    rw [if_neg (by omega),h1]
  rw [if_neg (by rw [f1];simp)]
  show (if (0:Int)≠0 then (0:Int) else apE (edgP A q) 0)=0
  rw [if_neg (by omega),h2]
def plC (i:Nat):List Int:=if i%16<5 then [255,100,0,0,0,0,0,0] else if i%16<8 then [255,0,0,0,0,0,0,0] else zero8
def plG:List Pc:=[([255,100,0,0,0,0,0,0],q0z 0 5 0 16),([255,0,0,0,0,0,0,0],q0z 5 8 0 16)]
theorem x5w:gat plC 16 256=plG:=by kernel_rfl
theorem x5x {A:Option Addr} {q i:Nat} (hi:i<256):vecI (q1j (q00 (edgP A q) 16 1) 16 0 (DL 3 (q2p 1 1 1 (edgP A q))) i)=plC i:=by
  have ok:=q6m (z1w A q)
  unfold q1j
  rw [x2t (by omega)]
  have e0:vecI (q00 (edgP A q) 16 1 i)=if i%16<8 then [255,100,0,0,0,0,0,0] else zero8:=by
    rw [z4y]
    unfold q5m q5m
    rw [show (edgP A q 0).L=q0z 0 8 0 16 from rfl]
    by_cases h:i%16<8
    · rw [if_pos h,if_pos (hasL_iff.2 ((half_ok.2 _ _).2 (by omega)))];rfl
    · rw [if_neg h,if_neg fun h2=>h (by have:=(half_ok.2 _ _).1 (hasL_iff.1 h2);omega)]
  have hd:=z1b (w:=3) ok.paper_valid.1
  have hn:hasL (DL 3 (q2p 1 1 1 (edgP A q))) ((i%16:Nat):Int) ((i/16:Nat):Int)=true↔5≤i%16:=by
    rw [hasL_iff,hd.2,z54 (by omega) ok.paper.1 (by omega) (by omega)]
    constructor
    · rintro ⟨u,v,h1,h2,h3⟩
      obtain ⟨g1,g2⟩:=(ok.paper.2 u v).1 h1
      have:¬ hasR (q0z 0 8 0 16) u v:=fun h=>g2 ⟨0,by omega,h⟩
      rw [half_ok.2] at this
      omega
    · intro h
      refine ⟨max 8 ((i%16:Nat):Int),((i/16:Nat):Int),(ok.paper.2 _ _).2 ⟨by omega,?_⟩,by omega,by omega⟩
      rintro ⟨k,hk,h2⟩
      obtain rfl:k=0:=by omega
      have:=(half_ok.2 _ _).1 (show hasR (q0z 0 8 0 16) _ _ from h2)
      omega
  unfold x01 plC
  dsimp only
  by_cases h5:5≤i%16
  · rw [if_neg (show ¬ i%16<5 by omega)]
    by_cases h8:i%16<8
    · have e1:(vecI (q00 (edgP A q) 16 1 i))[0]? = some 255:=by rw [e0,if_pos h8];rfl
      rw [if_pos ⟨hn.2 h5,e1⟩,if_pos h8];rfl
    · have e1:vecI (q00 (edgP A q) 16 1 i)=zero8:=by rw [e0,if_neg h8]
      rw [if_neg (fun h=>by rw [e1] at h;exact absurd h.2 (by decide)),if_neg h8];exact e1
  · rw [if_pos (show i%16<5 by omega),if_neg fun h=>h5 (hn.1 h.1),e0,if_pos (show i%16<8 by omega)]
theorem x6g (A:Option Addr) (q:Nat):q73 1 1 1 (edgP A q) 0 1 2 0=q0z 8 10 0 16:=by
  have ok:=q6m (z1w A q)
  obtain ⟨f1,f2⟩:=ok.fringe (key:=0) (ink:=1) (dx:=2) (dy:=0)
  obtain ⟨b1,b2⟩:=x4v (a:=8) (b:=10) (by omega)
  refine z1s f1 b1 fun x y=>?_
  rw [f2,b2,ok.paper.2,(z2p (by omega) (by omega) ok.under.1).2,ok.under.2]
  have e1:∀ x y,(∃ k,k<1∧hasR (edgP A q k).L x y)↔(0≤x∧x<8)∧0≤y∧y<16:=fun x y=>by
    rw [← half_ok.2]
    constructor
    · rintro ⟨k,hk,h⟩;exact h
    · intro h;exact ⟨0,by omega,h⟩
  have e2:∀ x y,(∃ k,k<1∧255≤(edgP A q k).I 0∧hasR (edgP A q k).L x y)↔(0≤x∧x<8)∧0≤y∧y<16:=fun x y=>by
    rw [← half_ok.2]
    constructor
    · rintro ⟨k,hk,_,h⟩;exact h
    · intro h;exact ⟨0,by omega,(show (255:Int)≤255 by omega),h⟩
  have e3:∀ x y,(∃ k,k<1∧1≤(edgP A q k).I 1∧hasR (edgP A q k).L x y)↔(0≤x∧x<8)∧0≤y∧y<16:=fun x y=>by
    rw [← half_ok.2]
    constructor
    · rintro ⟨k,hk,_,h⟩;exact h
    · intro h;exact ⟨0,by omega,(show (1:Int)≤100 by omega),h⟩
  rw [e1,e2,e3]
  omega
theorem x3k {c d:Nat→List Int} {W N:Nat} (h:gat c W N=gat d W N):ofR c W N=ofR d W N:=by
  unfold ofR
  rw [h]
theorem z9c {A B:Option Addr} {q:Nat} {G:Mem} (hP:PcsM G A 1 (edgP B q)) :
    MakesX Try.prog 11 [.val (.int .i64 1),.val (.int .i64 1),.val (.slice A 1 2),.val (.int .i64 0),.val (.int .i64 3)] G 29 9 (ofR plC 16 256):=by
  have ok:=q6m (z1w B q)
  have mp:=z38 (w:=1) (h:=1) (W:=16) (N:=256) (c:=2) (key:=0) (r:=3) ok (z1w B q) hP (by omega) (by unfold maxLen;omega) rfl rfl (by omega) (by omega) (by omega) (by omega)
  have e:ofR (fun i=>vecI (q1j (q00 (edgP B q) 16 1) 16 0 (DL 3 (q2p 1 1 1 (edgP B q))) i)) 16 256=ofR plC 16 256:=x3k (z55 fun j hj=>x5x hj)
  rw [← e]
  exact mp
theorem x4w:∀ k j,0≤keyI plG k j∧keyI plG k j≤255:=by
  intro k j
  unfold keyI plG
  match k with
  | 0 =>
    rcases Nat.lt_or_ge j 8 with h |h
    · rcases lt8 h with rfl |rfl |rfl |rfl |rfl |rfl |rfl |rfl <;> decide
    · rw [List.getD_eq_getElem?_getD,List.getElem?_eq_none (by simpa using h)];decide
  | 1 =>
    rcases Nat.lt_or_ge j 8 with h |h
    · rcases lt8 h with rfl |rfl |rfl |rfl |rfl |rfl |rfl |rfl <;> decide
    · rw [List.getD_eq_getElem?_getD,List.getElem?_eq_none (by simpa using h)];decide
  | k+2=>simp
set_option maxHeartbeats 4000000 in
theorem q04 (G:Mem):Gives Try.prog 8 [] G (.val (.bool true)):=by
  refine q1u tab_ok Try.func8 ?_
  (repeat ((try (conv=>whnf));(refine stQ ?_)))
  conv=>whnf
  refine z1d (fun vs w=>by kernel_rfl) (by kernel_rfl) z1e fun y G1 hG1 hR1=>?_
  obtain ⟨A,B,q,rfl,hP⟩:=hR1
  (repeat ((try (conv=>whnf));(refine stQ ?_)))
  conv=>whnf
  refine q7j (fun vs w=>by kernel_rfl) (by kernel_rfl) (z9c hP) fun wr n2 xs2 G2 A2 c2 G3 hG2 hR2 hG3 hc2 hm2 hF2=>?_
  unfold ofR at hR2
  rw [x5w] at hR2
  obtain ⟨rfl,rfl,B2,rfl,hB2⟩:=hR2
  have hQ:PcsM G3 A2 2 (gatP plG B2):=⟨hF2.els (fun _ _=>rfl) (by omega),fun i hi=>((hB2 i _ (List.getElem?_eq_getElem (show i<plG.length from hi))).2.2.2).mono hG3,fun i hi=>⟨(hB2 i _ (List.getElem?_eq_getElem (show i<plG.length from hi))).2.1,(hB2 i _ (List.getElem?_eq_getElem (show i<plG.length from hi))).2.2.1⟩,fun i hi j=>x4w i j⟩
  conv=>whnf
  refine z1d (fun vs w=>by kernel_rfl) (by kernel_rfl) z1e fun y G4 hG4 hR4=>?_
  obtain ⟨A5,B5,q5,rfl,hP5⟩:=hR4
  have ok:=q6m (z1w B5 q5)
  have mf:q2g Try.prog 17 [.val (.int .i64 1),.val (.int .i64 1),.val (.slice A5 1 2),.val (.int .i64 0),.val (.int .i64 1),.agg [.val (.int .i64 2),.val (.int .i64 0)]] G4 (q4e 0) 54 3 (q0z 8 10 0 16).length (q0n (q0z 8 10 0 16)):=by
    have:=z8t (c:=2) (key:=0) (ink:=1) (dx:=2) (dy:=0) ok (z1w B5 q5) hP5 (by omega) (by unfold maxLen;omega) (by omega) (by omega) (by omega) (by omega) (by omega)
    rw [x6g] at this
    exact this
  (repeat ((try (conv=>whnf));(refine stQ ?_)))
  conv=>whnf
  refine q1d (fun vs w=>by kernel_rfl) (q02 0) (by kernel_rfl) mf fun A6 c6 G6 hG6 hc6 hm6 hx6=>?_
  have hR6:=RunsM.frozen hx6
  have hQ6:=hQ.mono (Mem.le_trans hG4 hG6)
  have a1:=z19 (c:=c6) hR6 (q21 (by decide))
  obtain ⟨a,rfl,ca⟩:=hQ6.inks (show 1<2 by omega)
  obtain ⟨a',ha',da⟩:=hQ6.head (show 1<2 by omega)
  cases ha'
  have hr1:=hQ6.runs 1 (by omega)
  have a2:=z19 (c:=(gatP plG B2 1).q) hr1 (q21 (show errL (q0z 5 8 0 16)=0 by decide))
  have ca1:∀ K:List Value→Prop,K [.int .u8 255,.int .u8 0,.int .u8 0,.int .u8 0,.int .u8 0,.int .u8 0,.int .u8 0,.int .u8 0]→OldCells G6 (Addr.add (a.add (1*9)) 1) 8 K:=fun K k=>ca K k
  have da1:G6.cell? (Addr.add (a.add (1*9)) 0)=some (.slice (gatP plG B2 1).A 16 (gatP plG B2 1).q):=da
  have a1':Gives Try.prog 26 [.val (.slice A6 16 c6)] G6 (.val (.int .i64 32)):=a1
  have a2':Gives Try.prog 26 [.val (.slice (gatP plG B2 1).A 16 (gatP plG B2 1).q)] G6 (.val (.int .i64 48)):=a2
  generalize (gatP plG B2 1).A=A7 at *
  generalize (gatP plG B2 1).q=q7 at *
  have n1:(q0z 8 10 0 16).length=16:=rfl
  have n2:plG.length=2:=rfl
  clear ca da a1 a2
  rw [n1,n2]
  (repeat ((try (conv=>whnf));(first |(refine ca1 _ ?_) |(refine q0d _ da1 ?_) |(refine stQ ?_) |(with_reducible first |refine q0b (fun vs w=>by kernel_rfl) (by kernel_rfl) (a1') ?_ |refine q0a (fun vs w=>by kernel_rfl) (by kernel_rfl) (a1') ?_ |refine q0b (fun vs w=>by kernel_rfl) (by kernel_rfl) (a2') ?_ |refine q0a (fun vs w=>by kernel_rfl) (by kernel_rfl) (a2') ?_))))
  conv=>whnf
  exact ⟨rfl,rfl⟩
end Go.Proofs.Ytbkhpddodmbdoaa
namespace Go.Proofs.Ytbkhpddodmbdoaa
open Go.RowKit
set_option maxRecDepth 20000
theorem q03 (x a b:Int) (G:Mem) (v:Bool) (hv:v=true↔a≤x∧x≤b):Gives Try.prog 9 [.val (.int .i64 x),.val (.int .i64 a),.val (.int .i64 b)] G (.val (.bool v)):=by
  have hv':v=decide (a≤x∧x≤b):=by
    cases v
    · exact (decide_eq_false fun h=>by simpa using hv.2 h).symm
    · exact (decide_eq_true (hv.1 rfl)).symm
  rw [hv']
  refine q1u tab_ok Try.func9 ?_
  by_cases h1:a≤x
  · (repeat ((try (conv=>whnf));(refine stQ ?_)))
    exact ⟨by simp [h1],rfl⟩
  · (repeat ((try (conv=>whnf));(refine stQ ?_)))
    exact ⟨by simp [h1],rfl⟩
end Go.Proofs.Ytbkhpddodmbdoaa
