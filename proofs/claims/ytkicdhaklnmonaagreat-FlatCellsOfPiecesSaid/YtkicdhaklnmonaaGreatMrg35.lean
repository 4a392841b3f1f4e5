/-
  Merged: XSamePcs, XFlats, XPcsAt, XCellR, XInG, XPiecesR, XPiecesM, XCut.
-/
import Derived.Test.YtkicdhaklnmonaaGreatMrg34
import Derived.Test.YtkicdhaklnmonaaGreatMrg31
import Derived.Test.YtkicdhaklnmonaaGreatMrg13
import Derived.Test.YtkicdhaklnmonaaGreatMrg14
import Derived.Test.YtkicdhaklnmonaaGreatMrg21
import Derived.Test.YtkicdhaklnmonaaGreatPcsList
import Derived.Test.YtkicdhaklnmonaaGreatMrg33
import Derived.Test.YtkicdhaklnmonaaGreatMrg27
import Derived.Test.YtkicdhaklnmonaaGreatMrg20
import Derived.Test.YtkicdhaklnmonaaGreatMrg19
import Derived.Test.YtkicdhaklnmonaaGreatMrg24
import Derived.Test.YtkicdhaklnmonaaGreatMrg22
import Derived.Test.YtkicdhaklnmonaaGreatEng2
import Derived.Test.YtkicdhaklnmonaaGreatMrg16
import Derived.Test.YtkicdhaklnmonaaGreatMrg26
import Derived.Test.YtkicdhaklnmonaaGreatMrg6
set_option linter.unusedVariables false
set_option linter.unusedSimpArgs false
set_option linter.unnecessarySimpa false
namespace Go.Proofs.YtkicdhaklnmonaaGreat
open Go.RowKit
set_option maxRecDepth 20000
theorem z44 {c:Nat→List Int} {W:Nat}:∀ (i:Nat) (p:Pc),p∈gat c W i→∃ j,j<i∧p.1=c j
  | 0,p,h=>by simp [gat] at h
  | i+1,p,h=>by
    unfold gat gadd at h
    split at h
    · obtain ⟨j,h1,h2⟩:=z44 i p h
      exact ⟨j,by omega,h2⟩
    · rcases x1s h with h |⟨q,h1,h2⟩
      · exact ⟨i,by omega,h⟩
      · obtain ⟨j,h3,h4⟩:=z44 i q h1
        exact ⟨j,by omega,by rw [← h2,h4]⟩
theorem z86 {c d:Nat→List Int} {W:Nat}:∀ {i:Nat},(∀ j,j<i→c j=d j)→gat c W i=gat d W i
  | 0,_=>rfl
  | i+1,h=>by
    unfold gat
    rw [z86 (i:=i) (fun j hj=>h j (by omega)),h i (by omega)]
theorem x7k {J:Nat→Nat→Int} {W N:Nat} (hJ:∀ i,i<N→∀ j,0≤J i j∧J i j≤255) (k j:Nat):0≤keyI (gat (fun i=>vecI (J i)) W N) k j∧keyI (gat (fun i=>vecI (J i)) W N) k j≤255:=by
  unfold keyI
  cases h:(gat (fun i=>vecI (J i)) W N)[k]? with
  | none=>simp
  | some p =>
    obtain ⟨i,hi,e⟩:=z44 _ _ (List.mem_of_getElem? h)
    simp only [Option.map_some,Option.getD_some]
    rw [e]
    by_cases hj:j<8
    · rw [List.getD_eq_getElem?_getD,x9f hj];exact hJ i hi j
    · rw [List.getD_eq_getElem?_getD,List.getElem?_eq_none (by simp [vecI];omega)];simp
theorem x7l {J:Nat→Nat→Int} {W N:Nat} {G:Mem} {A:Option Addr} {B:Nat→Value} (hJ:∀ i,i<N→∀ j,0≤J i j∧J i j≤255) (hF:FlatM G A (q0r (fun k=>pcC (gatP (gat (fun i=>vecI (J i)) W N) B k)) (gat (fun i=>vecI (J i)) W N).length))
    (hR:∀ k p,(gat (fun i=>vecI (J i)) W N)[k]? = some p→(gatP (gat (fun i=>vecI (J i)) W N) B k).L=p.2∧(gatP (gat (fun i=>vecI (J i)) W N) B k).L.length≤(gatP (gat (fun i=>vecI (J i)) W N) B k).q∧(gatP (gat (fun i=>vecI (J i)) W N) B k).q≤maxLen∧RunsM G (gatP (gat (fun i=>vecI (J i)) W N) B k).A (gatP (gat (fun i=>vecI (J i)) W N) B k).L) :
    PcsM G A (gat (fun i=>vecI (J i)) W N).length (gatP (gat (fun i=>vecI (J i)) W N) B) :=
  ⟨hF.els (fun _ _=>rfl) (by omega),fun i hi=>(hR i _ (List.getElem?_eq_getElem hi)).2.2.2,fun i hi=>⟨(hR i _ (List.getElem?_eq_getElem hi)).2.1,(hR i _ (List.getElem?_eq_getElem hi)).2.2.1⟩,fun i hi j=>x7k hJ i j⟩
set_option maxHeartbeats 4000000 in
theorem q9w {A B:Option Addr} {n c d:Nat} {p q:Nat→PcD} {G:Mem} (hA:PcsM G A n p) (hB:PcsM G B n q) (hL:∀ k,k<n→(q k).L=(p k).L∧(q k).I=(p k).I) (hn:n≤maxLen) (hl:∀ k,k<n→(p k).L.length≤1000000000000) :
    Gives Tryz.prog 17 [.val (.slice A n c),.val (.slice B n d)] G (.val (.bool true)):=by
  unfold maxLen at hn
  refine q07 tab_ok Tryz.func17 ?_
  (repeat ((try (conv=>whnf));(refine stQ ?_)))
  conv=>whnf
  refine q0w tab_ok (fun k=>k≤n) (fun (k:Nat)=>[(13,.val (.int .i64 k))]) (fun k=>[]) (fun k=>n-k) 0 (Nat.zero_le _) ?_ ?_
  · ((refine q0h ?_);(conv=>whnf);(refine q0k (by rfl) (by rfl) flQ ?_))
    exact q0f
  · rintro k hk
    rcases Nat.lt_or_ge k n with h1 |h1
    · obtain ⟨a,rfl,ca⟩:=hA.inks h1
      obtain ⟨b,rfl,cb⟩:=hB.inks h1
      obtain ⟨a',ha',da⟩:=hA.head h1
      cases ha'
      obtain ⟨b',hb',db⟩:=hB.head h1
      cases hb'
      obtain ⟨e1,e2⟩:=hL k h1
      have rA:=hA.runs k h1
      have rB:=hB.runs k h1
      rw [e1] at rB db
      rw [e2] at cb
      have sr:=z69 (p k).A (q k).A (p k).L (p k).q (q k).q G rA rB (hl k h1)
      (repeat ((try (conv=>whnf));(first |(refine ca _ ?_) |(refine cb _ ?_) |(refine q0b _ da ?_) |(refine q0b _ db ?_) |(refine stQ ?_) |(with_reducible first |refine q0e (fun vs w=>by kernel_rfl) (by kernel_rfl) (sr) ?_ |refine q0d (fun vs w=>by kernel_rfl) (by kernel_rfl) (sr) ?_))))
      conv=>whnf
      refine ⟨k+1,by omega,by omega,?_⟩
      ((refine q0h ?_);(conv=>whnf);(refine q0k (by rfl) (by rfl) flQ ?_))
      exact q0f
    · obtain rfl:k=n:=by omega
      (repeat ((try (conv=>whnf));(refine stQ ?_)))
      conv=>whnf
      exact ⟨rfl,rfl⟩
end Go.Proofs.YtkicdhaklnmonaaGreat
namespace Go.Proofs.YtkicdhaklnmonaaGreat
open Go.RowKit
set_option maxRecDepth 20000
def flC (i:Nat):List Int:=if i=0 then [100,0,0,0,0,0,0,0] else [200,0,0,0,0,0,0,0]
def flL:List Run:=⟨0,1,16⟩::q5e 0 16 1 15
def flG:List Pc:=[([100,0,0,0,0,0,0,0],[⟨0,0,1⟩]),([200,0,0,0,0,0,0,0],flL)]
theorem v1n:gat flC 16 256=flG:=by kernel_rfl
theorem x7m {I:Nat→ItemD} {f:Nat→SrcF} {R:Nat→List Run} {n m:Nat} {x y x' y':Int} (h1:∀ i,hasL (R i) x y=hasL (R i) x' y') (h2:∀ i,f i x y=f i x' y'):q4i I f R n m x y=q4i I f R n m x' y':=by
  have:q0v I f R x y=q0v I f R x' y':=by
    unfold q0v
    simp only [h1,h2]
  unfold q4i
  rw [this]
theorem x7n (i:Nat) (x y:Int) (hx:0≤x∧x<16) (hy:0≤y∧y<16):hasL (spR i) x y=if i=0 then true else decide (x=0∧y=0):=by
  by_cases hi:i=0
  · subst hi
    rw [if_pos rfl,hasL_iff]
    have:=(z85 (W:=16) (H:=16) (by omega) (by omega)).2 x y
    exact this.2 ⟨by omega,by omega⟩
  · rw [if_neg hi]
    unfold spR
    rw [if_neg hi]
    apply Bool.eq_iff_iff.2
    rw [hasL_iff,decide_eq_true_iff]
    unfold hasR
    constructor
    · rintro ⟨r,hr,h1,h2,h3⟩
      simp at hr;subst hr
      dsimp only at h1 h2 h3
      omega
    · rintro ⟨rfl,rfl⟩
      exact ⟨⟨0,0,1⟩,by simp,rfl,Int.le_refl _,by decide⟩
theorem v1o {A:Option Addr} {c b i:Nat} (hi:i<256):vecI (q4i (spI A c b) spF spR 4 1 ((i%16:Nat):Int) ((i/16:Nat):Int))=flC i:=by
  unfold flC
  by_cases h:i=0
  · subst h
    rw [if_pos rfl]
    show vecI (q4i (spI A c b) spF spR 4 1 0 0)=_
    rw [v1l];rfl
  · rw [if_neg h]
    have e:q4i (spI A c b) spF spR 4 1 ((i%16:Nat):Int) ((i/16:Nat):Int)=q4i (spI A c b) spF spR 4 1 1 0:=by
      refine x7m (fun k=>?_) (fun k=>rfl)
      rw [x7n k _ _ (by omega) (by omega),x7n k 1 0 (by omega) (by omega)]
      by_cases hk:k=0
      · rw [if_pos hk,if_pos hk]
      · rw [if_neg hk,if_neg hk]
        rw [decide_eq_false (by omega),decide_eq_false (by omega)]
    rw [e,v1m];rfl
theorem x9v:∀ k j,0≤keyI flG k j∧keyI flG k j≤255:=by
  intro k j
  unfold keyI flG
  match k with
  | 0 =>
    rcases Nat.lt_or_ge j 8 with h |h
    · rcases lt8 h with rfl |rfl |rfl |rfl |rfl |rfl |rfl |rfl <;> decide
    · rw [List.getD_eq_getElem?_getD,List.getElem?_eq_none (by simpa using h)];decide
  | 1 =>
    rcases Nat.lt_or_ge j 8 with h |h
    · rcases lt8 h with rfl |rfl |rfl |rfl |rfl |rfl |rfl |rfl <;> decide
    · rw [List.getD_eq_getElem?_getD,List.getElem?_eq_none (by simpa using h)];decide
  | k+2=>simp
theorem z7n (x y:Int):hasR flL x y↔(0≤x∧x<16)∧(0≤y∧y<16)∧¬ (x=0∧y=0):=by
  unfold flL q5e hasR
  constructor
  · rintro ⟨r,hr,h1,h2,h3⟩
    rcases List.mem_cons.1 hr with rfl |hr
    · dsimp only at h1 h2 h3;omega
    · simp only [List.mem_map,List.mem_range] at hr
      obtain ⟨i,hi,rfl⟩:=hr
      dsimp only at h1 h2 h3
      omega
  · rintro ⟨h1,h2,h3⟩
    by_cases hy:y=0
    · exact ⟨⟨0,1,16⟩,List.mem_cons_self ..,hy.symm,by show (1:Int)≤x;omega,h1.2⟩
    · exact ⟨⟨1+((y-1).toNat:Int),0,16⟩,List.mem_cons_of_mem _ (List.mem_map.2 ⟨(y-1).toNat,List.mem_range.2 (by omega),rfl⟩),by show 1+((y-1).toNat:Int)=y;omega,h1.1,h1.2⟩
theorem fl_one {x y:Int}:hasR [⟨0,0,1⟩] x y↔x=0∧y=0:=by
  unfold hasR
  constructor
  · rintro ⟨r,hr,h1,h2,h3⟩
    simp at hr;subst hr
    dsimp only at h1 h2 h3
    omega
  · rintro ⟨rfl,rfl⟩
    exact ⟨⟨0,0,1⟩,by simp,rfl,Int.le_refl _,by decide⟩
theorem fl_e (B:Nat→Value):pcsE 1 1 2 (gatP flG B)=0:=by
  have h0:pcE 1 1 (gatP flG B 0)=0:=z53 (show errL [⟨0,0,1⟩]=0 by decide) (show 1≠0 by omega) (by
    rintro ⟨r,hr,ho⟩
    have hr':r∈([⟨0,0,1⟩]:List Run):=hr
    simp at hr';subst hr'
    unfold outP at ho
    dsimp only at ho
    omega) (by
    intro h
    have:(100:Int)=0:=h.1
    omega)
  have h1:pcE 1 1 (gatP flG B 1)=0:=z53 (show errL flL=0 by decide +kernel) (show 16≠0 by omega) (by
    rintro ⟨r,hr,ho⟩
    have hr':r∈flL:=hr
    unfold flL at hr'
    rcases List.mem_cons.1 hr' with rfl |hr'
    · unfold outP at ho
      dsimp only at ho
      omega
    · simp only [q5e,List.mem_map,List.mem_range] at hr'
      obtain ⟨i,hi,rfl⟩:=hr'
      unfold outP at ho
      dsimp only at ho
      omega) (by
    intro h
    have:(200:Int)=0:=h.1
    omega)
  have a0:apE (gatP flG B) 0=0:=z00 (by rintro ⟨k,hk,_⟩;omega) (by rintro ⟨h,_⟩;omega)
  have a1:apE (gatP flG B) 1=0:=z00 (by
    rintro ⟨k,hk,h⟩
    obtain rfl:k=0:=by omega
    rcases h with h |h
    · have:(100:Int)=200:=h.1
      omega
    · have h':z30 [⟨0,0,1⟩] flL:=h
      obtain ⟨x,y,g1,g2⟩:=h'
      rw [fl_one] at g1;rw [z7n] at g2;omega) (by
    rintro ⟨_,h⟩
    have h':(q08 flL).y<(q08 [⟨0,0,1⟩]).y∨((q08 flL).y=(q08 [⟨0,0,1⟩]).y∧(q08 flL).x0<(q08 [⟨0,0,1⟩]).x0):=h
    revert h'
    decide)
  unfold pcsE
  rw [if_neg (by omega),if_neg (by omega)]
  have f1:q10 (fun i=>pcE 1 1 (gatP flG B i)) 2=0:=by
    simp only [q10,h0,h1,ne_eq,not_true_eq_false,if_false]
  rw [if_neg (by rw [f1];simp)]
  simp only [q10,a0,a1,ne_eq,not_true_eq_false,if_false]
theorem v1p (B:Nat→Value):z31 (gatP flG B) (fun _=>true) 2=q5e 0 16 0 16:=by
  have ok:=z4w (fl_e B)
  have b:okR (q5e 0 16 0 16)∧∀ x y,hasR (q5e 0 16 0 16) x y↔(0≤x∧x<16)∧0≤y∧y<16:=z85 (W:=16) (H:=16) (by omega) (by omega)
  refine q9b ok.some_ok.1 b.1 fun x y=>?_
  have b2:=b.2 x y
  rw [ok.some_ok.2,b2]
  constructor
  · rintro ⟨k,hk,_,h⟩
    match k,hk with
    | 0,_ =>
      have h':hasR [⟨0,0,1⟩] x y:=h
      rw [fl_one] at h';omega
    | 1,_ =>
      have h':hasR flL x y:=h
      rw [z7n] at h';omega
  · intro h
    by_cases h0:x=0∧y=0
    · exact ⟨0,by omega,rfl,show hasR [⟨0,0,1⟩] x y from fl_one.2 h0⟩
    · exact ⟨1,by omega,rfl,show hasR flL x y from (z7n x y).2 ⟨by omega,by omega,h0⟩⟩
set_option maxHeartbeats 8000000 in
theorem q2g (G:Mem):Gives Tryz.prog 7 [] G (.val (.bool true)):=by
  have key:∀ (F:Mem) (A:Option Addr) (c b sb ib:Nat),RunsM F A (q6i 1 1)→16≤c→c≤maxLen →
    F sb=some (.cells #[.string ⟨#[98,108,97,99,107]⟩] 9 (0,0))→F b=some (.cells #[.int .i64 0,.int .i64 0,.int .i64 1] 78 (0,0))→F ib=some (.cells ((spI A c b 0).cells++(spI A c b 1).cells++(spI A c b 2).cells++(spI A c b 3).cells).toArray 63 (0,0)) →
    MakesX Tryz.prog 24 [z10 1 1 (some ⟨sb,0,none⟩) 1 1 (some ⟨ib,0,none⟩) 4 4] F 35 9 (ofR flC 16 256):=by
    intro F A c b sb ib hR h1 h2 h3 h4 h5
    have hI:=x9s h5
    have r:=x1q (w:=1) (h:=1) (W:=16) (N:=256) (x9u hR ⟨h1,h2⟩ h4 (v1j h3) hI) hI (by omega) (by omega) (v2q hR h4) (by omega) (by omega) rfl rfl (by omega)
    have e:ofR (fun i=>vecI (q4i (spI A c b) spF spR 4 1 ((i%16:Nat):Int) ((i/16:Nat):Int))) 16 256=ofR flC 16 256:=by
      unfold ofR
      rw [z86 fun j hj=>v1o hj]
    rw [← e]
    exact r
  refine q07 tab_ok Tryz.func7 ?_
  (repeat ((try (conv=>whnf));(refine stQ ?_)))
  conv=>whnf
  refine z3a (fun vs w=>by kernel_rfl) (by rfl) z7m ?_
  rintro v F hF ⟨A,c,b,sb,ib,rfl,q1,q2,q3,q4,q5,q6⟩
  have k0:=key F A c b sb ib q1 q2 q3 q4 q5 q6
  (repeat ((try (conv=>whnf));(refine stQ ?_)))
  conv=>whnf
  refine x6x [.int .i64 1,.int .i64 1,.slice (some ⟨sb,0,none⟩) 1 1,.slice (some ⟨ib,0,none⟩) 4 4] ?_
  refine q8q (fun vs w=>by kernel_rfl) (by kernel_rfl) k0 fun wr n2 xs2 G2 A2 c2 G3 hG2 hR2 hG3 hc2 hm2 hF2=>?_
  unfold ofR at hR2
  rw [v1n] at hR2
  obtain ⟨rfl,rfl,B2,rfl,hB2⟩:=hR2
  have hQ:PcsM G3 A2 2 (gatP flG B2):=⟨hF2.els (fun _ _=>rfl) (by omega),fun i hi=>((hB2 i _ (List.getElem?_eq_getElem (show i<flG.length from hi))).2.2.2).mono hG3,fun i hi=>⟨(hB2 i _ (List.getElem?_eq_getElem (show i<flG.length from hi))).2.1,(hB2 i _ (List.getElem?_eq_getElem (show i<flG.length from hi))).2.2.1⟩,fun i hi j=>x9v i j⟩
  have ok:=z4w (fl_e B2)
  have mp:=z88 (c:=c2) ok (fl_e B2) hQ
  rw [v1p] at mp
  conv=>whnf
  (repeat ((try (conv=>whnf));(refine stQ ?_)))
  conv=>whnf
  refine q7g (fun vs w=>by kernel_rfl) (q73 0) (by kernel_rfl) mp fun A6 c6 G6 hG6 hc6 hm6 hx6=>?_
  have hR6:=RunsM.frozen hx6
  have hQ6:=hQ.mono hG6
  have a1:Gives Tryz.prog 26 [.val (.slice A6 16 c6)] G6 (.val (.int .i64 256)):=x19 (c:=c6) hR6 (q35 (by decide +kernel))
  obtain ⟨a,rfl,ca⟩:=hQ6.inks (show 0<2 by omega)
  have ca1:∀ K:List Value→Prop,K [.int .u8 100,.int .u8 0,.int .u8 0,.int .u8 0,.int .u8 0,.int .u8 0,.int .u8 0,.int .u8 0]→OldCells G6 (Addr.add (a.add (0*9)) 1) 8 K:=fun K k=>ca K k
  have n1:(q5e 0 16 0 16).length=16:=rfl
  have n2:flG.length=2:=rfl
  clear ca
  rw [n1,n2]
  (repeat ((try (conv=>whnf));(first |(refine ca1 _ ?_) |(refine stQ ?_) |(with_reducible first |refine q0e (fun vs w=>by kernel_rfl) (by kernel_rfl) (a1) ?_ |refine q0d (fun vs w=>by kernel_rfl) (by kernel_rfl) (a1) ?_))))
  conv=>whnf
  exact ⟨rfl,rfl⟩
end Go.Proofs.YtkicdhaklnmonaaGreat
namespace Go.Proofs.YtkicdhaklnmonaaGreat
open Go.RowKit
set_option maxRecDepth 20000
section
variable {A:Option Addr} {w h x y:Int} {n c:Nat} {p:Nat→PcD} {G:Mem}
theorem z12 (hP:PcsM G A n p) (hn:n≤maxLen) (he:pcsE w h n p≠0) :
    Gives Tryz.prog 22 [.val (.int .i64 w),.val (.int .i64 h),.val (.slice A n c),.val (.int .i64 x),.val (.int .i64 y)] G (.tup [ink0,.val (.int .i64 (pcsE w h n p))]):=by
  have gc:=q7h (c:=c) (w:=w) (h:=h) hP hn
  generalize pcsE w h n p=e at *
  refine q07 tab_ok Tryz.func22 ?_
  (repeat ((try (conv=>whnf));(first |(refine stQ ?_) |(with_reducible first |refine q0e (fun vs w=>by kernel_rfl) (by kernel_rfl) (gc) ?_ |refine q0d (fun vs w=>by kernel_rfl) (by kernel_rfl) (gc) ?_))))
  exact ⟨rfl,rfl⟩
theorem v1q (ok:PcsOk w h n p) (hP:PcsM G A n p) (hn:n≤maxLen) (he:pcsE w h n p=0) (ho:¬ ((0≤x∧x≤16*w-1)∧0≤y∧y≤16*h-1)) :
    Gives Tryz.prog 22 [.val (.int .i64 w),.val (.int .i64 h),.val (.slice A n c),.val (.int .i64 x),.val (.int .i64 y)] G (.tup [ink0,.val (.int .i64 3)]):=by
  have gc:=q7h (c:=c) (w:=w) (h:=h) hP hn
  rw [he] at gc
  have hw:=ok.wd
  have hh:=ok.ht
  refine q07 tab_ok Tryz.func22 ?_
  by_cases h1:x<0
  · (repeat ((try (conv=>whnf));(first |(refine stQ ?_) |(with_reducible first |refine q0e (fun vs w=>by kernel_rfl) (by kernel_rfl) (gc) ?_ |refine q0d (fun vs w=>by kernel_rfl) (by kernel_rfl) (gc) ?_))))
    exact ⟨rfl,rfl⟩
  by_cases h2:16*w≤x
  · (repeat ((try (conv=>whnf));(first |(refine stQ ?_) |(with_reducible first |refine q0e (fun vs w=>by kernel_rfl) (by kernel_rfl) (gc) ?_ |refine q0d (fun vs w=>by kernel_rfl) (by kernel_rfl) (gc) ?_))))
    exact ⟨rfl,rfl⟩
  by_cases h3:y<0
  · (repeat ((try (conv=>whnf));(first |(refine stQ ?_) |(with_reducible first |refine q0e (fun vs w=>by kernel_rfl) (by kernel_rfl) (gc) ?_ |refine q0d (fun vs w=>by kernel_rfl) (by kernel_rfl) (gc) ?_))))
    exact ⟨rfl,rfl⟩
  · (repeat ((try (conv=>whnf));(first |(refine stQ ?_) |(with_reducible first |refine q0e (fun vs w=>by kernel_rfl) (by kernel_rfl) (gc) ?_ |refine q0d (fun vs w=>by kernel_rfl) (by kernel_rfl) (gc) ?_))))
    exact ⟨rfl,rfl⟩
set_option maxHeartbeats 4000000 in
theorem v2f {W i:Nat} {J:Nat→Int} (ok:PcsOk w h n p) (hP:PcsM G A n p) (hn:n≤c) (hc:c≤maxLen) (he:pcsE w h n p=0) (hx:0≤x∧x≤16*w-1) (hy:0≤y∧y≤16*h-1) (ix:x=((i%W:Nat):Int)) (iy:y=((i/W:Nat):Int)) (hJ:vecI J=q3u p W n i) :
    Gives Tryz.prog 22 [.val (.int .i64 w),.val (.int .i64 h),.val (.slice A n c),.val (.int .i64 x),.val (.int .i64 y)] G (.tup [inA J,.val (.int .i64 0)]):=by
  have gc:=q7h (c:=c) (w:=w) (h:=h) hP (Nat.le_trans hn hc)
  rw [he] at gc
  have hw:=ok.wd
  have hh:=ok.ht
  have hfew:=ok.few
  refine q07 tab_ok Tryz.func22 ?_
  (repeat ((try (conv=>whnf));(first |(refine stQ ?_) |(with_reducible first |refine q0e (fun vs w=>by kernel_rfl) (by kernel_rfl) (gc) ?_ |refine q0d (fun vs w=>by kernel_rfl) (by kernel_rfl) (gc) ?_))))
  conv=>whnf
  refine q0w tab_ok (fun k=>k≤n∧∀ j,j<k→hasL (p j).L x y=false) (fun (k:Nat)=>[(44,.val (.int .i64 k))]) (fun k=>[.cells 33 [.val (.int .u8 0),.val (.int .u8 0),.val (.int .u8 0),.val (.int .u8 0),.val (.int .u8 0),.val (.int .u8 0),.val (.int .u8 0),.val (.int .u8 0)]]) (fun k=>n-k) 0 ⟨Nat.zero_le _,fun j hj=>by omega⟩ ?_ ?_
  · ((refine q0h ?_);(conv=>whnf);(refine q0k (by rfl) (by rfl) flQ ?_))
    exact q0a (by exact flQ) q0f
  · rintro k ⟨hk,hno⟩
    rcases Nat.lt_or_ge k n with h1 |h1
    · obtain ⟨a,rfl,ca⟩:=hP.cells h1
      have vb:ValidL (p k).L:=q35 (ok.one k h1).1
      have gi:=x7b (c:=(p k).q) (x:=x) (y:=y) (hP.runs k h1) vb
      by_cases hs:hasL (p k).L x y=true
      · have e1:vecI J=vecI (p k).I:=by rw [hJ];exact ok.cell h1 (by rw [← ix,← iy];exact hasL_iff.1 hs)
        obtain ⟨j0,j1,j2,j3,j4,j5,j6,j7⟩:=vecI_same.1 e1
        rw [hs] at gi
        (repeat ((try (conv=>whnf));(first |(refine ca _ ?_) |(refine stQ ?_) |(with_reducible first |refine q0e (fun vs w=>by kernel_rfl) (by kernel_rfl) (gi) ?_ |refine q0d (fun vs w=>by kernel_rfl) (by kernel_rfl) (gi) ?_))))
        conv=>whnf
        refine ⟨?_,rfl⟩
        unfold inA
        rw [j0,j1,j2,j3,j4,j5,j6,j7]
      · have hs':hasL (p k).L x y=false:=by simpa using hs
        rw [hs'] at gi
        (repeat ((try (conv=>whnf));(first |(refine ca _ ?_) |(refine stQ ?_) |(with_reducible first |refine q0e (fun vs w=>by kernel_rfl) (by kernel_rfl) (gi) ?_ |refine q0d (fun vs w=>by kernel_rfl) (by kernel_rfl) (gi) ?_))))
        conv=>whnf
        refine ⟨k+1,⟨by omega,fun j hj=>?_⟩,by omega,?_⟩
        · by_cases e:j=k
          · rw [e];exact hs'
          · exact hno j (by omega)
        · ((refine q0h ?_);(conv=>whnf);(refine q0k (by rfl) (by rfl) flQ ?_))
          exact q0a (by exact flQ) q0f
    · obtain rfl:k=n:=by omega
      have hz:vecI J=q58:=by
        rw [hJ,ok.zero]
        rintro ⟨j,h2,h3⟩
        have h4:=hno j h2
        rw [← ix,← iy,← hasL_iff,h4] at h3
        cases h3
      have hz2:=vecI_zero.1 hz
      obtain ⟨j0,j1,j2,j3,j4,j5,j6,j7⟩:=hz2
      (repeat ((try (conv=>whnf));(refine stQ ?_)))
      conv=>whnf
      refine ⟨?_,rfl⟩
      unfold inA
      rw [j0,j1,j2,j3,j4,j5,j6,j7]
set_option maxHeartbeats 4000000 in
theorem x3l {N:Nat} (hw:1≤w∧w≤256) (hh:1≤h∧h≤256) (hN:(N:Int)≠256*w*h) (hb:0≤256*w*h∧256*w*h≤1000000000) :
    Gives Tryz.prog 15 [.val (.int .i64 w),.val (.int .i64 h),.val (.slice A N c)] G (.tup [.val (.slice none 0 0),.val (.int .i64 4)]):=by
  have gs0:Gives Tryz.prog 35 [.val (.int .i64 w),.val (.int .i64 h)] G (.val (.bool true)):=by
    have h1:=z0t (w:=w) (h:=h) (G:=G)
    rwa [decide_eq_true (by omega)] at h1
  refine q07 tab_ok Tryz.func15 ?_
  generalize hq:256*w*h=q at *
  (repeat ((try (conv=>whnf));(first |(refine stQ ?_) |(with_reducible first |refine q0e (fun vs w=>by kernel_rfl) (by kernel_rfl) (gs0) ?_ |refine q0d (fun vs w=>by kernel_rfl) (by kernel_rfl) (gs0) ?_))))
  exact ⟨rfl,rfl⟩
end
end Go.Proofs.YtkicdhaklnmonaaGreat
namespace Go.Proofs.YtkicdhaklnmonaaGreat
open Go.RowKit
set_option maxRecDepth 20000
set_option maxHeartbeats 4000000 in
theorem z9a {A:Option Addr} {w h W N n c:Nat} {p:Nat→PcD} {G:Mem} (ok:PcsOk w h n p) (hP:PcsM G A n p) (hW:W=16*w) (hN:N=16*h*W) (hN4:N≤4096) :
    q55 Tryz.prog 23 [.val (.int .i64 w),.val (.int .i64 h),.val (.slice A n c)] G id 33 8 N (q0r (fun i=>inkC (q23 p W n i)) N):=by
  have hw:=ok.wd
  have hh:=ok.ht
  have hn:=ok.few
  have hW0:0<W:=by omega
  have eN:(256:Int)*(w:Int)*(h:Int)=(N:Int):=by
    rw [hN,hW];push_cast
    rw [show (16:Int)*h*(16*w)=256*w*h by
      rw [Int.mul_comm 16 (h:Int),Int.mul_assoc,← Int.mul_assoc 16 16,Int.mul_comm (h:Int)];rfl]
  refine q6o tab_ok Tryz.func23 (.alone fun _=>rfl) ?_
  (repeat ((try (conv=>whnf));(refine stQ ?_)))
  conv=>whnf
  refine q0w tab_ok (fun m=>m≤n) (fun (m:Nat)=>[(19,.val (.int .i64 m))]) (fun m=>[.own 33 8 N (q0r (fun i=>inkC (q23 p W m i)) N)]) (fun m=>n-m) 0 (Nat.zero_le _) ?_ ?_
  · ((refine q0h ?_);(conv=>whnf);(refine q0k (by rfl) (by rfl) flQ ?_))
    refine q0c ?_ ?_ q0f
    · show (256*(w:Int)*(h:Int)).toNat=N
      omega
    · rw [show (256*(w:Int)*(h:Int)).toNat=N by omega]
      exact z8w N
  · rintro m hm
    rcases Nat.lt_or_ge m n with h1 |h1
    · obtain ⟨a,rfl,hd⟩:=hP.head h1
      obtain ⟨a',ha',ci⟩:=hP.inks h1
      cases ha'
      have hR:=hP.runs m h1
      have hroom:=hP.room m h1
      obtain ⟨k1,k2,k3,k4⟩:=ok.one m h1
      have hlen:=(q35 k1).length
      (repeat ((try (conv=>whnf));(first |(refine q0b _ hd ?_) |(refine stQ ?_))))
      conv=>whnf
      refine q0w tab_ok (fun s=>s≤(p m).L.length) (fun (s:Nat)=>[(28,.val (.int .i64 s))]) (fun s=>[.own 33 8 N (q0r (fun i=>inkC (q5c (q23 p W m) W ((p m).L.take s) (p m).I i)) N)]) (fun s=>(p m).L.length-s) 0 (Nat.zero_le _) ?_ ?_
      · ((refine q0h ?_);(conv=>whnf);(refine q0k (by rfl) (by rfl) flQ ?_))
        exact q0c rfl (by rw [List.take_zero,x6r]) q0f
      · rintro s hs
        rcases Nat.lt_or_ge s (p m).L.length with h2 |h2
        · obtain ⟨r,hr⟩:∃ r,(p m).L[s]? = some r:=⟨_,List.getElem?_eq_getElem h2⟩
          obtain ⟨b,hb,cb⟩:=hR.cells hr
          have hbd:=(q35 k1).bd (List.mem_of_getElem? hr)
          have hout:=k3 r (List.mem_of_getElem? hr)
          unfold outP at hout
          obtain ⟨ry,r0,r1⟩:=r
          dsimp only at hbd hout cb
          obtain ⟨y,rfl⟩:∃ y:Nat,ry=y:=⟨ry.toNat,by omega⟩
          obtain ⟨x0,rfl⟩:∃ y:Nat,r0=y:=⟨r0.toNat,by omega⟩
          obtain ⟨x1,rfl⟩:∃ y:Nat,r1=y:=⟨r1.toNat,by omega⟩
          have e1:(y:Int)*16*(w:Int)=((y*W:Nat):Int):=by rw [hW];push_cast;rw [Int.mul_assoc]
          have hyW:y*W+W≤N:=by
            rw [hN]
            have:=Nat.mul_le_mul_right W (show y+1≤16*h by omega)
            rw [Nat.add_mul,Nat.one_mul] at this;exact this
          rw [hb] at hd
          (repeat ((try (conv=>whnf));(first |(refine q0b _ hd ?_) |(refine cb _ ?_) |(refine stQ ?_))))
          conv=>whnf
          refine q0w tab_ok (fun x=>x0≤x∧x≤x1) (fun (x:Nat)=>[(11,.val (.int .i64 x))]) (fun x=>[.own 33 8 N (q0r (fun i=>inkC (q5c (q23 p W m) W ((p m).L.take s++[⟨(y:Int),(x0:Int),(x:Int)⟩]) (p m).I i)) N),.cells 78 [.val (.int .i64 y),.val (.int .i64 x0),.val (.int .i64 x1)]]) (fun x=>x1-x) x0 ⟨Nat.le_refl _,by omega⟩ ?_ ?_
          · ((refine q0h ?_);(conv=>whnf);(refine q0k (by rfl) (by rfl) flQ ?_))
            exact q0c rfl (by rw [x4k]) (q0a (by exact flQ) q0f)
          · rintro x ⟨g1,g2⟩
            rcases Nat.lt_or_ge x x1 with h3 |h3
            · (repeat ((try (conv=>whnf));(first |(refine ci _ ?_) |(refine stQ ?_))))
              conv=>whnf
              have eo:((y:Int)*16*(w:Int)+(x:Int)).toNat * 8=(y*W+x)*8+0:=by rw [e1];omega
              have hxW:x<W:=by omega
              have hst:=x6s (J:=q23 p W m) hW0 (K:=(p m).L.take s) (y:=y) (I:=(p m).I) g1 hxW
              have hfl:=x09 (c:=fun i=>inkC (q5c (q23 p W m) W ((p m).L.take s++[⟨(y:Int),(x0:Int),(x:Int)⟩]) (p m).I i)) (sz:=8) (n:=N) (x:=y*W+x) (o:=0) (vs:=inkC (p m).I) (fun _ _=>rfl) (by omega) (Nat.le_refl _)
              refine q31 (ys:=q0r (fun i=>inkC (q5c (q23 p W m) W ((p m).L.take s++[⟨(y:Int),(x0:Int),((x+1:Nat):Int)⟩]) (p m).I i)) N) ?_ ?_ ?_
              · show ((y:Int)*16*(w:Int)+(x:Int)).toNat * 8+8≤_
                rw [eo,q3l (sz:=8) (fun _ _=>rfl)];omega
              · show (q0r _ N).take (((y:Int)*16*(w:Int)+(x:Int)).toNat * 8)++inkC (p m).I++(q0r _ N).drop (((y:Int)*16*(w:Int)+(x:Int)).toNat * 8+(inkC (p m).I).length)=_
                rw [eo,hfl]
                refine q4n fun i hi=>?_
                rw [hst i]
                split <;> rfl
              conv=>whnf
              (repeat ((try (conv=>whnf));(refine stQ ?_)))
              conv=>whnf
              refine ⟨x+1,by omega,by omega,?_⟩
              ((refine q0h ?_);(conv=>whnf);(refine q0k (by rfl) (by rfl) flQ ?_))
              exact q0c rfl rfl (q0a (by exact flQ) q0f)
            · obtain rfl:x=x1:=by omega
              have htk:(p m).L.take (s+1)=(p m).L.take s++[⟨(y:Int),(x0:Int),(x:Int)⟩]:=by rw [List.take_add_one,hr];rfl
              (repeat ((try (conv=>whnf));(refine stQ ?_)))
              conv=>whnf
              refine ⟨s+1,by omega,by omega,?_⟩
              rw [htk]
              ((refine q0h ?_);(conv=>whnf);(refine q0k (by rfl) (by rfl) flQ ?_))
              exact q0c rfl rfl q0f
        · obtain rfl:s=(p m).L.length:=by omega
          rw [List.take_length]
          (repeat ((try (conv=>whnf));(refine stQ ?_)))
          conv=>whnf
          refine ⟨m+1,by omega,by omega,?_⟩
          ((refine q0h ?_);(conv=>whnf);(refine q0k (by rfl) (by rfl) flQ ?_))
          exact q0c rfl rfl q0f
    · obtain rfl:m=n:=by omega
      (repeat ((try (conv=>whnf));(refine stQ ?_)))
      conv=>whnf
      exact .inl ⟨0,rfl,rfl⟩
end Go.Proofs.YtkicdhaklnmonaaGreat
namespace Go.Proofs.YtkicdhaklnmonaaGreat
open Go.RowKit
set_option maxRecDepth 20000
theorem q2c (x a b:Int) (G:Mem) (v:Bool) (hv:v=true↔a≤x∧x≤b):Gives Tryz.prog 11 [.val (.int .i64 x),.val (.int .i64 a),.val (.int .i64 b)] G (.val (.bool v)):=by
  have hv':v=decide (a≤x∧x≤b):=by
    cases v
    · exact (decide_eq_false fun h=>by simpa using hv.2 h).symm
    · exact (decide_eq_true (hv.1 rfl)).symm
  rw [hv']
  refine q07 tab_ok Tryz.func11 ?_
  by_cases h1:a≤x
  · (repeat ((try (conv=>whnf));(refine stQ ?_)))
    exact ⟨by simp [h1],rfl⟩
  · (repeat ((try (conv=>whnf));(refine stQ ?_)))
    exact ⟨by simp [h1],rfl⟩
end Go.Proofs.YtkicdhaklnmonaaGreat
namespace Go.Proofs.YtkicdhaklnmonaaGreat
open Go.RowKit
set_option maxRecDepth 20000
theorem x9w {La Lb:List Run} (va:ValidL La) (vb:ValidL Lb):0<(mixR 1 La Lb).length↔z30 La Lb:=by
  obtain ⟨h1,h2⟩:=q9c (c:=1) va vb
  have key:∀ x y,hasR (mixR 1 La Lb) x y↔hasR La x y∧hasR Lb x y:=fun x y=>by
    rw [h2,← hasL_iff,← hasL_iff];simp [opB]
  constructor
  · intro h
    obtain ⟨r,hr⟩:∃ r,r∈mixR 1 La Lb:=List.exists_mem_of_length_pos h
    have:=q4w h1 hr
    have h3:hasR (mixR 1 La Lb) r.x0 r.y:=⟨r,hr,rfl,by omega,by omega⟩
    exact ⟨_,_,(key _ _).1 h3⟩
  · rintro ⟨x,y,h⟩
    obtain ⟨r,hr,_⟩:=(key x y).2 h
    exact List.length_pos_of_mem hr
section
variable {A:Option Addr} {n c:Nat} {p:Nat→PcD} {G:Mem} {w h:Int}
set_option maxHeartbeats 4000000 in
theorem q5j (hp:PcsM G A n p) (hm:n≤maxLen):Gives Tryz.prog 10 [.val (.int .i64 w),.val (.int .i64 h),.val (.slice A n c)] G (.val (.int .i64 (pcsE w h n p))):=by
  unfold maxLen at hm
  refine q07 tab_ok Tryz.func10 ?_
  unfold pcsE
  by_cases hz1:1≤w∧w≤256
  rotate_left
  · have g1:=q2c w 1 256 G false ⟨(fun h=>by cases h),fun h=>absurd h hz1⟩
    rw [if_pos (fun h=>hz1 h.1)]
    (repeat ((try (conv=>whnf));(first |(refine stQ ?_) |(with_reducible first |refine q0e (fun vs w=>by kernel_rfl) (by kernel_rfl) (g1) ?_ |refine q0d (fun vs w=>by kernel_rfl) (by kernel_rfl) (g1) ?_))))
    exact ⟨rfl,rfl⟩
  have g1:=q2c w 1 256 G true ⟨fun _=>hz1,fun _=>rfl⟩
  by_cases hz2:1≤h∧h≤256
  rotate_left
  · have g2:=q2c h 1 256 G false ⟨(fun h=>by cases h),fun h=>absurd h hz2⟩
    rw [if_pos (fun h=>hz2 h.2)]
    (repeat ((try (conv=>whnf));(first |(refine stQ ?_) |(with_reducible first |refine q0e (fun vs w=>by kernel_rfl) (by kernel_rfl) (g1) ?_ |refine q0d (fun vs w=>by kernel_rfl) (by kernel_rfl) (g1) ?_ |refine q0e (fun vs w=>by kernel_rfl) (by kernel_rfl) (g2) ?_ |refine q0d (fun vs w=>by kernel_rfl) (by kernel_rfl) (g2) ?_))))
    exact ⟨rfl,rfl⟩
  have g2:=q2c h 1 256 G true ⟨fun _=>hz2,fun _=>rfl⟩
  rw [if_neg (fun h=>h ⟨hz1,hz2⟩)]
  by_cases hn:4096<n
  · rw [if_pos hn]
    (repeat ((try (conv=>whnf));(first |(refine stQ ?_) |(with_reducible first |refine q0e (fun vs w=>by kernel_rfl) (by kernel_rfl) (g1) ?_ |refine q0d (fun vs w=>by kernel_rfl) (by kernel_rfl) (g1) ?_ |refine q0e (fun vs w=>by kernel_rfl) (by kernel_rfl) (g2) ?_ |refine q0d (fun vs w=>by kernel_rfl) (by kernel_rfl) (g2) ?_))))
    exact ⟨rfl,rfl⟩
  rw [if_neg hn]
  (repeat ((try (conv=>whnf));(first |(refine stQ ?_) |(with_reducible first |refine q0e (fun vs w=>by kernel_rfl) (by kernel_rfl) (g1) ?_ |refine q0d (fun vs w=>by kernel_rfl) (by kernel_rfl) (g1) ?_ |refine q0e (fun vs w=>by kernel_rfl) (by kernel_rfl) (g2) ?_ |refine q0d (fun vs w=>by kernel_rfl) (by kernel_rfl) (g2) ?_))))
  conv=>whnf
  refine q0w tab_ok (fun i=>i≤n∧q10 (fun i=>pcE w h (p i)) i=0) (fun (i:Nat)=>[(28,.val (.int .i64 i))]) (fun i=>[]) (fun i=>n-i) 0 ⟨Nat.zero_le _,rfl⟩ ?_ ?_
  · ((refine q0h ?_);(conv=>whnf);(refine q0k (by rfl) (by rfl) flQ ?_))
    exact q0f
  · rintro i ⟨hi,h0⟩
    rcases Nat.lt_or_ge i n with h1 |h1
    · obtain ⟨a,rfl,ch⟩:=hp.head h1
      obtain ⟨a',ha',ci⟩:=hp.inks h1
      cases ha'
      have hR:=hp.runs i h1
      have hroom:=hp.room i h1
      have gc:=RCheck_gives (c:=(p i).q) hR hroom.1 hroom.2
      have hfirst:pcE w h (p i)≠0→q10 (fun i=>pcE w h (p i)) n=pcE w h (p i):=fun e=>z0a (f:=fun i=>pcE w h (p i)) h0 e h1
      by_cases e1:errL (p i).L=0
      · rw [e1] at gc
        by_cases e2:(p i).L.length=0
        · have e:=x0v (w:=w) (h:=h) e1 e2
          have hf:=hfirst (by omega)
          rw [if_pos (by rw [hf];omega),hf,e]
          (repeat ((try (conv=>whnf));(first |(refine q0b _ ch ?_) |(refine stQ ?_) |(with_reducible first |refine q0e (fun vs w=>by kernel_rfl) (by kernel_rfl) (gc) ?_ |refine q0d (fun vs w=>by kernel_rfl) (by kernel_rfl) (gc) ?_))))
          conv=>whnf
          exact ⟨rfl,rfl⟩
        · have hlen:=(q35 e1).length
          (repeat ((try (conv=>whnf));(first |(refine q0b _ ch ?_) |(refine stQ ?_) |(with_reducible first |refine q0e (fun vs w=>by kernel_rfl) (by kernel_rfl) (gc) ?_ |refine q0d (fun vs w=>by kernel_rfl) (by kernel_rfl) (gc) ?_))))
          conv=>whnf
          refine q0w tab_ok (fun k=>k≤(p i).L.length∧∀ r∈(p i).L.take k,¬ outP w h r) (fun (k:Nat)=>[(53,.val (.int .i64 k))]) (fun k=>[]) (fun k=>(p i).L.length-k) 0 ⟨Nat.zero_le _,fun r hr=>by cases hr⟩ ?_ ?_
          · ((refine q0h ?_);(conv=>whnf);(refine q0k (by rfl) (by rfl) flQ ?_))
            exact q0f
          · rintro k ⟨hk,hout⟩
            rcases Nat.lt_or_ge k (p i).L.length with h2 |h2
            · obtain ⟨r,hr⟩:∃ r,(p i).L[k]? = some r:=⟨_,List.getElem?_eq_getElem h2⟩
              obtain ⟨b,hb,cb⟩:=hR.cells hr
              have hbd:=(q35 e1).bd (List.mem_of_getElem? hr)
              have htk:(p i).L.take (k+1)=(p i).L.take k++[r]:=by rw [List.take_add_one,hr];rfl
              rw [hb] at ch
              have bad:outP w h r→q10 (fun i=>pcE w h (p i)) n=3:=fun ho=>by
                have e:=x3b (w:=w) (h:=h) e1 e2 ⟨r,List.mem_of_getElem? hr,ho⟩
                rw [hfirst (by omega),e]
              by_cases o1:r.y<0
              · rw [bad (.inl o1),if_pos (by omega)]
                (repeat ((try (conv=>whnf));(first |(refine q0b _ ch ?_) |(refine cb _ ?_) |(refine stQ ?_))))
                conv=>whnf
                exact ⟨rfl,rfl⟩
              by_cases o2:16*h≤r.y
              · rw [bad (.inr (.inl o2)),if_pos (by omega)]
                (repeat ((try (conv=>whnf));(first |(refine q0b _ ch ?_) |(refine cb _ ?_) |(refine stQ ?_))))
                conv=>whnf
                exact ⟨rfl,rfl⟩
              by_cases o3:r.x0<0
              · rw [bad (.inr (.inr (.inl o3))),if_pos (by omega)]
                (repeat ((try (conv=>whnf));(first |(refine q0b _ ch ?_) |(refine cb _ ?_) |(refine stQ ?_))))
                conv=>whnf
                exact ⟨rfl,rfl⟩
              by_cases o4:16*w<r.x1
              · rw [bad (.inr (.inr (.inr o4))),if_pos (by omega)]
                (repeat ((try (conv=>whnf));(first |(refine q0b _ ch ?_) |(refine cb _ ?_) |(refine stQ ?_))))
                conv=>whnf
                exact ⟨rfl,rfl⟩
              · (repeat ((try (conv=>whnf));(first |(refine q0b _ ch ?_) |(refine cb _ ?_) |(refine stQ ?_))))
                conv=>whnf
                refine ⟨k+1,⟨by omega,fun s hs=>?_⟩,by omega,?_⟩
                · rw [htk,List.mem_append] at hs
                  rcases hs with hs |hs
                  · exact hout s hs
                  · simp at hs;subst hs;unfold outP;omega
                · ((refine q0h ?_);(conv=>whnf);(refine q0k (by rfl) (by rfl) flQ ?_))
                  exact q0f
            · obtain rfl:k=(p i).L.length:=by omega
              rw [List.take_length] at hout
              have e3:¬ ∃ r∈(p i).L,outP w h r:=fun ⟨r,h3,h4⟩=>hout r h3 h4
              by_cases e4:q2x (p i).I
              · have e:=x0w (w:=w) (h:=h) e1 e2 e3 e4
                have hf:=hfirst (by omega)
                rw [if_pos (by rw [hf];omega),hf,e]
                unfold q2x at e4
                (repeat ((try (conv=>whnf));(first |(refine ci _ ?_) |(refine stQ ?_))))
                conv=>whnf
                exact ⟨rfl,rfl⟩
              · have e:=z53 (w:=w) (h:=h) e1 e2 e3 e4
                have hnz:=q63 e4
                (repeat ((try (conv=>whnf));(first |(refine ci _ ?_) |(with_reducible refine q03 hnz ?_) |(refine stQ ?_))))
                conv=>whnf
                refine ⟨i+1,⟨by omega,q5m (f:=fun i=>pcE w h (p i)) h0 e⟩,by omega,?_⟩
                ((refine q0h ?_);(conv=>whnf);(refine q0k (by rfl) (by rfl) flQ ?_))
                exact q0f
      · have e:=x3a (w:=w) (h:=h) e1
        have hf:=hfirst (by omega)
        rw [if_pos (by rw [hf,e];exact e1),hf,e]
        (repeat ((try (conv=>whnf));(first |(refine q0b _ ch ?_) |(refine stQ ?_) |(with_reducible first |refine q0e (fun vs w=>by kernel_rfl) (by kernel_rfl) (gc) ?_ |refine q0d (fun vs w=>by kernel_rfl) (by kernel_rfl) (gc) ?_))))
        conv=>whnf
        exact ⟨rfl,rfl⟩
    · obtain rfl:i=n:=by omega
      rw [if_neg (by omega)]
      have hok:=x08 h0
      (repeat ((try (conv=>whnf));(refine stQ ?_)))
      conv=>whnf
      refine q0w tab_ok (fun j=>j≤i∧q10 (apE p) j=0) (fun (j:Nat)=>[(98,.val (.int .i64 j))]) (fun j=>[]) (fun j=>i-j) 0 ⟨Nat.zero_le _,rfl⟩ ?_ ?_
      · ((refine q0h ?_);(conv=>whnf);(refine q0k (by rfl) (by rfl) flQ ?_))
        exact q0f
      · rintro j ⟨hj,g0⟩
        rcases Nat.lt_or_ge j i with h2 |h2
        · have hfirst:=fun h=>z0a (n:=i) g0 h h2
          obtain ⟨a,rfl,cj⟩:=hp.head h2
          obtain ⟨a',ha',ij⟩:=hp.inks h2
          cases ha'
          (repeat ((try (conv=>whnf));(refine stQ ?_)))
          conv=>whnf
          refine q0w tab_ok (fun k=>k≤j∧∀ m,m<k→¬ (q3g (p m).I (p j).I∨z30 (p m).L (p j).L)) (fun (k:Nat)=>[(12,.val (.int .i64 k))]) (fun k=>[]) (fun k=>j-k) 0 ⟨Nat.zero_le _,fun m hm=>by omega⟩ ?_ ?_
          · ((refine q0h ?_);(conv=>whnf);(refine q0k (by rfl) (by rfl) flQ ?_))
            exact q0f
          · rintro k ⟨hk,hno⟩
            rcases Nat.lt_or_ge k j with h3 |h3
            · obtain ⟨a',ha',ck⟩:=hp.head (show k<i by omega)
              cases ha'
              obtain ⟨a',ha',ik⟩:=hp.inks (show k<i by omega)
              cases ha'
              by_cases hs:q3g (p k).I (p j).I
              · have e7:=z54 (p:=p) (i:=j) ⟨k,h3,.inl hs⟩
                rw [hfirst (by omega),e7]
                unfold q3g at hs
                (repeat ((try (conv=>whnf));(first |(refine q0b _ ck ?_) |(refine q0b _ cj ?_) |(refine ik _ ?_) |(refine ij _ ?_) |(refine stQ ?_))))
                conv=>whnf
                exact ⟨rfl,rfl⟩
              · have hns:=z22 hs
                have hmk:=z7a (p k).A (p j).A (p k).L (p j).L (p k).q (p j).q 1 G (hp.runs k (by omega)) (hp.runs j h2) (hok k (by omega)).1 (hok j h2).1
                have hlm:=(x4e (c:=1) (hok k (by omega)).1 (hok j h2).1).length
                have hmt:=x9w (hok k (by omega)).1 (hok j h2).1
                generalize mixR 1 (p k).L (p j).L=M at *
                by_cases hm:z30 (p k).L (p j).L
                · have e7:=z54 (p:=p) (i:=j) ⟨k,h3,.inr hm⟩
                  rw [hfirst (by omega),e7]
                  have hM:=hmt.2 hm
                  (repeat ((try (conv=>whnf));(first |(refine q0b _ ck ?_) |(refine q0b _ cj ?_) |(refine ik _ ?_) |(refine ij _ ?_) |(with_reducible refine q03 hns ?_) |(refine z2n (fun vs w=>by kernel_rfl) (.alone fun _=>rfl) (by kernel_rfl) hmk ?_) |(refine stQ ?_))))
                  conv=>whnf
                  exact ⟨rfl,rfl⟩
                · have hM:M.length=0:=by
                    rcases Nat.eq_zero_or_pos M.length with h |h
                    · exact h
                    · exact absurd (hmt.1 h) hm
                  (repeat ((try (conv=>whnf));(first |(refine q0b _ ck ?_) |(refine q0b _ cj ?_) |(refine ik _ ?_) |(refine ij _ ?_) |(with_reducible refine q03 hns ?_) |(refine z2n (fun vs w=>by kernel_rfl) (.alone fun _=>rfl) (by kernel_rfl) hmk ?_) |(refine stQ ?_))))
                  conv=>whnf
                  refine ⟨k+1,⟨by omega,fun m hm'=>?_⟩,by omega,?_⟩
                  · by_cases e:m=k
                    · subst e
                      exact fun h=>h.elim hs hm
                    · exact hno m (by omega)
                  · ((refine q0h ?_);(conv=>whnf);(refine q0k (by rfl) (by rfl) flQ ?_))
                    exact q0f
            · obtain rfl:k=j:=by omega
              have htw:¬ twP p k:=fun ⟨m,m1,m2⟩=>hno m m1 m2
              by_cases hj0:k=0
              · have e0:=z00 htw (fun ho=>by unfold ordP at ho;omega)
                (repeat ((try (conv=>whnf));(refine stQ ?_)))
                conv=>whnf
                refine ⟨k+1,⟨by omega,q5m g0 e0⟩,by omega,?_⟩
                ((refine q0h ?_);(conv=>whnf);(refine q0k (by rfl) (by rfl) flQ ?_))
                exact q0f
              · obtain ⟨m,rfl⟩:∃ m,k=m+1:=⟨k-1,by omega⟩
                obtain ⟨a3,ha3,hd⟩:=hp.head (show m<i by omega)
                cases ha3
                obtain ⟨a1,ha1,c1⟩:=q83 (hok (m+1) h2).2.1 (hp.runs (m+1) h2)
                obtain ⟨a2,ha2,c2⟩:=q83 (hok m (by omega)).2.1 (hp.runs m (by omega))
                have hl1:0<(p (m+1)).L.length:=Nat.pos_of_ne_zero (hok _ h2).2.1
                have hl2:0<(p m).L.length:=Nat.pos_of_ne_zero (hok _ (by omega)).2.1
                have hod:ordP p (m+1)↔((q08 (p (m+1)).L).y<(q08 (p m).L).y∨((q08 (p (m+1)).L).y=(q08 (p m).L).y∧(q08 (p (m+1)).L).x0<(q08 (p m).L).x0)):=by
                  unfold ordP;rw [Nat.add_sub_cancel];simp
                have hix:(((m+1:Nat):Int)-1).toNat=m:=by omega
                rw [ha1] at cj
                rw [ha2,← hix] at hd
                rw [← hix] at hl2
                by_cases ho:ordP p (m+1)
                · have e7:=x3c htw ho
                  rw [hfirst (by omega),e7]
                  rw [hod] at ho
                  rcases ho with ho |⟨ho1,ho2⟩
                  · (repeat ((try (conv=>whnf));(first |(refine q0b _ cj ?_) |(refine q0b _ hd ?_) |(refine c1 _ ?_) |(refine c2 _ ?_) |(refine s3Q ?_))))
                    conv=>whnf
                    exact ⟨rfl,rfl⟩
                  · (repeat ((try (conv=>whnf));(first |(refine q0b _ cj ?_) |(refine q0b _ hd ?_) |(refine c1 _ ?_) |(refine c2 _ ?_) |(refine s3Q ?_))))
                    conv=>whnf
                    exact ⟨rfl,rfl⟩
                · have e7:=z00 htw ho
                  rw [hod] at ho
                  have hnext:q10 (apE p) (m+1+1)=0:=q5m g0 e7
                  by_cases ho1:(q08 (p (m+1)).L).y=(q08 (p m).L).y
                  · (repeat ((try (conv=>whnf));(first |(refine q0b _ cj ?_) |(refine q0b _ hd ?_) |(refine c1 _ ?_) |(refine c2 _ ?_) |(refine s3Q ?_))))
                    conv=>whnf
                    refine ⟨m+1+1,⟨by omega,hnext⟩,by omega,?_⟩
                    ((refine q0h ?_);(conv=>whnf);(refine q0k (by rfl) (by rfl) flQ ?_))
                    exact q0f
                  · (repeat ((try (conv=>whnf));(first |(refine q0b _ cj ?_) |(refine q0b _ hd ?_) |(refine c1 _ ?_) |(refine c2 _ ?_) |(refine s3Q ?_))))
                    conv=>whnf
                    refine ⟨m+1+1,⟨by omega,hnext⟩,by omega,?_⟩
                    ((refine q0h ?_);(conv=>whnf);(refine q0k (by rfl) (by rfl) flQ ?_))
                    exact q0f
        · obtain rfl:j=i:=by omega
          rw [g0]
          (repeat ((try (conv=>whnf));(refine stQ ?_)))
          conv=>whnf
          exact ⟨rfl,rfl⟩
end
end Go.Proofs.YtkicdhaklnmonaaGreat
namespace Go.Proofs.YtkicdhaklnmonaaGreat
open Go.RowKit Go.Deep
set_option maxRecDepth 20000
theorem q3w:flat Tryz.prog 20 35=[.slice 24,.int .u8,.int .u8,.int .u8,.int .u8,.int .u8,.int .u8,.int .u8,.int .u8]:=by kernel_rfl
theorem q5f:q4y Tryz.prog 20 35=true:=by kernel_rfl
theorem v2g:Tryz.prog.cellsOf 35=9:=by kernel_rfl
theorem v2r:Tryz.prog.underlying 24=some (.slice 78):=Tryz.underlying24
theorem v2s:0<Tryz.prog.cellsOf 78:=of_decide_eq_true (by kernel_rfl)
theorem z0l {z:Int} (h:(Lit.int .u8 z).wf=true):0≤z∧z≤255:=by
  simp [Lit.wf,IntKind.min,IntKind.max,IntKind.signed,IntKind.bits] at h
  omega
section
variable {w:World} {A:Option Addr} {n:Nat} {g:Nat→Nat→Value}
theorem v1r (h:SliceG Tryz.prog w 35 A n g) {x:Nat} (hx:x<n):∃ p:PcD,pcC p=[g x 0,g x 1,g x 2,g x 3,g x 4,g x 5,g x 6,g x 7,g x 8]∧RunsM (q69 w) p.A p.L∧(p.L.length≤p.q∧p.q≤maxLen)∧∀ j,0≤p.I j∧p.I j≤255:=by
  obtain ⟨m,h0⟩:=h.seen (j:=0) q5f hx (by rw [q3w];rfl)
  obtain ⟨B,k,c,gr,e0,r1,r2,hs⟩:=z5x v2r v2s h0
  have e1:=(h.int (j:=1) (k:=.u8) q5f hx (by rw [q3w];rfl))
  have e2:=(h.int (j:=2) (k:=.u8) q5f hx (by rw [q3w];rfl))
  have e3:=(h.int (j:=3) (k:=.u8) q5f hx (by rw [q3w];rfl))
  have e4:=(h.int (j:=4) (k:=.u8) q5f hx (by rw [q3w];rfl))
  have e5:=(h.int (j:=5) (k:=.u8) q5f hx (by rw [q3w];rfl))
  have e6:=(h.int (j:=6) (k:=.u8) q5f hx (by rw [q3w];rfl))
  have e7:=(h.int (j:=7) (k:=.u8) q5f hx (by rw [q3w];rfl))
  have e8:=(h.int (j:=8) (k:=.u8) q5f hx (by rw [q3w];rfl))
  have hR:=v19 hs
  refine ⟨⟨q2p (fun x=>⟨valI (gr x 0),valI (gr x 1),valI (gr x 2)⟩) k,B,c,fun j=>if j<8 then valI (g x (j+1)) else 0⟩,?_,hR,⟨by rw [z2z];exact r1,r2⟩,fun j=>?_⟩
  · simp only [pcC,inkC,z2z]
    rw [e0]
    simp [e1.1.symm,e2.1.symm,e3.1.symm,e4.1.symm,e5.1.symm,e6.1.symm,e7.1.symm,e8.1.symm]
  · dsimp only
    by_cases hj:j<8
    · rw [if_pos hj]
      match j,hj with
      | 0,_=>exact z0l e1.2
      | 1,_=>exact z0l e2.2
      | 2,_=>exact z0l e3.2
      | 3,_=>exact z0l e4.2
      | 4,_=>exact z0l e5.2
      | 5,_=>exact z0l e6.2
      | 6,_=>exact z0l e7.2
      | 7,_=>exact z0l e8.2
    · rw [if_neg hj];omega
theorem v2t (h:SliceG Tryz.prog w 35 A n g):∃ p:Nat→PcD,PcsM (q69 w) A n p:=by
  obtain ⟨p,hp⟩:=choose_lt (fun x hx=>v1r h hx)
  refine ⟨p,⟨⟨fun x hx=>rfl,fun x hx=>?_⟩,fun i hi=>(hp i hi).2.1,fun i hi=>(hp i hi).2.2.1,fun i hi=>(hp i hi).2.2.2⟩⟩
  obtain ⟨b,off,rfl,_,hc⟩:=h (by omega)
  rw [v2g] at hc
  refine ⟨b,off,rfl,fun j v hj=>?_⟩
  rw [(hp x hx).1] at hj
  match j,hj with
  | 0,hj=>simp at hj;subst hj;exact (hc x hx).1 0 (by omega)
  | 1,hj=>simp at hj;subst hj;exact (hc x hx).1 1 (by omega)
  | 2,hj=>simp at hj;subst hj;exact (hc x hx).1 2 (by omega)
  | 3,hj=>simp at hj;subst hj;exact (hc x hx).1 3 (by omega)
  | 4,hj=>simp at hj;subst hj;exact (hc x hx).1 4 (by omega)
  | 5,hj=>simp at hj;subst hj;exact (hc x hx).1 5 (by omega)
  | 6,hj=>simp at hj;subst hj;exact (hc x hx).1 6 (by omega)
  | 7,hj=>simp at hj;subst hj;exact (hc x hx).1 7 (by omega)
  | 8,hj=>simp at hj;subst hj;exact (hc x hx).1 8 (by omega)
end
end Go.Proofs.YtkicdhaklnmonaaGreat
namespace Go.Proofs.YtkicdhaklnmonaaGreat
open Go.RowKit
set_option maxRecDepth 20000
theorem x3m (x lo hi:Int) (h:-1000000≤lo∧lo≤hi∧hi≤1000000):∃ s:Int,(lo≤s∧s≤hi)∧∀ G,Gives Tryz.prog 14 [.val (.int .i64 x),.val (.int .i64 lo),.val (.int .i64 hi)] G (.val (.int .i64 s)):=by
  have h1:=Int.tmod_lt_of_pos x (show (0:Int)<hi-lo+1 by omega)
  have h2:-(hi-lo+1)<x.tmod (hi-lo+1):=Int.lt_tmod_of_pos x (by omega)
  have h3:=Int.tmod_lt_of_pos (x.tmod (hi-lo+1)+(hi-lo+1)) (show (0:Int)<hi-lo+1 by omega)
  have h4:0≤(x.tmod (hi-lo+1)+(hi-lo+1)).tmod (hi-lo+1):=Int.tmod_nonneg _ (by omega)
  refine ⟨lo+(x.tmod (hi-lo+1)+(hi-lo+1)).tmod (hi-lo+1),by omega,fun G=>?_⟩
  refine q07 tab_ok Tryz.func14 ?_
  (repeat ((try (conv=>whnf));(refine stQ ?_)))
  exact ⟨rfl,rfl⟩
end Go.Proofs.YtkicdhaklnmonaaGreat
