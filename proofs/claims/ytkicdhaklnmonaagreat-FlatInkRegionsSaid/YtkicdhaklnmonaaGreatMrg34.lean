/-
  Merged: XMorph, XPaper, XRowsM, XPcsOfW, XSamePcs, XFlats, XSomeE, XInG, XPiecesR, XPiecesM.
-/
import Derived.Test.YtkicdhaklnmonaaGreatMrg33
import Derived.Test.YtkicdhaklnmonaaGreatErode1
import Derived.Test.YtkicdhaklnmonaaGreatMrg16
import Derived.Test.YtkicdhaklnmonaaGreatMrg19
import Derived.Test.YtkicdhaklnmonaaGreatMrg13
import Derived.Test.YtkicdhaklnmonaaGreatMrg21
import Derived.Test.YtkicdhaklnmonaaGreatMrg27
import Derived.Test.YtkicdhaklnmonaaGreatMrg14
import Derived.Test.YtkicdhaklnmonaaGreatMrg20
import Derived.Test.YtkicdhaklnmonaaGreatMrg17
import Derived.Test.YtkicdhaklnmonaaGreatMrg18
import Derived.Test.YtkicdhaklnmonaaGreatMrg31
import Derived.Test.YtkicdhaklnmonaaGreatPcsList
import Derived.Test.YtkicdhaklnmonaaGreatEng2
import Derived.Test.YtkicdhaklnmonaaGreatMrg26
import Derived.Test.YtkicdhaklnmonaaGreatMrg6
set_option linter.unusedVariables false
set_option linter.unusedSimpArgs false
set_option linter.unnecessarySimpa false
namespace Go.Proofs.YtkicdhaklnmonaaGreat
open Go.RowKit
set_option maxRecDepth 20000
section
variable {A:Option Addr} {L:List Run} {c:Nat} {w:Int} {G:Mem}
end
end Go.Proofs.YtkicdhaklnmonaaGreat
namespace Go.Proofs.YtkicdhaklnmonaaGreat
open Go.RowKit
set_option maxRecDepth 20000
theorem z8m {W H:Int} (hW:0<W) (hH:0≤H):okR (q49 0 W 0 H.toNat)∧∀ x y,hasR (q49 0 W 0 H.toNat) x y↔(0≤x∧x<W)∧0≤y∧y<H:=by
  constructor
  · generalize H.toNat=n
    induction n with
    | zero=>simp [q49,okR]
    | succ n ih =>
      have e:q49 0 W 0 (n+1)=q49 0 W 0 n++[⟨0+n,0,W⟩]:=by simp [q49,List.range_succ]
      rw [e,okR_append]
      refine ⟨ih,⟨hW,by simp,trivial⟩,fun r hr s hs=>?_⟩
      simp only [q49,List.mem_map,List.mem_range] at hr
      obtain ⟨i,hi,rfl⟩:=hr
      simp at hs;subst hs
      left;show (0:Int)+i<_;dsimp only;omega
  · intro x y
    unfold q49 hasR
    constructor
    · rintro ⟨r,hr,h1,h2,h3⟩
      simp only [List.mem_map,List.mem_range] at hr
      obtain ⟨i,hi,rfl⟩:=hr
      dsimp only at h1 h2 h3
      omega
    · rintro ⟨h1,h2⟩
      exact ⟨⟨0+(y.toNat:Int),0,W⟩,List.mem_map.2 ⟨y.toNat,List.mem_range.2 (by omega),rfl⟩,by show 0+(y.toNat:Int)=y;omega,h1.1,h1.2⟩
end Go.Proofs.YtkicdhaklnmonaaGreat
namespace Go.Proofs.YtkicdhaklnmonaaGreat
open Go.RowKit
structure PRowsM (G0:Mem) (E:TypeId) (S:Nat→Prop) (M:Mem) (gs:List Pc) (B:Nat→Value):Prop where
  le:G0.le M
  rows:∀ (k:Nat) (p:Pc),gs[k]? = some p→RowS S M E 3 (B k) p.2.length (q0r p.2)
  apart:∀ k l b,k<gs.length→l<gs.length→k≠l→q0h (B k)=some b→q0h (B l)≠some b
  free:∀ k b,k<gs.length→q0h (B k)=some b→G0 b=none
section
variable {G0:Mem} {E:TypeId} {S S':Nat→Prop} {M M':Mem} {gs:List Pc} {B:Nat→Value} {k:Nat} {v:List Int} {L:List Run} {r:Run}
theorem PRowsM.app (h:PRowsM G0 E S M gs B) (hk:gs[k]? = some (v,L)) {x:Value} (hG:RowG S M (B k) S' M' x) (hR:RowS S' M' E 3 x (L.length+1) (q0r (L++[r]))):PRowsM G0 E S' M' (gs.set k (v,L++[r])) (putV B k x):=by
  have hkl:=(List.getElem?_eq_some_iff.1 hk).1
  have hG0:∀ b,q0h x=some b→G0 b=none:=fun b hb=>by
    by_cases e:q0h (B k)=some b
    · exact h.free k b hkl e
    · exact Mem.le.none h.le (hG.fresh b hb e)
  have hle:G0.le M':=fun b o hb=>hG.old b o (h.le b o hb) fun e=>by
    have:=h.free k b hkl e
    rw [this] at hb;cases hb
  have hne:∀ l,l<gs.length→l≠k→∀ b,q0h (B l)=some b→q0h (B k)≠some b:=fun l hl hlk b hb=>h.apart l k b hl hkl hlk hb
  have hx:∀ l,l<gs.length→l≠k→∀ b,q0h (B l)=some b→q0h x≠some b:=fun l hl hlk b hb e=>by
    by_cases e2:q0h (B k)=some b
    · exact hne l hl hlk b hb e2
    · have hn:=hG.fresh b e e2
      obtain ⟨p,hp⟩:∃ p,gs[l]? = some p:=⟨_,List.getElem?_eq_getElem hl⟩
      obtain ⟨_,o,ho⟩:=(h.rows l p hp).blk hb
      rw [hn] at ho;cases ho
  refine ⟨hle,fun l p hl=>?_,fun i j b hi hj hij hb=>?_,fun i b hi hb=>?_⟩
  · by_cases e:k=l
    · subst e
      rw [List.getElem?_set_self hkl] at hl;cases hl
      rw [q12]
      simpa using hR
    · rw [List.getElem?_set_ne e] at hl
      have hll:=(List.getElem?_eq_some_iff.1 hl).1
      rw [q2d (fun e2=>e e2.symm)]
      exact hG.row (h.rows l p hl) (hne l hll (fun e2=>e e2.symm))
  · simp only [List.length_set] at hi hj
    by_cases e1:i=k
    · subst e1
      rw [q12] at hb
      rw [q2d (fun e2=>hij e2.symm)]
      exact fun e3=>hx j hj (fun e2=>hij e2.symm) b e3 hb
    · rw [q2d e1] at hb
      by_cases e2:j=k
      · subst e2;rw [q12];exact hx i hi e1 b hb
      · rw [q2d e2];exact h.apart i j b hi hj hij hb
  · simp only [List.length_set] at hi
    by_cases e1:i=k
    · subst e1;rw [q12] at hb;exact hG0 b hb
    · rw [q2d e1] at hb;exact h.free i b hi hb
theorem PRowsM.put {b:Nat} (h:PRowsM G0 E S M gs B) (hk:gs[k]? = some (v,L)) (hb:q0h (B k)=some b) (hM:∀ c,c≠b→M' c=M c) {L':List Run} (hR:RowS S M' E 3 (B k) L'.length (q0r L')):PRowsM G0 E S M' (gs.set k (v,L')) B:=by
  have hkl:=(List.getElem?_eq_some_iff.1 hk).1
  have f1:=h.free k b hkl hb
  refine ⟨fun c o hc=>?_,fun l p hl=>?_,fun i j c hi hj=>?_,fun i c hi=>?_⟩
  · rw [hM c (fun e=>by rw [e,f1] at hc;cases hc)];exact h.le c o hc
  · by_cases e:k=l
    · subst e
      rw [List.getElem?_set_self hkl] at hl;cases hl
      exact hR
    · rw [List.getElem?_set_ne e] at hl
      have hll:=(List.getElem?_eq_some_iff.1 hl).1
      exact (h.rows l p hl).of (fun _ h=>h) fun c hc=>hM c fun e2=>by
        subst e2
        exact h.apart l k c hll hkl (fun e3=>e e3.symm) hc hb
  · simp only [List.length_set] at hi hj;exact h.apart i j c hi hj
  · simp only [List.length_set] at hi;exact h.free i c hi
theorem PRowsM.key (h:PRowsM G0 E S M gs B):PRowsM G0 E S M (gs++[(v,[])]) (putV B gs.length (.slice none 0 0)):=by
  refine ⟨h.le,fun l p hl=>?_,fun i j c hi hj hij hb=>?_,fun i c hi hb=>?_⟩
  · rw [List.getElem?_append] at hl
    split at hl
    · rename_i hll
      rw [q2d (by omega)]
      exact h.rows l p hl
    · rename_i hll
      have e:l-gs.length=0:=by have:=(List.getElem?_eq_some_iff.1 hl).1;simp at this;omega
      rw [e] at hl;simp at hl;subst hl
      rw [show l=gs.length by omega,q12]
      exact RowS.nil _ _ _ _
  · simp at hi hj
    by_cases e1:i=gs.length
    · subst e1;rw [q12] at hb;cases hb
    · rw [q2d e1] at hb
      by_cases e2:j=gs.length
      · subst e2;rw [q12];exact fun e=>by cases e
      · rw [q2d e2];exact h.apart i j c (by omega) (by omega) hij hb
  · simp at hi
    by_cases e1:i=gs.length
    · subst e1;rw [q12] at hb;cases hb
    · rw [q2d e1] at hb;exact h.free i c (by omega) hb
end
end Go.Proofs.YtkicdhaklnmonaaGreat
namespace Go.Proofs.YtkicdhaklnmonaaGreat
open Go.RowKit
set_option maxRecDepth 20000
theorem PRowsM.piece {G0:Mem} {E:TypeId} {S:Nat→Prop} {M:Mem} {gs:List Pc} {B:Nat→Value} (h:PRowsM G0 E S M gs B) {k:Nat} {p:Pc} (hk:gs[k]? = some p):(gatP gs B k).L=p.2∧B k=.slice (gatP gs B k).A (gatP gs B k).L.length (gatP gs B k).q∧(gatP gs B k).L.length≤(gatP gs B k).q∧(gatP gs B k).q≤maxLen∧RunsM M (gatP gs B k).A (gatP gs B k).L:=by
  have hL:(gatP gs B k).L=p.2:=by simp [gatP,hk]
  have hr:=h.rows k p hk
  obtain ⟨A,c,e,h1,h2⟩:=hr.isSl
  have eA:(gatP gs B k).A=A:=by simp [gatP,e,slA]
  have eq:(gatP gs B k).q=c:=by simp [gatP,e,slQ]
  rw [hL,eA,eq]
  refine ⟨rfl,e,h1,h2,?_⟩
  rw [e] at hr
  have hF:=hr.flat
  intro i r hi
  obtain ⟨q0,q1,q2⟩:=q3t hi
  rcases hF with ⟨_,h0⟩ |⟨b,off,rfl,h3⟩
  · rw [h0] at q0;simp at q0
  · exact ⟨b,off,rfl,by simpa using h3 _ _ q0,by simpa [Nat.add_assoc] using h3 _ _ q1,by simpa [Nat.add_assoc] using h3 _ _ q2⟩
end Go.Proofs.YtkicdhaklnmonaaGreat
namespace Go.Proofs.YtkicdhaklnmonaaGreat
open Go.RowKit
set_option maxRecDepth 20000
theorem z8n {c d:Nat→List Int} {W:Nat}:∀ {i:Nat},(∀ j,j<i→c j=d j)→gat c W i=gat d W i
  | 0,_=>rfl
  | i+1,h=>by
    unfold gat
    rw [z8n (i:=i) (fun j hj=>h j (by omega)),h i (by omega)]
end Go.Proofs.YtkicdhaklnmonaaGreat
namespace Go.Proofs.YtkicdhaklnmonaaGreat
open Go.RowKit
set_option maxRecDepth 20000
def flC (i:Nat):List Int:=if i=0 then [100,0,0,0,0,0,0,0] else [200,0,0,0,0,0,0,0]
def flL:List Run:=⟨0,1,16⟩::q49 0 16 1 15
def flG:List Pc:=[([100,0,0,0,0,0,0,0],[⟨0,0,1⟩]),([200,0,0,0,0,0,0,0],flL)]
theorem v0w:gat flC 16 256=flG:=by kernel_rfl
theorem x6x {I:Nat→ItemD} {f:Nat→SrcF} {R:Nat→List Run} {n m:Nat} {x y x' y':Int} (h1:∀ i,hasL (R i) x y=hasL (R i) x' y') (h2:∀ i,f i x y=f i x' y'):q4h I f R n m x y=q4h I f R n m x' y':=by
  have:q0t I f R x y=q0t I f R x' y':=by
    unfold q0t
    simp only [h1,h2]
  unfold q4h
  rw [this]
theorem x6y (i:Nat) (x y:Int) (hx:0≤x∧x<16) (hy:0≤y∧y<16):hasL (spR i) x y=if i=0 then true else decide (x=0∧y=0):=by
  by_cases hi:i=0
  · subst hi
    rw [if_pos rfl,hasL_iff]
    have:=(z8m (W:=16) (H:=16) (by omega) (by omega)).2 x y
    exact this.2 ⟨by omega,by omega⟩
  · rw [if_neg hi]
    unfold spR
    rw [if_neg hi]
    apply Bool.eq_iff_iff.2
    rw [hasL_iff,decide_eq_true_iff]
    unfold hasR
    constructor
    · rintro ⟨r,hr,h1,h2,h3⟩
      simp at hr;subst hr
      dsimp only at h1 h2 h3
      omega
    · rintro ⟨rfl,rfl⟩
      exact ⟨⟨0,0,1⟩,by simp,rfl,Int.le_refl _,by decide⟩
theorem v0x {A:Option Addr} {c b i:Nat} (hi:i<256):vecI (q4h (spI A c b) spF spR 4 1 ((i%16:Nat):Int) ((i/16:Nat):Int))=flC i:=by
  unfold flC
  by_cases h:i=0
  · subst h
    rw [if_pos rfl]
    show vecI (q4h (spI A c b) spF spR 4 1 0 0)=_
    rw [v0u];rfl
  · rw [if_neg h]
    have e:q4h (spI A c b) spF spR 4 1 ((i%16:Nat):Int) ((i/16:Nat):Int)=q4h (spI A c b) spF spR 4 1 1 0:=by
      refine x6x (fun k=>?_) (fun k=>rfl)
      rw [x6y k _ _ (by omega) (by omega),x6y k 1 0 (by omega) (by omega)]
      by_cases hk:k=0
      · rw [if_pos hk,if_pos hk]
      · rw [if_neg hk,if_neg hk]
        rw [decide_eq_false (by omega),decide_eq_false (by omega)]
    rw [e,v0v];rfl
theorem x83:∀ k j,0≤keyI flG k j∧keyI flG k j≤255:=by
  intro k j
  unfold keyI flG
  match k with
  | 0 =>
    rcases Nat.lt_or_ge j 8 with h |h
    · rcases lt8 h with rfl |rfl |rfl |rfl |rfl |rfl |rfl |rfl <;> decide
    · rw [List.getD_eq_getElem?_getD,List.getElem?_eq_none (by simpa using h)];decide
  | 1 =>
    rcases Nat.lt_or_ge j 8 with h |h
    · rcases lt8 h with rfl |rfl |rfl |rfl |rfl |rfl |rfl |rfl <;> decide
    · rw [List.getD_eq_getElem?_getD,List.getElem?_eq_none (by simpa using h)];decide
  | k+2=>simp
theorem z63 (x y:Int):hasR flL x y↔(0≤x∧x<16)∧(0≤y∧y<16)∧¬ (x=0∧y=0):=by
  unfold flL q49 hasR
  constructor
  · rintro ⟨r,hr,h1,h2,h3⟩
    rcases List.mem_cons.1 hr with rfl |hr
    · dsimp only at h1 h2 h3;omega
    · simp only [List.mem_map,List.mem_range] at hr
      obtain ⟨i,hi,rfl⟩:=hr
      dsimp only at h1 h2 h3
      omega
  · rintro ⟨h1,h2,h3⟩
    by_cases hy:y=0
    · exact ⟨⟨0,1,16⟩,List.mem_cons_self ..,hy.symm,by show (1:Int)≤x;omega,h1.2⟩
    · exact ⟨⟨1+((y-1).toNat:Int),0,16⟩,List.mem_cons_of_mem _ (List.mem_map.2 ⟨(y-1).toNat,List.mem_range.2 (by omega),rfl⟩),by show 1+((y-1).toNat:Int)=y;omega,h1.1,h1.2⟩
theorem fl_one {x y:Int}:hasR [⟨0,0,1⟩] x y↔x=0∧y=0:=by
  unfold hasR
  constructor
  · rintro ⟨r,hr,h1,h2,h3⟩
    simp at hr;subst hr
    dsimp only at h1 h2 h3
    omega
  · rintro ⟨rfl,rfl⟩
    exact ⟨⟨0,0,1⟩,by simp,rfl,Int.le_refl _,by decide⟩
theorem fl_e (B:Nat→Value):pcsE 1 1 2 (gatP flG B)=0:=by
  have h0:pcE 1 1 (gatP flG B 0)=0:=z5p (show errL [⟨0,0,1⟩]=0 by decide) (show 1≠0 by omega) (by
    rintro ⟨r,hr,ho⟩
    have hr':r∈([⟨0,0,1⟩]:List Run):=hr
    simp at hr';subst hr'
    unfold outP at ho
    dsimp only at ho
    omega) (by
    intro h
    have:(100:Int)=0:=h.1
    omega)
  have h1:pcE 1 1 (gatP flG B 1)=0:=z5p (show errL flL=0 by decide +kernel) (show 16≠0 by omega) (by
    rintro ⟨r,hr,ho⟩
    have hr':r∈flL:=hr
    unfold flL at hr'
    rcases List.mem_cons.1 hr' with rfl |hr'
    · unfold outP at ho
      dsimp only at ho
      omega
    · simp only [q49,List.mem_map,List.mem_range] at hr'
      obtain ⟨i,hi,rfl⟩:=hr'
      unfold outP at ho
      dsimp only at ho
      omega) (by
    intro h
    have:(200:Int)=0:=h.1
    omega)
  have a0:apE (gatP flG B) 0=0:=z0n (by rintro ⟨k,hk,_⟩;omega) (by rintro ⟨h,_⟩;omega)
  have a1:apE (gatP flG B) 1=0:=z0n (by
    rintro ⟨k,hk,h⟩
    obtain rfl:k=0:=by omega
    rcases h with h |h
    · have:(100:Int)=200:=h.1
      omega
    · have h':z3l [⟨0,0,1⟩] flL:=h
      obtain ⟨x,y,g1,g2⟩:=h'
      rw [fl_one] at g1;rw [z63] at g2;omega) (by
    rintro ⟨_,h⟩
    have h':(q1b flL).y<(q1b [⟨0,0,1⟩]).y∨((q1b flL).y=(q1b [⟨0,0,1⟩]).y∧(q1b flL).x0<(q1b [⟨0,0,1⟩]).x0):=h
    revert h'
    decide)
  unfold pcsE
  rw [if_neg (by omega),if_neg (by omega)]
  have f1:q1v (fun i=>pcE 1 1 (gatP flG B i)) 2=0:=by
    simp only [q1v,h0,h1,ne_eq,not_true_eq_false,if_false]
  rw [if_neg (by rw [f1];simp)]
  simp only [q1v,a0,a1,ne_eq,not_true_eq_false,if_false]
theorem v0y (B:Nat→Value):q0z (gatP flG B) (fun _=>true) 2=q49 0 16 0 16:=by
  have ok:=z1i (fl_e B)
  have b:okR (q49 0 16 0 16)∧∀ x y,hasR (q49 0 16 0 16) x y↔(0≤x∧x<16)∧0≤y∧y<16:=z8m (W:=16) (H:=16) (by omega) (by omega)
  refine z0l ok.some_ok.1 b.1 fun x y=>?_
  have b2:=b.2 x y
  rw [ok.some_ok.2,b2]
  constructor
  · rintro ⟨k,hk,_,h⟩
    match k,hk with
    | 0,_ =>
      have h':hasR [⟨0,0,1⟩] x y:=h
      rw [fl_one] at h';omega
    | 1,_ =>
      have h':hasR flL x y:=h
      rw [z63] at h';omega
  · intro h
    by_cases h0:x=0∧y=0
    · exact ⟨0,by omega,rfl,show hasR [⟨0,0,1⟩] x y from fl_one.2 h0⟩
    · exact ⟨1,by omega,rfl,show hasR flL x y from (z63 x y).2 ⟨by omega,by omega,h0⟩⟩
set_option maxHeartbeats 8000000 in
theorem q7y (G:Mem):Gives Tryz.prog 7 [] G (.val (.bool true)):=by
  have key:∀ (F:Mem) (A:Option Addr) (c b sb ib:Nat),RunsM F A (q6d 1 1)→16≤c→c≤maxLen →
    F sb=some (.cells #[.string ⟨#[98,108,97,99,107]⟩] 9 (0,0))→F b=some (.cells #[.int .i64 0,.int .i64 0,.int .i64 1] 78 (0,0))→F ib=some (.cells ((spI A c b 0).cells++(spI A c b 1).cells++(spI A c b 2).cells++(spI A c b 3).cells).toArray 63 (0,0)) →
    MakesX Tryz.prog 24 [z1n 1 1 (some ⟨sb,0,none⟩) 1 1 (some ⟨ib,0,none⟩) 4 4] F 35 9 (ofR flC 16 256):=by
    intro F A c b sb ib hR h1 h2 h3 h4 h5
    have hI:=x80 h5
    have r:=x07 (w:=1) (h:=1) (W:=16) (N:=256) (x82 hR ⟨h1,h2⟩ h4 (v0s h3) hI) hI (by omega) (by omega) (v1z hR h4) (by omega) (by omega) rfl rfl (by omega)
    have e:ofR (fun i=>vecI (q4h (spI A c b) spF spR 4 1 ((i%16:Nat):Int) ((i/16:Nat):Int))) 16 256=ofR flC 16 256:=by
      unfold ofR
      rw [z8n fun j hj=>v0x hj]
    rw [← e]
    exact r
  refine q1d tab_ok Tryz.func7 ?_
  (repeat ((try (conv=>whnf));(refine stQ ?_)))
  conv=>whnf
  refine z2u (fun vs w=>by kernel_rfl) (by rfl) z62 ?_
  rintro v F hF ⟨A,c,b,sb,ib,rfl,q1,q2,q3,q4,q5,q6⟩
  have k0:=key F A c b sb ib q1 q2 q3 q4 q5 q6
  (repeat ((try (conv=>whnf));(refine stQ ?_)))
  conv=>whnf
  refine x6b [.int .i64 1,.int .i64 1,.slice (some ⟨sb,0,none⟩) 1 1,.slice (some ⟨ib,0,none⟩) 4 4] ?_
  refine z8p (fun vs w=>by kernel_rfl) (by kernel_rfl) k0 fun wr n2 xs2 G2 A2 c2 G3 hG2 hR2 hG3 hc2 hm2 hF2=>?_
  unfold ofR at hR2
  rw [v0w] at hR2
  obtain ⟨rfl,rfl,B2,rfl,hB2⟩:=hR2
  have hQ:PcsM G3 A2 2 (gatP flG B2):=⟨hF2.els (fun _ _=>rfl) (by omega),fun i hi=>((hB2 i _ (List.getElem?_eq_getElem (show i<flG.length from hi))).2.2.2).mono hG3,fun i hi=>⟨(hB2 i _ (List.getElem?_eq_getElem (show i<flG.length from hi))).2.1,(hB2 i _ (List.getElem?_eq_getElem (show i<flG.length from hi))).2.2.1⟩,fun i hi j=>x83 i j⟩
  have ok:=z1i (fl_e B2)
  have mp:=q8e (c:=c2) ok (fl_e B2) hQ
  rw [v0y] at mp
  conv=>whnf
  (repeat ((try (conv=>whnf));(refine stQ ?_)))
  conv=>whnf
  refine q1p (fun vs w=>by kernel_rfl) (q3w 0) (by kernel_rfl) mp fun A6 c6 G6 hG6 hc6 hm6 hx6=>?_
  have hR6:=RunsM.frozen hx6
  have hQ6:=hQ.mono hG6
  have a1:Gives Tryz.prog 26 [.val (.slice A6 16 c6)] G6 (.val (.int .i64 256)):=x1r (c:=c6) hR6 (q3a (by decide +kernel))
  obtain ⟨a,rfl,ca⟩:=hQ6.inks (show 0<2 by omega)
  have ca1:∀ K:List Value→Prop,K [.int .u8 100,.int .u8 0,.int .u8 0,.int .u8 0,.int .u8 0,.int .u8 0,.int .u8 0,.int .u8 0]→OldCells G6 (Addr.add (a.add (0*9)) 1) 8 K:=fun K k=>ca K k
  have n1:(q49 0 16 0 16).length=16:=rfl
  have n2:flG.length=2:=rfl
  clear ca
  rw [n1,n2]
  (repeat ((try (conv=>whnf));(first |(refine ca1 _ ?_) |(refine stQ ?_) |(with_reducible first |refine q0e (fun vs w=>by kernel_rfl) (by kernel_rfl) (a1) ?_ |refine q0g (fun vs w=>by kernel_rfl) (by kernel_rfl) (a1) ?_))))
  conv=>whnf
  exact ⟨rfl,rfl⟩
end Go.Proofs.YtkicdhaklnmonaaGreat
namespace Go.Proofs.YtkicdhaklnmonaaGreat
open Go.RowKit
set_option maxRecDepth 20000
section
variable {A:Option Addr} {w h:Int} {n c:Nat} {key least:Int} {p:Nat→PcD} {G:Mem}
theorem z37 (hP:PcsM G A n p) (hn:n≤maxLen) (he:pcsE w h n p≠0) :
    Gives Tryz.prog 8 [.val (.int .i64 w),.val (.int .i64 h),.val (.slice A n c)] G (.tup [.val (.slice none 0 0),.val (.int .i64 (pcsE w h n p))]):=by
  have gc:=q5y (c:=c) (w:=w) (h:=h) hP hn
  generalize pcsE w h n p=e at *
  refine q1d tab_ok Tryz.func8 ?_
  (repeat ((try (conv=>whnf));(first |(refine stQ ?_) |(with_reducible first |refine q0e (fun vs w=>by kernel_rfl) (by kernel_rfl) (gc) ?_ |refine q0g (fun vs w=>by kernel_rfl) (by kernel_rfl) (gc) ?_))))
  exact ⟨rfl,rfl⟩
theorem x09 (hP:PcsM G A n p) (hn:n≤maxLen) (he:pcsE w h n p≠0) :
    Gives Tryz.prog 9 [.val (.int .i64 w),.val (.int .i64 h),.val (.slice A n c),.val (.int .i64 key),.val (.int .i64 least)] G (.tup [.val (.slice none 0 0),.val (.int .i64 (pcsE w h n p))]):=by
  have gc:=q5y (c:=c) (w:=w) (h:=h) hP hn
  generalize pcsE w h n p=e at *
  refine q1d tab_ok Tryz.func9 ?_
  (repeat ((try (conv=>whnf));(first |(refine stQ ?_) |(with_reducible first |refine q0e (fun vs w=>by kernel_rfl) (by kernel_rfl) (gc) ?_ |refine q0g (fun vs w=>by kernel_rfl) (by kernel_rfl) (gc) ?_))))
  exact ⟨rfl,rfl⟩
theorem x1a (hP:PcsM G A n p) (hn:n≤maxLen) (he:pcsE w h n p=0) (hk:¬ ((0≤key∧key≤7)∧1≤least∧least≤255)) :
    Gives Tryz.prog 9 [.val (.int .i64 w),.val (.int .i64 h),.val (.slice A n c),.val (.int .i64 key),.val (.int .i64 least)] G (.tup [.val (.slice none 0 0),.val (.int .i64 3)]):=by
  have gc:=q5y (c:=c) (w:=w) (h:=h) hP hn
  rw [he] at gc
  refine q1d tab_ok Tryz.func9 ?_
  by_cases h1:key<0
  · (repeat ((try (conv=>whnf));(first |(refine stQ ?_) |(with_reducible first |refine q0e (fun vs w=>by kernel_rfl) (by kernel_rfl) (gc) ?_ |refine q0g (fun vs w=>by kernel_rfl) (by kernel_rfl) (gc) ?_))))
    exact ⟨rfl,rfl⟩
  by_cases h2:8≤key
  · (repeat ((try (conv=>whnf));(first |(refine stQ ?_) |(with_reducible first |refine q0e (fun vs w=>by kernel_rfl) (by kernel_rfl) (gc) ?_ |refine q0g (fun vs w=>by kernel_rfl) (by kernel_rfl) (gc) ?_))))
    exact ⟨rfl,rfl⟩
  by_cases h3:least<1
  · (repeat ((try (conv=>whnf));(first |(refine stQ ?_) |(with_reducible first |refine q0e (fun vs w=>by kernel_rfl) (by kernel_rfl) (gc) ?_ |refine q0g (fun vs w=>by kernel_rfl) (by kernel_rfl) (gc) ?_))))
    exact ⟨rfl,rfl⟩
  · (repeat ((try (conv=>whnf));(first |(refine stQ ?_) |(with_reducible first |refine q0e (fun vs w=>by kernel_rfl) (by kernel_rfl) (gc) ?_ |refine q0g (fun vs w=>by kernel_rfl) (by kernel_rfl) (gc) ?_))))
    exact ⟨rfl,rfl⟩
end
end Go.Proofs.YtkicdhaklnmonaaGreat
namespace Go.Proofs.YtkicdhaklnmonaaGreat
open Go.RowKit
set_option maxRecDepth 20000
theorem q2z (x a b:Int) (G:Mem) (v:Bool) (hv:v=true↔a≤x∧x≤b):Gives Tryz.prog 11 [.val (.int .i64 x),.val (.int .i64 a),.val (.int .i64 b)] G (.val (.bool v)):=by
  have hv':v=decide (a≤x∧x≤b):=by
    cases v
    · exact (decide_eq_false fun h=>by simpa using hv.2 h).symm
    · exact (decide_eq_true (hv.1 rfl)).symm
  rw [hv']
  refine q1d tab_ok Tryz.func11 ?_
  by_cases h1:a≤x
  · (repeat ((try (conv=>whnf));(refine stQ ?_)))
    exact ⟨by simp [h1],rfl⟩
  · (repeat ((try (conv=>whnf));(refine stQ ?_)))
    exact ⟨by simp [h1],rfl⟩
end Go.Proofs.YtkicdhaklnmonaaGreat
namespace Go.Proofs.YtkicdhaklnmonaaGreat
open Go.RowKit
set_option maxRecDepth 20000
theorem x84 {La Lb:List Run} (va:ValidL La) (vb:ValidL Lb):0<(mixR 1 La Lb).length↔z3l La Lb:=by
  obtain ⟨h1,h2⟩:=q7j (c:=1) va vb
  have key:∀ x y,hasR (mixR 1 La Lb) x y↔hasR La x y∧hasR Lb x y:=fun x y=>by
    rw [h2,← hasL_iff,← hasL_iff];simp [opB]
  constructor
  · intro h
    obtain ⟨r,hr⟩:∃ r,r∈mixR 1 La Lb:=List.exists_mem_of_length_pos h
    have:=q4u h1 hr
    have h3:hasR (mixR 1 La Lb) r.x0 r.y:=⟨r,hr,rfl,by omega,by omega⟩
    exact ⟨_,_,(key _ _).1 h3⟩
  · rintro ⟨x,y,h⟩
    obtain ⟨r,hr,_⟩:=(key x y).2 h
    exact List.length_pos_of_mem hr
section
variable {A:Option Addr} {n c:Nat} {p:Nat→PcD} {G:Mem} {w h:Int}
set_option maxHeartbeats 4000000 in
theorem q36 (hp:PcsM G A n p) (hm:n≤maxLen):Gives Tryz.prog 10 [.val (.int .i64 w),.val (.int .i64 h),.val (.slice A n c)] G (.val (.int .i64 (pcsE w h n p))):=by
  unfold maxLen at hm
  refine q1d tab_ok Tryz.func10 ?_
  unfold pcsE
  by_cases hz1:1≤w∧w≤256
  rotate_left
  · have g1:=q2z w 1 256 G false ⟨(fun h=>by cases h),fun h=>absurd h hz1⟩
    rw [if_pos (fun h=>hz1 h.1)]
    (repeat ((try (conv=>whnf));(first |(refine stQ ?_) |(with_reducible first |refine q0e (fun vs w=>by kernel_rfl) (by kernel_rfl) (g1) ?_ |refine q0g (fun vs w=>by kernel_rfl) (by kernel_rfl) (g1) ?_))))
    exact ⟨rfl,rfl⟩
  have g1:=q2z w 1 256 G true ⟨fun _=>hz1,fun _=>rfl⟩
  by_cases hz2:1≤h∧h≤256
  rotate_left
  · have g2:=q2z h 1 256 G false ⟨(fun h=>by cases h),fun h=>absurd h hz2⟩
    rw [if_pos (fun h=>hz2 h.2)]
    (repeat ((try (conv=>whnf));(first |(refine stQ ?_) |(with_reducible first |refine q0e (fun vs w=>by kernel_rfl) (by kernel_rfl) (g1) ?_ |refine q0g (fun vs w=>by kernel_rfl) (by kernel_rfl) (g1) ?_ |refine q0e (fun vs w=>by kernel_rfl) (by kernel_rfl) (g2) ?_ |refine q0g (fun vs w=>by kernel_rfl) (by kernel_rfl) (g2) ?_))))
    exact ⟨rfl,rfl⟩
  have g2:=q2z h 1 256 G true ⟨fun _=>hz2,fun _=>rfl⟩
  rw [if_neg (fun h=>h ⟨hz1,hz2⟩)]
  by_cases hn:4096<n
  · rw [if_pos hn]
    (repeat ((try (conv=>whnf));(first |(refine stQ ?_) |(with_reducible first |refine q0e (fun vs w=>by kernel_rfl) (by kernel_rfl) (g1) ?_ |refine q0g (fun vs w=>by kernel_rfl) (by kernel_rfl) (g1) ?_ |refine q0e (fun vs w=>by kernel_rfl) (by kernel_rfl) (g2) ?_ |refine q0g (fun vs w=>by kernel_rfl) (by kernel_rfl) (g2) ?_))))
    exact ⟨rfl,rfl⟩
  rw [if_neg hn]
  (repeat ((try (conv=>whnf));(first |(refine stQ ?_) |(with_reducible first |refine q0e (fun vs w=>by kernel_rfl) (by kernel_rfl) (g1) ?_ |refine q0g (fun vs w=>by kernel_rfl) (by kernel_rfl) (g1) ?_ |refine q0e (fun vs w=>by kernel_rfl) (by kernel_rfl) (g2) ?_ |refine q0g (fun vs w=>by kernel_rfl) (by kernel_rfl) (g2) ?_))))
  conv=>whnf
  refine q0w tab_ok (fun i=>i≤n∧q1v (fun i=>pcE w h (p i)) i=0) (fun (i:Nat)=>[(28,.val (.int .i64 i))]) (fun i=>[]) (fun i=>n-i) 0 ⟨Nat.zero_le _,rfl⟩ ?_ ?_
  · ((refine q0f ?_);(conv=>whnf);(refine q0j (by rfl) (by rfl) flQ ?_))
    exact q0d
  · rintro i ⟨hi,h0⟩
    rcases Nat.lt_or_ge i n with h1 |h1
    · obtain ⟨a,rfl,ch⟩:=hp.head h1
      obtain ⟨a',ha',ci⟩:=hp.inks h1
      cases ha'
      have hR:=hp.runs i h1
      have hroom:=hp.room i h1
      have gc:=RCheck_gives (c:=(p i).q) hR hroom.1 hroom.2
      have hfirst:pcE w h (p i)≠0→q1v (fun i=>pcE w h (p i)) n=pcE w h (p i):=fun e=>q90 (f:=fun i=>pcE w h (p i)) h0 e h1
      by_cases e1:errL (p i).L=0
      · rw [e1] at gc
        by_cases e2:(p i).L.length=0
        · have e:=x0a (w:=w) (h:=h) e1 e2
          have hf:=hfirst (by omega)
          rw [if_pos (by rw [hf];omega),hf,e]
          (repeat ((try (conv=>whnf));(first |(refine q0b _ ch ?_) |(refine stQ ?_) |(with_reducible first |refine q0e (fun vs w=>by kernel_rfl) (by kernel_rfl) (gc) ?_ |refine q0g (fun vs w=>by kernel_rfl) (by kernel_rfl) (gc) ?_))))
          conv=>whnf
          exact ⟨rfl,rfl⟩
        · have hlen:=(q3a e1).length
          (repeat ((try (conv=>whnf));(first |(refine q0b _ ch ?_) |(refine stQ ?_) |(with_reducible first |refine q0e (fun vs w=>by kernel_rfl) (by kernel_rfl) (gc) ?_ |refine q0g (fun vs w=>by kernel_rfl) (by kernel_rfl) (gc) ?_))))
          conv=>whnf
          refine q0w tab_ok (fun k=>k≤(p i).L.length∧∀ r∈(p i).L.take k,¬ outP w h r) (fun (k:Nat)=>[(53,.val (.int .i64 k))]) (fun k=>[]) (fun k=>(p i).L.length-k) 0 ⟨Nat.zero_le _,fun r hr=>by cases hr⟩ ?_ ?_
          · ((refine q0f ?_);(conv=>whnf);(refine q0j (by rfl) (by rfl) flQ ?_))
            exact q0d
          · rintro k ⟨hk,hout⟩
            rcases Nat.lt_or_ge k (p i).L.length with h2 |h2
            · obtain ⟨r,hr⟩:∃ r,(p i).L[k]? = some r:=⟨_,List.getElem?_eq_getElem h2⟩
              obtain ⟨b,hb,cb⟩:=hR.cells hr
              have hbd:=(q3a e1).bd (List.mem_of_getElem? hr)
              have htk:(p i).L.take (k+1)=(p i).L.take k++[r]:=by rw [List.take_add_one,hr];rfl
              rw [hb] at ch
              have bad:outP w h r→q1v (fun i=>pcE w h (p i)) n=3:=fun ho=>by
                have e:=x2v (w:=w) (h:=h) e1 e2 ⟨r,List.mem_of_getElem? hr,ho⟩
                rw [hfirst (by omega),e]
              by_cases o1:r.y<0
              · rw [bad (.inl o1),if_pos (by omega)]
                (repeat ((try (conv=>whnf));(first |(refine q0b _ ch ?_) |(refine cb _ ?_) |(refine stQ ?_))))
                conv=>whnf
                exact ⟨rfl,rfl⟩
              by_cases o2:16*h≤r.y
              · rw [bad (.inr (.inl o2)),if_pos (by omega)]
                (repeat ((try (conv=>whnf));(first |(refine q0b _ ch ?_) |(refine cb _ ?_) |(refine stQ ?_))))
                conv=>whnf
                exact ⟨rfl,rfl⟩
              by_cases o3:r.x0<0
              · rw [bad (.inr (.inr (.inl o3))),if_pos (by omega)]
                (repeat ((try (conv=>whnf));(first |(refine q0b _ ch ?_) |(refine cb _ ?_) |(refine stQ ?_))))
                conv=>whnf
                exact ⟨rfl,rfl⟩
              by_cases o4:16*w<r.x1
              · rw [bad (.inr (.inr (.inr o4))),if_pos (by omega)]
                (repeat ((try (conv=>whnf));(first |(refine q0b _ ch ?_) |(refine cb _ ?_) |(refine stQ ?_))))
                conv=>whnf
                exact ⟨rfl,rfl⟩
              · (repeat ((try (conv=>whnf));(first |(refine q0b _ ch ?_) |(refine cb _ ?_) |(refine stQ ?_))))
                conv=>whnf
                refine ⟨k+1,⟨by omega,fun s hs=>?_⟩,by omega,?_⟩
                · rw [htk,List.mem_append] at hs
                  rcases hs with hs |hs
                  · exact hout s hs
                  · simp at hs;subst hs;unfold outP;omega
                · ((refine q0f ?_);(conv=>whnf);(refine q0j (by rfl) (by rfl) flQ ?_))
                  exact q0d
            · obtain rfl:k=(p i).L.length:=by omega
              rw [List.take_length] at hout
              have e3:¬ ∃ r∈(p i).L,outP w h r:=fun ⟨r,h3,h4⟩=>hout r h3 h4
              by_cases e4:q3k (p i).I
              · have e:=x0b (w:=w) (h:=h) e1 e2 e3 e4
                have hf:=hfirst (by omega)
                rw [if_pos (by rw [hf];omega),hf,e]
                unfold q3k at e4
                (repeat ((try (conv=>whnf));(first |(refine ci _ ?_) |(refine stQ ?_))))
                conv=>whnf
                exact ⟨rfl,rfl⟩
              · have e:=z5p (w:=w) (h:=h) e1 e2 e3 e4
                have hnz:=q91 e4
                (repeat ((try (conv=>whnf));(first |(refine ci _ ?_) |(with_reducible refine q1r hnz ?_) |(refine stQ ?_))))
                conv=>whnf
                refine ⟨i+1,⟨by omega,q5h (f:=fun i=>pcE w h (p i)) h0 e⟩,by omega,?_⟩
                ((refine q0f ?_);(conv=>whnf);(refine q0j (by rfl) (by rfl) flQ ?_))
                exact q0d
      · have e:=x2u (w:=w) (h:=h) e1
        have hf:=hfirst (by omega)
        rw [if_pos (by rw [hf,e];exact e1),hf,e]
        (repeat ((try (conv=>whnf));(first |(refine q0b _ ch ?_) |(refine stQ ?_) |(with_reducible first |refine q0e (fun vs w=>by kernel_rfl) (by kernel_rfl) (gc) ?_ |refine q0g (fun vs w=>by kernel_rfl) (by kernel_rfl) (gc) ?_))))
        conv=>whnf
        exact ⟨rfl,rfl⟩
    · obtain rfl:i=n:=by omega
      rw [if_neg (by omega)]
      have hok:=x0p h0
      (repeat ((try (conv=>whnf));(refine stQ ?_)))
      conv=>whnf
      refine q0w tab_ok (fun j=>j≤i∧q1v (apE p) j=0) (fun (j:Nat)=>[(98,.val (.int .i64 j))]) (fun j=>[]) (fun j=>i-j) 0 ⟨Nat.zero_le _,rfl⟩ ?_ ?_
      · ((refine q0f ?_);(conv=>whnf);(refine q0j (by rfl) (by rfl) flQ ?_))
        exact q0d
      · rintro j ⟨hj,g0⟩
        rcases Nat.lt_or_ge j i with h2 |h2
        · have hfirst:=fun h=>q90 (n:=i) g0 h h2
          obtain ⟨a,rfl,cj⟩:=hp.head h2
          obtain ⟨a',ha',ij⟩:=hp.inks h2
          cases ha'
          (repeat ((try (conv=>whnf));(refine stQ ?_)))
          conv=>whnf
          refine q0w tab_ok (fun k=>k≤j∧∀ m,m<k→¬ (q3p (p m).I (p j).I∨z3l (p m).L (p j).L)) (fun (k:Nat)=>[(12,.val (.int .i64 k))]) (fun k=>[]) (fun k=>j-k) 0 ⟨Nat.zero_le _,fun m hm=>by omega⟩ ?_ ?_
          · ((refine q0f ?_);(conv=>whnf);(refine q0j (by rfl) (by rfl) flQ ?_))
            exact q0d
          · rintro k ⟨hk,hno⟩
            rcases Nat.lt_or_ge k j with h3 |h3
            · obtain ⟨a',ha',ck⟩:=hp.head (show k<i by omega)
              cases ha'
              obtain ⟨a',ha',ik⟩:=hp.inks (show k<i by omega)
              cases ha'
              by_cases hs:q3p (p k).I (p j).I
              · have e7:=z5q (p:=p) (i:=j) ⟨k,h3,.inl hs⟩
                rw [hfirst (by omega),e7]
                unfold q3p at hs
                (repeat ((try (conv=>whnf));(first |(refine q0b _ ck ?_) |(refine q0b _ cj ?_) |(refine ik _ ?_) |(refine ij _ ?_) |(refine stQ ?_))))
                conv=>whnf
                exact ⟨rfl,rfl⟩
              · have hns:=z73 hs
                have hmk:=q2c (p k).A (p j).A (p k).L (p j).L (p k).q (p j).q 1 G (hp.runs k (by omega)) (hp.runs j h2) (hok k (by omega)).1 (hok j h2).1
                have hlm:=(x3u (c:=1) (hok k (by omega)).1 (hok j h2).1).length
                have hmt:=x84 (hok k (by omega)).1 (hok j h2).1
                generalize mixR 1 (p k).L (p j).L=M at *
                by_cases hm:z3l (p k).L (p j).L
                · have e7:=z5q (p:=p) (i:=j) ⟨k,h3,.inr hm⟩
                  rw [hfirst (by omega),e7]
                  have hM:=hmt.2 hm
                  (repeat ((try (conv=>whnf));(first |(refine q0b _ ck ?_) |(refine q0b _ cj ?_) |(refine ik _ ?_) |(refine ij _ ?_) |(with_reducible refine q1r hns ?_) |(refine z2b (fun vs w=>by kernel_rfl) (.alone fun _=>rfl) (by kernel_rfl) hmk ?_) |(refine stQ ?_))))
                  conv=>whnf
                  exact ⟨rfl,rfl⟩
                · have hM:M.length=0:=by
                    rcases Nat.eq_zero_or_pos M.length with h |h
                    · exact h
                    · exact absurd (hmt.1 h) hm
                  (repeat ((try (conv=>whnf));(first |(refine q0b _ ck ?_) |(refine q0b _ cj ?_) |(refine ik _ ?_) |(refine ij _ ?_) |(with_reducible refine q1r hns ?_) |(refine z2b (fun vs w=>by kernel_rfl) (.alone fun _=>rfl) (by kernel_rfl) hmk ?_) |(refine stQ ?_))))
                  conv=>whnf
                  refine ⟨k+1,⟨by omega,fun m hm'=>?_⟩,by omega,?_⟩
                  · by_cases e:m=k
                    · subst e
                      exact fun h=>h.elim hs hm
                    · exact hno m (by omega)
                  · ((refine q0f ?_);(conv=>whnf);(refine q0j (by rfl) (by rfl) flQ ?_))
                    exact q0d
            · obtain rfl:k=j:=by omega
              have htw:¬ twP p k:=fun ⟨m,m1,m2⟩=>hno m m1 m2
              by_cases hj0:k=0
              · have e0:=z0n htw (fun ho=>by unfold ordP at ho;omega)
                (repeat ((try (conv=>whnf));(refine stQ ?_)))
                conv=>whnf
                refine ⟨k+1,⟨by omega,q5h g0 e0⟩,by omega,?_⟩
                ((refine q0f ?_);(conv=>whnf);(refine q0j (by rfl) (by rfl) flQ ?_))
                exact q0d
              · obtain ⟨m,rfl⟩:∃ m,k=m+1:=⟨k-1,by omega⟩
                obtain ⟨a3,ha3,hd⟩:=hp.head (show m<i by omega)
                cases ha3
                obtain ⟨a1,ha1,c1⟩:=q8t (hok (m+1) h2).2.1 (hp.runs (m+1) h2)
                obtain ⟨a2,ha2,c2⟩:=q8t (hok m (by omega)).2.1 (hp.runs m (by omega))
                have hl1:0<(p (m+1)).L.length:=Nat.pos_of_ne_zero (hok _ h2).2.1
                have hl2:0<(p m).L.length:=Nat.pos_of_ne_zero (hok _ (by omega)).2.1
                have hod:ordP p (m+1)↔((q1b (p (m+1)).L).y<(q1b (p m).L).y∨((q1b (p (m+1)).L).y=(q1b (p m).L).y∧(q1b (p (m+1)).L).x0<(q1b (p m).L).x0)):=by
                  unfold ordP;rw [Nat.add_sub_cancel];simp
                have hix:(((m+1:Nat):Int)-1).toNat=m:=by omega
                rw [ha1] at cj
                rw [ha2,← hix] at hd
                rw [← hix] at hl2
                by_cases ho:ordP p (m+1)
                · have e7:=x2w htw ho
                  rw [hfirst (by omega),e7]
                  rw [hod] at ho
                  rcases ho with ho |⟨ho1,ho2⟩
                  · (repeat ((try (conv=>whnf));(first |(refine q0b _ cj ?_) |(refine q0b _ hd ?_) |(refine c1 _ ?_) |(refine c2 _ ?_) |(refine s3Q ?_))))
                    conv=>whnf
                    exact ⟨rfl,rfl⟩
                  · (repeat ((try (conv=>whnf));(first |(refine q0b _ cj ?_) |(refine q0b _ hd ?_) |(refine c1 _ ?_) |(refine c2 _ ?_) |(refine s3Q ?_))))
                    conv=>whnf
                    exact ⟨rfl,rfl⟩
                · have e7:=z0n htw ho
                  rw [hod] at ho
                  have hnext:q1v (apE p) (m+1+1)=0:=q5h g0 e7
                  by_cases ho1:(q1b (p (m+1)).L).y=(q1b (p m).L).y
                  · (repeat ((try (conv=>whnf));(first |(refine q0b _ cj ?_) |(refine q0b _ hd ?_) |(refine c1 _ ?_) |(refine c2 _ ?_) |(refine s3Q ?_))))
                    conv=>whnf
                    refine ⟨m+1+1,⟨by omega,hnext⟩,by omega,?_⟩
                    ((refine q0f ?_);(conv=>whnf);(refine q0j (by rfl) (by rfl) flQ ?_))
                    exact q0d
                  · (repeat ((try (conv=>whnf));(first |(refine q0b _ cj ?_) |(refine q0b _ hd ?_) |(refine c1 _ ?_) |(refine c2 _ ?_) |(refine s3Q ?_))))
                    conv=>whnf
                    refine ⟨m+1+1,⟨by omega,hnext⟩,by omega,?_⟩
                    ((refine q0f ?_);(conv=>whnf);(refine q0j (by rfl) (by rfl) flQ ?_))
                    exact q0d
        · obtain rfl:j=i:=by omega
          rw [g0]
          (repeat ((try (conv=>whnf));(refine stQ ?_)))
          conv=>whnf
          exact ⟨rfl,rfl⟩
end
end Go.Proofs.YtkicdhaklnmonaaGreat
namespace Go.Proofs.YtkicdhaklnmonaaGreat
open Go.RowKit Go.Deep
set_option maxRecDepth 20000
theorem q3r:flat Tryz.prog 20 35=[.slice 24,.int .u8,.int .u8,.int .u8,.int .u8,.int .u8,.int .u8,.int .u8,.int .u8]:=by kernel_rfl
theorem q5a:q4w Tryz.prog 20 35=true:=by kernel_rfl
theorem v1o:Tryz.prog.cellsOf 35=9:=by kernel_rfl
theorem v10:Tryz.prog.underlying 24=some (.slice 78):=Tryz.underlying24
theorem v11:0<Tryz.prog.cellsOf 78:=of_decide_eq_true (by kernel_rfl)
theorem z0a {z:Int} (h:(Lit.int .u8 z).wf=true):0≤z∧z≤255:=by
  simp [Lit.wf,IntKind.min,IntKind.max,IntKind.signed,IntKind.bits] at h
  omega
section
variable {w:World} {A:Option Addr} {n:Nat} {g:Nat→Nat→Value}
theorem v0z (h:SliceG Tryz.prog w 35 A n g) {x:Nat} (hx:x<n):∃ p:PcD,pcC p=[g x 0,g x 1,g x 2,g x 3,g x 4,g x 5,g x 6,g x 7,g x 8]∧RunsM (q6z w) p.A p.L∧(p.L.length≤p.q∧p.q≤maxLen)∧∀ j,0≤p.I j∧p.I j≤255:=by
  obtain ⟨m,h0⟩:=h.seen (j:=0) q5a hx (by rw [q3r];rfl)
  obtain ⟨B,k,c,gr,e0,r1,r2,hs⟩:=z5i v10 v11 h0
  have e1:=(h.int (j:=1) (k:=.u8) q5a hx (by rw [q3r];rfl))
  have e2:=(h.int (j:=2) (k:=.u8) q5a hx (by rw [q3r];rfl))
  have e3:=(h.int (j:=3) (k:=.u8) q5a hx (by rw [q3r];rfl))
  have e4:=(h.int (j:=4) (k:=.u8) q5a hx (by rw [q3r];rfl))
  have e5:=(h.int (j:=5) (k:=.u8) q5a hx (by rw [q3r];rfl))
  have e6:=(h.int (j:=6) (k:=.u8) q5a hx (by rw [q3r];rfl))
  have e7:=(h.int (j:=7) (k:=.u8) q5a hx (by rw [q3r];rfl))
  have e8:=(h.int (j:=8) (k:=.u8) q5a hx (by rw [q3r];rfl))
  have hR:=v1i hs
  refine ⟨⟨q2l (fun x=>⟨valI (gr x 0),valI (gr x 1),valI (gr x 2)⟩) k,B,c,fun j=>if j<8 then valI (g x (j+1)) else 0⟩,?_,hR,⟨by rw [z2m];exact r1,r2⟩,fun j=>?_⟩
  · simp only [pcC,inkC,z2m]
    rw [e0]
    simp [e1.1.symm,e2.1.symm,e3.1.symm,e4.1.symm,e5.1.symm,e6.1.symm,e7.1.symm,e8.1.symm]
  · dsimp only
    by_cases hj:j<8
    · rw [if_pos hj]
      match j,hj with
      | 0,_=>exact z0a e1.2
      | 1,_=>exact z0a e2.2
      | 2,_=>exact z0a e3.2
      | 3,_=>exact z0a e4.2
      | 4,_=>exact z0a e5.2
      | 5,_=>exact z0a e6.2
      | 6,_=>exact z0a e7.2
      | 7,_=>exact z0a e8.2
    · rw [if_neg hj];omega
theorem v12 (h:SliceG Tryz.prog w 35 A n g):∃ p:Nat→PcD,PcsM (q6z w) A n p:=by
  obtain ⟨p,hp⟩:=choose_lt (fun x hx=>v0z h hx)
  refine ⟨p,⟨⟨fun x hx=>rfl,fun x hx=>?_⟩,fun i hi=>(hp i hi).2.1,fun i hi=>(hp i hi).2.2.1,fun i hi=>(hp i hi).2.2.2⟩⟩
  obtain ⟨b,off,rfl,_,hc⟩:=h (by omega)
  rw [v1o] at hc
  refine ⟨b,off,rfl,fun j v hj=>?_⟩
  rw [(hp x hx).1] at hj
  match j,hj with
  | 0,hj=>simp at hj;subst hj;exact (hc x hx).1 0 (by omega)
  | 1,hj=>simp at hj;subst hj;exact (hc x hx).1 1 (by omega)
  | 2,hj=>simp at hj;subst hj;exact (hc x hx).1 2 (by omega)
  | 3,hj=>simp at hj;subst hj;exact (hc x hx).1 3 (by omega)
  | 4,hj=>simp at hj;subst hj;exact (hc x hx).1 4 (by omega)
  | 5,hj=>simp at hj;subst hj;exact (hc x hx).1 5 (by omega)
  | 6,hj=>simp at hj;subst hj;exact (hc x hx).1 6 (by omega)
  | 7,hj=>simp at hj;subst hj;exact (hc x hx).1 7 (by omega)
  | 8,hj=>simp at hj;subst hj;exact (hc x hx).1 8 (by omega)
end
end Go.Proofs.YtkicdhaklnmonaaGreat
