/-
  Merged: XMorph, XPaper, XRowsM, XPcsOfW, XSamePcs, XFlats, XClones, XCopied.
-/
import Derived.Test.YtkicdhaklnmonaaGreatMrg33
import Derived.Test.YtkicdhaklnmonaaGreatErode1
import Derived.Test.YtkicdhaklnmonaaGreatMrg16
import Derived.Test.YtkicdhaklnmonaaGreatMrg19
import Derived.Test.YtkicdhaklnmonaaGreatMrg13
import Derived.Test.YtkicdhaklnmonaaGreatMrg21
import Derived.Test.YtkicdhaklnmonaaGreatMrg27
import Derived.Test.YtkicdhaklnmonaaGreatMrg14
import Derived.Test.YtkicdhaklnmonaaGreatMrg20
import Derived.Test.YtkicdhaklnmonaaGreatMrg17
import Derived.Test.YtkicdhaklnmonaaGreatMrg18
import Derived.Test.YtkicdhaklnmonaaGreatMrg31
import Derived.Test.YtkicdhaklnmonaaGreatPcsList
set_option linter.unusedVariables false
set_option linter.unusedSimpArgs false
set_option linter.unnecessarySimpa false
namespace Go.Proofs.YtkicdhaklnmonaaGreat
open Go.RowKit
set_option maxRecDepth 20000
section
variable {A:Option Addr} {L:List Run} {c:Nat} {w:Int} {G:Mem}
end
end Go.Proofs.YtkicdhaklnmonaaGreat
namespace Go.Proofs.YtkicdhaklnmonaaGreat
open Go.RowKit
set_option maxRecDepth 20000
theorem z9f {W H:Int} (hW:0<W) (hH:0≤H):okR (q5b 0 W 0 H.toNat)∧∀ x y,hasR (q5b 0 W 0 H.toNat) x y↔(0≤x∧x<W)∧0≤y∧y<H:=by
  constructor
  · generalize H.toNat=n
    induction n with
    | zero=>simp [q5b,okR]
    | succ n ih =>
      have e:q5b 0 W 0 (n+1)=q5b 0 W 0 n++[⟨0+n,0,W⟩]:=by simp [q5b,List.range_succ]
      rw [e,okR_append]
      refine ⟨ih,⟨hW,by simp,trivial⟩,fun r hr s hs=>?_⟩
      simp only [q5b,List.mem_map,List.mem_range] at hr
      obtain ⟨i,hi,rfl⟩:=hr
      simp at hs;subst hs
      left;show (0:Int)+i<_;dsimp only;omega
  · intro x y
    unfold q5b hasR
    constructor
    · rintro ⟨r,hr,h1,h2,h3⟩
      simp only [List.mem_map,List.mem_range] at hr
      obtain ⟨i,hi,rfl⟩:=hr
      dsimp only at h1 h2 h3
      omega
    · rintro ⟨h1,h2⟩
      exact ⟨⟨0+(y.toNat:Int),0,W⟩,List.mem_map.2 ⟨y.toNat,List.mem_range.2 (by omega),rfl⟩,by show 0+(y.toNat:Int)=y;omega,h1.1,h1.2⟩
end Go.Proofs.YtkicdhaklnmonaaGreat
namespace Go.Proofs.YtkicdhaklnmonaaGreat
open Go.RowKit
structure PRowsM (G0:Mem) (E:TypeId) (S:Nat→Prop) (M:Mem) (gs:List Pc) (B:Nat→Value):Prop where
  le:G0.le M
  rows:∀ (k:Nat) (p:Pc),gs[k]? = some p→RowS S M E 3 (B k) p.2.length (q0r p.2)
  apart:∀ k l b,k<gs.length→l<gs.length→k≠l→q0h (B k)=some b→q0h (B l)≠some b
  free:∀ k b,k<gs.length→q0h (B k)=some b→G0 b=none
section
variable {G0:Mem} {E:TypeId} {S S':Nat→Prop} {M M':Mem} {gs:List Pc} {B:Nat→Value} {k:Nat} {v:List Int} {L:List Run} {r:Run}
theorem PRowsM.app (h:PRowsM G0 E S M gs B) (hk:gs[k]? = some (v,L)) {x:Value} (hG:RowG S M (B k) S' M' x) (hR:RowS S' M' E 3 x (L.length+1) (q0r (L++[r]))):PRowsM G0 E S' M' (gs.set k (v,L++[r])) (putV B k x):=by
  have hkl:=(List.getElem?_eq_some_iff.1 hk).1
  have hG0:∀ b,q0h x=some b→G0 b=none:=fun b hb=>by
    by_cases e:q0h (B k)=some b
    · exact h.free k b hkl e
    · exact Mem.le.none h.le (hG.fresh b hb e)
  have hle:G0.le M':=fun b o hb=>hG.old b o (h.le b o hb) fun e=>by
    have:=h.free k b hkl e
    rw [this] at hb;cases hb
  have hne:∀ l,l<gs.length→l≠k→∀ b,q0h (B l)=some b→q0h (B k)≠some b:=fun l hl hlk b hb=>h.apart l k b hl hkl hlk hb
  have hx:∀ l,l<gs.length→l≠k→∀ b,q0h (B l)=some b→q0h x≠some b:=fun l hl hlk b hb e=>by
    by_cases e2:q0h (B k)=some b
    · exact hne l hl hlk b hb e2
    · have hn:=hG.fresh b e e2
      obtain ⟨p,hp⟩:∃ p,gs[l]? = some p:=⟨_,List.getElem?_eq_getElem hl⟩
      obtain ⟨_,o,ho⟩:=(h.rows l p hp).blk hb
      rw [hn] at ho;cases ho
  refine ⟨hle,fun l p hl=>?_,fun i j b hi hj hij hb=>?_,fun i b hi hb=>?_⟩
  · by_cases e:k=l
    · subst e
      rw [List.getElem?_set_self hkl] at hl;cases hl
      rw [q14]
      simpa using hR
    · rw [List.getElem?_set_ne e] at hl
      have hll:=(List.getElem?_eq_some_iff.1 hl).1
      rw [q2d (fun e2=>e e2.symm)]
      exact hG.row (h.rows l p hl) (hne l hll (fun e2=>e e2.symm))
  · simp only [List.length_set] at hi hj
    by_cases e1:i=k
    · subst e1
      rw [q14] at hb
      rw [q2d (fun e2=>hij e2.symm)]
      exact fun e3=>hx j hj (fun e2=>hij e2.symm) b e3 hb
    · rw [q2d e1] at hb
      by_cases e2:j=k
      · subst e2;rw [q14];exact hx i hi e1 b hb
      · rw [q2d e2];exact h.apart i j b hi hj hij hb
  · simp only [List.length_set] at hi
    by_cases e1:i=k
    · subst e1;rw [q14] at hb;exact hG0 b hb
    · rw [q2d e1] at hb;exact h.free i b hi hb
theorem PRowsM.put {b:Nat} (h:PRowsM G0 E S M gs B) (hk:gs[k]? = some (v,L)) (hb:q0h (B k)=some b) (hM:∀ c,c≠b→M' c=M c) {L':List Run} (hR:RowS S M' E 3 (B k) L'.length (q0r L')):PRowsM G0 E S M' (gs.set k (v,L')) B:=by
  have hkl:=(List.getElem?_eq_some_iff.1 hk).1
  have f1:=h.free k b hkl hb
  refine ⟨fun c o hc=>?_,fun l p hl=>?_,fun i j c hi hj=>?_,fun i c hi=>?_⟩
  · rw [hM c (fun e=>by rw [e,f1] at hc;cases hc)];exact h.le c o hc
  · by_cases e:k=l
    · subst e
      rw [List.getElem?_set_self hkl] at hl;cases hl
      exact hR
    · rw [List.getElem?_set_ne e] at hl
      have hll:=(List.getElem?_eq_some_iff.1 hl).1
      exact (h.rows l p hl).of (fun _ h=>h) fun c hc=>hM c fun e2=>by
        subst e2
        exact h.apart l k c hll hkl (fun e3=>e e3.symm) hc hb
  · simp only [List.length_set] at hi hj;exact h.apart i j c hi hj
  · simp only [List.length_set] at hi;exact h.free i c hi
theorem PRowsM.key (h:PRowsM G0 E S M gs B):PRowsM G0 E S M (gs++[(v,[])]) (putV B gs.length (.slice none 0 0)):=by
  refine ⟨h.le,fun l p hl=>?_,fun i j c hi hj hij hb=>?_,fun i c hi hb=>?_⟩
  · rw [List.getElem?_append] at hl
    split at hl
    · rename_i hll
      rw [q2d (by omega)]
      exact h.rows l p hl
    · rename_i hll
      have e:l-gs.length=0:=by have:=(List.getElem?_eq_some_iff.1 hl).1;simp at this;omega
      rw [e] at hl;simp at hl;subst hl
      rw [show l=gs.length by omega,q14]
      exact RowS.nil _ _ _ _
  · simp at hi hj
    by_cases e1:i=gs.length
    · subst e1;rw [q14] at hb;cases hb
    · rw [q2d e1] at hb
      by_cases e2:j=gs.length
      · subst e2;rw [q14];exact fun e=>by cases e
      · rw [q2d e2];exact h.apart i j c (by omega) (by omega) hij hb
  · simp at hi
    by_cases e1:i=gs.length
    · subst e1;rw [q14] at hb;cases hb
    · rw [q2d e1] at hb;exact h.free i c (by omega) hb
end
end Go.Proofs.YtkicdhaklnmonaaGreat
namespace Go.Proofs.YtkicdhaklnmonaaGreat
open Go.RowKit
set_option maxRecDepth 20000
theorem PRowsM.piece {G0:Mem} {E:TypeId} {S:Nat→Prop} {M:Mem} {gs:List Pc} {B:Nat→Value} (h:PRowsM G0 E S M gs B) {k:Nat} {p:Pc} (hk:gs[k]? = some p):(gatP gs B k).L=p.2∧B k=.slice (gatP gs B k).A (gatP gs B k).L.length (gatP gs B k).q∧(gatP gs B k).L.length≤(gatP gs B k).q∧(gatP gs B k).q≤maxLen∧RunsM M (gatP gs B k).A (gatP gs B k).L:=by
  have hL:(gatP gs B k).L=p.2:=by simp [gatP,hk]
  have hr:=h.rows k p hk
  obtain ⟨A,c,e,h1,h2⟩:=hr.isSl
  have eA:(gatP gs B k).A=A:=by simp [gatP,e,slA]
  have eq:(gatP gs B k).q=c:=by simp [gatP,e,slQ]
  rw [hL,eA,eq]
  refine ⟨rfl,e,h1,h2,?_⟩
  rw [e] at hr
  have hF:=hr.flat
  intro i r hi
  obtain ⟨q0,q1,q2⟩:=q24 hi
  rcases hF with ⟨_,h0⟩ |⟨b,off,rfl,h3⟩
  · rw [h0] at q0;simp at q0
  · exact ⟨b,off,rfl,by simpa using h3 _ _ q0,by simpa [Nat.add_assoc] using h3 _ _ q1,by simpa [Nat.add_assoc] using h3 _ _ q2⟩
end Go.Proofs.YtkicdhaklnmonaaGreat
namespace Go.Proofs.YtkicdhaklnmonaaGreat
open Go.RowKit
set_option maxRecDepth 20000
theorem z9g {c d:Nat→List Int} {W:Nat}:∀ {i:Nat},(∀ j,j<i→c j=d j)→gat c W i=gat d W i
  | 0,_=>rfl
  | i+1,h=>by
    unfold gat
    rw [z9g (i:=i) (fun j hj=>h j (by omega)),h i (by omega)]
end Go.Proofs.YtkicdhaklnmonaaGreat
namespace Go.Proofs.YtkicdhaklnmonaaGreat
open Go.RowKit
set_option maxRecDepth 20000
def flC (i:Nat):List Int:=if i=0 then [100,0,0,0,0,0,0,0] else [200,0,0,0,0,0,0,0]
def flL:List Run:=⟨0,1,16⟩::q5b 0 16 1 15
def flG:List Pc:=[([100,0,0,0,0,0,0,0],[⟨0,0,1⟩]),([200,0,0,0,0,0,0,0],flL)]
theorem v1u:gat flC 16 256=flG:=by kernel_rfl
theorem x7z {I:Nat→ItemD} {f:Nat→SrcF} {R:Nat→List Run} {n m:Nat} {x y x' y':Int} (h1:∀ i,hasL (R i) x y=hasL (R i) x' y') (h2:∀ i,f i x y=f i x' y'):q4i I f R n m x y=q4i I f R n m x' y':=by
  have:q0u I f R x y=q0u I f R x' y':=by
    unfold q0u
    simp only [h1,h2]
  unfold q4i
  rw [this]
theorem x70 (i:Nat) (x y:Int) (hx:0≤x∧x<16) (hy:0≤y∧y<16):hasL (spR i) x y=if i=0 then true else decide (x=0∧y=0):=by
  by_cases hi:i=0
  · subst hi
    rw [if_pos rfl,hasL_iff]
    have:=(z9f (W:=16) (H:=16) (by omega) (by omega)).2 x y
    exact this.2 ⟨by omega,by omega⟩
  · rw [if_neg hi]
    unfold spR
    rw [if_neg hi]
    apply Bool.eq_iff_iff.2
    rw [hasL_iff,decide_eq_true_iff]
    unfold hasR
    constructor
    · rintro ⟨r,hr,h1,h2,h3⟩
      simp at hr;subst hr
      dsimp only at h1 h2 h3
      omega
    · rintro ⟨rfl,rfl⟩
      exact ⟨⟨0,0,1⟩,by simp,rfl,Int.le_refl _,by decide⟩
theorem v1v {A:Option Addr} {c b i:Nat} (hi:i<256):vecI (q4i (spI A c b) spF spR 4 1 ((i%16:Nat):Int) ((i/16:Nat):Int))=flC i:=by
  unfold flC
  by_cases h:i=0
  · subst h
    rw [if_pos rfl]
    show vecI (q4i (spI A c b) spF spR 4 1 0 0)=_
    rw [v1s];rfl
  · rw [if_neg h]
    have e:q4i (spI A c b) spF spR 4 1 ((i%16:Nat):Int) ((i/16:Nat):Int)=q4i (spI A c b) spF spR 4 1 1 0:=by
      refine x7z (fun k=>?_) (fun k=>rfl)
      rw [x70 k _ _ (by omega) (by omega),x70 k 1 0 (by omega) (by omega)]
      by_cases hk:k=0
      · rw [if_pos hk,if_pos hk]
      · rw [if_neg hk,if_neg hk]
        rw [decide_eq_false (by omega),decide_eq_false (by omega)]
    rw [e,v1t];rfl
theorem x94:∀ k j,0≤keyI flG k j∧keyI flG k j≤255:=by
  intro k j
  unfold keyI flG
  match k with
  | 0 =>
    rcases Nat.lt_or_ge j 8 with h |h
    · rcases lt8 h with rfl |rfl |rfl |rfl |rfl |rfl |rfl |rfl <;> decide
    · rw [List.getD_eq_getElem?_getD,List.getElem?_eq_none (by simpa using h)];decide
  | 1 =>
    rcases Nat.lt_or_ge j 8 with h |h
    · rcases lt8 h with rfl |rfl |rfl |rfl |rfl |rfl |rfl |rfl <;> decide
    · rw [List.getD_eq_getElem?_getD,List.getElem?_eq_none (by simpa using h)];decide
  | k+2=>simp
theorem z7q (x y:Int):hasR flL x y↔(0≤x∧x<16)∧(0≤y∧y<16)∧¬ (x=0∧y=0):=by
  unfold flL q5b hasR
  constructor
  · rintro ⟨r,hr,h1,h2,h3⟩
    rcases List.mem_cons.1 hr with rfl |hr
    · dsimp only at h1 h2 h3;omega
    · simp only [List.mem_map,List.mem_range] at hr
      obtain ⟨i,hi,rfl⟩:=hr
      dsimp only at h1 h2 h3
      omega
  · rintro ⟨h1,h2,h3⟩
    by_cases hy:y=0
    · exact ⟨⟨0,1,16⟩,List.mem_cons_self ..,hy.symm,by show (1:Int)≤x;omega,h1.2⟩
    · exact ⟨⟨1+((y-1).toNat:Int),0,16⟩,List.mem_cons_of_mem _ (List.mem_map.2 ⟨(y-1).toNat,List.mem_range.2 (by omega),rfl⟩),by show 1+((y-1).toNat:Int)=y;omega,h1.1,h1.2⟩
theorem fl_one {x y:Int}:hasR [⟨0,0,1⟩] x y↔x=0∧y=0:=by
  unfold hasR
  constructor
  · rintro ⟨r,hr,h1,h2,h3⟩
    simp at hr;subst hr
    dsimp only at h1 h2 h3
    omega
  · rintro ⟨rfl,rfl⟩
    exact ⟨⟨0,0,1⟩,by simp,rfl,Int.le_refl _,by decide⟩
theorem fl_e (B:Nat→Value):pcsE 1 1 2 (gatP flG B)=0:=by
  have h0:pcE 1 1 (gatP flG B 0)=0:=z57 (show errL [⟨0,0,1⟩]=0 by decide) (show 1≠0 by omega) (by
    rintro ⟨r,hr,ho⟩
    have hr':r∈([⟨0,0,1⟩]:List Run):=hr
    simp at hr';subst hr'
    unfold outP at ho
    dsimp only at ho
    omega) (by
    intro h
    have:(100:Int)=0:=h.1
    omega)
  have h1:pcE 1 1 (gatP flG B 1)=0:=z57 (show errL flL=0 by decide +kernel) (show 16≠0 by omega) (by
    rintro ⟨r,hr,ho⟩
    have hr':r∈flL:=hr
    unfold flL at hr'
    rcases List.mem_cons.1 hr' with rfl |hr'
    · unfold outP at ho
      dsimp only at ho
      omega
    · simp only [q5b,List.mem_map,List.mem_range] at hr'
      obtain ⟨i,hi,rfl⟩:=hr'
      unfold outP at ho
      dsimp only at ho
      omega) (by
    intro h
    have:(200:Int)=0:=h.1
    omega)
  have a0:apE (gatP flG B) 0=0:=z0z (by rintro ⟨k,hk,_⟩;omega) (by rintro ⟨h,_⟩;omega)
  have a1:apE (gatP flG B) 1=0:=z0z (by
    rintro ⟨k,hk,h⟩
    obtain rfl:k=0:=by omega
    rcases h with h |h
    · have:(100:Int)=200:=h.1
      omega
    · have h':z3y [⟨0,0,1⟩] flL:=h
      obtain ⟨x,y,g1,g2⟩:=h'
      rw [fl_one] at g1;rw [z7q] at g2;omega) (by
    rintro ⟨_,h⟩
    have h':(q1c flL).y<(q1c [⟨0,0,1⟩]).y∨((q1c flL).y=(q1c [⟨0,0,1⟩]).y∧(q1c flL).x0<(q1c [⟨0,0,1⟩]).x0):=h
    revert h'
    decide)
  unfold pcsE
  rw [if_neg (by omega),if_neg (by omega)]
  have f1:q1w (fun i=>pcE 1 1 (gatP flG B i)) 2=0:=by
    simp only [q1w,h0,h1,ne_eq,not_true_eq_false,if_false]
  rw [if_neg (by rw [f1];simp)]
  simp only [q1w,a0,a1,ne_eq,not_true_eq_false,if_false]
theorem v1w (B:Nat→Value):z30 (gatP flG B) (fun _=>true) 2=q5b 0 16 0 16:=by
  have ok:=z4w (fl_e B)
  have b:okR (q5b 0 16 0 16)∧∀ x y,hasR (q5b 0 16 0 16) x y↔(0≤x∧x<16)∧0≤y∧y<16:=z9f (W:=16) (H:=16) (by omega) (by omega)
  refine z3r ok.some_ok.1 b.1 fun x y=>?_
  have b2:=b.2 x y
  rw [ok.some_ok.2,b2]
  constructor
  · rintro ⟨k,hk,_,h⟩
    match k,hk with
    | 0,_ =>
      have h':hasR [⟨0,0,1⟩] x y:=h
      rw [fl_one] at h';omega
    | 1,_ =>
      have h':hasR flL x y:=h
      rw [z7q] at h';omega
  · intro h
    by_cases h0:x=0∧y=0
    · exact ⟨0,by omega,rfl,show hasR [⟨0,0,1⟩] x y from fl_one.2 h0⟩
    · exact ⟨1,by omega,rfl,show hasR flL x y from (z7q x y).2 ⟨by omega,by omega,h0⟩⟩
set_option maxHeartbeats 8000000 in
theorem q2a (G:Mem):Gives Tryz.prog 7 [] G (.val (.bool true)):=by
  have key:∀ (F:Mem) (A:Option Addr) (c b sb ib:Nat),RunsM F A (q6i 1 1)→16≤c→c≤maxLen →
    F sb=some (.cells #[.string ⟨#[98,108,97,99,107]⟩] 9 (0,0))→F b=some (.cells #[.int .i64 0,.int .i64 0,.int .i64 1] 78 (0,0))→F ib=some (.cells ((spI A c b 0).cells++(spI A c b 1).cells++(spI A c b 2).cells++(spI A c b 3).cells).toArray 63 (0,0)) →
    MakesX Tryz.prog 24 [q5o 1 1 (some ⟨sb,0,none⟩) 1 1 (some ⟨ib,0,none⟩) 4 4] F 35 9 (ofR flC 16 256):=by
    intro F A c b sb ib hR h1 h2 h3 h4 h5
    have hI:=x91 h5
    have r:=x15 (w:=1) (h:=1) (W:=16) (N:=256) (x93 hR ⟨h1,h2⟩ h4 (v1q h3) hI) hI (by omega) (by omega) (v2x hR h4) (by omega) (by omega) rfl rfl (by omega)
    have e:ofR (fun i=>vecI (q4i (spI A c b) spF spR 4 1 ((i%16:Nat):Int) ((i/16:Nat):Int))) 16 256=ofR flC 16 256:=by
      unfold ofR
      rw [z9g fun j hj=>v1v hj]
    rw [← e]
    exact r
  refine q01 tab_ok Tryz.func7 ?_
  (repeat ((try (conv=>whnf));(refine stQ ?_)))
  conv=>whnf
  refine z24 (fun vs w=>by kernel_rfl) (by rfl) z7p ?_
  rintro v F hF ⟨A,c,b,sb,ib,rfl,q1,q2,q3,q4,q5,q6⟩
  have k0:=key F A c b sb ib q1 q2 q3 q4 q5 q6
  (repeat ((try (conv=>whnf));(refine stQ ?_)))
  conv=>whnf
  refine x7g [.int .i64 1,.int .i64 1,.slice (some ⟨sb,0,none⟩) 1 1,.slice (some ⟨ib,0,none⟩) 4 4] ?_
  refine z14 (fun vs w=>by kernel_rfl) (by kernel_rfl) k0 fun wr n2 xs2 G2 A2 c2 G3 hG2 hR2 hG3 hc2 hm2 hF2=>?_
  unfold ofR at hR2
  rw [v1u] at hR2
  obtain ⟨rfl,rfl,B2,rfl,hB2⟩:=hR2
  have hQ:PcsM G3 A2 2 (gatP flG B2):=⟨hF2.els (fun _ _=>rfl) (by omega),fun i hi=>((hB2 i _ (List.getElem?_eq_getElem (show i<flG.length from hi))).2.2.2).mono hG3,fun i hi=>⟨(hB2 i _ (List.getElem?_eq_getElem (show i<flG.length from hi))).2.1,(hB2 i _ (List.getElem?_eq_getElem (show i<flG.length from hi))).2.2.1⟩,fun i hi j=>x94 i j⟩
  have ok:=z4w (fl_e B2)
  have mp:=z9i (c:=c2) ok (fl_e B2) hQ
  rw [v1w] at mp
  conv=>whnf
  (repeat ((try (conv=>whnf));(refine stQ ?_)))
  conv=>whnf
  refine q7c (fun vs w=>by kernel_rfl) (z0t 0) (by kernel_rfl) mp fun A6 c6 G6 hG6 hc6 hm6 hx6=>?_
  have hR6:=RunsM.frozen hx6
  have hQ6:=hQ.mono hG6
  have a1:Gives Tryz.prog 26 [.val (.slice A6 16 c6)] G6 (.val (.int .i64 256)):=x2p (c:=c6) hR6 (q6z (by decide +kernel))
  obtain ⟨a,rfl,ca⟩:=hQ6.inks (show 0<2 by omega)
  have ca1:∀ K:List Value→Prop,K [.int .u8 100,.int .u8 0,.int .u8 0,.int .u8 0,.int .u8 0,.int .u8 0,.int .u8 0,.int .u8 0]→OldCells G6 (Addr.add (a.add (0*9)) 1) 8 K:=fun K k=>ca K k
  have n1:(q5b 0 16 0 16).length=16:=rfl
  have n2:flG.length=2:=rfl
  clear ca
  rw [n1,n2]
  (repeat ((try (conv=>whnf));(first |(refine ca1 _ ?_) |(refine stQ ?_) |(with_reducible first |refine q0e (fun vs w=>by kernel_rfl) (by kernel_rfl) (a1) ?_ |refine q0d (fun vs w=>by kernel_rfl) (by kernel_rfl) (a1) ?_))))
  conv=>whnf
  exact ⟨rfl,rfl⟩
end Go.Proofs.YtkicdhaklnmonaaGreat
namespace Go.Proofs.YtkicdhaklnmonaaGreat
open Go.RowKit
set_option maxRecDepth 20000
theorem ElsM.cellsAt {G:Mem} {A:Option Addr} {sz n:Nat} {c:Nat→List Value} (h:ElsM G A sz n c) (hs:0<sz) (hn:0<n):∃ p,A=some p∧G.cellsAt p (q0q c n):=by
  obtain ⟨b,off,hA,_⟩:=h.at_ 0 hn
  refine ⟨_,hA,fun j u hj=>?_⟩
  have hjl:=(List.getElem?_eq_some_iff.1 hj).1
  rw [q2l h.len] at hjl
  have hx:j/sz<n:=Nat.div_lt_of_lt_mul (by rw [Nat.mul_comm];exact hjl)
  obtain ⟨b',off',hA',h2⟩:=h.at_ (j/sz) hx
  rw [hA] at hA';cases hA'
  have e:j=j/sz*sz+j%sz:=by rw [Nat.mul_comm];exact (Nat.div_add_mod j sz).symm
  rw [e,q41 h.len hx (Nat.mod_lt _ hs)] at hj
  have:=h2 _ _ hj
  rw [q0m]
  rw [Nat.add_assoc,← e] at this
  exact this
theorem ElsM.srcV {G:Mem} {A:Option Addr} {sz n:Nat} {c:Nat→List Value} (h:ElsM G A sz n c) (hs:0<sz) (ho:∀ x,x<n→∀ v∈c x,v.oneCell'=true) (K:Nat→List Value→Prop) (k:K n (q0q c n)):SrcV G A n sz K :=
  ⟨q0q c n,q2l h.len,fun h0=>h.cellsAt hs (by rcases Nat.eq_zero_or_pos n with e |e;(subst e;exact absurd rfl h0);exact e),z8s ho,k⟩
theorem v1x {G:Mem} {sz n:Nat} {c:Nat→List Value} (h:ElsM G none sz n c):n=0:=by
  rcases Nat.eq_zero_or_pos n with e |e
  · exact e
  · obtain ⟨b,off,hA,_⟩:=h.at_ 0 e;cases hA
end Go.Proofs.YtkicdhaklnmonaaGreat
namespace Go.Proofs.YtkicdhaklnmonaaGreat
open Go.RowKit Go.Deep
set_option maxRecDepth 20000
theorem ItemsM.els {G:Mem} {b off n:Nat} {I:Nat→ItemD} (h:ItemsM G (some ⟨b,off,none⟩) n I):ElsM G (some ⟨b,off,none⟩) 34 n fun x=>(I x).cells :=
  ⟨fun x hx=>rfl,fun x hx=>by
    obtain ⟨p,hp,hc⟩:=h.kind hx
    cases hp
    refine ⟨b,off,rfl,fun j v hj=>?_⟩
    have:=hc j v hj
    rw [q0m,q0m] at this
    exact this⟩
theorem q6j {G:Mem} {A:Option Addr} {n:Nat} {J:Nat→ItemD} (h:ElsM G A 34 n fun x=>(J x).cells):ItemsM G A n J:=fun x hx=>by
  obtain ⟨b,off,rfl,h2⟩:=h.at_ x hx
  refine ⟨_,rfl,fun K hK=>⟨(J x).cells,⟨rfl,fun j v hj=>?_⟩,hK⟩⟩
  rw [q0m,q0m];exact h2 j v hj
theorem x17 {G:Mem} {A:Option Addr} {n:Nat} {g:Nat→Nat→Value} (h:SliceM Tryz.prog G 9 A n g):∀ x,x<n→∀ v∈(List.range 1).map (g x),v.oneCell'=true:=fun x hx v hv=>by
  obtain ⟨⟨w0,A0,h0⟩,_⟩:=h
  obtain ⟨j,hj,rfl⟩:=List.mem_map.1 hv
  have hj:j=0:=by have:=List.mem_range.1 hj;omega
  subst hj
  have ef:flat Tryz.prog 20 9=[.string]:=by kernel_rfl
  obtain ⟨s,hs,_⟩:=h0.seen (j:=0) (by kernel_rfl) hx (by rw [ef];rfl)
  rw [hs];rfl
theorem SliceM.froz {P:Program} {G G':Mem} {e:TypeId} {A B:Option Addr} {n:Nat} {g:Nat→Nat→Value} (h:SliceM P G e A n g) {sz:Nat} (hs:P.cellsOf e=sz) (hz:0<sz)
    (hB:q0q (fun x=>(List.range sz).map (g x)) n=[]∨∃ b,B=some ⟨b,0,none⟩∧∀ (j:Nat) u,(q0q (fun x=>(List.range sz).map (g x)) n)[j]? = some u→G'.cell? ⟨b,j,none⟩=some u):SliceM P G' e B n g:=by
  rcases hB with h0 |⟨b,rfl,hc⟩
  · refine ⟨h.1,fun hn=>?_⟩
    have:=q2l (c:=fun x=>(List.range sz).map (g x)) (sz:=sz) (n:=n) (fun x hx=>by simp)
    rw [h0] at this
    have:0<n*sz:=Nat.mul_pos hn hz
    simp at *;omega
  · exact h.copy hs (.inr ⟨b,0,rfl,fun j u hj=>by rw [Nat.zero_add];exact hc j u hj⟩) hz
theorem SrcG.mono {G G':Mem} {i:ItemD} {gs gp gf:Nat→Nat→Value} (h:SrcG G i gs gp gf) (hG:G.le G'):SrcG G' i gs gp gf:=⟨⟨h.stop.1,h.stop.2.1,h.stop.2.2.mono hG⟩,⟨h.pix.1,h.pix.2.1,h.pix.2.2.mono hG⟩,⟨h.soft.1,h.soft.2.1,h.soft.2.2.mono hG⟩,h.ink⟩
theorem ItemG.mono {G G':Mem} {i:ItemD} {gr gs gp gf:Nat→Nat→Value} (h:ItemG G i gr gs gp gf) (hG:G.le G'):ItemG G' i gr gs gp gf:=⟨⟨h.run.1,h.run.2.1,h.run.2.2.mono hG⟩,h.src.mono hG,h.al⟩
def setJ (J:Nat→ItemD) (x:Nat) (i:ItemD):Nat→ItemD:=fun y=>if y=x then i else J y
theorem z35 {J:Nat→ItemD} {x:Nat} {i:ItemD}:setJ J x i x=i:=if_pos rfl
theorem z36 {J:Nat→ItemD} {x y:Nat} {i:ItemD} (h:y≠x):setJ J x i y=J y:=if_neg h
section
variable {G:Mem} {W H:Int} {SA IA:Option Addr} {m sq n iq:Nat} {S:Nat→Nat→Value} {I:Nat→ItemD} {gr gs gp gf:Nat→Nat→Nat→Value}
structure CopyT where
  k:Nat
  J:Nat→ItemD
  M:Mem
end
end Go.Proofs.YtkicdhaklnmonaaGreat
