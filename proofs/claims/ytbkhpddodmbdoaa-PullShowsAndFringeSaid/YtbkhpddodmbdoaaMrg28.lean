/-
  Merged: XPulls, XPullHelp, XInG, XPrinted.
-/
import Derived.Test.YtbkhpddodmbdoaaMrg19
import Derived.Test.YtbkhpddodmbdoaaMrg27
import Derived.Test.YtbkhpddodmbdoaaMrg8
import Derived.Test.YtbkhpddodmbdoaaEng2
import Derived.Test.YtbkhpddodmbdoaaMrg24
import Derived.Test.YtbkhpddodmbdoaaMrg15
import Derived.Test.YtbkhpddodmbdoaaMrg18
set_option linter.unusedVariables false
set_option linter.unusedSimpArgs false
set_option linter.unnecessarySimpa false
namespace Go.Proofs.Ytbkhpddodmbdoaa
open Go.RowKit
set_option maxRecDepth 20000
theorem half_ok:okR (q02 0 8 0 16)∧∀ x y,hasR (q02 0 8 0 16) x y↔(0≤x∧x<8)∧0≤y∧y<16:=q7h (W:=8) (H:=16) (by omega) (by omega)
theorem x4f {a b:Int} (h:a<b):okR (q02 a b 0 16)∧∀ x y,hasR (q02 a b 0 16) x y↔(a≤x∧x<b)∧0≤y∧y<16:=by
  constructor
  · generalize 16=n
    induction n with
    | zero=>simp [q02,okR]
    | succ n ih =>
      rw [z39,okR_append]
      refine ⟨ih,⟨h,by simp,trivial⟩,fun r hr s hs=>?_⟩
      simp only [q02,List.mem_map,List.mem_range] at hr
      obtain ⟨i,hi,rfl⟩:=hr
      simp at hs;subst hs
      left;dsimp only;omega
  · intro x y
    unfold q02 hasR
    constructor
    · rintro ⟨r,hr,h1,h2,h3⟩
      simp only [List.mem_map,List.mem_range] at hr
      obtain ⟨i,hi,rfl⟩:=hr
      dsimp only at h1 h2 h3
      omega
    · rintro ⟨h1,h2⟩
      exact ⟨⟨0+(y.toNat:Int),a,b⟩,List.mem_map.2 ⟨y.toNat,List.mem_range.2 (by omega),rfl⟩,by show 0+(y.toNat:Int)=y;omega,h1.1,h1.2⟩
theorem z13 (A:Option Addr) (q:Nat):pcsE 1 1 1 (edgP A q)=0:=by
  have h1:pcE 1 1 (edgP A q 0)=0:=z7z (by show errL (q02 0 8 0 16)=0;decide) (by show (q02 0 8 0 16).length≠0;rw [q5j];omega) (by
    rintro ⟨r,hr,ho⟩
    have hr':r∈q02 0 8 0 16:=hr
    simp only [q02,List.mem_map,List.mem_range] at hr'
    obtain ⟨i,hi,rfl⟩:=hr'
    unfold outP at ho
    dsimp only at ho
    omega) (by
    intro h
    have:(255:Int)=0:=h.1
    omega)
  have h2:apE (edgP A q) 0=0:=z06 (by rintro ⟨k,hk,_⟩;omega) (by rintro ⟨h,_⟩;omega)
  unfold pcsE
  rw [if_neg (by omega),if_neg (by omega)]
  have f1:q11 (fun i=>pcE 1 1 (edgP A q i)) 1=0:=by
    show (if (0:Int)≠0 then (0:Int) else pcE 1 1 (edgP A q 0))=0
    rw [if_neg (by omega),h1]
  rw [if_neg (by rw [f1];simp)]
  show (if (0:Int)≠0 then (0:Int) else apE (edgP A q) 0)=0
  rw [if_neg (by omega),h2]
def plC (i:Nat):List Int:=if i%16<5 then [255,100,0,0,0,0,0,0] else if i%16<8 then [255,0,0,0,0,0,0,0] else zero8
def plG:List Pc:=[([255,100,0,0,0,0,0,0],q02 0 5 0 16),([255,0,0,0,0,0,0,0],q02 5 8 0 16)]
theorem x5f:gat plC 16 256=plG:=by kernel_rfl
theorem x5g {A:Option Addr} {q i:Nat} (hi:i<256):vecI (q14 (q01 (edgP A q) 16 1) 16 0 (DL 3 (q26 1 1 1 (edgP A q))) i)=plC i:=by
  have ok:=q8h (z13 A q)
  unfold q14
  rw [x2k (by omega)]
  have e0:vecI (q01 (edgP A q) 16 1 i)=if i%16<8 then [255,100,0,0,0,0,0,0] else zero8:=by
    rw [q9l]
    unfold q6k q6k
    rw [show (edgP A q 0).L=q02 0 8 0 16 from rfl]
    by_cases h:i%16<8
    · rw [if_pos h,if_pos (hasL_iff.2 ((half_ok.2 _ _).2 (by omega)))];rfl
    · rw [if_neg h,if_neg fun h2=>h (by have:=(half_ok.2 _ _).1 (hasL_iff.1 h2);omega)]
  have hd:=z52 (w:=3) ok.paper_valid.1
  have hn:hasL (DL 3 (q26 1 1 1 (edgP A q))) ((i%16:Nat):Int) ((i/16:Nat):Int)=true↔5≤i%16:=by
    rw [hasL_iff,hd.2,x2i (by omega) ok.paper.1 (by omega) (by omega)]
    constructor
    · rintro ⟨u,v,h1,h2,h3⟩
      obtain ⟨g1,g2⟩:=(ok.paper.2 u v).1 h1
      have:¬ hasR (q02 0 8 0 16) u v:=fun h=>g2 ⟨0,by omega,h⟩
      rw [half_ok.2] at this
      omega
    · intro h
      refine ⟨max 8 ((i%16:Nat):Int),((i/16:Nat):Int),(ok.paper.2 _ _).2 ⟨by omega,?_⟩,by omega,by omega⟩
      rintro ⟨k,hk,h2⟩
      obtain rfl:k=0:=by omega
      have:=(half_ok.2 _ _).1 (show hasR (q02 0 8 0 16) _ _ from h2)
      omega
  unfold x0t plC
  dsimp only
  by_cases h5:5≤i%16
  · rw [if_neg (show ¬ i%16<5 by omega)]
    by_cases h8:i%16<8
    · have e1:(vecI (q01 (edgP A q) 16 1 i))[0]? = some 255:=by rw [e0,if_pos h8];rfl
      rw [if_pos ⟨hn.2 h5,e1⟩,if_pos h8];rfl
    · have e1:vecI (q01 (edgP A q) 16 1 i)=zero8:=by rw [e0,if_neg h8]
      rw [if_neg (fun h=>by rw [e1] at h;exact absurd h.2 (by decide)),if_neg h8];exact e1
  · rw [if_pos (show i%16<5 by omega),if_neg fun h=>h5 (hn.1 h.1),e0,if_pos (show i%16<8 by omega)]
theorem x50 (A:Option Addr) (q:Nat):q47 1 1 1 (edgP A q) 0 1 2 0=q02 8 10 0 16:=by
  have ok:=q8h (z13 A q)
  obtain ⟨f1,f2⟩:=ok.fringe (key:=0) (ink:=1) (dx:=2) (dy:=0)
  obtain ⟨b1,b2⟩:=x4f (a:=8) (b:=10) (by omega)
  refine z1x f1 b1 fun x y=>?_
  rw [f2,b2,ok.paper.2,(q8k (by omega) (by omega) ok.under.1).2,ok.under.2]
  have e1:∀ x y,(∃ k,k<1∧hasR (edgP A q k).L x y)↔(0≤x∧x<8)∧0≤y∧y<16:=fun x y=>by
    rw [← half_ok.2]
    constructor
    · rintro ⟨k,hk,h⟩;exact h
    · intro h;exact ⟨0,by omega,h⟩
  have e2:∀ x y,(∃ k,k<1∧255≤(edgP A q k).I 0∧hasR (edgP A q k).L x y)↔(0≤x∧x<8)∧0≤y∧y<16:=fun x y=>by
    rw [← half_ok.2]
    constructor
    · rintro ⟨k,hk,_,h⟩;exact h
    · intro h;exact ⟨0,by omega,(show (255:Int)≤255 by omega),h⟩
  have e3:∀ x y,(∃ k,k<1∧1≤(edgP A q k).I 1∧hasR (edgP A q k).L x y)↔(0≤x∧x<8)∧0≤y∧y<16:=fun x y=>by
    rw [← half_ok.2]
    constructor
    · rintro ⟨k,hk,_,h⟩;exact h
    · intro h;exact ⟨0,by omega,(show (1:Int)≤100 by omega),h⟩
  rw [e1,e2,e3]
  omega
theorem x24 {c d:Nat→List Int} {W N:Nat} (h:gat c W N=gat d W N):ofR c W N=ofR d W N:=by
  unfold ofR
  rw [h]
theorem z82 {A B:Option Addr} {q:Nat} {G:Mem} (hP:PcsM G A 1 (edgP B q)) :
    MakesX Try.prog 11 [.val (.int .i64 1),.val (.int .i64 1),.val (.slice A 1 2),.val (.int .i64 0),.val (.int .i64 3)] G 29 9 (ofR plC 16 256):=by
  have ok:=q8h (z13 B q)
  have mp:=x1b (w:=1) (h:=1) (W:=16) (N:=256) (c:=2) (key:=0) (r:=3) ok (z13 B q) hP (by omega) (by unfold maxLen;omega) rfl rfl (by omega) (by omega) (by omega) (by omega)
  have e:ofR (fun i=>vecI (q14 (q01 (edgP B q) 16 1) 16 0 (DL 3 (q26 1 1 1 (edgP B q))) i)) 16 256=ofR plC 16 256:=x24 (z53 fun j hj=>x5g hj)
  rw [← e]
  exact mp
theorem x4g:∀ k j,0≤keyI plG k j∧keyI plG k j≤255:=by
  intro k j
  unfold keyI plG
  match k with
  | 0 =>
    rcases Nat.lt_or_ge j 8 with h |h
    · rcases lt8 h with rfl |rfl |rfl |rfl |rfl |rfl |rfl |rfl <;> decide
    · rw [List.getD_eq_getElem?_getD,List.getElem?_eq_none (by simpa using h)];decide
  | 1 =>
    rcases Nat.lt_or_ge j 8 with h |h
    · rcases lt8 h with rfl |rfl |rfl |rfl |rfl |rfl |rfl |rfl <;> decide
    · rw [List.getD_eq_getElem?_getD,List.getElem?_eq_none (by simpa using h)];decide
  | k+2=>simp
set_option maxHeartbeats 4000000 in
theorem q0m (G:Mem):Gives Try.prog 8 [] G (.val (.bool true)):=by
  refine q1n tab_ok Try.func8 ?_
  (repeat ((try (conv=>whnf));(refine stQ ?_)))
  conv=>whnf
  refine z1f (fun vs w=>by kernel_rfl) (by kernel_rfl) z1g fun y G1 hG1 hR1=>?_
  obtain ⟨A,B,q,rfl,hP⟩:=hR1
  (repeat ((try (conv=>whnf));(refine stQ ?_)))
  conv=>whnf
  refine z6h (fun vs w=>by kernel_rfl) (by kernel_rfl) (z82 hP) fun wr n2 xs2 G2 A2 c2 G3 hG2 hR2 hG3 hc2 hm2 hF2=>?_
  unfold ofR at hR2
  rw [x5f] at hR2
  obtain ⟨rfl,rfl,B2,rfl,hB2⟩:=hR2
  have hQ:PcsM G3 A2 2 (gatP plG B2):=⟨hF2.els (fun _ _=>rfl) (by omega),fun i hi=>((hB2 i _ (List.getElem?_eq_getElem (show i<plG.length from hi))).2.2.2).mono hG3,fun i hi=>⟨(hB2 i _ (List.getElem?_eq_getElem (show i<plG.length from hi))).2.1,(hB2 i _ (List.getElem?_eq_getElem (show i<plG.length from hi))).2.2.1⟩,fun i hi j=>x4g i j⟩
  conv=>whnf
  refine z1f (fun vs w=>by kernel_rfl) (by kernel_rfl) z1g fun y G4 hG4 hR4=>?_
  obtain ⟨A5,B5,q5,rfl,hP5⟩:=hR4
  have ok:=q8h (z13 B5 q5)
  have mf:q2j Try.prog 17 [.val (.int .i64 1),.val (.int .i64 1),.val (.slice A5 1 2),.val (.int .i64 0),.val (.int .i64 1),.agg [.val (.int .i64 2),.val (.int .i64 0)]] G4 (q34 0) 54 3 (q02 8 10 0 16).length (q0o (q02 8 10 0 16)):=by
    have:=z1l (c:=2) (key:=0) (ink:=1) (dx:=2) (dy:=0) ok (z13 B5 q5) hP5 (by omega) (by unfold maxLen;omega) (by omega) (by omega) (by omega) (by omega) (by omega)
    rw [x50] at this
    exact this
  (repeat ((try (conv=>whnf));(refine stQ ?_)))
  conv=>whnf
  refine q04 (fun vs w=>by kernel_rfl) (q00 0) (by kernel_rfl) mf fun A6 c6 G6 hG6 hc6 hm6 hx6=>?_
  have hR6:=RunsM.frozen hx6
  have hQ6:=hQ.mono (Mem.le_trans hG4 hG6)
  have a1:=z2h (c:=c6) hR6 (q22 (by decide))
  obtain ⟨a,rfl,ca⟩:=hQ6.inks (show 1<2 by omega)
  obtain ⟨a',ha',da⟩:=hQ6.head (show 1<2 by omega)
  cases ha'
  have hr1:=hQ6.runs 1 (by omega)
  have a2:=z2h (c:=(gatP plG B2 1).q) hr1 (q22 (show errL (q02 5 8 0 16)=0 by decide))
  have ca1:∀ K:List Value→Prop,K [.int .u8 255,.int .u8 0,.int .u8 0,.int .u8 0,.int .u8 0,.int .u8 0,.int .u8 0,.int .u8 0]→OldCells G6 (Addr.add (a.add (1*9)) 1) 8 K:=fun K k=>ca K k
  have da1:G6.cell? (Addr.add (a.add (1*9)) 0)=some (.slice (gatP plG B2 1).A 16 (gatP plG B2 1).q):=da
  have a1':Gives Try.prog 26 [.val (.slice A6 16 c6)] G6 (.val (.int .i64 32)):=a1
  have a2':Gives Try.prog 26 [.val (.slice (gatP plG B2 1).A 16 (gatP plG B2 1).q)] G6 (.val (.int .i64 48)):=a2
  generalize (gatP plG B2 1).A=A7 at *
  generalize (gatP plG B2 1).q=q7 at *
  have n1:(q02 8 10 0 16).length=16:=rfl
  have n2:plG.length=2:=rfl
  clear ca da a1 a2
  rw [n1,n2]
  (repeat ((try (conv=>whnf));(first |(refine ca1 _ ?_) |(refine q0d _ da1 ?_) |(refine stQ ?_) |(with_reducible first |refine q0b (fun vs w=>by kernel_rfl) (by kernel_rfl) (a1') ?_ |refine q0a (fun vs w=>by kernel_rfl) (by kernel_rfl) (a1') ?_ |refine q0b (fun vs w=>by kernel_rfl) (by kernel_rfl) (a2') ?_ |refine q0a (fun vs w=>by kernel_rfl) (by kernel_rfl) (a2') ?_))))
  conv=>whnf
  exact ⟨rfl,rfl⟩
end Go.Proofs.Ytbkhpddodmbdoaa
namespace Go.Proofs.Ytbkhpddodmbdoaa
open Go.RowKit
set_option maxRecDepth 20000
theorem q6q {p:Nat→PcD} {W:Nat}:∀ {n:Nat},(∀ k,k<n→∀ j,0≤(p k).I j∧(p k).I j≤255)→∀ i j,0≤q01 p W n i j∧q01 p W n i j≤255
  | 0,_,i,j=>by simp [q01]
  | n+1,h,i,j=>by
    unfold q01 q3k
    split
    · exact h n (by omega) j
    · exact q6q (n:=n) (fun k hk=>h k (by omega)) i j
theorem z21 {w h:Int} {n:Nat} {p:Nat→PcD} (hb:¬ ((1≤w∧w≤256)∧(1≤h∧h≤256))):pcsE w h n p≠0:=by
  unfold pcsE
  rw [if_pos hb];omega
theorem q4q {β:Nm} {a:AV} {l:List AV} {y:Value} {ys:List Value} (h:a.rel β y) (t:AV.rels β l ys):AV.rels β (a::l) (y::ys):=by
  rw [AV.rels];exact ⟨_,_,rfl,h,t⟩
theorem q6y {β:Nm} {x:Value}:(AV.val x).rel β x:=by simp only [AV.rel]
theorem x5h {β:Nm} {l:List Value}:(AV.agg (l.map .val)).rel β (.agg l.toArray):=by
  rw [AV.rel];exact ⟨_,rfl,z0r l⟩
theorem q1d {P:Program} {t:TypeId} {x y:Operand} {a b:Bool} (c:Bool) {K:Bool→Prop} (ht:P.underlying t=some .bool) (e:(a==b)=c) (h:K c):EqP P t x y (.val (.bool a)) (.val (.bool b)) K:=z7n ht (by rw [e];exact h)
end Go.Proofs.Ytbkhpddodmbdoaa
namespace Go.Proofs.Ytbkhpddodmbdoaa
open Go.RowKit
set_option maxRecDepth 20000
theorem q0l (x a b:Int) (G:Mem) (v:Bool) (hv:v=true↔a≤x∧x≤b):Gives Try.prog 9 [.val (.int .i64 x),.val (.int .i64 a),.val (.int .i64 b)] G (.val (.bool v)):=by
  have hv':v=decide (a≤x∧x≤b):=by
    cases v
    · exact (decide_eq_false fun h=>by simpa using hv.2 h).symm
    · exact (decide_eq_true (hv.1 rfl)).symm
  rw [hv']
  refine q1n tab_ok Try.func9 ?_
  by_cases h1:a≤x
  · (repeat ((try (conv=>whnf));(refine stQ ?_)))
    exact ⟨by simp [h1],rfl⟩
  · (repeat ((try (conv=>whnf));(refine stQ ?_)))
    exact ⟨by simp [h1],rfl⟩
end Go.Proofs.Ytbkhpddodmbdoaa
namespace Go.Proofs.Ytbkhpddodmbdoaa
open Go.RowKit
set_option maxRecDepth 20000
def onP (w h x y:Int):Prop:=(0≤x∧x≤16*w-1)∧0≤y∧y≤16*h-1
instance (w h x y:Int):Decidable (onP w h x y):=by unfold onP;infer_instance
def prV (J:Nat→Nat→Int) (W:Nat) (w h:Int) (ink:Nat) (x y:Int):Int:=if onP w h x y then J (y.toNat * W+x.toNat) ink else 0
set_option maxHeartbeats 4000000 in
theorem q51 {A:Option Addr} {w h W N c ink:Nat} {x y dx dy:Int} {J:Nat→Nat→Int} {G:Mem} (hw:1≤w∧w≤256) (hh:1≤h∧h≤256) (hW:W=16*w) (hN:N=16*h*W) (hN4:N≤4096) (hc:N≤c∧c≤maxLen) (hk:ink<8) (hE:ElsM G A 8 N fun i=>inkC (J i)) (hJ:∀ i j,0≤J i j∧J i j≤255)
    (hx:0≤x∧x<16*w) (hy:0≤y∧y<16*h) (hdx:-64≤dx∧dx≤64) (hdy:-64≤dy∧dy≤64) :
    Gives Try.prog 20 [.val (.int .i64 w),.val (.int .i64 h),.val (.slice A N c),.val (.int .i64 ink),.val (.int .i64 x),.val (.int .i64 y),.agg [.val (.int .i64 dx),.val (.int .i64 dy)]] G (.val (.int .i64 (prV J W w h ink (x-dx) (y-dy)))):=by
  refine q1n tab_ok Try.func20 ?_
  have gx:=fun v hv=>q0l (x-dx) 0 (16*(w:Int)-1) G v hv
  have gy:=fun v hv=>q0l (y-dy) 0 (16*(h:Int)-1) G v hv
  unfold prV
  by_cases h1:0≤x-dx∧x-dx≤16*(w:Int)-1
  · have g1:=gx true ⟨fun _=>h1,fun _=>rfl⟩
    by_cases h2:0≤y-dy∧y-dy≤16*(h:Int)-1
    · have g2:=gy true ⟨fun _=>h2,fun _=>rfl⟩
      rw [if_pos ⟨h1,h2⟩]
      generalize hu:x-dx=u at *
      generalize hv:y-dy=v at *
      obtain ⟨u,rfl⟩:∃ k:Nat,u=k:=⟨u.toNat,by omega⟩
      obtain ⟨v,rfl⟩:∃ k:Nat,v=k:=⟨v.toNat,by omega⟩
      have hvW:v*W+W≤N:=by
        rw [hN]
        have:=Nat.mul_le_mul_right W (show v+1≤16*h by omega)
        rw [Nat.add_mul,Nat.one_mul] at this;exact this
      have e1:(v:Int)*16*(w:Int)=((v*W:Nat):Int):=by rw [hW];push_cast;rw [Int.mul_assoc]
      have eo:((v:Int)*16*(w:Int)+(u:Int)).toNat=v*W+u:=by rw [e1];omega
      obtain ⟨a,rfl,ci⟩:=hE.cell (j:=ink) (x:=v*W+u) (by omega) (z91 hk)
      have ci1:G.cell? (Addr.add (a.add (((v:Int)*16*(w:Int)+(u:Int)).toNat * 8)) (ink*1))=some (.int .u8 (J (v*W+u) ink)):=by rw [Nat.mul_one,eo];exact ci
      have hb:=hJ (v*W+u) ink
      unfold maxLen at hc
      (repeat ((try (conv=>whnf));(refine stQ ?_)))
      conv=>whnf
      rw [hu,hv]
      (repeat ((try (conv=>whnf));(first |(refine q0d _ ci1 ?_) |(refine stQ ?_) |(with_reducible first |refine q0b (fun vs w=>by kernel_rfl) (by kernel_rfl) (g1) ?_ |refine q0a (fun vs w=>by kernel_rfl) (by kernel_rfl) (g1) ?_ |refine q0b (fun vs w=>by kernel_rfl) (by kernel_rfl) (g2) ?_ |refine q0a (fun vs w=>by kernel_rfl) (by kernel_rfl) (g2) ?_))))
      conv=>whnf
      exact ⟨rfl,rfl⟩
    · have g2:=gy false ⟨(fun h=>by cases h),fun h=>absurd h h2⟩
      rw [if_neg (fun h=>h2 h.2)]
      (repeat ((try (conv=>whnf));(first |(refine stQ ?_) |(with_reducible first |refine q0b (fun vs w=>by kernel_rfl) (by kernel_rfl) (g1) ?_ |refine q0a (fun vs w=>by kernel_rfl) (by kernel_rfl) (g1) ?_ |refine q0b (fun vs w=>by kernel_rfl) (by kernel_rfl) (g2) ?_ |refine q0a (fun vs w=>by kernel_rfl) (by kernel_rfl) (g2) ?_))))
      conv=>whnf
      exact ⟨rfl,rfl⟩
  · have g1:=gx false ⟨(fun h=>by cases h),fun h=>absurd h h1⟩
    rw [if_neg (fun h=>h1 h.1)]
    (repeat ((try (conv=>whnf));(first |(refine stQ ?_) |(with_reducible first |refine q0b (fun vs w=>by kernel_rfl) (by kernel_rfl) (g1) ?_ |refine q0a (fun vs w=>by kernel_rfl) (by kernel_rfl) (g1) ?_))))
    conv=>whnf
    exact ⟨rfl,rfl⟩
theorem PcsOk.cellI_at {w h:Int} {n W i k m:Nat} {p:Nat→PcD} (ok:PcsOk w h n p) (hk:k<n) (hh:hasR (p k).L ((i%W:Nat):Int) ((i/W:Nat):Int)) (hm:m<8):q01 p W n i m=(p k).I m:=by
  have e:=(q9l (p:=p) (W:=W) n i).trans (ok.cell hk hh)
  have e2:=congrArg (fun l:List Int=>l[m]?) e
  simp only [z2u hm] at e2
  exact Option.some.inj e2
theorem PcsOk.cellI_no {w h:Int} {n W i m:Nat} {p:Nat→PcD} (ok:PcsOk w h n p) (hh:¬ ∃ k,k<n∧hasR (p k).L ((i%W:Nat):Int) ((i/W:Nat):Int)) (hm:m<8):q01 p W n i m=0:=by
  have e:=(q9l (p:=p) (W:=W) n i).trans (ok.zero.2 hh)
  have e2:=congrArg (fun l:List Int=>l[m]?) e
  simp only [z2u hm] at e2
  rcases lt8 hm with rfl |rfl |rfl |rfl |rfl |rfl |rfl |rfl <;> exact Option.some.inj e2
theorem PcsOk.cellI_least {w h:Int} {n W i m:Nat} {p:Nat→PcD} (ok:PcsOk w h n p) (hm:m<8) {z:Int} (hz:1≤z):z≤q01 p W n i m↔∃ k,k<n∧z≤(p k).I m∧hasR (p k).L ((i%W:Nat):Int) ((i/W:Nat):Int):=by
  by_cases hh:∃ k,k<n∧hasR (p k).L ((i%W:Nat):Int) ((i/W:Nat):Int)
  · obtain ⟨k,h1,h2⟩:=hh
    rw [ok.cellI_at h1 h2 hm]
    constructor
    · intro h;exact ⟨k,h1,h,h2⟩
    · rintro ⟨k',h3,h4,h5⟩
      rw [ok.one_has h1 h3 h2 h5];exact h4
  · rw [ok.cellI_no hh hm]
    constructor
    · intro h;omega
    · rintro ⟨k,h1,_,h2⟩;exact absurd ⟨k,h1,h2⟩ hh
theorem PcsOk.cellI_zero {w h:Int} {n W i:Nat} {p:Nat→PcD} (ok:PcsOk w h n p):q19 (q01 p W n i)↔¬ ∃ k,k<n∧hasR (p k).L ((i%W:Nat):Int) ((i/W:Nat):Int):=by
  rw [← vecI_zero,q9l,ok.zero]
theorem PcsOk.prV_least {w h:Int} {n W N m:Nat} {p:Nat→PcD} (ok:PcsOk w h n p) (hW:(W:Int)=16*w) (hN:(N:Int)=(16*h)*(16*w)) (hm:m<8) {z x y:Int} (hz:1≤z):z≤prV (q01 p W n) W w h m x y↔∃ k,k<n∧z≤(p k).I m∧hasR (p k).L x y:=by
  unfold prV
  have hw:=ok.wd
  by_cases hp:onP w h x y
  · rw [if_pos hp]
    unfold onP at hp
    obtain ⟨j,j1,j2,j3,j4⟩:=z76 (x:=x) (y:=y) (by omega) hW hN (by omega) (by omega)
    have e:y.toNat * W+x.toNat=j:=by
      have:((y.toNat * W:Nat):Int)=y*(16*w):=by rw [Int.natCast_mul,hW];congr 1;omega
      omega
    rw [e,ok.cellI_least hm hz,← j2,← j3]
  · rw [if_neg hp]
    constructor
    · intro h;omega
    · rintro ⟨k,h1,_,h2⟩
      have:=ok.page h1 h2
      unfold onP at hp
      omega
end Go.Proofs.Ytbkhpddodmbdoaa
