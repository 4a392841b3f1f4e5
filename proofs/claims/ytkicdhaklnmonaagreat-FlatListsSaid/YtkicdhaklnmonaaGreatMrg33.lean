/-
  Merged: XSrcMem, XListOk, XListOk2, XListOk3, XLists, XDilate1, XCloneR.
-/
import Derived.Test.YtkicdhaklnmonaaGreatMrg32
import Derived.Test.YtkicdhaklnmonaaGreatMrg16
import Derived.Test.YtkicdhaklnmonaaGreatMrg19
import Derived.Test.YtkicdhaklnmonaaGreatMrg13
import Derived.Test.YtkicdhaklnmonaaGreatMrg17
set_option linter.unusedVariables false
set_option linter.unusedSimpArgs false
set_option linter.unnecessarySimpa false
namespace Go.Proofs.YtkicdhaklnmonaaGreat
open Go.RowKit Go.Proofs.YtkicdhaklnmonaaGreat.gradientRamps Go.Proofs.YtkicdhaklnmonaaGreat.gradientPlaces Go.Proofs.YtkicdhaklnmonaaGreat.imageCells
set_option maxRecDepth 20000
structure SrcG (G:Mem) (i:ItemD) (gs gp gf:Nat→Nat→Value):Prop where
  stop:i.n≤i.q∧i.q≤maxLen∧SliceM Tryz.prog G 141 i.A i.n gs
  pix:i.pn≤i.pq∧i.pq≤maxLen∧SliceM Tryz.prog G 33 i.B i.pn gp
  soft:i.sn≤i.sq∧i.sq≤maxLen∧SliceM Tryz.prog G 5 i.C i.sn gf
  ink:∀ j,j<8→0≤i.I j∧i.I j≤255
structure ItemG (G:Mem) (i:ItemD) (gr gs gp gf:Nat→Nat→Value):Prop where
  run:i.rn≤i.rq∧i.rq≤maxLen∧SliceM Tryz.prog G 78 i.RA i.rn gr
  src:SrcG G i gs gp gf
  al:0≤i.al∧i.al≤255
section
variable {w:World} {A:Option Addr} {n:Nat} {g:Nat→Nat→Value}
end
section
variable {G:Mem} {A:Option Addr} {n:Nat} {g:Nat→Nat→Value}
end
end Go.Proofs.YtkicdhaklnmonaaGreat
namespace Go.Proofs.YtkicdhaklnmonaaGreat
open Go.RowKit
end Go.Proofs.YtkicdhaklnmonaaGreat
namespace Go.Proofs.YtkicdhaklnmonaaGreat
open Go.RowKit
set_option maxRecDepth 20000
open Go.Proofs.YtkicdhaklnmonaaGreat.gradientRamps Go.Proofs.YtkicdhaklnmonaaGreat.gradientPlaces Go.Proofs.YtkicdhaklnmonaaGreat.imageCells
theorem x16 {L:List Run} (h:errL L=0):ValidL L:=by
  exact q6z h
section
variable {G:Mem}
end
end Go.Proofs.YtkicdhaklnmonaaGreat
namespace Go.Proofs.YtkicdhaklnmonaaGreat
open Go.RowKit Go.Deep Go.Proofs.YtkicdhaklnmonaaGreat.gradientRamps Go.Proofs.YtkicdhaklnmonaaGreat.gradientPlaces Go.Proofs.YtkicdhaklnmonaaGreat.imageCells
set_option maxRecDepth 20000
theorem z9e {I:Nat→ItemD} {rE sE:Nat→Int} {n:Nat}:DepthOk (fun x=>(I x).K) (fun x o=>q4e (I x).K (I x).rn (I x).nos (I x).al (I x).bl (I x).ov (I x).iso (I x).kn o (rE x) (sE x)) n:=by
  refine ⟨fun x o _ h0 h1=>?_,fun x o _ h0 h1=>?_⟩
  · (try dsimp only at h0);(try dsimp only at h1)
    rcases Int.lt_or_le o 16 with h |h
    · exact h
    · unfold q4e at h0
      rw [h1] at h0
      split at h0
      · omega
      · split at h0
        · omega
        · split at h0
          · omega
          · rw [if_pos ⟨rfl,h⟩] at h0
            omega
  · (try dsimp only at h0);(try dsimp only at h1)
    intro h
    unfold q4e at h0
    rw [h1] at h0
    split at h0
    · omega
    · split at h0
      · omega
      · rw [if_pos ⟨rfl,h⟩] at h0
        omega
section
variable {G:Mem} {A B:Option Addr} {m sq n iq:Nat} {S:Nat→ByteArray} {I:Nat→ItemD} {p:Nat→Int × Int} {W H:Int} {R:Nat→List Run} {f:Nat→SrcF}
end
section
variable {w:World} {A B:Option Addr} {m sq n iq:Nat} {gs gi:Nat→Nat→Value} {W H:Int}
end
end Go.Proofs.YtkicdhaklnmonaaGreat
namespace Go.Proofs.YtkicdhaklnmonaaGreat
open Go.RowKit Go.Deep Go.Proofs.YtkicdhaklnmonaaGreat.gradientRamps Go.Proofs.YtkicdhaklnmonaaGreat.gradientPlaces Go.Proofs.YtkicdhaklnmonaaGreat.imageCells
set_option maxRecDepth 20000
def spF (k:Nat):SrcF:=fun _ _=>(fun j=>if j=0 then (if k=0 then 200 else 100) else 0,255)
def spR (k:Nat):List Run:=if k=0 then q6i 1 1 else [⟨0,0,1⟩]
def spS:Nat→ByteArray:=fun _=>⟨#[98,108,97,99,107]⟩
section
variable {F:Mem} {A:Option Addr} {c b sb ib:Nat}
theorem x91 (h:F ib=some (.cells ((spI A c b 0).cells++(spI A c b 1).cells++(spI A c b 2).cells++(spI A c b 3).cells).toArray 63 (0,0))):ItemsM F (some ⟨ib,0,none⟩) 4 (spI A c b):=fun x hx=>by
  refine ⟨_,rfl,fun K hK=>?_⟩
  match x,hx with
  | 0,_=>exact q5i h (by rfl) (by rfl) (by rfl) hK
  | 1,_=>exact q5i h (by rfl) (by rfl) (by rfl) hK
  | 2,_=>exact q5i h (by rfl) (by rfl) (by rfl) hK
  | 3,_=>exact q5i h (by rfl) (by rfl) (by rfl) hK
theorem v1q (h:F sb=some (.cells #[.string ⟨#[98,108,97,99,107]⟩] 9 (0,0))):StrM F (some ⟨sb,0,none⟩) 1 spS:=fun x hx=>by
  refine ⟨_,rfl,fun K hK=>?_⟩
  match x,hx with
  | 0,_=>exact q5i (vs:=[.string ⟨#[98,108,97,99,107]⟩]) h (by rfl) (by rfl) (by rfl) hK
theorem x7y (h:F b=some (.cells #[.int .i64 0,.int .i64 0,.int .i64 1] 78 (0,0))):RunsM F (some ⟨b,0,none⟩) [⟨0,0,1⟩]:=by
  refine z6u fun j u hj=>?_
  unfold Mem.cell?
  simp only [h]
  simpa [q0r] using hj
theorem x92:ValidL (q6i 1 1):=x16 (by decide +kernel)
theorem v2k:ValidL [⟨0,0,1⟩]:=x16 (by decide +kernel)
theorem v2l (hR:RunsM F A (q6i 1 1)) (h:F b=some (.cells #[.int .i64 0,.int .i64 0,.int .i64 1] 78 (0,0))) {k:Nat} (hk:k<4) (h0:(spI A c b k).K=0):RegOk F (spI A c b) spR k:=by
  match k,hk with
  | 0,_=>exact ⟨hR,by rfl,x92⟩
  | 1,_=>exact absurd h0 (by simp [spI])
  | 2,_=>exact ⟨x7y h,by rfl,v2k⟩
  | 3,_=>exact absurd h0 (by simp [spI])
theorem v2x (hR:RunsM F A (q6i 1 1)) (h:F b=some (.cells #[.int .i64 0,.int .i64 0,.int .i64 1] 78 (0,0))):LOk F (spI A c b) spF spR 4:=by
  refine ⟨fun k hk h0=>?_,fun k hk h0=>v2l hR h hk h0,fun k hk h0=>?_,fun k hk h1=>?_,fun k hk h0 h1=>?_,by rfl⟩
  · match k,hk with
    | 0,_=>exact z01
    | 1,_=>exact absurd h0 (by simp [spI])
    | 2,_=>exact z01
    | 3,_=>exact absurd h0 (by simp [spI])
  · have key:∀ k:Nat,∀ x y:Int,z25 (spF k x y).1∧0≤(spF k x y).2∧(spF k x y).2≤255:=fun k x y=>by
      refine ⟨fun j hj=>?_,show (0:Int)≤255 by omega,Int.le_refl _⟩
      show 0≤(if j=0 then (if k=0 then (200:Int) else 100) else 0)∧(if j=0 then (if k=0 then (200:Int) else 100) else 0)≤255
      split
      · split <;> omega
      · omega
    match k,hk with
    | 0,_=>exact ⟨show (0:Int)≤255∧(255:Int)≤255 by omega,show (0:Int)≤0∧(0:Int)≤11 by omega,fun x y _ _=>key 0 x y⟩
    | 1,_=>exact absurd h0 (by simp [spI])
    | 2,_=>exact ⟨show (0:Int)≤255∧(255:Int)≤255 by omega,show (0:Int)≤0∧(0:Int)≤11 by omega,fun x y _ _=>key 2 x y⟩
    | 3,_=>exact absurd h0 (by simp [spI])
  · match k,hk with
    | 0,_=>exact absurd h1 (by simp [spI])
    | 1,_=>exact ⟨show (0:Int)≤255∧(255:Int)≤255 by omega,show (0:Int)≤0∧(0:Int)≤11 by omega⟩
    | 2,_=>exact absurd h1 (by simp [spI])
    | 3,_=>exact absurd h1 (by simp [spI])
  · match k,hk with
    | 0,_=>exact absurd rfl h0
    | 1,_=>exact absurd rfl h1
    | 2,_=>exact absurd rfl h0
    | 3,_=>exact Nat.le_refl 2
theorem x33:q7k (spI A c b) 4=[.fill 0,.group 1 [.fill 2]]:=by rfl
set_option maxHeartbeats 4000000 in
theorem q75 {I:Nat→Int} {m:Nat} (hm:1≤m∧m≤8) (hI:fewB I m=true):Gives Tryz.prog 76 [srcA 0 I 0 0 0 0 0 (.slice none 0 0) 0 0 (.slice none 0 0) (.slice none 0 0) 0 0 0 0 0 0 false false,.val (.int .i64 m)] F (.val (.int .i64 0)):=by
  have gz:=q9p (k:=0) (I:=I) (fx:=0) (fy:=0) (tx:=0) (ty:=0) (r:=0) (A:=none) (n:=0) (q:=0) (W:=0) (H:=0) (B:=none) (pn:=0) (pq:=0) (C:=none) (sn:=0) (sq:=0) (a:=0) (b:=0) (c:=0) (d:=0) (e:=0) (f:=0) (s:=false) (t:=false) (G:=F)
  have gp:=q8m (W:=0) (H:=0) (B:=none) (pn:=0) (pq:=0) (C:=none) (sn:=0) (sq:=0) (a:=0) (b:=0) (c:=0) (d:=0) (e:=0) (f:=0) (s:=false) (t:=false) (G:=F)
  have gw:=z6i (I:=I) (G:=F) hm
  rw [hI] at gw
  rw [show q5n 0 0 0 0 0 0=true from rfl] at gz
  rw [show q1v 0 0 0 0 0 0 0 0 0 0 false false=true from rfl] at gp
  refine q01 tab_ok Tryz.func76 ?_
  (repeat ((try (conv=>whnf));(first |(refine stQ ?_) |(with_reducible first |refine q0e (fun vs w=>by kernel_rfl) (by kernel_rfl) (gz) ?_ |refine q0d (fun vs w=>by kernel_rfl) (by kernel_rfl) (gz) ?_ |refine q0e (fun vs w=>by kernel_rfl) (by kernel_rfl) (gp) ?_ |refine q0d (fun vs w=>by kernel_rfl) (by kernel_rfl) (gp) ?_ |refine q0e (fun vs w=>by kernel_rfl) (by kernel_rfl) (gw) ?_ |refine q0d (fun vs w=>by kernel_rfl) (by kernel_rfl) (gw) ?_))))
  exact ⟨rfl,rfl⟩
theorem v1r (hR:RunsM F A (q6i 1 1)) (hc:16≤c∧c≤maxLen) (h:F b=some (.cells #[.int .i64 0,.int .i64 0,.int .i64 1] 78 (0,0))) {k:Nat} (hk:k<4) {o:Int} :
    Gives Tryz.prog 54 [q7f (spI A c b k),.val (.int .i64 1),.val (.int .i64 o)] F (.val (.int .i64 (q4e (spI A c b k).K (spI A c b k).rn (spI A c b k).nos (spI A c b k).al (spI A c b k).bl (spI A c b k).ov (spI A c b k).iso (spI A c b k).kn o 0 0))):=by
  match k,hk with
  | 0,_ =>
    have h1:=_root_.Go.Proofs.YtkicdhaklnmonaaGreat.Check_gives hR hc.1 hc.2
    exact q4f h1 (q75 ⟨Nat.le_refl 1,by decide⟩ (by rfl))
  | 1,_ =>
    have h1:=_root_.Go.Proofs.YtkicdhaklnmonaaGreat.Check_gives (G:=F) (A:=none) (L:=[]) (c:=0) (fun i r hr=>by simp at hr) (Nat.le_refl _) (Nat.zero_le _)
    exact q4f h1 (q75 ⟨Nat.le_refl 1,by decide⟩ (by rfl))
  | 2,_ =>
    have h1:=_root_.Go.Proofs.YtkicdhaklnmonaaGreat.Check_gives (x7y h) (c:=1) (Nat.le_refl _) (by decide)
    exact q4f h1 (q75 ⟨Nat.le_refl 1,by decide⟩ (by rfl))
  | 3,_ =>
    have h1:=_root_.Go.Proofs.YtkicdhaklnmonaaGreat.Check_gives (G:=F) (A:=none) (L:=[]) (c:=0) (fun i r hr=>by simp at hr) (Nat.le_refl _) (Nat.zero_le _)
    exact q4f h1 (q75 ⟨Nat.le_refl 1,by decide⟩ (by rfl))
theorem x93 (hR:RunsM F A (q6i 1 1)) (hc:16≤c∧c≤maxLen) (h:F b=some (.cells #[.int .i64 0,.int .i64 0,.int .i64 1] 78 (0,0))) (hS:StrM F (some ⟨sb,0,none⟩) 1 spS) (hI:ItemsM F (some ⟨ib,0,none⟩) 4 (spI A c b)) :
    Gives Tryz.prog 41 [q5o 1 1 (some ⟨sb,0,none⟩) 1 1 (some ⟨ib,0,none⟩) 4 4] F (.val (.int .i64 0)):=by
  have:=z02 (W:=1) (H:=1) (iq:=4) (sq:=1) hS hI (Nat.le_refl _) (fun _ x hx o h0 h1=>v1r hR hc h hx) (z9e (I:=spI A c b) (rE:=fun _=>0) (sE:=fun _=>0)) (by omega) (by omega)
  exact this
theorem v1s:q4i (spI A c b) spF spR 4 1 0 0=fun o=>if o=0 then 100 else 0:=by
  unfold q4i
  rw [x33]
  funext o
  by_cases ho:o<1
  · obtain rfl:o=0:=by omega
    simp only [evL,evT,covL,covT,rowI,q0u,spI,spR,spF,Bool.or_false,if_true,if_false]
    kernel_rfl
  · unfold rowI;rw [if_neg ho,if_neg (by omega)]
theorem v1t:q4i (spI A c b) spF spR 4 1 1 0=fun o=>if o=0 then 200 else 0:=by
  unfold q4i
  rw [x33]
  funext o
  by_cases ho:o<1
  · obtain rfl:o=0:=by omega
    simp only [evL,evT,covL,covT,rowI,q0u,spI,spR,spF,Bool.or_false,if_true,if_false]
    kernel_rfl
  · unfold rowI;rw [if_neg ho,if_neg (by omega)]
end
end Go.Proofs.YtkicdhaklnmonaaGreat
namespace Go.Proofs.YtkicdhaklnmonaaGreat
open Go.RowKit
set_option maxRecDepth 20000
end Go.Proofs.YtkicdhaklnmonaaGreat
namespace Go.Proofs.YtkicdhaklnmonaaGreat
open Go.RowKit
set_option maxRecDepth 20000
theorem RunsM.flatA {G:Mem} {A:Option Addr} {L:List Run} (h:RunsM G A L):L=[]∨∃ p,A=some p∧G.cellsAt p (q0r L):=by
  rcases L with _ |⟨r,l⟩
  · exact .inl rfl
  · right
    obtain ⟨b,off,rfl,_⟩:=h 0 r (by simp)
    refine ⟨_,rfl,fun j u hj=>?_⟩
    have hjl:=(List.getElem?_eq_some_iff.1 hj).1
    rw [q1h] at hjl
    obtain ⟨i,k,hk,rfl⟩:∃ i k,k<3∧j=i*3+k:=⟨j/3,j%3,by omega,by omega⟩
    obtain ⟨q,hq⟩:∃ q,(r::l)[i]? = some q:=⟨(r::l)[i]'(by omega),List.getElem?_eq_getElem (by omega)⟩
    obtain ⟨b',off',hA,c0,c1,c2⟩:=h i q hq
    cases hA
    obtain ⟨f0,f1,f2⟩:=q24 hq
    rw [q0m]
    match k,hk with
    | 0,_=>rw [Nat.add_zero,f0] at hj;cases hj;simpa using c0
    | 1,_=>rw [f1] at hj;cases hj;rw [← Nat.add_assoc];exact c1
    | 2,_=>rw [f2] at hj;cases hj;rw [← Nat.add_assoc];exact c2
set_option maxHeartbeats 1000000 in
theorem z3f {A:Option Addr} {L:List Run} {c:Nat} {G:Mem} (h:RunsM G A L) (hl:L.length≤1000000000000) :
    q5k Tryz.prog 40 [.val (.slice A L.length c)] G id 78 3 L.length (q0r L):=by
  refine q5x tab_ok Tryz.func40 (.alone fun _=>rfl) ?_
  have hs:∀ K:Nat→List Value→Prop,K L.length (q0r L)→SrcV G A L.length 3 K:=fun K k=>⟨q0r L,q1h L,fun h0=>by
    rcases h.flatA with h1 |h1
    · rw [h1] at h0;exact absurd rfl h0
    · exact h1,z1s,k⟩
  have hb:L.length*24≤140737488355328:=by omega
  cases A with
  | none =>
    have h0:L=[]:=by
      rcases h.flatA with h1 |⟨p,h1,_⟩
      · exact h1
      · cases h1
    subst h0
    (repeat ((try (conv=>whnf));(first |(refine q77 (show Option.isNone (none:Option Addr)=true from rfl) ?_) |(refine stQ ?_))))
    exact .inr (.inl ⟨rfl,rfl,rfl⟩)
  | some p =>
    (repeat ((try (conv=>whnf));(first |(refine q1l (show Option.isNone (some p)=false from rfl) ?_) |(refine hs _ ?_) |(refine stQ ?_))))
    exact .inl ⟨1,rfl,rfl⟩
end Go.Proofs.YtkicdhaklnmonaaGreat
