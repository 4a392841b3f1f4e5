/-
  Merged: XLists, XCut, XTiny, XListH, XLendL, XBrack2, XBrack3.
-/
import Derived.Test.YticolnghiibgfaaGreatMrg33
import Derived.Test.YticolnghiibgfaaGreatMrg31
import Derived.Test.YticolnghiibgfaaGreatMrg14
import Derived.Test.YticolnghiibgfaaGreatMrg21
import Derived.Test.YticolnghiibgfaaGreatMrg34
import Derived.Test.YticolnghiibgfaaGreatMrg18
set_option linter.unusedVariables false
set_option linter.unusedSimpArgs false
set_option linter.unnecessarySimpa false
namespace Go.Proofs.YticolnghiibgfaaGreat
open Go.RowKit Go.Deep Go.Proofs.YticolnghiibgfaaGreat.gradientRamps Go.Proofs.YticolnghiibgfaaGreat.gradientPlaces Go.Proofs.YticolnghiibgfaaGreat.imageCells
set_option maxRecDepth 20000
def spF (k:Nat):SrcF:=fun _ _=>(fun j=>if j=0 then (if k=0 then 200 else 100) else 0,255)
def spR (k:Nat):List Run:=if k=0 then q5t 1 1 else [⟨0,0,1⟩]
def spS:Nat→ByteArray:=fun _=>⟨#[98,108,97,99,107]⟩
section
variable {F:Mem} {A:Option Addr} {c b sb ib:Nat}
theorem x8r (h:F ib=some (.cells ((spI A c b 0).cells++(spI A c b 1).cells++(spI A c b 2).cells++(spI A c b 3).cells).toArray 56 (0,0))):ItemsM F (some ⟨ib,0,none⟩) 4 (spI A c b):=fun x hx=>by
  refine ⟨_,rfl,fun K hK=>?_⟩
  match x,hx with
  | 0,_=>exact q28 h (by rfl) (by rfl) (by rfl) hK
  | 1,_=>exact q28 h (by rfl) (by rfl) (by rfl) hK
  | 2,_=>exact q28 h (by rfl) (by rfl) (by rfl) hK
  | 3,_=>exact q28 h (by rfl) (by rfl) (by rfl) hK
theorem v0j (h:F sb=some (.cells #[.string ⟨#[98,108,97,99,107]⟩] 9 (0,0))):StrM F (some ⟨sb,0,none⟩) 1 spS:=fun x hx=>by
  refine ⟨_,rfl,fun K hK=>?_⟩
  match x,hx with
  | 0,_=>exact q28 (vs:=[.string ⟨#[98,108,97,99,107]⟩]) h (by rfl) (by rfl) (by rfl) hK
theorem x6v (h:F b=some (.cells #[.int .i64 0,.int .i64 0,.int .i64 1] 87 (0,0))):RunsM F (some ⟨b,0,none⟩) [⟨0,0,1⟩]:=by
  refine z55 fun j u hj=>?_
  unfold Mem.cell?
  simp only [h]
  simpa [q2i] using hj
theorem x8s:ValidL (q5t 1 1):=q9i (by decide +kernel)
theorem v1f:ValidL [⟨0,0,1⟩]:=q9i (by decide +kernel)
theorem v1g (hR:RunsM F A (q5t 1 1)) (h:F b=some (.cells #[.int .i64 0,.int .i64 0,.int .i64 1] 87 (0,0))) {k:Nat} (hk:k<4) (h0:(spI A c b k).K=0):RegOk F (spI A c b) spR k:=by
  match k,hk with
  | 0,_=>exact ⟨hR,by rfl,x8s⟩
  | 1,_=>exact absurd h0 (by simp [spI])
  | 2,_=>exact ⟨x6v h,by rfl,v1f⟩
  | 3,_=>exact absurd h0 (by simp [spI])
theorem v1s (hR:RunsM F A (q5t 1 1)) (h:F b=some (.cells #[.int .i64 0,.int .i64 0,.int .i64 1] 87 (0,0))):LOk F (spI A c b) spF spR 4:=by
  refine ⟨fun k hk h0=>?_,fun k hk h0=>v1g hR h hk h0,fun k hk h0=>?_,fun k hk h1=>?_,fun k hk h0 h1=>?_,by rfl⟩
  · match k,hk with
    | 0,_=>exact q68
    | 1,_=>exact absurd h0 (by simp [spI])
    | 2,_=>exact q68
    | 3,_=>exact absurd h0 (by simp [spI])
  · have key:∀ k:Nat,∀ x y:Int,z0q (spF k x y).1∧0≤(spF k x y).2∧(spF k x y).2≤255:=fun k x y=>by
      refine ⟨fun j hj=>?_,show (0:Int)≤255 by omega,Int.le_refl _⟩
      show 0≤(if j=0 then (if k=0 then (200:Int) else 100) else 0)∧(if j=0 then (if k=0 then (200:Int) else 100) else 0)≤255
      split
      · split <;> omega
      · omega
    match k,hk with
    | 0,_=>exact ⟨show (0:Int)≤255∧(255:Int)≤255 by omega,show (0:Int)≤0∧(0:Int)≤11 by omega,fun x y _ _=>key 0 x y⟩
    | 1,_=>exact absurd h0 (by simp [spI])
    | 2,_=>exact ⟨show (0:Int)≤255∧(255:Int)≤255 by omega,show (0:Int)≤0∧(0:Int)≤11 by omega,fun x y _ _=>key 2 x y⟩
    | 3,_=>exact absurd h0 (by simp [spI])
  · match k,hk with
    | 0,_=>exact absurd h1 (by simp [spI])
    | 1,_=>exact ⟨show (0:Int)≤255∧(255:Int)≤255 by omega,show (0:Int)≤0∧(0:Int)≤11 by omega⟩
    | 2,_=>exact absurd h1 (by simp [spI])
    | 3,_=>exact absurd h1 (by simp [spI])
  · match k,hk with
    | 0,_=>exact absurd rfl h0
    | 1,_=>exact absurd rfl h1
    | 2,_=>exact absurd rfl h0
    | 3,_=>exact Nat.le_refl 2
theorem x2u:q94 (spI A c b) 4=[.fill 0,.group 1 [.fill 2]]:=by rfl
set_option maxHeartbeats 4000000 in
theorem q7l {I:Nat→Int} {m:Nat} (hm:1≤m∧m≤8) (hI:fewB I m=true):Gives Tryz.prog 76 [srcA 0 I 0 0 0 0 0 (.slice none 0 0) 0 0 (.slice none 0 0) (.slice none 0 0) 0 0 0 0 0 0 false false,.val (.int .i64 m)] F (.val (.int .i64 0)):=by
  have gz:=q88 (k:=0) (I:=I) (fx:=0) (fy:=0) (tx:=0) (ty:=0) (r:=0) (A:=none) (n:=0) (q:=0) (W:=0) (H:=0) (B:=none) (pn:=0) (pq:=0) (C:=none) (sn:=0) (sq:=0) (a:=0) (b:=0) (c:=0) (d:=0) (e:=0) (f:=0) (s:=false) (t:=false) (G:=F)
  have gp:=q76 (W:=0) (H:=0) (B:=none) (pn:=0) (pq:=0) (C:=none) (sn:=0) (sq:=0) (a:=0) (b:=0) (c:=0) (d:=0) (e:=0) (f:=0) (s:=false) (t:=false) (G:=F)
  have gw:=q6s (I:=I) (G:=F) hm
  rw [hI] at gw
  rw [show q26 0 0 0 0 0 0=true from rfl] at gz
  rw [show q1f 0 0 0 0 0 0 0 0 0 0 false false=true from rfl] at gp
  refine q0v tab_ok Tryz.func76 ?_
  (repeat ((try (conv=>whnf));(first |(refine stQ ?_) |(with_reducible first |refine q0b (fun vs w=>by kernel_rfl) (by kernel_rfl) (gz) ?_ |refine q0a (fun vs w=>by kernel_rfl) (by kernel_rfl) (gz) ?_ |refine q0b (fun vs w=>by kernel_rfl) (by kernel_rfl) (gp) ?_ |refine q0a (fun vs w=>by kernel_rfl) (by kernel_rfl) (gp) ?_ |refine q0b (fun vs w=>by kernel_rfl) (by kernel_rfl) (gw) ?_ |refine q0a (fun vs w=>by kernel_rfl) (by kernel_rfl) (gw) ?_))))
  exact ⟨rfl,rfl⟩
theorem v0k (hR:RunsM F A (q5t 1 1)) (hc:16≤c∧c≤maxLen) (h:F b=some (.cells #[.int .i64 0,.int .i64 0,.int .i64 1] 87 (0,0))) {k:Nat} (hk:k<4) {o:Int} :
    Gives Tryz.prog 52 [q3x (spI A c b k),.val (.int .i64 1),.val (.int .i64 o)] F (.val (.int .i64 (q2g (spI A c b k).K (spI A c b k).rn (spI A c b k).nos (spI A c b k).al (spI A c b k).bl (spI A c b k).ov (spI A c b k).iso (spI A c b k).kn o 0 0))):=by
  match k,hk with
  | 0,_ =>
    have h1:=_root_.Go.Proofs.YticolnghiibgfaaGreat.Check_gives hR hc.1 hc.2
    exact q4b h1 (q7l ⟨Nat.le_refl 1,by decide⟩ (by rfl))
  | 1,_ =>
    have h1:=_root_.Go.Proofs.YticolnghiibgfaaGreat.Check_gives (G:=F) (A:=none) (L:=[]) (c:=0) (fun i r hr=>by simp at hr) (Nat.le_refl _) (Nat.zero_le _)
    exact q4b h1 (q7l ⟨Nat.le_refl 1,by decide⟩ (by rfl))
  | 2,_ =>
    have h1:=_root_.Go.Proofs.YticolnghiibgfaaGreat.Check_gives (x6v h) (c:=1) (Nat.le_refl _) (by decide)
    exact q4b h1 (q7l ⟨Nat.le_refl 1,by decide⟩ (by rfl))
  | 3,_ =>
    have h1:=_root_.Go.Proofs.YticolnghiibgfaaGreat.Check_gives (G:=F) (A:=none) (L:=[]) (c:=0) (fun i r hr=>by simp at hr) (Nat.le_refl _) (Nat.zero_le _)
    exact q4b h1 (q7l ⟨Nat.le_refl 1,by decide⟩ (by rfl))
theorem x8t (hR:RunsM F A (q5t 1 1)) (hc:16≤c∧c≤maxLen) (h:F b=some (.cells #[.int .i64 0,.int .i64 0,.int .i64 1] 87 (0,0))) (hS:StrM F (some ⟨sb,0,none⟩) 1 spS) (hI:ItemsM F (some ⟨ib,0,none⟩) 4 (spI A c b)) :
    Gives Tryz.prog 33 [q2h 1 1 (some ⟨sb,0,none⟩) 1 1 (some ⟨ib,0,none⟩) 4 4] F (.val (.int .i64 0)):=by
  have:=q69 (W:=1) (H:=1) (iq:=4) (sq:=1) hS hI (Nat.le_refl _) (fun _ x hx o h0 h1=>v0k hR hc h hx) (z21 (I:=spI A c b) (rE:=fun _=>0) (sE:=fun _=>0)) (by omega) (by omega)
  exact this
theorem v0l:z1n (spI A c b) spF spR 4 1 0 0=fun o=>if o=0 then 100 else 0:=by
  unfold z1n
  rw [x2u]
  funext o
  by_cases ho:o<1
  · obtain rfl:o=0:=by omega
    simp only [evL,evT,covL,covT,rowI,q0q,spI,spR,spF,Bool.or_false,if_true,if_false]
    kernel_rfl
  · unfold rowI;rw [if_neg ho,if_neg (by omega)]
theorem v0m:z1n (spI A c b) spF spR 4 1 1 0=fun o=>if o=0 then 200 else 0:=by
  unfold z1n
  rw [x2u]
  funext o
  by_cases ho:o<1
  · obtain rfl:o=0:=by omega
    simp only [evL,evT,covL,covT,rowI,q0q,spI,spR,spF,Bool.or_false,if_true,if_false]
    kernel_rfl
  · unfold rowI;rw [if_neg ho,if_neg (by omega)]
end
set_option maxHeartbeats 8000000 in
theorem x1v {G:Mem}:Gives Tryz.prog 9 [] G (.val (.bool true)):=by
  refine q0v tab_ok Tryz.func9 ?_
  have key:∀ (x:Int),x=0∨x=1→∀ (F:Mem) (A:Option Addr) (c b sb ib:Nat),RunsM F A (q5t 1 1)→16≤c→c≤maxLen →
    F sb=some (.cells #[.string ⟨#[98,108,97,99,107]⟩] 9 (0,0))→F b=some (.cells #[.int .i64 0,.int .i64 0,.int .i64 1] 87 (0,0))→F ib=some (.cells ((spI A c b 0).cells++(spI A c b 1).cells++(spI A c b 2).cells++(spI A c b 3).cells).toArray 56 (0,0)) →
    Gives Tryz.prog 10 [q2h 1 1 (some ⟨sb,0,none⟩) 1 1 (some ⟨ib,0,none⟩) 4 4,.val (.int .i64 x),.val (.int .i64 0)] F (.tup [inA (fun o=>if o=0 then (if x=0 then 100 else 200) else 0),.val (.int .i64 0)]):=by
    intro x hx F A c b sb ib hR h1 h2 h3 h4 h5
    have hI:=x8r h5
    have r:=v1b (x:=x) (y:=0) (x8t hR ⟨h1,h2⟩ h4 (v0j h3) hI) hI (by omega) (by omega) (by omega) (by omega) (v1s hR h4) (by omega) (by omega)
    rcases hx with rfl |rfl
    · rw [v0l] at r;exact r
    · rw [v0m] at r;exact r
  (repeat ((try (conv=>whnf));(refine stQ ?_)))
  conv=>whnf
  refine q9b (fun vs w=>by kernel_rfl) (by rfl) z0t ?_
  rintro v F hF ⟨A,c,b,sb,ib,rfl,q1,q2,q3,q4,q5,q6⟩
  have k0:=key 0 (.inl rfl) F A c b sb ib q1 q2 q3 q4 q5 q6
  (repeat ((try (conv=>whnf));(first |((refine q9y [.int .i64 1,.int .i64 1,.slice (some ⟨sb,0,none⟩) 1 1,.slice (some ⟨ib,0,none⟩) 4 4] ?_);(dsimp only [List.map])) |(refine stQ ?_) |(with_reducible first |refine q0b (fun vs w=>by kernel_rfl) (by kernel_rfl) (k0) ?_ |refine q0a (fun vs w=>by kernel_rfl) (by kernel_rfl) (k0) ?_))))
  conv=>whnf
  refine q9b (fun vs w=>by kernel_rfl) (by rfl) z0t ?_
  rintro v F hF ⟨A,c,b,sb,ib,rfl,q1,q2,q3,q4,q5,q6⟩
  have k1:=key 1 (.inr rfl) F A c b sb ib q1 q2 q3 q4 q5 q6
  (repeat ((try (conv=>whnf));(first |((refine q9y [.int .i64 1,.int .i64 1,.slice (some ⟨sb,0,none⟩) 1 1,.slice (some ⟨ib,0,none⟩) 4 4] ?_);(dsimp only [List.map])) |(refine stQ ?_) |(with_reducible first |refine q0b (fun vs w=>by kernel_rfl) (by kernel_rfl) (k1) ?_ |refine q0a (fun vs w=>by kernel_rfl) (by kernel_rfl) (k1) ?_))))
  conv=>whnf
  exact ⟨rfl,rfl⟩
end Go.Proofs.YticolnghiibgfaaGreat
namespace Go.Proofs.YticolnghiibgfaaGreat
open Go.RowKit
set_option maxRecDepth 20000
end Go.Proofs.YticolnghiibgfaaGreat
namespace Go.Proofs.YticolnghiibgfaaGreat
open Go.RowKit
set_option maxRecDepth 20000
theorem SliceG.less {P:Program} {w:World} {e:TypeId} {A:Option Addr} {n m:Nat} {g:Nat→Nat→Value} (h:SliceG P w e A n g) (hm:m≤n):SliceG P w e A m g:=fun h0=>by
  obtain ⟨b,off,h1,h2,h3⟩:=h (by omega)
  exact ⟨b,off,h1,h2,fun x hx=>h3 x (by omega)⟩
theorem cutA {c k:Nat} {A:Option Addr}:(if c=((0:Nat):Int).toNat then A else A.map (·.add (((0:Nat):Int).toNat * k)))=A:=by
  split
  · rfl
  · cases A with
    | none=>rfl
    | some a=>simp [Addr.add]
end Go.Proofs.YticolnghiibgfaaGreat
namespace Go.Proofs.YticolnghiibgfaaGreat
open Go.RowKit Go.Deep
set_option maxRecDepth 20000
theorem q1z {G:Mem}:Gives Tryz.prog 21 [q8v] G (.val (.bool true)):=by
  refine q0v tab_ok Tryz.func21 ?_
  (repeat ((try (conv=>whnf));(refine stQ ?_)))
  exact ⟨rfl,rfl⟩
set_option maxHeartbeats 4000000 in
theorem z0u {G:Mem} {i j:ItemD} (h:SameI i j):Gives Tryz.prog 22 [q3x j,q3x i] G (.val (.bool true)):=by
  obtain ⟨K,RA,rn,rq,k,I,fx,fy,tx,ty,r,A,n,q,W,H,B,pn,pq,C,sn,sq,a,b,c,d,e,f,s,t,al,bl,ov,iso,kn⟩:=i
  obtain ⟨K',RA',rn',rq',k',I',fx',fy',tx',ty',r',A',n',q',W',H',B',pn',pq',C',sn',sq',a',b',c',d',e',f',s',t',al',bl',ov',iso',kn'⟩:=j
  obtain ⟨h1,h2,h3,h4,h5,h6⟩:=h
  dsimp only at h1 h2 h3 h4 h5 h6
  subst h1;subst h2;subst h3;subst h4;subst h5;subst h6
  refine q0v tab_ok Tryz.func22 ?_
  simp only [q3x]
  cases ov' <;> cases iso' <;> cases kn' <;> ((repeat ((try (conv=>whnf));(first |(with_reducible refine q9t (by kernel_rfl) ?_) |(refine stQ ?_))))) <;> exact ⟨rfl,rfl⟩
structure LisD where
  I:Nat→ItemD
  gr:Nat→Nat→Nat→Value
  gs:Nat→Nat→Nat→Value
  gp:Nat→Nat→Nat→Value
  gf:Nat→Nat→Nat→Value
  sE:Nat→Int
  f:Nat→SrcF
def LisD.R (d:LisD) (x:Nat):List Run:=q2f (fun j=>⟨valI (d.gr x j 0),valI (d.gr x j 1),valI (d.gr x j 2)⟩) (d.I x).rn
def LisD.p (d:LisD) (x:Nat):Int × Int:=(errL (d.R x),d.sE x)
structure LisM (G:Mem) (B:Option Addr) (n m:Nat) (d:LisD):Prop where
  items:ItemsM G B n d.I
  adr:0<n→∀ p,B=some p→∃ b off,p=⟨b,off,none⟩
  item:∀ x,x<n→ItemG G (d.I x) (d.gr x) (d.gs x) (d.gp x) (d.gf x)
  src:(1≤m∧m≤8)→∀ x,x<n→∀ (G':Mem) (A:Option Addr) (q:Nat) (B:Option Addr) (pq:Nat) (C:Option Addr) (sq:Nat),SrcG G' (setS (d.I x) A q B pq C sq) (d.gs x) (d.gp x) (d.gf x)→SrcE G' (setS (d.I x) A q B pq C sq) m (d.sE x) (d.f x)
  bd:(1≤m∧m≤8)→∀ x,x<n→d.sE x=0→(d.I x).n≤1000000000∧(d.I x).pn≤1000000000∧(d.I x).sn≤1000000000
theorem v1t {w:World} {B:Option Addr} {n:Nat} {gi:Nat→Nat→Value} (h:SliceG Tryz.prog w 56 B n gi) (m:Nat):∃ d,LisM (q16 w) B n m d∧d.I=fun x=>q2z (gi x):=by
  have key:∀ x,x<n→∃ q:(Nat→Nat→Value) × (Nat→Nat→Value) × (Nat→Nat→Value) × (Nat→Nat→Value) × Int × SrcF,ItemG (q16 w) (q2z (gi x)) q.1 q.2.1 q.2.2.1 q.2.2.2.1 ∧
      ((1≤m∧m≤8)→(q.2.2.2.2.1=0→(q2z (gi x)).n≤1000000000∧(q2z (gi x)).pn≤1000000000∧(q2z (gi x)).sn≤1000000000)∧∀ (G':Mem) (A:Option Addr) (q':Nat) (B:Option Addr) (pq:Nat) (C:Option Addr) (sq:Nat),SrcG G' (setS (q2z (gi x)) A q' B pq C sq) q.2.1 q.2.2.1 q.2.2.2.1→SrcE G' (setS (q2z (gi x)) A q' B pq C sq) m q.2.2.2.2.1 q.2.2.2.2.2):=fun x hx=>by
    obtain ⟨gr,gs,gp,gf,hI⟩:=x6o h hx
    by_cases hm:1≤m∧m≤8
    · obtain ⟨sE,fi,hbd,hs⟩:=x9e (i:=q2z (gi x)) (m:=m) hm ⟨q16 w,(q2z (gi x)).A,(q2z (gi x)).q,(q2z (gi x)).B,(q2z (gi x)).pq,(q2z (gi x)).C,(q2z (gi x)).sq,hI.src⟩
      exact ⟨(gr,gs,gp,gf,sE,fi),hI,fun _=>⟨hbd,hs⟩⟩
    · exact ⟨(gr,gs,gp,gf,0,fun _ _=>(fun _=>0,0)),hI,fun h=>absurd h hm⟩
  obtain ⟨q,hq⟩:=choose_lt key
  refine ⟨⟨fun x=>q2z (gi x),fun x=>(q x).1,fun x=>(q x).2.1,fun x=>(q x).2.2.1,fun x=>(q x).2.2.2.1,fun x=>(q x).2.2.2.2.1,fun x=>(q x).2.2.2.2.2⟩,⟨x96 h,fun e p hp=>?_,fun x hx=>(hq x hx).1,fun hm x hx=>((hq x hx).2 hm).2,fun hm x hx=>((hq x hx).2 hm).1⟩,rfl⟩
  obtain ⟨b,off,hA,_⟩:=h e
  rw [hp] at hA;cases hA
  exact ⟨b,off,rfl⟩
section
variable {G:Mem} {B:Option Addr} {n m:Nat} {d:LisD}
theorem LisM.ite (h:LisM G B n m d) (hm:1≤m∧m≤8) {x:Nat} (hx:x<n):ItE G (d.I x) m (d.p x) (d.R x) (d.f x):=by
  have hi:=h.item x hx
  exact ⟨x4f (z3p hi.run.2.2) (q49 _ _).symm hi.run.1 hi.run.2.1,h.src hm x hx G _ _ _ _ _ _ hi.src,hi.al⟩
theorem x6w {i:ItemD} {gr gs gp gf:Nat→Nat→Value} {G:Mem} {m:Nat} {o rE sE:Int} (h:q2g i.K i.rn i.nos i.al i.bl i.ov i.iso i.kn o rE sE=0) (hr:rE=0→i.rn≤1000000000) (hs:i.K=0→sE=0→i.n≤1000000000∧i.pn≤1000000000∧i.sn≤1000000000):i.rn≤1000000000∧i.n≤1000000000∧i.pn≤1000000000∧i.sn≤1000000000:=by
  obtain ⟨hK,_,_,_,h0⟩:=z4r h
  by_cases k0:i.K=0
  · obtain ⟨e1,e2⟩:=h0 k0
    exact ⟨hr e1,hs k0 e2⟩
  · have hn:i.rn=0∧i.nos=true:=by
      unfold q2g at h
      split at h
      · omega
      split at h
      · omega
      · rename_i g1 g2
        rcases hK.resolve_left k0 with k1 |k2
        · have:¬ (0<i.rn∨i.ov=true∨i.nos=false):=fun hc=>g2 (.inr (.inl ⟨k1,hc⟩))
          simp at this
          exact ⟨by omega,this.2.2⟩
        · have:¬ (0<i.rn∨i.ov=true∨i.nos=false∨i.iso=true∨i.kn=true∨¬ i.al=0∨¬ i.bl=0):=fun hc=>g2 (.inr (.inr ⟨k2,hc⟩))
          simp at this
          exact ⟨by omega,this.2.2.1⟩
    have h3:=hn.2
    unfold ItemD.nos nosB q26 q1f at h3
    simp at h3
    omega
theorem z58 {L:List Run} (v:ValidL L):L.length≤1000000000:=by
  have:=v.length
  omega
theorem LisM.rows (h:LisM G B n m d) (hm:1≤m∧m≤8) {W H:Int} {S:Nat→ByteArray} (he:lisE W H m S n d.I d.p=0):∀ x,x<n→(d.I x).rn≤1000000000∧(d.I x).n≤1000000000∧(d.I x).pn≤1000000000∧(d.I x).sn≤1000000000:=fun x hx =>
  x6w (gr:=d.gr x) (gs:=d.gs x) (gp:=d.gp x) (gf:=d.gf x) (G:=G) (m:=m) (z4s he x hx) (fun e=>by
    have:=z58 (q9i e)
    unfold LisD.R at this
    rw [q49] at this
    exact this) fun _ e=>h.bd hm x hx e
theorem LisM.mono {G':Mem} (h:LisM G B n m d) (hG:G.le G'):LisM G' B n m d:=⟨h.items.mono hG,h.adr,fun x hx=>(h.item x hx).mono hG,h.src,h.bd⟩
theorem LisM.less {k:Nat} (h:LisM G B n m d) (hk:k≤n):LisM G B k m d :=
  ⟨fun x hx=>h.items x (by omega),fun h0 p hp=>h.adr (by omega) p hp,fun x hx=>h.item x (by omega),fun hm x hx=>h.src hm x (by omega),fun hm x hx=>h.bd hm x (by omega)⟩
theorem x2v {A:Option Addr} {g:Nat→Nat→Value} (h:SliceM Tryz.prog G 9 A n g):StrM G A n (fun x=>valS (g x 0)):=by
  have e1:Tryz.prog.cellsOf 9=1:=by kernel_rfl
  have ef:flat Tryz.prog 20 9=[.string]:=by kernel_rfl
  intro x hx
  obtain ⟨⟨w0,A0,h0⟩,h1⟩:=h
  obtain ⟨s,hs,_⟩:=h0.seen (j:=0) (by kernel_rfl) hx (by rw [ef];rfl)
  obtain ⟨b,off,rfl,hc⟩:=h1 (by omega)
  rw [e1] at hc
  refine ⟨⟨b,off,none⟩,rfl,fun K k=>?_⟩
  refine q03 _ rfl (fun j u hj=>?_) k
  rw [q0j,q0j]
  match j,hj with
  | 0,hj =>
    simp at hj
    rw [← hj,hc x hx 0 (by omega),hs]
    rfl
end
end Go.Proofs.YticolnghiibgfaaGreat
namespace Go.Proofs.YticolnghiibgfaaGreat
open Go.RowKit
theorem q7m {P:Program} {f:FuncId} (hen:∀ vs w,(callFunc f vs).run P w=.ok (.enter f vs) w) {k:Nat} {pre:List Value} {l:List AV} {hp:List Blk} {G:Mem} {K:AV→List Blk→Mem→Prop} {E:TypeId} {sz n:Nat} {xs:List Value} {v:AV} (hl:l=pre.map .val++[.own k]) (hk:nthB hp k=.own E sz n xs)
    (hc:∀ A cap G',G.le G'→n≤cap→cap≤maxLen→FlatM G' A xs→Gives P f [.agg ((pre++[Value.slice A n cap]).map .val)] G' v) (h:K v hp G):CallP P f [.agg l] hp G K:=by
  subst hl
  refine ⟨hen,fun w0 G0 β w vs hr ha=>?_⟩
  simp only [AV.rels,AV.rel] at ha
  obtain ⟨v1,ts1,hvs,⟨cs,rfl,hcs⟩,rfl⟩:=ha
  obtain ⟨zs,y,h1,h2,hv⟩:=q54 hcs
  have hz:=q07 h2
  simp only [AV.rel] at hv
  obtain ⟨x,hx1,hx2⟩:=hr.blk k y hv.1
  have hkx:=q0s hk rfl
  rw [hkx] at hx1;cases hx1
  obtain ⟨⟨hlen,hown⟩,hfree⟩:=hx2
  have fin:∀ A cap G',G'.holds w→y=.slice A n cap→Gives P f [.agg ((pre++[Value.slice A n cap]).map .val)] G' v→Calls P f vs w fun e w'=>∃ (y:Value) (β':Nm) (v:AV) (hp':List Blk) (G':Mem),e=.returned y∧β.le β'∧HR w0 G0 β' hp' G' w'∧v.rel β' y∧K v hp' G':=fun A cap G' hG' hy hg=>by
    refine (hg w vs hG' ?_).mono ?_
    · simp only [AV.rels,AV.rel]
      refine ⟨_,[],hvs,⟨cs,rfl,?_⟩,rfl⟩
      rw [h1,hz,hy]
      exact AV.rels_vals (pre++[Value.slice A n cap])
    · rintro e w' ⟨z,rfl,h2,h3⟩
      exact ⟨z,β,v,hp,G,rfl,Nm.le_refl _,hr.step h3,AV.rel_mono (q3m β) _ _ h2,h⟩
  rcases hown with ⟨rfl,h5⟩ |⟨g,cap,cur,rfl,h5,h6,h7,h8,h9,h10⟩
  · refine fin none 0 G hr.hold (by rw [h5]) (hc none 0 G (Mem.le_refl _) (by omega) (Nat.zero_le _) (.inl ⟨rfl,by rw [h5] at hlen;simpa using hlen⟩))
  · have hcell:∀ (j:Nat) u,xs[j]? = some u→(G.and w g).cell? ⟨g,0+j,none⟩=some u:=fun j u hj=>by
      have h11:(G.and w g) g=some (.cells cur E (0,0)):=by simp [Mem.and,h6]
      unfold Mem.cell?
      rw [Nat.zero_add,h11]
      rw [← h10] at hj
      rw [List.getElem?_take] at hj
      split at hj
      · simpa using hj
      · cases hj
    exact fin (some ⟨g,0,none⟩) cap (G.and w g) (Mem.and_holds hr.hold g) rfl (hc (some ⟨g,0,none⟩) cap (G.and w g) (Mem.le_and hr.hold g) h7 h8 (.inr ⟨g,0,rfl,hcell⟩))
end Go.Proofs.YticolnghiibgfaaGreat
namespace Go.Proofs.YticolnghiibgfaaGreat
open Go.RowKit Go.Deep
set_option maxRecDepth 20000
def brX {α:Type} (f:Nat→α) (i j:Nat) (a e:α) (x:Nat):α:=if x<i then f x else if x=i then a else if x≤j then f (x-1) else if x=j+1 then e else f (x-2)
theorem z59 {α β:Type} {P:α→β→Prop} {f:Nat→α} {h:Nat→β} {a e:α} {b c:β} {i j n:Nat} (hij:i≤j) (hj:j≤n) (h1:∀ x,x<n→P (f x) (h x)) (h2:P a b) (h3:P e c):∀ x,x<n+2→P (brX f i j a e x) (brX h i j b c x):=fun x hx=>by
  unfold brX
  split
  · exact h1 x (by omega)
  split
  · exact h2
  split
  · exact h1 _ (by omega)
  split
  · exact h3
  · exact h1 _ (by omega)
theorem q9j {I:Nat→ItemD} {i j:Nat} {g:ItemD}:brI I i j g=brX I i j g endI:=rfl
theorem z36 {e e':Nat→Int}:∀ {n:Nat},(∀ x,x<n→e' x=e x)→q1u e' n=q1u e n
  | 0,_=>rfl
  | n+1,h=>by rw [q1u,q1u,z36 (n:=n) fun x hx=>h x (by omega),h n (by omega)]
theorem x4j {W H:Int} {m n:Nat} {S:Nat→ByteArray} {I J:Nat→ItemD} {p:Nat→Int × Int} (h:∀ x,x<n→SameI (I x) (J x)∧(J x).rn=(I x).rn∧(J x).nos=(I x).nos):lisE W H m S n J p=lisE W H m S n I p:=by
  have hK:∀ x,x<n→(J x).K=(I x).K:=fun x hx=>(h x hx).1.K
  have hd:=z22 (K:=fun x=>(J x).K) (K':=fun x=>(I x).K) (n:=n) hK
  unfold lisE q3f
  rw [hd n (Nat.le_refl _),z36 (n:=n) fun x hx=>?_]
  dsimp only
  obtain ⟨⟨e1,e2,e3,e4,e5,e6⟩,e7,e8⟩:=h x hx
  rw [hd x (by omega),e1,e2,e3,e4,e5,e6,e7,e8]
theorem x6x {G:Mem} {i:ItemD} {gr gs gp gf:Nat→Nat→Value} {m:Nat} (hm:1≤m∧m≤8) (h:ItemG G i gr gs gp gf):∃ p fi,∀ G',G.le G'→ItE G' i m p (q2f (fun x=>⟨valI (gr x 0),valI (gr x 1),valI (gr x 2)⟩) i.rn) fi:=by
  obtain ⟨sE,fi,_,hs⟩:=x9e (i:=i) (m:=m) hm ⟨G,i.A,i.q,i.B,i.pq,i.C,i.sq,h.src⟩
  exact ⟨(errL (q2f (fun x=>⟨valI (gr x 0),valI (gr x 1),valI (gr x 2)⟩) i.rn),sE),fi,fun G' hG=>⟨x4f (z3p (h.mono hG).run.2.2) (q49 _ _).symm h.run.1 h.run.2.1,hs G' i.A i.q i.B i.pq i.C i.sq (h.src.mono hG),h.al⟩⟩
section
variable {G:Mem} {W H er:Int} {SA IA:Option Addr} {m sq n iq:Nat} {i j:Int} {g:ItemD}
theorem x1w (hC:Gives Tryz.prog 33 [q2h W H SA m sq IA n iq] G (.val (.int .i64 er))) (he:er≠0) :
    Gives Tryz.prog 20 [q2h W H SA m sq IA n iq,.val (.int .i64 i),.val (.int .i64 j),q3x g] G (.tup [q8v,.val (.int .i64 er)]):=by
  refine q0v tab_ok Tryz.func20 ?_
  (repeat ((try (conv=>whnf));(first |(refine stQ ?_) |(with_reducible first |refine q0b (fun vs w=>by kernel_rfl) (by kernel_rfl) (hC) ?_ |refine q0a (fun vs w=>by kernel_rfl) (by kernel_rfl) (hC) ?_))))
  exact ⟨rfl,rfl⟩
theorem x1x (hC:Gives Tryz.prog 33 [q2h W H SA m sq IA n iq] G (.val (.int .i64 0))) (hn:n≤1000000000) (h:i<0∨i > j∨j > n) :
    Gives Tryz.prog 20 [q2h W H SA m sq IA n iq,.val (.int .i64 i),.val (.int .i64 j),q3x g] G (.tup [q8v,.val (.int .i64 3)]):=by
  refine q0v tab_ok Tryz.func20 ?_
  by_cases h1:i<0
  · (repeat ((try (conv=>whnf));(first |(refine stQ ?_) |(with_reducible first |refine q0b (fun vs w=>by kernel_rfl) (by kernel_rfl) (hC) ?_ |refine q0a (fun vs w=>by kernel_rfl) (by kernel_rfl) (hC) ?_))))
    exact ⟨rfl,rfl⟩
  · by_cases h2:i > j
    · (repeat ((try (conv=>whnf));(first |(refine stQ ?_) |(with_reducible first |refine q0b (fun vs w=>by kernel_rfl) (by kernel_rfl) (hC) ?_ |refine q0a (fun vs w=>by kernel_rfl) (by kernel_rfl) (hC) ?_))))
      exact ⟨rfl,rfl⟩
    · have h3:j > n:=by omega
      (repeat ((try (conv=>whnf));(first |(refine stQ ?_) |(with_reducible first |refine q0b (fun vs w=>by kernel_rfl) (by kernel_rfl) (hC) ?_ |refine q0a (fun vs w=>by kernel_rfl) (by kernel_rfl) (hC) ?_))))
      exact ⟨rfl,rfl⟩
theorem x01 (hC:Gives Tryz.prog 33 [q2h W H SA m sq IA n iq] G (.val (.int .i64 0))) (h0:0≤i) (h1:i≤j) (h2:j≤n) (hg:g.K≠1) :
    Gives Tryz.prog 20 [q2h W H SA m sq IA n iq,.val (.int .i64 i),.val (.int .i64 j),q3x g] G (.tup [q8v,.val (.int .i64 14)]):=by
  refine q0v tab_ok Tryz.func20 ?_
  (repeat ((try (conv=>whnf));(first |(refine stQ ?_) |(with_reducible first |refine q0b (fun vs w=>by kernel_rfl) (by kernel_rfl) (hC) ?_ |refine q0a (fun vs w=>by kernel_rfl) (by kernel_rfl) (hC) ?_))))
  exact ⟨rfl,rfl⟩
end
section
variable {G:Mem} {W H:Int} {A B:Option Addr} {m sq n iq i j:Nat} {S:Nat→Nat→Value} {d:LisD} {g:ItemD} {pg pe:Int × Int} {Rg Re:List Run} {fg fe:SrcF}
theorem z8p (hl:LisM G B n m d) (ok:ListOk G W H m n d.I d.f d.R) (he:lisE W H m (fun x=>valS (S x 0)) n d.I d.p=0) (h1:Gives Tryz.prog 33 [q2h W H A m sq B n iq] G (.val (.int .i64 0))) (hS:SliceM Tryz.prog G 9 A m S)
    (hij:i≤j) (hj:j≤n) (hg:g.K=1) (hgi:∀ G',G.le G'→ItE G' g m pg Rg fg) (hei:∀ G',G.le G'→ItE G' endI m pe Re fe) :
    x0z Tryz.prog 20 [q2h W H A m sq B n iq,.val (.int .i64 i),.val (.int .i64 j),q3x g] G fun v G' =>
      (lisE W H m (fun x=>valS (S x 0)) (n+2) (brX d.I i j g endI) (brX d.p i j pg pe)≠0→v=.tup [q8v,.val (.int .i64 (lisE W H m (fun x=>valS (S x 0)) (n+2) (brX d.I i j g endI) (brX d.p i j pg pe)))]) ∧
      (lisE W H m (fun x=>valS (S x 0)) (n+2) (brX d.I i j g endI) (brX d.p i j pg pe)=0→∃ (SA':Option Addr) (sq':Nat) (J:Nat→ItemD) (A':Option Addr) (cap:Nat),v=.tup [q2h W H SA' m sq' A' (n+2) cap,.val (.int .i64 0)]∧ItemsM G' A' (n+2) (brX J i j g endI)∧n+2≤cap ∧
        ∀ x,x<n→SameI (d.I x) (J x)∧(J x).rn=(d.I x).rn∧(J x).I=(d.I x).I∧RunsM G' (J x).RA (d.R x)):=by
  have hrows:=hl.rows ok.few he
  have hlen:=ok.len
  have hfew:=ok.few
  refine x6u tab_ok Tryz.func20 (by kernel_rfl) ?_
  refine x00 h1 hij hj hg hS hl.items hl.adr (by omega) (by omega) hl.item hrows ?_
  intro SA' sq' J A' cap G' hG hq1 hq2 hS' hI hc1 hc2 hJ
  have hx:∀ x,x<n→(SameI (d.I x) (J x)∧(J x).rn=(d.I x).rn∧(J x).nos=(d.I x).nos)∧(J x).I=(d.I x).I∧RunsM G' (J x).RA (d.R x)∧ItE G' (J x) m (d.p x) (d.R x) (d.f x):=fun x hx=>by
    obtain ⟨⟨RA,rq,A,q,B',pq,C,sq,hj⟩,h4⟩:=hJ x hx
    rw [hj] at h4 ⊢
    have hr:=z3p h4.run.2.2
    have hs:=hl.src hfew x hx G' A q B' pq C sq ⟨h4.src.stop,h4.src.pix,h4.src.soft,h4.src.ink⟩
    exact ⟨⟨⟨rfl,rfl,rfl,rfl,rfl,rfl⟩,rfl,rfl⟩,rfl,hr,⟨x4f hr (q49 _ _).symm h4.run.1 h4.run.2.1,⟨hs.prog,hs.ref,fun e=>⟨(hs.ok e).prog,(hs.ok e).ref,(hs.ok e).bd⟩⟩,h4.al⟩⟩
  have hgs:SameI g g∧g.rn=g.rn∧g.nos=g.nos:=⟨⟨rfl,rfl,rfl,rfl,rfl,rfl⟩,rfl,rfl⟩
  have hes:SameI endI endI∧endI.rn=endI.rn∧endI.nos=endI.nos:=⟨⟨rfl,rfl,rfl,rfl,rfl,rfl⟩,rfl,rfl⟩
  have hit:∀ x,x<n+2→ItE G' (brX J i j g endI x) m (brX d.p i j pg pe x) (brX d.R i j Rg Re x) (brX d.f i j fg fe x):=by
    have h:=z59 (P:=fun (a:ItemD) (b:(Int × Int) × List Run × SrcF)=>ItE G' a m b.1 b.2.1 b.2.2) (f:=J) (h:=fun x=>(d.p x,d.R x,d.f x)) (a:=g) (b:=(pg,Rg,fg)) (e:=endI) (c:=(pe,Re,fe)) hij hj (fun x h=>(hx x h).2.2.2) (hgi G' hG) (hei G' hG)
    intro x hx
    have:=h x hx
    unfold brX at this ⊢
    split <;> simp_all
    split <;> simp_all
    split <;> simp_all
    split <;> simp_all
  have hsame:=x4j (W:=W) (H:=H) (m:=m) (n:=n+2) (S:=fun x=>valS (S x 0)) (p:=brX d.p i j pg pe) (z59 (P:=fun a b=>SameI a b∧b.rn=a.rn∧b.nos=a.nos) hij hj (fun x h=>(hx x h).1) hgs hes)
  obtain ⟨c1,_,_⟩:=z1o (W:=W) (H:=H) (p:=brX d.p i j pg pe) (R:=brX d.R i j Rg Re) (f:=brX d.f i j fg fe) ⟨hq1,hq2⟩ ⟨hc1,hc2⟩ (x2v hS') hI (fun _ x hx=>hit x hx)
  rw [q9j,hsame] at c1
  refine ⟨_,c1,fun h0 hp=>⟨rfl,fun _=>rfl,fun e=>absurd e h0⟩,fun h0 hp=>⟨rfl,fun e=>absurd h0 e,fun _=>⟨SA',sq',J,A',cap,rfl,hI,hc1,fun x h=>⟨(hx x h).1.1,(hx x h).1.2.1,(hx x h).2.1,(hx x h).2.2.1⟩⟩⟩⟩
end
end Go.Proofs.YticolnghiibgfaaGreat
namespace Go.Proofs.YticolnghiibgfaaGreat
open Go.RowKit Go.Deep
set_option maxRecDepth 20000
theorem q8l {P:Program} {w:World} {G:Mem} {e:TypeId} {A:Option Addr} {g:Nat→Nat→Value}:SliceM P G e A 0 g:=⟨⟨w,A,fun h=>absurd h (Nat.lt_irrefl 0)⟩,fun h=>absurd h (Nat.lt_irrefl 0)⟩
theorem x8u (w:World) (G:Mem):ItemG G endI (fun _ _=>.bool false) (fun _ _=>.bool false) (fun _ _=>.bool false) (fun _ _=>.bool false) :=
  ⟨⟨Nat.le_refl _,Nat.zero_le _,q8l (w:=w)⟩,⟨⟨Nat.le_refl _,Nat.zero_le _,q8l (w:=w)⟩,⟨Nat.le_refl _,Nat.zero_le _,q8l (w:=w)⟩,⟨Nat.le_refl _,Nat.zero_le _,q8l (w:=w)⟩,fun j hj=>⟨Int.le_refl _,by show (0:Int)≤255;omega⟩⟩,⟨Int.le_refl _,by show (0:Int)≤255;omega⟩⟩
theorem q7c {I:Nat→ItemD} {n x o c:Nat} (hx:x<n) (ho:o+c≤34) {vs:List Value} (hv:((I x).cells.drop o).take c=vs) (K:List Value→Prop) (h:K vs):OwnCells (q0p (fun x=>(I x).cells) n) (x*34+o) c K:=by
  subst hv
  refine q1i _ (by simp;omega) (fun j v hj=>?_) h
  rw [List.getElem?_take] at hj
  split at hj
  · rename_i hjc
    rw [List.getElem?_drop] at hj
    rw [Nat.add_assoc,q39 (c:=fun x=>(I x).cells) (sz:=34) (fun _ _=>rfl) hx (by omega)]
    exact hj
  · cases hj
theorem v0n {K:Int} {rn:Nat} {nos:Bool} {al bl:Int} {ov iso kn:Bool} {o rE sE:Int} (h:q2g K rn nos al bl ov iso kn o rE sE=0) (hr:rE=0→rn≤1000000000):rn≤1000000000:=by
  obtain ⟨hK,_,_,_,h0⟩:=z4r h
  by_cases k0:K=0
  · exact hr (h0 k0).1
  · unfold q2g at h
    split at h
    · omega
    split at h
    · omega
    · rename_i g1 g2
      rcases hK.resolve_left k0 with k1 |k2
      · have:¬ (0<rn):=fun hc=>g2 (.inr (.inl ⟨k1,.inl hc⟩))
        omega
      · have:¬ (0<rn):=fun hc=>g2 (.inr (.inr ⟨k2,.inl hc⟩))
        omega
theorem add3 (a:Addr) (j:Nat):((a.add 2).add 1).add j=a.add (3+j):=by
  obtain ⟨b,o,s⟩:=a
  by_cases h:j=0
  · subst h;simp [Addr.add]
  · have h3:¬ 3+j=0:=by omega
    unfold Addr.add
    rw [if_neg h,if_neg (by decide),if_neg (by decide),if_neg h3]
    show (⟨b,o+2+1+j,none⟩:Addr)=⟨b,o+(3+j),none⟩
    rw [show o+2+1+j=o+(3+j) by omega]
theorem x2w {G:Mem} {a:Addr} {i:ItemD} {I:Nat→Int} (ca:∀ K:List Value→Prop,K i.cells→OldCells G a 34 K) (hI:i.I=I) (K:List Value→Prop) (h:K [.int .u8 (I 0),.int .u8 (I 1),.int .u8 (I 2),.int .u8 (I 3),.int .u8 (I 4),.int .u8 (I 5),.int .u8 (I 6),.int .u8 (I 7)]):OldCells G ((a.add 2).add 1) 8 K:=by
  subst hI
  refine q03 _ rfl (fun j u hj=>?_) h
  rw [add3]
  have hj8:j<8:=(List.getElem?_eq_some_iff.1 hj).1
  refine q9c ca ?_
  match j,hj8 with
  | 0,_=>exact hj
  | 1,_=>exact hj
  | 2,_=>exact hj
  | 3,_=>exact hj
  | 4,_=>exact hj
  | 5,_=>exact hj
  | 6,_=>exact hj
  | 7,_=>exact hj
theorem z6a {e:TypeId} {sz k k':Nat} {xs ys:List Value} (hk:k=k') (hx:xs=ys):Blk.own e sz k xs=Blk.own e sz k' ys:=by rw [hk,hx]
section
variable {G:Mem} {W H:Int} {A B:Option Addr} {m sq n iq i j:Nat} {S:Nat→Nat→Value} {d:LisD} {g:ItemD} {pg pe:Int × Int} {Rg Re:List Run} {fg fe:SrcF}
theorem x6y (hl:LisM G B n m d):ElsM G B 34 n fun x=>(d.I x).cells:=by
  rcases Nat.eq_zero_or_pos n with e |e
  · subst e;exact .none
  · cases hB:B with
    | none=>obtain ⟨p,hp,_⟩:=hl.items 0 e;rw [hB] at hp;cases hp
    | some p =>
      obtain ⟨b,off,rfl⟩:=hl.adr e p hB
      have:=hl.items
      rw [hB] at this
      exact this.els
theorem x2x {α β:Type} (F:α→β) {f:Nat→α} {i j x:Nat} {a e:α}:F (brX f i j a e x)=brX (fun x=>F (f x)) i j (F a) (F e) x:=by
  unfold brX
  split
  · rfl
  split
  · rfl
  split
  · rfl
  split <;> rfl
theorem v1h {G':Mem} {I:Nat→ItemD} (hij:i≤j) (hj:j≤n) (hx:∀ x,x<n→ItE G' (I x) m (d.p x) (d.R x) (d.f x)) (hgi:ItE G' g m pg Rg fg) (hei:ItE G' endI m pe Re fe):∀ x,x<n+2→ItE G' (brX I i j g endI x) m (brX d.p i j pg pe x) (brX d.R i j Rg Re x) (brX d.f i j fg fe x):=by
  have h:=z59 (P:=fun (a:ItemD) (b:(Int × Int) × List Run × SrcF)=>ItE G' a m b.1 b.2.1 b.2.2) (f:=I) (h:=fun x=>(d.p x,d.R x,d.f x)) (a:=g) (b:=(pg,Rg,fg)) (e:=endI) (c:=(pe,Re,fe)) hij hj hx hgi hei
  intro x hx
  have:=h x hx
  unfold brX at this ⊢
  split <;> simp_all
  split <;> simp_all
  split <;> simp_all
  split <;> simp_all
theorem v0o (hm:m≤sq∧sq≤maxLen) (hl:LisM G B n m d) (hf:1≤m∧m≤8) (hS:SliceM Tryz.prog G 9 A m S) (hij:i≤j) (hj:j≤n) (hgi:∀ G',G.le G'→ItE G' g m pg Rg fg) (hei:∀ G',G.le G'→ItE G' endI m pe Re fe) (A3:Option Addr) (c3:Nat) (G3:Mem) (hG:G.le G3) (hc:n+2≤c3) (hc2:c3≤maxLen) (hF:FlatM G3 A3 (q0p (fun x=>(brX d.I i j g endI x).cells) (n+2))) :
    Gives Tryz.prog 11 [q2h W H A m sq A3 (n+2) c3] G3 (.val (.int .i64 (lisE W H m (fun x=>valS (S x 0)) (n+2) (brX d.I i j g endI) (brX d.p i j pg pe))))∧True:=by
  have hl3:=hl.mono hG
  obtain ⟨_,c2,_⟩:=z1o (W:=W) (H:=H) (p:=brX d.p i j pg pe) (R:=brX d.R i j Rg Re) (f:=brX d.f i j fg fe) hm ⟨hc,hc2⟩ (x2v (hS.mono hG)) (z34 (hF.els (fun _ _=>rfl) (by omega))) (fun _ x hx=>v1h hij hj (fun x h=>hl3.ite hf h) (hgi G3 hG) (hei G3 hG) x hx)
  exact ⟨c2,trivial⟩
theorem x1y {S:Nat→ByteArray} (hl:LisM G B n m d) (hij:i≤j) (hj:j≤n) (hgi:∀ G',G.le G'→ItE G' g m pg Rg fg) (hei:∀ G',G.le G'→ItE G' endI m pe Re fe) (G2:Mem) (hG:G.le G2) (J:Nat→ItemD) (hJ:∀ x,x<n→SameI (d.I x) (J x)∧(J x).rn=(d.I x).rn∧(J x).I=(d.I x).I∧RunsM G2 (J x).RA (d.R x)) (he:lisE W H m S (n+2) (brX d.I i j g endI) (brX d.p i j pg pe)=0) :
    ∀ x,x<n+2→SameI (brX d.I i j g endI x) (brX J i j g endI x)∧(brX J i j g endI x).I=(brX d.I i j g endI x).I∧Gives Tryz.prog 23 [.val (.slice (brX J i j g endI x).RA (brX J i j g endI x).rn (brX J i j g endI x).rq),.val (.slice (brX d.I i j g endI x).RA (brX d.I i j g endI x).rn (brX d.I i j g endI x).rq)] G2 (.val (.bool true)):=by
  have hl2:=hl.mono hG
  have gi:=(hgi G2 hG).reg
  have ei:=(hei G2 hG).reg
  have key:=z59 (P:=fun (a:ItemD × List Run × (Int × Int)) (b:ItemD)=>SameI a.1 b∧b.I=a.1.I∧RunsM G2 b.RA a.2.1∧b.rn=a.2.1.length∧RunsM G2 a.1.RA a.2.1∧a.1.rn=a.2.1.length∧(a.2.2.1=0→ValidL a.2.1)) (f:=fun x=>(d.I x,d.R x,d.p x)) (h:=J) (a:=(g,Rg,pg)) (b:=g) (e:=(endI,Re,pe)) (c:=endI) hij hj
    (fun x hx=>by
      obtain ⟨q1,q2,q3,q4⟩:=hJ x hx
      have q5:(d.I x).rn=(d.R x).length:=(q49 _ _).symm
      exact ⟨q1,q3,q4,by rw [q2];exact q5,z3p (hl2.item x hx).run.2.2,q5,fun e=>q9i e⟩)
    ⟨⟨rfl,rfl,rfl,rfl,rfl,rfl⟩,rfl,gi.runs,gi.len,gi.runs,gi.len,gi.ok⟩ ⟨⟨rfl,rfl,rfl,rfl,rfl,rfl⟩,rfl,ei.runs,ei.len,ei.runs,ei.len,ei.ok⟩
  intro x hx
  have hit:=z4s he x hx
  have k:=key x hx
  have m1:=x2x (α:=ItemD × List Run × (Int × Int)) Prod.fst (f:=fun x=>(d.I x,d.R x,d.p x)) (i:=i) (j:=j) (a:=(g,Rg,pg)) (e:=(endI,Re,pe)) (x:=x)
  have m2:=x2x (α:=ItemD × List Run × (Int × Int)) (fun q=>q.2.2) (f:=fun x=>(d.I x,d.R x,d.p x)) (i:=i) (j:=j) (a:=(g,Rg,pg)) (e:=(endI,Re,pe)) (x:=x)
  dsimp only at m1 m2
  change _=brX d.I i j g endI x at m1
  change _=brX d.p i j pg pe x at m2
  rw [m1,m2] at k
  obtain ⟨q1,q2,q3,q4,q5,q6,q7⟩:=k
  refine ⟨q1,q2,?_⟩
  have hrn:=v0n hit fun e=>by
    have:=z58 (q7 e)
    omega
  have hs:=z63 _ _ _ (brX J i j g endI x).rq (brX d.I i j g endI x).rq G2 q3 q5 (by omega)
  rw [q4,q6]
  exact hs
end
end Go.Proofs.YticolnghiibgfaaGreat
