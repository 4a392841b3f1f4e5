/-
  Merged: XLists, XCut, XTiny, XListH, XMoved, XLisC, XShiftG.
-/
import Derived.Test.YticolnghiibgfaaGreatMrg33
import Derived.Test.YticolnghiibgfaaGreatMrg31
import Derived.Test.YticolnghiibgfaaGreatMrg14
import Derived.Test.YticolnghiibgfaaGreatMrg21
import Derived.Test.YticolnghiibgfaaGreatMrg34
set_option linter.unusedVariables false
set_option linter.unusedSimpArgs false
set_option linter.unnecessarySimpa false
namespace Go.Proofs.YticolnghiibgfaaGreat
open Go.RowKit Go.Deep Go.Proofs.YticolnghiibgfaaGreat.gradientRamps Go.Proofs.YticolnghiibgfaaGreat.gradientPlaces Go.Proofs.YticolnghiibgfaaGreat.imageCells
set_option maxRecDepth 20000
def spF (k:Nat):SrcF:=fun _ _=>(fun j=>if j=0 then (if k=0 then 200 else 100) else 0,255)
def spR (k:Nat):List Run:=if k=0 then q5r 1 1 else [⟨0,0,1⟩]
def spS:Nat→ByteArray:=fun _=>⟨#[98,108,97,99,107]⟩
section
variable {F:Mem} {A:Option Addr} {c b sb ib:Nat}
theorem x84 (h:F ib=some (.cells ((spI A c b 0).cells++(spI A c b 1).cells++(spI A c b 2).cells++(spI A c b 3).cells).toArray 56 (0,0))):ItemsM F (some ⟨ib,0,none⟩) 4 (spI A c b):=fun x hx=>by
  refine ⟨_,rfl,fun K hK=>?_⟩
  match x,hx with
  | 0,_=>exact q3a h (by rfl) (by rfl) (by rfl) hK
  | 1,_=>exact q3a h (by rfl) (by rfl) (by rfl) hK
  | 2,_=>exact q3a h (by rfl) (by rfl) (by rfl) hK
  | 3,_=>exact q3a h (by rfl) (by rfl) (by rfl) hK
theorem v0t (h:F sb=some (.cells #[.string ⟨#[98,108,97,99,107]⟩] 9 (0,0))):StrM F (some ⟨sb,0,none⟩) 1 spS:=fun x hx=>by
  refine ⟨_,rfl,fun K hK=>?_⟩
  match x,hx with
  | 0,_=>exact q3a (vs:=[.string ⟨#[98,108,97,99,107]⟩]) h (by rfl) (by rfl) (by rfl) hK
theorem x7a (h:F b=some (.cells #[.int .i64 0,.int .i64 0,.int .i64 1] 87 (0,0))):RunsM F (some ⟨b,0,none⟩) [⟨0,0,1⟩]:=by
  refine z6b fun j u hj=>?_
  unfold Mem.cell?
  simp only [h]
  simpa [q1u] using hj
theorem x85:ValidL (q5r 1 1):=q9j (by decide +kernel)
theorem v1p:ValidL [⟨0,0,1⟩]:=q9j (by decide +kernel)
theorem v1q (hR:RunsM F A (q5r 1 1)) (h:F b=some (.cells #[.int .i64 0,.int .i64 0,.int .i64 1] 87 (0,0))) {k:Nat} (hk:k<4) (h0:(spI A c b k).K=0):RegOk F (spI A c b) spR k:=by
  match k,hk with
  | 0,_=>exact ⟨hR,by rfl,x85⟩
  | 1,_=>exact absurd h0 (by simp [spI])
  | 2,_=>exact ⟨x7a h,by rfl,v1p⟩
  | 3,_=>exact absurd h0 (by simp [spI])
theorem v12 (hR:RunsM F A (q5r 1 1)) (h:F b=some (.cells #[.int .i64 0,.int .i64 0,.int .i64 1] 87 (0,0))):LOk F (spI A c b) spF spR 4:=by
  refine ⟨fun k hk h0=>?_,fun k hk h0=>v1q hR h hk h0,fun k hk h0=>?_,fun k hk h1=>?_,fun k hk h0 h1=>?_,by rfl⟩
  · match k,hk with
    | 0,_=>exact q7a
    | 1,_=>exact absurd h0 (by simp [spI])
    | 2,_=>exact q7a
    | 3,_=>exact absurd h0 (by simp [spI])
  · have key:∀ k:Nat,∀ x y:Int,z0t (spF k x y).1∧0≤(spF k x y).2∧(spF k x y).2≤255:=fun k x y=>by
      refine ⟨fun j hj=>?_,show (0:Int)≤255 by omega,Int.le_refl _⟩
      show 0≤(if j=0 then (if k=0 then (200:Int) else 100) else 0)∧(if j=0 then (if k=0 then (200:Int) else 100) else 0)≤255
      split
      · split <;> omega
      · omega
    match k,hk with
    | 0,_=>exact ⟨show (0:Int)≤255∧(255:Int)≤255 by omega,show (0:Int)≤0∧(0:Int)≤11 by omega,fun x y _ _=>key 0 x y⟩
    | 1,_=>exact absurd h0 (by simp [spI])
    | 2,_=>exact ⟨show (0:Int)≤255∧(255:Int)≤255 by omega,show (0:Int)≤0∧(0:Int)≤11 by omega,fun x y _ _=>key 2 x y⟩
    | 3,_=>exact absurd h0 (by simp [spI])
  · match k,hk with
    | 0,_=>exact absurd h1 (by simp [spI])
    | 1,_=>exact ⟨show (0:Int)≤255∧(255:Int)≤255 by omega,show (0:Int)≤0∧(0:Int)≤11 by omega⟩
    | 2,_=>exact absurd h1 (by simp [spI])
    | 3,_=>exact absurd h1 (by simp [spI])
  · match k,hk with
    | 0,_=>exact absurd rfl h0
    | 1,_=>exact absurd rfl h1
    | 2,_=>exact absurd rfl h0
    | 3,_=>exact Nat.le_refl 2
theorem x29:q95 (spI A c b) 4=[.fill 0,.group 1 [.fill 2]]:=by rfl
set_option maxHeartbeats 4000000 in
theorem q7o {I:Nat→Int} {m:Nat} (hm:1≤m∧m≤8) (hI:fewB I m=true):Gives Tryz.prog 76 [srcA 0 I 0 0 0 0 0 (.slice none 0 0) 0 0 (.slice none 0 0) (.slice none 0 0) 0 0 0 0 0 0 false false,.val (.int .i64 m)] F (.val (.int .i64 0)):=by
  have gz:=q9b (k:=0) (I:=I) (fx:=0) (fy:=0) (tx:=0) (ty:=0) (r:=0) (A:=none) (n:=0) (q:=0) (W:=0) (H:=0) (B:=none) (pn:=0) (pq:=0) (C:=none) (sn:=0) (sq:=0) (a:=0) (b:=0) (c:=0) (d:=0) (e:=0) (f:=0) (s:=false) (t:=false) (G:=F)
  have gp:=q79 (W:=0) (H:=0) (B:=none) (pn:=0) (pq:=0) (C:=none) (sn:=0) (sq:=0) (a:=0) (b:=0) (c:=0) (d:=0) (e:=0) (f:=0) (s:=false) (t:=false) (G:=F)
  have gw:=q6q (I:=I) (G:=F) hm
  rw [hI] at gw
  rw [show q29 0 0 0 0 0 0=true from rfl] at gz
  rw [show q1d 0 0 0 0 0 0 0 0 0 0 false false=true from rfl] at gp
  refine q0w tab_ok Tryz.func76 ?_
  (repeat ((try (conv=>whnf));(first |(refine stQ ?_) |(with_reducible first |refine q0b (fun vs w=>by kernel_rfl) (by kernel_rfl) (gz) ?_ |refine q0a (fun vs w=>by kernel_rfl) (by kernel_rfl) (gz) ?_ |refine q0b (fun vs w=>by kernel_rfl) (by kernel_rfl) (gp) ?_ |refine q0a (fun vs w=>by kernel_rfl) (by kernel_rfl) (gp) ?_ |refine q0b (fun vs w=>by kernel_rfl) (by kernel_rfl) (gw) ?_ |refine q0a (fun vs w=>by kernel_rfl) (by kernel_rfl) (gw) ?_))))
  exact ⟨rfl,rfl⟩
theorem v0u (hR:RunsM F A (q5r 1 1)) (hc:16≤c∧c≤maxLen) (h:F b=some (.cells #[.int .i64 0,.int .i64 0,.int .i64 1] 87 (0,0))) {k:Nat} (hk:k<4) {o:Int} :
    Gives Tryz.prog 52 [q5i (spI A c b k),.val (.int .i64 1),.val (.int .i64 o)] F (.val (.int .i64 (q2h (spI A c b k).K (spI A c b k).rn (spI A c b k).nos (spI A c b k).al (spI A c b k).bl (spI A c b k).ov (spI A c b k).iso (spI A c b k).kn o 0 0))):=by
  match k,hk with
  | 0,_ =>
    have h1:=_root_.Go.Proofs.YticolnghiibgfaaGreat.Check_gives hR hc.1 hc.2
    exact q4a h1 (q7o ⟨Nat.le_refl 1,by decide⟩ (by rfl))
  | 1,_ =>
    have h1:=_root_.Go.Proofs.YticolnghiibgfaaGreat.Check_gives (G:=F) (A:=none) (L:=[]) (c:=0) (fun i r hr=>by simp at hr) (Nat.le_refl _) (Nat.zero_le _)
    exact q4a h1 (q7o ⟨Nat.le_refl 1,by decide⟩ (by rfl))
  | 2,_ =>
    have h1:=_root_.Go.Proofs.YticolnghiibgfaaGreat.Check_gives (x7a h) (c:=1) (Nat.le_refl _) (by decide)
    exact q4a h1 (q7o ⟨Nat.le_refl 1,by decide⟩ (by rfl))
  | 3,_ =>
    have h1:=_root_.Go.Proofs.YticolnghiibgfaaGreat.Check_gives (G:=F) (A:=none) (L:=[]) (c:=0) (fun i r hr=>by simp at hr) (Nat.le_refl _) (Nat.zero_le _)
    exact q4a h1 (q7o ⟨Nat.le_refl 1,by decide⟩ (by rfl))
theorem x86 (hR:RunsM F A (q5r 1 1)) (hc:16≤c∧c≤maxLen) (h:F b=some (.cells #[.int .i64 0,.int .i64 0,.int .i64 1] 87 (0,0))) (hS:StrM F (some ⟨sb,0,none⟩) 1 spS) (hI:ItemsM F (some ⟨ib,0,none⟩) 4 (spI A c b)) :
    Gives Tryz.prog 33 [q2i 1 1 (some ⟨sb,0,none⟩) 1 1 (some ⟨ib,0,none⟩) 4 4] F (.val (.int .i64 0)):=by
  have:=q7b (W:=1) (H:=1) (iq:=4) (sq:=1) hS hI (Nat.le_refl _) (fun _ x hx o h0 h1=>v0u hR hc h hx) (z26 (I:=spI A c b) (rE:=fun _=>0) (sE:=fun _=>0)) (by omega) (by omega)
  exact this
theorem v0v:z1u (spI A c b) spF spR 4 1 0 0=fun o=>if o=0 then 100 else 0:=by
  unfold z1u
  rw [x29]
  funext o
  by_cases ho:o<1
  · obtain rfl:o=0:=by omega
    simp only [evL,evT,covL,covT,rowI,q0s,spI,spR,spF,Bool.or_false,if_true,if_false]
    kernel_rfl
  · unfold rowI;rw [if_neg ho,if_neg (by omega)]
theorem v0w:z1u (spI A c b) spF spR 4 1 1 0=fun o=>if o=0 then 200 else 0:=by
  unfold z1u
  rw [x29]
  funext o
  by_cases ho:o<1
  · obtain rfl:o=0:=by omega
    simp only [evL,evT,covL,covT,rowI,q0s,spI,spR,spF,Bool.or_false,if_true,if_false]
    kernel_rfl
  · unfold rowI;rw [if_neg ho,if_neg (by omega)]
end
set_option maxHeartbeats 8000000 in
theorem x19 {G:Mem}:Gives Tryz.prog 9 [] G (.val (.bool true)):=by
  refine q0w tab_ok Tryz.func9 ?_
  have key:∀ (x:Int),x=0∨x=1→∀ (F:Mem) (A:Option Addr) (c b sb ib:Nat),RunsM F A (q5r 1 1)→16≤c→c≤maxLen →
    F sb=some (.cells #[.string ⟨#[98,108,97,99,107]⟩] 9 (0,0))→F b=some (.cells #[.int .i64 0,.int .i64 0,.int .i64 1] 87 (0,0))→F ib=some (.cells ((spI A c b 0).cells++(spI A c b 1).cells++(spI A c b 2).cells++(spI A c b 3).cells).toArray 56 (0,0)) →
    Gives Tryz.prog 10 [q2i 1 1 (some ⟨sb,0,none⟩) 1 1 (some ⟨ib,0,none⟩) 4 4,.val (.int .i64 x),.val (.int .i64 0)] F (.tup [inA (fun o=>if o=0 then (if x=0 then 100 else 200) else 0),.val (.int .i64 0)]):=by
    intro x hx F A c b sb ib hR h1 h2 h3 h4 h5
    have hI:=x84 h5
    have r:=v1l (x:=x) (y:=0) (x86 hR ⟨h1,h2⟩ h4 (v0t h3) hI) hI (by omega) (by omega) (by omega) (by omega) (v12 hR h4) (by omega) (by omega)
    rcases hx with rfl |rfl
    · rw [v0v] at r;exact r
    · rw [v0w] at r;exact r
  (repeat ((try (conv=>whnf));(refine stQ ?_)))
  conv=>whnf
  refine q9e (fun vs w=>by kernel_rfl) (by rfl) z0x ?_
  rintro v F hF ⟨A,c,b,sb,ib,rfl,q1,q2,q3,q4,q5,q6⟩
  have k0:=key 0 (.inl rfl) F A c b sb ib q1 q2 q3 q4 q5 q6
  (repeat ((try (conv=>whnf));(first |((refine q9y [.int .i64 1,.int .i64 1,.slice (some ⟨sb,0,none⟩) 1 1,.slice (some ⟨ib,0,none⟩) 4 4] ?_);(dsimp only [List.map])) |(refine stQ ?_) |(with_reducible first |refine q0b (fun vs w=>by kernel_rfl) (by kernel_rfl) (k0) ?_ |refine q0a (fun vs w=>by kernel_rfl) (by kernel_rfl) (k0) ?_))))
  conv=>whnf
  refine q9e (fun vs w=>by kernel_rfl) (by rfl) z0x ?_
  rintro v F hF ⟨A,c,b,sb,ib,rfl,q1,q2,q3,q4,q5,q6⟩
  have k1:=key 1 (.inr rfl) F A c b sb ib q1 q2 q3 q4 q5 q6
  (repeat ((try (conv=>whnf));(first |((refine q9y [.int .i64 1,.int .i64 1,.slice (some ⟨sb,0,none⟩) 1 1,.slice (some ⟨ib,0,none⟩) 4 4] ?_);(dsimp only [List.map])) |(refine stQ ?_) |(with_reducible first |refine q0b (fun vs w=>by kernel_rfl) (by kernel_rfl) (k1) ?_ |refine q0a (fun vs w=>by kernel_rfl) (by kernel_rfl) (k1) ?_))))
  conv=>whnf
  exact ⟨rfl,rfl⟩
end Go.Proofs.YticolnghiibgfaaGreat
namespace Go.Proofs.YticolnghiibgfaaGreat
open Go.RowKit
set_option maxRecDepth 20000
end Go.Proofs.YticolnghiibgfaaGreat
namespace Go.Proofs.YticolnghiibgfaaGreat
open Go.RowKit
set_option maxRecDepth 20000
theorem SliceG.less {P:Program} {w:World} {e:TypeId} {A:Option Addr} {n m:Nat} {g:Nat→Nat→Value} (h:SliceG P w e A n g) (hm:m≤n):SliceG P w e A m g:=fun h0=>by
  obtain ⟨b,off,h1,h2,h3⟩:=h (by omega)
  exact ⟨b,off,h1,h2,fun x hx=>h3 x (by omega)⟩
theorem cutA {c k:Nat} {A:Option Addr}:(if c=((0:Nat):Int).toNat then A else A.map (·.add (((0:Nat):Int).toNat * k)))=A:=by
  split
  · rfl
  · cases A with
    | none=>rfl
    | some a=>simp [Addr.add]
end Go.Proofs.YticolnghiibgfaaGreat
namespace Go.Proofs.YticolnghiibgfaaGreat
open Go.RowKit Go.Deep
set_option maxRecDepth 20000
theorem q2e {G:Mem}:Gives Tryz.prog 21 [z0y] G (.val (.bool true)):=by
  refine q0w tab_ok Tryz.func21 ?_
  (repeat ((try (conv=>whnf));(refine stQ ?_)))
  exact ⟨rfl,rfl⟩
set_option maxHeartbeats 4000000 in
theorem z7e {G:Mem} {i j:ItemD} (h:SameI i j):Gives Tryz.prog 22 [q5i j,q5i i] G (.val (.bool true)):=by
  obtain ⟨K,RA,rn,rq,k,I,fx,fy,tx,ty,r,A,n,q,W,H,B,pn,pq,C,sn,sq,a,b,c,d,e,f,s,t,al,bl,ov,iso,kn⟩:=i
  obtain ⟨K',RA',rn',rq',k',I',fx',fy',tx',ty',r',A',n',q',W',H',B',pn',pq',C',sn',sq',a',b',c',d',e',f',s',t',al',bl',ov',iso',kn'⟩:=j
  obtain ⟨h1,h2,h3,h4,h5,h6⟩:=h
  dsimp only at h1 h2 h3 h4 h5 h6
  subst h1;subst h2;subst h3;subst h4;subst h5;subst h6
  refine q0w tab_ok Tryz.func22 ?_
  simp only [q5i]
  cases ov' <;> cases iso' <;> cases kn' <;> ((repeat ((try (conv=>whnf));(first |(with_reducible refine q9s (by kernel_rfl) ?_) |(refine stQ ?_))))) <;> exact ⟨rfl,rfl⟩
structure LisD where
  I:Nat→ItemD
  gr:Nat→Nat→Nat→Value
  gs:Nat→Nat→Nat→Value
  gp:Nat→Nat→Nat→Value
  gf:Nat→Nat→Nat→Value
  sE:Nat→Int
  f:Nat→SrcF
def LisD.R (d:LisD) (x:Nat):List Run:=q2m (fun j=>⟨valI (d.gr x j 0),valI (d.gr x j 1),valI (d.gr x j 2)⟩) (d.I x).rn
def LisD.p (d:LisD) (x:Nat):Int × Int:=(errL (d.R x),d.sE x)
structure LisM (G:Mem) (B:Option Addr) (n m:Nat) (d:LisD):Prop where
  items:ItemsM G B n d.I
  adr:0<n→∀ p,B=some p→∃ b off,p=⟨b,off,none⟩
  item:∀ x,x<n→ItemG G (d.I x) (d.gr x) (d.gs x) (d.gp x) (d.gf x)
  src:(1≤m∧m≤8)→∀ x,x<n→∀ (G':Mem) (A:Option Addr) (q:Nat) (B:Option Addr) (pq:Nat) (C:Option Addr) (sq:Nat),SrcG G' (setS (d.I x) A q B pq C sq) (d.gs x) (d.gp x) (d.gf x)→SrcE G' (setS (d.I x) A q B pq C sq) m (d.sE x) (d.f x)
  bd:(1≤m∧m≤8)→∀ x,x<n→d.sE x=0→(d.I x).n≤1000000000∧(d.I x).pn≤1000000000∧(d.I x).sn≤1000000000
theorem v13 {w:World} {B:Option Addr} {n:Nat} {gi:Nat→Nat→Value} (h:SliceG Tryz.prog w 56 B n gi) (m:Nat):∃ d,LisM (q2k w) B n m d∧d.I=fun x=>q23 (gi x):=by
  have key:∀ x,x<n→∃ q:(Nat→Nat→Value) × (Nat→Nat→Value) × (Nat→Nat→Value) × (Nat→Nat→Value) × Int × SrcF,ItemG (q2k w) (q23 (gi x)) q.1 q.2.1 q.2.2.1 q.2.2.2.1 ∧
      ((1≤m∧m≤8)→(q.2.2.2.2.1=0→(q23 (gi x)).n≤1000000000∧(q23 (gi x)).pn≤1000000000∧(q23 (gi x)).sn≤1000000000)∧∀ (G':Mem) (A:Option Addr) (q':Nat) (B:Option Addr) (pq:Nat) (C:Option Addr) (sq:Nat),SrcG G' (setS (q23 (gi x)) A q' B pq C sq) q.2.1 q.2.2.1 q.2.2.2.1→SrcE G' (setS (q23 (gi x)) A q' B pq C sq) m q.2.2.2.2.1 q.2.2.2.2.2):=fun x hx=>by
    obtain ⟨gr,gs,gp,gf,hI⟩:=x63 h hx
    by_cases hm:1≤m∧m≤8
    · obtain ⟨sE,fi,hbd,hs⟩:=x9r (i:=q23 (gi x)) (m:=m) hm ⟨q2k w,(q23 (gi x)).A,(q23 (gi x)).q,(q23 (gi x)).B,(q23 (gi x)).pq,(q23 (gi x)).C,(q23 (gi x)).sq,hI.src⟩
      exact ⟨(gr,gs,gp,gf,sE,fi),hI,fun _=>⟨hbd,hs⟩⟩
    · exact ⟨(gr,gs,gp,gf,0,fun _ _=>(fun _=>0,0)),hI,fun h=>absurd h hm⟩
  obtain ⟨q,hq⟩:=choose_lt key
  refine ⟨⟨fun x=>q23 (gi x),fun x=>(q x).1,fun x=>(q x).2.1,fun x=>(q x).2.2.1,fun x=>(q x).2.2.2.1,fun x=>(q x).2.2.2.2.1,fun x=>(q x).2.2.2.2.2⟩,⟨v0i h,fun e p hp=>?_,fun x hx=>(hq x hx).1,fun hm x hx=>((hq x hx).2 hm).2,fun hm x hx=>((hq x hx).2 hm).1⟩,rfl⟩
  obtain ⟨b,off,hA,_⟩:=h e
  rw [hp] at hA;cases hA
  exact ⟨b,off,rfl⟩
section
variable {G:Mem} {B:Option Addr} {n m:Nat} {d:LisD}
theorem LisM.ite (h:LisM G B n m d) (hm:1≤m∧m≤8) {x:Nat} (hx:x<n):ItE G (d.I x) m (d.p x) (d.R x) (d.f x):=by
  have hi:=h.item x hx
  exact ⟨x9q (z7c hi.run.2.2) (q6s _ _).symm hi.run.1 hi.run.2.1,h.src hm x hx G _ _ _ _ _ _ hi.src,hi.al⟩
theorem x7b {i:ItemD} {gr gs gp gf:Nat→Nat→Value} {G:Mem} {m:Nat} {o rE sE:Int} (h:q2h i.K i.rn i.nos i.al i.bl i.ov i.iso i.kn o rE sE=0) (hr:rE=0→i.rn≤1000000000) (hs:i.K=0→sE=0→i.n≤1000000000∧i.pn≤1000000000∧i.sn≤1000000000):i.rn≤1000000000∧i.n≤1000000000∧i.pn≤1000000000∧i.sn≤1000000000:=by
  obtain ⟨hK,_,_,_,h0⟩:=z4w h
  by_cases k0:i.K=0
  · obtain ⟨e1,e2⟩:=h0 k0
    exact ⟨hr e1,hs k0 e2⟩
  · have hn:i.rn=0∧i.nos=true:=by
      unfold q2h at h
      split at h
      · omega
      split at h
      · omega
      · rename_i g1 g2
        rcases hK.resolve_left k0 with k1 |k2
        · have:¬ (0<i.rn∨i.ov=true∨i.nos=false):=fun hc=>g2 (.inr (.inl ⟨k1,hc⟩))
          simp at this
          exact ⟨by omega,this.2.2⟩
        · have:¬ (0<i.rn∨i.ov=true∨i.nos=false∨i.iso=true∨i.kn=true∨¬ i.al=0∨¬ i.bl=0):=fun hc=>g2 (.inr (.inr ⟨k2,hc⟩))
          simp at this
          exact ⟨by omega,this.2.2.1⟩
    have h3:=hn.2
    unfold ItemD.nos nosB q29 q1d at h3
    simp at h3
    omega
theorem x4y {L:List Run} (v:ValidL L):L.length≤1000000000:=by
  have:=v.length
  omega
theorem LisM.rows (h:LisM G B n m d) (hm:1≤m∧m≤8) {W H:Int} {S:Nat→ByteArray} (he:lisE W H m S n d.I d.p=0):∀ x,x<n→(d.I x).rn≤1000000000∧(d.I x).n≤1000000000∧(d.I x).pn≤1000000000∧(d.I x).sn≤1000000000:=fun x hx =>
  x7b (gr:=d.gr x) (gs:=d.gs x) (gp:=d.gp x) (gf:=d.gf x) (G:=G) (m:=m) (z1v he x hx) (fun e=>by
    have:=x4y (q9j e)
    unfold LisD.R at this
    rw [q6s] at this
    exact this) fun _ e=>h.bd hm x hx e
theorem LisM.mono {G':Mem} (h:LisM G B n m d) (hG:G.le G'):LisM G' B n m d:=⟨h.items.mono hG,h.adr,fun x hx=>(h.item x hx).mono hG,h.src,h.bd⟩
theorem LisM.less {k:Nat} (h:LisM G B n m d) (hk:k≤n):LisM G B k m d :=
  ⟨fun x hx=>h.items x (by omega),fun h0 p hp=>h.adr (by omega) p hp,fun x hx=>h.item x (by omega),fun hm x hx=>h.src hm x (by omega),fun hm x hx=>h.bd hm x (by omega)⟩
theorem v0x {A:Option Addr} {g:Nat→Nat→Value} (h:SliceM Tryz.prog G 9 A n g):StrM G A n (fun x=>valS (g x 0)):=by
  have e1:Tryz.prog.cellsOf 9=1:=by kernel_rfl
  have ef:flat Tryz.prog 20 9=[.string]:=by kernel_rfl
  intro x hx
  obtain ⟨⟨w0,A0,h0⟩,h1⟩:=h
  obtain ⟨s,hs,_⟩:=h0.seen (j:=0) (by kernel_rfl) hx (by rw [ef];rfl)
  obtain ⟨b,off,rfl,hc⟩:=h1 (by omega)
  rw [e1] at hc
  refine ⟨⟨b,off,none⟩,rfl,fun K k=>?_⟩
  refine q1e _ rfl (fun j u hj=>?_) k
  rw [q0k,q0k]
  match j,hj with
  | 0,hj =>
    simp at hj
    rw [← hj,hc x hx 0 (by omega),hs]
    rfl
end
end Go.Proofs.YticolnghiibgfaaGreat
namespace Go.Proofs.YticolnghiibgfaaGreat
open Go.RowKit
set_option maxRecDepth 20000
set_option maxHeartbeats 4000000 in
theorem x2a {G:Mem} {dx dy:Int} {i:ItemD} (hx:-8192≤dx∧dx≤8192) (hy:-8192≤dy∧dy≤8192):Gives Tryz.prog 26 [q2f i,.val (.int .i64 dx),.val (.int .i64 dy)] G (q2f (mvI dx dy i)):=by
  obtain ⟨K,RA,rn,rq,k,I,fx,fy,tx,ty,r,A,n,q,W,H,B,pn,pq,C,sn,sq,a,b,c,d,e,f,s,t,al,bl,ov,iso,kn⟩:=i
  refine q0w tab_ok Tryz.func26 ?_
  simp only [q2f,mvI]
  by_cases k1:k=1
  · subst k1
    rw [if_pos (.inl rfl),if_pos (.inl rfl),if_pos rfl,if_pos rfl,if_neg (by decide),if_neg (by decide)]
    (repeat ((try (conv=>whnf));(first |(refine stQ ?_) |(refine q0y (k:=.i64) _ rfl ?_))))
    exact ⟨rfl,rfl⟩
  by_cases k2:k=2
  · subst k2
    rw [if_pos (.inr rfl),if_pos (.inr rfl),if_neg (by decide),if_neg (by decide),if_neg (by decide),if_neg (by decide)]
    (repeat ((try (conv=>whnf));(first |(refine stQ ?_) |(refine q0y (k:=.i64) _ rfl ?_))))
    exact ⟨rfl,rfl⟩
  by_cases k3:k=3
  · subst k3
    rw [if_neg (by decide),if_neg (by decide),if_neg (by decide),if_neg (by decide),if_pos rfl,if_pos rfl]
    (repeat ((try (conv=>whnf));(first |(refine stQ ?_) |(refine q0y (k:=.i64) _ rfl ?_))))
    exact ⟨rfl,rfl⟩
  rw [if_neg (by omega),if_neg (by omega),if_neg k1,if_neg k1,if_neg k3,if_neg k3]
  (repeat ((try (conv=>whnf));(refine stQ ?_)))
  exact ⟨rfl,rfl⟩
end Go.Proofs.YticolnghiibgfaaGreat
namespace Go.Proofs.YticolnghiibgfaaGreat
open Go.RowKit Go.Deep
set_option maxRecDepth 20000
theorem z4a {e e':Nat→Int}:∀ {n:Nat},(∀ x,x<n→e' x=e x)→q1z e' n=q1z e n
  | 0,_=>rfl
  | n+1,h=>by rw [q1z,q1z,z4a (n:=n) fun x hx=>h x (by omega),h n (by omega)]
theorem x4z {W H:Int} {m n:Nat} {S:Nat→ByteArray} {I J:Nat→ItemD} {p:Nat→Int × Int} (h:∀ x,x<n→SameI (I x) (J x)∧(J x).rn=(I x).rn∧(J x).nos=(I x).nos):lisE W H m S n J p=lisE W H m S n I p:=by
  have hK:∀ x,x<n→(J x).K=(I x).K:=fun x hx=>(h x hx).1.K
  have hd:=z27 (K:=fun x=>(J x).K) (K':=fun x=>(I x).K) (n:=n) hK
  unfold lisE q3e
  rw [hd n (Nat.le_refl _),z4a (n:=n) fun x hx=>?_]
  dsimp only
  obtain ⟨⟨e1,e2,e3,e4,e5,e6⟩,e7,e8⟩:=h x hx
  rw [hd x (by omega),e1,e2,e3,e4,e5,e6,e7,e8]
end Go.Proofs.YticolnghiibgfaaGreat
namespace Go.Proofs.YticolnghiibgfaaGreat
open Go.RowKit Go.Deep
set_option maxRecDepth 20000
theorem z8j {K:Int} {rn:Nat} {nos:Bool} {al bl:Int} {ov iso kn:Bool} {o rE sE:Int} (h:q2h K rn nos al bl ov iso kn o rE sE=0) (h0:K≠0):rn=0∧nos=true:=by
  obtain ⟨hK,_⟩:=z4w h
  unfold q2h at h
  split at h
  · omega
  split at h
  · omega
  · rename_i g1 g2
    rcases hK.resolve_left h0 with k1 |k2
    · have:¬ (0<rn∨ov=true∨nos=false):=fun hc=>g2 (.inr (.inl ⟨k1,hc⟩))
      simp at this
      exact ⟨by omega,this.2.2⟩
    · have:¬ (0<rn∨ov=true∨nos=false∨iso=true∨kn=true∨¬ al=0∨¬ bl=0):=fun hc=>g2 (.inr (.inr ⟨k2,hc⟩))
      simp at this
      exact ⟨by omega,this.2.2.1⟩
theorem v0y {i:ItemD} {dx dy:Int} (h:i.nos=true):mvI dx dy i=i:=by
  obtain ⟨K,RA,rn,rq,k,I,fx,fy,tx,ty,r,A,n,q,W,H,B,pn,pq,C,sn,sq,a,b,c,d,e,f,s,t,al,bl,ov,iso,kn⟩:=i
  have hk:k=0:=by
    unfold ItemD.nos nosB at h
    simp at h
    omega
  subst hk
  rfl
theorem x7c {i:ItemD} {RA:Option Addr} {rq:Nat} {A:Option Addr} {q:Nat} {B:Option Addr} {pq:Nat} {C:Option Addr} {sq:Nat} (h:i.rn=0):setC i RA rq A q B pq C sq=setR (setC i RA rq A q B pq C sq) RA 0 rq:=by
  obtain ⟨K,RA',rn,rq',k,I,fx,fy,tx,ty,r,A',n,q',W,H,B',pn,pq',C',sn,sq',a,b,c,d,e,f,s,t,al,bl,ov,iso,kn⟩:=i
  dsimp only at h
  subst h
  rfl
def MvI (dx dy:Int) (i:ItemD) (L:List Run) (j:ItemD):Prop:=∃ RA rq A q B pq C sq,j=setR (setC (mvI dx dy i) RA rq A q B pq C sq) RA (shL dx dy L).length rq
section
variable {G:Mem} {W H dx dy:Int} {A B:Option Addr} {m sq n iq:Nat} {S:Nat→Nat→Value} {d:LisD} {sE:Nat→Int} {f:Nat→SrcF}
def MvS (dx dy:Int) (m n:Nat) (d:LisD) (sE:Nat→Int) (f:Nat→SrcF):Prop :=
  ∀ x,x<n→∀ (G':Mem) (A:Option Addr) (q:Nat) (B:Option Addr) (pq:Nat) (C:Option Addr) (sq:Nat),SrcG G' (setS (mvI dx dy (d.I x)) A q B pq C sq) (d.gs x) (d.gp x) (d.gf x)→SrcE G' (setS (mvI dx dy (d.I x)) A q B pq C sq) m (sE x) (f x)
theorem v1r (hl:LisM G B n m d) (hm:1≤m∧m≤8):∃ sE f,MvS dx dy m n d sE f:=by
  have key:∀ x,x<n→∃ q:Int × SrcF,∀ (G':Mem) (A:Option Addr) (q':Nat) (B:Option Addr) (pq:Nat) (C:Option Addr) (sq:Nat),SrcG G' (setS (mvI dx dy (d.I x)) A q' B pq C sq) (d.gs x) (d.gp x) (d.gf x)→SrcE G' (setS (mvI dx dy (d.I x)) A q' B pq C sq) m q.1 q.2:=fun x hx=>by
    have hi:=(hl.item x hx).src
    obtain ⟨sE,fi,_,hs⟩:=x9r (i:=mvI dx dy (d.I x)) (m:=m) hm ⟨G,(d.I x).A,(d.I x).q,(d.I x).B,(d.I x).pq,(d.I x).C,(d.I x).sq,⟨hi.stop,hi.pix,hi.soft,hi.ink⟩⟩
    exact ⟨(sE,fi),hs⟩
  obtain ⟨q,hq⟩:=choose_lt key
  exact ⟨fun x=>(q x).1,fun x=>(q x).2,hq⟩
def z6d (dx dy W H:Int) (m n:Nat) (S:Nat→ByteArray) (d:LisD) (sE:Nat→Int):Int :=
  lisE W H m S n (fun x=>setR (mvI dx dy (d.I x)) none (shL dx dy (d.R x)).length 0) fun x=>(errL (shL dx dy (d.R x)),sE x)
theorem z4b (hl:LisM G B n m d) (hf:1≤m∧m≤8) (hs:MvS dx dy m n d sE f) {SA':Option Addr} {sq':Nat} {A':Option Addr} {cap:Nat} {J:Nat→ItemD} {G':Mem} (hq:m≤sq'∧sq'≤maxLen) (hc:n≤cap∧cap≤maxLen) (hS:SliceM Tryz.prog G' 9 SA' m S) (hI:ItemsM G' A' n J)
    (hJ:∀ x,x<n→MvI dx dy (d.I x) (d.R x) (J x)∧RunsM G' (J x).RA (shL dx dy (d.R x))∧(J x).rn≤(J x).rq∧(J x).rq≤maxLen∧SrcG G' (J x) (d.gs x) (d.gp x) (d.gf x)) :
    Gives Tryz.prog 33 [q2i W H SA' m sq' A' n cap] G' (.val (.int .i64 (z6d dx dy W H m n (fun x=>valS (S x 0)) d sE))) ∧
    Gives Tryz.prog 11 [q2i W H SA' m sq' A' n cap] G' (.val (.int .i64 (z6d dx dy W H m n (fun x=>valS (S x 0)) d sE))):=by
  obtain ⟨c1,c2,_⟩:=z6a (W:=W) (H:=H) (p:=fun x=>(errL (shL dx dy (d.R x)),sE x)) (R:=fun x=>shL dx dy (d.R x)) (f:=f) hq hc (v0x hS) hI (fun _ x hx=>by
    obtain ⟨⟨RA,rq,A2,q2,B2,pq2,C2,sq2,hj⟩,h2,h3,h4,h5⟩:=hJ x hx
    have hal:=(hl.item x hx).al
    rw [hj] at h2 h3 h4 h5 ⊢
    have k:=hs x hx G' A2 q2 B2 pq2 C2 sq2 ⟨h5.stop,h5.pix,h5.soft,h5.ink⟩
    exact ⟨x9q h2 rfl h3 h4,⟨k.prog,k.ref,fun e=>⟨(k.ok e).prog,(k.ok e).ref,(k.ok e).bd⟩⟩,hal⟩)
  have e:=x4z (W:=W) (H:=H) (m:=m) (n:=n) (S:=fun x=>valS (S x 0)) (I:=fun x=>setR (mvI dx dy (d.I x)) none (shL dx dy (d.R x)).length 0) (J:=J) (p:=fun x=>(errL (shL dx dy (d.R x)),sE x)) fun x hx=>by
    obtain ⟨⟨RA,rq,A2,q2,B2,pq2,C2,sq2,hj⟩,_⟩:=hJ x hx
    rw [hj]
    exact ⟨⟨rfl,rfl,rfl,rfl,rfl,rfl⟩,rfl,rfl⟩
  rw [e] at c1 c2
  exact ⟨c1,c2⟩
theorem x2b (hl:LisM G B n m d) (ok:ListOk G W H m n d.I d.f d.R) (he:lisE W H m (fun x=>valS (S x 0)) n d.I d.p=0) (h1:Gives Tryz.prog 33 [q2i W H A m sq B n iq] G (.val (.int .i64 0))) (hS:SliceM Tryz.prog G 9 A m S)
    (hdx:-8192≤dx∧dx≤8192) (hdy:-8192≤dy∧dy≤8192) (hs:MvS dx dy m n d sE f) :
    x1e Tryz.prog 24 [q2i W H A m sq B n iq,.val (.int .i64 dx),.val (.int .i64 dy)] G fun v G' =>
      (z6d dx dy W H m n (fun x=>valS (S x 0)) d sE≠0→v=.tup [z0y,.val (.int .i64 10)]) ∧
      (z6d dx dy W H m n (fun x=>valS (S x 0)) d sE=0→∃ (SA':Option Addr) (sq':Nat) (J:Nat→ItemD) (A':Option Addr) (cap:Nat),v=.tup [q2i W H SA' m sq' A' n cap,.val (.int .i64 0)]∧ItemsM G' A' n J∧n≤cap ∧
        ∀ x,x<n→MvI dx dy (d.I x) (d.R x) (J x)∧RunsM G' (J x).RA (shL dx dy (d.R x))):=by
  have hrows:=hl.rows ok.few he
  have hlen:=ok.len
  have hfew:=ok.few
  refine x69 tab_ok Tryz.func24 (by kernel_rfl) ?_
  refine x18 (R:=d.R) h1 hdx hdy hS hl.items hl.adr (by omega) (by omega) hl.item hrows (fun x hx h0=>⟨rfl,(ok.ok.reg x hx h0).2.2⟩) ?_
  intro SA' sq' J A' cap G' hG hq1 hq2 hS' hI hc1 hc2 hJ
  have hx:∀ x,x<n→MvI dx dy (d.I x) (d.R x) (J x)∧RunsM G' (J x).RA (shL dx dy (d.R x))∧(J x).rn≤(J x).rq∧(J x).rq≤maxLen∧SrcG G' (J x) (d.gs x) (d.gp x) (d.gf x):=fun x hx=>by
    by_cases h0:(d.I x).K=0
    · obtain ⟨⟨RA,rq,A,q,B',pq,C,sq,hj,g1,g2,g3⟩,h4⟩:=hJ.new x hx h0
      dsimp only at hj g3 h4
      rw [hj] at h4 ⊢
      exact ⟨⟨RA,rq,A,q,B',pq,C,sq,rfl⟩,g3,g1,g2,h4⟩
    · obtain ⟨⟨RA,rq,A,q,B',pq,C,sq,hj⟩,h4⟩:=hJ.old x hx (.inr h0)
      dsimp only at hj h4
      obtain ⟨z1,z2⟩:=z8j (z1v he x hx) h0
      have hR0:d.R x=[]:=by unfold LisD.R;rw [z1];rfl
      have hrr:=h4.run
      have hss:=h4.src
      rw [hj] at hrr hss ⊢
      refine ⟨⟨RA,rq,A,q,B',pq,C,sq,?_⟩,?_,hrr.1,hrr.2.1,hss⟩
      · rw [v0y z2,hR0]
        exact x7c z1
      · rw [hR0];exact RunsM.nil _ _
  obtain ⟨c1,_⟩:=z4b (W:=W) (H:=H) hl hfew hs ⟨hq1,hq2⟩ ⟨hc1,hc2⟩ hS' hI hx
  refine ⟨_,c1,fun h0 hp=>⟨rfl,fun _=>rfl,fun e=>absurd e h0⟩,fun h0 hp=>⟨rfl,fun e=>absurd h0 e,fun _=>⟨SA',sq',J,A',cap,rfl,hI,hc1,fun x h=>⟨(hx x h).1,(hx x h).2.1⟩⟩⟩⟩
end
end Go.Proofs.YticolnghiibgfaaGreat
