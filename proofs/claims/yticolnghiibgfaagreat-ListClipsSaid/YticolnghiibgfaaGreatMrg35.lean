/-
  Merged: XLists, XCut, XTiny, XListH, XArg2.
-/
import Derived.Test.YticolnghiibgfaaGreatMrg34
import Derived.Test.YticolnghiibgfaaGreatMrg32
import Derived.Test.YticolnghiibgfaaGreatMrg15
import Derived.Test.YticolnghiibgfaaGreatMrg22
import Derived.Test.YticolnghiibgfaaGreatMrg19
set_option linter.unusedVariables false
set_option linter.unusedSimpArgs false
set_option linter.unnecessarySimpa false
namespace Go.Proofs.YticolnghiibgfaaGreat
open Go.RowKit Go.Deep Go.Proofs.YticolnghiibgfaaGreat.gradientRamps Go.Proofs.YticolnghiibgfaaGreat.gradientPlaces Go.Proofs.YticolnghiibgfaaGreat.imageCells
set_option maxRecDepth 20000
def spF (k:Nat):SrcF:=fun _ _=>(fun j=>if j=0 then (if k=0 then 200 else 100) else 0,255)
def spR (k:Nat):List Run:=if k=0 then q6g 1 1 else [⟨0,0,1⟩]
def spS:Nat→ByteArray:=fun _=>⟨#[98,108,97,99,107]⟩
section
variable {F:Mem} {A:Option Addr} {c b sb ib:Nat}
theorem v09 (h:F ib=some (.cells ((spI A c b 0).cells++(spI A c b 1).cells++(spI A c b 2).cells++(spI A c b 3).cells).toArray 56 (0,0))):ItemsM F (some ⟨ib,0,none⟩) 4 (spI A c b):=fun x hx=>by
  refine ⟨_,rfl,fun K hK=>?_⟩
  match x,hx with
  | 0,_=>exact q3t h (by rfl) (by rfl) (by rfl) hK
  | 1,_=>exact q3t h (by rfl) (by rfl) (by rfl) hK
  | 2,_=>exact q3t h (by rfl) (by rfl) (by rfl) hK
  | 3,_=>exact q3t h (by rfl) (by rfl) (by rfl) hK
theorem v2z (h:F sb=some (.cells #[.string ⟨#[98,108,97,99,107]⟩] 9 (0,0))):StrM F (some ⟨sb,0,none⟩) 1 spS:=fun x hx=>by
  refine ⟨_,rfl,fun K hK=>?_⟩
  match x,hx with
  | 0,_=>exact q3t (vs:=[.string ⟨#[98,108,97,99,107]⟩]) h (by rfl) (by rfl) (by rfl) hK
theorem x8y (h:F b=some (.cells #[.int .i64 0,.int .i64 0,.int .i64 1] 87 (0,0))):RunsM F (some ⟨b,0,none⟩) [⟨0,0,1⟩]:=by
  refine z2z fun j u hj=>?_
  unfold Mem.cell?
  simp only [h]
  simpa [q1a] using hj
theorem v1a:ValidL (q6g 1 1):=q73 (by decide +kernel)
theorem v3q:ValidL [⟨0,0,1⟩]:=q73 (by decide +kernel)
theorem v3r (hR:RunsM F A (q6g 1 1)) (h:F b=some (.cells #[.int .i64 0,.int .i64 0,.int .i64 1] 87 (0,0))) {k:Nat} (hk:k<4) (h0:(spI A c b k).K=0):RegOk F (spI A c b) spR k:=by
  match k,hk with
  | 0,_=>exact ⟨hR,by rfl,v1a⟩
  | 1,_=>exact absurd h0 (by simp [spI])
  | 2,_=>exact ⟨x8y h,by rfl,v3q⟩
  | 3,_=>exact absurd h0 (by simp [spI])
theorem v32 (hR:RunsM F A (q6g 1 1)) (h:F b=some (.cells #[.int .i64 0,.int .i64 0,.int .i64 1] 87 (0,0))):LOk F (spI A c b) spF spR 4:=by
  refine ⟨fun k hk h0=>?_,fun k hk h0=>v3r hR h hk h0,fun k hk h0=>?_,fun k hk h1=>?_,fun k hk h0 h1=>?_,by rfl⟩
  · match k,hk with
    | 0,_=>exact q7y
    | 1,_=>exact absurd h0 (by simp [spI])
    | 2,_=>exact q7y
    | 3,_=>exact absurd h0 (by simp [spI])
  · have key:∀ k:Nat,∀ x y:Int,z0c (spF k x y).1∧0≤(spF k x y).2∧(spF k x y).2≤255:=fun k x y=>by
      refine ⟨fun j hj=>?_,show (0:Int)≤255 by omega,Int.le_refl _⟩
      show 0≤(if j=0 then (if k=0 then (200:Int) else 100) else 0)∧(if j=0 then (if k=0 then (200:Int) else 100) else 0)≤255
      split
      · split <;> omega
      · omega
    match k,hk with
    | 0,_=>exact ⟨show (0:Int)≤255∧(255:Int)≤255 by omega,show (0:Int)≤0∧(0:Int)≤11 by omega,fun x y _ _=>key 0 x y⟩
    | 1,_=>exact absurd h0 (by simp [spI])
    | 2,_=>exact ⟨show (0:Int)≤255∧(255:Int)≤255 by omega,show (0:Int)≤0∧(0:Int)≤11 by omega,fun x y _ _=>key 2 x y⟩
    | 3,_=>exact absurd h0 (by simp [spI])
  · match k,hk with
    | 0,_=>exact absurd h1 (by simp [spI])
    | 1,_=>exact ⟨show (0:Int)≤255∧(255:Int)≤255 by omega,show (0:Int)≤0∧(0:Int)≤11 by omega⟩
    | 2,_=>exact absurd h1 (by simp [spI])
    | 3,_=>exact absurd h1 (by simp [spI])
  · match k,hk with
    | 0,_=>exact absurd rfl h0
    | 1,_=>exact absurd rfl h1
    | 2,_=>exact absurd rfl h0
    | 3,_=>exact Nat.le_refl 2
theorem x4q:q43 (spI A c b) 4=[.fill 0,.group 1 [.fill 2]]:=by rfl
set_option maxHeartbeats 4000000 in
theorem q8f {I:Nat→Int} {m:Nat} (hm:1≤m∧m≤8) (hI:fewB I m=true):Gives Tryz.prog 76 [srcA 0 I 0 0 0 0 0 (.slice none 0 0) 0 0 (.slice none 0 0) (.slice none 0 0) 0 0 0 0 0 0 false false,.val (.int .i64 m)] F (.val (.int .i64 0)):=by
  have gz:=q98 (k:=0) (I:=I) (fx:=0) (fy:=0) (tx:=0) (ty:=0) (r:=0) (A:=none) (n:=0) (q:=0) (W:=0) (H:=0) (B:=none) (pn:=0) (pq:=0) (C:=none) (sn:=0) (sq:=0) (a:=0) (b:=0) (c:=0) (d:=0) (e:=0) (f:=0) (s:=false) (t:=false) (G:=F)
  have gp:=q82 (W:=0) (H:=0) (B:=none) (pn:=0) (pq:=0) (C:=none) (sn:=0) (sq:=0) (a:=0) (b:=0) (c:=0) (d:=0) (e:=0) (f:=0) (s:=false) (t:=false) (G:=F)
  have gw:=q7j (I:=I) (G:=F) hm
  rw [hI] at gw
  rw [show q3s 0 0 0 0 0 0=true from rfl] at gz
  rw [show q1i 0 0 0 0 0 0 0 0 0 0 false false=true from rfl] at gp
  refine q0r tab_ok Tryz.func76 ?_
  (repeat ((try (conv=>whnf));(first |(refine stQ ?_) |(with_reducible first |refine q0c (fun vs w=>by kernel_rfl) (by kernel_rfl) (gz) ?_ |refine q0a (fun vs w=>by kernel_rfl) (by kernel_rfl) (gz) ?_ |refine q0c (fun vs w=>by kernel_rfl) (by kernel_rfl) (gp) ?_ |refine q0a (fun vs w=>by kernel_rfl) (by kernel_rfl) (gp) ?_ |refine q0c (fun vs w=>by kernel_rfl) (by kernel_rfl) (gw) ?_ |refine q0a (fun vs w=>by kernel_rfl) (by kernel_rfl) (gw) ?_))))
  exact ⟨rfl,rfl⟩
theorem v20 (hR:RunsM F A (q6g 1 1)) (hc:16≤c∧c≤maxLen) (h:F b=some (.cells #[.int .i64 0,.int .i64 0,.int .i64 1] 87 (0,0))) {k:Nat} (hk:k<4) {o:Int} :
    Gives Tryz.prog 52 [q6k (spI A c b k),.val (.int .i64 1),.val (.int .i64 o)] F (.val (.int .i64 (q2p (spI A c b k).K (spI A c b k).rn (spI A c b k).nos (spI A c b k).al (spI A c b k).bl (spI A c b k).ov (spI A c b k).iso (spI A c b k).kn o 0 0))):=by
  match k,hk with
  | 0,_ =>
    have h1:=_root_.Go.Proofs.YticolnghiibgfaaGreat.Check_gives hR hc.1 hc.2
    exact q4w h1 (q8f ⟨Nat.le_refl 1,by decide⟩ (by rfl))
  | 1,_ =>
    have h1:=_root_.Go.Proofs.YticolnghiibgfaaGreat.Check_gives (G:=F) (A:=none) (L:=[]) (c:=0) (fun i r hr=>by simp at hr) (Nat.le_refl _) (Nat.zero_le _)
    exact q4w h1 (q8f ⟨Nat.le_refl 1,by decide⟩ (by rfl))
  | 2,_ =>
    have h1:=_root_.Go.Proofs.YticolnghiibgfaaGreat.Check_gives (x8y h) (c:=1) (Nat.le_refl _) (by decide)
    exact q4w h1 (q8f ⟨Nat.le_refl 1,by decide⟩ (by rfl))
  | 3,_ =>
    have h1:=_root_.Go.Proofs.YticolnghiibgfaaGreat.Check_gives (G:=F) (A:=none) (L:=[]) (c:=0) (fun i r hr=>by simp at hr) (Nat.le_refl _) (Nat.zero_le _)
    exact q4w h1 (q8f ⟨Nat.le_refl 1,by decide⟩ (by rfl))
theorem v1b (hR:RunsM F A (q6g 1 1)) (hc:16≤c∧c≤maxLen) (h:F b=some (.cells #[.int .i64 0,.int .i64 0,.int .i64 1] 87 (0,0))) (hS:StrM F (some ⟨sb,0,none⟩) 1 spS) (hI:ItemsM F (some ⟨ib,0,none⟩) 4 (spI A c b)) :
    Gives Tryz.prog 33 [q2s 1 1 (some ⟨sb,0,none⟩) 1 1 (some ⟨ib,0,none⟩) 4 4] F (.val (.int .i64 0)):=by
  have:=q70 (W:=1) (H:=1) (iq:=4) (sq:=1) hS hI (Nat.le_refl _) (fun _ x hx o h0 h1=>v20 hR hc h hx) (z4g (I:=spI A c b) (rE:=fun _=>0) (sE:=fun _=>0)) (by omega) (by omega)
  exact this
theorem v21:q3z (spI A c b) spF spR 4 1 0 0=fun o=>if o=0 then 100 else 0:=by
  unfold q3z
  rw [x4q]
  funext o
  by_cases ho:o<1
  · obtain rfl:o=0:=by omega
    simp only [evL,evT,covL,covT,rowI,q0n,spI,spR,spF,Bool.or_false,if_true,if_false]
    kernel_rfl
  · unfold rowI;rw [if_neg ho,if_neg (by omega)]
theorem v22:q3z (spI A c b) spF spR 4 1 1 0=fun o=>if o=0 then 200 else 0:=by
  unfold q3z
  rw [x4q]
  funext o
  by_cases ho:o<1
  · obtain rfl:o=0:=by omega
    simp only [evL,evT,covL,covT,rowI,q0n,spI,spR,spF,Bool.or_false,if_true,if_false]
    kernel_rfl
  · unfold rowI;rw [if_neg ho,if_neg (by omega)]
end
set_option maxHeartbeats 8000000 in
theorem x3u {G:Mem}:Gives Tryz.prog 9 [] G (.val (.bool true)):=by
  refine q0r tab_ok Tryz.func9 ?_
  have key:∀ (x:Int),x=0∨x=1→∀ (F:Mem) (A:Option Addr) (c b sb ib:Nat),RunsM F A (q6g 1 1)→16≤c→c≤maxLen →
    F sb=some (.cells #[.string ⟨#[98,108,97,99,107]⟩] 9 (0,0))→F b=some (.cells #[.int .i64 0,.int .i64 0,.int .i64 1] 87 (0,0))→F ib=some (.cells ((spI A c b 0).cells++(spI A c b 1).cells++(spI A c b 2).cells++(spI A c b 3).cells).toArray 56 (0,0)) →
    Gives Tryz.prog 10 [q2s 1 1 (some ⟨sb,0,none⟩) 1 1 (some ⟨ib,0,none⟩) 4 4,.val (.int .i64 x),.val (.int .i64 0)] F (.tup [inA (fun o=>if o=0 then (if x=0 then 100 else 200) else 0),.val (.int .i64 0)]):=by
    intro x hx F A c b sb ib hR h1 h2 h3 h4 h5
    have hI:=v09 h5
    have r:=x2s (x:=x) (y:=0) (v1b hR ⟨h1,h2⟩ h4 (v2z h3) hI) hI (by omega) (by omega) (by omega) (by omega) (v32 hR h4) (by omega) (by omega)
    rcases hx with rfl |rfl
    · rw [v21] at r;exact r
    · rw [v22] at r;exact r
  (repeat ((try (conv=>whnf));(refine stQ ?_)))
  conv=>whnf
  refine z0b (fun vs w=>by kernel_rfl) (by rfl) z1t ?_
  rintro v F hF ⟨A,c,b,sb,ib,rfl,q1,q2,q3,q4,q5,q6⟩
  have k0:=key 0 (.inl rfl) F A c b sb ib q1 q2 q3 q4 q5 q6
  (repeat ((try (conv=>whnf));(first |((refine z0x [.int .i64 1,.int .i64 1,.slice (some ⟨sb,0,none⟩) 1 1,.slice (some ⟨ib,0,none⟩) 4 4] ?_);(dsimp only [List.map])) |(refine stQ ?_) |(with_reducible first |refine q0c (fun vs w=>by kernel_rfl) (by kernel_rfl) (k0) ?_ |refine q0a (fun vs w=>by kernel_rfl) (by kernel_rfl) (k0) ?_))))
  conv=>whnf
  refine z0b (fun vs w=>by kernel_rfl) (by rfl) z1t ?_
  rintro v F hF ⟨A,c,b,sb,ib,rfl,q1,q2,q3,q4,q5,q6⟩
  have k1:=key 1 (.inr rfl) F A c b sb ib q1 q2 q3 q4 q5 q6
  (repeat ((try (conv=>whnf));(first |((refine z0x [.int .i64 1,.int .i64 1,.slice (some ⟨sb,0,none⟩) 1 1,.slice (some ⟨ib,0,none⟩) 4 4] ?_);(dsimp only [List.map])) |(refine stQ ?_) |(with_reducible first |refine q0c (fun vs w=>by kernel_rfl) (by kernel_rfl) (k1) ?_ |refine q0a (fun vs w=>by kernel_rfl) (by kernel_rfl) (k1) ?_))))
  conv=>whnf
  exact ⟨rfl,rfl⟩
end Go.Proofs.YticolnghiibgfaaGreat
namespace Go.Proofs.YticolnghiibgfaaGreat
open Go.RowKit
set_option maxRecDepth 20000
theorem z45 (x lo hi:Int) (h:-1000000≤lo∧lo≤hi∧hi≤1000000):∃ s:Int,(lo≤s∧s≤hi)∧∀ G,Gives Tryz.prog 30 [.val (.int .i64 x),.val (.int .i64 lo),.val (.int .i64 hi)] G (.val (.int .i64 s)):=by
  have h1:=Int.tmod_lt_of_pos x (show (0:Int)<hi-lo+1 by omega)
  have h2:-(hi-lo+1)<x.tmod (hi-lo+1):=Int.lt_tmod_of_pos x (by omega)
  have h3:=Int.tmod_lt_of_pos (x.tmod (hi-lo+1)+(hi-lo+1)) (show (0:Int)<hi-lo+1 by omega)
  have h4:0≤(x.tmod (hi-lo+1)+(hi-lo+1)).tmod (hi-lo+1):=Int.tmod_nonneg _ (by omega)
  refine ⟨lo+(x.tmod (hi-lo+1)+(hi-lo+1)).tmod (hi-lo+1),by omega,fun G=>?_⟩
  refine q0r tab_ok Tryz.func30 ?_
  (repeat ((try (conv=>whnf));(refine stQ ?_)))
  exact ⟨rfl,rfl⟩
end Go.Proofs.YticolnghiibgfaaGreat
namespace Go.Proofs.YticolnghiibgfaaGreat
open Go.RowKit
set_option maxRecDepth 20000
theorem SliceG.less {P:Program} {w:World} {e:TypeId} {A:Option Addr} {n m:Nat} {g:Nat→Nat→Value} (h:SliceG P w e A n g) (hm:m≤n):SliceG P w e A m g:=fun h0=>by
  obtain ⟨b,off,h1,h2,h3⟩:=h (by omega)
  exact ⟨b,off,h1,h2,fun x hx=>h3 x (by omega)⟩
theorem cutA {c k:Nat} {A:Option Addr}:(if c=((0:Nat):Int).toNat then A else A.map (·.add (((0:Nat):Int).toNat * k)))=A:=by
  split
  · rfl
  · cases A with
    | none=>rfl
    | some a=>simp [Addr.add]
end Go.Proofs.YticolnghiibgfaaGreat
namespace Go.Proofs.YticolnghiibgfaaGreat
open Go.RowKit Go.Deep
set_option maxRecDepth 20000
theorem q5f {G:Mem}:Gives Tryz.prog 21 [z8z] G (.val (.bool true)):=by
  refine q0r tab_ok Tryz.func21 ?_
  (repeat ((try (conv=>whnf));(refine stQ ?_)))
  exact ⟨rfl,rfl⟩
set_option maxHeartbeats 4000000 in
theorem z1u {G:Mem} {i j:ItemD} (h:SameI i j):Gives Tryz.prog 22 [q6k j,q6k i] G (.val (.bool true)):=by
  obtain ⟨K,RA,rn,rq,k,I,fx,fy,tx,ty,r,A,n,q,W,H,B,pn,pq,C,sn,sq,a,b,c,d,e,f,s,t,al,bl,ov,iso,kn⟩:=i
  obtain ⟨K',RA',rn',rq',k',I',fx',fy',tx',ty',r',A',n',q',W',H',B',pn',pq',C',sn',sq',a',b',c',d',e',f',s',t',al',bl',ov',iso',kn'⟩:=j
  obtain ⟨h1,h2,h3,h4,h5,h6⟩:=h
  dsimp only at h1 h2 h3 h4 h5 h6
  subst h1;subst h2;subst h3;subst h4;subst h5;subst h6
  refine q0r tab_ok Tryz.func22 ?_
  simp only [q6k]
  cases ov' <;> cases iso' <;> cases kn' <;> ((repeat ((try (conv=>whnf));(first |(with_reducible refine q6z (by kernel_rfl) ?_) |(refine stQ ?_))))) <;> exact ⟨rfl,rfl⟩
theorem x8z (x y:Int):hasL [] x y=false:=rfl
structure LisD where
  I:Nat→ItemD
  gr:Nat→Nat→Nat→Value
  gs:Nat→Nat→Nat→Value
  gp:Nat→Nat→Nat→Value
  gf:Nat→Nat→Nat→Value
  sE:Nat→Int
  f:Nat→SrcF
def LisD.R (d:LisD) (x:Nat):List Run:=q2o (fun j=>⟨valI (d.gr x j 0),valI (d.gr x j 1),valI (d.gr x j 2)⟩) (d.I x).rn
def LisD.p (d:LisD) (x:Nat):Int × Int:=(errL (d.R x),d.sE x)
structure LisM (G:Mem) (B:Option Addr) (n m:Nat) (d:LisD):Prop where
  items:ItemsM G B n d.I
  adr:0<n→∀ p,B=some p→∃ b off,p=⟨b,off,none⟩
  item:∀ x,x<n→ItemG G (d.I x) (d.gr x) (d.gs x) (d.gp x) (d.gf x)
  src:(1≤m∧m≤8)→∀ x,x<n→∀ (G':Mem) (A:Option Addr) (q:Nat) (B:Option Addr) (pq:Nat) (C:Option Addr) (sq:Nat),SrcG G' (setS (d.I x) A q B pq C sq) (d.gs x) (d.gp x) (d.gf x)→SrcE G' (setS (d.I x) A q B pq C sq) m (d.sE x) (d.f x)
  bd:(1≤m∧m≤8)→∀ x,x<n→d.sE x=0→(d.I x).n≤1000000000∧(d.I x).pn≤1000000000∧(d.I x).sn≤1000000000
theorem v33 {w:World} {B:Option Addr} {n:Nat} {gi:Nat→Nat→Value} (h:SliceG Tryz.prog w 56 B n gi) (m:Nat):∃ d,LisM (q2x w) B n m d∧d.I=fun x=>q3l (gi x):=by
  have key:∀ x,x<n→∃ q:(Nat→Nat→Value) × (Nat→Nat→Value) × (Nat→Nat→Value) × (Nat→Nat→Value) × Int × SrcF,ItemG (q2x w) (q3l (gi x)) q.1 q.2.1 q.2.2.1 q.2.2.2.1 ∧
      ((1≤m∧m≤8)→(q.2.2.2.2.1=0→(q3l (gi x)).n≤1000000000∧(q3l (gi x)).pn≤1000000000∧(q3l (gi x)).sn≤1000000000)∧∀ (G':Mem) (A:Option Addr) (q':Nat) (B:Option Addr) (pq:Nat) (C:Option Addr) (sq:Nat),SrcG G' (setS (q3l (gi x)) A q' B pq C sq) q.2.1 q.2.2.1 q.2.2.2.1→SrcE G' (setS (q3l (gi x)) A q' B pq C sq) m q.2.2.2.2.1 q.2.2.2.2.2):=fun x hx=>by
    obtain ⟨gr,gs,gp,gf,hI⟩:=x8s h hx
    by_cases hm:1≤m∧m≤8
    · obtain ⟨sE,fi,hbd,hs⟩:=v3x (i:=q3l (gi x)) (m:=m) hm ⟨q2x w,(q3l (gi x)).A,(q3l (gi x)).q,(q3l (gi x)).B,(q3l (gi x)).pq,(q3l (gi x)).C,(q3l (gi x)).sq,hI.src⟩
      exact ⟨(gr,gs,gp,gf,sE,fi),hI,fun _=>⟨hbd,hs⟩⟩
    · exact ⟨(gr,gs,gp,gf,0,fun _ _=>(fun _=>0,0)),hI,fun h=>absurd h hm⟩
  obtain ⟨q,hq⟩:=choose_lt key
  refine ⟨⟨fun x=>q3l (gi x),fun x=>(q x).1,fun x=>(q x).2.1,fun x=>(q x).2.2.1,fun x=>(q x).2.2.2.1,fun x=>(q x).2.2.2.2.1,fun x=>(q x).2.2.2.2.2⟩,⟨v2i h,fun e p hp=>?_,fun x hx=>(hq x hx).1,fun hm x hx=>((hq x hx).2 hm).2,fun hm x hx=>((hq x hx).2 hm).1⟩,rfl⟩
  obtain ⟨b,off,hA,_⟩:=h e
  rw [hp] at hA;cases hA
  exact ⟨b,off,rfl⟩
section
variable {G:Mem} {B:Option Addr} {n m:Nat} {d:LisD}
theorem LisM.ite (h:LisM G B n m d) (hm:1≤m∧m≤8) {x:Nat} (hx:x<n):ItE G (d.I x) m (d.p x) (d.R x) (d.f x):=by
  have hi:=h.item x hx
  exact ⟨v1v (z44 hi.run.2.2) (q4j _ _).symm hi.run.1 hi.run.2.1,h.src hm x hx G _ _ _ _ _ _ hi.src,hi.al⟩
theorem x80 {i:ItemD} {gr gs gp gf:Nat→Nat→Value} {G:Mem} {m:Nat} {o rE sE:Int} (h:q2p i.K i.rn i.nos i.al i.bl i.ov i.iso i.kn o rE sE=0) (hr:rE=0→i.rn≤1000000000) (hs:i.K=0→sE=0→i.n≤1000000000∧i.pn≤1000000000∧i.sn≤1000000000):i.rn≤1000000000∧i.n≤1000000000∧i.pn≤1000000000∧i.sn≤1000000000:=by
  obtain ⟨hK,_,_,_,h0⟩:=z2w h
  by_cases k0:i.K=0
  · obtain ⟨e1,e2⟩:=h0 k0
    exact ⟨hr e1,hs k0 e2⟩
  · have hn:i.rn=0∧i.nos=true:=by
      unfold q2p at h
      split at h
      · omega
      split at h
      · omega
      · rename_i g1 g2
        rcases hK.resolve_left k0 with k1 |k2
        · have:¬ (0<i.rn∨i.ov=true∨i.nos=false):=fun hc=>g2 (.inr (.inl ⟨k1,hc⟩))
          simp at this
          exact ⟨by omega,this.2.2⟩
        · have:¬ (0<i.rn∨i.ov=true∨i.nos=false∨i.iso=true∨i.kn=true∨¬ i.al=0∨¬ i.bl=0):=fun hc=>g2 (.inr (.inr ⟨k2,hc⟩))
          simp at this
          exact ⟨by omega,this.2.2.1⟩
    have h3:=hn.2
    unfold ItemD.nos nosB q3s q1i at h3
    simp at h3
    omega
theorem z21 {L:List Run} (v:ValidL L):L.length≤1000000000:=by
  have:=v.length
  omega
theorem LisM.rows (h:LisM G B n m d) (hm:1≤m∧m≤8) {W H:Int} {S:Nat→ByteArray} (he:lisE W H m S n d.I d.p=0):∀ x,x<n→(d.I x).rn≤1000000000∧(d.I x).n≤1000000000∧(d.I x).pn≤1000000000∧(d.I x).sn≤1000000000:=fun x hx =>
  x80 (gr:=d.gr x) (gs:=d.gs x) (gp:=d.gp x) (gf:=d.gf x) (G:=G) (m:=m) (z2y he x hx) (fun e=>by
    have:=z21 (q73 e)
    unfold LisD.R at this
    rw [q4j] at this
    exact this) fun _ e=>h.bd hm x hx e
theorem LisM.mono {G':Mem} (h:LisM G B n m d) (hG:G.le G'):LisM G' B n m d:=⟨h.items.mono hG,h.adr,fun x hx=>(h.item x hx).mono hG,h.src,h.bd⟩
theorem LisM.less {k:Nat} (h:LisM G B n m d) (hk:k≤n):LisM G B k m d :=
  ⟨fun x hx=>h.items x (by omega),fun h0 p hp=>h.adr (by omega) p hp,fun x hx=>h.item x (by omega),fun hm x hx=>h.src hm x (by omega),fun hm x hx=>h.bd hm x (by omega)⟩
theorem z80 {A:Option Addr} {g:Nat→Nat→Value} (h:SliceM Tryz.prog G 9 A n g):StrM G A n (fun x=>valS (g x 0)):=by
  have e1:Tryz.prog.cellsOf 9=1:=by kernel_rfl
  have ef:flat Tryz.prog 20 9=[.string]:=by kernel_rfl
  intro x hx
  obtain ⟨⟨w0,A0,h0⟩,h1⟩:=h
  obtain ⟨s,hs,_⟩:=h0.seen (j:=0) (by kernel_rfl) hx (by rw [ef];rfl)
  obtain ⟨b,off,rfl,hc⟩:=h1 (by omega)
  rw [e1] at hc
  refine ⟨⟨b,off,none⟩,rfl,fun K k=>?_⟩
  refine q1j _ rfl (fun j u hj=>?_) k
  rw [q0m,q0m]
  match j,hj with
  | 0,hj =>
    simp at hj
    rw [← hj,hc x hx 0 (by omega),hs]
    rfl
theorem x4r {W H:Int} {S:Nat→Nat→Value} {M:List Run} {SA' A1:Option Addr} {sq' cap:Nat} {J:Nat→ItemD} {G1 G2:Mem} (hl:LisM G B n m d) (ok:ListOk G W H m n d.I d.f d.R) (he:lisE W H m (fun x=>valS (S x 0)) n d.I d.p=0) (vM:ValidL M) (hle:G1.le G2)
    (hJ:ClipInv d.I d.R M d.gr d.gs d.gp d.gf n G ⟨n,J,G1⟩) (hS:SliceM Tryz.prog G1 9 SA' m S) (hI:ItemsM G2 A1 n J) (hq:m≤sq'∧sq'≤maxLen) (hc:n≤cap∧cap≤maxLen) :
    Gives Tryz.prog 33 [q2s W H SA' m sq' A1 n cap] G2 (.val (.int .i64 0))∧ListOk G2 W H m n J d.f (fun x=>mixR 1 (d.R x) M) ∧
      ∀ x,x<n→SameI (d.I x) (J x)∧ValidL (d.R x)∧RunsM G2 (J x).RA (mixR 1 (d.R x) M)∧(J x).rn=(mixR 1 (d.R x) M).length:=by
  have hrun:∀ x,x<n→SameI (d.I x) (J x)∧ValidL (d.R x)∧RunsM G2 (J x).RA (mixR 1 (d.R x) M)∧(J x).rn=(mixR 1 (d.R x) M).length∧(J x).rn≤(J x).rq∧(J x).rq≤maxLen∧SrcE G2 (J x) m (d.sE x) (d.f x)∧(0≤(J x).al∧(J x).al≤255)∧((J x).K≠0→(J x).rn=(d.I x).rn)∧(J x).nos=(d.I x).nos:=fun x hx=>by
    have hit:=z2y he x hx
    by_cases h0:(d.I x).K=0
    · obtain ⟨⟨RA,rq,A,q,B',pq,C,sq,hj,h1,h2,h3⟩,h4⟩:=hJ.new x hx h0
      dsimp only at hj h3 h4
      rw [hj] at h4 ⊢
      have h5:=h4.mono hle
      have hs:=hl.src ok.few x hx G2 A q B' pq C sq ⟨h5.stop,h5.pix,h5.soft,h5.ink⟩
      exact ⟨⟨rfl,rfl,rfl,rfl,rfl,rfl⟩,(ok.ok.reg x hx h0).2.2,h3.mono hle,rfl,h1,h2,⟨hs.prog,hs.ref,fun e=>⟨(hs.ok e).prog,(hs.ok e).ref,(hs.ok e).bd⟩⟩,(hl.item x hx).al,fun e=>absurd h0 e,rfl⟩
    · obtain ⟨⟨RA,rq,A,q,B',pq,C,sq,hj⟩,h4⟩:=hJ.old x hx (.inr h0)
      dsimp only at hj h4
      have hn0:(d.I x).rn=0:=by
        obtain ⟨hK,_⟩:=z2w hit
        unfold q2p at hit
        split at hit
        · omega
        split at hit
        · omega
        · rename_i g1 g2
          rcases hK.resolve_left h0 with k1 |k2
          · have:¬ (0<(d.I x).rn):=fun hc=>g2 (.inr (.inl ⟨k1,.inl hc⟩))
            omega
          · have:¬ (0<(d.I x).rn):=fun hc=>g2 (.inr (.inr ⟨k2,.inl hc⟩))
            omega
      have hR0:d.R x=[]:=by unfold LisD.R;rw [hn0];rfl
      have v0:ValidL []:=q73 (by decide)
      have hm0:mixR 1 [] M=[]:=(z8t v0 vM (M:=[]) (by simp [okR]) (fun a b=>by simp [hasR,opB,x8z])).symm
      have hsr:SrcG G1 (J x) (d.gs x) (d.gp x) (d.gf x):=h4.src
      have hrr:=h4.run
      rw [hj] at hsr hrr ⊢
      have hs:=hl.src ok.few x hx G2 A q B' pq C sq ⟨⟨hsr.stop.1,hsr.stop.2.1,hsr.stop.2.2.mono hle⟩,⟨hsr.pix.1,hsr.pix.2.1,hsr.pix.2.2.mono hle⟩,⟨hsr.soft.1,hsr.soft.2.1,hsr.soft.2.2.mono hle⟩,hsr.ink⟩
      rw [hR0,hm0]
      exact ⟨⟨rfl,rfl,rfl,rfl,rfl,rfl⟩,v0,RunsM.nil _ _,hn0,hrr.1,hrr.2.1,⟨hs.prog,hs.ref,fun e=>⟨(hs.ok e).prog,(hs.ok e).ref,(hs.ok e).bd⟩⟩,(hl.item x hx).al,fun _=>rfl,rfl⟩
  obtain ⟨c1,c2,c3⟩:=q9g (W:=W) (H:=H) (p:=fun x=>(errL (mixR 1 (d.R x) M),d.sE x)) (R:=fun x=>mixR 1 (d.R x) M) (f:=d.f) hq hc (z80 (hS.mono hle)) hI (fun hm8 x hx=>by
    obtain ⟨_,_,r1,r2,r3,r4,r5,r6,_⟩:=hrun x hx
    exact ⟨v1v r1 r2 r3 r4,r5,r6⟩)
  have hz:lisE W H m (fun x=>valS (S x 0)) n J (fun x=>(errL (mixR 1 (d.R x) M),d.sE x))=0:=by
    rw [z2x ok.few] at he ⊢
    refine x6g he (fun x hx=>(hrun x hx).1.K) fun x hx=>?_
    have hit:=z2y (by rw [z2x ok.few];exact he) x hx
    obtain ⟨s1,v1,_,_,_,_,_,_,r7,r8⟩:=hrun x hx
    have hd:q0v (fun x=>(J x).K) x=q0v (fun x=>(d.I x).K) x:=z0i (n:=n) (fun y hy=>(hrun y hy).1.K) x (by omega)
    dsimp only
    rw [hd,z4h (z2u v1 vM),r8,s1.K,s1.al,s1.bl,s1.ov,s1.iso,s1.kn]
    by_cases h0:(d.I x).K=0
    · obtain ⟨e1,e2⟩:=(z2w hit).2.2.2.2 h0
      unfold q2p at hit ⊢
      rw [h0] at hit ⊢
      simp at hit ⊢
      split at hit
      · omega
      · rename_i g
        rw [if_neg g]
        split at hit
        · omega
        · rename_i g2
          rw [if_neg g2];exact e2
    · rw [r7 (by rw [s1.K];exact h0)]
      unfold q2p at hit ⊢
      simp only [h0,not_false_eq_true,if_true] at hit ⊢
      exact hit
  rw [hz] at c1
  exact ⟨c1,c3 hz,fun x hx=>⟨(hrun x hx).1,(hrun x hx).2.1,(hrun x hx).2.2.1,(hrun x hx).2.2.2.1⟩⟩
end
end Go.Proofs.YticolnghiibgfaaGreat
namespace Go.Proofs.YticolnghiibgfaaGreat
open Go.RowKit
theorem z7x {P:Program} {f:FuncId} (hen:∀ vs w,(callFunc f vs).run P w=.ok (.enter f vs) w) {k:Nat} {a:Value} {hp:List Blk} {G:Mem} {K:AV→List Blk→Mem→Prop} {E:TypeId} {sz n:Nat} {xs:List Value} (hk:nthB hp k=.own E sz n xs)
    (h:∀ A cap G',G.le G'→n≤cap→cap≤maxLen→FlatM G' A xs→setF hp k .gone fun hp'=>CallP P f [.val a,.val (.slice A n cap)] hp' G' K):CallP P f [.val a,.own k] hp G K:=by
  refine ⟨hen,fun w0 G0 β w vs hr ha=>?_⟩
  simp only [AV.rels] at ha
  obtain ⟨v1,ts1,hvs,hv1,v2,ts2,hts1,hv2,rfl⟩:=ha
  have hv1':=hv1
  simp only [AV.rel] at hv1 hv2
  obtain ⟨A,cap,G',rfl,hle,hnc,hcm,hF,hr2⟩:=hr.freeze hv2.1 hk
  have h0:=h A cap G' hle hnc hcm hF
  rw [q1r] at h0
  refine h0.calls w0 G0 β w vs hr2 ?_
  simp only [AV.rels,AV.rel]
  exact ⟨v1,ts1,hvs,hv1,_,[],hts1,rfl,rfl⟩
end Go.Proofs.YticolnghiibgfaaGreat
