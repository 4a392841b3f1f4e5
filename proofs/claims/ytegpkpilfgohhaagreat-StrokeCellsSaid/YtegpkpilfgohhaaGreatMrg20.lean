/-
  Merged: XStyE, XOutline, XStrokes, XWindLaw.
-/
import Derived.Test.YtegpkpilfgohhaaGreatMrg10
import Derived.Test.YtegpkpilfgohhaaGreatMrg12
import Derived.Test.YtegpkpilfgohhaaGreatMrg19
import Derived.Test.YtegpkpilfgohhaaGreatMrg9
set_option linter.unusedVariables false
set_option linter.unusedSimpArgs false
set_option linter.unnecessarySimpa false
namespace Go.Proofs.YtegpkpilfgohhaaGreat
open Go.RowKit
set_option maxRecDepth 20000
def styE (s:Sty):Int :=
  if ¬ (1≤s.w∧s.w≤1024) then 3 else if ¬ ((0≤s.cap∧s.cap≤2)∧(0≤s.join∧s.join≤2)) then 1 else if ¬ (16≤s.lim∧s.lim≤1024) then 3 else 0
theorem q6t {s:Sty} (h:styE s=0):StyOk s:=by
  unfold styE at h
  split at h
  · omega
  · split at h
    · omega
    · split at h
      · omega
      · rename_i h1 h2 h3
        simp only [Classical.not_not] at h1 h2 h3
        exact ⟨h1,h2.1,h2.2,h3⟩
section
variable {G:Mem} {s:Sty}
set_option maxHeartbeats 8000000 in
theorem q67:Gives Tryz.prog 34 [styA s] G (.val (.int .i64 (styE s))):=by
  refine q06 tab_ok Tryz.func34 ?_
  unfold styE
  rcases (show s.w<1∨1024<s.w∨(1≤s.w∧s.w≤1024) by omega) with h |h |h
  · rw [if_pos (by omega)]
    (repeat ((try (conv=>whnf));(refine stQ ?_)))
    exact ⟨rfl,rfl⟩
  · rw [if_pos (by omega)]
    (repeat ((try (conv=>whnf));(refine stQ ?_)))
    exact ⟨rfl,rfl⟩
  rw [if_neg (by omega)]
  rcases (show s.cap<0∨2<s.cap∨(0≤s.cap∧s.cap≤2) by omega) with h1 |h1 |h1
  · rw [if_pos (by omega)]
    (repeat ((try (conv=>whnf));(refine stQ ?_)))
    exact ⟨rfl,rfl⟩
  · rw [if_pos (by omega)]
    (repeat ((try (conv=>whnf));(refine stQ ?_)))
    exact ⟨rfl,rfl⟩
  rcases (show s.join<0∨2<s.join∨(0≤s.join∧s.join≤2) by omega) with h2 |h2 |h2
  · rw [if_pos (by omega)]
    (repeat ((try (conv=>whnf));(refine stQ ?_)))
    exact ⟨rfl,rfl⟩
  · rw [if_pos (by omega)]
    (repeat ((try (conv=>whnf));(refine stQ ?_)))
    exact ⟨rfl,rfl⟩
  rw [if_neg (by omega)]
  rcases (show s.lim<16∨1024<s.lim∨(16≤s.lim∧s.lim≤1024) by omega) with h3 |h3 |h3
  · rw [if_pos (by omega)]
    (repeat ((try (conv=>whnf));(refine stQ ?_)))
    exact ⟨rfl,rfl⟩
  · rw [if_pos (by omega)]
    (repeat ((try (conv=>whnf));(refine stQ ?_)))
    exact ⟨rfl,rfl⟩
  rw [if_neg (by omega)]
  (repeat ((try (conv=>whnf));(refine stQ ?_)))
  exact ⟨rfl,rfl⟩
set_option maxHeartbeats 8000000 in
theorem x0y:Gives Tryz.prog 7 [styA s] G (.val (.int .i64 (styE s))):=by
  refine q06 tab_ok Tryz.func7 ?_
  unfold styE
  rcases (show s.w<1∨1024<s.w∨(1≤s.w∧s.w≤1024) by omega) with h |h |h
  · rw [if_pos (by omega)]
    (repeat ((try (conv=>whnf));(first |(refine stQ ?_) |(with_reducible refine q0f tab_ok Tryz.func24 (fun vs w=>by kernel_rfl) (by rfl) ?_))))
    exact ⟨rfl,rfl⟩
  · rw [if_pos (by omega)]
    (repeat ((try (conv=>whnf));(first |(refine stQ ?_) |(with_reducible refine q0f tab_ok Tryz.func24 (fun vs w=>by kernel_rfl) (by rfl) ?_))))
    exact ⟨rfl,rfl⟩
  rw [if_neg (by omega)]
  rcases (show s.cap<0∨2<s.cap∨(0≤s.cap∧s.cap≤2) by omega) with h1 |h1 |h1
  · rw [if_pos (by omega)]
    (repeat ((try (conv=>whnf));(first |(refine stQ ?_) |(with_reducible refine q0f tab_ok Tryz.func24 (fun vs w=>by kernel_rfl) (by rfl) ?_))))
    exact ⟨rfl,rfl⟩
  · rw [if_pos (by omega)]
    (repeat ((try (conv=>whnf));(first |(refine stQ ?_) |(with_reducible refine q0f tab_ok Tryz.func24 (fun vs w=>by kernel_rfl) (by rfl) ?_))))
    exact ⟨rfl,rfl⟩
  rcases (show s.join<0∨2<s.join∨(0≤s.join∧s.join≤2) by omega) with h2 |h2 |h2
  · rw [if_pos (by omega)]
    (repeat ((try (conv=>whnf));(first |(refine stQ ?_) |(with_reducible refine q0f tab_ok Tryz.func24 (fun vs w=>by kernel_rfl) (by rfl) ?_))))
    exact ⟨rfl,rfl⟩
  · rw [if_pos (by omega)]
    (repeat ((try (conv=>whnf));(first |(refine stQ ?_) |(with_reducible refine q0f tab_ok Tryz.func24 (fun vs w=>by kernel_rfl) (by rfl) ?_))))
    exact ⟨rfl,rfl⟩
  rw [if_neg (by omega)]
  rcases (show s.lim<16∨1024<s.lim∨(16≤s.lim∧s.lim≤1024) by omega) with h3 |h3 |h3
  · rw [if_pos (by omega)]
    (repeat ((try (conv=>whnf));(first |(refine stQ ?_) |(with_reducible refine q0f tab_ok Tryz.func24 (fun vs w=>by kernel_rfl) (by rfl) ?_))))
    exact ⟨rfl,rfl⟩
  · rw [if_pos (by omega)]
    (repeat ((try (conv=>whnf));(first |(refine stQ ?_) |(with_reducible refine q0f tab_ok Tryz.func24 (fun vs w=>by kernel_rfl) (by rfl) ?_))))
    exact ⟨rfl,rfl⟩
  rw [if_neg (by omega)]
  (repeat ((try (conv=>whnf));(first |(refine stQ ?_) |(with_reducible refine q0f tab_ok Tryz.func24 (fun vs w=>by kernel_rfl) (by rfl) ?_))))
  exact ⟨rfl,rfl⟩
end
end Go.Proofs.YtegpkpilfgohhaaGreat
namespace Go.Proofs.YtegpkpilfgohhaaGreat
open Go.RowKit
set_option maxRecDepth 20000
abbrev lnOf (A:Option Addr) (n q:Nat) (cl:Bool) (P:Nat→Int × Int):Nat→LineD:=fun _=>⟨A,n,q,fun i=>(P i).1,fun i=>(P i).2,cl⟩
theorem x7o {G G1:Mem} {A:Option Addr} {n q b:Nat} {cl:Bool} {P:Nat→Int × Int} (hle:G.le G1) (hc:∀ (j:Nat) u,([.slice A n q,.bool cl]:List Value)[j]? = some u→G1.cell? ⟨b,j,none⟩=some u)
    (h:ElsM G A 2 n fun i=>[.int .i64 (P i).1,.int .i64 (P i).2]) (hq:n≤q∧q≤maxLen):LinesM G1 (some ⟨b,0,none⟩) 1 (lnOf A n q cl P):=by
  refine ⟨⟨fun x hx=>rfl,fun x hx=>⟨b,0,rfl,fun j v hj=>?_⟩⟩,fun x hx=>h.mono hle,fun x hx=>hq⟩
  obtain rfl:x=0:=by omega
  simp only [Nat.zero_mul,Nat.zero_add]
  exact hc j v hj
theorem x84 {A:Option Addr} {n q:Nat} {cl:Bool} {P:Nat→Int × Int} (h:q1n (lnOf A n q cl P) 1=true):∀ i,i<n→okP (P i):=fun i hi=>q2u (q2v h 0 (by omega) i hi)
def x0z (ps:List (List (Int × Int))) (ds:List (Int × Int)) (v:AV) (G':Mem):Prop :=
  (q3u ps=false∧v=.tup [.val (.slice none 0 0),.val (.slice none 0 0),.val (.int .i64 10)]) ∨
  (q3u ps=true∧∃ A c B d Bv,v=.tup [.val (.slice A ps.length c),.val (.slice B ds.length d),.val (.int .i64 0)]∧ps.length≤c∧c≤maxLen∧OutF G' A Bv (ps.map orP)∧PtsM G' B ds)
section
variable {G:Mem} {A:Option Addr} {n q:Nat} {cl:Bool} {P:Nat→Int × Int} {s:Sty}
set_option maxHeartbeats 4000000 in
theorem z84 (h:ElsM G A 2 n fun i=>[.int .i64 (P i).1,.int .i64 (P i).2]) (hq:n≤q∧q≤maxLen) (hn:n≤1100000) (hs:styE s=0) (hb:q1n (lnOf A n q cl P) 1=true) {ps:List (List (Int × Int))} {ds:List (Int × Int)}
    (eps:q1u s (nthP (q0v P n cl)) (q0v P n cl).length cl=ps) (eds:q10 s (nthP (q0v P n cl)) (q0v P n cl).length cl=ds) :
    q4y Tryz.prog 17 [z1q A n q cl,styA s] G (x0z ps ds):=by
  have hc:=fun G=>q67 (G:=G) (s:=s)
  rw [hs] at hc
  refine z8d tab_ok Tryz.func17 (by rfl) ?_
  (repeat ((try (conv=>whnf));(first |(refine stQ ?_) |(with_reducible first |refine q0f tab_ok Tryz.func19 (fun vs w=>by kernel_rfl) (by rfl) ?_ |refine q0b (fun vs w=>by kernel_rfl) (by kernel_rfl) ((hc G)) ?_ |refine q0a (fun vs w=>by kernel_rfl) (by kernel_rfl) ((hc G)) ?_))))
  conv=>whnf
  refine z39 2 (xs:=[.slice A n q,.bool cl]) (fun vs w=>by kernel_rfl) rfl rfl rfl fun b G1 hG1 hc1=>?_
  conv=>whnf
  have hL:=q4m (c:=1) (x7o hG1 hc1 h hq) (by unfold maxLen;omega)
  rw [show q16 (lnOf A n q cl P) 1=0 by unfold q16;rw [hb];rfl] at hL
  (repeat ((try (conv=>whnf));(first |(refine stQ ?_) |(with_reducible first |refine q0b (fun vs w=>by kernel_rfl) (by kernel_rfl) (hL) ?_ |refine q0a (fun vs w=>by kernel_rfl) (by kernel_rfl) (hL) ?_))))
  conv=>whnf
  refine q2d (fun vs w=>by kernel_rfl) (by rfl) (z18 (h.mono hG1) hn (x84 hb) (q6t hs) eps eds) fun v G2 hG2 hu hv=>?_
  obtain ⟨o,e,rfl,⟨rfl,hb2⟩ |⟨rfl,hb2,b2,A2,c2,B2,d2,Bv,rfl,x4,x5,hpc,hcm,hO,hD⟩⟩:=hv
  · (repeat ((try (conv=>whnf));(refine stQ ?_)))
    exact ⟨rfl,.inl ⟨hb2,rfl⟩⟩
  · have y4:G2.cell? ((⟨b2,0,none⟩:Addr).add 4)=_:=x4
    have y5:G2.cell? ((⟨b2,0,none⟩:Addr).add 5)=_:=x5
    (repeat ((try (conv=>whnf));(first |(refine q0q _ y4 ?_) |(refine q0q _ y5 ?_) |(refine stQ ?_))))
    exact ⟨rfl,.inr ⟨hb2,A2,c2,B2,d2,Bv,rfl,hpc,hcm,hO,hD⟩⟩
end
end Go.Proofs.YtegpkpilfgohhaaGreat
namespace Go.Proofs.YtegpkpilfgohhaaGreat
open Go.RowKit
set_option maxRecDepth 20000
def barP:Nat→Int × Int:=fun i=>if i=1 then (10,0) else (0,0)
theorem x5x:q0v barP 2 false=[(0,0),(10,0)]:=by decide
theorem x85:sLen 10 0=10240:=by
  unfold sLen
  exact z36 (q4c (by omega)) ⟨by omega,by omega,by omega⟩
theorem x86:nrm 4 (0,0) (10,0)=(0,2):=by
  have e1:((10:Int)-0)=10:=by omega
  have e2:((0:Int)-0)=0:=by omega
  unfold nrm q7p
  simp only [e1,e2,x85]
  decide
theorem x5y:q1u ⟨4,0,0,64⟩ (nthP (q0v barP 2 false)) (q0v barP 2 false).length false=[[(0,2),(10,2),(10,-2),(0,-2)]]:=by
  rw [x5x]
  have r0:rnd (nthP [((0:Int),(0:Int)),(10,0)]) 2 0=(0,0):=by decide
  have r1:rnd (nthP [((0:Int),(0:Int)),(10,0)]) 2 1=(10,0):=by decide
  show q1z _ _ 2 1++q0r _ _ 2 0++_=_
  unfold q1z q1z q0r
  rw [r0,r1,x86]
  decide
theorem x5z:q10 ⟨4,0,0,64⟩ (nthP (q0v barP 2 false)) (q0v barP 2 false).length false=[]:=by decide
theorem x87 {G:Mem} {b:Nat} (hc:∀ (j:Nat) u,([.int .i64 0,.int .i64 0,.int .i64 10,.int .i64 0]:List Value)[j]? = some u→G.cell? ⟨b,j,none⟩=some u):ElsM G (some ⟨b,0,none⟩) 2 2 fun i=>[.int .i64 (barP i).1,.int .i64 (barP i).2]:=by
  refine ⟨fun x hx=>rfl,fun x hx=>⟨b,0,rfl,fun j v hj=>?_⟩⟩
  match x,hx,j,hj with
  | 0,_,0,hj=>exact hc 0 v hj
  | 0,_,1,hj=>exact hc 1 v hj
  | 1,_,0,hj=>exact hc 2 v hj
  | 1,_,1,hj=>exact hc 3 v hj
theorem x88 {G:Mem} {b:Nat} (hc:∀ (j:Nat) u,(q0s [(0,2),(10,2),(10,-2),(0,-2)])[j]? = some u→G.cell? ⟨b,j,none⟩=some u):PtsM G (some ⟨b,0,none⟩) [(0,2),(10,2),(10,-2),(0,-2)]:=PtsM.frozen (.inr ⟨b,rfl,hc⟩)
def BarR (v:AV) (G':Mem):Prop:=∃ b,v=.tup [z1q (some ⟨b,0,none⟩) 2 2 false,styA ⟨4,0,0,64⟩]∧∀ (j:Nat) u,([.int .i64 0,.int .i64 0,.int .i64 10,.int .i64 0]:List Value)[j]? = some u→G'.cell? ⟨b,j,none⟩=some u
set_option maxHeartbeats 4000000 in
theorem x50 {G:Mem}:q4y Tryz.prog 16 [] G BarR:=by
  refine z1o tab_ok Tryz.func16 (by rfl) ?_
  (repeat ((try (conv=>whnf));(first |(with_reducible refine q1l tab_ok 0 false ?_) |(refine stQ ?_))))
  conv=>whnf
  intro b G2 hb _ hG2
  conv=>whnf
  (repeat ((try (conv=>whnf));(refine stQ ?_)))
  conv=>whnf
  refine .inl ⟨rfl,b,rfl,fun j u hj=>?_⟩
  unfold Mem.cell?
  rw [hG2,Mem.put_same]
  simpa using hj
theorem x89:([[((0:Int),(2:Int)),(10,2),(10,-2),(0,-2)]]).map orP=[[(0,2),(10,2),(10,-2),(0,-2)]]:=by decide
theorem x99 (b:Nat):q1n (lnOf (some ⟨b,0,none⟩) 2 2 false barP) 1=true:=by kernel_rfl
theorem x9a {v:AV} {G':Mem} (h:x0z [[(0,2),(10,2),(10,-2),(0,-2)]] [] v G'):∃ p c B d A' c',v=.tup [.val (.slice (some p) 1 c),.val (.slice B 0 d),.val (.int .i64 0)]∧G'.cell? ((p.add (0*2)).add 0)=some (.slice A' 4 c')∧PtsM G' A' [(0,2),(10,2),(10,-2),(0,-2)]∧1≤c:=by
  rcases h with ⟨h0,_⟩ |⟨_,A,c,B,d,Bv,rfl,hpc,hcm,hO,hD⟩
  · exact absurd h0 (by decide)
  rw [x89] at hO
  obtain ⟨A',c',eB,hp,h1,h2⟩:=hO.pts 0 (by decide)
  obtain ⟨p,rfl,x0⟩:=(hO.row.els (sz:=2) (fun _ _=>rfl) (by omega)).cell (x:=0) (j:=0) (by decide) rfl
  rw [eB] at x0
  exact ⟨p,c,B,d,A',c',rfl,x0,hp,hpc⟩
set_option maxHeartbeats 8000000 in
theorem z85 {G:Mem}:Gives Tryz.prog 4 [] G (.val (.bool true)):=by
  refine q06 tab_ok Tryz.func4 ?_
  (repeat ((try (conv=>whnf));(refine stQ ?_)))
  conv=>whnf
  refine q2d (fun vs w=>by kernel_rfl) (by rfl) x50 fun v G1 hG1 hu hv=>?_
  obtain ⟨b,rfl,hc⟩:=hv
  (repeat ((try (conv=>whnf));(refine stQ ?_)))
  conv=>whnf
  refine q2d (fun vs w=>by kernel_rfl) (by rfl) (z84 (s:=⟨4,0,0,64⟩) (x87 hc) (by unfold maxLen;omega) (by omega) (by decide) (x99 b) x5y x5z) fun v G2 hG2 hu hv=>?_
  obtain ⟨p,c,B,d,A',c',rfl,x0,hp,hpc⟩:=x9a hv
  (repeat ((try (conv=>whnf));(first |(refine q0q _ x0 ?_) |(refine stQ ?_))))
  conv=>whnf
  refine z39 2 (xs:=q0s [(0,2),(10,2),(10,-2),(0,-2)]) (fun vs w=>by kernel_rfl) rfl rfl rfl fun b2 G3 hG3 hc3=>?_
  conv=>whnf
  have hs:=z4s (c:=c') (d:=4) (hp.mono hG3) (x88 hc3) (by decide)
  change Gives _ _ [.val (.slice A' 4 c'),.val (.slice (some ⟨b2,0,none⟩) 4 4)] _ _ at hs
  (repeat ((try (conv=>whnf));(first |(refine stQ ?_) |(with_reducible first |refine q0b (fun vs w=>by kernel_rfl) (by kernel_rfl) (hs) ?_ |refine q0a (fun vs w=>by kernel_rfl) (by kernel_rfl) (hs) ?_))))
  exact ⟨rfl,rfl⟩
end Go.Proofs.YtegpkpilfgohhaaGreat
namespace Go.Proofs.YtegpkpilfgohhaaGreat
open Go.RowKit
structure Edge where
  x:Int
  y:Int
  e:Int
  dx:Int
  dy:Int
  s:Int
  deriving Inhabited
def encE (r:Edge):List Value:=[.int .i64 r.x,.int .i64 r.y,.int .i64 r.e,.int .i64 r.dx,.int .i64 r.dy,.int .i64 r.s]
def q40 (ax ay bx by_:Int):List Edge:=if by_<ay then [⟨bx,by_,ay,ax-bx,ay-by_,-1⟩] else if ay<by_ then [⟨ax,ay,by_,bx-ax,by_-ay,1⟩] else []
def q2b (X Y:Nat→Int) (n:Nat):Nat→List Edge
  | 0=>[]
  | i+1=>q2b X Y n i++q40 (X i) (Y i) (X (nx n i)) (Y (nx n i))
def q1t (L:Nat→LineD):Nat→List Edge
  | 0=>[]
  | x+1=>q1t L x++q2b (L x).X (L x).Y (L x).n (L x).n
def cntN (L:Nat→LineD):Nat→Nat
  | 0=>0
  | x+1=>cntN L x+(L x).n
theorem z8k {L:Nat→LineD} {x:Nat}:∀ {n:Nat},x≤n→cntN L x≤cntN L n
  | 0, h => by obtain rfl:x=0:=by omega
               exact Nat.le_refl _
  | n+1,h=>by
    rcases Nat.lt_or_ge x (n+1) with h1 |h1
    · exact Nat.le_trans (z8k (show x≤n by omega)) (Nat.le_add_right _ _)
    · obtain rfl:x=n+1:=by omega
      exact Nat.le_refl _
theorem z8l {L:Nat→LineD} {x n i:Nat} (hx:x<n) (hi:i≤(L x).n):cntN L x+i≤cntN L n :=
  Nat.le_trans (Nat.add_le_add_left hi _) (z8k (L:=L) (show x+1≤n from hx))
theorem z86 (ax ay bx by_:Int):(q40 ax ay bx by_).length≤1:=by
  unfold q40;split
  · simp
  · split <;> simp
theorem q6c {X Y:Nat→Int} {n:Nat}:∀ i,(q2b X Y n i).length≤i
  | 0=>by simp [q2b]
  | i+1=>by
    have h1:=q6c (X:=X) (Y:=Y) (n:=n) i
    have h2:=z86 (X i) (Y i) (X (nx n i)) (Y (nx n i))
    rw [q2b,List.length_append];omega
theorem q41 {L:Nat→LineD}:∀ n,(q1t L n).length≤cntN L n
  | 0=>by simp [q1t]
  | n+1=>by
    have h1:=q41 (L:=L) n
    have h2:=q6c (X:=(L n).X) (Y:=(L n).Y) (n:=(L n).n) (L n).n
    rw [q1t,List.length_append,cntN];omega
structure EdgeOk (r:Edge):Prop where
  x:-32767≤r.x∧r.x≤32767
  y:-32767≤r.y∧r.y≤32767
  e:-32767≤r.e∧r.e≤32767
  dx:-65534≤r.dx∧r.dx≤65534
  dy:1≤r.dy∧r.dy≤65534
  d:r.dy=r.e-r.y
  s:r.s=1∨r.s=-1
theorem z8m {ax ay bx by_:Int} (ha:okXY ax ay=true) (hb:okXY bx by_=true):∀ r∈q40 ax ay bx by_,EdgeOk r:=by
  obtain ⟨a1,a2⟩:=q2u ha
  obtain ⟨b1,b2⟩:=q2u hb
  intro r hr
  unfold q40 at hr
  split at hr
  · simp at hr;subst hr
    exact ⟨b1,b2,a2,by simp only;omega,by simp only;omega,rfl,.inr rfl⟩
  · split at hr
    · simp at hr;subst hr
      exact ⟨a1,a2,b2,by simp only;omega,by simp only;omega,rfl,.inl rfl⟩
    · simp at hr
theorem z23 {X Y:Nat→Int} {n:Nat} (h:∀ j,j<n→okXY (X j) (Y j)=true):∀ i,i≤n→∀ r∈q2b X Y n i,EdgeOk r
  | 0,_,r,hr=>by simp [q2b] at hr
  | i+1,hi,r,hr=>by
    rw [q2b,List.mem_append] at hr
    rcases hr with hr |hr
    · exact z23 h i (by omega) r hr
    · exact z8m (h i (by omega)) (h _ (q8q (by omega))) r hr
theorem z24 {L:Nat→LineD}:∀ {n:Nat},(∀ x,x<n→∀ i,i<(L x).n→okXY ((L x).X i) ((L x).Y i)=true)→∀ r∈q1t L n,EdgeOk r
  | 0,_,r,hr=>by simp [q1t] at hr
  | n+1,h,r,hr=>by
    rw [q1t,List.mem_append] at hr
    rcases hr with hr |hr
    · exact z24 (n:=n) (fun x hx=>h x (by omega)) r hr
    · exact z23 (h n (by omega)) _ (Nat.le_refl _) r hr
structure Cr where
  x:Int
  s:Int
  deriving Inhabited
def encC (r:Cr):List Value:=[.int .i64 r.x,.int .i64 r.s]
def numE (r:Edge) (y:Int):Int:=2*r.dy*r.x+r.dx*(2*(y-r.y)+1)-r.dy
def q68 (r:Edge) (y:Int):Int:=-(-(numE r y)/(2*r.dy))
def q69 (r:Edge) (y:Int):Bool:=decide (r.y≤y∧y<r.e)
def q0z (y:Int):List Edge→List Cr
  | []=>[]
  | r::l=>(if q69 r y=true then [⟨q68 r y,r.s⟩] else [])++q0z y l
theorem q2n (y:Int):∀ (l m:List Edge),q0z y (l++m)=q0z y l++q0z y m
  | [],m=>rfl
  | r::l,m=>by rw [List.cons_append,q0z,q0z,q2n y l m,List.append_assoc]
theorem q42 (y:Int):∀ (l:List Edge),(q0z y l).length≤l.length
  | []=>by simp [q0z]
  | r::l=>by
    have:=q42 y l
    rw [q0z,List.length_append,List.length_cons]
    split <;> simp <;> omega
theorem x17 {y:Int} {l:List Edge} {k:Nat} {r:Edge} (h:l[k]? = some r):q0z y (l.take (k+1))=q0z y (l.take k)++(if q69 r y=true then [⟨q68 r y,r.s⟩] else []):=by
  rw [List.take_add_one,h,q2n]
  simp [q0z]
theorem z0f {y:Int}:∀ {l:List Edge},(∀ r∈l,EdgeOk r)→∀ c∈q0z y l,c.s=1∨c.s=-1
  | [],_,c,hc=>by simp [q0z] at hc
  | r::l,h,c,hc=>by
    rw [q0z,List.mem_append] at hc
    rcases hc with hc |hc
    · split at hc
      · simp at hc;subst hc;exact (h r (by simp)).s
      · simp at hc
    · exact z0f (fun q hq=>h q (by simp [hq])) c hc
def sumC (x:Int):List Cr→Int
  | []=>0
  | c::l=>(if c.x≤x then c.s else 0)+sumC x l
theorem q55 (x:Int):∀ (l m:List Cr),sumC x (l++m)=sumC x l+sumC x m
  | [],m=>by simp [sumC]
  | c::l,m=>by rw [List.cons_append,sumC,sumC,q55 x l m];omega
theorem x51 {x:Int} {l m:List Cr} (h:l.Perm m):sumC x l=sumC x m:=by
  induction h with
  | nil=>rfl
  | cons c _ ih=>rw [sumC,sumC,ih]
  | swap a b l=>rw [sumC,sumC,sumC,sumC];omega
  | trans _ _ h1 h2=>rw [h1,h2]
theorem x27 {x:Int}:∀ {l:List Cr},(∀ c∈l,c.s=1∨c.s=-1)→-(l.length:Int)≤sumC x l∧sumC x l≤(l.length:Int)
  | [],_=>by simp [sumC]
  | c::l,h=>by
    have h1:=x27 (x:=x) (l:=l) (fun q hq=>h q (by simp [hq]))
    have h2:=h c (by simp)
    rw [sumC,List.length_cons]
    split <;> omega
theorem z25 {x:Int}:∀ {l:List Cr},(∀ c∈l,x<c.x)→sumC x l=0
  | [],_=>rfl
  | c::l,h=>by
    have h2:=h c (by simp)
    rw [sumC,z25 (fun q hq=>h q (by simp [hq])),if_neg (by omega)];rfl
def cmpC (a b:Cr):Int:=if a.x<b.x then -1 else if b.x<a.x then 1 else 0
theorem x00 {r:Edge} {x y:Int} (h:EdgeOk r):q68 r y≤x↔2*r.x*r.dy+r.dx*(2*y+1-2*r.y)≤(2*x+1)*r.dy:=by
  have hd:=h.dy
  unfold q68
  have e1:-(-(numE r y)/(2*r.dy))≤x↔-x≤-(numE r y)/(2*r.dy):=by omega
  rw [e1,Int.le_ediv_iff_mul_le (by omega)]
  unfold numE
  have e2:2*r.dy*r.x=2*r.x*r.dy:=by rw [Int.mul_assoc,Int.mul_comm r.dy,← Int.mul_assoc]
  have e3:(2*(y-r.y)+1)=2*y+1-2*r.y:=by omega
  have e4:-x*(2*r.dy)=-(2*(x*r.dy)):=by rw [Int.neg_mul,Int.mul_left_comm]
  have e5:(2*x+1)*r.dy=2*(x*r.dy)+r.dy:=by rw [Int.add_mul,Int.mul_assoc,Int.one_mul]
  rw [e2,e3,e4,e5]
  omega
def z6d (ax ay bx by_ x y:Int):Int:=sumC x (q0z y (q40 ax ay bx by_))
def q6d (X Y:Nat→Int) (n:Nat) (x y:Int) (s:Int):Nat→Int
  | 0=>s
  | i+1=>q6d X Y n x y s i+z6d (X i) (Y i) (X (nx n i)) (Y (nx n i)) x y
def q3o (L:Nat→LineD) (x y:Int):Nat→Int
  | 0=>0
  | k+1=>q6d (L k).X (L k).Y (L k).n x y (q3o L x y k) (L k).n
theorem z26 {X Y:Nat→Int} {n:Nat} {x y s:Int}:∀ i,q6d X Y n x y s i=s+sumC x (q0z y (q2b X Y n i))
  | 0=>by simp [q6d,q2b,q0z,sumC]
  | i+1=>by rw [q6d,z26 i,q2b,q2n,q55,z6d];omega
theorem z27 {L:Nat→LineD} {x y:Int}:∀ n,q3o L x y n=sumC x (q0z y (q1t L n))
  | 0=>by simp [q3o,q1t,q0z,sumC]
  | n+1=>by rw [q3o,z26,z27 n,q1t,q2n,q55]
theorem x7p {L:Nat→LineD} {n k i:Nat} {x y:Int} (h:∀ x,x<n→∀ i,i<(L x).n→okXY ((L x).X i) ((L x).Y i)=true) (hk:k<n) (hi:i≤(L k).n) :
    -((cntN L n:Nat):Int)≤q6d (L k).X (L k).Y (L k).n x y (q3o L x y k) i∧q6d (L k).X (L k).Y (L k).n x y (q3o L x y k) i≤((cntN L n:Nat):Int):=by
  rw [z26,z27,← q55,← q2n]
  have h1:=z24 (n:=k) (fun x hx=>h x (by omega))
  have h2:=z23 (h k hk) i hi
  have h3:=x27 (x:=x) (z0f (y:=y) (l:=q1t L k++q2b (L k).X (L k).Y (L k).n i) (fun r hr=>by
    rcases List.mem_append.1 hr with hr |hr
    · exact h1 r hr
    · exact h2 r hr))
  have h4:=q42 y (q1t L k++q2b (L k).X (L k).Y (L k).n i)
  have h5:=q41 (L:=L) k
  have h6:=q6c (X:=(L k).X) (Y:=(L k).Y) (n:=(L k).n) i
  have h7:=z8l (L:=L) hk hi
  rw [List.length_append] at h4
  omega
end Go.Proofs.YtegpkpilfgohhaaGreat
