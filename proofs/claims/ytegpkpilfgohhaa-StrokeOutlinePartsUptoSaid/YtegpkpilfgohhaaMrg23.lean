/-
  Merged: XStyE, XOutline, XStrokes, XSameLines.
-/
import Derived.Test.YtegpkpilfgohhaaMrg11
import Derived.Test.YtegpkpilfgohhaaBend
import Derived.Test.YtegpkpilfgohhaaMrg22
import Derived.Test.YtegpkpilfgohhaaMrg8
import Derived.Test.YtegpkpilfgohhaaMrg9
set_option linter.unusedVariables false
set_option linter.unusedSimpArgs false
set_option linter.unnecessarySimpa false
namespace Go.Proofs.Ytegpkpilfgohhaa
open Go.RowKit
set_option maxRecDepth 20000
def styE (s:Sty):Int :=
  if ¬ (1≤s.w∧s.w≤1024) then 3 else if ¬ ((0≤s.cap∧s.cap≤2)∧(0≤s.join∧s.join≤2)) then 1 else if ¬ (16≤s.lim∧s.lim≤1024) then 3 else 0
theorem z66 {s:Sty} (h:styE s=0):StyOk s:=by
  unfold styE at h
  split at h
  · omega
  · split at h
    · omega
    · split at h
      · omega
      · rename_i h1 h2 h3
        simp only [Classical.not_not] at h1 h2 h3
        exact ⟨h1,h2.1,h2.2,h3⟩
section
variable {G:Mem} {s:Sty}
set_option maxHeartbeats 8000000 in
theorem q6z:Gives Try.prog 52 [styA s] G (.val (.int .i64 (styE s))):=by
  refine q1e tab_ok Try.func52 ?_
  unfold styE
  rcases (show s.w<1∨1024<s.w∨(1≤s.w∧s.w≤1024) by omega) with h |h |h
  · rw [if_pos (by omega)]
    (repeat ((try (conv=>whnf));(refine stQ ?_)))
    exact ⟨rfl,rfl⟩
  · rw [if_pos (by omega)]
    (repeat ((try (conv=>whnf));(refine stQ ?_)))
    exact ⟨rfl,rfl⟩
  rw [if_neg (by omega)]
  rcases (show s.cap<0∨2<s.cap∨(0≤s.cap∧s.cap≤2) by omega) with h1 |h1 |h1
  · rw [if_pos (by omega)]
    (repeat ((try (conv=>whnf));(refine stQ ?_)))
    exact ⟨rfl,rfl⟩
  · rw [if_pos (by omega)]
    (repeat ((try (conv=>whnf));(refine stQ ?_)))
    exact ⟨rfl,rfl⟩
  rcases (show s.join<0∨2<s.join∨(0≤s.join∧s.join≤2) by omega) with h2 |h2 |h2
  · rw [if_pos (by omega)]
    (repeat ((try (conv=>whnf));(refine stQ ?_)))
    exact ⟨rfl,rfl⟩
  · rw [if_pos (by omega)]
    (repeat ((try (conv=>whnf));(refine stQ ?_)))
    exact ⟨rfl,rfl⟩
  rw [if_neg (by omega)]
  rcases (show s.lim<16∨1024<s.lim∨(16≤s.lim∧s.lim≤1024) by omega) with h3 |h3 |h3
  · rw [if_pos (by omega)]
    (repeat ((try (conv=>whnf));(refine stQ ?_)))
    exact ⟨rfl,rfl⟩
  · rw [if_pos (by omega)]
    (repeat ((try (conv=>whnf));(refine stQ ?_)))
    exact ⟨rfl,rfl⟩
  rw [if_neg (by omega)]
  (repeat ((try (conv=>whnf));(refine stQ ?_)))
  exact ⟨rfl,rfl⟩
set_option maxHeartbeats 8000000 in
theorem z5p:Gives Try.prog 13 [styA s] G (.val (.int .i64 (styE s))):=by
  refine q1e tab_ok Try.func13 ?_
  unfold styE
  rcases (show s.w<1∨1024<s.w∨(1≤s.w∧s.w≤1024) by omega) with h |h |h
  · rw [if_pos (by omega)]
    (repeat ((try (conv=>whnf));(first |(refine stQ ?_) |(with_reducible refine q0e tab_ok Try.func31 (fun vs w=>by kernel_rfl) (by rfl) ?_))))
    exact ⟨rfl,rfl⟩
  · rw [if_pos (by omega)]
    (repeat ((try (conv=>whnf));(first |(refine stQ ?_) |(with_reducible refine q0e tab_ok Try.func31 (fun vs w=>by kernel_rfl) (by rfl) ?_))))
    exact ⟨rfl,rfl⟩
  rw [if_neg (by omega)]
  rcases (show s.cap<0∨2<s.cap∨(0≤s.cap∧s.cap≤2) by omega) with h1 |h1 |h1
  · rw [if_pos (by omega)]
    (repeat ((try (conv=>whnf));(first |(refine stQ ?_) |(with_reducible refine q0e tab_ok Try.func31 (fun vs w=>by kernel_rfl) (by rfl) ?_))))
    exact ⟨rfl,rfl⟩
  · rw [if_pos (by omega)]
    (repeat ((try (conv=>whnf));(first |(refine stQ ?_) |(with_reducible refine q0e tab_ok Try.func31 (fun vs w=>by kernel_rfl) (by rfl) ?_))))
    exact ⟨rfl,rfl⟩
  rcases (show s.join<0∨2<s.join∨(0≤s.join∧s.join≤2) by omega) with h2 |h2 |h2
  · rw [if_pos (by omega)]
    (repeat ((try (conv=>whnf));(first |(refine stQ ?_) |(with_reducible refine q0e tab_ok Try.func31 (fun vs w=>by kernel_rfl) (by rfl) ?_))))
    exact ⟨rfl,rfl⟩
  · rw [if_pos (by omega)]
    (repeat ((try (conv=>whnf));(first |(refine stQ ?_) |(with_reducible refine q0e tab_ok Try.func31 (fun vs w=>by kernel_rfl) (by rfl) ?_))))
    exact ⟨rfl,rfl⟩
  rw [if_neg (by omega)]
  rcases (show s.lim<16∨1024<s.lim∨(16≤s.lim∧s.lim≤1024) by omega) with h3 |h3 |h3
  · rw [if_pos (by omega)]
    (repeat ((try (conv=>whnf));(first |(refine stQ ?_) |(with_reducible refine q0e tab_ok Try.func31 (fun vs w=>by kernel_rfl) (by rfl) ?_))))
    exact ⟨rfl,rfl⟩
  · rw [if_pos (by omega)]
    (repeat ((try (conv=>whnf));(first |(refine stQ ?_) |(with_reducible refine q0e tab_ok Try.func31 (fun vs w=>by kernel_rfl) (by rfl) ?_))))
    exact ⟨rfl,rfl⟩
  rw [if_neg (by omega)]
  (repeat ((try (conv=>whnf));(first |(refine stQ ?_) |(with_reducible refine q0e tab_ok Try.func31 (fun vs w=>by kernel_rfl) (by rfl) ?_))))
  exact ⟨rfl,rfl⟩
end
end Go.Proofs.Ytegpkpilfgohhaa
namespace Go.Proofs.Ytegpkpilfgohhaa
open Go.RowKit
set_option maxRecDepth 20000
abbrev lnOf (A:Option Addr) (n q:Nat) (cl:Bool) (P:Nat→Int × Int):Nat→LineD:=fun _=>⟨A,n,q,fun i=>(P i).1,fun i=>(P i).2,cl⟩
theorem q60 {G G1:Mem} {A:Option Addr} {n q b:Nat} {cl:Bool} {P:Nat→Int × Int} (hle:G.le G1) (hc:∀ (j:Nat) u,([.slice A n q,.bool cl]:List Value)[j]? = some u→G1.cell? ⟨b,j,none⟩=some u)
    (h:ElsM G A 2 n fun i=>[.int .i64 (P i).1,.int .i64 (P i).2]) (hq:n≤q∧q≤maxLen):LinesM G1 (some ⟨b,0,none⟩) 1 (lnOf A n q cl P):=by
  refine ⟨⟨fun x hx=>rfl,fun x hx=>⟨b,0,rfl,fun j v hj=>?_⟩⟩,fun x hx=>h.mono hle,fun x hx=>hq⟩
  obtain rfl:x=0:=by omega
  simp only [Nat.zero_mul,Nat.zero_add]
  exact hc j v hj
theorem z67 {A:Option Addr} {n q:Nat} {cl:Bool} {P:Nat→Int × Int} (h:q13 (lnOf A n q cl P) 1=true):∀ i,i<n→okP (P i):=fun i hi=>z2q (q7f h 0 (by omega) i hi)
def z5q (ps:List (List (Int × Int))) (ds:List (Int × Int)) (v:AV) (G':Mem):Prop :=
  (q49 ps=false∧v=.tup [.val (.slice none 0 0),.val (.slice none 0 0),.val (.int .i64 10)]) ∨
  (q49 ps=true∧∃ A c B d Bv,v=.tup [.val (.slice A ps.length c),.val (.slice B ds.length d),.val (.int .i64 0)]∧ps.length≤c∧c≤maxLen∧OutF G' A Bv (ps.map orP)∧PtsM G' B ds)
section
variable {G:Mem} {A:Option Addr} {n q:Nat} {cl:Bool} {P:Nat→Int × Int} {s:Sty}
set_option maxHeartbeats 4000000 in
theorem z6b (he:styE s≠0):Gives Try.prog 12 [q5m A n q cl,styA s] G (.tup [.val (.slice none 0 0),.val (.slice none 0 0),.val (.int .i64 (styE s))]):=by
  have hc:=fun G=>q6z (G:=G) (s:=s)
  refine q1e tab_ok Try.func12 ?_
  (repeat ((try (conv=>whnf));(first |(refine stQ ?_) |(with_reducible first |refine q0e tab_ok Try.func29 (fun vs w=>by kernel_rfl) (by rfl) ?_ |refine q0b (fun vs w=>by kernel_rfl) (by kernel_rfl) ((hc G)) ?_ |refine q0a (fun vs w=>by kernel_rfl) (by kernel_rfl) ((hc G)) ?_))))
  exact ⟨rfl,rfl⟩
set_option maxHeartbeats 4000000 in
theorem z70 (h:ElsM G A 2 n fun i=>[.int .i64 (P i).1,.int .i64 (P i).2]) (hq:n≤q∧q≤maxLen) (hs:styE s=0) (hb:q13 (lnOf A n q cl P) 1=false):Gives Try.prog 12 [q5m A n q cl,styA s] G (.tup [.val (.slice none 0 0),.val (.slice none 0 0),.val (.int .i64 3)]):=by
  have hc:=fun G=>q6z (G:=G) (s:=s)
  rw [hs] at hc
  refine q1e tab_ok Try.func12 ?_
  (repeat ((try (conv=>whnf));(first |(refine stQ ?_) |(with_reducible first |refine q0e tab_ok Try.func29 (fun vs w=>by kernel_rfl) (by rfl) ?_ |refine q0b (fun vs w=>by kernel_rfl) (by kernel_rfl) ((hc G)) ?_ |refine q0a (fun vs w=>by kernel_rfl) (by kernel_rfl) ((hc G)) ?_))))
  conv=>whnf
  refine q3w 2 (xs:=[.slice A n q,.bool cl]) (fun vs w=>by kernel_rfl) rfl rfl rfl fun b G1 hG1 hc1=>?_
  conv=>whnf
  have hL:=q45 (c:=1) (q60 hG1 hc1 h hq) (by unfold maxLen;omega)
  rw [show q1p (lnOf A n q cl P) 1=3 by unfold q1p;rw [hb];rfl] at hL
  (repeat ((try (conv=>whnf));(first |(refine stQ ?_) |(with_reducible first |refine q0b (fun vs w=>by kernel_rfl) (by kernel_rfl) (hL) ?_ |refine q0a (fun vs w=>by kernel_rfl) (by kernel_rfl) (hL) ?_))))
  exact ⟨rfl,rfl⟩
set_option maxHeartbeats 4000000 in
theorem q8v (h:ElsM G A 2 n fun i=>[.int .i64 (P i).1,.int .i64 (P i).2]) (hq:n≤q∧q≤maxLen) (hn:n≤1100000) (hs:styE s=0) (hb:q13 (lnOf A n q cl P) 1=true) {ps:List (List (Int × Int))} {ds:List (Int × Int)}
    (eps:q1c s (nthP (q0s P n cl)) (q0s P n cl).length cl=ps) (eds:q1l s (nthP (q0s P n cl)) (q0s P n cl).length cl=ds) :
    q47 Try.prog 12 [q5m A n q cl,styA s] G (z5q ps ds):=by
  have hc:=fun G=>q6z (G:=G) (s:=s)
  rw [hs] at hc
  refine z85 tab_ok Try.func12 (by rfl) ?_
  (repeat ((try (conv=>whnf));(first |(refine stQ ?_) |(with_reducible first |refine q0e tab_ok Try.func29 (fun vs w=>by kernel_rfl) (by rfl) ?_ |refine q0b (fun vs w=>by kernel_rfl) (by kernel_rfl) ((hc G)) ?_ |refine q0a (fun vs w=>by kernel_rfl) (by kernel_rfl) ((hc G)) ?_))))
  conv=>whnf
  refine q3w 2 (xs:=[.slice A n q,.bool cl]) (fun vs w=>by kernel_rfl) rfl rfl rfl fun b G1 hG1 hc1=>?_
  conv=>whnf
  have hL:=q45 (c:=1) (q60 hG1 hc1 h hq) (by unfold maxLen;omega)
  rw [show q1p (lnOf A n q cl P) 1=0 by unfold q1p;rw [hb];rfl] at hL
  (repeat ((try (conv=>whnf));(first |(refine stQ ?_) |(with_reducible first |refine q0b (fun vs w=>by kernel_rfl) (by kernel_rfl) (hL) ?_ |refine q0a (fun vs w=>by kernel_rfl) (by kernel_rfl) (hL) ?_))))
  conv=>whnf
  refine q14 (fun vs w=>by kernel_rfl) (by rfl) (z34 (h.mono hG1) hn (z67 hb) (z66 hs) eps eds) fun v G2 hG2 hu hv=>?_
  obtain ⟨o,e,rfl,⟨rfl,hb2⟩ |⟨rfl,hb2,b2,A2,c2,B2,d2,Bv,rfl,x4,x5,hpc,hcm,hO,hD⟩⟩:=hv
  · (repeat ((try (conv=>whnf));(refine stQ ?_)))
    exact ⟨rfl,.inl ⟨hb2,rfl⟩⟩
  · have y4:G2.cell? ((⟨b2,0,none⟩:Addr).add 4)=_:=x4
    have y5:G2.cell? ((⟨b2,0,none⟩:Addr).add 5)=_:=x5
    (repeat ((try (conv=>whnf));(first |(refine q00 _ y4 ?_) |(refine q00 _ y5 ?_) |(refine stQ ?_))))
    exact ⟨rfl,.inr ⟨hb2,A2,c2,B2,d2,Bv,rfl,hpc,hcm,hO,hD⟩⟩
end
end Go.Proofs.Ytegpkpilfgohhaa
namespace Go.Proofs.Ytegpkpilfgohhaa
open Go.RowKit
set_option maxRecDepth 20000
def barP:Nat→Int × Int:=fun i=>if i=1 then (10,0) else (0,0)
theorem z9f:q0s barP 2 false=[(0,0),(10,0)]:=by decide
theorem x1k:sLen 10 0=10240:=by
  unfold sLen
  exact z0h (q6t (by omega)) ⟨by omega,by omega,by omega⟩
theorem x1l:nrm 4 (0,0) (10,0)=(0,2):=by
  have e1:((10:Int)-0)=10:=by omega
  have e2:((0:Int)-0)=0:=by omega
  unfold nrm q5k
  simp only [e1,e2,x1k]
  decide
theorem z9g:q1c ⟨4,0,0,64⟩ (nthP (q0s barP 2 false)) (q0s barP 2 false).length false=[[(0,2),(10,2),(10,-2),(0,-2)]]:=by
  rw [z9f]
  have r0:rnd (nthP [((0:Int),(0:Int)),(10,0)]) 2 0=(0,0):=by decide
  have r1:rnd (nthP [((0:Int),(0:Int)),(10,0)]) 2 1=(10,0):=by decide
  show q1h _ _ 2 1++q0n _ _ 2 0++_=_
  unfold q1h q1h q0n
  rw [r0,r1,x1l]
  decide
theorem z9h:q1l ⟨4,0,0,64⟩ (nthP (q0s barP 2 false)) (q0s barP 2 false).length false=[]:=by decide
theorem x1m {G:Mem} {b:Nat} (hc:∀ (j:Nat) u,([.int .i64 0,.int .i64 0,.int .i64 10,.int .i64 0]:List Value)[j]? = some u→G.cell? ⟨b,j,none⟩=some u):ElsM G (some ⟨b,0,none⟩) 2 2 fun i=>[.int .i64 (barP i).1,.int .i64 (barP i).2]:=by
  refine ⟨fun x hx=>rfl,fun x hx=>⟨b,0,rfl,fun j v hj=>?_⟩⟩
  match x,hx,j,hj with
  | 0,_,0,hj=>exact hc 0 v hj
  | 0,_,1,hj=>exact hc 1 v hj
  | 1,_,0,hj=>exact hc 2 v hj
  | 1,_,1,hj=>exact hc 3 v hj
theorem x1n {G:Mem} {b:Nat} (hc:∀ (j:Nat) u,(q0r [(0,2),(10,2),(10,-2),(0,-2)])[j]? = some u→G.cell? ⟨b,j,none⟩=some u):PtsM G (some ⟨b,0,none⟩) [(0,2),(10,2),(10,-2),(0,-2)]:=PtsM.frozen (.inr ⟨b,rfl,hc⟩)
def BarR (v:AV) (G':Mem):Prop:=∃ b,v=.tup [q5m (some ⟨b,0,none⟩) 2 2 false,styA ⟨4,0,0,64⟩]∧∀ (j:Nat) u,([.int .i64 0,.int .i64 0,.int .i64 10,.int .i64 0]:List Value)[j]? = some u→G'.cell? ⟨b,j,none⟩=some u
set_option maxHeartbeats 4000000 in
theorem z9i {G:Mem}:q47 Try.prog 28 [] G BarR:=by
  refine q8o tab_ok Try.func28 (by rfl) ?_
  (repeat ((try (conv=>whnf));(first |(with_reducible refine q08 tab_ok 0 false ?_) |(refine stQ ?_))))
  conv=>whnf
  intro b G2 hb _ hG2
  conv=>whnf
  (repeat ((try (conv=>whnf));(refine stQ ?_)))
  conv=>whnf
  refine .inl ⟨rfl,b,rfl,fun j u hj=>?_⟩
  unfold Mem.cell?
  rw [hG2,Mem.put_same]
  simpa using hj
theorem x1o:([[((0:Int),(2:Int)),(10,2),(10,-2),(0,-2)]]).map orP=[[(0,2),(10,2),(10,-2),(0,-2)]]:=by decide
theorem x13 (b:Nat):q13 (lnOf (some ⟨b,0,none⟩) 2 2 false barP) 1=true:=by kernel_rfl
theorem x1p {v:AV} {G':Mem} (h:z5q [[(0,2),(10,2),(10,-2),(0,-2)]] [] v G'):∃ p c B d A' c',v=.tup [.val (.slice (some p) 1 c),.val (.slice B 0 d),.val (.int .i64 0)]∧G'.cell? ((p.add (0*2)).add 0)=some (.slice A' 4 c')∧PtsM G' A' [(0,2),(10,2),(10,-2),(0,-2)]∧1≤c:=by
  rcases h with ⟨h0,_⟩ |⟨_,A,c,B,d,Bv,rfl,hpc,hcm,hO,hD⟩
  · exact absurd h0 (by decide)
  rw [x1o] at hO
  obtain ⟨A',c',eB,hp,h1,h2⟩:=hO.pts 0 (by decide)
  obtain ⟨p,rfl,x0⟩:=(hO.row.els (sz:=2) (fun _ _=>rfl) (by omega)).cell (x:=0) (j:=0) (by decide) rfl
  rw [eB] at x0
  exact ⟨p,c,B,d,A',c',rfl,x0,hp,hpc⟩
set_option maxHeartbeats 8000000 in
theorem z35 {G:Mem}:Gives Try.prog 11 [] G (.val (.bool true)):=by
  refine q1e tab_ok Try.func11 ?_
  (repeat ((try (conv=>whnf));(refine stQ ?_)))
  conv=>whnf
  refine q14 (fun vs w=>by kernel_rfl) (by rfl) z9i fun v G1 hG1 hu hv=>?_
  obtain ⟨b,rfl,hc⟩:=hv
  (repeat ((try (conv=>whnf));(refine stQ ?_)))
  conv=>whnf
  refine q14 (fun vs w=>by kernel_rfl) (by rfl) (q8v (s:=⟨4,0,0,64⟩) (x1m hc) (by unfold maxLen;omega) (by omega) (by decide) (x13 b) z9g z9h) fun v G2 hG2 hu hv=>?_
  obtain ⟨p,c,B,d,A',c',rfl,x0,hp,hpc⟩:=x1p hv
  (repeat ((try (conv=>whnf));(first |(refine q00 _ x0 ?_) |(refine stQ ?_))))
  conv=>whnf
  refine q3w 2 (xs:=q0r [(0,2),(10,2),(10,-2),(0,-2)]) (fun vs w=>by kernel_rfl) rfl rfl rfl fun b2 G3 hG3 hc3=>?_
  conv=>whnf
  have hs:=q4k (c:=c') (d:=4) (hp.mono hG3) (x1n hc3) (by decide)
  change Gives _ _ [.val (.slice A' 4 c'),.val (.slice (some ⟨b2,0,none⟩) 4 4)] _ _ at hs
  (repeat ((try (conv=>whnf));(first |(refine stQ ?_) |(with_reducible first |refine q0b (fun vs w=>by kernel_rfl) (by kernel_rfl) (hs) ?_ |refine q0a (fun vs w=>by kernel_rfl) (by kernel_rfl) (hs) ?_))))
  exact ⟨rfl,rfl⟩
end Go.Proofs.Ytegpkpilfgohhaa
namespace Go.Proofs.Ytegpkpilfgohhaa
open Go.RowKit
set_option maxRecDepth 20000
structure LnsM (G:Mem) (A:Option Addr) (n:Nat) (P:Nat→List (Int × Int)) (cl:Nat→Bool) (a:Nat→Option Addr) (q:Nat→Nat):Prop where
  rows:ElsM G A 2 n fun i=>[.slice (a i) (P i).length (q i),.bool (cl i)]
  pts:∀ i,i<n→PtsM G (a i) (P i)
section
variable {G:Mem} {A B:Option Addr} {n c d:Nat} {P:Nat→List (Int × Int)} {cl:Nat→Bool} {a b:Nat→Option Addr} {qa qb:Nat→Nat}
set_option maxHeartbeats 4000000 in
theorem z17 (hA:LnsM G A n P cl a qa) (hB:LnsM G B n P cl b qb) (hn:n≤100000000) (hP:∀ i,i<n→(P i).length≤1000000):Gives Try.prog 16 [.val (.slice A n c),.val (.slice B n d)] G (.val (.bool true)):=by
  refine q1e tab_ok Try.func16 ?_
  (repeat ((try (conv=>whnf));(refine stQ ?_)))
  conv=>whnf
  refine q1z tab_ok (fun i=>i≤n) (fun (i:Nat)=>[(13,.val (.int .i64 i))]) (fun i=>[]) (fun i=>n-i) 0 (Nat.zero_le _) ?_ ?_
  · ((refine q0i ?_);(conv=>whnf);(refine q0m (by rfl) (by rfl) flQ ?_))
    exact q0g
  · rintro i hi
    rcases Nat.lt_or_ge i n with h1 |h1
    · obtain ⟨p,rfl,x0⟩:=hA.rows.cell (x:=i) (j:=0) h1 rfl
      obtain ⟨p',e,x1⟩:=hA.rows.cell (x:=i) (j:=1) h1 rfl
      cases e
      obtain ⟨r,rfl,y0⟩:=hB.rows.cell (x:=i) (j:=0) h1 rfl
      obtain ⟨r',e,y1⟩:=hB.rows.cell (x:=i) (j:=1) h1 rfl
      cases e
      have gs:=q4k (c:=qa i) (d:=qb i) (hA.pts i h1) (hB.pts i h1) (by have:=hP i h1;omega)
      generalize cl i=f at *
      clear hA hB
      cases f
      · (repeat ((try (conv=>whnf));(first |(refine q00 _ x0 ?_) |(refine q00 _ x1 ?_) |(refine q00 _ y0 ?_) |(refine q00 _ y1 ?_) |(with_reducible refine z3k (by kernel_rfl) ?_) |(refine stQ ?_) |(with_reducible first |refine q0b (fun vs w=>by kernel_rfl) (by kernel_rfl) (gs) ?_ |refine q0a (fun vs w=>by kernel_rfl) (by kernel_rfl) (gs) ?_))))
        conv=>whnf
        refine ⟨i+1,by omega,by omega,?_⟩
        ((refine q0i ?_);(conv=>whnf);(refine q0m (by rfl) (by rfl) flQ ?_))
        exact q0g
      · (repeat ((try (conv=>whnf));(first |(refine q00 _ x0 ?_) |(refine q00 _ x1 ?_) |(refine q00 _ y0 ?_) |(refine q00 _ y1 ?_) |(with_reducible refine z3k (by kernel_rfl) ?_) |(refine stQ ?_) |(with_reducible first |refine q0b (fun vs w=>by kernel_rfl) (by kernel_rfl) (gs) ?_ |refine q0a (fun vs w=>by kernel_rfl) (by kernel_rfl) (gs) ?_))))
        conv=>whnf
        refine ⟨i+1,by omega,by omega,?_⟩
        ((refine q0i ?_);(conv=>whnf);(refine q0m (by rfl) (by rfl) flQ ?_))
        exact q0g
    · (repeat ((try (conv=>whnf));(refine stQ ?_)))
      exact ⟨rfl,rfl⟩
end
end Go.Proofs.Ytegpkpilfgohhaa
