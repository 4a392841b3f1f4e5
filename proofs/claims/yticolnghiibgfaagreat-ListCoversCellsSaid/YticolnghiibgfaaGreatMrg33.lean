/-
  Merged: XLists, XEndP, XListCoversCells, XListMeaning, XCut, XTiny.
-/
import Derived.Test.YticolnghiibgfaaGreatMrg32
import Derived.Test.YticolnghiibgfaaGreatMrg30
import Derived.Test.YticolnghiibgfaaGreatMrg27
import Derived.Test.YticolnghiibgfaaGreatMrg15
import Derived.Test.YticolnghiibgfaaGreatMrg22
set_option linter.unusedVariables false
set_option linter.unusedSimpArgs false
set_option linter.unnecessarySimpa false
namespace Go.Proofs.YticolnghiibgfaaGreat
open Go.RowKit Go.Deep Go.Proofs.YticolnghiibgfaaGreat.gradientRamps Go.Proofs.YticolnghiibgfaaGreat.gradientPlaces Go.Proofs.YticolnghiibgfaaGreat.imageCells
set_option maxRecDepth 20000
def spF (k:Nat):SrcF:=fun _ _=>(fun j=>if j=0 then (if k=0 then 200 else 100) else 0,255)
def spR (k:Nat):List Run:=if k=0 then q5h 1 1 else [⟨0,0,1⟩]
def spS:Nat→ByteArray:=fun _=>⟨#[98,108,97,99,107]⟩
section
variable {F:Mem} {A:Option Addr} {c b sb ib:Nat}
theorem x8d (h:F ib=some (.cells ((spI A c b 0).cells++(spI A c b 1).cells++(spI A c b 2).cells++(spI A c b 3).cells).toArray 56 (0,0))):ItemsM F (some ⟨ib,0,none⟩) 4 (spI A c b):=fun x hx=>by
  refine ⟨_,rfl,fun K hK=>?_⟩
  match x,hx with
  | 0,_=>exact q22 h (by rfl) (by rfl) (by rfl) hK
  | 1,_=>exact q22 h (by rfl) (by rfl) (by rfl) hK
  | 2,_=>exact q22 h (by rfl) (by rfl) (by rfl) hK
  | 3,_=>exact q22 h (by rfl) (by rfl) (by rfl) hK
theorem x93 (h:F sb=some (.cells #[.string ⟨#[98,108,97,99,107]⟩] 9 (0,0))):StrM F (some ⟨sb,0,none⟩) 1 spS:=fun x hx=>by
  refine ⟨_,rfl,fun K hK=>?_⟩
  match x,hx with
  | 0,_=>exact q22 (vs:=[.string ⟨#[98,108,97,99,107]⟩]) h (by rfl) (by rfl) (by rfl) hK
theorem x56 (h:F b=some (.cells #[.int .i64 0,.int .i64 0,.int .i64 1] 87 (0,0))):RunsM F (some ⟨b,0,none⟩) [⟨0,0,1⟩]:=by
  refine z5v fun j u hj=>?_
  unfold Mem.cell?
  simp only [h]
  simpa [q2e] using hj
theorem x8e:ValidL (q5h 1 1):=z4c (by decide +kernel)
theorem v0z:ValidL [⟨0,0,1⟩]:=z4c (by decide +kernel)
theorem v00 (hR:RunsM F A (q5h 1 1)) (h:F b=some (.cells #[.int .i64 0,.int .i64 0,.int .i64 1] 87 (0,0))) {k:Nat} (hk:k<4) (h0:(spI A c b k).K=0):RegOk F (spI A c b) spR k:=by
  match k,hk with
  | 0,_=>exact ⟨hR,by rfl,x8e⟩
  | 1,_=>exact absurd h0 (by simp [spI])
  | 2,_=>exact ⟨x56 h,by rfl,v0z⟩
  | 3,_=>exact absurd h0 (by simp [spI])
theorem v09 (hR:RunsM F A (q5h 1 1)) (h:F b=some (.cells #[.int .i64 0,.int .i64 0,.int .i64 1] 87 (0,0))):LOk F (spI A c b) spF spR 4:=by
  refine ⟨fun k hk h0=>?_,fun k hk h0=>v00 hR h hk h0,fun k hk h0=>?_,fun k hk h1=>?_,fun k hk h0 h1=>?_,by rfl⟩
  · match k,hk with
    | 0,_=>exact q6u
    | 1,_=>exact absurd h0 (by simp [spI])
    | 2,_=>exact q6u
    | 3,_=>exact absurd h0 (by simp [spI])
  · have key:∀ k:Nat,∀ x y:Int,q81 (spF k x y).1∧0≤(spF k x y).2∧(spF k x y).2≤255:=fun k x y=>by
      refine ⟨fun j hj=>?_,show (0:Int)≤255 by omega,Int.le_refl _⟩
      show 0≤(if j=0 then (if k=0 then (200:Int) else 100) else 0)∧(if j=0 then (if k=0 then (200:Int) else 100) else 0)≤255
      split
      · split <;> omega
      · omega
    match k,hk with
    | 0,_=>exact ⟨show (0:Int)≤255∧(255:Int)≤255 by omega,show (0:Int)≤0∧(0:Int)≤11 by omega,fun x y _ _=>key 0 x y⟩
    | 1,_=>exact absurd h0 (by simp [spI])
    | 2,_=>exact ⟨show (0:Int)≤255∧(255:Int)≤255 by omega,show (0:Int)≤0∧(0:Int)≤11 by omega,fun x y _ _=>key 2 x y⟩
    | 3,_=>exact absurd h0 (by simp [spI])
  · match k,hk with
    | 0,_=>exact absurd h1 (by simp [spI])
    | 1,_=>exact ⟨show (0:Int)≤255∧(255:Int)≤255 by omega,show (0:Int)≤0∧(0:Int)≤11 by omega⟩
    | 2,_=>exact absurd h1 (by simp [spI])
    | 3,_=>exact absurd h1 (by simp [spI])
  · match k,hk with
    | 0,_=>exact absurd rfl h0
    | 1,_=>exact absurd rfl h1
    | 2,_=>exact absurd rfl h0
    | 3,_=>exact Nat.le_refl 2
theorem x17:q6k (spI A c b) 4=[.fill 0,.group 1 [.fill 2]]:=by rfl
set_option maxHeartbeats 4000000 in
theorem q68 {I:Nat→Int} {m:Nat} (hm:1≤m∧m≤8) (hI:fewB I m=true):Gives Tryz.prog 76 [srcA 0 I 0 0 0 0 0 (.slice none 0 0) 0 0 (.slice none 0 0) (.slice none 0 0) 0 0 0 0 0 0 false false,.val (.int .i64 m)] F (.val (.int .i64 0)):=by
  have gz:=q8x (k:=0) (I:=I) (fx:=0) (fy:=0) (tx:=0) (ty:=0) (r:=0) (A:=none) (n:=0) (q:=0) (W:=0) (H:=0) (B:=none) (pn:=0) (pq:=0) (C:=none) (sn:=0) (sq:=0) (a:=0) (b:=0) (c:=0) (d:=0) (e:=0) (f:=0) (s:=false) (t:=false) (G:=F)
  have gp:=q7r (W:=0) (H:=0) (B:=none) (pn:=0) (pq:=0) (C:=none) (sn:=0) (sq:=0) (a:=0) (b:=0) (c:=0) (d:=0) (e:=0) (f:=0) (s:=false) (t:=false) (G:=F)
  have gw:=q6f (I:=I) (G:=F) hm
  rw [hI] at gw
  rw [show q28 0 0 0 0 0 0=true from rfl] at gz
  rw [show q1d 0 0 0 0 0 0 0 0 0 0 false false=true from rfl] at gp
  refine q0o tab_ok Tryz.func76 ?_
  (repeat ((try (conv=>whnf));(first |(refine stQ ?_) |(with_reducible first |refine q0b (fun vs w=>by kernel_rfl) (by kernel_rfl) (gz) ?_ |refine q0a (fun vs w=>by kernel_rfl) (by kernel_rfl) (gz) ?_ |refine q0b (fun vs w=>by kernel_rfl) (by kernel_rfl) (gp) ?_ |refine q0a (fun vs w=>by kernel_rfl) (by kernel_rfl) (gp) ?_ |refine q0b (fun vs w=>by kernel_rfl) (by kernel_rfl) (gw) ?_ |refine q0a (fun vs w=>by kernel_rfl) (by kernel_rfl) (gw) ?_))))
  exact ⟨rfl,rfl⟩
theorem x94 (hR:RunsM F A (q5h 1 1)) (hc:16≤c∧c≤maxLen) (h:F b=some (.cells #[.int .i64 0,.int .i64 0,.int .i64 1] 87 (0,0))) {k:Nat} (hk:k<4) {o:Int} :
    Gives Tryz.prog 52 [q75 (spI A c b k),.val (.int .i64 1),.val (.int .i64 o)] F (.val (.int .i64 (q23 (spI A c b k).K (spI A c b k).rn (spI A c b k).nos (spI A c b k).al (spI A c b k).bl (spI A c b k).ov (spI A c b k).iso (spI A c b k).kn o 0 0))):=by
  match k,hk with
  | 0,_ =>
    have h1:=_root_.Go.Proofs.YticolnghiibgfaaGreat.Check_gives hR hc.1 hc.2
    exact q30 h1 (q68 ⟨Nat.le_refl 1,by decide⟩ (by rfl))
  | 1,_ =>
    have h1:=_root_.Go.Proofs.YticolnghiibgfaaGreat.Check_gives (G:=F) (A:=none) (L:=[]) (c:=0) (fun i r hr=>by simp at hr) (Nat.le_refl _) (Nat.zero_le _)
    exact q30 h1 (q68 ⟨Nat.le_refl 1,by decide⟩ (by rfl))
  | 2,_ =>
    have h1:=_root_.Go.Proofs.YticolnghiibgfaaGreat.Check_gives (x56 h) (c:=1) (Nat.le_refl _) (by decide)
    exact q30 h1 (q68 ⟨Nat.le_refl 1,by decide⟩ (by rfl))
  | 3,_ =>
    have h1:=_root_.Go.Proofs.YticolnghiibgfaaGreat.Check_gives (G:=F) (A:=none) (L:=[]) (c:=0) (fun i r hr=>by simp at hr) (Nat.le_refl _) (Nat.zero_le _)
    exact q30 h1 (q68 ⟨Nat.le_refl 1,by decide⟩ (by rfl))
theorem x8f (hR:RunsM F A (q5h 1 1)) (hc:16≤c∧c≤maxLen) (h:F b=some (.cells #[.int .i64 0,.int .i64 0,.int .i64 1] 87 (0,0))) (hS:StrM F (some ⟨sb,0,none⟩) 1 spS) (hI:ItemsM F (some ⟨ib,0,none⟩) 4 (spI A c b)) :
    Gives Tryz.prog 33 [q08 1 1 (some ⟨sb,0,none⟩) 1 1 (some ⟨ib,0,none⟩) 4 4] F (.val (.int .i64 0)):=by
  have:=q6v (W:=1) (H:=1) (iq:=4) (sq:=1) hS hI (Nat.le_refl _) (fun _ x hx o h0 h1=>x94 hR hc h hx) (z2m (I:=spI A c b) (rE:=fun _=>0) (sE:=fun _=>0)) (by omega) (by omega)
  exact this
theorem x95:q67 (spI A c b) spF spR 4 1 0 0=fun o=>if o=0 then 100 else 0:=by
  unfold q67
  rw [x17]
  funext o
  by_cases ho:o<1
  · obtain rfl:o=0:=by omega
    simp only [evL,evT,covL,covT,rowI,q0l,spI,spR,spF,Bool.or_false,if_true,if_false]
    kernel_rfl
  · unfold rowI;rw [if_neg ho,if_neg (by omega)]
theorem x96:q67 (spI A c b) spF spR 4 1 1 0=fun o=>if o=0 then 200 else 0:=by
  unfold q67
  rw [x17]
  funext o
  by_cases ho:o<1
  · obtain rfl:o=0:=by omega
    simp only [evL,evT,covL,covT,rowI,q0l,spI,spR,spF,Bool.or_false,if_true,if_false]
    kernel_rfl
  · unfold rowI;rw [if_neg ho,if_neg (by omega)]
end
set_option maxHeartbeats 8000000 in
theorem q90 {G:Mem}:Gives Tryz.prog 9 [] G (.val (.bool true)):=by
  refine q0o tab_ok Tryz.func9 ?_
  have key:∀ (x:Int),x=0∨x=1→∀ (F:Mem) (A:Option Addr) (c b sb ib:Nat),RunsM F A (q5h 1 1)→16≤c→c≤maxLen →
    F sb=some (.cells #[.string ⟨#[98,108,97,99,107]⟩] 9 (0,0))→F b=some (.cells #[.int .i64 0,.int .i64 0,.int .i64 1] 87 (0,0))→F ib=some (.cells ((spI A c b 0).cells++(spI A c b 1).cells++(spI A c b 2).cells++(spI A c b 3).cells).toArray 56 (0,0)) →
    Gives Tryz.prog 10 [q08 1 1 (some ⟨sb,0,none⟩) 1 1 (some ⟨ib,0,none⟩) 4 4,.val (.int .i64 x),.val (.int .i64 0)] F (.tup [inA (fun o=>if o=0 then (if x=0 then 100 else 200) else 0),.val (.int .i64 0)]):=by
    intro x hx F A c b sb ib hR h1 h2 h3 h4 h5
    have hI:=x8d h5
    have r:=x0c (x:=x) (y:=0) (x8f hR ⟨h1,h2⟩ h4 (x93 h3) hI) hI (by omega) (by omega) (by omega) (by omega) (v09 hR h4) (by omega) (by omega)
    rcases hx with rfl |rfl
    · rw [x95] at r;exact r
    · rw [x96] at r;exact r
  (repeat ((try (conv=>whnf));(refine stQ ?_)))
  conv=>whnf
  refine q80 (fun vs w=>by kernel_rfl) (by rfl) z0g ?_
  rintro v F hF ⟨A,c,b,sb,ib,rfl,q1,q2,q3,q4,q5,q6⟩
  have k0:=key 0 (.inl rfl) F A c b sb ib q1 q2 q3 q4 q5 q6
  (repeat ((try (conv=>whnf));(first |((refine q9l [.int .i64 1,.int .i64 1,.slice (some ⟨sb,0,none⟩) 1 1,.slice (some ⟨ib,0,none⟩) 4 4] ?_);(dsimp only [List.map])) |(refine stQ ?_) |(with_reducible first |refine q0b (fun vs w=>by kernel_rfl) (by kernel_rfl) (k0) ?_ |refine q0a (fun vs w=>by kernel_rfl) (by kernel_rfl) (k0) ?_))))
  conv=>whnf
  refine q80 (fun vs w=>by kernel_rfl) (by rfl) z0g ?_
  rintro v F hF ⟨A,c,b,sb,ib,rfl,q1,q2,q3,q4,q5,q6⟩
  have k1:=key 1 (.inr rfl) F A c b sb ib q1 q2 q3 q4 q5 q6
  (repeat ((try (conv=>whnf));(first |((refine q9l [.int .i64 1,.int .i64 1,.slice (some ⟨sb,0,none⟩) 1 1,.slice (some ⟨ib,0,none⟩) 4 4] ?_);(dsimp only [List.map])) |(refine stQ ?_) |(with_reducible first |refine q0b (fun vs w=>by kernel_rfl) (by kernel_rfl) (k1) ?_ |refine q0a (fun vs w=>by kernel_rfl) (by kernel_rfl) (k1) ?_))))
  conv=>whnf
  exact ⟨rfl,rfl⟩
end Go.Proofs.YticolnghiibgfaaGreat
namespace Go.Proofs.YticolnghiibgfaaGreat
open Go.RowKit
set_option maxRecDepth 20000
theorem z2o {K:Nat→Int}:∀ n:Nat,-(n:Int)≤q0p K n∧q0p K n≤n
  | 0=>by simp [q0p]
  | n+1=>by
    have:=z2o (K:=K) n
    unfold q0p
    split
    · omega
    · split <;> omega
theorem x0h {K:Nat→Int} {n:Nat} (h:K n=0):q0p K (n+1)=q0p K n:=by simp [q0p,h]
theorem z4d {K:Nat→Int} {n:Nat} (h:K n=1):q0p K (n+1)=q0p K n+1:=by simp [q0p,h]
theorem z4e {K:Nat→Int} {n:Nat} (h:K n=2):q0p K (n+1)=q0p K n-1:=by simp [q0p,h];omega
theorem SpanL.deps {K:Nat→Int} {ms:List Tr} {a b:Nat} (h:SpanL K ms a b) (hK:∀ k,a≤k→k<b→K k=0∨K k=1∨K k=2):q0p K b=q0p K a∧∀ k,a≤k→k≤b→q0p K a≤q0p K k:=by
  induction h with
  | nil i=>exact ⟨rfl,fun k h1 h2=>by rw [show k=i by omega];exact Int.le_refl _⟩
  | fill i ts j hf h2 ih =>
    have l:=h2.le
    obtain ⟨e1,e2⟩:=ih fun k h3 h4=>hK k (by omega) h4
    have e:=x0h hf
    refine ⟨by omega,fun k h3 h4=>?_⟩
    rcases Nat.eq_or_lt_of_le h3 with rfl |h5
    · exact Int.le_refl _
    · have:=e2 k h5 h4;omega
  | group i ms e ts j hf h1 h0 h3 h2 ih1 ih2 =>
    have l1:=h1.le
    have l2:=h2.le
    have he:K e=2:=(hK e (by omega) (by omega)).elim (fun h=>absurd h h0) fun h=>h.elim (fun h=>absurd h h3) id
    obtain ⟨a1,a2⟩:=ih1 fun k h3 h4=>hK k (by omega) (by omega)
    obtain ⟨b1,b2⟩:=ih2 fun k h3 h4=>hK k (by omega) h4
    have d1:=z4d hf
    have d2:=z4e he
    refine ⟨by omega,fun k h3 h4=>?_⟩
    rcases Nat.eq_or_lt_of_le h3 with rfl |h5
    · exact Int.le_refl _
    · rcases Nat.lt_or_ge e k with h6 |h6
      · have:=b2 k h6 h4;omega
      · have:=a2 k h5 h6;omega
theorem SpanL.find {K:Nat→Int} {ms:List Tr} {a b:Nat} (h:SpanL K ms a b):∀ i,a≤i→i<b→K i=1→∃ ms' e,SpanL K ms' (i+1) e∧i+1≤e∧e<b∧K e≠0∧K e≠1:=by
  induction h with
  | nil i=>intro k h1 h2;omega
  | fill i ts j hf h2 ih =>
    intro k h3 h4 h5
    have hne:k≠i:=fun e=>by rw [e,hf] at h5;omega
    obtain ⟨m,e,q⟩:=ih k (by omega) h4 h5
    exact ⟨m,e,q⟩
  | group i ms e ts j hf h1 h0 h3 h2 ih1 ih2 =>
    intro k h4 h5 h6
    have l1:=h1.le
    have l2:=h2.le
    rcases Nat.eq_or_lt_of_le h4 with rfl |h7
    · exact ⟨ms,e,h1,l1,by omega,h0,h3⟩
    · rcases Nat.lt_trichotomy k e with h8 |h8 |h8
      · obtain ⟨m,e',q1,q2,q3,q4⟩:=ih1 k h7 h8 h6
        exact ⟨m,e',q1,q2,by omega,q4⟩
      · rw [h8] at h6;exact absurd h6 h3
      · obtain ⟨m,e',q1,q2,q3,q4⟩:=ih2 k h8 h5 h6
        exact ⟨m,e',q1,q2,by omega,q4⟩
section
variable {I:Nat→ItemD} {R:Nat→List Run} {f:Nat→SrcF} {G:Mem} {W H:Int} {SA IA:Option Addr} {m sq n iq:Nat} {x y:Int}
set_option maxHeartbeats 8000000 in
theorem x57 (hI:ItemsM G IA n I) (hn:n≤1000000) (hK:∀ k,k<n→(I k).K=0∨(I k).K=1∨(I k).K=2) {i e:Nat} {ms:List Tr} (hs:SpanL (fun x=>(I x).K) ms (i+1) e) (he:e<n) (hi:(I i).K=1) (h0:(I e).K≠0) (h1:(I e).K≠1) :
    Gives Tryz.prog 39 [q08 W H SA m sq IA n iq,.val (.int .i64 i)] G (.val (.int .i64 e)):=by
  have hle:=hs.le
  have h2:(I e).K=2:=(hK e he).elim (fun h=>absurd h h0) fun h=>h.elim (fun h=>absurd h h1) id
  obtain ⟨d1,d2⟩:=hs.deps fun k _ hk=>hK k (by omega)
  have di:=z4d (K:=fun x=>(I x).K) hi
  have de:=z4e (K:=fun x=>(I x).K) h2
  refine q0o tab_ok Tryz.func39 ?_
  (repeat ((try (conv=>whnf));(refine stQ ?_)))
  conv=>whnf
  refine q0z tab_ok (fun k=>i≤k∧k≤e) (fun (k:Nat)=>[(6,.val (.int .i64 k)),(5,.val (.int .i64 (q0p (fun x=>(I x).K) k-q0p (fun x=>(I x).K) i)))]) (fun k=>[.cells 25 [.val (.int .i64 W),.val (.int .i64 H),.val (.slice SA m sq),.val (.slice IA n iq)]]) (fun k=>e+1-k) i ⟨Nat.le_refl _,by omega⟩ ?_ ?_
  · ((refine q0g ?_);(conv=>whnf);(refine q0j (by rfl) (by rfl) flQ ?_))
    exact q0c (by exact flQ) q0e
  · rintro k ⟨hk1,hk2⟩
    obtain ⟨p,rfl,hc⟩:=hI.kind (show k<n by omega)
    have c0:=hc 0 _ rfl
    have b1:=z2o (K:=fun x=>(I x).K) k
    have b2:=z2o (K:=fun x=>(I x).K) i
    have b3:i+1≤k+1→k+1≤e→_:=d2 (k+1)
    have b4:i+1≤k→k≤e→_:=d2 k
    rcases hK k (by omega) with hk |hk |hk
    · have s1:=x0h (K:=fun x=>(I x).K) hk
      have hne:k≠e:=fun h=>by rw [h,h2] at hk;omega
      generalize hDk:q0p (fun x=>(I x).K) k=Dk at *
      generalize hDi:q0p (fun x=>(I x).K) i=Di at *
      (repeat ((try (conv=>whnf));(first |(refine q0d _ c0 ?_) |(refine stQ ?_))))
      conv=>whnf
      refine ⟨k+1,⟨by omega,by omega⟩,by omega,?_⟩
      dsimp only
      rw [s1]
      ((refine q0g ?_);(conv=>whnf);(refine q0j (by rfl) (by rfl) flQ ?_))
      exact q0c (by exact flQ) q0e
    · have s1:=z4d (K:=fun x=>(I x).K) hk
      have hne:k≠e:=fun h=>by rw [h,h2] at hk;omega
      generalize hDk:q0p (fun x=>(I x).K) k=Dk at *
      generalize hDi:q0p (fun x=>(I x).K) i=Di at *
      have:0≤Dk-Di:=by
        rcases Nat.eq_or_lt_of_le hk1 with e1 |e1
        · subst e1;omega
        · have:=b4 e1 hk2;omega
      (repeat ((try (conv=>whnf));(first |(refine q0d _ c0 ?_) |(refine stQ ?_))))
      conv=>whnf
      refine ⟨k+1,⟨by omega,by omega⟩,by omega,?_⟩
      dsimp only
      rw [s1]
      ((refine q0g ?_);(conv=>whnf);(refine q0j (by rfl) (by rfl) flQ ?_))
      exact q0c (by exact flQ) q0e
    · have s1:=z4e (K:=fun x=>(I x).K) hk
      have hne:i≠k:=fun h=>by rw [← h,hi] at hk;omega
      have b5:=b4 (by omega) hk2
      by_cases hke:k=e
      · subst hke
        generalize hDk:q0p (fun x=>(I x).K) k=Dk at *
        generalize hDi:q0p (fun x=>(I x).K) i=Di at *
        (repeat ((try (conv=>whnf));(first |(refine q0d _ c0 ?_) |(refine stQ ?_))))
        conv=>whnf
        exact ⟨rfl,rfl⟩
      · have b6:=b3 (by omega) (by omega)
        generalize hDk:q0p (fun x=>(I x).K) k=Dk at *
        generalize hDi:q0p (fun x=>(I x).K) i=Di at *
        (repeat ((try (conv=>whnf));(first |(refine q0d _ c0 ?_) |(refine stQ ?_))))
        conv=>whnf
        refine ⟨k+1,⟨by omega,by omega⟩,by omega,?_⟩
        dsimp only
        rw [s1]
        ((refine q0g ?_);(conv=>whnf);(refine q0j (by rfl) (by rfl) flQ ?_))
        exact q0c (by exact flQ) q0e
variable {er:Int}
theorem x97 {i:Int} (hC:Gives Tryz.prog 33 [q08 W H SA m sq IA n iq] G (.val (.int .i64 er))) (he:er≠0) :
    Gives Tryz.prog 16 [q08 W H SA m sq IA n iq,.val (.int .i64 i)] G (.tup [.val (.int .i64 0),.val (.int .i64 er)]):=by
  refine q0o tab_ok Tryz.func16 ?_
  (repeat ((try (conv=>whnf));(first |(refine stQ ?_) |(with_reducible first |refine q0b (fun vs w=>by kernel_rfl) (by kernel_rfl) (hC) ?_ |refine q0a (fun vs w=>by kernel_rfl) (by kernel_rfl) (hC) ?_))))
  exact ⟨rfl,rfl⟩
theorem x3u {i:Int} (hC:Gives Tryz.prog 33 [q08 W H SA m sq IA n iq] G (.val (.int .i64 er))) (he:er≠0) :
    Gives Tryz.prog 15 [q08 W H SA m sq IA n iq,.val (.int .i64 i),.val (.int .i64 x),.val (.int .i64 y)] G (.tup [.val (.bool false),.val (.int .i64 er)]):=by
  refine q0o tab_ok Tryz.func15 ?_
  (repeat ((try (conv=>whnf));(first |(refine stQ ?_) |(with_reducible first |refine q0b (fun vs w=>by kernel_rfl) (by kernel_rfl) (hC) ?_ |refine q0a (fun vs w=>by kernel_rfl) (by kernel_rfl) (hC) ?_))))
  exact ⟨rfl,rfl⟩
theorem x98 {i:Int} (hC:Gives Tryz.prog 33 [q08 W H SA m sq IA n iq] G (.val (.int .i64 0))) (ho:¬ (0≤i∧i<n)) (hn:n≤1000000) :
    Gives Tryz.prog 16 [q08 W H SA m sq IA n iq,.val (.int .i64 i)] G (.tup [.val (.int .i64 0),.val (.int .i64 3)]):=by
  refine q0o tab_ok Tryz.func16 ?_
  by_cases h1:i<0
  · (repeat ((try (conv=>whnf));(first |(refine stQ ?_) |(with_reducible first |refine q0b (fun vs w=>by kernel_rfl) (by kernel_rfl) (hC) ?_ |refine q0a (fun vs w=>by kernel_rfl) (by kernel_rfl) (hC) ?_))))
    exact ⟨rfl,rfl⟩
  · (repeat ((try (conv=>whnf));(first |(refine stQ ?_) |(with_reducible first |refine q0b (fun vs w=>by kernel_rfl) (by kernel_rfl) (hC) ?_ |refine q0a (fun vs w=>by kernel_rfl) (by kernel_rfl) (hC) ?_))))
    exact ⟨rfl,rfl⟩
theorem x3v {i:Int} (hC:Gives Tryz.prog 33 [q08 W H SA m sq IA n iq] G (.val (.int .i64 0))) (ho:¬ (0≤i∧i<n)) (hn:n≤1000000) :
    Gives Tryz.prog 15 [q08 W H SA m sq IA n iq,.val (.int .i64 i),.val (.int .i64 x),.val (.int .i64 y)] G (.tup [.val (.bool false),.val (.int .i64 3)]):=by
  refine q0o tab_ok Tryz.func15 ?_
  by_cases h1:i<0
  · (repeat ((try (conv=>whnf));(first |(refine stQ ?_) |(with_reducible first |refine q0b (fun vs w=>by kernel_rfl) (by kernel_rfl) (hC) ?_ |refine q0a (fun vs w=>by kernel_rfl) (by kernel_rfl) (hC) ?_))))
    exact ⟨rfl,rfl⟩
  · (repeat ((try (conv=>whnf));(first |(refine stQ ?_) |(with_reducible first |refine q0b (fun vs w=>by kernel_rfl) (by kernel_rfl) (hC) ?_ |refine q0a (fun vs w=>by kernel_rfl) (by kernel_rfl) (hC) ?_))))
    exact ⟨rfl,rfl⟩
theorem x0i {i:Nat} (hC:Gives Tryz.prog 33 [q08 W H SA m sq IA n iq] G (.val (.int .i64 0))) (hI:ItemsM G IA n I) (hi:i<n) (hn:n≤1000000) (hK:(I i).K≠1) :
    Gives Tryz.prog 16 [q08 W H SA m sq IA n iq,.val (.int .i64 i)] G (.tup [.val (.int .i64 0),.val (.int .i64 14)]):=by
  obtain ⟨p,rfl,hc⟩:=hI.kind hi
  have c0:=hc 0 _ rfl
  refine q0o tab_ok Tryz.func16 ?_
  (repeat ((try (conv=>whnf));(first |(refine q0d _ c0 ?_) |(refine stQ ?_) |(with_reducible first |refine q0b (fun vs w=>by kernel_rfl) (by kernel_rfl) (hC) ?_ |refine q0a (fun vs w=>by kernel_rfl) (by kernel_rfl) (hC) ?_))))
  exact ⟨rfl,rfl⟩
theorem v01 {i e:Nat} (hC:Gives Tryz.prog 33 [q08 W H SA m sq IA n iq] G (.val (.int .i64 0))) (hI:ItemsM G IA n I) (hi:i<n) (hn:n≤1000000) (hK:(I i).K=1)
    (hE:Gives Tryz.prog 39 [q08 W H SA m sq IA n iq,.val (.int .i64 i)] G (.val (.int .i64 e))) :
    Gives Tryz.prog 16 [q08 W H SA m sq IA n iq,.val (.int .i64 i)] G (.tup [.val (.int .i64 e),.val (.int .i64 0)]):=by
  obtain ⟨p,rfl,hc⟩:=hI.kind hi
  have c0:=hc 0 _ rfl
  refine q0o tab_ok Tryz.func16 ?_
  (repeat ((try (conv=>whnf));(first |(refine q0d _ c0 ?_) |(refine stQ ?_) |(with_reducible first |refine q0b (fun vs w=>by kernel_rfl) (by kernel_rfl) (hC) ?_ |refine q0a (fun vs w=>by kernel_rfl) (by kernel_rfl) (hC) ?_ |refine q0b (fun vs w=>by kernel_rfl) (by kernel_rfl) (hE) ?_ |refine q0a (fun vs w=>by kernel_rfl) (by kernel_rfl) (hE) ?_))))
  exact ⟨rfl,rfl⟩
theorem x1d {i:Nat} (hC:Gives Tryz.prog 33 [q08 W H SA m sq IA n iq] G (.val (.int .i64 0))) (hI:ItemsM G IA n I) (hi:i<n) (hn:n≤1000000) (hK:(I i).K=2) :
    Gives Tryz.prog 15 [q08 W H SA m sq IA n iq,.val (.int .i64 i),.val (.int .i64 x),.val (.int .i64 y)] G (.tup [.val (.bool false),.val (.int .i64 14)]):=by
  obtain ⟨p,rfl,hc⟩:=hI.kind hi
  have c0:=hc 0 _ rfl
  refine q0o tab_ok Tryz.func15 ?_
  (repeat ((try (conv=>whnf));(first |(refine q0d _ c0 ?_) |(refine stQ ?_) |(with_reducible first |refine q0b (fun vs w=>by kernel_rfl) (by kernel_rfl) (hC) ?_ |refine q0a (fun vs w=>by kernel_rfl) (by kernel_rfl) (hC) ?_))))
  exact ⟨rfl,rfl⟩
theorem x8g (p:Addr) (a b:Nat):(p.add a).add b=p.add (a+b):=by
  unfold Addr.add
  by_cases ha:a=0 <;> by_cases hb:b=0 <;> simp_all [Nat.add_assoc]
theorem cutS {c k q:Nat} {p:Addr} (hc:c≠q):(if c=(q:Int).toNat then some p else (some p).map (·.add ((q:Int).toNat * k)))=some (p.add (q*k)):=by
  rw [if_neg (by simpa using hc)];simp
theorem ItemsM.drop {G:Mem} {p:Addr} {n:Nat} {I:Nat→ItemD} (h:ItemsM G (some p) n I) {i k:Nat} (hk:i+k<n):∀ K:List Value→Prop,K (I (i+k)).cells→OldCells G ((p.add (i*34)).add (k*34)) 34 K:=fun K hK=>by
  obtain ⟨q,hq,hh⟩:=h (i+k) hk
  cases hq
  have e:(p.add (i*34)).add (k*34)=p.add ((i+k)*34):=by rw [x8g,Nat.add_mul]
  rw [e];exact hh K hK
set_option maxHeartbeats 16000000 in
theorem z70 {i e:Nat} (hC:Gives Tryz.prog 33 [q08 W H SA m sq IA n iq] G (.val (.int .i64 0))) (hI:ItemsM G IA n I) (hn:n≤1000000) (hq:n≤iq∧iq≤maxLen) (hie:i<e) (he:e≤n) (hR:∀ k,k<n→(I k).K=0→RegOk G I R k)
    (hK:((I i).K=0∧e=i+1)∨((I i).K=1∧Gives Tryz.prog 39 [q08 W H SA m sq IA n iq,.val (.int .i64 i)] G (.val (.int .i64 e)))) :
    Gives Tryz.prog 15 [q08 W H SA m sq IA n iq,.val (.int .i64 i),.val (.int .i64 x),.val (.int .i64 y)] G (.tup [.val (.bool (cvB I R x y i (e-i))),.val (.int .i64 0)]):=by
  obtain ⟨p,rfl,hc⟩:=hI.kind (show i<n by omega)
  have c0:=hc 0 _ rfl
  have hmx:maxLen≤9223372036854775807:=Nat.le_refl _
  refine q0o tab_ok Tryz.func15 ?_
  rcases hK with ⟨hK,rfl⟩ |⟨hK,hE⟩
  · (repeat ((try (conv=>whnf));(first |(refine q0d _ c0 ?_) |(refine stQ ?_) |(with_reducible first |refine q0b (fun vs w=>by kernel_rfl) (by kernel_rfl) (hC) ?_ |refine q0a (fun vs w=>by kernel_rfl) (by kernel_rfl) (hC) ?_))))
    conv=>whnf
    rw [cutS (by omega)]
    refine q0z tab_ok (fun j=>j≤i+1-i∧cvB I R x y i j=false) (fun (j:Nat)=>[(49,.val (.int .i64 j))]) (fun j=>[.cells 25 [.val (.int .i64 W),.val (.int .i64 H),.val (.slice SA m sq),.val (.slice (some p) n iq)]]) (fun j=>i+1-i-j) 0 ⟨Nat.zero_le _,rfl⟩ ?_ ?_
    · ((refine q0g ?_);(conv=>whnf);(refine q0j (by rfl) (by rfl) flQ ?_))
      exact q0c (by exact flQ) q0e
    · rintro j ⟨hj1,hj2⟩
      rcases Nat.lt_or_ge j (i+1-i) with h2 |h2
      · have hD:=hI.drop (show i+j<n by omega)
        have hnx:cvB I R x y i (j+1)=(decide ((I (i+j)).K=0)&&hasL (R (i+j)) x y):=by
          rw [cvB,hj2,Bool.false_or]
        by_cases h0:(I (i+j)).K=0
        · obtain ⟨hRM,hRn,hV⟩:=hR (i+j) (by omega) h0
          have hh:=z7v (c:=(I (i+j)).rq) (x:=x) (y:=y) hRM hV
          rw [← hRn] at hh
          simp only [h0,decide_true,Bool.true_and] at hnx
          cases hb:hasL (R (i+j)) x y with
          | true =>
            rw [hb] at hh hnx
            have hend:cvB I R x y i (i+1-i)=true:=by
              rw [show i+1-i=(j+1)+(i+1-i-(j+1)) by omega,q51,hnx];rfl
            rw [hend]
            (repeat ((try (conv=>whnf));(first |(refine hD _ ?_) |(refine stQ ?_) |(with_reducible first |refine q0b (fun vs w=>by kernel_rfl) (by kernel_rfl) (hh) ?_ |refine q0a (fun vs w=>by kernel_rfl) (by kernel_rfl) (hh) ?_))))
            conv=>whnf
            exact ⟨rfl,rfl⟩
          | false =>
            rw [hb] at hh hnx
            (repeat ((try (conv=>whnf));(first |(refine hD _ ?_) |(refine stQ ?_) |(with_reducible first |refine q0b (fun vs w=>by kernel_rfl) (by kernel_rfl) (hh) ?_ |refine q0a (fun vs w=>by kernel_rfl) (by kernel_rfl) (hh) ?_))))
            conv=>whnf
            refine ⟨j+1,⟨by omega,hnx⟩,by omega,?_⟩
            ((refine q0g ?_);(conv=>whnf);(refine q0j (by rfl) (by rfl) flQ ?_))
            exact q0c (by exact flQ) q0e
        · simp only [h0,decide_false,Bool.false_and] at hnx
          (repeat ((try (conv=>whnf));(first |(refine hD _ ?_) |(refine stQ ?_))))
          conv=>whnf
          refine ⟨j+1,⟨by omega,hnx⟩,by omega,?_⟩
          ((refine q0g ?_);(conv=>whnf);(refine q0j (by rfl) (by rfl) flQ ?_))
          exact q0c (by exact flQ) q0e
      · have hj:j=i+1-i:=by omega
        (repeat ((try (conv=>whnf));(refine stQ ?_)))
        rw [← hj,hj2]
        exact ⟨rfl,rfl⟩
  · (repeat ((try (conv=>whnf));(first |(refine q0d _ c0 ?_) |(refine stQ ?_) |(with_reducible first |refine q0b (fun vs w=>by kernel_rfl) (by kernel_rfl) (hC) ?_ |refine q0a (fun vs w=>by kernel_rfl) (by kernel_rfl) (hC) ?_ |refine q0b (fun vs w=>by kernel_rfl) (by kernel_rfl) (hE) ?_ |refine q0a (fun vs w=>by kernel_rfl) (by kernel_rfl) (hE) ?_))))
    conv=>whnf
    rw [cutS (by omega)]
    refine q0z tab_ok (fun j=>j≤e-i∧cvB I R x y i j=false) (fun (j:Nat)=>[(49,.val (.int .i64 j))]) (fun j=>[.cells 25 [.val (.int .i64 W),.val (.int .i64 H),.val (.slice SA m sq),.val (.slice (some p) n iq)]]) (fun j=>e-i-j) 0 ⟨Nat.zero_le _,rfl⟩ ?_ ?_
    · ((refine q0g ?_);(conv=>whnf);(refine q0j (by rfl) (by rfl) flQ ?_))
      exact q0c (by exact flQ) q0e
    · rintro j ⟨hj1,hj2⟩
      rcases Nat.lt_or_ge j (e-i) with h2 |h2
      · have hD:=hI.drop (show i+j<n by omega)
        have hnx:cvB I R x y i (j+1)=(decide ((I (i+j)).K=0)&&hasL (R (i+j)) x y):=by
          rw [cvB,hj2,Bool.false_or]
        by_cases h0:(I (i+j)).K=0
        · obtain ⟨hRM,hRn,hV⟩:=hR (i+j) (by omega) h0
          have hh:=z7v (c:=(I (i+j)).rq) (x:=x) (y:=y) hRM hV
          rw [← hRn] at hh
          simp only [h0,decide_true,Bool.true_and] at hnx
          cases hb:hasL (R (i+j)) x y with
          | true =>
            rw [hb] at hh hnx
            have hend:cvB I R x y i (e-i)=true:=by
              rw [show e-i=(j+1)+(e-i-(j+1)) by omega,q51,hnx];rfl
            rw [hend]
            (repeat ((try (conv=>whnf));(first |(refine hD _ ?_) |(refine stQ ?_) |(with_reducible first |refine q0b (fun vs w=>by kernel_rfl) (by kernel_rfl) (hh) ?_ |refine q0a (fun vs w=>by kernel_rfl) (by kernel_rfl) (hh) ?_))))
            conv=>whnf
            exact ⟨rfl,rfl⟩
          | false =>
            rw [hb] at hh hnx
            (repeat ((try (conv=>whnf));(first |(refine hD _ ?_) |(refine stQ ?_) |(with_reducible first |refine q0b (fun vs w=>by kernel_rfl) (by kernel_rfl) (hh) ?_ |refine q0a (fun vs w=>by kernel_rfl) (by kernel_rfl) (hh) ?_))))
            conv=>whnf
            refine ⟨j+1,⟨by omega,hnx⟩,by omega,?_⟩
            ((refine q0g ?_);(conv=>whnf);(refine q0j (by rfl) (by rfl) flQ ?_))
            exact q0c (by exact flQ) q0e
        · simp only [h0,decide_false,Bool.false_and] at hnx
          (repeat ((try (conv=>whnf));(first |(refine hD _ ?_) |(refine stQ ?_))))
          conv=>whnf
          refine ⟨j+1,⟨by omega,hnx⟩,by omega,?_⟩
          ((refine q0g ?_);(conv=>whnf);(refine q0j (by rfl) (by rfl) flQ ?_))
          exact q0c (by exact flQ) q0e
      · have hj:j=e-i:=by omega
        (repeat ((try (conv=>whnf));(refine stQ ?_)))
        rw [← hj,hj2]
        exact ⟨rfl,rfl⟩
end
end Go.Proofs.YticolnghiibgfaaGreat
namespace Go.Proofs.YticolnghiibgfaaGreat.listCoversCells
open Go.RowKit Go.Deep
set_option maxRecDepth 20000
section
variable {W H i x y:Int} {A B:Option Addr} {m sq n iq:Nat} {gs gi:Nat→Nat→Value} {w:World}
set_option maxHeartbeats 8000000 in
theorem body (hm:m≤sq∧sq≤maxLen) (hn:n≤iq∧iq≤maxLen) (hs:SliceG Tryz.prog w 9 A m gs) (hi:SliceG Tryz.prog w 56 B n gi) :
    q4h Tryz.prog tab 0 Tryz.f5 [q08 W H A m sq B n iq,.val (.int .i64 i),.val (.int .i64 x),.val (.int .i64 y)] [] (q1s w) fun v _ _=>v=.val (.bool true):=by
  obtain ⟨e,h1,h2,h3⟩:=z2n (W:=W) (H:=H) hm hn hs hi
  have hL:=q90 (G:=q1s w)
  have hI:=z27 hi
  clear hs hi
  by_cases he:e=0
  · obtain ⟨hW,hH,hm8,hn5,f,R,ok,ref⟩:=h3 he
    subst he
    clear h3
    by_cases ho:0≤i∧i<n
    · obtain ⟨k,rfl⟩:=Int.eq_ofNat_of_zero_le ho.1
      have hk:k<n:=by omega
      obtain ⟨p,hpB,hc⟩:=hI.kind hk
      have c0:=hc 0 _ rfl
      have c1:=hc 1 _ rfl
      rcases ref.kind k hk with hK |hK |hK
      · obtain ⟨hRM,hRn,hV⟩:=ok.reg k hk hK
        have r1:=z70 (W:=W) (H:=H) (SA:=A) (sq:=sq) (x:=x) (y:=y) h1 hI (by omega) hn (show k<k+1 by omega) (by omega) (fun j hj h=>ok.reg j hj h) (.inl ⟨hK,rfl⟩)
        have r2:=x0i h1 hI hk (by omega) (by rw [hK];omega)
        have r3:=z7s (q4t (gi k)).RA (R k) (q4t (gi k)).rq x y (q1s w) hRM (by have:=hV.length;omega)
        rw [← hRn] at r3
        have hcv:cvB (fun x=>q4t (gi x)) R x y k (k+1-k)=hasL (R k) x y:=by
          rw [show k+1-k=0+1 by omega]
          simp [cvB,hK]
        rw [hcv] at r1
        generalize hasL (R k) x y=b at *
        rw [hK] at c0
        clear hI ok ref h1 hcv
        subst hpB
        cases b
        all_goals ((repeat ((try (conv=>whnf));(first |(refine q0d _ c0 ?_) |(refine q0d _ c1 ?_) |(with_reducible refine q7i (by kernel_rfl) ?_) |(refine stQ ?_) |(with_reducible first |refine q0b (fun vs w=>by kernel_rfl) (by kernel_rfl) (hL) ?_ |refine q0a (fun vs w=>by kernel_rfl) (by kernel_rfl) (hL) ?_ |refine q0b (fun vs w=>by kernel_rfl) (by kernel_rfl) (r1) ?_ |refine q0a (fun vs w=>by kernel_rfl) (by kernel_rfl) (r1) ?_ |refine q0b (fun vs w=>by kernel_rfl) (by kernel_rfl) (r2) ?_ |refine q0a (fun vs w=>by kernel_rfl) (by kernel_rfl) (r2) ?_ |refine q0b (fun vs w=>by kernel_rfl) (by kernel_rfl) (h2) ?_ |refine q0a (fun vs w=>by kernel_rfl) (by kernel_rfl) (h2) ?_ |refine q0f tab_ok Tryz.func12 (fun vs w=>by kernel_rfl) (by rfl) ?_ |refine q0b (fun vs w=>by kernel_rfl) (by kernel_rfl) (r3) ?_ |refine q0a (fun vs w=>by kernel_rfl) (by kernel_rfl) (r3) ?_)))))
        all_goals (conv=>whnf)
        all_goals (try simp)
      · obtain ⟨ms,e,hsp,q1,q2,q3,q4⟩:=ok.span.find k (Nat.zero_le _) hk hK
        have re:=x57 (W:=W) (H:=H) (SA:=A) (m:=m) (sq:=sq) (iq:=iq) hI (by omega) (fun j hj=>ref.kind j hj) hsp q2 hK q3 q4
        have rr:=z1b (W:=W) (H:=H) (SA:=A) (m:=m) (sq:=sq) (iq:=iq) hI (by omega) (fun j hj=>ref.kind j hj) _ k e ms (Nat.le_refl _) hsp q2 q3 q4
        have r1:=z70 (W:=W) (H:=H) (SA:=A) (sq:=sq) (x:=x) (y:=y) h1 hI (by omega) hn (show k<e by omega) (by omega) (fun j hj h=>ok.reg j hj h) (.inr ⟨hK,re⟩)
        have r2:=v01 h1 hI hk (by omega) hK re
        have r3:=z1c (W:=W) (H:=H) (SA:=A) (m:=m) (sq:=sq) (iq:=iq) (x:=x) (y:=y) hI (by omega) (fun j hj h=>ok.reg j hj h) (i:=k) (j:=e) (by omega) (by omega)
        generalize cvB (fun x=>q4t (gi x)) R x y k (e-k)=b at *
        rw [hK] at c0
        clear hI ok ref h1 re hsp
        subst hpB
        cases b
        all_goals ((repeat ((try (conv=>whnf));(first |(refine q0d _ c0 ?_) |(with_reducible refine q7i (by kernel_rfl) ?_) |(refine stQ ?_) |(with_reducible first |refine q0b (fun vs w=>by kernel_rfl) (by kernel_rfl) (hL) ?_ |refine q0a (fun vs w=>by kernel_rfl) (by kernel_rfl) (hL) ?_ |refine q0b (fun vs w=>by kernel_rfl) (by kernel_rfl) (r1) ?_ |refine q0a (fun vs w=>by kernel_rfl) (by kernel_rfl) (r1) ?_ |refine q0b (fun vs w=>by kernel_rfl) (by kernel_rfl) (r2) ?_ |refine q0a (fun vs w=>by kernel_rfl) (by kernel_rfl) (r2) ?_ |refine q0b (fun vs w=>by kernel_rfl) (by kernel_rfl) (h2) ?_ |refine q0a (fun vs w=>by kernel_rfl) (by kernel_rfl) (h2) ?_ |refine q0f tab_ok Tryz.func12 (fun vs w=>by kernel_rfl) (by rfl) ?_ |refine q0b (fun vs w=>by kernel_rfl) (by kernel_rfl) (rr) ?_ |refine q0a (fun vs w=>by kernel_rfl) (by kernel_rfl) (rr) ?_ |refine q0b (fun vs w=>by kernel_rfl) (by kernel_rfl) (r3) ?_ |refine q0a (fun vs w=>by kernel_rfl) (by kernel_rfl) (r3) ?_)))))
        all_goals (conv=>whnf)
        all_goals (try simp)
      · have r1:=x1d (W:=W) (H:=H) (SA:=A) (sq:=sq) (x:=x) (y:=y) h1 hI hk (by omega) hK
        have r2:=x0i h1 hI hk (by omega) (by rw [hK];omega)
        rw [hK] at c0
        clear hI ok ref h1
        subst hpB
        (repeat ((try (conv=>whnf));(first |(refine q0d _ c0 ?_) |(refine stQ ?_) |(with_reducible first |refine q0b (fun vs w=>by kernel_rfl) (by kernel_rfl) (hL) ?_ |refine q0a (fun vs w=>by kernel_rfl) (by kernel_rfl) (hL) ?_ |refine q0b (fun vs w=>by kernel_rfl) (by kernel_rfl) (r1) ?_ |refine q0a (fun vs w=>by kernel_rfl) (by kernel_rfl) (r1) ?_ |refine q0b (fun vs w=>by kernel_rfl) (by kernel_rfl) (r2) ?_ |refine q0a (fun vs w=>by kernel_rfl) (by kernel_rfl) (r2) ?_ |refine q0b (fun vs w=>by kernel_rfl) (by kernel_rfl) (h2) ?_ |refine q0a (fun vs w=>by kernel_rfl) (by kernel_rfl) (h2) ?_ |refine q0f tab_ok Tryz.func12 (fun vs w=>by kernel_rfl) (by rfl) ?_))))
        conv=>whnf
        try simp
    · have r1:=x3v (x:=x) (y:=y) h1 ho (by omega)
      have r2:=x98 h1 ho (by omega)
      clear hI ok ref h1
      by_cases x0:i<0
      · (repeat ((try (conv=>whnf));(first |(refine stQ ?_) |(with_reducible first |refine q0b (fun vs w=>by kernel_rfl) (by kernel_rfl) (hL) ?_ |refine q0a (fun vs w=>by kernel_rfl) (by kernel_rfl) (hL) ?_ |refine q0b (fun vs w=>by kernel_rfl) (by kernel_rfl) (r1) ?_ |refine q0a (fun vs w=>by kernel_rfl) (by kernel_rfl) (r1) ?_ |refine q0b (fun vs w=>by kernel_rfl) (by kernel_rfl) (r2) ?_ |refine q0a (fun vs w=>by kernel_rfl) (by kernel_rfl) (r2) ?_ |refine q0b (fun vs w=>by kernel_rfl) (by kernel_rfl) (h2) ?_ |refine q0a (fun vs w=>by kernel_rfl) (by kernel_rfl) (h2) ?_ |refine q0f tab_ok Tryz.func12 (fun vs w=>by kernel_rfl) (by rfl) ?_))))
        conv=>whnf
        try simp
      · (repeat ((try (conv=>whnf));(first |(refine stQ ?_) |(with_reducible first |refine q0b (fun vs w=>by kernel_rfl) (by kernel_rfl) (hL) ?_ |refine q0a (fun vs w=>by kernel_rfl) (by kernel_rfl) (hL) ?_ |refine q0b (fun vs w=>by kernel_rfl) (by kernel_rfl) (r1) ?_ |refine q0a (fun vs w=>by kernel_rfl) (by kernel_rfl) (r1) ?_ |refine q0b (fun vs w=>by kernel_rfl) (by kernel_rfl) (r2) ?_ |refine q0a (fun vs w=>by kernel_rfl) (by kernel_rfl) (r2) ?_ |refine q0b (fun vs w=>by kernel_rfl) (by kernel_rfl) (h2) ?_ |refine q0a (fun vs w=>by kernel_rfl) (by kernel_rfl) (h2) ?_ |refine q0f tab_ok Tryz.func12 (fun vs w=>by kernel_rfl) (by rfl) ?_))))
        conv=>whnf
        try simp
  · have r1:=x3u (i:=i) (x:=x) (y:=y) h1 he
    have r2:=x97 (i:=i) h1 he
    clear hI h1 h3
    (repeat ((try (conv=>whnf));(first |(refine stQ ?_) |(with_reducible first |refine q0b (fun vs w=>by kernel_rfl) (by kernel_rfl) (hL) ?_ |refine q0a (fun vs w=>by kernel_rfl) (by kernel_rfl) (hL) ?_ |refine q0b (fun vs w=>by kernel_rfl) (by kernel_rfl) (r1) ?_ |refine q0a (fun vs w=>by kernel_rfl) (by kernel_rfl) (r1) ?_ |refine q0b (fun vs w=>by kernel_rfl) (by kernel_rfl) (r2) ?_ |refine q0a (fun vs w=>by kernel_rfl) (by kernel_rfl) (r2) ?_ |refine q0b (fun vs w=>by kernel_rfl) (by kernel_rfl) (h2) ?_ |refine q0a (fun vs w=>by kernel_rfl) (by kernel_rfl) (h2) ?_ |refine q0f tab_ok Tryz.func12 (fun vs w=>by kernel_rfl) (by rfl) ?_))))
    conv=>whnf
    try simp
end
theorem walk (a0x0:Int) (a0x1:Int) (A0x2:Option Addr) (n0x2:Nat) (q0x2:Nat) (g0x2:Nat→Nat→Value) (A0x3:Option Addr) (n0x3:Nat) (q0x3:Nat) (g0x3:Nat→Nat→Value) (a1:Int) (a2:Int) (a3:Int) (w:World) (w0x0:(Lit.int .i64 a0x0).wf=true) (w0x1:(Lit.int .i64 a0x1).wf=true) (c0x2:n0x2≤q0x2) (m0x2:q0x2≤maxLen) (s0x2:SliceG Tryz.prog w 9 A0x2 n0x2 g0x2) (c0x3:n0x3≤q0x3) (m0x3:q0x3≤maxLen) (s0x3:SliceG Tryz.prog w 56 A0x3 n0x3 g0x3) (w1:(Lit.int .i64 a1).wf=true) (w2:(Lit.int .i64 a2).wf=true) (w3:(Lit.int .i64 a3).wf=true) :
    Calls Tryz.prog 5 #[.agg #[.int .i64 a0x0,.int .i64 a0x1,.slice A0x2 n0x2 q0x2,.slice A0x3 n0x3 q0x3],.int .i64 a1,.int .i64 a2,.int .i64 a3] w fun e w'=>e=.returned (.bool true)∧Below w.heap.size w w':=by
  refine z6k tab_ok Tryz.func5 ?_ (body (W:=a0x0) (H:=a0x1) (A:=A0x2) (m:=n0x2) (sq:=q0x2) (gs:=g0x2) (B:=A0x3) (n:=n0x3) (iq:=q0x3) (gi:=g0x3) (i:=a1) (x:=a2) (y:=a3) ⟨c0x2,m0x2⟩ ⟨c0x3,m0x3⟩ s0x2 s0x3)
  rw [AV.rels]
  refine ⟨_,_,rfl,?_,q2l [.int .i64 a1,.int .i64 a2,.int .i64 a3]⟩
  rw [AV.rel]
  exact ⟨_,rfl,q2l (β:=noName) [.int .i64 a0x0,.int .i64 a0x1,.slice A0x2 n0x2 q0x2,.slice A0x3 n0x3 q0x3]⟩
end Go.Proofs.YticolnghiibgfaaGreat.listCoversCells
namespace Go.Proofs.YticolnghiibgfaaGreat.listMeaning
open Go.RowKit Go.Deep
set_option maxRecDepth 20000
section
variable {W H x y:Int} {A B:Option Addr} {m sq n iq:Nat} {gs gi:Nat→Nat→Value} {w:World}
set_option maxHeartbeats 8000000 in
theorem body (hm:m≤sq∧sq≤maxLen) (hn:n≤iq∧iq≤maxLen) (hs:SliceG Tryz.prog w 9 A m gs) (hi:SliceG Tryz.prog w 56 B n gi) :
    q4h Tryz.prog tab 0 Tryz.f3 [q08 W H A m sq B n iq,.val (.int .i64 x),.val (.int .i64 y)] [] (q1s w) fun v _ _=>v=.val (.bool true):=by
  obtain ⟨e,h1,h2,h3⟩:=z2n (W:=W) (H:=H) hm hn hs hi
  have hL:=q90 (G:=q1s w)
  have hI:=z27 hi
  clear hs hi
  by_cases he:e=0
  · obtain ⟨hW,hH,hm8,hn5,f,R,ok,ref⟩:=h3 he
    subst he
    clear h3
    by_cases ho:(0≤x∧x<16*W)∧0≤y∧y<16*H
    · have r1:=x0c h1 hI (by omega) hm8 hW hH ok ho.1 ho.2
      have r2:=z1i (W:=W) (H:=H) (SA:=A) (sq:=sq) (iq:=iq) (x:=x) (y:=y) hI (by omega) hm8 ok ref (by omega) (by omega)
      generalize q67 (fun x=>q4t (gi x)) f R n m x y=V at r1 r2
      clear hI ok ref h1
      obtain ⟨⟨x0,x1⟩,y0,y1⟩:=ho
      (repeat ((try (conv=>whnf));(first |(refine stQ ?_) |(with_reducible first |refine q0b (fun vs w=>by kernel_rfl) (by kernel_rfl) (hL) ?_ |refine q0a (fun vs w=>by kernel_rfl) (by kernel_rfl) (hL) ?_ |refine q0b (fun vs w=>by kernel_rfl) (by kernel_rfl) (r1) ?_ |refine q0a (fun vs w=>by kernel_rfl) (by kernel_rfl) (r1) ?_ |refine q0b (fun vs w=>by kernel_rfl) (by kernel_rfl) (h2) ?_ |refine q0a (fun vs w=>by kernel_rfl) (by kernel_rfl) (h2) ?_ |refine q0b (fun vs w=>by kernel_rfl) (by kernel_rfl) (r2) ?_ |refine q0a (fun vs w=>by kernel_rfl) (by kernel_rfl) (r2) ?_ |refine q0f tab_ok Tryz.func12 (fun vs w=>by kernel_rfl) (by rfl) ?_))))
      conv=>whnf
      try simp
    · have r1:=x91 (x:=x) (y:=y) h1 hW hH ho
      clear hI ok ref h1
      by_cases x0:x<0
      · (repeat ((try (conv=>whnf));(first |(refine stQ ?_) |(with_reducible first |refine q0b (fun vs w=>by kernel_rfl) (by kernel_rfl) (hL) ?_ |refine q0a (fun vs w=>by kernel_rfl) (by kernel_rfl) (hL) ?_ |refine q0b (fun vs w=>by kernel_rfl) (by kernel_rfl) (r1) ?_ |refine q0a (fun vs w=>by kernel_rfl) (by kernel_rfl) (r1) ?_ |refine q0b (fun vs w=>by kernel_rfl) (by kernel_rfl) (h2) ?_ |refine q0a (fun vs w=>by kernel_rfl) (by kernel_rfl) (h2) ?_ |refine q0f tab_ok Tryz.func12 (fun vs w=>by kernel_rfl) (by rfl) ?_))))
        conv=>whnf
        try simp
      by_cases x1:x<16*W
      · by_cases y0:y<0
        · (repeat ((try (conv=>whnf));(first |(refine stQ ?_) |(with_reducible first |refine q0b (fun vs w=>by kernel_rfl) (by kernel_rfl) (hL) ?_ |refine q0a (fun vs w=>by kernel_rfl) (by kernel_rfl) (hL) ?_ |refine q0b (fun vs w=>by kernel_rfl) (by kernel_rfl) (r1) ?_ |refine q0a (fun vs w=>by kernel_rfl) (by kernel_rfl) (r1) ?_ |refine q0b (fun vs w=>by kernel_rfl) (by kernel_rfl) (h2) ?_ |refine q0a (fun vs w=>by kernel_rfl) (by kernel_rfl) (h2) ?_ |refine q0f tab_ok Tryz.func12 (fun vs w=>by kernel_rfl) (by rfl) ?_))))
          conv=>whnf
          try simp
        · have y1:16*H≤y:=by omega
          (repeat ((try (conv=>whnf));(first |(refine stQ ?_) |(with_reducible first |refine q0b (fun vs w=>by kernel_rfl) (by kernel_rfl) (hL) ?_ |refine q0a (fun vs w=>by kernel_rfl) (by kernel_rfl) (hL) ?_ |refine q0b (fun vs w=>by kernel_rfl) (by kernel_rfl) (r1) ?_ |refine q0a (fun vs w=>by kernel_rfl) (by kernel_rfl) (r1) ?_ |refine q0b (fun vs w=>by kernel_rfl) (by kernel_rfl) (h2) ?_ |refine q0a (fun vs w=>by kernel_rfl) (by kernel_rfl) (h2) ?_ |refine q0f tab_ok Tryz.func12 (fun vs w=>by kernel_rfl) (by rfl) ?_))))
          conv=>whnf
          try simp
      · (repeat ((try (conv=>whnf));(first |(refine stQ ?_) |(with_reducible first |refine q0b (fun vs w=>by kernel_rfl) (by kernel_rfl) (hL) ?_ |refine q0a (fun vs w=>by kernel_rfl) (by kernel_rfl) (hL) ?_ |refine q0b (fun vs w=>by kernel_rfl) (by kernel_rfl) (r1) ?_ |refine q0a (fun vs w=>by kernel_rfl) (by kernel_rfl) (r1) ?_ |refine q0b (fun vs w=>by kernel_rfl) (by kernel_rfl) (h2) ?_ |refine q0a (fun vs w=>by kernel_rfl) (by kernel_rfl) (h2) ?_ |refine q0f tab_ok Tryz.func12 (fun vs w=>by kernel_rfl) (by rfl) ?_))))
        conv=>whnf
        try simp
  · have r1:=x90 (x:=x) (y:=y) h1 he
    clear hI h1 h3
    (repeat ((try (conv=>whnf));(first |(refine stQ ?_) |(with_reducible first |refine q0b (fun vs w=>by kernel_rfl) (by kernel_rfl) (hL) ?_ |refine q0a (fun vs w=>by kernel_rfl) (by kernel_rfl) (hL) ?_ |refine q0b (fun vs w=>by kernel_rfl) (by kernel_rfl) (r1) ?_ |refine q0a (fun vs w=>by kernel_rfl) (by kernel_rfl) (r1) ?_ |refine q0b (fun vs w=>by kernel_rfl) (by kernel_rfl) (h2) ?_ |refine q0a (fun vs w=>by kernel_rfl) (by kernel_rfl) (h2) ?_ |refine q0f tab_ok Tryz.func12 (fun vs w=>by kernel_rfl) (by rfl) ?_))))
    conv=>whnf
    try simp
end
theorem walk (a0x0:Int) (a0x1:Int) (A0x2:Option Addr) (n0x2:Nat) (q0x2:Nat) (g0x2:Nat→Nat→Value) (A0x3:Option Addr) (n0x3:Nat) (q0x3:Nat) (g0x3:Nat→Nat→Value) (a1:Int) (a2:Int) (w:World) (w0x0:(Lit.int .i64 a0x0).wf=true) (w0x1:(Lit.int .i64 a0x1).wf=true) (c0x2:n0x2≤q0x2) (m0x2:q0x2≤maxLen) (s0x2:SliceG Tryz.prog w 9 A0x2 n0x2 g0x2) (c0x3:n0x3≤q0x3) (m0x3:q0x3≤maxLen) (s0x3:SliceG Tryz.prog w 56 A0x3 n0x3 g0x3) (w1:(Lit.int .i64 a1).wf=true) (w2:(Lit.int .i64 a2).wf=true) :
    Calls Tryz.prog 3 #[.agg #[.int .i64 a0x0,.int .i64 a0x1,.slice A0x2 n0x2 q0x2,.slice A0x3 n0x3 q0x3],.int .i64 a1,.int .i64 a2] w fun e w'=>e=.returned (.bool true)∧Below w.heap.size w w':=by
  refine z6k tab_ok Tryz.func3 ?_ (body (W:=a0x0) (H:=a0x1) (A:=A0x2) (m:=n0x2) (sq:=q0x2) (gs:=g0x2) (B:=A0x3) (n:=n0x3) (iq:=q0x3) (gi:=g0x3) (x:=a1) (y:=a2) ⟨c0x2,m0x2⟩ ⟨c0x3,m0x3⟩ s0x2 s0x3)
  rw [AV.rels]
  refine ⟨_,_,rfl,?_,q2l [.int .i64 a1,.int .i64 a2]⟩
  rw [AV.rel]
  exact ⟨_,rfl,q2l (β:=noName) [.int .i64 a0x0,.int .i64 a0x1,.slice A0x2 n0x2 q0x2,.slice A0x3 n0x3 q0x3]⟩
end Go.Proofs.YticolnghiibgfaaGreat.listMeaning
namespace Go.Proofs.YticolnghiibgfaaGreat
open Go.RowKit
set_option maxRecDepth 20000
theorem x18 (x lo hi:Int) (h:-1000000≤lo∧lo≤hi∧hi≤1000000):∃ s:Int,(lo≤s∧s≤hi)∧∀ G,Gives Tryz.prog 30 [.val (.int .i64 x),.val (.int .i64 lo),.val (.int .i64 hi)] G (.val (.int .i64 s)):=by
  have h1:=Int.tmod_lt_of_pos x (show (0:Int)<hi-lo+1 by omega)
  have h2:-(hi-lo+1)<x.tmod (hi-lo+1):=Int.lt_tmod_of_pos x (by omega)
  have h3:=Int.tmod_lt_of_pos (x.tmod (hi-lo+1)+(hi-lo+1)) (show (0:Int)<hi-lo+1 by omega)
  have h4:0≤(x.tmod (hi-lo+1)+(hi-lo+1)).tmod (hi-lo+1):=Int.tmod_nonneg _ (by omega)
  refine ⟨lo+(x.tmod (hi-lo+1)+(hi-lo+1)).tmod (hi-lo+1),by omega,fun G=>?_⟩
  refine q0o tab_ok Tryz.func30 ?_
  (repeat ((try (conv=>whnf));(refine stQ ?_)))
  exact ⟨rfl,rfl⟩
end Go.Proofs.YticolnghiibgfaaGreat
namespace Go.Proofs.YticolnghiibgfaaGreat
open Go.RowKit
set_option maxRecDepth 20000
theorem SliceG.less {P:Program} {w:World} {e:TypeId} {A:Option Addr} {n m:Nat} {g:Nat→Nat→Value} (h:SliceG P w e A n g) (hm:m≤n):SliceG P w e A m g:=fun h0=>by
  obtain ⟨b,off,h1,h2,h3⟩:=h (by omega)
  exact ⟨b,off,h1,h2,fun x hx=>h3 x (by omega)⟩
theorem cutA {c k:Nat} {A:Option Addr}:(if c=((0:Nat):Int).toNat then A else A.map (·.add (((0:Nat):Int).toNat * k)))=A:=by
  split
  · rfl
  · cases A with
    | none=>rfl
    | some a=>simp [Addr.add]
set_option maxHeartbeats 4000000 in
theorem x99 (W H:Int) (n:Nat):∃ W' H':Int,((1≤W∧W≤256)→1≤W'∧W'≤2)∧(¬ (1≤W∧W≤256)→W'=W)∧((1≤H∧H≤256)→1≤H'∧H'≤2)∧(¬ (1≤H∧H≤256)→H'=H) ∧
    ∀ (G:Mem) (A B:Option Addr) (m sq iq:Nat),n≤iq→Gives Tryz.prog 14 [q08 W H A m sq B n iq] G (q08 W' H' A m sq B (min n 12) iq):=by
  obtain ⟨W1,hW1,gW⟩:=x18 W 1 2 (by omega)
  obtain ⟨H1,hH1,gH⟩:=x18 H 1 2 (by omega)
  refine ⟨if 1≤W∧W≤256 then W1 else W,if 1≤H∧H≤256 then H1 else H,fun h=>?_,fun h=>?_,fun h=>?_,fun h=>?_,fun G A B m sq iq hq=>?_⟩
  · rw [if_pos h];exact hW1
  · rw [if_neg h]
  · rw [if_pos h];exact hH1
  · rw [if_neg h]
  · have gW:=gW G
    have gH:=gH G
    refine q0o tab_ok Tryz.func14 ?_
    have key:(n≤12∧min n 12=n)∨(12<n∧min n 12=12):=by omega
    have kw:(W<1∧(if 1≤W∧W≤256 then W1 else W)=W)∨((1≤W∧W≤256)∧(if 1≤W∧W≤256 then W1 else W)=W1)∨(256<W∧(if 1≤W∧W≤256 then W1 else W)=W):=by
      split <;> simp_all <;> omega
    have kh:(H<1∧(if 1≤H∧H≤256 then H1 else H)=H)∨((1≤H∧H≤256)∧(if 1≤H∧H≤256 then H1 else H)=H1)∨(256<H∧(if 1≤H∧H≤256 then H1 else H)=H):=by
      split <;> simp_all <;> omega
    generalize (if 1≤W∧W≤256 then W1 else W)=W2 at *
    generalize (if 1≤H∧H≤256 then H1 else H)=H2 at *
    generalize min n 12=k at *
    rcases key with ⟨h12,rfl⟩ |⟨h12,rfl⟩ <;> rcases kw with ⟨w0,rfl⟩ |⟨⟨w0,w1⟩,rfl⟩ |⟨w0,rfl⟩ <;> rcases kh with ⟨k0,rfl⟩ |⟨⟨k0,k1⟩,rfl⟩ |⟨k0,rfl⟩
    all_goals ((repeat ((try (conv=>whnf));(first |(refine stQ ?_) |(with_reducible first |refine q0b (fun vs w=>by kernel_rfl) (by kernel_rfl) (gW) ?_ |refine q0a (fun vs w=>by kernel_rfl) (by kernel_rfl) (gW) ?_ |refine q0b (fun vs w=>by kernel_rfl) (by kernel_rfl) (gH) ?_ |refine q0a (fun vs w=>by kernel_rfl) (by kernel_rfl) (gH) ?_ |refine q0f tab_ok Tryz.func12 (fun vs w=>by kernel_rfl) (by rfl) ?_))));(try rw [cutA]);exact ⟨rfl,rfl⟩)
end Go.Proofs.YticolnghiibgfaaGreat
