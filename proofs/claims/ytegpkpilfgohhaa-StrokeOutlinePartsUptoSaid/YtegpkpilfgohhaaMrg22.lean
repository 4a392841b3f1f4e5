/-
  Merged: XRevP, XOrient.
-/
import Derived.Test.YtegpkpilfgohhaaClean
import Derived.Test.YtegpkpilfgohhaaMrg19
import Derived.Test.YtegpkpilfgohhaaMrg14
import Derived.Test.YtegpkpilfgohhaaOLine
import Derived.Test.YtegpkpilfgohhaaMrg21
set_option linter.unusedVariables false
set_option linter.unusedSimpArgs false
set_option linter.unnecessarySimpa false
namespace Go.Proofs.Ytegpkpilfgohhaa
open Go.RowKit
set_option maxRecDepth 20000
def RevAt (l cur:List (Int × Int)) (i:Nat):Prop:=cur.length=l.length∧∀ k,k<l.length→nthP cur k=if k<i∨l.length≤k+i then nthP l (l.length-1-k) else nthP l k
theorem z5o {l:List (Int × Int)} {i k:Nat} {x:Int × Int} (hi:i<l.length):nthP (l.set i x) k=if k=i then x else nthP l k:=by
  unfold nthP
  rw [getElem!_def,getElem!_def,List.getElem?_set]
  by_cases e:i=k
  · subst e;simp [hi]
  · rw [if_neg e,if_neg (fun h=>e h.symm)]
theorem RevAt.start (l:List (Int × Int)):RevAt l l 0:=⟨rfl,fun k hk=>by rw [if_neg (by omega)]⟩
theorem RevAt.next {l cur:List (Int × Int)} {i:Nat} (h:RevAt l cur i) (hi:2*i+1<l.length):RevAt l ((cur.set i (nthP cur (l.length-1-i))).set (l.length-1-i) (nthP cur i)) (i+1):=by
  obtain ⟨hl,h1⟩:=h
  have e1:=h1 i (by omega)
  have e2:=h1 (l.length-1-i) (by omega)
  rw [if_neg (by omega)] at e1 e2
  refine ⟨by simp [hl],fun k hk=>?_⟩
  rw [z5o (by simp [hl];omega),z5o (by omega),e1,e2,h1 k hk]
  by_cases k1:k=l.length-1-i
  · rw [if_pos k1,if_pos (by omega),show l.length-1-k=i by omega]
  · rw [if_neg k1]
    by_cases k2:k=i
    · rw [if_pos k2,if_pos (by omega),k2]
    · rw [if_neg k2]
      by_cases k3:k<i∨l.length≤k+i
      · rw [if_pos k3,if_pos (by omega)]
      · rw [if_neg k3,if_neg (by omega)]
theorem RevAt.done {l cur:List (Int × Int)} {i:Nat} (h:RevAt l cur i) (hi:l.length≤2*i+1):cur=l.reverse:=by
  obtain ⟨hl,h1⟩:=h
  apply List.ext_getElem?
  intro k
  by_cases hk:k<l.length
  · rw [q10 (by omega),List.getElem?_reverse hk,q10 (by omega),h1 k hk]
    congr 1
    by_cases k3:k<i∨l.length≤k+i
    · rw [if_pos k3]
    · rw [if_neg k3,show l.length-1-k=k by omega]
  · rw [List.getElem?_eq_none (by omega),List.getElem?_eq_none (by simp;omega)]
theorem z65 {l:List (Int × Int)} {z:Int} {i:Nat} (hz:z.toNat=i) (h:i<l.length) {xs:List Value} (hx:xs.length=(q0r l).length):z.toNat * 2+2≤xs.length:=by
  rw [hx,q33];omega
theorem x0g {l:List (Int × Int)} {z:Int} {i:Nat} (hz:z.toNat=i) (h:i<l.length) (x:Int × Int):((q0r l).take (z.toNat * 2)++([.int .i64 x.1,.int .i64 x.2]:List Value)++(q0r l).drop (z.toNat * 2+2)).length=(q0r l).length:=by
  subst hz
  rw [q17,z11 q2h l _ x h,q9o q2h,q9o q2h];simp
theorem x1j {l:List (Int × Int)} {zi zj:Int} {i j:Nat} {x y:Int × Int} (hi:zi.toNat=i) (hj:zj.toNat=j) (h1:i<l.length) (h2:j<l.length) :
    ((q0r l).take (zi.toNat * 2)++([.int .i64 x.1,.int .i64 x.2]:List Value)++(q0r l).drop (zi.toNat * 2+2)).take (zj.toNat * 2)++([.int .i64 y.1,.int .i64 y.2]:List Value)++((q0r l).take (zi.toNat * 2)++([.int .i64 x.1,.int .i64 x.2]:List Value)++(q0r l).drop (zi.toNat * 2+2)).drop (zj.toNat * 2+2)=q0r ((l.set i x).set j y):=by
  rw [hi,hj,q17,z11 q2h l i x h1,z11 q2h _ j y (by simpa using h2),q17]
section
variable {G:Mem}
set_option maxHeartbeats 4000000 in
theorem z33 {l:List (Int × Int)} (hl:l.length≤4000000) :
    Mends Try.prog 70 [.own 0] G 58 2 l.length (q0r l) (q0r l.reverse):=by
  refine x0b tab_ok Try.func70 fun G' hG=>?_
  (repeat ((try (conv=>whnf));(refine stQ ?_)))
  conv=>whnf
  refine z8u tab_ok (fun (i:Nat) (cur:List (Int × Int))=>i≤l.length∧RevAt l cur i) (fun i cur=>[(2,.val (.int .i64 i)),(3,.val (.int .i64 ((l.length:Int)-1-i)))]) (fun i cur=>[.own 58 2 l.length (q0r cur)]) (fun i cur=>l.length-i) 0 l ⟨Nat.zero_le _,RevAt.start l⟩ ?_ ?_
  · ((refine q0i ?_);(conv=>whnf);(refine q0m (by rfl) (by rfl) flQ ?_))
    exact q0d rfl rfl q0g
  · rintro i cur ⟨hi,hc⟩
    have hlen:=hc.1
    rcases Nat.lt_or_ge (2*i+1) l.length with h1 |h1
    · have hnx:=hc.next h1
      (repeat ((try (conv=>whnf));(first |(with_reducible refine z3f tab_ok (by kernel_rfl) 14 [0] [(6,0),(7,0),(10,0),(11,0),(12,0)] (by decide +kernel) ?_) |(refine z87 (i:=l.length-1-i) (by omega) (by omega) ?_) |(refine z87 (i:=i) (by omega) (by omega) ?_) |(refine stQ ?_))))
      conv=>whnf
      refine mustP.mk (z65 (l:=cur) (i:=i) (by omega) (by omega) rfl) ?_
      (repeat ((try (conv=>whnf));(refine stQ ?_)))
      conv=>whnf
      refine mustP.mk (z65 (l:=cur) (i:=l.length-1-i) (by omega) (by omega) (x0g (i:=i) (by omega) (by omega) _)) ?_
      (repeat ((try (conv=>whnf));(refine stQ ?_)))
      refine ⟨i+1,_,⟨by omega,hnx⟩,by omega,?_⟩
      ((refine q0i ?_);(conv=>whnf);(refine q0m (by rfl) (by rfl) flQ ?_))
      exact q0d rfl (x1j (by omega) (by omega) (by omega) (by omega)) q0g
    · (repeat ((try (conv=>whnf));(refine stQ ?_)))
      rw [hc.done h1]
      rfl
end
end Go.Proofs.Ytegpkpilfgohhaa
namespace Go.Proofs.Ytegpkpilfgohhaa
open Go.RowKit
set_option maxRecDepth 20000
theorem x0h {B:Nat→Value} {ps qs:List (List (Int × Int))} (h:qs.length=ps.length):rowV B qs=rowV B ps:=by unfold rowV;rw [h]
theorem OutM.fin {G0:Mem} {E:TypeId} {S:Nat→Prop} {M:Mem} {ps:List (List (Int × Int))} {B:Nat→Value} {A:Option Addr} (h:OutM G0 E S M ps B) (hF:FlatM M A (rowV B ps)):OutF M A B ps:=⟨hF,fun k hk=>(h.rows k hk).pts⟩
def x12 (ps:List (List (Int × Int))) (ds:List (Int × Int)) (v:AV) (G':Mem):Prop :=
  ∃ o e,v=.tup [.val o,.val (.int .i64 e)]∧((e=10∧q49 ps=false)∨(e=0∧q49 ps=true∧∃ b A c B d Bv,o=.pointer (some ⟨b,0,none⟩)∧G'.cell? ⟨b,4,none⟩=some (.slice A ps.length c)∧G'.cell? ⟨b,5,none⟩=some (.slice B ds.length d)∧ps.length≤c∧c≤maxLen∧OutF G' A Bv (ps.map orP)∧PtsM G' B ds))
section
variable {G:Mem} {A:Option Addr} {n q:Nat} {cl:Bool} {P:Nat→Int × Int} {s:Sty}
set_option maxHeartbeats 16000000 in
theorem z34 (h:ElsM G A 2 n fun i=>[.int .i64 (P i).1,.int .i64 (P i).2]) (hn:n≤1100000) (hP:∀ i,i<n→okP (P i)) (hs:StyOk s) {ps:List (List (Int × Int))} {ds:List (Int × Int)}
    (eps:q1c s (nthP (q0s P n cl)) (q0s P n cl).length cl=ps) (eds:q1l s (nthP (q0s P n cl)) (q0s P n cl).length cl=ds) :
    q47 Try.prog 30 [q5m A n q cl,styA s] G (x12 ps ds):=by
  have hl:=z9c (q:=q) (cl:=cl) h hn hP hs
  have hsh:∀ r∈ps,r.length≤4:=eps ▸ q73
  rw [eps,eds] at hl
  clear eps eds
  refine z7z tab_ok Try.func30 (by rfl) ?_
  (repeat ((try (conv=>whnf));(refine stQ ?_)))
  conv=>whnf
  refine x0c 4 rfl (fun i:(Nat→Prop) × Mem × (Nat→Value)=>OutM G 58 i.1 i.2.1 ps i.2.2) (fun i=>[.muts i.1,q3c A n q cl,styB s,q5a s (.own 5) (.own 6),.gone,.own 35 2 ps.length (rowV i.2.2 ps),.own 58 2 ds.length (q0r ds)]) (fun i=>i.2.1) .any hl ?_
  rintro ⟨S1,M1,B1⟩ hO
  dsimp only at hO ⊢
  conv=>whnf
  (repeat ((try (conv=>whnf));(first |(refine stQ ?_) |(with_reducible refine q0e tab_ok Try.func54 (fun vs w=>by kernel_rfl) (by rfl) ?_))))
  conv=>whnf
  refine z7y 0 5 (fun vs w=>by kernel_rfl) rfl rfl rfl fun A1 c1 S2 G1 hN hR=>?_
  conv=>whnf
  have hO1:=hO.stand hN
  have hap:∀ k,k<ps.length→∀ b,q0f (Value.slice A1 ps.length c1)=some b→q0f (B1 k)≠some b:=fun k hk b hb e=>by
    obtain ⟨_,o,ho⟩:=(hO.rows k hk).blk e
    rw [hN.fresh b hb] at ho;cases ho
  obtain ⟨_,_,e0,hnc,hcm⟩:=hR.isSl
  cases e0
  clear hO hN hl
  have hcx:c1≤9223372036854775807:=Nat.le_trans hcm (by unfold maxLen;omega)
  have hc:=q45 (c:=c1) (hO1.lines hR.flat) (Nat.le_trans hnc hcm)
  cases hb:q49 ps
  · rw [show q1p (fun k=>lnV (B1 k) (nthL ps k)) ps.length=3 by unfold q1p;rw [q7i,hb];rfl] at hc
    (repeat ((try (conv=>whnf));(first |(refine stQ ?_) |(with_reducible first |refine q0b (fun vs w=>by kernel_rfl) (by kernel_rfl) (hc) ?_ |refine q0a (fun vs w=>by kernel_rfl) (by kernel_rfl) (hc) ?_))))
    conv=>whnf
    refine .inr ⟨_,rfl,FrzB.row 3 6 rfl rfl rfl rfl fun B2 d2 G2 hle2 hn2 hm2 hF2=>FrzB.cel 3 [.int .i64 s.w,.int .i64 s.cap,.int .i64 s.join,.int .i64 s.lim,.slice A1 ps.length c1,.slice B2 ds.length d2] rfl rfl rfl fun b G3 hle3 hce=>FrzB.done rfl ?_⟩
    exact ⟨_,_,rfl,.inl ⟨rfl,hb⟩⟩
  · rw [show q1p (fun k=>lnV (B1 k) (nthL ps k)) ps.length=0 by unfold q1p;rw [q7i,hb];rfl] at hc
    (repeat ((try (conv=>whnf));(first |(refine stQ ?_) |(with_reducible first |refine q0b (fun vs w=>by kernel_rfl) (by kernel_rfl) (hc) ?_ |refine q0a (fun vs w=>by kernel_rfl) (by kernel_rfl) (hc) ?_))))
    conv=>whnf
    refine q3p tab_ok (ι:=Nat × (Nat→Prop) × Mem) (fun t=>t.1≤ps.length∧OutM G 58 t.2.1 t.2.2 (oriK ps t.1) B1∧RowS t.2.1 t.2.2 35 2 (.slice A1 ps.length c1) ps.length (rowV B1 ps)) (fun t=>[(17,.val (.int .i64 t.1))])
      (fun t=>[.muts t.2.1,q3c A n q cl,styB s,q5a s (.val (.slice A1 ps.length c1)) (.own 6),.gone,.gone,.own 58 2 ds.length (q0r ds)]) (fun t=>t.2.2) (fun t=>ps.length-t.1) (0,S2,G1) ⟨Nat.zero_le _,by dsimp only;rw [z9d];exact hO1,hR⟩ ?_ ?_
    · ((refine q0i ?_);(conv=>whnf);(refine q0m (by rfl) (by rfl) flQ ?_))
      exact q0k (fun _ h=>h) (q0c (by exact flQ) (q0c (by exact flQ) (q0c (by exact flQ) (q0w (q0w (q0d rfl rfl q0g))))))
    · clear hR hO1 hc
      rintro ⟨i,S,M⟩ ⟨hi,hO,hR⟩
      dsimp only at hi hO hR ⊢
      have hol:=z01 ps i
      have hF:FlatM M A1 (rowV B1 (oriK ps i)):=by rw [x0h hol];exact hR.flat
      rcases Nat.lt_or_ge i ps.length with h1 |h1
      · obtain ⟨p,rfl,x0⟩:=(hR.flat.els (sz:=2) (fun _ _=>rfl) (by omega)).cell (x:=i) (j:=0) h1 rfl
        have hA:=fun c=>z7t (c:=c) ((hO.lines hF).cut (i:=i) (by omega)) (by unfold maxLen;omega) (q99 (ps:=ps) h1 ▸ z3x hb h1 _)
        rw [z9b,q99 h1] at hA
        have hA1:=hA (c1-i)
        rw [← z3w (p:=p) (i:=i) (c:=c1) (by omega)] at hA1
        clear hA
        rcases (show arP (nthL ps i)<0∨0≤arP (nthL ps i) by omega) with ha |ha
        · (repeat ((try (conv=>whnf));(first |(refine q00 _ x0 ?_) |(refine stQ ?_) |(with_reducible first |refine q0b (fun vs w=>by kernel_rfl) (by kernel_rfl) (hA1) ?_ |refine q0a (fun vs w=>by kernel_rfl) (by kernel_rfl) (hA1) ?_))))
          conv=>whnf
          have h4:(nthL ps i).length≤4:=hsh _ (List.mem_of_getElem? (q11 h1))
          have hv:=hO.rows i (by omega)
          rw [q99 h1] at hv
          refine z5n [.own 0] 0 (fun vs w=>by kernel_rfl) rfl rfl rfl hv (z33 (l:=nthL ps i) (by omega)) fun S' M' hG hR'=>?_
          (repeat ((try (conv=>whnf));(refine stQ ?_)))
          conv=>whnf
          have ho:orP (nthL ps i)=(nthL ps i).reverse:=by unfold orP;rw [if_pos ha]
          refine ⟨(i+1,S',M'),⟨by dsimp only;omega,by dsimp only;rw [z3v h1,ho];exact hO.mend (by omega) hG (by rw [List.length_reverse];exact hR'),hG.row hR (hap i h1)⟩,by dsimp only;omega,?_⟩
          ((refine q0i ?_);(conv=>whnf);(refine q0m (by rfl) (by rfl) flQ ?_))
          exact q0k (fun _ h=>h) (q0c (by exact flQ) (q0c (by exact flQ) (q0c (by exact flQ) (q0w (q0w (q0d rfl rfl q0g))))))
        · (repeat ((try (conv=>whnf));(first |(refine stQ ?_) |(with_reducible first |refine q0b (fun vs w=>by kernel_rfl) (by kernel_rfl) (hA1) ?_ |refine q0a (fun vs w=>by kernel_rfl) (by kernel_rfl) (hA1) ?_))))
          conv=>whnf
          refine ⟨(i+1,S,M),⟨by dsimp only;omega,by dsimp only;rw [z9e h1 (by omega)];exact hO,hR⟩,by dsimp only;omega,?_⟩
          ((refine q0i ?_);(conv=>whnf);(refine q0m (by rfl) (by rfl) flQ ?_))
          exact q0k (fun _ h=>h) (q0c (by exact flQ) (q0c (by exact flQ) (q0c (by exact flQ) (q0w (q0w (q0d rfl rfl q0g))))))
      · obtain rfl:i=ps.length:=by omega
        (repeat ((try (conv=>whnf));(refine stQ ?_)))
        conv=>whnf
        refine .inr ⟨_,rfl,FrzB.row 3 6 rfl rfl rfl rfl fun B2 d2 G2 hle2 hn2 hm2 hF2=>FrzB.cel 3 [.int .i64 s.w,.int .i64 s.cap,.int .i64 s.join,.int .i64 s.lim,.slice A1 ps.length c1,.slice B2 ds.length d2] rfl rfl rfl fun b G3 hle3 hce=>FrzB.done rfl ?_⟩
        rw [x0e] at hO hF
        exact ⟨_,_,rfl,.inr ⟨rfl,hb,b,A1,c1,B2,d2,B1,rfl,hce 4 _ rfl,hce 5 _ rfl,hnc,hcm,((hO.fin hF).mono hle2).mono hle3,q4m (hF2.mono hle3)⟩⟩
end
end Go.Proofs.Ytegpkpilfgohhaa
