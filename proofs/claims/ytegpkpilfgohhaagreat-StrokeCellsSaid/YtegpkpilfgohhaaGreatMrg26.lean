/-
  Merged: XInStk, XSameLines, XOri, XFew, XStkRef.
-/
import Derived.Test.YtegpkpilfgohhaaGreatStrLaw
import Derived.Test.YtegpkpilfgohhaaGreatMrg19
import Derived.Test.YtegpkpilfgohhaaGreatMrg24
import Derived.Test.YtegpkpilfgohhaaGreatMrg10
import Derived.Test.YtegpkpilfgohhaaGreatMrg7
import Derived.Test.YtegpkpilfgohhaaGreatMrg8
import Derived.Test.YtegpkpilfgohhaaGreatMrg9
import Derived.Test.YtegpkpilfgohhaaGreatMrg22
set_option linter.unusedVariables false
set_option linter.unusedSimpArgs false
set_option linter.unnecessarySimpa false
namespace Go.Proofs.YtegpkpilfgohhaaGreat
open Go.RowKit
set_option maxRecDepth 20000
instance (cx cy w u v:Int):Decidable (q5a cx cy w u v):=by unfold q5a;infer_instance
instance (u v:Int):Decidable (q28 u v):=by unfold q28;infer_instance
def inPs (qs:List (List (Int × Int))) (u v:Int):Bool:=qs.any fun p=>decide (q3o (lnPt p) u v 1≠0)
def inDs (ds:List (Int × Int)) (w u v:Int):Bool:=ds.any fun c=>decide (q5a c.1 c.2 w u v)
theorem x6j {qs:List (List (Int × Int))} {ds:List (Int × Int)} {w u v:Int}:(inPs qs u v||inDs ds w u v)=true↔q8v qs ds w u v:=by
  unfold inPs inDs q8v
  simp [List.any_eq_true]
section
variable {G:Mem}
theorem x2d {x y:Int}:Gives Tryz.prog 13 [.val (.int .i64 x),.val (.int .i64 y)] G (.val (.bool (decide (q28 x y)))):=by
  refine q06 tab_ok Tryz.func13 ?_
  rcases (show x < -8192∨8191<x∨(-8192≤x∧x≤8191) by omega) with h |h |h
  · rw [decide_eq_false (show ¬ q28 x y by unfold q28;omega)]
    (repeat ((try (conv=>whnf));(first |(refine stQ ?_) |(with_reducible refine q0f tab_ok Tryz.func24 (fun vs w=>by kernel_rfl) (by rfl) ?_))))
    exact ⟨rfl,rfl⟩
  · rw [decide_eq_false (show ¬ q28 x y by unfold q28;omega)]
    (repeat ((try (conv=>whnf));(first |(refine stQ ?_) |(with_reducible refine q0f tab_ok Tryz.func24 (fun vs w=>by kernel_rfl) (by rfl) ?_))))
    exact ⟨rfl,rfl⟩
  rcases (show y < -8192∨8191<y∨(-8192≤y∧y≤8191) by omega) with h1 |h1 |h1
  · rw [decide_eq_false (show ¬ q28 x y by unfold q28;omega)]
    (repeat ((try (conv=>whnf));(first |(refine stQ ?_) |(with_reducible refine q0f tab_ok Tryz.func24 (fun vs w=>by kernel_rfl) (by rfl) ?_))))
    exact ⟨rfl,rfl⟩
  · rw [decide_eq_false (show ¬ q28 x y by unfold q28;omega)]
    (repeat ((try (conv=>whnf));(first |(refine stQ ?_) |(with_reducible refine q0f tab_ok Tryz.func24 (fun vs w=>by kernel_rfl) (by rfl) ?_))))
    exact ⟨by rw [decide_eq_false (show ¬ y≤8191 by omega)],rfl⟩
  rw [decide_eq_true (show q28 x y by unfold q28;omega)]
  (repeat ((try (conv=>whnf));(first |(refine stQ ?_) |(with_reducible refine q0f tab_ok Tryz.func24 (fun vs w=>by kernel_rfl) (by rfl) ?_))))
  exact ⟨by rw [decide_eq_true (show y≤8191 by omega)],rfl⟩
variable {A B:Option Addr} {c d:Nat} {V:Nat→Value} {qs:List (List (Int × Int))} {ds:List (Int × Int)} {w x y:Int}
set_option maxHeartbeats 8000000 in
theorem z7g (hO:OutF G A V qs) (hD:PtsM G B ds) (hc:qs.length≤c∧c≤maxLen) (hb:∀ q∈qs,q1n (lnPt q) 1=true) (h4:∀ q∈qs,q.length≤4) (hd:∀ q∈ds,okP q) (hq:qs.length≤1000) (hdl:ds.length≤1000) (hw:1≤w∧w≤1024) (hx:-8192≤x∧x≤8191) (hy:-8192≤y∧y≤8191) :
    Gives Tryz.prog 15 [.val (.slice A qs.length c),.val (.slice B ds.length d),.val (.int .i64 w),.val (.int .i64 x),.val (.int .i64 y)] G (.val (.bool (inPs qs x y||inDs ds w x y))):=by
  have hL:=hO.lines
  refine q06 tab_ok Tryz.func15 ?_
  (repeat ((try (conv=>whnf));(refine stQ ?_)))
  conv=>whnf
  refine q07 tab_ok (fun i=>i≤qs.length∧∀ k,k<i→q3o (lnPt (nthL qs k)) x y 1=0) (fun (i:Nat)=>[(17,.val (.int .i64 i))]) (fun i=>[]) (fun i=>qs.length-i) 0 ⟨Nat.zero_le _,fun k hk=>absurd hk (Nat.not_lt_zero k)⟩ ?_ ?_
  · ((refine q0g ?_);(conv=>whnf);(refine q0h (by rfl) (by rfl) flQ ?_))
    exact q0e
  · rintro i ⟨hi,h0⟩
    rcases Nat.lt_or_ge i qs.length with h1 |h1
    · obtain ⟨p,rfl,z0⟩:=hL.rows.cell (x:=i) (j:=0) h1 rfl
      have hm:nthL qs i∈qs:=List.mem_of_getElem? (q1m h1)
      have hR:=z7f (c:=c-i) (x:=x) (y:=y) (hL.cut (i:=i) h1) (by unfold maxLen;omega) (by rw [z9i];exact hb _ hm) (by rw [z7e];have:=h4 _ hm;omega) hx hy
      rw [x7t,← q94 (p:=p) (i:=i) (c:=c) (by omega)] at hR
      by_cases hz:q3o (lnPt (nthL qs i)) x y 1=0
      · (repeat ((try (conv=>whnf));(first |(refine stQ ?_) |(with_reducible first |refine q0b (fun vs w=>by kernel_rfl) (by kernel_rfl) (hR) ?_ |refine q0a (fun vs w=>by kernel_rfl) (by kernel_rfl) (hR) ?_))))
        conv=>whnf
        refine ⟨i+1,⟨by omega,fun k hk=>?_⟩,by omega,?_⟩
        · rcases Nat.lt_or_ge k i with h |h
          · exact h0 k h
          · obtain rfl:k=i:=by omega
            exact hz
        ((refine q0g ?_);(conv=>whnf);(refine q0h (by rfl) (by rfl) flQ ?_))
        exact q0e
      · have e:(inPs qs x y||inDs ds w x y)=true:=by
          rw [Bool.or_eq_true]
          exact .inl (List.any_eq_true.2 ⟨_,hm,by simpa using hz⟩)
        rw [e]
        (repeat ((try (conv=>whnf));(first |(refine stQ ?_) |(with_reducible first |refine q0b (fun vs w=>by kernel_rfl) (by kernel_rfl) (hR) ?_ |refine q0a (fun vs w=>by kernel_rfl) (by kernel_rfl) (hR) ?_))))
        exact ⟨rfl,rfl⟩
    · obtain rfl:i=qs.length:=by omega
      have e:inPs qs x y=false:=by
        rw [Bool.eq_false_iff]
        intro h
        obtain ⟨q,hq,h2⟩:=List.any_eq_true.1 h
        obtain ⟨k,hk⟩:=List.getElem?_of_mem hq
        have hk2:=(List.getElem?_eq_some_iff.1 hk).1
        rw [q1m hk2] at hk
        cases hk
        simp [h0 k hk2] at h2
      rw [e,Bool.false_or]
      (repeat ((try (conv=>whnf));(refine stQ ?_)))
      conv=>whnf
      refine q07 tab_ok (fun i=>i≤ds.length∧∀ k,k<i→¬ q5a (nthP ds k).1 (nthP ds k).2 w x y) (fun (i:Nat)=>[(32,.val (.int .i64 i))]) (fun i=>[]) (fun i=>ds.length-i) 0 ⟨Nat.zero_le _,fun k hk=>absurd hk (Nat.not_lt_zero k)⟩ ?_ ?_
      · ((refine q0g ?_);(conv=>whnf);(refine q0h (by rfl) (by rfl) flQ ?_))
        exact q0e
      · rintro j ⟨hj,g0⟩
        rcases Nat.lt_or_ge j ds.length with h2 |h2
        · obtain ⟨pd,rfl⟩:∃ pd,B=some pd:=by
            obtain ⟨b',off,e,_⟩:=hD 0 _ (q1h (by omega))
            exact ⟨_,e⟩
          have hm:nthP ds j∈ds:=List.mem_of_getElem? (q1h h2)
          have hcd:=hd _ hm
          unfold okP at hcd
          have c0:=fun (K:List Value→Prop) k=>hD.at_ (z:=(j:Int)) (i:=j) (by omega) h2 (K:=K) k
          have y0:=q91 (fun K k=>c0 K k) (j:=0) rfl
          have y1:=q91 (fun K k=>c0 K k) (j:=1) rfl
          have p1:=q04 (a:=w) (b:=w) (A:=1024) (B:=1024) (by omega) (by omega)
          have p2:=q04 (a:=2*x+1-2*(nthP ds j).1) (b:=2*x+1-2*(nthP ds j).1) (A:=82000) (B:=82000) (by omega) (by omega)
          have p3:=q04 (a:=2*y+1-2*(nthP ds j).2) (b:=2*y+1-2*(nthP ds j).2) (A:=82000) (B:=82000) (by omega) (by omega)
          by_cases hz:q5a (nthP ds j).1 (nthP ds j).2 w x y
          · have e2:inDs ds w x y=true:=List.any_eq_true.2 ⟨_,hm,by simpa using hz⟩
            rw [e2]
            unfold q5a at hz
            (repeat ((try (conv=>whnf));(first |(refine q0q _ y0 ?_) |(refine q0q _ y1 ?_) |(refine stQ ?_))))
            exact ⟨rfl,rfl⟩
          · have hz':=hz
            unfold q5a at hz
            (repeat ((try (conv=>whnf));(first |(refine q0q _ y0 ?_) |(refine q0q _ y1 ?_) |(refine stQ ?_))))
            conv=>whnf
            refine ⟨j+1,⟨by omega,fun k hk=>?_⟩,by omega,?_⟩
            · rcases Nat.lt_or_ge k j with h |h
              · exact g0 k h
              · obtain rfl:k=j:=by omega
                exact hz'
            ((refine q0g ?_);(conv=>whnf);(refine q0h (by rfl) (by rfl) flQ ?_))
            exact q0e
        · obtain rfl:j=ds.length:=by omega
          have e2:inDs ds w x y=false:=by
            rw [Bool.eq_false_iff]
            intro h
            obtain ⟨q,hq,h2⟩:=List.any_eq_true.1 h
            obtain ⟨k,hk⟩:=List.getElem?_of_mem hq
            have hk2:=(List.getElem?_eq_some_iff.1 hk).1
            rw [q1h hk2] at hk
            cases hk
            exact g0 k hk2 (by simpa using h2)
          rw [e2]
          (repeat ((try (conv=>whnf));(refine stQ ?_)))
          exact ⟨rfl,rfl⟩
end
end Go.Proofs.YtegpkpilfgohhaaGreat
namespace Go.Proofs.YtegpkpilfgohhaaGreat
open Go.RowKit
set_option maxRecDepth 20000
section
variable {G:Mem} {A B:Option Addr} {n c d:Nat} {P:Nat→List (Int × Int)} {cl:Nat→Bool} {a b:Nat→Option Addr} {qa qb:Nat→Nat}
end
end Go.Proofs.YtegpkpilfgohhaaGreat
namespace Go.Proofs.YtegpkpilfgohhaaGreat
open Go.RowKit
set_option maxRecDepth 20000
section
variable {G:Mem} {A:Option Addr} {n c:Nat} {L:Nat→LineD}
set_option maxHeartbeats 4000000 in
theorem x1k (h:LinesM G A n L) (hn:n≤maxLen) (hb:q1n L n=false):Gives Tryz.prog 10 [.val (.slice A n c)] G (.tup [.val (.slice none 0 0),.val (.int .i64 10)]):=by
  have hc:=q6i (c:=c) h hn
  rw [show q16 L n=3 by unfold q16;rw [hb];rfl] at hc
  refine q06 tab_ok Tryz.func10 ?_
  (repeat ((try (conv=>whnf));(first |(refine stQ ?_) |(with_reducible first |refine q0b (fun vs w=>by kernel_rfl) (by kernel_rfl) (hc) ?_ |refine q0a (fun vs w=>by kernel_rfl) (by kernel_rfl) (hc) ?_))))
  exact ⟨rfl,rfl⟩
end
section
variable {G:Mem} {A:Option Addr} {c:Nat} {ps:List (List (Int × Int))} {a:Nat→Option Addr}
theorem z6l (hF:FlatM G A (rowC a ps)) (hP:PartM G a ps) (hl:∀ k,k<ps.length→(nthL ps k).length≤8):LinesM G A ps.length fun k=>lnV (.slice (a k) (nthL ps k).length (nthL ps k).length) (nthL ps k):=by
  refine ⟨(hF.els (sz:=2) (fun _ _=>rfl) (by omega)).congr fun k hk=>rfl,fun k hk=>z3q (hP k hk),fun k hk=>⟨Nat.le_refl _,?_⟩⟩
  have:=hl k hk
  show (nthL ps k).length≤maxLen
  unfold maxLen;omega
theorem z9a {p:List (Int × Int)} {j:Nat} (h:j<p.length):q0s (p.reverse.take j)++[.int .i64 (nthP p (p.length-1-j)).1,.int .i64 (nthP p (p.length-1-j)).2]=q0s (p.reverse.take (j+1)):=by
  have e:p.reverse[j]? = some (nthP p (p.length-1-j)):=by rw [List.getElem?_reverse h,q1h (by omega)]
  rw [List.take_add_one,e,q03];simp [q0s]
structure OriM (G G':Mem) (ps:List (List (Int × Int))) (i:Nat) (V:Nat→Value):Prop where
  le:G.le G'
  rows:∀ k,k<i→∃ A c,V k=.slice A (orP (nthL ps k)).length c∧PtsM G' A (orP (nthL ps k))∧(orP (nthL ps k)).length≤c∧c≤maxLen
theorem OriM.add {G G' G'':Mem} {ps:List (List (Int × Int))} {i:Nat} {V:Nat→Value} (h:OriM G G' ps i V) (hle:G'.le G'') {A:Option Addr} {c m:Nat} (hm:m=(orP (nthL ps i)).length) (hp:PtsM G'' A (orP (nthL ps i))) (hcc:m≤c∧c≤maxLen):OriM G G'' ps (i+1) (putV V i (.slice A m c)):=by
  subst hm
  refine ⟨Mem.le_trans h.le hle,fun k hk=>?_⟩
  by_cases e:k=i
  · subst e;exact ⟨A,c,q3c,hp,hcc⟩
  · obtain ⟨A',c',e',h',hc'⟩:=h.rows k (by omega)
    exact ⟨A',c',by rw [q2x e];exact e',h'.mono hle,hc'⟩
def vRow (V:Nat→Value) (i:Nat):List Value:=q1s (fun k=>[V k,.bool true]) i
theorem x1l (V:Nat→Value) (i:Nat) (v:Value):vRow (putV V i v) (i+1)=vRow V i++[v,.bool true]:=by
  unfold vRow
  rw [q1s]
  congr 1
  · exact q45 fun k hk=>by rw [q2x (by omega)]
  · rw [q3c]
theorem OriM.lines {G' G'':Mem} {B:Option Addr} {V:Nat→Value} (h:OriM G G' ps ps.length V) (hle:G'.le G'') (hF:FlatM G'' B (vRow V ps.length)):OutF G'' B V (ps.map orP):=by
  have hl:(ps.map orP).length=ps.length:=by simp
  refine ⟨by unfold rowV;rw [hl];exact hF,fun k hk=>?_⟩
  rw [hl] at hk
  obtain ⟨A',c',e',h',hc'⟩:=h.rows k hk
  rw [x0w hk]
  exact ⟨A',c',e',h'.mono hle,hc'⟩
set_option maxHeartbeats 8000000 in
theorem z7h (hpc:ps.length≤c) (hF:FlatM G A (rowC a ps)) (hP:PartM G a ps) (hl:∀ k,k<ps.length→(nthL ps k).length≤8) (hb:q3u ps=true) (hn:ps.length≤4000000) :
    x0n Tryz.prog 10 [.val (.slice A ps.length c)] G (x8g 0) fun G' B m=>m=ps.length∧∃ V,OutF G' B V (ps.map orP):=by
  have hL:=z6l hF hP hl
  have hLb:q1n (fun k=>lnV (.slice (a k) (nthL ps k).length (nthL ps k).length) (nthL ps k)) ps.length=true:=by rw [q93 (fun k=>.slice (a k) (nthL ps k).length (nthL ps k).length)];exact hb
  have hc:=q6i (c:=c) hL (by unfold maxLen;omega)
  rw [show q16 (fun k=>lnV (.slice (a k) (nthL ps k).length (nthL ps k).length) (nthL ps k)) ps.length=0 by unfold q16;rw [hLb];rfl] at hc
  refine x5k tab_ok Tryz.func10 (z38 0) (by rfl) ?_
  (repeat ((try (conv=>whnf));(first |(refine stQ ?_) |(with_reducible first |refine q0b (fun vs w=>by kernel_rfl) (by kernel_rfl) (hc) ?_ |refine q0a (fun vs w=>by kernel_rfl) (by kernel_rfl) (hc) ?_))))
  conv=>whnf
  refine q3h tab_ok (ι:=Nat × Mem × (Nat→Value)) (fun t=>t.1≤ps.length∧OriM G t.2.1 ps t.1 t.2.2) (fun t=>[(14,.val (.int .i64 t.1)),(4,.own 0)]) (fun t=>[.own 37 2 t.1 (vRow t.2.2 t.1)]) (fun t=>t.2.1) (fun t=>ps.length-t.1) (0,G,fun _=>.slice none 0 0) ⟨Nat.zero_le _,Mem.le_refl _,fun k hk=>absurd hk (Nat.not_lt_zero k)⟩ ?_ ?_
  · refine q15 37 2 ?_
    conv=>whnf
    ((refine q0g ?_);(conv=>whnf);(refine q0h (by rfl) (by rfl) flQ ?_))
    exact q0d rfl rfl q0e
  · rintro ⟨i,G1,V⟩ ⟨hi,hO⟩
    dsimp only at hi hO ⊢
    rcases Nat.lt_or_ge i ps.length with h1 |h1
    · have hL1:=(hL.mono hO.le).cut h1
      have hb1:q1n (fun _=>lnV (.slice (a i) (nthL ps i).length (nthL ps i).length) (nthL ps i)) 1=true:=q95 hb h1 _
      have hA:=fun c=>x12 (c:=c) hL1 (by unfold maxLen;omega) hb1
      rw [x5t] at hA
      obtain ⟨p,rfl,x0⟩:=hL.rows.cell (x:=i) (j:=0) h1 rfl
      have hA1:=hA (c-i)
      rw [← q94 (p:=p) (i:=i) (c:=c) (by omega)] at hA1
      clear hA
      have y0:G1.cell? ((p.add (i*2)).add 0)=some (.slice (a i) (nthL ps i).length (nthL ps i).length):=hO.le.cell x0
      have hl8:=hl i h1
      have hpi:=(hP i h1).mono hO.le
      generalize har:arP (nthL ps i)=ar at *
      rcases (show ar<0∨0≤ar by omega) with ha |ha
      · have ho:orP (nthL ps i)=(nthL ps i).reverse:=by unfold orP;rw [har,if_pos ha]
        obtain ⟨p1,e1⟩:∃ p1,a i=some p1:=by
          rcases Nat.eq_zero_or_pos (nthL ps i).length with h0 |h0
          · exfalso
            unfold arP at har
            rw [h0] at har
            have:(0:Int)=ar:=har
            omega
          · obtain ⟨b,off,e,_⟩:=hpi 0 _ (q1h h0)
            exact ⟨_,e⟩
        rw [e1] at y0 hpi
        have rd:=fun (j:Nat) (hj:j<(nthL ps i).length) (z:Int) (hz:z.toNat=j) (K:List Value→Prop) k=>hpi.at_ (z:=z) hz hj (K:=K) k
        (repeat ((try (conv=>whnf));(first |(refine q0q _ y0 ?_) |(refine stQ ?_) |(with_reducible first |refine q0b (fun vs w=>by kernel_rfl) (by kernel_rfl) (hA1) ?_ |refine q0a (fun vs w=>by kernel_rfl) (by kernel_rfl) (hA1) ?_))))
        conv=>whnf
        refine q07 tab_ok (fun j=>j≤(nthL ps i).length) (fun (j:Nat)=>[(7,.own 1),(8,.val (.int .i64 ((nthL ps i).length-1-j)))]) (fun j=>[.own 37 2 i (vRow V i),.own 43 2 j (q0s ((nthL ps i).reverse.take j))]) (fun j=>(nthL ps i).length-j) 0 (Nat.zero_le _) ?_ ?_
        · refine q15 43 2 ?_
          conv=>whnf
          ((refine q0g ?_);(conv=>whnf);(refine q0h (by rfl) (by rfl) flQ ?_))
          exact q0d rfl rfl (q0d rfl rfl q0e)
        · rintro j hj
          rcases Nat.lt_or_ge j (nthL ps i).length with h2 |h2
          · have rd1:=rd ((nthL ps i).length-1-j) (by omega) ((nthL ps i).length-1-j:Int) (by omega)
            (repeat ((try (conv=>whnf));(first |(refine rd1 _ ?_) |(refine stQ ?_))))
            conv=>whnf
            refine ⟨j+1,by omega,by omega,?_⟩
            refine q0k 3 1 rfl rfl rfl rfl ?_
            conv=>whnf
            ((refine q0g ?_);(conv=>whnf);(refine q0h (by rfl) (by rfl) flQ ?_))
            exact q0d rfl rfl (q0d rfl (z9a h2) q0e)
          · obtain rfl:j=(nthL ps i).length:=by omega
            have et:(nthL ps i).reverse.take (nthL ps i).length=(nthL ps i).reverse:=by rw [List.take_of_length_le (by simp)]
            rw [et]
            (repeat ((try (conv=>whnf));(refine stQ ?_)))
            conv=>whnf
            refine x3y tab_ok 2 1 rfl rfl rfl rfl rfl rfl fun A2 c2 G2 z1 z2 z3 z4=>?_
            (repeat ((try (conv=>whnf));(refine stQ ?_)))
            conv=>whnf
            refine ⟨(i+1,G2,putV V i (.slice A2 (nthL ps i).length c2)),⟨by show i+1≤_;omega,hO.add z1 (by rw [ho,List.length_reverse]) (by rw [ho];exact q5p z4) ⟨z2,z3⟩⟩,by show _-(i+1)<_;omega,?_⟩
            refine q0k 3 0 rfl rfl rfl rfl ?_
            conv=>whnf
            ((refine q0g ?_);(conv=>whnf);(refine q0h (by rfl) (by rfl) flQ ?_))
            exact q0d rfl (x1l V i _).symm q0e
      · have ho:orP (nthL ps i)=nthL ps i:=by unfold orP;rw [har,if_neg (by omega)]
        (repeat ((try (conv=>whnf));(first |(refine q0q _ y0 ?_) |(refine stQ ?_) |(with_reducible first |refine q0b (fun vs w=>by kernel_rfl) (by kernel_rfl) (hA1) ?_ |refine q0a (fun vs w=>by kernel_rfl) (by kernel_rfl) (hA1) ?_))))
        conv=>whnf
        refine ⟨(i+1,G1,putV V i (.slice (a i) (nthL ps i).length (nthL ps i).length)),⟨by show i+1≤_;omega,hO.add (Mem.le_refl _) (by rw [ho]) (by rw [ho];exact hpi) ⟨Nat.le_refl _,by unfold maxLen;omega⟩⟩,by show _-(i+1)<_;omega,?_⟩
        refine q0k 2 0 rfl rfl rfl rfl ?_
        conv=>whnf
        ((refine q0g ?_);(conv=>whnf);(refine q0h (by rfl) (by rfl) flQ ?_))
        exact q0d rfl (x1l V i _).symm q0e
    · obtain rfl:i=ps.length:=by omega
      (repeat ((try (conv=>whnf));(refine stQ ?_)))
      exact .inl ⟨0,_,_,_,_,rfl,rfl,fun G2 A2 hle hF=>⟨rfl,_,hO.lines hle hF⟩⟩
end
end Go.Proofs.YtegpkpilfgohhaaGreat
namespace Go.Proofs.YtegpkpilfgohhaaGreat
open Go.RowKit
set_option maxRecDepth 20000
theorem cutF {c k:Nat} {A:Option Addr}:(if c=((0:Nat):Int).toNat then A else A.map (·.add (((0:Nat):Int).toNat * k)))=A:=by
  split
  · rfl
  · cases A with
    | none=>rfl
    | some a=>simp [Addr.add]
def fewL (L:Nat→LineD):Nat→LineD:=fun x=>⟨(L x).A,min (L x).n 8,(L x).q,(L x).X,(L x).Y,(L x).cl⟩
section
variable {G:Mem} {A:Option Addr} {n c:Nat} {L:Nat→LineD}
theorem x6k {G':Mem} {B:Option Addr} (h:LinesM G A n L) (hG:G.le G') (hx:q1s (fun x=>(fewL L x).cells) (min n 4)=[]∨∃ b,B=some ⟨b,0,none⟩∧∀ (j:Nat) u,(q1s (fun x=>(fewL L x).cells) (min n 4))[j]? = some u→G'.cell? ⟨b,j,none⟩=some u):LinesM G' B (min n 4) (fewL L) :=
  ⟨ElsM.frozen (fun _ _=>rfl) hx (by omega),fun x hx=>((h.pts x (by omega)).mono hG).less (Nat.min_le_left _ _),fun x hx=>by
    have:=h.cap x (by omega)
    exact ⟨Nat.le_trans (Nat.min_le_left _ _) this.1,this.2⟩⟩
set_option maxHeartbeats 8000000 in
theorem x6l (h:LinesM G A n L) (hn:n≤maxLen) :
    q57 Tryz.prog 5 [.val (.slice A n c)] G id 37 2 (min n 4) (q1s (fun x=>(fewL L x).cells) (min n 4)):=by
  have hn':n≤9223372036854775807:=by unfold maxLen at hn;omega
  refine q9b tab_ok Tryz.func5 (.alone fun _=>rfl) ?_
  (repeat ((try (conv=>whnf));(refine stQ ?_)))
  conv=>whnf
  refine q07 tab_ok (fun x=>x≤min n 4) (fun (x:Nat)=>[(4,.val (.int .i64 x)),(3,.own 0)]) (fun x=>[.own 37 2 x (q1s (fun x=>(fewL L x).cells) x)]) (fun x=>min n 4-x) 0 (Nat.zero_le _) ?_ ?_
  · refine q15 37 2 ?_
    conv=>whnf
    ((refine q0g ?_);(conv=>whnf);(refine q0h (by rfl) (by rfl) flQ ?_))
    exact q0d rfl rfl q0e
  · rintro x hx
    rcases Nat.lt_or_ge x (min n 4) with h1 |h1
    · obtain ⟨p,rfl,c0⟩:=h.rows.cell (x:=x) (j:=0) (by omega) rfl
      obtain ⟨p',hp',c1⟩:=h.rows.cell (x:=x) (j:=1) (by omega) rfl
      cases hp'
      have hcap:=h.cap x (by omega)
      unfold maxLen at hcap
      have hnx:q1s (fun x=>(fewL L x).cells) (x+1)=q1s (fun x=>(fewL L x).cells) x++(fewL L x).cells:=rfl
      rcases Nat.lt_or_ge 8 (L x).n with h2 |h2
      · (repeat ((try (conv=>whnf));(first |(refine q0q _ c0 ?_) |(refine q0q _ c1 ?_) |(refine stQ ?_))))
        conv=>whnf
        refine ⟨x+1,by omega,by omega,?_⟩
        refine q0k 2 0 rfl rfl rfl rfl ?_
        conv=>whnf
        ((refine q0g ?_);(conv=>whnf);(refine q0h (by rfl) (by rfl) flQ ?_))
        exact q0d rfl (by rw [cutF,hnx];congr 1;show [Value.slice (L x).A 8 (L x).q,Value.bool (L x).cl]=[Value.slice (L x).A (min (L x).n 8) (L x).q,Value.bool (L x).cl];rw [show min (L x).n 8=8 by omega]) q0e
      · (repeat ((try (conv=>whnf));(first |(refine q0q _ c0 ?_) |(refine q0q _ c1 ?_) |(refine stQ ?_))))
        conv=>whnf
        refine ⟨x+1,by omega,by omega,?_⟩
        refine q0k 2 0 rfl rfl rfl rfl ?_
        conv=>whnf
        ((refine q0g ?_);(conv=>whnf);(refine q0h (by rfl) (by rfl) flQ ?_))
        exact q0d rfl (by rw [hnx];congr 1;show [Value.slice (L x).A (L x).n (L x).q,Value.bool (L x).cl]=[Value.slice (L x).A (min (L x).n 8) (L x).q,Value.bool (L x).cl];rw [show min (L x).n 8=(L x).n by omega]) q0e
    · have hxm:x=min n 4:=by omega
      clear hx h1
      rcases Nat.lt_or_ge 4 n with h2 |h2
      · rw [show min n 4=4 by omega] at hxm ⊢
        subst hxm
        (repeat ((try (conv=>whnf));(refine stQ ?_)))
        exact .inl ⟨0,rfl,rfl⟩
      · rw [show min n 4=n by omega] at hxm ⊢
        subst hxm
        (repeat ((try (conv=>whnf));(refine stQ ?_)))
        exact .inl ⟨0,rfl,rfl⟩
end
end Go.Proofs.YtegpkpilfgohhaaGreat
namespace Go.Proofs.YtegpkpilfgohhaaGreat
open Go.RowKit
theorem ElsM.srcE {G:Mem} {A:Option Addr} {sz n:Nat} {c:Nat→List Value} (h:ElsM G A sz n c) (hs:0<sz) (ho:∀ x,x<n→∀ v∈c x,v.oneCell'=true) {K:Nat→List Value→Prop} (k:K n (q1s c n)):SrcV G A n sz K:=by
  refine ⟨_,q4l (fun x hx=>h.len x hx),fun hn=>?_,z8b ho,k⟩
  obtain ⟨b,off,hA,_⟩:=h.at_ 0 (by omega)
  refine ⟨_,hA,fun j v hj=>?_⟩
  have hjl:=(List.getElem?_eq_some_iff.1 hj).1
  rw [q4l (sz:=sz) (fun x hx=>h.len x hx)] at hjl
  have hd:j/sz<n:=(Nat.div_lt_iff_lt_mul hs).2 hjl
  obtain ⟨b',off',hA',hc⟩:=h.at_ (j/sz) hd
  rw [hA] at hA';cases hA'
  have e:j=j/sz*sz+j%sz:=by rw [Nat.mul_comm];exact (Nat.div_add_mod j sz).symm
  have hg:=q9x (c:=c) (sz:=sz) (n:=n) (fun x hx=>h.len x hx) (x:=j/sz) (j:=j%sz) hd (Nat.mod_lt _ hs)
  rw [← e,hj] at hg
  rw [q02]
  have:=hc (j%sz) v hg.symm
  rwa [Nat.add_assoc,← e] at this
theorem z8w (l:List (Int × Int)):∀ n,n≤l.length→q1s (ptC (fun j=>(nthP l j).1) fun j=>(nthP l j).2) n=q0s (l.take n)
  | 0,_=>rfl
  | n+1,h=>by
    rw [q1s,z8w l n (by omega),List.take_add_one,q1h (by omega),q03]
    simp [q0s]
theorem PtsM.srcE {G:Mem} {A:Option Addr} {l:List (Int × Int)} (h:PtsM G A l) {K:Nat→List Value→Prop} (k:K l.length (q0s l)):SrcV G A l.length 2 K:=by
  refine (z3q h).srcE (by omega) (fun x hx v hv=>?_) ?_
  · simp [ptC] at hv;rcases hv with rfl |rfl <;> rfl
  · rw [z8w l l.length (Nat.le_refl _),List.take_length];exact k
def OutP (M:Mem) (B:Nat→Value) (qs:List (List (Int × Int))):Prop:=∀ k,k<qs.length→∃ A c,B k=.slice A (nthL qs k).length c∧PtsM M A (nthL qs k)∧(nthL qs k).length≤c∧c≤maxLen
theorem OutP.mono {M M':Mem} {B:Nat→Value} {qs:List (List (Int × Int))} (h:OutP M B qs) (hle:M.le M'):OutP M' B qs:=fun k hk=>by
  obtain ⟨A,c,h1,h2,h3⟩:=h k hk
  exact ⟨A,c,h1,h2.mono hle,h3⟩
def appV (B V:Nat→Value) (n:Nat):Nat→Value:=fun j=>if j<n then B j else V (j-n)
theorem x4g {ps qs:List (List (Int × Int))} {i:Nat} (h1:ps.length≤i) (h:i<ps.length+qs.length):nthL (ps++qs) i=nthL qs (i-ps.length):=by
  have h2:(ps++qs)[i]? = qs[i-ps.length]?:=List.getElem?_append_right h1
  rw [q1m (ps:=ps++qs) (by rw [List.length_append];exact h),q1m (ps:=qs) (by omega)] at h2
  exact Option.some.inj h2
theorem OutP.app {M M':Mem} {B V:Nat→Value} {qs rs:List (List (Int × Int))} (h:OutP M B qs) (hle:M.le M') (h2:OutP M' V rs):OutP M' (appV B V qs.length) (qs++rs):=fun k hk=>by
  rw [List.length_append] at hk
  unfold appV
  by_cases e:k<qs.length
  · rw [if_pos e,q90 e];exact h.mono hle k e
  · rw [if_neg e,x4g (by omega) hk];exact h2 _ (by omega)
theorem x76 (B V:Nat→Value) (qs rs:List (List (Int × Int))):rowV (appV B V qs.length) (qs++rs)=rowV B qs++rowV V rs:=by
  unfold rowV
  rw [List.length_append,z8a]
  congr 1
  · exact q45 fun i hi=>by unfold appV;rw [if_pos hi]
  · exact q45 fun i hi=>by unfold appV;rw [if_neg (by omega),Nat.add_sub_cancel_left]
theorem OutF.p {M:Mem} {A:Option Addr} {V:Nat→Value} {qs:List (List (Int × Int))} (h:OutF M A V qs):OutP M V qs:=h.pts
theorem OutF.srcE {M:Mem} {A:Option Addr} {V:Nat→Value} {qs:List (List (Int × Int))} (h:OutF M A V qs) {K:Nat→List Value→Prop} (k:K qs.length (rowV V qs)):SrcV M A qs.length 2 K:=by
  refine (h.row.els (sz:=2) (fun _ _=>rfl) (by omega)).srcE (by omega) (fun x hx v hv=>?_) k
  obtain ⟨A',c',e,_⟩:=h.pts x hx
  simp at hv
  rcases hv with rfl |rfl
  · rw [e];rfl
  · rfl
end Go.Proofs.YtegpkpilfgohhaaGreat
