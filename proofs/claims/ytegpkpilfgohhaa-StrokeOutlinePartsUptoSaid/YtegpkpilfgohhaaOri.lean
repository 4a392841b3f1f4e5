/-
  The reference's Oriented: the parts, those of a negative area turned.
-/
import Derived.Test.YtegpkpilfgohhaaMrg21
import Derived.Test.YtegpkpilfgohhaaMrg23
import Derived.Test.YtegpkpilfgohhaaMrg11
set_option linter.unusedVariables false
set_option linter.unusedSimpArgs false
set_option linter.unnecessarySimpa false
namespace Go.Proofs.Ytegpkpilfgohhaa
open Go.RowKit
set_option maxRecDepth 20000
section
variable {G:Mem} {A:Option Addr} {n c:Nat} {L:Nat→LineD}
set_option maxHeartbeats 4000000 in
theorem z5r (h:LinesM G A n L) (hn:n≤maxLen) (hb:q13 L n=false):Gives Try.prog 15 [.val (.slice A n c)] G (.tup [.val (.slice none 0 0),.val (.int .i64 10)]):=by
  have hc:=q22 (c:=c) h hn
  rw [show q1p L n=3 by unfold q1p;rw [hb];rfl] at hc
  refine q1e tab_ok Try.func15 ?_
  (repeat ((try (conv=>whnf));(first |(refine stQ ?_) |(with_reducible first |refine q0b (fun vs w=>by kernel_rfl) (by kernel_rfl) (hc) ?_ |refine q0a (fun vs w=>by kernel_rfl) (by kernel_rfl) (hc) ?_))))
  exact ⟨rfl,rfl⟩
end
section
variable {G:Mem} {A:Option Addr} {c:Nat} {ps:List (List (Int × Int))} {a:Nat→Option Addr}
theorem z18 (hF:FlatM G A (rowC a ps)) (hP:PartM G a ps) (hl:∀ k,k<ps.length→(nthL ps k).length≤8):LinesM G A ps.length fun k=>lnV (.slice (a k) (nthL ps k).length (nthL ps k).length) (nthL ps k):=by
  refine ⟨(hF.els (sz:=2) (fun _ _=>rfl) (by omega)).congr fun k hk=>rfl,fun k hk=>z2t (hP k hk),fun k hk=>⟨Nat.le_refl _,?_⟩⟩
  have:=hl k hk
  show (nthL ps k).length≤maxLen
  unfold maxLen;omega
theorem z5s {f:List (Int × Int)→List (Int × Int)} {ps:List (List (Int × Int))} {i:Nat} (h:i<ps.length):nthL (ps.map f) i=f (nthL ps i):=by
  have h1:=q11 (ps:=ps.map f) (i:=i) (by simpa using h)
  rw [List.getElem?_map,q11 h] at h1
  exact (Option.some.inj h1).symm
theorem z36 {p:List (Int × Int)} {j:Nat} (h:j<p.length):q0r (p.reverse.take j)++[.int .i64 (nthP p (p.length-1-j)).1,.int .i64 (nthP p (p.length-1-j)).2]=q0r (p.reverse.take (j+1)):=by
  have e:p.reverse[j]? = some (nthP p (p.length-1-j)):=by rw [List.getElem?_reverse h,q10 (by omega)]
  rw [List.take_add_one,e,q05];simp [q0r]
structure OriM (G G':Mem) (ps:List (List (Int × Int))) (i:Nat) (V:Nat→Value):Prop where
  le:G.le G'
  rows:∀ k,k<i→∃ A c,V k=.slice A (orP (nthL ps k)).length c∧PtsM G' A (orP (nthL ps k))
theorem OriM.add {G G' G'':Mem} {ps:List (List (Int × Int))} {i:Nat} {V:Nat→Value} (h:OriM G G' ps i V) (hle:G'.le G'') {A:Option Addr} {c m:Nat} (hm:m=(orP (nthL ps i)).length) (hp:PtsM G'' A (orP (nthL ps i))):OriM G G'' ps (i+1) (putV V i (.slice A m c)):=by
  subst hm
  refine ⟨Mem.le_trans h.le hle,fun k hk=>?_⟩
  by_cases e:k=i
  · subst e;exact ⟨A,c,q2l,hp⟩
  · obtain ⟨A',c',e',h'⟩:=h.rows k (by omega)
    exact ⟨A',c',by rw [q19 e];exact e',h'.mono hle⟩
def vRow (V:Nat→Value) (i:Nat):List Value:=q2x (fun k=>[V k,.bool true]) i
theorem z5t (V:Nat→Value) (i:Nat) (v:Value):vRow (putV V i v) (i+1)=vRow V i++[v,.bool true]:=by
  unfold vRow
  rw [q2x]
  congr 1
  · exact q5l fun k hk=>by rw [q19 (by omega)]
  · rw [q2l]
theorem OriM.lines {G' G'':Mem} {B:Option Addr} {V:Nat→Value} (h:OriM G G' ps ps.length V) (hle:G'.le G'') (hF:FlatM G'' B (vRow V ps.length)):∃ b q,LnsM G'' B ps.length (fun k=>orP (nthL ps k)) (fun _=>true) b q:=by
  refine ⟨fun k=>match V k with | .slice A _ _=>A |_=>none,fun k=>match V k with | .slice _ _ c=>c |_=>0,⟨(hF.els (sz:=2) (fun _ _=>rfl) (by omega)).congr fun k hk=>?_,fun k hk=>?_⟩⟩
  · obtain ⟨A',c',e',_⟩:=h.rows k hk
    rw [e']
  · obtain ⟨A',c',e',h'⟩:=h.rows k hk
    rw [e'];exact h'.mono hle
set_option maxHeartbeats 8000000 in
theorem z2w (hpc:ps.length≤c) (hF:FlatM G A (rowC a ps)) (hP:PartM G a ps) (hl:∀ k,k<ps.length→(nthL ps k).length≤8) (hb:q49 ps=true) (hn:ps.length≤4000000) :
    z5j Try.prog 15 [.val (.slice A ps.length c)] G (x0s 0) fun G' B m=>m=ps.length∧∃ b q,LnsM G' B ps.length (fun k=>orP (nthL ps k)) (fun _=>true) b q:=by
  have hL:=z18 hF hP hl
  have hLb:q13 (fun k=>lnV (.slice (a k) (nthL ps k).length (nthL ps k).length) (nthL ps k)) ps.length=true:=by rw [q7i (fun k=>.slice (a k) (nthL ps k).length (nthL ps k).length)];exact hb
  have hc:=q22 (c:=c) hL (by unfold maxLen;omega)
  rw [show q1p (fun k=>lnV (.slice (a k) (nthL ps k).length (nthL ps k).length) (nthL ps k)) ps.length=0 by unfold q1p;rw [hLb];rfl] at hc
  refine z84 tab_ok Try.func15 (z0j 0) (by rfl) ?_
  (repeat ((try (conv=>whnf));(first |(refine stQ ?_) |(with_reducible first |refine q0b (fun vs w=>by kernel_rfl) (by kernel_rfl) (hc) ?_ |refine q0a (fun vs w=>by kernel_rfl) (by kernel_rfl) (hc) ?_))))
  conv=>whnf
  refine q3p tab_ok (ι:=Nat × Mem × (Nat→Value)) (fun t=>t.1≤ps.length∧OriM G t.2.1 ps t.1 t.2.2) (fun t=>[(14,.val (.int .i64 t.1)),(4,.own 0)]) (fun t=>[.own 35 2 t.1 (vRow t.2.2 t.1)]) (fun t=>t.2.1) (fun t=>ps.length-t.1) (0,G,fun _=>.slice none 0 0) ⟨Nat.zero_le _,Mem.le_refl _,fun k hk=>absurd hk (Nat.not_lt_zero k)⟩ ?_ ?_
  · refine q2o 35 2 ?_
    conv=>whnf
    ((refine q0i ?_);(conv=>whnf);(refine q0m (by rfl) (by rfl) flQ ?_))
    exact q0d rfl rfl q0g
  · rintro ⟨i,G1,V⟩ ⟨hi,hO⟩
    dsimp only at hi hO ⊢
    rcases Nat.lt_or_ge i ps.length with h1 |h1
    · have hL1:=(hL.mono hO.le).cut h1
      have hb1:q13 (fun _=>lnV (.slice (a i) (nthL ps i).length (nthL ps i).length) (nthL ps i)) 1=true:=z3x hb h1 _
      have hA:=fun c=>z56 (c:=c) hL1 (by unfold maxLen;omega) hb1
      rw [z9b] at hA
      obtain ⟨p,rfl,x0⟩:=hL.rows.cell (x:=i) (j:=0) h1 rfl
      have hA1:=hA (c-i)
      rw [← z3w (p:=p) (i:=i) (c:=c) (by omega)] at hA1
      clear hA
      have y0:G1.cell? ((p.add (i*2)).add 0)=some (.slice (a i) (nthL ps i).length (nthL ps i).length):=hO.le.cell x0
      have hl8:=hl i h1
      have hpi:=(hP i h1).mono hO.le
      generalize har:arP (nthL ps i)=ar at *
      rcases (show ar<0∨0≤ar by omega) with ha |ha
      · have ho:orP (nthL ps i)=(nthL ps i).reverse:=by unfold orP;rw [har,if_pos ha]
        obtain ⟨p1,e1⟩:∃ p1,a i=some p1:=by
          rcases Nat.eq_zero_or_pos (nthL ps i).length with h0 |h0
          · exfalso
            unfold arP at har
            rw [h0] at har
            have:(0:Int)=ar:=har
            omega
          · obtain ⟨b,off,e,_⟩:=hpi 0 _ (q10 h0)
            exact ⟨_,e⟩
        rw [e1] at y0 hpi
        have rd:=fun (j:Nat) (hj:j<(nthL ps i).length) (z:Int) (hz:z.toNat=j) (K:List Value→Prop) k=>hpi.at_ (z:=z) hz hj (K:=K) k
        (repeat ((try (conv=>whnf));(first |(refine q00 _ y0 ?_) |(refine stQ ?_) |(with_reducible first |refine q0b (fun vs w=>by kernel_rfl) (by kernel_rfl) (hA1) ?_ |refine q0a (fun vs w=>by kernel_rfl) (by kernel_rfl) (hA1) ?_))))
        conv=>whnf
        refine q1z tab_ok (fun j=>j≤(nthL ps i).length) (fun (j:Nat)=>[(7,.own 1),(8,.val (.int .i64 ((nthL ps i).length-1-j)))]) (fun j=>[.own 35 2 i (vRow V i),.own 58 2 j (q0r ((nthL ps i).reverse.take j))]) (fun j=>(nthL ps i).length-j) 0 (Nat.zero_le _) ?_ ?_
        · refine q2o 58 2 ?_
          conv=>whnf
          ((refine q0i ?_);(conv=>whnf);(refine q0m (by rfl) (by rfl) flQ ?_))
          exact q0d rfl rfl (q0d rfl rfl q0g)
        · rintro j hj
          rcases Nat.lt_or_ge j (nthL ps i).length with h2 |h2
          · have rd1:=rd ((nthL ps i).length-1-j) (by omega) ((nthL ps i).length-1-j:Int) (by omega)
            (repeat ((try (conv=>whnf));(first |(refine rd1 _ ?_) |(refine stQ ?_))))
            conv=>whnf
            refine ⟨j+1,by omega,by omega,?_⟩
            refine q0p 3 1 rfl rfl rfl rfl ?_
            conv=>whnf
            ((refine q0i ?_);(conv=>whnf);(refine q0m (by rfl) (by rfl) flQ ?_))
            exact q0d rfl rfl (q0d rfl (z36 h2) q0g)
          · obtain rfl:j=(nthL ps i).length:=by omega
            have et:(nthL ps i).reverse.take (nthL ps i).length=(nthL ps i).reverse:=by rw [List.take_of_length_le (by simp)]
            rw [et]
            (repeat ((try (conv=>whnf));(refine stQ ?_)))
            conv=>whnf
            refine z7r tab_ok 2 1 rfl rfl rfl rfl rfl rfl fun A2 c2 G2 z1 z2 z3 z4=>?_
            (repeat ((try (conv=>whnf));(refine stQ ?_)))
            conv=>whnf
            refine ⟨(i+1,G2,putV V i (.slice A2 (nthL ps i).length c2)),⟨by show i+1≤_;omega,hO.add z1 (by rw [ho,List.length_reverse]) (by rw [ho];exact q4m z4)⟩,by show _-(i+1)<_;omega,?_⟩
            refine q0p 3 0 rfl rfl rfl rfl ?_
            conv=>whnf
            ((refine q0i ?_);(conv=>whnf);(refine q0m (by rfl) (by rfl) flQ ?_))
            exact q0d rfl (z5t V i _).symm q0g
      · have ho:orP (nthL ps i)=nthL ps i:=by unfold orP;rw [har,if_neg (by omega)]
        (repeat ((try (conv=>whnf));(first |(refine q00 _ y0 ?_) |(refine stQ ?_) |(with_reducible first |refine q0b (fun vs w=>by kernel_rfl) (by kernel_rfl) (hA1) ?_ |refine q0a (fun vs w=>by kernel_rfl) (by kernel_rfl) (hA1) ?_))))
        conv=>whnf
        refine ⟨(i+1,G1,putV V i (.slice (a i) (nthL ps i).length (nthL ps i).length)),⟨by show i+1≤_;omega,hO.add (Mem.le_refl _) (by rw [ho]) (by rw [ho];exact hpi)⟩,by show _-(i+1)<_;omega,?_⟩
        refine q0p 2 0 rfl rfl rfl rfl ?_
        conv=>whnf
        ((refine q0i ?_);(conv=>whnf);(refine q0m (by rfl) (by rfl) flQ ?_))
        exact q0d rfl (z5t V i _).symm q0g
    · obtain rfl:i=ps.length:=by omega
      (repeat ((try (conv=>whnf));(refine stQ ?_)))
      exact .inl ⟨0,_,_,_,_,rfl,rfl,fun G2 A2 hle hF=>⟨rfl,hO.lines hle hF⟩⟩
end
end Go.Proofs.Ytegpkpilfgohhaa
