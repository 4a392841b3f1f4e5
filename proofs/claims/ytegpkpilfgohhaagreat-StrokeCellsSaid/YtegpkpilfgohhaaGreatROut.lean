/-
  The reference's Outline.
-/
import Derived.Test.YtegpkpilfgohhaaGreatMrg12
import Derived.Test.YtegpkpilfgohhaaGreatMrg13
import Derived.Test.YtegpkpilfgohhaaGreatMrg8
set_option linter.unusedVariables false
set_option linter.unusedSimpArgs false
set_option linter.unnecessarySimpa false
namespace Go.Proofs.YtegpkpilfgohhaaGreat
open Go.RowKit
set_option maxRecDepth 20000
def nthL (ps:List (List (Int × Int))) (i:Nat):List (Int × Int):=ps[i]!
theorem q1m {ps:List (List (Int × Int))} {i:Nat} (h:i<ps.length):ps[i]? = some (nthL ps i):=by simp [nthL,h]
theorem q90 {ps qs:List (List (Int × Int))} {i:Nat} (h:i<ps.length):nthL (ps++qs) i=nthL ps i:=by
  have h1:(ps++qs)[i]? = ps[i]?:=List.getElem?_append_left h
  rw [q1m h,q1m (show i<(ps++qs).length by simp;omega)] at h1
  exact Option.some.inj h1
theorem z20 {ps:List (List (Int × Int))} {q:List (Int × Int)}:nthL (ps++[q]) ps.length=q:=by
  have h1:(ps++[q])[ps.length]? = some q:=by simp
  rw [q1m (by simp)] at h1
  exact Option.some.inj h1
def rowC (a:Nat→Option Addr) (ps:List (List (Int × Int))):List Value:=q1s (fun i=>[.slice (a i) (nthL ps i).length (nthL ps i).length,.bool true]) ps.length
def addA (a:Nat→Option Addr) (n:Nat) (A:Option Addr):Nat→Option Addr:=fun i=>if i=n then A else a i
theorem q5o (a:Nat→Option Addr) (ps:List (List (Int × Int))) (A:Option Addr) (q:List (Int × Int)):rowC (addA a ps.length A) (ps++[q])=rowC a ps++[.slice A q.length q.length,.bool true]:=by
  unfold rowC
  rw [List.length_append,List.length_singleton,q1s]
  congr 1
  · exact q45 fun i hi=>by unfold addA;rw [if_neg (by omega),q90 hi]
  · unfold addA;rw [if_pos rfl,z20]
def PartM (M:Mem) (a:Nat→Option Addr) (ps:List (List (Int × Int))):Prop:=∀ i,i<ps.length→PtsM M (a i) (nthL ps i)
theorem PartM.mono {M M':Mem} {a:Nat→Option Addr} {ps:List (List (Int × Int))} (h:PartM M a ps) (hle:M.le M'):PartM M' a ps:=fun i hi=>(h i hi).mono hle
theorem PartM.add {M:Mem} {a:Nat→Option Addr} {ps:List (List (Int × Int))} {A:Option Addr} {q:List (Int × Int)} (h:PartM M a ps) (hq:PtsM M A q):PartM M (addA a ps.length A) (ps++[q]):=fun i hi=>by
  rw [List.length_append,List.length_singleton] at hi
  unfold addA
  by_cases e:i=ps.length
  · rw [if_pos e,e,z20];exact hq
  · rw [if_neg e,q90 (by omega)];exact h i (by omega)
theorem PtsM.at_ {G:Mem} {p:Addr} {l:List (Int × Int)} (h:PtsM G (some p) l) {z:Int} {i:Nat} (hz:z.toNat=i) (hi:i<l.length) {K:List Value→Prop} (k:K [.int .i64 (nthP l i).1,.int .i64 (nthP l i).2]):OldCells G (p.add (z.toNat * 2)) 2 K:=by
  subst hz
  obtain ⟨p',e,h1⟩:=h.cells (q1h hi)
  cases e
  exact h1 K k
theorem q91 {G:Mem} {a:Addr} {n:Nat} {vs:List Value} (ca:∀ K:List Value→Prop,K vs→OldCells G a n K) {j:Nat} {v:Value} (hj:vs[j]? = some v):G.cell? (a.add j)=some v:=by
  obtain ⟨us,⟨_,h1⟩,h2⟩:=ca (fun us=>us=vs) rfl
  subst h2
  exact h1 j v hj
theorem q75 {P:Nat→Int × Int} {n i:Nat} (h:i<n):rnd P n i=P i:=by unfold rnd;rw [Nat.mod_eq_of_lt h]
theorem modC {k n:Nat} (h:0<n):Int.tmod ((k:Int)+1) (n:Int)=(((k+1)%n:Nat):Int):=by
  rw [Int.tmod_eq_emod_of_nonneg (by omega)];rfl
def OutR (ps:List (List (Int × Int))) (ds:List (Int × Int)) (v:AV) (G':Mem):Prop :=
  ∃ A c B d a,v=.tup [.val (.slice A ps.length c),.val (.slice B ds.length d)]∧ps.length≤c∧FlatM G' A (rowC a ps)∧PartM G' a ps∧PtsM G' B ds
theorem q5p {G:Mem} {A:Option Addr} {l:List (Int × Int)} (h:FlatM G A (q0s l)):PtsM G A l:=fun i r hr=>by
  obtain ⟨h1,h2⟩:=z2r hr
  rcases h with ⟨_,h⟩ |⟨b,off,rfl,h⟩
  · rw [h] at h1;simp at h1
  · exact ⟨b,off,rfl,by rw [Nat.add_comm,Nat.add_comm];exact h _ _ h1,by rw [Nat.add_assoc];exact h _ _ h2⟩
section
variable {G:Mem} {A:Option Addr} {n q:Nat} {cl:Bool} {P:Nat→Int × Int} {s:Sty}
set_option maxHeartbeats 64000000 in
theorem z0y (h:ElsM G A 2 n fun i=>[.int .i64 (P i).1,.int .i64 (P i).2]) (hn:n≤1100000) (hP:∀ i,i<n→okP (P i)) (hs:StyOk s) :
    q4y Tryz.prog 9 [z1q A n q cl,styA s] G (OutR (q1u s (nthP (q0v P n cl)) (q0v P n cl).length cl) (q10 s (nthP (q0v P n cl)) (q0v P n cl).length cl)):=by
  have hS:=x14 (q:=q) (cl:=cl) h (by omega)
  have hok:=fun i (hi:i<(q0v P n cl).length)=>z1m (cl:=cl) (Q:=okP) hP hi
  have hlen:=q59 P n cl
  have hne:=fun i=>z79 (P:=P) (n:=n) (cl:=cl) (i:=i)
  generalize q0v P n cl=pts at *
  have hcap:=hs.cap
  have hw:=hs.w
  refine z1o tab_ok Tryz.func9 (by kernel_rfl) ?_
  (repeat ((try (conv=>whnf));(refine stQ ?_)))
  conv=>whnf
  refine q5l (fun vs w=>by kernel_rfl) (.alone fun _=>rfl) (by kernel_rfl) hS fun A1 c1 G1 hG1 hc1 hm1 hx1=>?_
  have hpt:=PtsM.frozen hx1
  clear hx1 hS h
  rcases (show pts.length=0∨pts.length=1∨1<pts.length by omega) with hN |hN |hN
  · unfold q1u q10
    rw [if_pos hN,if_pos hN]
    (repeat ((try (conv=>whnf));(refine stQ ?_)))
    conv=>whnf
    exact .inl ⟨rfl,none,0,none,0,fun _=>none,rfl,Nat.le_refl _,.inl ⟨rfl,rfl⟩,(fun i hi=>by cases hi),(fun i r hr=>by cases hr)⟩
  · obtain ⟨p0,rfl⟩:=List.length_eq_one_iff.1 hN
    unfold q1u q10
    have hN1:(([p0]:List (Int × Int)).length:Int)=1:=rfl
    obtain ⟨p1,rfl⟩:∃ p1,A1=some p1:=by
      obtain ⟨b,off,e,_⟩:=hpt 0 _ (q1h (by simp))
      exact ⟨_,e⟩
    have f0:=fun K (k':K [Value.int .i64 p0.1,.int .i64 p0.2])=>hpt.at_ (z:=(0:Int)) (i:=0) rfl (by simp) (K:=K) k'
    have o0:=hok 0 (by simp)
    rw [show nthP [p0] 0=p0 from rfl] at o0
    clear hok hne hlen
    rw [if_neg (show ¬ [p0].length=0 by simp),if_neg (show ¬ [p0].length=0 by simp),if_pos (show [p0].length=1 from rfl),if_pos (show [p0].length=1 from rfl),show nthP [p0] 0=p0 from rfl]
    rcases (show s.cap=0∨s.cap=1∨s.cap=2 by omega) with hc |hc |hc
    · rw [if_neg (by omega),if_neg (by omega)]
      (repeat ((try (conv=>whnf));(refine stQ ?_)))
      conv=>whnf
      exact .inl ⟨rfl,none,0,none,0,fun _=>none,rfl,Nat.le_refl _,.inl ⟨rfl,rfl⟩,(fun i hi=>by cases hi),(fun i r hr=>by cases hr)⟩
    · rw [if_neg (by omega),if_pos hc]
      (repeat ((try (conv=>whnf));(refine stQ ?_)))
      conv=>whnf
      exact .inl ⟨rfl,none,0,some p1,c1,fun _=>none,rfl,Nat.le_refl _,.inl ⟨rfl,rfl⟩,(fun i hi=>by cases hi),hpt⟩
    · rw [if_pos hc,if_neg (by omega)]
      have hh:=fun G=>q47 (G:=G) (a:=s.w) (b:=2) (by omega) (by omega)
      have hnb:=z3m (a:=s.w) (b:=2) (K:=512) (by omega) (by omega) (by omega)
      unfold okP at o0
      unfold dotP
      generalize near s.w 2=nh at *
      have fx:=fun (K:List Value→Prop) (k':K [Value.int .i64 p0.1])=>q0q _ (q91 f0 (j:=0) rfl) k'
      have fy:=fun (K:List Value→Prop) (k':K [Value.int .i64 p0.2])=>q0q _ (q91 f0 (j:=1) rfl) k'
      (repeat ((try (conv=>whnf));(first |(refine fx _ ?_) |(refine fy _ ?_) |((refine q0n (by rfl) ?_ ?_);(· first |exact Mem.le_refl _ |assumption)) |(with_reducible first |refine q1l (t:=22) tab_ok 0 false ?_ |refine q1l (t:=33) tab_ok 0 false ?_) |(refine s3Q ?_) |(with_reducible first |refine q0b (fun vs w=>by kernel_rfl) (by kernel_rfl) ((hh G1)) ?_ |refine q0a (fun vs w=>by kernel_rfl) (by kernel_rfl) ((hh G1)) ?_ |refine q0f tab_ok Tryz.func28 (fun vs w=>by kernel_rfl) (by rfl) ?_))))
      conv=>whnf
      intro b G2 hb hSb hG2
      have hle2:G1.le G2:=by rw [hG2];exact q3n hb
      (repeat ((try (conv=>whnf));(first |((refine q0n (by rfl) ?_ ?_);(· first |exact Mem.le_refl _ |assumption)) |(with_reducible refine q1l (t:=22) tab_ok 0 false ?_) |(refine stQ ?_) |(with_reducible refine q0f tab_ok Tryz.func28 (fun vs w=>by kernel_rfl) (by rfl) ?_))))
      conv=>whnf
      intro b3 G3 hb3 hSb3 hG3
      have hle3:G2.le G3:=by rw [hG3];exact q3n hb3
      (repeat ((try (conv=>whnf));(first |((refine q0n (by rfl) ?_ ?_);(· first |exact Mem.le_refl _ |assumption)) |(refine stQ ?_) |(with_reducible refine q0f tab_ok Tryz.func28 (fun vs w=>by kernel_rfl) (by rfl) ?_))))
      conv=>whnf
      refine .inl ⟨rfl,some ⟨b3,0,none⟩,1,none,0,fun _=>some ⟨b,0,none⟩,rfl,Nat.le_refl _,.inr ⟨b3,0,rfl,fun j u hj=>?_⟩,fun i hi=>?_,fun i r hr=>by cases hr⟩
      · rw [Nat.zero_add,hG3];exact z68 hj
      · obtain rfl:i=0:=by simp at hi;omega
        exact (show PtsM G2 (some ⟨b,0,none⟩) [(p0.1-nh,p0.2-nh),(p0.1-nh,p0.2+nh),(p0.1+nh,p0.2+nh),(p0.1+nh,p0.2-nh)] by rw [hG2];exact q3x rfl).mono hle3
  · obtain ⟨p1,hA1⟩:∃ p1,A1=some p1:=by
      obtain ⟨b,off,e,_⟩:=hpt 0 _ (q1h (by omega))
      exact ⟨_,e⟩
    subst hA1
    cases cl
    · (repeat ((try (conv=>whnf));(refine stQ ?_)))
      conv=>whnf
      refine q3h tab_ok (ι:=Nat × Mem × (Nat→Option Addr)) (fun t=>t.1≤(pts.length-1)∧G1.le t.2.1∧PartM t.2.1 t.2.2 (q1z s (nthP pts) pts.length t.1)) (fun t=>[(14,.val (.int .i64 t.1)),(8,.own 3)])
        (fun t=>[.muts fun _=>False,.cells 37 [.val (.slice A n q),.val (.bool false)],.cells 24 [.val (.int .i64 s.w),.val (.int .i64 s.cap),.val (.int .i64 s.join),.val (.int .i64 s.lim)],.own 37 2 (q1z s (nthP pts) pts.length t.1).length (rowC t.2.2 (q1z s (nthP pts) pts.length t.1))]) (fun t=>t.2.1) (fun t=>(pts.length-1)-t.1) (0,G1,fun _=>none) ⟨Nat.zero_le _,Mem.le_refl _,fun i hi=>by cases hi⟩ ?_ ?_
      · refine q15 37 2 ?_
        conv=>whnf
        ((refine q0g ?_);(conv=>whnf);(refine q0h (by rfl) (by rfl) flQ ?_))
        exact q0p (fun _ h=>h) (q0c (by exact flQ) (q0c (by exact flQ) (q0d rfl rfl q0e)))
      · rintro ⟨k,M,a⟩ ⟨hk,hM,hpa⟩
        dsimp only at hk hM hpa ⊢
        have hskl:=q3g s (nthP pts) pts.length k
        rcases Nat.lt_or_ge k (pts.length-1) with h1 |h1
        · have hpM:=hpt.mono hM
          have hm:=modC (k:=k) (n:=pts.length) (by omega)
          have hkn:(k+1)%pts.length<pts.length:=Nat.mod_lt _ (by omega)
          have hr0:rnd (nthP pts) pts.length k=nthP pts k:=q75 (by omega)
          have hr1:rnd (nthP pts) pts.length (k+1)=nthP pts ((k+1)%pts.length):=rfl
          have hnx:(k+1)%pts.length=nxP pts.length k:=by
            unfold nxP;split
            · rename_i e;rw [e,Nat.mod_self]
            · exact Nat.mod_eq_of_lt (by omega)
          have hdiff:=hne k hN (.inl (by omega))
          rw [← hnx] at hdiff
          have o0:=hok k (by omega)
          have o1:=hok _ hkn
          have hstep:q1z s (nthP pts) pts.length (k+1)=q1z s (nthP pts) pts.length k++[q8r (rnd (nthP pts) pts.length k) (rnd (nthP pts) pts.length (k+1)) (nrm s.w (rnd (nthP pts) pts.length k) (rnd (nthP pts) pts.length (k+1)))]:=rfl
          rw [hr0,hr1] at hstep
          have hv:=q34 (G:=M) hw hdiff o0 o1
          obtain ⟨_,⟨b1,b2⟩,_⟩:=q3b hw hdiff
          have c0:=fun K (k':K [Value.int .i64 (nthP pts k).1,.int .i64 (nthP pts k).2])=>hpM.at_ (z:=(k:Int)) (i:=k) (by omega) (by omega) (K:=K) k'
          have c1':=fun K (k':K [Value.int .i64 (nthP pts ((k+1)%pts.length)).1,.int .i64 (nthP pts ((k+1)%pts.length)).2])=>hpM.at_ (z:=Int.tmod ((k:Int)+1) (pts.length:Int)) (i:=(k+1)%pts.length) (by rw [hm];omega) hkn (K:=K) k'
          generalize nrm s.w (nthP pts k) (nthP pts ((k+1)%pts.length))=nv at *
          generalize hln s.w (nthP pts k) (nthP pts ((k+1)%pts.length))=ev at *
          generalize nthP pts ((k+1)%pts.length)=pb at *
          generalize nthP pts k=pa at *
          unfold okP at o0 o1
          have sa:q0l pa:=by unfold q0l q0u;omega
          have sb:q0l pb:=by unfold q0l q0u;omega
          have sn:q0l nv:=by unfold q0l q0u;omega
          have a1:=fun G=>q1k (G:=G) (p:=pa) (q:=nv) (k:=1) sa sn (by omega)
          have a2:=fun G=>q1k (G:=G) (p:=pb) (q:=nv) (k:=1) sb sn (by omega)
          have a3:=fun G=>q1k (G:=G) (p:=pb) (q:=nv) (k:=-1) sb sn (by omega)
          have a4:=fun G=>q1k (G:=G) (p:=pa) (q:=nv) (k:=-1) sa sn (by omega)
          generalize q1z s (nthP pts) pts.length k=sk at *
          (repeat ((try (conv=>whnf));(first |(refine c0 _ ?_) |(refine c1' _ ?_) |((with_reducible refine mustP.mk ?_ ?_);(· rw [hm];omega)) |(with_reducible refine q0o tab_ok (by kernel_rfl) [0,1,2,4,5,7,8,10,11] [3,6,9,12,13,14,15] [16,17] (by decide +kernel) ?_) |((refine q0n (by rfl) ?_ ?_);(· first |exact Mem.le_refl _ |assumption)) |(with_reducible refine q1l (t:=33) tab_ok 0 false ?_) |(refine s3Q ?_) |(with_reducible first |refine q0b (fun vs w=>by kernel_rfl) (by kernel_rfl) (hv) ?_ |refine q0a (fun vs w=>by kernel_rfl) (by kernel_rfl) (hv) ?_ |refine q0f tab_ok Tryz.func28 (fun vs w=>by kernel_rfl) (by rfl) ?_ |refine q0b (fun vs w=>by kernel_rfl) (by kernel_rfl) ((a1 M)) ?_ |refine q0a (fun vs w=>by kernel_rfl) (by kernel_rfl) ((a1 M)) ?_ |refine q0b (fun vs w=>by kernel_rfl) (by kernel_rfl) ((a2 M)) ?_ |refine q0a (fun vs w=>by kernel_rfl) (by kernel_rfl) ((a2 M)) ?_ |refine q0b (fun vs w=>by kernel_rfl) (by kernel_rfl) ((a3 M)) ?_ |refine q0a (fun vs w=>by kernel_rfl) (by kernel_rfl) ((a3 M)) ?_ |refine q0b (fun vs w=>by kernel_rfl) (by kernel_rfl) ((a4 M)) ?_ |refine q0a (fun vs w=>by kernel_rfl) (by kernel_rfl) ((a4 M)) ?_))))
          conv=>whnf
          intro b G2 hb hSb hG2
          have hle2:M.le G2:=by rw [hG2];exact q3n hb
          (repeat ((try (conv=>whnf));(first |((refine q0n (by rfl) ?_ ?_);(· first |exact Mem.le_refl _ |assumption)) |(refine stQ ?_) |(with_reducible refine q0f tab_ok Tryz.func28 (fun vs w=>by kernel_rfl) (by rfl) ?_))))
          conv=>whnf
          refine ⟨(k+1,G2,addA a sk.length (some ⟨b,0,none⟩)),⟨by dsimp only;omega,Mem.le_trans hM hle2,?_⟩,by dsimp only;omega,?_⟩
          · dsimp only
            rw [hstep];exact (hpa.mono hle2).add (by rw [hG2];exact q3x rfl)
          · dsimp only
            rw [hstep]
            refine q0k 10 3 rfl rfl rfl rfl ?_
            conv=>whnf
            ((refine q0g ?_);(conv=>whnf);(refine q0h (by rfl) (by rfl) flQ ?_))
            exact q0p (fun _ h=>h) (q0c (by exact flQ) (q0c (by exact flQ) (q0d (by simp) (q5o a sk (some ⟨b,0,none⟩) (q8r pa pb nv)).symm q0e)))
        · obtain rfl:k=(pts.length-1):=by omega
          clear hk h1 hskl
          have hskl:=q3g s (nthP pts) pts.length (pts.length-1)
          have hOP:q1u s (nthP pts) pts.length false=q1z s (nthP pts) pts.length (pts.length-1)++q0r s (nthP pts) pts.length (pts.length-2)++(if false=false∧s.cap=2 then [capA (nthP pts 0) (nrm s.w (nthP pts 0) (nthP pts 1)) (hln s.w (nthP pts 0) (nthP pts 1)) (-1),capA (nthP pts (pts.length-1)) (nrm s.w (nthP pts (pts.length-2)) (nthP pts (pts.length-1))) (hln s.w (nthP pts (pts.length-2)) (nthP pts (pts.length-1))) 1] else []):=by
            unfold q1u;rw [if_neg (by omega),if_neg (by omega)];rfl
          have hOD:q10 s (nthP pts) pts.length false=q1o s (nthP pts) pts.length (pts.length-2)++(if false=false∧s.cap=1 then [nthP pts 0,nthP pts (pts.length-1)] else []):=by
            unfold q10;rw [if_neg (by omega),if_neg (by omega)];rfl
          generalize q1z s (nthP pts) pts.length (pts.length-1)=sk at *
          (repeat ((try (conv=>whnf));(refine stQ ?_)))
          conv=>whnf
          refine q3h tab_ok (ι:=Nat × Mem × (Nat→Option Addr)) (fun t=>t.1≤(pts.length-2)∧G1.le t.2.1∧PartM t.2.1 t.2.2 (sk++q0r s (nthP pts) pts.length t.1)) (fun t=>[(19,.val (.int .i64 (t.1+1))),(8,.own 3),(9,.own 4)])
            (fun t=>[.muts fun _=>False,.cells 37 [.val (.slice A n q),.val (.bool false)],.cells 24 [.val (.int .i64 s.w),.val (.int .i64 s.cap),.val (.int .i64 s.join),.val (.int .i64 s.lim)],.own 37 2 (sk++q0r s (nthP pts) pts.length t.1).length (rowC t.2.2 (sk++q0r s (nthP pts) pts.length t.1)),.own 43 2 (q1o s (nthP pts) pts.length t.1).length (q0s (q1o s (nthP pts) pts.length t.1))]) (fun t=>t.2.1) (fun t=>(pts.length-2)-t.1) (0,M,a) ⟨Nat.zero_le _,hM,by dsimp only;rw [q0r,List.append_nil];exact hpa⟩ ?_ ?_
          · dsimp only
            rw [q0r,List.append_nil]
            refine q15 43 2 ?_
            conv=>whnf
            ((refine q0g ?_);(conv=>whnf);(refine q0h (by rfl) (by rfl) flQ ?_))
            exact q0p (fun _ h=>h) (q0c (by exact flQ) (q0c (by exact flQ) (q0d rfl rfl (q0d rfl rfl q0e))))
          · clear hM hpa
            rintro ⟨j,M,a⟩ ⟨hj,hM,hpa⟩
            dsimp only at hj hM hpa ⊢
            rcases Nat.lt_or_ge j (pts.length-2) with h2 |h2
            · have hpM:=hpt.mono hM
              have hjl:=q3s s (nthP pts) pts.length j
              have hdl:=q3t s (nthP pts) pts.length j
              have hm1:=modC (k:=j) (n:=pts.length) (by omega)
              have hm2:Int.tmod ((j:Int)+1+1) (pts.length:Int)=(((j+2)%pts.length:Nat):Int):=by rw [show ((j:Int)+1+1)=(((j+1:Nat):Int)+1) by omega];exact modC (by omega)
              have hn1:(j+1)%pts.length<pts.length:=Nat.mod_lt _ (by omega)
              have hn2:(j+2)%pts.length<pts.length:=Nat.mod_lt _ (by omega)
              have hx1:(j+1)%pts.length=nxP pts.length j:=by
                unfold nxP;split
                · rename_i e;rw [e,Nat.mod_self]
                · exact Nat.mod_eq_of_lt (by omega)
              have hx2:(j+2)%pts.length=nxP pts.length ((j+1)%pts.length):=by
                rcases Nat.lt_or_ge (j+1) pts.length with e |e
                · rw [Nat.mod_eq_of_lt e];unfold nxP;split
                  · rename_i e;rw [e,Nat.mod_self]
                  · exact Nat.mod_eq_of_lt (by omega)
                · have e3:j+1=pts.length:=by omega
                  have e4:(j+2)%pts.length=1%pts.length:=by rw [show j+2=1+pts.length by omega,Nat.add_mod_right]
                  rw [e4,e3,Nat.mod_self,Nat.mod_eq_of_lt hN];unfold nxP;rw [if_neg (by omega)]
              have hd1:=hne j hN (.inl (by omega))
              have hd2:=hne ((j+1)%pts.length) hN (.inl (by rw [Nat.mod_eq_of_lt (by omega)];omega))
              rw [← hx1] at hd1
              rw [← hx2] at hd2
              have o0:=hok j (by omega)
              have o1:=hok _ hn1
              have o2:=hok _ hn2
              have hr0:rnd (nthP pts) pts.length j=nthP pts j:=q75 (by omega)
              have hr1:rnd (nthP pts) pts.length (j+1)=nthP pts ((j+1)%pts.length):=rfl
              have hr2:rnd (nthP pts) pts.length (j+2)=nthP pts ((j+2)%pts.length):=rfl
              have hsP:q0r s (nthP pts) pts.length (j+1)=q0r s (nthP pts) pts.length j++(if s.join=1 then [] else (q4a s (rnd (nthP pts) pts.length j) (rnd (nthP pts) pts.length (j+1)) (rnd (nthP pts) pts.length (j+2))).toList):=rfl
              have hsD:q1o s (nthP pts) pts.length (j+1)=q1o s (nthP pts) pts.length j++(if s.join=1 then [rnd (nthP pts) pts.length (j+1)] else []):=rfl
              rw [hr0,hr1,hr2] at hsP
              rw [hr1] at hsD
              have hbg:=z53 (G:=M) hs o0 o1 o2 hd1 hd2
              have c0:=fun K (k':K [Value.int .i64 (nthP pts j).1,.int .i64 (nthP pts j).2])=>hpM.at_ (z:=((j:Int)+1-1)) (i:=j) (by omega) (by omega) (K:=K) k'
              have cu:=fun K (k':K [Value.int .i64 (nthP pts ((j+1)%pts.length)).1,.int .i64 (nthP pts ((j+1)%pts.length)).2])=>hpM.at_ (z:=(Int.tmod ((j:Int)+1) (pts.length:Int))) (i:=((j+1)%pts.length)) (by rw [hm1];omega) (by omega) (K:=K) k'
              have cv:=fun K (k':K [Value.int .i64 (nthP pts ((j+2)%pts.length)).1,.int .i64 (nthP pts ((j+2)%pts.length)).2])=>hpM.at_ (z:=(Int.tmod ((j:Int)+1+1) (pts.length:Int))) (i:=((j+2)%pts.length)) (by rw [hm2];omega) (by omega) (K:=K) k'
              generalize nthP pts ((j+1)%pts.length)=pb at *
              generalize nthP pts ((j+2)%pts.length)=pc at *
              generalize nthP pts j=pa at *
              generalize q0r s (nthP pts) pts.length j=jp at *
              generalize q1o s (nthP pts) pts.length j=jd at *
              have hll:(sk++jp).length=sk.length+jp.length:=List.length_append
              generalize hspj:sk++jp=sj at *
              by_cases hj1:s.join=1
              · rw [if_pos hj1] at hsP hsD
                have hsk:sk++q0r s (nthP pts) pts.length (j+1)=sj:=by rw [hsP,List.append_nil,hspj]
                (repeat ((try (conv=>whnf));(first |(refine c0 _ ?_) |(refine cu _ ?_) |(refine cv _ ?_) |((with_reducible refine mustP.mk ?_ ?_);(· first |(rw [hm1];omega) |(rw [hm2];omega))) |(refine s3Q ?_))))
                conv=>whnf
                refine ⟨(j+1,M,a),⟨by dsimp only;omega,hM,by dsimp only;rw [hsk];exact hpa⟩,by dsimp only;omega,?_⟩
                dsimp only
                rw [hsk,hsD]
                refine q0k 9 4 rfl rfl rfl rfl ?_
                conv=>whnf
                ((refine q0g ?_);(conv=>whnf);(refine q0h (by rfl) (by rfl) flQ ?_))
                exact q0p (fun _ h=>h) (q0c (by exact flQ) (q0c (by exact flQ) (q0d rfl rfl (q0d (by simp) (q03 jd [pb]).symm q0e))))
              · rw [if_neg hj1] at hsP hsD
                rw [List.append_nil] at hsD
                (repeat ((try (conv=>whnf));(first |(refine c0 _ ?_) |(refine cu _ ?_) |(refine cv _ ?_) |((with_reducible refine mustP.mk ?_ ?_);(· first |(rw [hm1];omega) |(rw [hm2];omega))) |(refine s3Q ?_))))
                conv=>whnf
                refine q2d (fun vs w=>by kernel_rfl) (by rfl) hbg fun v G2 hG2 hu2 hR=>?_
                cases hjv:q4a s pa pb pc with
                | none =>
                  rw [hjv] at hR hsP
                  have hsk:sk++q0r s (nthP pts) pts.length (j+1)=sj:=by rw [hsP];simp only [Option.toList,List.append_nil];exact hspj
                  subst hR
                  (repeat ((try (conv=>whnf));(refine stQ ?_)))
                  conv=>whnf
                  refine ⟨(j+1,G2,a),⟨by dsimp only;omega,Mem.le_trans hM hG2,by dsimp only;rw [hsk];exact hpa.mono hG2⟩,by dsimp only;omega,?_⟩
                  dsimp only
                  rw [hsk,hsD]
                  ((refine q0g ?_);(conv=>whnf);(refine q0h (by rfl) (by rfl) flQ ?_))
                  exact q0p (fun _ h=>h) (q0c (by exact flQ) (q0c (by exact flQ) (q0d rfl rfl (q0d rfl rfl q0e))))
                | some l =>
                  rw [hjv] at hR hsP
                  have hsk:sk++q0r s (nthP pts) pts.length (j+1)=sj++[l]:=by rw [hsP,← List.append_assoc,hspj];rfl
                  obtain ⟨A',rfl,hpl⟩:=hR
                  (repeat ((try (conv=>whnf));(refine stQ ?_)))
                  conv=>whnf
                  refine ⟨(j+1,G2,addA a sj.length A'),⟨by dsimp only;omega,Mem.le_trans hM hG2,by dsimp only;rw [hsk];exact (hpa.mono hG2).add hpl⟩,by dsimp only;omega,?_⟩
                  dsimp only
                  rw [hsk,hsD]
                  refine q0k 10 3 rfl rfl rfl rfl ?_
                  conv=>whnf
                  ((refine q0g ?_);(conv=>whnf);(refine q0h (by rfl) (by rfl) flQ ?_))
                  exact q0p (fun _ h=>h) (q0c (by exact flQ) (q0c (by exact flQ) (q0d (by simp) (q5o a sj A' l).symm (q0d rfl rfl q0e))))
            · obtain rfl:j=(pts.length-2):=by omega
              have hjl:=q3s s (nthP pts) pts.length (pts.length-2)
              have hdl:=q3t s (nthP pts) pts.length (pts.length-2)
              generalize q0r s (nthP pts) pts.length (pts.length-2)=jp at *
              generalize q1o s (nthP pts) pts.length (pts.length-2)=jd at *
              have hll:(sk++jp).length=sk.length+jp.length:=List.length_append
              generalize hspj:sk++jp=sj at *
              rw [hOP,hOD]
              rcases (show s.cap=0∨s.cap=1∨s.cap=2 by omega) with hc |hc |hc
              · (repeat ((try (conv=>whnf));(refine stQ ?_)))
                conv=>whnf
                rw [if_neg (by omega),if_neg (by omega),List.append_nil,List.append_nil]
                exact .inr ⟨_,rfl,.frz 3 rfl rfl fun A' c' G' hle hn' hm' hF=>.frz 4 rfl rfl fun B' d' G'' hle2 hn2 hm2 hF2=>.done rfl ⟨A',c',B',d',a,rfl,(by first |exact hn' |(simp at hn' ⊢;omega)),hF.mono hle2,(hpa.mono hle).mono hle2,q5p hF2⟩⟩
              · rw [if_neg (by omega),if_pos ⟨rfl,hc⟩,List.append_nil]
                have f0:=fun (G':Mem) (h':M.le G') K (k':K [Value.int .i64 (nthP pts 0).1,.int .i64 (nthP pts 0).2])=>((hpt.mono hM).mono h').at_ (z:=(0:Int)) (i:=0) rfl (by omega) (K:=K) k'
                have fz:=fun (G':Mem) (h':M.le G') K (k':K [Value.int .i64 (nthP pts (pts.length-1)).1,.int .i64 (nthP pts (pts.length-1)).2])=>((hpt.mono hM).mono h').at_ (z:=((pts.length:Int)-1)) (i:=(pts.length-1)) (by omega) (by omega) (K:=K) k'
                (repeat ((try (conv=>whnf));(first |(refine f0 _ (Mem.le_refl _) _ ?_) |(refine fz _ (Mem.le_refl _) _ ?_) |(refine s3Q ?_))))
                conv=>whnf
                refine .inr ⟨_,rfl,.frz 3 rfl rfl fun A' c' G' hle hn' hm' hF=>.frz 8 rfl rfl fun B' d' G'' hle2 hn2 hm2 hF2=>.done rfl ⟨A',c',B',d',a,?_,(by first |exact hn' |(simp at hn' ⊢;omega)),hF.mono hle2,(hpa.mono hle).mono hle2,q5p ?_⟩⟩
                · simp only [List.length_append,List.length_cons,List.length_nil];rfl
                · rw [q03];exact hF2
              · rw [if_pos ⟨rfl,hc⟩,if_neg (by omega),List.append_nil]
                have f0:=fun (G':Mem) (h':M.le G') K (k':K [Value.int .i64 (nthP pts 0).1,.int .i64 (nthP pts 0).2])=>((hpt.mono hM).mono h').at_ (z:=(0:Int)) (i:=0) rfl (by omega) (K:=K) k'
                have f1:=fun (G':Mem) (h':M.le G') K (k':K [Value.int .i64 (nthP pts 1).1,.int .i64 (nthP pts 1).2])=>((hpt.mono hM).mono h').at_ (z:=(1:Int)) (i:=1) rfl (by omega) (K:=K) k'
                have fz:=fun (G':Mem) (h':M.le G') K (k':K [Value.int .i64 (nthP pts (pts.length-1)).1,.int .i64 (nthP pts (pts.length-1)).2])=>((hpt.mono hM).mono h').at_ (z:=((pts.length:Int)-1)) (i:=(pts.length-1)) (by omega) (by omega) (K:=K) k'
                have fy:=fun (G':Mem) (h':M.le G') K (k':K [Value.int .i64 (nthP pts (pts.length-2)).1,.int .i64 (nthP pts (pts.length-2)).2])=>((hpt.mono hM).mono h').at_ (z:=((pts.length:Int)-2)) (i:=(pts.length-2)) (by omega) (by omega) (K:=K) k'
                have o0:=hok 0 (by omega)
                have o1:=hok 1 (by omega)
                have oz:=hok (pts.length-1) (by omega)
                have oy:=hok (pts.length-2) (by omega)
                have d0:¬ nthP pts 0=nthP pts 1:=by have h:=hne 0 hN (.inl (by omega));unfold nxP at h;rwa [if_neg (by omega)] at h
                have dz:¬ nthP pts (pts.length-2)=nthP pts (pts.length-1):=by have h:=hne (pts.length-2) hN (.inl (by omega));unfold nxP at h;rwa [if_neg (by omega),show pts.length-2+1=pts.length-1 by omega] at h
                have v0:=q34 (G:=M) hw d0 o0 o1
                have vz:=fun G=>q34 (G:=G) hw dz oy oz
                obtain ⟨_,⟨b1,b2⟩,b3,b4⟩:=q3b hw d0
                obtain ⟨_,⟨b5,b6⟩,b7,b8⟩:=q3b hw dz
                generalize nrm s.w (nthP pts 0) (nthP pts 1)=n0 at *
                generalize hln s.w (nthP pts 0) (nthP pts 1)=e0 at *
                generalize nrm s.w (nthP pts (pts.length-2)) (nthP pts (pts.length-1))=nz at *
                generalize hln s.w (nthP pts (pts.length-2)) (nthP pts (pts.length-1))=ez at *
                generalize nthP pts (pts.length-1)=pz at *
                generalize nthP pts (pts.length-2)=py at *
                generalize nthP pts 0=p0 at *
                generalize nthP pts 1=pb at *
                unfold okP at o0 o1 oz oy
                have s_p0:q0l p0:=by unfold q0l q0u;omega
                have s_pz:q0l pz:=by unfold q0l q0u;omega
                have s_n0:q0l n0:=by unfold q0l q0u;omega
                have s_e0:q0l e0:=by unfold q0l q0u;omega
                have s_nz:q0l nz:=by unfold q0l q0u;omega
                have s_ez:q0l ez:=by unfold q0l q0u;omega
                have s_p0p:q0l (mvP p0 n0 (1)):=by unfold q0l q0u mvP;dsimp only;omega
                have a_p0p:=fun G=>q1k (G:=G) (p:=p0) (q:=n0) (k:=1) s_p0 s_n0 (by omega)
                have c_p0p:=fun G=>q1k (G:=G) (p:=mvP p0 n0 (1)) (q:=e0) (k:=-1) s_p0p s_e0 (by omega)
                have s_p0m:q0l (mvP p0 n0 (-1)):=by unfold q0l q0u mvP;dsimp only;omega
                have a_p0m:=fun G=>q1k (G:=G) (p:=p0) (q:=n0) (k:=-1) s_p0 s_n0 (by omega)
                have c_p0m:=fun G=>q1k (G:=G) (p:=mvP p0 n0 (-1)) (q:=e0) (k:=-1) s_p0m s_e0 (by omega)
                have s_pzp:q0l (mvP pz nz (1)):=by unfold q0l q0u mvP;dsimp only;omega
                have a_pzp:=fun G=>q1k (G:=G) (p:=pz) (q:=nz) (k:=1) s_pz s_nz (by omega)
                have c_pzp:=fun G=>q1k (G:=G) (p:=mvP pz nz (1)) (q:=ez) (k:=1) s_pzp s_ez (by omega)
                have s_pzm:q0l (mvP pz nz (-1)):=by unfold q0l q0u mvP;dsimp only;omega
                have a_pzm:=fun G=>q1k (G:=G) (p:=pz) (q:=nz) (k:=-1) s_pz s_nz (by omega)
                have c_pzm:=fun G=>q1k (G:=G) (p:=mvP pz nz (-1)) (q:=ez) (k:=1) s_pzm s_ez (by omega)
                (repeat ((try (conv=>whnf));(first |(refine f0 _ (Mem.le_refl _) _ ?_) |(refine f1 _ (Mem.le_refl _) _ ?_) |(refine fz _ (Mem.le_refl _) _ ?_) |(with_reducible refine q0o tab_ok (by kernel_rfl) [0,1,2,4,5,7,8,10,12,13,15] [3,6,9,11,14,16,17,18,19] [20,21] (by decide +kernel) ?_) |((refine q0n (by rfl) ?_ ?_);(· first |exact Mem.le_refl _ |assumption)) |(with_reducible refine q1l (t:=33) tab_ok 0 false ?_) |(refine s3Q ?_) |(with_reducible first |refine q0b (fun vs w=>by kernel_rfl) (by kernel_rfl) (v0) ?_ |refine q0a (fun vs w=>by kernel_rfl) (by kernel_rfl) (v0) ?_ |refine q0b (fun vs w=>by kernel_rfl) (by kernel_rfl) ((vz M)) ?_ |refine q0a (fun vs w=>by kernel_rfl) (by kernel_rfl) ((vz M)) ?_ |refine q0f tab_ok Tryz.func28 (fun vs w=>by kernel_rfl) (by rfl) ?_ |refine q0b (fun vs w=>by kernel_rfl) (by kernel_rfl) ((a_p0p M)) ?_ |refine q0a (fun vs w=>by kernel_rfl) (by kernel_rfl) ((a_p0p M)) ?_ |refine q0b (fun vs w=>by kernel_rfl) (by kernel_rfl) ((a_p0m M)) ?_ |refine q0a (fun vs w=>by kernel_rfl) (by kernel_rfl) ((a_p0m M)) ?_ |refine q0b (fun vs w=>by kernel_rfl) (by kernel_rfl) ((c_p0p M)) ?_ |refine q0a (fun vs w=>by kernel_rfl) (by kernel_rfl) ((c_p0p M)) ?_ |refine q0b (fun vs w=>by kernel_rfl) (by kernel_rfl) ((c_p0m M)) ?_ |refine q0a (fun vs w=>by kernel_rfl) (by kernel_rfl) ((c_p0m M)) ?_))))
                conv=>whnf
                intro b G2 hb hSb hG2
                have hle2:M.le G2:=by rw [hG2];exact q3n hb
                (repeat ((try (conv=>whnf));(first |(refine f0 _ hle2 _ ?_) |(refine f1 _ hle2 _ ?_) |(refine fz _ hle2 _ ?_) |(refine fy _ hle2 _ ?_) |(with_reducible refine q0o tab_ok (by kernel_rfl) [0,1,2,4,5,7,8,10,12,13,15,21] [3,6,9,11,14,16,17,18,19] [20,22,23] (by decide +kernel) ?_) |((refine q0n (by rfl) ?_ ?_);(· first |exact Mem.le_refl _ |assumption)) |(with_reducible refine q1l (t:=33) tab_ok 0 false ?_) |(refine s3Q ?_) |(with_reducible first |refine q0b (fun vs w=>by kernel_rfl) (by kernel_rfl) ((vz G2)) ?_ |refine q0a (fun vs w=>by kernel_rfl) (by kernel_rfl) ((vz G2)) ?_ |refine q0f tab_ok Tryz.func28 (fun vs w=>by kernel_rfl) (by rfl) ?_ |refine q0b (fun vs w=>by kernel_rfl) (by kernel_rfl) ((a_pzp G2)) ?_ |refine q0a (fun vs w=>by kernel_rfl) (by kernel_rfl) ((a_pzp G2)) ?_ |refine q0b (fun vs w=>by kernel_rfl) (by kernel_rfl) ((a_pzm G2)) ?_ |refine q0a (fun vs w=>by kernel_rfl) (by kernel_rfl) ((a_pzm G2)) ?_ |refine q0b (fun vs w=>by kernel_rfl) (by kernel_rfl) ((c_pzp G2)) ?_ |refine q0a (fun vs w=>by kernel_rfl) (by kernel_rfl) ((c_pzp G2)) ?_ |refine q0b (fun vs w=>by kernel_rfl) (by kernel_rfl) ((c_pzm G2)) ?_ |refine q0a (fun vs w=>by kernel_rfl) (by kernel_rfl) ((c_pzm G2)) ?_))))
                conv=>whnf
                intro b3 G3 hb3 hSb3 hG3
                have hle3:G2.le G3:=by rw [hG3];exact q3n hb3
                (repeat ((try (conv=>whnf));(first |((refine q0n (by rfl) ?_ ?_);(· first |exact Mem.le_refl _ |assumption)) |(refine stQ ?_) |(with_reducible refine q0f tab_ok Tryz.func28 (fun vs w=>by kernel_rfl) (by rfl) ?_))))
                conv=>whnf
                have hrow:rowC (addA (addA a sj.length (some ⟨b,0,none⟩)) (sj++[capA p0 n0 e0 (-1)]).length (some ⟨b3,0,none⟩)) (sj++[capA p0 n0 e0 (-1),capA pz nz ez 1])=rowC a sj++[Value.slice (some ⟨b,0,none⟩) 4 4,.bool true]++[Value.slice (some ⟨b3,0,none⟩) 4 4,.bool true]:=by
                  rw [show sj++[capA p0 n0 e0 (-1),capA pz nz ez 1]=(sj++[capA p0 n0 e0 (-1)])++[capA pz nz ez 1] by simp,q5o,q5o];rfl
                have hpz:PartM G3 (addA (addA a sj.length (some ⟨b,0,none⟩)) (sj++[capA p0 n0 e0 (-1)]).length (some ⟨b3,0,none⟩)) (sj++[capA p0 n0 e0 (-1),capA pz nz ez 1]):=by
                  rw [show sj++[capA p0 n0 e0 (-1),capA pz nz ez 1]=(sj++[capA p0 n0 e0 (-1)])++[capA pz nz ez 1] by simp]
                  exact (((hpa.mono hle2).add (by rw [hG2];exact q3x rfl)).mono hle3).add (by rw [hG3];exact q3x rfl)
                refine .inr ⟨_,rfl,.frz 14 rfl rfl fun A' c' G' hle hn' hm' hF=>.frz 4 rfl rfl fun B' d' G'' hle4 hn2 hm2 hF2=>.done rfl ⟨A',c',B',d',_,?_,(by first |exact hn' |(simp at hn' ⊢;omega)),hrow ▸ hF.mono hle4,(hpz.mono hle).mono hle4,q5p hF2⟩⟩
                simp only [List.length_append,List.length_cons,List.length_nil];rfl
    · (repeat ((try (conv=>whnf));(refine stQ ?_)))
      conv=>whnf
      refine q3h tab_ok (ι:=Nat × Mem × (Nat→Option Addr)) (fun t=>t.1≤pts.length∧G1.le t.2.1∧PartM t.2.1 t.2.2 (q1z s (nthP pts) pts.length t.1)) (fun t=>[(14,.val (.int .i64 t.1)),(8,.own 3)])
        (fun t=>[.muts fun _=>False,.cells 37 [.val (.slice A n q),.val (.bool true)],.cells 24 [.val (.int .i64 s.w),.val (.int .i64 s.cap),.val (.int .i64 s.join),.val (.int .i64 s.lim)],.own 37 2 (q1z s (nthP pts) pts.length t.1).length (rowC t.2.2 (q1z s (nthP pts) pts.length t.1))]) (fun t=>t.2.1) (fun t=>pts.length-t.1) (0,G1,fun _=>none) ⟨Nat.zero_le _,Mem.le_refl _,fun i hi=>by cases hi⟩ ?_ ?_
      · refine q15 37 2 ?_
        conv=>whnf
        ((refine q0g ?_);(conv=>whnf);(refine q0h (by rfl) (by rfl) flQ ?_))
        exact q0p (fun _ h=>h) (q0c (by exact flQ) (q0c (by exact flQ) (q0d rfl rfl q0e)))
      · rintro ⟨k,M,a⟩ ⟨hk,hM,hpa⟩
        dsimp only at hk hM hpa ⊢
        have hskl:=q3g s (nthP pts) pts.length k
        rcases Nat.lt_or_ge k pts.length with h1 |h1
        · have hpM:=hpt.mono hM
          have hm:=modC (k:=k) (n:=pts.length) (by omega)
          have hkn:(k+1)%pts.length<pts.length:=Nat.mod_lt _ (by omega)
          have hr0:rnd (nthP pts) pts.length k=nthP pts k:=q75 (by omega)
          have hr1:rnd (nthP pts) pts.length (k+1)=nthP pts ((k+1)%pts.length):=rfl
          have hnx:(k+1)%pts.length=nxP pts.length k:=by
            unfold nxP;split
            · rename_i e;rw [e,Nat.mod_self]
            · exact Nat.mod_eq_of_lt (by omega)
          have hdiff:=hne k hN (.inr ⟨rfl,by omega⟩)
          rw [← hnx] at hdiff
          have o0:=hok k (by omega)
          have o1:=hok _ hkn
          have hstep:q1z s (nthP pts) pts.length (k+1)=q1z s (nthP pts) pts.length k++[q8r (rnd (nthP pts) pts.length k) (rnd (nthP pts) pts.length (k+1)) (nrm s.w (rnd (nthP pts) pts.length k) (rnd (nthP pts) pts.length (k+1)))]:=rfl
          rw [hr0,hr1] at hstep
          have hv:=q34 (G:=M) hw hdiff o0 o1
          obtain ⟨_,⟨b1,b2⟩,_⟩:=q3b hw hdiff
          have c0:=fun K (k':K [Value.int .i64 (nthP pts k).1,.int .i64 (nthP pts k).2])=>hpM.at_ (z:=(k:Int)) (i:=k) (by omega) (by omega) (K:=K) k'
          have c1':=fun K (k':K [Value.int .i64 (nthP pts ((k+1)%pts.length)).1,.int .i64 (nthP pts ((k+1)%pts.length)).2])=>hpM.at_ (z:=Int.tmod ((k:Int)+1) (pts.length:Int)) (i:=(k+1)%pts.length) (by rw [hm];omega) hkn (K:=K) k'
          generalize nrm s.w (nthP pts k) (nthP pts ((k+1)%pts.length))=nv at *
          generalize hln s.w (nthP pts k) (nthP pts ((k+1)%pts.length))=ev at *
          generalize nthP pts ((k+1)%pts.length)=pb at *
          generalize nthP pts k=pa at *
          unfold okP at o0 o1
          have sa:q0l pa:=by unfold q0l q0u;omega
          have sb:q0l pb:=by unfold q0l q0u;omega
          have sn:q0l nv:=by unfold q0l q0u;omega
          have a1:=fun G=>q1k (G:=G) (p:=pa) (q:=nv) (k:=1) sa sn (by omega)
          have a2:=fun G=>q1k (G:=G) (p:=pb) (q:=nv) (k:=1) sb sn (by omega)
          have a3:=fun G=>q1k (G:=G) (p:=pb) (q:=nv) (k:=-1) sb sn (by omega)
          have a4:=fun G=>q1k (G:=G) (p:=pa) (q:=nv) (k:=-1) sa sn (by omega)
          generalize q1z s (nthP pts) pts.length k=sk at *
          (repeat ((try (conv=>whnf));(first |(refine c0 _ ?_) |(refine c1' _ ?_) |((with_reducible refine mustP.mk ?_ ?_);(· rw [hm];omega)) |(with_reducible refine q0o tab_ok (by kernel_rfl) [0,1,2,4,5,7,8,10,11] [3,6,9,12,13,14,15] [16,17] (by decide +kernel) ?_) |((refine q0n (by rfl) ?_ ?_);(· first |exact Mem.le_refl _ |assumption)) |(with_reducible refine q1l (t:=33) tab_ok 0 false ?_) |(refine s3Q ?_) |(with_reducible first |refine q0b (fun vs w=>by kernel_rfl) (by kernel_rfl) (hv) ?_ |refine q0a (fun vs w=>by kernel_rfl) (by kernel_rfl) (hv) ?_ |refine q0f tab_ok Tryz.func28 (fun vs w=>by kernel_rfl) (by rfl) ?_ |refine q0b (fun vs w=>by kernel_rfl) (by kernel_rfl) ((a1 M)) ?_ |refine q0a (fun vs w=>by kernel_rfl) (by kernel_rfl) ((a1 M)) ?_ |refine q0b (fun vs w=>by kernel_rfl) (by kernel_rfl) ((a2 M)) ?_ |refine q0a (fun vs w=>by kernel_rfl) (by kernel_rfl) ((a2 M)) ?_ |refine q0b (fun vs w=>by kernel_rfl) (by kernel_rfl) ((a3 M)) ?_ |refine q0a (fun vs w=>by kernel_rfl) (by kernel_rfl) ((a3 M)) ?_ |refine q0b (fun vs w=>by kernel_rfl) (by kernel_rfl) ((a4 M)) ?_ |refine q0a (fun vs w=>by kernel_rfl) (by kernel_rfl) ((a4 M)) ?_))))
          conv=>whnf
          intro b G2 hb hSb hG2
          have hle2:M.le G2:=by rw [hG2];exact q3n hb
          (repeat ((try (conv=>whnf));(first |((refine q0n (by rfl) ?_ ?_);(· first |exact Mem.le_refl _ |assumption)) |(refine stQ ?_) |(with_reducible refine q0f tab_ok Tryz.func28 (fun vs w=>by kernel_rfl) (by rfl) ?_))))
          conv=>whnf
          refine ⟨(k+1,G2,addA a sk.length (some ⟨b,0,none⟩)),⟨by dsimp only;omega,Mem.le_trans hM hle2,?_⟩,by dsimp only;omega,?_⟩
          · dsimp only
            rw [hstep];exact (hpa.mono hle2).add (by rw [hG2];exact q3x rfl)
          · dsimp only
            rw [hstep]
            refine q0k 10 3 rfl rfl rfl rfl ?_
            conv=>whnf
            ((refine q0g ?_);(conv=>whnf);(refine q0h (by rfl) (by rfl) flQ ?_))
            exact q0p (fun _ h=>h) (q0c (by exact flQ) (q0c (by exact flQ) (q0d (by simp) (q5o a sk (some ⟨b,0,none⟩) (q8r pa pb nv)).symm q0e)))
        · obtain rfl:k=pts.length:=by omega
          clear hk h1 hskl
          have hskl:=q3g s (nthP pts) pts.length pts.length
          have hOP:q1u s (nthP pts) pts.length true=q1z s (nthP pts) pts.length pts.length++q0r s (nthP pts) pts.length pts.length++(if true=false∧s.cap=2 then [capA (nthP pts 0) (nrm s.w (nthP pts 0) (nthP pts 1)) (hln s.w (nthP pts 0) (nthP pts 1)) (-1),capA (nthP pts (pts.length-1)) (nrm s.w (nthP pts (pts.length-2)) (nthP pts (pts.length-1))) (hln s.w (nthP pts (pts.length-2)) (nthP pts (pts.length-1))) 1] else []):=by
            unfold q1u;rw [if_neg (by omega),if_neg (by omega)];rfl
          have hOD:q10 s (nthP pts) pts.length true=q1o s (nthP pts) pts.length pts.length++(if true=false∧s.cap=1 then [nthP pts 0,nthP pts (pts.length-1)] else []):=by
            unfold q10;rw [if_neg (by omega),if_neg (by omega)];rfl
          generalize q1z s (nthP pts) pts.length pts.length=sk at *
          (repeat ((try (conv=>whnf));(refine stQ ?_)))
          conv=>whnf
          refine q3h tab_ok (ι:=Nat × Mem × (Nat→Option Addr)) (fun t=>t.1≤pts.length∧G1.le t.2.1∧PartM t.2.1 t.2.2 (sk++q0r s (nthP pts) pts.length t.1)) (fun t=>[(19,.val (.int .i64 (t.1+1))),(8,.own 3),(9,.own 4)])
            (fun t=>[.muts fun _=>False,.cells 37 [.val (.slice A n q),.val (.bool true)],.cells 24 [.val (.int .i64 s.w),.val (.int .i64 s.cap),.val (.int .i64 s.join),.val (.int .i64 s.lim)],.own 37 2 (sk++q0r s (nthP pts) pts.length t.1).length (rowC t.2.2 (sk++q0r s (nthP pts) pts.length t.1)),.own 43 2 (q1o s (nthP pts) pts.length t.1).length (q0s (q1o s (nthP pts) pts.length t.1))]) (fun t=>t.2.1) (fun t=>pts.length-t.1) (0,M,a) ⟨Nat.zero_le _,hM,by dsimp only;rw [q0r,List.append_nil];exact hpa⟩ ?_ ?_
          · dsimp only
            rw [q0r,List.append_nil]
            refine q15 43 2 ?_
            conv=>whnf
            ((refine q0g ?_);(conv=>whnf);(refine q0h (by rfl) (by rfl) flQ ?_))
            exact q0p (fun _ h=>h) (q0c (by exact flQ) (q0c (by exact flQ) (q0d rfl rfl (q0d rfl rfl q0e))))
          · clear hM hpa
            rintro ⟨j,M,a⟩ ⟨hj,hM,hpa⟩
            dsimp only at hj hM hpa ⊢
            rcases Nat.lt_or_ge j pts.length with h2 |h2
            · have hpM:=hpt.mono hM
              have hjl:=q3s s (nthP pts) pts.length j
              have hdl:=q3t s (nthP pts) pts.length j
              have hm1:=modC (k:=j) (n:=pts.length) (by omega)
              have hm2:Int.tmod ((j:Int)+1+1) (pts.length:Int)=(((j+2)%pts.length:Nat):Int):=by rw [show ((j:Int)+1+1)=(((j+1:Nat):Int)+1) by omega];exact modC (by omega)
              have hn1:(j+1)%pts.length<pts.length:=Nat.mod_lt _ (by omega)
              have hn2:(j+2)%pts.length<pts.length:=Nat.mod_lt _ (by omega)
              have hx1:(j+1)%pts.length=nxP pts.length j:=by
                unfold nxP;split
                · rename_i e;rw [e,Nat.mod_self]
                · exact Nat.mod_eq_of_lt (by omega)
              have hx2:(j+2)%pts.length=nxP pts.length ((j+1)%pts.length):=by
                rcases Nat.lt_or_ge (j+1) pts.length with e |e
                · rw [Nat.mod_eq_of_lt e];unfold nxP;split
                  · rename_i e;rw [e,Nat.mod_self]
                  · exact Nat.mod_eq_of_lt (by omega)
                · have e3:j+1=pts.length:=by omega
                  have e4:(j+2)%pts.length=1%pts.length:=by rw [show j+2=1+pts.length by omega,Nat.add_mod_right]
                  rw [e4,e3,Nat.mod_self,Nat.mod_eq_of_lt hN];unfold nxP;rw [if_neg (by omega)]
              have hd1:=hne j hN (.inr ⟨rfl,by omega⟩)
              have hd2:=hne ((j+1)%pts.length) hN (.inr ⟨rfl,hn1⟩)
              rw [← hx1] at hd1
              rw [← hx2] at hd2
              have o0:=hok j (by omega)
              have o1:=hok _ hn1
              have o2:=hok _ hn2
              have hr0:rnd (nthP pts) pts.length j=nthP pts j:=q75 (by omega)
              have hr1:rnd (nthP pts) pts.length (j+1)=nthP pts ((j+1)%pts.length):=rfl
              have hr2:rnd (nthP pts) pts.length (j+2)=nthP pts ((j+2)%pts.length):=rfl
              have hsP:q0r s (nthP pts) pts.length (j+1)=q0r s (nthP pts) pts.length j++(if s.join=1 then [] else (q4a s (rnd (nthP pts) pts.length j) (rnd (nthP pts) pts.length (j+1)) (rnd (nthP pts) pts.length (j+2))).toList):=rfl
              have hsD:q1o s (nthP pts) pts.length (j+1)=q1o s (nthP pts) pts.length j++(if s.join=1 then [rnd (nthP pts) pts.length (j+1)] else []):=rfl
              rw [hr0,hr1,hr2] at hsP
              rw [hr1] at hsD
              have hbg:=z53 (G:=M) hs o0 o1 o2 hd1 hd2
              have c0:=fun K (k':K [Value.int .i64 (nthP pts j).1,.int .i64 (nthP pts j).2])=>hpM.at_ (z:=((j:Int)+1-1)) (i:=j) (by omega) (by omega) (K:=K) k'
              have cu:=fun K (k':K [Value.int .i64 (nthP pts ((j+1)%pts.length)).1,.int .i64 (nthP pts ((j+1)%pts.length)).2])=>hpM.at_ (z:=(Int.tmod ((j:Int)+1) (pts.length:Int))) (i:=((j+1)%pts.length)) (by rw [hm1];omega) (by omega) (K:=K) k'
              have cv:=fun K (k':K [Value.int .i64 (nthP pts ((j+2)%pts.length)).1,.int .i64 (nthP pts ((j+2)%pts.length)).2])=>hpM.at_ (z:=(Int.tmod ((j:Int)+1+1) (pts.length:Int))) (i:=((j+2)%pts.length)) (by rw [hm2];omega) (by omega) (K:=K) k'
              generalize nthP pts ((j+1)%pts.length)=pb at *
              generalize nthP pts ((j+2)%pts.length)=pc at *
              generalize nthP pts j=pa at *
              generalize q0r s (nthP pts) pts.length j=jp at *
              generalize q1o s (nthP pts) pts.length j=jd at *
              have hll:(sk++jp).length=sk.length+jp.length:=List.length_append
              generalize hspj:sk++jp=sj at *
              rcases (show j+1=pts.length∨j+1=pts.length-1∨j+1<pts.length-1 by omega) with hje |hje |hje
              · skip
                by_cases hj1:s.join=1
                · rw [if_pos hj1] at hsP hsD
                  have hsk:sk++q0r s (nthP pts) pts.length (j+1)=sj:=by rw [hsP,List.append_nil,hspj]
                  (repeat ((try (conv=>whnf));(first |(refine c0 _ ?_) |(refine cu _ ?_) |(refine cv _ ?_) |((with_reducible refine mustP.mk ?_ ?_);(· first |(rw [hm1];omega) |(rw [hm2];omega))) |(refine s3Q ?_))))
                  conv=>whnf
                  refine ⟨(j+1,M,a),⟨by dsimp only;omega,hM,by dsimp only;rw [hsk];exact hpa⟩,by dsimp only;omega,?_⟩
                  dsimp only
                  rw [hsk,hsD]
                  refine q0k 9 4 rfl rfl rfl rfl ?_
                  conv=>whnf
                  ((refine q0g ?_);(conv=>whnf);(refine q0h (by rfl) (by rfl) flQ ?_))
                  exact q0p (fun _ h=>h) (q0c (by exact flQ) (q0c (by exact flQ) (q0d rfl rfl (q0d (by simp) (q03 jd [pb]).symm q0e))))
                · rw [if_neg hj1] at hsP hsD
                  rw [List.append_nil] at hsD
                  (repeat ((try (conv=>whnf));(first |(refine c0 _ ?_) |(refine cu _ ?_) |(refine cv _ ?_) |((with_reducible refine mustP.mk ?_ ?_);(· first |(rw [hm1];omega) |(rw [hm2];omega))) |(refine s3Q ?_))))
                  conv=>whnf
                  refine q2d (fun vs w=>by kernel_rfl) (by rfl) hbg fun v G2 hG2 hu2 hR=>?_
                  cases hjv:q4a s pa pb pc with
                  | none =>
                    rw [hjv] at hR hsP
                    have hsk:sk++q0r s (nthP pts) pts.length (j+1)=sj:=by rw [hsP];simp only [Option.toList,List.append_nil];exact hspj
                    subst hR
                    (repeat ((try (conv=>whnf));(refine stQ ?_)))
                    conv=>whnf
                    refine ⟨(j+1,G2,a),⟨by dsimp only;omega,Mem.le_trans hM hG2,by dsimp only;rw [hsk];exact hpa.mono hG2⟩,by dsimp only;omega,?_⟩
                    dsimp only
                    rw [hsk,hsD]
                    ((refine q0g ?_);(conv=>whnf);(refine q0h (by rfl) (by rfl) flQ ?_))
                    exact q0p (fun _ h=>h) (q0c (by exact flQ) (q0c (by exact flQ) (q0d rfl rfl (q0d rfl rfl q0e))))
                  | some l =>
                    rw [hjv] at hR hsP
                    have hsk:sk++q0r s (nthP pts) pts.length (j+1)=sj++[l]:=by rw [hsP,← List.append_assoc,hspj];rfl
                    obtain ⟨A',rfl,hpl⟩:=hR
                    (repeat ((try (conv=>whnf));(refine stQ ?_)))
                    conv=>whnf
                    refine ⟨(j+1,G2,addA a sj.length A'),⟨by dsimp only;omega,Mem.le_trans hM hG2,by dsimp only;rw [hsk];exact (hpa.mono hG2).add hpl⟩,by dsimp only;omega,?_⟩
                    dsimp only
                    rw [hsk,hsD]
                    refine q0k 10 3 rfl rfl rfl rfl ?_
                    conv=>whnf
                    ((refine q0g ?_);(conv=>whnf);(refine q0h (by rfl) (by rfl) flQ ?_))
                    exact q0p (fun _ h=>h) (q0c (by exact flQ) (q0c (by exact flQ) (q0d (by simp) (q5o a sj A' l).symm (q0d rfl rfl q0e))))
              · skip
                by_cases hj1:s.join=1
                · rw [if_pos hj1] at hsP hsD
                  have hsk:sk++q0r s (nthP pts) pts.length (j+1)=sj:=by rw [hsP,List.append_nil,hspj]
                  (repeat ((try (conv=>whnf));(first |(refine c0 _ ?_) |(refine cu _ ?_) |(refine cv _ ?_) |((with_reducible refine mustP.mk ?_ ?_);(· first |(rw [hm1];omega) |(rw [hm2];omega))) |(refine s3Q ?_))))
                  conv=>whnf
                  refine ⟨(j+1,M,a),⟨by dsimp only;omega,hM,by dsimp only;rw [hsk];exact hpa⟩,by dsimp only;omega,?_⟩
                  dsimp only
                  rw [hsk,hsD]
                  refine q0k 9 4 rfl rfl rfl rfl ?_
                  conv=>whnf
                  ((refine q0g ?_);(conv=>whnf);(refine q0h (by rfl) (by rfl) flQ ?_))
                  exact q0p (fun _ h=>h) (q0c (by exact flQ) (q0c (by exact flQ) (q0d rfl rfl (q0d (by simp) (q03 jd [pb]).symm q0e))))
                · rw [if_neg hj1] at hsP hsD
                  rw [List.append_nil] at hsD
                  (repeat ((try (conv=>whnf));(first |(refine c0 _ ?_) |(refine cu _ ?_) |(refine cv _ ?_) |((with_reducible refine mustP.mk ?_ ?_);(· first |(rw [hm1];omega) |(rw [hm2];omega))) |(refine s3Q ?_))))
                  conv=>whnf
                  refine q2d (fun vs w=>by kernel_rfl) (by rfl) hbg fun v G2 hG2 hu2 hR=>?_
                  cases hjv:q4a s pa pb pc with
                  | none =>
                    rw [hjv] at hR hsP
                    have hsk:sk++q0r s (nthP pts) pts.length (j+1)=sj:=by rw [hsP];simp only [Option.toList,List.append_nil];exact hspj
                    subst hR
                    (repeat ((try (conv=>whnf));(refine stQ ?_)))
                    conv=>whnf
                    refine ⟨(j+1,G2,a),⟨by dsimp only;omega,Mem.le_trans hM hG2,by dsimp only;rw [hsk];exact hpa.mono hG2⟩,by dsimp only;omega,?_⟩
                    dsimp only
                    rw [hsk,hsD]
                    ((refine q0g ?_);(conv=>whnf);(refine q0h (by rfl) (by rfl) flQ ?_))
                    exact q0p (fun _ h=>h) (q0c (by exact flQ) (q0c (by exact flQ) (q0d rfl rfl (q0d rfl rfl q0e))))
                  | some l =>
                    rw [hjv] at hR hsP
                    have hsk:sk++q0r s (nthP pts) pts.length (j+1)=sj++[l]:=by rw [hsP,← List.append_assoc,hspj];rfl
                    obtain ⟨A',rfl,hpl⟩:=hR
                    (repeat ((try (conv=>whnf));(refine stQ ?_)))
                    conv=>whnf
                    refine ⟨(j+1,G2,addA a sj.length A'),⟨by dsimp only;omega,Mem.le_trans hM hG2,by dsimp only;rw [hsk];exact (hpa.mono hG2).add hpl⟩,by dsimp only;omega,?_⟩
                    dsimp only
                    rw [hsk,hsD]
                    refine q0k 10 3 rfl rfl rfl rfl ?_
                    conv=>whnf
                    ((refine q0g ?_);(conv=>whnf);(refine q0h (by rfl) (by rfl) flQ ?_))
                    exact q0p (fun _ h=>h) (q0c (by exact flQ) (q0c (by exact flQ) (q0d (by simp) (q5o a sj A' l).symm (q0d rfl rfl q0e))))
              · skip
                by_cases hj1:s.join=1
                · rw [if_pos hj1] at hsP hsD
                  have hsk:sk++q0r s (nthP pts) pts.length (j+1)=sj:=by rw [hsP,List.append_nil,hspj]
                  (repeat ((try (conv=>whnf));(first |(refine c0 _ ?_) |(refine cu _ ?_) |(refine cv _ ?_) |((with_reducible refine mustP.mk ?_ ?_);(· first |(rw [hm1];omega) |(rw [hm2];omega))) |(refine s3Q ?_))))
                  conv=>whnf
                  refine ⟨(j+1,M,a),⟨by dsimp only;omega,hM,by dsimp only;rw [hsk];exact hpa⟩,by dsimp only;omega,?_⟩
                  dsimp only
                  rw [hsk,hsD]
                  refine q0k 9 4 rfl rfl rfl rfl ?_
                  conv=>whnf
                  ((refine q0g ?_);(conv=>whnf);(refine q0h (by rfl) (by rfl) flQ ?_))
                  exact q0p (fun _ h=>h) (q0c (by exact flQ) (q0c (by exact flQ) (q0d rfl rfl (q0d (by simp) (q03 jd [pb]).symm q0e))))
                · rw [if_neg hj1] at hsP hsD
                  rw [List.append_nil] at hsD
                  (repeat ((try (conv=>whnf));(first |(refine c0 _ ?_) |(refine cu _ ?_) |(refine cv _ ?_) |((with_reducible refine mustP.mk ?_ ?_);(· first |(rw [hm1];omega) |(rw [hm2];omega))) |(refine s3Q ?_))))
                  conv=>whnf
                  refine q2d (fun vs w=>by kernel_rfl) (by rfl) hbg fun v G2 hG2 hu2 hR=>?_
                  cases hjv:q4a s pa pb pc with
                  | none =>
                    rw [hjv] at hR hsP
                    have hsk:sk++q0r s (nthP pts) pts.length (j+1)=sj:=by rw [hsP];simp only [Option.toList,List.append_nil];exact hspj
                    subst hR
                    (repeat ((try (conv=>whnf));(refine stQ ?_)))
                    conv=>whnf
                    refine ⟨(j+1,G2,a),⟨by dsimp only;omega,Mem.le_trans hM hG2,by dsimp only;rw [hsk];exact hpa.mono hG2⟩,by dsimp only;omega,?_⟩
                    dsimp only
                    rw [hsk,hsD]
                    ((refine q0g ?_);(conv=>whnf);(refine q0h (by rfl) (by rfl) flQ ?_))
                    exact q0p (fun _ h=>h) (q0c (by exact flQ) (q0c (by exact flQ) (q0d rfl rfl (q0d rfl rfl q0e))))
                  | some l =>
                    rw [hjv] at hR hsP
                    have hsk:sk++q0r s (nthP pts) pts.length (j+1)=sj++[l]:=by rw [hsP,← List.append_assoc,hspj];rfl
                    obtain ⟨A',rfl,hpl⟩:=hR
                    (repeat ((try (conv=>whnf));(refine stQ ?_)))
                    conv=>whnf
                    refine ⟨(j+1,G2,addA a sj.length A'),⟨by dsimp only;omega,Mem.le_trans hM hG2,by dsimp only;rw [hsk];exact (hpa.mono hG2).add hpl⟩,by dsimp only;omega,?_⟩
                    dsimp only
                    rw [hsk,hsD]
                    refine q0k 10 3 rfl rfl rfl rfl ?_
                    conv=>whnf
                    ((refine q0g ?_);(conv=>whnf);(refine q0h (by rfl) (by rfl) flQ ?_))
                    exact q0p (fun _ h=>h) (q0c (by exact flQ) (q0c (by exact flQ) (q0d (by simp) (q5o a sj A' l).symm (q0d rfl rfl q0e))))
            · obtain rfl:j=pts.length:=by omega
              have hjl:=q3s s (nthP pts) pts.length pts.length
              have hdl:=q3t s (nthP pts) pts.length pts.length
              generalize q0r s (nthP pts) pts.length pts.length=jp at *
              generalize q1o s (nthP pts) pts.length pts.length=jd at *
              have hll:(sk++jp).length=sk.length+jp.length:=List.length_append
              generalize hspj:sk++jp=sj at *
              rw [hOP,hOD]
              (repeat ((try (conv=>whnf));(refine stQ ?_)))
              conv=>whnf
              rw [if_neg (by simp),if_neg (by simp),List.append_nil,List.append_nil]
              exact .inr ⟨_,rfl,.frz 3 rfl rfl fun A' c' G' hle hn' hm' hF=>.frz 4 rfl rfl fun B' d' G'' hle2 hn2 hm2 hF2=>.done rfl ⟨A',c',B',d',a,rfl,(by first |exact hn' |(simp at hn' ⊢;omega)),hF.mono hle2,(hpa.mono hle).mono hle2,q5p hF2⟩⟩
end
end Go.Proofs.YtegpkpilfgohhaaGreat
