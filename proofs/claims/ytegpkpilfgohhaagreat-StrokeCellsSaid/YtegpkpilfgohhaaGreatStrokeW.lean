/-
  stroke.Stroke.
-/
import Derived.Test.YtegpkpilfgohhaaGreatMrg20
import Derived.Test.YtegpkpilfgohhaaGreatStrLaw
import Derived.Test.YtegpkpilfgohhaaGreatMrg24
import Derived.Test.YtegpkpilfgohhaaGreatMrg25
import Derived.Test.YtegpkpilfgohhaaGreatMrg23
set_option linter.unusedVariables false
set_option linter.unusedSimpArgs false
set_option linter.unnecessarySimpa false
namespace Go.Proofs.YtegpkpilfgohhaaGreat
open Go.RowKit
set_option maxRecDepth 20000
abbrev ptBk (c:Int × Int):Blk:=.cells 43 [.val (.int .i64 c.1),.val (.int .i64 c.2)]
abbrev xyL (l:LineD):Nat→Int × Int:=fun i=>(l.X i,l.Y i)
noncomputable def psL (s:Sty) (l:LineD):List (List (Int × Int)):=q1u s (nthP (q0v (xyL l) l.n l.cl)) (q0v (xyL l) l.n l.cl).length l.cl
def dsL (s:Sty) (l:LineD):List (Int × Int):=q10 s (nthP (q0v (xyL l) l.n l.cl)) (q0v (xyL l) l.n l.cl).length l.cl
noncomputable def stkR (s:Sty) (L:Nat→LineD):Nat→List Run
  | 0=>[]
  | n+1=>stkR s L n++q8u ((psL s (L n)).map orP) (dsL s (L n)) s.w
def z11 (s:Sty) (L:Nat→LineD) (n:Nat):Prop:=∀ x,x<n→q3u (psL s (L x))=true
theorem z04 {s:Sty} {l:LineD} (h:l.n≤8):(psL s l).length≤18:=by
  have h1:=z7a (s:=s) (P:=nthP (q0v (xyL l) l.n l.cl)) (n:=(q0v (xyL l) l.n l.cl).length) (cl:=l.cl)
  have h2:=q59 (xyL l) l.n l.cl
  unfold psL;omega
theorem z05 {s:Sty} {l:LineD} (h:l.n≤8):(dsL s l).length≤10:=by
  have h1:=z7b (s:=s) (P:=nthP (q0v (xyL l) l.n l.cl)) (n:=(q0v (xyL l) l.n l.cl).length) (cl:=l.cl)
  have h2:=q59 (xyL l) l.n l.cl
  unfold dsL;omega
theorem x6h {s:Sty} {l:LineD} (h:∀ i,i<l.n→okP (xyL l i)):∀ q∈dsL s l,okP q:=by
  have h0:=fun i (hi:i<(q0v (xyL l) l.n l.cl).length)=>z1m (cl:=l.cl) (Q:=okP) h hi
  unfold dsL q10
  generalize (q0v (xyL l) l.n l.cl).length=m at *
  generalize nthP (q0v (xyL l) l.n l.cl)=P at *
  intro q hq
  split at hq
  · cases hq
  · split at hq
    · split at hq
      · rw [List.mem_singleton] at hq;subst hq;exact h0 0 (by omega)
      · cases hq
    · rw [List.mem_append] at hq
      rcases hq with hq |hq
      · have key:∀ j,q∈q1o s P m j→okP q:=by
          intro j
          induction j with
          | zero=>intro h;cases h
          | succ j ih =>
            intro h
            rw [q1o,List.mem_append] at h
            rcases h with h |h
            · exact ih h
            · split at h
              · rw [List.mem_singleton] at h;subst h;exact h0 _ (Nat.mod_lt _ (by omega))
              · cases h
        exact key _ hq
      · split at hq
        · simp at hq
          rcases hq with rfl |rfl
          · exact h0 0 (by omega)
          · exact h0 _ (by omega)
        · cases hq
theorem q78 {s:Sty} {l:LineD}:∀ r∈psL s l,r.length≤4:=z01
theorem z12 {s:Sty} {L:Nat→LineD}:∀ n,(∀ x,x<n→(L x).n≤8)→(stkR s L n).length≤n*1400000
  | 0,_=>Nat.zero_le _
  | n+1,h=>by
    have h1:=z12 (s:=s) (L:=L) n fun x hx=>h x (by omega)
    have h2:=x6a (ds:=dsL s (L n)) (w:=s.w) (z3a (q78 (s:=s) (l:=L n)))
    have h3:=z04 (s:=s) (h n (by omega))
    have h4:=z05 (s:=s) (h n (by omega))
    rw [stkR,List.length_append]
    rw [List.length_map] at h2
    omega
theorem z13 {s:Sty} {L:Nat→LineD}:∀ n,∀ r∈stkR s L n,(-8192≤r.y∧r.y≤8191)∧r.x0<r.x1∧-8192≤r.x0∧r.x1≤8192
  | 0,r,hr=>by cases hr
  | n+1,r,hr=>by
    rw [stkR,List.mem_append] at hr
    rcases hr with hr |hr
    · exact z13 n r hr
    · exact x59 r hr
def StkR (s:Sty) (L:Nat→LineD) (n:Nat) (v:AV) (G':Mem):Prop :=
  (z11 s L n∧∃ A c,v=.tup [.val (.slice A (q38 (stkR s L n)).length c),.val (.int .i64 0)]∧RunsM G' A (q38 (stkR s L n))∧(q38 (stkR s L n)).length≤c∧c≤maxLen) ∨
  (¬ z11 s L n∧v=.tup [.val (.slice none 0 0),.val (.int .i64 10)])
section
variable {G:Mem} {A:Option Addr} {n c:Nat} {L:Nat→LineD} {s:Sty}
set_option maxHeartbeats 4000000 in
theorem x4f (he:styE s≠0):Gives Tryz.prog 6 [.val (.slice A n c),styA s] G (.tup [.val (.slice none 0 0),.val (.int .i64 (styE s))]):=by
  have hc:=fun G=>q67 (G:=G) (s:=s)
  refine q06 tab_ok Tryz.func6 ?_
  (repeat ((try (conv=>whnf));(first |(refine stQ ?_) |(with_reducible first |refine q0f tab_ok Tryz.func19 (fun vs w=>by kernel_rfl) (by rfl) ?_ |refine q0b (fun vs w=>by kernel_rfl) (by kernel_rfl) ((hc G)) ?_ |refine q0a (fun vs w=>by kernel_rfl) (by kernel_rfl) ((hc G)) ?_))))
  exact ⟨rfl,rfl⟩
set_option maxHeartbeats 4000000 in
theorem x6i (h:LinesM G A n L) (hn:n≤maxLen) (hs:styE s=0) (hb:q1n L n=false):Gives Tryz.prog 6 [.val (.slice A n c),styA s] G (.tup [.val (.slice none 0 0),.val (.int .i64 3)]):=by
  have hc:=fun G=>q67 (G:=G) (s:=s)
  rw [hs] at hc
  have hL:=q4m (c:=c) h hn
  rw [show q16 L n=3 by unfold q16;rw [hb];rfl] at hL
  refine q06 tab_ok Tryz.func6 ?_
  (repeat ((try (conv=>whnf));(first |(refine stQ ?_) |(with_reducible first |refine q0f tab_ok Tryz.func19 (fun vs w=>by kernel_rfl) (by rfl) ?_ |refine q0b (fun vs w=>by kernel_rfl) (by kernel_rfl) ((hc G)) ?_ |refine q0a (fun vs w=>by kernel_rfl) (by kernel_rfl) ((hc G)) ?_ |refine q0b (fun vs w=>by kernel_rfl) (by kernel_rfl) (hL) ?_ |refine q0a (fun vs w=>by kernel_rfl) (by kernel_rfl) (hL) ?_))))
  exact ⟨rfl,rfl⟩
set_option maxHeartbeats 16000000 in
theorem x1j (h:LinesM G A n L) (hn:n≤4) (h8:∀ x,x<n→(L x).n≤8) (hs:styE s=0) (hb:q1n L n=true):q4y Tryz.prog 6 [.val (.slice A n c),styA s] G (StkR s L n):=by
  have hc:=fun G=>q67 (G:=G) (s:=s)
  rw [hs] at hc
  have hL:=q4m (c:=c) h (by unfold maxLen;omega)
  rw [show q16 L n=0 by unfold q16;rw [hb];rfl] at hL
  have hw:=(q6t hs).w
  refine z8d tab_ok Tryz.func6 (by rfl) ?_
  (repeat ((try (conv=>whnf));(first |(refine stQ ?_) |(with_reducible first |refine q0f tab_ok Tryz.func19 (fun vs w=>by kernel_rfl) (by rfl) ?_ |refine q0b (fun vs w=>by kernel_rfl) (by kernel_rfl) ((hc G)) ?_ |refine q0a (fun vs w=>by kernel_rfl) (by kernel_rfl) ((hc G)) ?_ |refine q0b (fun vs w=>by kernel_rfl) (by kernel_rfl) (hL) ?_ |refine q0a (fun vs w=>by kernel_rfl) (by kernel_rfl) (hL) ?_))))
  conv=>whnf
  refine q3h tab_ok (ι:=Nat × Mem) (fun t=>t.1≤n∧G.le t.2∧z11 s L t.1) (fun t=>[(25,.val (.int .i64 t.1)),(7,.own 2)]) (fun t=>[styB s,styB s,.own 74 3 (stkR s L t.1).length (q08 (stkR s L t.1))]) (fun t=>t.2) (fun t=>n-t.1) (0,G) ⟨Nat.zero_le _,Mem.le_refl _,fun x hx=>absurd hx (Nat.not_lt_zero x)⟩ ?_ ?_
  · refine q15 74 3 ?_
    conv=>whnf
    ((refine q0g ?_);(conv=>whnf);(refine q0h (by rfl) (by rfl) flQ ?_))
    exact q0c (by exact flQ) (q0c (by exact flQ) (q0d rfl rfl q0e))
  · rintro ⟨x,M⟩ ⟨hx,hM,hok⟩
    dsimp only at hx hM hok ⊢
    rcases Nat.lt_or_ge x n with h1 |h1
    · obtain ⟨p,rfl,x0⟩:=(h.mono hM).rows.cells h1
      have hP:=h.pts x h1
      have hxb:=q2v hb x h1
      have hx8:=h8 x h1
      have ho:=z18 (q:=(L x).q) (cl:=(L x).cl) (P:=xyL (L x)) (s:=s) (hP.mono hM) (by omega) (fun i hi=>q2u (hxb i hi)) (q6t hs) (ps:=psL s (L x)) (ds:=dsL s (L x)) rfl rfl
      have hcnt:=z04 (s:=s) hx8
      have hdnt:=z05 (s:=s) hx8
      have hsh:=q78 (s:=s) (l:=L x)
      have hdo:=x6h (s:=s) (l:=L x) fun i hi=>q2u (hxb i hi)
      have hR0:=z12 (s:=s) (L:=L) x fun y hy=>h8 y (by omega)
      have hst:stkR s L (x+1)=stkR s L x++q8u ((psL s (L x)).map orP) (dsL s (L x)) s.w:=rfl
      have hak:q3u (psL s (L x))=true→z11 s L (x+1):=fun h y hy=>by
        rcases Nat.lt_or_ge y x with h2 |h2
        · exact hok y h2
        · obtain rfl:y=x:=by omega
          exact h
      have hbk:q3u (psL s (L x))=false→¬ z11 s L n:=fun h h2=>by rw [h2 x h1] at h;cases h
      have x1:=fun (K:List Value→Prop) (k:K [.slice (L x).A (L x).n (L x).q,.bool (L x).cl])=>x0 K k
      generalize psL s (L x)=ps at *
      generalize dsL s (L x)=ds at *
      generalize stkR s L x=R0 at *
      (repeat ((try (conv=>whnf));(first |(refine x1 _ ?_) |(refine stQ ?_))))
      conv=>whnf
      refine q2d (fun vs w=>by kernel_rfl) (by rfl) ho fun v G1 hG1 hu hv=>?_
      obtain ⟨o,e,rfl,⟨rfl,hpb⟩ |⟨rfl,hpb,b,A1,c1,B1,d1,Bv,rfl,y4,y5,hpc,hcm,hO,hD⟩⟩:=hv
      · (repeat ((try (conv=>whnf));(refine stQ ?_)))
        exact ⟨rfl,.inr ⟨hbk hpb,rfl⟩⟩
      · have y4':G1.cell? ((⟨b,0,none⟩:Addr).add 4)=_:=y4
        have y5':G1.cell? ((⟨b,0,none⟩:Addr).add 5)=_:=y5
        (repeat ((try (conv=>whnf));(first |(refine q0q _ y4' ?_) |(refine stQ ?_))))
        conv=>whnf
        have hpl:(ps.map orP).length=ps.length:=by simp
        refine q3h tab_ok (ι:=Nat × Mem) (fun t=>t.1≤ps.length∧G1.le t.2) (fun t=>[(43,.val (.int .i64 t.1)),(7,.own 2)])
          (fun t=>[styB s,styB s,.own 74 3 (R0++((ps.map orP).take t.1).flatMap filP).length (q08 (R0++((ps.map orP).take t.1).flatMap filP)),q3i (L x).A (L x).n (L x).q (L x).cl]) (fun t=>t.2) (fun t=>ps.length-t.1) (0,G1) ⟨Nat.zero_le _,Mem.le_refl _⟩ ?_ ?_
        · ((refine q0g ?_);(conv=>whnf);(refine q0h (by rfl) (by rfl) flQ ?_))
          exact q0c (by exact flQ) (q0c (by exact flQ) (q0d (by simp) (by simp) (q0c (by exact flQ) q0e)))
        · rintro ⟨i,M2⟩ ⟨hi,hM2⟩
          dsimp only at hi hM2 ⊢
          rcases Nat.lt_or_ge i ps.length with h2 |h2
          · have hk:nthL (ps.map orP) i=orP (nthL ps i):=x0w h2
            obtain ⟨r,rfl,z0⟩:=(hO.mono hM2).lines.rows.cell (x:=i) (j:=0) (by omega) rfl
            have hl1:=((hO.mono hM2).lines).cut (i:=i) (by omega)
            rw [hk] at hl1
            have hb1:q1n (fun _=>lnV (Bv i) (orP (nthL ps i))) 1=true:=by rw [z9i];exact x8j (by rw [← z9i (.slice none 0 0)];exact q95 hpb h2 _)
            have hF:=x4d (c:=c1-i) (odd:=false) hl1 (by unfold maxLen;omega) hb1 (by rw [z7e,z3u];have:=hsh _ (List.mem_of_getElem? (q1m h2));omega) rfl
            rw [x56,x9e,x7s] at hF
            change q57 _ _ _ _ _ _ _ (filP (orP (nthL ps i))).length (q08 (filP (orP (nthL ps i)))) at hF
            rw [← q94 (p:=r) (i:=i) (c:=c1) (by omega)] at hF
            have w4:=hM2.cell y4'
            (repeat ((try (conv=>whnf));(first |(refine q0q _ w4 ?_) |(refine stQ ?_))))
            conv=>whnf
            refine q5l (fun vs w=>by kernel_rfl) (z0h 0) (by kernel_rfl) hF fun A3 c3 G3 hG3 hc3 hm3 hx3=>?_
            have hq3:=RunsM.frozen hx3
            have hlf:=z1z (p:=orP (nthL ps i)) (by rw [z3u];have:=hsh _ (List.mem_of_getElem? (q1m h2));omega)
            have hlR:(R0++((ps.map orP).take i).flatMap filP).length≤10000000:=by
              have h3:=q7l (f:=filP) (l:=(ps.map orP).take i) (k:=65536) fun q hq=>z1z (z3a hsh q (List.mem_of_mem_take hq))
              rw [List.length_take] at h3
              have h4:=Nat.mul_le_mul_right 65536 (show min i (ps.map orP).length≤18 by omega)
              rw [List.length_append];omega
            have hnx:R0++((ps.map orP).take (i+1)).flatMap filP=(R0++((ps.map orP).take i).flatMap filP)++filP (orP (nthL ps i)):=by
              rw [List.take_add_one,q1m (by omega:i<(ps.map orP).length),hk,List.flatMap_append,List.append_assoc];simp
            generalize R0++((ps.map orP).take i).flatMap filP=R1 at *
            (repeat ((try (conv=>whnf));(first |(refine hq3.srcF ?_) |(refine stQ ?_))))
            conv=>whnf
            refine ⟨(i+1,G3),⟨by dsimp only;omega,Mem.le_trans hM2 hG3⟩,by dsimp only;omega,?_⟩
            dsimp only
            rw [hnx]
            refine q0k 4 2 rfl rfl rfl rfl ?_
            conv=>whnf
            ((refine q0g ?_);(conv=>whnf);(refine q0h (by rfl) (by rfl) flQ ?_))
            exact q0c (by exact flQ) (q0c (by exact flQ) (q0d (by simp) (by rw [q2e]) (q0c (by exact flQ) q0e)))
          · obtain rfl:i=ps.length:=by omega
            rw [List.take_of_length_le (by omega)]
            have hlR:(R0++(ps.map orP).flatMap filP).length≤10000000:=by
              have h3:=q7l (f:=filP) (l:=(ps.map orP)) (k:=65536) fun q hq=>z1z (z3a hsh q hq)
              have h4:=Nat.mul_le_mul_right 65536 (show (ps.map orP).length≤18 by omega)
              rw [List.length_append];omega
            have hst2:stkR s L (x+1)=(R0++(ps.map orP).flatMap filP)++ds.flatMap fun c=>dscL c.1 c.2 s.w:=by rw [hst];unfold q8u;rw [List.append_assoc]
            clear hst
            generalize R0++(ps.map orP).flatMap filP=R1 at *
            have w5:=hM2.cell y5'
            have hD2:=hD.mono hM2
            (repeat ((try (conv=>whnf));(first |(refine q0q _ w5 ?_) |(refine stQ ?_))))
            conv=>whnf
            refine q07 tab_ok (fun j=>j≤ds.length) (fun (j:Nat)=>[(67,.val (.int .i64 j)),(7,.own 2)])
              (fun j=>[styB s,styB s,.own 74 3 (R1++(ds.take j).flatMap fun c=>dscL c.1 c.2 s.w).length (q08 (R1++(ds.take j).flatMap fun c=>dscL c.1 c.2 s.w)),q3i (L x).A (L x).n (L x).q (L x).cl]) (fun j=>ds.length-j) 0 (Nat.zero_le _) ?_ ?_
            · ((refine q0g ?_);(conv=>whnf);(refine q0h (by rfl) (by rfl) flQ ?_))
              exact q0c (by exact flQ) (q0c (by exact flQ) (q0d (by simp) (by simp) (q0c (by exact flQ) q0e)))
            · rintro j hj
              rcases Nat.lt_or_ge j ds.length with h3 |h3
              · obtain ⟨pd,rfl⟩:∃ pd,B1=some pd:=by
                  obtain ⟨b',off,e,_⟩:=hD2 0 _ (q1h (by omega))
                  exact ⟨_,e⟩
                have c0:=fun (K:List Value→Prop) k=>hD2.at_ (z:=(j:Int)) (i:=j) (by omega) h3 (K:=K) k
                have hlR2:(R1++(ds.take j).flatMap fun c=>dscL c.1 c.2 s.w).length≤11000000:=by
                  have h3:=q7l (f:=fun c:Int × Int=>dscL c.1 c.2 s.w) (l:=ds.take j) (k:=16384) fun q hq=>x1b
                  rw [List.length_take] at h3
                  have h4:=Nat.mul_le_mul_right 16384 (show min j ds.length≤10 by omega)
                  rw [List.length_append];omega
                have hnx:R1++(ds.take (j+1)).flatMap (fun c=>dscL c.1 c.2 s.w)=(R1++(ds.take j).flatMap fun c=>dscL c.1 c.2 s.w)++dscL (nthP ds j).1 (nthP ds j).2 s.w:=by
                  rw [List.take_add_one,q1h h3,List.flatMap_append,List.append_assoc];simp
                generalize R1++(ds.take j).flatMap (fun c=>dscL c.1 c.2 s.w)=R2 at *
                have hcd:okP (nthP ds j):=hdo _ (List.mem_of_getElem? (q1h h3))
                unfold okP at hcd
                generalize nthP ds j=cd at *
                (repeat ((try (conv=>whnf));(first |(refine c0 _ ?_) |(refine stQ ?_) |(with_reducible refine q0f tab_ok Tryz.func22 (fun vs w=>by kernel_rfl) (by rfl) ?_))))
                conv=>whnf
                rw [Int.tdiv_eq_ediv_of_nonneg (show (0:Int)≤s.w by omega)]
                (repeat ((try (conv=>whnf));(refine stQ ?_)))
                conv=>whnf
                have hlo:q6f cd.2 s.w=max (cd.2-(s.w/2+1)) (-8192):=rfl
                have hhi:q96 cd.2 s.w=min (cd.2+(s.w/2+1)) 8191:=rfl
                have hdl:=fun d=>z41 (cx:=cd.1) (cy:=cd.2) (w:=s.w) (y0:=q6f cd.2 s.w) d
                rw [show dscL cd.1 cd.2 s.w=dscN cd.1 cd.2 s.w (q6f cd.2 s.w) (q96 cd.2 s.w-q6f cd.2 s.w+1).toNat from rfl] at hnx
                generalize q6f cd.2 s.w=lo at *
                generalize q96 cd.2 s.w=hi at *
                generalize hm:(hi-lo+1).toNat=m at *
                refine q07 tab_ok (fun d=>d≤m) (fun (d:Nat)=>[(8,.val (.int .i64 (lo+d))),(0,.own 6)])
                  (fun d=>[styB s,styB s,.gone,q3i (L x).A (L x).n (L x).q (L x).cl,ptBk cd,ptBk cd,.own 74 3 (R2++dscN cd.1 cd.2 s.w lo d).length (q08 (R2++dscN cd.1 cd.2 s.w lo d))]) (fun d=>m-d) 0 (Nat.zero_le _) ?_ ?_
                · refine x1f 2 rfl ?_
                  conv=>whnf
                  ((refine q0g ?_);(conv=>whnf);(refine q0h (by rfl) (by rfl) flQ ?_))
                  exact q0c (by exact flQ) (q0c (by exact flQ) (q0j (q0c (by exact flQ) (q0c (by exact flQ) (q0c (by exact flQ) (q0d (by simp [dscN]) (by simp [dscN]) q0e))))))
                · rintro d hd
                  have hdl1:=hdl d
                  rcases Nat.lt_or_ge d m with h5 |h5
                  · have hstep:R2++dscN cd.1 cd.2 s.w lo (d+1)=(R2++dscN cd.1 cd.2 s.w lo d)++q43 cd.1 cd.2 s.w (lo+d):=by rw [dscN,List.append_assoc]
                    have hll:(R2++dscN cd.1 cd.2 s.w lo d).length≤11100000:=by rw [List.length_append];omega
                    generalize R2++dscN cd.1 cd.2 s.w lo d=R3 at *
                    have p1:=q04 (a:=s.w) (b:=s.w) (A:=1024) (B:=1024) (by omega) (by omega)
                    have p2:=q04 (a:=2*(lo+d)+1-2*cd.2) (b:=2*(lo+d)+1-2*cd.2) (A:=82000) (B:=82000) (by omega) (by omega)
                    have p3:=z3n (2*(lo+d)+1-2*cd.2)
                    by_cases hr:s.w*s.w-(2*(lo+d)+1-2*cd.2)*(2*(lo+d)+1-2*cd.2)<1
                    · rw [show q43 cd.1 cd.2 s.w (lo+d)=[] by unfold q43;rw [if_pos hr],List.append_nil] at hstep
                      (repeat ((try (conv=>whnf));(refine stQ ?_)))
                      conv=>whnf
                      refine ⟨d+1,by omega,by omega,?_⟩
                      rw [hstep]
                      ((refine q0g ?_);(conv=>whnf);(refine q0h (by rfl) (by rfl) flQ ?_))
                      exact q0c (by exact flQ) (q0c (by exact flQ) (q0j (q0c (by exact flQ) (q0c (by exact flQ) (q0c (by exact flQ) (q0d rfl rfl q0e))))))
                    · have hq1:=z5y (G:=M2) (n:=s.w*s.w-(2*(lo+d)+1-2*cd.2)*(2*(lo+d)+1-2*cd.2)) (by omega)
                      have hq2:=(q4c (n:=s.w*s.w-(2*(lo+d)+1-2*cd.2)*(2*(lo+d)+1-2*cd.2)) (by omega)).1
                      have hq3:=x0m (n:=s.w*s.w-(2*(lo+d)+1-2*cd.2)*(2*(lo+d)+1-2*cd.2)) (by omega)
                      have hrow:q43 cd.1 cd.2 s.w (lo+d)=if max (cd.1-dscK (s.w*s.w-(2*(lo+d)+1-2*cd.2)*(2*(lo+d)+1-2*cd.2))) (-8192)<min (cd.1+dscK (s.w*s.w-(2*(lo+d)+1-2*cd.2)*(2*(lo+d)+1-2*cd.2))) 8192 then [⟨lo+d,max (cd.1-dscK (s.w*s.w-(2*(lo+d)+1-2*cd.2)*(2*(lo+d)+1-2*cd.2))) (-8192),min (cd.1+dscK (s.w*s.w-(2*(lo+d)+1-2*cd.2)*(2*(lo+d)+1-2*cd.2))) 8192⟩] else []:=by
                        unfold q43;rw [if_neg hr]
                      unfold dscK at hrow
                      (repeat ((try (conv=>whnf));(first |(refine stQ ?_) |(with_reducible first |refine q0b (fun vs w=>by kernel_rfl) (by kernel_rfl) (hq1) ?_ |refine q0a (fun vs w=>by kernel_rfl) (by kernel_rfl) (hq1) ?_))))
                      conv=>whnf
                      rw [Int.tdiv_eq_ediv_of_nonneg (by omega)]
                      generalize q4u (s.w*s.w-(2*(lo+d)+1-2*cd.2)*(2*(lo+d)+1-2*cd.2))=rt at *
                      by_cases hlt:max (cd.1-(rt+1)/2) (-8192)<min (cd.1+(rt+1)/2) 8192
                      · rw [if_pos hlt] at hrow
                        (repeat ((try (conv=>whnf));(refine stQ ?_)))
                        conv=>whnf
                        refine ⟨d+1,by omega,by omega,?_⟩
                        rw [hstep,hrow]
                        refine q0k 8 6 rfl rfl rfl rfl ?_
                        conv=>whnf
                        ((refine q0g ?_);(conv=>whnf);(refine q0h (by rfl) (by rfl) flQ ?_))
                        exact q0c (by exact flQ) (q0c (by exact flQ) (q0j (q0c (by exact flQ) (q0c (by exact flQ) (q0c (by exact flQ) (q0d (by simp) (by rw [q2e,q76]) q0e))))))
                      · rw [if_neg hlt] at hrow
                        rw [hrow,List.append_nil] at hstep
                        (repeat ((try (conv=>whnf));(refine stQ ?_)))
                        conv=>whnf
                        refine ⟨d+1,by omega,by omega,?_⟩
                        rw [hstep]
                        ((refine q0g ?_);(conv=>whnf);(refine q0h (by rfl) (by rfl) flQ ?_))
                        exact q0c (by exact flQ) (q0c (by exact flQ) (q0j (q0c (by exact flQ) (q0c (by exact flQ) (q0c (by exact flQ) (q0d rfl rfl q0e))))))
                  · obtain rfl:d=m:=by omega
                    (repeat ((try (conv=>whnf));(refine stQ ?_)))
                    conv=>whnf
                    refine ⟨j+1,by omega,by omega,?_⟩
                    rw [hnx]
                    refine q0k 6 2 rfl rfl rfl rfl ?_
                    conv=>whnf
                    ((refine q0g ?_);(conv=>whnf);(refine q0h (by rfl) (by rfl) flQ ?_))
                    exact q0c (by exact flQ) (q0c (by exact flQ) (q0d rfl rfl (q0c (by exact flQ) q0e)))
              · obtain rfl:j=ds.length:=by omega
                (repeat ((try (conv=>whnf));(refine stQ ?_)))
                conv=>whnf
                refine ⟨(x+1,M2),⟨by dsimp only;omega,Mem.le_trans hM (Mem.le_trans hG1 hM2),hak hpb⟩,by dsimp only;omega,?_⟩
                dsimp only
                rw [hst2,List.take_length]
                ((refine q0g ?_);(conv=>whnf);(refine q0h (by rfl) (by rfl) flQ ?_))
                exact q0c (by exact flQ) (q0c (by exact flQ) (q0d rfl rfl q0e))
    · obtain rfl:x=n:=by omega
      have hR0:=z12 (s:=s) (L:=L) x h8
      have hrb:=z13 (s:=s) (L:=L) x
      (repeat ((try (conv=>whnf));(refine stQ ?_)))
      conv=>whnf
      refine x5l (fun vs w=>by kernel_rfl) (by exact rfl) (by kernel_rfl) fun A1 c1 G1 hG1 hc1 hm1 hx1=>?_
      conv=>whnf
      refine q5l (fun vs w=>by kernel_rfl) (.alone fun _=>rfl) (by kernel_rfl) (x4e (c:=c1) hx1 (fun r hr=>by have:=hrb r hr;omega) (by omega)) fun A2 c2 G2 hG2 hc2 hm2 hx2=>?_
      (repeat ((try (conv=>whnf));(refine stQ ?_)))
      exact ⟨rfl,.inl ⟨hok,A2,c2,rfl,RunsM.frozen hx2,hc2,hm2⟩⟩
end
end Go.Proofs.YtegpkpilfgohhaaGreat
