/-
  fill.scan: the rows with a list of active edges.
-/
import Derived.Test.YtegpkpilfgohhaaGreatMrg23
import Derived.Test.YtegpkpilfgohhaaGreatMrg7
set_option linter.unusedVariables false
set_option linter.unusedSimpArgs false
set_option linter.unnecessarySimpa false
namespace Go.Proofs.YtegpkpilfgohhaaGreat
open Go.RowKit Go.Shelf Go.Lib Go.Sort
set_option maxRecDepth 20000
theorem x9j:∀ (x:Cr),∀ v∈encC x,v.oneCell'=true:=fun x v hv=>by
  simp [encC] at hv;rcases hv with rfl |rfl <;> rfl
theorem x9k {l:List Cr} (h:l.Pairwise fun a b=>ltOf cmpC b a=false):srtC l:=fun i j c d hij hi hj=>by
  obtain ⟨h1,h2⟩:=List.getElem?_eq_some_iff.1 hi
  obtain ⟨h3,h4⟩:=List.getElem?_eq_some_iff.1 hj
  have:=List.pairwise_iff_getElem.1 h i j h1 h3 hij
  rw [z3v,h2,h4] at this
  exact this
theorem x1h {E:List Edge} {i:Nat} {e:Edge} (h:E[i]? = some e):(E.flatMap encE)[i*6+Int.toNat 0*6+1]? = some (.int .i64 e.y):=z2z q11 E i 1 e h (by omega)
theorem x9x {E:List Edge} {i:Nat} {e:Edge} (h:E[i]? = some e):(E.flatMap encE)[i*6+Int.toNat 0*6+2]? = some (.int .i64 e.e):=z2z q11 E i 2 e h (by omega)
theorem x9l {E:List Edge} {i:Nat} {e:Edge} (h:E[i]? = some e) (K:List Value→Prop) (k:K (encE e)):OwnCells (E.flatMap encE) (i*6+Int.toNat 0*6) 6 K:=q64 q11 h K k
theorem x2b {y:Int} {l m:List Edge} (h:l.Perm m):(q0z y l).Perm (q0z y m):=by
  induction h with
  | nil=>exact List.Perm.refl _
  | cons c _ ih=>rw [q0z,q0z];exact (List.Perm.refl _).append ih
  | swap a b l=>rw [q0z,q0z,q0z,q0z,← List.append_assoc,← List.append_assoc];exact List.perm_append_comm.append (List.Perm.refl _)
  | trans _ _ h1 h2=>exact h1.trans h2
theorem z6k {sel:Int→Bool} {l m:List Edge} (h:l.Perm m) {u v:Int}:q7s sel l u v↔q7s sel m u v:=by
  unfold q7s;rw [z6f (x2b h)]
theorem x71 {n0 q n:Nat} {hp hp':List Blk} {G G':Mem} {fr fr':List AV} {E:TypeId} {sz:Nat} {xs:List Value} (j:Nat) (hq:nthB hp q=.own E sz n xs) (hj:fr[j]? = some (.own q)) (h:Le n0 (fr.set j (.vw q 0 n)) hp G fr' hp' G'):Le n0 fr hp G fr' hp' G':=by
  refine ⟨fun w0 G0 β0 β w ys h0 h1 hr hf=>h.out w0 G0 β0 β w ys h0 h1 hr ?_⟩
  have key:∀ (l:List AV) (ys:List Value) (j:Nat),l[j]? = some (.own q)→AV.rels β l ys→AV.rels β (l.set j (.vw q 0 n)) ys:=by
    intro l
    induction l with
    | nil=>intro ys j hj;simp at hj
    | cons a l ih =>
      intro ys j hj hf
      simp only [AV.rels] at hf
      obtain ⟨y,zs,rfl,hy,hz⟩:=hf
      cases j with
      | zero =>
        simp at hj;subst hj
        simp only [List.set_cons_zero,AV.rels]
        refine ⟨y,zs,rfl,?_,hz⟩
        simp only [AV.rel] at hy ⊢
        obtain ⟨x,hx1,hx2⟩:=hr.blk q y hy.1
        rw [q0x hq rfl] at hx1;cases hx1
        rcases hx2.1.2 with ⟨rfl,rfl⟩ |⟨g,cap,cur,rfl,_,_,h8,_⟩
        · exact ⟨none,0,rfl,Nat.le_refl _,⟨fun _=>rfl,fun _=>⟨0,hy.1⟩⟩,fun h=>by omega⟩
        · exact ⟨_,cap,rfl,h8,⟨(fun h=>by cases h),fun _=>⟨n,hy.1⟩⟩,fun _=>⟨_,g,hy.1,rfl,rfl⟩⟩
      | succ j =>
        simp only [List.set_cons_succ,AV.rels]
        exact ⟨y,zs,rfl,hy,ih zs j (by simpa using hj) hz⟩
  exact key _ _ _ hj hf
theorem x1i {n0:Nat} {a b:AV} {fr fr':List AV} {hp hp':List Blk} {G G':Mem} (e:a=b) (h:Le n0 (b::fr) hp G fr' hp' G'):Le n0 (a::fr) hp G fr' hp' G':=by subst e;exact h
section
variable {G:Mem}
set_option maxHeartbeats 16000000 in
theorem z8v {F:FuncId} {odd:Bool} (hen:∀ vs w,(callFunc F vs).run Tryz.prog w=.ok (.enter F vs) w) (hF:∀ (n:Int) (G':Mem),-1000≤n→n≤1000→Gives Tryz.prog F [.val (.int .i64 n)] G' (.val (.bool (selB odd n))))
    {l:List Edge} (hE:∀ e∈l,EdgeOk e) (hl:l.length≤39) {K:AV→List Blk→Mem→Prop}
    (h:∀ R,okR R→(∀ u v,hasR R u v↔q7s (selB odd) l u v)→R.length≤1000000→K (.own 1) [.gone,.own 74 3 R.length (q08 R)] G) :
    CallP Tryz.prog 40 [.own 0,.val (.func (.func F) #[] #[])] [.own 108 6 l.length (l.flatMap encE)] G K:=by
  refine z1p rfl (q0f tab_ok Tryz.func40 (fun vs w=>by kernel_rfl) rfl ?_)
  (repeat ((try (conv=>whnf));(refine stQ ?_)))
  conv=>whnf
  refine q1i [.own 0,q2o] 0 0 (fun vs w=>by kernel_rfl) (by rfl) rfl (by rfl) rfl (x1e hl) ?_
  rintro _ ⟨E,rfl,hperm,hsrt⟩
  have hlen:=hperm.length_eq
  rw [← hlen] at hsrt
  have hEok:∀ e∈E,EdgeOk e:=fun e he=>hE e (hperm.mem_iff.1 he)
  rw [← hlen]
  (repeat ((try (conv=>whnf));(refine stQ ?_)))
  conv=>whnf
  have hcap:∀ y:Int,y≤8192→(y+8192)*40≤655360:=fun y hy=>by omega
  refine z2q tab_ok (fun (y:Int) (i:Nat) (R:List Run)=>(ScanAt (selB odd) E y R∧i≤E.length)∧y≤8192∧(R.length:Int)≤(y+8192)*40)
    (fun y i R=>[(0,.vw 0 (i*6) (E.length-i)),(6,.own 3),(7,.ptr 2 0)])
    (fun y i R=>[.own 108 6 E.length (E.flatMap encE),.cells 87 [.own 4],.cells 3 [.val (.int .i64 y)],.own 108 6 (actE E i (y-1)).length ((actE E i (y-1)).flatMap encE),.own 74 3 R.length (q08 R)])
    (fun y i R=>(8192-y).toNat) (-8192) 0 [] ⟨⟨ScanAt.start,Nat.zero_le _⟩,by omega,by simp⟩ ?_ ?_
  · refine x71 0 rfl rfl ?_
    refine q15 108 6 ?_
    conv=>whnf
    refine q15 74 3 ?_
    conv=>whnf
    ((refine q0g ?_);(conv=>whnf);(refine q0h (by rfl) (by rfl) flQ ?_))
    exact q0d rfl rfl (q0c (by exact flQ) (q0c (by exact flQ) (q0d rfl rfl (q0d rfl rfl q0e))))
  · rintro y i R ⟨⟨hs,hi⟩,hy,hRl⟩
    have hcy:=hcap y hy
    have hlo:=hs.low
    rcases Int.lt_or_le y 8192 with h1 |h1
    · (repeat ((try (conv=>whnf));(refine stQ ?_)))
      conv=>whnf
      have hal:=x02 (E:=E) (i:=i) (y:=y-1)
      refine x6e (y:=y) (by omega) ?_
      rw [show q3q y=fun e=>decide (y<e.e) from rfl,z4d (E:=E) (i:=i) (show y-1≤y by omega)]
      (repeat ((try (conv=>whnf));(refine stQ ?_)))
      conv=>whnf
      refine q07 tab_ok (fun i'=>i≤i'∧i'≤E.length) (fun (i':Nat)=>[(0,.vw 0 (i'*6) (E.length-i')),(6,.own 3),(18,.any),(20,.any)])
        (fun i'=>[.own 108 6 E.length (E.flatMap encE),.cells 87 [.own 4],.cells 3 [.val (.int .i64 y)],.own 108 6 (actE E i' y).length ((actE E i' y).flatMap encE),.own 74 3 R.length (q08 R)])
        (fun i'=>E.length-i') i ⟨Nat.le_refl _,hi⟩ ?_ ?_
      · refine q0k 5 3 rfl rfl rfl rfl ?_
        conv=>whnf
        ((refine q0g ?_);(conv=>whnf);(refine q0h (by rfl) (by rfl) flQ ?_))
        exact q0d rfl rfl (q0c (by exact flQ) (q0c (by exact flQ) (q0d rfl rfl (q0d rfl rfl q0e))))
      · rintro i' ⟨hi1,hi2⟩
        have hal':=x02 (E:=E) (i:=i') (y:=y)
        by_cases h2:∃ e,E[i']? = some e∧e.y≤y
        · obtain ⟨e,he,h3⟩:=h2
          have h2:=(List.getElem?_eq_some_iff.1 he).1
          have ey:=x1h he
          have ee:=x9x he
          have ca:=x9l he
          have hnx:=x55 (y:=y) he
          by_cases h4:y<e.e
          · rw [if_pos h4] at hnx
            generalize hu':actE E (i'+1) y=u' at *
            generalize actE E i' y=u at *
            (repeat ((try (conv=>whnf));(first |(refine q1a _ ey ?_) |(refine q1a _ ee ?_) |(refine ca _ ?_) |(refine stQ ?_))))
            conv=>whnf
            refine ⟨i'+1,⟨by omega,by omega⟩,by omega,?_⟩
            rw [hu']
            refine q0k 6 3 rfl rfl rfl rfl ?_
            conv=>whnf
            refine x1i (b:=.vw 0 ((i'+1)*6) (E.length-(i'+1))) (by show AV.vw 0 (i'*6+6) (E.length-i'-1)=_;congr 1;omega) ?_
            ((refine q0g ?_);(conv=>whnf);(refine q0h (by rfl) (by rfl) flQ ?_))
            exact q0d rfl rfl (q0c (by exact flQ) (q0c (by exact flQ) (q0d (by rw [hnx];simp) (by rw [hnx,List.flatMap_append];rfl) (q0d rfl rfl q0e))))
          · rw [if_neg h4,List.append_nil] at hnx
            generalize hu':actE E (i'+1) y=u' at *
            generalize actE E i' y=u at *
            (repeat ((try (conv=>whnf));(first |(refine q1a _ ey ?_) |(refine q1a _ ee ?_) |(refine ca _ ?_) |(refine stQ ?_))))
            conv=>whnf
            refine ⟨i'+1,⟨by omega,by omega⟩,by omega,?_⟩
            rw [hu',hnx]
            refine x1i (b:=.vw 0 ((i'+1)*6) (E.length-(i'+1))) (by show AV.vw 0 (i'*6+6) (E.length-i'-1)=_;congr 1;omega) ?_
            ((refine q0g ?_);(conv=>whnf);(refine q0h (by rfl) (by rfl) flQ ?_))
            exact q0d rfl rfl (q0c (by exact flQ) (q0c (by exact flQ) (q0d rfl rfl (q0d rfl rfl q0e))))
        · have hstop:∀ e,E[i']? = some e→y<e.y:=fun e he=>by
            rcases Int.lt_or_le y e.y with h |h
            · exact h
            · exact absurd ⟨e,he,h⟩ h2
          have hfrom:=z8o hsrt hstop
          have hcr:=z6g hfrom
          have hAok:∀ e∈actE E i' y,EdgeOk e:=fun e he=>hEok e (List.mem_of_mem_take (List.mem_filter.1 he).1)
          by_cases hA0:(actE E i' y).length=0
          · have hAn:=List.length_eq_zero_iff.1 hA0
            generalize hA:actE E i' y=A at *
            rcases Nat.lt_or_ge i' E.length with h5 |h5
            · obtain ⟨e,he⟩:∃ e,E[i']? = some e:=⟨E[i'],List.getElem?_eq_getElem h5⟩
              have hey:=hstop e he
              have ey:=x1h he
              have hd:=hEok e (List.mem_of_getElem? he)
              have hdy:=hd.y
              (repeat ((try (conv=>whnf));(first |(refine q1a _ ey ?_) |(refine stQ ?_))))
              conv=>whnf
              have hnxt:actE E i' (max y (min e.y 8192-1)+1-1)=A:=by rw [hAn];exact z8n (hA.trans hAn) (by omega)
              refine ⟨max y (min e.y 8192-1)+1,i',R,⟨⟨hs.skip (by omega) (fun v e1 e2=>z6h (hA.trans hAn) e1 (z8o hsrt fun e' he'=>by rw [he] at he';cases he';omega)),hi2⟩,by omega,by omega⟩,by omega,?_⟩
              rw [hnxt]
              refine q0k 5 2 rfl rfl rfl rfl ?_
              conv=>whnf
              ((refine q0g ?_);(conv=>whnf);(refine q0h (by rfl) (by rfl) flQ ?_))
              exact q0d rfl rfl (q0c (by exact flQ) (q0c (by exact flQ) (q0d rfl rfl (q0d rfl rfl q0e))))
            · (repeat ((try (conv=>whnf));(refine stQ ?_)))
              conv=>whnf
              refine ⟨.own 1,_,G,?_,h R hs.ok (fun u v=>?_) (by omega)⟩
              · refine q0k 4 1 rfl rfl rfl rfl ?_
                conv=>whnf
                exact q0h rfl rfl (z0p rfl rfl q4b) (q0j (q0d rfl rfl q0e))
              · rw [hs.fin (fun v e1 e2=>z6h (hA.trans hAn) e1 fun j e hj he=>by have:=(List.getElem?_eq_some_iff.1 he).1;omega) u v]
                exact z6k hperm
          · generalize hA:actE E i' y=A at *
            rcases Nat.lt_or_ge i' E.length with h5 |h5
            case' inl =>
              obtain ⟨e,he⟩:∃ e,E[i']? = some e:=⟨E[i'],List.getElem?_eq_getElem h5⟩
              have hey:=hstop e he
              have ey:=x1h he
            all_goals
              have hA1:A.length≤39:=by omega
              (repeat ((try (conv=>whnf));(first |(refine q1a _ ey ?_) |(refine stQ ?_) |(with_reducible refine q0f tab_ok Tryz.func67 (fun vs w=>by kernel_rfl) (by rfl) ?_))))
              conv=>whnf
              refine q07 tab_ok (fun k=>k≤A.length) (fun (k:Nat)=>[(10,.val (.int .i64 k)),(5,.own 5)]) (fun k=>[.own 108 6 E.length (E.flatMap encE),.cells 87 [.own 4],.cells 3 [.val (.int .i64 y)],.own 108 6 A.length (A.flatMap encE),.own 74 3 R.length (q08 R),.own 115 2 (q0z y (A.take k)).length ((q0z y (A.take k)).flatMap encC)]) (fun k=>A.length-k) 0 (Nat.zero_le _) ?_ ?_
              · refine q15 115 2 ?_
                conv=>whnf
                ((refine q0g ?_);(conv=>whnf);(refine q0h (by rfl) (by rfl) flQ ?_))
                exact q0d rfl rfl (q0c (by exact flQ) (q0c (by exact flQ) (q0d rfl rfl (q0d rfl rfl (q0d (rfl) (rfl) q0e)))))
              · rintro k hk
                rcases Nat.lt_or_ge k A.length with h6 |h6
                · obtain ⟨r,hr⟩:∃ r,A[k]? = some r:=⟨A[k],List.getElem?_eq_getElem h6⟩
                  have cb:=q64 (k:=6) q11 hr
                  have hro:=hAok r (List.mem_of_getElem? hr)
                  have hnext:=x17 (y:=y) hr
                  have hcl2:=q42 y (A.take k)
                  rw [List.length_take] at hcl2
                  have hfst:=fun hm=>x2a (G:=G) (y:=y) hro hm
                  unfold q69 at hnext
                  generalize hu':q0z y (A.take (k+1))=u' at *
                  generalize q0z y (A.take k)=u at *
                  by_cases hm:r.y≤y∧y<r.e
                  · have hf:=hfst hm
                    rw [if_pos (decide_eq_true hm)] at hnext
                    (repeat ((try (conv=>whnf));(first |(refine cb _ ?_) |(refine stQ ?_) |(with_reducible first |refine q0b (fun vs w=>by kernel_rfl) (by kernel_rfl) (hf) ?_ |refine q0a (fun vs w=>by kernel_rfl) (by kernel_rfl) (hf) ?_))))
                    refine ⟨k+1,by omega,by omega,?_⟩
                    rw [hu']
                    refine q0k 8 5 rfl rfl rfl rfl ?_
                    conv=>whnf
                    ((refine q0g ?_);(conv=>whnf);(refine q0h (by rfl) (by rfl) flQ ?_))
                    exact q0d rfl rfl (q0c (by exact flQ) (q0c (by exact flQ) (q0d rfl rfl (q0d rfl rfl (q0d (by rw [hnext];simp) (by rw [hnext,List.flatMap_append];rfl) q0e)))))
                  · rw [if_neg (by rw [decide_eq_false hm];simp),List.append_nil] at hnext
                    clear hfst
                    (repeat' ((try (conv=>whnf));(first |(refine cb _ ?_) |(refine stQ ?_) |(with_reducible refine q7t (fun h0=>?_) (fun h0=>?_)))))
                    all_goals first
                      | (exfalso;omega)
                      | (refine ⟨k+1,by omega,by omega,?_⟩
                         rw [hu',hnext]
                         ((refine q0g ?_);(conv=>whnf);(refine q0h (by rfl) (by rfl) flQ ?_))
                         exact q0d rfl rfl (q0c (by exact flQ) (q0c (by exact flQ) (q0d rfl rfl (q0d rfl rfl (q0d (rfl) (rfl) q0e))))))
                · obtain rfl:k=A.length:=by omega
                  rw [List.take_of_length_le (Nat.le_refl _)]
                  have hsgn:=z0f (y:=y) hAok
                  have hcl:=q42 y A
                  rw [hcr] at *
                  (repeat ((try (conv=>whnf));(refine stQ ?_)))
                  conv=>whnf
                  refine z4f Tryz.sortCr rfl (fun vs w=>by kernel_rfl) Tryz.isAgg115 Tryz.sizeOf115 (fun _=>rfl) x9j x7z (fun vs w=>by kernel_rfl) x6f (by exact rfl) (by omega) fun C hCp hCs=>?_
                  have hsC:=x9k hCs
                  have hCl:=hCp.length_eq
                  have hCg:∀ q∈C,q.s=1∨q.s=-1:=fun q hq=>hsgn q (hCp.mem_iff.1 hq)
                  (repeat ((try (conv=>whnf));(refine stQ ?_)))
                  conv=>whnf
                  refine q07 (ι:=Nat × Int × Int × List Run) tab_ok (fun s=>SpanAt (selB odd) C y R s.2.2.2 s.1 s.2.1 s.2.2.1) (fun s=>[(64,.val (.int .i64 s.1)),(8,.val (.int .i64 s.2.1)),(9,.val (.int .i64 s.2.2.1))])
                    (fun s=>[.own 108 6 E.length (E.flatMap encE),.cells 87 [.own 4],.cells 3 [.val (.int .i64 y)],.own 108 6 A.length (A.flatMap encE),.own 74 3 s.2.2.2.length (q08 s.2.2.2),.own 115 2 C.length (C.flatMap encC)]) (fun s=>C.length-s.1) (0,0,0,R) (SpanAt.start hs.ok hs.up) ?_ ?_
                  · ((refine q0g ?_);(conv=>whnf);(refine q0h (by rfl) (by rfl) flQ ?_))
                    exact q0d rfl rfl (q0c (by exact flQ) (q0c (by exact flQ) (q0d rfl rfl (q0d rfl rfl (q0d rfl rfl q0e)))))
                  · rintro ⟨k,n,f,R'⟩ hsp
                    dsimp only at hsp ⊢
                    have hkl:=hsp.le
                    have hln:=hsp.len
                    have hnb:-39≤n∧n≤39:=by
                      have h7:=x53 (l:=C.take k) fun q hq=>hCg q (List.mem_of_mem_take hq)
                      rw [← hsp.n_,List.length_take] at h7
                      omega
                    rcases Nat.lt_or_ge k C.length with h7 |h7
                    · obtain ⟨c,hc⟩:∃ c,C[k]? = some c:=⟨C[k],List.getElem?_eq_getElem h7⟩
                      have cc:=q64 (k:=2) x7w hc
                      have hcg:=hCg c (List.mem_of_getElem? hc)
                      have hnx:=hsp.next (x52 odd) hsC hc
                      have hFn:=hF n G (by omega) (by omega)
                      by_cases hsel:selB odd n=true
                      · rw [if_pos hsel] at hnx
                        rw [hsel] at hFn
                        (repeat ((try (conv=>whnf));(first |(refine cc _ ?_) |(with_reducible refine q0b hen (by kernel_rfl) hFn ?_) |(refine stQ ?_))))
                        conv=>whnf
                        refine x7y (by omega) ?_
                        (repeat ((try (conv=>whnf));(refine stQ ?_)))
                        conv=>whnf
                        refine ⟨(k+1,n+c.s,c.x,addR R' y (max f (-8192)) (min c.x 8192)),hnx,by show C.length-(k+1)<C.length-k;omega,?_⟩
                        dsimp only
                        refine q0k 7 4 rfl rfl rfl rfl ?_
                        conv=>whnf
                        ((refine q0g ?_);(conv=>whnf);(refine q0h (by rfl) (by rfl) flQ ?_))
                        exact q0d rfl rfl (q0c (by exact flQ) (q0c (by exact flQ) (q0d rfl rfl (q0d rfl rfl (q0d rfl rfl q0e)))))
                      · rw [if_neg hsel] at hnx
                        rw [Bool.not_eq_true] at hsel
                        rw [hsel] at hFn
                        (repeat ((try (conv=>whnf));(first |(refine cc _ ?_) |(with_reducible refine q0b hen (by kernel_rfl) hFn ?_) |(refine stQ ?_))))
                        conv=>whnf
                        refine ⟨(k+1,n+c.s,c.x,R'),hnx,by show C.length-(k+1)<C.length-k;omega,?_⟩
                        dsimp only
                        ((refine q0g ?_);(conv=>whnf);(refine q0h (by rfl) (by rfl) flQ ?_))
                        exact q0d rfl rfl (q0c (by exact flQ) (q0c (by exact flQ) (q0d rfl rfl (q0d rfl rfl (q0d rfl rfl q0e)))))
                    · obtain rfl:k=C.length:=by omega
                      have hnx:=ScanAt.next hs (by omega) hCp hsp
                      (repeat ((try (conv=>whnf));(refine stQ ?_)))
                      conv=>whnf
                      have hnxt:actE E i' (y+1-1)=A:=by rw [show y+1-1=y by omega];exact hA
                      refine ⟨y+1,i',R',⟨⟨hnx,hi2⟩,by omega,by omega⟩,by omega,?_⟩
                      rw [hnxt]
                      refine q0k 6 2 rfl rfl rfl rfl ?_
                      conv=>whnf
                      ((refine q0g ?_);(conv=>whnf);(refine q0h (by rfl) (by rfl) flQ ?_))
                      exact q0d rfl rfl (q0c (by exact flQ) (q0c (by exact flQ) (q0d rfl rfl (q0d rfl rfl q0e))))
    · obtain rfl:y=8192:=by omega
      (repeat ((try (conv=>whnf));(refine stQ ?_)))
      conv=>whnf
      refine ⟨.own 1,_,G,?_,h R hs.ok (fun u v=>?_) (by omega)⟩
      · refine q0k 4 1 rfl rfl rfl rfl ?_
        conv=>whnf
        refine q0h rfl rfl ?_ ?_
        · exact z0p rfl rfl q4b
        · exact q0j (q0d rfl rfl q0e)
      · rw [hs.fin (fun v e1 e2=>by omega) u v]
        exact z6k hperm
end
end Go.Proofs.YtegpkpilfgohhaaGreat
