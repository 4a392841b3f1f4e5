/-
  stroke: the parts and discs of a line.
-/
import Derived.Test.YtegpkpilfgohhaaGreatMrg18
set_option linter.unusedVariables false
set_option linter.unusedSimpArgs false
set_option linter.unnecessarySimpa false
namespace Go.Proofs.YtegpkpilfgohhaaGreat
open Go.RowKit
set_option maxRecDepth 20000
theorem OutM.base {G0 G1:Mem} {E:TypeId} {S:Nat→Prop} {M:Mem} {ps:List (List (Int × Int))} {B:Nat→Value} (h:OutM G1 E S M ps B) (hle:G0.le G1):OutM G0 E S M ps B:=⟨Mem.le_trans hle h.le,h.rows,h.apart,fun k b hk hb=>Mem.le.none hle (h.free k b hk hb)⟩
def sdL (P:Nat→Int × Int) (n:Nat):Nat→List ((Int × Int) × (Int × Int))
  | 0=>[]
  | k+1=>sdL P n k++[(P k,P (nxP n k))]
theorem z6b (P:Nat→Int × Int) (n:Nat):∀ k,(sdL P n k).length=k
  | 0=>rfl
  | k+1=>by rw [sdL,List.length_append,z6b P n k];rfl
theorem q6s {P:Nat→Int × Int} {n:Nat}:∀ {k i:Nat},i<k→(sdL P n k)[i]? = some (P i,P (nxP n i))
  | 0,i,h=>by omega
  | k+1,i,h=>by
    have hl:=z6b P n k
    rw [sdL]
    by_cases e:i=k
    · subst e;rw [List.getElem?_append_right (by omega),hl,Nat.sub_self];rfl
    · rw [List.getElem?_append_left (by omega)];exact q6s (by omega)
noncomputable def z1t (w:Int) (l:List ((Int × Int) × (Int × Int))):List Value:=l.flatMap fun e=>z3o w e.1 e.2
theorem z6c (w:Int) (l:List ((Int × Int) × (Int × Int))) (p q:Int × Int):z1t w (l++[(p,q)])=z1t w l++z3o w p q:=by simp [z1t]
theorem q9f {w:Int} {l:List ((Int × Int) × (Int × Int))} {z:Int} {i:Nat} {e:(Int × Int) × (Int × Int)} (hz:z.toNat=i) (h:l[i]? = some e) {K:List Value→Prop} (k:K (z3o w e.1 e.2)):OwnCells (z1t w l) (z.toNat * 10) 10 K:=by
  rw [hz];exact q64 (enc:=fun e:(Int × Int) × (Int × Int)=>z3o w e.1 e.2) (fun e=>rfl) h K k
def cntS (cl:Bool) (n i:Nat):Nat:=if cl=true then i else min i (n-1)
theorem pt_xy {p v:Int × Int}:mvP p v 1=(p.1+v.1,p.2+v.2)∧mvP p v (-1)=(p.1-v.1,p.2-v.2):=by
  unfold mvP
  exact ⟨Prod.ext (by simp) (by simp),Prod.ext (by show p.1 + -1*v.1=p.1-v.1;omega) (by show p.2 + -1*v.2=p.2-v.2;omega)⟩
section
variable {G:Mem}
theorem z3r {p v:Int × Int} (hp:q0l p) (hv:q0l v):Gives Tryz.prog 56 [pA p,pA v] G (pA (mvP p v 1)):=by
  rw [pt_xy.1];exact q25 hp.1 hp.2 hv.1 hv.2
theorem z00 {p v:Int × Int} (hp:q0l p) (hv:q0l v):Gives Tryz.prog 57 [pA p,pA v] G (pA (mvP p v (-1))):=by
  rw [pt_xy.2];exact z4a hp.1 hp.2 hv.1 hv.2
def tmV (v:Int × Int) (k:Int):Int × Int:=(k*v.1,k*v.2)
theorem q4z {v:Int × Int} {k:Int} (hv:q0l v) (hk:k=1∨k=-1):Gives Tryz.prog 75 [pA v,.val (.int .i64 k)] G (pA (tmV v k)):=x13 hv.1 hv.2 hk
theorem q6b {p v:Int × Int} {k:Int} (hp:q0l p) (hv:q0l v) (hk:k=1∨k=-1):Gives Tryz.prog 56 [pA p,pA (tmV v k)] G (pA (mvP p v k)):=by
  obtain ⟨h1,h2⟩:=hv
  unfold q0u at h1 h2
  rcases hk with rfl |rfl
  · exact q25 hp.1 hp.2 (by unfold q0u tmV;dsimp only;omega) (by unfold q0u tmV;dsimp only;omega)
  · exact q25 hp.1 hp.2 (by unfold q0u tmV;dsimp only;omega) (by unfold q0u tmV;dsimp only;omega)
end
noncomputable abbrev q66 (s:Sty) (a b:AV):Blk:=.cells 58 [.val (.int .i64 s.w),.val (.int .i64 s.cap),.val (.int .i64 s.join),.val (.int .i64 s.lim),a,b]
abbrev q3i (A:Option Addr) (n q:Nat) (cl:Bool):Blk:=.cells 37 [.val (.slice A n q),.val (.bool cl)]
abbrev styB (s:Sty):Blk:=.cells 24 [.val (.int .i64 s.w),.val (.int .i64 s.cap),.val (.int .i64 s.join),.val (.int .i64 s.lim)]
section
variable {G:Mem} {A:Option Addr} {n q:Nat} {cl:Bool} {P:Nat→Int × Int} {s:Sty}
set_option maxHeartbeats 64000000 in
theorem x5u (h:ElsM G A 2 n fun i=>[.int .i64 (P i).1,.int .i64 (P i).2]) (hn:n≤1100000) (hP:∀ i,i<n→okP (P i)) (hs:StyOk s) :
    CallP Tryz.prog 36 [.ptr 3 0,z1q A n q cl] [.muts fun _=>False,q3i A n q cl,styB s,q66 s (.val (.slice none 0 0)) (.val (.slice none 0 0))] G fun u hp' G' =>
      ∃ i:(Nat→Prop) × Mem × (Nat→Value),OutM G 43 i.1 i.2.1 (q1u s (nthP (q0v P n cl)) (q0v P n cl).length cl) i.2.2 ∧
        Le 4 [u] hp' G' [.any] [.muts i.1,q3i A n q cl,styB s,q66 s (.own 5) (.own 6),.gone,.own 37 2 (q1u s (nthP (q0v P n cl)) (q0v P n cl).length cl).length (rowV i.2.2 (q1u s (nthP (q0v P n cl)) (q0v P n cl).length cl)),
          .own 43 2 (q10 s (nthP (q0v P n cl)) (q0v P n cl).length cl).length (q0s (q10 s (nthP (q0v P n cl)) (q0v P n cl).length cl))] i.2.1:=by
  have hS:=z82 (q:=q) (cl:=cl) h (by omega)
  have hok:=fun i (hi:i<(q0v P n cl).length)=>z1m (cl:=cl) (Q:=okP) hP hi
  have hlen:=q59 P n cl
  have hne:=fun i=>z79 (P:=P) (n:=n) (cl:=cl) (i:=i)
  generalize q0v P n cl=pts at *
  have hcap:=hs.cap
  have hw:=hs.w
  have hlim:=hs.lim
  unfold q66 q3i styB
  refine q0f tab_ok Tryz.func36 (fun vs w=>by kernel_rfl) (n0:=4) rfl ?_
  (repeat ((try (conv=>whnf));(refine stQ ?_)))
  conv=>whnf
  refine q5l (fun vs w=>by kernel_rfl) (.alone fun _=>rfl) (by kernel_rfl) hS fun A1 c1 G1 hG1 hc1 hm1 hx1=>?_
  have hpt:=PtsM.frozen hx1
  clear hx1 hS h
  rcases (show pts.length=0∨pts.length=1∨1<pts.length by omega) with hN |hN |hN
  · unfold q1u q10
    rw [if_pos hN,if_pos hN]
    (repeat ((try (conv=>whnf));(refine stQ ?_)))
    conv=>whnf
    refine ⟨(fun _=>False,G1,fun _=>.slice none 0 0),OutM.nil.base hG1,?_⟩
    refine q15 37 2 ?_
    conv=>whnf
    refine q15 43 2 ?_
    conv=>whnf
    exact q0h (n:=7) rfl rfl (by exact flQ) (q0p (fun _ h=>h) (q0c (by exact flQ) (q0c (by exact flQ) (q0c (by exact flQ) (q0j (q0d rfl rfl (q0d rfl rfl q0e)))))))
  · obtain ⟨p0,rfl⟩:=List.length_eq_one_iff.1 hN
    obtain ⟨p1,rfl⟩:∃ p1,A1=some p1:=by
      obtain ⟨b,off,e,_⟩:=hpt 0 _ (q1h (by simp))
      exact ⟨_,e⟩
    have f0:=fun K (k':K [Value.int .i64 p0.1,.int .i64 p0.2])=>hpt.at_ (z:=(0:Int)) (i:=0) rfl (by simp) (K:=K) k'
    have o0:=hok 0 (by simp)
    rw [show nthP [p0] 0=p0 from rfl] at o0
    clear hok hne hlen
    unfold q1u q10
    rw [if_neg (show ¬ [p0].length=0 by simp),if_neg (show ¬ [p0].length=0 by simp),if_pos (show [p0].length=1 from rfl),if_pos (show [p0].length=1 from rfl),show nthP [p0] 0=p0 from rfl]
    have hN1:(([p0]:List (Int × Int)).length:Int)=1:=rfl
    have hh:=fun G=>q3d (G:=G) (a:=s.w) (b:=2) (by omega) (by omega)
    have hnb:=z3m (a:=s.w) (b:=2) (K:=512) (by omega) (by omega) (by omega)
    unfold okP at o0
    unfold dotP
    generalize near s.w 2=nh at *
    rcases (show s.cap=0∨s.cap=1∨s.cap=2 by omega) with hc |hc |hc
    · rw [if_neg (by omega),if_neg (by omega)]
      (repeat ((try (conv=>whnf));(first |(refine f0 _ ?_) |((refine q0n (by rfl) ?_ ?_);(· first |exact Mem.le_refl _ |assumption)) |(refine s3Q ?_) |(with_reducible first |refine q0f tab_ok Tryz.func53 (fun vs w=>by kernel_rfl) (by rfl) ?_ |refine q0b (fun vs w=>by kernel_rfl) (by kernel_rfl) ((hh G1)) ?_ |refine q0a (fun vs w=>by kernel_rfl) (by kernel_rfl) ((hh G1)) ?_))))
      conv=>whnf
      refine ⟨(fun _=>False,G1,fun _=>.slice none 0 0),OutM.nil.base hG1,?_⟩
      dsimp only
      refine z4q (fr':=[.any]) (hp':=[.muts fun _=>False,q3i A n q cl,styB s,q66 s (.val (.slice none 0 0)) (.val (.slice none 0 0)),.gone]) (G':=G1) (q0h (n:=5) rfl rfl (by exact flQ) (q0p (fun _ h=>h) (q0c (by exact flQ) (q0c (by exact flQ) (q0c (by exact flQ) (q0j q0e)))))) ?_
      conv=>whnf
      refine q15 37 2 ?_
      conv=>whnf
      refine q15 43 2 ?_
      conv=>whnf
      exact q0h (n:=7) rfl rfl (by exact flQ) (q0p (fun _ h=>h) (q0c (by exact flQ) (q0c (by exact flQ) (q0c (by exact flQ) (q0j (q0d rfl rfl (q0d rfl rfl q0e)))))))
    · rw [if_neg (by omega),if_pos hc]
      (repeat ((try (conv=>whnf));(first |(refine f0 _ ?_) |(with_reducible refine q0o tab_ok (by kernel_rfl) [0,1,2,3,4,5,6] [7] [8,9,10,11] (by decide +kernel) ?_) |((refine q0n (by rfl) ?_ ?_);(· first |exact Mem.le_refl _ |assumption)) |(refine s3Q ?_) |(with_reducible first |refine q0f tab_ok Tryz.func53 (fun vs w=>by kernel_rfl) (by rfl) ?_ |refine q0b (fun vs w=>by kernel_rfl) (by kernel_rfl) ((hh G1)) ?_ |refine q0a (fun vs w=>by kernel_rfl) (by kernel_rfl) ((hh G1)) ?_))))
      conv=>whnf
      refine ⟨(fun _=>False,G1,fun _=>.slice none 0 0),OutM.nil.base hG1,?_⟩
      dsimp only
      refine z4q (fr':=[.any]) (hp':=[.muts fun _=>False,q3i A n q cl,styB s,q66 s (.own 8) (.own 7),.gone,.gone,.gone,.own 43 2 1 [.int .i64 p0.1,.int .i64 p0.2],.own 37 2 0 []]) (G':=G1) ?_ ?_
      · conv=>whnf
        refine q15 37 2 ?_
        conv=>whnf
        exact q0h (n:=9) rfl rfl (by exact flQ) (q0p (fun _ h=>h) (q0c (by exact flQ) (q0c (by exact flQ) (q0c (by exact flQ) (q0j (q0j (q0j (q0d rfl rfl (q0d rfl rfl q0e)))))))))
      · conv=>whnf
        refine q0k 8 5 rfl rfl rfl rfl ?_
        conv=>whnf
        refine q0k 7 6 rfl rfl rfl rfl ?_
        conv=>whnf
        exact q0h (n:=7) rfl rfl (by exact flQ) (q0p (fun _ h=>h) (q0c (by exact flQ) (q0c (by exact flQ) (q0c (by exact flQ) (q0j (q0d rfl rfl (q0d rfl rfl q0e)))))))
    · rw [if_pos hc,if_neg (by omega)]
      have sp:q0l p0:=by unfold q0l q0u;omega
      have v1:=fun G=>q4r (G:=G) (0-nh) (0-nh)
      have v2:=fun G=>q4r (G:=G) (0-nh) nh
      have v3:=fun G=>q4r (G:=G) nh nh
      have v4:=fun G=>q4r (G:=G) nh (0-nh)
      have sh:q0u nh∧q0u (0-nh):=by unfold q0u;omega
      have e1:p0.1+(0-nh)=p0.1-nh:=by omega
      have e2:p0.2+(0-nh)=p0.2-nh:=by omega
      have p1':∀ G,Gives Tryz.prog 56 [pA p0,ptA (0-nh) (0-nh)] G (ptA (p0.1-nh) (p0.2-nh)):=fun G=>e1 ▸ e2 ▸ q25 (G:=G) sp.1 sp.2 sh.2 sh.2
      have p2':∀ G,Gives Tryz.prog 56 [pA p0,ptA (0-nh) nh] G (ptA (p0.1-nh) (p0.2+nh)):=fun G=>e1 ▸ q25 (G:=G) sp.1 sp.2 sh.2 sh.1
      have p3':∀ G,Gives Tryz.prog 56 [pA p0,ptA nh nh] G (ptA (p0.1+nh) (p0.2+nh)):=fun G=>q25 (G:=G) sp.1 sp.2 sh.1 sh.1
      have p4':∀ G,Gives Tryz.prog 56 [pA p0,ptA nh (0-nh)] G (ptA (p0.1+nh) (p0.2-nh)):=fun G=>e2 ▸ q25 (G:=G) sp.1 sp.2 sh.1 sh.2
      (repeat ((try (conv=>whnf));(first |(refine f0 _ ?_) |(with_reducible refine q24 tab_ok (by kernel_rfl) 26 [] (by decide +kernel) ?_) |((refine q0n (by rfl) ?_ ?_);(· first |exact Mem.le_refl _ |assumption)) |(with_reducible refine q01 tab_ok ?_) |((with_reducible refine mustP.mk ?_ ?_);(· exact Nat.le_of_ble_eq_true rfl)) |(refine q1f tab_ok 0 12 7 rfl rfl rfl rfl rfl rfl rfl fun A9 cap9 S9 G9 hN9 hR9=>?_) |(refine s3Q ?_) |(with_reducible first |refine q0f tab_ok Tryz.func53 (fun vs w=>by kernel_rfl) (by rfl) ?_ |refine q0b (fun vs w=>by kernel_rfl) (by kernel_rfl) ((hh G1)) ?_ |refine q0a (fun vs w=>by kernel_rfl) (by kernel_rfl) ((hh G1)) ?_ |refine q0b (fun vs w=>by kernel_rfl) (by kernel_rfl) ((v1 G1)) ?_ |refine q0a (fun vs w=>by kernel_rfl) (by kernel_rfl) ((v1 G1)) ?_ |refine q0b (fun vs w=>by kernel_rfl) (by kernel_rfl) ((v2 G1)) ?_ |refine q0a (fun vs w=>by kernel_rfl) (by kernel_rfl) ((v2 G1)) ?_ |refine q0b (fun vs w=>by kernel_rfl) (by kernel_rfl) ((v3 G1)) ?_ |refine q0a (fun vs w=>by kernel_rfl) (by kernel_rfl) ((v3 G1)) ?_ |refine q0b (fun vs w=>by kernel_rfl) (by kernel_rfl) ((v4 G1)) ?_ |refine q0a (fun vs w=>by kernel_rfl) (by kernel_rfl) ((v4 G1)) ?_ |refine q0b (fun vs w=>by kernel_rfl) (by kernel_rfl) ((p1' G1)) ?_ |refine q0a (fun vs w=>by kernel_rfl) (by kernel_rfl) ((p1' G1)) ?_ |refine q0b (fun vs w=>by kernel_rfl) (by kernel_rfl) ((p2' G1)) ?_ |refine q0a (fun vs w=>by kernel_rfl) (by kernel_rfl) ((p2' G1)) ?_ |refine q0b (fun vs w=>by kernel_rfl) (by kernel_rfl) ((p3' G1)) ?_ |refine q0a (fun vs w=>by kernel_rfl) (by kernel_rfl) ((p3' G1)) ?_ |refine q0b (fun vs w=>by kernel_rfl) (by kernel_rfl) ((p4' G1)) ?_ |refine q0a (fun vs w=>by kernel_rfl) (by kernel_rfl) ((p4' G1)) ?_ |refine q0f tab_ok Tryz.func55 (fun vs w=>by kernel_rfl) (by rfl) ?_))))
      conv=>whnf
      have hR:RowS S9 G9 43 2 (.slice A9 4 cap9) [(p0.1-nh,p0.2-nh),(p0.1-nh,p0.2+nh),(p0.1+nh,p0.2+nh),(p0.1+nh,p0.2-nh)].length (q0s [(p0.1-nh,p0.2-nh),(p0.1-nh,p0.2+nh),(p0.1+nh,p0.2+nh),(p0.1+nh,p0.2-nh)]):=hR9
      refine ⟨(S9,G9,putV (fun _=>.slice none 0 0) 0 (.slice A9 4 cap9)),((OutM.nil (G0:=G1) (S:=fun _=>False)).add hN9 hR).base hG1,?_⟩
      dsimp only
      refine z4q (fr':=[.any]) (hp':=[.muts S9,q3i A n q cl,styB s,q66 s (.own 13) (.own 14),.gone,.gone,.gone,.gone,.gone,.gone,.gone,.gone,.gone,.own 37 2 1 [.slice A9 4 cap9,.bool true],.own 43 2 0 []]) (G':=G9) ?_ ?_
      · conv=>whnf
        refine q15 43 2 ?_
        conv=>whnf
        exact q0h (n:=15) rfl rfl (by exact flQ) (q0p (fun _ h=>h) (q0c (by exact flQ) (q0c (by exact flQ) (q0c (by exact flQ) (q0j (q0j (q0j (q0j (q0j (q0j (q0j (q0j (q0j (q0d rfl rfl (q0d rfl rfl q0e)))))))))))))))
      · conv=>whnf
        refine q0k 13 5 rfl rfl rfl rfl ?_
        conv=>whnf
        refine q0k 14 6 rfl rfl rfl rfl ?_
        conv=>whnf
        exact q0h (n:=7) rfl rfl (by exact flQ) (q0p (fun _ h=>h) (q0c (by exact flQ) (q0c (by exact flQ) (q0c (by exact flQ) (q0j (q0d rfl rfl (q0d rfl rfl q0e)))))))
  · obtain ⟨p1,hA1⟩:∃ p1,A1=some p1:=by
      obtain ⟨b,off,e,_⟩:=hpt 0 _ (q1h (by omega))
      exact ⟨_,e⟩
    subst hA1
    (repeat ((try (conv=>whnf));(refine stQ ?_)))
    conv=>whnf
    refine q07 tab_ok (fun i=>i≤pts.length) (fun (i:Nat)=>[(26,.val (.int .i64 i)),(5,.own 5)])
      (fun i=>[.muts fun _=>False,q3i A n q cl,styB s,q66 s (.val (.slice none 0 0)) (.val (.slice none 0 0)),q3i A n q cl,.own 98 10 (cntS cl pts.length i) (z1t s.w (sdL (nthP pts) pts.length (cntS cl pts.length i)))]) (fun i=>pts.length-i) 0 (Nat.zero_le _) ?_ ?_
    · refine q15 98 10 ?_
      conv=>whnf
      rw [show cntS cl pts.length 0=0 by unfold cntS;split <;> simp]
      ((refine q0g ?_);(conv=>whnf);(refine q0h (by rfl) (by rfl) flQ ?_))
      exact q0p (fun _ h=>h) (q0c (by exact flQ) (q0c (by exact flQ) (q0c (by exact flQ) (q0c (by exact flQ) (q0d rfl rfl q0e)))))
    · rintro i hi
      rcases Nat.lt_or_ge i pts.length with h1 |h1
      · have o0:=hok i h1
        have c0:=fun K (k':K [Value.int .i64 (nthP pts i).1,.int .i64 (nthP pts i).2])=>hpt.at_ (z:=(i:Int)) (i:=i) (by omega) h1 (K:=K) k'
        rcases (show i+1<pts.length∨(i+1=pts.length∧cl=true)∨(i+1=pts.length∧cl=false) by cases cl <;> simp <;> omega) with h2 |⟨h2,rfl⟩ |⟨h2,rfl⟩
        · have hc1:cntS cl pts.length (i+1)=cntS cl pts.length i+1:=by unfold cntS;split <;> omega
          have hc2:cntS cl pts.length i=i:=by unfold cntS;split <;> omega
          have hnx:nxP pts.length i=i+1:=by unfold nxP;split <;> omega
          have o1:=hok (i+1) (by omega)
          have hd:=hne i hN (.inl h2)
          rw [hnx] at hd
          have hm:=z0v (G:=G1) hw hd o0 o1
          have c1':=fun K (k':K [Value.int .i64 (nthP pts (i+1)).1,.int .i64 (nthP pts (i+1)).2])=>hpt.at_ (z:=((i:Int)+1)) (i:=i+1) (by omega) (by omega) (K:=K) k'
          (repeat ((try (conv=>whnf));(first |(refine c0 _ ?_) |(refine c1' _ ?_) |(with_reducible refine q0o tab_ok (by kernel_rfl) [0,1,2,3,4,5,6,7,8,9,10,11] [12] [13,14,15] (by decide +kernel) ?_) |((refine q0n (by rfl) ?_ ?_);(· first |exact Mem.le_refl _ |assumption)) |(refine s3Q ?_) |(with_reducible first |refine q0b (fun vs w=>by kernel_rfl) (by kernel_rfl) (hm) ?_ |refine q0a (fun vs w=>by kernel_rfl) (by kernel_rfl) (hm) ?_))))
          conv=>whnf
          refine ⟨i+1,by omega,by omega,?_⟩
          rw [hc1,sdL,z6c,hc2,hnx]
          refine q0k 8 5 rfl rfl rfl rfl ?_
          conv=>whnf
          ((refine q0g ?_);(conv=>whnf);(refine q0h (by rfl) (by rfl) flQ ?_))
          exact q0p (fun _ h=>h) (q0c (by exact flQ) (q0c (by exact flQ) (q0c (by exact flQ) (q0c (by exact flQ) (q0d rfl rfl q0e)))))
        · have hc1:cntS true pts.length (i+1)=cntS true pts.length i+1:=by simp [cntS]
          have hc2:cntS true pts.length i=i:=by simp [cntS]
          have hnx:nxP pts.length i=0:=by unfold nxP;split <;> omega
          have o1:=hok (0) (by omega)
          have hd:=hne i hN (.inr ⟨rfl,h1⟩)
          rw [hnx] at hd
          have hm:=z0v (G:=G1) hw hd o0 o1
          have c1':=fun K (k':K [Value.int .i64 (nthP pts (0)).1,.int .i64 (nthP pts (0)).2])=>hpt.at_ (z:=(0:Int)) (i:=0) rfl (by omega) (K:=K) k'
          (repeat ((try (conv=>whnf));(first |(refine c0 _ ?_) |(refine c1' _ ?_) |(with_reducible refine q0o tab_ok (by kernel_rfl) [0,1,2,3,4,5,6,7,8,9] [10] [11,12,13] (by decide +kernel) ?_) |((refine q0n (by rfl) ?_ ?_);(· first |exact Mem.le_refl _ |assumption)) |(refine s3Q ?_) |(with_reducible first |refine q0b (fun vs w=>by kernel_rfl) (by kernel_rfl) (hm) ?_ |refine q0a (fun vs w=>by kernel_rfl) (by kernel_rfl) (hm) ?_))))
          conv=>whnf
          refine ⟨i+1,by omega,by omega,?_⟩
          rw [hc1,sdL,z6c,hc2,hnx]
          refine q0k 8 5 rfl rfl rfl rfl ?_
          conv=>whnf
          ((refine q0g ?_);(conv=>whnf);(refine q0h (by rfl) (by rfl) flQ ?_))
          exact q0p (fun _ h=>h) (q0c (by exact flQ) (q0c (by exact flQ) (q0c (by exact flQ) (q0c (by exact flQ) (q0d rfl rfl q0e)))))
        · have hc1:cntS false pts.length (i+1)=cntS false pts.length i:=by unfold cntS;simp;omega
          (repeat ((try (conv=>whnf));(first |(refine c0 _ ?_) |(refine stQ ?_))))
          conv=>whnf
          refine ⟨i+1,by omega,by omega,?_⟩
          rw [hc1]
          ((refine q0g ?_);(conv=>whnf);(refine q0h (by rfl) (by rfl) flQ ?_))
          exact q0p (fun _ h=>h) (q0c (by exact flQ) (q0c (by exact flQ) (q0c (by exact flQ) (q0c (by exact flQ) (q0d rfl rfl q0e)))))
      · obtain rfl:i=pts.length:=by omega
        clear hi h1
        have hM2:cntS cl pts.length pts.length=(if cl=true then pts.length else pts.length-1):=by unfold cntS;cases cl <;> simp
        have hM1:1≤cntS cl pts.length pts.length∧cntS cl pts.length pts.length≤pts.length:=by rw [hM2];split <;> omega
        generalize cntS cl pts.length pts.length=m at *
        (repeat ((try (conv=>whnf));(refine stQ ?_)))
        conv=>whnf
        refine q3h tab_ok (ι:=Nat × (Nat→Prop) × Mem × (Nat→Value)) (fun t=>t.1≤m∧OutM G1 43 t.2.1 t.2.2.1 (q1z s (nthP pts) pts.length t.1) t.2.2.2) (fun t=>[(69,.val (.int .i64 t.1))])
          (fun t=>[.muts t.2.1,q3i A n q cl,styB s,q66 s (.own 6) (.val (.slice none 0 0)),q3i A n q cl,.own 98 10 m (z1t s.w (sdL (nthP pts) pts.length m)),.own 37 2 (q1z s (nthP pts) pts.length t.1).length (rowV t.2.2.2 (q1z s (nthP pts) pts.length t.1))]) (fun t=>t.2.2.1) (fun t=>m-t.1) (0,(fun _=>False),G1,fun _=>.slice none 0 0) ⟨Nat.zero_le _,OutM.nil⟩ ?_ ?_
        · refine q15 37 2 ?_
          conv=>whnf
          ((refine q0g ?_);(conv=>whnf);(refine q0h (by rfl) (by rfl) flQ ?_))
          exact q0p (fun _ h=>h) (q0c (by exact flQ) (q0c (by exact flQ) (q0c (by exact flQ) (q0c (by exact flQ) (q0d rfl rfl (q0d rfl rfl q0e))))))
        · rintro ⟨k,S,M,Bv⟩ ⟨hk,hO⟩
          dsimp only at hk hO ⊢
          have hskl:=q3g s (nthP pts) pts.length k
          rcases Nat.lt_or_ge k m with h2 |h2
          · have hg:=q6s (P:=nthP pts) (n:=pts.length) h2
            have hkn:(k+1)%pts.length=nxP pts.length k:=by
              unfold nxP;split
              · rename_i e;rw [e,Nat.mod_self]
              · exact Nat.mod_eq_of_lt (by omega)
            have hr0:rnd (nthP pts) pts.length k=nthP pts k:=q75 (by omega)
            have hr1:rnd (nthP pts) pts.length (k+1)=nthP pts (nxP pts.length k):=by unfold rnd;rw [hkn]
            have hd:=hne k hN (by cases cl <;> simp at hM2 ⊢ <;> omega)
            have hstep:q1z s (nthP pts) pts.length (k+1)=q1z s (nthP pts) pts.length k++[q8r (rnd (nthP pts) pts.length k) (rnd (nthP pts) pts.length (k+1)) (nrm s.w (rnd (nthP pts) pts.length k) (rnd (nthP pts) pts.length (k+1)))]:=rfl
            rw [hr0,hr1] at hstep
            have o0:=hok k (by omega)
            have o1:=hok (nxP pts.length k) (by rw [← hkn];exact Nat.mod_lt _ (by omega))
            obtain ⟨_,⟨b1,b2⟩,_⟩:=q3b hw hd
            have rd:=fun (K:List Value→Prop) (k':K [Value.int .i64 (nthP pts k).1,.int .i64 (nthP pts k).2,.int .i64 (nthP pts (nxP pts.length k)).1,.int .i64 (nthP pts (nxP pts.length k)).2,.int .i64 ((nthP pts (nxP pts.length k)).1-(nthP pts k).1),.int .i64 ((nthP pts (nxP pts.length k)).2-(nthP pts k).2),.int .i64 (nrm s.w (nthP pts k) (nthP pts (nxP pts.length k))).1,.int .i64 (nrm s.w (nthP pts k) (nthP pts (nxP pts.length k))).2,.int .i64 (hln s.w (nthP pts k) (nthP pts (nxP pts.length k))).1,.int .i64 (hln s.w (nthP pts k) (nthP pts (nxP pts.length k))).2])=>q9f (w:=s.w) (z:=(k:Int)) (by omega) hg k'
            generalize hL:sdL (nthP pts) pts.length m=L at *
            generalize nrm s.w (nthP pts k) (nthP pts (nxP pts.length k))=nv at *
            generalize hln s.w (nthP pts k) (nthP pts (nxP pts.length k))=ev at *
            generalize nthP pts (nxP pts.length k)=pb at *
            generalize nthP pts k=pa at *
            unfold okP at o0 o1
            have sa:q0l pa:=by unfold q0l q0u;omega
            have sb:q0l pb:=by unfold q0l q0u;omega
            have sn:q0l nv:=by unfold q0l q0u;omega
            have a1:=fun G=>z3r (G:=G) sa sn
            have a2:=fun G=>z3r (G:=G) sb sn
            have a3:=fun G=>z00 (G:=G) sb sn
            have a4:=fun G=>z00 (G:=G) sa sn
            generalize q1z s (nthP pts) pts.length k=sk at *
            (repeat ((try (conv=>whnf));(first |(refine rd _ ?_) |(with_reducible refine q0o tab_ok (by kernel_rfl) [0,1,2,3,4,6,7,8,9,11,12,13,14,16,17,18,19] [5,10,15,20] [21,22] (by decide +kernel) ?_) |((refine q0n (by rfl) ?_ ?_);(· first |exact Mem.le_refl _ |assumption)) |(with_reducible refine q01 tab_ok ?_) |((with_reducible refine mustP.mk ?_ ?_);(· exact Nat.le_of_ble_eq_true rfl)) |(refine q1f tab_ok 0 14 9 rfl rfl rfl rfl rfl rfl rfl fun A9 cap9 S9 G9 hN9 hR9=>?_) |(refine s3Q ?_) |(with_reducible first |refine q0b (fun vs w=>by kernel_rfl) (by kernel_rfl) ((a1 M)) ?_ |refine q0a (fun vs w=>by kernel_rfl) (by kernel_rfl) ((a1 M)) ?_ |refine q0b (fun vs w=>by kernel_rfl) (by kernel_rfl) ((a2 M)) ?_ |refine q0a (fun vs w=>by kernel_rfl) (by kernel_rfl) ((a2 M)) ?_ |refine q0b (fun vs w=>by kernel_rfl) (by kernel_rfl) ((a3 M)) ?_ |refine q0a (fun vs w=>by kernel_rfl) (by kernel_rfl) ((a3 M)) ?_ |refine q0b (fun vs w=>by kernel_rfl) (by kernel_rfl) ((a4 M)) ?_ |refine q0a (fun vs w=>by kernel_rfl) (by kernel_rfl) ((a4 M)) ?_ |refine q0f tab_ok Tryz.func55 (fun vs w=>by kernel_rfl) (by rfl) ?_))))
            conv=>whnf
            have hR:RowS S9 G9 43 2 (.slice A9 4 cap9) (q8r pa pb nv).length (q0s (q8r pa pb nv)):=hR9
            refine ⟨(k+1,S9,G9,putV Bv sk.length (.slice A9 4 cap9)),⟨by dsimp only;omega,by dsimp only;rw [hstep];exact hO.add hN9 hR⟩,by dsimp only;omega,?_⟩
            dsimp only
            rw [hstep]
            refine q0k 15 6 rfl rfl rfl rfl ?_
            conv=>whnf
            ((refine q0g ?_);(conv=>whnf);(refine q0h (by rfl) (by rfl) flQ ?_))
            exact q0p (fun _ h=>h) (q0c (by exact flQ) (q0c (by exact flQ) (q0c (by exact flQ) (q0c (by exact flQ) (q0d rfl rfl (q0d (by simp) (q17 Bv sk (q8r pa pb nv) (.slice A9 4 cap9)).symm q0e))))))
          · obtain rfl:m=k:=by omega
            clear h2 hk
            have hmd:m=pts.length-1+(if cl=true then 1 else 0):=by rw [hM2];cases cl <;> simp <;> omega
            have hskl:=q3g s (nthP pts) pts.length m
            have hOP:q1u s (nthP pts) pts.length cl=q1z s (nthP pts) pts.length m++q0r s (nthP pts) pts.length (if cl=true then pts.length else pts.length-2)++(if cl=false∧s.cap=2 then [capA (nthP pts 0) (nrm s.w (nthP pts 0) (nthP pts 1)) (hln s.w (nthP pts 0) (nthP pts 1)) (-1),capA (nthP pts (pts.length-1)) (nrm s.w (nthP pts (pts.length-2)) (nthP pts (pts.length-1))) (hln s.w (nthP pts (pts.length-2)) (nthP pts (pts.length-1))) 1] else []):=by
              unfold q1u;rw [if_neg (by omega),if_neg (by omega),hM2]
            have hOD:q10 s (nthP pts) pts.length cl=q1o s (nthP pts) pts.length (if cl=true then pts.length else pts.length-2)++(if cl=false∧s.cap=1 then [nthP pts 0,nthP pts (pts.length-1)] else []):=by
              unfold q10;rw [if_neg (by omega),if_neg (by omega)]
            generalize q1z s (nthP pts) pts.length m=sk at *
            (repeat ((try (conv=>whnf));(refine stQ ?_)))
            conv=>whnf
            refine q3h tab_ok (ι:=Nat × (Nat→Prop) × Mem × (Nat→Value)) (fun t=>t.1≤m-1∧OutM G1 43 t.2.1 t.2.2.1 (sk++q0r s (nthP pts) pts.length t.1) t.2.2.2) (fun t=>[(10,.val (.int .i64 (t.1+1)))])
              (fun t=>[.muts t.2.1,q3i A n q cl,styB s,q66 s (.own 6) (.own 7),q3i A n q cl,.own 98 10 m (z1t s.w (sdL (nthP pts) pts.length m)),.own 37 2 (sk++q0r s (nthP pts) pts.length t.1).length (rowV t.2.2.2 (sk++q0r s (nthP pts) pts.length t.1)),.own 43 2 (q1o s (nthP pts) pts.length t.1).length (q0s (q1o s (nthP pts) pts.length t.1))]) (fun t=>t.2.2.1) (fun t=>m-1-t.1) (0,S,M,Bv) ⟨Nat.zero_le _,by dsimp only;rw [q0r,List.append_nil];exact hO⟩ ?_ ?_
            · refine q15 43 2 ?_
              conv=>whnf
              dsimp only
              rw [q0r,List.append_nil]
              ((refine q0g ?_);(conv=>whnf);(refine q0h (by rfl) (by rfl) flQ ?_))
              exact q0p (fun _ h=>h) (q0c (by exact flQ) (q0c (by exact flQ) (q0c (by exact flQ) (q0c (by exact flQ) (q0d rfl rfl (q0d rfl rfl (q0d rfl rfl q0e)))))))
            · clear hO
              rintro ⟨j,S,M,Bv⟩ ⟨hj,hO⟩
              dsimp only at hj hO ⊢
              have hjl:=q3s s (nthP pts) pts.length j
              have hdl:=q3t s (nthP pts) pts.length j
              rcases Nat.lt_or_ge (j+1) m with h2 |h2
              · have hga:=q6s (P:=nthP pts) (n:=pts.length) (show j<m by omega)
                have hgb:=q6s (P:=nthP pts) (n:=pts.length) h2
                have hnx:nxP pts.length j=j+1:=by unfold nxP;rw [if_neg (by omega)]
                have hkn:(j+2)%pts.length=nxP pts.length (j+1):=by
                  unfold nxP;split
                  · rename_i e;rw [show j+2=pts.length from e,Nat.mod_self]
                  · exact Nat.mod_eq_of_lt (by omega)
                rw [hnx] at hga
                have hd1:=hne j hN (.inl (by omega))
                have hd2:=hne (j+1) hN (by cases cl <;> simp at hM2 ⊢ <;> omega)
                rw [hnx] at hd1
                have o0:=hok j (by omega)
                have o1:=hok (j+1) (by omega)
                have o2:=hok (nxP pts.length (j+1)) (by rw [← hkn];exact Nat.mod_lt _ (by omega))
                have hr0:rnd (nthP pts) pts.length j=nthP pts j:=q75 (by omega)
                have hr1:rnd (nthP pts) pts.length (j+1)=nthP pts (j+1):=q75 (by omega)
                have hr2:rnd (nthP pts) pts.length (j+2)=nthP pts (nxP pts.length (j+1)):=by unfold rnd;rw [hkn]
                have hsP:q0r s (nthP pts) pts.length (j+1)=q0r s (nthP pts) pts.length j++(if s.join=1 then [] else (q4a s (rnd (nthP pts) pts.length j) (rnd (nthP pts) pts.length (j+1)) (rnd (nthP pts) pts.length (j+2))).toList):=rfl
                have hsD:q1o s (nthP pts) pts.length (j+1)=q1o s (nthP pts) pts.length j++(if s.join=1 then [rnd (nthP pts) pts.length (j+1)] else []):=rfl
                rw [hr0,hr1,hr2] at hsP
                rw [hr1] at hsD
                unfold q4a at hsP
                have ra:=fun (K:List Value→Prop) (k':K [Value.int .i64 (nthP pts j).1,.int .i64 (nthP pts j).2,.int .i64 (nthP pts (j+1)).1,.int .i64 (nthP pts (j+1)).2,.int .i64 ((nthP pts (j+1)).1-(nthP pts j).1),.int .i64 ((nthP pts (j+1)).2-(nthP pts j).2),.int .i64 (nrm s.w (nthP pts j) (nthP pts (j+1))).1,.int .i64 (nrm s.w (nthP pts j) (nthP pts (j+1))).2,.int .i64 (hln s.w (nthP pts j) (nthP pts (j+1))).1,.int .i64 (hln s.w (nthP pts j) (nthP pts (j+1))).2])=>q9f (w:=s.w) (z:=((j:Int)+1-1)) (by omega) hga k'
                have rb:=fun (K:List Value→Prop) (k':K [Value.int .i64 (nthP pts (j+1)).1,.int .i64 (nthP pts (j+1)).2,.int .i64 (nthP pts (nxP pts.length (j+1))).1,.int .i64 (nthP pts (nxP pts.length (j+1))).2,.int .i64 ((nthP pts (nxP pts.length (j+1))).1-(nthP pts (j+1)).1),.int .i64 ((nthP pts (nxP pts.length (j+1))).2-(nthP pts (j+1)).2),.int .i64 (nrm s.w (nthP pts (j+1)) (nthP pts (nxP pts.length (j+1)))).1,.int .i64 (nrm s.w (nthP pts (j+1)) (nthP pts (nxP pts.length (j+1)))).2,.int .i64 (hln s.w (nthP pts (j+1)) (nthP pts (nxP pts.length (j+1)))).1,.int .i64 (hln s.w (nthP pts (j+1)) (nthP pts (nxP pts.length (j+1)))).2])=>q9f (w:=s.w) (z:=((j:Int)+1)) (by omega) hgb k'
                obtain ⟨_,⟨n1,n2⟩,_⟩:=q3b hw hd1
                obtain ⟨_,⟨m1,m2⟩,_⟩:=q3b hw hd2
                generalize hL:sdL (nthP pts) pts.length m=L at *
                generalize nrm s.w (nthP pts j) (nthP pts (j+1))=nn at *
                generalize nrm s.w (nthP pts (j+1)) (nthP pts (nxP pts.length (j+1)))=mm at *
                generalize hln s.w (nthP pts j) (nthP pts (j+1))=en at *
                generalize hln s.w (nthP pts (j+1)) (nthP pts (nxP pts.length (j+1)))=em at *
                generalize (nthP pts (nxP pts.length (j+1)))=pc at *
                generalize (nthP pts (j+1))=pb at *
                generalize (nthP pts j)=pa at *
                generalize q0r s (nthP pts) pts.length j=jp at *
                generalize q1o s (nthP pts) pts.length j=jd at *
                have hll:(sk++jp).length=sk.length+jp.length:=List.length_append
                generalize hspj:sk++jp=sj at *
                unfold okP at o0 o1 o2
                have hct:q2l pa pb pc=(pb.1-pa.1)*(pc.2-pb.2)-(pb.2-pa.2)*(pc.1-pb.1):=rfl
                have hcr:=fun G=>z4b (G:=G) (x:=pb.1-pa.1) (y:=pb.2-pa.2) (u:=pc.1-pb.1) (v:=pc.2-pb.2) (by omega) (by omega) (by omega) (by omega)
                have sb:q0l pb:=by unfold q0l q0u;omega
                have sn:q0l nn:=by unfold q0l q0u;omega
                have sm:q0l mm:=by unfold q0l q0u;omega
                have hdn:=fun G=>q73 (G:=G) (x:=nn.1) (y:=nn.2) (u:=nn.1) (v:=nn.2) (by omega) (by omega) (by omega) (by omega)
                have hdm:=fun G=>q73 (G:=G) (x:=nn.1) (y:=nn.2) (u:=mm.1) (v:=mm.2) (by omega) (by omega) (by omega) (by omega)
                change ∀ G,Gives _ _ _ G (.val (.int .i64 (dotV nn nn))) at hdn
                change ∀ G,Gives _ _ _ G (.val (.int .i64 (dotV nn mm))) at hdm
                change ∀ G,Gives _ _ _ G (.val (.int .i64 (q2l pa pb pc))) at hcr
                have q1:=z2y n1 n2 n1 n2
                have q2:=z2y n1 n2 m1 m2
                have l1:=q04 (a:=s.lim) (b:=s.lim) (A:=1024) (B:=1024) (by omega) (by omega)
                have lb:=q04 (a:=s.lim*s.lim) (b:=dotV nn nn+dotV nn mm) (A:=1048576) (B:=1048576) (by omega) (by omega)
                by_cases hj1:s.join=1
                · rw [if_pos hj1] at hsP hsD
                  (repeat ((try (conv=>whnf));(first |(refine ra _ ?_) |(refine rb _ ?_) |(with_reducible first |refine q0o tab_ok (by kernel_rfl) [0,1,2,3,4,5,6,7,8,9] [] [10] (by decide +kernel) ?_ |refine q0o tab_ok (by kernel_rfl) [0,1,2,3,4,5,6] [7] [8,9,10,11] (by decide +kernel) ?_) |((refine q0n (by rfl) ?_ ?_);(· first |exact Mem.le_refl _ |assumption)) |(refine s3Q ?_) |(with_reducible refine q0f tab_ok Tryz.func58 (fun vs w=>by kernel_rfl) (by rfl) ?_))))
                  conv=>whnf
                  have hsk:sk++q0r s (nthP pts) pts.length (j+1)=sj:=by rw [hsP,List.append_nil,hspj]
                  refine ⟨(j+1,S,M,Bv),⟨by dsimp only;omega,by dsimp only;rw [hsk];exact hO⟩,by dsimp only;omega,?_⟩
                  dsimp only
                  rw [hsk,hsD]
                  refine q0k 12 7 rfl rfl rfl rfl ?_
                  conv=>whnf
                  ((refine q0g ?_);(conv=>whnf);(refine q0h (by rfl) (by rfl) flQ ?_))
                  exact q0p (fun _ h=>h) (q0c (by exact flQ) (q0c (by exact flQ) (q0c (by exact flQ) (q0c (by exact flQ) (q0d rfl rfl (q0d rfl rfl (q0d (by simp) (q03 jd [pb]).symm q0e)))))))
                · rw [if_neg hj1] at hsP hsD
                  rw [List.append_nil] at hsD
                  unfold z52 at hsP
                  rcases Int.lt_trichotomy (q2l pa pb pc) 0 with hc |hc |hc
                  · have hk:(if 0<q2l pa pb pc then (-1:Int) else 1)=1:=by rw [if_neg (by omega)]
                    rw [if_neg (show ¬ q2l pa pb pc=0 by omega),hk] at hsP
                    have tn:=fun G=>q4z (G:=G) (v:=nn) (k:=1) sn (by omega)
                    have tm:=fun G=>q4z (G:=G) (v:=mm) (k:=1) sm (by omega)
                    have pn:=fun G=>q6b (G:=G) (p:=pb) (v:=nn) (k:=1) sb sn (by omega)
                    have pm:=fun G=>q6b (G:=G) (p:=pb) (v:=mm) (k:=1) sb sm (by omega)
                    by_cases hj:s.join=0
                    · by_cases hp:0<dotV nn nn+dotV nn mm
                      · by_cases hle:512*dotV nn nn≤s.lim*s.lim*(dotV nn nn+dotV nn mm)
                        · rw [if_pos (show q1p s nn mm from ⟨hj,hp,hle⟩)] at hsP
                          have htb:=z0w n1 n2 m1 m2 hp
                          have hst:q0l (tipV nn mm):=by unfold q0l q0u;omega
                          obtain ⟨⟨b1,b2⟩,b3,b4⟩:=htb
                          have tt:=fun G=>q4z (G:=G) (v:=tipV nn mm) (k:=1) hst (by omega)
                          have pt:=fun G=>q6b (G:=G) (p:=pb) (v:=tipV nn mm) (k:=1) sb hst (by omega)
                          have ps:=fun G=>q25 (G:=G) sn.1 sn.2 sm.1 sm.2
                          have t1:=fun G=>q3d (G:=G) (a:=dotV nn nn*(nn.1+mm.1)) (b:=dotV nn nn+dotV nn mm) (by omega) (by omega)
                          have t2:=fun G=>q3d (G:=G) (a:=dotV nn nn*(nn.2+mm.2)) (b:=dotV nn nn+dotV nn mm) (by omega) (by omega)
                          change ∀ G,Gives _ _ _ G (.val (.int .i64 (tipV nn mm).1)) at t1
                          change ∀ G,Gives _ _ _ G (.val (.int .i64 (tipV nn mm).2)) at t2
                          have tv:=fun G=>q4r (G:=G) (tipV nn mm).1 (tipV nn mm).2
                          generalize tipV nn mm=tp at *
                          (repeat ((try (conv=>whnf));(first |(with_reducible refine q0o tab_ok (by kernel_rfl) [0,1,2,3,4,5,8] [6,7] [9,10] (by decide +kernel) ?_) |(refine ra _ ?_) |(refine rb _ ?_) |(with_reducible refine q0o tab_ok (by kernel_rfl) [0,1,2,3,4,5,6,7,8,9] [] [10] (by decide +kernel) ?_) |((refine q0n (by rfl) ?_ ?_);(· first |exact Mem.le_refl _ |assumption)) |(with_reducible refine q01 tab_ok ?_) |((with_reducible refine mustP.mk ?_ ?_);(· exact Nat.le_of_ble_eq_true rfl)) |(refine q1f tab_ok 0 21 16 rfl rfl rfl rfl rfl rfl rfl fun A9 cap9 S9 G9 hN9 hR9=>?_) |(refine s3Q ?_) |(with_reducible first |refine q0f tab_ok Tryz.func58 (fun vs w=>by kernel_rfl) (by rfl) ?_ |refine q0b (fun vs w=>by kernel_rfl) (by kernel_rfl) ((hcr M)) ?_ |refine q0a (fun vs w=>by kernel_rfl) (by kernel_rfl) ((hcr M)) ?_ |refine q0b (fun vs w=>by kernel_rfl) (by kernel_rfl) ((tn M)) ?_ |refine q0a (fun vs w=>by kernel_rfl) (by kernel_rfl) ((tn M)) ?_ |refine q0b (fun vs w=>by kernel_rfl) (by kernel_rfl) ((tm M)) ?_ |refine q0a (fun vs w=>by kernel_rfl) (by kernel_rfl) ((tm M)) ?_ |refine q0b (fun vs w=>by kernel_rfl) (by kernel_rfl) ((pn M)) ?_ |refine q0a (fun vs w=>by kernel_rfl) (by kernel_rfl) ((pn M)) ?_ |refine q0b (fun vs w=>by kernel_rfl) (by kernel_rfl) ((pm M)) ?_ |refine q0a (fun vs w=>by kernel_rfl) (by kernel_rfl) ((pm M)) ?_ |refine q0b (fun vs w=>by kernel_rfl) (by kernel_rfl) ((hdn M)) ?_ |refine q0a (fun vs w=>by kernel_rfl) (by kernel_rfl) ((hdn M)) ?_ |refine q0b (fun vs w=>by kernel_rfl) (by kernel_rfl) ((hdm M)) ?_ |refine q0a (fun vs w=>by kernel_rfl) (by kernel_rfl) ((hdm M)) ?_ |refine q0b (fun vs w=>by kernel_rfl) (by kernel_rfl) ((tt M)) ?_ |refine q0a (fun vs w=>by kernel_rfl) (by kernel_rfl) ((tt M)) ?_ |refine q0b (fun vs w=>by kernel_rfl) (by kernel_rfl) ((pt M)) ?_ |refine q0a (fun vs w=>by kernel_rfl) (by kernel_rfl) ((pt M)) ?_ |refine q0b (fun vs w=>by kernel_rfl) (by kernel_rfl) ((ps M)) ?_ |refine q0a (fun vs w=>by kernel_rfl) (by kernel_rfl) ((ps M)) ?_ |refine q0b (fun vs w=>by kernel_rfl) (by kernel_rfl) ((t1 M)) ?_ |refine q0a (fun vs w=>by kernel_rfl) (by kernel_rfl) ((t1 M)) ?_ |refine q0b (fun vs w=>by kernel_rfl) (by kernel_rfl) ((t2 M)) ?_ |refine q0a (fun vs w=>by kernel_rfl) (by kernel_rfl) ((t2 M)) ?_ |refine q0b (fun vs w=>by kernel_rfl) (by kernel_rfl) ((tv M)) ?_ |refine q0a (fun vs w=>by kernel_rfl) (by kernel_rfl) ((tv M)) ?_ |refine q0f tab_ok Tryz.func55 (fun vs w=>by kernel_rfl) (by rfl) ?_))))
                          conv=>whnf
                          have hsk:sk++q0r s (nthP pts) pts.length (j+1)=sj++[[pb,mvP pb nn (1),mvP pb tp (1),mvP pb mm (1)]]:=by rw [hsP,← List.append_assoc,hspj];rfl
                          have hR:RowS S9 G9 43 2 (.slice A9 4 cap9) ([pb,mvP pb nn (1),mvP pb tp (1),mvP pb mm (1)]).length (q0s [pb,mvP pb nn (1),mvP pb tp (1),mvP pb mm (1)]):=hR9
                          refine ⟨(j+1,S9,G9,putV Bv sj.length (.slice A9 4 cap9)),⟨by dsimp only;omega,by dsimp only;rw [hsk];exact hO.add hN9 hR⟩,by dsimp only;omega,?_⟩
                          dsimp only
                          rw [hsk,hsD]
                          refine q0k 22 6 rfl rfl rfl rfl ?_
                          conv=>whnf
                          ((refine q0g ?_);(conv=>whnf);(refine q0h (by rfl) (by rfl) flQ ?_))
                          exact q0p (fun _ h=>h) (q0c (by exact flQ) (q0c (by exact flQ) (q0c (by exact flQ) (q0c (by exact flQ) (q0d rfl rfl (q0d (by simp) (q17 Bv sj [pb,mvP pb nn (1),mvP pb tp (1),mvP pb mm (1)] (.slice A9 4 cap9)).symm (q0d rfl rfl q0e)))))))
                        · rw [if_neg (show ¬ q1p s nn mm from fun h=>hle h.2.2)] at hsP
                          (repeat ((try (conv=>whnf));(first |(refine ra _ ?_) |(refine rb _ ?_) |(with_reducible refine q0o tab_ok (by kernel_rfl) [0,1,2,3,4,5,6,7,8,9] [] [10] (by decide +kernel) ?_) |((refine q0n (by rfl) ?_ ?_);(· first |exact Mem.le_refl _ |assumption)) |(with_reducible refine q01 tab_ok ?_) |((with_reducible refine mustP.mk ?_ ?_);(· exact Nat.le_of_ble_eq_true rfl)) |(refine q1f tab_ok 0 18 14 rfl rfl rfl rfl rfl rfl rfl fun A9 cap9 S9 G9 hN9 hR9=>?_) |(refine s3Q ?_) |(with_reducible first |refine q0f tab_ok Tryz.func58 (fun vs w=>by kernel_rfl) (by rfl) ?_ |refine q0b (fun vs w=>by kernel_rfl) (by kernel_rfl) ((hcr M)) ?_ |refine q0a (fun vs w=>by kernel_rfl) (by kernel_rfl) ((hcr M)) ?_ |refine q0b (fun vs w=>by kernel_rfl) (by kernel_rfl) ((tn M)) ?_ |refine q0a (fun vs w=>by kernel_rfl) (by kernel_rfl) ((tn M)) ?_ |refine q0b (fun vs w=>by kernel_rfl) (by kernel_rfl) ((tm M)) ?_ |refine q0a (fun vs w=>by kernel_rfl) (by kernel_rfl) ((tm M)) ?_ |refine q0b (fun vs w=>by kernel_rfl) (by kernel_rfl) ((pn M)) ?_ |refine q0a (fun vs w=>by kernel_rfl) (by kernel_rfl) ((pn M)) ?_ |refine q0b (fun vs w=>by kernel_rfl) (by kernel_rfl) ((pm M)) ?_ |refine q0a (fun vs w=>by kernel_rfl) (by kernel_rfl) ((pm M)) ?_ |refine q0b (fun vs w=>by kernel_rfl) (by kernel_rfl) ((hdn M)) ?_ |refine q0a (fun vs w=>by kernel_rfl) (by kernel_rfl) ((hdn M)) ?_ |refine q0b (fun vs w=>by kernel_rfl) (by kernel_rfl) ((hdm M)) ?_ |refine q0a (fun vs w=>by kernel_rfl) (by kernel_rfl) ((hdm M)) ?_ |refine q0f tab_ok Tryz.func55 (fun vs w=>by kernel_rfl) (by rfl) ?_))))
                          conv=>whnf
                          have hsk:sk++q0r s (nthP pts) pts.length (j+1)=sj++[[pb,mvP pb nn (1),mvP pb mm (1)]]:=by rw [hsP,← List.append_assoc,hspj];rfl
                          have hR:RowS S9 G9 43 2 (.slice A9 3 cap9) ([pb,mvP pb nn (1),mvP pb mm (1)]).length (q0s [pb,mvP pb nn (1),mvP pb mm (1)]):=hR9
                          refine ⟨(j+1,S9,G9,putV Bv sj.length (.slice A9 3 cap9)),⟨by dsimp only;omega,by dsimp only;rw [hsk];exact hO.add hN9 hR⟩,by dsimp only;omega,?_⟩
                          dsimp only
                          rw [hsk,hsD]
                          refine q0k 19 6 rfl rfl rfl rfl ?_
                          conv=>whnf
                          ((refine q0g ?_);(conv=>whnf);(refine q0h (by rfl) (by rfl) flQ ?_))
                          exact q0p (fun _ h=>h) (q0c (by exact flQ) (q0c (by exact flQ) (q0c (by exact flQ) (q0c (by exact flQ) (q0d rfl rfl (q0d (by simp) (q17 Bv sj [pb,mvP pb nn (1),mvP pb mm (1)] (.slice A9 3 cap9)).symm (q0d rfl rfl q0e)))))))
                      · rw [if_neg (show ¬ q1p s nn mm from fun h=>hp h.2.1)] at hsP
                        (repeat ((try (conv=>whnf));(first |(refine ra _ ?_) |(refine rb _ ?_) |(with_reducible refine q0o tab_ok (by kernel_rfl) [0,1,2,3,4,5,6,7,8,9] [] [10] (by decide +kernel) ?_) |((refine q0n (by rfl) ?_ ?_);(· first |exact Mem.le_refl _ |assumption)) |(with_reducible refine q01 tab_ok ?_) |((with_reducible refine mustP.mk ?_ ?_);(· exact Nat.le_of_ble_eq_true rfl)) |(refine q1f tab_ok 0 18 14 rfl rfl rfl rfl rfl rfl rfl fun A9 cap9 S9 G9 hN9 hR9=>?_) |(refine s3Q ?_) |(with_reducible first |refine q0f tab_ok Tryz.func58 (fun vs w=>by kernel_rfl) (by rfl) ?_ |refine q0b (fun vs w=>by kernel_rfl) (by kernel_rfl) ((hcr M)) ?_ |refine q0a (fun vs w=>by kernel_rfl) (by kernel_rfl) ((hcr M)) ?_ |refine q0b (fun vs w=>by kernel_rfl) (by kernel_rfl) ((tn M)) ?_ |refine q0a (fun vs w=>by kernel_rfl) (by kernel_rfl) ((tn M)) ?_ |refine q0b (fun vs w=>by kernel_rfl) (by kernel_rfl) ((tm M)) ?_ |refine q0a (fun vs w=>by kernel_rfl) (by kernel_rfl) ((tm M)) ?_ |refine q0b (fun vs w=>by kernel_rfl) (by kernel_rfl) ((pn M)) ?_ |refine q0a (fun vs w=>by kernel_rfl) (by kernel_rfl) ((pn M)) ?_ |refine q0b (fun vs w=>by kernel_rfl) (by kernel_rfl) ((pm M)) ?_ |refine q0a (fun vs w=>by kernel_rfl) (by kernel_rfl) ((pm M)) ?_ |refine q0b (fun vs w=>by kernel_rfl) (by kernel_rfl) ((hdn M)) ?_ |refine q0a (fun vs w=>by kernel_rfl) (by kernel_rfl) ((hdn M)) ?_ |refine q0b (fun vs w=>by kernel_rfl) (by kernel_rfl) ((hdm M)) ?_ |refine q0a (fun vs w=>by kernel_rfl) (by kernel_rfl) ((hdm M)) ?_ |refine q0f tab_ok Tryz.func55 (fun vs w=>by kernel_rfl) (by rfl) ?_))))
                        conv=>whnf
                        have hsk:sk++q0r s (nthP pts) pts.length (j+1)=sj++[[pb,mvP pb nn (1),mvP pb mm (1)]]:=by rw [hsP,← List.append_assoc,hspj];rfl
                        have hR:RowS S9 G9 43 2 (.slice A9 3 cap9) ([pb,mvP pb nn (1),mvP pb mm (1)]).length (q0s [pb,mvP pb nn (1),mvP pb mm (1)]):=hR9
                        refine ⟨(j+1,S9,G9,putV Bv sj.length (.slice A9 3 cap9)),⟨by dsimp only;omega,by dsimp only;rw [hsk];exact hO.add hN9 hR⟩,by dsimp only;omega,?_⟩
                        dsimp only
                        rw [hsk,hsD]
                        refine q0k 19 6 rfl rfl rfl rfl ?_
                        conv=>whnf
                        ((refine q0g ?_);(conv=>whnf);(refine q0h (by rfl) (by rfl) flQ ?_))
                        exact q0p (fun _ h=>h) (q0c (by exact flQ) (q0c (by exact flQ) (q0c (by exact flQ) (q0c (by exact flQ) (q0d rfl rfl (q0d (by simp) (q17 Bv sj [pb,mvP pb nn (1),mvP pb mm (1)] (.slice A9 3 cap9)).symm (q0d rfl rfl q0e)))))))
                    · rw [if_neg (show ¬ q1p s nn mm from fun h=>hj h.1)] at hsP
                      (repeat ((try (conv=>whnf));(first |(refine ra _ ?_) |(refine rb _ ?_) |(with_reducible refine q0o tab_ok (by kernel_rfl) [0,1,2,3,4,5,6,7,8,9] [] [10] (by decide +kernel) ?_) |((refine q0n (by rfl) ?_ ?_);(· first |exact Mem.le_refl _ |assumption)) |(with_reducible refine q01 tab_ok ?_) |((with_reducible refine mustP.mk ?_ ?_);(· exact Nat.le_of_ble_eq_true rfl)) |(refine q1f tab_ok 0 18 14 rfl rfl rfl rfl rfl rfl rfl fun A9 cap9 S9 G9 hN9 hR9=>?_) |(refine s3Q ?_) |(with_reducible first |refine q0f tab_ok Tryz.func58 (fun vs w=>by kernel_rfl) (by rfl) ?_ |refine q0b (fun vs w=>by kernel_rfl) (by kernel_rfl) ((hcr M)) ?_ |refine q0a (fun vs w=>by kernel_rfl) (by kernel_rfl) ((hcr M)) ?_ |refine q0b (fun vs w=>by kernel_rfl) (by kernel_rfl) ((tn M)) ?_ |refine q0a (fun vs w=>by kernel_rfl) (by kernel_rfl) ((tn M)) ?_ |refine q0b (fun vs w=>by kernel_rfl) (by kernel_rfl) ((tm M)) ?_ |refine q0a (fun vs w=>by kernel_rfl) (by kernel_rfl) ((tm M)) ?_ |refine q0b (fun vs w=>by kernel_rfl) (by kernel_rfl) ((pn M)) ?_ |refine q0a (fun vs w=>by kernel_rfl) (by kernel_rfl) ((pn M)) ?_ |refine q0b (fun vs w=>by kernel_rfl) (by kernel_rfl) ((pm M)) ?_ |refine q0a (fun vs w=>by kernel_rfl) (by kernel_rfl) ((pm M)) ?_ |refine q0b (fun vs w=>by kernel_rfl) (by kernel_rfl) ((hdn M)) ?_ |refine q0a (fun vs w=>by kernel_rfl) (by kernel_rfl) ((hdn M)) ?_ |refine q0b (fun vs w=>by kernel_rfl) (by kernel_rfl) ((hdm M)) ?_ |refine q0a (fun vs w=>by kernel_rfl) (by kernel_rfl) ((hdm M)) ?_ |refine q0f tab_ok Tryz.func55 (fun vs w=>by kernel_rfl) (by rfl) ?_))))
                      conv=>whnf
                      have hsk:sk++q0r s (nthP pts) pts.length (j+1)=sj++[[pb,mvP pb nn (1),mvP pb mm (1)]]:=by rw [hsP,← List.append_assoc,hspj];rfl
                      have hR:RowS S9 G9 43 2 (.slice A9 3 cap9) ([pb,mvP pb nn (1),mvP pb mm (1)]).length (q0s [pb,mvP pb nn (1),mvP pb mm (1)]):=hR9
                      refine ⟨(j+1,S9,G9,putV Bv sj.length (.slice A9 3 cap9)),⟨by dsimp only;omega,by dsimp only;rw [hsk];exact hO.add hN9 hR⟩,by dsimp only;omega,?_⟩
                      dsimp only
                      rw [hsk,hsD]
                      refine q0k 19 6 rfl rfl rfl rfl ?_
                      conv=>whnf
                      ((refine q0g ?_);(conv=>whnf);(refine q0h (by rfl) (by rfl) flQ ?_))
                      exact q0p (fun _ h=>h) (q0c (by exact flQ) (q0c (by exact flQ) (q0c (by exact flQ) (q0c (by exact flQ) (q0d rfl rfl (q0d (by simp) (q17 Bv sj [pb,mvP pb nn (1),mvP pb mm (1)] (.slice A9 3 cap9)).symm (q0d rfl rfl q0e)))))))
                  · rw [if_pos hc] at hsP
                    (repeat ((try (conv=>whnf));(first |(refine ra _ ?_) |(refine rb _ ?_) |(with_reducible refine q0o tab_ok (by kernel_rfl) [0,1,2,3,4,5,6,7,8,9] [] [10] (by decide +kernel) ?_) |((refine q0n (by rfl) ?_ ?_);(· first |exact Mem.le_refl _ |assumption)) |(refine s3Q ?_) |(with_reducible first |refine q0f tab_ok Tryz.func58 (fun vs w=>by kernel_rfl) (by rfl) ?_ |refine q0b (fun vs w=>by kernel_rfl) (by kernel_rfl) ((hcr M)) ?_ |refine q0a (fun vs w=>by kernel_rfl) (by kernel_rfl) ((hcr M)) ?_))))
                    conv=>whnf
                    have hsk:sk++q0r s (nthP pts) pts.length (j+1)=sj:=by rw [hsP];simp only [Option.toList,List.append_nil];exact hspj
                    refine ⟨(j+1,S,M,Bv),⟨by dsimp only;omega,by dsimp only;rw [hsk];exact hO⟩,by dsimp only;omega,?_⟩
                    dsimp only
                    rw [hsk,hsD]
                    ((refine q0g ?_);(conv=>whnf);(refine q0h (by rfl) (by rfl) flQ ?_))
                    exact q0p (fun _ h=>h) (q0c (by exact flQ) (q0c (by exact flQ) (q0c (by exact flQ) (q0c (by exact flQ) (q0d rfl rfl (q0d rfl rfl (q0d rfl rfl q0e)))))))
                  · have hk:(if 0<q2l pa pb pc then (-1:Int) else 1)=-1:=by rw [if_pos hc]
                    rw [if_neg (show ¬ q2l pa pb pc=0 by omega),hk] at hsP
                    have tn:=fun G=>q4z (G:=G) (v:=nn) (k:=-1) sn (by omega)
                    have tm:=fun G=>q4z (G:=G) (v:=mm) (k:=-1) sm (by omega)
                    have pn:=fun G=>q6b (G:=G) (p:=pb) (v:=nn) (k:=-1) sb sn (by omega)
                    have pm:=fun G=>q6b (G:=G) (p:=pb) (v:=mm) (k:=-1) sb sm (by omega)
                    by_cases hj:s.join=0
                    · by_cases hp:0<dotV nn nn+dotV nn mm
                      · by_cases hle:512*dotV nn nn≤s.lim*s.lim*(dotV nn nn+dotV nn mm)
                        · rw [if_pos (show q1p s nn mm from ⟨hj,hp,hle⟩)] at hsP
                          have htb:=z0w n1 n2 m1 m2 hp
                          have hst:q0l (tipV nn mm):=by unfold q0l q0u;omega
                          obtain ⟨⟨b1,b2⟩,b3,b4⟩:=htb
                          have tt:=fun G=>q4z (G:=G) (v:=tipV nn mm) (k:=-1) hst (by omega)
                          have pt:=fun G=>q6b (G:=G) (p:=pb) (v:=tipV nn mm) (k:=-1) sb hst (by omega)
                          have ps:=fun G=>q25 (G:=G) sn.1 sn.2 sm.1 sm.2
                          have t1:=fun G=>q3d (G:=G) (a:=dotV nn nn*(nn.1+mm.1)) (b:=dotV nn nn+dotV nn mm) (by omega) (by omega)
                          have t2:=fun G=>q3d (G:=G) (a:=dotV nn nn*(nn.2+mm.2)) (b:=dotV nn nn+dotV nn mm) (by omega) (by omega)
                          change ∀ G,Gives _ _ _ G (.val (.int .i64 (tipV nn mm).1)) at t1
                          change ∀ G,Gives _ _ _ G (.val (.int .i64 (tipV nn mm).2)) at t2
                          have tv:=fun G=>q4r (G:=G) (tipV nn mm).1 (tipV nn mm).2
                          generalize tipV nn mm=tp at *
                          (repeat ((try (conv=>whnf));(first |(with_reducible refine q0o tab_ok (by kernel_rfl) [0,1,2,3,4,5,8] [6,7] [9,10] (by decide +kernel) ?_) |(refine ra _ ?_) |(refine rb _ ?_) |(with_reducible refine q0o tab_ok (by kernel_rfl) [0,1,2,3,4,5,6,7,8,9] [] [10] (by decide +kernel) ?_) |((refine q0n (by rfl) ?_ ?_);(· first |exact Mem.le_refl _ |assumption)) |(with_reducible refine q01 tab_ok ?_) |((with_reducible refine mustP.mk ?_ ?_);(· exact Nat.le_of_ble_eq_true rfl)) |(refine q1f tab_ok 0 21 16 rfl rfl rfl rfl rfl rfl rfl fun A9 cap9 S9 G9 hN9 hR9=>?_) |(refine s3Q ?_) |(with_reducible first |refine q0f tab_ok Tryz.func58 (fun vs w=>by kernel_rfl) (by rfl) ?_ |refine q0b (fun vs w=>by kernel_rfl) (by kernel_rfl) ((hcr M)) ?_ |refine q0a (fun vs w=>by kernel_rfl) (by kernel_rfl) ((hcr M)) ?_ |refine q0b (fun vs w=>by kernel_rfl) (by kernel_rfl) ((tn M)) ?_ |refine q0a (fun vs w=>by kernel_rfl) (by kernel_rfl) ((tn M)) ?_ |refine q0b (fun vs w=>by kernel_rfl) (by kernel_rfl) ((tm M)) ?_ |refine q0a (fun vs w=>by kernel_rfl) (by kernel_rfl) ((tm M)) ?_ |refine q0b (fun vs w=>by kernel_rfl) (by kernel_rfl) ((pn M)) ?_ |refine q0a (fun vs w=>by kernel_rfl) (by kernel_rfl) ((pn M)) ?_ |refine q0b (fun vs w=>by kernel_rfl) (by kernel_rfl) ((pm M)) ?_ |refine q0a (fun vs w=>by kernel_rfl) (by kernel_rfl) ((pm M)) ?_ |refine q0b (fun vs w=>by kernel_rfl) (by kernel_rfl) ((hdn M)) ?_ |refine q0a (fun vs w=>by kernel_rfl) (by kernel_rfl) ((hdn M)) ?_ |refine q0b (fun vs w=>by kernel_rfl) (by kernel_rfl) ((hdm M)) ?_ |refine q0a (fun vs w=>by kernel_rfl) (by kernel_rfl) ((hdm M)) ?_ |refine q0b (fun vs w=>by kernel_rfl) (by kernel_rfl) ((tt M)) ?_ |refine q0a (fun vs w=>by kernel_rfl) (by kernel_rfl) ((tt M)) ?_ |refine q0b (fun vs w=>by kernel_rfl) (by kernel_rfl) ((pt M)) ?_ |refine q0a (fun vs w=>by kernel_rfl) (by kernel_rfl) ((pt M)) ?_ |refine q0b (fun vs w=>by kernel_rfl) (by kernel_rfl) ((ps M)) ?_ |refine q0a (fun vs w=>by kernel_rfl) (by kernel_rfl) ((ps M)) ?_ |refine q0b (fun vs w=>by kernel_rfl) (by kernel_rfl) ((t1 M)) ?_ |refine q0a (fun vs w=>by kernel_rfl) (by kernel_rfl) ((t1 M)) ?_ |refine q0b (fun vs w=>by kernel_rfl) (by kernel_rfl) ((t2 M)) ?_ |refine q0a (fun vs w=>by kernel_rfl) (by kernel_rfl) ((t2 M)) ?_ |refine q0b (fun vs w=>by kernel_rfl) (by kernel_rfl) ((tv M)) ?_ |refine q0a (fun vs w=>by kernel_rfl) (by kernel_rfl) ((tv M)) ?_ |refine q0f tab_ok Tryz.func55 (fun vs w=>by kernel_rfl) (by rfl) ?_))))
                          conv=>whnf
                          have hsk:sk++q0r s (nthP pts) pts.length (j+1)=sj++[[pb,mvP pb nn (-1),mvP pb tp (-1),mvP pb mm (-1)]]:=by rw [hsP,← List.append_assoc,hspj];rfl
                          have hR:RowS S9 G9 43 2 (.slice A9 4 cap9) ([pb,mvP pb nn (-1),mvP pb tp (-1),mvP pb mm (-1)]).length (q0s [pb,mvP pb nn (-1),mvP pb tp (-1),mvP pb mm (-1)]):=hR9
                          refine ⟨(j+1,S9,G9,putV Bv sj.length (.slice A9 4 cap9)),⟨by dsimp only;omega,by dsimp only;rw [hsk];exact hO.add hN9 hR⟩,by dsimp only;omega,?_⟩
                          dsimp only
                          rw [hsk,hsD]
                          refine q0k 22 6 rfl rfl rfl rfl ?_
                          conv=>whnf
                          ((refine q0g ?_);(conv=>whnf);(refine q0h (by rfl) (by rfl) flQ ?_))
                          exact q0p (fun _ h=>h) (q0c (by exact flQ) (q0c (by exact flQ) (q0c (by exact flQ) (q0c (by exact flQ) (q0d rfl rfl (q0d (by simp) (q17 Bv sj [pb,mvP pb nn (-1),mvP pb tp (-1),mvP pb mm (-1)] (.slice A9 4 cap9)).symm (q0d rfl rfl q0e)))))))
                        · rw [if_neg (show ¬ q1p s nn mm from fun h=>hle h.2.2)] at hsP
                          (repeat ((try (conv=>whnf));(first |(refine ra _ ?_) |(refine rb _ ?_) |(with_reducible refine q0o tab_ok (by kernel_rfl) [0,1,2,3,4,5,6,7,8,9] [] [10] (by decide +kernel) ?_) |((refine q0n (by rfl) ?_ ?_);(· first |exact Mem.le_refl _ |assumption)) |(with_reducible refine q01 tab_ok ?_) |((with_reducible refine mustP.mk ?_ ?_);(· exact Nat.le_of_ble_eq_true rfl)) |(refine q1f tab_ok 0 18 14 rfl rfl rfl rfl rfl rfl rfl fun A9 cap9 S9 G9 hN9 hR9=>?_) |(refine s3Q ?_) |(with_reducible first |refine q0f tab_ok Tryz.func58 (fun vs w=>by kernel_rfl) (by rfl) ?_ |refine q0b (fun vs w=>by kernel_rfl) (by kernel_rfl) ((hcr M)) ?_ |refine q0a (fun vs w=>by kernel_rfl) (by kernel_rfl) ((hcr M)) ?_ |refine q0b (fun vs w=>by kernel_rfl) (by kernel_rfl) ((tn M)) ?_ |refine q0a (fun vs w=>by kernel_rfl) (by kernel_rfl) ((tn M)) ?_ |refine q0b (fun vs w=>by kernel_rfl) (by kernel_rfl) ((tm M)) ?_ |refine q0a (fun vs w=>by kernel_rfl) (by kernel_rfl) ((tm M)) ?_ |refine q0b (fun vs w=>by kernel_rfl) (by kernel_rfl) ((pn M)) ?_ |refine q0a (fun vs w=>by kernel_rfl) (by kernel_rfl) ((pn M)) ?_ |refine q0b (fun vs w=>by kernel_rfl) (by kernel_rfl) ((pm M)) ?_ |refine q0a (fun vs w=>by kernel_rfl) (by kernel_rfl) ((pm M)) ?_ |refine q0b (fun vs w=>by kernel_rfl) (by kernel_rfl) ((hdn M)) ?_ |refine q0a (fun vs w=>by kernel_rfl) (by kernel_rfl) ((hdn M)) ?_ |refine q0b (fun vs w=>by kernel_rfl) (by kernel_rfl) ((hdm M)) ?_ |refine q0a (fun vs w=>by kernel_rfl) (by kernel_rfl) ((hdm M)) ?_ |refine q0f tab_ok Tryz.func55 (fun vs w=>by kernel_rfl) (by rfl) ?_))))
                          conv=>whnf
                          have hsk:sk++q0r s (nthP pts) pts.length (j+1)=sj++[[pb,mvP pb nn (-1),mvP pb mm (-1)]]:=by rw [hsP,← List.append_assoc,hspj];rfl
                          have hR:RowS S9 G9 43 2 (.slice A9 3 cap9) ([pb,mvP pb nn (-1),mvP pb mm (-1)]).length (q0s [pb,mvP pb nn (-1),mvP pb mm (-1)]):=hR9
                          refine ⟨(j+1,S9,G9,putV Bv sj.length (.slice A9 3 cap9)),⟨by dsimp only;omega,by dsimp only;rw [hsk];exact hO.add hN9 hR⟩,by dsimp only;omega,?_⟩
                          dsimp only
                          rw [hsk,hsD]
                          refine q0k 19 6 rfl rfl rfl rfl ?_
                          conv=>whnf
                          ((refine q0g ?_);(conv=>whnf);(refine q0h (by rfl) (by rfl) flQ ?_))
                          exact q0p (fun _ h=>h) (q0c (by exact flQ) (q0c (by exact flQ) (q0c (by exact flQ) (q0c (by exact flQ) (q0d rfl rfl (q0d (by simp) (q17 Bv sj [pb,mvP pb nn (-1),mvP pb mm (-1)] (.slice A9 3 cap9)).symm (q0d rfl rfl q0e)))))))
                      · rw [if_neg (show ¬ q1p s nn mm from fun h=>hp h.2.1)] at hsP
                        (repeat ((try (conv=>whnf));(first |(refine ra _ ?_) |(refine rb _ ?_) |(with_reducible refine q0o tab_ok (by kernel_rfl) [0,1,2,3,4,5,6,7,8,9] [] [10] (by decide +kernel) ?_) |((refine q0n (by rfl) ?_ ?_);(· first |exact Mem.le_refl _ |assumption)) |(with_reducible refine q01 tab_ok ?_) |((with_reducible refine mustP.mk ?_ ?_);(· exact Nat.le_of_ble_eq_true rfl)) |(refine q1f tab_ok 0 18 14 rfl rfl rfl rfl rfl rfl rfl fun A9 cap9 S9 G9 hN9 hR9=>?_) |(refine s3Q ?_) |(with_reducible first |refine q0f tab_ok Tryz.func58 (fun vs w=>by kernel_rfl) (by rfl) ?_ |refine q0b (fun vs w=>by kernel_rfl) (by kernel_rfl) ((hcr M)) ?_ |refine q0a (fun vs w=>by kernel_rfl) (by kernel_rfl) ((hcr M)) ?_ |refine q0b (fun vs w=>by kernel_rfl) (by kernel_rfl) ((tn M)) ?_ |refine q0a (fun vs w=>by kernel_rfl) (by kernel_rfl) ((tn M)) ?_ |refine q0b (fun vs w=>by kernel_rfl) (by kernel_rfl) ((tm M)) ?_ |refine q0a (fun vs w=>by kernel_rfl) (by kernel_rfl) ((tm M)) ?_ |refine q0b (fun vs w=>by kernel_rfl) (by kernel_rfl) ((pn M)) ?_ |refine q0a (fun vs w=>by kernel_rfl) (by kernel_rfl) ((pn M)) ?_ |refine q0b (fun vs w=>by kernel_rfl) (by kernel_rfl) ((pm M)) ?_ |refine q0a (fun vs w=>by kernel_rfl) (by kernel_rfl) ((pm M)) ?_ |refine q0b (fun vs w=>by kernel_rfl) (by kernel_rfl) ((hdn M)) ?_ |refine q0a (fun vs w=>by kernel_rfl) (by kernel_rfl) ((hdn M)) ?_ |refine q0b (fun vs w=>by kernel_rfl) (by kernel_rfl) ((hdm M)) ?_ |refine q0a (fun vs w=>by kernel_rfl) (by kernel_rfl) ((hdm M)) ?_ |refine q0f tab_ok Tryz.func55 (fun vs w=>by kernel_rfl) (by rfl) ?_))))
                        conv=>whnf
                        have hsk:sk++q0r s (nthP pts) pts.length (j+1)=sj++[[pb,mvP pb nn (-1),mvP pb mm (-1)]]:=by rw [hsP,← List.append_assoc,hspj];rfl
                        have hR:RowS S9 G9 43 2 (.slice A9 3 cap9) ([pb,mvP pb nn (-1),mvP pb mm (-1)]).length (q0s [pb,mvP pb nn (-1),mvP pb mm (-1)]):=hR9
                        refine ⟨(j+1,S9,G9,putV Bv sj.length (.slice A9 3 cap9)),⟨by dsimp only;omega,by dsimp only;rw [hsk];exact hO.add hN9 hR⟩,by dsimp only;omega,?_⟩
                        dsimp only
                        rw [hsk,hsD]
                        refine q0k 19 6 rfl rfl rfl rfl ?_
                        conv=>whnf
                        ((refine q0g ?_);(conv=>whnf);(refine q0h (by rfl) (by rfl) flQ ?_))
                        exact q0p (fun _ h=>h) (q0c (by exact flQ) (q0c (by exact flQ) (q0c (by exact flQ) (q0c (by exact flQ) (q0d rfl rfl (q0d (by simp) (q17 Bv sj [pb,mvP pb nn (-1),mvP pb mm (-1)] (.slice A9 3 cap9)).symm (q0d rfl rfl q0e)))))))
                    · rw [if_neg (show ¬ q1p s nn mm from fun h=>hj h.1)] at hsP
                      (repeat ((try (conv=>whnf));(first |(refine ra _ ?_) |(refine rb _ ?_) |(with_reducible refine q0o tab_ok (by kernel_rfl) [0,1,2,3,4,5,6,7,8,9] [] [10] (by decide +kernel) ?_) |((refine q0n (by rfl) ?_ ?_);(· first |exact Mem.le_refl _ |assumption)) |(with_reducible refine q01 tab_ok ?_) |((with_reducible refine mustP.mk ?_ ?_);(· exact Nat.le_of_ble_eq_true rfl)) |(refine q1f tab_ok 0 18 14 rfl rfl rfl rfl rfl rfl rfl fun A9 cap9 S9 G9 hN9 hR9=>?_) |(refine s3Q ?_) |(with_reducible first |refine q0f tab_ok Tryz.func58 (fun vs w=>by kernel_rfl) (by rfl) ?_ |refine q0b (fun vs w=>by kernel_rfl) (by kernel_rfl) ((hcr M)) ?_ |refine q0a (fun vs w=>by kernel_rfl) (by kernel_rfl) ((hcr M)) ?_ |refine q0b (fun vs w=>by kernel_rfl) (by kernel_rfl) ((tn M)) ?_ |refine q0a (fun vs w=>by kernel_rfl) (by kernel_rfl) ((tn M)) ?_ |refine q0b (fun vs w=>by kernel_rfl) (by kernel_rfl) ((tm M)) ?_ |refine q0a (fun vs w=>by kernel_rfl) (by kernel_rfl) ((tm M)) ?_ |refine q0b (fun vs w=>by kernel_rfl) (by kernel_rfl) ((pn M)) ?_ |refine q0a (fun vs w=>by kernel_rfl) (by kernel_rfl) ((pn M)) ?_ |refine q0b (fun vs w=>by kernel_rfl) (by kernel_rfl) ((pm M)) ?_ |refine q0a (fun vs w=>by kernel_rfl) (by kernel_rfl) ((pm M)) ?_ |refine q0b (fun vs w=>by kernel_rfl) (by kernel_rfl) ((hdn M)) ?_ |refine q0a (fun vs w=>by kernel_rfl) (by kernel_rfl) ((hdn M)) ?_ |refine q0b (fun vs w=>by kernel_rfl) (by kernel_rfl) ((hdm M)) ?_ |refine q0a (fun vs w=>by kernel_rfl) (by kernel_rfl) ((hdm M)) ?_ |refine q0f tab_ok Tryz.func55 (fun vs w=>by kernel_rfl) (by rfl) ?_))))
                      conv=>whnf
                      have hsk:sk++q0r s (nthP pts) pts.length (j+1)=sj++[[pb,mvP pb nn (-1),mvP pb mm (-1)]]:=by rw [hsP,← List.append_assoc,hspj];rfl
                      have hR:RowS S9 G9 43 2 (.slice A9 3 cap9) ([pb,mvP pb nn (-1),mvP pb mm (-1)]).length (q0s [pb,mvP pb nn (-1),mvP pb mm (-1)]):=hR9
                      refine ⟨(j+1,S9,G9,putV Bv sj.length (.slice A9 3 cap9)),⟨by dsimp only;omega,by dsimp only;rw [hsk];exact hO.add hN9 hR⟩,by dsimp only;omega,?_⟩
                      dsimp only
                      rw [hsk,hsD]
                      refine q0k 19 6 rfl rfl rfl rfl ?_
                      conv=>whnf
                      ((refine q0g ?_);(conv=>whnf);(refine q0h (by rfl) (by rfl) flQ ?_))
                      exact q0p (fun _ h=>h) (q0c (by exact flQ) (q0c (by exact flQ) (q0c (by exact flQ) (q0c (by exact flQ) (q0d rfl rfl (q0d (by simp) (q17 Bv sj [pb,mvP pb nn (-1),mvP pb mm (-1)] (.slice A9 3 cap9)).symm (q0d rfl rfl q0e)))))))
              · have hjm:j+1=m:=by omega
                clear hj h2
                have hj1:(m:Int)-1=(j:Int):=by omega
                cases cl
                · have hmn:m=pts.length-1:=by simpa using hM2
                  have hj2:pts.length-2=j:=by omega
                  rw [if_neg (by simp),hj2] at hOP hOD
                  rw [hOP,hOD]
                  have hga:=q6s (P:=nthP pts) (n:=pts.length) (show 0<m by omega)
                  have hgb:=q6s (P:=nthP pts) (n:=pts.length) (show j<m by omega)
                  have hx0:nxP pts.length 0=1:=by unfold nxP;rw [if_neg (by omega)]
                  have hxj:nxP pts.length j=pts.length-1:=by unfold nxP;rw [if_neg (by omega)];omega
                  have d0:=hne 0 hN (.inl (by omega))
                  have dz:=hne j hN (.inl (by omega))
                  rw [hx0] at hga d0
                  rw [hxj] at hgb dz
                  have o0:=hok 0 (by omega)
                  have oz:=hok (pts.length-1) (by omega)
                  have ra:=fun (K:List Value→Prop) (k':K [Value.int .i64 (nthP pts 0).1,.int .i64 (nthP pts 0).2,.int .i64 (nthP pts 1).1,.int .i64 (nthP pts 1).2,.int .i64 ((nthP pts 1).1-(nthP pts 0).1),.int .i64 ((nthP pts 1).2-(nthP pts 0).2),.int .i64 (nrm s.w (nthP pts 0) (nthP pts 1)).1,.int .i64 (nrm s.w (nthP pts 0) (nthP pts 1)).2,.int .i64 (hln s.w (nthP pts 0) (nthP pts 1)).1,.int .i64 (hln s.w (nthP pts 0) (nthP pts 1)).2])=>q9f (w:=s.w) (z:=(0:Int)) rfl hga k'
                  have rb:=fun (K:List Value→Prop) (k':K [Value.int .i64 (nthP pts j).1,.int .i64 (nthP pts j).2,.int .i64 (nthP pts (pts.length-1)).1,.int .i64 (nthP pts (pts.length-1)).2,.int .i64 ((nthP pts (pts.length-1)).1-(nthP pts j).1),.int .i64 ((nthP pts (pts.length-1)).2-(nthP pts j).2),.int .i64 (nrm s.w (nthP pts j) (nthP pts (pts.length-1))).1,.int .i64 (nrm s.w (nthP pts j) (nthP pts (pts.length-1))).2,.int .i64 (hln s.w (nthP pts j) (nthP pts (pts.length-1))).1,.int .i64 (hln s.w (nthP pts j) (nthP pts (pts.length-1))).2])=>q9f (w:=s.w) (z:=(m:Int)-1) (by omega) hgb k'
                  obtain ⟨_,⟨n1,n2⟩,e1,e2⟩:=q3b hw d0
                  obtain ⟨_,⟨m1,m2⟩,f1,f2⟩:=q3b hw dz
                  generalize hL:sdL (nthP pts) pts.length m=L at *
                  generalize nrm s.w (nthP pts 0) (nthP pts 1)=nn at *
                  generalize hln s.w (nthP pts 0) (nthP pts 1)=en at *
                  generalize nrm s.w (nthP pts j) (nthP pts (pts.length-1))=mm at *
                  generalize hln s.w (nthP pts j) (nthP pts (pts.length-1))=em at *
                  generalize nthP pts (pts.length-1)=pz at *
                  generalize nthP pts 0=pa at *
                  generalize nthP pts 1=pb at *
                  generalize nthP pts j=py at *
                  generalize q0r s (nthP pts) pts.length j=jp at *
                  generalize q1o s (nthP pts) pts.length j=jd at *
                  have hll:(sk++jp).length=sk.length+jp.length:=List.length_append
                  generalize hspj:sk++jp=sj at *
                  unfold okP at o0 oz
                  rcases (show s.cap=0∨s.cap=1∨s.cap=2 by omega) with hc |hc |hc
                  · rw [if_neg (by omega),if_neg (by omega),List.append_nil,List.append_nil]
                    (repeat ((try (conv=>whnf));(first |(refine ra _ ?_) |(refine rb _ ?_) |(with_reducible refine q0o tab_ok (by kernel_rfl) [0,1,2,3,4,5,6,7,8,9] [] [10] (by decide +kernel) ?_) |((refine q0n (by rfl) ?_ ?_);(· first |exact Mem.le_refl _ |assumption)) |(refine s3Q ?_) |(with_reducible refine q0f tab_ok Tryz.func59 (fun vs w=>by kernel_rfl) (by rfl) ?_))))
                    conv=>whnf
                    refine ⟨(S,M,Bv),hO.base hG1,?_⟩
                    dsimp only
                    refine q0k 6 5 rfl rfl rfl rfl ?_
                    conv=>whnf
                    refine q0k 7 6 rfl rfl rfl rfl ?_
                    conv=>whnf
                    exact q0h (n:=7) rfl rfl (by exact flQ) (q0p (fun _ h=>h) (q0c (by exact flQ) (q0c (by exact flQ) (q0c (by exact flQ) (q0j (q0d rfl rfl (q0d rfl rfl q0e)))))))
                  · rw [if_neg (by omega),if_pos ⟨rfl,hc⟩,List.append_nil]
                    (repeat ((try (conv=>whnf));(first |(with_reducible refine q0o tab_ok (by kernel_rfl) [0,1,2,3,4,5,6,7,8] [9] [10,11,12,13] (by decide +kernel) ?_) |(refine ra _ ?_) |(refine rb _ ?_) |(with_reducible refine q0o tab_ok (by kernel_rfl) [0,1,2,3,4,5,6,7,8,9] [] [10] (by decide +kernel) ?_) |((refine q0n (by rfl) ?_ ?_);(· first |exact Mem.le_refl _ |assumption)) |(refine s3Q ?_) |(with_reducible refine q0f tab_ok Tryz.func59 (fun vs w=>by kernel_rfl) (by rfl) ?_))))
                    conv=>whnf
                    refine ⟨(S,M,Bv),hO.base hG1,?_⟩
                    dsimp only
                    refine q0k 6 5 rfl rfl rfl rfl ?_
                    conv=>whnf
                    refine q0k 13 6 rfl rfl rfl rfl ?_
                    conv=>whnf
                    exact q0h (n:=7) rfl rfl (by exact flQ) (q0p (fun _ h=>h) (q0c (by exact flQ) (q0c (by exact flQ) (q0c (by exact flQ) (q0j (q0d rfl rfl (q0d (by simp) (q03 jd [pa,pz]).symm q0e)))))))
                  · rw [if_pos ⟨rfl,hc⟩,if_neg (by omega),List.append_nil]
                    have sa:q0l pa:=by unfold q0l q0u;omega
                    have sz:q0l pz:=by unfold q0l q0u;omega
                    have snn:q0l nn:=by unfold q0l q0u;omega
                    have smm:q0l mm:=by unfold q0l q0u;omega
                    have sen:q0l en:=by unfold q0l q0u;omega
                    have sem:q0l em:=by unfold q0l q0u;omega
                    have a1:=fun G=>z3r (G:=G) sa snn
                    have a2:=fun G=>z00 (G:=G) sa snn
                    have sap:q0l (mvP pa nn (1)):=by unfold q0l q0u mvP;dsimp only;omega
                    have ap:=fun G=>z00 (G:=G) sap sen
                    have sam:q0l (mvP pa nn (-1)):=by unfold q0l q0u mvP;dsimp only;omega
                    have am:=fun G=>z00 (G:=G) sam sen
                    have z1:=fun G=>z3r (G:=G) sz smm
                    have z2:=fun G=>z00 (G:=G) sz smm
                    have szp:q0l (mvP pz mm (1)):=by unfold q0l q0u mvP;dsimp only;omega
                    have zp:=fun G=>z3r (G:=G) szp sem
                    have szm:q0l (mvP pz mm (-1)):=by unfold q0l q0u mvP;dsimp only;omega
                    have zm:=fun G=>z3r (G:=G) szm sem
                    (repeat ((try (conv=>whnf));(first |(with_reducible refine q0o tab_ok (by kernel_rfl) [0,1,2,3,4,5,7,8,9] [6,10] [11,12] (by decide +kernel) ?_) |(refine ra _ ?_) |(refine rb _ ?_) |(with_reducible refine q0o tab_ok (by kernel_rfl) [0,1,2,3,4,5,6,7,8,9] [] [10] (by decide +kernel) ?_) |((refine q0n (by rfl) ?_ ?_);(· first |exact Mem.le_refl _ |assumption)) |(with_reducible refine q01 tab_ok ?_) |((with_reducible refine mustP.mk ?_ ?_);(· exact Nat.le_of_ble_eq_true rfl)) |(refine q1f tab_ok 0 20 15 rfl rfl rfl rfl rfl rfl rfl fun A9 cap9 S9 G9 hN9 hR9=>?_) |(refine q1f tab_ok 0 28 23 rfl rfl rfl rfl rfl rfl rfl fun A8 cap8 S8 G8 hN8 hR8=>?_) |(refine s3Q ?_) |(with_reducible first |refine q0f tab_ok Tryz.func59 (fun vs w=>by kernel_rfl) (by rfl) ?_ |refine q0b (fun vs w=>by kernel_rfl) (by kernel_rfl) ((a1 M)) ?_ |refine q0a (fun vs w=>by kernel_rfl) (by kernel_rfl) ((a1 M)) ?_ |refine q0b (fun vs w=>by kernel_rfl) (by kernel_rfl) ((a1 G9)) ?_ |refine q0a (fun vs w=>by kernel_rfl) (by kernel_rfl) ((a1 G9)) ?_ |refine q0b (fun vs w=>by kernel_rfl) (by kernel_rfl) ((a2 M)) ?_ |refine q0a (fun vs w=>by kernel_rfl) (by kernel_rfl) ((a2 M)) ?_ |refine q0b (fun vs w=>by kernel_rfl) (by kernel_rfl) ((a2 G9)) ?_ |refine q0a (fun vs w=>by kernel_rfl) (by kernel_rfl) ((a2 G9)) ?_ |refine q0b (fun vs w=>by kernel_rfl) (by kernel_rfl) ((am M)) ?_ |refine q0a (fun vs w=>by kernel_rfl) (by kernel_rfl) ((am M)) ?_ |refine q0b (fun vs w=>by kernel_rfl) (by kernel_rfl) ((am G9)) ?_ |refine q0a (fun vs w=>by kernel_rfl) (by kernel_rfl) ((am G9)) ?_ |refine q0b (fun vs w=>by kernel_rfl) (by kernel_rfl) ((ap M)) ?_ |refine q0a (fun vs w=>by kernel_rfl) (by kernel_rfl) ((ap M)) ?_ |refine q0b (fun vs w=>by kernel_rfl) (by kernel_rfl) ((ap G9)) ?_ |refine q0a (fun vs w=>by kernel_rfl) (by kernel_rfl) ((ap G9)) ?_ |refine q0b (fun vs w=>by kernel_rfl) (by kernel_rfl) ((z1 M)) ?_ |refine q0a (fun vs w=>by kernel_rfl) (by kernel_rfl) ((z1 M)) ?_ |refine q0b (fun vs w=>by kernel_rfl) (by kernel_rfl) ((z1 G9)) ?_ |refine q0a (fun vs w=>by kernel_rfl) (by kernel_rfl) ((z1 G9)) ?_ |refine q0b (fun vs w=>by kernel_rfl) (by kernel_rfl) ((z2 M)) ?_ |refine q0a (fun vs w=>by kernel_rfl) (by kernel_rfl) ((z2 M)) ?_ |refine q0b (fun vs w=>by kernel_rfl) (by kernel_rfl) ((z2 G9)) ?_ |refine q0a (fun vs w=>by kernel_rfl) (by kernel_rfl) ((z2 G9)) ?_ |refine q0b (fun vs w=>by kernel_rfl) (by kernel_rfl) ((zm M)) ?_ |refine q0a (fun vs w=>by kernel_rfl) (by kernel_rfl) ((zm M)) ?_ |refine q0b (fun vs w=>by kernel_rfl) (by kernel_rfl) ((zm G9)) ?_ |refine q0a (fun vs w=>by kernel_rfl) (by kernel_rfl) ((zm G9)) ?_ |refine q0b (fun vs w=>by kernel_rfl) (by kernel_rfl) ((zp M)) ?_ |refine q0a (fun vs w=>by kernel_rfl) (by kernel_rfl) ((zp M)) ?_ |refine q0b (fun vs w=>by kernel_rfl) (by kernel_rfl) ((zp G9)) ?_ |refine q0a (fun vs w=>by kernel_rfl) (by kernel_rfl) ((zp G9)) ?_ |refine q0f tab_ok Tryz.func55 (fun vs w=>by kernel_rfl) (by rfl) ?_))))
                    conv=>whnf
                    have hR:RowS S9 G9 43 2 (.slice A9 4 cap9) (capA pa nn en (-1)).length (q0s (capA pa nn en (-1))):=hR9
                    have hR':RowS S8 G8 43 2 (.slice A8 4 cap8) (capA pz mm em 1).length (q0s (capA pz mm em 1)):=hR8
                    rw [show sj++[capA pa nn en (-1),capA pz mm em 1]=(sj++[capA pa nn en (-1)])++[capA pz mm em 1] by simp]
                    refine ⟨(S8,G8,putV (putV Bv sj.length (.slice A9 4 cap9)) (sj++[capA pa nn en (-1)]).length (.slice A8 4 cap8)),((hO.add hN9 hR).add hN8 hR').base hG1,?_⟩
                    dsimp only
                    refine q0k 29 5 rfl rfl rfl rfl ?_
                    conv=>whnf
                    refine q0k 7 6 rfl rfl rfl rfl ?_
                    conv=>whnf
                    exact q0h (n:=7) rfl rfl (by exact flQ) (q0p (fun _ h=>h) (q0c (by exact flQ) (q0c (by exact flQ) (q0c (by exact flQ) (q0j (q0d (by simp) (by rw [q17,q17];rfl) (q0d rfl rfl q0e)))))))
                · have hmn:m=pts.length:=by simpa using hM2
                  have hj2:pts.length=j+1:=by omega
                  rw [if_pos rfl,if_neg (by simp),List.append_nil] at hOP hOD
                  have hga:=q6s (P:=nthP pts) (n:=pts.length) (show j<m by omega)
                  have hgb:=q6s (P:=nthP pts) (n:=pts.length) (show 0<m by omega)
                  have hx0:nxP pts.length 0=1:=by unfold nxP;rw [if_neg (by omega)]
                  have hxj:nxP pts.length j=0:=by unfold nxP;rw [if_pos (by omega)]
                  have hd1:=hne j hN (.inr ⟨rfl,by omega⟩)
                  have hd2:=hne 0 hN (.inl (by omega))
                  rw [hxj] at hga hd1
                  rw [hx0] at hgb hd2
                  have o0:=hok j (by omega)
                  have o1:=hok 0 (by omega)
                  have o2:=hok 1 (by omega)
                  have hr0:rnd (nthP pts) pts.length j=nthP pts j:=q75 (by omega)
                  have hr1:rnd (nthP pts) pts.length (j+1)=nthP pts 0:=by unfold rnd;rw [← hj2,Nat.mod_self]
                  have hr2:rnd (nthP pts) pts.length (j+2)=nthP pts 1:=by unfold rnd;rw [show j+2=1+pts.length by omega,Nat.add_mod_right,Nat.mod_eq_of_lt hN]
                  rw [hOP,hOD]
                  have hPL:∀ A:Nat→Prop,A (j+1)→A pts.length:=fun A h=>by rw [hj2];exact h
                  have hOP':q0r s (nthP pts) pts.length pts.length=q0r s (nthP pts) pts.length (j+1):=congrArg _ hj2
                  have hOD':q1o s (nthP pts) pts.length pts.length=q1o s (nthP pts) pts.length (j+1):=congrArg _ hj2
                  rw [hOP',hOD']
                  have hsP:q0r s (nthP pts) pts.length (j+1)=q0r s (nthP pts) pts.length j++(if s.join=1 then [] else (q4a s (rnd (nthP pts) pts.length j) (rnd (nthP pts) pts.length (j+1)) (rnd (nthP pts) pts.length (j+2))).toList):=rfl
                  have hsD:q1o s (nthP pts) pts.length (j+1)=q1o s (nthP pts) pts.length j++(if s.join=1 then [rnd (nthP pts) pts.length (j+1)] else []):=rfl
                  rw [hr0,hr1,hr2] at hsP
                  rw [hr1] at hsD
                  unfold q4a at hsP
                  have ra:=fun (K:List Value→Prop) (k':K [Value.int .i64 (nthP pts j).1,.int .i64 (nthP pts j).2,.int .i64 (nthP pts 0).1,.int .i64 (nthP pts 0).2,.int .i64 ((nthP pts 0).1-(nthP pts j).1),.int .i64 ((nthP pts 0).2-(nthP pts j).2),.int .i64 (nrm s.w (nthP pts j) (nthP pts 0)).1,.int .i64 (nrm s.w (nthP pts j) (nthP pts 0)).2,.int .i64 (hln s.w (nthP pts j) (nthP pts 0)).1,.int .i64 (hln s.w (nthP pts j) (nthP pts 0)).2])=>q9f (w:=s.w) (z:=((m:Int)-1)) (by omega) hga k'
                  have rb:=fun (K:List Value→Prop) (k':K [Value.int .i64 (nthP pts 0).1,.int .i64 (nthP pts 0).2,.int .i64 (nthP pts 1).1,.int .i64 (nthP pts 1).2,.int .i64 ((nthP pts 1).1-(nthP pts 0).1),.int .i64 ((nthP pts 1).2-(nthP pts 0).2),.int .i64 (nrm s.w (nthP pts 0) (nthP pts 1)).1,.int .i64 (nrm s.w (nthP pts 0) (nthP pts 1)).2,.int .i64 (hln s.w (nthP pts 0) (nthP pts 1)).1,.int .i64 (hln s.w (nthP pts 0) (nthP pts 1)).2])=>q9f (w:=s.w) (z:=(0:Int)) rfl hgb k'
                  obtain ⟨_,⟨n1,n2⟩,_⟩:=q3b hw hd1
                  obtain ⟨_,⟨m1,m2⟩,_⟩:=q3b hw hd2
                  generalize hL:sdL (nthP pts) pts.length m=L at *
                  generalize nrm s.w (nthP pts j) (nthP pts 0)=nn at *
                  generalize nrm s.w (nthP pts 0) (nthP pts 1)=mm at *
                  generalize hln s.w (nthP pts j) (nthP pts 0)=en at *
                  generalize hln s.w (nthP pts 0) (nthP pts 1)=em at *
                  generalize (nthP pts 1)=pc at *
                  generalize (nthP pts 0)=pb at *
                  generalize (nthP pts j)=pa at *
                  generalize q0r s (nthP pts) pts.length j=jp at *
                  generalize q1o s (nthP pts) pts.length j=jd at *
                  have hll:(sk++jp).length=sk.length+jp.length:=List.length_append
                  generalize hspj:sk++jp=sj at *
                  unfold okP at o0 o1 o2
                  have hct:q2l pa pb pc=(pb.1-pa.1)*(pc.2-pb.2)-(pb.2-pa.2)*(pc.1-pb.1):=rfl
                  have hcr:=fun G=>z4b (G:=G) (x:=pb.1-pa.1) (y:=pb.2-pa.2) (u:=pc.1-pb.1) (v:=pc.2-pb.2) (by omega) (by omega) (by omega) (by omega)
                  have sb:q0l pb:=by unfold q0l q0u;omega
                  have sn:q0l nn:=by unfold q0l q0u;omega
                  have sm:q0l mm:=by unfold q0l q0u;omega
                  have hdn:=fun G=>q73 (G:=G) (x:=nn.1) (y:=nn.2) (u:=nn.1) (v:=nn.2) (by omega) (by omega) (by omega) (by omega)
                  have hdm:=fun G=>q73 (G:=G) (x:=nn.1) (y:=nn.2) (u:=mm.1) (v:=mm.2) (by omega) (by omega) (by omega) (by omega)
                  change ∀ G,Gives _ _ _ G (.val (.int .i64 (dotV nn nn))) at hdn
                  change ∀ G,Gives _ _ _ G (.val (.int .i64 (dotV nn mm))) at hdm
                  change ∀ G,Gives _ _ _ G (.val (.int .i64 (q2l pa pb pc))) at hcr
                  have q1:=z2y n1 n2 n1 n2
                  have q2:=z2y n1 n2 m1 m2
                  have l1:=q04 (a:=s.lim) (b:=s.lim) (A:=1024) (B:=1024) (by omega) (by omega)
                  have lb:=q04 (a:=s.lim*s.lim) (b:=dotV nn nn+dotV nn mm) (A:=1048576) (B:=1048576) (by omega) (by omega)
                  by_cases hj1:s.join=1
                  · rw [if_pos hj1] at hsP hsD
                    (repeat ((try (conv=>whnf));(first |(refine ra _ ?_) |(refine rb _ ?_) |(with_reducible first |refine q0o tab_ok (by kernel_rfl) [0,1,2,3,4,5,6,7,8,9] [] [10] (by decide +kernel) ?_ |refine q0o tab_ok (by kernel_rfl) [0,1,2,3,4,5,6] [7] [8,9,10,11] (by decide +kernel) ?_) |((refine q0n (by rfl) ?_ ?_);(· first |exact Mem.le_refl _ |assumption)) |(refine s3Q ?_) |(with_reducible refine q0f tab_ok Tryz.func58 (fun vs w=>by kernel_rfl) (by rfl) ?_))))
                    conv=>whnf
                    have hsk:sk++q0r s (nthP pts) pts.length (j+1)=sj:=by rw [hsP,List.append_nil,hspj]
                    rw [hsk,hsD]
                    refine ⟨(S,M,Bv),hO.base hG1,?_⟩
                    dsimp only
                    refine q0k 6 5 rfl rfl rfl rfl ?_
                    conv=>whnf
                    refine q0k 12 6 rfl rfl rfl rfl ?_
                    conv=>whnf
                    exact q0h (n:=7) rfl rfl (by exact flQ) (q0p (fun _ h=>h) (q0c (by exact flQ) (q0c (by exact flQ) (q0c (by exact flQ) (q0j (q0d rfl rfl (q0d (by simp) (q03 jd [pb]).symm q0e)))))))
                  · rw [if_neg hj1] at hsP hsD
                    rw [List.append_nil] at hsD
                    unfold z52 at hsP
                    rcases Int.lt_trichotomy (q2l pa pb pc) 0 with hc |hc |hc
                    · have hk:(if 0<q2l pa pb pc then (-1:Int) else 1)=1:=by rw [if_neg (by omega)]
                      rw [if_neg (show ¬ q2l pa pb pc=0 by omega),hk] at hsP
                      have tn:=fun G=>q4z (G:=G) (v:=nn) (k:=1) sn (by omega)
                      have tm:=fun G=>q4z (G:=G) (v:=mm) (k:=1) sm (by omega)
                      have pn:=fun G=>q6b (G:=G) (p:=pb) (v:=nn) (k:=1) sb sn (by omega)
                      have pm:=fun G=>q6b (G:=G) (p:=pb) (v:=mm) (k:=1) sb sm (by omega)
                      by_cases hj:s.join=0
                      · by_cases hp:0<dotV nn nn+dotV nn mm
                        · by_cases hle:512*dotV nn nn≤s.lim*s.lim*(dotV nn nn+dotV nn mm)
                          · rw [if_pos (show q1p s nn mm from ⟨hj,hp,hle⟩)] at hsP
                            have htb:=z0w n1 n2 m1 m2 hp
                            have hst:q0l (tipV nn mm):=by unfold q0l q0u;omega
                            obtain ⟨⟨b1,b2⟩,b3,b4⟩:=htb
                            have tt:=fun G=>q4z (G:=G) (v:=tipV nn mm) (k:=1) hst (by omega)
                            have pt:=fun G=>q6b (G:=G) (p:=pb) (v:=tipV nn mm) (k:=1) sb hst (by omega)
                            have ps:=fun G=>q25 (G:=G) sn.1 sn.2 sm.1 sm.2
                            have t1:=fun G=>q3d (G:=G) (a:=dotV nn nn*(nn.1+mm.1)) (b:=dotV nn nn+dotV nn mm) (by omega) (by omega)
                            have t2:=fun G=>q3d (G:=G) (a:=dotV nn nn*(nn.2+mm.2)) (b:=dotV nn nn+dotV nn mm) (by omega) (by omega)
                            change ∀ G,Gives _ _ _ G (.val (.int .i64 (tipV nn mm).1)) at t1
                            change ∀ G,Gives _ _ _ G (.val (.int .i64 (tipV nn mm).2)) at t2
                            have tv:=fun G=>q4r (G:=G) (tipV nn mm).1 (tipV nn mm).2
                            generalize tipV nn mm=tp at *
                            (repeat ((try (conv=>whnf));(first |(with_reducible refine q0o tab_ok (by kernel_rfl) [0,1,2,3,4,5,8] [6,7] [9,10] (by decide +kernel) ?_) |(refine ra _ ?_) |(refine rb _ ?_) |(with_reducible refine q0o tab_ok (by kernel_rfl) [0,1,2,3,4,5,6,7,8,9] [] [10] (by decide +kernel) ?_) |((refine q0n (by rfl) ?_ ?_);(· first |exact Mem.le_refl _ |assumption)) |(with_reducible refine q01 tab_ok ?_) |((with_reducible refine mustP.mk ?_ ?_);(· exact Nat.le_of_ble_eq_true rfl)) |(refine q1f tab_ok 0 21 16 rfl rfl rfl rfl rfl rfl rfl fun A9 cap9 S9 G9 hN9 hR9=>?_) |(refine s3Q ?_) |(with_reducible first |refine q0f tab_ok Tryz.func58 (fun vs w=>by kernel_rfl) (by rfl) ?_ |refine q0b (fun vs w=>by kernel_rfl) (by kernel_rfl) ((hcr M)) ?_ |refine q0a (fun vs w=>by kernel_rfl) (by kernel_rfl) ((hcr M)) ?_ |refine q0b (fun vs w=>by kernel_rfl) (by kernel_rfl) ((tn M)) ?_ |refine q0a (fun vs w=>by kernel_rfl) (by kernel_rfl) ((tn M)) ?_ |refine q0b (fun vs w=>by kernel_rfl) (by kernel_rfl) ((tm M)) ?_ |refine q0a (fun vs w=>by kernel_rfl) (by kernel_rfl) ((tm M)) ?_ |refine q0b (fun vs w=>by kernel_rfl) (by kernel_rfl) ((pn M)) ?_ |refine q0a (fun vs w=>by kernel_rfl) (by kernel_rfl) ((pn M)) ?_ |refine q0b (fun vs w=>by kernel_rfl) (by kernel_rfl) ((pm M)) ?_ |refine q0a (fun vs w=>by kernel_rfl) (by kernel_rfl) ((pm M)) ?_ |refine q0b (fun vs w=>by kernel_rfl) (by kernel_rfl) ((hdn M)) ?_ |refine q0a (fun vs w=>by kernel_rfl) (by kernel_rfl) ((hdn M)) ?_ |refine q0b (fun vs w=>by kernel_rfl) (by kernel_rfl) ((hdm M)) ?_ |refine q0a (fun vs w=>by kernel_rfl) (by kernel_rfl) ((hdm M)) ?_ |refine q0b (fun vs w=>by kernel_rfl) (by kernel_rfl) ((tt M)) ?_ |refine q0a (fun vs w=>by kernel_rfl) (by kernel_rfl) ((tt M)) ?_ |refine q0b (fun vs w=>by kernel_rfl) (by kernel_rfl) ((pt M)) ?_ |refine q0a (fun vs w=>by kernel_rfl) (by kernel_rfl) ((pt M)) ?_ |refine q0b (fun vs w=>by kernel_rfl) (by kernel_rfl) ((ps M)) ?_ |refine q0a (fun vs w=>by kernel_rfl) (by kernel_rfl) ((ps M)) ?_ |refine q0b (fun vs w=>by kernel_rfl) (by kernel_rfl) ((t1 M)) ?_ |refine q0a (fun vs w=>by kernel_rfl) (by kernel_rfl) ((t1 M)) ?_ |refine q0b (fun vs w=>by kernel_rfl) (by kernel_rfl) ((t2 M)) ?_ |refine q0a (fun vs w=>by kernel_rfl) (by kernel_rfl) ((t2 M)) ?_ |refine q0b (fun vs w=>by kernel_rfl) (by kernel_rfl) ((tv M)) ?_ |refine q0a (fun vs w=>by kernel_rfl) (by kernel_rfl) ((tv M)) ?_ |refine q0f tab_ok Tryz.func55 (fun vs w=>by kernel_rfl) (by rfl) ?_))))
                            conv=>whnf
                            have hsk:sk++q0r s (nthP pts) pts.length (j+1)=sj++[[pb,mvP pb nn (1),mvP pb tp (1),mvP pb mm (1)]]:=by rw [hsP,← List.append_assoc,hspj];rfl
                            have hR:RowS S9 G9 43 2 (.slice A9 4 cap9) ([pb,mvP pb nn (1),mvP pb tp (1),mvP pb mm (1)]).length (q0s [pb,mvP pb nn (1),mvP pb tp (1),mvP pb mm (1)]):=hR9
                            rw [hsk,hsD]
                            refine ⟨(S9,G9,putV Bv sj.length (.slice A9 4 cap9)),(hO.add hN9 hR).base hG1,?_⟩
                            dsimp only
                            refine q0k 22 5 rfl rfl rfl rfl ?_
                            conv=>whnf
                            refine q0k 7 6 rfl rfl rfl rfl ?_
                            conv=>whnf
                            exact q0h (n:=7) rfl rfl (by exact flQ) (q0p (fun _ h=>h) (q0c (by exact flQ) (q0c (by exact flQ) (q0c (by exact flQ) (q0j (q0d (by simp) (q17 Bv sj [pb,mvP pb nn (1),mvP pb tp (1),mvP pb mm (1)] (.slice A9 4 cap9)).symm (q0d rfl rfl q0e)))))))
                          · rw [if_neg (show ¬ q1p s nn mm from fun h=>hle h.2.2)] at hsP
                            (repeat ((try (conv=>whnf));(first |(refine ra _ ?_) |(refine rb _ ?_) |(with_reducible refine q0o tab_ok (by kernel_rfl) [0,1,2,3,4,5,6,7,8,9] [] [10] (by decide +kernel) ?_) |((refine q0n (by rfl) ?_ ?_);(· first |exact Mem.le_refl _ |assumption)) |(with_reducible refine q01 tab_ok ?_) |((with_reducible refine mustP.mk ?_ ?_);(· exact Nat.le_of_ble_eq_true rfl)) |(refine q1f tab_ok 0 18 14 rfl rfl rfl rfl rfl rfl rfl fun A9 cap9 S9 G9 hN9 hR9=>?_) |(refine s3Q ?_) |(with_reducible first |refine q0f tab_ok Tryz.func58 (fun vs w=>by kernel_rfl) (by rfl) ?_ |refine q0b (fun vs w=>by kernel_rfl) (by kernel_rfl) ((hcr M)) ?_ |refine q0a (fun vs w=>by kernel_rfl) (by kernel_rfl) ((hcr M)) ?_ |refine q0b (fun vs w=>by kernel_rfl) (by kernel_rfl) ((tn M)) ?_ |refine q0a (fun vs w=>by kernel_rfl) (by kernel_rfl) ((tn M)) ?_ |refine q0b (fun vs w=>by kernel_rfl) (by kernel_rfl) ((tm M)) ?_ |refine q0a (fun vs w=>by kernel_rfl) (by kernel_rfl) ((tm M)) ?_ |refine q0b (fun vs w=>by kernel_rfl) (by kernel_rfl) ((pn M)) ?_ |refine q0a (fun vs w=>by kernel_rfl) (by kernel_rfl) ((pn M)) ?_ |refine q0b (fun vs w=>by kernel_rfl) (by kernel_rfl) ((pm M)) ?_ |refine q0a (fun vs w=>by kernel_rfl) (by kernel_rfl) ((pm M)) ?_ |refine q0b (fun vs w=>by kernel_rfl) (by kernel_rfl) ((hdn M)) ?_ |refine q0a (fun vs w=>by kernel_rfl) (by kernel_rfl) ((hdn M)) ?_ |refine q0b (fun vs w=>by kernel_rfl) (by kernel_rfl) ((hdm M)) ?_ |refine q0a (fun vs w=>by kernel_rfl) (by kernel_rfl) ((hdm M)) ?_ |refine q0f tab_ok Tryz.func55 (fun vs w=>by kernel_rfl) (by rfl) ?_))))
                            conv=>whnf
                            have hsk:sk++q0r s (nthP pts) pts.length (j+1)=sj++[[pb,mvP pb nn (1),mvP pb mm (1)]]:=by rw [hsP,← List.append_assoc,hspj];rfl
                            have hR:RowS S9 G9 43 2 (.slice A9 3 cap9) ([pb,mvP pb nn (1),mvP pb mm (1)]).length (q0s [pb,mvP pb nn (1),mvP pb mm (1)]):=hR9
                            rw [hsk,hsD]
                            refine ⟨(S9,G9,putV Bv sj.length (.slice A9 3 cap9)),(hO.add hN9 hR).base hG1,?_⟩
                            dsimp only
                            refine q0k 19 5 rfl rfl rfl rfl ?_
                            conv=>whnf
                            refine q0k 7 6 rfl rfl rfl rfl ?_
                            conv=>whnf
                            exact q0h (n:=7) rfl rfl (by exact flQ) (q0p (fun _ h=>h) (q0c (by exact flQ) (q0c (by exact flQ) (q0c (by exact flQ) (q0j (q0d (by simp) (q17 Bv sj [pb,mvP pb nn (1),mvP pb mm (1)] (.slice A9 3 cap9)).symm (q0d rfl rfl q0e)))))))
                        · rw [if_neg (show ¬ q1p s nn mm from fun h=>hp h.2.1)] at hsP
                          (repeat ((try (conv=>whnf));(first |(refine ra _ ?_) |(refine rb _ ?_) |(with_reducible refine q0o tab_ok (by kernel_rfl) [0,1,2,3,4,5,6,7,8,9] [] [10] (by decide +kernel) ?_) |((refine q0n (by rfl) ?_ ?_);(· first |exact Mem.le_refl _ |assumption)) |(with_reducible refine q01 tab_ok ?_) |((with_reducible refine mustP.mk ?_ ?_);(· exact Nat.le_of_ble_eq_true rfl)) |(refine q1f tab_ok 0 18 14 rfl rfl rfl rfl rfl rfl rfl fun A9 cap9 S9 G9 hN9 hR9=>?_) |(refine s3Q ?_) |(with_reducible first |refine q0f tab_ok Tryz.func58 (fun vs w=>by kernel_rfl) (by rfl) ?_ |refine q0b (fun vs w=>by kernel_rfl) (by kernel_rfl) ((hcr M)) ?_ |refine q0a (fun vs w=>by kernel_rfl) (by kernel_rfl) ((hcr M)) ?_ |refine q0b (fun vs w=>by kernel_rfl) (by kernel_rfl) ((tn M)) ?_ |refine q0a (fun vs w=>by kernel_rfl) (by kernel_rfl) ((tn M)) ?_ |refine q0b (fun vs w=>by kernel_rfl) (by kernel_rfl) ((tm M)) ?_ |refine q0a (fun vs w=>by kernel_rfl) (by kernel_rfl) ((tm M)) ?_ |refine q0b (fun vs w=>by kernel_rfl) (by kernel_rfl) ((pn M)) ?_ |refine q0a (fun vs w=>by kernel_rfl) (by kernel_rfl) ((pn M)) ?_ |refine q0b (fun vs w=>by kernel_rfl) (by kernel_rfl) ((pm M)) ?_ |refine q0a (fun vs w=>by kernel_rfl) (by kernel_rfl) ((pm M)) ?_ |refine q0b (fun vs w=>by kernel_rfl) (by kernel_rfl) ((hdn M)) ?_ |refine q0a (fun vs w=>by kernel_rfl) (by kernel_rfl) ((hdn M)) ?_ |refine q0b (fun vs w=>by kernel_rfl) (by kernel_rfl) ((hdm M)) ?_ |refine q0a (fun vs w=>by kernel_rfl) (by kernel_rfl) ((hdm M)) ?_ |refine q0f tab_ok Tryz.func55 (fun vs w=>by kernel_rfl) (by rfl) ?_))))
                          conv=>whnf
                          have hsk:sk++q0r s (nthP pts) pts.length (j+1)=sj++[[pb,mvP pb nn (1),mvP pb mm (1)]]:=by rw [hsP,← List.append_assoc,hspj];rfl
                          have hR:RowS S9 G9 43 2 (.slice A9 3 cap9) ([pb,mvP pb nn (1),mvP pb mm (1)]).length (q0s [pb,mvP pb nn (1),mvP pb mm (1)]):=hR9
                          rw [hsk,hsD]
                          refine ⟨(S9,G9,putV Bv sj.length (.slice A9 3 cap9)),(hO.add hN9 hR).base hG1,?_⟩
                          dsimp only
                          refine q0k 19 5 rfl rfl rfl rfl ?_
                          conv=>whnf
                          refine q0k 7 6 rfl rfl rfl rfl ?_
                          conv=>whnf
                          exact q0h (n:=7) rfl rfl (by exact flQ) (q0p (fun _ h=>h) (q0c (by exact flQ) (q0c (by exact flQ) (q0c (by exact flQ) (q0j (q0d (by simp) (q17 Bv sj [pb,mvP pb nn (1),mvP pb mm (1)] (.slice A9 3 cap9)).symm (q0d rfl rfl q0e)))))))
                      · rw [if_neg (show ¬ q1p s nn mm from fun h=>hj h.1)] at hsP
                        (repeat ((try (conv=>whnf));(first |(refine ra _ ?_) |(refine rb _ ?_) |(with_reducible refine q0o tab_ok (by kernel_rfl) [0,1,2,3,4,5,6,7,8,9] [] [10] (by decide +kernel) ?_) |((refine q0n (by rfl) ?_ ?_);(· first |exact Mem.le_refl _ |assumption)) |(with_reducible refine q01 tab_ok ?_) |((with_reducible refine mustP.mk ?_ ?_);(· exact Nat.le_of_ble_eq_true rfl)) |(refine q1f tab_ok 0 18 14 rfl rfl rfl rfl rfl rfl rfl fun A9 cap9 S9 G9 hN9 hR9=>?_) |(refine s3Q ?_) |(with_reducible first |refine q0f tab_ok Tryz.func58 (fun vs w=>by kernel_rfl) (by rfl) ?_ |refine q0b (fun vs w=>by kernel_rfl) (by kernel_rfl) ((hcr M)) ?_ |refine q0a (fun vs w=>by kernel_rfl) (by kernel_rfl) ((hcr M)) ?_ |refine q0b (fun vs w=>by kernel_rfl) (by kernel_rfl) ((tn M)) ?_ |refine q0a (fun vs w=>by kernel_rfl) (by kernel_rfl) ((tn M)) ?_ |refine q0b (fun vs w=>by kernel_rfl) (by kernel_rfl) ((tm M)) ?_ |refine q0a (fun vs w=>by kernel_rfl) (by kernel_rfl) ((tm M)) ?_ |refine q0b (fun vs w=>by kernel_rfl) (by kernel_rfl) ((pn M)) ?_ |refine q0a (fun vs w=>by kernel_rfl) (by kernel_rfl) ((pn M)) ?_ |refine q0b (fun vs w=>by kernel_rfl) (by kernel_rfl) ((pm M)) ?_ |refine q0a (fun vs w=>by kernel_rfl) (by kernel_rfl) ((pm M)) ?_ |refine q0b (fun vs w=>by kernel_rfl) (by kernel_rfl) ((hdn M)) ?_ |refine q0a (fun vs w=>by kernel_rfl) (by kernel_rfl) ((hdn M)) ?_ |refine q0b (fun vs w=>by kernel_rfl) (by kernel_rfl) ((hdm M)) ?_ |refine q0a (fun vs w=>by kernel_rfl) (by kernel_rfl) ((hdm M)) ?_ |refine q0f tab_ok Tryz.func55 (fun vs w=>by kernel_rfl) (by rfl) ?_))))
                        conv=>whnf
                        have hsk:sk++q0r s (nthP pts) pts.length (j+1)=sj++[[pb,mvP pb nn (1),mvP pb mm (1)]]:=by rw [hsP,← List.append_assoc,hspj];rfl
                        have hR:RowS S9 G9 43 2 (.slice A9 3 cap9) ([pb,mvP pb nn (1),mvP pb mm (1)]).length (q0s [pb,mvP pb nn (1),mvP pb mm (1)]):=hR9
                        rw [hsk,hsD]
                        refine ⟨(S9,G9,putV Bv sj.length (.slice A9 3 cap9)),(hO.add hN9 hR).base hG1,?_⟩
                        dsimp only
                        refine q0k 19 5 rfl rfl rfl rfl ?_
                        conv=>whnf
                        refine q0k 7 6 rfl rfl rfl rfl ?_
                        conv=>whnf
                        exact q0h (n:=7) rfl rfl (by exact flQ) (q0p (fun _ h=>h) (q0c (by exact flQ) (q0c (by exact flQ) (q0c (by exact flQ) (q0j (q0d (by simp) (q17 Bv sj [pb,mvP pb nn (1),mvP pb mm (1)] (.slice A9 3 cap9)).symm (q0d rfl rfl q0e)))))))
                    · rw [if_pos hc] at hsP
                      (repeat ((try (conv=>whnf));(first |(refine ra _ ?_) |(refine rb _ ?_) |(with_reducible refine q0o tab_ok (by kernel_rfl) [0,1,2,3,4,5,6,7,8,9] [] [10] (by decide +kernel) ?_) |((refine q0n (by rfl) ?_ ?_);(· first |exact Mem.le_refl _ |assumption)) |(refine s3Q ?_) |(with_reducible first |refine q0f tab_ok Tryz.func58 (fun vs w=>by kernel_rfl) (by rfl) ?_ |refine q0b (fun vs w=>by kernel_rfl) (by kernel_rfl) ((hcr M)) ?_ |refine q0a (fun vs w=>by kernel_rfl) (by kernel_rfl) ((hcr M)) ?_))))
                      conv=>whnf
                      have hsk:sk++q0r s (nthP pts) pts.length (j+1)=sj:=by rw [hsP];simp only [Option.toList,List.append_nil];exact hspj
                      rw [hsk,hsD]
                      refine ⟨(S,M,Bv),hO.base hG1,?_⟩
                      dsimp only
                      refine q0k 6 5 rfl rfl rfl rfl ?_
                      conv=>whnf
                      refine q0k 7 6 rfl rfl rfl rfl ?_
                      conv=>whnf
                      exact q0h (n:=7) rfl rfl (by exact flQ) (q0p (fun _ h=>h) (q0c (by exact flQ) (q0c (by exact flQ) (q0c (by exact flQ) (q0j (q0d rfl rfl (q0d rfl rfl q0e)))))))
                    · have hk:(if 0<q2l pa pb pc then (-1:Int) else 1)=-1:=by rw [if_pos hc]
                      rw [if_neg (show ¬ q2l pa pb pc=0 by omega),hk] at hsP
                      have tn:=fun G=>q4z (G:=G) (v:=nn) (k:=-1) sn (by omega)
                      have tm:=fun G=>q4z (G:=G) (v:=mm) (k:=-1) sm (by omega)
                      have pn:=fun G=>q6b (G:=G) (p:=pb) (v:=nn) (k:=-1) sb sn (by omega)
                      have pm:=fun G=>q6b (G:=G) (p:=pb) (v:=mm) (k:=-1) sb sm (by omega)
                      by_cases hj:s.join=0
                      · by_cases hp:0<dotV nn nn+dotV nn mm
                        · by_cases hle:512*dotV nn nn≤s.lim*s.lim*(dotV nn nn+dotV nn mm)
                          · rw [if_pos (show q1p s nn mm from ⟨hj,hp,hle⟩)] at hsP
                            have htb:=z0w n1 n2 m1 m2 hp
                            have hst:q0l (tipV nn mm):=by unfold q0l q0u;omega
                            obtain ⟨⟨b1,b2⟩,b3,b4⟩:=htb
                            have tt:=fun G=>q4z (G:=G) (v:=tipV nn mm) (k:=-1) hst (by omega)
                            have pt:=fun G=>q6b (G:=G) (p:=pb) (v:=tipV nn mm) (k:=-1) sb hst (by omega)
                            have ps:=fun G=>q25 (G:=G) sn.1 sn.2 sm.1 sm.2
                            have t1:=fun G=>q3d (G:=G) (a:=dotV nn nn*(nn.1+mm.1)) (b:=dotV nn nn+dotV nn mm) (by omega) (by omega)
                            have t2:=fun G=>q3d (G:=G) (a:=dotV nn nn*(nn.2+mm.2)) (b:=dotV nn nn+dotV nn mm) (by omega) (by omega)
                            change ∀ G,Gives _ _ _ G (.val (.int .i64 (tipV nn mm).1)) at t1
                            change ∀ G,Gives _ _ _ G (.val (.int .i64 (tipV nn mm).2)) at t2
                            have tv:=fun G=>q4r (G:=G) (tipV nn mm).1 (tipV nn mm).2
                            generalize tipV nn mm=tp at *
                            (repeat ((try (conv=>whnf));(first |(with_reducible refine q0o tab_ok (by kernel_rfl) [0,1,2,3,4,5,8] [6,7] [9,10] (by decide +kernel) ?_) |(refine ra _ ?_) |(refine rb _ ?_) |(with_reducible refine q0o tab_ok (by kernel_rfl) [0,1,2,3,4,5,6,7,8,9] [] [10] (by decide +kernel) ?_) |((refine q0n (by rfl) ?_ ?_);(· first |exact Mem.le_refl _ |assumption)) |(with_reducible refine q01 tab_ok ?_) |((with_reducible refine mustP.mk ?_ ?_);(· exact Nat.le_of_ble_eq_true rfl)) |(refine q1f tab_ok 0 21 16 rfl rfl rfl rfl rfl rfl rfl fun A9 cap9 S9 G9 hN9 hR9=>?_) |(refine s3Q ?_) |(with_reducible first |refine q0f tab_ok Tryz.func58 (fun vs w=>by kernel_rfl) (by rfl) ?_ |refine q0b (fun vs w=>by kernel_rfl) (by kernel_rfl) ((hcr M)) ?_ |refine q0a (fun vs w=>by kernel_rfl) (by kernel_rfl) ((hcr M)) ?_ |refine q0b (fun vs w=>by kernel_rfl) (by kernel_rfl) ((tn M)) ?_ |refine q0a (fun vs w=>by kernel_rfl) (by kernel_rfl) ((tn M)) ?_ |refine q0b (fun vs w=>by kernel_rfl) (by kernel_rfl) ((tm M)) ?_ |refine q0a (fun vs w=>by kernel_rfl) (by kernel_rfl) ((tm M)) ?_ |refine q0b (fun vs w=>by kernel_rfl) (by kernel_rfl) ((pn M)) ?_ |refine q0a (fun vs w=>by kernel_rfl) (by kernel_rfl) ((pn M)) ?_ |refine q0b (fun vs w=>by kernel_rfl) (by kernel_rfl) ((pm M)) ?_ |refine q0a (fun vs w=>by kernel_rfl) (by kernel_rfl) ((pm M)) ?_ |refine q0b (fun vs w=>by kernel_rfl) (by kernel_rfl) ((hdn M)) ?_ |refine q0a (fun vs w=>by kernel_rfl) (by kernel_rfl) ((hdn M)) ?_ |refine q0b (fun vs w=>by kernel_rfl) (by kernel_rfl) ((hdm M)) ?_ |refine q0a (fun vs w=>by kernel_rfl) (by kernel_rfl) ((hdm M)) ?_ |refine q0b (fun vs w=>by kernel_rfl) (by kernel_rfl) ((tt M)) ?_ |refine q0a (fun vs w=>by kernel_rfl) (by kernel_rfl) ((tt M)) ?_ |refine q0b (fun vs w=>by kernel_rfl) (by kernel_rfl) ((pt M)) ?_ |refine q0a (fun vs w=>by kernel_rfl) (by kernel_rfl) ((pt M)) ?_ |refine q0b (fun vs w=>by kernel_rfl) (by kernel_rfl) ((ps M)) ?_ |refine q0a (fun vs w=>by kernel_rfl) (by kernel_rfl) ((ps M)) ?_ |refine q0b (fun vs w=>by kernel_rfl) (by kernel_rfl) ((t1 M)) ?_ |refine q0a (fun vs w=>by kernel_rfl) (by kernel_rfl) ((t1 M)) ?_ |refine q0b (fun vs w=>by kernel_rfl) (by kernel_rfl) ((t2 M)) ?_ |refine q0a (fun vs w=>by kernel_rfl) (by kernel_rfl) ((t2 M)) ?_ |refine q0b (fun vs w=>by kernel_rfl) (by kernel_rfl) ((tv M)) ?_ |refine q0a (fun vs w=>by kernel_rfl) (by kernel_rfl) ((tv M)) ?_ |refine q0f tab_ok Tryz.func55 (fun vs w=>by kernel_rfl) (by rfl) ?_))))
                            conv=>whnf
                            have hsk:sk++q0r s (nthP pts) pts.length (j+1)=sj++[[pb,mvP pb nn (-1),mvP pb tp (-1),mvP pb mm (-1)]]:=by rw [hsP,← List.append_assoc,hspj];rfl
                            have hR:RowS S9 G9 43 2 (.slice A9 4 cap9) ([pb,mvP pb nn (-1),mvP pb tp (-1),mvP pb mm (-1)]).length (q0s [pb,mvP pb nn (-1),mvP pb tp (-1),mvP pb mm (-1)]):=hR9
                            rw [hsk,hsD]
                            refine ⟨(S9,G9,putV Bv sj.length (.slice A9 4 cap9)),(hO.add hN9 hR).base hG1,?_⟩
                            dsimp only
                            refine q0k 22 5 rfl rfl rfl rfl ?_
                            conv=>whnf
                            refine q0k 7 6 rfl rfl rfl rfl ?_
                            conv=>whnf
                            exact q0h (n:=7) rfl rfl (by exact flQ) (q0p (fun _ h=>h) (q0c (by exact flQ) (q0c (by exact flQ) (q0c (by exact flQ) (q0j (q0d (by simp) (q17 Bv sj [pb,mvP pb nn (-1),mvP pb tp (-1),mvP pb mm (-1)] (.slice A9 4 cap9)).symm (q0d rfl rfl q0e)))))))
                          · rw [if_neg (show ¬ q1p s nn mm from fun h=>hle h.2.2)] at hsP
                            (repeat ((try (conv=>whnf));(first |(refine ra _ ?_) |(refine rb _ ?_) |(with_reducible refine q0o tab_ok (by kernel_rfl) [0,1,2,3,4,5,6,7,8,9] [] [10] (by decide +kernel) ?_) |((refine q0n (by rfl) ?_ ?_);(· first |exact Mem.le_refl _ |assumption)) |(with_reducible refine q01 tab_ok ?_) |((with_reducible refine mustP.mk ?_ ?_);(· exact Nat.le_of_ble_eq_true rfl)) |(refine q1f tab_ok 0 18 14 rfl rfl rfl rfl rfl rfl rfl fun A9 cap9 S9 G9 hN9 hR9=>?_) |(refine s3Q ?_) |(with_reducible first |refine q0f tab_ok Tryz.func58 (fun vs w=>by kernel_rfl) (by rfl) ?_ |refine q0b (fun vs w=>by kernel_rfl) (by kernel_rfl) ((hcr M)) ?_ |refine q0a (fun vs w=>by kernel_rfl) (by kernel_rfl) ((hcr M)) ?_ |refine q0b (fun vs w=>by kernel_rfl) (by kernel_rfl) ((tn M)) ?_ |refine q0a (fun vs w=>by kernel_rfl) (by kernel_rfl) ((tn M)) ?_ |refine q0b (fun vs w=>by kernel_rfl) (by kernel_rfl) ((tm M)) ?_ |refine q0a (fun vs w=>by kernel_rfl) (by kernel_rfl) ((tm M)) ?_ |refine q0b (fun vs w=>by kernel_rfl) (by kernel_rfl) ((pn M)) ?_ |refine q0a (fun vs w=>by kernel_rfl) (by kernel_rfl) ((pn M)) ?_ |refine q0b (fun vs w=>by kernel_rfl) (by kernel_rfl) ((pm M)) ?_ |refine q0a (fun vs w=>by kernel_rfl) (by kernel_rfl) ((pm M)) ?_ |refine q0b (fun vs w=>by kernel_rfl) (by kernel_rfl) ((hdn M)) ?_ |refine q0a (fun vs w=>by kernel_rfl) (by kernel_rfl) ((hdn M)) ?_ |refine q0b (fun vs w=>by kernel_rfl) (by kernel_rfl) ((hdm M)) ?_ |refine q0a (fun vs w=>by kernel_rfl) (by kernel_rfl) ((hdm M)) ?_ |refine q0f tab_ok Tryz.func55 (fun vs w=>by kernel_rfl) (by rfl) ?_))))
                            conv=>whnf
                            have hsk:sk++q0r s (nthP pts) pts.length (j+1)=sj++[[pb,mvP pb nn (-1),mvP pb mm (-1)]]:=by rw [hsP,← List.append_assoc,hspj];rfl
                            have hR:RowS S9 G9 43 2 (.slice A9 3 cap9) ([pb,mvP pb nn (-1),mvP pb mm (-1)]).length (q0s [pb,mvP pb nn (-1),mvP pb mm (-1)]):=hR9
                            rw [hsk,hsD]
                            refine ⟨(S9,G9,putV Bv sj.length (.slice A9 3 cap9)),(hO.add hN9 hR).base hG1,?_⟩
                            dsimp only
                            refine q0k 19 5 rfl rfl rfl rfl ?_
                            conv=>whnf
                            refine q0k 7 6 rfl rfl rfl rfl ?_
                            conv=>whnf
                            exact q0h (n:=7) rfl rfl (by exact flQ) (q0p (fun _ h=>h) (q0c (by exact flQ) (q0c (by exact flQ) (q0c (by exact flQ) (q0j (q0d (by simp) (q17 Bv sj [pb,mvP pb nn (-1),mvP pb mm (-1)] (.slice A9 3 cap9)).symm (q0d rfl rfl q0e)))))))
                        · rw [if_neg (show ¬ q1p s nn mm from fun h=>hp h.2.1)] at hsP
                          (repeat ((try (conv=>whnf));(first |(refine ra _ ?_) |(refine rb _ ?_) |(with_reducible refine q0o tab_ok (by kernel_rfl) [0,1,2,3,4,5,6,7,8,9] [] [10] (by decide +kernel) ?_) |((refine q0n (by rfl) ?_ ?_);(· first |exact Mem.le_refl _ |assumption)) |(with_reducible refine q01 tab_ok ?_) |((with_reducible refine mustP.mk ?_ ?_);(· exact Nat.le_of_ble_eq_true rfl)) |(refine q1f tab_ok 0 18 14 rfl rfl rfl rfl rfl rfl rfl fun A9 cap9 S9 G9 hN9 hR9=>?_) |(refine s3Q ?_) |(with_reducible first |refine q0f tab_ok Tryz.func58 (fun vs w=>by kernel_rfl) (by rfl) ?_ |refine q0b (fun vs w=>by kernel_rfl) (by kernel_rfl) ((hcr M)) ?_ |refine q0a (fun vs w=>by kernel_rfl) (by kernel_rfl) ((hcr M)) ?_ |refine q0b (fun vs w=>by kernel_rfl) (by kernel_rfl) ((tn M)) ?_ |refine q0a (fun vs w=>by kernel_rfl) (by kernel_rfl) ((tn M)) ?_ |refine q0b (fun vs w=>by kernel_rfl) (by kernel_rfl) ((tm M)) ?_ |refine q0a (fun vs w=>by kernel_rfl) (by kernel_rfl) ((tm M)) ?_ |refine q0b (fun vs w=>by kernel_rfl) (by kernel_rfl) ((pn M)) ?_ |refine q0a (fun vs w=>by kernel_rfl) (by kernel_rfl) ((pn M)) ?_ |refine q0b (fun vs w=>by kernel_rfl) (by kernel_rfl) ((pm M)) ?_ |refine q0a (fun vs w=>by kernel_rfl) (by kernel_rfl) ((pm M)) ?_ |refine q0b (fun vs w=>by kernel_rfl) (by kernel_rfl) ((hdn M)) ?_ |refine q0a (fun vs w=>by kernel_rfl) (by kernel_rfl) ((hdn M)) ?_ |refine q0b (fun vs w=>by kernel_rfl) (by kernel_rfl) ((hdm M)) ?_ |refine q0a (fun vs w=>by kernel_rfl) (by kernel_rfl) ((hdm M)) ?_ |refine q0f tab_ok Tryz.func55 (fun vs w=>by kernel_rfl) (by rfl) ?_))))
                          conv=>whnf
                          have hsk:sk++q0r s (nthP pts) pts.length (j+1)=sj++[[pb,mvP pb nn (-1),mvP pb mm (-1)]]:=by rw [hsP,← List.append_assoc,hspj];rfl
                          have hR:RowS S9 G9 43 2 (.slice A9 3 cap9) ([pb,mvP pb nn (-1),mvP pb mm (-1)]).length (q0s [pb,mvP pb nn (-1),mvP pb mm (-1)]):=hR9
                          rw [hsk,hsD]
                          refine ⟨(S9,G9,putV Bv sj.length (.slice A9 3 cap9)),(hO.add hN9 hR).base hG1,?_⟩
                          dsimp only
                          refine q0k 19 5 rfl rfl rfl rfl ?_
                          conv=>whnf
                          refine q0k 7 6 rfl rfl rfl rfl ?_
                          conv=>whnf
                          exact q0h (n:=7) rfl rfl (by exact flQ) (q0p (fun _ h=>h) (q0c (by exact flQ) (q0c (by exact flQ) (q0c (by exact flQ) (q0j (q0d (by simp) (q17 Bv sj [pb,mvP pb nn (-1),mvP pb mm (-1)] (.slice A9 3 cap9)).symm (q0d rfl rfl q0e)))))))
                      · rw [if_neg (show ¬ q1p s nn mm from fun h=>hj h.1)] at hsP
                        (repeat ((try (conv=>whnf));(first |(refine ra _ ?_) |(refine rb _ ?_) |(with_reducible refine q0o tab_ok (by kernel_rfl) [0,1,2,3,4,5,6,7,8,9] [] [10] (by decide +kernel) ?_) |((refine q0n (by rfl) ?_ ?_);(· first |exact Mem.le_refl _ |assumption)) |(with_reducible refine q01 tab_ok ?_) |((with_reducible refine mustP.mk ?_ ?_);(· exact Nat.le_of_ble_eq_true rfl)) |(refine q1f tab_ok 0 18 14 rfl rfl rfl rfl rfl rfl rfl fun A9 cap9 S9 G9 hN9 hR9=>?_) |(refine s3Q ?_) |(with_reducible first |refine q0f tab_ok Tryz.func58 (fun vs w=>by kernel_rfl) (by rfl) ?_ |refine q0b (fun vs w=>by kernel_rfl) (by kernel_rfl) ((hcr M)) ?_ |refine q0a (fun vs w=>by kernel_rfl) (by kernel_rfl) ((hcr M)) ?_ |refine q0b (fun vs w=>by kernel_rfl) (by kernel_rfl) ((tn M)) ?_ |refine q0a (fun vs w=>by kernel_rfl) (by kernel_rfl) ((tn M)) ?_ |refine q0b (fun vs w=>by kernel_rfl) (by kernel_rfl) ((tm M)) ?_ |refine q0a (fun vs w=>by kernel_rfl) (by kernel_rfl) ((tm M)) ?_ |refine q0b (fun vs w=>by kernel_rfl) (by kernel_rfl) ((pn M)) ?_ |refine q0a (fun vs w=>by kernel_rfl) (by kernel_rfl) ((pn M)) ?_ |refine q0b (fun vs w=>by kernel_rfl) (by kernel_rfl) ((pm M)) ?_ |refine q0a (fun vs w=>by kernel_rfl) (by kernel_rfl) ((pm M)) ?_ |refine q0b (fun vs w=>by kernel_rfl) (by kernel_rfl) ((hdn M)) ?_ |refine q0a (fun vs w=>by kernel_rfl) (by kernel_rfl) ((hdn M)) ?_ |refine q0b (fun vs w=>by kernel_rfl) (by kernel_rfl) ((hdm M)) ?_ |refine q0a (fun vs w=>by kernel_rfl) (by kernel_rfl) ((hdm M)) ?_ |refine q0f tab_ok Tryz.func55 (fun vs w=>by kernel_rfl) (by rfl) ?_))))
                        conv=>whnf
                        have hsk:sk++q0r s (nthP pts) pts.length (j+1)=sj++[[pb,mvP pb nn (-1),mvP pb mm (-1)]]:=by rw [hsP,← List.append_assoc,hspj];rfl
                        have hR:RowS S9 G9 43 2 (.slice A9 3 cap9) ([pb,mvP pb nn (-1),mvP pb mm (-1)]).length (q0s [pb,mvP pb nn (-1),mvP pb mm (-1)]):=hR9
                        rw [hsk,hsD]
                        refine ⟨(S9,G9,putV Bv sj.length (.slice A9 3 cap9)),(hO.add hN9 hR).base hG1,?_⟩
                        dsimp only
                        refine q0k 19 5 rfl rfl rfl rfl ?_
                        conv=>whnf
                        refine q0k 7 6 rfl rfl rfl rfl ?_
                        conv=>whnf
                        exact q0h (n:=7) rfl rfl (by exact flQ) (q0p (fun _ h=>h) (q0c (by exact flQ) (q0c (by exact flQ) (q0c (by exact flQ) (q0j (q0d (by simp) (q17 Bv sj [pb,mvP pb nn (-1),mvP pb mm (-1)] (.slice A9 3 cap9)).symm (q0d rfl rfl q0e)))))))
end
end Go.Proofs.YtegpkpilfgohhaaGreat
