/-
  Merged: XOutLen, XOriK, XRevP, XOrient.
-/
import Derived.Test.YtegpkpilfgohhaaGreatMrg10
import Derived.Test.YtegpkpilfgohhaaGreatMrg18
import Derived.Test.YtegpkpilfgohhaaGreatMrg13
import Derived.Test.YtegpkpilfgohhaaGreatMrg17
import Derived.Test.YtegpkpilfgohhaaGreatOLine
set_option linter.unusedVariables false
set_option linter.unusedSimpArgs false
set_option linter.unnecessarySimpa false
namespace Go.Proofs.YtegpkpilfgohhaaGreat
open Go.RowKit
theorem z4c {s:Sty} {P:Nat→Int × Int} {n:Nat}:∀ k,∀ q∈q1z s P n k,q.length≤4
  | 0,q,h=>by simp [q1z] at h
  | k+1,q,h=>by
    rw [q1z,List.mem_append,List.mem_singleton] at h
    rcases h with h |h
    · exact z4c k q h
    · subst h;exact Nat.le_refl _
theorem x16 {s:Sty} {u v t:Int × Int}:∀ q∈(q4a s u v t).toList,q.length≤4:=by
  intro q h
  unfold q4a z52 at h
  split at h
  · simp at h
  · split at h
    · simp at h;subst h;exact Nat.le_refl _
    · simp at h;subst h;simp
theorem z22 {s:Sty} {P:Nat→Int × Int} {n:Nat}:∀ k,∀ q∈q0r s P n k,q.length≤4
  | 0,q,h=>by simp [q0r] at h
  | k+1,q,h=>by
    rw [q0r,List.mem_append] at h
    rcases h with h |h
    · exact z22 k q h
    · split at h
      · simp at h
      · exact x16 q h
theorem z01 {s:Sty} {P:Nat→Int × Int} {n:Nat} {cl:Bool}:∀ q∈q1u s P n cl,q.length≤4:=by
  intro q h
  unfold q1u at h
  split at h
  · simp at h
  · split at h
    · split at h
      · simp at h;subst h;exact Nat.le_refl _
      · simp at h
    · rw [List.mem_append,List.mem_append] at h
      rcases h with (h |h) |h
      · exact z4c _ q h
      · exact z22 _ q h
      · split at h
        · simp at h
          rcases h with h |h <;> subst h <;> exact Nat.le_refl _
        · simp at h
theorem z7a {s:Sty} {P:Nat→Int × Int} {n:Nat} {cl:Bool}:(q1u s P n cl).length≤2*n+2:=by
  unfold q1u
  split
  · simp
  · split
    · split <;> simp
    · have h1:=q3g s P n (if cl=true then n else n-1)
      have h2:=q3s s P n (if cl=true then n else n-2)
      rw [List.length_append,List.length_append,h1]
      have h3:(if cl=true then n else n-1)≤n:=by split <;> omega
      have h4:(if cl=true then n else n-2)≤n:=by split <;> omega
      have h5:∀ x y:List (Int × Int),(if cl=false∧s.cap=2 then [x,y] else []).length≤2:=fun x y=>by split <;> simp
      exact Nat.le_trans (Nat.add_le_add_left (h5 _ _) _) (by omega)
theorem z7b {s:Sty} {P:Nat→Int × Int} {n:Nat} {cl:Bool}:(q10 s P n cl).length≤n+2:=by
  unfold q10
  split
  · simp
  · split
    · split <;> simp
    · have h2:=q3t s P n (if cl=true then n else n-2)
      rw [List.length_append]
      have h4:(if cl=true then n else n-2)≤n:=by split <;> omega
      have h5:∀ x y:Int × Int,(if cl=false∧s.cap=1 then [x,y] else []).length≤2:=fun x y=>by split <;> simp
      exact Nat.le_trans (Nat.add_le_add_left (h5 _ _) _) (by omega)
end Go.Proofs.YtegpkpilfgohhaaGreat
namespace Go.Proofs.YtegpkpilfgohhaaGreat
open Go.RowKit
set_option maxRecDepth 20000
section
variable {G0:Mem} {E:TypeId} {S S':Nat→Prop} {M M':Mem} {ps:List (List (Int × Int))} {B:Nat→Value} {v:Value} {q:List (Int × Int)}
theorem OutM.grow (h:OutM G0 E S M ps B) (hle:M.le M'):OutM G0 E S M' ps B :=
  ⟨Mem.le_trans h.le hle,fun k hk=>(h.rows k hk).of (fun _ h=>h) fun b hb=>(by
    obtain ⟨_,o,ho⟩:=(h.rows k hk).blk hb
    rw [ho,hle b o ho]),h.apart,h.free⟩
def oriK (ps:List (List (Int × Int))) (i:Nat):List (List (Int × Int)):=(ps.take i).map orP++ps.drop i
theorem z4w (ps:List (List (Int × Int))) (i:Nat):(oriK ps i).length=ps.length:=by
  unfold oriK;simp;omega
theorem x5v (ps:List (List (Int × Int))):oriK ps 0=ps:=by simp [oriK]
theorem x7k (ps:List (List (Int × Int))):oriK ps ps.length=ps.map orP:=by simp [oriK]
theorem z3s {ps:List (List (Int × Int))} {i:Nat} (h:i<ps.length):nthL (oriK ps i) i=nthL ps i:=by
  have h1:(oriK ps i)[i]? = ps[i]?:=by
    unfold oriK
    rw [List.getElem?_append_right (by simp;omega)]
    simp;congr 1;omega
  rw [q1m h,q1m (by rw [z4w];exact h)] at h1
  exact Option.some.inj h1
theorem z8j {ps:List (List (Int × Int))} {i:Nat} (h:i<ps.length):oriK ps (i+1)=(oriK ps i).set i (orP (nthL ps i)):=by
  unfold oriK
  have e1:ps.take (i+1)=ps.take i++[nthL ps i]:=by
    rw [List.take_add_one,q1m h];rfl
  have e2:ps.drop i=nthL ps i::ps.drop (i+1):=by
    rw [List.drop_eq_getElem_cons h]
    congr 1
    have:=q1m h
    rw [List.getElem?_eq_getElem h] at this
    exact Option.some.inj this
  have hl:((ps.take i).map orP).length=i:=by simp;omega
  rw [e1,e2,List.set_append_right _ _ (by omega),hl,Nat.sub_self,List.set_cons_zero,List.map_append,List.append_assoc]
  rfl
theorem x7l {α:Type} {l:List α} {i:Nat} {x:α} (h:l[i]? = some x):l.set i x=l:=by
  apply List.ext_getElem?
  intro k
  rw [List.getElem?_set]
  by_cases e:i=k
  · subst e;rw [if_pos rfl,h];simp [(List.getElem?_eq_some_iff.1 h).1]
  · rw [if_neg e]
theorem x5w {ps:List (List (Int × Int))} {i:Nat} (h:i<ps.length) (hp:¬ arP (nthL ps i)<0):oriK ps (i+1)=oriK ps i:=by
  rw [z8j h,show orP (nthL ps i)=nthL ps i by unfold orP;rw [if_neg hp]]
  exact x7l (by rw [q1m (by rw [z4w];exact h),z3s h])
theorem LinesM.cut {G:Mem} {A:Option Addr} {n i:Nat} {L:Nat→LineD} (h:LinesM G A n L) (hi:i<n):LinesM G (A.map fun p=>p.add (i*2)) 1 fun _=>L i:=by
  refine ⟨((h.rows.drop (k:=i) (by omega)).less (k:=1) (by omega)).congr fun x hx=>?_,fun x hx=>h.pts i hi,fun x hx=>h.cap i hi⟩
  rw [show i+x=i by omega]
structure OutF (M:Mem) (A:Option Addr) (B:Nat→Value) (qs:List (List (Int × Int))):Prop where
  row:FlatM M A (rowV B qs)
  pts:∀ k,k<qs.length→∃ A c,B k=.slice A (nthL qs k).length c∧PtsM M A (nthL qs k)∧(nthL qs k).length≤c∧c≤maxLen
theorem OutF.mono {M M':Mem} {A:Option Addr} {B:Nat→Value} {qs:List (List (Int × Int))} (h:OutF M A B qs) (hle:M.le M'):OutF M' A B qs:=⟨h.row.mono hle,fun k hk=>by
  obtain ⟨A,c,e,h1,h2⟩:=h.pts k hk
  exact ⟨A,c,e,h1.mono hle,h2⟩⟩
theorem OutF.lines {M:Mem} {A:Option Addr} {B:Nat→Value} {qs:List (List (Int × Int))} (h:OutF M A B qs):LinesM M A qs.length fun k=>lnV (B k) (nthL qs k):=by
  refine ⟨(h.row.els (sz:=2) (fun _ _=>rfl) (by omega)).congr fun k hk=>?_,fun k hk=>?_,fun k hk=>?_⟩
  · obtain ⟨A',c,e,_⟩:=h.pts k hk
    show _=LineD.cells _
    rw [e];rfl
  · obtain ⟨A',c,e,hp,_⟩:=h.pts k hk
    show ElsM M (lnV (B k) _).A 2 (lnV (B k) _).n _
    rw [e];exact z3q hp
  · obtain ⟨A',c,e,_,h1,h2⟩:=h.pts k hk
    show (lnV (B k) _).n≤(lnV (B k) _).q∧_
    rw [e];exact ⟨h1,h2⟩
theorem q94 {p:Addr} {i c:Nat} (h:i<c):Value.slice (if c=(i:Int).toNat then some p else Option.map (fun x=>x.add ((i:Int).toNat * 2)) (some p)) (((i:Int)+1).toNat-(i:Int).toNat) (c-(i:Int).toNat)=.slice (Option.map (fun p=>p.add (i*2)) (some p)) 1 (c-i):=by
  have e:(i:Int).toNat=i:=rfl
  rw [if_neg (by omega),e,show ((i:Int)+1).toNat-i=1 by omega]
theorem q95 {ps:List (List (Int × Int))} (h:q3u ps=true) {i:Nat} (hi:i<ps.length) (v:Value):q1n (fun _=>lnV v (nthL ps i)) 1=true:=by
  have h1:=q2v h i hi
  refine q8p fun x hx j hj=>?_
  cases v <;> exact h1 j hj
theorem x0w {f:List (Int × Int)→List (Int × Int)} {ps:List (List (Int × Int))} {i:Nat} (h:i<ps.length):nthL (ps.map f) i=f (nthL ps i):=by
  have h1:=q1m (ps:=ps.map f) (i:=i) (by simpa using h)
  rw [List.getElem?_map,q1m h] at h1
  exact (Option.some.inj h1).symm
end
end Go.Proofs.YtegpkpilfgohhaaGreat
namespace Go.Proofs.YtegpkpilfgohhaaGreat
open Go.RowKit
set_option maxRecDepth 20000
def RevAt (l cur:List (Int × Int)) (i:Nat):Prop:=cur.length=l.length∧∀ k,k<l.length→nthP cur k=if k<i∨l.length≤k+i then nthP l (l.length-1-k) else nthP l k
theorem x0x {l:List (Int × Int)} {i k:Nat} {x:Int × Int} (hi:i<l.length):nthP (l.set i x) k=if k=i then x else nthP l k:=by
  unfold nthP
  rw [getElem!_def,getElem!_def,List.getElem?_set]
  by_cases e:i=k
  · subst e;simp [hi]
  · rw [if_neg e,if_neg (fun h=>e h.symm)]
theorem RevAt.start (l:List (Int × Int)):RevAt l l 0:=⟨rfl,fun k hk=>by rw [if_neg (by omega)]⟩
theorem RevAt.next {l cur:List (Int × Int)} {i:Nat} (h:RevAt l cur i) (hi:2*i+1<l.length):RevAt l ((cur.set i (nthP cur (l.length-1-i))).set (l.length-1-i) (nthP cur i)) (i+1):=by
  obtain ⟨hl,h1⟩:=h
  have e1:=h1 i (by omega)
  have e2:=h1 (l.length-1-i) (by omega)
  rw [if_neg (by omega)] at e1 e2
  refine ⟨by simp [hl],fun k hk=>?_⟩
  rw [x0x (by simp [hl];omega),x0x (by omega),e1,e2,h1 k hk]
  by_cases k1:k=l.length-1-i
  · rw [if_pos k1,if_pos (by omega),show l.length-1-k=i by omega]
  · rw [if_neg k1]
    by_cases k2:k=i
    · rw [if_pos k2,if_pos (by omega),k2]
    · rw [if_neg k2]
      by_cases k3:k<i∨l.length≤k+i
      · rw [if_pos k3,if_pos (by omega)]
      · rw [if_neg k3,if_neg (by omega)]
theorem RevAt.done {l cur:List (Int × Int)} {i:Nat} (h:RevAt l cur i) (hi:l.length≤2*i+1):cur=l.reverse:=by
  obtain ⟨hl,h1⟩:=h
  apply List.ext_getElem?
  intro k
  by_cases hk:k<l.length
  · rw [q1h (by omega),List.getElem?_reverse hk,q1h (by omega),h1 k hk]
    congr 1
    by_cases k3:k<i∨l.length≤k+i
    · rw [if_pos k3]
    · rw [if_neg k3,show l.length-1-k=k by omega]
  · rw [List.getElem?_eq_none (by omega),List.getElem?_eq_none (by simp;omega)]
theorem x26 {l:List (Int × Int)} {z:Int} {i:Nat} (hz:z.toNat=i) (h:i<l.length) {xs:List Value} (hx:xs.length=(q0s l).length):z.toNat * 2+2≤xs.length:=by
  rw [hx,q5m];omega
theorem x7m {l:List (Int × Int)} {z:Int} {i:Nat} (hz:z.toNat=i) (h:i<l.length) (x:Int × Int):((q0s l).take (z.toNat * 2)++([.int .i64 x.1,.int .i64 x.2]:List Value)++(q0s l).drop (z.toNat * 2+2)).length=(q0s l).length:=by
  subst hz
  rw [q2q,q74 q26 l _ x h,q2w q26,q2w q26];simp
theorem x83 {l:List (Int × Int)} {zi zj:Int} {i j:Nat} {x y:Int × Int} (hi:zi.toNat=i) (hj:zj.toNat=j) (h1:i<l.length) (h2:j<l.length) :
    ((q0s l).take (zi.toNat * 2)++([.int .i64 x.1,.int .i64 x.2]:List Value)++(q0s l).drop (zi.toNat * 2+2)).take (zj.toNat * 2)++([.int .i64 y.1,.int .i64 y.2]:List Value)++((q0s l).take (zi.toNat * 2)++([.int .i64 x.1,.int .i64 x.2]:List Value)++(q0s l).drop (zi.toNat * 2+2)).drop (zj.toNat * 2+2)=q0s ((l.set i x).set j y):=by
  rw [hi,hj,q2q,q74 q26 l i x h1,q74 q26 _ j y (by simpa using h2),q2q]
section
variable {G:Mem}
set_option maxHeartbeats 4000000 in
theorem z83 {l:List (Int × Int)} (hl:l.length≤4000000) :
    Mends Tryz.prog 61 [.own 0] G 43 2 l.length (q0s l) (q0s l.reverse):=by
  refine x7h tab_ok Tryz.func61 fun G' hG=>?_
  (repeat ((try (conv=>whnf));(refine stQ ?_)))
  conv=>whnf
  refine q2k tab_ok (fun (i:Nat) (cur:List (Int × Int))=>i≤l.length∧RevAt l cur i) (fun i cur=>[(2,.val (.int .i64 i)),(3,.val (.int .i64 ((l.length:Int)-1-i)))]) (fun i cur=>[.own 43 2 l.length (q0s cur)]) (fun i cur=>l.length-i) 0 l ⟨Nat.zero_le _,RevAt.start l⟩ ?_ ?_
  · ((refine q0g ?_);(conv=>whnf);(refine q0h (by rfl) (by rfl) flQ ?_))
    exact q0d rfl rfl q0e
  · rintro i cur ⟨hi,hc⟩
    have hlen:=hc.1
    rcases Nat.lt_or_ge (2*i+1) l.length with h1 |h1
    · have hnx:=hc.next h1
      (repeat ((try (conv=>whnf));(first |(with_reducible refine q5g tab_ok (by kernel_rfl) 14 [0] [(6,0),(7,0),(10,0),(11,0),(12,0)] (by decide +kernel) ?_) |(refine x0q (i:=l.length-1-i) (by omega) (by omega) ?_) |(refine x0q (i:=i) (by omega) (by omega) ?_) |(refine stQ ?_))))
      conv=>whnf
      refine mustP.mk (x26 (l:=cur) (i:=i) (by omega) (by omega) rfl) ?_
      (repeat ((try (conv=>whnf));(refine stQ ?_)))
      conv=>whnf
      refine mustP.mk (x26 (l:=cur) (i:=l.length-1-i) (by omega) (by omega) (x7m (i:=i) (by omega) (by omega) _)) ?_
      (repeat ((try (conv=>whnf));(refine stQ ?_)))
      refine ⟨i+1,_,⟨by omega,hnx⟩,by omega,?_⟩
      ((refine q0g ?_);(conv=>whnf);(refine q0h (by rfl) (by rfl) flQ ?_))
      exact q0d rfl (x83 (by omega) (by omega) (by omega) (by omega)) q0e
    · (repeat ((try (conv=>whnf));(refine stQ ?_)))
      rw [hc.done h1]
      rfl
end
end Go.Proofs.YtegpkpilfgohhaaGreat
namespace Go.Proofs.YtegpkpilfgohhaaGreat
open Go.RowKit
set_option maxRecDepth 20000
theorem x7n {B:Nat→Value} {ps qs:List (List (Int × Int))} (h:qs.length=ps.length):rowV B qs=rowV B ps:=by unfold rowV;rw [h]
theorem OutM.fin {G0:Mem} {E:TypeId} {S:Nat→Prop} {M:Mem} {ps:List (List (Int × Int))} {B:Nat→Value} {A:Option Addr} (h:OutM G0 E S M ps B) (hF:FlatM M A (rowV B ps)):OutF M A B ps:=⟨hF,fun k hk=>(h.rows k hk).pts⟩
def x98 (ps:List (List (Int × Int))) (ds:List (Int × Int)) (v:AV) (G':Mem):Prop :=
  ∃ o e,v=.tup [.val o,.val (.int .i64 e)]∧((e=10∧q3u ps=false)∨(e=0∧q3u ps=true∧∃ b A c B d Bv,o=.pointer (some ⟨b,0,none⟩)∧G'.cell? ⟨b,4,none⟩=some (.slice A ps.length c)∧G'.cell? ⟨b,5,none⟩=some (.slice B ds.length d)∧ps.length≤c∧c≤maxLen∧OutF G' A Bv (ps.map orP)∧PtsM G' B ds))
section
variable {G:Mem} {A:Option Addr} {n q:Nat} {cl:Bool} {P:Nat→Int × Int} {s:Sty}
set_option maxHeartbeats 16000000 in
theorem z18 (h:ElsM G A 2 n fun i=>[.int .i64 (P i).1,.int .i64 (P i).2]) (hn:n≤1100000) (hP:∀ i,i<n→okP (P i)) (hs:StyOk s) {ps:List (List (Int × Int))} {ds:List (Int × Int)}
    (eps:q1u s (nthP (q0v P n cl)) (q0v P n cl).length cl=ps) (eds:q10 s (nthP (q0v P n cl)) (q0v P n cl).length cl=ds) :
    q4y Tryz.prog 20 [z1q A n q cl,styA s] G (x98 ps ds):=by
  have hl:=x5u (q:=q) (cl:=cl) h hn hP hs
  have hsh:∀ r∈ps,r.length≤4:=eps ▸ z01
  rw [eps,eds] at hl
  clear eps eds
  refine x35 tab_ok Tryz.func20 (by rfl) ?_
  (repeat ((try (conv=>whnf));(refine stQ ?_)))
  conv=>whnf
  refine x7i 4 rfl (fun i:(Nat→Prop) × Mem × (Nat→Value)=>OutM G 43 i.1 i.2.1 ps i.2.2) (fun i=>[.muts i.1,q3i A n q cl,styB s,q66 s (.own 5) (.own 6),.gone,.own 37 2 ps.length (rowV i.2.2 ps),.own 43 2 ds.length (q0s ds)]) (fun i=>i.2.1) .any hl ?_
  rintro ⟨S1,M1,B1⟩ hO
  dsimp only at hO ⊢
  conv=>whnf
  (repeat ((try (conv=>whnf));(first |(refine stQ ?_) |(with_reducible refine q0f tab_ok Tryz.func37 (fun vs w=>by kernel_rfl) (by rfl) ?_))))
  conv=>whnf
  refine x34 0 5 (fun vs w=>by kernel_rfl) rfl rfl rfl fun A1 c1 S2 G1 hN hR=>?_
  conv=>whnf
  have hO1:=hO.stand hN
  have hap:∀ k,k<ps.length→∀ b,q0i (Value.slice A1 ps.length c1)=some b→q0i (B1 k)≠some b:=fun k hk b hb e=>by
    obtain ⟨_,o,ho⟩:=(hO.rows k hk).blk e
    rw [hN.fresh b hb] at ho;cases ho
  obtain ⟨_,_,e0,hnc,hcm⟩:=hR.isSl
  cases e0
  clear hO hN hl
  have hcx:c1≤9223372036854775807:=Nat.le_trans hcm (by unfold maxLen;omega)
  have hc:=q4m (c:=c1) (hO1.lines hR.flat) (Nat.le_trans hnc hcm)
  cases hb:q3u ps
  · rw [show q16 (fun k=>lnV (B1 k) (nthL ps k)) ps.length=3 by unfold q16;rw [q93,hb];rfl] at hc
    (repeat ((try (conv=>whnf));(first |(refine stQ ?_) |(with_reducible first |refine q0b (fun vs w=>by kernel_rfl) (by kernel_rfl) (hc) ?_ |refine q0a (fun vs w=>by kernel_rfl) (by kernel_rfl) (hc) ?_))))
    conv=>whnf
    refine .inr ⟨_,rfl,FrzB.row 3 6 rfl rfl rfl rfl fun B2 d2 G2 hle2 hn2 hm2 hF2=>FrzB.cel 3 [.int .i64 s.w,.int .i64 s.cap,.int .i64 s.join,.int .i64 s.lim,.slice A1 ps.length c1,.slice B2 ds.length d2] rfl rfl rfl fun b G3 hle3 hce=>FrzB.done rfl ?_⟩
    exact ⟨_,_,rfl,.inl ⟨rfl,hb⟩⟩
  · rw [show q16 (fun k=>lnV (B1 k) (nthL ps k)) ps.length=0 by unfold q16;rw [q93,hb];rfl] at hc
    (repeat ((try (conv=>whnf));(first |(refine stQ ?_) |(with_reducible first |refine q0b (fun vs w=>by kernel_rfl) (by kernel_rfl) (hc) ?_ |refine q0a (fun vs w=>by kernel_rfl) (by kernel_rfl) (hc) ?_))))
    conv=>whnf
    refine q3h tab_ok (ι:=Nat × (Nat→Prop) × Mem) (fun t=>t.1≤ps.length∧OutM G 43 t.2.1 t.2.2 (oriK ps t.1) B1∧RowS t.2.1 t.2.2 37 2 (.slice A1 ps.length c1) ps.length (rowV B1 ps)) (fun t=>[(17,.val (.int .i64 t.1))])
      (fun t=>[.muts t.2.1,q3i A n q cl,styB s,q66 s (.val (.slice A1 ps.length c1)) (.own 6),.gone,.gone,.own 43 2 ds.length (q0s ds)]) (fun t=>t.2.2) (fun t=>ps.length-t.1) (0,S2,G1) ⟨Nat.zero_le _,by dsimp only;rw [x5v];exact hO1,hR⟩ ?_ ?_
    · ((refine q0g ?_);(conv=>whnf);(refine q0h (by rfl) (by rfl) flQ ?_))
      exact q0p (fun _ h=>h) (q0c (by exact flQ) (q0c (by exact flQ) (q0c (by exact flQ) (q0j (q0j (q0d rfl rfl q0e))))))
    · clear hR hO1 hc
      rintro ⟨i,S,M⟩ ⟨hi,hO,hR⟩
      dsimp only at hi hO hR ⊢
      have hol:=z4w ps i
      have hF:FlatM M A1 (rowV B1 (oriK ps i)):=by rw [x7n hol];exact hR.flat
      rcases Nat.lt_or_ge i ps.length with h1 |h1
      · obtain ⟨p,rfl,x0⟩:=(hR.flat.els (sz:=2) (fun _ _=>rfl) (by omega)).cell (x:=i) (j:=0) h1 rfl
        have hA:=fun c=>x3z (c:=c) ((hO.lines hF).cut (i:=i) (by omega)) (by unfold maxLen;omega) (z3s (ps:=ps) h1 ▸ q95 hb h1 _)
        rw [x5t,z3s h1] at hA
        have hA1:=hA (c1-i)
        rw [← q94 (p:=p) (i:=i) (c:=c1) (by omega)] at hA1
        clear hA
        rcases (show arP (nthL ps i)<0∨0≤arP (nthL ps i) by omega) with ha |ha
        · (repeat ((try (conv=>whnf));(first |(refine q0q _ x0 ?_) |(refine stQ ?_) |(with_reducible first |refine q0b (fun vs w=>by kernel_rfl) (by kernel_rfl) (hA1) ?_ |refine q0a (fun vs w=>by kernel_rfl) (by kernel_rfl) (hA1) ?_))))
          conv=>whnf
          have h4:(nthL ps i).length≤4:=hsh _ (List.mem_of_getElem? (q1m h1))
          have hv:=hO.rows i (by omega)
          rw [z3s h1] at hv
          refine x0v [.own 0] 0 (fun vs w=>by kernel_rfl) rfl rfl rfl hv (z83 (l:=nthL ps i) (by omega)) fun S' M' hG hR'=>?_
          (repeat ((try (conv=>whnf));(refine stQ ?_)))
          conv=>whnf
          have ho:orP (nthL ps i)=(nthL ps i).reverse:=by unfold orP;rw [if_pos ha]
          refine ⟨(i+1,S',M'),⟨by dsimp only;omega,by dsimp only;rw [z8j h1,ho];exact hO.mend (by omega) hG (by rw [List.length_reverse];exact hR'),hG.row hR (hap i h1)⟩,by dsimp only;omega,?_⟩
          ((refine q0g ?_);(conv=>whnf);(refine q0h (by rfl) (by rfl) flQ ?_))
          exact q0p (fun _ h=>h) (q0c (by exact flQ) (q0c (by exact flQ) (q0c (by exact flQ) (q0j (q0j (q0d rfl rfl q0e))))))
        · (repeat ((try (conv=>whnf));(first |(refine stQ ?_) |(with_reducible first |refine q0b (fun vs w=>by kernel_rfl) (by kernel_rfl) (hA1) ?_ |refine q0a (fun vs w=>by kernel_rfl) (by kernel_rfl) (hA1) ?_))))
          conv=>whnf
          refine ⟨(i+1,S,M),⟨by dsimp only;omega,by dsimp only;rw [x5w h1 (by omega)];exact hO,hR⟩,by dsimp only;omega,?_⟩
          ((refine q0g ?_);(conv=>whnf);(refine q0h (by rfl) (by rfl) flQ ?_))
          exact q0p (fun _ h=>h) (q0c (by exact flQ) (q0c (by exact flQ) (q0c (by exact flQ) (q0j (q0j (q0d rfl rfl q0e))))))
      · obtain rfl:i=ps.length:=by omega
        (repeat ((try (conv=>whnf));(refine stQ ?_)))
        conv=>whnf
        refine .inr ⟨_,rfl,FrzB.row 3 6 rfl rfl rfl rfl fun B2 d2 G2 hle2 hn2 hm2 hF2=>FrzB.cel 3 [.int .i64 s.w,.int .i64 s.cap,.int .i64 s.join,.int .i64 s.lim,.slice A1 ps.length c1,.slice B2 ds.length d2] rfl rfl rfl fun b G3 hle3 hce=>FrzB.done rfl ?_⟩
        rw [x7k] at hO hF
        exact ⟨_,_,rfl,.inr ⟨rfl,hb,b,A1,c1,B2,d2,B1,rfl,hce 4 _ rfl,hce 5 _ rfl,hnc,hcm,((hO.fin hF).mono hle2).mono hle3,q5p (hF2.mono hle3)⟩⟩
end
end Go.Proofs.YtegpkpilfgohhaaGreat
