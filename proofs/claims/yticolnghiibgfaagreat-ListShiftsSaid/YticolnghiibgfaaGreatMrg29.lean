/-
  Merged: XPaintA, XInRows, XPRow, XListAt, XREnd, XRMem.
-/
import Derived.Test.YticolnghiibgfaaGreatNest
import Derived.Test.YticolnghiibgfaaGreatMrg24
set_option linter.unusedVariables false
set_option linter.unusedSimpArgs false
set_option linter.unnecessarySimpa false
namespace Go.Proofs.YticolnghiibgfaaGreat
open Go.RowKit
section
variable {I:Nat→ItemD} {f:Nat→SrcF} {R:Nat→List Run} {F:Mem} {y x0 x1:Int} {n:Nat}
theorem x07 {b:Nat} {hd:List Value} {kn:Bool} {A:Option Addr} {c:Nat} {vs:List Value} {ms:List Tr} (h0:0<n) (hx:x1=x0+n) (hx0:-8192≤x0∧x0+n≤8192) (hy:-8192≤y∧y<8192) (hb:F b=some (.cells (hd++[Value.slice A vs.length c]).toArray q1h (0,0))) (hh:hd.length=36) (h33:hd[33]? = some (.bool kn)) (hc:vs.length≤c∧c≤maxLen) (hF:FlatM F A vs) (hms:NodesM I f F vs ms)
    (hA:AllL (fun i=>RegOk F I R i∧ItOk I f i) (GrOk I) ms) (hnest:∀ (k i:Nat) (ms':List Tr) (b':Nat),ms[k]? = some (.group i ms')→vs[k]? = some (.iface q1l (ptrV b'))→NestC I f R y x0 x1 n F (ptrV b') (.group i ms')) (S:Nat→St) (hS:∀ j,j<n→q01 (S j)) :
    Mends Tryz.prog 55 [q1s y x0 x1,.val (ptrV b),.own 0] F 84 9 n (stL n S) (stL n fun (j:Nat)=>evL (q0s I f R (x0+(j:Int)) y) kn (S j) ms (S j)):=by
  cases kn with
  | false=>exact v0q h0 hx hx0 hy hb hh h33 hc hF hms hA hnest hS
  | true=>exact v0r h0 hx hx0 hy hb hh h33 hc hF hms hA hnest hS
theorem x08 (h0:0<n) (hx:x1=x0+n) (hx0:-8192≤x0∧x0+n≤8192) (hy:-8192≤y∧y<8192):∀ (s i:Nat) (ms:List Tr) (b:Nat),SizeOf.sizeOf (Tr.group i ms)≤s→AllT (fun i=>RegOk F I R i∧ItOk I f i) (GrOk I) (.group i ms)→NodeM I f F (.iface q1l (ptrV b)) (.group i ms)→NestC I f R y x0 x1 n F (ptrV b) (.group i ms)
  | 0,i,ms,b,hs,_,_=>by simp at hs
  | s+1,i,ms,b,hs,hA,hN=>by
    have hcov:=fun m=>z8f (f:=f) (R:=R) (F:=F) (y:=y) (x0:=x0) (x1:=x1) (n:=n) (I:=I) (X:=fun j=>q0s I f R (x0+(j:Int)) y) (fun _ _=>rfl) hx (by omega) (q:=GrOk I) _ _ (Nat.le_refl _) (AllT.mono (fun i h=>h.1) (fun i h=>h) _ hA) _ hN m
    cases hN with
    | group i b mv A k0 c vs ms hb hm hn hc hF hl hch =>
      subst hn
      rw [AllT] at hA
      have hpnt:∀ S:Nat→St,(∀ j,j<n→q01 (S j))→_:=x07 (hd:=(I i).cells++[.int .i64 i,mv]) (kn:=(I i).kn) h0 hx hx0 hy (by simpa using hb) rfl rfl hc hF ⟨hl,hch⟩ hA.2 (fun k i' ms' b' hk hv=>x08 h0 hx hx0 hy s i' ms' b' (by
        have:=List.sizeOf_lt_of_mem (List.mem_of_getElem? hk)
        simp at hs this ⊢;omega) (hA.2.get hk) (hch k _ _ hv hk))
      have hev:∀ S:Nat→St,(∀ j,j<n→q01 (S j))→∀ j,j<n→q01 (evL (q0s I f R (x0+(j:Int)) y) (I i).kn (S j) ms (S j)):=fun S hS j hj=>z25 (by omega) hy (fun i h=>h.2) (fun i h=>h) _ hA.2 _ _ _ (hS j hj) (hS j hj)
      exact ⟨fun S hS=>x4q h0 hx hx0 hy hb hm hA.1 hcov hpnt hev hS,fun S B BA bc G hG hS hB h1 h2 hBF=>x4r h0 hx hx0 hy (hG _ _ hb) (hm.mono hG) hA.1 (fun m=>(hcov m).mono hG) (fun S hS=>(hpnt S hS).mono hG) hev hS hB ⟨h1,h2⟩ hBF⟩
theorem x4s {v:Value} {ms:List Tr} (hP:x4k I f F v ms) (h0:0<n) (hx:x1=x0+n) (hx0:-8192≤x0∧x0+n≤8192) (hy:-8192≤y∧y<8192) (hA:AllL (fun i=>RegOk F I R i∧ItOk I f i) (GrOk I) ms) (S:Nat→St) (hS:∀ j,j<n→q01 (S j)) :
    Mends Tryz.prog 55 [q1s y x0 x1,.val v,.own 0] F 84 9 n (stL n S) (stL n fun (j:Nat)=>evL (q0s I f R (x0+(j:Int)) y) false (S j) ms (S j)):=by
  obtain ⟨b,hd,A,c,vs,rfl,hb,hh,h33,hnc,hcm,hF,hN⟩:=hP
  exact x07 h0 hx hx0 hy hb hh h33 ⟨hnc,hcm⟩ hF hN hA (fun k i' ms' b' hk hv=>x08 h0 hx hx0 hy _ i' ms' b' (Nat.le_refl _) (hA.get hk) (hN.2 k _ _ hv hk)) S hS
end
end Go.Proofs.YticolnghiibgfaaGreat
namespace Go.Proofs.YticolnghiibgfaaGreat
open Go.RowKit
def in8 (S:St):List Value:=[.int .u8 (S 0),.int .u8 (S 1),.int .u8 (S 2),.int .u8 (S 3),.int .u8 (S 4),.int .u8 (S 5),.int .u8 (S 6),.int .u8 (S 7)]
def inL:Nat→(Nat→St)→List Value
  | 0,_=>[]
  | n+1,S=>inL n S++in8 (S n)
theorem q7d:∀ (n:Nat) (S:Nat→St),(inL n S).length=n*8
  | 0,_=>rfl
  | n+1,S=>by
    rw [inL,List.length_append,q7d n S]
    simp [in8];omega
theorem q94 {S T:Nat→St}:∀ {n:Nat},(∀ j,j<n→in8 (S j)=in8 (T j))→inL n S=inL n T
  | 0,_=>rfl
  | n+1,h=>by rw [inL,inL,q94 (fun j hj=>h j (by omega)),h n (by omega)]
theorem q8x {S:Nat→St}:∀ {n j o:Nat},j<n→o<8→(inL n S)[j*8+o]? = (in8 (S j))[o]?
  | 0,j,o,h,_=>by omega
  | n+1,j,o,h,ho=>by
    rw [inL]
    rcases Nat.lt_or_ge j n with h1 |h1
    · rw [List.getElem?_append_left (by rw [q7d];omega)];exact q8x h1 ho
    · obtain rfl:j=n:=by omega
      rw [List.getElem?_append_right (by rw [q7d];omega),q7d]
      congr 1;omega
theorem z7b (S:St):(in8 S).length=8:=rfl
theorem v0s {n:Nat} {S:Nat→St}:∀ v∈inL n S,v.oneCell'=true:=by
  induction n with
  | zero=>intro v hv;simp [inL] at hv
  | succ n ih =>
    intro v hv
    rw [inL] at hv
    rcases List.mem_append.1 hv with hv |hv
    · exact ih v hv
    · simp only [in8,List.mem_cons,List.not_mem_nil,or_false] at hv
      rcases hv with rfl |rfl |rfl |rfl |rfl |rfl |rfl |rfl <;> rfl
theorem x15 {P:Program} {T:Tab} (hT:TOk P T) (k q:Nat) {d x:Operand} {t t':TypeId} {fr:List AV} {hp:List Blk} {G:Mem} {K:AV→List Blk→Mem→Prop} {E t2:TypeId} {sz N o o' n c c':Nat} {xs cs ys:List Value} (hd:ev fr d=.sli k o n c) (hx:ev fr x=.sli q o' n c')
    (hk:nthB hp k=.own E sz N xs) (hq:nthB hp q=.cells t2 (ys.map .val)) (hn:0<n) (hcs:cs.length=n) (hys:∀ (j:Nat) u,cs[j]? = some u→ys[o'+j]? = some u) (hfit:o+n≤xs.length) (h1:∀ v∈cs,v.oneCell'=true) (h:q04 T t fun i=>match i.td with
      | .slice e=>q04 T e fun j=>q0m (Nat.beq j.size 1) (setF hp k (.own E sz N (xs.take o++cs++xs.drop (o+cs.length))) fun hp'=>K .any hp' G)
      | _=>False):OpP P (.call ⟨.builtin .copy,⟨[d,x]⟩,⟨[t,t']⟩⟩) fr hp G K:=by
  refine ⟨fun op ho=>OpS.of_run fun w0 G0 β a w hr hf=>?_⟩
  have hdv:=q1j hf d
  have hxv:=q1j hf x
  rw [hd] at hdv;rw [hx] at hxv
  simp only [AV.rel] at hdv hxv
  obtain ⟨v,b,hv,hb,hde⟩:=hdv
  obtain ⟨v',b',hv',hb',hxe⟩:=hxv
  obtain ⟨i,hi,h2⟩:=q0p hT h
  split at h2
  · rename_i e htd
    have hu:=q1f (htd ▸ hi.td)
    simp only [TD.says] at hu
    obtain ⟨j,hj,h3⟩:=q0p hT h2
    obtain ⟨hsz0,h4⟩:=q0l h3
    have hsz:=Nat.eq_of_beq_eq_true hsz0
    rw [q1c] at h4
    obtain ⟨r,z,hr1,hrs,_⟩:=hj.info
    have hs1:(P.info? e).map (·.size)=some 1:=by simp [hr1,hrs,hsz]
    have hkx:=q0z hk rfl
    obtain ⟨x2,hx3,hx4⟩:=hr.blk q v' hv'
    rw [q0z hq rfl] at hx3;cases hx3
    obtain ⟨g,cc,rfl,g1,g2,g3,g4⟩:=hx4
    simp [q0g] at hb'
    subst hb'
    have ecc:=q06 g4
    obtain ⟨w',hrun,hr'⟩:=z23 (P:=P) (t':=t') (ty:=op.type) hr hv hkx hu hs1 (b:=b) (o:=o) (dLen:=n) (dCap:=c) (sLen:=n) (sCap:=c') (ad:=⟨g,o',none⟩) (cs:=cs) hb (by rw [hcs];simp) (fun j u hj=>by
      rw [q0k,q25 g3]
      have:=hys j u hj
      rw [← ecc] at this;simpa using this) (by rw [hcs];exact hfit) h1
    exact ⟨_,_,w',β,.any,_,G,by simp [execOp,ho,resolve,invoke,builtin,hde,hxe,hrun];rfl,.inl rfl,Nm.le_refl _,hr',by simp only [AV.rel],h4⟩
  · exact h2.elim
end Go.Proofs.YticolnghiibgfaaGreat
namespace Go.Proofs.YticolnghiibgfaaGreat
open Go.RowKit
set_option maxRecDepth 20000
def q3c:St:=fun o=>if o=0 then 255 else 0
def rowI (m:Nat) (s:St):St:=fun o=>if o<m then s (o+1) else 0
theorem x6z:q01 q3c:=fun o _=>by unfold q3c;split <;> omega
theorem x60:∀ n:Nat,(List.replicate n (in8 q10)).flatten=inL n fun _=>q10
  | 0=>rfl
  | n+1=>by
    rw [List.replicate_succ',List.flatten_append,x60 n,inL];simp
theorem z3s {S:St} {o:Nat} (h:o<8):(in8 S)[o]? = some (.int .u8 (S o)):=by
  match o,h with
  | 0,_=>rfl
  | 1,_=>rfl
  | 2,_=>rfl
  | 3,_=>rfl
  | 4,_=>rfl
  | 5,_=>rfl
  | 6,_=>rfl
  | 7,_=>rfl
theorem x8z {S:Nat→St} {T W:St} {n j m:Nat} (h:j<n) (hm:m≤8) (h1:∀ o,o<m→T o=W o) (h2:∀ o,m≤o→o<8→T o=S j o) :
    (inL n S).take (j*8)++(in8 W).take m++(inL n S).drop (j*8+m)=inL n fun i=>if i=j then T else S i:=by
  apply List.ext_getElem?
  intro k
  have hl:=q7d n S
  have hw:((in8 W).take m).length=m:=by rw [List.length_take,z7b];omega
  have hq:((inL n S).take (j*8)).length=j*8:=by rw [List.length_take];omega
  by_cases hk:k<n*8
  · obtain ⟨i,o,ho,rfl⟩:∃ i o,o<8∧k=i*8+o:=⟨k/8,k%8,by omega,by omega⟩
    have hi:i<n:=by omega
    rw [q8x hi ho]
    rcases Nat.lt_trichotomy i j with h3 |h3 |h3
    · rw [List.append_assoc,List.getElem?_append_left (by omega),List.getElem?_take,if_pos (by omega),q8x hi ho,if_neg (by omega)]
    · subst h3
      rw [if_pos rfl,z3s ho]
      by_cases hom:o<m
      · rw [List.getElem?_append_left (by rw [List.length_append,hq,hw];omega),List.getElem?_append_right (by omega),hq,List.getElem?_take,if_pos (by omega),show i*8+o-i*8=o by omega,z3s ho,h1 o hom]
      · rw [List.getElem?_append_right (by rw [List.length_append,hq,hw];omega),List.getElem?_drop,List.length_append,hq,hw,show i*8+m+(i*8+o-(i*8+m))=i*8+o by omega,q8x hi ho,z3s ho,h2 o (by omega) ho]
    · rw [List.getElem?_append_right (by rw [List.length_append,hq,hw];omega),List.getElem?_drop,List.length_append,hq,hw,if_neg (by omega),show j*8+m+(i*8+o-(j*8+m))=i*8+o by omega,q8x hi ho]
  · rw [List.getElem?_eq_none (by simp only [List.length_append,List.length_take,List.length_drop,z7b];omega),List.getElem?_eq_none (by rw [q7d];omega)]
section
variable {I:Nat→ItemD} {f:Nat→SrcF} {R:Nat→List Run} {G:Mem} {y x0 x1:Int} {n:Nat}
set_option maxHeartbeats 16000000 in
theorem x61 {v:Value} {ms:List Tr} {m:Nat} (hP:x4k I f G v ms) (h0:0<n) (hx:x1=x0+n) (hx0:-8192≤x0∧x0+n≤8192) (hy:-8192≤y∧y<8192) (hm:1≤m∧m≤8) (hA:AllL (fun i=>RegOk G I R i∧ItOk I f i) (GrOk I) ms) :
    q4f Tryz.prog 35 [.agg [.val v,.val (.int .i64 m)],.val (.int .i64 y),.val (.int .i64 x0),.val (.int .i64 x1)] G id 28 8 n (inL n fun (j:Nat)=>rowI m (evL (q0s I f R (x0+(j:Int)) y) false q3c ms q3c)):=by
  have hpp:=x4s hP h0 hx hx0 hy hA (fun _=>q3c) (fun _ _=>x6z)
  obtain ⟨E,hE⟩:∃ E:Nat→St,E=fun (j:Nat)=>evL (q0s I f R (x0+(j:Int)) y) false q3c ms q3c:=⟨_,rfl⟩
  rw [← hE] at hpp
  rw [show (fun (j:Nat)=>rowI m (evL (q0s I f R (x0+(j:Int)) y) false q3c ms q3c))=fun j=>rowI m (E j) by rw [hE]]
  clear hE
  obtain ⟨pb,_,_,_,_,rfl,_⟩:=id hP
  refine q3q tab_ok Tryz.func35 (.alone fun _=>rfl) ?_
  have hn2:n≤16384:=by omega
  have hw:x1-x0=(n:Int):=by omega
  (repeat ((try (conv=>whnf));(refine stQ ?_)))
  conv=>whnf
  have hwn:(x1-x0).toNat=n:=by omega
  rw [hwn]
  refine q02 tab_ok (fun k=>k≤n) (fun (k:Nat)=>[(20,.val (.int .i64 k))]) (fun k=>[.cells 78 [.val (ptrV pb),.val (.int .i64 m)],.own 84 9 n (stL n fun j=>if j<k then q3c else q10)]) (fun k=>n-k) 0 (Nat.zero_le _) ?_ ?_
  · ((refine q0h ?_);(conv=>whnf);(refine q0j (by rfl) (by rfl) flQ ?_))
    exact q0c (by exact flQ) (q0i rfl ((z58 n).trans (q0t fun j _=>by simp)) q0e)
  · intro k hk
    rcases Nat.lt_or_ge k n with h2 |h2
    · generalize hcur:(fun j=>if j<k then q3c else q10)=cur
      (repeat ((try (conv=>whnf));(first |(refine stQ ?_) |(with_reducible refine q0f tab_ok Tryz.func54 (fun vs w=>by kernel_rfl) (by rfl) ?_))))
      conv=>whnf
      have hon:k*9+9≤n*9:=by omega
      refine mustP.mk (by rw [q13];exact hon) ?_
      (repeat ((try (conv=>whnf));(refine stQ ?_)))
      conv=>whnf
      refine ⟨k+1,by omega,by omega,?_⟩
      ((refine q0h ?_);(conv=>whnf);(refine q0j (by rfl) (by rfl) flQ ?_))
      refine q0c (by exact flQ) (q0i rfl (Eq.trans (b:=(stL n cur).take (k*9)++st9 q3c++(stL n cur).drop (k*9+9)) rfl ?_) q0e)
      rw [q4m h2]
      refine q0t fun l hl=>?_
      rw [← hcur]
      dsimp only
      by_cases hlk:l=k
      · subst hlk
        rw [if_pos rfl,if_pos (by omega)]
      · rw [if_neg hlk]
        by_cases h8:l<k
        · rw [if_pos h8,if_pos (by omega)]
        · rw [if_neg h8,if_neg (by omega)]
    · obtain rfl:k=n:=by omega
      (repeat ((try (conv=>whnf));(refine stQ ?_)))
      conv=>whnf
      refine q2n [q1s y x0 x1,.val (ptrV pb),.own 0] 2 1 (fun vs w=>by kernel_rfl) rfl rfl (by rfl) (show Blk.own _ _ _ (stL k _)=_ by rw [q0t (T:=fun _=>q3c) fun j hj=>by rw [if_pos hj]]) hpp ?_
      conv=>whnf
      (repeat ((try (conv=>whnf));(refine stQ ?_)))
      conv=>whnf
      refine q02 tab_ok (fun i=>i≤k) (fun (i:Nat)=>[(41,.val (.int .i64 i))]) (fun i=>[.cells 78 [.val (ptrV pb),.val (.int .i64 m)],.own 84 9 k (stL k E),.own 28 8 k (inL k fun j=>if j<i then rowI m (E j) else q10)]) (fun i=>k-i) 0 (Nat.zero_le _) ?_ ?_
      · ((refine q0h ?_);(conv=>whnf);(refine q0j (by rfl) (by rfl) flQ ?_))
        exact q0c (by exact flQ) (q0i rfl rfl (q0i rfl ((x60 k).trans (q94 fun j _=>by simp)) q0e))
      · intro i hi
        rcases Nat.lt_or_ge i k with h3 |h3
        · generalize hcur:(fun j=>if j<i then rowI m (E j) else q10)=cur
          have hrowE:∀ (o:Nat) v,(st9 (E i))[o]? = some v→(stL k E)[i*9+o]? = some v:=fun o v hv=>by
            have ho:o<9:=by have:=(List.getElem?_eq_some_iff.1 hv).1;simpa [st9] using this
            rw [q27 h3 ho];exact hv
          have hci:cur i=q10:=by rw [← hcur];simp
          (repeat ((try (conv=>whnf));(first |(refine q1n (st9 (E i)) rfl hrowE ?_) |(with_reducible refine q4s tab_ok (by kernel_rfl) 10 [] (by decide +kernel) ?_) |(refine stQ ?_))))
          conv=>whnf
          have hcl:((in8 fun o=>E i (o+1)).take m).length=m:=by rw [List.length_take,z7b];omega
          refine x15 tab_ok 2 3 (o:=i*8) (o':=1) (n:=m) (c:=8) (c':=8) (cs:=(in8 fun o=>E i (o+1)).take m) (ys:=st9 (E i)) (by exact rfl) (by exact rfl) rfl rfl (by omega) hcl (fun o u hu=>?_) (by rw [q7d];omega) (fun v hv=>?_) ?_
          · rw [List.getElem?_take] at hu
            split at hu
            · rw [z3s (by omega)] at hu
              rw [← hu,Nat.add_comm 1 o]
              have:o<8:=by omega
              match o,this with
              | 0,_=>rfl
              | 1,_=>rfl
              | 2,_=>rfl
              | 3,_=>rfl
              | 4,_=>rfl
              | 5,_=>rfl
              | 6,_=>rfl
              | 7,_=>rfl
            · cases hu
          · have:=List.mem_of_mem_take hv
            exact v0s (n:=1) (S:=fun _ o=>E i (o+1)) v (by rw [inL,inL];simpa using this)
          conv=>whnf
          (repeat ((try (conv=>whnf));(refine stQ ?_)))
          conv=>whnf
          refine ⟨i+1,by omega,by omega,?_⟩
          ((refine q0h ?_);(conv=>whnf);(refine q0j (by rfl) (by rfl) flQ ?_))
          refine q0c (by exact flQ) (q0i rfl rfl (q0i rfl (Eq.trans (b:=(inL k cur).take (i*8)++(in8 fun o=>E i (o+1)).take m++(inL k cur).drop (i*8+m)) (by rw [← hcl,List.length_take];simp [hcl]) ?_) q0e))
          rw [x8z (T:=rowI m (E i)) h3 hm.2 (fun o ho=>by simp [rowI,ho]) (fun o ho _=>by rw [hci];simp [rowI,q10];omega)]
          refine q94 fun l hl=>?_
          rw [← hcur]
          dsimp only
          by_cases hlk:l=i
          · subst hlk
            rw [if_pos rfl,if_pos (by omega)]
          · rw [if_neg hlk]
            by_cases h8:l<i
            · rw [if_pos h8,if_pos (by omega)]
            · rw [if_neg h8,if_neg (by omega)]
        · obtain rfl:i=k:=by omega
          (repeat ((try (conv=>whnf));(refine stQ ?_)))
          conv=>whnf
          refine .inl ⟨2,rfl,?_⟩
          show Blk.own _ _ _ _=_
          rw [q94 (T:=fun j=>rowI m (E j)) fun j hj=>by rw [if_pos hj]]
end
end Go.Proofs.YticolnghiibgfaaGreat
namespace Go.Proofs.YticolnghiibgfaaGreat
open Go.RowKit
set_option maxRecDepth 20000
structure LOk (G:Mem) (I:Nat→ItemD) (f:Nat→SrcF) (R:Nat→List Run) (n:Nat):Prop where
  src:∀ k,k<n→(I k).K=0→GivesM Tryz.prog 77 [q2f (I k)] G fun v F=>IsSrc F v (f k)
  reg:∀ k,k<n→(I k).K=0→RegOk G I R k
  it:∀ k,k<n→(I k).K=0→ItOk I f k
  gr:∀ k,k<n→(I k).K=1→GrOk I k
  dep:∀ k,k<n→(I k).K≠0→(I k).K≠1→2≤(zst (fun x=>(I x).K) k).length
  fin:(zst (fun x=>(I x).K) n).length=1
def q95 (I:Nat→ItemD) (n:Nat):List Tr:=((zst (fun x=>(I x).K) n).map (·.2)).headD []
theorem LOk.page {G:Mem} {I:Nat→ItemD} {f:Nat→SrcF} {R:Nat→List Run} {n:Nat} (h:LOk G I f R n):(zst (fun x=>(I x).K) n).map (·.2)=[q95 I n]:=by
  have:=h.fin
  unfold q95
  match zst (fun x=>(I x).K) n,this with
  | [a],_=>rfl
theorem LOk.span {G:Mem} {I:Nat→ItemD} {f:Nat→SrcF} {R:Nat→List Run} {n:Nat} (h:LOk G I f R n):SpanL (fun x=>(I x).K) (q95 I n) 0 n:=x8u h.dep h.page
theorem LOk.all {G:Mem} {I:Nat→ItemD} {f:Nat→SrcF} {R:Nat→List Run} {n:Nat} (h:LOk G I f R n):AllL (fun i=>RegOk G I R i∧ItOk I f i) (GrOk I) (q95 I n) :=
  AllL.mono (fun i hi=>⟨h.reg i hi.2 hi.1,h.it i hi.2 hi.1⟩) (fun i hi=>h.gr i hi.2 hi.1) _ h.span.all
def z1u (I:Nat→ItemD) (f:Nat→SrcF) (R:Nat→List Run) (n m:Nat) (x y:Int):St:=rowI m (evL (q0s I f R x y) false q3c (q95 I n) q3c)
section
variable {I:Nat→ItemD} {f:Nat→SrcF} {R:Nat→List Run} {G:Mem} {W H:Int} {SA IA:Option Addr} {m sq n iq:Nat} {x y er:Int}
set_option maxHeartbeats 16000000
theorem v1l (hC:Gives Tryz.prog 33 [q2i W H SA m sq IA n iq] G (.val (.int .i64 0))) (hI:ItemsM G IA n I) (hn:n≤1000000) (hm:1≤m∧m≤8) (hW:1≤W∧W≤256) (hH:1≤H∧H≤256) (hL:LOk G I f R n) (hx:0≤x∧x<16*W) (hy:0≤y∧y<16*H) :
    Gives Tryz.prog 10 [q2i W H SA m sq IA n iq,.val (.int .i64 x),.val (.int .i64 y)] G (.tup [inA (z1u I f R n m x y),.val (.int .i64 0)]):=by
  have hb:∀ k,k<n→(I k).K=0∨(I k).K=1→0≤(I k).bl∧(I k).bl≤11:=fun k hk h=>h.elim (fun h=>(hL.it k hk h).2.1) (fun h=>(hL.gr k hk h).2)
  have htr:=x1z (W:=W) (H:=H) (SA:=SA) (m:=m) (sq:=sq) (iq:=iq) (f:=f) hI hn hL.src hb hL.dep hL.fin
  refine q0w tab_ok Tryz.func10 ?_
  (repeat ((try (conv=>whnf));(first |(with_reducible refine z0f tab_ok (by kernel_rfl) [0,2,3,4] [1] [5,6] (by decide +kernel) ?_) |((refine q4p (by rfl) ?_ ?_);(· first |exact Mem.le_refl _ |assumption)) |(refine stQ ?_) |(with_reducible first |refine q0b (fun vs w=>by kernel_rfl) (by kernel_rfl) (hC) ?_ |refine q0a (fun vs w=>by kernel_rfl) (by kernel_rfl) (hC) ?_ |refine q0f tab_ok Tryz.func34 (fun vs w=>by kernel_rfl) (by rfl) ?_))))
  conv=>whnf
  refine q9e (fun vs w=>by kernel_rfl) (by rfl) htr fun p G1 hG1 hp=>?_
  obtain ⟨ms,hms,hP⟩:=hp
  rw [hL.page] at hms
  cases hms
  obtain ⟨pb,_,_,_,_,rfl,_⟩:=id hP
  conv=>whnf
  (repeat ((try (conv=>whnf));(first |((refine q4p (by rfl) ?_ ?_);(· first |exact Mem.le_refl _ |assumption)) |(refine stQ ?_))))
  conv=>whnf
  have hA1:AllL (fun i=>RegOk G1 I R i∧ItOk I f i) (GrOk I) (q95 I n):=AllL.mono (fun i h=>⟨h.1.mono hG1,h.2⟩) (fun i h=>h) _ hL.all
  have hrow:=x61 hP (n:=1) (x0:=x) (x1:=x+1) (y:=y) (by omega) (by omega) (by omega) (by omega) hm hA1
  refine z31 (fun vs w=>by kernel_rfl) (.alone fun _=>rfl) (by rfl) hrow ?_
  have hcell:∀ (o:Nat) v,(in8 (z1u I f R n m x y))[o]? = some v→(inL 1 fun (j:Nat)=>rowI m (evL (q0s I f R (x+(j:Int)) y) false q3c (q95 I n) q3c))[0*8+o]? = some v:=fun o v hv=>by
    have ho:o<8:=by have:=(List.getElem?_eq_some_iff.1 hv).1;simpa [in8] using this
    rw [q8x (by omega) ho]
    rw [show x+((0:Nat):Int)=x by simp]
    exact hv
  conv=>whnf
  (repeat ((try (conv=>whnf));(first |(refine q1n (in8 (z1u I f R n m x y)) rfl hcell ?_) |(refine stQ ?_))))
  conv=>whnf
  exact ⟨rfl,rfl⟩
end
end Go.Proofs.YticolnghiibgfaaGreat
namespace Go.Proofs.YticolnghiibgfaaGreat
open Go.RowKit
set_option maxRecDepth 20000
theorem ItemsM.kind {G:Mem} {A:Option Addr} {n:Nat} {I:Nat→ItemD} (h:ItemsM G A n I) {k:Nat} (hk:k<n):∃ p:Addr,A=some p∧∀ (o:Nat) v,(I k).cells[o]? = some v→G.cell? ((p.add (k*34)).add o)=some v:=by
  obtain ⟨p,rfl,hp⟩:=h k hk
  exact ⟨p,rfl,fun o v hv=>x0y hp hv⟩
section
variable {I:Nat→ItemD} {G:Mem} {W H:Int} {SA IA:Option Addr} {m sq n iq:Nat}
end
end Go.Proofs.YticolnghiibgfaaGreat
namespace Go.Proofs.YticolnghiibgfaaGreat
open Go.RowKit
set_option maxRecDepth 20000
def cvB (I:Nat→ItemD) (R:Nat→List Run) (x y:Int) (i:Nat):Nat→Bool
  | 0=>false
  | d+1=>cvB I R x y i d||(decide ((I (i+d)).K=0)&&hasL (R (i+d)) x y)
theorem z0w {I:Nat→ItemD} {R:Nat→List Run} {x y:Int} {i a:Nat}:∀ b,cvB I R x y i (a+b)=(cvB I R x y i a||cvB I R x y (i+a) b)
  | 0=>by simp [cvB]
  | b+1=>by
    rw [← Nat.add_assoc,cvB,z0w b,cvB,Nat.add_assoc,Bool.or_assoc]
theorem SpanL.cov {I:Nat→ItemD} {R:Nat→List Run} {f:Nat→SrcF} {x y:Int} {ms:List Tr} {i j:Nat} (h:SpanL (fun k=>(I k).K) ms i j):cvB I R x y i (j-i)=covL (q0s I f R x y) ms:=by
  induction h with
  | nil i=>rw [Nat.sub_self];rfl
  | fill i ts j hf h2 ih =>
    have:=h2.le
    rw [show j-i=1+(j-(i+1)) by omega,z0w,ih,covL,covT]
    simp [cvB,hf];rfl
  | group i ms e ts j hf h1 h0 h3 h2 ih1 ih2 =>
    have l1:=h1.le
    have l2:=h2.le
    rw [show j-i=1+((e-(i+1))+(1+(j-(e+1)))) by omega,z0w,z0w,z0w,ih1,show i+1+(e-(i+1))=e by omega,ih2,covL,covT]
    simp [cvB,hf,h0,Bool.or_assoc]
section
variable {I:Nat→ItemD} {R:Nat→List Run} {f:Nat→SrcF} {G:Mem} {W H:Int} {SA IA:Option Addr} {m sq n iq:Nat} {x y:Int}
end
end Go.Proofs.YticolnghiibgfaaGreat
