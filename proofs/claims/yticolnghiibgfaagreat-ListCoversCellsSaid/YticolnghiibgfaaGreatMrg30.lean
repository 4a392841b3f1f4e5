/-
  Merged: XPaintA, XInRows, XPRow, XListAt, XREnd, XRMem.
-/
import Derived.Test.YticolnghiibgfaaGreatNest
import Derived.Test.YticolnghiibgfaaGreatMrg25
set_option linter.unusedVariables false
set_option linter.unusedSimpArgs false
set_option linter.unnecessarySimpa false
namespace Go.Proofs.YticolnghiibgfaaGreat
open Go.RowKit
section
variable {I:Nat→ItemD} {f:Nat→SrcF} {R:Nat→List Run} {F:Mem} {y x0 x1:Int} {n:Nat}
theorem x0a {b:Nat} {hd:List Value} {kn:Bool} {A:Option Addr} {c:Nat} {vs:List Value} {ms:List Tr} (h0:0<n) (hx:x1=x0+n) (hx0:-8192≤x0∧x0+n≤8192) (hy:-8192≤y∧y<8192) (hb:F b=some (.cells (hd++[Value.slice A vs.length c]).toArray q1g (0,0))) (hh:hd.length=36) (h33:hd[33]? = some (.bool kn)) (hc:vs.length≤c∧c≤maxLen) (hF:FlatM F A vs) (hms:NodesM I f F vs ms)
    (hA:AllL (fun i=>RegOk F I R i∧ItOk I f i) (GrOk I) ms) (hnest:∀ (k i:Nat) (ms':List Tr) (b':Nat),ms[k]? = some (.group i ms')→vs[k]? = some (.iface q1h (ptrV b'))→NestC I f R y x0 x1 n F (ptrV b') (.group i ms')) (S:Nat→St) (hS:∀ j,j<n→q0s (S j)) :
    Mends Tryz.prog 55 [q1m y x0 x1,.val (ptrV b),.own 0] F 84 9 n (stL n S) (stL n fun (j:Nat)=>evL (q0l I f R (x0+(j:Int)) y) kn (S j) ms (S j)):=by
  cases kn with
  | false=>exact x9x h0 hx hx0 hy hb hh h33 hc hF hms hA hnest hS
  | true=>exact x9y h0 hx hx0 hy hb hh h33 hc hF hms hA hnest hS
theorem x0b (h0:0<n) (hx:x1=x0+n) (hx0:-8192≤x0∧x0+n≤8192) (hy:-8192≤y∧y<8192):∀ (s i:Nat) (ms:List Tr) (b:Nat),SizeOf.sizeOf (Tr.group i ms)≤s→AllT (fun i=>RegOk F I R i∧ItOk I f i) (GrOk I) (.group i ms)→NodeM I f F (.iface q1h (ptrV b)) (.group i ms)→NestC I f R y x0 x1 n F (ptrV b) (.group i ms)
  | 0,i,ms,b,hs,_,_=>by simp at hs
  | s+1,i,ms,b,hs,hA,hN=>by
    have hcov:=fun m=>z7w (f:=f) (R:=R) (F:=F) (y:=y) (x0:=x0) (x1:=x1) (n:=n) (I:=I) (X:=fun j=>q0l I f R (x0+(j:Int)) y) (fun _ _=>rfl) hx (by omega) (q:=GrOk I) _ _ (Nat.le_refl _) (AllT.mono (fun i h=>h.1) (fun i h=>h) _ hA) _ hN m
    cases hN with
    | group i b mv A k0 c vs ms hb hm hn hc hF hl hch =>
      subst hn
      rw [AllT] at hA
      have hpnt:∀ S:Nat→St,(∀ j,j<n→q0s (S j))→_:=x0a (hd:=(I i).cells++[.int .i64 i,mv]) (kn:=(I i).kn) h0 hx hx0 hy (by simpa using hb) rfl rfl hc hF ⟨hl,hch⟩ hA.2 (fun k i' ms' b' hk hv=>x0b h0 hx hx0 hy s i' ms' b' (by
        have:=List.sizeOf_lt_of_mem (List.mem_of_getElem? hk)
        simp at hs this ⊢;omega) (hA.2.get hk) (hch k _ _ hv hk))
      have hev:∀ S:Nat→St,(∀ j,j<n→q0s (S j))→∀ j,j<n→q0s (evL (q0l I f R (x0+(j:Int)) y) (I i).kn (S j) ms (S j)):=fun S hS j hj=>q86 (by omega) hy (fun i h=>h.2) (fun i h=>h) _ hA.2 _ _ _ (hS j hj) (hS j hj)
      exact ⟨fun S hS=>x3o h0 hx hx0 hy hb hm hA.1 hcov hpnt hev hS,fun S B BA bc G hG hS hB h1 h2 hBF=>x3p h0 hx hx0 hy (hG _ _ hb) (hm.mono hG) hA.1 (fun m=>(hcov m).mono hG) (fun S hS=>(hpnt S hS).mono hG) hev hS hB ⟨h1,h2⟩ hBF⟩
theorem x3q {v:Value} {ms:List Tr} (hP:x3i I f F v ms) (h0:0<n) (hx:x1=x0+n) (hx0:-8192≤x0∧x0+n≤8192) (hy:-8192≤y∧y<8192) (hA:AllL (fun i=>RegOk F I R i∧ItOk I f i) (GrOk I) ms) (S:Nat→St) (hS:∀ j,j<n→q0s (S j)) :
    Mends Tryz.prog 55 [q1m y x0 x1,.val v,.own 0] F 84 9 n (stL n S) (stL n fun (j:Nat)=>evL (q0l I f R (x0+(j:Int)) y) false (S j) ms (S j)):=by
  obtain ⟨b,hd,A,c,vs,rfl,hb,hh,h33,hnc,hcm,hF,hN⟩:=hP
  exact x0a h0 hx hx0 hy hb hh h33 ⟨hnc,hcm⟩ hF hN hA (fun k i' ms' b' hk hv=>x0b h0 hx hx0 hy _ i' ms' b' (Nat.le_refl _) (hA.get hk) (hN.2 k _ _ hv hk)) S hS
end
end Go.Proofs.YticolnghiibgfaaGreat
namespace Go.Proofs.YticolnghiibgfaaGreat
open Go.RowKit
def in8 (S:St):List Value:=[.int .u8 (S 0),.int .u8 (S 1),.int .u8 (S 2),.int .u8 (S 3),.int .u8 (S 4),.int .u8 (S 5),.int .u8 (S 6),.int .u8 (S 7)]
def inL:Nat→(Nat→St)→List Value
  | 0,_=>[]
  | n+1,S=>inL n S++in8 (S n)
theorem q6x:∀ (n:Nat) (S:Nat→St),(inL n S).length=n*8
  | 0,_=>rfl
  | n+1,S=>by
    rw [inL,List.length_append,q6x n S]
    simp [in8];omega
theorem q9q {S T:Nat→St}:∀ {n:Nat},(∀ j,j<n→in8 (S j)=in8 (T j))→inL n S=inL n T
  | 0,_=>rfl
  | n+1,h=>by rw [inL,inL,q9q (fun j hj=>h j (by omega)),h n (by omega)]
theorem q8e {S:Nat→St}:∀ {n j o:Nat},j<n→o<8→(inL n S)[j*8+o]? = (in8 (S j))[o]?
  | 0,j,o,h,_=>by omega
  | n+1,j,o,h,ho=>by
    rw [inL]
    rcases Nat.lt_or_ge j n with h1 |h1
    · rw [List.getElem?_append_left (by rw [q6x];omega)];exact q8e h1 ho
    · obtain rfl:j=n:=by omega
      rw [List.getElem?_append_right (by rw [q6x];omega),q6x]
      congr 1;omega
theorem z6v (S:St):(in8 S).length=8:=rfl
theorem x9z {n:Nat} {S:Nat→St}:∀ v∈inL n S,v.oneCell'=true:=by
  induction n with
  | zero=>intro v hv;simp [inL] at hv
  | succ n ih =>
    intro v hv
    rw [inL] at hv
    rcases List.mem_append.1 hv with hv |hv
    · exact ih v hv
    · simp only [in8,List.mem_cons,List.not_mem_nil,or_false] at hv
      rcases hv with rfl |rfl |rfl |rfl |rfl |rfl |rfl |rfl <;> rfl
theorem x1b {P:Program} {T:Tab} (hT:TOk P T) (k q:Nat) {d x:Operand} {t t':TypeId} {fr:List AV} {hp:List Blk} {G:Mem} {K:AV→List Blk→Mem→Prop} {E t2:TypeId} {sz N o o' n c c':Nat} {xs cs ys:List Value} (hd:ev fr d=.sli k o n c) (hx:ev fr x=.sli q o' n c')
    (hk:nthB hp k=.own E sz N xs) (hq:nthB hp q=.cells t2 (ys.map .val)) (hn:0<n) (hcs:cs.length=n) (hys:∀ (j:Nat) u,cs[j]? = some u→ys[o'+j]? = some u) (hfit:o+n≤xs.length) (h1:∀ v∈cs,v.oneCell'=true) (h:q03 T t fun i=>match i.td with
      | .slice e=>q03 T e fun j=>q0r (Nat.beq j.size 1) (setF hp k (.own E sz N (xs.take o++cs++xs.drop (o+cs.length))) fun hp'=>K .any hp' G)
      | _=>False):OpP P (.call ⟨.builtin .copy,⟨[d,x]⟩,⟨[t,t']⟩⟩) fr hp G K:=by
  refine ⟨fun op ho=>OpS.of_run fun w0 G0 β a w hr hf=>?_⟩
  have hdv:=q1q hf d
  have hxv:=q1q hf x
  rw [hd] at hdv;rw [hx] at hxv
  simp only [AV.rel] at hdv hxv
  obtain ⟨v,b,hv,hb,hde⟩:=hdv
  obtain ⟨v',b',hv',hb',hxe⟩:=hxv
  obtain ⟨i,hi,h2⟩:=q0t hT h
  split at h2
  · rename_i e htd
    have hu:=q1c (htd ▸ hi.td)
    simp only [TD.says] at hu
    obtain ⟨j,hj,h3⟩:=q0t hT h2
    obtain ⟨hsz0,h4⟩:=q0q h3
    have hsz:=Nat.eq_of_beq_eq_true hsz0
    rw [q1n] at h4
    obtain ⟨r,z,hr1,hrs,_⟩:=hj.info
    have hs1:(P.info? e).map (·.size)=some 1:=by simp [hr1,hrs,hsz]
    have hkx:=q00 hk rfl
    obtain ⟨x2,hx3,hx4⟩:=hr.blk q v' hv'
    rw [q00 hq rfl] at hx3;cases hx3
    obtain ⟨g,cc,rfl,g1,g2,g3,g4⟩:=hx4
    simp [q0h] at hb'
    subst hb'
    have ecc:=q06 g4
    obtain ⟨w',hrun,hr'⟩:=z2k (P:=P) (t':=t') (ty:=op.type) hr hv hkx hu hs1 (b:=b) (o:=o) (dLen:=n) (dCap:=c) (sLen:=n) (sCap:=c') (ad:=⟨g,o',none⟩) (cs:=cs) hb (by rw [hcs];simp) (fun j u hj=>by
      rw [q0m,q2y g3]
      have:=hys j u hj
      rw [← ecc] at this;simpa using this) (by rw [hcs];exact hfit) h1
    exact ⟨_,_,w',β,.any,_,G,by simp [execOp,ho,resolve,invoke,builtin,hde,hxe,hrun];rfl,.inl rfl,Nm.le_refl _,hr',by simp only [AV.rel],h4⟩
  · exact h2.elim
end Go.Proofs.YticolnghiibgfaaGreat
namespace Go.Proofs.YticolnghiibgfaaGreat
open Go.RowKit
set_option maxRecDepth 20000
def q19:St:=fun o=>if o=0 then 255 else 0
def rowI (m:Nat) (s:St):St:=fun o=>if o<m then s (o+1) else 0
theorem z7y:q0s q19:=fun o _=>by unfold q19;split <;> omega
theorem x50:∀ n:Nat,(List.replicate n (in8 q1b)).flatten=inL n fun _=>q1b
  | 0=>rfl
  | n+1=>by
    rw [List.replicate_succ',List.flatten_append,x50 n,inL];simp
theorem z3a {S:St} {o:Nat} (h:o<8):(in8 S)[o]? = some (.int .u8 (S o)):=by
  match o,h with
  | 0,_=>rfl
  | 1,_=>rfl
  | 2,_=>rfl
  | 3,_=>rfl
  | 4,_=>rfl
  | 5,_=>rfl
  | 6,_=>rfl
  | 7,_=>rfl
theorem x77 {S:Nat→St} {T W:St} {n j m:Nat} (h:j<n) (hm:m≤8) (h1:∀ o,o<m→T o=W o) (h2:∀ o,m≤o→o<8→T o=S j o) :
    (inL n S).take (j*8)++(in8 W).take m++(inL n S).drop (j*8+m)=inL n fun i=>if i=j then T else S i:=by
  apply List.ext_getElem?
  intro k
  have hl:=q6x n S
  have hw:((in8 W).take m).length=m:=by rw [List.length_take,z6v];omega
  have hq:((inL n S).take (j*8)).length=j*8:=by rw [List.length_take];omega
  by_cases hk:k<n*8
  · obtain ⟨i,o,ho,rfl⟩:∃ i o,o<8∧k=i*8+o:=⟨k/8,k%8,by omega,by omega⟩
    have hi:i<n:=by omega
    rw [q8e hi ho]
    rcases Nat.lt_trichotomy i j with h3 |h3 |h3
    · rw [List.append_assoc,List.getElem?_append_left (by omega),List.getElem?_take,if_pos (by omega),q8e hi ho,if_neg (by omega)]
    · subst h3
      rw [if_pos rfl,z3a ho]
      by_cases hom:o<m
      · rw [List.getElem?_append_left (by rw [List.length_append,hq,hw];omega),List.getElem?_append_right (by omega),hq,List.getElem?_take,if_pos (by omega),show i*8+o-i*8=o by omega,z3a ho,h1 o hom]
      · rw [List.getElem?_append_right (by rw [List.length_append,hq,hw];omega),List.getElem?_drop,List.length_append,hq,hw,show i*8+m+(i*8+o-(i*8+m))=i*8+o by omega,q8e hi ho,z3a ho,h2 o (by omega) ho]
    · rw [List.getElem?_append_right (by rw [List.length_append,hq,hw];omega),List.getElem?_drop,List.length_append,hq,hw,if_neg (by omega),show j*8+m+(i*8+o-(j*8+m))=i*8+o by omega,q8e hi ho]
  · rw [List.getElem?_eq_none (by simp only [List.length_append,List.length_take,List.length_drop,z6v];omega),List.getElem?_eq_none (by rw [q6x];omega)]
section
variable {I:Nat→ItemD} {f:Nat→SrcF} {R:Nat→List Run} {G:Mem} {y x0 x1:Int} {n:Nat}
set_option maxHeartbeats 16000000 in
theorem x51 {v:Value} {ms:List Tr} {m:Nat} (hP:x3i I f G v ms) (h0:0<n) (hx:x1=x0+n) (hx0:-8192≤x0∧x0+n≤8192) (hy:-8192≤y∧y<8192) (hm:1≤m∧m≤8) (hA:AllL (fun i=>RegOk G I R i∧ItOk I f i) (GrOk I) ms) :
    z0x Tryz.prog 35 [.agg [.val v,.val (.int .i64 m)],.val (.int .i64 y),.val (.int .i64 x0),.val (.int .i64 x1)] G id 28 8 n (inL n fun (j:Nat)=>rowI m (evL (q0l I f R (x0+(j:Int)) y) false q19 ms q19)):=by
  have hpp:=x3q hP h0 hx hx0 hy hA (fun _=>q19) (fun _ _=>z7y)
  obtain ⟨E,hE⟩:∃ E:Nat→St,E=fun (j:Nat)=>evL (q0l I f R (x0+(j:Int)) y) false q19 ms q19:=⟨_,rfl⟩
  rw [← hE] at hpp
  rw [show (fun (j:Nat)=>rowI m (evL (q0l I f R (x0+(j:Int)) y) false q19 ms q19))=fun j=>rowI m (E j) by rw [hE]]
  clear hE
  obtain ⟨pb,_,_,_,_,rfl,_⟩:=id hP
  refine z3z tab_ok Tryz.func35 (.alone fun _=>rfl) ?_
  have hn2:n≤16384:=by omega
  have hw:x1-x0=(n:Int):=by omega
  (repeat ((try (conv=>whnf));(refine stQ ?_)))
  conv=>whnf
  have hwn:(x1-x0).toNat=n:=by omega
  rw [hwn]
  refine q0z tab_ok (fun k=>k≤n) (fun (k:Nat)=>[(20,.val (.int .i64 k))]) (fun k=>[.cells 78 [.val (ptrV pb),.val (.int .i64 m)],.own 84 9 n (stL n fun j=>if j<k then q19 else q1b)]) (fun k=>n-k) 0 (Nat.zero_le _) ?_ ?_
  · ((refine q0g ?_);(conv=>whnf);(refine q0j (by rfl) (by rfl) flQ ?_))
    exact q0c (by exact flQ) (q0k rfl ((z5s n).trans (q0u fun j _=>by simp)) q0e)
  · intro k hk
    rcases Nat.lt_or_ge k n with h2 |h2
    · generalize hcur:(fun j=>if j<k then q19 else q1b)=cur
      (repeat ((try (conv=>whnf));(first |(refine stQ ?_) |(with_reducible refine q0f tab_ok Tryz.func54 (fun vs w=>by kernel_rfl) (by rfl) ?_))))
      conv=>whnf
      have hon:k*9+9≤n*9:=by omega
      refine mustP.mk (by rw [q1x];exact hon) ?_
      (repeat ((try (conv=>whnf));(refine stQ ?_)))
      conv=>whnf
      refine ⟨k+1,by omega,by omega,?_⟩
      ((refine q0g ?_);(conv=>whnf);(refine q0j (by rfl) (by rfl) flQ ?_))
      refine q0c (by exact flQ) (q0k rfl (Eq.trans (b:=(stL n cur).take (k*9)++st9 q19++(stL n cur).drop (k*9+9)) rfl ?_) q0e)
      rw [q4b h2]
      refine q0u fun l hl=>?_
      rw [← hcur]
      dsimp only
      by_cases hlk:l=k
      · subst hlk
        rw [if_pos rfl,if_pos (by omega)]
      · rw [if_neg hlk]
        by_cases h8:l<k
        · rw [if_pos h8,if_pos (by omega)]
        · rw [if_neg h8,if_neg (by omega)]
    · obtain rfl:k=n:=by omega
      (repeat ((try (conv=>whnf));(refine stQ ?_)))
      conv=>whnf
      refine q2j [q1m y x0 x1,.val (ptrV pb),.own 0] 2 1 (fun vs w=>by kernel_rfl) rfl rfl (by rfl) (show Blk.own _ _ _ (stL k _)=_ by rw [q0u (T:=fun _=>q19) fun j hj=>by rw [if_pos hj]]) hpp ?_
      conv=>whnf
      (repeat ((try (conv=>whnf));(refine stQ ?_)))
      conv=>whnf
      refine q0z tab_ok (fun i=>i≤k) (fun (i:Nat)=>[(41,.val (.int .i64 i))]) (fun i=>[.cells 78 [.val (ptrV pb),.val (.int .i64 m)],.own 84 9 k (stL k E),.own 28 8 k (inL k fun j=>if j<i then rowI m (E j) else q1b)]) (fun i=>k-i) 0 (Nat.zero_le _) ?_ ?_
      · ((refine q0g ?_);(conv=>whnf);(refine q0j (by rfl) (by rfl) flQ ?_))
        exact q0c (by exact flQ) (q0k rfl rfl (q0k rfl ((x50 k).trans (q9q fun j _=>by simp)) q0e))
      · intro i hi
        rcases Nat.lt_or_ge i k with h3 |h3
        · generalize hcur:(fun j=>if j<i then rowI m (E j) else q1b)=cur
          have hrowE:∀ (o:Nat) v,(st9 (E i))[o]? = some v→(stL k E)[i*9+o]? = some v:=fun o v hv=>by
            have ho:o<9:=by have:=(List.getElem?_eq_some_iff.1 hv).1;simpa [st9] using this
            rw [q2z h3 ho];exact hv
          have hci:cur i=q1b:=by rw [← hcur];simp
          (repeat ((try (conv=>whnf));(first |(refine q1j (st9 (E i)) rfl hrowE ?_) |(with_reducible refine q4j tab_ok (by kernel_rfl) 10 [] (by decide +kernel) ?_) |(refine stQ ?_))))
          conv=>whnf
          have hcl:((in8 fun o=>E i (o+1)).take m).length=m:=by rw [List.length_take,z6v];omega
          refine x1b tab_ok 2 3 (o:=i*8) (o':=1) (n:=m) (c:=8) (c':=8) (cs:=(in8 fun o=>E i (o+1)).take m) (ys:=st9 (E i)) (by exact rfl) (by exact rfl) rfl rfl (by omega) hcl (fun o u hu=>?_) (by rw [q6x];omega) (fun v hv=>?_) ?_
          · rw [List.getElem?_take] at hu
            split at hu
            · rw [z3a (by omega)] at hu
              rw [← hu,Nat.add_comm 1 o]
              have:o<8:=by omega
              match o,this with
              | 0,_=>rfl
              | 1,_=>rfl
              | 2,_=>rfl
              | 3,_=>rfl
              | 4,_=>rfl
              | 5,_=>rfl
              | 6,_=>rfl
              | 7,_=>rfl
            · cases hu
          · have:=List.mem_of_mem_take hv
            exact x9z (n:=1) (S:=fun _ o=>E i (o+1)) v (by rw [inL,inL];simpa using this)
          conv=>whnf
          (repeat ((try (conv=>whnf));(refine stQ ?_)))
          conv=>whnf
          refine ⟨i+1,by omega,by omega,?_⟩
          ((refine q0g ?_);(conv=>whnf);(refine q0j (by rfl) (by rfl) flQ ?_))
          refine q0c (by exact flQ) (q0k rfl rfl (q0k rfl (Eq.trans (b:=(inL k cur).take (i*8)++(in8 fun o=>E i (o+1)).take m++(inL k cur).drop (i*8+m)) (by rw [← hcl,List.length_take];simp [hcl]) ?_) q0e))
          rw [x77 (T:=rowI m (E i)) h3 hm.2 (fun o ho=>by simp [rowI,ho]) (fun o ho _=>by rw [hci];simp [rowI,q1b];omega)]
          refine q9q fun l hl=>?_
          rw [← hcur]
          dsimp only
          by_cases hlk:l=i
          · subst hlk
            rw [if_pos rfl,if_pos (by omega)]
          · rw [if_neg hlk]
            by_cases h8:l<i
            · rw [if_pos h8,if_pos (by omega)]
            · rw [if_neg h8,if_neg (by omega)]
        · obtain rfl:i=k:=by omega
          (repeat ((try (conv=>whnf));(refine stQ ?_)))
          conv=>whnf
          refine .inl ⟨2,rfl,?_⟩
          show Blk.own _ _ _ _=_
          rw [q9q (T:=fun j=>rowI m (E j)) fun j hj=>by rw [if_pos hj]]
end
end Go.Proofs.YticolnghiibgfaaGreat
namespace Go.Proofs.YticolnghiibgfaaGreat
open Go.RowKit
set_option maxRecDepth 20000
structure LOk (G:Mem) (I:Nat→ItemD) (f:Nat→SrcF) (R:Nat→List Run) (n:Nat):Prop where
  src:∀ k,k<n→(I k).K=0→GivesM Tryz.prog 77 [q2t (I k)] G fun v F=>IsSrc F v (f k)
  reg:∀ k,k<n→(I k).K=0→RegOk G I R k
  it:∀ k,k<n→(I k).K=0→ItOk I f k
  gr:∀ k,k<n→(I k).K=1→GrOk I k
  dep:∀ k,k<n→(I k).K≠0→(I k).K≠1→2≤(zst (fun x=>(I x).K) k).length
  fin:(zst (fun x=>(I x).K) n).length=1
def q6k (I:Nat→ItemD) (n:Nat):List Tr:=((zst (fun x=>(I x).K) n).map (·.2)).headD []
theorem LOk.page {G:Mem} {I:Nat→ItemD} {f:Nat→SrcF} {R:Nat→List Run} {n:Nat} (h:LOk G I f R n):(zst (fun x=>(I x).K) n).map (·.2)=[q6k I n]:=by
  have:=h.fin
  unfold q6k
  match zst (fun x=>(I x).K) n,this with
  | [a],_=>rfl
theorem LOk.span {G:Mem} {I:Nat→ItemD} {f:Nat→SrcF} {R:Nat→List Run} {n:Nat} (h:LOk G I f R n):SpanL (fun x=>(I x).K) (q6k I n) 0 n:=x74 h.dep h.page
theorem LOk.all {G:Mem} {I:Nat→ItemD} {f:Nat→SrcF} {R:Nat→List Run} {n:Nat} (h:LOk G I f R n):AllL (fun i=>RegOk G I R i∧ItOk I f i) (GrOk I) (q6k I n) :=
  AllL.mono (fun i hi=>⟨h.reg i hi.2 hi.1,h.it i hi.2 hi.1⟩) (fun i hi=>h.gr i hi.2 hi.1) _ h.span.all
def q67 (I:Nat→ItemD) (f:Nat→SrcF) (R:Nat→List Run) (n m:Nat) (x y:Int):St:=rowI m (evL (q0l I f R x y) false q19 (q6k I n) q19)
section
variable {I:Nat→ItemD} {f:Nat→SrcF} {R:Nat→List Run} {G:Mem} {W H:Int} {SA IA:Option Addr} {m sq n iq:Nat} {x y er:Int}
set_option maxHeartbeats 16000000
theorem x90 (hC:Gives Tryz.prog 33 [q08 W H SA m sq IA n iq] G (.val (.int .i64 er))) (he:er≠0) :
    Gives Tryz.prog 10 [q08 W H SA m sq IA n iq,.val (.int .i64 x),.val (.int .i64 y)] G (.tup [ink0,.val (.int .i64 er)]):=by
  refine q0o tab_ok Tryz.func10 ?_
  (repeat ((try (conv=>whnf));(first |(refine stQ ?_) |(with_reducible first |refine q0b (fun vs w=>by kernel_rfl) (by kernel_rfl) (hC) ?_ |refine q0a (fun vs w=>by kernel_rfl) (by kernel_rfl) (hC) ?_))))
  exact ⟨rfl,rfl⟩
theorem x91 (hC:Gives Tryz.prog 33 [q08 W H SA m sq IA n iq] G (.val (.int .i64 0))) (hW:1≤W∧W≤256) (hH:1≤H∧H≤256) (ho:¬ ((0≤x∧x<16*W)∧0≤y∧y<16*H)) :
    Gives Tryz.prog 10 [q08 W H SA m sq IA n iq,.val (.int .i64 x),.val (.int .i64 y)] G (.tup [ink0,.val (.int .i64 3)]):=by
  refine q0o tab_ok Tryz.func10 ?_
  by_cases h1:x<0
  · (repeat ((try (conv=>whnf));(first |(refine stQ ?_) |(with_reducible first |refine q0b (fun vs w=>by kernel_rfl) (by kernel_rfl) (hC) ?_ |refine q0a (fun vs w=>by kernel_rfl) (by kernel_rfl) (hC) ?_))))
    exact ⟨rfl,rfl⟩
  by_cases h2:x<16*W
  · by_cases h3:y<0
    · (repeat ((try (conv=>whnf));(first |(refine stQ ?_) |(with_reducible first |refine q0b (fun vs w=>by kernel_rfl) (by kernel_rfl) (hC) ?_ |refine q0a (fun vs w=>by kernel_rfl) (by kernel_rfl) (hC) ?_))))
      exact ⟨rfl,rfl⟩
    · have h4:16*H≤y:=by omega
      (repeat ((try (conv=>whnf));(first |(refine stQ ?_) |(with_reducible first |refine q0b (fun vs w=>by kernel_rfl) (by kernel_rfl) (hC) ?_ |refine q0a (fun vs w=>by kernel_rfl) (by kernel_rfl) (hC) ?_))))
      exact ⟨rfl,rfl⟩
  · (repeat ((try (conv=>whnf));(first |(refine stQ ?_) |(with_reducible first |refine q0b (fun vs w=>by kernel_rfl) (by kernel_rfl) (hC) ?_ |refine q0a (fun vs w=>by kernel_rfl) (by kernel_rfl) (hC) ?_))))
    exact ⟨rfl,rfl⟩
theorem x0c (hC:Gives Tryz.prog 33 [q08 W H SA m sq IA n iq] G (.val (.int .i64 0))) (hI:ItemsM G IA n I) (hn:n≤1000000) (hm:1≤m∧m≤8) (hW:1≤W∧W≤256) (hH:1≤H∧H≤256) (hL:LOk G I f R n) (hx:0≤x∧x<16*W) (hy:0≤y∧y<16*H) :
    Gives Tryz.prog 10 [q08 W H SA m sq IA n iq,.val (.int .i64 x),.val (.int .i64 y)] G (.tup [inA (q67 I f R n m x y),.val (.int .i64 0)]):=by
  have hb:∀ k,k<n→(I k).K=0∨(I k).K=1→0≤(I k).bl∧(I k).bl≤11:=fun k hk h=>h.elim (fun h=>(hL.it k hk h).2.1) (fun h=>(hL.gr k hk h).2)
  have htr:=x05 (W:=W) (H:=H) (SA:=SA) (m:=m) (sq:=sq) (iq:=iq) (f:=f) hI hn hL.src hb hL.dep hL.fin
  refine q0o tab_ok Tryz.func10 ?_
  (repeat ((try (conv=>whnf));(first |(with_reducible refine q9z tab_ok (by kernel_rfl) [0,2,3,4] [1] [5,6] (by decide +kernel) ?_) |((refine q4g (by rfl) ?_ ?_);(· first |exact Mem.le_refl _ |assumption)) |(refine stQ ?_) |(with_reducible first |refine q0b (fun vs w=>by kernel_rfl) (by kernel_rfl) (hC) ?_ |refine q0a (fun vs w=>by kernel_rfl) (by kernel_rfl) (hC) ?_ |refine q0f tab_ok Tryz.func34 (fun vs w=>by kernel_rfl) (by rfl) ?_))))
  conv=>whnf
  refine q80 (fun vs w=>by kernel_rfl) (by rfl) htr fun p G1 hG1 hp=>?_
  obtain ⟨ms,hms,hP⟩:=hp
  rw [hL.page] at hms
  cases hms
  obtain ⟨pb,_,_,_,_,rfl,_⟩:=id hP
  conv=>whnf
  (repeat ((try (conv=>whnf));(first |((refine q4g (by rfl) ?_ ?_);(· first |exact Mem.le_refl _ |assumption)) |(refine stQ ?_))))
  conv=>whnf
  have hA1:AllL (fun i=>RegOk G1 I R i∧ItOk I f i) (GrOk I) (q6k I n):=AllL.mono (fun i h=>⟨h.1.mono hG1,h.2⟩) (fun i h=>h) _ hL.all
  have hrow:=x51 hP (n:=1) (x0:=x) (x1:=x+1) (y:=y) (by omega) (by omega) (by omega) (by omega) hm hA1
  refine x0n (fun vs w=>by kernel_rfl) (.alone fun _=>rfl) (by rfl) hrow ?_
  have hcell:∀ (o:Nat) v,(in8 (q67 I f R n m x y))[o]? = some v→(inL 1 fun (j:Nat)=>rowI m (evL (q0l I f R (x+(j:Int)) y) false q19 (q6k I n) q19))[0*8+o]? = some v:=fun o v hv=>by
    have ho:o<8:=by have:=(List.getElem?_eq_some_iff.1 hv).1;simpa [in8] using this
    rw [q8e (by omega) ho]
    rw [show x+((0:Nat):Int)=x by simp]
    exact hv
  conv=>whnf
  (repeat ((try (conv=>whnf));(first |(refine q1j (in8 (q67 I f R n m x y)) rfl hcell ?_) |(refine stQ ?_))))
  conv=>whnf
  exact ⟨rfl,rfl⟩
end
end Go.Proofs.YticolnghiibgfaaGreat
namespace Go.Proofs.YticolnghiibgfaaGreat
open Go.RowKit
set_option maxRecDepth 20000
theorem ItemsM.kind {G:Mem} {A:Option Addr} {n:Nat} {I:Nat→ItemD} (h:ItemsM G A n I) {k:Nat} (hk:k<n):∃ p:Addr,A=some p∧∀ (o:Nat) v,(I k).cells[o]? = some v→G.cell? ((p.add (k*34)).add o)=some v:=by
  obtain ⟨p,rfl,hp⟩:=h k hk
  exact ⟨p,rfl,fun o v hv=>z90 hp hv⟩
section
variable {I:Nat→ItemD} {G:Mem} {W H:Int} {SA IA:Option Addr} {m sq n iq:Nat}
set_option maxHeartbeats 8000000 in
theorem z1b (hI:ItemsM G IA n I) (hn:n≤1000000) (hK:∀ k,k<n→(I k).K=0∨(I k).K=1∨(I k).K=2):∀ (s i e:Nat) (ms:List Tr),SizeOf.sizeOf ms≤s→SpanL (fun x=>(I x).K) ms (i+1) e→e<n→(I e).K≠0→(I e).K≠1 →
    Gives Tryz.prog 18 [q08 W H SA m sq IA n iq,.val (.int .i64 i)] G (.val (.int .i64 e))
  | 0,i,e,ms,hs,_,_,_,_=>by cases ms <;> simp at hs
  | s+1,i,e,ms,hs,hsp,he,h0,h1=>by
    have hle:=hsp.le
    have hrec:=fun s' (_:s'≤s)=>z1b hI hn hK s
    refine q0o tab_ok Tryz.func18 ?_
    (repeat ((try (conv=>whnf));(refine stQ ?_)))
    conv=>whnf
    refine q0z tab_ok (fun k=>i+1≤k∧∃ ts,SpanL (fun x=>(I x).K) ts k e∧SizeOf.sizeOf ts≤s+1) (fun (k:Nat)=>[(5,.val (.int .i64 k))]) (fun k=>[.cells 25 [.val (.int .i64 W),.val (.int .i64 H),.val (.slice SA m sq),.val (.slice IA n iq)]]) (fun k=>e+1-k) (i+1) ⟨Nat.le_refl _,ms,hsp,hs⟩ ?_ ?_
    · ((refine q0g ?_);(conv=>whnf);(refine q0j (by rfl) (by rfl) flQ ?_))
      exact q0c (by exact flQ) q0e
    · rintro k ⟨hk,ts,hts,hsz⟩
      have hke:=hts.le
      obtain ⟨p,rfl,hc⟩:=hI.kind (show k<n by omega)
      have c0:=hc 0 _ rfl
      cases hts with
      | nil =>
        have h2:(I e).K=2:=(hK e he).elim (fun h=>absurd h h0) fun h=>h.elim (fun h=>absurd h h1) id
        (repeat ((try (conv=>whnf));(first |(refine q0d _ c0 ?_) |(refine stQ ?_))))
        conv=>whnf
        exact ⟨rfl,rfl⟩
      | fill _ ts' _ hf h2 =>
        (repeat ((try (conv=>whnf));(first |(refine q0d _ c0 ?_) |(refine stQ ?_))))
        conv=>whnf
        refine ⟨k+1,⟨by omega,ts',h2,by simp at hsz;omega⟩,by omega,?_⟩
        ((refine q0g ?_);(conv=>whnf);(refine q0j (by rfl) (by rfl) flQ ?_))
        exact q0c (by exact flQ) q0e
      | group _ ms' e' ts' _ hf h3 h4 h5 h6 =>
        have l1:=h3.le
        have l2:=h6.le
        have hrec:=hrec s (Nat.le_refl _) k e' ms' (by simp at hsz;omega) h3 (by omega) h4 h5
        (repeat ((try (conv=>whnf));(first |(refine q0d _ c0 ?_) |(refine stQ ?_) |(with_reducible first |refine q0b (fun vs w=>by kernel_rfl) (by kernel_rfl) (hrec) ?_ |refine q0a (fun vs w=>by kernel_rfl) (by kernel_rfl) (hrec) ?_))))
        conv=>whnf
        refine ⟨e'+1,⟨by omega,ts',h6,by simp at hsz;omega⟩,by omega,?_⟩
        ((refine q0g ?_);(conv=>whnf);(refine q0j (by rfl) (by rfl) flQ ?_))
        exact q0c (by exact flQ) q0e
end
end Go.Proofs.YticolnghiibgfaaGreat
namespace Go.Proofs.YticolnghiibgfaaGreat
open Go.RowKit
set_option maxRecDepth 20000
theorem z5t {a b:Int} {G:Mem} (ha:0≤a∧a≤255) (hb:0≤b∧b≤255):Gives Tryz.prog 90 [.val (.int .i64 a),.val (.int .i64 b)] G (.val (.int .i64 (qE a b))):=by
  refine Gives.of_callsA (args:=[.int .i64 a,.int .i64 b]) (fun vs h=>?_) (by rw [AV.rel]) fun w _=>(q8t a b w ha hb).mono ?_
  · obtain ⟨z1,rfl,h1⟩:=q2w h
    obtain ⟨z2,rfl,h2⟩:=q2w h1
    rw [q5z h2]
  · rintro e w' ⟨rfl,rfl⟩
    exact ⟨rfl,Below.refl _ _⟩
def cvB (I:Nat→ItemD) (R:Nat→List Run) (x y:Int) (i:Nat):Nat→Bool
  | 0=>false
  | d+1=>cvB I R x y i d||(decide ((I (i+d)).K=0)&&hasL (R (i+d)) x y)
theorem q51 {I:Nat→ItemD} {R:Nat→List Run} {x y:Int} {i a:Nat}:∀ b,cvB I R x y i (a+b)=(cvB I R x y i a||cvB I R x y (i+a) b)
  | 0=>by simp [cvB]
  | b+1=>by
    rw [← Nat.add_assoc,cvB,q51 b,cvB,Nat.add_assoc,Bool.or_assoc]
theorem SpanL.cov {I:Nat→ItemD} {R:Nat→List Run} {f:Nat→SrcF} {x y:Int} {ms:List Tr} {i j:Nat} (h:SpanL (fun k=>(I k).K) ms i j):cvB I R x y i (j-i)=covL (q0l I f R x y) ms:=by
  induction h with
  | nil i=>rw [Nat.sub_self];rfl
  | fill i ts j hf h2 ih =>
    have:=h2.le
    rw [show j-i=1+(j-(i+1)) by omega,q51,ih,covL,covT]
    simp [cvB,hf];rfl
  | group i ms e ts j hf h1 h0 h3 h2 ih1 ih2 =>
    have l1:=h1.le
    have l2:=h2.le
    rw [show j-i=1+((e-(i+1))+(1+(j-(e+1)))) by omega,q51,q51,q51,ih1,show i+1+(e-(i+1))=e by omega,ih2,covL,covT]
    simp [cvB,hf,h0,Bool.or_assoc]
section
variable {I:Nat→ItemD} {R:Nat→List Run} {f:Nat→SrcF} {G:Mem} {W H:Int} {SA IA:Option Addr} {m sq n iq:Nat} {x y:Int}
set_option maxHeartbeats 8000000 in
theorem z1c (hI:ItemsM G IA n I) (hn:n≤1000000) (hR:∀ k,k<n→(I k).K=0→RegOk G I R k) {i j:Nat} (hij:i≤j) (hj:j≤n) :
    Gives Tryz.prog 19 [q08 W H SA m sq IA n iq,.val (.int .i64 i),.val (.int .i64 j),.val (.int .i64 x),.val (.int .i64 y)] G (.val (.bool (cvB I R x y i (j-i)))):=by
  refine q0o tab_ok Tryz.func19 ?_
  (repeat ((try (conv=>whnf));(refine stQ ?_)))
  conv=>whnf
  refine q0z tab_ok (fun k=>i≤k∧k≤j∧cvB I R x y i (k-i)=false) (fun (k:Nat)=>[(11,.val (.int .i64 k))]) (fun k=>[.cells 25 [.val (.int .i64 W),.val (.int .i64 H),.val (.slice SA m sq),.val (.slice IA n iq)]]) (fun k=>j-k) i ⟨Nat.le_refl _,hij,by rw [Nat.sub_self];rfl⟩ ?_ ?_
  · ((refine q0g ?_);(conv=>whnf);(refine q0j (by rfl) (by rfl) flQ ?_))
    exact q0c (by exact flQ) q0e
  · rintro k ⟨hk1,hk2,hk3⟩
    rcases Nat.lt_or_ge k j with h2 |h2
    · obtain ⟨p,hpA,hc⟩:=hI.kind (show k<n by omega)
      have c0:=hc 0 _ rfl
      have c1:=hc 1 _ rfl
      have hnx:cvB I R x y i (k+1-i)=(decide ((I k).K=0)&&hasL (R k) x y):=by
        rw [show k+1-i=(k-i)+1 by omega,cvB,hk3,Bool.false_or,show i+(k-i)=k by omega]
      rw [hpA]
      by_cases h0:(I k).K=0
      · obtain ⟨hRM,hRn,hV⟩:=hR k (by omega) h0
        have hh:=z7s (I k).RA (R k) (I k).rq x y G hRM (by have:=hV.length;omega)
        rw [← hRn] at hh
        simp only [h0,decide_true,Bool.true_and] at hnx
        cases hb:hasL (R k) x y with
        | true =>
          rw [hb] at hh hnx
          have hend:cvB I R x y i (j-i)=true:=by
            rw [show j-i=(k+1-i)+(j-(k+1)) by omega,q51,hnx];rfl
          rw [hend]
          (repeat ((try (conv=>whnf));(first |(refine q0d _ c0 ?_) |(refine q0d _ c1 ?_) |(refine stQ ?_) |(with_reducible first |refine q0b (fun vs w=>by kernel_rfl) (by kernel_rfl) (hh) ?_ |refine q0a (fun vs w=>by kernel_rfl) (by kernel_rfl) (hh) ?_))))
          conv=>whnf
          exact ⟨rfl,rfl⟩
        | false =>
          rw [hb] at hh hnx
          (repeat ((try (conv=>whnf));(first |(refine q0d _ c0 ?_) |(refine q0d _ c1 ?_) |(refine stQ ?_) |(with_reducible first |refine q0b (fun vs w=>by kernel_rfl) (by kernel_rfl) (hh) ?_ |refine q0a (fun vs w=>by kernel_rfl) (by kernel_rfl) (hh) ?_))))
          conv=>whnf
          refine ⟨k+1,⟨by omega,by omega,hnx⟩,by omega,?_⟩
          ((refine q0g ?_);(conv=>whnf);(refine q0j (by rfl) (by rfl) flQ ?_))
          exact q0c (by exact flQ) q0e
      · simp only [h0,decide_false,Bool.false_and] at hnx
        (repeat ((try (conv=>whnf));(first |(refine q0d _ c0 ?_) |(refine stQ ?_))))
        conv=>whnf
        refine ⟨k+1,⟨by omega,by omega,hnx⟩,by omega,?_⟩
        ((refine q0g ?_);(conv=>whnf);(refine q0j (by rfl) (by rfl) flQ ?_))
        exact q0c (by exact flQ) q0e
    · obtain rfl:k=j:=by omega
      rw [hk3]
      (repeat ((try (conv=>whnf));(refine stQ ?_)))
      exact ⟨rfl,rfl⟩
end
end Go.Proofs.YticolnghiibgfaaGreat
