/-
  Merged: XPaintA, XInRows, XPRow, XListAt, XLOf, XTreeD, XLeUp, XLendX.
-/
import Derived.Test.YtkicdhaklnmonaaGreatNest
import Derived.Test.YtkicdhaklnmonaaGreatEng2
import Derived.Test.YtkicdhaklnmonaaGreatMrg20
import Derived.Test.YtkicdhaklnmonaaGreatMrg14
set_option linter.unusedVariables false
set_option linter.unusedSimpArgs false
set_option linter.unnecessarySimpa false
namespace Go.Proofs.YtkicdhaklnmonaaGreat
open Go.RowKit
section
variable {I:Nat→ItemD} {f:Nat→SrcF} {R:Nat→List Run} {F:Mem} {y x0 x1:Int} {n:Nat}
theorem x10 {b:Nat} {hd:List Value} {kn:Bool} {A:Option Addr} {c:Nat} {vs:List Value} {ms:List Tr} (h0:0<n) (hx:x1=x0+n) (hx0:-8192≤x0∧x0+n≤8192) (hy:-8192≤y∧y<8192) (hb:F b=some (.cells (hd++[Value.slice A vs.length c]).toArray q1j (0,0))) (hh:hd.length=36) (h33:hd[33]? = some (.bool kn)) (hc:vs.length≤c∧c≤maxLen) (hF:FlatM F A vs) (hms:NodesM I f F vs ms)
    (hA:AllL (fun i=>RegOk F I R i∧ItOk I f i) (GrOk I) ms) (hnest:∀ (k i:Nat) (ms':List Tr) (b':Nat),ms[k]? = some (.group i ms')→vs[k]? = some (.iface q1p (ptrV b'))→NestC I f R y x0 x1 n F (ptrV b') (.group i ms')) (S:Nat→St) (hS:∀ j,j<n→q0z (S j)) :
    Mends Tryz.prog 62 [q1s y x0 x1,.val (ptrV b),.own 0] F 117 9 n (stL n S) (stL n fun (j:Nat)=>evL (q0u I f R (x0+(j:Int)) y) kn (S j) ms (S j)):=by
  cases kn with
  | false=>exact v1m h0 hx hx0 hy hb hh h33 hc hF hms hA hnest hS
  | true=>exact v1n h0 hx hx0 hy hb hh h33 hc hF hms hA hnest hS
theorem x11 (h0:0<n) (hx:x1=x0+n) (hx0:-8192≤x0∧x0+n≤8192) (hy:-8192≤y∧y<8192):∀ (s i:Nat) (ms:List Tr) (b:Nat),SizeOf.sizeOf (Tr.group i ms)≤s→AllT (fun i=>RegOk F I R i∧ItOk I f i) (GrOk I) (.group i ms)→NodeM I f F (.iface q1p (ptrV b)) (.group i ms)→NestC I f R y x0 x1 n F (ptrV b) (.group i ms)
  | 0,i,ms,b,hs,_,_=>by simp at hs
  | s+1,i,ms,b,hs,hA,hN=>by
    have hcov:=fun m=>z9b (f:=f) (R:=R) (F:=F) (y:=y) (x0:=x0) (x1:=x1) (n:=n) (I:=I) (X:=fun j=>q0u I f R (x0+(j:Int)) y) (fun _ _=>rfl) hx (by omega) (q:=GrOk I) _ _ (Nat.le_refl _) (AllT.mono (fun i h=>h.1) (fun i h=>h) _ hA) _ hN m
    cases hN with
    | group i b mv A k0 c vs ms hb hm hn hc hF hl hch =>
      subst hn
      rw [AllT] at hA
      have hpnt:∀ S:Nat→St,(∀ j,j<n→q0z (S j))→_:=x10 (hd:=(I i).cells++[.int .i64 i,mv]) (kn:=(I i).kn) h0 hx hx0 hy (by simpa using hb) rfl rfl hc hF ⟨hl,hch⟩ hA.2 (fun k i' ms' b' hk hv=>x11 h0 hx hx0 hy s i' ms' b' (by
        have:=List.sizeOf_lt_of_mem (List.mem_of_getElem? hk)
        simp at hs this ⊢;omega) (hA.2.get hk) (hch k _ _ hv hk))
      have hev:∀ S:Nat→St,(∀ j,j<n→q0z (S j))→∀ j,j<n→q0z (evL (q0u I f R (x0+(j:Int)) y) (I i).kn (S j) ms (S j)):=fun S hS j hj=>z3d (by omega) hy (fun i h=>h.2) (fun i h=>h) _ hA.2 _ _ _ (hS j hj) (hS j hj)
      exact ⟨fun S hS=>x5c h0 hx hx0 hy hb hm hA.1 hcov hpnt hev hS,fun S B BA bc G hG hS hB h1 h2 hBF=>x5d h0 hx hx0 hy (hG _ _ hb) (hm.mono hG) hA.1 (fun m=>(hcov m).mono hG) (fun S hS=>(hpnt S hS).mono hG) hev hS hB ⟨h1,h2⟩ hBF⟩
theorem x5e {v:Value} {ms:List Tr} (hP:PageM I f F v ms) (h0:0<n) (hx:x1=x0+n) (hx0:-8192≤x0∧x0+n≤8192) (hy:-8192≤y∧y<8192) (hA:AllL (fun i=>RegOk F I R i∧ItOk I f i) (GrOk I) ms) (S:Nat→St) (hS:∀ j,j<n→q0z (S j)) :
    Mends Tryz.prog 62 [q1s y x0 x1,.val v,.own 0] F 117 9 n (stL n S) (stL n fun (j:Nat)=>evL (q0u I f R (x0+(j:Int)) y) false (S j) ms (S j)):=by
  obtain ⟨b,hd,A,c,vs,rfl,hb,hh,h33,hnc,hcm,hF,hN⟩:=hP
  exact x10 h0 hx hx0 hy hb hh h33 ⟨hnc,hcm⟩ hF hN hA (fun k i' ms' b' hk hv=>x11 h0 hx hx0 hy _ i' ms' b' (Nat.le_refl _) (hA.get hk) (hN.2 k _ _ hv hk)) S hS
end
end Go.Proofs.YtkicdhaklnmonaaGreat
namespace Go.Proofs.YtkicdhaklnmonaaGreat
open Go.RowKit
def in8 (S:St):List Value:=[.int .u8 (S 0),.int .u8 (S 1),.int .u8 (S 2),.int .u8 (S 3),.int .u8 (S 4),.int .u8 (S 5),.int .u8 (S 6),.int .u8 (S 7)]
def inL:Nat→(Nat→St)→List Value
  | 0,_=>[]
  | n+1,S=>inL n S++in8 (S n)
theorem q63:∀ (n:Nat) (S:Nat→St),(inL n S).length=n*8
  | 0,_=>rfl
  | n+1,S=>by
    rw [inL,List.length_append,q63 n S]
    simp [in8];omega
theorem z0i {S T:Nat→St}:∀ {n:Nat},(∀ j,j<n→in8 (S j)=in8 (T j))→inL n S=inL n T
  | 0,_=>rfl
  | n+1,h=>by rw [inL,inL,z0i (fun j hj=>h j (by omega)),h n (by omega)]
theorem q9c {S:Nat→St}:∀ {n j o:Nat},j<n→o<8→(inL n S)[j*8+o]? = (in8 (S j))[o]?
  | 0,j,o,h,_=>by omega
  | n+1,j,o,h,ho=>by
    rw [inL]
    rcases Nat.lt_or_ge j n with h1 |h1
    · rw [List.getElem?_append_left (by rw [q63];omega)];exact q9c h1 ho
    · obtain rfl:j=n:=by omega
      rw [List.getElem?_append_right (by rw [q63];omega),q63]
      congr 1;omega
theorem z7o (S:St):(in8 S).length=8:=rfl
theorem v1o {n:Nat} {S:Nat→St}:∀ v∈inL n S,v.oneCell'=true:=by
  induction n with
  | zero=>intro v hv;simp [inL] at hv
  | succ n ih =>
    intro v hv
    rw [inL] at hv
    rcases List.mem_append.1 hv with hv |hv
    · exact ih v hv
    · simp only [in8,List.mem_cons,List.not_mem_nil,or_false] at hv
      rcases hv with rfl |rfl |rfl |rfl |rfl |rfl |rfl |rfl <;> rfl
theorem x2u {P:Program} {T:Tab} (hT:TOk P T) (k q:Nat) {d x:Operand} {t t':TypeId} {fr:List AV} {hp:List Blk} {G:Mem} {K:AV→List Blk→Mem→Prop} {E t2:TypeId} {sz N o o' n c c':Nat} {xs cs ys:List Value} (hd:ev fr d=.sli k o n c) (hx:ev fr x=.sli q o' n c')
    (hk:nthB hp k=.own E sz N xs) (hq:nthB hp q=.cells t2 (ys.map .val)) (hn:0<n) (hcs:cs.length=n) (hys:∀ (j:Nat) u,cs[j]? = some u→ys[o'+j]? = some u) (hfit:o+n≤xs.length) (h1:∀ v∈cs,v.oneCell'=true) (h:q00 T t fun i=>match i.td with
      | .slice e=>q00 T e fun j=>q0o (Nat.beq j.size 1) (setF hp k (.own E sz N (xs.take o++cs++xs.drop (o+cs.length))) fun hp'=>K .any hp' G)
      | _=>False):OpP P (.call ⟨.builtin .copy,⟨[d,x]⟩,⟨[t,t']⟩⟩) fr hp G K:=by
  refine ⟨fun op ho=>OpS.of_run fun w0 G0 β a w hr hf=>?_⟩
  have hdv:=q1f hf d
  have hxv:=q1f hf x
  rw [hd] at hdv;rw [hx] at hxv
  simp only [AV.rel] at hdv hxv
  obtain ⟨v,b,hv,hb,hde⟩:=hdv
  obtain ⟨v',b',hv',hb',hxe⟩:=hxv
  obtain ⟨i,hi,h2⟩:=q0s hT h
  split at h2
  · rename_i e htd
    have hu:=q1e (htd ▸ hi.td)
    simp only [TD.says] at hu
    obtain ⟨j,hj,h3⟩:=q0s hT h2
    obtain ⟨hsz0,h4⟩:=q0n h3
    have hsz:=Nat.eq_of_beq_eq_true hsz0
    rw [q09] at h4
    obtain ⟨r,z,hr1,hrs,_⟩:=hj.info
    have hs1:(P.info? e).map (·.size)=some 1:=by simp [hr1,hrs,hsz]
    have hkx:=q0p hk rfl
    obtain ⟨x2,hx3,hx4⟩:=hr.blk q v' hv'
    rw [q0p hq rfl] at hx3;cases hx3
    obtain ⟨g,cc,rfl,g1,g2,g3,g4⟩:=hx4
    simp [q0h] at hb'
    subst hb'
    have ecc:=q07 g4
    obtain ⟨w',hrun,hr'⟩:=z3b (P:=P) (t':=t') (ty:=op.type) hr hv hkx hu hs1 (b:=b) (o:=o) (dLen:=n) (dCap:=c) (sLen:=n) (sCap:=c') (ad:=⟨g,o',none⟩) (cs:=cs) hb (by rw [hcs];simp) (fun j u hj=>by
      rw [q0m,q28 g3]
      have:=hys j u hj
      rw [← ecc] at this;simpa using this) (by rw [hcs];exact hfit) h1
    exact ⟨_,_,w',β,.any,_,G,by simp [execOp,ho,resolve,invoke,builtin,hde,hxe,hrun];rfl,.inl rfl,Nm.le_refl _,hr',by simp only [AV.rel],h4⟩
  · exact h2.elim
end Go.Proofs.YtkicdhaklnmonaaGreat
namespace Go.Proofs.YtkicdhaklnmonaaGreat
open Go.RowKit
set_option maxRecDepth 20000
def q3g:St:=fun o=>if o=0 then 255 else 0
def rowI (m:Nat) (s:St):St:=fun o=>if o<m then s (o+1) else 0
theorem x7t:q0z q3g:=fun o _=>by unfold q3g;split <;> omega
theorem x7u:∀ n:Nat,(List.replicate n (in8 q1z)).flatten=inL n fun _=>q1z
  | 0=>rfl
  | n+1=>by
    rw [List.replicate_succ',List.flatten_append,x7u n,inL];simp
theorem z34 {S:St} {o:Nat} (h:o<8):(in8 S)[o]? = some (.int .u8 (S o)):=by
  match o,h with
  | 0,_=>rfl
  | 1,_=>rfl
  | 2,_=>rfl
  | 3,_=>rfl
  | 4,_=>rfl
  | 5,_=>rfl
  | 6,_=>rfl
  | 7,_=>rfl
theorem x90 {S:Nat→St} {T W:St} {n j m:Nat} (h:j<n) (hm:m≤8) (h1:∀ o,o<m→T o=W o) (h2:∀ o,m≤o→o<8→T o=S j o) :
    (inL n S).take (j*8)++(in8 W).take m++(inL n S).drop (j*8+m)=inL n fun i=>if i=j then T else S i:=by
  apply List.ext_getElem?
  intro k
  have hl:=q63 n S
  have hw:((in8 W).take m).length=m:=by rw [List.length_take,z7o];omega
  have hq:((inL n S).take (j*8)).length=j*8:=by rw [List.length_take];omega
  by_cases hk:k<n*8
  · obtain ⟨i,o,ho,rfl⟩:∃ i o,o<8∧k=i*8+o:=⟨k/8,k%8,by omega,by omega⟩
    have hi:i<n:=by omega
    rw [q9c hi ho]
    rcases Nat.lt_trichotomy i j with h3 |h3 |h3
    · rw [List.append_assoc,List.getElem?_append_left (by omega),List.getElem?_take,if_pos (by omega),q9c hi ho,if_neg (by omega)]
    · subst h3
      rw [if_pos rfl,z34 ho]
      by_cases hom:o<m
      · rw [List.getElem?_append_left (by rw [List.length_append,hq,hw];omega),List.getElem?_append_right (by omega),hq,List.getElem?_take,if_pos (by omega),show i*8+o-i*8=o by omega,z34 ho,h1 o hom]
      · rw [List.getElem?_append_right (by rw [List.length_append,hq,hw];omega),List.getElem?_drop,List.length_append,hq,hw,show i*8+m+(i*8+o-(i*8+m))=i*8+o by omega,q9c hi ho,z34 ho,h2 o (by omega) ho]
    · rw [List.getElem?_append_right (by rw [List.length_append,hq,hw];omega),List.getElem?_drop,List.length_append,hq,hw,if_neg (by omega),show j*8+m+(i*8+o-(j*8+m))=i*8+o by omega,q9c hi ho]
  · rw [List.getElem?_eq_none (by simp only [List.length_append,List.length_take,List.length_drop,z7o];omega),List.getElem?_eq_none (by rw [q63];omega)]
section
variable {I:Nat→ItemD} {f:Nat→SrcF} {R:Nat→List Run} {G:Mem} {y x0 x1:Int} {n:Nat}
set_option maxHeartbeats 16000000 in
theorem x7v {v:Value} {ms:List Tr} {m:Nat} (hP:PageM I f G v ms) (h0:0<n) (hx:x1=x0+n) (hx0:-8192≤x0∧x0+n≤8192) (hy:-8192≤y∧y<8192) (hm:1≤m∧m≤8) (hA:AllL (fun i=>RegOk G I R i∧ItOk I f i) (GrOk I) ms) :
    q5k Tryz.prog 46 [.agg [.val v,.val (.int .i64 m)],.val (.int .i64 y),.val (.int .i64 x0),.val (.int .i64 x1)] G id 33 8 n (inL n fun (j:Nat)=>rowI m (evL (q0u I f R (x0+(j:Int)) y) false q3g ms q3g)):=by
  have hpp:=x5e hP h0 hx hx0 hy hA (fun _=>q3g) (fun _ _=>x7t)
  obtain ⟨E,hE⟩:∃ E:Nat→St,E=fun (j:Nat)=>evL (q0u I f R (x0+(j:Int)) y) false q3g ms q3g:=⟨_,rfl⟩
  rw [← hE] at hpp
  rw [show (fun (j:Nat)=>rowI m (evL (q0u I f R (x0+(j:Int)) y) false q3g ms q3g))=fun j=>rowI m (E j) by rw [hE]]
  clear hE
  obtain ⟨pb,_,_,_,_,rfl,_⟩:=id hP
  refine q5x tab_ok Tryz.func46 (.alone fun _=>rfl) ?_
  have hn2:n≤16384:=by omega
  have hw:x1-x0=(n:Int):=by omega
  (repeat ((try (conv=>whnf));(refine stQ ?_)))
  conv=>whnf
  have hwn:(x1-x0).toNat=n:=by omega
  rw [hwn]
  refine q0w tab_ok (fun k=>k≤n) (fun (k:Nat)=>[(20,.val (.int .i64 k))]) (fun k=>[.cells 94 [.val (ptrV pb),.val (.int .i64 m)],.own 117 9 n (stL n fun j=>if j<k then q3g else q1z)]) (fun k=>n-k) 0 (Nat.zero_le _) ?_ ?_
  · ((refine q0g ?_);(conv=>whnf);(refine q0k (by rfl) (by rfl) flQ ?_))
    exact q0a (by exact flQ) (q0c rfl ((z6s n).trans (q0v fun j _=>by simp)) q0f)
  · intro k hk
    rcases Nat.lt_or_ge k n with h2 |h2
    · generalize hcur:(fun j=>if j<k then q3g else q1z)=cur
      (repeat ((try (conv=>whnf));(first |(refine stQ ?_) |(with_reducible refine q0i tab_ok Tryz.func61 (fun vs w=>by kernel_rfl) (by rfl) ?_))))
      conv=>whnf
      have hon:k*9+9≤n*9:=by omega
      refine mustP.mk (by rw [q15];exact hon) ?_
      (repeat ((try (conv=>whnf));(refine stQ ?_)))
      conv=>whnf
      refine ⟨k+1,by omega,by omega,?_⟩
      ((refine q0g ?_);(conv=>whnf);(refine q0k (by rfl) (by rfl) flQ ?_))
      refine q0a (by exact flQ) (q0c rfl (Eq.trans (b:=(stL n cur).take (k*9)++st9 q3g++(stL n cur).drop (k*9+9)) rfl ?_) q0f)
      rw [q4x h2]
      refine q0v fun l hl=>?_
      rw [← hcur]
      dsimp only
      by_cases hlk:l=k
      · subst hlk
        rw [if_pos rfl,if_pos (by omega)]
      · rw [if_neg hlk]
        by_cases h8:l<k
        · rw [if_pos h8,if_pos (by omega)]
        · rw [if_neg h8,if_neg (by omega)]
    · obtain rfl:k=n:=by omega
      (repeat ((try (conv=>whnf));(refine stQ ?_)))
      conv=>whnf
      refine q2u [q1s y x0 x1,.val (ptrV pb),.own 0] 2 1 (fun vs w=>by kernel_rfl) rfl rfl (by rfl) (show Blk.own _ _ _ (stL k _)=_ by rw [q0v (T:=fun _=>q3g) fun j hj=>by rw [if_pos hj]]) hpp ?_
      conv=>whnf
      (repeat ((try (conv=>whnf));(refine stQ ?_)))
      conv=>whnf
      refine q0w tab_ok (fun i=>i≤k) (fun (i:Nat)=>[(41,.val (.int .i64 i))]) (fun i=>[.cells 94 [.val (ptrV pb),.val (.int .i64 m)],.own 117 9 k (stL k E),.own 33 8 k (inL k fun j=>if j<i then rowI m (E j) else q1z)]) (fun i=>k-i) 0 (Nat.zero_le _) ?_ ?_
      · ((refine q0g ?_);(conv=>whnf);(refine q0k (by rfl) (by rfl) flQ ?_))
        exact q0a (by exact flQ) (q0c rfl rfl (q0c rfl ((x7u k).trans (z0i fun j _=>by simp)) q0f))
      · intro i hi
        rcases Nat.lt_or_ge i k with h3 |h3
        · generalize hcur:(fun j=>if j<i then rowI m (E j) else q1z)=cur
          have hrowE:∀ (o:Nat) v,(st9 (E i))[o]? = some v→(stL k E)[i*9+o]? = some v:=fun o v hv=>by
            have ho:o<9:=by have:=(List.getElem?_eq_some_iff.1 hv).1;simpa [st9] using this
            rw [q3b h3 ho];exact hv
          have hci:cur i=q1z:=by rw [← hcur];simp
          (repeat ((try (conv=>whnf));(first |(refine q08 (st9 (E i)) rfl hrowE ?_) |(with_reducible refine q29 tab_ok (by kernel_rfl) 10 [] (by decide +kernel) ?_) |(refine stQ ?_))))
          conv=>whnf
          have hcl:((in8 fun o=>E i (o+1)).take m).length=m:=by rw [List.length_take,z7o];omega
          refine x2u tab_ok 2 3 (o:=i*8) (o':=1) (n:=m) (c:=8) (c':=8) (cs:=(in8 fun o=>E i (o+1)).take m) (ys:=st9 (E i)) (by exact rfl) (by exact rfl) rfl rfl (by omega) hcl (fun o u hu=>?_) (by rw [q63];omega) (fun v hv=>?_) ?_
          · rw [List.getElem?_take] at hu
            split at hu
            · rw [z34 (by omega)] at hu
              rw [← hu,Nat.add_comm 1 o]
              have:o<8:=by omega
              match o,this with
              | 0,_=>rfl
              | 1,_=>rfl
              | 2,_=>rfl
              | 3,_=>rfl
              | 4,_=>rfl
              | 5,_=>rfl
              | 6,_=>rfl
              | 7,_=>rfl
            · cases hu
          · have:=List.mem_of_mem_take hv
            exact v1o (n:=1) (S:=fun _ o=>E i (o+1)) v (by rw [inL,inL];simpa using this)
          conv=>whnf
          (repeat ((try (conv=>whnf));(refine stQ ?_)))
          conv=>whnf
          refine ⟨i+1,by omega,by omega,?_⟩
          ((refine q0g ?_);(conv=>whnf);(refine q0k (by rfl) (by rfl) flQ ?_))
          refine q0a (by exact flQ) (q0c rfl rfl (q0c rfl (Eq.trans (b:=(inL k cur).take (i*8)++(in8 fun o=>E i (o+1)).take m++(inL k cur).drop (i*8+m)) (by rw [← hcl,List.length_take];simp [hcl]) ?_) q0f))
          rw [x90 (T:=rowI m (E i)) h3 hm.2 (fun o ho=>by simp [rowI,ho]) (fun o ho _=>by rw [hci];simp [rowI,q1z];omega)]
          refine z0i fun l hl=>?_
          rw [← hcur]
          dsimp only
          by_cases hlk:l=i
          · subst hlk
            rw [if_pos rfl,if_pos (by omega)]
          · rw [if_neg hlk]
            by_cases h8:l<i
            · rw [if_pos h8,if_pos (by omega)]
            · rw [if_neg h8,if_neg (by omega)]
        · obtain rfl:i=k:=by omega
          (repeat ((try (conv=>whnf));(refine stQ ?_)))
          conv=>whnf
          refine .inl ⟨2,rfl,?_⟩
          show Blk.own _ _ _ _=_
          rw [z0i (T:=fun j=>rowI m (E j)) fun j hj=>by rw [if_pos hj]]
end
end Go.Proofs.YtkicdhaklnmonaaGreat
namespace Go.Proofs.YtkicdhaklnmonaaGreat
open Go.RowKit
set_option maxRecDepth 20000
structure LOk (G:Mem) (I:Nat→ItemD) (f:Nat→SrcF) (R:Nat→List Run) (n:Nat):Prop where
  src:∀ k,k<n→(I k).K=0→GivesM Tryz.prog 82 [q61 (I k)] G fun v F=>IsSrc F v (f k)
  reg:∀ k,k<n→(I k).K=0→RegOk G I R k
  it:∀ k,k<n→(I k).K=0→ItOk I f k
  gr:∀ k,k<n→(I k).K=1→GrOk I k
  dep:∀ k,k<n→(I k).K≠0→(I k).K≠1→2≤(zst (fun x=>(I x).K) k).length
  fin:(zst (fun x=>(I x).K) n).length=1
def q7k (I:Nat→ItemD) (n:Nat):List Tr:=((zst (fun x=>(I x).K) n).map (·.2)).headD []
theorem LOk.page {G:Mem} {I:Nat→ItemD} {f:Nat→SrcF} {R:Nat→List Run} {n:Nat} (h:LOk G I f R n):(zst (fun x=>(I x).K) n).map (·.2)=[q7k I n]:=by
  have:=h.fin
  unfold q7k
  match zst (fun x=>(I x).K) n,this with
  | [a],_=>rfl
theorem LOk.span {G:Mem} {I:Nat→ItemD} {f:Nat→SrcF} {R:Nat→List Run} {n:Nat} (h:LOk G I f R n):SpanL (fun x=>(I x).K) (q7k I n) 0 n:=x9w h.dep h.page
theorem LOk.all {G:Mem} {I:Nat→ItemD} {f:Nat→SrcF} {R:Nat→List Run} {n:Nat} (h:LOk G I f R n):AllL (fun i=>RegOk G I R i∧ItOk I f i) (GrOk I) (q7k I n) :=
  AllL.mono (fun i hi=>⟨h.reg i hi.2 hi.1,h.it i hi.2 hi.1⟩) (fun i hi=>h.gr i hi.2 hi.1) _ h.span.all
def q4i (I:Nat→ItemD) (f:Nat→SrcF) (R:Nat→List Run) (n m:Nat) (x y:Int):St:=rowI m (evL (q0u I f R x y) false q3g (q7k I n) q3g)
section
variable {I:Nat→ItemD} {f:Nat→SrcF} {R:Nat→List Run} {G:Mem} {W H:Int} {SA IA:Option Addr} {m sq n iq:Nat} {x y er:Int}
set_option maxHeartbeats 16000000
end
end Go.Proofs.YtkicdhaklnmonaaGreat
namespace Go.Proofs.YtkicdhaklnmonaaGreat
open Go.RowKit
set_option maxRecDepth 20000
theorem x2v {P:Program} {T:Tab} (hT:TOk P T) {f:FuncId} {fn:Func} (hfn:P.funcs[f]? = some fn) {args:List AV} {G:Mem} {R:Value→Mem→Prop} (hn:q5s fn=true)
    (h:q32 P T 0 fn args [] G fun v hp' G'=>∃ l:List Value,v=.agg (l.map .val)∧R (.agg l.toArray) G'):GivesM P f args G R:=by
  intro w vs hG ha
  refine (q5t hT hfn (hp:=[]) h (.inl hn) w G _ w vs (HR.init hG) ha).mono ?_
  rintro e w' ⟨y,β',v,hp',G',h1,_,h2,h3,l,rfl,hR⟩
  simp only [AV.rel] at h3
  obtain ⟨cs,rfl,h4⟩:=h3
  have e:cs=l.toArray:=by rw [← q07 h4]
  subst e
  exact ⟨_,G',h1,h2.below,h2.sub,h2.hold,h2.grow,hR⟩
set_option maxHeartbeats 16000000 in
theorem x5f {I:Nat→ItemD} {f:Nat→SrcF} {R:Nat→List Run} {G:Mem} {W H:Int} {SA IA:Option Addr} {m sq n iq:Nat} (hI:ItemsM G IA n I) (hn:n≤1000000) (hL:LOk G I f R n) :
    GivesM Tryz.prog 45 [q5o W H SA m sq IA n iq] G fun y F=>∃ pb,y=.agg #[ptrV pb,.int .i64 m]∧PageM I f F (ptrV pb) (q7k I n):=by
  have hb:∀ k,k<n→(I k).K=0∨(I k).K=1→0≤(I k).bl∧(I k).bl≤11:=fun k hk h=>h.elim (fun h=>(hL.it k hk h).2.1) (fun h=>(hL.gr k hk h).2)
  have htr:=x2o (W:=W) (H:=H) (SA:=SA) (m:=m) (sq:=sq) (iq:=iq) (f:=f) hI hn hL.src hb hL.dep hL.fin
  refine x2v tab_ok Tryz.func45 (by kernel_rfl) ?_
  (repeat ((try (conv=>whnf));(first |(with_reducible refine z0u tab_ok (by kernel_rfl) [0,2,3,4] [1] [5,6] (by decide +kernel) ?_) |((refine q44 (by rfl) ?_ ?_);(· first |exact Mem.le_refl _ |assumption)) |(refine stQ ?_))))
  conv=>whnf
  refine z24 (fun vs w=>by kernel_rfl) (by rfl) htr fun p G1 hG1 hp=>?_
  obtain ⟨ms,hms,hP⟩:=hp
  rw [hL.page] at hms
  cases hms
  obtain ⟨pb,_,_,_,_,rfl,_⟩:=id hP
  conv=>whnf
  (repeat ((try (conv=>whnf));(first |((refine q44 (by rfl) ?_ ?_);(· first |exact Mem.le_refl _ |assumption)) |(refine stQ ?_))))
  conv=>whnf
  exact ⟨[ptrV pb,.int .i64 m],rfl,pb,rfl,hP⟩
end Go.Proofs.YtkicdhaklnmonaaGreat
namespace Go.Proofs.YtkicdhaklnmonaaGreat
open Go.RowKit
def z3e (o:Oper) (l:List Nat):Bool:=o.after.toList.any fun e=>Region.binds .any e&&q12 e.on l
def z04 (ops:List Oper) (l:List Nat):List Nat→List Nat
  | []=>[]
  | i::r=>match ops[i]? with
    | some o=>cond (z3e o l) (z04 ops l r) (i::z04 ops l r)
    | none=>z04 ops l r
def allN (p:Nat→Prop):List Nat→Prop
  | []=>True
  | [i]=>p i
  | i::j::r=>p i∧allN p (j::r)
def z0j (i:Nat):List Nat→List Nat
  | []=>[]
  | j::r=>cond (Nat.beq j i) (z0j i r) (j::z0j i r)
def anyT (P:Program) (T:Tab) (ops:List Oper):Nat→List Nat→List AV→List Blk→Mem→(List AV→List Blk→Mem→Prop)→Prop
  | 0,_,fr,hp,G,K=>K fr hp G
  | f+1,l,fr,hp,G,K=>allN (fun i=>match ops[i]? with
    | some o=>q67 ops o.guard fr (vop P T o.op fr hp G fun v hp' G'=>putF o.dst v fr fun fr'=>anyT P T ops f (z0j i l) fr' hp' G' K) (putF o.dst (.val undef) fr fun fr'=>anyT P T ops f (z0j i l) fr' hp G K)
    | none=>False) (z04 ops l l)
theorem x12 {p:Nat→Prop}:∀ {l:List Nat},allN p l→∀ i∈l,p i
  | [],_,i,hi=>by cases hi
  | [j],h,i,hi=>by simp at hi;subst hi;exact h
  | j::k::r,h,i,hi=>by
    rcases List.mem_cons.1 hi with rfl |hi
    · exact h.1
    · exact x12 (l:=k::r) h.2 i hi
theorem z9d {i j:Nat}:∀ {l:List Nat},j∈z0j i l↔j∈l∧j≠i
  | []=>by simp [z0j]
  | k::r=>by
    have ih:=z9d (i:=i) (j:=j) (l:=r)
    unfold z0j
    by_cases e:k=i
    · subst e
      have hb:Nat.beq k k=true:=Nat.beq_refl k
      simp only [hb,cond_true,ih,List.mem_cons]
      constructor
      · rintro ⟨h1,h2⟩;exact ⟨.inr h1,h2⟩
      · rintro ⟨rfl |h1,h2⟩
        · exact absurd rfl h2
        · exact ⟨h1,h2⟩
    · have:Nat.beq k i=false:=by
        cases h:Nat.beq k i with
        | false=>rfl
        | true=>exact absurd (Nat.eq_of_beq_eq_true h) e
      simp only [this,cond_false,List.mem_cons,ih]
      constructor
      · rintro (rfl |⟨h1,h2⟩)
        · exact ⟨.inl rfl,e⟩
        · exact ⟨.inr h1,h2⟩
      · rintro ⟨rfl |h1,h2⟩
        · exact .inl rfl
        · exact .inr ⟨h1,h2⟩
theorem z6t {ops:List Oper} {l:List Nat} {i:Nat} {o:Oper} (ho:ops[i]? = some o) (hd:z3e o l=false):∀ {r:List Nat},i∈r→i∈z04 ops l r
  | [],h=>by cases h
  | j::r,h=>by
    unfold z04
    rcases List.mem_cons.1 h with rfl |h
    · rw [ho];simp only [hd,cond_false];exact List.mem_cons_self ..
    · have ih:=z6t ho hd (r:=r) h
      cases ops[j]? with
      | none=>exact ih
      | some q =>
        simp only
        cases z3e q l with
        | true=>exact ih
        | false=>exact List.mem_cons_of_mem _ ih
def v2v (ops:List Oper):Bool:=ops.zipIdx.all fun (o,i)=>o.after.toList.all fun e=>!Region.binds .any e||Nat.blt e.on i
theorem v1p {P:Program} {T:Tab} (hT:TOk P T) {ops:List Oper} (hB:∀ (i:Nat) o,ops[i]? = some o→∀ e∈o.after,Region.binds .any e=true→e.on<i) {w0:World} {G0:Mem} {β0:Nm} {ds:List Deferred} {Q:Exit→Act→World→Prop} {K:List AV→List Blk→Mem→Prop} (hQ:∀ a' w',Sat w0 G0 β0 ds K a' w'→Q .normal a' w') :
    ∀ (fuel:Nat) (l:List Nat) (fr:List AV) (hp:List Blk) (G:Mem) (β:Nm) (a:Act) (w:World) (listed:Array Bool),listed.size=ops.length→unl listed ops.length=fuel→(∀ i,i<ops.length→(listed.getD i true=false↔i∈l)) →
      β0.le β→HR w0 G0 β hp G w→AV.rels β fr a.tmps.toList→a.defers=ds→anyT P T ops fuel l fr hp G K→q5p P ops.toArray Q fuel listed a w:=by
  intro fuel
  induction fuel with
  | zero =>
    intro l fr hp G β a w listed hs hunl hl h0 hr hf hd h
    refine ⟨z1k (q7n _ hunl),hQ a w ⟨β,fr,hp,G,h0,hr,hf,hd,h⟩⟩
  | succ fuel ih =>
    intro l fr hp G β a w listed hs hunl hl h0 hr hf hd h
    refine ⟨fun he=>?_,fun i hi=>?_⟩
    · exfalso
      obtain ⟨i,g1,g2,g3⟩:=z3l _ (by rw [hunl];exact Nat.succ_ne_zero _)
      have ho:ops[i]? = some ops[i]:=List.getElem?_eq_getElem g1
      have:i∈Region.ready .any ops.toArray listed:=mem_ready.2 ⟨g2,ops[i],by simpa using ho,fun e he hb=>by
        have h4:=hB i _ ho e he hb
        rw [← q6n (by omega)];exact g3 _ h4⟩
      rw [he] at this;cases this
    obtain ⟨g1,o,g2,g3⟩:=mem_ready.1 hi
    have hlt:i<ops.length:=by have:=(Array.getElem?_eq_some_iff.1 g2).1;simpa using this
    have ho:ops[i]? = some o:=by simpa using g2
    have hil:i∈l:=(hl i hlt).1 g1
    have hdep:z3e o l=false:=by
      unfold z3e
      rw [List.any_eq_false]
      intro e he hbe
      simp only [Bool.and_eq_true] at hbe
      have h5:=g3 e (by simpa using he) hbe.1
      have h6:=hB i o ho e (by simpa using he) hbe.1
      have h7:=(q21 _ _).1 hbe.2
      have h8:=(hl e.on (by omega)).2 h7
      rw [q6n (by omega)] at h8
      rw [h8] at h5;cases h5
    have h1:=x12 h i (z6t ho hdep hil)
    simp only [ho] at h1
    have hs':(listed.setIfInBounds i true).size=ops.length:=by simp [hs]
    have hu':unl (listed.setIfInBounds i true) ops.length=fuel:=by
      have:=z0w g1 ops.length
      rw [if_pos hlt] at this;omega
    have hl':∀ j,j<ops.length→((listed.setIfInBounds i true).getD j true=false↔j∈z0j i l):=fun j hj=>by
      rw [z9d]
      by_cases e:i=j
      · subst e
        rw [q18 (by omega)]
        constructor
        · intro h;cases h
        · rintro ⟨_,h⟩;exact absurd rfl h
      · rw [q0x e,hl j hj]
        exact ⟨fun h=>⟨h,fun e2=>e e2.symm⟩,fun h=>h.1⟩
    unfold q8p
    rw [g2]
    simp only
    rcases q9g hf h1 with ⟨hw,h2⟩ |⟨hw,h2⟩
    · rw [if_pos hw]
      refine .inl (z5l hT h2 w0 G0 β a w _ _ hr hf ?_)
      intro β' v y hp' G' w' k2 k3 k4 k5
      obtain ⟨fr',k6,k7⟩:=q87 (AV.rels_mono k2 _ _ hf) k4 k5
      exact ih _ _ _ _ β' _ _ _ hs' hu' hl' (Nm.le_trans h0 k2) k3 k6 (by rw [q1n];exact hd) k7
    · rw [if_neg (by rw [hw];simp)]
      obtain ⟨fr',k6,k7⟩:=q87 hf (by simp only [AV.rel]:AV.rel β (.val undef) undef) h2
      exact ih _ _ _ _ β _ _ _ hs' hu' hl' h0 hr k6 (by rw [q1n];exact hd) k7
theorem x5g {P:Program} {T:Tab} (hT:TOk P T) (hm:P.follows .mixedOrders=true) {ops:List Oper} (hB:v2v ops=true) {fr:List AV} {hp:List Blk} {G:Mem} {K:List AV→List Blk→Mem→Prop} (h:anyT P T ops ops.length (List.range ops.length) fr hp G K):DrawP P ops fr hp G K:=by
  refine ⟨hm,?_⟩
  intro w0 G0 ds β0 β a w Q hβ hr hf hd hQ
  have hE:∀ (i:Nat) o,ops[i]? = some o→∀ e∈o.after,Region.binds .any e=true→e.on<i:=fun i o ho e he hb=>by
    have h1:=q2m hB ho
    rw [List.all_eq_true] at h1
    have h2:=h1 e (by simpa using he)
    simp only [hb,Bool.not_true,Bool.false_or] at h2
    exact q1t h2
  have hrep:∀ i,i<ops.length→(Array.replicate ops.length false).getD i true=false:=fun i hi=>by simp [Array.getD,hi]
  have hunl:∀ n,n≤ops.length→unl (Array.replicate ops.length false) n=n:=by
    intro n
    induction n with
    | zero=>intro _;rfl
    | succ n ih=>intro hn;simp only [unl,ih (by omega),hrep n (by omega),if_true]
  have:=v1p hT hE hQ ops.length (List.range ops.length) fr hp G β a _ (Array.replicate ops.length false) (by simp) (hunl _ (Nat.le_refl _)) (fun i hi=>by rw [hrep i hi];simp [hi]) hβ hr.drew hf hd h
  simpa using this
theorem x7w {P:Program} {ops:List Oper} {n0:Nat} {fr:List AV} {hp:List Blk} {G:Mem} {K:List AV→List Blk→Mem→Prop} (hn:hp.length=n0) {ι:Type} (inv:ι→Prop) (S:ι→List (Nat × AV)) (H:ι→List Blk) (M:ι→Mem)
    (h:DrawP P ops fr hp G fun fr1 hp1 G1=>∃ i,inv i∧Le n0 fr1 hp1 G1 (z0x (z3o (q9i ops []) 0 fr) (S i)) (H i) (M i))
    (main:∀ i,inv i→q7z (q9i ops []) fun ws=>q6f ws 0 fr fun fr1=>q5g fr1 (S i) fun fr2=>K fr2 (H i) (M i)):DrawP P ops fr hp G K:=by
  subst hn
  refine ⟨h.mixed,?_⟩
  intro w0 G0 ds β0 β a w Q hβ hr hf hd hQ
  refine h.out w0 G0 ds β β a w Q (Nm.le_refl _) hr hf hd fun a' w' hs=>?_
  obtain ⟨β1,fr1,hp1,G1,k1,k2,k3,k4,i,hi,hle⟩:=hs
  obtain ⟨β2,g1,g2,g3⟩:=hle.out w0 G0 β β1 w' _ (Nm.below_of hr) k1 k2 k3
  have hm:=main i hi
  rw [q5y,q4z,q39] at hm
  exact hQ a' w' ⟨β2,_,_,_,Nm.le_trans hβ g1,g2,g3,k4,hm⟩
structure Hd (A:Prop):Prop where
  go:A
theorem x5h {P:Program} {ops:List Oper} {fr:List AV} {hp:List Blk} {G:Mem} {K:List AV→List Blk→Mem→Prop} (h:Hd (DrawP P ops fr hp G K)):DrawP P ops fr hp G K:=h.go
end Go.Proofs.YtkicdhaklnmonaaGreat
namespace Go.Proofs.YtkicdhaklnmonaaGreat
open Go.RowKit
theorem v0j {β γ:Nm} {q m:Nat} (hle:β.le γ) (hq:∀ v,β q=some v→γ m=some v):(β.mv q m).le γ:=fun j v hj=>by
  unfold Nm.mv at hj
  split at hj
  · rename_i e;subst e;exact hq v hj
  · split at hj
    · cases hj
    · exact hle j v hj
theorem HR.mvAll {w0:World} {G0:Mem} {β:Nm} {hp:List Blk} {G:Mem} {w:World} (hr:HR w0 G0 β hp G w) {q m:Nat} (hqm:q≠m) (hle:(β.mv q m).le β):HR w0 G0 β (hp.map (Blk.mv q m)) G w:=by
  refine ⟨hr.below,hr.hold,hr.sub,hr.grow,fun j y hj=>?_,fun i j y y' x x' b hne hi hj hx hx' hl hl' hy=>?_,x2z hr.wrt (fun x S e=>by cases x <;> first |exact e |cases e)⟩
  · obtain ⟨x,h1,h2⟩:=hr.blk j y hj
    refine ⟨x.mv q m,by rw [List.getElem?_map,h1];rfl,?_⟩
    cases x with
    | gone=>trivial
    | muts S=>exact h2.elim
    | cells t l =>
      obtain ⟨b,c,q1,q2,q3,q4,q5⟩:=h2
      exact ⟨b,c,q1,q2,q3,q4,AV.rels_mono hle _ _ (AV.rels_mv hqm _ _ q5)⟩
    | own e sz n xs=>exact h2
    | lp i fr st p =>
      obtain ⟨q1,q2,q3,tm,q4,q5⟩:=h2
      exact ⟨q1,q2,q3,tm,q4,AV.rels_mono hle _ _ (AV.rels_mv hqm _ _ q5)⟩
    | mp f ks vs =>
      obtain ⟨b,ys,q1,q2,q3,q4,q5,q6⟩:=h2
      exact ⟨b,ys,q1,q2,q3,q4,q5,AV.rels_mono hle _ _ (AV.rels_mv hqm _ _ q6)⟩
  · rw [List.getElem?_map] at hx hx'
    cases h1:hp[i]? with
    | none=>rw [h1] at hx;cases hx
    | some z =>
      cases h2:hp[j]? with
      | none=>rw [h2] at hx';cases hx'
      | some z' =>
        rw [h1] at hx;rw [h2] at hx'
        simp only [Option.map_some,Option.some.injEq] at hx hx'
        subst hx;subst hx'
        rw [Blk.mv_live] at hl hl'
        exact hr.inj i j y y' z z' b hne hi hj h1 h2 hl hl' hy
theorem HR.lost {w0:World} {G0:Mem} {β:Nm} {hp:List Blk} {G:Mem} {w:World} (hr:HR w0 G0 β hp G w) {q:Nat} (hq:β q=none) {E:TypeId} {sz n:Nat} {xs:List Value}:HR w0 G0 β (hp.set q .gone++[.own E sz n xs]) G w:=by
  have get:∀ j y,β j=some y→(hp.set q .gone++[.own E sz n xs])[j]? = hp[j]?:=fun j y hj=>by
    obtain ⟨x,h1,_⟩:=hr.blk j y hj
    have hlt:=(List.getElem?_eq_some_iff.1 h1).1
    rw [List.getElem?_append_left (by simpa using hlt),List.getElem?_set_ne (fun e=>by subst e;rw [hq] at hj;cases hj)]
  refine ⟨hr.below,hr.hold,hr.sub,hr.grow,fun j y hj=>?_,fun i j y y' x x' b hne hi hj hx hx' hl hl' hy=>?_,fun k S hk b hb=>?_⟩
  · obtain ⟨x,h1,h2⟩:=hr.blk j y hj
    exact ⟨x,by rw [get j y hj];exact h1,h2⟩
  · rw [get i y hi] at hx;rw [get j y' hj] at hx'
    exact hr.inj i j y y' x x' b hne hi hj hx hx' hl hl' hy
  · rw [List.getElem?_append] at hk
    split at hk
    · rw [List.getElem?_set] at hk
      split at hk
      · split at hk <;> cases hk
      · exact hr.wrt k S hk b hb
    · generalize k-(hp.set q .gone).length=i at hk
      cases i with
      | zero=>cases hk
      | succ i=>cases hk
theorem v2j {n0 q m:Nat} {fr fr':List AV} {hp hp':List Blk} {G G':Mem} {E:TypeId} {sz n:Nat} {xs:List Value} (hm:hp.length=m) (hq:nthB hp q=.own E sz n xs) (h:Le n0 (AV.mvs q m fr) ((mvB q m hp).set q .gone++[.own E sz n xs]) G fr' hp' G'):Le n0 fr hp G fr' hp' G':=by
  have hkx:=q0p hq rfl
  have hql:=(List.getElem?_eq_some_iff.1 hkx).1
  have hqm:q≠m:=by omega
  have hmap:(mvB q m hp).set q .gone++[Blk.own E sz n xs]=(hp.set q .gone++[Blk.own E sz n xs]).map (Blk.mv q m):=by
    rw [q9h,List.map_append,List.map_set];rfl
  rw [hmap] at h
  constructor
  intro w0 G0 β0 β w ys hb hle hr hfr
  have hfm:β m=none:=hr.fresh (Nat.le_of_eq hm)
  cases hβ:β q with
  | none =>
    have hl:(β.mv q m).le β:=v0j (Nm.le_refl _) fun v hv=>by rw [hβ] at hv;cases hv
    exact h.out w0 G0 β0 β w ys hb hle ((hr.lost hβ).mvAll hqm hl) (AV.rels_mono hl _ _ (AV.rels_mv hqm _ _ hfr))
  | some v =>
    obtain ⟨x1,hx1,hx2⟩:=hr.blk q v hβ
    rw [hkx] at hx1;cases hx1
    have hlp:β.le (β.put m v):=Nm.le_put v hfm
    have h1:=hr.moveName hβ hkx rfl (w':=w) ⟨rfl,rfl,rfl,Nat.le_refl _,fun _ _ _=>rfl⟩ (z:=v) (fun b hb=>.inr hb) hm.symm (u:=.own E sz n xs) hx2
    have hl:((β.put m v).mv q m).le (β.put m v):=v0j (Nm.le_refl _) fun u hu=>by
      rw [Nm.put_ne _ _ hqm,hβ] at hu;cases hu;exact Nm.put_same _ _ _
    exact h.out w0 G0 β0 (β.put m v) w ys hb (Nm.le_trans hle hlp) (h1.mvAll hqm hl) (AV.rels_mono hl _ _ (AV.rels_mv hqm _ _ (AV.rels_mono hlp _ _ hfr)))
theorem x7x (q:Nat) {n0:Nat} {fr fr':List AV} {hp hp':List Blk} {G G':Mem} {E:TypeId} {sz n:Nat} {xs:List Value} (hq:nthB hp q=.own E sz n xs)
    (h:lenF hp fun m=>mvsF q m fr fun fr1=>mvBF q m hp fun hp1=>setF hp1 q .gone fun hp2=>catF hp2 [.own E sz n xs] fun hp3=>Le n0 fr1 hp3 G fr' hp' G'):Le n0 fr hp G fr' hp' G':=by
  have h0:=q1i h
  rw [q7o,z3p,q09,q02] at h0
  exact v2j rfl hq h0
end Go.Proofs.YtkicdhaklnmonaaGreat
namespace Go.Proofs.YtkicdhaklnmonaaGreat
open Go.RowKit
theorem MakesX.weaken {P:Program} {f:FuncId} {args:List AV} {G:Mem} {E:TypeId} {sz:Nat} {R R':(AV→AV)→Nat→List Value→Mem→Prop} (hc:MakesX P f args G E sz R) (h:∀ wrap n xs G',R wrap n xs G'→R' wrap n xs G'):MakesX P f args G E sz R':=by
  intro w vs hG ha
  refine (hc w vs hG ha).mono ?_
  rintro e w' ⟨y,s,wrap,n,xs,G',q1,q2,q3,q4,q5,q6,q7,q8,q9,hR⟩
  exact ⟨y,s,wrap,n,xs,G',q1,q2,q3,q4,q5,q6,q7,q8,q9,h _ _ _ _ hR⟩
end Go.Proofs.YtkicdhaklnmonaaGreat
