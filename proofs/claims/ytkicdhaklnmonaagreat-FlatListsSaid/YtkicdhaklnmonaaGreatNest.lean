/-
  list.strip.nested: a group painted over a strip (printed by mknest.py).
-/
import Derived.Test.YtkicdhaklnmonaaGreatMrg29
set_option linter.unusedVariables false
set_option linter.unusedSimpArgs false
set_option linter.unnecessarySimpa false
namespace Go.Proofs.YtkicdhaklnmonaaGreat
open Go.RowKit
set_option maxRecDepth 20000
theorem x7s (n:Nat):(List.replicate n [Value.bool false]).flatten=bsL n fun _=>false:=by
  unfold bsL
  apply List.ext_getElem?
  intro j
  by_cases h:j<n
  · simp [h]
  · rw [List.getElem?_eq_none (by simp;omega),List.getElem?_eq_none (by simp;omega)]
theorem z6s:∀ n:Nat,(List.replicate n (st9 q1z)).flatten=stL n fun _=>q1z
  | 0=>rfl
  | n+1=>by
    rw [List.replicate_succ',List.flatten_append,z6s n,stL];simp
section
variable {I:Nat→ItemD} {f:Nat→SrcF} {R:Nat→List Run} {F:Mem} {y x0 x1:Int} {n:Nat}
set_option maxHeartbeats 16000000 in
theorem x5c {i b:Nat} {mv:Value} {A:Option Addr} {c m0:Nat} {ms:List Tr} (h0:0<n) (hx:x1=x0+n) (hx0:-8192≤x0∧x0+n≤8192) (hy:-8192≤y∧y<8192) (hb:F b=some (.cells ((I i).cells++[.int .i64 i,mv,.slice A m0 c]).toArray q1j (0,0))) (hm:IsMix F mv (I i).bl) (hg:GrOk I i)
    (hcov:∀ m:Nat→Bool,Mends Tryz.prog 113 [q1s y x0 x1,.val (.iface q1p (ptrV b)),.own 0] F 4 1 n (bsL n m) (bsL n fun j=>m j||covT (q0u I f R (x0+(j:Int)) y) (.group i ms)))
    (hpnt:∀ S:Nat→St,(∀ j,j<n→q0z (S j))→Mends Tryz.prog 62 [q1s y x0 x1,.val (ptrV b),.own 0] F 117 9 n (stL n S) (stL n fun (j:Nat)=>evL (q0u I f R (x0+(j:Int)) y) (I i).kn (S j) ms (S j)))
    (hev:∀ S:Nat→St,(∀ j,j<n→q0z (S j))→∀ j,j<n→q0z (evL (q0u I f R (x0+(j:Int)) y) (I i).kn (S j) ms (S j))) {S:Nat→St} (hS:∀ j,j<n→q0z (S j)) :
    Mends Tryz.prog 89 [q1s y x0 x1,.val (ptrV b),.own 0,.own 0] F 117 9 n (stL n S) (stL n (memS I f R y x0 (.group i ms) S S)):=by
  obtain ⟨hal,hbl⟩:=hg
  refine q7w tab_ok Tryz.func89 fun G hG=>?_
  have hmv:=hm.mono hG
  have hb:=hG _ _ hb
  obtain ⟨mp,mp2,rfl,_,_⟩:=hm
  have c29:G.cell? ⟨b,29,none⟩=some (.int .u8 (I i).al):=by
    unfold Mem.cell?;simp only [hb];rfl
  have c32:G.cell? ⟨b,32,none⟩=some (.bool (I i).iso):=by
    unfold Mem.cell?;simp only [hb];rfl
  have c35:G.cell? ⟨b,35,none⟩=some (.func (.func 109) #[] #[.pointer (some ⟨mp,0,none⟩)]):=by
    unfold Mem.cell?;simp only [hb];rfl
  have hn2:n≤16384:=by omega
  have hco:=(hcov fun _=>false).mono hG
  rw [show (fun (j:Nat)=>false||covT (q0u I f R (x0+(j:Int)) y) (.group i ms))=fun (j:Nat)=>covT (q0u I f R (x0+(j:Int)) y) (.group i ms) from funext fun j=>Bool.false_or _] at hco
  (repeat ((try (conv=>whnf));(refine stQ ?_)))
  conv=>whnf
  refine q2u [q1s y x0 x1,.val (.iface q1p (ptrV b)),.own 0] 2 2 (fun vs w=>by kernel_rfl) rfl rfl (by rfl) (show Blk.own _ _ _ (List.replicate n [Value.bool false]).flatten=_ by rw [x7s];rfl) hco ?_
  conv=>whnf
  (repeat ((try (conv=>whnf));(refine stQ ?_)))
  conv=>whnf
  refine z6r (fun vs w=>by kernel_rfl) rfl (by rfl) (fun A' cap G' hle h1 h2 hR=>z0h hR (by omega)) ?_
  conv=>whnf
  have hms:∀ j:Nat,memS I f R y x0 (.group i ms) S S j=if covT (q0u I f R (x0+(j:Int)) y) (.group i ms)=true then evT (q0u I f R (x0+(j:Int)) y) (.group i ms) (S j) else S j:=fun j=>rfl
  by_cases hany:anyB n (fun (j:Nat)=>covT (q0u I f R (x0+(j:Int)) y) (.group i ms))=true
  · have key:∀ (E:Nat→St),(∀ j,j<n→q0z (E j))→(∀ j:Nat,E j=evL (q0u I f R (x0+(j:Int)) y) (I i).kn (if (I i).iso=true then q1z else S j) ms (if (I i).iso=true then q1z else S j))→∀ j:Nat,evT (q0u I f R (x0+(j:Int)) y) (.group i ms) (S j)=grpS (I i).iso (I i).bl (I i).al (S j) (E j):=fun E _ hE j=>by
      rw [evT,hE];rfl
    cases hiso:(I i).iso with
    | false =>
      rw [hiso] at c32 key
      simp only [Bool.false_eq_true,if_false] at key
      have hpn:=(hpnt S hS).mono hG
      have hEb:=hev S hS
      obtain ⟨E,hE⟩:∃ E:Nat→St,E=fun (j:Nat)=>evL (q0u I f R (x0+(j:Int)) y) (I i).kn (S j) ms (S j):=⟨_,rfl⟩
      have hEj:∀ j:Nat,E j=evL (q0u I f R (x0+(j:Int)) y) (I i).kn (S j) ms (S j):=fun j=>by rw [hE]
      rw [← hE] at hpn
      have hEb:∀ j,j<n→q0z (E j):=fun j hj=>by rw [hEj];exact hEb j hj
      have hkey:=key E hEb hEj
      clear hE key
      (repeat ((try (conv=>whnf));(first |(refine q0b _ c32 ?_) |(refine stQ ?_))))
      conv=>whnf
      refine x2q tab_ok 3 0 (by exact rfl) (by exact rfl) rfl rfl h0 z7m ?_
      conv=>whnf
      (repeat ((try (conv=>whnf));(refine stQ ?_)))
      conv=>whnf
      refine q2u [q1s y x0 x1,.val (ptrV b),.own 0] 2 3 (fun vs w=>by kernel_rfl) rfl rfl (by rfl) rfl hpn ?_
      conv=>whnf
      (repeat ((try (conv=>whnf));(refine stQ ?_)))
      conv=>whnf
      refine q0w tab_ok (fun k=>k≤n) (fun (k:Nat)=>[(43,.val (.int .i64 k))]) (fun k=>[.own 117 9 n (stL n (fun j=>if j<k then memS I f R y x0 (.group i ms) S S j else S j)),.cells 120 [.val (.int .i64 y),.val (.int .i64 x0),.val (.int .i64 x1)],.own 4 1 n (bsL n fun (j:Nat)=>covT (q0u I f R (x0+(j:Int)) y) (.group i ms)),.own 117 9 n (stL n E)]) (fun k=>n-k) 0 (Nat.zero_le _) ?_ ?_
      · ((refine q0g ?_);(conv=>whnf);(refine q0k (by rfl) (by rfl) flQ ?_))
        exact q0c rfl (q0v fun j _=>by simp) (q0a (by exact flQ) (q0c rfl rfl (q0c rfl rfl q0f)))
      · intro k hk
        rcases Nat.lt_or_ge k n with h2 |h2
        · have hmk:(bsL n fun (j:Nat)=>covT (q0u I f R (x0+(j:Int)) y) (.group i ms))[k*1]? = some (.bool (covT (q0u I f R (x0+(k:Int)) y) (.group i ms))):=by rw [Nat.mul_one];exact q62 h2
          generalize hcur:(fun j=>if j<k then memS I f R y x0 (.group i ms) S S j else S j)=cur
          have hcj:cur k=S k:=by rw [← hcur];simp
          have hrowU:∀ (o:Nat) v,(st9 (S k))[o]? = some v→(stL n cur)[k*9+o]? = some v:=fun o v hv=>by
            have ho:o<9:=by have:=(List.getElem?_eq_some_iff.1 hv).1;simpa [st9] using this
            rw [q3b h2 ho,hcj];exact hv
          have hrowE:∀ (o:Nat) v,(st9 (E k))[o]? = some v→(stL n E)[k*9+o]? = some v:=fun o v hv=>by
            have ho:o<9:=by have:=(List.getElem?_eq_some_iff.1 hv).1;simpa [st9] using this
            rw [q3b h2 ho];exact hv
          have hmsk:=hms k
          rw [hkey k] at hmsk
          cases hck:covT (q0u I f R (x0+(k:Int)) y) (.group i ms) with
          | true =>
            rw [hck] at hmk hmsk
            have hbt:=z15 (G:=G) (hS k h2) (hEb k h2) hal
            simp only [grpS,if_true] at hmsk
            rw [← hmsk] at hbt
            (repeat ((try (conv=>whnf));(first |(refine q0l _ hmk ?_) |(refine q0b _ c32 ?_) |(refine q0b _ c29 ?_) |(refine q08 (st9 (S k)) rfl hrowU ?_) |(refine q08 (st9 (E k)) rfl hrowE ?_) |(refine stQ ?_) |(with_reducible first |refine q0e (fun vs w=>by kernel_rfl) (by kernel_rfl) (hbt) ?_ |refine q0d (fun vs w=>by kernel_rfl) (by kernel_rfl) (hbt) ?_))))
            conv=>whnf
            have hon:k*9+9≤n*9:=by omega
            refine mustP.mk (by rw [q15];exact hon) ?_
            (repeat ((try (conv=>whnf));(refine stQ ?_)))
            conv=>whnf
            refine ⟨k+1,by omega,by omega,?_⟩
            ((refine q0g ?_);(conv=>whnf);(refine q0k (by rfl) (by rfl) flQ ?_))
            refine q0c rfl (Eq.trans (b:=(stL n cur).take (k*9)++st9 (memS I f R y x0 (.group i ms) S S k)++(stL n cur).drop (k*9+9)) rfl ?_) (q0a (by exact flQ) (q0c rfl rfl (q0c rfl rfl q0f)))
            rw [q4x h2]
            refine q0v fun l hl=>?_
            rw [← hcur]
            dsimp only
            by_cases hlk:l=k
            · subst hlk
              rw [if_pos rfl,if_pos (by omega)]
            · rw [if_neg hlk]
              by_cases h8:l<k
              · rw [if_pos h8,if_pos (by omega)]
              · rw [if_neg h8,if_neg (by omega)]
          | false =>
            rw [hck] at hmk hmsk
            (repeat ((try (conv=>whnf));(first |(refine q0l _ hmk ?_) |(refine stQ ?_))))
            conv=>whnf
            refine ⟨k+1,by omega,by omega,?_⟩
            ((refine q0g ?_);(conv=>whnf);(refine q0k (by rfl) (by rfl) flQ ?_))
            refine q0c rfl (q0v fun l hl=>?_) (q0a (by exact flQ) (q0c rfl rfl (q0c rfl rfl q0f)))
            rw [← hcur]
            dsimp only
            by_cases hlk:l=k
            · subst hlk
              rw [if_neg (by omega),if_pos (by omega),hmsk];simp
            · by_cases h8:l<k
              · rw [if_pos h8,if_pos (by omega)]
              · rw [if_neg h8,if_neg (by omega)]
        · obtain rfl:k=n:=by omega
          (repeat ((try (conv=>whnf));(refine stQ ?_)))
          conv=>whnf
          show Blk.own _ _ _ _=_
          rw [q0v (T:=memS I f R y x0 (.group i ms) S S) fun j hj=>by rw [if_pos hj]]
    | true =>
      rw [hiso] at c32 key
      simp only [if_true] at key
      have hpn:=(hpnt (fun _=>q1z) (fun _ _=>q9u)).mono hG
      have hEb:=hev (fun _=>q1z) (fun _ _=>q9u)
      obtain ⟨E,hE⟩:∃ E:Nat→St,E=fun (j:Nat)=>evL (q0u I f R (x0+(j:Int)) y) (I i).kn q1z ms q1z:=⟨_,rfl⟩
      have hEj:∀ j:Nat,E j=evL (q0u I f R (x0+(j:Int)) y) (I i).kn q1z ms q1z:=fun j=>by rw [hE]
      rw [← hE] at hpn
      have hEb:∀ j,j<n→q0z (E j):=fun j hj=>by rw [hEj];exact hEb j hj
      have hkey:=key E hEb hEj
      clear hE key
      (repeat ((try (conv=>whnf));(first |(refine q0b _ c32 ?_) |(refine stQ ?_))))
      conv=>whnf
      refine q2u [q1s y x0 x1,.val (ptrV b),.own 0] 2 3 (fun vs w=>by kernel_rfl) rfl rfl (by rfl) (show Blk.own _ _ _ (List.replicate n (st9 q1z)).flatten=_ by rw [z6s];rfl) hpn ?_
      conv=>whnf
      (repeat ((try (conv=>whnf));(refine stQ ?_)))
      conv=>whnf
      refine q0w tab_ok (fun k=>k≤n) (fun (k:Nat)=>[(43,.val (.int .i64 k))]) (fun k=>[.own 117 9 n (stL n (fun j=>if j<k then memS I f R y x0 (.group i ms) S S j else S j)),.cells 120 [.val (.int .i64 y),.val (.int .i64 x0),.val (.int .i64 x1)],.own 4 1 n (bsL n fun (j:Nat)=>covT (q0u I f R (x0+(j:Int)) y) (.group i ms)),.own 117 9 n (stL n E)]) (fun k=>n-k) 0 (Nat.zero_le _) ?_ ?_
      · ((refine q0g ?_);(conv=>whnf);(refine q0k (by rfl) (by rfl) flQ ?_))
        exact q0c rfl (q0v fun j _=>by simp) (q0a (by exact flQ) (q0c rfl rfl (q0c rfl rfl q0f)))
      · intro k hk
        rcases Nat.lt_or_ge k n with h2 |h2
        · have hmk:(bsL n fun (j:Nat)=>covT (q0u I f R (x0+(j:Int)) y) (.group i ms))[k*1]? = some (.bool (covT (q0u I f R (x0+(k:Int)) y) (.group i ms))):=by rw [Nat.mul_one];exact q62 h2
          generalize hcur:(fun j=>if j<k then memS I f R y x0 (.group i ms) S S j else S j)=cur
          have hcj:cur k=S k:=by rw [← hcur];simp
          have hrowU:∀ (o:Nat) v,(st9 (S k))[o]? = some v→(stL n cur)[k*9+o]? = some v:=fun o v hv=>by
            have ho:o<9:=by have:=(List.getElem?_eq_some_iff.1 hv).1;simpa [st9] using this
            rw [q3b h2 ho,hcj];exact hv
          have hrowE:∀ (o:Nat) v,(st9 (E k))[o]? = some v→(stL n E)[k*9+o]? = some v:=fun o v hv=>by
            have ho:o<9:=by have:=(List.getElem?_eq_some_iff.1 hv).1;simpa [st9] using this
            rw [q3b h2 ho];exact hv
          have hE0:(stL n E)[k*9+0]? = some (.int .u8 (E k 0)):=hrowE 0 _ rfl
          have hE1:∀ (o:Nat) v,[Value.int .u8 (E k 1),.int .u8 (E k 2),.int .u8 (E k 3),.int .u8 (E k 4),.int .u8 (E k 5),.int .u8 (E k 6),.int .u8 (E k 7),.int .u8 (E k 8)][o]? = some v→(stL n E)[k*9+1+o]? = some v:=fun o v hv=>by
            rw [Nat.add_assoc,Nat.add_comm 1 o];exact hrowE (o+1) v hv
          have hmsk:=hms k
          rw [hkey k] at hmsk
          cases hck:covT (q0u I f R (x0+(k:Int)) y) (.group i ms) with
          | true =>
            rw [hck] at hmk hmsk
            simp only [grpS,if_true,Bool.true_eq_false,if_false] at hmsk
            have hmul:=q7j (G:=G) (hEb k h2 0 (by omega)) hal
            have hqb:=z33 (hEb k h2 0 (by omega)) hal
            have hEk:=hEb k h2
            generalize qE (E k 0) (I i).al=q at *
            by_cases hq0:q=0
            · rw [if_pos hq0] at hmsk
              have hpg:=q3w (ov:=false) (I:=fun _=>0) hmv hbl (hS k h2) (fun _ _=>⟨Int.le_refl _,show (0:Int)≤255 by omega⟩) hqb
              rw [← hmsk] at hpg
              (repeat ((try (conv=>whnf));(first |(refine q0l _ hmk ?_) |(refine q0l _ hE0 ?_) |(refine q08 [Value.int .u8 (E k 1),.int .u8 (E k 2),.int .u8 (E k 3),.int .u8 (E k 4),.int .u8 (E k 5),.int .u8 (E k 6),.int .u8 (E k 7),.int .u8 (E k 8)] rfl hE1 ?_) |(refine q0b _ c32 ?_) |(refine q0b _ c29 ?_) |(refine q0b _ c35 ?_) |(refine q08 (st9 (S k)) rfl hrowU ?_) |(refine s3Q ?_) |(with_reducible first |refine q0e (fun vs w=>by kernel_rfl) (by kernel_rfl) (hmul) ?_ |refine q0d (fun vs w=>by kernel_rfl) (by kernel_rfl) (hmul) ?_ |refine q0e (fun vs w=>by kernel_rfl) (by kernel_rfl) (hpg) ?_ |refine q0d (fun vs w=>by kernel_rfl) (by kernel_rfl) (hpg) ?_))))
              conv=>whnf
              have hon:k*9+9≤n*9:=by omega
              refine mustP.mk (by rw [q15];exact hon) ?_
              (repeat ((try (conv=>whnf));(refine stQ ?_)))
              conv=>whnf
              refine ⟨k+1,by omega,by omega,?_⟩
              ((refine q0g ?_);(conv=>whnf);(refine q0k (by rfl) (by rfl) flQ ?_))
              refine q0c rfl (Eq.trans (b:=(stL n cur).take (k*9)++st9 (memS I f R y x0 (.group i ms) S S k)++(stL n cur).drop (k*9+9)) rfl ?_) (q0a (by exact flQ) (q0c rfl rfl (q0c rfl rfl q0f)))
              rw [q4x h2]
              refine q0v fun l hl=>?_
              rw [← hcur]
              dsimp only
              by_cases hlk:l=k
              · subst hlk
                rw [if_pos rfl,if_pos (by omega)]
              · rw [if_neg hlk]
                by_cases h8:l<k
                · rw [if_pos h8,if_pos (by omega)]
                · rw [if_neg h8,if_neg (by omega)]
            · rw [if_neg hq0] at hmsk
              have hpg:=q3w (ov:=false) (I:=inkI (E k)) hmv hbl (hS k h2) (z7n hEk) hqb
              rw [← hmsk] at hpg
              change Gives _ _ [_,.agg [.val (.int .u8 (E k 1)),.val (.int .u8 (E k 2)),.val (.int .u8 (E k 3)),.val (.int .u8 (E k 4)),.val (.int .u8 (E k 5)),.val (.int .u8 (E k 6)),.val (.int .u8 (E k 7)),.val (.int .u8 (E k 8))],_,_,_] _ _ at hpg
              (repeat ((try (conv=>whnf));(first |(refine q0l _ hmk ?_) |(refine q0l _ hE0 ?_) |(refine q08 [Value.int .u8 (E k 1),.int .u8 (E k 2),.int .u8 (E k 3),.int .u8 (E k 4),.int .u8 (E k 5),.int .u8 (E k 6),.int .u8 (E k 7),.int .u8 (E k 8)] rfl hE1 ?_) |(refine q0b _ c32 ?_) |(refine q0b _ c29 ?_) |(refine q0b _ c35 ?_) |(refine q08 (st9 (S k)) rfl hrowU ?_) |(refine s3Q ?_) |(with_reducible first |refine q0e (fun vs w=>by kernel_rfl) (by kernel_rfl) (hmul) ?_ |refine q0d (fun vs w=>by kernel_rfl) (by kernel_rfl) (hmul) ?_ |refine q0e (fun vs w=>by kernel_rfl) (by kernel_rfl) (hpg) ?_ |refine q0d (fun vs w=>by kernel_rfl) (by kernel_rfl) (hpg) ?_))))
              conv=>whnf
              have hon:k*9+9≤n*9:=by omega
              refine mustP.mk (by rw [q15];exact hon) ?_
              (repeat ((try (conv=>whnf));(refine stQ ?_)))
              conv=>whnf
              refine ⟨k+1,by omega,by omega,?_⟩
              ((refine q0g ?_);(conv=>whnf);(refine q0k (by rfl) (by rfl) flQ ?_))
              refine q0c rfl (Eq.trans (b:=(stL n cur).take (k*9)++st9 (memS I f R y x0 (.group i ms) S S k)++(stL n cur).drop (k*9+9)) rfl ?_) (q0a (by exact flQ) (q0c rfl rfl (q0c rfl rfl q0f)))
              rw [q4x h2]
              refine q0v fun l hl=>?_
              rw [← hcur]
              dsimp only
              by_cases hlk:l=k
              · subst hlk
                rw [if_pos rfl,if_pos (by omega)]
              · rw [if_neg hlk]
                by_cases h8:l<k
                · rw [if_pos h8,if_pos (by omega)]
                · rw [if_neg h8,if_neg (by omega)]
          | false =>
            rw [hck] at hmk hmsk
            (repeat ((try (conv=>whnf));(first |(refine q0l _ hmk ?_) |(refine stQ ?_))))
            conv=>whnf
            refine ⟨k+1,by omega,by omega,?_⟩
            ((refine q0g ?_);(conv=>whnf);(refine q0k (by rfl) (by rfl) flQ ?_))
            refine q0c rfl (q0v fun l hl=>?_) (q0a (by exact flQ) (q0c rfl rfl (q0c rfl rfl q0f)))
            rw [← hcur]
            dsimp only
            by_cases hlk:l=k
            · subst hlk
              rw [if_neg (by omega),if_pos (by omega),hmsk];simp
            · by_cases h8:l<k
              · rw [if_pos h8,if_pos (by omega)]
              · rw [if_neg h8,if_neg (by omega)]
        · obtain rfl:k=n:=by omega
          (repeat ((try (conv=>whnf));(refine stQ ?_)))
          conv=>whnf
          show Blk.own _ _ _ _=_
          rw [q0v (T:=memS I f R y x0 (.group i ms) S S) fun j hj=>by rw [if_pos hj]]
  · have hany:anyB n (fun (j:Nat)=>covT (q0u I f R (x0+(j:Int)) y) (.group i ms))=false:=by simpa using hany
    rw [hany]
    (repeat ((try (conv=>whnf));(refine stQ ?_)))
    conv=>whnf
    show Blk.own _ _ _ _=_
    rw [q0v (S:=S) (T:=memS I f R y x0 (.group i ms) S S) fun j hj=>by
      rw [hms j]
      have:covT (q0u I f R (x0+(j:Int)) y) (.group i ms)=false:=by
        cases hcc:covT (q0u I f R (x0+(j:Int)) y) (.group i ms) with
        | false=>rfl
        | true=>rw [z47 hj hcc] at hany;cases hany
      rw [this];simp]
set_option maxHeartbeats 16000000 in
theorem x5d {i b:Nat} {mv:Value} {A:Option Addr} {c m0:Nat} {ms:List Tr} (h0:0<n) (hx:x1=x0+n) (hx0:-8192≤x0∧x0+n≤8192) (hy:-8192≤y∧y<8192) (hb:F b=some (.cells ((I i).cells++[.int .i64 i,mv,.slice A m0 c]).toArray q1j (0,0))) (hm:IsMix F mv (I i).bl) (hg:GrOk I i)
    (hcov:∀ m:Nat→Bool,Mends Tryz.prog 113 [q1s y x0 x1,.val (.iface q1p (ptrV b)),.own 0] F 4 1 n (bsL n m) (bsL n fun j=>m j||covT (q0u I f R (x0+(j:Int)) y) (.group i ms)))
    (hpnt:∀ S:Nat→St,(∀ j,j<n→q0z (S j))→Mends Tryz.prog 62 [q1s y x0 x1,.val (ptrV b),.own 0] F 117 9 n (stL n S) (stL n fun (j:Nat)=>evL (q0u I f R (x0+(j:Int)) y) (I i).kn (S j) ms (S j)))
    (hev:∀ S:Nat→St,(∀ j,j<n→q0z (S j))→∀ j,j<n→q0z (evL (q0u I f R (x0+(j:Int)) y) (I i).kn (S j) ms (S j))) {S:Nat→St} (hS:∀ j,j<n→q0z (S j)) {B:Nat→St} (hB:∀ j,j<n→q0z (B j)) {BA:Option Addr} {bc:Nat} (hbc:n≤bc∧bc≤maxLen) (hBF:FlatM F BA (stL n B)) :
    Mends Tryz.prog 89 [q1s y x0 x1,.val (ptrV b),.val (.slice BA n bc),.own 0] F 117 9 n (stL n S) (stL n (memS I f R y x0 (.group i ms) B S)):=by
  obtain ⟨hal,hbl⟩:=hg
  refine q7w tab_ok Tryz.func89 fun G hG=>?_
  have hmv:=hm.mono hG
  have hb:=hG _ _ hb
  obtain ⟨mp,mp2,rfl,_,_⟩:=hm
  have c29:G.cell? ⟨b,29,none⟩=some (.int .u8 (I i).al):=by
    unfold Mem.cell?;simp only [hb];rfl
  have c32:G.cell? ⟨b,32,none⟩=some (.bool (I i).iso):=by
    unfold Mem.cell?;simp only [hb];rfl
  have c35:G.cell? ⟨b,35,none⟩=some (.func (.func 109) #[] #[.pointer (some ⟨mp,0,none⟩)]):=by
    unfold Mem.cell?;simp only [hb];rfl
  have hn2:n≤16384:=by omega
  have hco:=(hcov fun _=>false).mono hG
  rw [show (fun (j:Nat)=>false||covT (q0u I f R (x0+(j:Int)) y) (.group i ms))=fun (j:Nat)=>covT (q0u I f R (x0+(j:Int)) y) (.group i ms) from funext fun j=>Bool.false_or _] at hco
  have hBF:=hBF.mono hG
  obtain ⟨bb,bo,hBA,hBc⟩:∃ b o,BA=some ⟨b,o,none⟩∧∀ (j:Nat) u,(stL n B)[j]? = some u→G.cell? ⟨b,o+j,none⟩=some u:=by
    rcases hBF with ⟨_,h9⟩ |h9
    · have:=q15 n B;rw [h9] at this;simp at this;omega
    · exact h9
  subst hBA
  (repeat ((try (conv=>whnf));(refine stQ ?_)))
  conv=>whnf
  refine q2u [q1s y x0 x1,.val (.iface q1p (ptrV b)),.own 0] 2 2 (fun vs w=>by kernel_rfl) rfl rfl (by rfl) (show Blk.own _ _ _ (List.replicate n [Value.bool false]).flatten=_ by rw [x7s];rfl) hco ?_
  conv=>whnf
  (repeat ((try (conv=>whnf));(refine stQ ?_)))
  conv=>whnf
  refine z6r (fun vs w=>by kernel_rfl) rfl (by rfl) (fun A' cap G' hle h1 h2 hR=>z0h hR (by omega)) ?_
  conv=>whnf
  have hms:∀ j:Nat,memS I f R y x0 (.group i ms) B S j=if covT (q0u I f R (x0+(j:Int)) y) (.group i ms)=true then evT (q0u I f R (x0+(j:Int)) y) (.group i ms) (B j) else S j:=fun j=>rfl
  by_cases hany:anyB n (fun (j:Nat)=>covT (q0u I f R (x0+(j:Int)) y) (.group i ms))=true
  · have key:∀ (E:Nat→St),(∀ j,j<n→q0z (E j))→(∀ j:Nat,E j=evL (q0u I f R (x0+(j:Int)) y) (I i).kn (if (I i).iso=true then q1z else B j) ms (if (I i).iso=true then q1z else B j))→∀ j:Nat,evT (q0u I f R (x0+(j:Int)) y) (.group i ms) (B j)=grpS (I i).iso (I i).bl (I i).al (B j) (E j):=fun E _ hE j=>by
      rw [evT,hE];rfl
    cases hiso:(I i).iso with
    | false =>
      rw [hiso] at c32 key
      simp only [Bool.false_eq_true,if_false] at key
      have hpn:=(hpnt B hB).mono hG
      have hEb:=hev B hB
      obtain ⟨E,hE⟩:∃ E:Nat→St,E=fun (j:Nat)=>evL (q0u I f R (x0+(j:Int)) y) (I i).kn (B j) ms (B j):=⟨_,rfl⟩
      have hEj:∀ j:Nat,E j=evL (q0u I f R (x0+(j:Int)) y) (I i).kn (B j) ms (B j):=fun j=>by rw [hE]
      rw [← hE] at hpn
      have hEb:∀ j,j<n→q0z (E j):=fun j hj=>by rw [hEj];exact hEb j hj
      have hkey:=key E hEb hEj
      clear hE key
      (repeat ((try (conv=>whnf));(first |(refine q0b _ c32 ?_) |(refine stQ ?_))))
      conv=>whnf
      refine x2r tab_ok 3 (by exact rfl) (by exact rfl) rfl hBF (q15 n B) (show 0<9 by omega) h0 z7m ?_
      conv=>whnf
      (repeat ((try (conv=>whnf));(refine stQ ?_)))
      conv=>whnf
      refine q2u [q1s y x0 x1,.val (ptrV b),.own 0] 2 3 (fun vs w=>by kernel_rfl) rfl rfl (by rfl) rfl hpn ?_
      conv=>whnf
      (repeat ((try (conv=>whnf));(refine stQ ?_)))
      conv=>whnf
      refine q0w tab_ok (fun k=>k≤n) (fun (k:Nat)=>[(43,.val (.int .i64 k))]) (fun k=>[.own 117 9 n (stL n (fun j=>if j<k then memS I f R y x0 (.group i ms) B S j else S j)),.cells 120 [.val (.int .i64 y),.val (.int .i64 x0),.val (.int .i64 x1)],.own 4 1 n (bsL n fun (j:Nat)=>covT (q0u I f R (x0+(j:Int)) y) (.group i ms)),.own 117 9 n (stL n E)]) (fun k=>n-k) 0 (Nat.zero_le _) ?_ ?_
      · ((refine q0g ?_);(conv=>whnf);(refine q0k (by rfl) (by rfl) flQ ?_))
        exact q0c rfl (q0v fun j _=>by simp) (q0a (by exact flQ) (q0c rfl rfl (q0c rfl rfl q0f)))
      · intro k hk
        rcases Nat.lt_or_ge k n with h2 |h2
        · have hmk:(bsL n fun (j:Nat)=>covT (q0u I f R (x0+(j:Int)) y) (.group i ms))[k*1]? = some (.bool (covT (q0u I f R (x0+(k:Int)) y) (.group i ms))):=by rw [Nat.mul_one];exact q62 h2
          generalize hcur:(fun j=>if j<k then memS I f R y x0 (.group i ms) B S j else S j)=cur
          have hcj:cur k=S k:=by rw [← hcur];simp
          have hrowU:G.cellsAt (Addr.add ⟨bb,bo,none⟩ (k*9)) (st9 (B k)):=fun o v hv=>by
            have ho:o<9:=by have:=(List.getElem?_eq_some_iff.1 hv).1;simpa [st9] using this
            rw [q0m,q0m,Nat.add_assoc]
            exact hBc _ _ (by rw [q3b h2 ho];exact hv)
          have hrowE:∀ (o:Nat) v,(st9 (E k))[o]? = some v→(stL n E)[k*9+o]? = some v:=fun o v hv=>by
            have ho:o<9:=by have:=(List.getElem?_eq_some_iff.1 hv).1;simpa [st9] using this
            rw [q3b h2 ho];exact hv
          have hmsk:=hms k
          rw [hkey k] at hmsk
          cases hck:covT (q0u I f R (x0+(k:Int)) y) (.group i ms) with
          | true =>
            rw [hck] at hmk hmsk
            have hbt:=z15 (G:=G) (hB k h2) (hEb k h2) hal
            simp only [grpS,if_true] at hmsk
            rw [← hmsk] at hbt
            (repeat ((try (conv=>whnf));(first |(refine q0l _ hmk ?_) |(refine q0b _ c32 ?_) |(refine q0b _ c29 ?_) |(refine q10 (st9 (B k)) rfl hrowU ?_) |(refine q08 (st9 (E k)) rfl hrowE ?_) |(refine stQ ?_) |(with_reducible first |refine q0e (fun vs w=>by kernel_rfl) (by kernel_rfl) (hbt) ?_ |refine q0d (fun vs w=>by kernel_rfl) (by kernel_rfl) (hbt) ?_))))
            conv=>whnf
            have hon:k*9+9≤n*9:=by omega
            refine mustP.mk (by rw [q15];exact hon) ?_
            (repeat ((try (conv=>whnf));(refine stQ ?_)))
            conv=>whnf
            refine ⟨k+1,by omega,by omega,?_⟩
            ((refine q0g ?_);(conv=>whnf);(refine q0k (by rfl) (by rfl) flQ ?_))
            refine q0c rfl (Eq.trans (b:=(stL n cur).take (k*9)++st9 (memS I f R y x0 (.group i ms) B S k)++(stL n cur).drop (k*9+9)) rfl ?_) (q0a (by exact flQ) (q0c rfl rfl (q0c rfl rfl q0f)))
            rw [q4x h2]
            refine q0v fun l hl=>?_
            rw [← hcur]
            dsimp only
            by_cases hlk:l=k
            · subst hlk
              rw [if_pos rfl,if_pos (by omega)]
            · rw [if_neg hlk]
              by_cases h8:l<k
              · rw [if_pos h8,if_pos (by omega)]
              · rw [if_neg h8,if_neg (by omega)]
          | false =>
            rw [hck] at hmk hmsk
            (repeat ((try (conv=>whnf));(first |(refine q0l _ hmk ?_) |(refine stQ ?_))))
            conv=>whnf
            refine ⟨k+1,by omega,by omega,?_⟩
            ((refine q0g ?_);(conv=>whnf);(refine q0k (by rfl) (by rfl) flQ ?_))
            refine q0c rfl (q0v fun l hl=>?_) (q0a (by exact flQ) (q0c rfl rfl (q0c rfl rfl q0f)))
            rw [← hcur]
            dsimp only
            by_cases hlk:l=k
            · subst hlk
              rw [if_neg (by omega),if_pos (by omega),hmsk];simp
            · by_cases h8:l<k
              · rw [if_pos h8,if_pos (by omega)]
              · rw [if_neg h8,if_neg (by omega)]
        · obtain rfl:k=n:=by omega
          (repeat ((try (conv=>whnf));(refine stQ ?_)))
          conv=>whnf
          show Blk.own _ _ _ _=_
          rw [q0v (T:=memS I f R y x0 (.group i ms) B S) fun j hj=>by rw [if_pos hj]]
    | true =>
      rw [hiso] at c32 key
      simp only [if_true] at key
      have hpn:=(hpnt (fun _=>q1z) (fun _ _=>q9u)).mono hG
      have hEb:=hev (fun _=>q1z) (fun _ _=>q9u)
      obtain ⟨E,hE⟩:∃ E:Nat→St,E=fun (j:Nat)=>evL (q0u I f R (x0+(j:Int)) y) (I i).kn q1z ms q1z:=⟨_,rfl⟩
      have hEj:∀ j:Nat,E j=evL (q0u I f R (x0+(j:Int)) y) (I i).kn q1z ms q1z:=fun j=>by rw [hE]
      rw [← hE] at hpn
      have hEb:∀ j,j<n→q0z (E j):=fun j hj=>by rw [hEj];exact hEb j hj
      have hkey:=key E hEb hEj
      clear hE key
      (repeat ((try (conv=>whnf));(first |(refine q0b _ c32 ?_) |(refine stQ ?_))))
      conv=>whnf
      refine q2u [q1s y x0 x1,.val (ptrV b),.own 0] 2 3 (fun vs w=>by kernel_rfl) rfl rfl (by rfl) (show Blk.own _ _ _ (List.replicate n (st9 q1z)).flatten=_ by rw [z6s];rfl) hpn ?_
      conv=>whnf
      (repeat ((try (conv=>whnf));(refine stQ ?_)))
      conv=>whnf
      refine q0w tab_ok (fun k=>k≤n) (fun (k:Nat)=>[(43,.val (.int .i64 k))]) (fun k=>[.own 117 9 n (stL n (fun j=>if j<k then memS I f R y x0 (.group i ms) B S j else S j)),.cells 120 [.val (.int .i64 y),.val (.int .i64 x0),.val (.int .i64 x1)],.own 4 1 n (bsL n fun (j:Nat)=>covT (q0u I f R (x0+(j:Int)) y) (.group i ms)),.own 117 9 n (stL n E)]) (fun k=>n-k) 0 (Nat.zero_le _) ?_ ?_
      · ((refine q0g ?_);(conv=>whnf);(refine q0k (by rfl) (by rfl) flQ ?_))
        exact q0c rfl (q0v fun j _=>by simp) (q0a (by exact flQ) (q0c rfl rfl (q0c rfl rfl q0f)))
      · intro k hk
        rcases Nat.lt_or_ge k n with h2 |h2
        · have hmk:(bsL n fun (j:Nat)=>covT (q0u I f R (x0+(j:Int)) y) (.group i ms))[k*1]? = some (.bool (covT (q0u I f R (x0+(k:Int)) y) (.group i ms))):=by rw [Nat.mul_one];exact q62 h2
          generalize hcur:(fun j=>if j<k then memS I f R y x0 (.group i ms) B S j else S j)=cur
          have hcj:cur k=S k:=by rw [← hcur];simp
          have hrowU:G.cellsAt (Addr.add ⟨bb,bo,none⟩ (k*9)) (st9 (B k)):=fun o v hv=>by
            have ho:o<9:=by have:=(List.getElem?_eq_some_iff.1 hv).1;simpa [st9] using this
            rw [q0m,q0m,Nat.add_assoc]
            exact hBc _ _ (by rw [q3b h2 ho];exact hv)
          have hrowE:∀ (o:Nat) v,(st9 (E k))[o]? = some v→(stL n E)[k*9+o]? = some v:=fun o v hv=>by
            have ho:o<9:=by have:=(List.getElem?_eq_some_iff.1 hv).1;simpa [st9] using this
            rw [q3b h2 ho];exact hv
          have hE0:(stL n E)[k*9+0]? = some (.int .u8 (E k 0)):=hrowE 0 _ rfl
          have hE1:∀ (o:Nat) v,[Value.int .u8 (E k 1),.int .u8 (E k 2),.int .u8 (E k 3),.int .u8 (E k 4),.int .u8 (E k 5),.int .u8 (E k 6),.int .u8 (E k 7),.int .u8 (E k 8)][o]? = some v→(stL n E)[k*9+1+o]? = some v:=fun o v hv=>by
            rw [Nat.add_assoc,Nat.add_comm 1 o];exact hrowE (o+1) v hv
          have hmsk:=hms k
          rw [hkey k] at hmsk
          cases hck:covT (q0u I f R (x0+(k:Int)) y) (.group i ms) with
          | true =>
            rw [hck] at hmk hmsk
            simp only [grpS,if_true,Bool.true_eq_false,if_false] at hmsk
            have hmul:=q7j (G:=G) (hEb k h2 0 (by omega)) hal
            have hqb:=z33 (hEb k h2 0 (by omega)) hal
            have hEk:=hEb k h2
            generalize qE (E k 0) (I i).al=q at *
            by_cases hq0:q=0
            · rw [if_pos hq0] at hmsk
              have hpg:=q3w (ov:=false) (I:=fun _=>0) hmv hbl (hB k h2) (fun _ _=>⟨Int.le_refl _,show (0:Int)≤255 by omega⟩) hqb
              rw [← hmsk] at hpg
              (repeat ((try (conv=>whnf));(first |(refine q0l _ hmk ?_) |(refine q0l _ hE0 ?_) |(refine q08 [Value.int .u8 (E k 1),.int .u8 (E k 2),.int .u8 (E k 3),.int .u8 (E k 4),.int .u8 (E k 5),.int .u8 (E k 6),.int .u8 (E k 7),.int .u8 (E k 8)] rfl hE1 ?_) |(refine q0b _ c32 ?_) |(refine q0b _ c29 ?_) |(refine q0b _ c35 ?_) |(refine q10 (st9 (B k)) rfl hrowU ?_) |(refine s3Q ?_) |(with_reducible first |refine q0e (fun vs w=>by kernel_rfl) (by kernel_rfl) (hmul) ?_ |refine q0d (fun vs w=>by kernel_rfl) (by kernel_rfl) (hmul) ?_ |refine q0e (fun vs w=>by kernel_rfl) (by kernel_rfl) (hpg) ?_ |refine q0d (fun vs w=>by kernel_rfl) (by kernel_rfl) (hpg) ?_))))
              conv=>whnf
              have hon:k*9+9≤n*9:=by omega
              refine mustP.mk (by rw [q15];exact hon) ?_
              (repeat ((try (conv=>whnf));(refine stQ ?_)))
              conv=>whnf
              refine ⟨k+1,by omega,by omega,?_⟩
              ((refine q0g ?_);(conv=>whnf);(refine q0k (by rfl) (by rfl) flQ ?_))
              refine q0c rfl (Eq.trans (b:=(stL n cur).take (k*9)++st9 (memS I f R y x0 (.group i ms) B S k)++(stL n cur).drop (k*9+9)) rfl ?_) (q0a (by exact flQ) (q0c rfl rfl (q0c rfl rfl q0f)))
              rw [q4x h2]
              refine q0v fun l hl=>?_
              rw [← hcur]
              dsimp only
              by_cases hlk:l=k
              · subst hlk
                rw [if_pos rfl,if_pos (by omega)]
              · rw [if_neg hlk]
                by_cases h8:l<k
                · rw [if_pos h8,if_pos (by omega)]
                · rw [if_neg h8,if_neg (by omega)]
            · rw [if_neg hq0] at hmsk
              have hpg:=q3w (ov:=false) (I:=inkI (E k)) hmv hbl (hB k h2) (z7n hEk) hqb
              rw [← hmsk] at hpg
              change Gives _ _ [_,.agg [.val (.int .u8 (E k 1)),.val (.int .u8 (E k 2)),.val (.int .u8 (E k 3)),.val (.int .u8 (E k 4)),.val (.int .u8 (E k 5)),.val (.int .u8 (E k 6)),.val (.int .u8 (E k 7)),.val (.int .u8 (E k 8))],_,_,_] _ _ at hpg
              (repeat ((try (conv=>whnf));(first |(refine q0l _ hmk ?_) |(refine q0l _ hE0 ?_) |(refine q08 [Value.int .u8 (E k 1),.int .u8 (E k 2),.int .u8 (E k 3),.int .u8 (E k 4),.int .u8 (E k 5),.int .u8 (E k 6),.int .u8 (E k 7),.int .u8 (E k 8)] rfl hE1 ?_) |(refine q0b _ c32 ?_) |(refine q0b _ c29 ?_) |(refine q0b _ c35 ?_) |(refine q10 (st9 (B k)) rfl hrowU ?_) |(refine s3Q ?_) |(with_reducible first |refine q0e (fun vs w=>by kernel_rfl) (by kernel_rfl) (hmul) ?_ |refine q0d (fun vs w=>by kernel_rfl) (by kernel_rfl) (hmul) ?_ |refine q0e (fun vs w=>by kernel_rfl) (by kernel_rfl) (hpg) ?_ |refine q0d (fun vs w=>by kernel_rfl) (by kernel_rfl) (hpg) ?_))))
              conv=>whnf
              have hon:k*9+9≤n*9:=by omega
              refine mustP.mk (by rw [q15];exact hon) ?_
              (repeat ((try (conv=>whnf));(refine stQ ?_)))
              conv=>whnf
              refine ⟨k+1,by omega,by omega,?_⟩
              ((refine q0g ?_);(conv=>whnf);(refine q0k (by rfl) (by rfl) flQ ?_))
              refine q0c rfl (Eq.trans (b:=(stL n cur).take (k*9)++st9 (memS I f R y x0 (.group i ms) B S k)++(stL n cur).drop (k*9+9)) rfl ?_) (q0a (by exact flQ) (q0c rfl rfl (q0c rfl rfl q0f)))
              rw [q4x h2]
              refine q0v fun l hl=>?_
              rw [← hcur]
              dsimp only
              by_cases hlk:l=k
              · subst hlk
                rw [if_pos rfl,if_pos (by omega)]
              · rw [if_neg hlk]
                by_cases h8:l<k
                · rw [if_pos h8,if_pos (by omega)]
                · rw [if_neg h8,if_neg (by omega)]
          | false =>
            rw [hck] at hmk hmsk
            (repeat ((try (conv=>whnf));(first |(refine q0l _ hmk ?_) |(refine stQ ?_))))
            conv=>whnf
            refine ⟨k+1,by omega,by omega,?_⟩
            ((refine q0g ?_);(conv=>whnf);(refine q0k (by rfl) (by rfl) flQ ?_))
            refine q0c rfl (q0v fun l hl=>?_) (q0a (by exact flQ) (q0c rfl rfl (q0c rfl rfl q0f)))
            rw [← hcur]
            dsimp only
            by_cases hlk:l=k
            · subst hlk
              rw [if_neg (by omega),if_pos (by omega),hmsk];simp
            · by_cases h8:l<k
              · rw [if_pos h8,if_pos (by omega)]
              · rw [if_neg h8,if_neg (by omega)]
        · obtain rfl:k=n:=by omega
          (repeat ((try (conv=>whnf));(refine stQ ?_)))
          conv=>whnf
          show Blk.own _ _ _ _=_
          rw [q0v (T:=memS I f R y x0 (.group i ms) B S) fun j hj=>by rw [if_pos hj]]
  · have hany:anyB n (fun (j:Nat)=>covT (q0u I f R (x0+(j:Int)) y) (.group i ms))=false:=by simpa using hany
    rw [hany]
    (repeat ((try (conv=>whnf));(refine stQ ?_)))
    conv=>whnf
    show Blk.own _ _ _ _=_
    rw [q0v (S:=S) (T:=memS I f R y x0 (.group i ms) B S) fun j hj=>by
      rw [hms j]
      have:covT (q0u I f R (x0+(j:Int)) y) (.group i ms)=false:=by
        cases hcc:covT (q0u I f R (x0+(j:Int)) y) (.group i ms) with
        | false=>rfl
        | true=>rw [z47 hj hcc] at hany;cases hany
      rw [this];simp]
end
end Go.Proofs.YtkicdhaklnmonaaGreat
