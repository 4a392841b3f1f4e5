/-
  Merged: XPaintF, XPaintT.
-/
import Derived.Test.YtkicdhaklnmonaaGreatMrg28
import Derived.Test.YtkicdhaklnmonaaGreatMrg18
set_option linter.unusedVariables false
set_option linter.unusedSimpArgs false
set_option linter.unnecessarySimpa false
namespace Go.Proofs.YtkicdhaklnmonaaGreat
open Go.RowKit
set_option maxRecDepth 20000
theorem q7j {a b:Int} {G:Mem} (ha:0≤a∧a≤255) (hb:0≤b∧b≤255):Gives Tryz.prog 87 [.val (.int .u8 a),.val (.int .u8 b)] G (.val (.int .u8 (qE a b))):=by
  refine Gives.of_callsA (args:=[.int .u8 a,.int .u8 b]) (fun vs h=>?_) (by rw [AV.rel]) fun w _=>(z52 a b w ha hb).mono ?_
  · obtain ⟨z1,rfl,h1⟩:=q60 h
    obtain ⟨z2,rfl,h2⟩:=q60 h1
    rw [z26 h2]
  · rintro e w' ⟨rfl,rfl⟩
    exact ⟨rfl,Below.refl _ _⟩
def stR (L:List Run) (x0 y:Int) (k:Nat) (P S:Nat→St) (j:Nat):St:=if mkB (fun _=>false) L x0 y k j=true then P j else S j
theorem z9c {L:List Run} {x0 y:Int} {k j:Nat} {r:Run} (v:ValidL L) (hr:L[k]? = some r) (h:inR r (x0+j) y=true):mkB (fun _=>false) L x0 y k j=false:=by
  unfold mkB
  rw [Bool.false_or,List.any_eq_false]
  intro q hq
  obtain ⟨i,hi⟩:=List.mem_iff_getElem?.1 hq
  have hik:i<k:=by
    have:=(List.getElem?_eq_some_iff.1 hi).1
    simp at this;omega
  rw [List.getElem?_take,if_pos hik] at hi
  have h1:=q9m v.ok hik hi hr
  simp only [inR,decide_eq_true_eq] at h ⊢
  omega
section
variable {I:Nat→ItemD} {f:Nat→SrcF} {R:Nat→List Run} {G:Mem} {y x0 x1:Int} {n:Nat}
set_option maxHeartbeats 16000000 in
theorem x2s {i b:Nat} {sv mv:Value} (hx:x1=x0+n) (hx0:-8192≤x0∧x0+n≤8192) (hy:-8192≤y∧y<8192) (hb:G b=some (.cells ((I i).cells++[.int .i64 i,sv,mv]).toArray q9s (0,0))) (hsrc:IsSrc G sv (f i)) (hmix:IsMix G mv (I i).bl) (hR:RegOk G I R i) (hit:ItOk I f i) {S:Nat→St} (hS:∀ j,j<n→q0z (S j))
    {K:AV→List Blk→Mem→Prop} (hK:K .any [.own 117 9 n (stL n fun (j:Nat)=>if hasL (R i) (x0+(j:Int)) y=true then (fun (j:Nat)=>q7i (I i).bl (I i).al (I i).ov (f i (x0+(j:Int)) y) (S j)) j else S j),.cells 120 [.val (.int .i64 y),.val (.int .i64 x0),.val (.int .i64 x1)],.cells 115 [.own 0],.cells 115 [.own 0],.cells 148 [.val (ptrV b)]] G) :
    CallP Tryz.prog 85 [q1s y x0 x1,.val (.slice (I i).RA (I i).rn (I i).rq),.fn (.func 86) [] [.ptr 4 0,.ptr 1 0,.ptr 3 0,.ptr 2 0]] [.own 117 9 n (stL n S),.cells 120 [.val (.int .i64 y),.val (.int .i64 x0),.val (.int .i64 x1)],.cells 115 [.own 0],.cells 115 [.own 0],.cells 148 [.val (ptrV b)]] G K:=by
  obtain ⟨hRM,hRn,hV⟩:=hR
  obtain ⟨hal,hbl,hsb⟩:=hit
  have hbs:=z3a (c:=(I i).rq) (x:=x0) (y:=y) (z:=x1) hRM hV
  rw [← hRn] at hbs
  obtain ⟨sid,sp,rfl,hsen,hsg⟩:=hsrc
  have hmv:=hmix
  obtain ⟨mp,mp2,rfl,_,_⟩:=hmix
  have c35:G.cell? ⟨b,35,none⟩=some (.func (.func sid) #[] #[.pointer (some ⟨sp,0,none⟩)]):=by
    unfold Mem.cell?;simp only [hb];rfl
  have c36:G.cell? ⟨b,36,none⟩=some (.func (.func 109) #[] #[.pointer (some ⟨mp,0,none⟩)]):=by
    unfold Mem.cell?;simp only [hb];rfl
  have c29:G.cell? ⟨b,29,none⟩=some (.int .u8 (I i).al):=by
    unfold Mem.cell?;simp only [hb];rfl
  have c31:G.cell? ⟨b,31,none⟩=some (.bool (I i).ov):=by
    unfold Mem.cell?;simp only [hb];rfl
  have hcl:=z6p x0 y (R i)
  have hlen:=hV.length
  obtain ⟨P,hP⟩:∃ P:Nat→St,P=(fun (j:Nat)=>q7i (I i).bl (I i).al (I i).ov (f i (x0+(j:Int)) y) (S j)):=⟨_,rfl⟩
  have hPj:∀ j,P j=q7i (I i).bl (I i).al (I i).ov (f i (x0+(j:Int)) y) (S j):=fun j=>by rw [hP]
  rw [← hP] at hK
  clear hP
  refine z1z (n0:=5) rfl ?_
  (repeat ((try (conv=>whnf));(first |(refine stQ ?_) |(with_reducible first |refine q0i tab_ok Tryz.func85 (fun vs w=>by kernel_rfl) (by rfl) ?_ |refine q0e (fun vs w=>by kernel_rfl) (by kernel_rfl) (hbs) ?_ |refine q0d (fun vs w=>by kernel_rfl) (by kernel_rfl) (hbs) ?_))))
  conv=>whnf
  refine q0w tab_ok (fun k=>cntB x0 y (R i)≤k∧k≤(R i).length) (fun (k:Nat)=>[(6,.val (.int .i64 k))]) (fun k=>[.own 117 9 n (stL n (stR (R i) x0 y k P S)),.cells 120 [.val (.int .i64 y),.val (.int .i64 x0),.val (.int .i64 x1)],.cells 115 [.own 0],.cells 115 [.own 0],.cells 148 [.val (ptrV b)],.cells 120 [.val (.int .i64 y),.val (.int .i64 x0),.val (.int .i64 x1)]]) (fun k=>(R i).length-k) (cntB x0 y (R i)) ⟨Nat.le_refl _,hcl⟩ ?_ ?_
  · ((refine q0g ?_);(conv=>whnf);(refine q0k (by rfl) (by rfl) flQ ?_))
    exact q0c rfl (q0v fun j _=>by rw [stR,mkB_start];simp) (q0a (by exact flQ) (q0a (by exact flQ) (q0a (by exact flQ) (q0a (by exact flQ) (q0a (by exact flQ) q0f)))))
  · rintro k ⟨hk1,hk2⟩
    have fin:(∀ r,(R i)[k]? = some r→¬ (r.y=y∧r.x0<x1))→stL n (stR (R i) x0 y k P S)=stL n (fun (j:Nat)=>if hasL (R i) (x0+(j:Int)) y=true then P j else S j):=fun h=>q0v fun j hj=>by
      rw [stR,z7l hV (by omega) h hk1];simp
    rcases Nat.lt_or_ge k (R i).length with h2 |h2
    · obtain ⟨r,hr⟩:∃ r,(R i)[k]? = some r:=⟨_,List.getElem?_eq_getElem h2⟩
      obtain ⟨p,hpA,q0,q1,q2⟩:=hRM.at_ hr
      have hbd:=hV.bd (List.mem_of_getElem? hr)
      have hbf:=z29 hV hk1 hr
      simp only [bef,decide_eq_false_iff_not] at hbf
      rw [hpA]
      by_cases hy2:r.y=y
      · by_cases hx2:r.x0<x1
        · have hnx:=fun j=>z45 (m:=fun _=>false) (x0:=x0) (y:=y) (j:=j) hr
          (repeat ((try (conv=>whnf));(first |(with_reducible refine q29 tab_ok (by kernel_rfl) 17 [] (by decide +kernel) ?_) |(refine q0b _ q0 ?_) |(refine q0b _ q1 ?_) |(refine q0b _ q2 ?_) |(refine stQ ?_) |(with_reducible refine q0i tab_ok Tryz.func86 (fun vs w=>by kernel_rfl) (by rfl) ?_))))
          conv=>whnf
          refine q0w tab_ok (fun (j:Nat)=>max r.x0 x0≤x0+(j:Int)∧x0+(j:Int)≤min r.x1 x1) (fun (j:Nat)=>[(8,.val (.int .i64 (x0+(j:Int))))]) (fun (j:Nat)=>[.own 117 9 n (stL n fun (l:Nat)=>if max r.x0 x0≤x0+(l:Int)∧(l:Int)<(j:Int) then P l else stR (R i) x0 y k P S l),.cells 120 [.val (.int .i64 y),.val (.int .i64 x0),.val (.int .i64 x1)],.cells 115 [.own 0],.cells 115 [.own 0],.cells 148 [.val (ptrV b)],.cells 120 [.val (.int .i64 y),.val (.int .i64 x0),.val (.int .i64 x1)]]) (fun (j:Nat)=>(min r.x1 x1-x0-j).toNat) (max r.x0 x0-x0).toNat (by omega) ?_ ?_
          · ((refine q0g ?_);(conv=>whnf);(refine q0k (by rfl) (by rfl) flQ ?_))
            refine q0c rfl (q0v fun l _=>?_) (q0a (by exact flQ) (q0a (by exact flQ) (q0a (by exact flQ) (q0a (by exact flQ) (q0a (by exact flQ) q0f)))))
            rw [if_neg (show ¬ (max r.x0 x0≤x0+(l:Int)∧(l:Int)<((max r.x0 x0-x0).toNat:Int)) by omega)]
          · rintro j ⟨ht1,ht2⟩
            by_cases h3:x0+(j:Int)<min r.x1 x1
            · have hin:inR r (x0+(j:Int)) y=true:=by simp only [inR,decide_eq_true_eq];omega
              have hfr:=z9c hV hr hin
              have hjn:j<n:=by omega
              have hsj:=hsg (x0+(j:Int)) y (by omega) hy
              obtain ⟨hI8,hso⟩:=hsb (x0+(j:Int)) y (by omega) hy
              have hPP:=hPj j
              have hBj:=hS j hjn
              have hidx:(x0+(j:Int)-x0).toNat=j:=by omega
              generalize hcur:(fun (l:Nat)=>if max r.x0 x0≤x0+(l:Int)∧(l:Int)<(j:Int) then P l else stR (R i) x0 y k P S l)=cur
              have hcj:cur j=S j:=by rw [← hcur];dsimp only;rw [if_neg (by omega),stR,hfr];simp
              have hrow:∀ (o:Nat) v,(st9 (S j))[o]? = some v→(stL n cur)[(x0+(j:Int)-x0).toNat * 9+o]? = some v:=fun o v hv=>by
                have ho:o<9:=by have:=(List.getElem?_eq_some_iff.1 hv).1;simpa [st9] using this
                rw [hidx,q3b hjn ho,hcj];exact hv
              obtain ⟨so,hso2⟩:∃ so,so=(f i (x0+(j:Int)) y).2:=⟨_,rfl⟩
              obtain ⟨V,hV2⟩:∃ V,V=(f i (x0+(j:Int)) y).1:=⟨_,rfl⟩
              rw [← hso2,← hV2] at hsj
              rw [← hso2] at hso
              rw [← hV2] at hI8
              unfold q7i at hPP
              rw [← hso2,← hV2] at hPP
              have hmul:=q7j (G:=G) hso hal
              have hqb:=z33 hso hal
              generalize qE so (I i).al=q at *
              by_cases hq0:q=0
              · rw [if_pos hq0] at hPP
                have hpg:=q3w (ov:=(I i).ov) (I:=fun _=>0) hmv hbl hBj (fun _ _=>⟨Int.le_refl _,show (0:Int)≤255 by omega⟩) hqb
                rw [← hPP] at hpg
                (repeat ((try (conv=>whnf));(first |(refine q0b _ c35 ?_) |(refine q0b _ c36 ?_) |(refine q0b _ c29 ?_) |(refine q0b _ c31 ?_) |(refine q08 (st9 (S j)) rfl hrow ?_) |(with_reducible refine q0d hsen (by kernel_rfl) hsj ?_) |(refine s3Q ?_) |(with_reducible first |refine q0e (fun vs w=>by kernel_rfl) (by kernel_rfl) (hmul) ?_ |refine q0d (fun vs w=>by kernel_rfl) (by kernel_rfl) (hmul) ?_ |refine q0e (fun vs w=>by kernel_rfl) (by kernel_rfl) (hpg) ?_ |refine q0d (fun vs w=>by kernel_rfl) (by kernel_rfl) (hpg) ?_))))
                conv=>whnf
                have hon:(x0+(j:Int)-x0).toNat * 9+9≤n*9:=by rw [hidx];omega
                refine mustP.mk (by rw [q15];exact hon) ?_
                (repeat ((try (conv=>whnf));(refine stQ ?_)))
                conv=>whnf
                refine ⟨j+1,by omega,by omega,?_⟩
                ((refine q0g ?_);(conv=>whnf);(refine q0k (by rfl) (by rfl) flQ ?_))
                refine q0c rfl (Eq.trans (b:=(stL n cur).take ((x0+(j:Int)-x0).toNat * 9)++st9 (P j)++(stL n cur).drop ((x0+(j:Int)-x0).toNat * 9+9)) rfl ?_) (q0a (by exact flQ) (q0a (by exact flQ) (q0a (by exact flQ) (q0a (by exact flQ) (q0a (by exact flQ) q0f)))))
                rw [hidx,q4x hjn]
                refine q0v fun l hl=>?_
                rw [← hcur]
                dsimp only
                by_cases hlj:l=j
                · subst hlj
                  rw [if_pos rfl,if_pos (by omega)]
                · rw [if_neg hlj]
                  by_cases h8:max r.x0 x0≤x0+(l:Int)∧(l:Int)<(j:Int)
                  · rw [if_pos h8,if_pos (by omega)]
                  · rw [if_neg h8,if_neg (by omega)]
              · rw [if_neg hq0] at hPP
                have hpg:=q3w (ov:=(I i).ov) (I:=V) hmv hbl hBj hI8 hqb
                rw [← hPP] at hpg
                (repeat ((try (conv=>whnf));(first |(refine q0b _ c35 ?_) |(refine q0b _ c36 ?_) |(refine q0b _ c29 ?_) |(refine q0b _ c31 ?_) |(refine q08 (st9 (S j)) rfl hrow ?_) |(with_reducible refine q0d hsen (by kernel_rfl) hsj ?_) |(refine s3Q ?_) |(with_reducible first |refine q0e (fun vs w=>by kernel_rfl) (by kernel_rfl) (hmul) ?_ |refine q0d (fun vs w=>by kernel_rfl) (by kernel_rfl) (hmul) ?_ |refine q0e (fun vs w=>by kernel_rfl) (by kernel_rfl) (hpg) ?_ |refine q0d (fun vs w=>by kernel_rfl) (by kernel_rfl) (hpg) ?_))))
                conv=>whnf
                have hon:(x0+(j:Int)-x0).toNat * 9+9≤n*9:=by rw [hidx];omega
                refine mustP.mk (by rw [q15];exact hon) ?_
                (repeat ((try (conv=>whnf));(refine stQ ?_)))
                conv=>whnf
                refine ⟨j+1,by omega,by omega,?_⟩
                ((refine q0g ?_);(conv=>whnf);(refine q0k (by rfl) (by rfl) flQ ?_))
                refine q0c rfl (Eq.trans (b:=(stL n cur).take ((x0+(j:Int)-x0).toNat * 9)++st9 (P j)++(stL n cur).drop ((x0+(j:Int)-x0).toNat * 9+9)) rfl ?_) (q0a (by exact flQ) (q0a (by exact flQ) (q0a (by exact flQ) (q0a (by exact flQ) (q0a (by exact flQ) q0f)))))
                rw [hidx,q4x hjn]
                refine q0v fun l hl=>?_
                rw [← hcur]
                dsimp only
                by_cases hlj:l=j
                · subst hlj
                  rw [if_pos rfl,if_pos (by omega)]
                · rw [if_neg hlj]
                  by_cases h8:max r.x0 x0≤x0+(l:Int)∧(l:Int)<(j:Int)
                  · rw [if_pos h8,if_pos (by omega)]
                  · rw [if_neg h8,if_neg (by omega)]
            · (repeat ((try (conv=>whnf));(refine stQ ?_)))
              conv=>whnf
              refine ⟨k+1,⟨by omega,by omega⟩,by omega,?_⟩
              ((refine q0g ?_);(conv=>whnf);(refine q0k (by rfl) (by rfl) flQ ?_))
              refine q0c rfl (q0v fun l hl=>?_) (q0a (by exact flQ) (q0a (by exact flQ) (q0a (by exact flQ) (q0a (by exact flQ) (q0a (by exact flQ) q0f)))))
              have h6:=hnx l
              have h7:inR r (x0+(l:Int)) y=true↔(max r.x0 x0≤x0+(l:Int)∧(l:Int)<(j:Int)):=by simp only [inR,decide_eq_true_eq];omega
              by_cases h8:max r.x0 x0≤x0+(l:Int)∧(l:Int)<(j:Int)
              · rw [if_pos h8,stR,h6,h7.2 h8];simp
              · rw [if_neg h8,stR,stR,h6,show inR r (x0+(l:Int)) y=false by rw [← Bool.not_eq_true,h7];exact h8];simp
        · have e:=fin (fun q hq=>by rw [hr] at hq;cases hq;omega)
          (repeat ((try (conv=>whnf));(first |(refine q0b _ q0 ?_) |(refine q0b _ q1 ?_) |(refine q0b _ q2 ?_) |(refine stQ ?_))))
          conv=>whnf
          refine ⟨.any,_,G,?_,hK⟩
          refine q0k (by rfl) (by rfl) (by exact flQ) ?_
          exact q0c rfl e (q0a (by exact flQ) (q0a (by exact flQ) (q0a (by exact flQ) (q0a (by exact flQ) q0f))))
      · have e:=fin (fun q hq=>by rw [hr] at hq;cases hq;omega)
        (repeat ((try (conv=>whnf));(first |(refine q0b _ q0 ?_) |(refine q0b _ q1 ?_) |(refine q0b _ q2 ?_) |(refine stQ ?_))))
        conv=>whnf
        refine ⟨.any,_,G,?_,hK⟩
        refine q0k (by rfl) (by rfl) (by exact flQ) ?_
        exact q0c rfl e (q0a (by exact flQ) (q0a (by exact flQ) (q0a (by exact flQ) (q0a (by exact flQ) q0f))))
    · have e:=fin (fun q hq=>by rw [List.getElem?_eq_none h2] at hq;cases hq)
      (repeat ((try (conv=>whnf));(refine stQ ?_)))
      conv=>whnf
      refine ⟨.any,_,G,?_,hK⟩
      refine q0k (by rfl) (by rfl) (by exact flQ) ?_
      exact q0c rfl e (q0a (by exact flQ) (q0a (by exact flQ) (q0a (by exact flQ) (q0a (by exact flQ) q0f))))
set_option maxHeartbeats 16000000 in
theorem x2t {i b:Nat} {sv mv:Value} (hx:x1=x0+n) (hx0:-8192≤x0∧x0+n≤8192) (hy:-8192≤y∧y<8192) (hb:G b=some (.cells ((I i).cells++[.int .i64 i,sv,mv]).toArray q9s (0,0))) (hsrc:IsSrc G sv (f i)) (hmix:IsMix G mv (I i).bl) (hR:RegOk G I R i) (hit:ItOk I f i) {S:Nat→St} (hS:∀ j,j<n→q0z (S j)) {B:Nat→St} (hB:∀ j,j<n→q0z (B j)) {BA:Option Addr} {bc:Nat} (hBF:FlatM G BA (stL n B))
    {K:AV→List Blk→Mem→Prop} (hK:K .any [.own 117 9 n (stL n fun (j:Nat)=>if hasL (R i) (x0+(j:Int)) y=true then (fun (j:Nat)=>q7i (I i).bl (I i).al (I i).ov (f i (x0+(j:Int)) y) (B j)) j else S j),.cells 120 [.val (.int .i64 y),.val (.int .i64 x0),.val (.int .i64 x1)],.cells 115 [.own 0],.cells 115 [.val (.slice BA n bc)],.cells 148 [.val (ptrV b)]] G) :
    CallP Tryz.prog 85 [q1s y x0 x1,.val (.slice (I i).RA (I i).rn (I i).rq),.fn (.func 86) [] [.ptr 4 0,.ptr 1 0,.ptr 3 0,.ptr 2 0]] [.own 117 9 n (stL n S),.cells 120 [.val (.int .i64 y),.val (.int .i64 x0),.val (.int .i64 x1)],.cells 115 [.own 0],.cells 115 [.val (.slice BA n bc)],.cells 148 [.val (ptrV b)]] G K:=by
  obtain ⟨hRM,hRn,hV⟩:=hR
  obtain ⟨hal,hbl,hsb⟩:=hit
  have hbs:=z3a (c:=(I i).rq) (x:=x0) (y:=y) (z:=x1) hRM hV
  rw [← hRn] at hbs
  obtain ⟨sid,sp,rfl,hsen,hsg⟩:=hsrc
  have hmv:=hmix
  obtain ⟨mp,mp2,rfl,_,_⟩:=hmix
  have c35:G.cell? ⟨b,35,none⟩=some (.func (.func sid) #[] #[.pointer (some ⟨sp,0,none⟩)]):=by
    unfold Mem.cell?;simp only [hb];rfl
  have c36:G.cell? ⟨b,36,none⟩=some (.func (.func 109) #[] #[.pointer (some ⟨mp,0,none⟩)]):=by
    unfold Mem.cell?;simp only [hb];rfl
  have c29:G.cell? ⟨b,29,none⟩=some (.int .u8 (I i).al):=by
    unfold Mem.cell?;simp only [hb];rfl
  have c31:G.cell? ⟨b,31,none⟩=some (.bool (I i).ov):=by
    unfold Mem.cell?;simp only [hb];rfl
  have hcl:=z6p x0 y (R i)
  have hlen:=hV.length
  obtain ⟨P,hP⟩:∃ P:Nat→St,P=(fun (j:Nat)=>q7i (I i).bl (I i).al (I i).ov (f i (x0+(j:Int)) y) (B j)):=⟨_,rfl⟩
  have hPj:∀ j,P j=q7i (I i).bl (I i).al (I i).ov (f i (x0+(j:Int)) y) (B j):=fun j=>by rw [hP]
  rw [← hP] at hK
  clear hP
  refine z1z (n0:=5) rfl ?_
  (repeat ((try (conv=>whnf));(first |(refine stQ ?_) |(with_reducible first |refine q0i tab_ok Tryz.func85 (fun vs w=>by kernel_rfl) (by rfl) ?_ |refine q0e (fun vs w=>by kernel_rfl) (by kernel_rfl) (hbs) ?_ |refine q0d (fun vs w=>by kernel_rfl) (by kernel_rfl) (hbs) ?_))))
  conv=>whnf
  refine q0w tab_ok (fun k=>cntB x0 y (R i)≤k∧k≤(R i).length) (fun (k:Nat)=>[(6,.val (.int .i64 k))]) (fun k=>[.own 117 9 n (stL n (stR (R i) x0 y k P S)),.cells 120 [.val (.int .i64 y),.val (.int .i64 x0),.val (.int .i64 x1)],.cells 115 [.own 0],.cells 115 [.val (.slice BA n bc)],.cells 148 [.val (ptrV b)],.cells 120 [.val (.int .i64 y),.val (.int .i64 x0),.val (.int .i64 x1)]]) (fun k=>(R i).length-k) (cntB x0 y (R i)) ⟨Nat.le_refl _,hcl⟩ ?_ ?_
  · ((refine q0g ?_);(conv=>whnf);(refine q0k (by rfl) (by rfl) flQ ?_))
    exact q0c rfl (q0v fun j _=>by rw [stR,mkB_start];simp) (q0a (by exact flQ) (q0a (by exact flQ) (q0a (by exact flQ) (q0a (by exact flQ) (q0a (by exact flQ) q0f)))))
  · rintro k ⟨hk1,hk2⟩
    have fin:(∀ r,(R i)[k]? = some r→¬ (r.y=y∧r.x0<x1))→stL n (stR (R i) x0 y k P S)=stL n (fun (j:Nat)=>if hasL (R i) (x0+(j:Int)) y=true then P j else S j):=fun h=>q0v fun j hj=>by
      rw [stR,z7l hV (by omega) h hk1];simp
    rcases Nat.lt_or_ge k (R i).length with h2 |h2
    · obtain ⟨r,hr⟩:∃ r,(R i)[k]? = some r:=⟨_,List.getElem?_eq_getElem h2⟩
      obtain ⟨p,hpA,q0,q1,q2⟩:=hRM.at_ hr
      have hbd:=hV.bd (List.mem_of_getElem? hr)
      have hbf:=z29 hV hk1 hr
      simp only [bef,decide_eq_false_iff_not] at hbf
      rw [hpA]
      by_cases hy2:r.y=y
      · by_cases hx2:r.x0<x1
        · have hnx:=fun j=>z45 (m:=fun _=>false) (x0:=x0) (y:=y) (j:=j) hr
          (repeat ((try (conv=>whnf));(first |(with_reducible refine q29 tab_ok (by kernel_rfl) 17 [] (by decide +kernel) ?_) |(refine q0b _ q0 ?_) |(refine q0b _ q1 ?_) |(refine q0b _ q2 ?_) |(refine stQ ?_) |(with_reducible refine q0i tab_ok Tryz.func86 (fun vs w=>by kernel_rfl) (by rfl) ?_))))
          conv=>whnf
          refine q0w tab_ok (fun (j:Nat)=>max r.x0 x0≤x0+(j:Int)∧x0+(j:Int)≤min r.x1 x1) (fun (j:Nat)=>[(8,.val (.int .i64 (x0+(j:Int))))]) (fun (j:Nat)=>[.own 117 9 n (stL n fun (l:Nat)=>if max r.x0 x0≤x0+(l:Int)∧(l:Int)<(j:Int) then P l else stR (R i) x0 y k P S l),.cells 120 [.val (.int .i64 y),.val (.int .i64 x0),.val (.int .i64 x1)],.cells 115 [.own 0],.cells 115 [.val (.slice BA n bc)],.cells 148 [.val (ptrV b)],.cells 120 [.val (.int .i64 y),.val (.int .i64 x0),.val (.int .i64 x1)]]) (fun (j:Nat)=>(min r.x1 x1-x0-j).toNat) (max r.x0 x0-x0).toNat (by omega) ?_ ?_
          · ((refine q0g ?_);(conv=>whnf);(refine q0k (by rfl) (by rfl) flQ ?_))
            refine q0c rfl (q0v fun l _=>?_) (q0a (by exact flQ) (q0a (by exact flQ) (q0a (by exact flQ) (q0a (by exact flQ) (q0a (by exact flQ) q0f)))))
            rw [if_neg (show ¬ (max r.x0 x0≤x0+(l:Int)∧(l:Int)<((max r.x0 x0-x0).toNat:Int)) by omega)]
          · rintro j ⟨ht1,ht2⟩
            by_cases h3:x0+(j:Int)<min r.x1 x1
            · have hin:inR r (x0+(j:Int)) y=true:=by simp only [inR,decide_eq_true_eq];omega
              have hfr:=z9c hV hr hin
              have hjn:j<n:=by omega
              have hsj:=hsg (x0+(j:Int)) y (by omega) hy
              obtain ⟨hI8,hso⟩:=hsb (x0+(j:Int)) y (by omega) hy
              have hPP:=hPj j
              have hBj:=hB j hjn
              have hidx:(x0+(j:Int)-x0).toNat=j:=by omega
              generalize hcur:(fun (l:Nat)=>if max r.x0 x0≤x0+(l:Int)∧(l:Int)<(j:Int) then P l else stR (R i) x0 y k P S l)=cur
              obtain ⟨bb,bo,hBA,hBc⟩:∃ b o,BA=some ⟨b,o,none⟩∧∀ (j:Nat) u,(stL n B)[j]? = some u→G.cell? ⟨b,o+j,none⟩=some u:=by
                rcases hBF with ⟨_,h0⟩ |h0
                · have:=q15 n B;rw [h0] at this;simp at this;omega
                · exact h0
              subst hBA
              have hrow:G.cellsAt (Addr.add ⟨bb,bo,none⟩ ((x0+(j:Int)-x0).toNat * 9)) (st9 (B j)):=fun o v hv=>by
                have ho:o<9:=by have:=(List.getElem?_eq_some_iff.1 hv).1;simpa [st9] using this
                rw [q0m,q0m,hidx,Nat.add_assoc]
                exact hBc _ _ (by rw [q3b hjn ho];exact hv)
              obtain ⟨so,hso2⟩:∃ so,so=(f i (x0+(j:Int)) y).2:=⟨_,rfl⟩
              obtain ⟨V,hV2⟩:∃ V,V=(f i (x0+(j:Int)) y).1:=⟨_,rfl⟩
              rw [← hso2,← hV2] at hsj
              rw [← hso2] at hso
              rw [← hV2] at hI8
              unfold q7i at hPP
              rw [← hso2,← hV2] at hPP
              have hmul:=q7j (G:=G) hso hal
              have hqb:=z33 hso hal
              generalize qE so (I i).al=q at *
              by_cases hq0:q=0
              · rw [if_pos hq0] at hPP
                have hpg:=q3w (ov:=(I i).ov) (I:=fun _=>0) hmv hbl hBj (fun _ _=>⟨Int.le_refl _,show (0:Int)≤255 by omega⟩) hqb
                rw [← hPP] at hpg
                (repeat ((try (conv=>whnf));(first |(refine q0b _ c35 ?_) |(refine q0b _ c36 ?_) |(refine q0b _ c29 ?_) |(refine q0b _ c31 ?_) |(refine q10 (st9 (B j)) rfl hrow ?_) |(with_reducible refine q0d hsen (by kernel_rfl) hsj ?_) |(refine s3Q ?_) |(with_reducible first |refine q0e (fun vs w=>by kernel_rfl) (by kernel_rfl) (hmul) ?_ |refine q0d (fun vs w=>by kernel_rfl) (by kernel_rfl) (hmul) ?_ |refine q0e (fun vs w=>by kernel_rfl) (by kernel_rfl) (hpg) ?_ |refine q0d (fun vs w=>by kernel_rfl) (by kernel_rfl) (hpg) ?_))))
                conv=>whnf
                have hon:(x0+(j:Int)-x0).toNat * 9+9≤n*9:=by rw [hidx];omega
                refine mustP.mk (by rw [q15];exact hon) ?_
                (repeat ((try (conv=>whnf));(refine stQ ?_)))
                conv=>whnf
                refine ⟨j+1,by omega,by omega,?_⟩
                ((refine q0g ?_);(conv=>whnf);(refine q0k (by rfl) (by rfl) flQ ?_))
                refine q0c rfl (Eq.trans (b:=(stL n cur).take ((x0+(j:Int)-x0).toNat * 9)++st9 (P j)++(stL n cur).drop ((x0+(j:Int)-x0).toNat * 9+9)) rfl ?_) (q0a (by exact flQ) (q0a (by exact flQ) (q0a (by exact flQ) (q0a (by exact flQ) (q0a (by exact flQ) q0f)))))
                rw [hidx,q4x hjn]
                refine q0v fun l hl=>?_
                rw [← hcur]
                dsimp only
                by_cases hlj:l=j
                · subst hlj
                  rw [if_pos rfl,if_pos (by omega)]
                · rw [if_neg hlj]
                  by_cases h8:max r.x0 x0≤x0+(l:Int)∧(l:Int)<(j:Int)
                  · rw [if_pos h8,if_pos (by omega)]
                  · rw [if_neg h8,if_neg (by omega)]
              · rw [if_neg hq0] at hPP
                have hpg:=q3w (ov:=(I i).ov) (I:=V) hmv hbl hBj hI8 hqb
                rw [← hPP] at hpg
                (repeat ((try (conv=>whnf));(first |(refine q0b _ c35 ?_) |(refine q0b _ c36 ?_) |(refine q0b _ c29 ?_) |(refine q0b _ c31 ?_) |(refine q10 (st9 (B j)) rfl hrow ?_) |(with_reducible refine q0d hsen (by kernel_rfl) hsj ?_) |(refine s3Q ?_) |(with_reducible first |refine q0e (fun vs w=>by kernel_rfl) (by kernel_rfl) (hmul) ?_ |refine q0d (fun vs w=>by kernel_rfl) (by kernel_rfl) (hmul) ?_ |refine q0e (fun vs w=>by kernel_rfl) (by kernel_rfl) (hpg) ?_ |refine q0d (fun vs w=>by kernel_rfl) (by kernel_rfl) (hpg) ?_))))
                conv=>whnf
                have hon:(x0+(j:Int)-x0).toNat * 9+9≤n*9:=by rw [hidx];omega
                refine mustP.mk (by rw [q15];exact hon) ?_
                (repeat ((try (conv=>whnf));(refine stQ ?_)))
                conv=>whnf
                refine ⟨j+1,by omega,by omega,?_⟩
                ((refine q0g ?_);(conv=>whnf);(refine q0k (by rfl) (by rfl) flQ ?_))
                refine q0c rfl (Eq.trans (b:=(stL n cur).take ((x0+(j:Int)-x0).toNat * 9)++st9 (P j)++(stL n cur).drop ((x0+(j:Int)-x0).toNat * 9+9)) rfl ?_) (q0a (by exact flQ) (q0a (by exact flQ) (q0a (by exact flQ) (q0a (by exact flQ) (q0a (by exact flQ) q0f)))))
                rw [hidx,q4x hjn]
                refine q0v fun l hl=>?_
                rw [← hcur]
                dsimp only
                by_cases hlj:l=j
                · subst hlj
                  rw [if_pos rfl,if_pos (by omega)]
                · rw [if_neg hlj]
                  by_cases h8:max r.x0 x0≤x0+(l:Int)∧(l:Int)<(j:Int)
                  · rw [if_pos h8,if_pos (by omega)]
                  · rw [if_neg h8,if_neg (by omega)]
            · (repeat ((try (conv=>whnf));(refine stQ ?_)))
              conv=>whnf
              refine ⟨k+1,⟨by omega,by omega⟩,by omega,?_⟩
              ((refine q0g ?_);(conv=>whnf);(refine q0k (by rfl) (by rfl) flQ ?_))
              refine q0c rfl (q0v fun l hl=>?_) (q0a (by exact flQ) (q0a (by exact flQ) (q0a (by exact flQ) (q0a (by exact flQ) (q0a (by exact flQ) q0f)))))
              have h6:=hnx l
              have h7:inR r (x0+(l:Int)) y=true↔(max r.x0 x0≤x0+(l:Int)∧(l:Int)<(j:Int)):=by simp only [inR,decide_eq_true_eq];omega
              by_cases h8:max r.x0 x0≤x0+(l:Int)∧(l:Int)<(j:Int)
              · rw [if_pos h8,stR,h6,h7.2 h8];simp
              · rw [if_neg h8,stR,stR,h6,show inR r (x0+(l:Int)) y=false by rw [← Bool.not_eq_true,h7];exact h8];simp
        · have e:=fin (fun q hq=>by rw [hr] at hq;cases hq;omega)
          (repeat ((try (conv=>whnf));(first |(refine q0b _ q0 ?_) |(refine q0b _ q1 ?_) |(refine q0b _ q2 ?_) |(refine stQ ?_))))
          conv=>whnf
          refine ⟨.any,_,G,?_,hK⟩
          refine q0k (by rfl) (by rfl) (by exact flQ) ?_
          exact q0c rfl e (q0a (by exact flQ) (q0a (by exact flQ) (q0a (by exact flQ) (q0a (by exact flQ) q0f))))
      · have e:=fin (fun q hq=>by rw [hr] at hq;cases hq;omega)
        (repeat ((try (conv=>whnf));(first |(refine q0b _ q0 ?_) |(refine q0b _ q1 ?_) |(refine q0b _ q2 ?_) |(refine stQ ?_))))
        conv=>whnf
        refine ⟨.any,_,G,?_,hK⟩
        refine q0k (by rfl) (by rfl) (by exact flQ) ?_
        exact q0c rfl e (q0a (by exact flQ) (q0a (by exact flQ) (q0a (by exact flQ) (q0a (by exact flQ) q0f))))
    · have e:=fin (fun q hq=>by rw [List.getElem?_eq_none h2] at hq;cases hq)
      (repeat ((try (conv=>whnf));(refine stQ ?_)))
      conv=>whnf
      refine ⟨.any,_,G,?_,hK⟩
      refine q0k (by rfl) (by rfl) (by exact flQ) ?_
      exact q0c rfl e (q0a (by exact flQ) (q0a (by exact flQ) (q0a (by exact flQ) (q0a (by exact flQ) q0f))))
end
end Go.Proofs.YtkicdhaklnmonaaGreat
namespace Go.Proofs.YtkicdhaklnmonaaGreat
open Go.RowKit
set_option maxRecDepth 20000
theorem AllL.take {p q:Nat→Prop}:∀ {ms:List Tr} (k:Nat),AllL p q ms→AllL p q (ms.take k)
  | [],k,_=>by simp;rw [AllL];trivial
  | a::l,0,_=>by simp;rw [AllL];trivial
  | a::l,k+1,h=>by
    rw [AllL] at h
    rw [List.take_succ_cons,AllL]
    exact ⟨h.1,AllL.take k h.2⟩
section
variable (I:Nat→ItemD) (f:Nat→SrcF) (R:Nat→List Run) (y x0 x1:Int) (n:Nat)
def memS (t:Tr) (U S:Nat→St) (j:Nat):St:=if covT (q0u I f R (x0+(j:Int)) y) t=true then evT (q0u I f R (x0+(j:Int)) y) t (U j) else S j
structure NestC (F:Mem) (u:Value) (t:Tr):Prop where
  own:∀ S:Nat→St,(∀ j,j<n→q0z (S j))→Mends Tryz.prog 89 [q1s y x0 x1,.val u,.own 0,.own 0] F 117 9 n (stL n S) (stL n (memS I f R y x0 t S S))
  val:∀ (S B:Nat→St) (BA:Option Addr) (bc:Nat) (G:Mem),F.le G→(∀ j,j<n→q0z (S j))→(∀ j,j<n→q0z (B j))→n≤bc→bc≤maxLen→FlatM G BA (stL n B) →
    Mends Tryz.prog 89 [q1s y x0 x1,.val u,.val (.slice BA n bc),.own 0] G 117 9 n (stL n S) (stL n (memS I f R y x0 t B S))
end
section
variable {I:Nat→ItemD} {f:Nat→SrcF} {R:Nat→List Run} {F:Mem} {y x0 x1:Int} {n:Nat}
theorem NestC.mono {F':Mem} {u:Value} {t:Tr} (h:NestC I f R y x0 x1 n F u t) (hF:F.le F'):NestC I f R y x0 x1 n F' u t:=⟨fun S hS=>(h.own S hS).mono hF,fun S B BA bc G hG=>h.val S B BA bc G (Mem.le_trans hF hG)⟩
set_option maxHeartbeats 16000000 in
theorem v1m {b:Nat} {hd:List Value} {A:Option Addr} {c:Nat} {vs:List Value} {ms:List Tr} (h0:0<n) (hx:x1=x0+n) (hx0:-8192≤x0∧x0+n≤8192) (hy:-8192≤y∧y<8192) (hb:F b=some (.cells (hd++[Value.slice A vs.length c]).toArray q1j (0,0))) (hh:hd.length=36) (h33:hd[33]? = some (.bool false)) (hc:vs.length≤c∧c≤maxLen) (hF:FlatM F A vs) (hms:NodesM I f F vs ms)
    (hA:AllL (fun i=>RegOk F I R i∧ItOk I f i) (GrOk I) ms) (hnest:∀ (k i:Nat) (ms':List Tr) (b':Nat),ms[k]? = some (.group i ms')→vs[k]? = some (.iface q1p (ptrV b'))→NestC I f R y x0 x1 n F (ptrV b') (.group i ms')) {S:Nat→St} (hS:∀ j,j<n→q0z (S j)) :
    Mends Tryz.prog 62 [q1s y x0 x1,.val (ptrV b),.own 0] F 117 9 n (stL n S) (stL n fun (j:Nat)=>evL (q0u I f R (x0+(j:Int)) y) false (S j) ms (S j)):=by
  have hvl:vs.length≤9223372036854775807:=by have:=hc;unfold maxLen at this;omega
  have hbd:∀ k j,j<n→q0z (evL (q0u I f R (x0+(j:Int)) y) false (S j) (ms.take k) (S j)):=fun k j hj=>z3d (by omega) hy (fun i h=>h.2) (fun i h=>h) _ (hA.take k) _ _ _ (hS j hj) (hS j hj)
  refine q7w tab_ok Tryz.func62 fun G hG=>?_
  have hml:=hms.1
  have cell:∀ (G':Mem),F.le G'→∀ (o:Nat) v,(hd++[Value.slice A vs.length c])[o]? = some v→G'.cell? ⟨b,o,none⟩=some v:=fun G' hG' o v hv=>by
    have h9:=hG' _ _ hb
    unfold Mem.cell?;simp only [h9];simpa using hv
  have c33:=cell G hG 33 (.bool false) (by rw [List.getElem?_append_left (by omega)];exact h33)
  have c36:=cell G hG 36 (.slice A vs.length c) (by rw [List.getElem?_append_right (by omega),hh];rfl)
  (repeat ((try (conv=>whnf));(first |(refine q0b _ c33 ?_) |(refine q0b _ c36 ?_) |(refine stQ ?_))))
  conv=>whnf
  refine q0w tab_ok (fun k=>k≤vs.length) (fun (k:Nat)=>[(24,.val (.int .i64 k))]) (fun k=>[.own 117 9 n (stL n (fun (j:Nat)=>evL (q0u I f R (x0+(j:Int)) y) false (S j) (ms.take k) (S j))),.cells 120 [.val (.int .i64 y),.val (.int .i64 x0),.val (.int .i64 x1)],.cells 115 [.own 0],.cells 115 [.own 0]]) (fun k=>vs.length-k) 0 (Nat.zero_le _) ?_ ?_
  · ((refine q0g ?_);(conv=>whnf);(refine q0k (by rfl) (by rfl) flQ ?_))
    exact q0c rfl (q0v fun j _=>by simp [evL]) (q0a (by exact flQ) (q0a (by exact flQ) (q0a (by exact flQ) q0f)))
  · intro k hk
    rcases Nat.lt_or_ge k vs.length with h2 |h2
    · obtain ⟨u,hu⟩:∃ u,vs[k]? = some u:=⟨_,List.getElem?_eq_getElem h2⟩
      obtain ⟨t,ht⟩:∃ t,ms[k]? = some t:=⟨_,List.getElem?_eq_getElem (by omega)⟩
      have hnode:=hms.2 k u t hu ht
      have hAt:=hA.get ht
      obtain ⟨p,rfl,hcu⟩:=(hF.mono hG).get hu
      have hstep:stL n (memS I f R y x0 t (fun (j:Nat)=>evL (q0u I f R (x0+(j:Int)) y) false (S j) (ms.take k) (S j)) (fun (j:Nat)=>evL (q0u I f R (x0+(j:Int)) y) false (S j) (ms.take k) (S j)))=stL n (fun (j:Nat)=>evL (q0u I f R (x0+(j:Int)) y) false (S j) (ms.take (k+1)) (S j)):=q0v fun j _=>by
        rw [x1z ht];simp [memS]
      cases hnode with
      | fill i b1 sv mv hb1 hsv hmv =>
        rw [AllT] at hAt
        have hA1:=hAt
        have c1:G.cell? ⟨b1,1,none⟩=some (.slice (I i).RA (I i).rn (I i).rq):=by
          unfold Mem.cell?;simp only [hG _ _ hb1];rfl
        (repeat ((try (conv=>whnf));(first |(refine q0b _ hcu ?_) |(refine q0b _ c1 ?_) |(with_reducible refine q29 tab_ok (by kernel_rfl) 7 [] (by decide +kernel) ?_) |(refine stQ ?_))))
        conv=>whnf
        refine x2s hx hx0 hy (hG _ _ hb1) (hsv.mono hG) (hmv.mono hG) (hA1.1.mono hG) hA1.2 (hbd k) ?_
        conv=>whnf
        (repeat ((try (conv=>whnf));(refine stQ ?_)))
        conv=>whnf
        refine ⟨k+1,by omega,by omega,?_⟩
        ((refine q0g ?_);(conv=>whnf);(refine q0k (by rfl) (by rfl) flQ ?_))
        refine q0c rfl (Eq.trans ?_ hstep) (q0a (by exact flQ) (q0a (by exact flQ) (q0a (by exact flQ) q0f)))
        exact q0v fun j _=>by rw [memS,covT,evT];rfl
      | group i b1 mv A1 n1 c1 vs1 ms1 hb1 hm1 hn1 hc1 hF1 hl1 hch1 =>
        have hN:=hnest k i ms1 b1 ht hu
        (repeat ((try (conv=>whnf));(first |(refine q0b _ hcu ?_) |(refine stQ ?_))))
        conv=>whnf
        refine q2u [q1s y x0 x1,.val (ptrV b1),.own 0,.own 0] 2 0 (fun vs w=>by kernel_rfl) rfl rfl (by rfl) rfl ((hN.mono hG).own _ (hbd k)) ?_
        conv=>whnf
        (repeat ((try (conv=>whnf));(refine stQ ?_)))
        conv=>whnf
        refine ⟨k+1,by omega,by omega,?_⟩
        ((refine q0g ?_);(conv=>whnf);(refine q0k (by rfl) (by rfl) flQ ?_))
        exact q0c rfl hstep (q0a (by exact flQ) (q0a (by exact flQ) (q0a (by exact flQ) q0f)))
    · obtain rfl:k=vs.length:=by omega
      (repeat ((try (conv=>whnf));(refine stQ ?_)))
      conv=>whnf
      show Blk.own _ _ _ _=_
      rw [hml,List.take_length]
set_option maxHeartbeats 16000000 in
theorem v1n {b:Nat} {hd:List Value} {A:Option Addr} {c:Nat} {vs:List Value} {ms:List Tr} (h0:0<n) (hx:x1=x0+n) (hx0:-8192≤x0∧x0+n≤8192) (hy:-8192≤y∧y<8192) (hb:F b=some (.cells (hd++[Value.slice A vs.length c]).toArray q1j (0,0))) (hh:hd.length=36) (h33:hd[33]? = some (.bool true)) (hc:vs.length≤c∧c≤maxLen) (hF:FlatM F A vs) (hms:NodesM I f F vs ms)
    (hA:AllL (fun i=>RegOk F I R i∧ItOk I f i) (GrOk I) ms) (hnest:∀ (k i:Nat) (ms':List Tr) (b':Nat),ms[k]? = some (.group i ms')→vs[k]? = some (.iface q1p (ptrV b'))→NestC I f R y x0 x1 n F (ptrV b') (.group i ms')) {S:Nat→St} (hS:∀ j,j<n→q0z (S j)) :
    Mends Tryz.prog 62 [q1s y x0 x1,.val (ptrV b),.own 0] F 117 9 n (stL n S) (stL n fun (j:Nat)=>evL (q0u I f R (x0+(j:Int)) y) true (S j) ms (S j)):=by
  have hvl:vs.length≤9223372036854775807:=by have:=hc;unfold maxLen at this;omega
  have hbd:∀ k j,j<n→q0z (evL (q0u I f R (x0+(j:Int)) y) true (S j) (ms.take k) (S j)):=fun k j hj=>z3d (by omega) hy (fun i h=>h.2) (fun i h=>h) _ (hA.take k) _ _ _ (hS j hj) (hS j hj)
  refine q7w tab_ok Tryz.func62 fun G hG=>?_
  have hml:=hms.1
  have cell:∀ (G':Mem),F.le G'→∀ (o:Nat) v,(hd++[Value.slice A vs.length c])[o]? = some v→G'.cell? ⟨b,o,none⟩=some v:=fun G' hG' o v hv=>by
    have h9:=hG' _ _ hb
    unfold Mem.cell?;simp only [h9];simpa using hv
  have c33:=cell G hG 33 (.bool true) (by rw [List.getElem?_append_left (by omega)];exact h33)
  (repeat ((try (conv=>whnf));(first |(refine q0b _ c33 ?_) |(refine stQ ?_))))
  conv=>whnf
  refine z46 (fun vs w=>by kernel_rfl) rfl (by rfl) h0 h0 (fun A' cap G' hle h1 h2 hR=>x1y hR (q15 n S) h0 (by omega) z7m) fun cb cc G1 hG1 hcc hcm hFl=>?_
  have hG:=Mem.le_trans hG hG1
  clear c33 hG1
  have c36:=cell G1 hG 36 (.slice A vs.length c) (by rw [List.getElem?_append_right (by omega),hh];rfl)
  conv=>whnf
  (repeat ((try (conv=>whnf));(first |(refine q0b _ c36 ?_) |(refine stQ ?_))))
  conv=>whnf
  refine q0w tab_ok (fun k=>k≤vs.length) (fun (k:Nat)=>[(24,.val (.int .i64 k))]) (fun k=>[.own 117 9 n (stL n (fun (j:Nat)=>evL (q0u I f R (x0+(j:Int)) y) true (S j) (ms.take k) (S j))),.cells 120 [.val (.int .i64 y),.val (.int .i64 x0),.val (.int .i64 x1)],.cells 115 [.own 0],.cells 115 [.val (.slice (some ⟨cb,0,none⟩) n cc)]]) (fun k=>vs.length-k) 0 (Nat.zero_le _) ?_ ?_
  · ((refine q0g ?_);(conv=>whnf);(refine q0k (by rfl) (by rfl) flQ ?_))
    exact q0c rfl (q0v fun j _=>by simp [evL]) (q0a (by exact flQ) (q0a (by exact flQ) (q0a (by exact flQ) q0f)))
  · intro k hk
    rcases Nat.lt_or_ge k vs.length with h2 |h2
    · obtain ⟨u,hu⟩:∃ u,vs[k]? = some u:=⟨_,List.getElem?_eq_getElem h2⟩
      obtain ⟨t,ht⟩:∃ t,ms[k]? = some t:=⟨_,List.getElem?_eq_getElem (by omega)⟩
      have hnode:=hms.2 k u t hu ht
      have hAt:=hA.get ht
      obtain ⟨p,rfl,hcu⟩:=(hF.mono hG).get hu
      have hstep:stL n (memS I f R y x0 t S (fun (j:Nat)=>evL (q0u I f R (x0+(j:Int)) y) true (S j) (ms.take k) (S j)))=stL n (fun (j:Nat)=>evL (q0u I f R (x0+(j:Int)) y) true (S j) (ms.take (k+1)) (S j)):=q0v fun j _=>by
        rw [x1z ht];simp [memS]
      cases hnode with
      | fill i b1 sv mv hb1 hsv hmv =>
        rw [AllT] at hAt
        have hA1:=hAt
        have c1:G1.cell? ⟨b1,1,none⟩=some (.slice (I i).RA (I i).rn (I i).rq):=by
          unfold Mem.cell?;simp only [hG _ _ hb1];rfl
        (repeat ((try (conv=>whnf));(first |(refine q0b _ hcu ?_) |(refine q0b _ c1 ?_) |(with_reducible refine q29 tab_ok (by kernel_rfl) 7 [] (by decide +kernel) ?_) |(refine stQ ?_))))
        conv=>whnf
        refine x2t hx hx0 hy (hG _ _ hb1) (hsv.mono hG) (hmv.mono hG) (hA1.1.mono hG) hA1.2 (hbd k) hS hFl ?_
        conv=>whnf
        (repeat ((try (conv=>whnf));(refine stQ ?_)))
        conv=>whnf
        refine ⟨k+1,by omega,by omega,?_⟩
        ((refine q0g ?_);(conv=>whnf);(refine q0k (by rfl) (by rfl) flQ ?_))
        refine q0c rfl (Eq.trans ?_ hstep) (q0a (by exact flQ) (q0a (by exact flQ) (q0a (by exact flQ) q0f)))
        exact q0v fun j _=>by rw [memS,covT,evT];rfl
      | group i b1 mv A1 n1 c1 vs1 ms1 hb1 hm1 hn1 hc1 hF1 hl1 hch1 =>
        have hN:=hnest k i ms1 b1 ht hu
        (repeat ((try (conv=>whnf));(first |(refine q0b _ hcu ?_) |(refine stQ ?_))))
        conv=>whnf
        refine q2u [q1s y x0 x1,.val (ptrV b1),.val (.slice (some ⟨cb,0,none⟩) n cc),.own 0] 3 0 (fun vs w=>by kernel_rfl) rfl rfl (by rfl) rfl (hN.val _ S _ cc G1 hG (hbd k) hS hcc hcm hFl) ?_
        conv=>whnf
        (repeat ((try (conv=>whnf));(refine stQ ?_)))
        conv=>whnf
        refine ⟨k+1,by omega,by omega,?_⟩
        ((refine q0g ?_);(conv=>whnf);(refine q0k (by rfl) (by rfl) flQ ?_))
        exact q0c rfl hstep (q0a (by exact flQ) (q0a (by exact flQ) (q0a (by exact flQ) q0f)))
    · obtain rfl:k=vs.length:=by omega
      (repeat ((try (conv=>whnf));(refine stQ ?_)))
      conv=>whnf
      show Blk.own _ _ _ _=_
      rw [hml,List.take_length]
end
end Go.Proofs.YtkicdhaklnmonaaGreat
