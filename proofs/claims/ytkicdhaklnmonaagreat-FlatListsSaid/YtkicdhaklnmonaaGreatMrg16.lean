/-
  Merged: XDilateLaw, XCombined, XErodeR, XRegCheckE, XSomeLaw, XOr, XJoinCmp, XFm.
-/
import Derived.Sort.Grow
import Derived.Deep.Draws
import Derived.Test.YtkicdhaklnmonaaGreatMrg5
import Derived.Test.YtkicdhaklnmonaaGreatMrg13
import Derived.Test.YtkicdhaklnmonaaGreatMrg14
import Derived.Test.YtkicdhaklnmonaaGreatMrg15
import Derived.Test.YtkicdhaklnmonaaGreatShelf
set_option linter.unusedVariables false
set_option linter.unusedSimpArgs false
set_option linter.unnecessarySimpa false
namespace Go.Proofs.YtkicdhaklnmonaaGreat
open Go.RowKit
open Classical in
theorem v2s (L:List Run):∀ (M:List Run),okR M→(∀ r∈L,r.x0<r.x1)→∃ N,okR N∧∀ x y,hasR N x y↔hasR M x y∨hasR L x y:=fun M hM hL=>by
  have:∃ P:List Run,P.Perm (M++L)∧P.Pairwise leR:=by
    refine ⟨(M++L).mergeSort (fun r s=>decide (leR r s)),List.mergeSort_perm _ _,?_⟩
    have:=List.pairwise_mergeSort (le:=fun r s=>decide (leR r s)) (fun a b c h1 h2=>by
      simp only [decide_eq_true_eq] at *;unfold leR at *;omega) (fun a b=>by
      simp only [Bool.or_eq_true,decide_eq_true_eq];unfold leR;omega) (M++L)
    exact this.imp fun h=>by simpa using h
  obtain ⟨P,h1,h2⟩:=this
  obtain ⟨h3,h4⟩:=x4n P [] trivial (by simp) h2
  refine ⟨jn [] P,h3,fun x y=>?_⟩
  rw [h4,z8i h1,q4j]
  exact ⟨fun h=>h.resolve_left q4k,.inr⟩
end Go.Proofs.YtkicdhaklnmonaaGreat
namespace Go.Proofs.YtkicdhaklnmonaaGreat
open Go.RowKit
set_option maxRecDepth 20000
theorem RunsM.flat {G:Mem} {A:Option Addr} {L:List Run} (h:RunsM G A L) (hne:L≠[]):∃ p:Addr,A=some p∧∀ K:List Value→Prop,K (q0r L)→OldCells G p (L.length*3) K:=by
  cases L with
  | nil=>exact absurd rfl hne
  | cons r l =>
    obtain ⟨b,off,rfl,_⟩:=h 0 r (by simp)
    refine ⟨_,rfl,fun K k=>q10 _ (q1h _) (fun j u hj=>?_) k⟩
    have hlt:=(List.getElem?_eq_some_iff.1 hj).1
    rw [q1h] at hlt
    obtain ⟨q,hq⟩:∃ q,(r::l)[j/3]? = some q:=⟨_,List.getElem?_eq_getElem (by omega)⟩
    obtain ⟨b',off',he,c0,c1,c2⟩:=h (j/3) q hq
    cases he
    obtain ⟨d0,d1,d2⟩:=q24 hq
    rw [q0m]
    have hm:j%3=0∨j%3=1∨j%3=2:=by omega
    rcases hm with h0 |h0 |h0
    · have e:j/3*3=j:=by omega
      rw [e] at c0 d0;rw [hj] at d0;cases d0;exact c0
    · have e:j/3*3+1=j:=by omega
      rw [Nat.add_assoc,e] at c1;rw [e] at d1;rw [hj] at d1;cases d1;exact c1
    · have e:j/3*3+2=j:=by omega
      rw [Nat.add_assoc,e] at c2;rw [e] at d2;rw [hj] at d2;cases d2;exact c2
theorem RunsM.src {G:Mem} {A:Option Addr} {L:List Run} (h:RunsM G A L) {K:Nat→List Value→Prop} (k:K L.length (q0r L)):SrcV G A L.length 3 K:=by
  refine ⟨q0r L,q1h L,fun hn=>?_,z1s,k⟩
  obtain ⟨p,h1,h2⟩:=h.flat (by intro e;subst e;simp at hn)
  obtain ⟨vs,⟨h3,h4⟩,h5⟩:=h2 (fun vs=>vs=q0r L) rfl
  exact ⟨p,h1,h5 ▸ h4⟩
structure RowsOf (L:List Run) (i:Nat) (l:List Int):Prop where
  le:i≤L.length
  srt:q3f l
  len:l.length≤i
  has:∀ (j:Nat) r,j<i→L[j]? = some r→r.y∈l
  back:∀ y∈l,∃ (j:Nat) (r:Run),j<i∧L[j]? = some r∧r.y=y
theorem RowsOf.step {L:List Run} {i:Nat} {l:List Int} (h:RowsOf L i l) {r:Run} (hr:L[i]? = some r):RowsOf L (i+1) (ins r.y l) :=
  ⟨(List.getElem?_eq_some_iff.1 hr).1,q57 h.srt,by have:=q46 (x:=r.y) (l:=l);have:=h.len;omega,fun j q hj hq=>by
    rcases Nat.lt_or_ge j i with h1 |h1
    · exact mem_ins.2 (.inr (h.has j q h1 hq))
    · have:j=i:=by omega
      subst this;rw [hr] at hq;cases hq;exact mem_ins.2 (.inl rfl),fun y hy=>by
    rcases mem_ins.1 hy with rfl |hy
    · exact ⟨i,r,Nat.lt_succ_self i,hr,rfl⟩
    · obtain ⟨j,q,h1,h2,h3⟩:=h.back y hy
      exact ⟨j,q,by omega,h2,h3⟩⟩
structure EdgesOf (L:List Run) (Y:Int) (i:Nat) (l:List Int):Prop where
  le:i≤L.length
  srt:q3f l
  len:l.length≤2*i
  has:∀ (j:Nat) r,j<i→L[j]? = some r→r.y=Y→r.x0∈l∧r.x1∈l
theorem EdgesOf.skip {L:List Run} {Y:Int} {i:Nat} {l:List Int} (h:EdgesOf L Y i l) {r:Run} (hr:L[i]? = some r) (hy:r.y≠Y):EdgesOf L Y (i+1) l :=
  ⟨(List.getElem?_eq_some_iff.1 hr).1,h.srt,by have:=h.len;omega,fun j q hj hq hqy=>by
    rcases Nat.lt_or_ge j i with h1 |h1
    · exact h.has j q h1 hq hqy
    · have:j=i:=by omega
      subst this;rw [hr] at hq;cases hq;exact absurd hqy hy⟩
theorem EdgesOf.step {L:List Run} {Y:Int} {i:Nat} {l:List Int} (h:EdgesOf L Y i l) {r:Run} (hr:L[i]? = some r):EdgesOf L Y (i+1) (ins r.x1 (ins r.x0 l)) :=
  ⟨(List.getElem?_eq_some_iff.1 hr).1,q57 (q57 h.srt),by
    have:=q46 (x:=r.x1) (l:=ins r.x0 l);have:=q46 (x:=r.x0) (l:=l);have:=h.len;omega,fun j q hj hq hqy=>by
    rcases Nat.lt_or_ge j i with h1 |h1
    · have:=h.has j q h1 hq hqy
      exact ⟨mem_ins.2 (.inr (mem_ins.2 (.inr this.1))),mem_ins.2 (.inr (mem_ins.2 (.inr this.2)))⟩
    · have:j=i:=by omega
      subst this;rw [hr] at hq;cases hq
      exact ⟨mem_ins.2 (.inr (mem_ins.2 (.inl rfl))),mem_ins.2 (.inl rfl)⟩⟩
theorem x09 {La Lb:List Run} {i:Nat} (h:i<La.length):(La++Lb)[i]? = some (nthR La i):=by
  rw [List.getElem?_append_left h,List.getElem?_eq_getElem h];simp [nthR,List.getElem?_eq_getElem h]
theorem z8v {La Lb:List Run} {i:Nat} (h:i<Lb.length):(La++Lb)[La.length+i]? = some (nthR Lb i):=by
  rw [List.getElem?_append_right (by omega),show La.length+i-La.length=i by omega,List.getElem?_eq_getElem h];simp [nthR,List.getElem?_eq_getElem h]
theorem EdgesOf.borders {La Lb:List Run} {Y:Int} {l:List Int} (h:EdgesOf (La++Lb) Y (La.length+Lb.length) l):Borders (nthR La) (nthR Lb) La.length Lb.length Y l :=
  ⟨h.srt,fun i hi hy=>h.has i _ (by omega) (x09 hi) hy,fun i hi hy=>h.has (La.length+i) _ (by omega) (z8v hi) hy⟩
theorem x61 {k:Int} {La Lb:List Run} (va:ValidL La) (vb:ValidL Lb) {rows:List Int} {q:Nat} {Y p:Int} {out:List Run} (h:CellsAt (opB k) (nthR La) (nthR Lb) La.length Lb.length rows q Y p out):out.length≤268451840 :=
  z56 h.ok (x04 (c:=k) va vb h.ok fun x y hx=>by have:=((h.has x y).1 hx).1;rwa [q52,q52] at this)
set_option maxHeartbeats 4000000 in
theorem z7e (A B:Option Addr) (La Lb:List Run) (c d:Nat) (k:Int) (G:Mem) (hA:RunsM G A La) (hB:RunsM G B Lb) (va:ValidL La) (vb:ValidL Lb):q5k Tryz.prog 12 [.val (.slice A La.length c),.val (.slice B Lb.length d),.val (.int .i64 k)] G id 78 3 (mixR k La Lb).length (q0r (mixR k La Lb)):=by
  have hla:=va.length
  have hlb:=vb.length
  refine q5x tab_ok Tryz.func12 (.alone fun _=>rfl) ?_
  (repeat ((try (conv=>whnf));(refine stQ ?_)))
  conv=>whnf
  refine hA.src ?_
  (repeat ((try (conv=>whnf));(refine stQ ?_)))
  conv=>whnf
  refine hB.src ?_
  have hN:(La++Lb).length=La.length+Lb.length:=by simp
  (repeat ((try (conv=>whnf));(refine stQ ?_)))
  conv=>whnf
  refine q50 tab_ok (fun (i:Nat) (l:List Int)=>RowsOf (La++Lb) i l) (fun i l=>[(26,.val (.int .i64 i)),(8,.own 3)]) (fun i l=>[.gone,.gone,.own 78 3 (La.length+Lb.length) (q0r La++q0r Lb),.own 3 1 l.length (ints l)]) (fun i l=>La.length+Lb.length-i) 0 [] ⟨Nat.zero_le _,by simp [q3f],Nat.le_refl _,fun j r hj=>by omega,fun y hy=>by cases hy⟩ ?_ ?_
  · refine q3z 3 1 ?_
    conv=>whnf
    ((refine q0g ?_);(conv=>whnf);(refine q0k (by rfl) (by rfl) flQ ?_))
    exact q0j (q0j (q0c rfl rfl (q0c rfl rfl q0f)))
  · intro i l hi
    rcases Nat.lt_or_ge i (La++Lb).length with h1 |h1
    · obtain ⟨r,hr⟩:∃ r,(La++Lb)[i]? = some r:=⟨_,List.getElem?_eq_getElem h1⟩
      obtain ⟨c0,c1,c2⟩:=q24 hr
      rw [q1m] at c0 c1 c2
      have hll:l.length≤i:=hi.len
      (repeat ((try (conv=>whnf));(refine stQ ?_)))
      conv=>whnf
      refine q0l _ (by rw [Int.toNat_natCast];exact c0) ?_
      (repeat ((try (conv=>whnf));(refine stQ ?_)))
      conv=>whnf
      refine q3t (fun vs w=>by kernel_rfl) (by rfl) (by kernel_rfl) (q2s l r.y _ (by omega)) ?_
      (repeat ((try (conv=>whnf));(refine stQ ?_)))
      refine ⟨i+1,ins r.y l,hi.step hr,by omega,?_⟩
      refine q1y 4 3 rfl rfl rfl rfl ?_
      conv=>whnf
      ((refine q0g ?_);(conv=>whnf);(refine q0k (by rfl) (by rfl) flQ ?_))
      exact q0j (q0j (q0c rfl rfl (q0c rfl rfl q0f)))
    · have hi1:=hi.le
      have hie:i=La.length+Lb.length:=by omega
      subst hie
      have hsrt:=hi.srt
      (repeat ((try (conv=>whnf));(refine stQ ?_)))
      conv=>whnf
      refine q50 tab_ok (fun (q:Nat) (out:List Run)=>q≤l.length∧RowsAt (opB k) (nthR La) (nthR Lb) La.length Lb.length l q out) (fun q out=>[(39,.val (.int .i64 q)),(10,.own 4)]) (fun q out=>[.gone,.gone,.own 78 3 (La.length+Lb.length) (q0r La++q0r Lb),.own 3 1 l.length (ints l),.own 78 3 out.length (q0r out)]) (fun q out=>l.length-q) 0 [] ⟨Nat.zero_le _,RowsAt.start _ _ _ _ _ _⟩ ?_ ?_
      · refine q3z 78 3 ?_
        conv=>whnf
        ((refine q0g ?_);(conv=>whnf);(refine q0k (by rfl) (by rfl) flQ ?_))
        exact q0j (q0j (q0c rfl rfl (q0c rfl rfl (q0c rfl rfl q0f))))
      · rintro q out ⟨hq,hrows⟩
        have hll:l.length≤La.length+Lb.length:=hi.len
        rcases Nat.lt_or_ge q l.length with h2 |h2
        · obtain ⟨Y,hY⟩:∃ Y,l[q]? = some Y:=⟨_,List.getElem?_eq_getElem h2⟩
          (repeat ((try (conv=>whnf));(refine stQ ?_)))
          conv=>whnf
          refine q0l (.int .i64 Y) (by rw [Int.toNat_natCast,Nat.mul_one];exact q51 hY) ?_
          (repeat ((try (conv=>whnf));(refine stQ ?_)))
          conv=>whnf
          refine q50 tab_ok (fun (i:Nat) (xs:List Int)=>EdgesOf (La++Lb) Y i xs) (fun i xs=>[(45,.val (.int .i64 i)),(13,.own 5)]) (fun i xs=>[.gone,.gone,.own 78 3 (La.length+Lb.length) (q0r La++q0r Lb),.own 3 1 l.length (ints l),.own 78 3 out.length (q0r out),.own 3 1 xs.length (ints xs)]) (fun i xs=>La.length+Lb.length-i) 0 [] ⟨Nat.zero_le _,by simp [q3f],Nat.le_refl _,fun j r hj=>by omega⟩ ?_ ?_
          · refine q3z 3 1 ?_
            conv=>whnf
            ((refine q0g ?_);(conv=>whnf);(refine q0k (by rfl) (by rfl) flQ ?_))
            exact q0j (q0j (q0c rfl rfl (q0c rfl rfl (q0c rfl rfl (q0c rfl rfl q0f)))))
          · intro i xs hx
            have hxl:=hx.len
            have hxe:=hx.le
            rcases Nat.lt_or_ge i (La++Lb).length with h3 |h3
            · obtain ⟨r,hr⟩:∃ r,(La++Lb)[i]? = some r:=⟨_,List.getElem?_eq_getElem h3⟩
              obtain ⟨c0,c1,c2⟩:=q24 hr
              rw [q1m] at c0 c1 c2
              by_cases hy:r.y=Y
              · (repeat ((try (conv=>whnf));(refine stQ ?_)))
                conv=>whnf
                refine q0l _ (by rw [Int.toNat_natCast];exact c0) ?_
                have hi0:=q46 (x:=r.x0) (l:=xs)
                (repeat ((try (conv=>whnf));(first |(with_reducible refine q29 tab_ok (by kernel_rfl) 12 [5] (by decide +kernel) ?_) |(refine stQ ?_) |(with_reducible first |refine q3t (fun vs w=>by kernel_rfl) (by kernel_rfl) (by kernel_rfl) (q2s xs r.x0 _ (by omega)) ?_ |refine q6o (by kernel_rfl) (fun vs w=>by kernel_rfl) (by kernel_rfl) (q2s xs r.x0 _ (by omega)) ?_ |refine q3t (fun vs w=>by kernel_rfl) (by kernel_rfl) (by kernel_rfl) (q2s (ins r.x0 xs) r.x1 _ (by omega)) ?_ |refine q6o (by kernel_rfl) (fun vs w=>by kernel_rfl) (by kernel_rfl) (q2s (ins r.x0 xs) r.x1 _ (by omega)) ?_))))
                conv=>whnf
                refine q0l _ (by rw [Int.toNat_natCast];exact c1) ?_
                (repeat ((try (conv=>whnf));(first |(with_reducible refine q29 tab_ok (by kernel_rfl) 12 [5] (by decide +kernel) ?_) |(refine stQ ?_) |(with_reducible first |refine q3t (fun vs w=>by kernel_rfl) (by kernel_rfl) (by kernel_rfl) (q2s xs r.x0 _ (by omega)) ?_ |refine q6o (by kernel_rfl) (fun vs w=>by kernel_rfl) (by kernel_rfl) (q2s xs r.x0 _ (by omega)) ?_ |refine q3t (fun vs w=>by kernel_rfl) (by kernel_rfl) (by kernel_rfl) (q2s (ins r.x0 xs) r.x1 _ (by omega)) ?_ |refine q6o (by kernel_rfl) (fun vs w=>by kernel_rfl) (by kernel_rfl) (q2s (ins r.x0 xs) r.x1 _ (by omega)) ?_))))
                conv=>whnf
                refine q0l _ (by rw [Int.toNat_natCast];exact c2) ?_
                (repeat ((try (conv=>whnf));(first |(with_reducible refine q29 tab_ok (by kernel_rfl) 12 [5] (by decide +kernel) ?_) |(refine stQ ?_) |(with_reducible first |refine q3t (fun vs w=>by kernel_rfl) (by kernel_rfl) (by kernel_rfl) (q2s xs r.x0 _ (by omega)) ?_ |refine q6o (by kernel_rfl) (fun vs w=>by kernel_rfl) (by kernel_rfl) (q2s xs r.x0 _ (by omega)) ?_ |refine q3t (fun vs w=>by kernel_rfl) (by kernel_rfl) (by kernel_rfl) (q2s (ins r.x0 xs) r.x1 _ (by omega)) ?_ |refine q6o (by kernel_rfl) (fun vs w=>by kernel_rfl) (by kernel_rfl) (q2s (ins r.x0 xs) r.x1 _ (by omega)) ?_))))
                refine ⟨i+1,ins r.x1 (ins r.x0 xs),hx.step hr,by omega,?_⟩
                refine q1y 7 5 rfl rfl rfl rfl ?_
                conv=>whnf
                ((refine q0g ?_);(conv=>whnf);(refine q0k (by rfl) (by rfl) flQ ?_))
                exact q0j (q0j (q0c rfl rfl (q0c rfl rfl (q0c rfl rfl (q0c rfl rfl q0f)))))
              · (repeat ((try (conv=>whnf));(refine stQ ?_)))
                conv=>whnf
                refine q0l _ (by rw [Int.toNat_natCast];exact c0) ?_
                (repeat ((try (conv=>whnf));(refine stQ ?_)))
                refine ⟨i+1,xs,hx.skip hr hy,by omega,?_⟩
                ((refine q0g ?_);(conv=>whnf);(refine q0k (by rfl) (by rfl) flQ ?_))
                exact q0j (q0j (q0c rfl rfl (q0c rfl rfl (q0c rfl rfl (q0c rfl rfl q0f)))))
            · have hie:i=La.length+Lb.length:=by omega
              subst hie
              have hb:=hx.borders
              obtain ⟨p0,hp0⟩:∃ p0,xs[0]? = some p0:=by
                obtain ⟨j,r,e1,e2,e3⟩:=hi.back Y (List.mem_of_getElem? hY)
                have:=(hx.has j r e1 e2 e3).1
                cases xs with
                | nil=>cases this
                | cons z xs=>exact ⟨z,rfl⟩
              clear hi hx
              (repeat ((try (conv=>whnf));(refine stQ ?_)))
              conv=>whnf
              refine q50 tab_ok (fun (j:Nat) (o:List Run)=>∃ p,xs[j]? = some p∧CellsAt (opB k) (nthR La) (nthR Lb) La.length Lb.length l q Y p o) (fun j o=>[(15,.val (.int .i64 j)),(10,.own 4)]) (fun j o=>[.gone,.gone,.own 78 3 (La.length+Lb.length) (q0r La++q0r Lb),.own 3 1 l.length (ints l),.own 78 3 o.length (q0r o),.own 3 1 xs.length (ints xs)]) (fun j o=>xs.length-j) 0 out ⟨p0,hp0,hrows.enter (z2x k) hsrt hY hb hp0⟩ ?_ ?_
              · ((refine q0g ?_);(conv=>whnf);(refine q0k (by rfl) (by rfl) flQ ?_))
                exact q0j (q0j (q0c rfl rfl (q0c rfl rfl (q0c rfl rfl (q0c rfl rfl q0f)))))
              · rintro j o ⟨p,hp,hc⟩
                have hjl:=(List.getElem?_eq_some_iff.1 hp).1
                have hol:=x61 va vb hc
                rcases Nat.lt_or_ge (j+1) xs.length with h4 |h4
                · obtain ⟨p',hp'⟩:∃ p',xs[j+1]? = some p':=⟨_,List.getElem?_eq_getElem h4⟩
                  have hlt:=q47 hb.srt (Nat.lt_succ_self j) hp hp'
                  have hst:=hc.step hb hp hp'
                  rw [q52,q52] at hst
                  have hyes:opB k (hasL La p Y) (hasL Lb p Y)=true→CellsAt (opB k) (nthR La) (nthR Lb) La.length Lb.length l q Y p' (q5l o Y p p'):=fun h=>by
                    rw [if_pos h] at hst;rw [x6u hc.up hlt];exact hst
                  have hno:opB k (hasL La p Y) (hasL Lb p Y)=false→CellsAt (opB k) (nthR La) (nthR Lb) La.length Lb.length l q Y p' o:=fun h=>by
                    rw [if_neg (by rw [h];simp)] at hst;exact hst
                  clear hst hc hrows hb
                  have g1:=z8q A La c p Y G hA (by omega)
                  have g2:=z8q B Lb d p Y G hB (by omega)
                  have hcode:k=1∨k=2∨k=3∨(k≠1∧k≠2∧k≠3):=by omega
                  rcases hcode with hk |hk |hk |⟨hk,hk',hk''⟩ <;> cases hpa:hasL La p Y <;> cases hqa:hasL Lb p Y <;> rw [hpa,hqa] at hyes hno <;> rw [hpa] at g1 <;> rw [hqa] at g2
                  all_goals
                    (repeat ((try (conv=>whnf));(first |(with_reducible first |refine q29 tab_ok (by kernel_rfl) 11 [] (by decide +kernel) ?_ |refine q0l (.int .i64 p) (x86 hp) ?_ |refine q0l (.int .i64 p') (x6s hp') ?_ |refine q95 (by kernel_rfl) ?_) |(refine stQ ?_) |(with_reducible first |refine q0e (fun vs w=>by kernel_rfl) (by kernel_rfl) (g1) ?_ |refine q0d (fun vs w=>by kernel_rfl) (by kernel_rfl) (g1) ?_ |refine q0e (fun vs w=>by kernel_rfl) (by kernel_rfl) (g2) ?_ |refine q0d (fun vs w=>by kernel_rfl) (by kernel_rfl) (g2) ?_ |refine q3t (fun vs w=>by kernel_rfl) (by kernel_rfl) (by kernel_rfl) (z2v o Y p p' _ (by omega)) ?_ |refine q6o (by kernel_rfl) (fun vs w=>by kernel_rfl) (by kernel_rfl) (z2v o Y p p' _ (by omega)) ?_))))
                    conv=>whnf
                    first
                    | (refine ⟨j+1,q5l o Y p p',⟨p',hp',hyes (by first |(simp [opB,hk,hk',hk''];done) |(simp [opB,hk];done))⟩,by omega,?_⟩
                       refine q1y 6 4 rfl rfl rfl rfl ?_
                       conv=>whnf
                       ((refine q0g ?_);(conv=>whnf);(refine q0k (by rfl) (by rfl) flQ ?_))
                       exact q0j (q0j (q0c rfl rfl (q0c rfl rfl (q0c rfl rfl (q0c rfl rfl q0f))))))
                    | (refine ⟨j+1,o,⟨p',hp',hno (by first |(simp [opB,hk,hk',hk''];done) |(simp [opB,hk];done))⟩,by omega,?_⟩
                       ((refine q0g ?_);(conv=>whnf);(refine q0k (by rfl) (by rfl) flQ ?_))
                       exact q0j (q0j (q0c rfl rfl (q0c rfl rfl (q0c rfl rfl (q0c rfl rfl q0f))))))
                · have hend:=hc.leave (z2x k) hY hb hp (by omega)
                  (repeat ((try (conv=>whnf));(refine stQ ?_)))
                  refine ⟨q+1,o,⟨by omega,hend⟩,by omega,?_⟩
                  ((refine q0g ?_);(conv=>whnf);(refine q0k (by rfl) (by rfl) flQ ?_))
                  exact q0j (q0j (q0c rfl rfl (q0c rfl rfl (q0c rfl rfl q0f))))
        · have hqe:q=l.length:=by omega
          subst hqe
          obtain ⟨d1,d2⟩:=hrows.done (z2x k) (fun i h3=>hi.has i _ (by omega) (x09 h3)) (fun i h3=>hi.has (La.length+i) _ (by omega) (z8v h3))
          have hmix:=v1c (c:=k) va vb d1 (fun x y=>by rw [d2,q52,q52])
          (repeat ((try (conv=>whnf));(refine stQ ?_)))
          exact .inl ⟨4,rfl,by rw [← hmix];rfl⟩
end Go.Proofs.YtkicdhaklnmonaaGreat
namespace Go.Proofs.YtkicdhaklnmonaaGreat
open Go.RowKit
set_option maxRecDepth 20000
structure EdgF (f g:Run→Int) (P:Run→Prop) (L:List Run) (i:Nat) (l:List Int):Prop where
  le:i≤L.length
  srt:q3f l
  len:l.length≤2*i
  bd:∀ z∈l,-9000≤z∧z≤9000
  has:∀ (j:Nat) r,j<i→L[j]? = some r→P r→f r∈l∧g r∈l
theorem EdgF.start (f g:Run→Int) (P:Run→Prop) (L:List Run):EdgF f g P L 0 [] :=
  ⟨Nat.zero_le _,by simp [q3f],Nat.le_refl _,(by simp),fun j r hj=>by omega⟩
theorem EdgF.skip {f g:Run→Int} {P:Run→Prop} {L:List Run} {i:Nat} {l:List Int} (h:EdgF f g P L i l) {r:Run} (hr:L[i]? = some r) (hy:¬ P r):EdgF f g P L (i+1) l :=
  ⟨(List.getElem?_eq_some_iff.1 hr).1,h.srt,by have:=h.len;omega,h.bd,fun j q hj hq hqy=>by
    rcases Nat.lt_or_ge j i with h1 |h1
    · exact h.has j q h1 hq hqy
    · have:j=i:=by omega
      subst this;rw [hr] at hq;cases hq;exact absurd hqy hy⟩
theorem EdgF.step {f g:Run→Int} {P:Run→Prop} {L:List Run} {i:Nat} {l:List Int} (h:EdgF f g P L i l) {r:Run} (hr:L[i]? = some r) {a b:Int} (ha:f r=a) (hb:g r=b) (h1:-9000≤a∧a≤9000) (h2:-9000≤b∧b≤9000):EdgF f g P L (i+1) (ins b (ins a l)) :=
  ⟨(List.getElem?_eq_some_iff.1 hr).1,q57 (q57 h.srt),by
    have:=q46 (x:=b) (l:=ins a l);have:=q46 (x:=a) (l:=l);have:=h.len;omega,fun z hz=>by
    rcases mem_ins.1 hz with rfl |hz
    · exact h2
    · rcases mem_ins.1 hz with rfl |hz
      · exact h1
      · exact h.bd z hz,fun j q hj hq hqy=>by
    rcases Nat.lt_or_ge j i with h1 |h1
    · have:=h.has j q h1 hq hqy
      exact ⟨mem_ins.2 (.inr (mem_ins.2 (.inr this.1))),mem_ins.2 (.inr (mem_ins.2 (.inr this.2)))⟩
    · have:j=i:=by omega
      subst this;rw [hr] at hq;cases hq
      exact ⟨mem_ins.2 (.inr (mem_ins.2 (.inl ha))),mem_ins.2 (.inl hb)⟩⟩
theorem EdgF.borders {f g:Run→Int} {P:Run→Prop} {L E:List Run} {Y:Int} {l:List Int} (h:EdgF f g P L L.length l) (hE:∀ s∈E,s.y=Y→(∃ r∈L,P r∧f r=s.x0∨r∈L∧P r∧g r=s.x0)∧(∃ r∈L,P r∧f r=s.x1∨r∈L∧P r∧g r=s.x1)):Borders (nthR E) (nthR []) E.length 0 Y l:=by
  have key:∀ z,(∃ r∈L,P r∧f r=z∨r∈L∧P r∧g r=z)→z∈l:=by
    rintro z ⟨r,hr,h1⟩
    obtain ⟨j,hj⟩:=List.getElem?_of_mem hr
    have hjl:=(List.getElem?_eq_some_iff.1 hj).1
    rcases h1 with ⟨h2,h3⟩ |⟨_,h2,h3⟩
    · rw [← h3];exact (h.has j r hjl hj h2).1
    · rw [← h3];exact (h.has j r hjl hj h2).2
  refine ⟨h.srt,fun i hi hy=>?_,fun i hi=>by omega⟩
  have hq:E[i]? = some E[i]:=List.getElem?_eq_getElem hi
  rw [q4m hq] at hy ⊢
  obtain ⟨h1,h2⟩:=hE _ (List.getElem_mem hi) hy
  exact ⟨key _ h1,key _ h2⟩
end Go.Proofs.YtkicdhaklnmonaaGreat
namespace Go.Proofs.YtkicdhaklnmonaaGreat
open Go.RowKit
set_option maxRecDepth 20000
theorem q6z {L:List Run} (h:errL L=0):ValidL L:=x8h h
end Go.Proofs.YtkicdhaklnmonaaGreat
namespace Go.Proofs.YtkicdhaklnmonaaGreat
open Go.RowKit
def catL (p:Nat→PcD) (sel:(Nat→Int)→Bool):Nat→List Run
  | 0=>[]
  | n+1=>if sel (p n).I=true then catL p sel n++(p n).L else catL p sel n
theorem z4x {p:Nat→PcD} {sel:(Nat→Int)→Bool} {n:Nat} (h:sel (p n).I=true):catL p sel (n+1)=catL p sel n++(p n).L:=if_pos h
theorem x3x {p:Nat→PcD} {sel:(Nat→Int)→Bool} {n:Nat} (h:sel (p n).I=false):catL p sel (n+1)=catL p sel n:=if_neg (by simp [h])
theorem x1a {p:Nat→PcD} {sel:(Nat→Int)→Bool} {B:Nat}:∀ {n:Nat},(∀ k,k<n→(p k).L.length≤B)→(catL p sel n).length≤n*B
  | 0,_=>by simp [catL]
  | n+1,h=>by
    have ih:=x1a (sel:=sel) (n:=n) (fun k hk=>h k (by omega))
    have h1:=h n (by omega)
    have e:(n+1)*B=n*B+B:=Nat.succ_mul n B
    cases hs:sel (p n).I with
    | true=>rw [z4x hs,List.length_append];omega
    | false=>rw [x3x hs];omega
theorem catL_mem {p:Nat→PcD} {sel:(Nat→Int)→Bool} {r:Run}:∀ {n:Nat},r∈catL p sel n↔∃ k,k<n∧sel (p k).I=true∧r∈(p k).L
  | 0=>by simp [catL]
  | n+1=>by
    have ih:=catL_mem (p:=p) (sel:=sel) (r:=r) (n:=n)
    cases hs:sel (p n).I with
    | true =>
      rw [z4x hs,List.mem_append,ih]
      constructor
      · rintro (⟨k,h1,h2,h3⟩ |h3)
        · exact ⟨k,by omega,h2,h3⟩
        · exact ⟨n,by omega,hs,h3⟩
      · rintro ⟨k,h1,h2,h3⟩
        by_cases e:k=n
        · subst e;exact .inr h3
        · exact .inl ⟨k,by omega,h2,h3⟩
    | false =>
      rw [x3x hs,ih]
      constructor
      · rintro ⟨k,h1,h2,h3⟩;exact ⟨k,by omega,h2,h3⟩
      · rintro ⟨k,h1,h2,h3⟩
        by_cases e:k=n
        · subst e;rw [hs] at h2;cases h2
        · exact ⟨k,by omega,h2,h3⟩
theorem x9d {p:Nat→PcD} {sel:(Nat→Int)→Bool} {n:Nat} {x y:Int}:hasR (catL p sel n) x y↔∃ k,k<n∧sel (p k).I=true∧hasR (p k).L x y:=by
  constructor
  · rintro ⟨r,h,h2⟩
    obtain ⟨k,h3,h4,h5⟩:=catL_mem.1 h
    exact ⟨k,h3,h4,r,h5,h2⟩
  · rintro ⟨k,h3,h4,r,h5,h2⟩
    exact ⟨r,catL_mem.2 ⟨k,h3,h4,h5⟩,h2⟩
theorem x9e {L:List Run} (h:okR L) (hb:∀ r∈L,(0≤r.y∧r.y<4096)∧0≤r.x0∧r.x1≤4096):L.length≤33554432:=by
  have hp:(L.map fun r=>r.y*8192+r.x1).Pairwise (·<·):=by
    rw [List.pairwise_map,List.pairwise_iff_getElem]
    intro i j hi hj hij
    have h1:=q9m h hij (List.getElem?_eq_getElem hi) (List.getElem?_eq_getElem hj)
    have h2:=hb _ (List.getElem_mem hi)
    have h3:=hb _ (List.getElem_mem hj)
    have h4:=q56 h (List.getElem_mem hj)
    have h5:=q56 h (List.getElem_mem hi)
    omega
  have:=z4g hp (B:=33554432) (fun z hz=>by
    obtain ⟨r,hr,rfl⟩:=List.mem_map.1 hz
    have h1:=hb r hr
    have h2:=q56 h hr
    omega)
  simpa using this
theorem PcsOk.valid {w h:Int} {n:Nat} {p:Nat→PcD} (ok:PcsOk w h n p) {k:Nat} (hk:k<n):ValidL (p k).L:=q6z (ok.one k hk).1
theorem PcsOk.short {w h:Int} {n:Nat} {p:Nat→PcD} (ok:PcsOk w h n p) {k:Nat} (hk:k<n):(p k).L.length≤33554432:=by
  refine x9e (ok.valid hk).ok fun r hr=>?_
  have:=(ok.one k hk).2.2.1 r hr
  have hw:=ok.wd
  have hh:=ok.ht
  unfold outP at this
  omega
theorem PcsOk.cat_len {w h:Int} {n m:Nat} {p:Nat→PcD} {sel:(Nat→Int)→Bool} (ok:PcsOk w h n p) (hm:m≤n):(catL p sel m).length≤137438953472:=by
  have h1:=x1a (sel:=sel) (B:=33554432) (n:=m) fun k hk=>ok.short (k:=k) (by omega)
  have h2:=ok.few
  omega
theorem PcsOk.cat_bd {w h:Int} {n:Nat} {p:Nat→PcD} {sel:(Nat→Int)→Bool} (ok:PcsOk w h n p) {r:Run} (hr:r∈catL p sel n):(0≤r.y∧r.y<16*h)∧0≤r.x0∧r.x0<r.x1∧r.x1≤16*w:=by
  obtain ⟨k,h1,h2,h3⟩:=catL_mem.1 hr
  have h4:=(ok.one k h1).2.2.1 r h3
  have h5:=(ok.valid h1).bd h3
  unfold outP at h4
  omega
noncomputable def z30 (p:Nat→PcD) (sel:(Nat→Int)→Bool) (n:Nat):List Run:=q97 (catL p sel n)
theorem PcsOk.some_ok {w h:Int} {n:Nat} {p:Nat→PcD} {sel:(Nat→Int)→Bool} (ok:PcsOk w h n p):okR (z30 p sel n)∧∀ x y,hasR (z30 p sel n) x y↔∃ k,k<n∧sel (p k).I=true∧hasR (p k).L x y:=by
  obtain ⟨N,h1,h2⟩:=v2s (catL p sel n) [] trivial (fun r hr=>(ok.cat_bd hr).2.2.1)
  have e:q97 (catL p sel n)=N:=x0t h1 fun u v=>by rw [h2];exact ⟨fun h=>h.resolve_left q4k,.inr⟩
  unfold z30
  rw [e]
  refine ⟨h1,fun x y=>?_⟩
  rw [h2,x9d]
  exact ⟨fun h=>h.resolve_left q4k,.inr⟩
end Go.Proofs.YtkicdhaklnmonaaGreat
namespace Go.Proofs.YtkicdhaklnmonaaGreat
open Go.RowKit
set_option maxRecDepth 20000
def orI (a c:Int):Int:=if a=0 then c else a
end Go.Proofs.YtkicdhaklnmonaaGreat
namespace Go.Proofs.YtkicdhaklnmonaaGreat
open Go.RowKit Go.Shelf Go.Lib Go.Sort
set_option maxRecDepth 20000
set_option maxHeartbeats 2000000 in
theorem x9f (b:Nat) (a c:Int) (W:World) (h0:W.cell? ⟨b,0,none⟩=some (.int .i64 a)) (h1:W.cell? ⟨b,1,none⟩=some (.int .i64 c)) :
    Calls Tryz.prog 67 #[.slice (some ⟨b,0,none⟩) 2 2] W fun e w'=>e=.returned (.int .i64 (orI a c))∧∃ q,w'=W.drewN q:=by
  go_enter Tryz.func67,Tryz.ntmps67
  by_cases ha:a=0
  · subst ha
    go_wp2
    refine wp_loop_rounds 3 ?_
    rw [rounds_succ]
    go_wp2
    repeat any_goals (rw [rounds_succ];go_wp2)
    all_goals go_ret
    all_goals ((try have hc:c=0:=by simpa using ‹(c != 0)=false›);(try subst hc);exact ⟨by simp [orI],0,rfl⟩)
  · go_wp2
    refine wp_loop_rounds 3 ?_
    rw [rounds_succ]
    go_wp2
    repeat any_goals (rw [rounds_succ];go_wp2)
    all_goals go_ret
    all_goals exact ⟨by simp [orI,ha],0,rfl⟩
structure BRun where
  r:Run
  hy:-1152921504606846976≤r.y∧r.y≤1152921504606846976
  hx:-1152921504606846976≤r.x0∧r.x0≤1152921504606846976
instance:Inhabited BRun:=⟨⟨⟨0,0,0⟩,by simp,by simp⟩⟩
def encB (r:BRun):List Value:=[.int .i64 r.r.y,.int .i64 r.r.x0,.int .i64 r.r.x1]
def cmpB (r s:BRun):Int:=orI (r.r.y-s.r.y) (r.r.x0-s.r.x0)
set_option maxHeartbeats 2000000 in
theorem x9g (x y:BRun) (W:World):Calls Tryz.prog 72 #[.agg (encB x).toArray,.agg (encB y).toArray] W fun e w'=>e=.returned (.int .i64 (cmpB x y))∧∃ q os',w'=grow (W.drewN q) os':=by
  obtain ⟨⟨a,b,c⟩,h1,h2⟩:=x
  obtain ⟨⟨d,e,f⟩,h3,h4⟩:=y
  simp only at h1 h2 h3 h4
  have hcon:=fun k W' h h'=>x9f k (a-d) (b-e) W' h h'
  simp only [cmpB,encB]
  generalize hr:orI (a-d) (b-e)=r at hcon
  have w1:IntKind.i64.wrap (a-d)=a-d:=IntWalk.i64_in _ (by omega)
  have w2:IntKind.i64.wrap (b-e)=b-e:=IntWalk.i64_in _ (by omega)
  show Calls Tryz.prog 72 #[.agg #[.int .i64 a,.int .i64 b,.int .i64 c],.agg #[.int .i64 d,.int .i64 e,.int .i64 f]] W _
  go_enter Tryz.func72,Tryz.ntmps72
  go_wp2_with (go_at_call 67;refine (hcon _ _ (by go_simp) (by go_simp)).mono ?_;rintro e w' ⟨rfl,q,rfl⟩)
  go_ret
  exact ⟨rfl,q,_,by rw [alloc_eq_grow,alloc_eq_grow,alloc_eq_grow,grow_grow,grow_grow];rfl⟩
end Go.Proofs.YtkicdhaklnmonaaGreat
namespace Go.Proofs.YtkicdhaklnmonaaGreat
open Go.RowKit
section
variable {α:Type} {enc:α→List Value} {k:Nat}
theorem q42 (hk:∀ x,(enc x).length=k):∀ (l:List α),(l.flatMap enc).length=l.length*k
  | []=>by simp
  | a::l=>by rw [List.flatMap_cons,List.length_append,hk,q42 hk l,List.length_cons,Nat.add_mul];omega
theorem x1b (hk:∀ x,(enc x).length=k):∀ (l:List α) (i j:Nat) (x:α),l[i]? = some x→j<k→(l.flatMap enc)[i*k+j]? = (enc x)[j]?
  | [],i,j,x,h,_=>by simp at h
  | a::l,0,j,x,h,hj=>by
    simp at h;subst h
    rw [List.flatMap_cons,Nat.zero_mul,Nat.zero_add,List.getElem?_append_left (by rw [hk];exact hj)]
  | a::l,i+1,j,x,h,hj=>by
    rw [List.flatMap_cons,List.getElem?_append_right (by rw [hk,Nat.add_mul];omega),hk]
    rw [show (i+1)*k+j-k=i*k+j by rw [Nat.add_mul];omega]
    exact x1b hk l i j x (by simpa using h) hj
end
end Go.Proofs.YtkicdhaklnmonaaGreat
