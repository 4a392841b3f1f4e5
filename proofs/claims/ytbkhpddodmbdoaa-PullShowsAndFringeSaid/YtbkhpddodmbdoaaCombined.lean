/-
  The reference's Combined.
-/
import Derived.Test.YtbkhpddodmbdoaaMrg10
set_option linter.unusedVariables false
set_option linter.unusedSimpArgs false
set_option linter.unnecessarySimpa false
namespace Go.Proofs.Ytbkhpddodmbdoaa
open Go.RowKit
set_option maxRecDepth 20000
theorem RunsM.flat {G:Mem} {A:Option Addr} {L:List Run} (h:RunsM G A L) (hne:L≠[]):∃ p:Addr,A=some p∧∀ K:List Value→Prop,K (q0o L)→OldCells G p (L.length*3) K:=by
  cases L with
  | nil=>exact absurd rfl hne
  | cons r l =>
    obtain ⟨b,off,rfl,_⟩:=h 0 r (by simp)
    refine ⟨_,rfl,fun K k=>q41 _ (q1c _) (fun j u hj=>?_) k⟩
    have hlt:=(List.getElem?_eq_some_iff.1 hj).1
    rw [q1c] at hlt
    obtain ⟨q,hq⟩:∃ q,(r::l)[j/3]? = some q:=⟨_,List.getElem?_eq_getElem (by omega)⟩
    obtain ⟨b',off',he,c0,c1,c2⟩:=h (j/3) q hq
    cases he
    obtain ⟨d0,d1,d2⟩:=q3q hq
    rw [q0t]
    have hm:j%3=0∨j%3=1∨j%3=2:=by omega
    rcases hm with h0 |h0 |h0
    · have e:j/3*3=j:=by omega
      rw [e] at c0 d0;rw [hj] at d0;cases d0;exact c0
    · have e:j/3*3+1=j:=by omega
      rw [Nat.add_assoc,e] at c1;rw [e] at d1;rw [hj] at d1;cases d1;exact c1
    · have e:j/3*3+2=j:=by omega
      rw [Nat.add_assoc,e] at c2;rw [e] at d2;rw [hj] at d2;cases d2;exact c2
theorem RunsM.src {G:Mem} {A:Option Addr} {L:List Run} (h:RunsM G A L) {K:Nat→List Value→Prop} (k:K L.length (q0o L)):SrcV G A L.length 3 K:=by
  refine ⟨q0o L,q1c L,fun hn=>?_,z3x,k⟩
  obtain ⟨p,h1,h2⟩:=h.flat (by intro e;subst e;simp at hn)
  obtain ⟨vs,⟨h3,h4⟩,h5⟩:=h2 (fun vs=>vs=q0o L) rfl
  exact ⟨p,h1,h5 ▸ h4⟩
structure RowsOf (L:List Run) (i:Nat) (l:List Int):Prop where
  le:i≤L.length
  srt:q3a l
  len:l.length≤i
  has:∀ (j:Nat) r,j<i→L[j]? = some r→r.y∈l
  back:∀ y∈l,∃ (j:Nat) (r:Run),j<i∧L[j]? = some r∧r.y=y
theorem RowsOf.step {L:List Run} {i:Nat} {l:List Int} (h:RowsOf L i l) {r:Run} (hr:L[i]? = some r):RowsOf L (i+1) (ins r.y l) :=
  ⟨(List.getElem?_eq_some_iff.1 hr).1,q5p h.srt,by have:=q4t (x:=r.y) (l:=l);have:=h.len;omega,fun j q hj hq=>by
    rcases Nat.lt_or_ge j i with h1 |h1
    · exact mem_ins.2 (.inr (h.has j q h1 hq))
    · have:j=i:=by omega
      subst this;rw [hr] at hq;cases hq;exact mem_ins.2 (.inl rfl),fun y hy=>by
    rcases mem_ins.1 hy with rfl |hy
    · exact ⟨i,r,Nat.lt_succ_self i,hr,rfl⟩
    · obtain ⟨j,q,h1,h2,h3⟩:=h.back y hy
      exact ⟨j,q,by omega,h2,h3⟩⟩
structure EdgesOf (L:List Run) (Y:Int) (i:Nat) (l:List Int):Prop where
  le:i≤L.length
  srt:q3a l
  len:l.length≤2*i
  has:∀ (j:Nat) r,j<i→L[j]? = some r→r.y=Y→r.x0∈l∧r.x1∈l
theorem EdgesOf.skip {L:List Run} {Y:Int} {i:Nat} {l:List Int} (h:EdgesOf L Y i l) {r:Run} (hr:L[i]? = some r) (hy:r.y≠Y):EdgesOf L Y (i+1) l :=
  ⟨(List.getElem?_eq_some_iff.1 hr).1,h.srt,by have:=h.len;omega,fun j q hj hq hqy=>by
    rcases Nat.lt_or_ge j i with h1 |h1
    · exact h.has j q h1 hq hqy
    · have:j=i:=by omega
      subst this;rw [hr] at hq;cases hq;exact absurd hqy hy⟩
theorem EdgesOf.step {L:List Run} {Y:Int} {i:Nat} {l:List Int} (h:EdgesOf L Y i l) {r:Run} (hr:L[i]? = some r):EdgesOf L Y (i+1) (ins r.x1 (ins r.x0 l)) :=
  ⟨(List.getElem?_eq_some_iff.1 hr).1,q5p (q5p h.srt),by
    have:=q4t (x:=r.x1) (l:=ins r.x0 l);have:=q4t (x:=r.x0) (l:=l);have:=h.len;omega,fun j q hj hq hqy=>by
    rcases Nat.lt_or_ge j i with h1 |h1
    · have:=h.has j q h1 hq hqy
      exact ⟨mem_ins.2 (.inr (mem_ins.2 (.inr this.1))),mem_ins.2 (.inr (mem_ins.2 (.inr this.2)))⟩
    · have:j=i:=by omega
      subst this;rw [hr] at hq;cases hq
      exact ⟨mem_ins.2 (.inr (mem_ins.2 (.inl rfl))),mem_ins.2 (.inl rfl)⟩⟩
theorem z73 {La Lb:List Run} {i:Nat} (h:i<La.length):(La++Lb)[i]? = some (nthR La i):=by
  rw [List.getElem?_append_left h,List.getElem?_eq_getElem h];simp [nthR,List.getElem?_eq_getElem h]
theorem z5y {La Lb:List Run} {i:Nat} (h:i<Lb.length):(La++Lb)[La.length+i]? = some (nthR Lb i):=by
  rw [List.getElem?_append_right (by omega),show La.length+i-La.length=i by omega,List.getElem?_eq_getElem h];simp [nthR,List.getElem?_eq_getElem h]
theorem EdgesOf.borders {La Lb:List Run} {Y:Int} {l:List Int} (h:EdgesOf (La++Lb) Y (La.length+Lb.length) l):Borders (nthR La) (nthR Lb) La.length Lb.length Y l :=
  ⟨h.srt,fun i hi hy=>h.has i _ (by omega) (z73 hi) hy,fun i hi hy=>h.has (La.length+i) _ (by omega) (z5y hi) hy⟩
theorem x2e {k:Int} {La Lb:List Run} (va:ValidL La) (vb:ValidL Lb) {rows:List Int} {q:Nat} {Y p:Int} {out:List Run} (h:CellsAt (opB k) (nthR La) (nthR Lb) La.length Lb.length rows q Y p out):out.length≤268451840 :=
  z30 h.ok (z7w (c:=k) va vb h.ok fun x y hx=>by have:=((h.has x y).1 hx).1;rwa [q4a,q4a] at this)
set_option maxHeartbeats 4000000 in
theorem z4x (A B:Option Addr) (La Lb:List Run) (c d:Nat) (k:Int) (G:Mem) (hA:RunsM G A La) (hB:RunsM G B Lb) (va:ValidL La) (vb:ValidL Lb):q2j Try.prog 24 [.val (.slice A La.length c),.val (.slice B Lb.length d),.val (.int .i64 k)] G id 54 3 (mixR k La Lb).length (q0o (mixR k La Lb)):=by
  have hla:=va.length
  have hlb:=vb.length
  refine q1y tab_ok Try.func24 (.alone fun _=>rfl) ?_
  (repeat ((try (conv=>whnf));(refine stQ ?_)))
  conv=>whnf
  refine hA.src ?_
  (repeat ((try (conv=>whnf));(refine stQ ?_)))
  conv=>whnf
  refine hB.src ?_
  have hN:(La++Lb).length=La.length+Lb.length:=by simp
  (repeat ((try (conv=>whnf));(refine stQ ?_)))
  conv=>whnf
  refine q33 tab_ok (fun (i:Nat) (l:List Int)=>RowsOf (La++Lb) i l) (fun i l=>[(26,.val (.int .i64 i)),(8,.own 3)]) (fun i l=>[.gone,.gone,.own 54 3 (La.length+Lb.length) (q0o La++q0o Lb),.own 3 1 l.length (ints l)]) (fun i l=>La.length+Lb.length-i) 0 [] ⟨Nat.zero_le _,by simp [q3a],Nat.le_refl _,fun j r hj=>by omega,fun y hy=>by cases hy⟩ ?_ ?_
  · refine q3s 3 1 ?_
    conv=>whnf
    ((refine q0h ?_);(conv=>whnf);(refine q0k (by rfl) (by rfl) flQ ?_))
    exact q0n (q0n (q0e rfl rfl (q0e rfl rfl q0g)))
  · intro i l hi
    rcases Nat.lt_or_ge i (La++Lb).length with h1 |h1
    · obtain ⟨r,hr⟩:∃ r,(La++Lb)[i]? = some r:=⟨_,List.getElem?_eq_getElem h1⟩
      obtain ⟨c0,c1,c2⟩:=q3q hr
      rw [q0x] at c0 c1 c2
      have hll:l.length≤i:=hi.len
      (repeat ((try (conv=>whnf));(refine stQ ?_)))
      conv=>whnf
      refine q0i _ (by rw [Int.toNat_natCast];exact c0) ?_
      (repeat ((try (conv=>whnf));(refine stQ ?_)))
      conv=>whnf
      refine q3n (fun vs w=>by kernel_rfl) (by rfl) (by kernel_rfl) (q2w l r.y _ (by omega)) ?_
      (repeat ((try (conv=>whnf));(refine stQ ?_)))
      refine ⟨i+1,ins r.y l,hi.step hr,by omega,?_⟩
      refine q0y 4 3 rfl rfl rfl rfl ?_
      conv=>whnf
      ((refine q0h ?_);(conv=>whnf);(refine q0k (by rfl) (by rfl) flQ ?_))
      exact q0n (q0n (q0e rfl rfl (q0e rfl rfl q0g)))
    · have hi1:=hi.le
      have hie:i=La.length+Lb.length:=by omega
      subst hie
      have hsrt:=hi.srt
      (repeat ((try (conv=>whnf));(refine stQ ?_)))
      conv=>whnf
      refine q33 tab_ok (fun (q:Nat) (out:List Run)=>q≤l.length∧RowsAt (opB k) (nthR La) (nthR Lb) La.length Lb.length l q out) (fun q out=>[(39,.val (.int .i64 q)),(10,.own 4)]) (fun q out=>[.gone,.gone,.own 54 3 (La.length+Lb.length) (q0o La++q0o Lb),.own 3 1 l.length (ints l),.own 54 3 out.length (q0o out)]) (fun q out=>l.length-q) 0 [] ⟨Nat.zero_le _,RowsAt.start _ _ _ _ _ _⟩ ?_ ?_
      · refine q3s 54 3 ?_
        conv=>whnf
        ((refine q0h ?_);(conv=>whnf);(refine q0k (by rfl) (by rfl) flQ ?_))
        exact q0n (q0n (q0e rfl rfl (q0e rfl rfl (q0e rfl rfl q0g))))
      · rintro q out ⟨hq,hrows⟩
        have hll:l.length≤La.length+Lb.length:=hi.len
        rcases Nat.lt_or_ge q l.length with h2 |h2
        · obtain ⟨Y,hY⟩:∃ Y,l[q]? = some Y:=⟨_,List.getElem?_eq_getElem h2⟩
          (repeat ((try (conv=>whnf));(refine stQ ?_)))
          conv=>whnf
          refine q0i (.int .i64 Y) (by rw [Int.toNat_natCast,Nat.mul_one];exact q5g hY) ?_
          (repeat ((try (conv=>whnf));(refine stQ ?_)))
          conv=>whnf
          refine q33 tab_ok (fun (i:Nat) (xs:List Int)=>EdgesOf (La++Lb) Y i xs) (fun i xs=>[(45,.val (.int .i64 i)),(13,.own 5)]) (fun i xs=>[.gone,.gone,.own 54 3 (La.length+Lb.length) (q0o La++q0o Lb),.own 3 1 l.length (ints l),.own 54 3 out.length (q0o out),.own 3 1 xs.length (ints xs)]) (fun i xs=>La.length+Lb.length-i) 0 [] ⟨Nat.zero_le _,by simp [q3a],Nat.le_refl _,fun j r hj=>by omega⟩ ?_ ?_
          · refine q3s 3 1 ?_
            conv=>whnf
            ((refine q0h ?_);(conv=>whnf);(refine q0k (by rfl) (by rfl) flQ ?_))
            exact q0n (q0n (q0e rfl rfl (q0e rfl rfl (q0e rfl rfl (q0e rfl rfl q0g)))))
          · intro i xs hx
            have hxl:=hx.len
            have hxe:=hx.le
            rcases Nat.lt_or_ge i (La++Lb).length with h3 |h3
            · obtain ⟨r,hr⟩:∃ r,(La++Lb)[i]? = some r:=⟨_,List.getElem?_eq_getElem h3⟩
              obtain ⟨c0,c1,c2⟩:=q3q hr
              rw [q0x] at c0 c1 c2
              by_cases hy:r.y=Y
              · (repeat ((try (conv=>whnf));(refine stQ ?_)))
                conv=>whnf
                refine q0i _ (by rw [Int.toNat_natCast];exact c0) ?_
                have hi0:=q4t (x:=r.x0) (l:=xs)
                (repeat ((try (conv=>whnf));(first |(with_reducible refine q6s tab_ok (by kernel_rfl) 12 [5] (by decide +kernel) ?_) |(refine stQ ?_) |(with_reducible first |refine q3n (fun vs w=>by kernel_rfl) (by kernel_rfl) (by kernel_rfl) (q2w xs r.x0 _ (by omega)) ?_ |refine q52 (by kernel_rfl) (fun vs w=>by kernel_rfl) (by kernel_rfl) (q2w xs r.x0 _ (by omega)) ?_ |refine q3n (fun vs w=>by kernel_rfl) (by kernel_rfl) (by kernel_rfl) (q2w (ins r.x0 xs) r.x1 _ (by omega)) ?_ |refine q52 (by kernel_rfl) (fun vs w=>by kernel_rfl) (by kernel_rfl) (q2w (ins r.x0 xs) r.x1 _ (by omega)) ?_))))
                conv=>whnf
                refine q0i _ (by rw [Int.toNat_natCast];exact c1) ?_
                (repeat ((try (conv=>whnf));(first |(with_reducible refine q6s tab_ok (by kernel_rfl) 12 [5] (by decide +kernel) ?_) |(refine stQ ?_) |(with_reducible first |refine q3n (fun vs w=>by kernel_rfl) (by kernel_rfl) (by kernel_rfl) (q2w xs r.x0 _ (by omega)) ?_ |refine q52 (by kernel_rfl) (fun vs w=>by kernel_rfl) (by kernel_rfl) (q2w xs r.x0 _ (by omega)) ?_ |refine q3n (fun vs w=>by kernel_rfl) (by kernel_rfl) (by kernel_rfl) (q2w (ins r.x0 xs) r.x1 _ (by omega)) ?_ |refine q52 (by kernel_rfl) (fun vs w=>by kernel_rfl) (by kernel_rfl) (q2w (ins r.x0 xs) r.x1 _ (by omega)) ?_))))
                conv=>whnf
                refine q0i _ (by rw [Int.toNat_natCast];exact c2) ?_
                (repeat ((try (conv=>whnf));(first |(with_reducible refine q6s tab_ok (by kernel_rfl) 12 [5] (by decide +kernel) ?_) |(refine stQ ?_) |(with_reducible first |refine q3n (fun vs w=>by kernel_rfl) (by kernel_rfl) (by kernel_rfl) (q2w xs r.x0 _ (by omega)) ?_ |refine q52 (by kernel_rfl) (fun vs w=>by kernel_rfl) (by kernel_rfl) (q2w xs r.x0 _ (by omega)) ?_ |refine q3n (fun vs w=>by kernel_rfl) (by kernel_rfl) (by kernel_rfl) (q2w (ins r.x0 xs) r.x1 _ (by omega)) ?_ |refine q52 (by kernel_rfl) (fun vs w=>by kernel_rfl) (by kernel_rfl) (q2w (ins r.x0 xs) r.x1 _ (by omega)) ?_))))
                refine ⟨i+1,ins r.x1 (ins r.x0 xs),hx.step hr,by omega,?_⟩
                refine q0y 7 5 rfl rfl rfl rfl ?_
                conv=>whnf
                ((refine q0h ?_);(conv=>whnf);(refine q0k (by rfl) (by rfl) flQ ?_))
                exact q0n (q0n (q0e rfl rfl (q0e rfl rfl (q0e rfl rfl (q0e rfl rfl q0g)))))
              · (repeat ((try (conv=>whnf));(refine stQ ?_)))
                conv=>whnf
                refine q0i _ (by rw [Int.toNat_natCast];exact c0) ?_
                (repeat ((try (conv=>whnf));(refine stQ ?_)))
                refine ⟨i+1,xs,hx.skip hr hy,by omega,?_⟩
                ((refine q0h ?_);(conv=>whnf);(refine q0k (by rfl) (by rfl) flQ ?_))
                exact q0n (q0n (q0e rfl rfl (q0e rfl rfl (q0e rfl rfl (q0e rfl rfl q0g)))))
            · have hie:i=La.length+Lb.length:=by omega
              subst hie
              have hb:=hx.borders
              obtain ⟨p0,hp0⟩:∃ p0,xs[0]? = some p0:=by
                obtain ⟨j,r,e1,e2,e3⟩:=hi.back Y (List.mem_of_getElem? hY)
                have:=(hx.has j r e1 e2 e3).1
                cases xs with
                | nil=>cases this
                | cons z xs=>exact ⟨z,rfl⟩
              clear hi hx
              (repeat ((try (conv=>whnf));(refine stQ ?_)))
              conv=>whnf
              refine q33 tab_ok (fun (j:Nat) (o:List Run)=>∃ p,xs[j]? = some p∧CellsAt (opB k) (nthR La) (nthR Lb) La.length Lb.length l q Y p o) (fun j o=>[(15,.val (.int .i64 j)),(10,.own 4)]) (fun j o=>[.gone,.gone,.own 54 3 (La.length+Lb.length) (q0o La++q0o Lb),.own 3 1 l.length (ints l),.own 54 3 o.length (q0o o),.own 3 1 xs.length (ints xs)]) (fun j o=>xs.length-j) 0 out ⟨p0,hp0,hrows.enter (q5v k) hsrt hY hb hp0⟩ ?_ ?_
              · ((refine q0h ?_);(conv=>whnf);(refine q0k (by rfl) (by rfl) flQ ?_))
                exact q0n (q0n (q0e rfl rfl (q0e rfl rfl (q0e rfl rfl (q0e rfl rfl q0g)))))
              · rintro j o ⟨p,hp,hc⟩
                have hjl:=(List.getElem?_eq_some_iff.1 hp).1
                have hol:=x2e va vb hc
                rcases Nat.lt_or_ge (j+1) xs.length with h4 |h4
                · obtain ⟨p',hp'⟩:∃ p',xs[j+1]? = some p':=⟨_,List.getElem?_eq_getElem h4⟩
                  have hlt:=q4u hb.srt (Nat.lt_succ_self j) hp hp'
                  have hst:=hc.step hb hp hp'
                  rw [q4a,q4a] at hst
                  have hyes:opB k (hasL La p Y) (hasL Lb p Y)=true→CellsAt (opB k) (nthR La) (nthR Lb) La.length Lb.length l q Y p' (q49 o Y p p'):=fun h=>by
                    rw [if_pos h] at hst;rw [x17 hc.up hlt];exact hst
                  have hno:opB k (hasL La p Y) (hasL Lb p Y)=false→CellsAt (opB k) (nthR La) (nthR Lb) La.length Lb.length l q Y p' o:=fun h=>by
                    rw [if_neg (by rw [h];simp)] at hst;exact hst
                  clear hst hc hrows hb
                  have g1:=q5h A La c p Y G hA (by omega)
                  have g2:=q5h B Lb d p Y G hB (by omega)
                  have hcode:k=1∨k=2∨k=3∨(k≠1∧k≠2∧k≠3):=by omega
                  rcases hcode with hk |hk |hk |⟨hk,hk',hk''⟩ <;> cases hpa:hasL La p Y <;> cases hqa:hasL Lb p Y <;> rw [hpa,hqa] at hyes hno <;> rw [hpa] at g1 <;> rw [hqa] at g2
                  all_goals
                    (repeat ((try (conv=>whnf));(first |(with_reducible first |refine q6s tab_ok (by kernel_rfl) 11 [] (by decide +kernel) ?_ |refine q0i (.int .i64 p) (x3m hp) ?_ |refine q0i (.int .i64 p') (x15 hp') ?_ |refine z0y (by kernel_rfl) ?_) |(refine stQ ?_) |(with_reducible first |refine q0b (fun vs w=>by kernel_rfl) (by kernel_rfl) (g1) ?_ |refine q0a (fun vs w=>by kernel_rfl) (by kernel_rfl) (g1) ?_ |refine q0b (fun vs w=>by kernel_rfl) (by kernel_rfl) (g2) ?_ |refine q0a (fun vs w=>by kernel_rfl) (by kernel_rfl) (g2) ?_ |refine q3n (fun vs w=>by kernel_rfl) (by kernel_rfl) (by kernel_rfl) (z04 o Y p p' _ (by omega)) ?_ |refine q52 (by kernel_rfl) (fun vs w=>by kernel_rfl) (by kernel_rfl) (z04 o Y p p' _ (by omega)) ?_))))
                    conv=>whnf
                    first
                    | (refine ⟨j+1,q49 o Y p p',⟨p',hp',hyes (by first |(simp [opB,hk,hk',hk''];done) |(simp [opB,hk];done))⟩,by omega,?_⟩
                       refine q0y 6 4 rfl rfl rfl rfl ?_
                       conv=>whnf
                       ((refine q0h ?_);(conv=>whnf);(refine q0k (by rfl) (by rfl) flQ ?_))
                       exact q0n (q0n (q0e rfl rfl (q0e rfl rfl (q0e rfl rfl (q0e rfl rfl q0g))))))
                    | (refine ⟨j+1,o,⟨p',hp',hno (by first |(simp [opB,hk,hk',hk''];done) |(simp [opB,hk];done))⟩,by omega,?_⟩
                       ((refine q0h ?_);(conv=>whnf);(refine q0k (by rfl) (by rfl) flQ ?_))
                       exact q0n (q0n (q0e rfl rfl (q0e rfl rfl (q0e rfl rfl (q0e rfl rfl q0g))))))
                · have hend:=hc.leave (q5v k) hY hb hp (by omega)
                  (repeat ((try (conv=>whnf));(refine stQ ?_)))
                  refine ⟨q+1,o,⟨by omega,hend⟩,by omega,?_⟩
                  ((refine q0h ?_);(conv=>whnf);(refine q0k (by rfl) (by rfl) flQ ?_))
                  exact q0n (q0n (q0e rfl rfl (q0e rfl rfl (q0e rfl rfl q0g))))
        · have hqe:q=l.length:=by omega
          subst hqe
          obtain ⟨d1,d2⟩:=hrows.done (q5v k) (fun i h3=>hi.has i _ (by omega) (z73 h3)) (fun i h3=>hi.has (La.length+i) _ (by omega) (z5y h3))
          have hmix:=z9t (c:=k) va vb d1 (fun x y=>by rw [d2,q4a,q4a])
          (repeat ((try (conv=>whnf));(refine stQ ?_)))
          exact .inl ⟨4,rfl,by rw [← hmix];rfl⟩
end Go.Proofs.Ytbkhpddodmbdoaa
