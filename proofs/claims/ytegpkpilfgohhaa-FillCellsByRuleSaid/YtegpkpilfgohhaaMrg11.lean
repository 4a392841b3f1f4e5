/-
  Merged: XHpm, XTrim, XSwapE.
-/
import Derived.Test.YtegpkpilfgohhaaGm
import Derived.Test.YtegpkpilfgohhaaArg
import Derived.Test.YtegpkpilfgohhaaStabLaw
import Derived.Test.YtegpkpilfgohhaaMendsR
import Derived.Test.YtegpkpilfgohhaaMrg9
set_option linter.unusedVariables false
set_option linter.unusedSimpArgs false
set_option linter.unnecessarySimpa false
namespace Go.Proofs.Ytegpkpilfgohhaa
end Go.Proofs.Ytegpkpilfgohhaa
namespace Go.Proofs.Ytegpkpilfgohhaa
open Go.RowKit
theorem q73 {P:Program} {f:FuncId} {args:List AV} {hp:List Blk} {G:Mem} {K:AV→List Blk→Mem→Prop} {n0:Nat} (hn:hp.length=n0)
    (h:CallP P f args hp G fun v hp' G'=>∃ v1 hp1 G1,Le n0 [v] hp' G' [v1] hp1 G1∧K v1 hp1 G1):CallP P f args hp G K:=by
  subst hn
  refine ⟨h.enters,fun w0 G0 β w vs hr ha=>(h.calls w0 G0 β w vs hr ha).mono ?_⟩
  rintro e w' ⟨y,β',v,hp',G',rfl,h1,h2,h3,v1,hp1,G1,hle,hK⟩
  obtain ⟨β'',g1,g2,g3⟩:=hle.out w0 G0 β β' w' [y] (Nm.below_of hr) h1 h2 (by simp only [AV.rels];exact ⟨y,[],rfl,h3,rfl⟩)
  simp only [AV.rels] at g3
  obtain ⟨z,zs,g4,g5,g6⟩:=g3
  cases g4
  exact ⟨y,β'',v1,hp1,G1,rfl,g1,g2,g5,hK⟩
theorem z84 {n0 q:Nat} {hp hp':List Blk} {G G':Mem} {fr':List AV} {E:TypeId} {sz n:Nat} {xs:List Value} (hq:nthB hp q=.own E sz n xs) (h:Le n0 [.vw q 0 n] hp G fr' hp' G'):Le n0 [.own q] hp G fr' hp' G':=by
  refine ⟨fun w0 G0 β0 β w ys h0 h1 hr hf=>h.out w0 G0 β0 β w ys h0 h1 hr ?_⟩
  simp only [AV.rels,AV.rel] at hf ⊢
  obtain ⟨y,zs,rfl,⟨hy,_⟩,rfl⟩:=hf
  refine ⟨y,[],rfl,?_,rfl⟩
  obtain ⟨x,hx1,hx2⟩:=hr.blk q y hy
  rw [q0l hq rfl] at hx1;cases hx1
  rcases hx2.1.2 with ⟨rfl,rfl⟩ |⟨g,cap,cur,rfl,_,_,h8,_⟩
  · exact ⟨none,0,rfl,Nat.le_refl _,⟨fun _=>rfl,fun _=>⟨0,hy⟩⟩,fun h=>by omega⟩
  · exact ⟨_,cap,rfl,h8,⟨(fun h=>by cases h),fun _=>⟨n,hy⟩⟩,fun _=>⟨_,g,hy,rfl,rfl⟩⟩
theorem HR.trim {w0:World} {G0:Mem} {β:Nm} {hp:List Blk} {G:Mem} {w:World} (hr:HR w0 G0 β hp G w) {k N n m c:Nat} {E:TypeId} {sz:Nat} {xs:List Value} {A:Option Addr} (hk:nthB hp k=.own E sz N xs) (hβ:β k=some (.slice A m c)) (hn:n≤N) :
    HR w0 G0 (β.put hp.length (.slice A n c)) (hp.set k .gone++[.own E sz n (xs.take (n*sz))]) G w:=by
  have hkx:=q0l hk rfl
  obtain ⟨x1,hx1,hx2⟩:=hr.blk k _ hβ
  rw [hkx] at hx1;cases hx1
  obtain rfl:=q9e hx2.1
  have eb:q0c (.slice A n c)=q0c (.slice A m c):=by cases A <;> rfl
  refine hr.moveName hβ hkx rfl (w':=w) ⟨rfl,rfl,rfl,Nat.le_refl _,fun _ _ _=>rfl⟩ (fun b hb=>.inr (by rw [← eb];exact hb)) rfl ⟨q8j hx2.1 hn,fun g hg=>hx2.2 g (by rw [← eb];exact hg)⟩
section
variable {α:Type} {enc:α→List Value} {k:Nat}
theorem q81 (hk:∀ x,(enc x).length=k):∀ (l:List α) (i:Nat) (x:α),i<l.length→(l.flatMap enc).take (i*k)++enc x++(l.flatMap enc).drop (i*k+k)=(l.set i x).flatMap enc
  | [],i,x,h=>by simp at h
  | a::l,0,x,_=>by
    simp only [List.flatMap_cons,Nat.zero_mul,List.take_zero,List.nil_append,Nat.zero_add,List.set_cons_zero]
    rw [List.drop_left' (hk a)]
  | a::l,i+1,x,h=>by
    have e:(i+1)*k=k+i*k:=by rw [Nat.add_mul];omega
    simp only [List.flatMap_cons,List.set_cons_succ]
    rw [e,Nat.add_assoc,← hk a,List.take_length_add_append,List.drop_length_add_append,hk a]
    have:=q81 hk l i x (by simpa using h)
    rw [← this];simp [List.append_assoc]
theorem z16 (hk:∀ x,(enc x).length=k):∀ (l:List α) (i:Nat),(l.flatMap enc).take (i*k)=(l.take i).flatMap enc
  | l,0=>by simp
  | [],i+1=>by simp
  | a::l,i+1=>by
    have e:(i+1)*k=k+i*k:=by rw [Nat.add_mul];omega
    simp only [List.flatMap_cons,List.take_succ_cons]
    rw [e,← hk a,List.take_length_add_append,hk a,z16 hk l i]
end
end Go.Proofs.Ytegpkpilfgohhaa
namespace Go.Proofs.Ytegpkpilfgohhaa
open Go.RowKit
set_option maxRecDepth 20000
abbrev q1j:AV:=.val (.func (.func 42) #[] #[])
theorem q0z {l:List Edge} {z:Int} {i:Nat} (hz:z.toNat=i) (h:i<l.length) (K:List Value→Prop) (k:K (encE (gAt l i))):OwnCells (l.flatMap encE) (z.toNat * 6) 6 K:=by
  rw [hz];exact q7e q03 (z14 h) K k
theorem q3l {l:List Edge} {z:Int} {i:Nat} (hz:z.toNat=i) (h:i<l.length) {xs:List Value} (hx:xs.length=(l.flatMap encE).length):z.toNat * 6+6≤xs.length:=by
  rw [hx,q12 q03];omega
theorem q6t {l:List Edge} {z:Int} {i:Nat} (hz:z.toNat=i) (h:i<l.length) (x:Edge):((l.flatMap encE).take (z.toNat * 6)++encE x++(l.flatMap encE).drop (z.toNat * 6+6)).length=(l.flatMap encE).length:=by
  subst hz
  rw [q81 q03 l _ x h,q12 q03,q12 q03];simp
theorem z24 {l:List Edge} {zi zj:Int} {i j:Nat} (hi:zi.toNat=i) (hj:zj.toNat=j) (h1:i<l.length) (h2:j<l.length) :
    ((l.flatMap encE).take (zi.toNat * 6)++encE (gAt l j)++(l.flatMap encE).drop (zi.toNat * 6+6)).take (zj.toNat * 6)++encE (gAt l i)++((l.flatMap encE).take (zi.toNat * 6)++encE (gAt l j)++(l.flatMap encE).drop (zi.toNat * 6+6)).drop (zj.toNat * 6+6)=(swp l i j).flatMap encE:=by
  rw [hi,hj,q81 q03 l i _ h1,q81 q03 _ j _ (by simpa using h2)];rfl
section
variable {G:Mem}
set_option maxHeartbeats 4000000 in
theorem z1g {l:List Edge} {a b c:Nat} (hab:a+c≤b) (hb:b+c≤l.length) (hl:l.length≤4000000) :
    MendsR Try.prog 99 [.own 0,.val (.int .i64 a),.val (.int .i64 b),.val (.int .i64 c),q1j] G 86 6 l.length (l.flatMap encE) fun xs=>∃ l',xs=l'.flatMap encE∧RngAt l l' a b c:=by
  refine q5f tab_ok Try.func99 fun G' hG=>?_
  (repeat ((try (conv=>whnf));(refine stQ ?_)))
  conv=>whnf
  refine q2h tab_ok (fun (i:Nat) (cur:List Edge)=>i≤c∧RngAt l cur a b i) (fun i cur=>[(10,.val (.int .i64 i))]) (fun i cur=>[.own 86 6 l.length (cur.flatMap encE)]) (fun i cur=>c-i) 0 l ⟨Nat.zero_le _,RngAt.start l a b⟩ ?_ ?_
  · ((refine q0d ?_);(conv=>whnf);(refine q0e (by rfl) (by rfl) flQ ?_))
    exact q0a rfl rfl q0b
  · rintro i cur ⟨hi,hc⟩
    have hlen:=hc.perm.length_eq
    rcases Nat.lt_or_ge i c with h1 |h1
    · have hnx:=hc.next (by omega) (by omega)
      (repeat ((try (conv=>whnf));(first |(with_reducible refine q35 tab_ok (by kernel_rfl) 22 [0] [(12,0),(13,0),(18,0),(19,0),(20,0)] (by decide +kernel) ?_) |(refine q0z (i:=b+i) (by omega) (by omega) _ ?_) |(refine q0z (i:=a+i) (by omega) (by omega) _ ?_) |(refine stQ ?_))))
      conv=>whnf
      refine mustP.mk (q3l (l:=cur) (i:=a+i) (by omega) (by omega) rfl) ?_
      (repeat ((try (conv=>whnf));(refine stQ ?_)))
      conv=>whnf
      refine mustP.mk (q3l (l:=cur) (i:=b+i) (by omega) (by omega) (q6t (i:=a+i) (by omega) (by omega) _)) ?_
      (repeat ((try (conv=>whnf));(refine stQ ?_)))
      refine ⟨i+1,_,⟨by omega,hnx⟩,by omega,?_⟩
      ((refine q0d ?_);(conv=>whnf);(refine q0e (by rfl) (by rfl) flQ ?_))
      exact q0a rfl (z24 (by omega) (by omega) (by omega) (by omega)) q0b
    · obtain rfl:i=c:=by omega
      (repeat ((try (conv=>whnf));(refine stQ ?_)))
      exact ⟨_,rfl,cur,rfl,hc⟩
end
end Go.Proofs.Ytegpkpilfgohhaa
