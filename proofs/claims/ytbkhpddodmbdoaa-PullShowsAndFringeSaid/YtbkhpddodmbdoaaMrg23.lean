/-
  Merged: XDilate1, XCloneR.
-/
import Derived.Test.YtbkhpddodmbdoaaMrg18
import Derived.Test.YtbkhpddodmbdoaaMrg22
import Derived.Test.YtbkhpddodmbdoaaCombined
import Derived.Test.YtbkhpddodmbdoaaMrg8
import Derived.Test.YtbkhpddodmbdoaaMrg9
import Derived.Test.YtbkhpddodmbdoaaMrg13
set_option linter.unusedVariables false
set_option linter.unusedSimpArgs false
set_option linter.unnecessarySimpa false
namespace Go.Proofs.Ytbkhpddodmbdoaa
open Go.RowKit
set_option maxRecDepth 20000
abbrev HA (out:List Run):List Blk:=[.cells 107 [.own 1],.own 54 3 out.length (q0o out)]
set_option maxHeartbeats 8000000 in
theorem z8g {A:Option Addr} {L:List Run} {c:Nat} {w:Int} {G:Mem} (hA:RunsM G A L) (v:ValidL L) (hw:0≤w∧w≤64) (hshort:L.length≤1000000) :
    q2j Try.prog 49 [.val (.slice A L.length c),.val (.int .i64 w)] G id 54 3 (q4v (dilD w L)).length (q0o (q4v (dilD w L))):=by
  refine q1y tab_ok Try.func49 (.alone fun _=>rfl) ?_
  (repeat ((try (conv=>whnf));(refine stQ ?_)))
  conv=>whnf
  refine q33 tab_ok (fun (i:Nat) (out:List Run)=>i≤L.length∧out=q95 w L i) (fun i out=>[(14,.val (.int .i64 i))]) (fun i out=>HA out) (fun i out=>L.length-i) 0 [] ⟨Nat.zero_le _,rfl⟩ ?_ ?_
  · refine q3s 54 3 ?_
    conv=>whnf
    ((refine q0h ?_);(conv=>whnf);(refine q0k (by rfl) (by rfl) flQ ?_))
    exact q0f (q3x rfl (by simp [AV.under]) q1e) (q0e rfl rfl q0g)
  · rintro i out ⟨hi,ho⟩
    rcases Nat.lt_or_ge i L.length with h1 |h1
    · obtain ⟨r,hr⟩:∃ r,L[i]? = some r:=⟨L[i],List.getElem?_eq_getElem h1⟩
      obtain ⟨p,rfl,ca⟩:=hA.cells hr
      have hbd:=v.bd (List.mem_of_getElem? hr)
      have hst:=x0r (w:=w) hr
      have hlen:=z1d w L i
      rw [← ho] at hst hlen
      clear ho
      have hxx:¬ min (r.x1+w) 8192≤max (r.x0-w) (-8192):=by omega
      rcases q2r out with hout |⟨Kp,rl,hout⟩
      · have hlen0:out.length=0:=by rw [hout];rfl
        rw [hout,q2m hxx] at hst
        (repeat ((try (conv=>whnf));(first |(refine ca _ ?_) |(refine stQ ?_) |(with_reducible refine q0c tab_ok Try.func65 (fun vs w=>by kernel_rfl) (by rfl) ?_))))
        conv=>whnf
        refine ⟨i+1,[⟨r.y,max (r.x0-w) (-8192),min (r.x1+w) 8192⟩],⟨by omega,hst.symm⟩,by omega,?_⟩
        refine q0y 4 1 (by rfl) (by rfl) (by rfl) (by rfl) ?_
        conv=>whnf
        ((refine q0h ?_);(conv=>whnf);(refine q0k (by rfl) (by rfl) flQ ?_))
        exact q0f (q3x rfl (by simp [AV.under]) q1e) (q0e (by simp only [hlen0];rfl) (by rw [hout];rfl) q0g)
      · have hlen0:out.length=Kp.length+1:=by rw [hout];simp
        have hix:(((out.length:Nat):Int)-1).toNat=Kp.length:=by omega
        obtain ⟨g0,g1,g2⟩:=q4n Kp rl
        rw [← hout,← hix] at g0 g1 g2
        rw [← Nat.add_zero ((((out.length:Nat):Int)-1).toNat * 3)] at g0
        by_cases hj1:rl.y=r.y
        · by_cases hj2:max (r.x0-w) (-8192)≤rl.x1
          · rw [hout,q1r hxx hj1 hj2] at hst
            (repeat ((try (conv=>whnf));(first |(refine ca _ ?_) |(refine q0i (.int .i64 rl.y) g0 ?_) |(refine q0i (.int .i64 rl.x1) g2 ?_) |(refine stQ ?_) |(with_reducible refine q0c tab_ok Try.func65 (fun vs w=>by kernel_rfl) (by rfl) ?_))))
            conv=>whnf
            refine mustP.mk (by rw [hix,q1c,hlen0];simp;omega) ?_
            (repeat ((try (conv=>whnf));(first |(refine ca _ ?_) |(refine q0i (.int .i64 rl.y) g0 ?_) |(refine q0i (.int .i64 rl.x1) g2 ?_) |(refine stQ ?_) |(with_reducible refine q0c tab_ok Try.func65 (fun vs w=>by kernel_rfl) (by rfl) ?_))))
            conv=>whnf
            refine ⟨i+1,Kp++[⟨r.y,rl.x0,max rl.x1 (min (r.x1+w) 8192)⟩],⟨by omega,hst.symm⟩,by omega,?_⟩
            ((refine q0h ?_);(conv=>whnf);(refine q0k (by rfl) (by rfl) flQ ?_))
            exact q0f (q3x rfl (by simp [AV.under]) q1e) (q0e (by rw [hlen0];simp) (by rw [hix,hout,← hj1];exact q53 Kp rl _) q0g)
          · rw [hout,q1o hxx (fun h=>hj2 h.2)] at hst
            (repeat ((try (conv=>whnf));(first |(refine ca _ ?_) |(refine q0i (.int .i64 rl.y) g0 ?_) |(refine q0i (.int .i64 rl.x1) g2 ?_) |(refine stQ ?_) |(with_reducible refine q0c tab_ok Try.func65 (fun vs w=>by kernel_rfl) (by rfl) ?_))))
            conv=>whnf
            refine ⟨i+1,Kp++[rl]++[⟨r.y,max (r.x0-w) (-8192),min (r.x1+w) 8192⟩],⟨by omega,hst.symm⟩,by omega,?_⟩
            refine q0y 4 1 (by rfl) (by rfl) (by rfl) (by rfl) ?_
            conv=>whnf
            ((refine q0h ?_);(conv=>whnf);(refine q0k (by rfl) (by rfl) flQ ?_))
            exact q0f (q3x rfl (by simp [AV.under]) q1e) (q0e (by rw [hlen0];simp) (by rw [hout,q0x (Kp++[rl])];rfl) q0g)
        · rw [hout,q1o hxx (fun h=>hj1 h.1)] at hst
          (repeat ((try (conv=>whnf));(first |(refine ca _ ?_) |(refine q0i (.int .i64 rl.y) g0 ?_) |(refine q0i (.int .i64 rl.x1) g2 ?_) |(refine stQ ?_) |(with_reducible refine q0c tab_ok Try.func65 (fun vs w=>by kernel_rfl) (by rfl) ?_))))
          conv=>whnf
          refine ⟨i+1,Kp++[rl]++[⟨r.y,max (r.x0-w) (-8192),min (r.x1+w) 8192⟩],⟨by omega,hst.symm⟩,by omega,?_⟩
          refine q0y 4 1 (by rfl) (by rfl) (by rfl) (by rfl) ?_
          conv=>whnf
          ((refine q0h ?_);(conv=>whnf);(refine q0k (by rfl) (by rfl) flQ ?_))
          exact q0f (q3x rfl (by simp [AV.under]) q1e) (q0e (by rw [hlen0];simp) (by rw [hout,q0x (Kp++[rl])];rfl) q0g)
    · obtain rfl:i=L.length:=by omega
      rw [z1c] at ho
      have hWl:=z1d w L L.length
      rw [z1c,← ho] at hWl
      have hWok:=(z11 (w:=w) v.ok).1
      rw [← ho] at hWok
      have hWb:∀ s∈out,-8192≤s.y∧s.y≤8191:=fun s hs=>by
        rw [ho] at hs hWok
        obtain ⟨r,hr,h3,_⟩:=((z11 (w:=w) v.ok).2 s.x0 s.y).1 ⟨s,hs,rfl,Int.le_refl _,q2v hWok hs⟩
        have:=v.bd hr
        omega
      have hall:allC w out out.length=dilD w L:=by rw [ho]
      have hpr:0≤(out.length:Int)*(2*w+1)∧(out.length:Int)*(2*w+1)≤129000000:=by
        refine ⟨Int.mul_nonneg (by omega) (by omega),?_⟩
        have h1:(out.length:Int)*(2*w+1)≤(out.length:Int)*129:=Int.mul_le_mul_of_nonneg_left (by omega) (by omega)
        omega
      have hdb:=x5o hw v
      clear ho
      (repeat ((try (conv=>whnf));(refine stQ ?_)))
      conv=>whnf
      refine q33 tab_ok (fun (i:Nat) (o:List Run)=>i≤out.length∧o=allC w out i) (fun i o=>[(43,.val (.int .i64 i)),(8,.own 2),(39,.any)]) (fun i o=>[.cells 107 [.own 1],.own 54 3 out.length (q0o out),.own 54 3 o.length (q0o o)]) (fun i o=>out.length-i) 0 [] ⟨Nat.zero_le _,rfl⟩ ?_ ?_
      · conv=>whnf
        ((refine q0h ?_);(conv=>whnf);(refine q0k (by rfl) (by rfl) flQ ?_))
        exact q0f (q3x rfl (by simp [AV.under]) q1e) (q0e rfl rfl (q0e rfl rfl q0g))
      · rintro i o ⟨hi2,ho⟩
        rcases Nat.lt_or_ge i out.length with h2 |h2
        · obtain ⟨s,hs⟩:∃ s,out[i]? = some s:=⟨out[i],List.getElem?_eq_getElem h2⟩
          obtain ⟨d0,d1,d2⟩:=q3q hs
          have hsb:=hWb s (List.mem_of_getElem? hs)
          have hal:=q96 hw out i
          have hstep:=z51 (w:=w) hs
          have hnum:=z9y hw s
          have hnumE:(numC w s:Int)=min (s.y+w) 8191+1-max (s.y-w) (-8192):=by unfold numC;omega
          rw [← ho] at hstep hal
          clear ho hdb
          have hld:OwnCells (q0o out) ((i:Int).toNat * 3) 3 (fun vs=>vs=[.int .i64 s.y,.int .i64 s.x0,.int .i64 s.x1]):=by
            refine q3f [.int .i64 s.y,.int .i64 s.x0,.int .i64 s.x1] rfl (fun j u hj=>?_) rfl
            rw [Int.toNat_natCast]
            match j,hj with
            | 0,hj=>simp at hj;subst hj;exact d0
            | 1,hj=>simp at hj;subst hj;exact d1
            | 2,hj=>simp at hj;subst hj;exact d2
          obtain ⟨ws,⟨w1,w2⟩,rfl⟩:=hld
          (repeat ((try (conv=>whnf));(first |(refine ⟨[.int .i64 s.y,.int .i64 s.x0,.int .i64 s.x1],⟨by exact w1,by exact w2⟩,?_⟩) |(refine stQ ?_))))
          conv=>whnf
          refine q33 tab_ok (fun (k:Nat) (o':List Run)=>k≤numC w s∧o'=o++q6m w s k) (fun k o'=>[(11,.val (.int .i64 (max (s.y-w) (-8192)+k))),(8,.own 2)]) (fun k o'=>[.cells 107 [.own 1],.own 54 3 out.length (q0o out),.own 54 3 o'.length (q0o o'),.cells 54 [.val (.int .i64 s.y),.val (.int .i64 s.x0),.val (.int .i64 s.x1)]]) (fun k o'=>numC w s-k) 0 o ⟨Nat.zero_le _,by simp [q6m]⟩ ?_ ?_
          · conv=>whnf
            ((refine q0h ?_);(conv=>whnf);(refine q0k (by rfl) (by rfl) flQ ?_))
            exact q0f (q3x rfl (by simp [AV.under]) q1e) (q0e rfl rfl (q0e rfl rfl (q0f (q1z (q1z (q1z q1e))) q0g)))
          · rintro k o' ⟨hk,ho'⟩
            have hlo:=congrArg List.length ho'
            rw [List.length_append,z38] at hlo
            rcases Nat.lt_or_ge k (numC w s) with h3 |h3
            · (repeat ((try (conv=>whnf));(refine stQ ?_)))
              conv=>whnf
              refine ⟨k+1,o'++[z6q w s k],⟨by omega,by rw [z8u,ho',List.append_assoc]⟩,by omega,?_⟩
              refine q0y 5 2 (by rfl) (by rfl) (by rfl) (by rfl) ?_
              conv=>whnf
              ((refine q0h ?_);(conv=>whnf);(refine q0k (by rfl) (by rfl) flQ ?_))
              exact q0f (q3x rfl (by simp [AV.under]) q1e) (q0e rfl rfl (q0e (by simp) (by rw [q0x,q3p];rfl) (q0f (q1z (q1z (q1z q1e))) q0g)))
            · obtain rfl:k=numC w s:=by omega
              rw [← hstep] at ho'
              (repeat ((try (conv=>whnf));(refine stQ ?_)))
              refine ⟨i+1,o',⟨by omega,ho'⟩,by omega,?_⟩
              ((refine q0h ?_);(conv=>whnf);(refine q0k (by rfl) (by rfl) flQ ?_))
              exact q0f (q3x rfl (by simp [AV.under]) q1e) (q0e rfl rfl (q0e rfl rfl q0g))
        · obtain rfl:i=out.length:=by omega
          rw [hall] at ho
          have hal:=q96 hw out out.length
          rw [hall,← ho] at hal
          rw [← ho] at hdb ⊢
          (repeat ((try (conv=>whnf));(refine stQ ?_)))
          conv=>whnf
          refine z1a (fun vs w=>by kernel_rfl) (by exact rfl) (by kernel_rfl) fun A1 c1 G1 hG1 hc1 hm1 hx1=>?_
          have mk:=z0a (c:=c1) hx1 (fun r hr=>by have:=hdb r hr;omega) (by omega)
          conv=>whnf
          refine q15 (fun vs w=>by kernel_rfl) (.alone fun _=>rfl) (by kernel_rfl) mk ?_
          (repeat ((try (conv=>whnf));(refine stQ ?_)))
          exact .inl ⟨3,rfl,rfl⟩
end Go.Proofs.Ytbkhpddodmbdoaa
namespace Go.Proofs.Ytbkhpddodmbdoaa
open Go.RowKit
set_option maxRecDepth 20000
end Go.Proofs.Ytbkhpddodmbdoaa
