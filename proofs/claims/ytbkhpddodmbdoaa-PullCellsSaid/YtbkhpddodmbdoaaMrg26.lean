/-
  Merged: XFringeW, XCellR, XClones, XPulledR.
-/
import Derived.Test.YtbkhpddodmbdoaaMrg25
import Derived.Test.YtbkhpddodmbdoaaChainL
import Derived.Test.YtbkhpddodmbdoaaMrg16
import Derived.Test.YtbkhpddodmbdoaaMrg14
import Derived.Test.YtbkhpddodmbdoaaMrg6
import Derived.Test.YtbkhpddodmbdoaaMrg8
import Derived.Test.YtbkhpddodmbdoaaMrg19
set_option linter.unusedVariables false
set_option linter.unusedSimpArgs false
set_option linter.unnecessarySimpa false
namespace Go.Proofs.Ytbkhpddodmbdoaa
open Go.RowKit
set_option maxRecDepth 20000
set_option maxHeartbeats 4000000 in
theorem z9b {A B:Option Addr} {w h:Int} {n c d:Nat} {key dx dy:Int} {L:List Run} {G:Mem} (hw:1≤w∧w≤256) (hh:1≤h∧h≤256) (hB:RunsM G B L) (hd:L.length≤d) (hdm:d≤maxLen) (v:ValidL L) (hx:-64≤dx∧dx≤64) (hy:-64≤dy∧dy≤64) :
    q2g Try.prog 36 [.agg [.val (.int .i64 w),.val (.int .i64 h),.val (.slice A n c),.val (.int .i64 key)],.val (.slice B L.length d),.agg [.val (.int .i64 dx),.val (.int .i64 dy)]] G id 54 3 (q5f w h dx dy L).length (q0n (q5f w h dx dy L)):=by
  obtain ⟨r1,r2⟩:=q7c (W:=16*w) (H:=16*h) (by omega) (by omega)
  have v1:=(q34 r1 (fun x y hx=>(r2 x y).1 hx) (by omega) (by omega)).1
  have ms:=z9a (dx:=dx) (dy:=dy) hB hd hdm (q3c v) (by omega) (by omega)
  have v2:=z6g (dx:=dx) (dy:=dy) v.ok
  refine q10 tab_ok Try.func36 (.alone fun _=>rfl) ?_
  (repeat ((try (conv=>whnf));(refine stQ ?_)))
  conv=>whnf
  refine q1d (fun vs w=>by kernel_rfl) (q02 0) (by kernel_rfl) ms fun A1 c1 G1 hG1 hc1 hm1 hx1=>?_
  have hA1:=RunsM.frozen hx1
  have mr0:=z96 0 0 (16*w) (16*h) G1 (by omega) (by omega) (by omega) (by omega) (by omega) (by omega)
  rw [Int.sub_zero] at mr0
  have mr:q2g Try.prog 50 [.val (.int .i64 0),.val (.int .i64 0),.val (.int .i64 (16*w)),.val (.int .i64 (16*h))] G1 (q4e 0) 54 3 (q0z 0 (16*w) 0 (16*h).toNat).length (q0n (q0z 0 (16*w) 0 (16*h).toNat)):=by
    rw [z56,q5e];exact mr0
  (repeat ((try (conv=>whnf));(refine stQ ?_)))
  conv=>whnf
  refine q1d (fun vs w=>by kernel_rfl) (q02 0) (by kernel_rfl) mr fun A2 c2 G2 hG2 hc2 hm2 hx2=>?_
  have hA2:=RunsM.frozen hx2
  have mm:=q6g (hA1.mono hG2) hA2 hc1 hm1 hc2 hm2 (by unfold err2;rw [q3c v2,q3c v1];rfl)
  (repeat ((try (conv=>whnf));(refine stQ ?_)))
  conv=>whnf
  refine q2b (fun vs w=>by kernel_rfl) (q02 0) (by kernel_rfl) mm ?_
  (repeat ((try (conv=>whnf));(refine stQ ?_)))
  conv=>whnf
  exact .inl ⟨2,rfl,rfl⟩
set_option maxHeartbeats 4000000 in
theorem z8t {A:Option Addr} {w h:Int} {n c key ink:Nat} {dx dy:Int} {p:Nat→PcD} {G:Mem} (ok:PcsOk w h n p) (e0:pcsE w h n p=0) (hP:PcsM G A n p) (hc:n≤c) (hm:c≤maxLen) (hi:key<8) (hk:ink<8) (hne:ink≠key) (hx:-64≤dx∧dx≤64) (hy:-64≤dy∧dy≤64) :
    q2g Try.prog 17 [.val (.int .i64 w),.val (.int .i64 h),.val (.slice A n c),.val (.int .i64 key),.val (.int .i64 ink),.agg [.val (.int .i64 dx),.val (.int .i64 dy)]] G (q4e 0) 54 3 (q73 w h n p key ink dx dy).length (q0n (q73 w h n p key ink dx dy)):=by
  have hn:=ok.few
  have gc:=q3v (c:=c) (w:=w) (h:=h) hP (by omega)
  rw [e0] at gc
  have mk:=z6e (c:=c) (least:=255) ok e0 hP hi (by omega)
  have vk:=(ok.some_valid (sel:=fun I=>decide (255≤I key))).1
  have vi:=(ok.some_valid (sel:=fun I=>decide (1≤I ink))).1
  have vu:=(ok.under_valid (key:=key) (ink:=ink)).1
  have vp:=ok.paper_valid.1
  have vm:=(z34 (dx:=dx) (dy:=dy) ok.wd ok.ht (ok.under (key:=key) (ink:=ink)).1).1
  refine q10 tab_ok Try.func17 (q02 0) ?_
  (repeat ((try (conv=>whnf));(first |(refine stQ ?_) |(with_reducible first |refine q0b (fun vs w=>by kernel_rfl) (by kernel_rfl) (gc) ?_ |refine q0a (fun vs w=>by kernel_rfl) (by kernel_rfl) (gc) ?_ |refine q0e tab_ok Try.func27 (fun vs w=>by kernel_rfl) (by rfl) ?_ |refine q0e tab_ok Try.func34 (fun vs w=>by kernel_rfl) (by rfl) ?_))))
  conv=>whnf
  refine q1d (fun vs w=>by kernel_rfl) (q02 0) (by kernel_rfl) mk fun A1 c1 G1 hG1 hc1 hm1 hx1=>?_
  have hA1:=RunsM.frozen hx1
  have mi:=z6e (c:=c) (least:=1) ok e0 (hP.mono hG1) hk (by omega)
  (repeat ((try (conv=>whnf));(refine stQ ?_)))
  conv=>whnf
  refine q1d (fun vs w=>by kernel_rfl) (q02 0) (by kernel_rfl) mi fun A2 c2 G2 hG2 hc2 hm2 hx2=>?_
  have hA2:=RunsM.frozen hx2
  have mu:=q6g (hA1.mono hG2) hA2 hc1 hm1 hc2 hm2 (by unfold err2;rw [q3c vk,q3c vi];rfl)
  (repeat ((try (conv=>whnf));(refine stQ ?_)))
  conv=>whnf
  refine q1d (fun vs w=>by kernel_rfl) (q02 0) (by kernel_rfl) mu fun A3 c3 G3 hG3 hc3 hm3 hx3=>?_
  have hA3:=RunsM.frozen hx3
  have hP3:=hP.mono (Mem.le_trans hG1 (Mem.le_trans hG2 hG3))
  have mp:=q88 (key:=(key:Int)) ok e0 hP3 hc hm
  (repeat ((try (conv=>whnf));(first |(with_reducible refine z8s tab_ok (by kernel_rfl) [0,2,3,4] [1] [5,6,7,9,8,10,11] [9] (by decide +kernel) ?_) |((refine z6h (by rfl) ?_ ?_);(· first |exact Mem.le_refl _ |assumption)) |(refine stQ ?_))))
  conv=>whnf
  refine q1d (fun vs w=>by kernel_rfl) (.alone fun _=>rfl) (by kernel_rfl) mp fun A4 c4 G4 hG4 hc4 hm4 hx4=>?_
  have hA4:=RunsM.frozen hx4
  have mv:=z9b (A:=A) (n:=n) (c:=c) (key:=(key:Int)) ok.wd ok.ht (hA3.mono hG4) hc3 hm3 vu hx hy
  (repeat ((try (conv=>whnf));(first |((refine z6h (by rfl) ?_ ?_);(· first |exact Mem.le_refl _ |assumption)) |(refine stQ ?_))))
  conv=>whnf
  refine q1d (fun vs w=>by kernel_rfl) (.alone fun _=>rfl) (by kernel_rfl) mv fun A5 c5 G5 hG5 hc5 hm5 hx5=>?_
  have hA5:=RunsM.frozen hx5
  have mm:=q6g (hA4.mono hG5) hA5 hc4 hm4 hc5 hm5 (by unfold err2;rw [q3c vp];rw [show errL (q5f w h dx dy (mixR 1 (q28 p (fun I=>decide (255≤I key)) n) (q28 p (fun I=>decide (1≤I ink)) n)))=0 from q3c vm];rfl)
  (repeat ((try (conv=>whnf));(refine stQ ?_)))
  conv=>whnf
  refine q2b (fun vs w=>by kernel_rfl) (q02 0) (by kernel_rfl) mm ?_
  (repeat ((try (conv=>whnf));(refine stQ ?_)))
  conv=>whnf
  exact .inl ⟨4,rfl,rfl⟩
end Go.Proofs.Ytbkhpddodmbdoaa
namespace Go.Proofs.Ytbkhpddodmbdoaa
open Go.RowKit
set_option maxRecDepth 20000
set_option maxHeartbeats 4000000 in
theorem z6n {A:Option Addr} {w h W N n c:Nat} {p:Nat→PcD} {G:Mem} (ok:PcsOk w h n p) (hP:PcsM G A n p) (hW:W=16*w) (hN:N=16*h*W) (hN4:N≤4096) :
    q2g Try.prog 14 [.val (.int .i64 w),.val (.int .i64 h),.val (.slice A n c)] G id 27 8 N (q0m (fun i=>inkC (q00 p W n i)) N):=by
  have hw:=ok.wd
  have hh:=ok.ht
  have hn:=ok.few
  have hW0:0<W:=by omega
  have eN:(256:Int)*(w:Int)*(h:Int)=(N:Int):=by
    rw [hN,hW];push_cast
    rw [show (16:Int)*h*(16*w)=256*w*h by
      rw [Int.mul_comm 16 (h:Int),Int.mul_assoc,← Int.mul_assoc 16 16,Int.mul_comm (h:Int)];rfl]
  refine q10 tab_ok Try.func14 (.alone fun _=>rfl) ?_
  (repeat ((try (conv=>whnf));(refine stQ ?_)))
  conv=>whnf
  refine q0y tab_ok (fun m=>m≤n) (fun (m:Nat)=>[(19,.val (.int .i64 m))]) (fun m=>[.own 27 8 N (q0m (fun i=>inkC (q00 p W m i)) N)]) (fun m=>n-m) 0 (Nat.zero_le _) ?_ ?_
  · ((refine q0h ?_);(conv=>whnf);(refine q0k (by rfl) (by rfl) flQ ?_))
    refine q0c ?_ ?_ q0g
    · show (256*(w:Int)*(h:Int)).toNat=N
      omega
    · rw [show (256*(w:Int)*(h:Int)).toNat=N by omega]
      exact z07 N
  · rintro m hm
    rcases Nat.lt_or_ge m n with h1 |h1
    · obtain ⟨a,rfl,hd⟩:=hP.head h1
      obtain ⟨a',ha',ci⟩:=hP.inks h1
      cases ha'
      have hR:=hP.runs m h1
      have hroom:=hP.room m h1
      obtain ⟨k1,k2,k3,k4⟩:=ok.one m h1
      have hlen:=(q21 k1).length
      (repeat ((try (conv=>whnf));(first |(refine q0d _ hd ?_) |(refine stQ ?_))))
      conv=>whnf
      refine q0y tab_ok (fun s=>s≤(p m).L.length) (fun (s:Nat)=>[(28,.val (.int .i64 s))]) (fun s=>[.own 27 8 N (q0m (fun i=>inkC (q3k (q00 p W m) W ((p m).L.take s) (p m).I i)) N)]) (fun s=>(p m).L.length-s) 0 (Nat.zero_le _) ?_ ?_
      · ((refine q0h ?_);(conv=>whnf);(refine q0k (by rfl) (by rfl) flQ ?_))
        exact q0c rfl (by rw [List.take_zero,z51]) q0g
      · rintro s hs
        rcases Nat.lt_or_ge s (p m).L.length with h2 |h2
        · obtain ⟨r,hr⟩:∃ r,(p m).L[s]? = some r:=⟨_,List.getElem?_eq_getElem h2⟩
          obtain ⟨b,hb,cb⟩:=hR.cells hr
          have hbd:=(q21 k1).bd (List.mem_of_getElem? hr)
          have hout:=k3 r (List.mem_of_getElem? hr)
          unfold outP at hout
          obtain ⟨ry,r0,r1⟩:=r
          dsimp only at hbd hout cb
          obtain ⟨y,rfl⟩:∃ y:Nat,ry=y:=⟨ry.toNat,by omega⟩
          obtain ⟨x0,rfl⟩:∃ y:Nat,r0=y:=⟨r0.toNat,by omega⟩
          obtain ⟨x1,rfl⟩:∃ y:Nat,r1=y:=⟨r1.toNat,by omega⟩
          have e1:(y:Int)*16*(w:Int)=((y*W:Nat):Int):=by rw [hW];push_cast;rw [Int.mul_assoc]
          have hyW:y*W+W≤N:=by
            rw [hN]
            have:=Nat.mul_le_mul_right W (show y+1≤16*h by omega)
            rw [Nat.add_mul,Nat.one_mul] at this;exact this
          rw [hb] at hd
          (repeat ((try (conv=>whnf));(first |(refine q0d _ hd ?_) |(refine cb _ ?_) |(refine stQ ?_))))
          conv=>whnf
          refine q0y tab_ok (fun x=>x0≤x∧x≤x1) (fun (x:Nat)=>[(11,.val (.int .i64 x))]) (fun x=>[.own 27 8 N (q0m (fun i=>inkC (q3k (q00 p W m) W ((p m).L.take s++[⟨(y:Int),(x0:Int),(x:Int)⟩]) (p m).I i)) N),.cells 54 [.val (.int .i64 y),.val (.int .i64 x0),.val (.int .i64 x1)]]) (fun x=>x1-x) x0 ⟨Nat.le_refl _,by omega⟩ ?_ ?_
          · ((refine q0h ?_);(conv=>whnf);(refine q0k (by rfl) (by rfl) flQ ?_))
            exact q0c rfl (by rw [z3x]) (q0f (by exact flQ) q0g)
          · rintro x ⟨g1,g2⟩
            rcases Nat.lt_or_ge x x1 with h3 |h3
            · (repeat ((try (conv=>whnf));(first |(refine ci _ ?_) |(refine stQ ?_))))
              conv=>whnf
              have eo:((y:Int)*16*(w:Int)+(x:Int)).toNat * 8=(y*W+x)*8+0:=by rw [e1];omega
              have hxW:x<W:=by omega
              have hst:=z52 (J:=q00 p W m) hW0 (K:=(p m).L.take s) (y:=y) (I:=(p m).I) g1 hxW
              have hfl:=q6n (c:=fun i=>inkC (q3k (q00 p W m) W ((p m).L.take s++[⟨(y:Int),(x0:Int),(x:Int)⟩]) (p m).I i)) (sz:=8) (n:=N) (x:=y*W+x) (o:=0) (vs:=inkC (p m).I) (fun _ _=>rfl) (by omega) (Nat.le_refl _)
              refine q20 (ys:=q0m (fun i=>inkC (q3k (q00 p W m) W ((p m).L.take s++[⟨(y:Int),(x0:Int),((x+1:Nat):Int)⟩]) (p m).I i)) N) ?_ ?_ ?_
              · show ((y:Int)*16*(w:Int)+(x:Int)).toNat * 8+8≤_
                rw [eo,q1o (sz:=8) (fun _ _=>rfl)];omega
              · show (q0m _ N).take (((y:Int)*16*(w:Int)+(x:Int)).toNat * 8)++inkC (p m).I++(q0m _ N).drop (((y:Int)*16*(w:Int)+(x:Int)).toNat * 8+(inkC (p m).I).length)=_
                rw [eo,hfl]
                refine q1m fun i hi=>?_
                rw [hst i]
                split <;> rfl
              conv=>whnf
              (repeat ((try (conv=>whnf));(refine stQ ?_)))
              conv=>whnf
              refine ⟨x+1,by omega,by omega,?_⟩
              ((refine q0h ?_);(conv=>whnf);(refine q0k (by rfl) (by rfl) flQ ?_))
              exact q0c rfl rfl (q0f (by exact flQ) q0g)
            · obtain rfl:x=x1:=by omega
              have htk:(p m).L.take (s+1)=(p m).L.take s++[⟨(y:Int),(x0:Int),(x:Int)⟩]:=by rw [List.take_add_one,hr];rfl
              (repeat ((try (conv=>whnf));(refine stQ ?_)))
              conv=>whnf
              refine ⟨s+1,by omega,by omega,?_⟩
              rw [htk]
              ((refine q0h ?_);(conv=>whnf);(refine q0k (by rfl) (by rfl) flQ ?_))
              exact q0c rfl rfl q0g
        · obtain rfl:s=(p m).L.length:=by omega
          rw [List.take_length]
          (repeat ((try (conv=>whnf));(refine stQ ?_)))
          conv=>whnf
          refine ⟨m+1,by omega,by omega,?_⟩
          ((refine q0h ?_);(conv=>whnf);(refine q0k (by rfl) (by rfl) flQ ?_))
          exact q0c rfl rfl q0g
    · obtain rfl:m=n:=by omega
      (repeat ((try (conv=>whnf));(refine stQ ?_)))
      conv=>whnf
      exact .inl ⟨0,rfl,rfl⟩
end Go.Proofs.Ytbkhpddodmbdoaa
namespace Go.Proofs.Ytbkhpddodmbdoaa
open Go.RowKit
set_option maxRecDepth 20000
theorem ElsM.cellsAt {G:Mem} {A:Option Addr} {sz n:Nat} {c:Nat→List Value} (h:ElsM G A sz n c) (hs:0<sz) (hn:0<n):∃ p,A=some p∧G.cellsAt p (q0m c n):=by
  obtain ⟨b,off,hA,_⟩:=h.at_ 0 hn
  refine ⟨_,hA,fun j u hj=>?_⟩
  have hjl:=(List.getElem?_eq_some_iff.1 hj).1
  rw [q1o h.len] at hjl
  have hx:j/sz<n:=Nat.div_lt_of_lt_mul (by rw [Nat.mul_comm];exact hjl)
  obtain ⟨b',off',hA',h2⟩:=h.at_ (j/sz) hx
  rw [hA] at hA';cases hA'
  have e:j=j/sz*sz+j%sz:=by rw [Nat.mul_comm];exact (Nat.div_add_mod j sz).symm
  rw [e,q3o h.len hx (Nat.mod_lt _ hs)] at hj
  have:=h2 _ _ hj
  rw [q0r]
  rw [Nat.add_assoc,← e] at this
  exact this
theorem ElsM.srcV {G:Mem} {A:Option Addr} {sz n:Nat} {c:Nat→List Value} (h:ElsM G A sz n c) (hs:0<sz) (ho:∀ x,x<n→∀ v∈c x,v.oneCell'=true) (K:Nat→List Value→Prop) (k:K n (q0m c n)):SrcV G A n sz K :=
  ⟨q0m c n,q1o h.len,fun h0=>h.cellsAt hs (by rcases Nat.eq_zero_or_pos n with e |e;(subst e;exact absurd rfl h0);exact e),z5s ho,k⟩
end Go.Proofs.Ytbkhpddodmbdoaa
namespace Go.Proofs.Ytbkhpddodmbdoaa
open Go.RowKit
set_option maxRecDepth 20000
def q4x (J:Nat→Nat→Int) (nb:Nat→Bool) (key i:Nat):Nat→Nat→Int:=q3l J (fun y=>decide (y<i)&&nb y) key
theorem x1f {J:Nat→Nat→Int} {nb:Nat→Bool} {key:Nat}:q4x J nb key 0=J:=by
  funext y;exact q7v (by simp)
theorem z37 {J:Nat→Nat→Int} {nb:Nat→Bool} {key i:Nat} (h:J i key≠255∨nb i=false):q4x J nb key (i+1)=q4x J nb key i:=by
  funext y
  unfold q4x
  by_cases e:y=i
  · subst e
    rcases h with h |h
    · rw [z1c h,z1c h]
    · rw [q7v (by simp [h]),q7v (by simp [h])]
  · exact q6w (by rw [show decide (y<i+1)=decide (y<i) from by rw [decide_eq_decide];omega])
theorem x1g {J:Nat→Nat→Int} {nb:Nat→Bool} {key i N:Nat} (h:J i key=255) (hn:nb i=true):q0m (fun y=>if y=i then inkC (keyF key) else inkC (q4x J nb key i y)) N=q0m (fun y=>inkC (q4x J nb key (i+1) y)) N:=by
  refine q1m fun y hy=>?_
  by_cases e:y=i
  · subst e
    rw [if_pos rfl]
    unfold q4x q3l
    rw [if_pos ⟨by simp [hn],h⟩]
  · rw [if_neg e]
    unfold q4x
    rw [q6w (f:=fun y=>decide (y<i+1)&&nb y) (g:=fun y=>decide (y<i)&&nb y) (by rw [show decide (y<i+1)=decide (y<i) from by rw [decide_eq_decide];omega])]
theorem x3b {J:Nat→Nat→Int} {nb:Nat→Bool} {key N:Nat}:q0m (fun y=>inkC (q4x J nb key N y)) N=q0m (fun y=>inkC (q3l J nb key y)) N:=q1m fun y hy=>by
  unfold q4x
  rw [q6w (g:=nb) (by simp [hy])]
abbrev x1h (I:Nat→Int):Bool:=(decide (I 0=0)&&(decide (I 1=0)&&(decide (I 2=0)&&(decide (I 3=0)&&(decide (I 4=0)&&(decide (I 5=0)&&(decide (I 6=0)&&(decide (I 7=0)&&true))))))))
theorem x3c {I:Nat→Int}:x1h I=true↔q2l I:=by simp [x1h,q2l]
def sawP (J:Nat→Nat→Int) (W:Nat) (a b c d:Int):Prop:=∃ q p:Nat,(a≤q∧(q:Int)<b)∧(c≤p∧(p:Int)<d)∧q2l (J (q*W+p))
theorem x3d {J:Nat→Nat→Int} {W:Nat} {a c d:Int}:¬ sawP J W a a c d:=by
  rintro ⟨q,p,h1,h2,h3⟩;omega
theorem x4u {J:Nat→Nat→Int} {W:Nat} {a c d:Int} {v:Nat} (h:a≤v):sawP J W a ((v:Int)+1) c d↔sawP J W a v c d∨sawP J W v ((v:Int)+1) c d:=by
  constructor
  · rintro ⟨q,p,h1,h2,h3⟩
    by_cases e:q=v
    · exact .inr ⟨q,p,by omega,h2,h3⟩
    · exact .inl ⟨q,p,by omega,h2,h3⟩
  · rintro (⟨q,p,h1,h2,h3⟩ |⟨q,p,h1,h2,h3⟩)
    · exact ⟨q,p,by omega,h2,h3⟩
    · exact ⟨q,p,by omega,h2,h3⟩
theorem x3e {J:Nat→Nat→Int} {W:Nat} {c:Int} {v u:Nat} (h:c≤u):sawP J W v ((v:Int)+1) c ((u:Int)+1)↔sawP J W v ((v:Int)+1) c u∨q2l (J (v*W+u)):=by
  constructor
  · rintro ⟨q,p,h1,h2,h3⟩
    obtain rfl:q=v:=by omega
    by_cases e:p=u
    · subst e;exact .inr h3
    · exact .inl ⟨q,p,by omega,by omega,h3⟩
  · rintro (⟨q,p,h1,h2,h3⟩ |h3)
    · exact ⟨q,p,h1,by omega,h3⟩
    · exact ⟨v,u,by omega,by omega,h3⟩
theorem x3f {J:Nat→Nat→Int} {w h:Int} {W N i r:Nat} (hw:0<w) (hh:0<h) (hW:(W:Int)=16*w) (hN:(N:Int)=(16*h)*(16*w)) (hi:i<N) :
    sawP J W (max 0 (((i/W:Nat):Int)-r)) (min (16*h-1) (((i/W:Nat):Int)+r)+1) (max 0 (((i%W:Nat):Int)-r)) (min (16*w-1) (((i%W:Nat):Int)+r)+1)↔z6v (fun i=>vecI (J i)) W N r i:=by
  obtain ⟨c1,c2⟩:=q6o hw hW hN hi
  constructor
  · rintro ⟨q,p,h1,h2,h3⟩
    obtain ⟨j,j1,j2,j3,j4⟩:=z8d (x:=(p:Int)) (y:=(q:Int)) hw hW hN (by omega) (by omega)
    have e:j=q*W+p:=by
      have:((q*W:Nat):Int)=(q:Int)*(16*w):=by rw [Int.natCast_mul,hW]
      omega
    exact ⟨j,j1,vecI_zero.2 (by rw [e];exact h3),by omega,by omega⟩
  · rintro ⟨j,j1,j2,j3,j4⟩
    obtain ⟨d1,d2⟩:=q6o hw hW hN j1
    have n1:=Int.natCast_nonneg (j/W)
    have n2:=Int.natCast_nonneg (j%W)
    refine ⟨j/W,j%W,by omega,by omega,?_⟩
    rw [Nat.mul_comm,Nat.div_add_mod]
    exact vecI_zero.1 j2
set_option maxHeartbeats 4000000 in
theorem z8u {A:Option Addr} {w h W N c r key:Nat} {J:Nat→Nat→Int} {G:Mem} {nb:Nat→Bool} (hw:1≤w∧w≤256) (hh:1≤h∧h≤256) (hW:W=16*w) (hN:N=16*h*W) (hN4:N≤4096) (hc:N≤c∧c≤maxLen) (hk:key<8) (hr:r≤64)
    (hE:ElsM G A 8 N fun i=>inkC (J i)) (hJ:∀ i,i<N→J i key≤255) (hnb:∀ i,i<N→(nb i=true↔z6v (fun i=>vecI (J i)) W N r i)) :
    q2g Try.prog 13 [.val (.int .i64 w),.val (.int .i64 h),.val (.slice A N c),.val (.int .i64 key),.val (.int .i64 r)] G id 27 8 N (q0m (fun i=>inkC (q3l J nb key i)) N):=by
  have hW0:0<W:=by omega
  have hWi:(W:Int)=16*(w:Int):=by omega
  have hNi:(N:Int)=(16*(h:Int))*(16*(w:Int)):=by rw [hN,hW];push_cast;rfl
  unfold maxLen at hc
  refine q10 tab_ok Try.func13 (.alone fun _=>rfl) ?_
  (repeat ((try (conv=>whnf));(refine stQ ?_)))
  conv=>whnf
  refine hE.srcV (by decide) (fun x _ v hv=>by simp [inkC] at hv;rcases hv with rfl |rfl |rfl |rfl |rfl |rfl |rfl |rfl <;> rfl) _ ?_
  (repeat ((try (conv=>whnf));(refine stQ ?_)))
  conv=>whnf
  refine q0y tab_ok (fun i=>i≤N) (fun (i:Nat)=>[(23,.val (.int .i64 i))]) (fun i=>[.gone,.own 27 8 N (q0m (fun y=>inkC (q4x J nb key i y)) N)]) (fun i=>N-i) 0 (Nat.zero_le _) ?_ ?_
  · ((refine q0h ?_);(conv=>whnf);(refine q0k (by rfl) (by rfl) flQ ?_))
    exact q0l (q0c rfl (by rw [x1f]) q0g)
  · rintro i hi
    rcases Nat.lt_or_ge i N with h1 |h1
    · obtain ⟨a,rfl,ci⟩:=hE.cell (j:=key) h1 (z99 hk)
      have hJi:=hJ i h1
      have ci1:G.cell? (Addr.add (a.add (i*8)) (key*1))=some (.int .u8 (J i key)):=by rw [Nat.mul_one];exact ci
      have hW':(16:Int)*(w:Int)=(W:Int):=by omega
      have hd:(i:Int).tdiv (16*(w:Int))=((i/W:Nat):Int):=by rw [hW'];exact (Int.ofNat_tdiv i W).symm
      have hm:(i:Int).tmod (16*(w:Int))=((i%W:Nat):Int):=by rw [hW'];exact (Int.ofNat_tmod i W).symm
      by_cases hq:J i key=255
      · (repeat ((try (conv=>whnf));(first |(refine q0d _ ci1 ?_) |(refine stQ ?_))))
        conv=>whnf
        rw [hd,hm]
        obtain ⟨c1,c2⟩:=q6o (w:=(w:Int)) (h:=(h:Int)) (by omega) hWi hNi h1
        have n1:=Int.natCast_nonneg (i%W)
        have n2:=Int.natCast_nonneg (i/W)
        generalize hx:i%W=x at *
        generalize hy:i/W=y at *
        have hnear:=(x3f (J:=J) (r:=r) (w:=(w:Int)) (h:=(h:Int)) (by omega) (by omega) hWi hNi h1).trans (hnb i h1).symm
        rw [hx,hy] at hnear
        (repeat ((try (conv=>whnf));(refine stQ ?_)))
        conv=>whnf
        refine q3b tab_ok (fun (v:Int) (b:Bool)=>(max 0 ((y:Int)-r)≤v∧v≤min (16*(h:Int)-1) ((y:Int)+r)+1)∧(b=true↔sawP J W (max 0 ((y:Int)-r)) v (max 0 ((x:Int)-r)) (min (16*(w:Int)-1) ((x:Int)+r)+1)))
          (fun (v:Int) (b:Bool)=>[(15,.val (.bool b)),(16,.val (.int .i64 v))]) (fun v b=>[.gone,.own 27 8 N (q0m (fun y=>inkC (q4x J nb key i y)) N)]) (fun v b=>(16*(h:Int)-v).toNat) (max 0 ((y:Int)-r)) false ⟨by omega,⟨fun h=>(by cases h),fun h=>(x3d h).elim⟩⟩ ?_ ?_
        · ((refine q0h ?_);(conv=>whnf);(refine q0k (by rfl) (by rfl) flQ ?_))
          exact q0l (q0c rfl rfl q0g)
        · rintro v b ⟨hv,hb⟩
          rcases Int.lt_or_le (min (16*(h:Int)-1) ((y:Int)+r)) v with h2 |h2
          · have hb':b=nb i:=by
              rw [Bool.eq_iff_iff,hb,← hnear,show v=min (16*(h:Int)-1) ((y:Int)+r)+1 by omega]
            cases b
            · (repeat ((try (conv=>whnf));(refine stQ ?_)))
              conv=>whnf
              refine ⟨i+1,by omega,by omega,?_⟩
              ((refine q0h ?_);(conv=>whnf);(refine q0k (by rfl) (by rfl) flQ ?_))
              exact q0l (q0c rfl (by rw [z37 (.inr hb'.symm)]) q0g)
            · (repeat ((try (conv=>whnf));(refine stQ ?_)))
              conv=>whnf
              refine q20 (vs:=inkC (fun _=>0)) (by rw [q1o (sz:=8) (fun _ _=>rfl)];show i*8+8≤_;omega) (by exact z8g (C:=q4x J nb key i) h1) ?_
              conv=>whnf
              (repeat ((try (conv=>whnf));(refine stQ ?_)))
              conv=>whnf
              have hpp:=(z8f (C:=q4x J nb key i) h1 hk (Nat.mul_one key)).trans (x1g hq hb'.symm)
              refine q20 (vs:=[.int .u8 255]) (by rw [q1o (sz:=8) (fun y _=>by split <;> rfl)];show i*8+key*1+1≤_;omega) (by exact hpp) ?_
              conv=>whnf
              (repeat ((try (conv=>whnf));(refine stQ ?_)))
              conv=>whnf
              refine ⟨i+1,by omega,by omega,?_⟩
              ((refine q0h ?_);(conv=>whnf);(refine q0k (by rfl) (by rfl) flQ ?_))
              exact q0l (q0c rfl rfl q0g)
          · obtain ⟨vn,rfl⟩:∃ k:Nat,v=k:=⟨v.toNat,by omega⟩
            (repeat ((try (conv=>whnf));(refine stQ ?_)))
            conv=>whnf
            refine q3b tab_ok (fun (u:Int) (b2:Bool)=>(max 0 ((x:Int)-r)≤u∧u≤min (16*(w:Int)-1) ((x:Int)+r)+1)∧(b2=true↔b=true∨sawP J W vn ((vn:Int)+1) (max 0 ((x:Int)-r)) u))
              (fun (u:Int) (b2:Bool)=>[(15,.val (.bool b2)),(17,.val (.int .i64 u))]) (fun u b2=>[.gone,.own 27 8 N (q0m (fun y=>inkC (q4x J nb key i y)) N)]) (fun u b2=>(16*(w:Int)-u).toNat) (max 0 ((x:Int)-r)) b ⟨by omega,⟨fun h=>.inl h,fun h=>h.resolve_right fun ⟨q,p,k1,k2,k3⟩=>by omega⟩⟩ ?_ ?_
            · ((refine q0h ?_);(conv=>whnf);(refine q0k (by rfl) (by rfl) flQ ?_))
              exact q0l (q0c rfl rfl q0g)
            · rintro u b2 ⟨hu,hb2⟩
              rcases Int.lt_or_le (min (16*(w:Int)-1) ((x:Int)+r)) u with h3 |h3
              · (repeat ((try (conv=>whnf));(refine stQ ?_)))
                conv=>whnf
                refine ⟨(vn:Int)+1,b2,⟨by omega,?_⟩,by omega,?_⟩
                · rw [hb2,hb,show u=min (16*(w:Int)-1) ((x:Int)+r)+1 by omega]
                  exact (x4u (by omega)).symm
                · ((refine q0h ?_);(conv=>whnf);(refine q0k (by rfl) (by rfl) flQ ?_))
                  exact q0l (q0c rfl rfl q0g)
              · obtain ⟨un,rfl⟩:∃ k:Nat,u=k:=⟨u.toNat,by omega⟩
                have hcl:=x3e (J:=J) (W:=W) (v:=vn) (u:=un) (c:=max 0 ((x:Int)-r)) (by omega)
                have hvW:vn*W+W≤N:=by
                  rw [hN]
                  have:=Nat.mul_le_mul_right W (show vn+1≤16*h by omega)
                  rw [Nat.add_mul,Nat.one_mul] at this;exact this
                have e1:(vn:Int)*16*(w:Int)=((vn*W:Nat):Int):=by rw [hW];push_cast;rw [Int.mul_assoc]
                have eo:((vn:Int)*16*(w:Int)+(un:Int)).toNat=vn*W+un:=by rw [e1];omega
                obtain ⟨a',ha',cj⟩:=hE.cells (x:=vn*W+un) (by omega)
                cases ha'
                rw [← eo] at cj
                cases b2
                · (repeat ((try (conv=>whnf));(first |(refine cj _ ?_) |(refine stQ ?_))))
                  conv=>whnf
                  refine ⟨(un:Int)+1,x1h (J ((vn:Int)*16*(w:Int)+(un:Int)).toNat),⟨by omega,?_⟩,by omega,?_⟩
                  · rw [x3c,eo,hcl]
                    exact ⟨fun k=>.inr (.inr k),fun k=>k.elim (fun k=>absurd (hb2.2 (.inl k)) (by simp)) fun k=>k.elim (fun k=>absurd (hb2.2 (.inr k)) (by simp)) id⟩
                  · ((refine q0h ?_);(conv=>whnf);(refine q0k (by rfl) (by rfl) flQ ?_))
                    exact q0l (q0c rfl rfl q0g)
                · (repeat ((try (conv=>whnf));(refine stQ ?_)))
                  conv=>whnf
                  refine ⟨(un:Int)+1,true,⟨by omega,?_⟩,by omega,?_⟩
                  · exact ⟨fun _=>(hb2.1 rfl).elim .inl fun k=>.inr (hcl.2 (.inl k)),fun _=>rfl⟩
                  · ((refine q0h ?_);(conv=>whnf);(refine q0k (by rfl) (by rfl) flQ ?_))
                    exact q0l (q0c rfl rfl q0g)
      · have hlt:J i key<255:=by omega
        (repeat ((try (conv=>whnf));(first |(refine q0d _ ci1 ?_) |(refine stQ ?_))))
        conv=>whnf
        refine ⟨i+1,by omega,by omega,?_⟩
        ((refine q0h ?_);(conv=>whnf);(refine q0k (by rfl) (by rfl) flQ ?_))
        exact q0l (q0c rfl (by rw [z37 (.inl hq)]) q0g)
    · obtain rfl:i=N:=by omega
      (repeat ((try (conv=>whnf));(refine stQ ?_)))
      conv=>whnf
      rw [x3b]
      exact .inl ⟨1,rfl,rfl⟩
end Go.Proofs.Ytbkhpddodmbdoaa
