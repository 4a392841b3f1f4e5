/-
  Merged: XFringeW, XCellR.
-/
import Derived.Test.YtbkhpddodmbdoaaMrg24
import Derived.Test.YtbkhpddodmbdoaaChainL
import Derived.Test.YtbkhpddodmbdoaaMrg15
set_option linter.unusedVariables false
set_option linter.unusedSimpArgs false
set_option linter.unnecessarySimpa false
namespace Go.Proofs.Ytbkhpddodmbdoaa
open Go.RowKit
set_option maxRecDepth 20000
set_option maxHeartbeats 4000000 in
theorem z2g {A B:Option Addr} {w h:Int} {n c d:Nat} {key dx dy:Int} {L:List Run} {G:Mem} (hw:1≤w∧w≤256) (hh:1≤h∧h≤256) (hB:RunsM G B L) (hd:L.length≤d) (hdm:d≤maxLen) (v:ValidL L) (hx:-64≤dx∧dx≤64) (hy:-64≤dy∧dy≤64) :
    q2j Try.prog 36 [.agg [.val (.int .i64 w),.val (.int .i64 h),.val (.slice A n c),.val (.int .i64 key)],.val (.slice B L.length d),.agg [.val (.int .i64 dx),.val (.int .i64 dy)]] G id 54 3 (q3b w h dx dy L).length (q0o (q3b w h dx dy L)):=by
  obtain ⟨r1,r2⟩:=q7h (W:=16*w) (H:=16*h) (by omega) (by omega)
  have v1:=(q3l r1 (fun x y hx=>(r2 x y).1 hx) (by omega) (by omega)).1
  have ms:=z80 (dx:=dx) (dy:=dy) hB hd hdm (q2q v) (by omega) (by omega)
  have v2:=z6d (dx:=dx) (dy:=dy) v.ok
  refine q1y tab_ok Try.func36 (.alone fun _=>rfl) ?_
  (repeat ((try (conv=>whnf));(refine stQ ?_)))
  conv=>whnf
  refine q04 (fun vs w=>by kernel_rfl) (q00 0) (by kernel_rfl) ms fun A1 c1 G1 hG1 hc1 hm1 hx1=>?_
  have hA1:=RunsM.frozen hx1
  have mr0:=z9x 0 0 (16*w) (16*h) G1 (by omega) (by omega) (by omega) (by omega) (by omega) (by omega)
  rw [Int.sub_zero] at mr0
  have mr:q2j Try.prog 50 [.val (.int .i64 0),.val (.int .i64 0),.val (.int .i64 (16*w)),.val (.int .i64 (16*h))] G1 (q34 0) 54 3 (q02 0 (16*w) 0 (16*h).toNat).length (q0o (q02 0 (16*w) 0 (16*h).toNat)):=by
    rw [z54,q5j];exact mr0
  (repeat ((try (conv=>whnf));(refine stQ ?_)))
  conv=>whnf
  refine q04 (fun vs w=>by kernel_rfl) (q00 0) (by kernel_rfl) mr fun A2 c2 G2 hG2 hc2 hm2 hx2=>?_
  have hA2:=RunsM.frozen hx2
  have mm:=q6o (hA1.mono hG2) hA2 hc1 hm1 hc2 hm2 (by unfold err2;rw [q2q v2,q2q v1];rfl)
  (repeat ((try (conv=>whnf));(refine stQ ?_)))
  conv=>whnf
  refine q15 (fun vs w=>by kernel_rfl) (q00 0) (by kernel_rfl) mm ?_
  (repeat ((try (conv=>whnf));(refine stQ ?_)))
  conv=>whnf
  exact .inl ⟨2,rfl,rfl⟩
set_option maxHeartbeats 4000000 in
theorem q9d {A:Option Addr} {w h:Int} {n c ink:Nat} {dx dy:Int} {p:Nat→PcD} {G:Mem} (ok:PcsOk w h n p) (e0:pcsE w h n p=0) (hP:PcsM G A n p) (hc:n≤c) (hm:c≤maxLen) (hk:ink<8) (hx:-64≤dx∧dx≤64) (hy:-64≤dy∧dy≤64) :
    q2j Try.prog 16 [.val (.int .i64 w),.val (.int .i64 h),.val (.slice A n c),.val (.int .i64 ink),.agg [.val (.int .i64 dx),.val (.int .i64 dy)]] G (q34 0) 54 3 (q3b w h dx dy (q2k p (fun I=>decide (1≤I ink)) n)).length (q0o (q3b w h dx dy (q2k p (fun I=>decide (1≤I ink)) n))):=by
  have hn:=ok.few
  have gc:=q12 (c:=c) (w:=w) (h:=h) hP (by omega)
  rw [e0] at gc
  have mi:=z1j (c:=c) (least:=1) ok e0 hP hk (by omega)
  have vi:=(ok.some_valid (sel:=fun I=>decide (1≤I ink))).1
  refine q1y tab_ok Try.func16 (q00 0) ?_
  (repeat ((try (conv=>whnf));(first |(refine stQ ?_) |(with_reducible first |refine q0b (fun vs w=>by kernel_rfl) (by kernel_rfl) (gc) ?_ |refine q0a (fun vs w=>by kernel_rfl) (by kernel_rfl) (gc) ?_ |refine q0c tab_ok Try.func27 (fun vs w=>by kernel_rfl) (by rfl) ?_ |refine q0c tab_ok Try.func34 (fun vs w=>by kernel_rfl) (by rfl) ?_))))
  conv=>whnf
  refine q04 (fun vs w=>by kernel_rfl) (q00 0) (by kernel_rfl) mi fun A1 c1 G1 hG1 hc1 hm1 hx1=>?_
  have hA1:=RunsM.frozen hx1
  have mv:=z2g (A:=A) (n:=n) (c:=c) (key:=(ink:Int)) ok.wd ok.ht hA1 hc1 hm1 vi hx hy
  (repeat ((try (conv=>whnf));(refine stQ ?_)))
  conv=>whnf
  refine q15 (fun vs w=>by kernel_rfl) (.alone fun _=>rfl) (by kernel_rfl) mv ?_
  (repeat ((try (conv=>whnf));(refine stQ ?_)))
  conv=>whnf
  exact .inl ⟨4,rfl,rfl⟩
set_option maxHeartbeats 4000000 in
theorem z1l {A:Option Addr} {w h:Int} {n c key ink:Nat} {dx dy:Int} {p:Nat→PcD} {G:Mem} (ok:PcsOk w h n p) (e0:pcsE w h n p=0) (hP:PcsM G A n p) (hc:n≤c) (hm:c≤maxLen) (hi:key<8) (hk:ink<8) (hne:ink≠key) (hx:-64≤dx∧dx≤64) (hy:-64≤dy∧dy≤64) :
    q2j Try.prog 17 [.val (.int .i64 w),.val (.int .i64 h),.val (.slice A n c),.val (.int .i64 key),.val (.int .i64 ink),.agg [.val (.int .i64 dx),.val (.int .i64 dy)]] G (q34 0) 54 3 (q47 w h n p key ink dx dy).length (q0o (q47 w h n p key ink dx dy)):=by
  have hn:=ok.few
  have gc:=q12 (c:=c) (w:=w) (h:=h) hP (by omega)
  rw [e0] at gc
  have mk:=z1j (c:=c) (least:=255) ok e0 hP hi (by omega)
  have vk:=(ok.some_valid (sel:=fun I=>decide (255≤I key))).1
  have vi:=(ok.some_valid (sel:=fun I=>decide (1≤I ink))).1
  have vu:=(ok.under_valid (key:=key) (ink:=ink)).1
  have vp:=ok.paper_valid.1
  have vm:=(q6n (dx:=dx) (dy:=dy) ok.wd ok.ht (ok.under (key:=key) (ink:=ink)).1).1
  refine q1y tab_ok Try.func17 (q00 0) ?_
  (repeat ((try (conv=>whnf));(first |(refine stQ ?_) |(with_reducible first |refine q0b (fun vs w=>by kernel_rfl) (by kernel_rfl) (gc) ?_ |refine q0a (fun vs w=>by kernel_rfl) (by kernel_rfl) (gc) ?_ |refine q0c tab_ok Try.func27 (fun vs w=>by kernel_rfl) (by rfl) ?_ |refine q0c tab_ok Try.func34 (fun vs w=>by kernel_rfl) (by rfl) ?_))))
  conv=>whnf
  refine q04 (fun vs w=>by kernel_rfl) (q00 0) (by kernel_rfl) mk fun A1 c1 G1 hG1 hc1 hm1 hx1=>?_
  have hA1:=RunsM.frozen hx1
  have mi:=z1j (c:=c) (least:=1) ok e0 (hP.mono hG1) hk (by omega)
  (repeat ((try (conv=>whnf));(refine stQ ?_)))
  conv=>whnf
  refine q04 (fun vs w=>by kernel_rfl) (q00 0) (by kernel_rfl) mi fun A2 c2 G2 hG2 hc2 hm2 hx2=>?_
  have hA2:=RunsM.frozen hx2
  have mu:=q6o (hA1.mono hG2) hA2 hc1 hm1 hc2 hm2 (by unfold err2;rw [q2q vk,q2q vi];rfl)
  (repeat ((try (conv=>whnf));(refine stQ ?_)))
  conv=>whnf
  refine q04 (fun vs w=>by kernel_rfl) (q00 0) (by kernel_rfl) mu fun A3 c3 G3 hG3 hc3 hm3 hx3=>?_
  have hA3:=RunsM.frozen hx3
  have hP3:=hP.mono (Mem.le_trans hG1 (Mem.le_trans hG2 hG3))
  have mp:=z2f (key:=(key:Int)) ok e0 hP3 hc hm
  (repeat ((try (conv=>whnf));(first |(with_reducible refine z8i tab_ok (by kernel_rfl) [0,2,3,4] [1] [5,6,7,9,8,10,11] [9] (by decide +kernel) ?_) |((refine z6e (by rfl) ?_ ?_);(· first |exact Mem.le_refl _ |assumption)) |(refine stQ ?_))))
  conv=>whnf
  refine q04 (fun vs w=>by kernel_rfl) (.alone fun _=>rfl) (by kernel_rfl) mp fun A4 c4 G4 hG4 hc4 hm4 hx4=>?_
  have hA4:=RunsM.frozen hx4
  have mv:=z2g (A:=A) (n:=n) (c:=c) (key:=(key:Int)) ok.wd ok.ht (hA3.mono hG4) hc3 hm3 vu hx hy
  (repeat ((try (conv=>whnf));(first |((refine z6e (by rfl) ?_ ?_);(· first |exact Mem.le_refl _ |assumption)) |(refine stQ ?_))))
  conv=>whnf
  refine q04 (fun vs w=>by kernel_rfl) (.alone fun _=>rfl) (by kernel_rfl) mv fun A5 c5 G5 hG5 hc5 hm5 hx5=>?_
  have hA5:=RunsM.frozen hx5
  have mm:=q6o (hA4.mono hG5) hA5 hc4 hm4 hc5 hm5 (by unfold err2;rw [q2q vp];rw [show errL (q3b w h dx dy (mixR 1 (q2k p (fun I=>decide (255≤I key)) n) (q2k p (fun I=>decide (1≤I ink)) n)))=0 from q2q vm];rfl)
  (repeat ((try (conv=>whnf));(refine stQ ?_)))
  conv=>whnf
  refine q15 (fun vs w=>by kernel_rfl) (q00 0) (by kernel_rfl) mm ?_
  (repeat ((try (conv=>whnf));(refine stQ ?_)))
  conv=>whnf
  exact .inl ⟨4,rfl,rfl⟩
end Go.Proofs.Ytbkhpddodmbdoaa
namespace Go.Proofs.Ytbkhpddodmbdoaa
open Go.RowKit
set_option maxRecDepth 20000
set_option maxHeartbeats 4000000 in
theorem q7o {A:Option Addr} {w h W N n c:Nat} {p:Nat→PcD} {G:Mem} (ok:PcsOk w h n p) (hP:PcsM G A n p) (hW:W=16*w) (hN:N=16*h*W) (hN4:N≤4096) :
    q2j Try.prog 14 [.val (.int .i64 w),.val (.int .i64 h),.val (.slice A n c)] G id 27 8 N (q0p (fun i=>inkC (q01 p W n i)) N):=by
  have hw:=ok.wd
  have hh:=ok.ht
  have hn:=ok.few
  have hW0:0<W:=by omega
  have eN:(256:Int)*(w:Int)*(h:Int)=(N:Int):=by
    rw [hN,hW];push_cast
    rw [show (16:Int)*h*(16*w)=256*w*h by
      rw [Int.mul_comm 16 (h:Int),Int.mul_assoc,← Int.mul_assoc 16 16,Int.mul_comm (h:Int)];rfl]
  refine q1y tab_ok Try.func14 (.alone fun _=>rfl) ?_
  (repeat ((try (conv=>whnf));(refine stQ ?_)))
  conv=>whnf
  refine q05 tab_ok (fun m=>m≤n) (fun (m:Nat)=>[(19,.val (.int .i64 m))]) (fun m=>[.own 27 8 N (q0p (fun i=>inkC (q01 p W m i)) N)]) (fun m=>n-m) 0 (Nat.zero_le _) ?_ ?_
  · ((refine q0h ?_);(conv=>whnf);(refine q0k (by rfl) (by rfl) flQ ?_))
    refine q0e ?_ ?_ q0g
    · show (256*(w:Int)*(h:Int)).toNat=N
      omega
    · rw [show (256*(w:Int)*(h:Int)).toNat=N by omega]
      exact z1b N
  · rintro m hm
    rcases Nat.lt_or_ge m n with h1 |h1
    · obtain ⟨a,rfl,hd⟩:=hP.head h1
      obtain ⟨a',ha',ci⟩:=hP.inks h1
      cases ha'
      have hR:=hP.runs m h1
      have hroom:=hP.room m h1
      obtain ⟨k1,k2,k3,k4⟩:=ok.one m h1
      have hlen:=(q22 k1).length
      (repeat ((try (conv=>whnf));(first |(refine q0d _ hd ?_) |(refine stQ ?_))))
      conv=>whnf
      refine q05 tab_ok (fun s=>s≤(p m).L.length) (fun (s:Nat)=>[(28,.val (.int .i64 s))]) (fun s=>[.own 27 8 N (q0p (fun i=>inkC (q3k (q01 p W m) W ((p m).L.take s) (p m).I i)) N)]) (fun s=>(p m).L.length-s) 0 (Nat.zero_le _) ?_ ?_
      · ((refine q0h ?_);(conv=>whnf);(refine q0k (by rfl) (by rfl) flQ ?_))
        exact q0e rfl (by rw [List.take_zero,z5z]) q0g
      · rintro s hs
        rcases Nat.lt_or_ge s (p m).L.length with h2 |h2
        · obtain ⟨r,hr⟩:∃ r,(p m).L[s]? = some r:=⟨_,List.getElem?_eq_getElem h2⟩
          obtain ⟨b,hb,cb⟩:=hR.cells hr
          have hbd:=(q22 k1).bd (List.mem_of_getElem? hr)
          have hout:=k3 r (List.mem_of_getElem? hr)
          unfold outP at hout
          obtain ⟨ry,r0,r1⟩:=r
          dsimp only at hbd hout cb
          obtain ⟨y,rfl⟩:∃ y:Nat,ry=y:=⟨ry.toNat,by omega⟩
          obtain ⟨x0,rfl⟩:∃ y:Nat,r0=y:=⟨r0.toNat,by omega⟩
          obtain ⟨x1,rfl⟩:∃ y:Nat,r1=y:=⟨r1.toNat,by omega⟩
          have e1:(y:Int)*16*(w:Int)=((y*W:Nat):Int):=by rw [hW];push_cast;rw [Int.mul_assoc]
          have hyW:y*W+W≤N:=by
            rw [hN]
            have:=Nat.mul_le_mul_right W (show y+1≤16*h by omega)
            rw [Nat.add_mul,Nat.one_mul] at this;exact this
          rw [hb] at hd
          (repeat ((try (conv=>whnf));(first |(refine q0d _ hd ?_) |(refine cb _ ?_) |(refine stQ ?_))))
          conv=>whnf
          refine q05 tab_ok (fun x=>x0≤x∧x≤x1) (fun (x:Nat)=>[(11,.val (.int .i64 x))]) (fun x=>[.own 27 8 N (q0p (fun i=>inkC (q3k (q01 p W m) W ((p m).L.take s++[⟨(y:Int),(x0:Int),(x:Int)⟩]) (p m).I i)) N),.cells 54 [.val (.int .i64 y),.val (.int .i64 x0),.val (.int .i64 x1)]]) (fun x=>x1-x) x0 ⟨Nat.le_refl _,by omega⟩ ?_ ?_
          · ((refine q0h ?_);(conv=>whnf);(refine q0k (by rfl) (by rfl) flQ ?_))
            exact q0e rfl (by rw [z37]) (q0f (by exact flQ) q0g)
          · rintro x ⟨g1,g2⟩
            rcases Nat.lt_or_ge x x1 with h3 |h3
            · (repeat ((try (conv=>whnf));(first |(refine ci _ ?_) |(refine stQ ?_))))
              conv=>whnf
              have eo:((y:Int)*16*(w:Int)+(x:Int)).toNat * 8=(y*W+x)*8+0:=by rw [e1];omega
              have hxW:x<W:=by omega
              have hst:=z50 (J:=q01 p W m) hW0 (K:=(p m).L.take s) (y:=y) (I:=(p m).I) g1 hxW
              have hfl:=q8j (c:=fun i=>inkC (q3k (q01 p W m) W ((p m).L.take s++[⟨(y:Int),(x0:Int),(x:Int)⟩]) (p m).I i)) (sz:=8) (n:=N) (x:=y*W+x) (o:=0) (vs:=inkC (p m).I) (fun _ _=>rfl) (by omega) (Nat.le_refl _)
              refine q46 (ys:=q0p (fun i=>inkC (q3k (q01 p W m) W ((p m).L.take s++[⟨(y:Int),(x0:Int),((x+1:Nat):Int)⟩]) (p m).I i)) N) ?_ ?_ ?_
              · show ((y:Int)*16*(w:Int)+(x:Int)).toNat * 8+8≤_
                rw [eo,q2b (sz:=8) (fun _ _=>rfl)];omega
              · show (q0p _ N).take (((y:Int)*16*(w:Int)+(x:Int)).toNat * 8)++inkC (p m).I++(q0p _ N).drop (((y:Int)*16*(w:Int)+(x:Int)).toNat * 8+(inkC (p m).I).length)=_
                rw [eo,hfl]
                refine q2d fun i hi=>?_
                rw [hst i]
                split <;> rfl
              conv=>whnf
              (repeat ((try (conv=>whnf));(refine stQ ?_)))
              conv=>whnf
              refine ⟨x+1,by omega,by omega,?_⟩
              ((refine q0h ?_);(conv=>whnf);(refine q0k (by rfl) (by rfl) flQ ?_))
              exact q0e rfl rfl (q0f (by exact flQ) q0g)
            · obtain rfl:x=x1:=by omega
              have htk:(p m).L.take (s+1)=(p m).L.take s++[⟨(y:Int),(x0:Int),(x:Int)⟩]:=by rw [List.take_add_one,hr];rfl
              (repeat ((try (conv=>whnf));(refine stQ ?_)))
              conv=>whnf
              refine ⟨s+1,by omega,by omega,?_⟩
              rw [htk]
              ((refine q0h ?_);(conv=>whnf);(refine q0k (by rfl) (by rfl) flQ ?_))
              exact q0e rfl rfl q0g
        · obtain rfl:s=(p m).L.length:=by omega
          rw [List.take_length]
          (repeat ((try (conv=>whnf));(refine stQ ?_)))
          conv=>whnf
          refine ⟨m+1,by omega,by omega,?_⟩
          ((refine q0h ?_);(conv=>whnf);(refine q0k (by rfl) (by rfl) flQ ?_))
          exact q0e rfl rfl q0g
    · obtain rfl:m=n:=by omega
      (repeat ((try (conv=>whnf));(refine stQ ?_)))
      conv=>whnf
      exact .inl ⟨0,rfl,rfl⟩
end Go.Proofs.Ytbkhpddodmbdoaa
