/-
  Merged: XMorphF, XArg3, XPullW.
-/
import Derived.Test.YtbkhpddodmbdoaaMrg25
import Derived.Test.YtbkhpddodmbdoaaFreeze
import Derived.Test.YtbkhpddodmbdoaaMrg26
import Derived.Test.YtbkhpddodmbdoaaGatW
set_option linter.unusedVariables false
set_option linter.unusedSimpArgs false
set_option linter.unnecessarySimpa false
namespace Go.Proofs.Ytbkhpddodmbdoaa
open Go.RowKit
set_option maxRecDepth 20000
section
variable {A:Option Addr} {L:List Run} {c:Nat} {w:Int} {G:Mem}
theorem z8v (hA:RunsM G A L) (hc:L.length≤c) (hm:c≤maxLen) (he:spE L w=0) (hl:L.length≤1000000):q2g Try.prog 28 [.val (.slice A L.length c),.val (.int .i64 w)] G (q4e 0) 54 3 (DL w L).length (q0n (DL w L)):=by
  obtain ⟨e1,hw⟩:=x57 he
  have ck:=z18 (w:=w) hA hc hm
  rw [he] at ck
  have mk:=z8q (c:=c) hA (q21 e1) hw hl
  refine q10 tab_ok Try.func28 (q02 0) ?_
  (repeat ((try (conv=>whnf));(first |(refine stQ ?_) |(with_reducible first |refine q0e tab_ok Try.func48 (fun vs w=>by kernel_rfl) (by rfl) ?_ |refine q0b (fun vs w=>by kernel_rfl) (by kernel_rfl) (ck) ?_ |refine q0a (fun vs w=>by kernel_rfl) (by kernel_rfl) (ck) ?_))))
  conv=>whnf
  refine q2b (fun vs w=>by kernel_rfl) (.alone fun _=>rfl) (by kernel_rfl) mk ?_
  (repeat ((try (conv=>whnf));(refine stQ ?_)))
  conv=>whnf
  exact .inl ⟨0,rfl,rfl⟩
theorem x1i (hA:RunsM G A L) (hc:L.length≤c) (hm:c≤maxLen) (he:spE L w≠0):Gives Try.prog 28 [.val (.slice A L.length c),.val (.int .i64 w)] G (.tup [.val (.slice none 0 0),.val (.int .i64 (spE L w))]):=by
  have ck:=z18 (w:=w) hA hc hm
  refine q1u tab_ok Try.func28 ?_
  generalize spE L w=er at *
  (repeat ((try (conv=>whnf));(first |(refine stQ ?_) |(with_reducible first |refine q0e tab_ok Try.func48 (fun vs w=>by kernel_rfl) (by rfl) ?_ |refine q0b (fun vs w=>by kernel_rfl) (by kernel_rfl) (ck) ?_ |refine q0a (fun vs w=>by kernel_rfl) (by kernel_rfl) (ck) ?_))))
  exact ⟨rfl,rfl⟩
end
end Go.Proofs.Ytbkhpddodmbdoaa
namespace Go.Proofs.Ytbkhpddodmbdoaa
open Go.RowKit
theorem x1j {P:Program} {f:FuncId} (hen:∀ vs w,(callFunc f vs).run P w=.ok (.enter f vs) w) {k:Nat} {a b:Value} {hp:List Blk} {G:Mem} {K:AV→List Blk→Mem→Prop} {E:TypeId} {sz n:Nat} {xs:List Value} (hk:nthB hp k=.own E sz n xs)
    (h:∀ A cap G',G.le G'→n≤cap→cap≤maxLen→FlatM G' A xs→setF hp k .gone fun hp'=>CallP P f [.val a,.val b,.val (.slice A n cap)] hp' G' K):CallP P f [.val a,.val b,.own k] hp G K:=by
  refine ⟨hen,fun w0 G0 β w vs hr ha=>?_⟩
  simp only [AV.rels] at ha
  obtain ⟨v1,ts1,hvs,hv1,v2,ts2,hts1,hv2,v3,ts3,hts2,hv3,rfl⟩:=ha
  simp only [AV.rel] at hv1 hv2 hv3
  obtain ⟨A,cap,G',rfl,hle,hnc,hcm,hF,hr2⟩:=hr.freeze hv3.1 hk
  have h0:=h A cap G' hle hnc hcm hF
  rw [q1g] at h0
  refine h0.calls w0 G0 β w vs hr2 ?_
  simp only [AV.rels,AV.rel]
  exact ⟨v1,ts1,hvs,hv1,v2,ts2,hts1,hv2,_,[],hts2,rfl,rfl⟩
end Go.Proofs.Ytbkhpddodmbdoaa
namespace Go.Proofs.Ytbkhpddodmbdoaa
open Go.RowKit
set_option maxRecDepth 20000
def q1j (J:Nat→Nat→Int) (W key:Nat) (K:List Run):Nat→Nat→Int:=q3l J (fun i=>hasL K ((i%W:Nat):Int) ((i/W:Nat):Int)) key
theorem x3g {J:Nat→Nat→Int} {W key:Nat}:q1j J W key []=J:=by
  funext i;exact q7v (by simp [hasL])
theorem z2s {J:Nat→Nat→Int} {W key i:Nat} {K L:List Run} (h:hasL K ((i%W:Nat):Int) ((i/W:Nat):Int)=hasL L ((i%W:Nat):Int) ((i/W:Nat):Int)):q1j J W key K i=q1j J W key L i :=
  q6w (f:=fun i=>hasL K ((i%W:Nat):Int) ((i/W:Nat):Int)) (g:=fun i=>hasL L ((i%W:Nat):Int) ((i/W:Nat):Int)) h
theorem q96 {J:Nat→Nat→Int} {W key N:Nat} {K L:List Run} (h:∀ i,i<N→hasL K ((i%W:Nat):Int) ((i/W:Nat):Int)=hasL L ((i%W:Nat):Int) ((i/W:Nat):Int)):q0m (fun i=>inkC (q1j J W key K i)) N=q0m (fun i=>inkC (q1j J W key L i)) N :=
  q1m fun i hi=>by rw [z2s (h i hi)]
theorem x0f {K:List Run} {r:Run} {x y:Int} (h:¬ (r.y=y∧r.x0≤x∧x<r.x1)):hasL (K++[r]) x y=hasL K x y:=by
  rw [q4a]
  have:hasL [r] x y=false:=by simp only [hasL,List.any_cons,List.any_nil,Bool.or_false,inR,decide_eq_false_iff_not];omega
  rw [this,Bool.or_false]
theorem x3h {K:List Run} {r s:Run} {x y:Int} (h:(r.y=y∧r.x0≤x∧x<r.x1)↔(s.y=y∧s.x0≤x∧x<s.x1)):hasL (K++[r]) x y=hasL (K++[s]) x y:=by
  rw [q4a,q4a]
  have:hasL [r] x y=hasL [s] x y:=by
    simp only [hasL,List.any_cons,List.any_nil,Bool.or_false,inR,decide_eq_decide];omega
  rw [this]
theorem z2t {W:Nat} (hW:0<W) {K:List Run} {y x:Nat} {x0:Int} (h0:x0≤(x:Int)) (hx:x<W) (i:Nat):hasL (K++[⟨(y:Int),x0,((x+1:Nat):Int)⟩]) ((i%W:Nat):Int) ((i/W:Nat):Int)=if i=y*W+x then true else hasL (K++[⟨(y:Int),x0,(x:Int)⟩]) ((i%W:Nat):Int) ((i/W:Nat):Int):=by
  have e:=Nat.div_add_mod i W
  have hm:=Nat.mod_lt i hW
  by_cases hi:i=y*W+x
  · have e1:i/W=y:=by rw [hi,Nat.add_comm,Nat.add_mul_div_right _ _ hW,Nat.div_eq_of_lt hx,Nat.zero_add]
    have e2:i%W=x:=by rw [hi,Nat.add_comm,Nat.add_mul_mod_self_right,Nat.mod_eq_of_lt hx]
    rw [if_pos hi,q4a,e1,e2,Bool.or_eq_true]
    right
    simp [hasL,inR]
    omega
  · rw [if_neg hi]
    refine x3h ?_
    dsimp only
    by_cases hy:i/W=y
    · have hne:i%W≠x:=fun h=>hi (by rw [← e,hy,h,Nat.mul_comm])
      omega
    · omega
theorem x3i {J:Nat→Nat→Int} {W key:Nat} {K:List Run} {i:Nat} (h:J i key=255):q1j J W key K i key=255:=by
  unfold q1j q3l
  split
  · simp [keyF]
  · exact h
theorem z2u {J:Nat→Nat→Int} {W key:Nat} {K:List Run} {i:Nat} (h:J i key≠255):q1j J W key K i=J i:=z1c h
theorem x1k {J:Nat→Nat→Int} {W key N:Nat} (hW:0<W) {K:List Run} {y x:Nat} {x0:Int} (h0:x0≤(x:Int)) (hx:x<W) (hJ:J (y*W+x) key=255) :
    q0m (fun i=>if i=y*W+x then inkC (keyF key) else inkC (q1j J W key (K++[⟨(y:Int),x0,(x:Int)⟩]) i)) N=q0m (fun i=>inkC (q1j J W key (K++[⟨(y:Int),x0,((x+1:Nat):Int)⟩]) i)) N:=q1m fun i hi=>by
  by_cases e:i=y*W+x
  · rw [if_pos e]
    unfold q1j q3l
    have h1:=z2t hW (K:=K) (y:=y) h0 hx i
    rw [if_pos e] at h1
    rw [if_pos ⟨h1,by rw [e];exact hJ⟩]
  · rw [if_neg e]
    rw [z2s (by rw [z2t hW h0 hx,if_neg e]:hasL (K++[⟨(y:Int),x0,((x+1:Nat):Int)⟩]) ((i%W:Nat):Int) ((i/W:Nat):Int)=hasL (K++[⟨(y:Int),x0,(x:Int)⟩]) ((i%W:Nat):Int) ((i/W:Nat):Int))]
theorem x1l {J:Nat→Nat→Int} {W key N:Nat} (hW:0<W) {K:List Run} {y x:Nat} {x0:Int} (h0:x0≤(x:Int)) (hx:x<W) (hJ:J (y*W+x) key≠255) :
    q0m (fun i=>inkC (q1j J W key (K++[⟨(y:Int),x0,(x:Int)⟩]) i)) N=q0m (fun i=>inkC (q1j J W key (K++[⟨(y:Int),x0,((x+1:Nat):Int)⟩]) i)) N:=q1m fun i hi=>by
  by_cases e:i=y*W+x
  · subst e;rw [z2u hJ,z2u hJ]
  · rw [z2s (by rw [z2t hW h0 hx,if_neg e]:hasL (K++[⟨(y:Int),x0,((x+1:Nat):Int)⟩]) ((i%W:Nat):Int) ((i/W:Nat):Int)=hasL (K++[⟨(y:Int),x0,(x:Int)⟩]) ((i%W:Nat):Int) ((i/W:Nat):Int))]
set_option maxHeartbeats 4000000 in
theorem z38 {A:Option Addr} {w h W N n c r key:Nat} {p:Nat→PcD} {G:Mem} (ok:PcsOk w h n p) (e0:pcsE w h n p=0) (hP:PcsM G A n p) (hc:n≤c) (hm:c≤maxLen) (hW:W=16*w) (hN:N=16*h*W) (hw16:w≤4) (hh16:h≤4) (hk:key<8) (hr:r≤64) :
    MakesX Try.prog 11 [.val (.int .i64 w),.val (.int .i64 h),.val (.slice A n c),.val (.int .i64 key),.val (.int .i64 r)] G 29 9 (ofR (fun i=>vecI (q1j (q00 p W n) W key (DL r (q2p w h n p)) i)) W N):=by
  have hw:=ok.wd
  have hh:=ok.ht
  have hn:=ok.few
  have hW0:0<W:=by omega
  have hWi:(W:Int)=16*(w:Int):=by omega
  have hNi:(N:Int)=(16*(h:Int))*(16*(w:Int)):=by rw [hN,hW];push_cast;rfl
  have gc:=q3v (c:=c) (w:=(w:Int)) (h:=(h:Int)) hP (by omega)
  rw [e0] at gc
  have mp:=q88 (key:=(key:Int)) ok e0 hP hc hm
  obtain ⟨vP,_⟩:=ok.paper_valid
  have lP:=ok.paper_small (by omega) (by omega)
  refine q9y tab_ok Try.func11 ?_
  (repeat ((try (conv=>whnf));(first |(refine stQ ?_) |(with_reducible first |refine q0b (fun vs w=>by kernel_rfl) (by kernel_rfl) (gc) ?_ |refine q0a (fun vs w=>by kernel_rfl) (by kernel_rfl) (gc) ?_ |refine q0e tab_ok Try.func27 (fun vs w=>by kernel_rfl) (by rfl) ?_))))
  conv=>whnf
  refine q1d (fun vs w=>by kernel_rfl) (.alone fun _=>rfl) (by kernel_rfl) mp fun A1 c1 G1 hG1 hc1 hm1 hx1=>?_
  have hA1:=RunsM.frozen hx1
  have hsp:spE (q2p w h n p) (r:Int)=0:=by unfold spE;rw [if_neg (by rw [q3c vP];simp),if_pos (by omega)]
  have md:=z8v (w:=(r:Int)) hA1 hc1 hm1 hsp (by omega)
  (repeat ((try (conv=>whnf));(refine stQ ?_)))
  conv=>whnf
  refine q1d (fun vs w=>by kernel_rfl) (q02 0) (by kernel_rfl) md fun A2 c2 G2 hG2 hc2 hm2 hx2=>?_
  have hA2:=RunsM.frozen hx2
  have vD:=x4r (w:=(r:Int)) vP
  have lD:=x56 (w:=(r:Int)) (by omega) (q2p w h n p)
  generalize DL r (q2p w h n p)=M at *
  have hN4:N≤4096:=by
    rw [hN,hW]
    have:16*h*(16*w)≤64*64:=Nat.mul_le_mul (by omega) (by omega)
    omega
  have hle2:G.le G2:=Mem.le_trans hG1 hG2
  have hP2:=hP.mono hle2
  have mc:=z85 (c:=c) ok hP2 hW hN hN4
  (repeat ((try (conv=>whnf));(refine stQ ?_)))
  conv=>whnf
  refine q2b (fun vs w=>by kernel_rfl) (.alone fun _=>rfl) (by kernel_rfl) mc ?_
  (repeat ((try (conv=>whnf));(refine stQ ?_)))
  conv=>whnf
  refine q0y tab_ok (fun s=>s≤M.length) (fun (s:Nat)=>[(48,.val (.int .i64 s))]) (fun s=>[.muts fun _=>False,.gone,.gone,.own 27 8 N (q0m (fun i=>inkC (q1j (q00 p W n) W key (M.take s) i)) N)]) (fun s=>M.length-s) 0 (Nat.zero_le _) ?_ ?_
  · ((refine q0h ?_);(conv=>whnf);(refine q0k (by rfl) (by rfl) flQ ?_))
    exact q0q (fun _ h=>h) (q0l (q0l (q0c rfl (by rw [List.take_zero,x3g]) q0g)))
  · rintro s hs
    rcases Nat.lt_or_ge s M.length with h2 |h2
    · obtain ⟨q,hq⟩:∃ r,M[s]? = some r:=⟨_,List.getElem?_eq_getElem h2⟩
      obtain ⟨b,rfl,cb⟩:=hA2.cells hq
      have hbd:=vD.bd (List.mem_of_getElem? hq)
      have htk:M.take (s+1)=M.take s++[q]:=by rw [List.take_add_one,hq];rfl
      obtain ⟨ry,r0,r1⟩:=q
      dsimp only at hbd cb
      by_cases hy:0≤ry∧ry<16*(h:Int)
      · obtain ⟨y,rfl⟩:∃ k:Nat,ry=k:=⟨ry.toNat,by omega⟩
        (repeat ((try (conv=>whnf));(first |(refine cb _ ?_) |(refine stQ ?_))))
        conv=>whnf
        refine q0y tab_ok (fun (x:Int)=>max 0 r0≤x∧(x≤min r1 (16*(w:Int))∨x=max 0 r0)) (fun (x:Int)=>[(18,.val (.int .i64 x))]) (fun x=>[.muts fun _=>False,.gone,.gone,.own 27 8 N (q0m (fun i=>inkC (q1j (q00 p W n) W key (M.take s++[⟨(y:Int),r0,x⟩]) i)) N),.cells 54 [.val (.int .i64 y),.val (.int .i64 r0),.val (.int .i64 r1)]]) (fun x=>(16*(w:Int)-x).toNat) (max 0 r0) ⟨by omega,by omega⟩ ?_ ?_
        · ((refine q0h ?_);(conv=>whnf);(refine q0k (by rfl) (by rfl) flQ ?_))
          refine q0q (fun _ h=>h) (q0l (q0l (q0c rfl (q96 fun i hi=>(x0f ?_).symm) (q0f (by exact flQ) q0g))))
          have n1:=Int.natCast_nonneg (i%W)
          dsimp only;omega
        · rintro x ⟨hx1,hx2⟩
          obtain ⟨x,rfl⟩:∃ k:Nat,x=k:=⟨x.toNat,by omega⟩
          rcases Int.lt_or_le (x:Int) (min r1 (16*(w:Int))) with h3 |h3
          · have hxW:x<W:=by omega
            have hyW:y*W+W≤N:=by
              rw [hN]
              have:=Nat.mul_le_mul_right W (show y+1≤16*h by omega)
              rw [Nat.add_mul,Nat.one_mul] at this;exact this
            have e1:(y:Int)*16*(w:Int)=((y*W:Nat):Int):=by rw [hW];push_cast;rw [Int.mul_assoc]
            have eo:((y:Int)*16*(w:Int)+(x:Int)).toNat=y*W+x:=by rw [e1];omega
            have hjN:y*W+x<N:=by omega
            have hr0:r0≤(x:Int):=by omega
            have hcell:(q0m (fun i=>inkC (q1j (q00 p W n) W key (M.take s++[⟨(y:Int),r0,(x:Int)⟩]) i)) N)[((y:Int)*16*(w:Int)+(x:Int)).toNat * 8+key*1]? = some (.int .u8 (q1j (q00 p W n) W key (M.take s++[⟨(y:Int),r0,(x:Int)⟩]) (y*W+x) key)):=by
              rw [eo,Nat.mul_one,q3o (sz:=8) (fun _ _=>rfl) hjN hk]
              exact z99 hk
            by_cases hq:q00 p W n (y*W+x) key=255
            · rw [x3i hq] at hcell
              (repeat ((try (conv=>whnf));(first |(refine q0i _ hcell ?_) |(refine stQ ?_))))
              conv=>whnf
              refine q20 (ys:=q0m (fun i=>if i=y*W+x then inkC (fun _=>0) else inkC (q1j (q00 p W n) W key (M.take s++[⟨(y:Int),r0,(x:Int)⟩]) i)) N) (vs:=inkC (fun _=>0)) (by rw [q1o (sz:=8) (fun _ _=>rfl),eo];show (y*W+x)*8+8≤_;omega) (by rw [eo];exact z8g (C:=q1j (q00 p W n) W key (M.take s++[⟨(y:Int),r0,(x:Int)⟩])) hjN) ?_
              conv=>whnf
              (repeat ((try (conv=>whnf));(refine stQ ?_)))
              conv=>whnf
              have hpp:=(z8f (C:=q1j (q00 p W n) W key (M.take s++[⟨(y:Int),r0,(x:Int)⟩])) hjN hk (Nat.mul_one key)).trans (x1k (N:=N) hW0 hr0 hxW hq)
              refine q20 (ys:=q0m (fun i=>inkC (q1j (q00 p W n) W key (M.take s++[⟨(y:Int),r0,((x+1:Nat):Int)⟩]) i)) N) (vs:=[.int .u8 255]) (by rw [q1o (sz:=8) (fun y _=>by split <;> rfl),eo];show (y*W+x)*8+key*1+1≤_;omega) (by rw [eo];exact hpp) ?_
              conv=>whnf
              (repeat ((try (conv=>whnf));(refine stQ ?_)))
              conv=>whnf
              refine ⟨(x:Int)+1,by omega,by omega,?_⟩
              ((refine q0h ?_);(conv=>whnf);(refine q0k (by rfl) (by rfl) flQ ?_))
              exact q0q (fun _ h=>h) (q0l (q0l (q0c rfl rfl (q0f (by exact flQ) q0g))))
            · rw [z2u hq] at hcell
              have hst:=x1l (N:=N) (J:=q00 p W n) (key:=key) (K:=M.take s) hW0 hr0 hxW hq
              (repeat ((try (conv=>whnf));(first |(refine q0i _ hcell ?_) |(refine stQ ?_))))
              conv=>whnf
              refine ⟨(x:Int)+1,by omega,by omega,?_⟩
              ((refine q0h ?_);(conv=>whnf);(refine q0k (by rfl) (by rfl) flQ ?_))
              exact q0q (fun _ h=>h) (q0l (q0l (q0c rfl hst (q0f (by exact flQ) q0g))))
          · have hend:q0m (fun i=>inkC (q1j (q00 p W n) W key (M.take s++[⟨(y:Int),r0,(x:Int)⟩]) i)) N=q0m (fun i=>inkC (q1j (q00 p W n) W key (M.take (s+1)) i)) N:=by
              refine q96 fun i hi=>?_
              rw [htk]
              refine x3h ?_
              obtain ⟨d1,d2⟩:=q6o (w:=(w:Int)) (h:=(h:Int)) (by omega) hWi hNi hi
              have n1:=Int.natCast_nonneg (i%W)
              dsimp only;omega
            (repeat ((try (conv=>whnf));(refine stQ ?_)))
            conv=>whnf
            refine ⟨s+1,by omega,by omega,?_⟩
            rw [← hend]
            ((refine q0h ?_);(conv=>whnf);(refine q0k (by rfl) (by rfl) flQ ?_))
            exact q0q (fun _ h=>h) (q0l (q0l (q0c rfl rfl q0g)))
      · have hsame:q0m (fun i=>inkC (q1j (q00 p W n) W key (M.take (s+1)) i)) N=q0m (fun i=>inkC (q1j (q00 p W n) W key (M.take s) i)) N:=by
          refine q96 fun i hi=>?_
          rw [htk]
          refine x0f ?_
          obtain ⟨d1,d2⟩:=q6o (w:=(w:Int)) (h:=(h:Int)) (by omega) hWi hNi hi
          have n1:=Int.natCast_nonneg (i/W)
          dsimp only;omega
        by_cases hy0:ry<0
        · (repeat ((try (conv=>whnf));(first |(refine cb _ ?_) |(refine stQ ?_))))
          conv=>whnf
          refine ⟨s+1,by omega,by omega,?_⟩
          ((refine q0h ?_);(conv=>whnf);(refine q0k (by rfl) (by rfl) flQ ?_))
          exact q0q (fun _ h=>h) (q0l (q0l (q0c rfl hsame.symm q0g)))
        · (repeat ((try (conv=>whnf));(first |(refine cb _ ?_) |(refine stQ ?_))))
          conv=>whnf
          refine ⟨s+1,by omega,by omega,?_⟩
          ((refine q0h ?_);(conv=>whnf);(refine q0k (by rfl) (by rfl) flQ ?_))
          exact q0q (fun _ h=>h) (q0l (q0l (q0c rfl hsame.symm q0g)))
    · obtain rfl:s=M.length:=by omega
      rw [List.take_length]
      (repeat ((try (conv=>whnf));(refine stQ ?_)))
      conv=>whnf
      refine x1j (fun vs w=>by kernel_rfl) (by exact rfl) fun A3 c3 G3 hG3 hc3 hm3 hx3=>?_
      conv=>whnf
      have hE3:ElsM G3 A3 8 N fun i=>inkC (q1j (q00 p W n) W key M i):=hx3.els (fun _ _=>rfl) (by omega)
      have mo:=x2q (by omega) (by omega) hW hN hN4 ⟨hc3,hm3⟩ hE3
      refine z76 (fun vs w=>by kernel_rfl) (by kernel_rfl) mo fun wr n4 xs4 G4 hG4 hR4=>?_
      obtain ⟨rfl,hn4,B,rfl,hB⟩:=hR4
      conv=>whnf
      (repeat ((try (conv=>whnf));(refine stQ ?_)))
      conv=>whnf
      exact ⟨q4e 0,4,_,_,q02 0,rfl,rfl,rfl,hn4,B,rfl,hB⟩
end Go.Proofs.Ytbkhpddodmbdoaa
