/-
  Merged: XPullW, XPullE, XAreaR.
-/
import Derived.Test.YtbkhpddodmbdoaaMrg24
import Derived.Test.YtbkhpddodmbdoaaMrg26
import Derived.Test.YtbkhpddodmbdoaaGatW
import Derived.Test.YtbkhpddodmbdoaaMrg25
import Derived.Test.YtbkhpddodmbdoaaMrg9
import Derived.Test.YtbkhpddodmbdoaaMrg10
set_option linter.unusedVariables false
set_option linter.unusedSimpArgs false
set_option linter.unnecessarySimpa false
namespace Go.Proofs.Ytbkhpddodmbdoaa
open Go.RowKit
set_option maxRecDepth 20000
def q14 (J:Nat→Nat→Int) (W key:Nat) (K:List Run):Nat→Nat→Int:=q5z J (fun i=>hasL K ((i%W:Nat):Int) ((i/W:Nat):Int)) key
theorem x21 {J:Nat→Nat→Int} {W key:Nat}:q14 J W key []=J:=by
  funext i;exact x0u (by simp [hasL])
theorem z2y {J:Nat→Nat→Int} {W key i:Nat} {K L:List Run} (h:hasL K ((i%W:Nat):Int) ((i/W:Nat):Int)=hasL L ((i%W:Nat):Int) ((i/W:Nat):Int)):q14 J W key K i=q14 J W key L i :=
  z8v (f:=fun i=>hasL K ((i%W:Nat):Int) ((i/W:Nat):Int)) (g:=fun i=>hasL L ((i%W:Nat):Int) ((i/W:Nat):Int)) h
theorem z0b {J:Nat→Nat→Int} {W key N:Nat} {K L:List Run} (h:∀ i,i<N→hasL K ((i%W:Nat):Int) ((i/W:Nat):Int)=hasL L ((i%W:Nat):Int) ((i/W:Nat):Int)):q0p (fun i=>inkC (q14 J W key K i)) N=q0p (fun i=>inkC (q14 J W key L i)) N :=
  q2d fun i hi=>by rw [z2y (h i hi)]
theorem z97 {K:List Run} {r:Run} {x y:Int} (h:¬ (r.y=y∧r.x0≤x∧x<r.x1)):hasL (K++[r]) x y=hasL K x y:=by
  rw [q4b]
  have:hasL [r] x y=false:=by simp only [hasL,List.any_cons,List.any_nil,Bool.or_false,inR,decide_eq_false_iff_not];omega
  rw [this,Bool.or_false]
theorem x22 {K:List Run} {r s:Run} {x y:Int} (h:(r.y=y∧r.x0≤x∧x<r.x1)↔(s.y=y∧s.x0≤x∧x<s.x1)):hasL (K++[r]) x y=hasL (K++[s]) x y:=by
  rw [q4b,q4b]
  have:hasL [r] x y=hasL [s] x y:=by
    simp only [hasL,List.any_cons,List.any_nil,Bool.or_false,inR,decide_eq_decide];omega
  rw [this]
theorem z2z {W:Nat} (hW:0<W) {K:List Run} {y x:Nat} {x0:Int} (h0:x0≤(x:Int)) (hx:x<W) (i:Nat):hasL (K++[⟨(y:Int),x0,((x+1:Nat):Int)⟩]) ((i%W:Nat):Int) ((i/W:Nat):Int)=if i=y*W+x then true else hasL (K++[⟨(y:Int),x0,(x:Int)⟩]) ((i%W:Nat):Int) ((i/W:Nat):Int):=by
  have e:=Nat.div_add_mod i W
  have hm:=Nat.mod_lt i hW
  by_cases hi:i=y*W+x
  · have e1:i/W=y:=by rw [hi,Nat.add_comm,Nat.add_mul_div_right _ _ hW,Nat.div_eq_of_lt hx,Nat.zero_add]
    have e2:i%W=x:=by rw [hi,Nat.add_comm,Nat.add_mul_mod_self_right,Nat.mod_eq_of_lt hx]
    rw [if_pos hi,q4b,e1,e2,Bool.or_eq_true]
    right
    simp [hasL,inR]
    omega
  · rw [if_neg hi]
    refine x22 ?_
    dsimp only
    by_cases hy:i/W=y
    · have hne:i%W≠x:=fun h=>hi (by rw [← e,hy,h,Nat.mul_comm])
      omega
    · omega
theorem x23 {J:Nat→Nat→Int} {W key:Nat} {K:List Run} {i:Nat} (h:J i key=255):q14 J W key K i key=255:=by
  unfold q14 q5z
  split
  · simp [keyF]
  · exact h
theorem z20 {J:Nat→Nat→Int} {W key:Nat} {K:List Run} {i:Nat} (h:J i key≠255):q14 J W key K i=J i:=x2l h
theorem x09 {J:Nat→Nat→Int} {W key N:Nat} (hW:0<W) {K:List Run} {y x:Nat} {x0:Int} (h0:x0≤(x:Int)) (hx:x<W) (hJ:J (y*W+x) key=255) :
    q0p (fun i=>if i=y*W+x then inkC (keyF key) else inkC (q14 J W key (K++[⟨(y:Int),x0,(x:Int)⟩]) i)) N=q0p (fun i=>inkC (q14 J W key (K++[⟨(y:Int),x0,((x+1:Nat):Int)⟩]) i)) N:=q2d fun i hi=>by
  by_cases e:i=y*W+x
  · rw [if_pos e]
    unfold q14 q5z
    have h1:=z2z hW (K:=K) (y:=y) h0 hx i
    rw [if_pos e] at h1
    rw [if_pos ⟨h1,by rw [e];exact hJ⟩]
  · rw [if_neg e]
    rw [z2y (by rw [z2z hW h0 hx,if_neg e]:hasL (K++[⟨(y:Int),x0,((x+1:Nat):Int)⟩]) ((i%W:Nat):Int) ((i/W:Nat):Int)=hasL (K++[⟨(y:Int),x0,(x:Int)⟩]) ((i%W:Nat):Int) ((i/W:Nat):Int))]
theorem x1a {J:Nat→Nat→Int} {W key N:Nat} (hW:0<W) {K:List Run} {y x:Nat} {x0:Int} (h0:x0≤(x:Int)) (hx:x<W) (hJ:J (y*W+x) key≠255) :
    q0p (fun i=>inkC (q14 J W key (K++[⟨(y:Int),x0,(x:Int)⟩]) i)) N=q0p (fun i=>inkC (q14 J W key (K++[⟨(y:Int),x0,((x+1:Nat):Int)⟩]) i)) N:=q2d fun i hi=>by
  by_cases e:i=y*W+x
  · subst e;rw [z20 hJ,z20 hJ]
  · rw [z2y (by rw [z2z hW h0 hx,if_neg e]:hasL (K++[⟨(y:Int),x0,((x+1:Nat):Int)⟩]) ((i%W:Nat):Int) ((i/W:Nat):Int)=hasL (K++[⟨(y:Int),x0,(x:Int)⟩]) ((i%W:Nat):Int) ((i/W:Nat):Int))]
set_option maxHeartbeats 4000000 in
theorem x1b {A:Option Addr} {w h W N n c r key:Nat} {p:Nat→PcD} {G:Mem} (ok:PcsOk w h n p) (e0:pcsE w h n p=0) (hP:PcsM G A n p) (hc:n≤c) (hm:c≤maxLen) (hW:W=16*w) (hN:N=16*h*W) (hw16:w≤4) (hh16:h≤4) (hk:key<8) (hr:r≤64) :
    MakesX Try.prog 11 [.val (.int .i64 w),.val (.int .i64 h),.val (.slice A n c),.val (.int .i64 key),.val (.int .i64 r)] G 29 9 (ofR (fun i=>vecI (q14 (q01 p W n) W key (DL r (q26 w h n p)) i)) W N):=by
  have hw:=ok.wd
  have hh:=ok.ht
  have hn:=ok.few
  have hW0:0<W:=by omega
  have hWi:(W:Int)=16*(w:Int):=by omega
  have hNi:(N:Int)=(16*(h:Int))*(16*(w:Int)):=by rw [hN,hW];push_cast;rfl
  have gc:=q12 (c:=c) (w:=(w:Int)) (h:=(h:Int)) hP (by omega)
  rw [e0] at gc
  have mp:=z2f (key:=(key:Int)) ok e0 hP hc hm
  obtain ⟨vP,_⟩:=ok.paper_valid
  have lP:=ok.paper_small (by omega) (by omega)
  refine z35 tab_ok Try.func11 ?_
  (repeat ((try (conv=>whnf));(first |(refine stQ ?_) |(with_reducible first |refine q0b (fun vs w=>by kernel_rfl) (by kernel_rfl) (gc) ?_ |refine q0a (fun vs w=>by kernel_rfl) (by kernel_rfl) (gc) ?_ |refine q0c tab_ok Try.func27 (fun vs w=>by kernel_rfl) (by rfl) ?_))))
  conv=>whnf
  refine q04 (fun vs w=>by kernel_rfl) (.alone fun _=>rfl) (by kernel_rfl) mp fun A1 c1 G1 hG1 hc1 hm1 hx1=>?_
  have hA1:=RunsM.frozen hx1
  have hsp:spE (q26 w h n p) (r:Int)=0:=by unfold spE;rw [if_neg (by rw [q2q vP];simp),if_pos (by omega)]
  have md:=z8j (w:=(r:Int)) hA1 hc1 hm1 hsp (by omega)
  (repeat ((try (conv=>whnf));(refine stQ ?_)))
  conv=>whnf
  refine q04 (fun vs w=>by kernel_rfl) (q00 0) (by kernel_rfl) md fun A2 c2 G2 hG2 hc2 hm2 hx2=>?_
  have hA2:=RunsM.frozen hx2
  have vD:=x4c (w:=(r:Int)) vP
  have lD:=x5q (w:=(r:Int)) (by omega) (q26 w h n p)
  generalize DL r (q26 w h n p)=M at *
  have hN4:N≤4096:=by
    rw [hN,hW]
    have:16*h*(16*w)≤64*64:=Nat.mul_le_mul (by omega) (by omega)
    omega
  have hle2:G.le G2:=Mem.le_trans hG1 hG2
  have hP2:=hP.mono hle2
  have mc:=z8t (c:=c) ok hP2 hW hN hN4
  (repeat ((try (conv=>whnf));(refine stQ ?_)))
  conv=>whnf
  refine q15 (fun vs w=>by kernel_rfl) (.alone fun _=>rfl) (by kernel_rfl) mc ?_
  (repeat ((try (conv=>whnf));(refine stQ ?_)))
  conv=>whnf
  refine q05 tab_ok (fun s=>s≤M.length) (fun (s:Nat)=>[(48,.val (.int .i64 s))]) (fun s=>[.muts fun _=>False,.gone,.gone,.own 27 8 N (q0p (fun i=>inkC (q14 (q01 p W n) W key (M.take s) i)) N)]) (fun s=>M.length-s) 0 (Nat.zero_le _) ?_ ?_
  · ((refine q0h ?_);(conv=>whnf);(refine q0k (by rfl) (by rfl) flQ ?_))
    exact q0w (fun _ h=>h) (q0n (q0n (q0e rfl (by rw [List.take_zero,x21]) q0g)))
  · rintro s hs
    rcases Nat.lt_or_ge s M.length with h2 |h2
    · obtain ⟨q,hq⟩:∃ r,M[s]? = some r:=⟨_,List.getElem?_eq_getElem h2⟩
      obtain ⟨b,rfl,cb⟩:=hA2.cells hq
      have hbd:=vD.bd (List.mem_of_getElem? hq)
      have htk:M.take (s+1)=M.take s++[q]:=by rw [List.take_add_one,hq];rfl
      obtain ⟨ry,r0,r1⟩:=q
      dsimp only at hbd cb
      by_cases hy:0≤ry∧ry<16*(h:Int)
      · obtain ⟨y,rfl⟩:∃ k:Nat,ry=k:=⟨ry.toNat,by omega⟩
        (repeat ((try (conv=>whnf));(first |(refine cb _ ?_) |(refine stQ ?_))))
        conv=>whnf
        refine q05 tab_ok (fun (x:Int)=>max 0 r0≤x∧(x≤min r1 (16*(w:Int))∨x=max 0 r0)) (fun (x:Int)=>[(18,.val (.int .i64 x))]) (fun x=>[.muts fun _=>False,.gone,.gone,.own 27 8 N (q0p (fun i=>inkC (q14 (q01 p W n) W key (M.take s++[⟨(y:Int),r0,x⟩]) i)) N),.cells 54 [.val (.int .i64 y),.val (.int .i64 r0),.val (.int .i64 r1)]]) (fun x=>(16*(w:Int)-x).toNat) (max 0 r0) ⟨by omega,by omega⟩ ?_ ?_
        · ((refine q0h ?_);(conv=>whnf);(refine q0k (by rfl) (by rfl) flQ ?_))
          refine q0w (fun _ h=>h) (q0n (q0n (q0e rfl (z0b fun i hi=>(z97 ?_).symm) (q0f (by exact flQ) q0g))))
          have n1:=Int.natCast_nonneg (i%W)
          dsimp only;omega
        · rintro x ⟨hx1,hx2⟩
          obtain ⟨x,rfl⟩:∃ k:Nat,x=k:=⟨x.toNat,by omega⟩
          rcases Int.lt_or_le (x:Int) (min r1 (16*(w:Int))) with h3 |h3
          · have hxW:x<W:=by omega
            have hyW:y*W+W≤N:=by
              rw [hN]
              have:=Nat.mul_le_mul_right W (show y+1≤16*h by omega)
              rw [Nat.add_mul,Nat.one_mul] at this;exact this
            have e1:(y:Int)*16*(w:Int)=((y*W:Nat):Int):=by rw [hW];push_cast;rw [Int.mul_assoc]
            have eo:((y:Int)*16*(w:Int)+(x:Int)).toNat=y*W+x:=by rw [e1];omega
            have hjN:y*W+x<N:=by omega
            have hr0:r0≤(x:Int):=by omega
            have hcell:(q0p (fun i=>inkC (q14 (q01 p W n) W key (M.take s++[⟨(y:Int),r0,(x:Int)⟩]) i)) N)[((y:Int)*16*(w:Int)+(x:Int)).toNat * 8+key*1]? = some (.int .u8 (q14 (q01 p W n) W key (M.take s++[⟨(y:Int),r0,(x:Int)⟩]) (y*W+x) key)):=by
              rw [eo,Nat.mul_one,q5f (sz:=8) (fun _ _=>rfl) hjN hk]
              exact z91 hk
            by_cases hq:q01 p W n (y*W+x) key=255
            · rw [x23 hq] at hcell
              (repeat ((try (conv=>whnf));(first |(refine q0i _ hcell ?_) |(refine stQ ?_))))
              conv=>whnf
              refine q46 (ys:=q0p (fun i=>if i=y*W+x then inkC (fun _=>0) else inkC (q14 (q01 p W n) W key (M.take s++[⟨(y:Int),r0,(x:Int)⟩]) i)) N) (vs:=inkC (fun _=>0)) (by rw [q2b (sz:=8) (fun _ _=>rfl),eo];show (y*W+x)*8+8≤_;omega) (by rw [eo];exact x31 (C:=q14 (q01 p W n) W key (M.take s++[⟨(y:Int),r0,(x:Int)⟩])) hjN) ?_
              conv=>whnf
              (repeat ((try (conv=>whnf));(refine stQ ?_)))
              conv=>whnf
              have hpp:=(x30 (C:=q14 (q01 p W n) W key (M.take s++[⟨(y:Int),r0,(x:Int)⟩])) hjN hk (Nat.mul_one key)).trans (x09 (N:=N) hW0 hr0 hxW hq)
              refine q46 (ys:=q0p (fun i=>inkC (q14 (q01 p W n) W key (M.take s++[⟨(y:Int),r0,((x+1:Nat):Int)⟩]) i)) N) (vs:=[.int .u8 255]) (by rw [q2b (sz:=8) (fun y _=>by split <;> rfl),eo];show (y*W+x)*8+key*1+1≤_;omega) (by rw [eo];exact hpp) ?_
              conv=>whnf
              (repeat ((try (conv=>whnf));(refine stQ ?_)))
              conv=>whnf
              refine ⟨(x:Int)+1,by omega,by omega,?_⟩
              ((refine q0h ?_);(conv=>whnf);(refine q0k (by rfl) (by rfl) flQ ?_))
              exact q0w (fun _ h=>h) (q0n (q0n (q0e rfl rfl (q0f (by exact flQ) q0g))))
            · rw [z20 hq] at hcell
              have hst:=x1a (N:=N) (J:=q01 p W n) (key:=key) (K:=M.take s) hW0 hr0 hxW hq
              (repeat ((try (conv=>whnf));(first |(refine q0i _ hcell ?_) |(refine stQ ?_))))
              conv=>whnf
              refine ⟨(x:Int)+1,by omega,by omega,?_⟩
              ((refine q0h ?_);(conv=>whnf);(refine q0k (by rfl) (by rfl) flQ ?_))
              exact q0w (fun _ h=>h) (q0n (q0n (q0e rfl hst (q0f (by exact flQ) q0g))))
          · have hend:q0p (fun i=>inkC (q14 (q01 p W n) W key (M.take s++[⟨(y:Int),r0,(x:Int)⟩]) i)) N=q0p (fun i=>inkC (q14 (q01 p W n) W key (M.take (s+1)) i)) N:=by
              refine z0b fun i hi=>?_
              rw [htk]
              refine x22 ?_
              obtain ⟨d1,d2⟩:=z90 (w:=(w:Int)) (h:=(h:Int)) (by omega) hWi hNi hi
              have n1:=Int.natCast_nonneg (i%W)
              dsimp only;omega
            (repeat ((try (conv=>whnf));(refine stQ ?_)))
            conv=>whnf
            refine ⟨s+1,by omega,by omega,?_⟩
            rw [← hend]
            ((refine q0h ?_);(conv=>whnf);(refine q0k (by rfl) (by rfl) flQ ?_))
            exact q0w (fun _ h=>h) (q0n (q0n (q0e rfl rfl q0g)))
      · have hsame:q0p (fun i=>inkC (q14 (q01 p W n) W key (M.take (s+1)) i)) N=q0p (fun i=>inkC (q14 (q01 p W n) W key (M.take s) i)) N:=by
          refine z0b fun i hi=>?_
          rw [htk]
          refine z97 ?_
          obtain ⟨d1,d2⟩:=z90 (w:=(w:Int)) (h:=(h:Int)) (by omega) hWi hNi hi
          have n1:=Int.natCast_nonneg (i/W)
          dsimp only;omega
        by_cases hy0:ry<0
        · (repeat ((try (conv=>whnf));(first |(refine cb _ ?_) |(refine stQ ?_))))
          conv=>whnf
          refine ⟨s+1,by omega,by omega,?_⟩
          ((refine q0h ?_);(conv=>whnf);(refine q0k (by rfl) (by rfl) flQ ?_))
          exact q0w (fun _ h=>h) (q0n (q0n (q0e rfl hsame.symm q0g)))
        · (repeat ((try (conv=>whnf));(first |(refine cb _ ?_) |(refine stQ ?_))))
          conv=>whnf
          refine ⟨s+1,by omega,by omega,?_⟩
          ((refine q0h ?_);(conv=>whnf);(refine q0k (by rfl) (by rfl) flQ ?_))
          exact q0w (fun _ h=>h) (q0n (q0n (q0e rfl hsame.symm q0g)))
    · obtain rfl:s=M.length:=by omega
      rw [List.take_length]
      (repeat ((try (conv=>whnf));(refine stQ ?_)))
      conv=>whnf
      refine x08 (fun vs w=>by kernel_rfl) (by exact rfl) fun A3 c3 G3 hG3 hc3 hm3 hx3=>?_
      conv=>whnf
      have hE3:ElsM G3 A3 8 N fun i=>inkC (q14 (q01 p W n) W key M i):=hx3.els (fun _ _=>rfl) (by omega)
      have mo:=x2g (by omega) (by omega) hW hN hN4 ⟨hc3,hm3⟩ hE3
      refine z71 (fun vs w=>by kernel_rfl) (by kernel_rfl) mo fun wr n4 xs4 G4 hG4 hR4=>?_
      obtain ⟨rfl,hn4,B,rfl,hB⟩:=hR4
      conv=>whnf
      (repeat ((try (conv=>whnf));(refine stQ ?_)))
      conv=>whnf
      exact ⟨q34 0,4,_,_,q00 0,rfl,rfl,rfl,hn4,B,rfl,hB⟩
end Go.Proofs.Ytbkhpddodmbdoaa
namespace Go.Proofs.Ytbkhpddodmbdoaa
open Go.RowKit
set_option maxRecDepth 20000
section
variable {A:Option Addr} {w h:Int} {n c:Nat} {key ink r dx dy:Int} {p:Nat→PcD} {G:Mem}
theorem q71 (hP:PcsM G A n p) (hn:n≤maxLen) (he:pcsE w h n p≠0) :
    Gives Try.prog 16 [.val (.int .i64 w),.val (.int .i64 h),.val (.slice A n c),.val (.int .i64 ink),.agg [.val (.int .i64 dx),.val (.int .i64 dy)]] G (.tup [.val (.slice none 0 0),.val (.int .i64 (pcsE w h n p))]):=by
  have gc:=q12 (c:=c) (w:=w) (h:=h) hP hn
  generalize pcsE w h n p=e at *
  refine q1n tab_ok Try.func16 ?_
  (repeat ((try (conv=>whnf));(first |(refine stQ ?_) |(with_reducible first |refine q0b (fun vs w=>by kernel_rfl) (by kernel_rfl) (gc) ?_ |refine q0a (fun vs w=>by kernel_rfl) (by kernel_rfl) (gc) ?_ |refine q0c tab_ok Try.func27 (fun vs w=>by kernel_rfl) (by rfl) ?_))))
  exact ⟨rfl,rfl⟩
theorem q35 (hP:PcsM G A n p) (hn:n≤maxLen) (he:pcsE w h n p=0) (hk:¬ (0≤ink∧ink≤7)) :
    Gives Try.prog 16 [.val (.int .i64 w),.val (.int .i64 h),.val (.slice A n c),.val (.int .i64 ink),.agg [.val (.int .i64 dx),.val (.int .i64 dy)]] G (.tup [.val (.slice none 0 0),.val (.int .i64 3)]):=by
  have gc:=q12 (c:=c) (w:=w) (h:=h) hP hn
  rw [he] at gc
  refine q1n tab_ok Try.func16 ?_
  by_cases h1:ink<0
  · (repeat ((try (conv=>whnf));(first |(refine stQ ?_) |(with_reducible first |refine q0b (fun vs w=>by kernel_rfl) (by kernel_rfl) (gc) ?_ |refine q0a (fun vs w=>by kernel_rfl) (by kernel_rfl) (gc) ?_ |refine q0c tab_ok Try.func27 (fun vs w=>by kernel_rfl) (by rfl) ?_))))
    exact ⟨rfl,rfl⟩
  · (repeat ((try (conv=>whnf));(first |(refine stQ ?_) |(with_reducible first |refine q0b (fun vs w=>by kernel_rfl) (by kernel_rfl) (gc) ?_ |refine q0a (fun vs w=>by kernel_rfl) (by kernel_rfl) (gc) ?_ |refine q0c tab_ok Try.func27 (fun vs w=>by kernel_rfl) (by rfl) ?_))))
    exact ⟨rfl,rfl⟩
theorem q5q (hP:PcsM G A n p) (hn:n≤maxLen) (he:pcsE w h n p=0) (hk:0≤ink∧ink≤7) (hf:¬ ((-64≤dx∧dx≤64)∧-64≤dy∧dy≤64)) :
    Gives Try.prog 16 [.val (.int .i64 w),.val (.int .i64 h),.val (.slice A n c),.val (.int .i64 ink),.agg [.val (.int .i64 dx),.val (.int .i64 dy)]] G (.tup [.val (.slice none 0 0),.val (.int .i64 3)]):=by
  have gc:=q12 (c:=c) (w:=w) (h:=h) hP hn
  rw [he] at gc
  refine q1n tab_ok Try.func16 ?_
  by_cases h1:64<max dx dy
  · (repeat ((try (conv=>whnf));(first |(refine stQ ?_) |(with_reducible first |refine q0b (fun vs w=>by kernel_rfl) (by kernel_rfl) (gc) ?_ |refine q0a (fun vs w=>by kernel_rfl) (by kernel_rfl) (gc) ?_ |refine q0c tab_ok Try.func27 (fun vs w=>by kernel_rfl) (by rfl) ?_ |refine q0c tab_ok Try.func34 (fun vs w=>by kernel_rfl) (by rfl) ?_))))
    exact ⟨rfl,rfl⟩
  · (repeat ((try (conv=>whnf));(first |(refine stQ ?_) |(with_reducible first |refine q0b (fun vs w=>by kernel_rfl) (by kernel_rfl) (gc) ?_ |refine q0a (fun vs w=>by kernel_rfl) (by kernel_rfl) (gc) ?_ |refine q0c tab_ok Try.func27 (fun vs w=>by kernel_rfl) (by rfl) ?_ |refine q0c tab_ok Try.func34 (fun vs w=>by kernel_rfl) (by rfl) ?_))))
    exact ⟨rfl,rfl⟩
theorem q65 (hP:PcsM G A n p) (hn:n≤maxLen) (he:pcsE w h n p≠0) :
    Gives Try.prog 17 [.val (.int .i64 w),.val (.int .i64 h),.val (.slice A n c),.val (.int .i64 key),.val (.int .i64 ink),.agg [.val (.int .i64 dx),.val (.int .i64 dy)]] G (.tup [.val (.slice none 0 0),.val (.int .i64 (pcsE w h n p))]):=by
  have gc:=q12 (c:=c) (w:=w) (h:=h) hP hn
  generalize pcsE w h n p=e at *
  refine q1n tab_ok Try.func17 ?_
  (repeat ((try (conv=>whnf));(first |(refine stQ ?_) |(with_reducible first |refine q0b (fun vs w=>by kernel_rfl) (by kernel_rfl) (gc) ?_ |refine q0a (fun vs w=>by kernel_rfl) (by kernel_rfl) (gc) ?_ |refine q0c tab_ok Try.func27 (fun vs w=>by kernel_rfl) (by rfl) ?_))))
  exact ⟨rfl,rfl⟩
theorem q2e (hP:PcsM G A n p) (hn:n≤maxLen) (he:pcsE w h n p=0) (hk:¬ ((0≤key∧key≤7)∧0≤ink∧ink≤7)) :
    Gives Try.prog 17 [.val (.int .i64 w),.val (.int .i64 h),.val (.slice A n c),.val (.int .i64 key),.val (.int .i64 ink),.agg [.val (.int .i64 dx),.val (.int .i64 dy)]] G (.tup [.val (.slice none 0 0),.val (.int .i64 3)]):=by
  have gc:=q12 (c:=c) (w:=w) (h:=h) hP hn
  rw [he] at gc
  refine q1n tab_ok Try.func17 ?_
  by_cases h1:min key ink<0
  · (repeat ((try (conv=>whnf));(first |(refine stQ ?_) |(with_reducible first |refine q0b (fun vs w=>by kernel_rfl) (by kernel_rfl) (gc) ?_ |refine q0a (fun vs w=>by kernel_rfl) (by kernel_rfl) (gc) ?_ |refine q0c tab_ok Try.func27 (fun vs w=>by kernel_rfl) (by rfl) ?_))))
    exact ⟨rfl,rfl⟩
  · (repeat ((try (conv=>whnf));(first |(refine stQ ?_) |(with_reducible first |refine q0b (fun vs w=>by kernel_rfl) (by kernel_rfl) (gc) ?_ |refine q0a (fun vs w=>by kernel_rfl) (by kernel_rfl) (gc) ?_ |refine q0c tab_ok Try.func27 (fun vs w=>by kernel_rfl) (by rfl) ?_))))
    exact ⟨rfl,rfl⟩
theorem q9e (hP:PcsM G A n p) (hn:n≤maxLen) (he:pcsE w h n p=0) (hk:(0≤key∧key≤7)∧0≤ink∧ink≤7) (hf:¬ ((-64≤dx∧dx≤64)∧-64≤dy∧dy≤64)) :
    Gives Try.prog 17 [.val (.int .i64 w),.val (.int .i64 h),.val (.slice A n c),.val (.int .i64 key),.val (.int .i64 ink),.agg [.val (.int .i64 dx),.val (.int .i64 dy)]] G (.tup [.val (.slice none 0 0),.val (.int .i64 3)]):=by
  have gc:=q12 (c:=c) (w:=w) (h:=h) hP hn
  rw [he] at gc
  refine q1n tab_ok Try.func17 ?_
  by_cases h1:64<max dx dy
  · (repeat ((try (conv=>whnf));(first |(refine stQ ?_) |(with_reducible first |refine q0b (fun vs w=>by kernel_rfl) (by kernel_rfl) (gc) ?_ |refine q0a (fun vs w=>by kernel_rfl) (by kernel_rfl) (gc) ?_ |refine q0c tab_ok Try.func27 (fun vs w=>by kernel_rfl) (by rfl) ?_ |refine q0c tab_ok Try.func34 (fun vs w=>by kernel_rfl) (by rfl) ?_))))
    exact ⟨rfl,rfl⟩
  · (repeat ((try (conv=>whnf));(first |(refine stQ ?_) |(with_reducible first |refine q0b (fun vs w=>by kernel_rfl) (by kernel_rfl) (gc) ?_ |refine q0a (fun vs w=>by kernel_rfl) (by kernel_rfl) (gc) ?_ |refine q0c tab_ok Try.func27 (fun vs w=>by kernel_rfl) (by rfl) ?_ |refine q0c tab_ok Try.func34 (fun vs w=>by kernel_rfl) (by rfl) ?_))))
    exact ⟨rfl,rfl⟩
theorem z81 (hP:PcsM G A n p) (hn:n≤maxLen) (he:pcsE w h n p=0) (hk:0≤ink∧ink≤7) (hf:(-64≤dx∧dx≤64)∧-64≤dy∧dy≤64) :
    Gives Try.prog 17 [.val (.int .i64 w),.val (.int .i64 h),.val (.slice A n c),.val (.int .i64 ink),.val (.int .i64 ink),.agg [.val (.int .i64 dx),.val (.int .i64 dy)]] G (.tup [.val (.slice none 0 0),.val (.int .i64 0)]):=by
  have gc:=q12 (c:=c) (w:=w) (h:=h) hP hn
  rw [he] at gc
  refine q1n tab_ok Try.func17 ?_
  (repeat ((try (conv=>whnf));(first |(refine stQ ?_) |(with_reducible first |refine q0b (fun vs w=>by kernel_rfl) (by kernel_rfl) (gc) ?_ |refine q0a (fun vs w=>by kernel_rfl) (by kernel_rfl) (gc) ?_ |refine q0c tab_ok Try.func27 (fun vs w=>by kernel_rfl) (by rfl) ?_ |refine q0c tab_ok Try.func34 (fun vs w=>by kernel_rfl) (by rfl) ?_))))
  exact ⟨rfl,rfl⟩
end
end Go.Proofs.Ytbkhpddodmbdoaa
namespace Go.Proofs.Ytbkhpddodmbdoaa
open Go.RowKit
set_option maxRecDepth 20000
section
variable {A:Option Addr} {L:List Run} {c:Nat} {G:Mem} {x y:Int}
def q36:List Run→Int
  | []=>0
  | r::l=>(r.x1-r.x0)+q36 l
theorem z1m:∀ (K L:List Run),q36 (K++L)=q36 K+q36 L
  | [],L=>by simp [q36]
  | r::K,L=>by simp only [List.cons_append,q36,z1m K L];omega
theorem x1c {i:Nat} {r:Run} (h:L[i]? = some r):q36 (L.take (i+1))=q36 (L.take i)+(r.x1-r.x0):=by
  rw [List.take_add_one,h,z1m];simp [q36]
theorem z8k:∀ {L:List Run},(∀ r∈L,0≤r.x1-r.x0∧r.x1-r.x0≤16384)→0≤q36 L∧q36 L≤16384*(L.length:Int)
  | [],_=>by simp [q36]
  | r::l,h=>by
    have h1:=h r (by simp)
    have h2:=z8k (L:=l) (fun q hq=>h q (by simp [hq]))
    simp only [q36,List.length_cons];omega
theorem x5e (v:ValidL L) (i:Nat):0≤q36 (L.take i)∧q36 (L.take i)≤16384*268451840:=by
  have h1:=z8k (L:=L.take i) (fun r hr=>by have:=v.bd (List.mem_of_mem_take hr);omega)
  have h2:=v.length
  have h3:(L.take i).length≤L.length:=by rw [List.length_take];omega
  omega
set_option maxHeartbeats 2000000 in
theorem z2h (hR:RunsM G A L) (v:ValidL L):Gives Try.prog 26 [.val (.slice A L.length c)] G (.val (.int .i64 (q36 L))):=by
  have hll:=v.length
  refine q1n tab_ok Try.func26 ?_
  (repeat ((try (conv=>whnf));(refine stQ ?_)))
  conv=>whnf
  refine q05 tab_ok (fun i=>i≤L.length) (fun (i:Nat)=>[(7,.val (.int .i64 i)),(3,.val (.int .i64 (q36 (L.take i))))]) (fun i=>[]) (fun i=>L.length-i) 0 (Nat.zero_le _) ?_ ?_
  · ((refine q0h ?_);(conv=>whnf);(refine q0k (by rfl) (by rfl) flQ ?_))
    exact q0g
  · rintro i hi
    have hab:=x5e v i
    rcases Nat.lt_or_ge i L.length with h1 |h1
    · obtain ⟨r,hr⟩:∃ r,L[i]? = some r:=⟨L[i],List.getElem?_eq_getElem h1⟩
      obtain ⟨p,rfl,q0,q1,q2⟩:=hR.at_ hr
      have hb:=v.bd (List.mem_of_getElem? hr)
      have htk:=x1c hr
      (repeat ((try (conv=>whnf));(first |(refine q0d _ q1 ?_) |(refine q0d _ q2 ?_) |(refine stQ ?_))))
      refine ⟨i+1,by omega,by omega,?_⟩
      rw [htk]
      ((refine q0h ?_);(conv=>whnf);(refine q0k (by rfl) (by rfl) flQ ?_))
      exact q0g
    · obtain rfl:i=L.length:=by omega
      (repeat ((try (conv=>whnf));(refine stQ ?_)))
      exact ⟨by rw [List.take_length],rfl⟩
end
end Go.Proofs.Ytbkhpddodmbdoaa
