/-
  Merged: XRegCheckE, XRect, XBothU, XInkKey, XArg, XHpm.
-/
import Derived.Test.YtbkhpddodmbdoaaMrg10
import Derived.Test.YtbkhpddodmbdoaaMrg9
import Derived.Test.YtbkhpddodmbdoaaMrg8
import Derived.Test.YtbkhpddodmbdoaaCombine
import Derived.Test.YtbkhpddodmbdoaaCombined
import Derived.Test.YtbkhpddodmbdoaaMrg7
import Derived.Test.YtbkhpddodmbdoaaMrg11
import Derived.Test.YtbkhpddodmbdoaaMrg6
import Derived.Test.YtbkhpddodmbdoaaGm
set_option linter.unusedVariables false
set_option linter.unusedSimpArgs false
set_option linter.unnecessarySimpa false
namespace Go.Proofs.Ytbkhpddodmbdoaa
open Go.RowKit
set_option maxRecDepth 20000
theorem q22 {L:List Run} (h:errL L=0):ValidL L:=x3h h
end Go.Proofs.Ytbkhpddodmbdoaa
namespace Go.Proofs.Ytbkhpddodmbdoaa
open Go.RowKit
set_option maxRecDepth 20000
def q4k (x0 x1 y:Int) (n:Nat):List Value:=(List.range n).flatMap fun (i:Nat)=>[.int .i64 (y+i),.int .i64 x0,.int .i64 x1]
theorem x3w (x0 x1 y:Int) (n:Nat):(q4k x0 x1 y n).length=n*3:=by
  unfold q4k
  induction n with
  | zero=>rfl
  | succ n ih=>rw [List.range_succ,List.flatMap_append,List.length_append,ih];simp;omega
theorem z09 (x0 x1 y:Int) (n:Nat):q4k x0 x1 y (n+1)=q4k x0 x1 y n++[.int .i64 (y+n),.int .i64 x0,.int .i64 x1]:=by
  unfold q4k;rw [List.range_succ,List.flatMap_append];simp
theorem x3x (x0 x1 y:Int) (n j:Nat) (h:j<n):(q4k x0 x1 y n)[j*3]? = some (.int .i64 (y+j))∧(q4k x0 x1 y n)[j*3+1]? = some (.int .i64 x0)∧(q4k x0 x1 y n)[j*3+2]? = some (.int .i64 x1):=by
  induction n with
  | zero=>omega
  | succ n ih =>
    rw [z09]
    have hl:=x3w x0 x1 y n
    by_cases hj:j<n
    · obtain ⟨h1,h2,h3⟩:=ih hj
      rw [List.getElem?_append_left (by omega),List.getElem?_append_left (by omega),List.getElem?_append_left (by omega)]
      exact ⟨h1,h2,h3⟩
    · have:j=n:=by omega
      subst this
      rw [List.getElem?_append_right (by omega),List.getElem?_append_right (by omega),List.getElem?_append_right (by omega),hl]
      simp [show j*3+1-j*3=1 by omega,show j*3+2-j*3=2 by omega]
def q34 (e:Int) (a:AV):AV:=.tup [a,.val (.int .i64 e)]
theorem q00 (e:Int):Wraps (q34 e):=.pair (.val (.int .i64 e)) (fun _=>rfl) rfl
theorem z9x (x0 y0 x1 y1:Int) (G:Mem) (h1:-8192≤x0) (h2:x0<x1) (h3:x1≤8192) (h4:-8192≤y0) (h5:y0≤y1) (h6:y1≤8192) :
    q2j Try.prog 50 [.val (.int .i64 x0),.val (.int .i64 y0),.val (.int .i64 x1),.val (.int .i64 y1)] G (q34 0) 54 3 (y1-y0).toNat (q4k x0 x1 y0 (y1-y0).toNat):=by
  refine q1y tab_ok Try.func50 (q00 0) ?_
  (repeat ((try (conv=>whnf));(first |(refine stQ ?_) |(with_reducible refine q0c tab_ok Try.func39 (fun vs w=>by kernel_rfl) (by rfl) ?_))))
  conv=>whnf
  refine q05 tab_ok (fun i=>i≤(y1-y0).toNat) (fun (i:Nat)=>[(11,.val (.int .i64 (y0+i)))]) (fun i=>[.cells 107 [.own 1],.own 54 3 i (q4k x0 x1 y0 i)]) (fun i=>(y1-y0).toNat-i) 0 (by omega) ?_ ?_
  · refine q3s 54 3 ?_
    conv=>whnf
    ((refine q0h ?_);(conv=>whnf);(refine q0k (by rfl) (by rfl) flQ ?_))
    exact q0f (by exact flQ) (q0e rfl (by simp [q4k]) q0g)
  · intro i hi
    by_cases hlt:y0+(i:Int)<y1
    · rcases i with _ |i
      · (repeat ((try (conv=>whnf));(first |(refine stQ ?_) |(with_reducible refine q0c tab_ok Try.func65 (fun vs w=>by kernel_rfl) (by rfl) ?_))))
        refine ⟨1,by omega,by omega,?_⟩
        refine q0y 3 1 rfl rfl rfl rfl ?_
        conv=>whnf
        ((refine q0h ?_);(conv=>whnf);(refine q0k (by rfl) (by rfl) flQ ?_))
        exact q0f (by exact flQ) (q0e rfl (by rw [z09]) q0g)
      · (repeat ((try (conv=>whnf));(first |(refine stQ ?_) |(with_reducible refine q0c tab_ok Try.func65 (fun vs w=>by kernel_rfl) (by rfl) ?_))))
        conv=>whnf
        refine q0i (.int .i64 (y0+i)) (by rw [show ((↑(i+1):Int)-1).toNat * 3+0=i*3 by omega];exact (x3x x0 x1 y0 (i+1) i (by omega)).1) ?_
        (repeat ((try (conv=>whnf));(refine stQ ?_)))
        refine ⟨i+2,by omega,by omega,?_⟩
        refine q0y 3 1 rfl rfl rfl rfl ?_
        conv=>whnf
        ((refine q0h ?_);(conv=>whnf);(refine q0k (by rfl) (by rfl) flQ ?_))
        exact q0f (by exact flQ) (q0e rfl (by rw [z09 x0 x1 y0 (i+1)]) q0g)
    · (repeat ((try (conv=>whnf));(refine stQ ?_)))
      have e:i=(y1-y0).toNat:=by omega
      subst e
      exact .inl ⟨1,rfl,rfl⟩
end Go.Proofs.Ytbkhpddodmbdoaa
namespace Go.Proofs.Ytbkhpddodmbdoaa
open Go.RowKit
set_option maxRecDepth 20000
section
variable {A B:Option Addr} {La Lb:List Run} {c d:Nat} {G:Mem}
def err2 (La Lb:List Run):Int:=if errL La≠0 then errL La else errL Lb
theorem x47 (h:err2 La Lb=0):errL La=0∧errL Lb=0:=by
  unfold err2 at h
  split at h
  · rename_i h1;exact absurd h h1
  · rename_i h1;exact ⟨Decidable.not_not.1 h1,h⟩
set_option maxHeartbeats 1000000 in
theorem z36 (f:FuncId) (k:Int) (hen:∀ vs w,(callFunc f vs).run Try.prog w=.ok (.enter f vs) w) (hf:∀ (p q:Bool) (G:Mem),Gives Try.prog f [.val (.bool p),.val (.bool q)] G (.val (.bool (opB k p q))))
    (hA:RunsM G A La) (hB:RunsM G B Lb) (hc:La.length≤c) (hc':c≤maxLen) (hd:Lb.length≤d) (hd':d≤maxLen) (he:err2 La Lb=0) :
    q2j Try.prog 59 [.val (.slice A La.length c),.val (.slice B Lb.length d),.val (.func (.func f) #[] #[])] G (q34 0) 54 3 (mixR k La Lb).length (q0o (mixR k La Lb)):=by
  obtain ⟨h1,h2⟩:=x47 he
  have g1:=q5u hA hc hc'
  have g2:=q5u hB hd hd'
  rw [h1] at g1;rw [h2] at g2
  have g3:=z6i f k hen hf A B La Lb c d G hA hB (q22 h1) (q22 h2)
  refine q1y tab_ok Try.func59 (q00 0) ?_
  (repeat ((try (conv=>whnf));(refine stQ ?_)))
  conv=>whnf
  refine q4r tab_ok ?_
  (repeat ((try (conv=>whnf));(first |(refine stQ ?_) |(with_reducible first |refine q0b (fun vs w=>by kernel_rfl) (by kernel_rfl) (g1) ?_ |refine q0a (fun vs w=>by kernel_rfl) (by kernel_rfl) (g1) ?_ |refine q0b (fun vs w=>by kernel_rfl) (by kernel_rfl) (g2) ?_ |refine q0a (fun vs w=>by kernel_rfl) (by kernel_rfl) (g2) ?_))))
  conv=>whnf
  refine q4r tab_ok ?_
  (repeat ((try (conv=>whnf));(first |(refine stQ ?_) |(with_reducible first |refine q0b (fun vs w=>by kernel_rfl) (by kernel_rfl) (g1) ?_ |refine q0a (fun vs w=>by kernel_rfl) (by kernel_rfl) (g1) ?_ |refine q0b (fun vs w=>by kernel_rfl) (by kernel_rfl) (g2) ?_ |refine q0a (fun vs w=>by kernel_rfl) (by kernel_rfl) (g2) ?_))))
  conv=>whnf
  refine q4r tab_ok ?_
  (repeat ((try (conv=>whnf));(first |(refine stQ ?_) |(with_reducible first |refine q0b (fun vs w=>by kernel_rfl) (by kernel_rfl) (g1) ?_ |refine q0a (fun vs w=>by kernel_rfl) (by kernel_rfl) (g1) ?_ |refine q0b (fun vs w=>by kernel_rfl) (by kernel_rfl) (g2) ?_ |refine q0a (fun vs w=>by kernel_rfl) (by kernel_rfl) (g2) ?_))))
  conv=>whnf
  refine q15 (fun vs w=>by kernel_rfl) (.alone fun _=>rfl) (by kernel_rfl) g3 ?_
  (repeat ((try (conv=>whnf));(refine stQ ?_)))
  conv=>whnf
  exact .inl ⟨0,rfl,rfl⟩
end
theorem z74 (p q:Bool) (G:Mem):Gives Try.prog 68 [.val (.bool p),.val (.bool q)] G (.val (.bool (opB 2 p q))):=by
  refine q1n tab_ok Try.func68 ?_
  cases p <;> cases q <;> ((repeat ((try (conv=>whnf));(first |(with_reducible refine z0y (by kernel_rfl) ?_) |(refine stQ ?_))))) <;> exact ⟨rfl,rfl⟩
theorem z8s {A B:Option Addr} {La Lb:List Run} {c d:Nat} {G:Mem} (hA:RunsM G A La) (hB:RunsM G B Lb) (hc:La.length≤c) (hc':c≤maxLen) (hd:Lb.length≤d) (hd':d≤maxLen) (he:err2 La Lb=0) :
    q2j Try.prog 52 [.val (.slice A La.length c),.val (.slice B Lb.length d)] G (q34 0) 54 3 (mixR 2 La Lb).length (q0o (mixR 2 La Lb)):=by
  have g:=z36 68 2 (fun vs w=>by kernel_rfl) z74 hA hB hc hc' hd hd' he
  refine q1y tab_ok Try.func52 (q00 0) ?_
  (repeat ((try (conv=>whnf));(refine stQ ?_)))
  conv=>whnf
  refine q15 (fun vs w=>by kernel_rfl) (q00 0) (by kernel_rfl) g ?_
  (repeat ((try (conv=>whnf));(refine stQ ?_)))
  conv=>whnf
  exact .inl ⟨0,rfl,rfl⟩
end Go.Proofs.Ytbkhpddodmbdoaa
namespace Go.Proofs.Ytbkhpddodmbdoaa
open Go.RowKit
set_option maxRecDepth 20000
theorem q2o:KeyT Try.prog 27 8 .u8:=⟨⟨5,by kernel_rfl,by kernel_rfl,(Try.prog.info? 5).get (by kernel_rfl),by kernel_rfl,by kernel_rfl⟩,by kernel_rfl⟩
theorem q20:Try.prog.underlying 83=some (.map 27 3):=by kernel_rfl
theorem q3u (w:World):(zeroValue 3).run Try.prog w=.ok (.int .i64 0) w:=by kernel_rfl
theorem q2p (I:Nat→Int):q0v (List.replicate 8 (.int .u8)) (inkC I)=true:=by rfl
theorem z2d {w h:Int} {G:Mem}:Gives Try.prog 21 [.val (.int .i64 w),.val (.int .i64 h)] G (.val (.bool (decide ((1≤w∧w≤256)∧(1≤h∧h≤256))))):=by
  refine q1n tab_ok Try.func21 ?_
  by_cases h1:1≤w
  · by_cases h2:w≤256
    · by_cases h3:1≤h
      · by_cases h4:h≤256
        · rw [decide_eq_true (show (1≤w∧w≤256)∧(1≤h∧h≤256) from ⟨⟨h1,h2⟩,h3,h4⟩)]
          (repeat ((try (conv=>whnf));(refine stQ ?_)))
          exact ⟨by simp [h4],rfl⟩
        · rw [decide_eq_false (by omega)]
          (repeat ((try (conv=>whnf));(refine stQ ?_)))
          exact ⟨by simp [h4],rfl⟩
      · rw [decide_eq_false (by omega)]
        (repeat ((try (conv=>whnf));(refine stQ ?_)))
        exact ⟨rfl,rfl⟩
    · rw [decide_eq_false (by omega)]
      (repeat ((try (conv=>whnf));(refine stQ ?_)))
      exact ⟨rfl,rfl⟩
  · rw [decide_eq_false (by omega)]
    (repeat ((try (conv=>whnf));(refine stQ ?_)))
    exact ⟨rfl,rfl⟩
end Go.Proofs.Ytbkhpddodmbdoaa
namespace Go.Proofs.Ytbkhpddodmbdoaa
open Go.RowKit
def RowM (G:Mem) (A:Option Addr) (xs:List Value):Prop:=(A=none∧xs=[])∨∃ b off,A=some ⟨b,off,none⟩∧∀ (j:Nat) u,xs[j]? = some u→G.cell? ⟨b,off+j,none⟩=some u
theorem RowM.mono {G G':Mem} {A:Option Addr} {xs:List Value} (h:RowM G A xs) (hle:G.le G'):RowM G' A xs:=by
  rcases h with h |⟨b,off,h1,h2⟩
  · exact .inl h
  · exact .inr ⟨b,off,h1,fun j u hj=>hle.cell (h2 j u hj)⟩
theorem z1a {P:Program} {f:FuncId} (hen:∀ vs w,(callFunc f vs).run P w=.ok (.enter f vs) w) {k:Nat} {post:List AV} {hp:List Blk} {G:Mem} {K:AV→List Blk→Mem→Prop} {E:TypeId} {sz n:Nat} {xs:List Value} (hk:nthB hp k=.own E sz n xs) (hu:AV.unders 0 post=true)
    (h:∀ A cap G',G.le G'→n≤cap→cap≤maxLen→RowM G' A xs→setF hp k .gone fun hp'=>CallP P f (.val (.slice A n cap)::post) hp' G' K):CallP P f (.own k::post) hp G K:=by
  refine ⟨hen,fun w0 G0 β w vs hr ha=>?_⟩
  have ha':=ha
  simp only [AV.rels] at ha
  obtain ⟨v,ts,hvs,hv,hts⟩:=ha
  simp only [AV.rel] at hv
  obtain ⟨x,hx1,hx2⟩:=hr.blk k v hv.1
  have hkx:=q0z hk rfl
  rw [hkx] at hx1;cases hx1
  obtain ⟨⟨hlen,hown⟩,hfree⟩:=hx2
  rcases hown with ⟨rfl,h5⟩ |⟨g,cap,cur,rfl,h5,h6,h7,h8,h9,h10⟩
  · have h0:=h none 0 G (Mem.le_refl _) (by omega) (Nat.zero_le _) (.inl ⟨rfl,by rw [h5] at hlen;simpa using hlen⟩)
    rw [q1h] at h0
    subst h5
    refine h0.calls w0 G0 β w vs (hr.forget k) ?_
    simp only [AV.rels,AV.rel]
    exact ⟨_,ts,hvs,rfl,hts⟩
  · have hcell:∀ (j:Nat) u,xs[j]? = some u→(G.and w g).cell? ⟨g,0+j,none⟩=some u:=fun j u hj=>by
      have h11:(G.and w g) g=some (.cells cur E (0,0)):=by simp [Mem.and,h6]
      unfold Mem.cell?
      rw [Nat.zero_add,h11]
      rw [← h10] at hj
      rw [List.getElem?_take] at hj
      split at hj
      · simpa using hj
      · cases hj
    have h0:=h (some ⟨g,0,none⟩) cap (G.and w g) (Mem.le_and hr.hold g) h7 h8 (.inr ⟨g,0,rfl,hcell⟩)
    rw [q1h] at h0
    have hf:=hr.forget k
    have hbig:=(hr.lt hv.1 hkx rfl (b:=g) rfl).1
    refine h0.calls w0 G0 β w vs ⟨hf.below,Mem.and_holds hr.hold g,Mem.le_trans hr.sub (Mem.le_and hr.hold g),fun b o hb=>?_,fun j z hj=>?_,hf.inj,hf.wrt⟩ ?_
    · unfold Mem.and at hb
      split at hb
      · rename_i e1;subst e1
        exact .inr h5
      · exact hr.grow b o hb
    · obtain ⟨x,hx1,hx2⟩:=hf.blk j z hj
      refine ⟨x,hx1,?_⟩
      have hne:∀ b,x.live=true→q0j z=some b→b≠g:=fun b hl hb e=>by
        subst e
        by_cases hjk:j=k
        · subst hjk
          rw [List.getElem?_set] at hx1
          simp [(List.getElem?_eq_some_iff.1 hkx).1] at hx1
          subst hx1;simp [Blk.live] at hl
        · have hx3:hp[j]? = some x:=by rw [List.getElem?_set,if_neg (fun e=>hjk e.symm)] at hx1;exact hx1
          exact hr.inj j k z _ x _ b hjk hj hv.1 hx3 hkx hl rfl hb rfl
      cases x with
      | gone=>trivial
      | muts S=>exact hx2.elim
      | cells t l =>
        obtain ⟨b,c,q1,q2,q3,q4,q5⟩:=hx2
        refine ⟨b,c,q1,q2,?_,q4,q5⟩
        have:=hne b rfl (by rw [q1];rfl)
        simp [Mem.and,this,q3]
      | own e sz' n' xs' =>
        obtain ⟨q1,q2⟩:=hx2
        refine ⟨q1,fun b hb=>?_⟩
        have:=hne b rfl hb
        simp [Mem.and,this,q2 b hb]
      | lp i fr st p =>
        obtain ⟨q1,q2,q3,q4⟩:=hx2
        refine ⟨q1,q2,?_,q4⟩
        have:=hne i.l rfl (by rw [q1];rfl)
        simp [Mem.and,this,q3]
      | mp f ks vs =>
        obtain ⟨b,ys,q1,q2,q3,q4⟩:=hx2
        refine ⟨b,ys,q1,q2,?_,q4⟩
        have:=hne b rfl (by rw [q1];rfl)
        simp [Mem.and,this,q3]
    · simp only [AV.rels,AV.rel]
      exact ⟨_,ts,hvs,rfl,hts⟩
theorem q84 {P:Program} {T:Tab} (hT:TOk P T) {n0:Nat} {b:Code} {fr:List AV} {hp:List Blk} {G:Mem} {Q:Post} {ι:Type} (inv:ι→Prop) (S:ι→List (Nat × AV)) (H:ι→List Blk) (M:ι→Mem) (μ:ι→Nat) (i0:ι) (h0:inv i0)
    (start:Le n0 fr hp G (q40 b fr (S i0)) (H i0) (M i0))
    (round:∀ i,inv i→q8z (q3d b []) fun ws=>q7d ws 0 fr fun fr1=>q6b fr1 (S i) fun fr2=>q8w P T n0 b fr2 (H i) (M i) fun e fr' hp' G'=>match e with
      | .normal=>∃ i',inv i'∧μ i'<μ i∧Le n0 fr' hp' G' (q40 b fr (S i')) (H i') (M i')
      | e=>Q e fr' hp' G'):LoopP P n0 b fr hp G Q:=by
  refine z2n hT inv (fun i=>q40 b fr (S i)) H M μ ⟨i0,h0,start⟩ fun i hi=>?_
  have h:=round i hi
  rw [q6t,q6a,q5o] at h
  exact h
end Go.Proofs.Ytbkhpddodmbdoaa
namespace Go.Proofs.Ytbkhpddodmbdoaa
theorem q0w {n:Nat} {S S':Nat→Prop} {l m:List Blk} (hS:∀ b,S' b→S b) (h:hpLe n l m):hpLe n (.muts S::l) (.muts S'::m):=⟨hS,h⟩
end Go.Proofs.Ytbkhpddodmbdoaa
