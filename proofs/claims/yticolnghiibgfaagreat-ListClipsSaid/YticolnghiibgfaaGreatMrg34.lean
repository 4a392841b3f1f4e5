/-
  Merged: XRegOps, XWhole, XSpot, XClip, XClipLaw.
-/
import Derived.Test.YticolnghiibgfaaGreatMrg26
import Derived.Test.YticolnghiibgfaaGreatCombine
import Derived.Test.YticolnghiibgfaaGreatMrg19
import Derived.Test.YticolnghiibgfaaGreatMrg23
import Derived.Test.YticolnghiibgfaaGreatMrg25
import Derived.Test.YticolnghiibgfaaGreatMrg30
import Derived.Test.YticolnghiibgfaaGreatMrg33
set_option linter.unusedVariables false
set_option linter.unusedSimpArgs false
set_option linter.unnecessarySimpa false
namespace Go.Proofs.YticolnghiibgfaaGreat
open Go.RowKit
set_option maxRecDepth 20000
section
variable {A B:Option Addr} {La Lb:List Run} {c d:Nat} {G:Mem}
end
theorem z59 (p q:Bool) (G:Mem):Gives Tryz.prog 73 [.val (.bool p),.val (.bool q)] G (.val (.bool (opB 1 p q))):=by
  refine q0r tab_ok Tryz.func73 ?_
  cases p <;> cases q <;> ((repeat ((try (conv=>whnf));(first |(with_reducible refine q6z (by kernel_rfl) ?_) |(refine stQ ?_))))) <;> exact ⟨rfl,rfl⟩
theorem z7v {A B:Option Addr} {La Lb:List Run} {c d:Nat} {G:Mem} (hA:RunsM G A La) (hB:RunsM G B Lb) (hc:La.length≤c) (hc':c≤maxLen) (hd:Lb.length≤d) (hd':d≤maxLen) (he:err2 La Lb=0) :
    q34 Tryz.prog 46 [.val (.slice A La.length c),.val (.slice B Lb.length d)] G (x56 0) 87 3 (mixR 1 La Lb).length (q1a (mixR 1 La Lb)):=by
  have g:=x57 73 1 (fun vs w=>by kernel_rfl) z59 hA hB hc hc' hd hd' he
  refine q23 tab_ok Tryz.func46 (q8e 0) ?_
  (repeat ((try (conv=>whnf));(refine stQ ?_)))
  conv=>whnf
  refine q77 (fun vs w=>by kernel_rfl) (q8e 0) (by kernel_rfl) g ?_
  (repeat ((try (conv=>whnf));(refine stQ ?_)))
  conv=>whnf
  exact .inl ⟨0,rfl,rfl⟩
end Go.Proofs.YticolnghiibgfaaGreat
namespace Go.Proofs.YticolnghiibgfaaGreat
open Go.RowKit
set_option maxRecDepth 20000
def v1w (e:Bool) (a:AV):AV:=.tup [a,.val (.bool e)]
theorem z5m (e:Bool):Wraps (v1w e):=.pair (.val (.bool e)) (fun _=>rfl) rfl
def q6g (w h:Nat):List Run:=(List.range (16*h)).map fun (y:Nat)=>⟨(y:Int),0,16*(w:Int)⟩
theorem x6c (w h:Nat):q1a (q6g w h)=q6f 0 (16*(w:Int)) 0 (16*h):=by
  unfold q1a q6g q6f
  rw [List.flatMap_map]
  simp
theorem x3t {w h:Nat} (hw:w≤512) (hh:h≤512) (G:Mem):q34 Tryz.prog 49 [.val (.int .i64 w),.val (.int .i64 h)] G (v1w true) 87 3 (16*h) (q6f 0 (16*(w:Int)) 0 (16*h)):=by
  refine q23 tab_ok Tryz.func49 (z5m true) ?_
  (repeat ((try (conv=>whnf));(refine stQ ?_)))
  conv=>whnf
  refine q01 tab_ok (fun i=>i≤16*h) (fun (i:Nat)=>[(7,.val (.int .i64 i)),(6,.own 0)]) (fun i=>[.own 87 3 i (q6f 0 (16*(w:Int)) 0 i)]) (fun i=>16*h-i) 0 (Nat.zero_le _) ?_ ?_
  · refine z3r 87 3 ?_
    conv=>whnf
    ((refine q0g ?_);(conv=>whnf);(refine q0k (by rfl) (by rfl) flQ ?_))
    exact q0f rfl (by simp [q6f]) q0e
  · intro i hi
    by_cases hlt:(i:Int)<16*(h:Int)
    · (repeat ((try (conv=>whnf));(refine stQ ?_)))
      refine ⟨i+1,by omega,by omega,?_⟩
      refine q1n 2 0 rfl rfl rfl rfl ?_
      conv=>whnf
      ((refine q0g ?_);(conv=>whnf);(refine q0k (by rfl) (by rfl) flQ ?_))
      exact q0f rfl (by rw [x8l,Int.zero_add]) q0e
    · (repeat ((try (conv=>whnf));(refine stQ ?_)))
      have hi2:i=16*h:=by omega
      subst hi2
      exact .inl ⟨0,rfl,rfl⟩
end Go.Proofs.YticolnghiibgfaaGreat
namespace Go.Proofs.YticolnghiibgfaaGreat
open Go.RowKit
set_option maxRecDepth 20000
theorem x6d {P:Program} {T:Tab} (hT:TOk P T) {f:FuncId} {fn:Func} (hfn:P.funcs[f]? = some fn) {args:List AV} {G:Mem} {R:Value→Mem→Prop}
    (h:q0q (q8m fn) (q5g P T 1 fn args [.muts fun _=>False] G fun v hp' G'=>∃ l:List Value,v=.agg (l.map .val)∧R (.agg l.toArray) G')):GivesM P f args G R:=by
  intro w vs hG ha
  refine (z1o hT hfn (args:=args) ha hG h).mono ?_
  rintro e w' ⟨y,β',v,hp',G',h1,h2,h3,l,rfl,hR⟩
  simp only [AV.rel] at h3
  obtain ⟨cs,rfl,h4⟩:=h3
  have e:cs=l.toArray:=by rw [← q09 h4]
  subst e
  exact ⟨_,G',h1,h2.below,h2.sub,h2.hold,h2.grow,hR⟩
theorem z2z {G:Mem} {b:Nat} {L:List Run} (h:∀ (j:Nat) u,(q1a L)[j]? = some u→G.cell? ⟨b,j,none⟩=some u):RunsM G (some ⟨b,0,none⟩) L:=fun i r hr=>by
  obtain ⟨h1,h2,h3⟩:=q5e hr
  exact ⟨b,0,rfl,by rw [Nat.zero_add];exact h _ _ h1,by rw [Nat.zero_add];exact h _ _ h2,by rw [Nat.zero_add];exact h _ _ h3⟩
abbrev spIt (K:Int) (RA:Option Addr) (rn rq:Nat) (c:Int) (al:Int) (iso:Bool):ItemD:=⟨K,RA,rn,rq,0,fun j=>if j=0 then c else 0,0,0,0,0,0,none,0,0,0,0,none,0,0,none,0,0,0,0,0,0,0,0,false,false,al,0,false,iso,false⟩
def spI (A:Option Addr) (c b:Nat):Nat→ItemD
  | 0=>spIt 0 A 16 c 200 255 false
  | 1=>spIt 1 none 0 0 0 255 true
  | 2=>spIt 0 (some ⟨b,0,none⟩) 1 1 100 255 false
  | _=>spIt 2 none 0 0 0 0 false
set_option maxHeartbeats 4000000 in
theorem z1t {G:Mem}:GivesM Tryz.prog 32 [] G fun v F=>∃ A c b sb ib,v=.agg #[.int .i64 1,.int .i64 1,.slice (some ⟨sb,0,none⟩) 1 1,.slice (some ⟨ib,0,none⟩) 4 4]∧RunsM F A (q6g 1 1)∧16≤c∧c≤maxLen ∧
    F sb=some (.cells #[.string ⟨#[98,108,97,99,107]⟩] 9 (0,0))∧F b=some (.cells #[.int .i64 0,.int .i64 0,.int .i64 1] 87 (0,0))∧F ib=some (.cells ((spI A c b 0).cells++(spI A c b 1).cells++(spI A c b 2).cells++(spI A c b 3).cells).toArray 56 (0,0)):=by
  refine x6d tab_ok Tryz.func32 ?_
  (repeat ((try (conv=>whnf));(refine stQ ?_)))
  conv=>whnf
  refine q26 (fun vs w=>by kernel_rfl) (z5m true) (by rfl) (x3t (w:=1) (h:=1) (by omega) (by omega) _) ?_
  intro A c G1 hG1 hc hcm hF
  (repeat ((try (conv=>whnf));(first |(with_reducible refine q99 tab_ok 0 false ?_) |(refine stQ ?_))))
  conv=>whnf
  intro sb G2 hsb _ hG2
  conv=>whnf
  (repeat ((try (conv=>whnf));(first |(with_reducible refine q99 tab_ok 0 false ?_) |(refine stQ ?_))))
  conv=>whnf
  intro b G3 hb _ hG3
  conv=>whnf
  (repeat ((try (conv=>whnf));(first |(with_reducible refine q99 tab_ok 0 false ?_) |(refine stQ ?_))))
  conv=>whnf
  intro ib G4 hib _ hG4
  conv=>whnf
  (repeat ((try (conv=>whnf));(refine stQ ?_)))
  conv=>whnf
  have l2:G1.le G2:=fun p o hp=>by rw [hG2,Mem.put_ne _ _ (fun e=>by rw [e,hsb] at hp;cases hp)];exact hp
  have l3:G2.le G3:=fun p o hp=>by rw [hG3,Mem.put_ne _ _ (fun e=>by rw [e,hb] at hp;cases hp)];exact hp
  have l4:G3.le G4:=fun p o hp=>by rw [hG4,Mem.put_ne _ _ (fun e=>by rw [e,hib] at hp;cases hp)];exact hp
  refine ⟨[.int .i64 1,.int .i64 1,.slice (some ⟨sb,0,none⟩) 1 1,.slice (some ⟨ib,0,none⟩) 4 4],rfl,A,c,b,sb,ib,rfl,?_,hc,hcm,l4 _ _ (l3 _ _ (by rw [hG2,Mem.put_same])),l4 _ _ (by rw [hG3,Mem.put_same]),by rw [hG4,Mem.put_same];rfl⟩
  rcases hF with h |⟨a,rfl,h⟩
  · exact absurd (congrArg List.length h) (by rw [v0x];decide)
  · exact (z2z (fun j u hj=>by rw [x6c] at hj;exact h j u hj)).mono (Mem.le_trans l2 (Mem.le_trans l3 l4))
end Go.Proofs.YticolnghiibgfaaGreat
namespace Go.Proofs.YticolnghiibgfaaGreat
open Go.RowKit Go.Deep
set_option maxRecDepth 20000
abbrev lisW (W H:Int) (SA:Option Addr) (m sq:Nat) (a:AV):AV:=.agg [.val (.int .i64 W),.val (.int .i64 H),.val (.slice SA m sq),a]
abbrev lisP (W H:Int) (SA:Option Addr) (m sq:Nat) (e:Int) (a:AV):AV:=.tup [lisW W H SA m sq a,.val (.int .i64 e)]
theorem x6e (W H:Int) (SA:Option Addr) (m sq:Nat) (e:Int):Wraps (lisP W H SA m sq e):=.lastPair [.val (.int .i64 W),.val (.int .i64 H),.val (.slice SA m sq)] (.val (.int .i64 e)) (fun _=>rfl) rfl rfl
abbrev z8z:AV:=.agg [.val (.int .i64 0),.val (.int .i64 0),.val (.slice none 0 0),.val (.slice none 0 0)]
abbrev setR (i:ItemD) (RA:Option Addr) (rn rq:Nat):ItemD:=⟨i.K,RA,rn,rq,i.k,i.I,i.fx,i.fy,i.tx,i.ty,i.r,i.A,i.n,i.q,i.W,i.H,i.B,i.pn,i.pq,i.C,i.sn,i.sq,i.a,i.b,i.c,i.d,i.e,i.f,i.s,i.t,i.al,i.bl,i.ov,i.iso,i.kn⟩
theorem z98 {rs:Nat→Run} {n:Nat} (v:Valid rs n):∀ k,k≤n→regV rs k=0
  | 0,_=>rfl
  | k+1,hk=>by
    have h:=z98 v k (by omega)
    have hb:=v.bd k (by omega)
    have hr:q4e rs k=0:=by
      unfold q4e
      rw [if_neg (by omega),if_neg (by omega),if_neg]
      rintro ⟨h1,h2,h3⟩
      have:=v.lt (k-1) k (by omega) (by omega)
      omega
    unfold regV
    rw [if_neg (by omega)]
    exact hr
theorem z4h {L:List Run} (v:ValidL L):errL L=0:=z98 v L.length (Nat.le_refl _)
theorem x8w {K L:List Run} (h:errL K=0) (h2:errL L=0):err2 K L=0:=by unfold err2;rw [if_neg (by omega)];exact h2
section
variable {G:Mem} {W H er:Int} {SA IA RB:Option Addr} {m sq n iq rd:Nat} {S:Nat→Nat→Value} {I:Nat→ItemD} {gr gs gp gf:Nat→Nat→Nat→Value} {L:List Run}
theorem v06 {rb:Value} (hC:Gives Tryz.prog 33 [q2s W H SA m sq IA n iq] G (.val (.int .i64 er))) (he:er≠0) :
    Gives Tryz.prog 28 [q2s W H SA m sq IA n iq,.val rb] G (.tup [z8z,.val (.int .i64 er)]):=by
  refine q0r tab_ok Tryz.func28 ?_
  (repeat ((try (conv=>whnf));(first |(refine stQ ?_) |(with_reducible first |refine q0c (fun vs w=>by kernel_rfl) (by kernel_rfl) (hC) ?_ |refine q0a (fun vs w=>by kernel_rfl) (by kernel_rfl) (hC) ?_))))
  exact ⟨rfl,rfl⟩
theorem v07 (hC:Gives Tryz.prog 33 [q2s W H SA m sq IA n iq] G (.val (.int .i64 0))) (hR:Gives Tryz.prog 45 [.val (.slice RB L.length rd)] G (.val (.int .i64 er))) (he:er≠0) :
    Gives Tryz.prog 28 [q2s W H SA m sq IA n iq,.val (.slice RB L.length rd)] G (.tup [z8z,.val (.int .i64 er)]):=by
  refine q0r tab_ok Tryz.func28 ?_
  (repeat ((try (conv=>whnf));(first |(refine stQ ?_) |(with_reducible first |refine q0c (fun vs w=>by kernel_rfl) (by kernel_rfl) (hC) ?_ |refine q0a (fun vs w=>by kernel_rfl) (by kernel_rfl) (hC) ?_ |refine q0c (fun vs w=>by kernel_rfl) (by kernel_rfl) (hR) ?_ |refine q0a (fun vs w=>by kernel_rfl) (by kernel_rfl) (hR) ?_))))
  exact ⟨rfl,rfl⟩
structure ClipInv (I:Nat→ItemD) (R:Nat→List Run) (L:List Run) (gr gs gp gf:Nat→Nat→Nat→Value) (n:Nat) (G:Mem) (t:CopyT):Prop where
  le:t.k≤n
  sub:G.le t.M
  old:∀ x,x<n→(t.k≤x∨(I x).K≠0)→(∃ RA rq A q B pq C sq,t.J x=setC (I x) RA rq A q B pq C sq)∧ItemG t.M (t.J x) (gr x) (gs x) (gp x) (gf x)
  new:∀ x,x<t.k→(I x).K=0→(∃ RA rq A q B pq C sq,t.J x=setR (setC (I x) RA rq A q B pq C sq) RA (mixR 1 (R x) L).length rq∧(mixR 1 (R x) L).length≤rq∧rq≤maxLen∧RunsM t.M RA (mixR 1 (R x) L))∧SrcG t.M (t.J x) (gs x) (gp x) (gf x)
set_option maxHeartbeats 16000000 in
theorem x6f {R:Nat→List Run} (hC:Gives Tryz.prog 33 [q2s W H SA m sq IA n iq] G (.val (.int .i64 0))) (hR:RunsM G RB L) (vL:ValidL L) (hd:L.length≤rd) (hd':rd≤maxLen)
    (hS:SliceM Tryz.prog G 9 SA m S) (hI:ItemsM G IA n I) (hIA:0<n→∀ p,IA=some p→∃ b off,p=⟨b,off,none⟩) (hm:m≤1000000) (hn:n≤1000000) (hG:∀ x,x<n→ItemG G (I x) (gr x) (gs x) (gp x) (gf x)) (hB:∀ x,x<n→(I x).rn≤1000000000∧(I x).n≤1000000000∧(I x).pn≤1000000000∧(I x).sn≤1000000000)
    (hr:∀ x,x<n→(I x).K=0→R x=q2o (fun j=>⟨valI (gr x j 0),valI (gr x j 1),valI (gr x j 2)⟩) (I x).rn∧ValidL (R x)) :
    MakesX Tryz.prog 28 [q2s W H SA m sq IA n iq,.val (.slice RB L.length rd)] G 56 34 fun wrap k xs G'=>∃ (SA':Option Addr) (sq':Nat) (J:Nat→ItemD),k=n∧wrap=lisP W H SA' m sq' 0∧xs=q00 (fun x=>(J x).cells) n∧m≤sq'∧sq'≤maxLen∧SliceM Tryz.prog G' 9 SA' m S∧ClipInv I R L gr gs gp gf n G ⟨n,J,G'⟩:=by
  have hck:=Check_gives hR hd hd'
  have e0:errL L=0:=z4h vL
  rw [e0] at hck
  have hcp:=x2x (W:=W) (H:=H) (sq:=sq) (iq:=iq) hS hI hIA hm hn hG hB
  refine z97 tab_ok Tryz.func28 (by kernel_rfl) ?_
  (repeat ((try (conv=>whnf));(first |(refine stQ ?_) |(with_reducible first |refine q0c (fun vs w=>by kernel_rfl) (by kernel_rfl) (hC) ?_ |refine q0a (fun vs w=>by kernel_rfl) (by kernel_rfl) (hC) ?_ |refine q0c (fun vs w=>by kernel_rfl) (by kernel_rfl) (hck) ?_ |refine q0a (fun vs w=>by kernel_rfl) (by kernel_rfl) (hck) ?_))))
  conv=>whnf
  refine x2w (fun vs w=>by kernel_rfl) (by rfl) hcp ?_
  rintro wrap k xs G1 hG1 ⟨SA',sq',J0,rfl,rfl,rfl,hq1,hq2,hS1,hJ⟩
  (repeat ((try (conv=>whnf));(refine stQ ?_)))
  conv=>whnf
  refine q8u tab_ok (ι:=CopyT) (fun t=>ClipInv I R L gr gs gp gf k G t∧G1.le t.M) (fun t=>[(28,.val (.int .i64 t.k))]) (fun t=>[.cells 25 [.val (.int .i64 W),.val (.int .i64 H),.val (.slice SA m sq),.val (.slice IA k iq)],.cells 25 [.val (.int .i64 0),.val (.int .i64 0),.val (.slice none 0 0),.val (.slice none 0 0)],.own 56 34 k (q00 (fun x=>(t.J x).cells) k),.cells 25 [.val (.int .i64 W),.val (.int .i64 H),.val (.slice SA' m sq'),.own 2]]) (fun t=>t.M) (fun t=>k-t.k) ⟨0,J0,G1⟩ ?_ ?_ ?_
  · exact ⟨⟨Nat.zero_le _,hG1,fun x hx _=>hJ x hx,fun x hx=>absurd hx (Nat.not_lt_zero _)⟩,Mem.le_refl _⟩
  · dsimp only
    ((refine q0g ?_);(conv=>whnf);(refine q0k (by rfl) (by rfl) flQ ?_))
    exact q0b (by exact flQ) (q0b (by exact flQ) (q0f rfl rfl (q0b (by exact flQ) q0e)))
  · rintro ⟨j,J,M⟩ ⟨⟨hk,hsub,hold,hnew⟩,hM⟩
    dsimp only at hk hsub hold hnew hM ⊢
    rcases Nat.lt_or_ge j k with h2 |h2
    · by_cases h0:(I j).K=0
      · obtain ⟨⟨RA,rq,A,q,B,pq,C,sq2,hJj⟩,hi⟩:=hold j h2 (.inl (Nat.le_refl _))
        obtain ⟨hRe,hRv⟩:=hr j h2 h0
        have hrn:(I j).rn=(R j).length:=by rw [hRe,q4j]
        have hrun:RunsM M (J j).RA (R j):=by
          rw [hRe]
          have:=z44 hi.run.2.2
          rw [show (J j).rn=(I j).rn by rw [hJj]] at this
          exact this
        have hl1:(R j).length≤(J j).rq:=by rw [← hrn];have:=hi.run.1;rw [show (J j).rn=(I j).rn by rw [hJj]] at this;exact this
        have hmk:=z7v hrun (hR.mono hsub) hl1 hi.run.2.1 hd hd' (by rw [x8w (z4h hRv) e0])
        rw [← hrn] at hmk
        have e0':(q00 (fun x=>(J x).cells) k)[j*34+0]? = some (.int .i64 0):=by rw [q3x (c:=fun x=>(J x).cells) (sz:=34) (fun _ _=>rfl) h2 (by omega),hJj,← h0];rfl
        have e1':(q00 (fun x=>(J x).cells) k)[j*34+1]? = some (.slice (J j).RA (I j).rn (J j).rq):=by rw [q3x (c:=fun x=>(J x).cells) (sz:=34) (fun _ _=>rfl) h2 (by omega)];show some (Value.slice (J j).RA (J j).rn (J j).rq)=_;rw [show (J j).rn=(I j).rn by rw [hJj]]
        (repeat ((try (conv=>whnf));(first |(refine q0j _ e0' ?_) |(refine q0j _ e1' ?_) |(refine stQ ?_))))
        conv=>whnf
        refine q26 (fun vs w=>by kernel_rfl) (q8e 0) (by rfl) hmk fun RA' rq' M1 hM1 ha hb hF=>?_
        (repeat ((try (conv=>whnf));(refine stQ ?_)))
        conv=>whnf
        have hx:(setJ J j (setR (J j) RA' (mixR 1 (R j) L).length rq')) j=setR (J j) RA' (mixR 1 (R j) L).length rq':=q57
        obtain ⟨p1,p2⟩:=z0h (J:=J) (J':=setJ J j (setR (J j) RA' (mixR 1 (R j) L).length rq')) (n:=k) (x:=j) (o:=1) (v:=.slice RA' (mixR 1 (R j) L).length rq') h2 (by omega) (fun y hy=>q5r hy) (by rw [hx];rfl)
        refine z1s (o:=j*34+1) p1 p2 ?_
        have hn1:∀ y,y≠j→setJ J j (setR (J j) RA' (mixR 1 (R j) L).length rq') y=J y:=fun y hy=>q5r hy
        generalize setJ J j (setR (J j) RA' (mixR 1 (R j) L).length rq')=J1 at *
        conv=>whnf
        (repeat ((try (conv=>whnf));(refine stQ ?_)))
        conv=>whnf
        refine ⟨⟨j+1,J1,M1⟩,⟨⟨by show j+1≤k;omega,Mem.le_trans hsub hM1,fun x hxk hor=>?_,fun x hxj hK=>?_⟩,Mem.le_trans hM hM1⟩,by show k-(j+1)<k-j;omega,?_⟩
        · have hxj:x≠j:=fun e=>by
            subst e
            rcases hor with h |h
            · have h:x+1≤x:=h
              omega
            · exact h h0
          dsimp only
          rw [hn1 x hxj]
          obtain ⟨q1,q2⟩:=hold x hxk (hor.imp (fun h=>by have h:j+1≤x:=h;show j≤x;omega) id)
          exact ⟨q1,q2.mono hM1⟩
        · have hxj:x<j+1:=hxj
          dsimp only
          by_cases e:x=j
          · subst e
            rw [hx,hJj]
            refine ⟨⟨RA',rq',A,q,B,pq,C,sq2,rfl,ha,hb,?_⟩,?_⟩
            · rcases hF with h |⟨b,rfl,h⟩
              · have hl0:(mixR 1 (R x) L).length=0:=by
                  have:=q1x (mixR 1 (R x) L);rw [h] at this;simp at this;omega
                rw [List.eq_nil_of_length_eq_zero hl0]
                exact fun i r hi=>by simp at hi
              · exact z2z h
            · have:=hi.src.mono hM1
              rw [hJj] at this
              exact ⟨this.stop,this.pix,this.soft,this.ink⟩
          · rw [hn1 x e]
            obtain ⟨⟨RA2,rq2,A2,q2,B2,pq2,C2,sq3,z1,z2,z3,z4⟩,z5⟩:=hnew x (by omega) hK
            exact ⟨⟨RA2,rq2,A2,q2,B2,pq2,C2,sq3,z1,z2,z3,z4.mono hM1⟩,z5.mono hM1⟩
        · dsimp only
          ((refine q0g ?_);(conv=>whnf);(refine q0k (by rfl) (by rfl) flQ ?_))
          exact q0b (by exact flQ) (q0b (by exact flQ) (q0f rfl rfl (q0b (by exact flQ) q0e)))
      · obtain ⟨⟨RA,rq,A,q,B,pq,C,sq2,hJj⟩,hi⟩:=hold j h2 (.inl (Nat.le_refl _))
        have e0':(q00 (fun x=>(J x).cells) k)[j*34+0]? = some (.int .i64 (I j).K):=by rw [q3x (c:=fun x=>(J x).cells) (sz:=34) (fun _ _=>rfl) h2 (by omega),hJj];rfl
        (repeat ((try (conv=>whnf));(first |(refine q0j _ e0' ?_) |(refine stQ ?_))))
        conv=>whnf
        refine ⟨⟨j+1,J,M⟩,⟨⟨by show j+1≤k;omega,hsub,fun x hxk hor=>hold x hxk (hor.imp (fun h=>by have h:j+1≤x:=h;show j≤x;omega) id),fun x hxj hK=>?_⟩,hM⟩,by show k-(j+1)<k-j;omega,?_⟩
        · have hxj:x<j+1:=hxj
          exact hnew x (by rcases Nat.eq_or_lt_of_le (Nat.le_of_lt_succ hxj) with e |e;(subst e;exact absurd hK h0);exact e) hK
        · dsimp only
          ((refine q0g ?_);(conv=>whnf);(refine q0k (by rfl) (by rfl) flQ ?_))
          exact q0b (by exact flQ) (q0b (by exact flQ) (q0f rfl rfl (q0b (by exact flQ) q0e)))
    · have hjk:j=k:=by omega
      subst hjk
      (repeat ((try (conv=>whnf));(refine stQ ?_)))
      conv=>whnf
      exact ⟨lisP W H SA' m sq' 0,2,j,_,x6e _ _ _ _ _ _,rfl,rfl,SA',sq',J,rfl,rfl,rfl,hq1,hq2,hS1.mono hM,⟨Nat.le_refl _,hsub,hold,hnew⟩⟩
end
end Go.Proofs.YticolnghiibgfaaGreat
namespace Go.Proofs.YticolnghiibgfaaGreat
open Go.RowKit Go.Deep
section
variable {X Y:CellX} {p q:Nat→Prop}
mutual
theorem v08 (hf:∀ i,p i→X.cov i=Y.cov i∧∀ b,X.fill i b=Y.fill i b) (hg:∀ i,q i→X.kn i=Y.kn i∧(∀ b,X.start i b=Y.start i b)∧∀ b s,X.grp i b s=Y.grp i b s):∀ t,AllT p q t→covT X t=covT Y t∧∀ b,evT X t b=evT Y t b
  | .fill i,h=>by
    rw [AllT] at h
    exact ⟨by rw [covT,covT];exact (hf i h).1,fun b=>by rw [evT,evT];exact (hf i h).2 b⟩
  | .group i ms,h=>by
    rw [AllT] at h
    obtain ⟨h1,h2,h3⟩:=hg i h.1
    obtain ⟨e1,e2⟩:=z6a hf hg ms h.2
    exact ⟨by rw [covT,covT];exact e1,fun b=>by rw [evT,evT,h1,h2,e2,h3]⟩
theorem z6a (hf:∀ i,p i→X.cov i=Y.cov i∧∀ b,X.fill i b=Y.fill i b) (hg:∀ i,q i→X.kn i=Y.kn i∧(∀ b,X.start i b=Y.start i b)∧∀ b s,X.grp i b s=Y.grp i b s):∀ ms,AllL p q ms→covL X ms=covL Y ms∧∀ kn b now,evL X kn b ms now=evL Y kn b ms now
  | [],_=>⟨by rw [covL,covL],fun kn b now=>by rw [evL,evL]⟩
  | t::ts,h=>by
    rw [AllL] at h
    obtain ⟨e1,e2⟩:=v08 hf hg t h.1
    obtain ⟨e3,e4⟩:=z6a hf hg ts h.2
    exact ⟨by rw [covL,covL,e1,e3],fun kn b now=>by rw [evL,evL,e1,e2,e4]⟩
end
mutual
theorem x8x (hf:∀ i,p i→X.cov i=false):∀ t,AllT p q t→covT X t=false
  | .fill i,h=>by rw [AllT] at h;rw [covT];exact hf i h
  | .group i ms,h=>by rw [AllT] at h;rw [covT];exact (z6b hf ms h.2).1
theorem z6b (hf:∀ i,p i→X.cov i=false):∀ ms,AllL p q ms→covL X ms=false∧∀ kn b now,evL X kn b ms now=now
  | [],_=>⟨by rw [covL],fun kn b now=>by rw [evL]⟩
  | t::ts,h=>by
    rw [AllL] at h
    have e1:=x8x hf t h.1
    obtain ⟨e3,e4⟩:=z6b hf ts h.2
    exact ⟨by rw [covL,e1,e3];rfl,fun kn b now=>by rw [evL,e1,e4];rfl⟩
end
end
theorem z99 {K K':Nat→Int} {n:Nat} (h:∀ x,x<n→K x=K' x):∀ k,k≤n→zst K k=zst K' k
  | 0,_=>rfl
  | k+1,hk=>by rw [zst,zst,z99 h k (by omega),h k (by omega)]
structure SameI (i j:ItemD):Prop where
  K:j.K=i.K
  al:j.al=i.al
  bl:j.bl=i.bl
  ov:j.ov=i.ov
  iso:j.iso=i.iso
  kn:j.kn=i.kn
section
variable {I J:Nat→ItemD} {f:Nat→SrcF} {R R':Nat→List Run} {n m:Nat} {x y:Int} {G G':Mem}
theorem x0a (hs:∀ k,k<n→SameI (I k) (J k)):q43 J n=q43 I n:=by
  unfold q43
  rw [z99 (K:=fun x=>(J x).K) (K':=fun x=>(I x).K) (fun k hk=>(hs k hk).K) n (Nat.le_refl _)]
theorem x2y (hL:LOk G I f R n) (hs:∀ k,k<n→SameI (I k) (J k)) (hc:∀ k,k<n→(I k).K=0→hasL (R' k) x y=hasL (R k) x y):q3z J f R' n m x y=q3z I f R n m x y:=by
  unfold q3z
  rw [x0a hs,(z6a (X:=q0n J f R' x y) (Y:=q0n I f R x y) (p:=fun k=>(I k).K=0∧k<n) (q:=fun k=>(I k).K=1∧k<n) (fun i hi=>?_) (fun i hi=>?_) (q43 I n) hL.span.all).2]
  · obtain ⟨s1,s2,s3,s4,s5,s6⟩:=hs i hi.2
    exact ⟨hc i hi.2 hi.1,fun b=>by show q3i (J i).bl (J i).al (J i).ov (f i x y) b=q3i (I i).bl (I i).al (I i).ov (f i x y) b;rw [s2,s3,s4]⟩
  · obtain ⟨s1,s2,s3,s4,s5,s6⟩:=hs i hi.2
    exact ⟨s6,fun b=>by show (if (J i).iso=true then q1h else b)=if (I i).iso=true then q1h else b;rw [s5],fun b s=>by show grpS (J i).iso (J i).bl (J i).al b s=grpS (I i).iso (I i).bl (I i).al b s;rw [s2,s3,s5]⟩
theorem x2z (hL:LOk G I f R n) (hs:∀ k,k<n→SameI (I k) (J k)) (hc:∀ k,k<n→(I k).K=0→hasL (R' k) x y=false):q3z J f R' n m x y=fun _=>0:=by
  unfold q3z
  rw [x0a hs,(z6b (X:=q0n J f R' x y) (p:=fun k=>(I k).K=0∧k<n) (q:=fun k=>(I k).K=1∧k<n) (fun i hi=>hc i hi.2 hi.1) (q43 I n) hL.span.all).2]
  funext o
  unfold rowI q2g
  split
  · rw [if_neg (by omega)]
  · rfl
theorem z7w {e:Nat→Int}:∀ {n:Nat},(∀ x,x<n→e x=0)→q2c e n=0
  | 0,_=>rfl
  | n+1,h=>by rw [q2c,z7w (n:=n) fun x hx=>h x (by omega),if_pos rfl];exact h n (by omega)
theorem z0i {K K':Nat→Int} {n:Nat} (h:∀ x,x<n→K x=K' x):∀ k,k≤n→q0v K k=q0v K' k
  | 0,_=>rfl
  | k+1,hk=>by rw [q0v,q0v,z0i h k (by omega),h k (by omega)]
theorem x6g {W H:Int} {S:Nat→ByteArray} {K K':Nat→Int} {E E':Nat→Int→Int} (he:q3h W H m S n K E=0) (hK:∀ x,x<n→K' x=K x) (hE:∀ x,x<n→E' x (q0v K' x)=0):q3h W H m S n K' E'=0:=by
  have hd:=z0i (n:=n) hK
  unfold q3h at he ⊢
  split at he
  · omega
  split at he
  · omega
  split at he
  · exact absurd he ‹_›
  split at he
  · omega
  split at he
  · exact absurd he ‹_›
  split at he
  · omega
  rename_i g1 g2 g3 g4 g5 g6
  rw [if_neg g1,if_neg g2,if_neg g3,if_neg g4,if_neg,if_neg]
  · rw [hd n (Nat.le_refl _)];exact g6
  · rw [z7w fun x hx=>hE x hx];simp
end
theorem hasL_iffR {L:List Run} {x y:Int}:hasL L x y=true↔hasR L x y:=by rw [← q4k,hasB_iff,z39]
theorem z20 {K L:List Run} (va:ValidL K) (vb:ValidL L) (x y:Int):hasL (mixR 1 K L) x y=(hasL K x y&&hasL L x y):=by
  have h:=(q9p (c:=1) va vb).2 x y
  rw [Bool.eq_iff_iff]
  have e:opB 1 (hasL K x y) (hasL L x y)=(hasL K x y&&hasL L x y):=rfl
  rw [e] at h
  exact hasL_iffR.trans h
end Go.Proofs.YticolnghiibgfaaGreat
