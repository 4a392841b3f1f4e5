/-
  Merged: XFew, XLinesM.
-/
import Derived.Test.YtegpkpilfgohhaaLines
import Derived.Test.YtegpkpilfgohhaaMrg6
import Derived.Test.YtegpkpilfgohhaaMrg9
import Derived.Test.YtegpkpilfgohhaaFlat
set_option linter.unusedVariables false
set_option linter.unusedSimpArgs false
set_option linter.unnecessarySimpa false
namespace Go.Proofs.Ytegpkpilfgohhaa
open Go.RowKit
set_option maxRecDepth 20000
theorem cutF {c k:Nat} {A:Option Addr}:(if c=((0:Nat):Int).toNat then A else A.map (·.add (((0:Nat):Int).toNat * k)))=A:=by
  split
  · rfl
  · cases A with
    | none=>rfl
    | some a=>simp [Addr.add]
def fewL (L:Nat→LineD):Nat→LineD:=fun x=>⟨(L x).A,min (L x).n 8,(L x).q,(L x).X,(L x).Y,(L x).cl⟩
section
variable {G:Mem} {A:Option Addr} {n c:Nat} {L:Nat→LineD}
theorem z6i:∀ m,cntN (fewL L) m≤m*8
  | 0=>Nat.le_refl _
  | m+1=>by
    have:=z6i m
    have h2:(fewL L m).n≤8:=Nat.min_le_right _ _
    rw [cntN];omega
theorem z8j {G':Mem} {B:Option Addr} (h:LinesM G A n L) (hG:G.le G') (hx:q3e (fun x=>(fewL L x).cells) (min n 4)=[]∨∃ b,B=some ⟨b,0,none⟩∧∀ (j:Nat) u,(q3e (fun x=>(fewL L x).cells) (min n 4))[j]? = some u→G'.cell? ⟨b,j,none⟩=some u):LinesM G' B (min n 4) (fewL L) :=
  ⟨ElsM.frozen (fun _ _=>rfl) hx (by omega),fun x hx=>((h.pts x (by omega)).mono hG).less (Nat.min_le_left _ _),fun x hx=>by
    have:=h.cap x (by omega)
    exact ⟨Nat.le_trans (Nat.min_le_left _ _) this.1,this.2⟩⟩
set_option maxHeartbeats 8000000 in
theorem z8k (h:LinesM G A n L) (hn:n≤maxLen) :
    q6o Try.prog 6 [.val (.slice A n c)] G id 35 2 (min n 4) (q3e (fun x=>(fewL L x).cells) (min n 4)):=by
  have hn':n≤9223372036854775807:=by unfold maxLen at hn;omega
  refine q4r tab_ok Try.func6 (.alone fun _=>rfl) ?_
  (repeat ((try (conv=>whnf));(refine stQ ?_)))
  conv=>whnf
  refine q00 tab_ok (fun x=>x≤min n 4) (fun (x:Nat)=>[(4,.val (.int .i64 x)),(3,.own 0)]) (fun x=>[.own 35 2 x (q3e (fun x=>(fewL L x).cells) x)]) (fun x=>min n 4-x) 0 (Nat.zero_le _) ?_ ?_
  · refine q4e 35 2 ?_
    conv=>whnf
    ((refine q0d ?_);(conv=>whnf);(refine q0e (by rfl) (by rfl) flQ ?_))
    exact q0a rfl rfl q0b
  · rintro x hx
    rcases Nat.lt_or_ge x (min n 4) with h1 |h1
    · obtain ⟨p,rfl,c0⟩:=h.rows.cell (x:=x) (j:=0) (by omega) rfl
      obtain ⟨p',hp',c1⟩:=h.rows.cell (x:=x) (j:=1) (by omega) rfl
      cases hp'
      have hcap:=h.cap x (by omega)
      unfold maxLen at hcap
      have hnx:q3e (fun x=>(fewL L x).cells) (x+1)=q3e (fun x=>(fewL L x).cells) x++(fewL L x).cells:=rfl
      rcases Nat.lt_or_ge 8 (L x).n with h2 |h2
      · (repeat ((try (conv=>whnf));(first |(refine q07 _ c0 ?_) |(refine q07 _ c1 ?_) |(refine stQ ?_))))
        conv=>whnf
        refine ⟨x+1,by omega,by omega,?_⟩
        refine q1a 2 0 rfl rfl rfl rfl ?_
        conv=>whnf
        ((refine q0d ?_);(conv=>whnf);(refine q0e (by rfl) (by rfl) flQ ?_))
        exact q0a rfl (by rw [cutF,hnx];congr 1;show [Value.slice (L x).A 8 (L x).q,Value.bool (L x).cl]=[Value.slice (L x).A (min (L x).n 8) (L x).q,Value.bool (L x).cl];rw [show min (L x).n 8=8 by omega]) q0b
      · (repeat ((try (conv=>whnf));(first |(refine q07 _ c0 ?_) |(refine q07 _ c1 ?_) |(refine stQ ?_))))
        conv=>whnf
        refine ⟨x+1,by omega,by omega,?_⟩
        refine q1a 2 0 rfl rfl rfl rfl ?_
        conv=>whnf
        ((refine q0d ?_);(conv=>whnf);(refine q0e (by rfl) (by rfl) flQ ?_))
        exact q0a rfl (by rw [hnx];congr 1;show [Value.slice (L x).A (L x).n (L x).q,Value.bool (L x).cl]=[Value.slice (L x).A (min (L x).n 8) (L x).q,Value.bool (L x).cl];rw [show min (L x).n 8=(L x).n by omega]) q0b
    · have hxm:x=min n 4:=by omega
      clear hx h1
      rcases Nat.lt_or_ge 4 n with h2 |h2
      · rw [show min n 4=4 by omega] at hxm ⊢
        subst hxm
        (repeat ((try (conv=>whnf));(refine stQ ?_)))
        exact .inl ⟨0,rfl,rfl⟩
      · rw [show min n 4=n by omega] at hxm ⊢
        subst hxm
        (repeat ((try (conv=>whnf));(refine stQ ?_)))
        exact .inl ⟨0,rfl,rfl⟩
end
end Go.Proofs.Ytegpkpilfgohhaa
namespace Go.Proofs.Ytegpkpilfgohhaa
open Go.RowKit Go.Deep
set_option maxRecDepth 20000
def slA:Value→Option Addr
  | .slice A _ _=>A
  | _=>none
def slN:Value→Nat
  | .slice _ n _=>n
  | _=>0
def slC:Value→Nat
  | .slice _ _ c=>c
  | _=>0
theorem uPts:Try.prog.underlying 33=some (.slice 58):=Try.underlying33
theorem cPts:0<Try.prog.cellsOf 58:=of_decide_eq_true (by kernel_rfl)
theorem x0r:Try.prog.cellsOf 58=2:=by kernel_rfl
theorem x0z:Try.prog.cellsOf 35=2:=by kernel_rfl
theorem z1k:flat Try.prog 20 58=[.int .i64,.int .i64]:=by kernel_rfl
theorem z5d:q2p Try.prog 20 58=true:=by kernel_rfl
theorem z3e:flat Try.prog 20 35=[.slice 33,.bool]:=by kernel_rfl
theorem z6j:q2p Try.prog 20 35=true:=by kernel_rfl
section
variable {w:World} {A:Option Addr} {n:Nat} {g:Nat→Nat→Value}
theorem x0s {m:Nat} {t e:TypeId} {c:Value} (ht:Try.prog.underlying t=some (.slice e)) (h0:0<Try.prog.cellsOf e) (h:Sees Try.prog w m t [c]) :
    c=.slice (slA c) (slN c) (slC c)∧slN c≤slC c∧slC c≤maxLen∧∃ g,SliceG Try.prog w e (slA c) (slN c) g:=by
  obtain ⟨A,n,cap,g,rfl,h1,h2,h3⟩:=z02 ht h0 h
  exact ⟨rfl,h1,h2,g,h3⟩
theorem x00 (h:SliceG Try.prog w 58 A n g):ElsM (q5m w) A 2 n (ptC (fun i=>valI (g i 0)) (fun i=>valI (g i 1))):=by
  refine ⟨fun x hx=>rfl,fun x hx=>?_⟩
  obtain ⟨b,off,rfl,_,hc⟩:=h (by omega)
  rw [x0r] at hc
  have h0:=(h.int (j:=0) (k:=.i64) z5d hx (by rw [z1k];rfl)).1
  have h1:=(h.int (j:=1) (k:=.i64) z5d hx (by rw [z1k];rfl)).1
  refine ⟨b,off,rfl,fun j v hj=>?_⟩
  match j,hj with
  | 0,hj =>
    simp at hj;subst hj
    rw [← h0];exact (hc x hx).1 0 (by omega)
  | 1,hj =>
    simp at hj;subst hj
    rw [← h1];exact (hc x hx).1 1 (by omega)
theorem x0t {v:Value} {b:Bool} {m:Nat} (h:Sees Try.prog w m 33 [v]):∃ l:LineD,l.cells=[v,.bool b]∧l.n=slN v∧ElsM (q5m w) l.A 2 l.n (ptC l.X l.Y)∧l.n≤l.q∧l.q≤maxLen:=by
  obtain ⟨e,h1,h2,g,hg⟩:=x0s uPts cPts h
  refine ⟨⟨slA v,slN v,slC v,fun i=>valI (g i 0),fun i=>valI (g i 1),b⟩,?_,rfl,x00 hg,h1,h2⟩
  unfold LineD.cells
  dsimp only
  rw [← e]
theorem x0d (h:SliceG Try.prog w 35 A n g):∃ L:Nat→LineD,LinesM (q5m w) A n L∧∀ x,x<n→(L x).n=slN (g x 0):=by
  have key:∀ x,x<n→∃ l:LineD,l.cells=[g x 0,g x 1]∧l.n=slN (g x 0)∧ElsM (q5m w) l.A 2 l.n (ptC l.X l.Y)∧l.n≤l.q∧l.q≤maxLen:=fun x hx=>by
    obtain ⟨m,h0⟩:=h.seen (j:=0) z6j hx (by rw [z3e];rfl)
    have h1:=h.bool (j:=1) z6j hx (by rw [z3e];rfl)
    rw [h1]
    exact x0t h0
  haveI:Inhabited LineD:=⟨⟨none,0,0,fun _=>0,fun _=>0,false⟩⟩
  obtain ⟨L,hL⟩:=choose_lt key
  refine ⟨L,⟨⟨fun x hx=>rfl,fun x hx=>?_⟩,fun x hx=>(hL x hx).2.2.1,fun x hx=>(hL x hx).2.2.2⟩,fun x hx=>(hL x hx).2.1⟩
  obtain ⟨b,off,rfl,_,hc⟩:=h (by omega)
  rw [x0z] at hc
  refine ⟨b,off,rfl,fun j v hj=>?_⟩
  rw [(hL x hx).1] at hj
  match j,hj with
  | 0,hj =>
    simp at hj;subst hj
    exact (hc x hx).1 0 (by omega)
  | 1,hj =>
    simp at hj;subst hj
    exact (hc x hx).1 1 (by omega)
end
end Go.Proofs.Ytegpkpilfgohhaa
