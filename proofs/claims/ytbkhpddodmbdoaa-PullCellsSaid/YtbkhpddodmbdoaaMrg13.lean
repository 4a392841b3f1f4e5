/-
  Merged: XMakesM, XFlatPut, XGatP, XRowsM, XEdges, XOr.
-/
import Derived.Test.YtbkhpddodmbdoaaMrg12
import Derived.Test.YtbkhpddodmbdoaaMrg7
import Derived.Test.YtbkhpddodmbdoaaMrg6
import Derived.Test.YtbkhpddodmbdoaaEng2
import Derived.Test.YtbkhpddodmbdoaaMrg11
import Derived.Test.YtbkhpddodmbdoaaMrg10
import Derived.Test.YtbkhpddodmbdoaaMrg8
set_option linter.unusedVariables false
set_option linter.unusedSimpArgs false
set_option linter.unnecessarySimpa false
namespace Go.Proofs.Ytbkhpddodmbdoaa
open Go.RowKit
theorem q9y {P:Program} {T:Tab} (hT:TOk P T) {f:FuncId} {fn:Func} (hfn:P.funcs[f]? = some fn) {args:List AV} {G:Mem} {E:TypeId} {sz:Nat} {R:(AV→AV)→Nat→List Value→Mem→Prop}
    (h:q0s (q8a fn) (q5j P T 1 fn args [.muts fun _=>False] G fun v hp' G1=>∃ wrap k n xs,Wraps wrap∧v=wrap (.own k)∧nthB hp' k=.own E sz n xs∧R wrap n xs G1)):MakesX P f args G E sz R:=by
  intro w vs hG ha
  refine (q6l hT hfn (args:=args) ha hG h).mono ?_
  rintro e w' ⟨y,β',v',hp',G',h1,h2,h3,wrap,k,n,xs,hw,rfl,hk,hR⟩
  obtain ⟨s,h5,h6⟩:=hw.back h3
  simp only [AV.rel] at h5
  obtain ⟨x,hx1,hx2⟩:=h2.blk k s h5.1
  rw [q0x hk rfl] at hx1;cases hx1
  exact ⟨y,s,wrap,n,xs,G',h1,hw,h6,hx2.1,h2.below,h2.sub,h2.hold,h2.grow,hx2.2,hR⟩
end Go.Proofs.Ytbkhpddodmbdoaa
namespace Go.Proofs.Ytbkhpddodmbdoaa
open Go.RowKit
theorem q6n {c:Nat→List Value} {sz n x o:Nat} {vs:List Value} (hl:∀ y,y<n→(c y).length=sz) (hx:x<n) (ho:o+vs.length≤sz) :
    (q0m c n).take (x*sz+o)++vs++(q0m c n).drop (x*sz+o+vs.length)=q0m (fun y=>if y=x then (c x).take o++vs++(c x).drop (o+vs.length) else c y) n:=by
  obtain ⟨r,rfl⟩:∃ r,n=x+(1+r):=⟨n-x-1,by omega⟩
  have hP:=q1o (c:=c) (n:=x) (fun y hy=>hl y (by omega))
  have hM:=hl x hx
  have e1:q0m c (x+(1+r))=q0m c x++(c x++q0m (fun y=>c (x+(1+y))) r):=by
    rw [q69,q69];simp [q0m]
  have e2:q0m (fun y=>if y=x then (c x).take o++vs++(c x).drop (o+vs.length) else c y) (x+(1+r))=q0m c x++(((c x).take o++vs++(c x).drop (o+vs.length))++q0m (fun y=>c (x+(1+y))) r):=by
    rw [q69,q69]
    congr 1
    · exact q1m fun y hy=>if_neg (by omega)
    · congr 1
      · simp [q0m]
      · exact q1m fun y hy=>if_neg (by omega)
  rw [e1,e2]
  have t1:(q0m c x++(c x++q0m (fun y=>c (x+(1+y))) r)).take (x*sz+o)=q0m c x++(c x).take o:=by
    rw [List.take_append,hP,List.take_of_length_le (by omega),show x*sz+o-x*sz=o by omega,List.take_append,show o-(c x).length=0 by omega];simp
  have t2:(q0m c x++(c x++q0m (fun y=>c (x+(1+y))) r)).drop (x*sz+o+vs.length)=(c x).drop (o+vs.length)++q0m (fun y=>c (x+(1+y))) r:=by
    rw [List.drop_append,hP,List.drop_of_length_le (by omega),show x*sz+o+vs.length-x*sz=o+vs.length by omega,List.drop_append,show o+vs.length-(c x).length=0 by omega];simp
  rw [t1,t2]
  simp [List.append_assoc]
theorem q20 {hp:List Blk} {k:Nat} {e:TypeId} {sz n o:Nat} {xs ys vs:List Value} {K:List Blk→Prop} (hle:o+vs.length≤xs.length) (h:xs.take o++vs++xs.drop (o+vs.length)=ys) (hk:setF hp k (.own e sz n ys) K) :
    mustP (o+vs.length≤xs.length) (setF hp k (.own e sz n (xs.take o++vs++xs.drop (o+vs.length))) K):=mustP.mk hle (by rw [h];exact hk)
end Go.Proofs.Ytbkhpddodmbdoaa
namespace Go.Proofs.Ytbkhpddodmbdoaa
open Go.RowKit
structure GSt where
  S:Nat→Prop
  B:Nat→Value
  M:Mem
def keyI (gs:List Pc) (k j:Nat):Int:=(((gs[k]?).map Prod.fst).getD []).getD j 0
theorem x39 {gs:List Pc} {k:Nat} {I:Nat→Int} {L:List Run} (h:gs[k]? = some (vecI I,L)):inkC (keyI gs k)=inkC I:=by simp [inkC,keyI,h,vecI]
theorem q4v {gs:List Pc} {k:Nat} {v:List Int} {L M:List Run} (h:gs[k]? = some (v,L)):keyI (gs.set k (v,M))=keyI gs:=by
  funext x j
  unfold keyI
  by_cases e:k=x
  · subst e
    rw [List.getElem?_set_self (List.getElem?_eq_some_iff.1 h).1,h];rfl
  · rw [List.getElem?_set_ne e]
theorem z77 {gs:List Pc} {p:Pc} {x:Nat} (h:x<gs.length):keyI (gs++[p]) x=keyI gs x:=by
  funext j
  unfold keyI
  rw [List.getElem?_append_left h]
theorem z78 {gs:List Pc} {p:Pc} {I:Nat→Int} (h:p.1=vecI I):inkC (keyI (gs++[p]) gs.length)=inkC I :=
  x39 (L:=p.2) (by rw [List.getElem?_concat_length,← h])
theorem z79 {gs:List Pc} {p:Pc} {I:Nat→Int} (h:p.1=vecI I):q0m (fun k=>inkC (keyI gs k)) gs.length++inkC I=q0m (fun k=>inkC (keyI (gs++[p]) k)) (gs.length+1):=by
  rw [q0m,z78 h]
  congr 1
  exact q1m fun x hx=>by rw [z77 hx]
theorem x5m {gs:List Pc} {k:Nat} {p:Pc} (h:gs[k]? = some p) (hl:p.1.length=8):vecI (keyI gs k)=p.1:=by
  obtain ⟨v,L⟩:=p
  dsimp only at hl ⊢
  match v,hl with
  | [a,b,c,d,e,f,g,i],_=>simp [vecI,keyI,h]
theorem q3h {B:Nat→Value} {k m:Nat} {x:Value} (h:k<m):k*1+0+[x].length≤(q0m (fun j=>[B j]) m).length∧(q0m (fun j=>[B j]) m).take (k*1+0)++[x]++(q0m (fun j=>[B j]) m).drop (k*1+0+[x].length)=q0m (fun j=>[putV B k x j]) m:=by
  refine ⟨by rw [q1o (sz:=1) (fun _ _=>rfl)];simp;omega,?_⟩
  rw [q6n (sz:=1) (fun _ _=>rfl) h (by simp)]
  refine q1m fun y hy=>?_
  unfold putV
  split <;> simp
theorem q9g {B:Nat→Value} {k m:Nat} (h:k<m):(q0m (fun j=>[B j]) m)[k*1+0]? = some (B k):=by
  rw [q3o (sz:=1) (fun _ _=>rfl) h (by omega)];rfl
theorem z5y {B:Nat→Value} {m:Nat} {x:Value}:q0m (fun j=>[B j]) m++[x]=q0m (fun j=>[putV B m x j]) (m+1):=by
  rw [q0m,q1t]
  congr 1
  exact q1m fun y hy=>by rw [q16 (by omega)]
theorem RowS.last {S:Nat→Prop} {M:Mem} {E:TypeId} {b:Value} {K:List Run} {r:Run} (h:RowS S M E 3 b (K++[r]).length (q0n (K++[r]))):∃ g c,b=.slice (some ⟨g,0,none⟩) (K.length+1) c∧K.length+1≤c∧c≤maxLen∧S g ∧
    M.cell? (Addr.add (Addr.add ⟨g,0,none⟩ (K.length*3)) 0)=some (.int .i64 r.y)∧M.cell? (Addr.add (Addr.add ⟨g,0,none⟩ (K.length*3)) 2)=some (.int .i64 r.x1):=by
  rcases h.2 with ⟨_,h0⟩ |⟨g,cap,cur,rfl,h1,h2,h3,h4,h5,h6⟩
  · simp at h0
  obtain ⟨q0,q1,q2⟩:=q3q (L:=K++[r]) (i:=K.length) (r:=r) (by simp)
  refine ⟨g,cap,by simp,by simpa using h3,h4,h1,?_,?_⟩
  · have:=h.cell (o:=0) q0
    simpa [q0r] using this
  · have:=h.cell (o:=0) q2
    simpa [q0r] using this
theorem z03 {K:List Run} {r:Run} {z:Int}:(q0n (K++[r])).take (K.length*3+2)++[.int .i64 z]++(q0n (K++[r])).drop (K.length*3+2+1)=q0n (K++[⟨r.y,r.x0,z⟩]):=by
  have hl:=q1b K
  rw [q0w,q0w,q3p,q3p]
  rw [List.take_append,List.drop_append,hl]
  rw [List.take_of_length_le (by omega),List.drop_of_length_le (by omega)]
  have e1:K.length*3+2-K.length*3=2:=by omega
  have e2:K.length*3+2+1-K.length*3=3:=by omega
  rw [e1,e2];simp
def slA (v:Value):Option Addr:=match v with | .slice A _ _=>A |_=>none
def slQ (v:Value):Nat:=match v with | .slice _ _ c=>c |_=>0
def gatP (gs:List Pc) (B:Nat→Value) (k:Nat):PcD:=⟨((gs[k]?).map Prod.snd).getD [],slA (B k),slQ (B k),keyI gs k⟩
theorem GatM.piece {G0:Mem} {E:TypeId} {bm:Nat} {S:Nat→Prop} {M:Mem} {gs:List Pc} {B:Nat→Value} (h:GatM G0 E bm S M gs B) {k:Nat} {p:Pc} (hk:gs[k]? = some p):(gatP gs B k).L=p.2∧B k=.slice (gatP gs B k).A (gatP gs B k).L.length (gatP gs B k).q∧(gatP gs B k).L.length≤(gatP gs B k).q∧(gatP gs B k).q≤maxLen∧RunsM M (gatP gs B k).A (gatP gs B k).L:=by
  have hL:(gatP gs B k).L=p.2:=by simp [gatP,hk]
  have hr:=h.rows k p hk
  obtain ⟨A,c,e,h1,h2⟩:=hr.isSl
  have eA:(gatP gs B k).A=A:=by simp [gatP,e,slA]
  have eq:(gatP gs B k).q=c:=by simp [gatP,e,slQ]
  rw [hL,eA,eq]
  refine ⟨rfl,e,h1,h2,?_⟩
  rw [e] at hr
  have hF:=hr.flat
  intro i r hi
  obtain ⟨q0,q1,q2⟩:=q3q hi
  rcases hF with ⟨_,h0⟩ |⟨b,off,rfl,h3⟩
  · rw [h0] at q0;simp at q0
  · exact ⟨b,off,rfl,by simpa using h3 _ _ q0,by simpa [Nat.add_assoc] using h3 _ _ q1,by simpa [Nat.add_assoc] using h3 _ _ q2⟩
end Go.Proofs.Ytbkhpddodmbdoaa
namespace Go.Proofs.Ytbkhpddodmbdoaa
open Go.RowKit
structure PRowsM (G0:Mem) (E:TypeId) (S:Nat→Prop) (M:Mem) (gs:List Pc) (B:Nat→Value):Prop where
  le:G0.le M
  rows:∀ (k:Nat) (p:Pc),gs[k]? = some p→RowS S M E 3 (B k) p.2.length (q0n p.2)
  apart:∀ k l b,k<gs.length→l<gs.length→k≠l→q0j (B k)=some b→q0j (B l)≠some b
  free:∀ k b,k<gs.length→q0j (B k)=some b→G0 b=none
section
variable {G0:Mem} {E:TypeId} {S S':Nat→Prop} {M M':Mem} {gs:List Pc} {B:Nat→Value} {k:Nat} {v:List Int} {L:List Run} {r:Run}
theorem PRowsM.app (h:PRowsM G0 E S M gs B) (hk:gs[k]? = some (v,L)) {x:Value} (hG:RowG S M (B k) S' M' x) (hR:RowS S' M' E 3 x (L.length+1) (q0n (L++[r]))):PRowsM G0 E S' M' (gs.set k (v,L++[r])) (putV B k x):=by
  have hkl:=(List.getElem?_eq_some_iff.1 hk).1
  have hG0:∀ b,q0j x=some b→G0 b=none:=fun b hb=>by
    by_cases e:q0j (B k)=some b
    · exact h.free k b hkl e
    · exact Mem.le.none h.le (hG.fresh b hb e)
  have hle:G0.le M':=fun b o hb=>hG.old b o (h.le b o hb) fun e=>by
    have:=h.free k b hkl e
    rw [this] at hb;cases hb
  have hne:∀ l,l<gs.length→l≠k→∀ b,q0j (B l)=some b→q0j (B k)≠some b:=fun l hl hlk b hb=>h.apart l k b hl hkl hlk hb
  have hx:∀ l,l<gs.length→l≠k→∀ b,q0j (B l)=some b→q0j x≠some b:=fun l hl hlk b hb e=>by
    by_cases e2:q0j (B k)=some b
    · exact hne l hl hlk b hb e2
    · have hn:=hG.fresh b e e2
      obtain ⟨p,hp⟩:∃ p,gs[l]? = some p:=⟨_,List.getElem?_eq_getElem hl⟩
      obtain ⟨_,o,ho⟩:=(h.rows l p hp).blk hb
      rw [hn] at ho;cases ho
  refine ⟨hle,fun l p hl=>?_,fun i j b hi hj hij hb=>?_,fun i b hi hb=>?_⟩
  · by_cases e:k=l
    · subst e
      rw [List.getElem?_set_self hkl] at hl;cases hl
      rw [q1t]
      simpa using hR
    · rw [List.getElem?_set_ne e] at hl
      have hll:=(List.getElem?_eq_some_iff.1 hl).1
      rw [q16 (fun e2=>e e2.symm)]
      exact hG.row (h.rows l p hl) (hne l hll (fun e2=>e e2.symm))
  · simp only [List.length_set] at hi hj
    by_cases e1:i=k
    · subst e1
      rw [q1t] at hb
      rw [q16 (fun e2=>hij e2.symm)]
      exact fun e3=>hx j hj (fun e2=>hij e2.symm) b e3 hb
    · rw [q16 e1] at hb
      by_cases e2:j=k
      · subst e2;rw [q1t];exact hx i hi e1 b hb
      · rw [q16 e2];exact h.apart i j b hi hj hij hb
  · simp only [List.length_set] at hi
    by_cases e1:i=k
    · subst e1;rw [q1t] at hb;exact hG0 b hb
    · rw [q16 e1] at hb;exact h.free i b hi hb
theorem PRowsM.put {b:Nat} (h:PRowsM G0 E S M gs B) (hk:gs[k]? = some (v,L)) (hb:q0j (B k)=some b) (hM:∀ c,c≠b→M' c=M c) {L':List Run} (hR:RowS S M' E 3 (B k) L'.length (q0n L')):PRowsM G0 E S M' (gs.set k (v,L')) B:=by
  have hkl:=(List.getElem?_eq_some_iff.1 hk).1
  have f1:=h.free k b hkl hb
  refine ⟨fun c o hc=>?_,fun l p hl=>?_,fun i j c hi hj=>?_,fun i c hi=>?_⟩
  · rw [hM c (fun e=>by rw [e,f1] at hc;cases hc)];exact h.le c o hc
  · by_cases e:k=l
    · subst e
      rw [List.getElem?_set_self hkl] at hl;cases hl
      exact hR
    · rw [List.getElem?_set_ne e] at hl
      have hll:=(List.getElem?_eq_some_iff.1 hl).1
      exact (h.rows l p hl).of (fun _ h=>h) fun c hc=>hM c fun e2=>by
        subst e2
        exact h.apart l k c hll hkl (fun e3=>e e3.symm) hc hb
  · simp only [List.length_set] at hi hj;exact h.apart i j c hi hj
  · simp only [List.length_set] at hi;exact h.free i c hi
theorem PRowsM.key (h:PRowsM G0 E S M gs B):PRowsM G0 E S M (gs++[(v,[])]) (putV B gs.length (.slice none 0 0)):=by
  refine ⟨h.le,fun l p hl=>?_,fun i j c hi hj hij hb=>?_,fun i c hi hb=>?_⟩
  · rw [List.getElem?_append] at hl
    split at hl
    · rename_i hll
      rw [q16 (by omega)]
      exact h.rows l p hl
    · rename_i hll
      have e:l-gs.length=0:=by have:=(List.getElem?_eq_some_iff.1 hl).1;simp at this;omega
      rw [e] at hl;simp at hl;subst hl
      rw [show l=gs.length by omega,q1t]
      exact RowS.nil _ _ _ _
  · simp at hi hj
    by_cases e1:i=gs.length
    · subst e1;rw [q1t] at hb;cases hb
    · rw [q16 e1] at hb
      by_cases e2:j=gs.length
      · subst e2;rw [q1t];exact fun e=>by cases e
      · rw [q16 e2];exact h.apart i j c (by omega) (by omega) hij hb
  · simp at hi
    by_cases e1:i=gs.length
    · subst e1;rw [q1t] at hb;cases hb
    · rw [q16 e1] at hb;exact h.free i c (by omega) hb
end
end Go.Proofs.Ytbkhpddodmbdoaa
namespace Go.Proofs.Ytbkhpddodmbdoaa
open Go.RowKit
set_option maxRecDepth 20000
def q3f (L:List Run) (o:Int):List Value:=L.flatMap fun r=>[.int .i64 r.y,.int .i64 r.x0,.int .i64 o,.int .i64 r.y,.int .i64 r.x1,.int .i64 o]
theorem q6e (K L:List Run) (o:Int):q3f (K++L) o=q3f K o++q3f L o:=by simp [q3f]
theorem z5z (r:Run) (o:Int):q3f [r] o=[.int .i64 r.y,.int .i64 r.x0,.int .i64 o,.int .i64 r.y,.int .i64 r.x1,.int .i64 o]:=by simp [q3f]
theorem z04 (o:Int):∀ (L:List Run),(q3f L o).length=L.length*6
  | []=>rfl
  | r::L=>by
    have:=z04 o L
    show (q3f ([r]++L) o).length=_
    rw [q6e,List.length_append,this,z5z];simp;omega
theorem x0y {L:List Run} {i:Nat} {r:Run} (h:L[i]? = some r) (o:Int):q3f (L.take (i+1)) o=q3f (L.take i) o++[.int .i64 r.y,.int .i64 r.x0,.int .i64 o,.int .i64 r.y,.int .i64 r.x1,.int .i64 o]:=by
  rw [List.take_add_one,h,q6e];simp [q3f]
theorem x2l {L:List Run} {o:Int} {e:Nat} (h:e<2*L.length):(q3f L o)[e*3]? = some (.int .i64 (eY (nthR L) e))∧(q3f L o)[e*3+1]? = some (.int .i64 (eX (nthR L) e))∧(q3f L o)[e*3+2]? = some (.int .i64 o):=by
  obtain ⟨r,hr⟩:∃ r,L[e/2]? = some r:=⟨_,List.getElem?_eq_getElem (by omega)⟩
  have hsp:L=L.take (e/2)++([r]++L.drop (e/2+1)):=by
    obtain ⟨h1,rfl⟩:=List.getElem?_eq_some_iff.1 hr
    simp
  have hl:(q3f (L.take (e/2)) o).length=e/2*6:=by rw [z04,List.length_take];congr 1;omega
  have key:∀ j,j<6→(q3f L o)[e/2*6+j]? = [Value.int .i64 r.y,.int .i64 r.x0,.int .i64 o,.int .i64 r.y,.int .i64 r.x1,.int .i64 o][j]?:=fun j hj=>by
    conv=>lhs;rw [hsp,q6e,q6e,z5z]
    rw [List.getElem?_append_right (by omega),hl,show e/2*6+j-e/2*6=j by omega,List.getElem?_append_left (by simp;omega)]
  unfold eY eX
  rw [q38 hr]
  rcases Nat.mod_two_eq_zero_or_one e with h0 |h0
  · rw [if_pos h0]
    have e1:e*3=e/2*6+0:=by omega
    rw [e1]
    exact ⟨key 0 (by omega),key 1 (by omega),key 2 (by omega)⟩
  · rw [if_neg (by omega)]
    have e1:e*3=e/2*6+3:=by omega
    rw [e1]
    exact ⟨key 3 (by omega),key 4 (by omega),key 5 (by omega)⟩
set_option maxHeartbeats 1000000 in
theorem z15 (A:Option Addr) (L:List Run) (c:Nat) (o:Int) (G:Mem) (hA:RunsM G A L) (hl:L.length≤1000000000):q2g Try.prog 84 [.val (.slice A L.length c),.val (.int .i64 o)] G id 134 3 (2*L.length) (q3f L o):=by
  refine q10 tab_ok Try.func84 (.alone fun _=>rfl) ?_
  (repeat ((try (conv=>whnf));(refine stQ ?_)))
  conv=>whnf
  refine q0y tab_ok (fun i=>i≤L.length) (fun (i:Nat)=>[(14,.val (.int .i64 i)),(5,.own 0),(11,.any)]) (fun i=>[.own 134 3 (2*i) (q3f (L.take i) o)]) (fun i=>L.length-i) 0 (Nat.zero_le _) ?_ ?_
  · ((refine q0h ?_);(conv=>whnf);(refine q0k (by rfl) (by rfl) flQ ?_))
    exact q0c rfl rfl q0g
  · rintro i hi
    rcases Nat.lt_or_ge i L.length with h1 |h1
    · obtain ⟨r,hr⟩:∃ r,L[i]? = some r:=⟨L[i],List.getElem?_eq_getElem h1⟩
      obtain ⟨p,rfl,ca⟩:=hA.cells hr
      (repeat ((try (conv=>whnf));(refine stQ ?_)))
      conv=>whnf
      refine ca _ ?_
      (repeat ((try (conv=>whnf));(refine stQ ?_)))
      refine ⟨i+1,by omega,by omega,?_⟩
      refine q0u 3 0 rfl rfl rfl rfl ?_
      conv=>whnf
      ((refine q0h ?_);(conv=>whnf);(refine q0k (by rfl) (by rfl) flQ ?_))
      exact q0c (by omega) (x0y hr o).symm q0g
    · obtain rfl:i=L.length:=by omega
      (repeat ((try (conv=>whnf));(refine stQ ?_)))
      exact .inl ⟨0,rfl,by rw [List.take_length];rfl⟩
end Go.Proofs.Ytbkhpddodmbdoaa
namespace Go.Proofs.Ytbkhpddodmbdoaa
open Go.RowKit
set_option maxRecDepth 20000
def orI (a c:Int):Int:=if a=0 then c else a
theorem x4a (b:Nat) (a c:Int) (G:Mem) (h0:G.cell? ⟨b,0,none⟩=some (.int .i64 a)) (h1:G.cell? ⟨b,1,none⟩=some (.int .i64 c)) :
    Gives Try.prog 42 [.val (.slice (some ⟨b,0,none⟩) 2 2)] G (.val (.int .i64 (orI a c))):=by
  refine q1u tab_ok Try.func42 ?_
  by_cases ha:a=0
  · (repeat ((try (conv=>whnf));(refine stQ ?_)))
    refine q4p tab_ok ?_
    (repeat ((try (conv=>whnf));(refine stQ ?_)))
    refine q0d (.int .i64 a) (by rw [q0r];exact h0) ?_
    (repeat ((try (conv=>whnf));(refine stQ ?_)))
    refine q4p tab_ok ?_
    (repeat ((try (conv=>whnf));(refine stQ ?_)))
    refine q0d (.int .i64 c) (by rw [q0r];exact h1) ?_
    by_cases hc:c=0
    · (repeat ((try (conv=>whnf));(refine stQ ?_)))
      refine q4p tab_ok ?_
      (repeat ((try (conv=>whnf));(refine stQ ?_)))
      exact ⟨by simp [orI,ha,hc],rfl⟩
    · (repeat ((try (conv=>whnf));(refine stQ ?_)))
      exact ⟨by simp [orI,ha],rfl⟩
  · (repeat ((try (conv=>whnf));(refine stQ ?_)))
    refine q4p tab_ok ?_
    (repeat ((try (conv=>whnf));(refine stQ ?_)))
    refine q0d (.int .i64 a) (by rw [q0r];exact h0) ?_
    (repeat ((try (conv=>whnf));(refine stQ ?_)))
    exact ⟨by simp [orI,ha],rfl⟩
theorem q07 {k:Nat} {hp:List Blk} {G:Mem} {K:AV→Prop} {M:AV→Blk→Prop} {t:TypeId} {a c:Int} (hk:nthB hp k=.cells t [.val (.int .i64 a),.val (.int .i64 c)]) (h:K (.val (.int .i64 (orI a c)))):RCallP Try.prog 42 [.sli k 0 2 2] hp G K M :=
  x0t (vs:=[.int .i64 a,.int .i64 c]) (fun vs w=>by kernel_rfl) hk rfl (fun b G2 _ hc=>x4a b a c G2 (hc 0 _ rfl) (hc 1 _ rfl)) h
end Go.Proofs.Ytbkhpddodmbdoaa
