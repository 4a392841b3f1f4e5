/-
  Merged: XLinesM, XBulk.
-/
import Derived.ChangeArms
import Derived.OpenShut
import Derived.Test.YtegpkpilfgohhaaMrg10
import Derived.Test.YtegpkpilfgohhaaFlat
import Derived.Test.YtegpkpilfgohhaaRows
set_option linter.unusedVariables false
set_option linter.unusedSimpArgs false
set_option linter.unnecessarySimpa false
namespace Go.Proofs.Ytegpkpilfgohhaa
open Go.RowKit Go.Deep
set_option maxRecDepth 20000
def slN:Value→Nat
  | .slice _ n _=>n
  | _=>0
theorem uPts:Try.prog.underlying 33=some (.slice 58):=Try.underlying33
theorem x1u:Try.prog.cellsOf 58=2:=by kernel_rfl
theorem x0v:Try.prog.cellsOf 35=2:=by kernel_rfl
theorem z19:flat Try.prog 20 58=[.int .i64,.int .i64]:=by kernel_rfl
theorem z5u:q29 Try.prog 20 58=true:=by kernel_rfl
section
variable {w:World} {A:Option Addr} {n:Nat} {g:Nat→Nat→Value}
theorem x0w (h:SliceG Try.prog w 58 A n g):ElsM (q9u w) A 2 n (ptC (fun i=>valI (g i 0)) (fun i=>valI (g i 1))):=by
  refine ⟨fun x hx=>rfl,fun x hx=>?_⟩
  obtain ⟨b,off,rfl,_,hc⟩:=h (by omega)
  rw [x1u] at hc
  have h0:=(h.int (j:=0) (k:=.i64) z5u hx (by rw [z19];rfl)).1
  have h1:=(h.int (j:=1) (k:=.i64) z5u hx (by rw [z19];rfl)).1
  refine ⟨b,off,rfl,fun j v hj=>?_⟩
  match j,hj with
  | 0,hj =>
    simp at hj;subst hj
    rw [← h0];exact (hc x hx).1 0 (by omega)
  | 1,hj =>
    simp at hj;subst hj
    rw [← h1];exact (hc x hx).1 1 (by omega)
end
end Go.Proofs.Ytegpkpilfgohhaa
namespace Go.Proofs.Ytegpkpilfgohhaa
open Go.RowKit Go.ChangeShapes Go.WideShapes Go.Deep
theorem x0i {H:Type} (d:DataW H):1≤Rows.uptoBulk d:=by
  cases d with
  | lit l=>cases l <;> simp [Rows.uptoBulk]
  | nil=>simp [Rows.uptoBulk]
  | ptr d=>simp [Rows.uptoBulk]
  | slice elems spare=>simp [Rows.uptoBulk]
  | agg parts=>simp [Rows.uptoBulk]
  | iface t d=>simp [Rows.uptoBulk]
  | map entries=>simp [Rows.uptoBulk]
  | held h=>simp [Rows.uptoBulk]
theorem z3y {H:Type} {d:DataW H}:∀ {l:List (DataW H)},d∈l→Rows.uptoBulk d≤Rows.uptoBulkAll l
  | [],h=>by cases h
  | x::r,h=>by
    simp only [Rows.uptoBulkAll]
    rcases List.mem_cons.1 h with e |e
    · subst e;omega
    · have:=z3y e;omega
theorem x16 {H:Type} {l:List (DataW H)} (hk:Rows.uptoSmall H l=true):Rows.uptoBulkAll l≤1048576:=of_decide_eq_true hk
def sumN (f:Nat→Nat):Nat→Nat
  | 0=>0
  | n+1=>sumN f n+f n
theorem x0j {H:Type}:∀ (l:List (DataW H)) (f:Nat→Nat),(∀ (i:Nat) d,l[i]? = some d→f i≤Rows.uptoBulk d)→sumN f l.length≤Rows.uptoBulkAll l:=by
  have key:∀ (r:List (DataW H)) (f:Nat→Nat),(∀ (i:Nat) d,r.reverse[i]? = some d→f i≤Rows.uptoBulk d)→sumN f r.length≤Rows.uptoBulkAll r.reverse:=by
    have app:∀ (l r:List (DataW H)),Rows.uptoBulkAll (l++r)=Rows.uptoBulkAll l+Rows.uptoBulkAll r:=by
      intro l r
      induction l with
      | nil=>simp [Rows.uptoBulkAll]
      | cons x l ih=>simp only [List.cons_append,Rows.uptoBulkAll,ih];omega
    intro r
    induction r with
    | nil=>intro f _;simp [sumN]
    | cons x r ih =>
      intro f h
      rw [List.reverse_cons] at h ⊢
      rw [app,List.length_cons,sumN]
      have h1:=ih f (fun i d hi=>h i d (by rw [List.getElem?_append_left (List.getElem?_eq_some_iff.1 hi).1];exact hi))
      have h2:=h r.length x (by rw [List.getElem?_append_right (by simp)];simp)
      simp only [Rows.uptoBulkAll]
      omega
  intro l f h
  have:=key l.reverse f (by rw [List.reverse_reverse];exact h)
  rw [List.reverse_reverse,List.length_reverse] at this
  exact this
section
variable {H:Type} {enc:TypeId × Value→H} {P:Program} {w:World} {base:Nat} {spare:Nat→Bool} {held:Bool}
theorem x0k {t e:TypeId} {fuel:Nat} {c:Value} {x:DataW H × List MemPlace} (ht:P.underlying t=some (.slice e)) (h:DataW.trod enc P w base spare held fuel t [c]=some x):slN c≤Rows.uptoBulk x.1:=by
  rcases DataW.trod_slice ht h with ⟨h1,_⟩ |⟨a,len,cap,elems,rest,k,hk,h1,hx,hb,hlc,hcm,hel,hg,_,_⟩
  · simp at h1;subst h1;simp [slN]
  · simp at h1;subst h1
    subst hx
    have h3:=x0j (elems.map (·.1)) (fun _=>1) (fun i d _=>x0i d)
    have h4:∀ n,sumN (fun _=>1) n=n:=fun n=>by induction n with |zero=>rfl |succ n ih=>rw [sumN,ih]
    rw [h4,List.length_map,hel] at h3
    simp only [slN,Rows.uptoBulk]
    omega
end
section
variable {H:Type} {enc:TypeId × Value→H} {w:World} {base:Nat} {spare:Nat→Bool} {held:Bool}
theorem pts1:Try.prog.cellsOf 33=1:=by kernel_rfl
theorem z9j {fuel:Nat} {cs:List Value} {x:DataW H × List MemPlace} {c:Nat→Value} (hc:∀ j,j<Try.prog.cellsOf 35→cs[j]? = some (c j)) (h:DataW.trod enc Try.prog w base spare held fuel 35 cs=some x):slN (c 0)≤Rows.uptoBulk x.1:=by
  obtain ⟨xs,m,hm,hx,hl,hxl,hg⟩:=DataW.trod_struct Try.underlying35 h
  have h0:=hg 0 _ rfl
  have c0:=hc 0 (by rw [x0v];omega)
  have hcs:(cs.drop 0).take (Try.prog.cellsOf 33)=[c 0]:=by
    rw [pts1]
    cases cs with
    | nil=>simp at c0
    | cons a l=>simp at c0;subst c0;rfl
  have hlt:0<xs.length:=by rw [hxl];decide
  rw [List.getElem?_eq_getElem hlt] at h0
  have h1:=x0k (c:=c 0) uPts (by rw [← hcs];exact h0)
  rw [hx]
  have h2:=z3y (l:=xs.map (·.1)) (d:=xs[0].1) (List.mem_map.2 ⟨xs[0],List.getElem_mem _,rfl⟩)
  simp only [Rows.uptoBulk]
  omega
theorem x14 {A:Option Addr} {n cap:Nat} {v:Value} {d:DataW H} {ps:List MemPlace} (h:DataW.Trod enc Try.prog w base spare held 35 (.agg #[.slice A n cap,v]) d ps):n≤Rows.uptoBulk d:=by
  obtain ⟨fuel,hf⟩:=h
  have:=z9j (cs:=[.slice A n cap,v]) (c:=fun j=>(([.slice A n cap,v]:List Value)[j]?).getD undef) (fun j hj=>by
    rw [x0v] at hj
    match j,hj with
    | 0,_=>rfl
    | 1,_=>rfl) (by simpa [Value.cells] using hf)
  exact this
end
end Go.Proofs.Ytegpkpilfgohhaa
