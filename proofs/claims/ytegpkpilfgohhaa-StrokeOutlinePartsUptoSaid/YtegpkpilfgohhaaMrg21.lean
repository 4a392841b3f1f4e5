/-
  Merged: XOutLen, XOriK.
-/
import Derived.Test.YtegpkpilfgohhaaMrg11
import Derived.Test.YtegpkpilfgohhaaPartM
set_option linter.unusedVariables false
set_option linter.unusedSimpArgs false
set_option linter.unnecessarySimpa false
namespace Go.Proofs.Ytegpkpilfgohhaa
open Go.RowKit
theorem z0m {s:Sty} {P:Nat→Int × Int} {n:Nat}:∀ k,∀ q∈q1h s P n k,q.length≤4
  | 0,q,h=>by simp [q1h] at h
  | k+1,q,h=>by
    rw [q1h,List.mem_append,List.mem_singleton] at h
    rcases h with h |h
    · exact z0m k q h
    · subst h;exact Nat.le_refl _
theorem z6a {s:Sty} {u v t:Int × Int}:∀ q∈(q3b s u v t).toList,q.length≤4:=by
  intro q h
  unfold q3b z1x at h
  split at h
  · simp at h
  · split at h
    · simp at h;subst h;exact Nat.le_refl _
    · simp at h;subst h;simp
theorem q9t {s:Sty} {P:Nat→Int × Int} {n:Nat}:∀ k,∀ q∈q0n s P n k,q.length≤4
  | 0,q,h=>by simp [q0n] at h
  | k+1,q,h=>by
    rw [q0n,List.mem_append] at h
    rcases h with h |h
    · exact q9t k q h
    · split at h
      · simp at h
      · exact z6a q h
theorem q73 {s:Sty} {P:Nat→Int × Int} {n:Nat} {cl:Bool}:∀ q∈q1c s P n cl,q.length≤4:=by
  intro q h
  unfold q1c at h
  split at h
  · simp at h
  · split at h
    · split at h
      · simp at h;subst h;exact Nat.le_refl _
      · simp at h
    · rw [List.mem_append,List.mem_append] at h
      rcases h with (h |h) |h
      · exact z0m _ q h
      · exact q9t _ q h
      · split at h
        · simp at h
          rcases h with h |h <;> subst h <;> exact Nat.le_refl _
        · simp at h
theorem z2u {s:Sty} {P:Nat→Int × Int} {n:Nat} {cl:Bool}:(q1c s P n cl).length≤2*n+2:=by
  unfold q1c
  split
  · simp
  · split
    · split <;> simp
    · have h1:=q2p s P n (if cl=true then n else n-1)
      have h2:=q2u s P n (if cl=true then n else n-2)
      rw [List.length_append,List.length_append,h1]
      have h3:(if cl=true then n else n-1)≤n:=by split <;> omega
      have h4:(if cl=true then n else n-2)≤n:=by split <;> omega
      have h5:∀ x y:List (Int × Int),(if cl=false∧s.cap=2 then [x,y] else []).length≤2:=fun x y=>by split <;> simp
      exact Nat.le_trans (Nat.add_le_add_left (h5 _ _) _) (by omega)
theorem z2v {s:Sty} {P:Nat→Int × Int} {n:Nat} {cl:Bool}:(q1l s P n cl).length≤n+2:=by
  unfold q1l
  split
  · simp
  · split
    · split <;> simp
    · have h2:=q2v s P n (if cl=true then n else n-2)
      rw [List.length_append]
      have h4:(if cl=true then n else n-2)≤n:=by split <;> omega
      have h5:∀ x y:Int × Int,(if cl=false∧s.cap=1 then [x,y] else []).length≤2:=fun x y=>by split <;> simp
      exact Nat.le_trans (Nat.add_le_add_left (h5 _ _) _) (by omega)
end Go.Proofs.Ytegpkpilfgohhaa
namespace Go.Proofs.Ytegpkpilfgohhaa
open Go.RowKit
set_option maxRecDepth 20000
section
variable {G0:Mem} {E:TypeId} {S S':Nat→Prop} {M M':Mem} {ps:List (List (Int × Int))} {B:Nat→Value} {v:Value} {q:List (Int × Int)}
theorem OutM.grow (h:OutM G0 E S M ps B) (hle:M.le M'):OutM G0 E S M' ps B :=
  ⟨Mem.le_trans h.le hle,fun k hk=>(h.rows k hk).of (fun _ h=>h) fun b hb=>(by
    obtain ⟨_,o,ho⟩:=(h.rows k hk).blk hb
    rw [ho,hle b o ho]),h.apart,h.free⟩
def oriK (ps:List (List (Int × Int))) (i:Nat):List (List (Int × Int)):=(ps.take i).map orP++ps.drop i
theorem z01 (ps:List (List (Int × Int))) (i:Nat):(oriK ps i).length=ps.length:=by
  unfold oriK;simp;omega
theorem z9d (ps:List (List (Int × Int))):oriK ps 0=ps:=by simp [oriK]
theorem x0e (ps:List (List (Int × Int))):oriK ps ps.length=ps.map orP:=by simp [oriK]
theorem q99 {ps:List (List (Int × Int))} {i:Nat} (h:i<ps.length):nthL (oriK ps i) i=nthL ps i:=by
  have h1:(oriK ps i)[i]? = ps[i]?:=by
    unfold oriK
    rw [List.getElem?_append_right (by simp;omega)]
    simp;congr 1;omega
  rw [q11 h,q11 (by rw [z01];exact h)] at h1
  exact Option.some.inj h1
theorem z3v {ps:List (List (Int × Int))} {i:Nat} (h:i<ps.length):oriK ps (i+1)=(oriK ps i).set i (orP (nthL ps i)):=by
  unfold oriK
  have e1:ps.take (i+1)=ps.take i++[nthL ps i]:=by
    rw [List.take_add_one,q11 h];rfl
  have e2:ps.drop i=nthL ps i::ps.drop (i+1):=by
    rw [List.drop_eq_getElem_cons h]
    congr 1
    have:=q11 h
    rw [List.getElem?_eq_getElem h] at this
    exact Option.some.inj this
  have hl:((ps.take i).map orP).length=i:=by simp;omega
  rw [e1,e2,List.set_append_right _ _ (by omega),hl,Nat.sub_self,List.set_cons_zero,List.map_append,List.append_assoc]
  rfl
theorem x0f {α:Type} {l:List α} {i:Nat} {x:α} (h:l[i]? = some x):l.set i x=l:=by
  apply List.ext_getElem?
  intro k
  rw [List.getElem?_set]
  by_cases e:i=k
  · subst e;rw [if_pos rfl,h];simp [(List.getElem?_eq_some_iff.1 h).1]
  · rw [if_neg e]
theorem z9e {ps:List (List (Int × Int))} {i:Nat} (h:i<ps.length) (hp:¬ arP (nthL ps i)<0):oriK ps (i+1)=oriK ps i:=by
  rw [z3v h,show orP (nthL ps i)=nthL ps i by unfold orP;rw [if_neg hp]]
  exact x0f (by rw [q11 (by rw [z01];exact h),q99 h])
theorem LinesM.cut {G:Mem} {A:Option Addr} {n i:Nat} {L:Nat→LineD} (h:LinesM G A n L) (hi:i<n):LinesM G (A.map fun p=>p.add (i*2)) 1 fun _=>L i:=by
  refine ⟨((h.rows.drop (k:=i) (by omega)).less (k:=1) (by omega)).congr fun x hx=>?_,fun x hx=>h.pts i hi,fun x hx=>h.cap i hi⟩
  rw [show i+x=i by omega]
structure OutF (M:Mem) (A:Option Addr) (B:Nat→Value) (qs:List (List (Int × Int))):Prop where
  row:FlatM M A (rowV B qs)
  pts:∀ k,k<qs.length→∃ A c,B k=.slice A (nthL qs k).length c∧PtsM M A (nthL qs k)∧(nthL qs k).length≤c∧c≤maxLen
theorem OutF.mono {M M':Mem} {A:Option Addr} {B:Nat→Value} {qs:List (List (Int × Int))} (h:OutF M A B qs) (hle:M.le M'):OutF M' A B qs:=⟨h.row.mono hle,fun k hk=>by
  obtain ⟨A,c,e,h1,h2⟩:=h.pts k hk
  exact ⟨A,c,e,h1.mono hle,h2⟩⟩
theorem OutF.lines {M:Mem} {A:Option Addr} {B:Nat→Value} {qs:List (List (Int × Int))} (h:OutF M A B qs):LinesM M A qs.length fun k=>lnV (B k) (nthL qs k):=by
  refine ⟨(h.row.els (sz:=2) (fun _ _=>rfl) (by omega)).congr fun k hk=>?_,fun k hk=>?_,fun k hk=>?_⟩
  · obtain ⟨A',c,e,_⟩:=h.pts k hk
    show _=LineD.cells _
    rw [e];rfl
  · obtain ⟨A',c,e,hp,_⟩:=h.pts k hk
    show ElsM M (lnV (B k) _).A 2 (lnV (B k) _).n _
    rw [e];exact z2t hp
  · obtain ⟨A',c,e,_,h1,h2⟩:=h.pts k hk
    show (lnV (B k) _).n≤(lnV (B k) _).q∧_
    rw [e];exact ⟨h1,h2⟩
theorem z3w {p:Addr} {i c:Nat} (h:i<c):Value.slice (if c=(i:Int).toNat then some p else Option.map (fun x=>x.add ((i:Int).toNat * 2)) (some p)) (((i:Int)+1).toNat-(i:Int).toNat) (c-(i:Int).toNat)=.slice (Option.map (fun p=>p.add (i*2)) (some p)) 1 (c-i):=by
  have e:(i:Int).toNat=i:=rfl
  rw [if_neg (by omega),e,show ((i:Int)+1).toNat-i=1 by omega]
theorem z3x {ps:List (List (Int × Int))} (h:q49 ps=true) {i:Nat} (hi:i<ps.length) (v:Value):q13 (fun _=>lnV v (nthL ps i)) 1=true:=by
  have h1:=q7f h i hi
  refine q8n fun x hx j hj=>?_
  cases v <;> exact h1 j hj
end
end Go.Proofs.Ytegpkpilfgohhaa
