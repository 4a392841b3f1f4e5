/-
  Merged: XClones, XPulledR, XMorphF, XArg3.
-/
import Derived.Test.YtbkhpddodmbdoaaMrg13
import Derived.Test.YtbkhpddodmbdoaaMrg6
import Derived.Test.YtbkhpddodmbdoaaMrg8
import Derived.Test.YtbkhpddodmbdoaaMrg18
import Derived.Test.YtbkhpddodmbdoaaMrg25
import Derived.Test.YtbkhpddodmbdoaaMrg24
set_option linter.unusedVariables false
set_option linter.unusedSimpArgs false
set_option linter.unnecessarySimpa false
namespace Go.Proofs.Ytbkhpddodmbdoaa
open Go.RowKit
set_option maxRecDepth 20000
theorem ElsM.cellsAt {G:Mem} {A:Option Addr} {sz n:Nat} {c:Nat→List Value} (h:ElsM G A sz n c) (hs:0<sz) (hn:0<n):∃ p,A=some p∧G.cellsAt p (q0p c n):=by
  obtain ⟨b,off,hA,_⟩:=h.at_ 0 hn
  refine ⟨_,hA,fun j u hj=>?_⟩
  have hjl:=(List.getElem?_eq_some_iff.1 hj).1
  rw [q2b h.len] at hjl
  have hx:j/sz<n:=Nat.div_lt_of_lt_mul (by rw [Nat.mul_comm];exact hjl)
  obtain ⟨b',off',hA',h2⟩:=h.at_ (j/sz) hx
  rw [hA] at hA';cases hA'
  have e:j=j/sz*sz+j%sz:=by rw [Nat.mul_comm];exact (Nat.div_add_mod j sz).symm
  rw [e,q5f h.len hx (Nat.mod_lt _ hs)] at hj
  have:=h2 _ _ hj
  rw [q0t]
  rw [Nat.add_assoc,← e] at this
  exact this
end Go.Proofs.Ytbkhpddodmbdoaa
namespace Go.Proofs.Ytbkhpddodmbdoaa
open Go.RowKit
set_option maxRecDepth 20000
end Go.Proofs.Ytbkhpddodmbdoaa
namespace Go.Proofs.Ytbkhpddodmbdoaa
open Go.RowKit
set_option maxRecDepth 20000
section
variable {A:Option Addr} {L:List Run} {c:Nat} {w:Int} {G:Mem}
theorem z8j (hA:RunsM G A L) (hc:L.length≤c) (hm:c≤maxLen) (he:spE L w=0) (hl:L.length≤1000000):q2j Try.prog 28 [.val (.slice A L.length c),.val (.int .i64 w)] G (q34 0) 54 3 (DL w L).length (q0o (DL w L)):=by
  obtain ⟨e1,hw⟩:=x5r he
  have ck:=z8z (w:=w) hA hc hm
  rw [he] at ck
  have mk:=z8g (c:=c) hA (q22 e1) hw hl
  refine q1y tab_ok Try.func28 (q00 0) ?_
  (repeat ((try (conv=>whnf));(first |(refine stQ ?_) |(with_reducible first |refine q0c tab_ok Try.func48 (fun vs w=>by kernel_rfl) (by rfl) ?_ |refine q0b (fun vs w=>by kernel_rfl) (by kernel_rfl) (ck) ?_ |refine q0a (fun vs w=>by kernel_rfl) (by kernel_rfl) (ck) ?_))))
  conv=>whnf
  refine q15 (fun vs w=>by kernel_rfl) (.alone fun _=>rfl) (by kernel_rfl) mk ?_
  (repeat ((try (conv=>whnf));(refine stQ ?_)))
  conv=>whnf
  exact .inl ⟨0,rfl,rfl⟩
end
end Go.Proofs.Ytbkhpddodmbdoaa
namespace Go.Proofs.Ytbkhpddodmbdoaa
open Go.RowKit
theorem x08 {P:Program} {f:FuncId} (hen:∀ vs w,(callFunc f vs).run P w=.ok (.enter f vs) w) {k:Nat} {a b:AV} {hp:List Blk} {G:Mem} {K:AV→List Blk→Mem→Prop} {E:TypeId} {sz n:Nat} {xs:List Value} (hk:nthB hp k=.own E sz n xs)
    (h:∀ A cap G',G.le G'→n≤cap→cap≤maxLen→FlatM G' A xs→setF hp k .gone fun hp'=>CallP P f [a,b,.val (.slice A n cap)] hp' G' K):CallP P f [a,b,.own k] hp G K:=by
  refine ⟨hen,fun w0 G0 β w vs hr ha=>?_⟩
  simp only [AV.rels] at ha
  obtain ⟨v1,ts1,hvs,hv1,v2,ts2,hts1,hv2,v3,ts3,hts2,hv3,rfl⟩:=ha
  simp only [AV.rel] at hv3
  obtain ⟨A,cap,G',rfl,hle,hnc,hcm,hF,hr2⟩:=hr.freeze hv3.1 hk
  have h0:=h A cap G' hle hnc hcm hF
  rw [q1h] at h0
  refine h0.calls w0 G0 β w vs hr2 ?_
  simp only [AV.rels]
  exact ⟨v1,ts1,hvs,hv1,v2,ts2,hts1,hv2,_,[],hts2,by simp only [AV.rel],rfl⟩
end Go.Proofs.Ytbkhpddodmbdoaa
