/-
  The engine: functions that get a row of the caller's own and hand one back. No program in sight.
-/
import Derived.Test.YtpdneadfllcpfaaGreatDoorEng2
set_option linter.unusedVariables false
set_option linter.unusedSimpArgs false
set_option linter.unnecessarySimpa false
namespace Go.Proofs.YtpdneadfllcpfaaGreatDoor
open Go.RowKit
theorem q8t {P:Program} {T:Tab} (hT:TOk P T) {n0:Nat} {b:Code} {fr:List AV} {hp:List Blk} {G:Mem} {Q:Post} {ι κ:Type} (inv:ι→κ→Prop) (S:ι→κ→List (Nat × AV)) (H:ι→κ→List Blk) (μ:ι→κ→Nat) (i0:ι) (k0:κ) (h0:inv i0 k0)
    (start:Le n0 fr hp G (q2d b fr (S i0 k0)) (H i0 k0) G)
    (round:∀ i k,inv i k→q45 (q1q b []) fun ws=>q3w ws 0 fr fun fr1=>q2w fr1 (S i k) fun fr2=>q4w P T n0 b fr2 (H i k) G fun e fr' hp' G'=>match e with
      | .normal=>∃ i' k',inv i' k'∧μ i' k'<μ i k∧Le n0 fr' hp' G' (q2d b fr (S i' k')) (H i' k') G
      | e=>Q e fr' hp' G'):LoopP P n0 b fr hp G Q:=by
  refine q6u hT (fun i:ι × κ=>inv i.1 i.2) (fun i=>q2d b fr (S i.1 i.2)) (fun i=>H i.1 i.2) (fun _=>G) (fun i=>μ i.1 i.2) ⟨(i0,k0),h0,start⟩ fun i hi=>?_
  have h:=round i.1 i.2 hi
  rw [q3x,q26,q2o] at h
  refine cast (congrArg _ ?_) h
  funext e fr' hp' G'
  cases e with
  | normal=>exact propext ⟨fun ⟨i',k',h1,h2,h3⟩=>⟨(i',k'),h1,h2,h3⟩,fun ⟨p,h1,h2,h3⟩=>⟨p.1,p.2,h1,h2,h3⟩⟩
  | _=>rfl
end Go.Proofs.YtpdneadfllcpfaaGreatDoor
