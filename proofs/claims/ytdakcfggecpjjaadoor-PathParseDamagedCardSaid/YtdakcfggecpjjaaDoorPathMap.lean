/-
  path.Map and the reference's PathMap; SameSegs.
-/
import Derived.Test.YtdakcfggecpjjaaDoorAffE
import Derived.Test.YtdakcfggecpjjaaDoorPathChk
namespace Go.Proofs.YtdakcfggecpjjaaDoor
open Go.RowKit
set_option linter.unusedVariables false
set_option linter.unusedSimpArgs false
set_option maxRecDepth 20000
noncomputable def mapS (m : MatD) (s : SegD) : SegD := if s.k = 4 then s else if s.k = 3 then ⟨s.k, apX m s.x s.y, apY m s.x s.y, apX m s.u s.v, apY m s.u s.v, s.w⟩ else ⟨s.k, apX m s.x s.y, apY m s.x s.y, s.u, s.v, s.w⟩
noncomputable def mapF (m : MatD) (s : SegD) : Int := if s.k = 4 then 0 else if apE m s.x s.y ≠ 0 then apE m s.x s.y else if s.k = 3 then apE m s.u s.v else 0
noncomputable def mapT (m : MatD) (S : Nat → SegD) (n : Nat) : Int := if pathE S n ≠ 0 then pathE S n else if matR m ≠ 0 then matR m else firstV (fun i => mapF m (S i)) n
theorem apV_ok {m : MatD} {x y : Int} (h : apE m x y = 0) : apV m x y = .tup [pntA (apX m x y) (apY m x y), .val (.int .i64 0)] := by unfold apV; rw [if_pos h, if_pos h, h]
theorem apV_bad {m : MatD} {x y : Int} (h : ¬ apE m x y = 0) : apV m x y = .tup [pntA 0 0, .val (.int .i64 (apE m x y))] := by unfold apV; rw [if_neg h, if_neg h]
def pairE (e : Int) (a : AV) : AV := .tup [a, .val (.int .i64 e)]
theorem pairE_wraps (e : Int) : Wraps (pairE e) := .pair (.val (.int .i64 e)) (fun _ => rfl) rfl
noncomputable abbrev mapC (m : MatD) (S : Nat → SegD) (i : Nat) : List Value := (mapS m (S i)).cells
theorem pathE_small {S : Nat → SegD} {n : Nat} (h : pathE S n = 0) : n ≤ 1000 := by
  unfold pathE at h
  split at h
  · omega
  · omega
theorem mapC_close {m : MatD} {S : Nat → SegD} {i : Nat} (h : (S i).k = 4) : mapC m S i = [.int .i64 (S i).k, .int .i64 (S i).x, .int .i64 (S i).y, .int .i64 (S i).u, .int .i64 (S i).v, .int .i64 (S i).w] := by
  unfold mapC mapS; rw [if_pos h]
theorem mapC_curve {m : MatD} {S : Nat → SegD} {i : Nat} (h : (S i).k = 3) : mapC m S i = [.int .i64 (S i).k, .int .i64 (apX m (S i).x (S i).y), .int .i64 (apY m (S i).x (S i).y), .int .i64 (apX m (S i).u (S i).v), .int .i64 (apY m (S i).u (S i).v), .int .i64 (S i).w] := by
  unfold mapC mapS; rw [if_neg (by omega), if_pos h]
theorem mapC_other {m : MatD} {S : Nat → SegD} {i : Nat} (h : ¬ (S i).k = 4) (h' : ¬ (S i).k = 3) : mapC m S i = [.int .i64 (S i).k, .int .i64 (apX m (S i).x (S i).y), .int .i64 (apY m (S i).x (S i).y), .int .i64 (S i).u, .int .i64 (S i).v, .int .i64 (S i).w] := by
  unfold mapC mapS; rw [if_neg h, if_neg h']
section
variable {G : Mem} {A : Option Addr} {n c : Nat} {S : Nat → SegD} {m : MatD}
end
end Go.Proofs.YtdakcfggecpjjaaDoor
