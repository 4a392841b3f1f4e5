/-
  One segment: the contracts as the engine takes them.
-/
import Derived.Test.YtdakcfggecpjjaaDoorTab
import Derived.Test.YtdakcfggecpjjaaDoorEz
import Derived.Test.YtdakcfggecpjjaaDoorEw
import Derived.Test.YtdakcfggecpjjaaDoorSegR
namespace Go.Proofs.YtdakcfggecpjjaaDoor
open Go.RowKit
set_option linter.unusedVariables false
set_option maxRecDepth 20000
section
variable {kd x y u v s : Int} {G : Mem}
abbrev sgA (kd x y u v s : Int) : AV := .agg [.val (.int .i64 kd), .val (.int .i64 x), .val (.int .i64 y), .val (.int .i64 u), .val (.int .i64 v), .val (.int .i64 s)]
theorem sg_is {β : Nm} (vs : List Value) (h : AV.rels β [sgA kd x y u v s] vs) : vs = [.agg #[.int .i64 kd, .int .i64 x, .int .i64 y, .int .i64 u, .int .i64 v, .int .i64 s]] := by
  simp only [AV.rels] at h
  obtain ⟨z, zs, rfl, h2, rfl⟩ := h
  rw [AV.rel] at h2
  obtain ⟨cs, rfl, h3⟩ := h2
  have := rels_plain (m := [.int .i64 kd, .int .i64 x, .int .i64 y, .int .i64 u, .int .i64 v, .int .i64 s]) h3
  rw [show cs = ([.int .i64 kd, .int .i64 x, .int .i64 y, .int .i64 u, .int .i64 v, .int .i64 s] : List Value).toArray by rw [← this]]
theorem sg2_is {β : Nm} {f : Bool} (vs : List Value) (h : AV.rels β [sgA kd x y u v s, .val (.bool f)] vs) : vs = [.agg #[.int .i64 kd, .int .i64 x, .int .i64 y, .int .i64 u, .int .i64 v, .int .i64 s], .bool f] := by
  simp only [AV.rels] at h
  obtain ⟨z, zs, rfl, h2, q, qs, rfl, h4, rfl⟩ := h
  rw [AV.rel] at h2
  simp only [AV.rel] at h4
  obtain ⟨cs, rfl, h3⟩ := h2
  subst h4
  have := rels_plain (m := [.int .i64 kd, .int .i64 x, .int .i64 y, .int .i64 u, .int .i64 v, .int .i64 s]) h3
  rw [show cs = ([.int .i64 kd, .int .i64 x, .int .i64 y, .int .i64 u, .int .i64 v, .int .i64 s] : List Value).toArray by rw [← this]]
theorem CheckSeg_gives : Gives Tryd.prog 27 [sgA kd x y u v s] G (.val (.int .i64 (segE kd x y u v s))) :=
  Gives.of_callsA (fun vs h => sg_is vs h) (by rw [AV.rel]) fun w' _ => CheckSeg_any kd x y u v s w'
theorem RSeg_gives : Gives Tryd.prog 19 [sgA kd x y u v s, .val (.bool false)] G (.val (.int .i64 (segF false kd x y u v s))) :=
  Gives.of_callsA (fun vs h => sg2_is vs h) (by rw [AV.rel]) fun w' _ => Seg_any kd x y u v s false w'
theorem RSegF_gives {f : Bool} : Gives Tryd.prog 19 [sgA kd x y u v s, .val (.bool f)] G (.val (.int .i64 (segF f kd x y u v s))) :=
  Gives.of_callsA (fun vs h => sg2_is vs h) (by rw [AV.rel]) fun w' _ => Seg_any kd x y u v s f w'
end
end Go.Proofs.YtdakcfggecpjjaaDoor
