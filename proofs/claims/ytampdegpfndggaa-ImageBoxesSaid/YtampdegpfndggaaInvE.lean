/-
  Contracts of Invert for the engine.
-/
import Derived.Test.YtampdegpfndggaaMrg27
import Derived.Test.YtampdegpfndggaaMrg9
import Derived.Test.YtampdegpfndggaaEw
namespace Go.Proofs.Ytampdegpfndggaa
open Go.RowKit
set_option linter.unusedVariables false
set_option maxRecDepth 20000
def matA (V : Nat → Int) : AV := .agg [.val (.int .i64 (V 0)), .val (.int .i64 (V 1)), .val (.int .i64 (V 2)), .val (.int .i64 (V 3)), .val (.int .i64 (V 4)), .val (.int .i64 (V 5))]
theorem mat_is {a b c d e f : Int} {β : Nm} (vs : List Value) (h : AV.rels β [.agg [.val (.int .i64 a), .val (.int .i64 b), .val (.int .i64 c), .val (.int .i64 d), .val (.int .i64 e), .val (.int .i64 f)]] vs) :
    vs = [.agg #[.int .i64 a, .int .i64 b, .int .i64 c, .int .i64 d, .int .i64 e, .int .i64 f]] := by
  simp only [AV.rels] at h
  obtain ⟨y, zs, rfl, h2, rfl⟩ := h
  rw [AV.rel] at h2
  obtain ⟨cs, rfl, h3⟩ := h2
  have := rels_plain (m := [.int .i64 a, .int .i64 b, .int .i64 c, .int .i64 d, .int .i64 e, .int .i64 f]) h3
  rw [show cs = ([.int .i64 a, .int .i64 b, .int .i64 c, .int .i64 d, .int .i64 e, .int .i64 f] : List Value).toArray by rw [← this]]
theorem seven_rel {β : Nm} (V : Nat → Int) : (AV.tup [matA V, .val (.int .i64 (V 6))]).rel β (sevenI V) := by
  have h : (matA V).rel β (.agg #[.int .i64 (V 0), .int .i64 (V 1), .int .i64 (V 2), .int .i64 (V 3), .int .i64 (V 4), .int .i64 (V 5)]) := by
    unfold matA; rw [AV.rel]
    exact ⟨_, rfl, rels_map_val (β := β) [.int .i64 (V 0), .int .i64 (V 1), .int .i64 (V 2), .int .i64 (V 3), .int .i64 (V 4), .int .i64 (V 5)]⟩
  unfold sevenI
  simp only [AV.rel, AV.rels]
  exact ⟨_, rfl, _, _, rfl, h, _, [], rfl, rfl, rfl⟩
theorem Invert_gives {a b c d e f : Int} {G : Mem} : Gives Try.prog 105 [.agg [.val (.int .i64 a), .val (.int .i64 b), .val (.int .i64 c), .val (.int .i64 d), .val (.int .i64 e), .val (.int .i64 f)]] G (.tup [matA (invL a b c d e f), .val (.int .i64 (invL a b c d e f 6))]) :=
  Gives.of_callsA (fun vs h => mat_is vs h) (seven_rel _) fun w' _ => Invert_any a b c d e f w'
theorem RInvert_gives {a b c d e f : Int} {G : Mem} : Gives Try.prog 72 [.agg [.val (.int .i64 a), .val (.int .i64 b), .val (.int .i64 c), .val (.int .i64 d), .val (.int .i64 e), .val (.int .i64 f)]] G (.tup [matA (invL a b c d e f), .val (.int .i64 (invL a b c d e f 6))]) :=
  Gives.of_callsA (fun vs h => mat_is vs h) (seven_rel _) fun w' _ => RInvert_any a b c d e f w'
theorem Inv16 {G : Mem} : Gives Try.prog 105 [.agg [.val (.int .i64 (4096 * 16)), .val (.int .i64 0), .val (.int .i64 0), .val (.int .i64 (4096 * 16)), .val (.int .i64 (4096 * 0)), .val (.int .i64 (4096 * 0))]] G (.tup [.agg [.val (.int .i64 256), .val (.int .i64 0), .val (.int .i64 0), .val (.int .i64 256), .val (.int .i64 0), .val (.int .i64 0)], .val (.int .i64 0)]) := by
  have h := Invert_gives (a := 4096 * 16) (b := 0) (c := 0) (d := 4096 * 16) (e := 4096 * 0) (f := 4096 * 0) (G := G)
  have e : ∀ i, i < 7 → invL (4096 * 16) 0 0 (4096 * 16) (4096 * 0) (4096 * 0) i = [256, 0, 0, 256, 0, 0, 0].getD i 0 := by decide +kernel
  unfold matA at h
  rw [e 0 (by omega), e 1 (by omega), e 2 (by omega), e 3 (by omega), e 4 (by omega), e 5 (by omega), e 6 (by omega)] at h
  exact h
end Go.Proofs.Ytampdegpfndggaa
