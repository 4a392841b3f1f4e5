/-
  path.Parse and the reference's PathParse as contracts.
-/
import Derived.Test.YtdakcfggecpjjaaDoorParse2
namespace Go.Proofs.YtdakcfggecpjjaaDoor
open Go.RowKit
set_option linter.unusedVariables false
set_option linter.unusedSimpArgs false
set_option maxRecDepth 20000
theorem reads_some (l : List UInt8) : ∃ T, ReadsAs l T := by
  by_cases h : l = []
  · exact ⟨some [], by unfold ReadsAs; rw [if_pos h]⟩
  · obtain ⟨T, hT⟩ := parses_some _ (sepW l) (Nat.le_refl _)
    exact ⟨T, by unfold ReadsAs; rw [if_neg h]; exact hT⟩
section
variable {G : Mem} {s : ByteArray}
theorem Parse_none (hM : MaxM G) (hs : s.size ≤ 100000) (hT : ReadsAs s.data.toList none) : Gives Tryd.prog 6 [.val (.string s)] G (.tup [.val (.slice none 0 0), .val (.int .i64 5)]) :=
  Gives_ofK tab_ok Tryd.func6 (by rfl) (by kernel_rfl) (Parse_body hM hs hT) fun v hp G1 h => h
theorem Parse_err (hM : MaxM G) (hs : s.size ≤ 100000) {L : List SegD} (hT : ReadsAs s.data.toList (some L)) (hp : ¬ pathE (segsF L) L.length = 0) : Gives Tryd.prog 6 [.val (.string s)] G (.tup [.val (.slice none 0 0), .val (.int .i64 (pathE (segsF L) L.length))]) :=
  Gives_ofK tab_ok Tryd.func6 (by rfl) (by kernel_rfl) (Parse_body hM hs hT) fun v _ G1 h => by
    rcases h with ⟨_, h⟩ | ⟨h, _⟩
    · exact h
    · exact absurd h hp
theorem Parse_makes (hM : MaxM G) (hs : s.size ≤ 100000) {L : List SegD} (hT : ReadsAs s.data.toList (some L)) (hp : pathE (segsF L) L.length = 0) : Makes Tryd.prog 6 [.val (.string s)] G (pairE 0) 45 6 L.length (flatC (segC L) L.length) :=
  Makes_ofK tab_ok Tryd.func6 (pairE_wraps 0) (Parse_body hM hs hT) fun v _ h => by
    rcases h with ⟨h, _⟩ | ⟨_, h⟩
    · exact absurd hp h
    · exact h
theorem RParse_none (hs : s.size ≤ 100000) (hT : ReadsAs s.data.toList none) : Gives Tryd.prog 7 [.val (.string s)] G (.tup [.val (.slice none 0 0), .val (.int .i64 5)]) :=
  Gives_ofK tab_ok Tryd.func7 (by rfl) (by kernel_rfl) (RParse_body hs hT) fun v hp G1 h => h
theorem RParse_err (hs : s.size ≤ 100000) {L : List SegD} (hT : ReadsAs s.data.toList (some L)) (hp : ¬ pathE (segsF L) L.length = 0) : Gives Tryd.prog 7 [.val (.string s)] G (.tup [.val (.slice none 0 0), .val (.int .i64 (pathE (segsF L) L.length))]) :=
  Gives_ofK tab_ok Tryd.func7 (by rfl) (by kernel_rfl) (RParse_body hs hT) fun v _ G1 h => by
    rcases h with ⟨_, h⟩ | ⟨h, _⟩
    · exact h
    · exact absurd h hp
theorem RParse_makes (hs : s.size ≤ 100000) {L : List SegD} (hT : ReadsAs s.data.toList (some L)) (hp : pathE (segsF L) L.length = 0) : Makes Tryd.prog 7 [.val (.string s)] G (pairE 0) 45 6 L.length (flatC (segC L) L.length) :=
  Makes_ofK tab_ok Tryd.func7 (pairE_wraps 0) (RParse_body hs hT) fun v _ h => by
    rcases h with ⟨h, _⟩ | ⟨_, h⟩
    · exact absurd hp h
    · exact h
theorem segs_of {A : Option Addr} {L : List SegD} (h : flatC (segC L) L.length = [] ∨ ∃ b, A = some ⟨b, 0, none⟩ ∧ ∀ (j : Nat) u, (flatC (segC L) L.length)[j]? = some u → G.cell? ⟨b, j, none⟩ = some u) : SegsM G A L.length (segsF L) :=
  ElsM.frozen (c := segC L) (fun _ _ => rfl) h (by omega)
end
end Go.Proofs.YtdakcfggecpjjaaDoor
