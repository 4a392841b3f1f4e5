/-
  Merged: XGatW, XArg3.
-/
import Derived.Test.YtkicdhaklnmonaaGreatMrg20
import Derived.Test.YtkicdhaklnmonaaGreatMrg19
import Derived.Test.YtkicdhaklnmonaaGreatMrg17
import Derived.Test.YtkicdhaklnmonaaGreatMrg18
import Derived.Test.YtkicdhaklnmonaaGreatMrg30
import Derived.Test.YtkicdhaklnmonaaGreatMrg14
set_option linter.unusedVariables false
set_option linter.unusedSimpArgs false
set_option linter.unnecessarySimpa false
namespace Go.Proofs.YtkicdhaklnmonaaGreat
open Go.RowKit
set_option maxRecDepth 20000
def ofR (c:Nat→List Int) (W N:Nat) (wrap:AV→AV) (n:Nat) (xs:List Value) (G1:Mem):Prop :=
  wrap=z9s 0∧n=(gat c W N).length∧∃ B,xs=q0q (fun k=>pcC (gatP (gat c W N) B k)) n∧∀ k p,(gat c W N)[k]? = some p→(gatP (gat c W N) B k).L=p.2∧(gatP (gat c W N) B k).L.length≤(gatP (gat c W N) B k).q∧(gatP (gat c W N) B k).q≤maxLen∧RunsM G1 (gatP (gat c W N) B k).A (gatP (gat c W N) B k).L
theorem ofR.mono {c:Nat→List Int} {W N:Nat} {wrap:AV→AV} {n:Nat} {xs:List Value} {G G':Mem} (h:ofR c W N wrap n xs G) (hG:G.le G'):ofR c W N wrap n xs G':=by
  obtain ⟨h1,h2,B,h3,h4⟩:=h
  exact ⟨h1,h2,B,h3,fun k p hk=>⟨(h4 k p hk).1,(h4 k p hk).2.1,(h4 k p hk).2.2.1,(h4 k p hk).2.2.2.mono hG⟩⟩
end Go.Proofs.YtkicdhaklnmonaaGreat
namespace Go.Proofs.YtkicdhaklnmonaaGreat
open Go.RowKit
end Go.Proofs.YtkicdhaklnmonaaGreat
