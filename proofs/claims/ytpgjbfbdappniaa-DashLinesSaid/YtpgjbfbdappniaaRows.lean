/-
  No cell of these rows narrows 'for every input' (looked for: loops, veiled, ifaces, maps, wideKeys, modest, calm, conditions, laid).
  DERIVED. THE GIVEN ROWS OF THIS SEAT. 3 by the template 'for every input the law returns true; each argument reads behind the call as it read before'; 0 by the template 'total and deterministic' (their statements: YtpgjbfbdappniaaTotals.lean).
  GIVEN WITH THE SEED: the statements are not yours to turn. If you find one false, say at which input.
  Laid BY PROGRAM, IN A SANDBOX (cutbox-rows.mjs): the forced cells as the released guide's own fill.sh prints them over the translation 68cdccf12f64276d… (all of the seat's roots in one cut). By AI agents, Wed Nov 11 2026. No macro, syntax, notation, axiom, sorry.
-/
import Derived.Test.YtpgjbfbdappniaaChecked
import GoSem.Claim
import GoSem.ClaimJoined
import GoSem.ClaimMapViews
import Derived.JoinedTies
import Derived.KernelRfl
namespace Go.Proofs.Ytpgjbfbdappniaa
/- THE CELL 'sum', in the pinned program and in every row, IS THE sha256 OF THE DUMP (.gsa) THAT YtpgjbfbdappniaaProg.lean LOADS. Nothing in Lean hashes anything: it is a label: what it is worth is what the hold of that sum in a sandbox is worth. -/
noncomputable def Try.pinned : Pinned := { name := "ytpgjbfbdappniaa", sum := "68cdccf12f64276d30971018a6f8e4e3df9a4f99437ebbf98ab2ba604336225f", checked := Try.checked }
namespace Rows
def none {H : Type} : Left H := { results := [], args := [] }

/-- 'printworkslaw1.ConicFlattenLines': WHATEVER THE INPUT: true; the input reads as it did. -/
def conicFlattenLinesSpec : ChangeSpec := { name := "conicFlattenLines", fn := fun _ => fun
  | [d] => { results := [.lit (.bool true)], args := [d] }
  | _ => none }
def conicFlattenLinesRow : OpenClaim := { program := "ytpgjbfbdappniaa", sum := "68cdccf12f64276d30971018a6f8e4e3df9a4f99437ebbf98ab2ba604336225f", func := "printworks/printworkslaw1.ConicFlattenLines", spec := "conicFlattenLines", apart := false }
def ConicFlattenLinesSaid : Prop := conicFlattenLinesRow.holds Try.pinned (OpenSpec.ofChange conicFlattenLinesSpec)

/-- ITS FALSE NEIGHBOUR: 'it returns false'. Refute it at one input. -/
def conicFlattenLinesWrong : ChangeSpec := { name := "conicFlattenLines", fn := fun _ => fun
  | [d] => { results := [.lit (.bool false)], args := [d] }
  | _ => none }
def ConicFlattenLinesWrongFalsely : Prop := conicFlattenLinesRow.holds Try.pinned (OpenSpec.ofChange conicFlattenLinesWrong)

/-- 'printworkslaw1.DashLines': WHATEVER THE INPUT: true; the input reads as it did. -/
def dashLinesSpec : ChangeSpec := { name := "dashLines", fn := fun _ => fun
  | [d1, d2, d3] => { results := [.lit (.bool true)], args := [d1, d2, d3] }
  | _ => none }
def dashLinesRow : OpenClaim := { program := "ytpgjbfbdappniaa", sum := "68cdccf12f64276d30971018a6f8e4e3df9a4f99437ebbf98ab2ba604336225f", func := "printworks/printworkslaw1.DashLines", spec := "dashLines", unfollowed := true, recurses := true, apart := false }
def DashLinesSaid : Prop := dashLinesRow.holds Try.pinned (OpenSpec.ofChange dashLinesSpec)

/-- ITS FALSE NEIGHBOUR: 'it returns false'. Refute it at one input. -/
def dashLinesWrong : ChangeSpec := { name := "dashLines", fn := fun _ => fun
  | [d1, d2, d3] => { results := [.lit (.bool false)], args := [d1, d2, d3] }
  | _ => none }
def DashLinesWrongFalsely : Prop := dashLinesRow.holds Try.pinned (OpenSpec.ofChange dashLinesWrong)

/-- 'printworkslaw1.StrokeOutlineParts': WHATEVER THE INPUT: true; the input reads as it did. -/
def strokeOutlinePartsSpec : ChangeSpec := { name := "strokeOutlineParts", fn := fun _ => fun
  | [d1, d2] => { results := [.lit (.bool true)], args := [d1, d2] }
  | _ => none }
def strokeOutlinePartsRow : OpenClaim := { program := "ytpgjbfbdappniaa", sum := "68cdccf12f64276d30971018a6f8e4e3df9a4f99437ebbf98ab2ba604336225f", func := "printworks/printworkslaw1.StrokeOutlineParts", spec := "strokeOutlineParts", unfollowed := true, recurses := true, apart := false }
def StrokeOutlinePartsSaid : Prop := strokeOutlinePartsRow.holds Try.pinned (OpenSpec.ofChange strokeOutlinePartsSpec)

/-- ITS FALSE NEIGHBOUR: 'it returns false'. Refute it at one input. -/
def strokeOutlinePartsWrong : ChangeSpec := { name := "strokeOutlineParts", fn := fun _ => fun
  | [d1, d2] => { results := [.lit (.bool false)], args := [d1, d2] }
  | _ => none }
def StrokeOutlinePartsWrongFalsely : Prop := strokeOutlinePartsRow.holds Try.pinned (OpenSpec.ofChange strokeOutlinePartsWrong)

/- THE SECOND FORM. 'bulk': how many values and letters a reading holds, each counted each time it is reached (what is shared counts as often as it is met; a slice's spare places count too). A statement '..UptoSaid' is the law's where the arguments, and the package variables that the reading takes, are together of bulk at most 1048576: NARROWER than '..Said'. Prove '..Said' where nothing that the law and all that it calls make is longer than what came in: it says more and counts as full. Else prove '..UptoSaid'. A law counts once. -/
mutual
def uptoBulk {H : Type} : DataW H → Nat
  | .lit (.string bytes) => bytes.length + 1
  | .lit _ => 1
  | .nil => 1
  | .ptr d => uptoBulk d + 1
  | .slice elems spare => uptoBulkAll elems + uptoBulkAll spare + 1
  | .agg parts => uptoBulkAll parts + 1
  | .iface _ d => uptoBulk d + 1
  | .map entries => uptoBulkEntries entries + 1
  | .held _ => 1
def uptoBulkAll {H : Type} : List (DataW H) → Nat
  | [] => 0
  | d :: r => uptoBulk d + uptoBulkAll r
def uptoBulkEntries {H : Type} : List (Lit × DataW H) → Nat
  | [] => 0
  | x :: r => uptoBulkEntry x + uptoBulkEntries r
def uptoBulkEntry {H : Type} : Lit × DataW H → Nat
  | (.string bytes, d) => bytes.length + uptoBulk d + 1
  | (_, d) => uptoBulk d + 1
 end
def uptoSmall : (H : Type) → List (DataW H) → Bool := fun _ ds => decide (uptoBulkAll ds ≤ 1048576)
def OpenSpec.upto (s : _root_.Go.ChangeSpec) : _root_.Go.OpenSpec := { _root_.Go.OpenSpec.ofChange s with cond := some uptoSmall }

/-- 'printworkslaw1.ConicFlattenLines', WHERE WHAT IT READS IS OF BULK AT MOST 1048576: true; the input reads as it did. -/
def conicFlattenLinesUptoRow : OpenClaim := { program := "ytpgjbfbdappniaa", sum := "68cdccf12f64276d30971018a6f8e4e3df9a4f99437ebbf98ab2ba604336225f", func := "printworks/printworkslaw1.ConicFlattenLines", spec := "conicFlattenLines", apart := false, narrowed := true }
def ConicFlattenLinesUptoSaid : Prop := conicFlattenLinesUptoRow.holds Try.pinned (OpenSpec.upto conicFlattenLinesSpec)

/-- 'printworkslaw1.DashLines', WHERE WHAT IT READS IS OF BULK AT MOST 1048576: true; the input reads as it did. -/
def dashLinesUptoRow : OpenClaim := { program := "ytpgjbfbdappniaa", sum := "68cdccf12f64276d30971018a6f8e4e3df9a4f99437ebbf98ab2ba604336225f", func := "printworks/printworkslaw1.DashLines", spec := "dashLines", unfollowed := true, recurses := true, apart := false, narrowed := true }
def DashLinesUptoSaid : Prop := dashLinesUptoRow.holds Try.pinned (OpenSpec.upto dashLinesSpec)

/-- 'printworkslaw1.StrokeOutlineParts', WHERE WHAT IT READS IS OF BULK AT MOST 1048576: true; the input reads as it did. -/
def strokeOutlinePartsUptoRow : OpenClaim := { program := "ytpgjbfbdappniaa", sum := "68cdccf12f64276d30971018a6f8e4e3df9a4f99437ebbf98ab2ba604336225f", func := "printworks/printworkslaw1.StrokeOutlineParts", spec := "strokeOutlineParts", unfollowed := true, recurses := true, apart := false, narrowed := true }
def StrokeOutlinePartsUptoSaid : Prop := strokeOutlinePartsUptoRow.holds Try.pinned (OpenSpec.upto strokeOutlinePartsSpec)

end Rows
end Go.Proofs.Ytpgjbfbdappniaa
