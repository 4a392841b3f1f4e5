/-
  No cell of these rows narrows 'for every input' (looked for: loops, veiled, ifaces, maps, wideKeys, modest, calm, conditions, laid).
  DERIVED. THE GIVEN ROWS OF THIS SEAT. 11 by the template 'for every input the law returns true; each argument reads behind the call as it read before'; 0 by the template 'total and deterministic' (their statements: YtpgpgmodkbikoaaTotals.lean).
  GIVEN WITH THE SEED: the statements are not yours to turn. If you find one false, say at which input.
  Laid BY PROGRAM, IN A SANDBOX (cutbox-rows.mjs): the forced cells as the released guide's own fill.sh prints them over the translation 23d047fa988c312f… (all of the seat's roots in one cut). By AI agents, Wed Nov 11 2026. No macro, syntax, notation, axiom, sorry.
-/
import Derived.Test.YtpgpgmodkbikoaaChecked
import GoSem.Claim
import GoSem.ClaimJoined
import GoSem.ClaimMapViews
import Derived.JoinedTies
import Derived.KernelRfl
namespace Go.Proofs.Ytpgpgmodkbikoaa
/- THE CELL 'sum', in the pinned program and in every row, IS THE sha256 OF THE DUMP (.gsa) THAT YtpgpgmodkbikoaaProg.lean LOADS. Nothing in Lean hashes anything: it is a label: what it is worth is what the hold of that sum in a sandbox is worth. -/
noncomputable def Try.pinned : Pinned := { name := "ytpgpgmodkbikoaa", sum := "23d047fa988c312fbc8cb526765b47d6d1f08f65a4c757ab493be3523c4c1493", checked := Try.checked }
namespace Rows
def none {H : Type} : Left H := { results := [], args := [] }

/-- 'printworkslaw1.RegionUnionCells': WHATEVER THE INPUT: true; the input reads as it did. -/
def regionUnionCellsSpec : ChangeSpec := { name := "regionUnionCells", fn := fun _ => fun
  | [d1, d2] => { results := [.lit (.bool true)], args := [d1, d2] }
  | _ => none }
def regionUnionCellsRow : OpenClaim := { program := "ytpgpgmodkbikoaa", sum := "23d047fa988c312fbc8cb526765b47d6d1f08f65a4c757ab493be3523c4c1493", func := "printworks/printworkslaw1.RegionUnionCells", spec := "regionUnionCells", unfollowed := true, recurses := true, apart := false }
def RegionUnionCellsSaid : Prop := regionUnionCellsRow.holds Try.pinned (OpenSpec.ofChange regionUnionCellsSpec)

/-- ITS FALSE NEIGHBOUR: 'it returns false'. Refute it at one input. -/
def regionUnionCellsWrong : ChangeSpec := { name := "regionUnionCells", fn := fun _ => fun
  | [d1, d2] => { results := [.lit (.bool false)], args := [d1, d2] }
  | _ => none }
def RegionUnionCellsWrongFalsely : Prop := regionUnionCellsRow.holds Try.pinned (OpenSpec.ofChange regionUnionCellsWrong)

/-- 'printworkslaw1.RegionRectangleRows': WHATEVER THE INPUT: true; the input reads as it did. -/
def regionRectangleRowsSpec : ChangeSpec := { name := "regionRectangleRows", fn := fun _ => fun
  | [d1, d2, d3, d4] => { results := [.lit (.bool true)], args := [d1, d2, d3, d4] }
  | _ => none }
def regionRectangleRowsRow : OpenClaim := { program := "ytpgpgmodkbikoaa", sum := "23d047fa988c312fbc8cb526765b47d6d1f08f65a4c757ab493be3523c4c1493", func := "printworks/printworkslaw1.RegionRectangleRows", spec := "regionRectangleRows", unfollowed := true, recurses := true, apart := false }
def RegionRectangleRowsSaid : Prop := regionRectangleRowsRow.holds Try.pinned (OpenSpec.ofChange regionRectangleRowsSpec)

/-- ITS FALSE NEIGHBOUR: 'it returns false'. Refute it at one input. -/
def regionRectangleRowsWrong : ChangeSpec := { name := "regionRectangleRows", fn := fun _ => fun
  | [d1, d2, d3, d4] => { results := [.lit (.bool false)], args := [d1, d2, d3, d4] }
  | _ => none }
def RegionRectangleRowsWrongFalsely : Prop := regionRectangleRowsRow.holds Try.pinned (OpenSpec.ofChange regionRectangleRowsWrong)

/-- 'printworkslaw1.RegionIntersectCells': WHATEVER THE INPUT: true; the input reads as it did. -/
def regionIntersectCellsSpec : ChangeSpec := { name := "regionIntersectCells", fn := fun _ => fun
  | [d1, d2] => { results := [.lit (.bool true)], args := [d1, d2] }
  | _ => none }
def regionIntersectCellsRow : OpenClaim := { program := "ytpgpgmodkbikoaa", sum := "23d047fa988c312fbc8cb526765b47d6d1f08f65a4c757ab493be3523c4c1493", func := "printworks/printworkslaw1.RegionIntersectCells", spec := "regionIntersectCells", unfollowed := true, recurses := true, apart := false }
def RegionIntersectCellsSaid : Prop := regionIntersectCellsRow.holds Try.pinned (OpenSpec.ofChange regionIntersectCellsSpec)

/-- ITS FALSE NEIGHBOUR: 'it returns false'. Refute it at one input. -/
def regionIntersectCellsWrong : ChangeSpec := { name := "regionIntersectCells", fn := fun _ => fun
  | [d1, d2] => { results := [.lit (.bool false)], args := [d1, d2] }
  | _ => none }
def RegionIntersectCellsWrongFalsely : Prop := regionIntersectCellsRow.holds Try.pinned (OpenSpec.ofChange regionIntersectCellsWrong)

/-- 'printworkslaw1.RegionDifferenceCells': WHATEVER THE INPUT: true; the input reads as it did. -/
def regionDifferenceCellsSpec : ChangeSpec := { name := "regionDifferenceCells", fn := fun _ => fun
  | [d1, d2] => { results := [.lit (.bool true)], args := [d1, d2] }
  | _ => none }
def regionDifferenceCellsRow : OpenClaim := { program := "ytpgpgmodkbikoaa", sum := "23d047fa988c312fbc8cb526765b47d6d1f08f65a4c757ab493be3523c4c1493", func := "printworks/printworkslaw1.RegionDifferenceCells", spec := "regionDifferenceCells", unfollowed := true, recurses := true, apart := false }
def RegionDifferenceCellsSaid : Prop := regionDifferenceCellsRow.holds Try.pinned (OpenSpec.ofChange regionDifferenceCellsSpec)

/-- ITS FALSE NEIGHBOUR: 'it returns false'. Refute it at one input. -/
def regionDifferenceCellsWrong : ChangeSpec := { name := "regionDifferenceCells", fn := fun _ => fun
  | [d1, d2] => { results := [.lit (.bool false)], args := [d1, d2] }
  | _ => none }
def RegionDifferenceCellsWrongFalsely : Prop := regionDifferenceCellsRow.holds Try.pinned (OpenSpec.ofChange regionDifferenceCellsWrong)

/-- 'printworkslaw1.RegionCellsInOrder': WHATEVER THE INPUT: true; the input reads as it did. -/
def regionCellsInOrderSpec : ChangeSpec := { name := "regionCellsInOrder", fn := fun _ => fun
  | [d1, d2] => { results := [.lit (.bool true)], args := [d1, d2] }
  | _ => none }
def regionCellsInOrderRow : OpenClaim := { program := "ytpgpgmodkbikoaa", sum := "23d047fa988c312fbc8cb526765b47d6d1f08f65a4c757ab493be3523c4c1493", func := "printworks/printworkslaw1.RegionCellsInOrder", spec := "regionCellsInOrder", unfollowed := true, recurses := true, apart := false }
def RegionCellsInOrderSaid : Prop := regionCellsInOrderRow.holds Try.pinned (OpenSpec.ofChange regionCellsInOrderSpec)

/-- ITS FALSE NEIGHBOUR: 'it returns false'. Refute it at one input. -/
def regionCellsInOrderWrong : ChangeSpec := { name := "regionCellsInOrder", fn := fun _ => fun
  | [d1, d2] => { results := [.lit (.bool false)], args := [d1, d2] }
  | _ => none }
def RegionCellsInOrderWrongFalsely : Prop := regionCellsInOrderRow.holds Try.pinned (OpenSpec.ofChange regionCellsInOrderWrong)

/-- 'printworkslaw1.RegionShiftCells': WHATEVER THE INPUT: true; the input reads as it did. -/
def regionShiftCellsSpec : ChangeSpec := { name := "regionShiftCells", fn := fun _ => fun
  | [d1, d2, d3] => { results := [.lit (.bool true)], args := [d1, d2, d3] }
  | _ => none }
def regionShiftCellsRow : OpenClaim := { program := "ytpgpgmodkbikoaa", sum := "23d047fa988c312fbc8cb526765b47d6d1f08f65a4c757ab493be3523c4c1493", func := "printworks/printworkslaw1.RegionShiftCells", spec := "regionShiftCells", unfollowed := true, recurses := true, apart := false }
def RegionShiftCellsSaid : Prop := regionShiftCellsRow.holds Try.pinned (OpenSpec.ofChange regionShiftCellsSpec)

/-- ITS FALSE NEIGHBOUR: 'it returns false'. Refute it at one input. -/
def regionShiftCellsWrong : ChangeSpec := { name := "regionShiftCells", fn := fun _ => fun
  | [d1, d2, d3] => { results := [.lit (.bool false)], args := [d1, d2, d3] }
  | _ => none }
def RegionShiftCellsWrongFalsely : Prop := regionShiftCellsRow.holds Try.pinned (OpenSpec.ofChange regionShiftCellsWrong)

/-- 'printworkslaw1.RegionRowsInOrder': WHATEVER THE INPUT: true; the input reads as it did. -/
def regionRowsInOrderSpec : ChangeSpec := { name := "regionRowsInOrder", fn := fun _ => fun
  | [d] => { results := [.lit (.bool true)], args := [d] }
  | _ => none }
def regionRowsInOrderRow : OpenClaim := { program := "ytpgpgmodkbikoaa", sum := "23d047fa988c312fbc8cb526765b47d6d1f08f65a4c757ab493be3523c4c1493", func := "printworks/printworkslaw1.RegionRowsInOrder", spec := "regionRowsInOrder", unfollowed := true, recurses := true, apart := false }
def RegionRowsInOrderSaid : Prop := regionRowsInOrderRow.holds Try.pinned (OpenSpec.ofChange regionRowsInOrderSpec)

/-- ITS FALSE NEIGHBOUR: 'it returns false'. Refute it at one input. -/
def regionRowsInOrderWrong : ChangeSpec := { name := "regionRowsInOrder", fn := fun _ => fun
  | [d] => { results := [.lit (.bool false)], args := [d] }
  | _ => none }
def RegionRowsInOrderWrongFalsely : Prop := regionRowsInOrderRow.holds Try.pinned (OpenSpec.ofChange regionRowsInOrderWrong)

/-- 'printworkslaw1.RegionMeasures': WHATEVER THE INPUT: true; the input reads as it did. -/
def regionMeasuresSpec : ChangeSpec := { name := "regionMeasures", fn := fun _ => fun
  | [d1, d2, d3] => { results := [.lit (.bool true)], args := [d1, d2, d3] }
  | _ => none }
def regionMeasuresRow : OpenClaim := { program := "ytpgpgmodkbikoaa", sum := "23d047fa988c312fbc8cb526765b47d6d1f08f65a4c757ab493be3523c4c1493", func := "printworks/printworkslaw1.RegionMeasures", spec := "regionMeasures", unfollowed := true, recurses := true, apart := false }
def RegionMeasuresSaid : Prop := regionMeasuresRow.holds Try.pinned (OpenSpec.ofChange regionMeasuresSpec)

/-- ITS FALSE NEIGHBOUR: 'it returns false'. Refute it at one input. -/
def regionMeasuresWrong : ChangeSpec := { name := "regionMeasures", fn := fun _ => fun
  | [d1, d2, d3] => { results := [.lit (.bool false)], args := [d1, d2, d3] }
  | _ => none }
def RegionMeasuresWrongFalsely : Prop := regionMeasuresRow.holds Try.pinned (OpenSpec.ofChange regionMeasuresWrong)

/-- 'printworkslaw1.RegionOfPoints': WHATEVER THE INPUT: true; the input reads as it did. -/
def regionOfPointsSpec : ChangeSpec := { name := "regionOfPoints", fn := fun _ => fun
  | [d] => { results := [.lit (.bool true)], args := [d] }
  | _ => none }
def regionOfPointsRow : OpenClaim := { program := "ytpgpgmodkbikoaa", sum := "23d047fa988c312fbc8cb526765b47d6d1f08f65a4c757ab493be3523c4c1493", func := "printworks/printworkslaw1.RegionOfPoints", spec := "regionOfPoints", unfollowed := true, recurses := true, apart := false }
def RegionOfPointsSaid : Prop := regionOfPointsRow.holds Try.pinned (OpenSpec.ofChange regionOfPointsSpec)

/-- ITS FALSE NEIGHBOUR: 'it returns false'. Refute it at one input. -/
def regionOfPointsWrong : ChangeSpec := { name := "regionOfPoints", fn := fun _ => fun
  | [d] => { results := [.lit (.bool false)], args := [d] }
  | _ => none }
def RegionOfPointsWrongFalsely : Prop := regionOfPointsRow.holds Try.pinned (OpenSpec.ofChange regionOfPointsWrong)

/-- 'printworkslaw1.DashLines': WHATEVER THE INPUT: true; the input reads as it did. -/
def dashLinesSpec : ChangeSpec := { name := "dashLines", fn := fun _ => fun
  | [d1, d2, d3] => { results := [.lit (.bool true)], args := [d1, d2, d3] }
  | _ => none }
def dashLinesRow : OpenClaim := { program := "ytpgpgmodkbikoaa", sum := "23d047fa988c312fbc8cb526765b47d6d1f08f65a4c757ab493be3523c4c1493", func := "printworks/printworkslaw1.DashLines", spec := "dashLines", unfollowed := true, recurses := true, apart := false }
def DashLinesSaid : Prop := dashLinesRow.holds Try.pinned (OpenSpec.ofChange dashLinesSpec)

/-- ITS FALSE NEIGHBOUR: 'it returns false'. Refute it at one input. -/
def dashLinesWrong : ChangeSpec := { name := "dashLines", fn := fun _ => fun
  | [d1, d2, d3] => { results := [.lit (.bool false)], args := [d1, d2, d3] }
  | _ => none }
def DashLinesWrongFalsely : Prop := dashLinesRow.holds Try.pinned (OpenSpec.ofChange dashLinesWrong)

/-- 'printworkslaw1.ConicFlattenLines': WHATEVER THE INPUT: true; the input reads as it did. -/
def conicFlattenLinesSpec : ChangeSpec := { name := "conicFlattenLines", fn := fun _ => fun
  | [d] => { results := [.lit (.bool true)], args := [d] }
  | _ => none }
def conicFlattenLinesRow : OpenClaim := { program := "ytpgpgmodkbikoaa", sum := "23d047fa988c312fbc8cb526765b47d6d1f08f65a4c757ab493be3523c4c1493", func := "printworks/printworkslaw1.ConicFlattenLines", spec := "conicFlattenLines", apart := false }
def ConicFlattenLinesSaid : Prop := conicFlattenLinesRow.holds Try.pinned (OpenSpec.ofChange conicFlattenLinesSpec)

/-- ITS FALSE NEIGHBOUR: 'it returns false'. Refute it at one input. -/
def conicFlattenLinesWrong : ChangeSpec := { name := "conicFlattenLines", fn := fun _ => fun
  | [d] => { results := [.lit (.bool false)], args := [d] }
  | _ => none }
def ConicFlattenLinesWrongFalsely : Prop := conicFlattenLinesRow.holds Try.pinned (OpenSpec.ofChange conicFlattenLinesWrong)

/- THE SECOND FORM. 'bulk': how many values and letters a reading holds, each counted each time it is reached (what is shared counts as often as it is met; a slice's spare places count too). A statement '..UptoSaid' is the law's where the arguments, and the package variables that the reading takes, are together of bulk at most 1048576: NARROWER than '..Said'. Prove '..Said' where nothing that the law and all that it calls make is longer than what came in: it says more and counts as full. Else prove '..UptoSaid'. A law counts once. -/
mutual
def uptoBulk {H : Type} : DataW H → Nat
  | .lit (.string bytes) => bytes.length + 1
  | .lit _ => 1
  | .nil => 1
  | .ptr d => uptoBulk d + 1
  | .slice elems spare => uptoBulkAll elems + uptoBulkAll spare + 1
  | .agg parts => uptoBulkAll parts + 1
  | .iface _ d => uptoBulk d + 1
  | .map entries => uptoBulkEntries entries + 1
  | .held _ => 1
def uptoBulkAll {H : Type} : List (DataW H) → Nat
  | [] => 0
  | d :: r => uptoBulk d + uptoBulkAll r
def uptoBulkEntries {H : Type} : List (Lit × DataW H) → Nat
  | [] => 0
  | x :: r => uptoBulkEntry x + uptoBulkEntries r
def uptoBulkEntry {H : Type} : Lit × DataW H → Nat
  | (.string bytes, d) => bytes.length + uptoBulk d + 1
  | (_, d) => uptoBulk d + 1
 end
def uptoSmall : (H : Type) → List (DataW H) → Bool := fun _ ds => decide (uptoBulkAll ds ≤ 1048576)
def OpenSpec.upto (s : _root_.Go.ChangeSpec) : _root_.Go.OpenSpec := { _root_.Go.OpenSpec.ofChange s with cond := some uptoSmall }

/-- 'printworkslaw1.RegionUnionCells', WHERE WHAT IT READS IS OF BULK AT MOST 1048576: true; the input reads as it did. -/
def regionUnionCellsUptoRow : OpenClaim := { program := "ytpgpgmodkbikoaa", sum := "23d047fa988c312fbc8cb526765b47d6d1f08f65a4c757ab493be3523c4c1493", func := "printworks/printworkslaw1.RegionUnionCells", spec := "regionUnionCells", unfollowed := true, recurses := true, apart := false, narrowed := true }
def RegionUnionCellsUptoSaid : Prop := regionUnionCellsUptoRow.holds Try.pinned (OpenSpec.upto regionUnionCellsSpec)

/-- 'printworkslaw1.RegionRectangleRows', WHERE WHAT IT READS IS OF BULK AT MOST 1048576: true; the input reads as it did. -/
def regionRectangleRowsUptoRow : OpenClaim := { program := "ytpgpgmodkbikoaa", sum := "23d047fa988c312fbc8cb526765b47d6d1f08f65a4c757ab493be3523c4c1493", func := "printworks/printworkslaw1.RegionRectangleRows", spec := "regionRectangleRows", unfollowed := true, recurses := true, apart := false, narrowed := true }
def RegionRectangleRowsUptoSaid : Prop := regionRectangleRowsUptoRow.holds Try.pinned (OpenSpec.upto regionRectangleRowsSpec)

/-- 'printworkslaw1.RegionIntersectCells', WHERE WHAT IT READS IS OF BULK AT MOST 1048576: true; the input reads as it did. -/
def regionIntersectCellsUptoRow : OpenClaim := { program := "ytpgpgmodkbikoaa", sum := "23d047fa988c312fbc8cb526765b47d6d1f08f65a4c757ab493be3523c4c1493", func := "printworks/printworkslaw1.RegionIntersectCells", spec := "regionIntersectCells", unfollowed := true, recurses := true, apart := false, narrowed := true }
def RegionIntersectCellsUptoSaid : Prop := regionIntersectCellsUptoRow.holds Try.pinned (OpenSpec.upto regionIntersectCellsSpec)

/-- 'printworkslaw1.RegionDifferenceCells', WHERE WHAT IT READS IS OF BULK AT MOST 1048576: true; the input reads as it did. -/
def regionDifferenceCellsUptoRow : OpenClaim := { program := "ytpgpgmodkbikoaa", sum := "23d047fa988c312fbc8cb526765b47d6d1f08f65a4c757ab493be3523c4c1493", func := "printworks/printworkslaw1.RegionDifferenceCells", spec := "regionDifferenceCells", unfollowed := true, recurses := true, apart := false, narrowed := true }
def RegionDifferenceCellsUptoSaid : Prop := regionDifferenceCellsUptoRow.holds Try.pinned (OpenSpec.upto regionDifferenceCellsSpec)

/-- 'printworkslaw1.RegionCellsInOrder', WHERE WHAT IT READS IS OF BULK AT MOST 1048576: true; the input reads as it did. -/
def regionCellsInOrderUptoRow : OpenClaim := { program := "ytpgpgmodkbikoaa", sum := "23d047fa988c312fbc8cb526765b47d6d1f08f65a4c757ab493be3523c4c1493", func := "printworks/printworkslaw1.RegionCellsInOrder", spec := "regionCellsInOrder", unfollowed := true, recurses := true, apart := false, narrowed := true }
def RegionCellsInOrderUptoSaid : Prop := regionCellsInOrderUptoRow.holds Try.pinned (OpenSpec.upto regionCellsInOrderSpec)

/-- 'printworkslaw1.RegionShiftCells', WHERE WHAT IT READS IS OF BULK AT MOST 1048576: true; the input reads as it did. -/
def regionShiftCellsUptoRow : OpenClaim := { program := "ytpgpgmodkbikoaa", sum := "23d047fa988c312fbc8cb526765b47d6d1f08f65a4c757ab493be3523c4c1493", func := "printworks/printworkslaw1.RegionShiftCells", spec := "regionShiftCells", unfollowed := true, recurses := true, apart := false, narrowed := true }
def RegionShiftCellsUptoSaid : Prop := regionShiftCellsUptoRow.holds Try.pinned (OpenSpec.upto regionShiftCellsSpec)

/-- 'printworkslaw1.RegionRowsInOrder', WHERE WHAT IT READS IS OF BULK AT MOST 1048576: true; the input reads as it did. -/
def regionRowsInOrderUptoRow : OpenClaim := { program := "ytpgpgmodkbikoaa", sum := "23d047fa988c312fbc8cb526765b47d6d1f08f65a4c757ab493be3523c4c1493", func := "printworks/printworkslaw1.RegionRowsInOrder", spec := "regionRowsInOrder", unfollowed := true, recurses := true, apart := false, narrowed := true }
def RegionRowsInOrderUptoSaid : Prop := regionRowsInOrderUptoRow.holds Try.pinned (OpenSpec.upto regionRowsInOrderSpec)

/-- 'printworkslaw1.RegionMeasures', WHERE WHAT IT READS IS OF BULK AT MOST 1048576: true; the input reads as it did. -/
def regionMeasuresUptoRow : OpenClaim := { program := "ytpgpgmodkbikoaa", sum := "23d047fa988c312fbc8cb526765b47d6d1f08f65a4c757ab493be3523c4c1493", func := "printworks/printworkslaw1.RegionMeasures", spec := "regionMeasures", unfollowed := true, recurses := true, apart := false, narrowed := true }
def RegionMeasuresUptoSaid : Prop := regionMeasuresUptoRow.holds Try.pinned (OpenSpec.upto regionMeasuresSpec)

/-- 'printworkslaw1.RegionOfPoints', WHERE WHAT IT READS IS OF BULK AT MOST 1048576: true; the input reads as it did. -/
def regionOfPointsUptoRow : OpenClaim := { program := "ytpgpgmodkbikoaa", sum := "23d047fa988c312fbc8cb526765b47d6d1f08f65a4c757ab493be3523c4c1493", func := "printworks/printworkslaw1.RegionOfPoints", spec := "regionOfPoints", unfollowed := true, recurses := true, apart := false, narrowed := true }
def RegionOfPointsUptoSaid : Prop := regionOfPointsUptoRow.holds Try.pinned (OpenSpec.upto regionOfPointsSpec)

/-- 'printworkslaw1.DashLines', WHERE WHAT IT READS IS OF BULK AT MOST 1048576: true; the input reads as it did. -/
def dashLinesUptoRow : OpenClaim := { program := "ytpgpgmodkbikoaa", sum := "23d047fa988c312fbc8cb526765b47d6d1f08f65a4c757ab493be3523c4c1493", func := "printworks/printworkslaw1.DashLines", spec := "dashLines", unfollowed := true, recurses := true, apart := false, narrowed := true }
def DashLinesUptoSaid : Prop := dashLinesUptoRow.holds Try.pinned (OpenSpec.upto dashLinesSpec)

/-- 'printworkslaw1.ConicFlattenLines', WHERE WHAT IT READS IS OF BULK AT MOST 1048576: true; the input reads as it did. -/
def conicFlattenLinesUptoRow : OpenClaim := { program := "ytpgpgmodkbikoaa", sum := "23d047fa988c312fbc8cb526765b47d6d1f08f65a4c757ab493be3523c4c1493", func := "printworks/printworkslaw1.ConicFlattenLines", spec := "conicFlattenLines", apart := false, narrowed := true }
def ConicFlattenLinesUptoSaid : Prop := conicFlattenLinesUptoRow.holds Try.pinned (OpenSpec.upto conicFlattenLinesSpec)

end Rows
end Go.Proofs.Ytpgpgmodkbikoaa
