/-
  No cell of these rows narrows 'for every input' (looked for: loops, veiled, ifaces, maps, wideKeys, modest, calm, conditions, laid).
  DERIVED. THE GIVEN ROWS OF THIS SEAT. 13 by the template 'for every input the law returns true; each argument reads behind the call as it read before'; 0 by the template 'total and deterministic' (their statements: YtlekflgdmieahaaTotals.lean).
  GIVEN WITH THE SEED: the statements are not yours to turn. If you find one false, say at which input.
  Laid BY PROGRAM, IN A SANDBOX (cutbox-rows.mjs): the forced cells as the released guide's own fill.sh prints them over the translation ef5edaf949fcb66d… (all of the seat's roots in one cut). By AI agents, Wed Nov 11 2026. No macro, syntax, notation, axiom, sorry.
-/
import Derived.Test.YtlekflgdmieahaaChecked
import GoSem.Claim
import GoSem.ClaimJoined
import GoSem.ClaimMapViews
import Derived.JoinedTies
import Derived.KernelRfl
namespace Go.Proofs.Ytlekflgdmieahaa
/- THE CELL 'sum', in the pinned program and in every row, IS THE sha256 OF THE DUMP (.gsa) THAT YtlekflgdmieahaaProg.lean LOADS. Nothing in Lean hashes anything: it is a label: what it is worth is what the hold of that sum in a sandbox is worth. -/
noncomputable def Try.pinned : Pinned := { name := "ytlekflgdmieahaa", sum := "ef5edaf949fcb66dc3f08b05a59724ad06674566ed6e0d763aed3fcdc3c99435", checked := Try.checked }
namespace Rows
def none {H : Type} : Left H := { results := [], args := [] }

/-- 'printworkslaw1.RasterPastePixels': WHATEVER THE INPUT: true; the input reads as it did. -/
def rasterPastePixelsSpec : ChangeSpec := { name := "rasterPastePixels", fn := fun _ => fun
  | [d1, d2, d3, d4, d5, d6, d7, d8] => { results := [.lit (.bool true)], args := [d1, d2, d3, d4, d5, d6, d7, d8] }
  | _ => none }
def rasterPastePixelsRow : OpenClaim := { program := "ytlekflgdmieahaa", sum := "ef5edaf949fcb66dc3f08b05a59724ad06674566ed6e0d763aed3fcdc3c99435", func := "printworks/printworkslaw1.RasterPastePixels", spec := "rasterPastePixels", unfollowed := true, recurses := true, plainKeys := false, apart := false }
def RasterPastePixelsSaid : Prop := rasterPastePixelsRow.holds Try.pinned (OpenSpec.ofChange rasterPastePixelsSpec)

/-- ITS FALSE NEIGHBOUR: 'it returns false'. Refute it at one input. -/
def rasterPastePixelsWrong : ChangeSpec := { name := "rasterPastePixels", fn := fun _ => fun
  | [d1, d2, d3, d4, d5, d6, d7, d8] => { results := [.lit (.bool false)], args := [d1, d2, d3, d4, d5, d6, d7, d8] }
  | _ => none }
def RasterPastePixelsWrongFalsely : Prop := rasterPastePixelsRow.holds Try.pinned (OpenSpec.ofChange rasterPastePixelsWrong)

/-- 'printworkslaw1.NumMulDivExact': WHATEVER THE INPUT: true; the input reads as it did. -/
def numMulDivExactSpec : ChangeSpec := { name := "numMulDivExact", fn := fun _ => fun
  | [d1, d2, d3] => { results := [.lit (.bool true)], args := [d1, d2, d3] }
  | _ => none }
def numMulDivExactRow : OpenClaim := { program := "ytlekflgdmieahaa", sum := "ef5edaf949fcb66dc3f08b05a59724ad06674566ed6e0d763aed3fcdc3c99435", func := "printworks/printworkslaw1.NumMulDivExact", spec := "numMulDivExact", named := ["math/bits.divideError", "math/bits.overflowError"], plainKeys := false, apart := false }
def NumMulDivExactSaid : Prop := numMulDivExactRow.holds Try.pinned (OpenSpec.ofChange numMulDivExactSpec)

/-- ITS FALSE NEIGHBOUR: 'it returns false'. Refute it at one input. -/
def numMulDivExactWrong : ChangeSpec := { name := "numMulDivExact", fn := fun _ => fun
  | [d1, d2, d3] => { results := [.lit (.bool false)], args := [d1, d2, d3] }
  | _ => none }
def NumMulDivExactWrongFalsely : Prop := numMulDivExactRow.holds Try.pinned (OpenSpec.ofChange numMulDivExactWrong)

/-- 'printworkslaw1.RasterRowsInOrder': WHATEVER THE INPUT: true; the input reads as it did. -/
def rasterRowsInOrderSpec : ChangeSpec := { name := "rasterRowsInOrder", fn := fun _ => fun
  | [d1, d2, d3, d4] => { results := [.lit (.bool true)], args := [d1, d2, d3, d4] }
  | _ => none }
def rasterRowsInOrderRow : OpenClaim := { program := "ytlekflgdmieahaa", sum := "ef5edaf949fcb66dc3f08b05a59724ad06674566ed6e0d763aed3fcdc3c99435", func := "printworks/printworkslaw1.RasterRowsInOrder", spec := "rasterRowsInOrder", unfollowed := true, recurses := true, plainKeys := false, apart := false }
def RasterRowsInOrderSaid : Prop := rasterRowsInOrderRow.holds Try.pinned (OpenSpec.ofChange rasterRowsInOrderSpec)

/-- ITS FALSE NEIGHBOUR: 'it returns false'. Refute it at one input. -/
def rasterRowsInOrderWrong : ChangeSpec := { name := "rasterRowsInOrder", fn := fun _ => fun
  | [d1, d2, d3, d4] => { results := [.lit (.bool false)], args := [d1, d2, d3, d4] }
  | _ => none }
def RasterRowsInOrderWrongFalsely : Prop := rasterRowsInOrderRow.holds Try.pinned (OpenSpec.ofChange rasterRowsInOrderWrong)

/-- 'printworkslaw1.RegionCellsInOrder': WHATEVER THE INPUT: true; the input reads as it did. -/
def regionCellsInOrderSpec : ChangeSpec := { name := "regionCellsInOrder", fn := fun _ => fun
  | [d1, d2] => { results := [.lit (.bool true)], args := [d1, d2] }
  | _ => none }
def regionCellsInOrderRow : OpenClaim := { program := "ytlekflgdmieahaa", sum := "ef5edaf949fcb66dc3f08b05a59724ad06674566ed6e0d763aed3fcdc3c99435", func := "printworks/printworkslaw1.RegionCellsInOrder", spec := "regionCellsInOrder", unfollowed := true, recurses := true, plainKeys := false, apart := false }
def RegionCellsInOrderSaid : Prop := regionCellsInOrderRow.holds Try.pinned (OpenSpec.ofChange regionCellsInOrderSpec)

/-- ITS FALSE NEIGHBOUR: 'it returns false'. Refute it at one input. -/
def regionCellsInOrderWrong : ChangeSpec := { name := "regionCellsInOrder", fn := fun _ => fun
  | [d1, d2] => { results := [.lit (.bool false)], args := [d1, d2] }
  | _ => none }
def RegionCellsInOrderWrongFalsely : Prop := regionCellsInOrderRow.holds Try.pinned (OpenSpec.ofChange regionCellsInOrderWrong)

/-- 'printworkslaw1.RegionRowsInOrder': WHATEVER THE INPUT: true; the input reads as it did. -/
def regionRowsInOrderSpec : ChangeSpec := { name := "regionRowsInOrder", fn := fun _ => fun
  | [d] => { results := [.lit (.bool true)], args := [d] }
  | _ => none }
def regionRowsInOrderRow : OpenClaim := { program := "ytlekflgdmieahaa", sum := "ef5edaf949fcb66dc3f08b05a59724ad06674566ed6e0d763aed3fcdc3c99435", func := "printworks/printworkslaw1.RegionRowsInOrder", spec := "regionRowsInOrder", unfollowed := true, recurses := true, plainKeys := false, apart := false }
def RegionRowsInOrderSaid : Prop := regionRowsInOrderRow.holds Try.pinned (OpenSpec.ofChange regionRowsInOrderSpec)

/-- ITS FALSE NEIGHBOUR: 'it returns false'. Refute it at one input. -/
def regionRowsInOrderWrong : ChangeSpec := { name := "regionRowsInOrder", fn := fun _ => fun
  | [d] => { results := [.lit (.bool false)], args := [d] }
  | _ => none }
def RegionRowsInOrderWrongFalsely : Prop := regionRowsInOrderRow.holds Try.pinned (OpenSpec.ofChange regionRowsInOrderWrong)

/-- 'printworkslaw1.DashLines': WHATEVER THE INPUT: true; the input reads as it did. -/
def dashLinesSpec : ChangeSpec := { name := "dashLines", fn := fun _ => fun
  | [d1, d2, d3] => { results := [.lit (.bool true)], args := [d1, d2, d3] }
  | _ => none }
def dashLinesRow : OpenClaim := { program := "ytlekflgdmieahaa", sum := "ef5edaf949fcb66dc3f08b05a59724ad06674566ed6e0d763aed3fcdc3c99435", func := "printworks/printworkslaw1.DashLines", spec := "dashLines", unfollowed := true, recurses := true, plainKeys := false, apart := false }
def DashLinesSaid : Prop := dashLinesRow.holds Try.pinned (OpenSpec.ofChange dashLinesSpec)

/-- ITS FALSE NEIGHBOUR: 'it returns false'. Refute it at one input. -/
def dashLinesWrong : ChangeSpec := { name := "dashLines", fn := fun _ => fun
  | [d1, d2, d3] => { results := [.lit (.bool false)], args := [d1, d2, d3] }
  | _ => none }
def DashLinesWrongFalsely : Prop := dashLinesRow.holds Try.pinned (OpenSpec.ofChange dashLinesWrong)

/-- 'printworkslaw1.ConicFlattenLines': WHATEVER THE INPUT: true; the input reads as it did. -/
def conicFlattenLinesSpec : ChangeSpec := { name := "conicFlattenLines", fn := fun _ => fun
  | [d] => { results := [.lit (.bool true)], args := [d] }
  | _ => none }
def conicFlattenLinesRow : OpenClaim := { program := "ytlekflgdmieahaa", sum := "ef5edaf949fcb66dc3f08b05a59724ad06674566ed6e0d763aed3fcdc3c99435", func := "printworks/printworkslaw1.ConicFlattenLines", spec := "conicFlattenLines", plainKeys := false, apart := false }
def ConicFlattenLinesSaid : Prop := conicFlattenLinesRow.holds Try.pinned (OpenSpec.ofChange conicFlattenLinesSpec)

/-- ITS FALSE NEIGHBOUR: 'it returns false'. Refute it at one input. -/
def conicFlattenLinesWrong : ChangeSpec := { name := "conicFlattenLines", fn := fun _ => fun
  | [d] => { results := [.lit (.bool false)], args := [d] }
  | _ => none }
def ConicFlattenLinesWrongFalsely : Prop := conicFlattenLinesRow.holds Try.pinned (OpenSpec.ofChange conicFlattenLinesWrong)

/-- 'printworkslaw1.StrokeOutlineParts': WHATEVER THE INPUT: true; the input reads as it did. -/
def strokeOutlinePartsSpec : ChangeSpec := { name := "strokeOutlineParts", fn := fun _ => fun
  | [d1, d2] => { results := [.lit (.bool true)], args := [d1, d2] }
  | _ => none }
def strokeOutlinePartsRow : OpenClaim := { program := "ytlekflgdmieahaa", sum := "ef5edaf949fcb66dc3f08b05a59724ad06674566ed6e0d763aed3fcdc3c99435", func := "printworks/printworkslaw1.StrokeOutlineParts", spec := "strokeOutlineParts", unfollowed := true, recurses := true, plainKeys := false, apart := false }
def StrokeOutlinePartsSaid : Prop := strokeOutlinePartsRow.holds Try.pinned (OpenSpec.ofChange strokeOutlinePartsSpec)

/-- ITS FALSE NEIGHBOUR: 'it returns false'. Refute it at one input. -/
def strokeOutlinePartsWrong : ChangeSpec := { name := "strokeOutlineParts", fn := fun _ => fun
  | [d1, d2] => { results := [.lit (.bool false)], args := [d1, d2] }
  | _ => none }
def StrokeOutlinePartsWrongFalsely : Prop := strokeOutlinePartsRow.holds Try.pinned (OpenSpec.ofChange strokeOutlinePartsWrong)

/-- 'printworkslaw1.MorphDilateCells': WHATEVER THE INPUT: true; the input reads as it did. -/
def morphDilateCellsSpec : ChangeSpec := { name := "morphDilateCells", fn := fun _ => fun
  | [d1, d2] => { results := [.lit (.bool true)], args := [d1, d2] }
  | _ => none }
def morphDilateCellsRow : OpenClaim := { program := "ytlekflgdmieahaa", sum := "ef5edaf949fcb66dc3f08b05a59724ad06674566ed6e0d763aed3fcdc3c99435", func := "printworks/printworkslaw1.MorphDilateCells", spec := "morphDilateCells", unfollowed := true, recurses := true, plainKeys := false, apart := false }
def MorphDilateCellsSaid : Prop := morphDilateCellsRow.holds Try.pinned (OpenSpec.ofChange morphDilateCellsSpec)

/-- ITS FALSE NEIGHBOUR: 'it returns false'. Refute it at one input. -/
def morphDilateCellsWrong : ChangeSpec := { name := "morphDilateCells", fn := fun _ => fun
  | [d1, d2] => { results := [.lit (.bool false)], args := [d1, d2] }
  | _ => none }
def MorphDilateCellsWrongFalsely : Prop := morphDilateCellsRow.holds Try.pinned (OpenSpec.ofChange morphDilateCellsWrong)

/-- 'printworkslaw1.MorphErodeCells': WHATEVER THE INPUT: true; the input reads as it did. -/
def morphErodeCellsSpec : ChangeSpec := { name := "morphErodeCells", fn := fun _ => fun
  | [d1, d2] => { results := [.lit (.bool true)], args := [d1, d2] }
  | _ => none }
def morphErodeCellsRow : OpenClaim := { program := "ytlekflgdmieahaa", sum := "ef5edaf949fcb66dc3f08b05a59724ad06674566ed6e0d763aed3fcdc3c99435", func := "printworks/printworkslaw1.MorphErodeCells", spec := "morphErodeCells", unfollowed := true, recurses := true, plainKeys := false, apart := false }
def MorphErodeCellsSaid : Prop := morphErodeCellsRow.holds Try.pinned (OpenSpec.ofChange morphErodeCellsSpec)

/-- ITS FALSE NEIGHBOUR: 'it returns false'. Refute it at one input. -/
def morphErodeCellsWrong : ChangeSpec := { name := "morphErodeCells", fn := fun _ => fun
  | [d1, d2] => { results := [.lit (.bool false)], args := [d1, d2] }
  | _ => none }
def MorphErodeCellsWrongFalsely : Prop := morphErodeCellsRow.holds Try.pinned (OpenSpec.ofChange morphErodeCellsWrong)

/-- 'printworkslaw1.MorphOpenCloseCells': WHATEVER THE INPUT: true; the input reads as it did. -/
def morphOpenCloseCellsSpec : ChangeSpec := { name := "morphOpenCloseCells", fn := fun _ => fun
  | [d1, d2] => { results := [.lit (.bool true)], args := [d1, d2] }
  | _ => none }
def morphOpenCloseCellsRow : OpenClaim := { program := "ytlekflgdmieahaa", sum := "ef5edaf949fcb66dc3f08b05a59724ad06674566ed6e0d763aed3fcdc3c99435", func := "printworks/printworkslaw1.MorphOpenCloseCells", spec := "morphOpenCloseCells", unfollowed := true, recurses := true, plainKeys := false, apart := false }
def MorphOpenCloseCellsSaid : Prop := morphOpenCloseCellsRow.holds Try.pinned (OpenSpec.ofChange morphOpenCloseCellsSpec)

/-- ITS FALSE NEIGHBOUR: 'it returns false'. Refute it at one input. -/
def morphOpenCloseCellsWrong : ChangeSpec := { name := "morphOpenCloseCells", fn := fun _ => fun
  | [d1, d2] => { results := [.lit (.bool false)], args := [d1, d2] }
  | _ => none }
def MorphOpenCloseCellsWrongFalsely : Prop := morphOpenCloseCellsRow.holds Try.pinned (OpenSpec.ofChange morphOpenCloseCellsWrong)

/-- 'printworkslaw1.MorphEdgeCells': WHATEVER THE INPUT: true; the input reads as it did. -/
def morphEdgeCellsSpec : ChangeSpec := { name := "morphEdgeCells", fn := fun _ => fun
  | [d1, d2] => { results := [.lit (.bool true)], args := [d1, d2] }
  | _ => none }
def morphEdgeCellsRow : OpenClaim := { program := "ytlekflgdmieahaa", sum := "ef5edaf949fcb66dc3f08b05a59724ad06674566ed6e0d763aed3fcdc3c99435", func := "printworks/printworkslaw1.MorphEdgeCells", spec := "morphEdgeCells", unfollowed := true, recurses := true, plainKeys := false, apart := false }
def MorphEdgeCellsSaid : Prop := morphEdgeCellsRow.holds Try.pinned (OpenSpec.ofChange morphEdgeCellsSpec)

/-- ITS FALSE NEIGHBOUR: 'it returns false'. Refute it at one input. -/
def morphEdgeCellsWrong : ChangeSpec := { name := "morphEdgeCells", fn := fun _ => fun
  | [d1, d2] => { results := [.lit (.bool false)], args := [d1, d2] }
  | _ => none }
def MorphEdgeCellsWrongFalsely : Prop := morphEdgeCellsRow.holds Try.pinned (OpenSpec.ofChange morphEdgeCellsWrong)

/-- 'printworkslaw1.FlatChecks': WHATEVER THE INPUT: true; the input reads as it did. -/
def flatChecksSpec : ChangeSpec := { name := "flatChecks", fn := fun _ => fun
  | [d1, d2, d3] => { results := [.lit (.bool true)], args := [d1, d2, d3] }
  | _ => none }
def flatChecksRow : OpenClaim := { program := "ytlekflgdmieahaa", sum := "ef5edaf949fcb66dc3f08b05a59724ad06674566ed6e0d763aed3fcdc3c99435", func := "printworks/printworkslaw1.FlatChecks", spec := "flatChecks", unfollowed := true, recurses := true, plainKeys := false, apart := false }
def FlatChecksSaid : Prop := flatChecksRow.holds Try.pinned (OpenSpec.ofChange flatChecksSpec)

/-- ITS FALSE NEIGHBOUR: 'it returns false'. Refute it at one input. -/
def flatChecksWrong : ChangeSpec := { name := "flatChecks", fn := fun _ => fun
  | [d1, d2, d3] => { results := [.lit (.bool false)], args := [d1, d2, d3] }
  | _ => none }
def FlatChecksWrongFalsely : Prop := flatChecksRow.holds Try.pinned (OpenSpec.ofChange flatChecksWrong)

/- THE SECOND FORM. 'bulk': how many values and letters a reading holds, each counted each time it is reached (what is shared counts as often as it is met; a slice's spare places count too). A statement '..UptoSaid' is the law's where the arguments, and the package variables that the reading takes, are together of bulk at most 1048576: NARROWER than '..Said'. Prove '..Said' where nothing that the law and all that it calls make is longer than what came in: it says more and counts as full. Else prove '..UptoSaid'. A law counts once. -/
mutual
def uptoBulk {H : Type} : DataW H → Nat
  | .lit (.string bytes) => bytes.length + 1
  | .lit _ => 1
  | .nil => 1
  | .ptr d => uptoBulk d + 1
  | .slice elems spare => uptoBulkAll elems + uptoBulkAll spare + 1
  | .agg parts => uptoBulkAll parts + 1
  | .iface _ d => uptoBulk d + 1
  | .map entries => uptoBulkEntries entries + 1
  | .held _ => 1
def uptoBulkAll {H : Type} : List (DataW H) → Nat
  | [] => 0
  | d :: r => uptoBulk d + uptoBulkAll r
def uptoBulkEntries {H : Type} : List (Lit × DataW H) → Nat
  | [] => 0
  | x :: r => uptoBulkEntry x + uptoBulkEntries r
def uptoBulkEntry {H : Type} : Lit × DataW H → Nat
  | (.string bytes, d) => bytes.length + uptoBulk d + 1
  | (_, d) => uptoBulk d + 1
 end
def uptoSmall : (H : Type) → List (DataW H) → Bool := fun _ ds => decide (uptoBulkAll ds ≤ 1048576)
def OpenSpec.upto (s : _root_.Go.ChangeSpec) : _root_.Go.OpenSpec := { _root_.Go.OpenSpec.ofChange s with cond := some uptoSmall }

/-- 'printworkslaw1.RasterPastePixels', WHERE WHAT IT READS IS OF BULK AT MOST 1048576: true; the input reads as it did. -/
def rasterPastePixelsUptoRow : OpenClaim := { program := "ytlekflgdmieahaa", sum := "ef5edaf949fcb66dc3f08b05a59724ad06674566ed6e0d763aed3fcdc3c99435", func := "printworks/printworkslaw1.RasterPastePixels", spec := "rasterPastePixels", unfollowed := true, recurses := true, plainKeys := false, apart := false, narrowed := true }
def RasterPastePixelsUptoSaid : Prop := rasterPastePixelsUptoRow.holds Try.pinned (OpenSpec.upto rasterPastePixelsSpec)

/-- 'printworkslaw1.NumMulDivExact', WHERE WHAT IT READS IS OF BULK AT MOST 1048576: true; the input reads as it did. -/
def numMulDivExactUptoRow : OpenClaim := { program := "ytlekflgdmieahaa", sum := "ef5edaf949fcb66dc3f08b05a59724ad06674566ed6e0d763aed3fcdc3c99435", func := "printworks/printworkslaw1.NumMulDivExact", spec := "numMulDivExact", named := ["math/bits.divideError", "math/bits.overflowError"], plainKeys := false, apart := false, narrowed := true }
def NumMulDivExactUptoSaid : Prop := numMulDivExactUptoRow.holds Try.pinned (OpenSpec.upto numMulDivExactSpec)

/-- 'printworkslaw1.RasterRowsInOrder', WHERE WHAT IT READS IS OF BULK AT MOST 1048576: true; the input reads as it did. -/
def rasterRowsInOrderUptoRow : OpenClaim := { program := "ytlekflgdmieahaa", sum := "ef5edaf949fcb66dc3f08b05a59724ad06674566ed6e0d763aed3fcdc3c99435", func := "printworks/printworkslaw1.RasterRowsInOrder", spec := "rasterRowsInOrder", unfollowed := true, recurses := true, plainKeys := false, apart := false, narrowed := true }
def RasterRowsInOrderUptoSaid : Prop := rasterRowsInOrderUptoRow.holds Try.pinned (OpenSpec.upto rasterRowsInOrderSpec)

/-- 'printworkslaw1.RegionCellsInOrder', WHERE WHAT IT READS IS OF BULK AT MOST 1048576: true; the input reads as it did. -/
def regionCellsInOrderUptoRow : OpenClaim := { program := "ytlekflgdmieahaa", sum := "ef5edaf949fcb66dc3f08b05a59724ad06674566ed6e0d763aed3fcdc3c99435", func := "printworks/printworkslaw1.RegionCellsInOrder", spec := "regionCellsInOrder", unfollowed := true, recurses := true, plainKeys := false, apart := false, narrowed := true }
def RegionCellsInOrderUptoSaid : Prop := regionCellsInOrderUptoRow.holds Try.pinned (OpenSpec.upto regionCellsInOrderSpec)

/-- 'printworkslaw1.RegionRowsInOrder', WHERE WHAT IT READS IS OF BULK AT MOST 1048576: true; the input reads as it did. -/
def regionRowsInOrderUptoRow : OpenClaim := { program := "ytlekflgdmieahaa", sum := "ef5edaf949fcb66dc3f08b05a59724ad06674566ed6e0d763aed3fcdc3c99435", func := "printworks/printworkslaw1.RegionRowsInOrder", spec := "regionRowsInOrder", unfollowed := true, recurses := true, plainKeys := false, apart := false, narrowed := true }
def RegionRowsInOrderUptoSaid : Prop := regionRowsInOrderUptoRow.holds Try.pinned (OpenSpec.upto regionRowsInOrderSpec)

/-- 'printworkslaw1.DashLines', WHERE WHAT IT READS IS OF BULK AT MOST 1048576: true; the input reads as it did. -/
def dashLinesUptoRow : OpenClaim := { program := "ytlekflgdmieahaa", sum := "ef5edaf949fcb66dc3f08b05a59724ad06674566ed6e0d763aed3fcdc3c99435", func := "printworks/printworkslaw1.DashLines", spec := "dashLines", unfollowed := true, recurses := true, plainKeys := false, apart := false, narrowed := true }
def DashLinesUptoSaid : Prop := dashLinesUptoRow.holds Try.pinned (OpenSpec.upto dashLinesSpec)

/-- 'printworkslaw1.ConicFlattenLines', WHERE WHAT IT READS IS OF BULK AT MOST 1048576: true; the input reads as it did. -/
def conicFlattenLinesUptoRow : OpenClaim := { program := "ytlekflgdmieahaa", sum := "ef5edaf949fcb66dc3f08b05a59724ad06674566ed6e0d763aed3fcdc3c99435", func := "printworks/printworkslaw1.ConicFlattenLines", spec := "conicFlattenLines", plainKeys := false, apart := false, narrowed := true }
def ConicFlattenLinesUptoSaid : Prop := conicFlattenLinesUptoRow.holds Try.pinned (OpenSpec.upto conicFlattenLinesSpec)

/-- 'printworkslaw1.StrokeOutlineParts', WHERE WHAT IT READS IS OF BULK AT MOST 1048576: true; the input reads as it did. -/
def strokeOutlinePartsUptoRow : OpenClaim := { program := "ytlekflgdmieahaa", sum := "ef5edaf949fcb66dc3f08b05a59724ad06674566ed6e0d763aed3fcdc3c99435", func := "printworks/printworkslaw1.StrokeOutlineParts", spec := "strokeOutlineParts", unfollowed := true, recurses := true, plainKeys := false, apart := false, narrowed := true }
def StrokeOutlinePartsUptoSaid : Prop := strokeOutlinePartsUptoRow.holds Try.pinned (OpenSpec.upto strokeOutlinePartsSpec)

/-- 'printworkslaw1.MorphDilateCells', WHERE WHAT IT READS IS OF BULK AT MOST 1048576: true; the input reads as it did. -/
def morphDilateCellsUptoRow : OpenClaim := { program := "ytlekflgdmieahaa", sum := "ef5edaf949fcb66dc3f08b05a59724ad06674566ed6e0d763aed3fcdc3c99435", func := "printworks/printworkslaw1.MorphDilateCells", spec := "morphDilateCells", unfollowed := true, recurses := true, plainKeys := false, apart := false, narrowed := true }
def MorphDilateCellsUptoSaid : Prop := morphDilateCellsUptoRow.holds Try.pinned (OpenSpec.upto morphDilateCellsSpec)

/-- 'printworkslaw1.MorphErodeCells', WHERE WHAT IT READS IS OF BULK AT MOST 1048576: true; the input reads as it did. -/
def morphErodeCellsUptoRow : OpenClaim := { program := "ytlekflgdmieahaa", sum := "ef5edaf949fcb66dc3f08b05a59724ad06674566ed6e0d763aed3fcdc3c99435", func := "printworks/printworkslaw1.MorphErodeCells", spec := "morphErodeCells", unfollowed := true, recurses := true, plainKeys := false, apart := false, narrowed := true }
def MorphErodeCellsUptoSaid : Prop := morphErodeCellsUptoRow.holds Try.pinned (OpenSpec.upto morphErodeCellsSpec)

/-- 'printworkslaw1.MorphOpenCloseCells', WHERE WHAT IT READS IS OF BULK AT MOST 1048576: true; the input reads as it did. -/
def morphOpenCloseCellsUptoRow : OpenClaim := { program := "ytlekflgdmieahaa", sum := "ef5edaf949fcb66dc3f08b05a59724ad06674566ed6e0d763aed3fcdc3c99435", func := "printworks/printworkslaw1.MorphOpenCloseCells", spec := "morphOpenCloseCells", unfollowed := true, recurses := true, plainKeys := false, apart := false, narrowed := true }
def MorphOpenCloseCellsUptoSaid : Prop := morphOpenCloseCellsUptoRow.holds Try.pinned (OpenSpec.upto morphOpenCloseCellsSpec)

/-- 'printworkslaw1.MorphEdgeCells', WHERE WHAT IT READS IS OF BULK AT MOST 1048576: true; the input reads as it did. -/
def morphEdgeCellsUptoRow : OpenClaim := { program := "ytlekflgdmieahaa", sum := "ef5edaf949fcb66dc3f08b05a59724ad06674566ed6e0d763aed3fcdc3c99435", func := "printworks/printworkslaw1.MorphEdgeCells", spec := "morphEdgeCells", unfollowed := true, recurses := true, plainKeys := false, apart := false, narrowed := true }
def MorphEdgeCellsUptoSaid : Prop := morphEdgeCellsUptoRow.holds Try.pinned (OpenSpec.upto morphEdgeCellsSpec)

/-- 'printworkslaw1.FlatChecks', WHERE WHAT IT READS IS OF BULK AT MOST 1048576: true; the input reads as it did. -/
def flatChecksUptoRow : OpenClaim := { program := "ytlekflgdmieahaa", sum := "ef5edaf949fcb66dc3f08b05a59724ad06674566ed6e0d763aed3fcdc3c99435", func := "printworks/printworkslaw1.FlatChecks", spec := "flatChecks", unfollowed := true, recurses := true, plainKeys := false, apart := false, narrowed := true }
def FlatChecksUptoSaid : Prop := flatChecksUptoRow.holds Try.pinned (OpenSpec.upto flatChecksSpec)

end Rows
end Go.Proofs.Ytlekflgdmieahaa
