/-
  No cell of these rows narrows 'for every input' (looked for: loops, veiled, ifaces, maps, wideKeys, modest, calm, conditions, laid).
  DERIVED. THE GIVEN ROWS OF THIS SEAT. 5 by the template 'for every input the law returns true; each argument reads behind the call as it read before'; 0 by the template 'total and deterministic' (their statements: YtmklpphdbmpbbaaTotals.lean).
  GIVEN WITH THE SEED: the statements are not yours to turn. If you find one false, say at which input.
  Laid BY PROGRAM, IN A SANDBOX (cutbox-rows.mjs): the forced cells as the released guide's own fill.sh prints them over the translation ac9a47450523b8ce… (all of the seat's roots in one cut). By AI agents, Wed Nov 11 2026. No macro, syntax, notation, axiom, sorry.
-/
import Derived.Test.YtmklpphdbmpbbaaChecked
import GoSem.Claim
import GoSem.ClaimJoined
import GoSem.ClaimMapViews
import Derived.JoinedTies
import Derived.KernelRfl
namespace Go.Proofs.Ytmklpphdbmpbbaa
/- THE CELL 'sum', in the pinned program and in every row, IS THE sha256 OF THE DUMP (.gsa) THAT YtmklpphdbmpbbaaProg.lean LOADS. Nothing in Lean hashes anything: it is a label: what it is worth is what the hold of that sum in a sandbox is worth. -/
noncomputable def Try.pinned : Pinned := { name := "ytmklpphdbmpbbaa", sum := "ac9a47450523b8cefa222e635bcc61534abb6aec3f268dd17a4a23f29c026456", checked := Try.checked }
namespace Rows
def none {H : Type} : Left H := { results := [], args := [] }

/-- 'printworkslaw1.RegionCellsInOrder': WHATEVER THE INPUT: true; the input reads as it did. -/
def regionCellsInOrderSpec : ChangeSpec := { name := "regionCellsInOrder", fn := fun _ => fun
  | [d1, d2] => { results := [.lit (.bool true)], args := [d1, d2] }
  | _ => none }
def regionCellsInOrderRow : OpenClaim := { program := "ytmklpphdbmpbbaa", sum := "ac9a47450523b8cefa222e635bcc61534abb6aec3f268dd17a4a23f29c026456", func := "printworks/printworkslaw1.RegionCellsInOrder", spec := "regionCellsInOrder", unfollowed := true, recurses := true, apart := false }
def RegionCellsInOrderSaid : Prop := regionCellsInOrderRow.holds Try.pinned (OpenSpec.ofChange regionCellsInOrderSpec)

/-- ITS FALSE NEIGHBOUR: 'it returns false'. Refute it at one input. -/
def regionCellsInOrderWrong : ChangeSpec := { name := "regionCellsInOrder", fn := fun _ => fun
  | [d1, d2] => { results := [.lit (.bool false)], args := [d1, d2] }
  | _ => none }
def RegionCellsInOrderWrongFalsely : Prop := regionCellsInOrderRow.holds Try.pinned (OpenSpec.ofChange regionCellsInOrderWrong)

/-- 'printworkslaw1.RegionRowsInOrder': WHATEVER THE INPUT: true; the input reads as it did. -/
def regionRowsInOrderSpec : ChangeSpec := { name := "regionRowsInOrder", fn := fun _ => fun
  | [d] => { results := [.lit (.bool true)], args := [d] }
  | _ => none }
def regionRowsInOrderRow : OpenClaim := { program := "ytmklpphdbmpbbaa", sum := "ac9a47450523b8cefa222e635bcc61534abb6aec3f268dd17a4a23f29c026456", func := "printworks/printworkslaw1.RegionRowsInOrder", spec := "regionRowsInOrder", unfollowed := true, recurses := true, apart := false }
def RegionRowsInOrderSaid : Prop := regionRowsInOrderRow.holds Try.pinned (OpenSpec.ofChange regionRowsInOrderSpec)

/-- ITS FALSE NEIGHBOUR: 'it returns false'. Refute it at one input. -/
def regionRowsInOrderWrong : ChangeSpec := { name := "regionRowsInOrder", fn := fun _ => fun
  | [d] => { results := [.lit (.bool false)], args := [d] }
  | _ => none }
def RegionRowsInOrderWrongFalsely : Prop := regionRowsInOrderRow.holds Try.pinned (OpenSpec.ofChange regionRowsInOrderWrong)

/-- 'printworkslaw1.RasterRowsInOrder': WHATEVER THE INPUT: true; the input reads as it did. -/
def rasterRowsInOrderSpec : ChangeSpec := { name := "rasterRowsInOrder", fn := fun _ => fun
  | [d1, d2, d3, d4] => { results := [.lit (.bool true)], args := [d1, d2, d3, d4] }
  | _ => none }
def rasterRowsInOrderRow : OpenClaim := { program := "ytmklpphdbmpbbaa", sum := "ac9a47450523b8cefa222e635bcc61534abb6aec3f268dd17a4a23f29c026456", func := "printworks/printworkslaw1.RasterRowsInOrder", spec := "rasterRowsInOrder", unfollowed := true, recurses := true, apart := false }
def RasterRowsInOrderSaid : Prop := rasterRowsInOrderRow.holds Try.pinned (OpenSpec.ofChange rasterRowsInOrderSpec)

/-- ITS FALSE NEIGHBOUR: 'it returns false'. Refute it at one input. -/
def rasterRowsInOrderWrong : ChangeSpec := { name := "rasterRowsInOrder", fn := fun _ => fun
  | [d1, d2, d3, d4] => { results := [.lit (.bool false)], args := [d1, d2, d3, d4] }
  | _ => none }
def RasterRowsInOrderWrongFalsely : Prop := rasterRowsInOrderRow.holds Try.pinned (OpenSpec.ofChange rasterRowsInOrderWrong)

/-- 'printworkslaw1.RasterPastePixels': WHATEVER THE INPUT: true; the input reads as it did. -/
def rasterPastePixelsSpec : ChangeSpec := { name := "rasterPastePixels", fn := fun _ => fun
  | [d1, d2, d3, d4, d5, d6, d7, d8] => { results := [.lit (.bool true)], args := [d1, d2, d3, d4, d5, d6, d7, d8] }
  | _ => none }
def rasterPastePixelsRow : OpenClaim := { program := "ytmklpphdbmpbbaa", sum := "ac9a47450523b8cefa222e635bcc61534abb6aec3f268dd17a4a23f29c026456", func := "printworks/printworkslaw1.RasterPastePixels", spec := "rasterPastePixels", unfollowed := true, recurses := true, apart := false }
def RasterPastePixelsSaid : Prop := rasterPastePixelsRow.holds Try.pinned (OpenSpec.ofChange rasterPastePixelsSpec)

/-- ITS FALSE NEIGHBOUR: 'it returns false'. Refute it at one input. -/
def rasterPastePixelsWrong : ChangeSpec := { name := "rasterPastePixels", fn := fun _ => fun
  | [d1, d2, d3, d4, d5, d6, d7, d8] => { results := [.lit (.bool false)], args := [d1, d2, d3, d4, d5, d6, d7, d8] }
  | _ => none }
def RasterPastePixelsWrongFalsely : Prop := rasterPastePixelsRow.holds Try.pinned (OpenSpec.ofChange rasterPastePixelsWrong)

/-- 'printworkslaw1.NumMulDivExact': WHATEVER THE INPUT: true; the input reads as it did. -/
def numMulDivExactSpec : ChangeSpec := { name := "numMulDivExact", fn := fun _ => fun
  | [d1, d2, d3] => { results := [.lit (.bool true)], args := [d1, d2, d3] }
  | _ => none }
def numMulDivExactRow : OpenClaim := { program := "ytmklpphdbmpbbaa", sum := "ac9a47450523b8cefa222e635bcc61534abb6aec3f268dd17a4a23f29c026456", func := "printworks/printworkslaw1.NumMulDivExact", spec := "numMulDivExact", named := ["math/bits.divideError", "math/bits.overflowError"], apart := false }
def NumMulDivExactSaid : Prop := numMulDivExactRow.holds Try.pinned (OpenSpec.ofChange numMulDivExactSpec)

/-- ITS FALSE NEIGHBOUR: 'it returns false'. Refute it at one input. -/
def numMulDivExactWrong : ChangeSpec := { name := "numMulDivExact", fn := fun _ => fun
  | [d1, d2, d3] => { results := [.lit (.bool false)], args := [d1, d2, d3] }
  | _ => none }
def NumMulDivExactWrongFalsely : Prop := numMulDivExactRow.holds Try.pinned (OpenSpec.ofChange numMulDivExactWrong)

/- THE SECOND FORM. 'bulk': how many values and letters a reading holds, each counted each time it is reached (what is shared counts as often as it is met; a slice's spare places count too). A statement '..UptoSaid' is the law's where the arguments, and the package variables that the reading takes, are together of bulk at most 1048576: NARROWER than '..Said'. Prove '..Said' where nothing that the law and all that it calls make is longer than what came in: it says more and counts as full. Else prove '..UptoSaid'. A law counts once. -/
mutual
def uptoBulk {H : Type} : DataW H → Nat
  | .lit (.string bytes) => bytes.length + 1
  | .lit _ => 1
  | .nil => 1
  | .ptr d => uptoBulk d + 1
  | .slice elems spare => uptoBulkAll elems + uptoBulkAll spare + 1
  | .agg parts => uptoBulkAll parts + 1
  | .iface _ d => uptoBulk d + 1
  | .map entries => uptoBulkEntries entries + 1
  | .held _ => 1
def uptoBulkAll {H : Type} : List (DataW H) → Nat
  | [] => 0
  | d :: r => uptoBulk d + uptoBulkAll r
def uptoBulkEntries {H : Type} : List (Lit × DataW H) → Nat
  | [] => 0
  | x :: r => uptoBulkEntry x + uptoBulkEntries r
def uptoBulkEntry {H : Type} : Lit × DataW H → Nat
  | (.string bytes, d) => bytes.length + uptoBulk d + 1
  | (_, d) => uptoBulk d + 1
 end
def uptoSmall : (H : Type) → List (DataW H) → Bool := fun _ ds => decide (uptoBulkAll ds ≤ 1048576)
def OpenSpec.upto (s : _root_.Go.ChangeSpec) : _root_.Go.OpenSpec := { _root_.Go.OpenSpec.ofChange s with cond := some uptoSmall }

/-- 'printworkslaw1.RegionCellsInOrder', WHERE WHAT IT READS IS OF BULK AT MOST 1048576: true; the input reads as it did. -/
def regionCellsInOrderUptoRow : OpenClaim := { program := "ytmklpphdbmpbbaa", sum := "ac9a47450523b8cefa222e635bcc61534abb6aec3f268dd17a4a23f29c026456", func := "printworks/printworkslaw1.RegionCellsInOrder", spec := "regionCellsInOrder", unfollowed := true, recurses := true, apart := false, narrowed := true }
def RegionCellsInOrderUptoSaid : Prop := regionCellsInOrderUptoRow.holds Try.pinned (OpenSpec.upto regionCellsInOrderSpec)

/-- 'printworkslaw1.RegionRowsInOrder', WHERE WHAT IT READS IS OF BULK AT MOST 1048576: true; the input reads as it did. -/
def regionRowsInOrderUptoRow : OpenClaim := { program := "ytmklpphdbmpbbaa", sum := "ac9a47450523b8cefa222e635bcc61534abb6aec3f268dd17a4a23f29c026456", func := "printworks/printworkslaw1.RegionRowsInOrder", spec := "regionRowsInOrder", unfollowed := true, recurses := true, apart := false, narrowed := true }
def RegionRowsInOrderUptoSaid : Prop := regionRowsInOrderUptoRow.holds Try.pinned (OpenSpec.upto regionRowsInOrderSpec)

/-- 'printworkslaw1.RasterRowsInOrder', WHERE WHAT IT READS IS OF BULK AT MOST 1048576: true; the input reads as it did. -/
def rasterRowsInOrderUptoRow : OpenClaim := { program := "ytmklpphdbmpbbaa", sum := "ac9a47450523b8cefa222e635bcc61534abb6aec3f268dd17a4a23f29c026456", func := "printworks/printworkslaw1.RasterRowsInOrder", spec := "rasterRowsInOrder", unfollowed := true, recurses := true, apart := false, narrowed := true }
def RasterRowsInOrderUptoSaid : Prop := rasterRowsInOrderUptoRow.holds Try.pinned (OpenSpec.upto rasterRowsInOrderSpec)

/-- 'printworkslaw1.RasterPastePixels', WHERE WHAT IT READS IS OF BULK AT MOST 1048576: true; the input reads as it did. -/
def rasterPastePixelsUptoRow : OpenClaim := { program := "ytmklpphdbmpbbaa", sum := "ac9a47450523b8cefa222e635bcc61534abb6aec3f268dd17a4a23f29c026456", func := "printworks/printworkslaw1.RasterPastePixels", spec := "rasterPastePixels", unfollowed := true, recurses := true, apart := false, narrowed := true }
def RasterPastePixelsUptoSaid : Prop := rasterPastePixelsUptoRow.holds Try.pinned (OpenSpec.upto rasterPastePixelsSpec)

/-- 'printworkslaw1.NumMulDivExact', WHERE WHAT IT READS IS OF BULK AT MOST 1048576: true; the input reads as it did. -/
def numMulDivExactUptoRow : OpenClaim := { program := "ytmklpphdbmpbbaa", sum := "ac9a47450523b8cefa222e635bcc61534abb6aec3f268dd17a4a23f29c026456", func := "printworks/printworkslaw1.NumMulDivExact", spec := "numMulDivExact", named := ["math/bits.divideError", "math/bits.overflowError"], apart := false, narrowed := true }
def NumMulDivExactUptoSaid : Prop := numMulDivExactUptoRow.holds Try.pinned (OpenSpec.upto numMulDivExactSpec)

end Rows
end Go.Proofs.Ytmklpphdbmpbbaa
