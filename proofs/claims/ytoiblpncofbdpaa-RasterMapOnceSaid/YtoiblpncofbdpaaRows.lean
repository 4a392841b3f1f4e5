/-
  No cell of these rows narrows 'for every input' (looked for: loops, veiled, ifaces, maps, wideKeys, modest, calm, conditions, laid).
  DERIVED. THE GIVEN ROWS OF THIS SEAT. 12 by the template 'for every input the law returns true; each argument reads behind the call as it read before'; 0 by the template 'total and deterministic' (their statements: YtoiblpncofbdpaaTotals.lean).
  GIVEN WITH THE SEED: the statements are not yours to turn. If you find one false, say at which input.
  Laid BY PROGRAM, IN A SANDBOX (cutbox-rows.mjs): the forced cells as the released guide's own fill.sh prints them over the translation 539942fe552034f1… (all of the seat's roots in one cut). By AI agents, Wed Nov 11 2026. No macro, syntax, notation, axiom, sorry.
-/
import Derived.Test.YtoiblpncofbdpaaChecked
import GoSem.Claim
import GoSem.ClaimJoined
import GoSem.ClaimMapViews
import Derived.JoinedTies
import Derived.KernelRfl
namespace Go.Proofs.Ytoiblpncofbdpaa
/- THE CELL 'sum', in the pinned program and in every row, IS THE sha256 OF THE DUMP (.gsa) THAT YtoiblpncofbdpaaProg.lean LOADS. Nothing in Lean hashes anything: it is a label: what it is worth is what the hold of that sum in a sandbox is worth. -/
noncomputable def Try.pinned : Pinned := { name := "ytoiblpncofbdpaa", sum := "539942fe552034f17f1b1c4753c0450cb8b633be8348292277e7d1b67af1ca2a", checked := Try.checked }
namespace Rows
def none {H : Type} : Left H := { results := [], args := [] }

/-- 'printworkslaw1.GradientChecks': WHATEVER THE INPUT: true; the input reads as it did. -/
def gradientChecksSpec : ChangeSpec := { name := "gradientChecks", fn := fun _ => fun
  | [d] => { results := [.lit (.bool true)], args := [d] }
  | _ => none }
def gradientChecksRow : OpenClaim := { program := "ytoiblpncofbdpaa", sum := "539942fe552034f17f1b1c4753c0450cb8b633be8348292277e7d1b67af1ca2a", func := "printworks/printworkslaw1.GradientChecks", spec := "gradientChecks", apart := false }
def GradientChecksSaid : Prop := gradientChecksRow.holds Try.pinned (OpenSpec.ofChange gradientChecksSpec)

/-- ITS FALSE NEIGHBOUR: 'it returns false'. Refute it at one input. -/
def gradientChecksWrong : ChangeSpec := { name := "gradientChecks", fn := fun _ => fun
  | [d] => { results := [.lit (.bool false)], args := [d] }
  | _ => none }
def GradientChecksWrongFalsely : Prop := gradientChecksRow.holds Try.pinned (OpenSpec.ofChange gradientChecksWrong)

/-- 'printworkslaw1.TallySums': WHATEVER THE INPUT: true; the input reads as it did. -/
def tallySumsSpec : ChangeSpec := { name := "tallySums", fn := fun _ => fun
  | [d1, d2, d3, d4] => { results := [.lit (.bool true)], args := [d1, d2, d3, d4] }
  | _ => none }
def tallySumsRow : OpenClaim := { program := "ytoiblpncofbdpaa", sum := "539942fe552034f17f1b1c4753c0450cb8b633be8348292277e7d1b67af1ca2a", func := "printworks/printworkslaw1.TallySums", spec := "tallySums", unfollowed := true, recurses := true, apart := false }
def TallySumsSaid : Prop := tallySumsRow.holds Try.pinned (OpenSpec.ofChange tallySumsSpec)

/-- ITS FALSE NEIGHBOUR: 'it returns false'. Refute it at one input. -/
def tallySumsWrong : ChangeSpec := { name := "tallySums", fn := fun _ => fun
  | [d1, d2, d3, d4] => { results := [.lit (.bool false)], args := [d1, d2, d3, d4] }
  | _ => none }
def TallySumsWrongFalsely : Prop := tallySumsRow.holds Try.pinned (OpenSpec.ofChange tallySumsWrong)

/-- 'printworkslaw1.PathCheckFirst': WHATEVER THE INPUT: true; the input reads as it did. -/
def pathCheckFirstSpec : ChangeSpec := { name := "pathCheckFirst", fn := fun _ => fun
  | [d] => { results := [.lit (.bool true)], args := [d] }
  | _ => none }
def pathCheckFirstRow : OpenClaim := { program := "ytoiblpncofbdpaa", sum := "539942fe552034f17f1b1c4753c0450cb8b633be8348292277e7d1b67af1ca2a", func := "printworks/printworkslaw1.PathCheckFirst", spec := "pathCheckFirst", apart := false }
def PathCheckFirstSaid : Prop := pathCheckFirstRow.holds Try.pinned (OpenSpec.ofChange pathCheckFirstSpec)

/-- ITS FALSE NEIGHBOUR: 'it returns false'. Refute it at one input. -/
def pathCheckFirstWrong : ChangeSpec := { name := "pathCheckFirst", fn := fun _ => fun
  | [d] => { results := [.lit (.bool false)], args := [d] }
  | _ => none }
def PathCheckFirstWrongFalsely : Prop := pathCheckFirstRow.holds Try.pinned (OpenSpec.ofChange pathCheckFirstWrong)

/-- 'printworkslaw1.RasterChecks': WHATEVER THE INPUT: true; the input reads as it did. -/
def rasterChecksSpec : ChangeSpec := { name := "rasterChecks", fn := fun _ => fun
  | [d1, d2, d3, d4] => { results := [.lit (.bool true)], args := [d1, d2, d3, d4] }
  | _ => none }
def rasterChecksRow : OpenClaim := { program := "ytoiblpncofbdpaa", sum := "539942fe552034f17f1b1c4753c0450cb8b633be8348292277e7d1b67af1ca2a", func := "printworks/printworkslaw1.RasterChecks", spec := "rasterChecks", unfollowed := true, recurses := true, apart := false }
def RasterChecksSaid : Prop := rasterChecksRow.holds Try.pinned (OpenSpec.ofChange rasterChecksSpec)

/-- ITS FALSE NEIGHBOUR: 'it returns false'. Refute it at one input. -/
def rasterChecksWrong : ChangeSpec := { name := "rasterChecks", fn := fun _ => fun
  | [d1, d2, d3, d4] => { results := [.lit (.bool false)], args := [d1, d2, d3, d4] }
  | _ => none }
def RasterChecksWrongFalsely : Prop := rasterChecksRow.holds Try.pinned (OpenSpec.ofChange rasterChecksWrong)

/-- 'printworkslaw1.RasterTurnPixels': WHATEVER THE INPUT: true; the input reads as it did. -/
def rasterTurnPixelsSpec : ChangeSpec := { name := "rasterTurnPixels", fn := fun _ => fun
  | [d1, d2, d3, d4] => { results := [.lit (.bool true)], args := [d1, d2, d3, d4] }
  | _ => none }
def rasterTurnPixelsRow : OpenClaim := { program := "ytoiblpncofbdpaa", sum := "539942fe552034f17f1b1c4753c0450cb8b633be8348292277e7d1b67af1ca2a", func := "printworks/printworkslaw1.RasterTurnPixels", spec := "rasterTurnPixels", unfollowed := true, recurses := true, apart := false }
def RasterTurnPixelsSaid : Prop := rasterTurnPixelsRow.holds Try.pinned (OpenSpec.ofChange rasterTurnPixelsSpec)

/-- ITS FALSE NEIGHBOUR: 'it returns false'. Refute it at one input. -/
def rasterTurnPixelsWrong : ChangeSpec := { name := "rasterTurnPixels", fn := fun _ => fun
  | [d1, d2, d3, d4] => { results := [.lit (.bool false)], args := [d1, d2, d3, d4] }
  | _ => none }
def RasterTurnPixelsWrongFalsely : Prop := rasterTurnPixelsRow.holds Try.pinned (OpenSpec.ofChange rasterTurnPixelsWrong)

/-- 'printworkslaw1.RasterMapOnce': WHATEVER THE INPUT: true; the input reads as it did. -/
def rasterMapOnceSpec : ChangeSpec := { name := "rasterMapOnce", fn := fun _ => fun
  | [d1, d2, d3] => { results := [.lit (.bool true)], args := [d1, d2, d3] }
  | _ => none }
def rasterMapOnceRow : OpenClaim := { program := "ytoiblpncofbdpaa", sum := "539942fe552034f17f1b1c4753c0450cb8b633be8348292277e7d1b67af1ca2a", func := "printworks/printworkslaw1.RasterMapOnce", spec := "rasterMapOnce", unfollowed := true, recurses := true, apart := false }
def RasterMapOnceSaid : Prop := rasterMapOnceRow.holds Try.pinned (OpenSpec.ofChange rasterMapOnceSpec)

/-- ITS FALSE NEIGHBOUR: 'it returns false'. Refute it at one input. -/
def rasterMapOnceWrong : ChangeSpec := { name := "rasterMapOnce", fn := fun _ => fun
  | [d1, d2, d3] => { results := [.lit (.bool false)], args := [d1, d2, d3] }
  | _ => none }
def RasterMapOnceWrongFalsely : Prop := rasterMapOnceRow.holds Try.pinned (OpenSpec.ofChange rasterMapOnceWrong)

/-- 'printworkslaw1.ImageChecks': WHATEVER THE INPUT: true; the input reads as it did. -/
def imageChecksSpec : ChangeSpec := { name := "imageChecks", fn := fun _ => fun
  | [d] => { results := [.lit (.bool true)], args := [d] }
  | _ => none }
def imageChecksRow : OpenClaim := { program := "ytoiblpncofbdpaa", sum := "539942fe552034f17f1b1c4753c0450cb8b633be8348292277e7d1b67af1ca2a", func := "printworks/printworkslaw1.ImageChecks", spec := "imageChecks", unfollowed := true, recurses := true, apart := false }
def ImageChecksSaid : Prop := imageChecksRow.holds Try.pinned (OpenSpec.ofChange imageChecksSpec)

/-- ITS FALSE NEIGHBOUR: 'it returns false'. Refute it at one input. -/
def imageChecksWrong : ChangeSpec := { name := "imageChecks", fn := fun _ => fun
  | [d] => { results := [.lit (.bool false)], args := [d] }
  | _ => none }
def ImageChecksWrongFalsely : Prop := imageChecksRow.holds Try.pinned (OpenSpec.ofChange imageChecksWrong)

/-- 'printworkslaw1.TallyCounts': WHATEVER THE INPUT: true; the input reads as it did. -/
def tallyCountsSpec : ChangeSpec := { name := "tallyCounts", fn := fun _ => fun
  | [d1, d2] => { results := [.lit (.bool true)], args := [d1, d2] }
  | _ => none }
def tallyCountsRow : OpenClaim := { program := "ytoiblpncofbdpaa", sum := "539942fe552034f17f1b1c4753c0450cb8b633be8348292277e7d1b67af1ca2a", func := "printworks/printworkslaw1.TallyCounts", spec := "tallyCounts", unfollowed := true, recurses := true, apart := false }
def TallyCountsSaid : Prop := tallyCountsRow.holds Try.pinned (OpenSpec.ofChange tallyCountsSpec)

/-- ITS FALSE NEIGHBOUR: 'it returns false'. Refute it at one input. -/
def tallyCountsWrong : ChangeSpec := { name := "tallyCounts", fn := fun _ => fun
  | [d1, d2] => { results := [.lit (.bool false)], args := [d1, d2] }
  | _ => none }
def TallyCountsWrongFalsely : Prop := tallyCountsRow.holds Try.pinned (OpenSpec.ofChange tallyCountsWrong)

/-- 'printworkslaw1.RasterCropPixels': WHATEVER THE INPUT: true; the input reads as it did. -/
def rasterCropPixelsSpec : ChangeSpec := { name := "rasterCropPixels", fn := fun _ => fun
  | [d1, d2, d3, d4, d5, d6, d7] => { results := [.lit (.bool true)], args := [d1, d2, d3, d4, d5, d6, d7] }
  | _ => none }
def rasterCropPixelsRow : OpenClaim := { program := "ytoiblpncofbdpaa", sum := "539942fe552034f17f1b1c4753c0450cb8b633be8348292277e7d1b67af1ca2a", func := "printworks/printworkslaw1.RasterCropPixels", spec := "rasterCropPixels", unfollowed := true, recurses := true, apart := false }
def RasterCropPixelsSaid : Prop := rasterCropPixelsRow.holds Try.pinned (OpenSpec.ofChange rasterCropPixelsSpec)

/-- ITS FALSE NEIGHBOUR: 'it returns false'. Refute it at one input. -/
def rasterCropPixelsWrong : ChangeSpec := { name := "rasterCropPixels", fn := fun _ => fun
  | [d1, d2, d3, d4, d5, d6, d7] => { results := [.lit (.bool false)], args := [d1, d2, d3, d4, d5, d6, d7] }
  | _ => none }
def RasterCropPixelsWrongFalsely : Prop := rasterCropPixelsRow.holds Try.pinned (OpenSpec.ofChange rasterCropPixelsWrong)

/-- 'printworkslaw1.RasterPastePixels': WHATEVER THE INPUT: true; the input reads as it did. -/
def rasterPastePixelsSpec : ChangeSpec := { name := "rasterPastePixels", fn := fun _ => fun
  | [d1, d2, d3, d4, d5, d6, d7, d8] => { results := [.lit (.bool true)], args := [d1, d2, d3, d4, d5, d6, d7, d8] }
  | _ => none }
def rasterPastePixelsRow : OpenClaim := { program := "ytoiblpncofbdpaa", sum := "539942fe552034f17f1b1c4753c0450cb8b633be8348292277e7d1b67af1ca2a", func := "printworks/printworkslaw1.RasterPastePixels", spec := "rasterPastePixels", unfollowed := true, recurses := true, apart := false }
def RasterPastePixelsSaid : Prop := rasterPastePixelsRow.holds Try.pinned (OpenSpec.ofChange rasterPastePixelsSpec)

/-- ITS FALSE NEIGHBOUR: 'it returns false'. Refute it at one input. -/
def rasterPastePixelsWrong : ChangeSpec := { name := "rasterPastePixels", fn := fun _ => fun
  | [d1, d2, d3, d4, d5, d6, d7, d8] => { results := [.lit (.bool false)], args := [d1, d2, d3, d4, d5, d6, d7, d8] }
  | _ => none }
def RasterPastePixelsWrongFalsely : Prop := rasterPastePixelsRow.holds Try.pinned (OpenSpec.ofChange rasterPastePixelsWrong)

/-- 'printworkslaw1.BlendModes': WHATEVER THE INPUT: true; the input reads as it did. -/
def blendModesSpec : ChangeSpec := { name := "blendModes", fn := fun _ => fun
  | [d1, d2, d3] => { results := [.lit (.bool true)], args := [d1, d2, d3] }
  | _ => none }
def blendModesRow : OpenClaim := { program := "ytoiblpncofbdpaa", sum := "539942fe552034f17f1b1c4753c0450cb8b633be8348292277e7d1b67af1ca2a", func := "printworks/printworkslaw1.BlendModes", spec := "blendModes", unfollowed := true, recurses := true, apart := false }
def BlendModesSaid : Prop := blendModesRow.holds Try.pinned (OpenSpec.ofChange blendModesSpec)

/-- ITS FALSE NEIGHBOUR: 'it returns false'. Refute it at one input. -/
def blendModesWrong : ChangeSpec := { name := "blendModes", fn := fun _ => fun
  | [d1, d2, d3] => { results := [.lit (.bool false)], args := [d1, d2, d3] }
  | _ => none }
def BlendModesWrongFalsely : Prop := blendModesRow.holds Try.pinned (OpenSpec.ofChange blendModesWrong)

/-- 'printworkslaw1.RasterRowsInOrder': WHATEVER THE INPUT: true; the input reads as it did. -/
def rasterRowsInOrderSpec : ChangeSpec := { name := "rasterRowsInOrder", fn := fun _ => fun
  | [d1, d2, d3, d4] => { results := [.lit (.bool true)], args := [d1, d2, d3, d4] }
  | _ => none }
def rasterRowsInOrderRow : OpenClaim := { program := "ytoiblpncofbdpaa", sum := "539942fe552034f17f1b1c4753c0450cb8b633be8348292277e7d1b67af1ca2a", func := "printworks/printworkslaw1.RasterRowsInOrder", spec := "rasterRowsInOrder", unfollowed := true, recurses := true, apart := false }
def RasterRowsInOrderSaid : Prop := rasterRowsInOrderRow.holds Try.pinned (OpenSpec.ofChange rasterRowsInOrderSpec)

/-- ITS FALSE NEIGHBOUR: 'it returns false'. Refute it at one input. -/
def rasterRowsInOrderWrong : ChangeSpec := { name := "rasterRowsInOrder", fn := fun _ => fun
  | [d1, d2, d3, d4] => { results := [.lit (.bool false)], args := [d1, d2, d3, d4] }
  | _ => none }
def RasterRowsInOrderWrongFalsely : Prop := rasterRowsInOrderRow.holds Try.pinned (OpenSpec.ofChange rasterRowsInOrderWrong)

/- THE SECOND FORM. 'bulk': how many values and letters a reading holds, each counted each time it is reached (what is shared counts as often as it is met; a slice's spare places count too). A statement '..UptoSaid' is the law's where the arguments, and the package variables that the reading takes, are together of bulk at most 1048576: NARROWER than '..Said'. Prove '..Said' where nothing that the law and all that it calls make is longer than what came in: it says more and counts as full. Else prove '..UptoSaid'. A law counts once. -/
mutual
def uptoBulk {H : Type} : DataW H → Nat
  | .lit (.string bytes) => bytes.length + 1
  | .lit _ => 1
  | .nil => 1
  | .ptr d => uptoBulk d + 1
  | .slice elems spare => uptoBulkAll elems + uptoBulkAll spare + 1
  | .agg parts => uptoBulkAll parts + 1
  | .iface _ d => uptoBulk d + 1
  | .map entries => uptoBulkEntries entries + 1
  | .held _ => 1
def uptoBulkAll {H : Type} : List (DataW H) → Nat
  | [] => 0
  | d :: r => uptoBulk d + uptoBulkAll r
def uptoBulkEntries {H : Type} : List (Lit × DataW H) → Nat
  | [] => 0
  | x :: r => uptoBulkEntry x + uptoBulkEntries r
def uptoBulkEntry {H : Type} : Lit × DataW H → Nat
  | (.string bytes, d) => bytes.length + uptoBulk d + 1
  | (_, d) => uptoBulk d + 1
 end
def uptoSmall : (H : Type) → List (DataW H) → Bool := fun _ ds => decide (uptoBulkAll ds ≤ 1048576)
def OpenSpec.upto (s : _root_.Go.ChangeSpec) : _root_.Go.OpenSpec := { _root_.Go.OpenSpec.ofChange s with cond := some uptoSmall }

/-- 'printworkslaw1.GradientChecks', WHERE WHAT IT READS IS OF BULK AT MOST 1048576: true; the input reads as it did. -/
def gradientChecksUptoRow : OpenClaim := { program := "ytoiblpncofbdpaa", sum := "539942fe552034f17f1b1c4753c0450cb8b633be8348292277e7d1b67af1ca2a", func := "printworks/printworkslaw1.GradientChecks", spec := "gradientChecks", apart := false, narrowed := true }
def GradientChecksUptoSaid : Prop := gradientChecksUptoRow.holds Try.pinned (OpenSpec.upto gradientChecksSpec)

/-- 'printworkslaw1.TallySums', WHERE WHAT IT READS IS OF BULK AT MOST 1048576: true; the input reads as it did. -/
def tallySumsUptoRow : OpenClaim := { program := "ytoiblpncofbdpaa", sum := "539942fe552034f17f1b1c4753c0450cb8b633be8348292277e7d1b67af1ca2a", func := "printworks/printworkslaw1.TallySums", spec := "tallySums", unfollowed := true, recurses := true, apart := false, narrowed := true }
def TallySumsUptoSaid : Prop := tallySumsUptoRow.holds Try.pinned (OpenSpec.upto tallySumsSpec)

/-- 'printworkslaw1.PathCheckFirst', WHERE WHAT IT READS IS OF BULK AT MOST 1048576: true; the input reads as it did. -/
def pathCheckFirstUptoRow : OpenClaim := { program := "ytoiblpncofbdpaa", sum := "539942fe552034f17f1b1c4753c0450cb8b633be8348292277e7d1b67af1ca2a", func := "printworks/printworkslaw1.PathCheckFirst", spec := "pathCheckFirst", apart := false, narrowed := true }
def PathCheckFirstUptoSaid : Prop := pathCheckFirstUptoRow.holds Try.pinned (OpenSpec.upto pathCheckFirstSpec)

/-- 'printworkslaw1.RasterChecks', WHERE WHAT IT READS IS OF BULK AT MOST 1048576: true; the input reads as it did. -/
def rasterChecksUptoRow : OpenClaim := { program := "ytoiblpncofbdpaa", sum := "539942fe552034f17f1b1c4753c0450cb8b633be8348292277e7d1b67af1ca2a", func := "printworks/printworkslaw1.RasterChecks", spec := "rasterChecks", unfollowed := true, recurses := true, apart := false, narrowed := true }
def RasterChecksUptoSaid : Prop := rasterChecksUptoRow.holds Try.pinned (OpenSpec.upto rasterChecksSpec)

/-- 'printworkslaw1.RasterTurnPixels', WHERE WHAT IT READS IS OF BULK AT MOST 1048576: true; the input reads as it did. -/
def rasterTurnPixelsUptoRow : OpenClaim := { program := "ytoiblpncofbdpaa", sum := "539942fe552034f17f1b1c4753c0450cb8b633be8348292277e7d1b67af1ca2a", func := "printworks/printworkslaw1.RasterTurnPixels", spec := "rasterTurnPixels", unfollowed := true, recurses := true, apart := false, narrowed := true }
def RasterTurnPixelsUptoSaid : Prop := rasterTurnPixelsUptoRow.holds Try.pinned (OpenSpec.upto rasterTurnPixelsSpec)

/-- 'printworkslaw1.RasterMapOnce', WHERE WHAT IT READS IS OF BULK AT MOST 1048576: true; the input reads as it did. -/
def rasterMapOnceUptoRow : OpenClaim := { program := "ytoiblpncofbdpaa", sum := "539942fe552034f17f1b1c4753c0450cb8b633be8348292277e7d1b67af1ca2a", func := "printworks/printworkslaw1.RasterMapOnce", spec := "rasterMapOnce", unfollowed := true, recurses := true, apart := false, narrowed := true }
def RasterMapOnceUptoSaid : Prop := rasterMapOnceUptoRow.holds Try.pinned (OpenSpec.upto rasterMapOnceSpec)

/-- 'printworkslaw1.ImageChecks', WHERE WHAT IT READS IS OF BULK AT MOST 1048576: true; the input reads as it did. -/
def imageChecksUptoRow : OpenClaim := { program := "ytoiblpncofbdpaa", sum := "539942fe552034f17f1b1c4753c0450cb8b633be8348292277e7d1b67af1ca2a", func := "printworks/printworkslaw1.ImageChecks", spec := "imageChecks", unfollowed := true, recurses := true, apart := false, narrowed := true }
def ImageChecksUptoSaid : Prop := imageChecksUptoRow.holds Try.pinned (OpenSpec.upto imageChecksSpec)

/-- 'printworkslaw1.TallyCounts', WHERE WHAT IT READS IS OF BULK AT MOST 1048576: true; the input reads as it did. -/
def tallyCountsUptoRow : OpenClaim := { program := "ytoiblpncofbdpaa", sum := "539942fe552034f17f1b1c4753c0450cb8b633be8348292277e7d1b67af1ca2a", func := "printworks/printworkslaw1.TallyCounts", spec := "tallyCounts", unfollowed := true, recurses := true, apart := false, narrowed := true }
def TallyCountsUptoSaid : Prop := tallyCountsUptoRow.holds Try.pinned (OpenSpec.upto tallyCountsSpec)

/-- 'printworkslaw1.RasterCropPixels', WHERE WHAT IT READS IS OF BULK AT MOST 1048576: true; the input reads as it did. -/
def rasterCropPixelsUptoRow : OpenClaim := { program := "ytoiblpncofbdpaa", sum := "539942fe552034f17f1b1c4753c0450cb8b633be8348292277e7d1b67af1ca2a", func := "printworks/printworkslaw1.RasterCropPixels", spec := "rasterCropPixels", unfollowed := true, recurses := true, apart := false, narrowed := true }
def RasterCropPixelsUptoSaid : Prop := rasterCropPixelsUptoRow.holds Try.pinned (OpenSpec.upto rasterCropPixelsSpec)

/-- 'printworkslaw1.RasterPastePixels', WHERE WHAT IT READS IS OF BULK AT MOST 1048576: true; the input reads as it did. -/
def rasterPastePixelsUptoRow : OpenClaim := { program := "ytoiblpncofbdpaa", sum := "539942fe552034f17f1b1c4753c0450cb8b633be8348292277e7d1b67af1ca2a", func := "printworks/printworkslaw1.RasterPastePixels", spec := "rasterPastePixels", unfollowed := true, recurses := true, apart := false, narrowed := true }
def RasterPastePixelsUptoSaid : Prop := rasterPastePixelsUptoRow.holds Try.pinned (OpenSpec.upto rasterPastePixelsSpec)

/-- 'printworkslaw1.BlendModes', WHERE WHAT IT READS IS OF BULK AT MOST 1048576: true; the input reads as it did. -/
def blendModesUptoRow : OpenClaim := { program := "ytoiblpncofbdpaa", sum := "539942fe552034f17f1b1c4753c0450cb8b633be8348292277e7d1b67af1ca2a", func := "printworks/printworkslaw1.BlendModes", spec := "blendModes", unfollowed := true, recurses := true, apart := false, narrowed := true }
def BlendModesUptoSaid : Prop := blendModesUptoRow.holds Try.pinned (OpenSpec.upto blendModesSpec)

/-- 'printworkslaw1.RasterRowsInOrder', WHERE WHAT IT READS IS OF BULK AT MOST 1048576: true; the input reads as it did. -/
def rasterRowsInOrderUptoRow : OpenClaim := { program := "ytoiblpncofbdpaa", sum := "539942fe552034f17f1b1c4753c0450cb8b633be8348292277e7d1b67af1ca2a", func := "printworks/printworkslaw1.RasterRowsInOrder", spec := "rasterRowsInOrder", unfollowed := true, recurses := true, apart := false, narrowed := true }
def RasterRowsInOrderUptoSaid : Prop := rasterRowsInOrderUptoRow.holds Try.pinned (OpenSpec.upto rasterRowsInOrderSpec)

end Rows
end Go.Proofs.Ytoiblpncofbdpaa
