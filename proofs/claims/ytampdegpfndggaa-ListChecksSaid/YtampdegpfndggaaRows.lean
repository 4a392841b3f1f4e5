/-
  No cell of these rows narrows 'for every input' (looked for: loops, veiled, ifaces, maps, wideKeys, modest, calm, conditions, laid).
  DERIVED. THE GIVEN ROWS OF THIS SEAT. 12 by the template 'for every input the law returns true; each argument reads behind the call as it read before'; 0 by the template 'total and deterministic' (their statements: YtampdegpfndggaaTotals.lean).
  GIVEN WITH THE SEED: the statements are not yours to turn. If you find one false, say at which input.
  Laid BY PROGRAM, IN A SANDBOX (cutbox-rows.mjs): the forced cells as the released guide's own fill.sh prints them over the translation b2aff1a4a553a24a… (all of the seat's roots in one cut). By AI agents, Wed Nov 11 2026. No macro, syntax, notation, axiom, sorry.
-/
import Derived.Test.YtampdegpfndggaaChecked
import GoSem.Claim
import GoSem.ClaimJoined
import GoSem.ClaimMapViews
import Derived.JoinedTies
import Derived.KernelRfl
namespace Go.Proofs.Ytampdegpfndggaa
/- THE CELL 'sum', in the pinned program and in every row, IS THE sha256 OF THE DUMP (.gsa) THAT YtampdegpfndggaaProg.lean LOADS. Nothing in Lean hashes anything: it is a label: what it is worth is what the hold of that sum in a sandbox is worth. -/
noncomputable def Try.pinned : Pinned := { name := "ytampdegpfndggaa", sum := "b2aff1a4a553a24ae0d6d995623ceec6831894c97d52445b791de7000bb3edd6", checked := Try.checked }
namespace Rows
def none {H : Type} : Left H := { results := [], args := [] }

/-- 'printworkslaw1.BlendInks': WHATEVER THE INPUT: true; the input reads as it did. -/
def blendInksSpec : ChangeSpec := { name := "blendInks", fn := fun _ => fun
  | [d1, d2, d3] => { results := [.lit (.bool true)], args := [d1, d2, d3] }
  | _ => none }
def blendInksRow : OpenClaim := { program := "ytampdegpfndggaa", sum := "b2aff1a4a553a24ae0d6d995623ceec6831894c97d52445b791de7000bb3edd6", func := "printworks/printworkslaw1.BlendInks", spec := "blendInks", unfollowed := true, recurses := true, apart := false }
def BlendInksSaid : Prop := blendInksRow.holds Try.pinned (OpenSpec.ofChange blendInksSpec)

/-- ITS FALSE NEIGHBOUR: 'it returns false'. Refute it at one input. -/
def blendInksWrong : ChangeSpec := { name := "blendInks", fn := fun _ => fun
  | [d1, d2, d3] => { results := [.lit (.bool false)], args := [d1, d2, d3] }
  | _ => none }
def BlendInksWrongFalsely : Prop := blendInksRow.holds Try.pinned (OpenSpec.ofChange blendInksWrong)

/-- 'printworkslaw1.ComposeOvers': WHATEVER THE INPUT: true; the input reads as it did. -/
def composeOversSpec : ChangeSpec := { name := "composeOvers", fn := fun _ => fun
  | [d1, d2, d3, d4, d5] => { results := [.lit (.bool true)], args := [d1, d2, d3, d4, d5] }
  | _ => none }
def composeOversRow : OpenClaim := { program := "ytampdegpfndggaa", sum := "b2aff1a4a553a24ae0d6d995623ceec6831894c97d52445b791de7000bb3edd6", func := "printworks/printworkslaw1.ComposeOvers", spec := "composeOvers", unfollowed := true, recurses := true, apart := false }
def ComposeOversSaid : Prop := composeOversRow.holds Try.pinned (OpenSpec.ofChange composeOversSpec)

/-- ITS FALSE NEIGHBOUR: 'it returns false'. Refute it at one input. -/
def composeOversWrong : ChangeSpec := { name := "composeOvers", fn := fun _ => fun
  | [d1, d2, d3, d4, d5] => { results := [.lit (.bool false)], args := [d1, d2, d3, d4, d5] }
  | _ => none }
def ComposeOversWrongFalsely : Prop := composeOversRow.holds Try.pinned (OpenSpec.ofChange composeOversWrong)

/-- 'printworkslaw1.ComposeMixes': WHATEVER THE INPUT: true; the input reads as it did. -/
def composeMixesSpec : ChangeSpec := { name := "composeMixes", fn := fun _ => fun
  | [d1, d2, d3] => { results := [.lit (.bool true)], args := [d1, d2, d3] }
  | _ => none }
def composeMixesRow : OpenClaim := { program := "ytampdegpfndggaa", sum := "b2aff1a4a553a24ae0d6d995623ceec6831894c97d52445b791de7000bb3edd6", func := "printworks/printworkslaw1.ComposeMixes", spec := "composeMixes", unfollowed := true, recurses := true, apart := false }
def ComposeMixesSaid : Prop := composeMixesRow.holds Try.pinned (OpenSpec.ofChange composeMixesSpec)

/-- ITS FALSE NEIGHBOUR: 'it returns false'. Refute it at one input. -/
def composeMixesWrong : ChangeSpec := { name := "composeMixes", fn := fun _ => fun
  | [d1, d2, d3] => { results := [.lit (.bool false)], args := [d1, d2, d3] }
  | _ => none }
def ComposeMixesWrongFalsely : Prop := composeMixesRow.holds Try.pinned (OpenSpec.ofChange composeMixesWrong)

/-- 'printworkslaw1.GradientRamps': WHATEVER THE INPUT: true; the input reads as it did. -/
def gradientRampsSpec : ChangeSpec := { name := "gradientRamps", fn := fun _ => fun
  | [d1, d2] => { results := [.lit (.bool true)], args := [d1, d2] }
  | _ => none }
def gradientRampsRow : OpenClaim := { program := "ytampdegpfndggaa", sum := "b2aff1a4a553a24ae0d6d995623ceec6831894c97d52445b791de7000bb3edd6", func := "printworks/printworkslaw1.GradientRamps", spec := "gradientRamps", apart := false }
def GradientRampsSaid : Prop := gradientRampsRow.holds Try.pinned (OpenSpec.ofChange gradientRampsSpec)

/-- ITS FALSE NEIGHBOUR: 'it returns false'. Refute it at one input. -/
def gradientRampsWrong : ChangeSpec := { name := "gradientRamps", fn := fun _ => fun
  | [d1, d2] => { results := [.lit (.bool false)], args := [d1, d2] }
  | _ => none }
def GradientRampsWrongFalsely : Prop := gradientRampsRow.holds Try.pinned (OpenSpec.ofChange gradientRampsWrong)

/-- 'printworkslaw1.GradientPlaces': WHATEVER THE INPUT: true; the input reads as it did. -/
def gradientPlacesSpec : ChangeSpec := { name := "gradientPlaces", fn := fun _ => fun
  | [d1, d2, d3] => { results := [.lit (.bool true)], args := [d1, d2, d3] }
  | _ => none }
def gradientPlacesRow : OpenClaim := { program := "ytampdegpfndggaa", sum := "b2aff1a4a553a24ae0d6d995623ceec6831894c97d52445b791de7000bb3edd6", func := "printworks/printworkslaw1.GradientPlaces", spec := "gradientPlaces", apart := false }
def GradientPlacesSaid : Prop := gradientPlacesRow.holds Try.pinned (OpenSpec.ofChange gradientPlacesSpec)

/-- ITS FALSE NEIGHBOUR: 'it returns false'. Refute it at one input. -/
def gradientPlacesWrong : ChangeSpec := { name := "gradientPlaces", fn := fun _ => fun
  | [d1, d2, d3] => { results := [.lit (.bool false)], args := [d1, d2, d3] }
  | _ => none }
def GradientPlacesWrongFalsely : Prop := gradientPlacesRow.holds Try.pinned (OpenSpec.ofChange gradientPlacesWrong)

/-- 'printworkslaw1.ImageSamples': WHATEVER THE INPUT: true; the input reads as it did. -/
def imageSamplesSpec : ChangeSpec := { name := "imageSamples", fn := fun _ => fun
  | [d1, d2, d3] => { results := [.lit (.bool true)], args := [d1, d2, d3] }
  | _ => none }
def imageSamplesRow : OpenClaim := { program := "ytampdegpfndggaa", sum := "b2aff1a4a553a24ae0d6d995623ceec6831894c97d52445b791de7000bb3edd6", func := "printworks/printworkslaw1.ImageSamples", spec := "imageSamples", unfollowed := true, recurses := true, apart := false }
def ImageSamplesSaid : Prop := imageSamplesRow.holds Try.pinned (OpenSpec.ofChange imageSamplesSpec)

/-- ITS FALSE NEIGHBOUR: 'it returns false'. Refute it at one input. -/
def imageSamplesWrong : ChangeSpec := { name := "imageSamples", fn := fun _ => fun
  | [d1, d2, d3] => { results := [.lit (.bool false)], args := [d1, d2, d3] }
  | _ => none }
def ImageSamplesWrongFalsely : Prop := imageSamplesRow.holds Try.pinned (OpenSpec.ofChange imageSamplesWrong)

/-- 'printworkslaw1.ImageCells': WHATEVER THE INPUT: true; the input reads as it did. -/
def imageCellsSpec : ChangeSpec := { name := "imageCells", fn := fun _ => fun
  | [d1, d2, d3] => { results := [.lit (.bool true)], args := [d1, d2, d3] }
  | _ => none }
def imageCellsRow : OpenClaim := { program := "ytampdegpfndggaa", sum := "b2aff1a4a553a24ae0d6d995623ceec6831894c97d52445b791de7000bb3edd6", func := "printworks/printworkslaw1.ImageCells", spec := "imageCells", unfollowed := true, recurses := true, apart := false }
def ImageCellsSaid : Prop := imageCellsRow.holds Try.pinned (OpenSpec.ofChange imageCellsSpec)

/-- ITS FALSE NEIGHBOUR: 'it returns false'. Refute it at one input. -/
def imageCellsWrong : ChangeSpec := { name := "imageCells", fn := fun _ => fun
  | [d1, d2, d3] => { results := [.lit (.bool false)], args := [d1, d2, d3] }
  | _ => none }
def ImageCellsWrongFalsely : Prop := imageCellsRow.holds Try.pinned (OpenSpec.ofChange imageCellsWrong)

/-- 'printworkslaw1.ImageBoxes': WHATEVER THE INPUT: true; the input reads as it did. -/
def imageBoxesSpec : ChangeSpec := { name := "imageBoxes", fn := fun _ => fun
  | [d1, d2, d3, d4, d5, d6] => { results := [.lit (.bool true)], args := [d1, d2, d3, d4, d5, d6] }
  | _ => none }
def imageBoxesRow : OpenClaim := { program := "ytampdegpfndggaa", sum := "b2aff1a4a553a24ae0d6d995623ceec6831894c97d52445b791de7000bb3edd6", func := "printworks/printworkslaw1.ImageBoxes", spec := "imageBoxes", unfollowed := true, recurses := true, apart := false }
def ImageBoxesSaid : Prop := imageBoxesRow.holds Try.pinned (OpenSpec.ofChange imageBoxesSpec)

/-- ITS FALSE NEIGHBOUR: 'it returns false'. Refute it at one input. -/
def imageBoxesWrong : ChangeSpec := { name := "imageBoxes", fn := fun _ => fun
  | [d1, d2, d3, d4, d5, d6] => { results := [.lit (.bool false)], args := [d1, d2, d3, d4, d5, d6] }
  | _ => none }
def ImageBoxesWrongFalsely : Prop := imageBoxesRow.holds Try.pinned (OpenSpec.ofChange imageBoxesWrong)

/-- 'printworkslaw1.ListChecks': WHATEVER THE INPUT: true; the input reads as it did. -/
def listChecksSpec : ChangeSpec := { name := "listChecks", fn := fun _ => fun
  | [d] => { results := [.lit (.bool true)], args := [d] }
  | _ => none }
def listChecksRow : OpenClaim := { program := "ytampdegpfndggaa", sum := "b2aff1a4a553a24ae0d6d995623ceec6831894c97d52445b791de7000bb3edd6", func := "printworks/printworkslaw1.ListChecks", spec := "listChecks", unfollowed := true, recurses := true, apart := false }
def ListChecksSaid : Prop := listChecksRow.holds Try.pinned (OpenSpec.ofChange listChecksSpec)

/-- ITS FALSE NEIGHBOUR: 'it returns false'. Refute it at one input. -/
def listChecksWrong : ChangeSpec := { name := "listChecks", fn := fun _ => fun
  | [d] => { results := [.lit (.bool false)], args := [d] }
  | _ => none }
def ListChecksWrongFalsely : Prop := listChecksRow.holds Try.pinned (OpenSpec.ofChange listChecksWrong)

/-- 'printworkslaw1.ListSources': WHATEVER THE INPUT: true; the input reads as it did. -/
def listSourcesSpec : ChangeSpec := { name := "listSources", fn := fun _ => fun
  | [d1, d2, d3] => { results := [.lit (.bool true)], args := [d1, d2, d3] }
  | _ => none }
def listSourcesRow : OpenClaim := { program := "ytampdegpfndggaa", sum := "b2aff1a4a553a24ae0d6d995623ceec6831894c97d52445b791de7000bb3edd6", func := "printworks/printworkslaw1.ListSources", spec := "listSources", unfollowed := true, recurses := true, apart := false }
def ListSourcesSaid : Prop := listSourcesRow.holds Try.pinned (OpenSpec.ofChange listSourcesSpec)

/-- ITS FALSE NEIGHBOUR: 'it returns false'. Refute it at one input. -/
def listSourcesWrong : ChangeSpec := { name := "listSources", fn := fun _ => fun
  | [d1, d2, d3] => { results := [.lit (.bool false)], args := [d1, d2, d3] }
  | _ => none }
def ListSourcesWrongFalsely : Prop := listSourcesRow.holds Try.pinned (OpenSpec.ofChange listSourcesWrong)

/-- 'printworkslaw1.ConicPointsExact': WHATEVER THE INPUT: true; the input reads as it did. -/
def conicPointsExactSpec : ChangeSpec := { name := "conicPointsExact", fn := fun _ => fun
  | [d1, d2] => { results := [.lit (.bool true)], args := [d1, d2] }
  | _ => none }
def conicPointsExactRow : OpenClaim := { program := "ytampdegpfndggaa", sum := "b2aff1a4a553a24ae0d6d995623ceec6831894c97d52445b791de7000bb3edd6", func := "printworks/printworkslaw1.ConicPointsExact", spec := "conicPointsExact", apart := false }
def ConicPointsExactSaid : Prop := conicPointsExactRow.holds Try.pinned (OpenSpec.ofChange conicPointsExactSpec)

/-- ITS FALSE NEIGHBOUR: 'it returns false'. Refute it at one input. -/
def conicPointsExactWrong : ChangeSpec := { name := "conicPointsExact", fn := fun _ => fun
  | [d1, d2] => { results := [.lit (.bool false)], args := [d1, d2] }
  | _ => none }
def ConicPointsExactWrongFalsely : Prop := conicPointsExactRow.holds Try.pinned (OpenSpec.ofChange conicPointsExactWrong)

/-- 'printworkslaw1.DashLengths': WHATEVER THE INPUT: true; the input reads as it did. -/
def dashLengthsSpec : ChangeSpec := { name := "dashLengths", fn := fun _ => fun
  | [d] => { results := [.lit (.bool true)], args := [d] }
  | _ => none }
def dashLengthsRow : OpenClaim := { program := "ytampdegpfndggaa", sum := "b2aff1a4a553a24ae0d6d995623ceec6831894c97d52445b791de7000bb3edd6", func := "printworks/printworkslaw1.DashLengths", spec := "dashLengths", unfollowed := true, recurses := true, apart := false }
def DashLengthsSaid : Prop := dashLengthsRow.holds Try.pinned (OpenSpec.ofChange dashLengthsSpec)

/-- ITS FALSE NEIGHBOUR: 'it returns false'. Refute it at one input. -/
def dashLengthsWrong : ChangeSpec := { name := "dashLengths", fn := fun _ => fun
  | [d] => { results := [.lit (.bool false)], args := [d] }
  | _ => none }
def DashLengthsWrongFalsely : Prop := dashLengthsRow.holds Try.pinned (OpenSpec.ofChange dashLengthsWrong)

/- THE SECOND FORM. 'bulk': how many values and letters a reading holds, each counted each time it is reached (what is shared counts as often as it is met; a slice's spare places count too). A statement '..UptoSaid' is the law's where the arguments, and the package variables that the reading takes, are together of bulk at most 1048576: NARROWER than '..Said'. Prove '..Said' where nothing that the law and all that it calls make is longer than what came in: it says more and counts as full. Else prove '..UptoSaid'. A law counts once. -/
mutual
def uptoBulk {H : Type} : DataW H → Nat
  | .lit (.string bytes) => bytes.length + 1
  | .lit _ => 1
  | .nil => 1
  | .ptr d => uptoBulk d + 1
  | .slice elems spare => uptoBulkAll elems + uptoBulkAll spare + 1
  | .agg parts => uptoBulkAll parts + 1
  | .iface _ d => uptoBulk d + 1
  | .map entries => uptoBulkEntries entries + 1
  | .held _ => 1
def uptoBulkAll {H : Type} : List (DataW H) → Nat
  | [] => 0
  | d :: r => uptoBulk d + uptoBulkAll r
def uptoBulkEntries {H : Type} : List (Lit × DataW H) → Nat
  | [] => 0
  | x :: r => uptoBulkEntry x + uptoBulkEntries r
def uptoBulkEntry {H : Type} : Lit × DataW H → Nat
  | (.string bytes, d) => bytes.length + uptoBulk d + 1
  | (_, d) => uptoBulk d + 1
 end
def uptoSmall : (H : Type) → List (DataW H) → Bool := fun _ ds => decide (uptoBulkAll ds ≤ 1048576)
def OpenSpec.upto (s : _root_.Go.ChangeSpec) : _root_.Go.OpenSpec := { _root_.Go.OpenSpec.ofChange s with cond := some uptoSmall }

/-- 'printworkslaw1.BlendInks', WHERE WHAT IT READS IS OF BULK AT MOST 1048576: true; the input reads as it did. -/
def blendInksUptoRow : OpenClaim := { program := "ytampdegpfndggaa", sum := "b2aff1a4a553a24ae0d6d995623ceec6831894c97d52445b791de7000bb3edd6", func := "printworks/printworkslaw1.BlendInks", spec := "blendInks", unfollowed := true, recurses := true, apart := false, narrowed := true }
def BlendInksUptoSaid : Prop := blendInksUptoRow.holds Try.pinned (OpenSpec.upto blendInksSpec)

/-- 'printworkslaw1.ComposeOvers', WHERE WHAT IT READS IS OF BULK AT MOST 1048576: true; the input reads as it did. -/
def composeOversUptoRow : OpenClaim := { program := "ytampdegpfndggaa", sum := "b2aff1a4a553a24ae0d6d995623ceec6831894c97d52445b791de7000bb3edd6", func := "printworks/printworkslaw1.ComposeOvers", spec := "composeOvers", unfollowed := true, recurses := true, apart := false, narrowed := true }
def ComposeOversUptoSaid : Prop := composeOversUptoRow.holds Try.pinned (OpenSpec.upto composeOversSpec)

/-- 'printworkslaw1.ComposeMixes', WHERE WHAT IT READS IS OF BULK AT MOST 1048576: true; the input reads as it did. -/
def composeMixesUptoRow : OpenClaim := { program := "ytampdegpfndggaa", sum := "b2aff1a4a553a24ae0d6d995623ceec6831894c97d52445b791de7000bb3edd6", func := "printworks/printworkslaw1.ComposeMixes", spec := "composeMixes", unfollowed := true, recurses := true, apart := false, narrowed := true }
def ComposeMixesUptoSaid : Prop := composeMixesUptoRow.holds Try.pinned (OpenSpec.upto composeMixesSpec)

/-- 'printworkslaw1.GradientRamps', WHERE WHAT IT READS IS OF BULK AT MOST 1048576: true; the input reads as it did. -/
def gradientRampsUptoRow : OpenClaim := { program := "ytampdegpfndggaa", sum := "b2aff1a4a553a24ae0d6d995623ceec6831894c97d52445b791de7000bb3edd6", func := "printworks/printworkslaw1.GradientRamps", spec := "gradientRamps", apart := false, narrowed := true }
def GradientRampsUptoSaid : Prop := gradientRampsUptoRow.holds Try.pinned (OpenSpec.upto gradientRampsSpec)

/-- 'printworkslaw1.GradientPlaces', WHERE WHAT IT READS IS OF BULK AT MOST 1048576: true; the input reads as it did. -/
def gradientPlacesUptoRow : OpenClaim := { program := "ytampdegpfndggaa", sum := "b2aff1a4a553a24ae0d6d995623ceec6831894c97d52445b791de7000bb3edd6", func := "printworks/printworkslaw1.GradientPlaces", spec := "gradientPlaces", apart := false, narrowed := true }
def GradientPlacesUptoSaid : Prop := gradientPlacesUptoRow.holds Try.pinned (OpenSpec.upto gradientPlacesSpec)

/-- 'printworkslaw1.ImageSamples', WHERE WHAT IT READS IS OF BULK AT MOST 1048576: true; the input reads as it did. -/
def imageSamplesUptoRow : OpenClaim := { program := "ytampdegpfndggaa", sum := "b2aff1a4a553a24ae0d6d995623ceec6831894c97d52445b791de7000bb3edd6", func := "printworks/printworkslaw1.ImageSamples", spec := "imageSamples", unfollowed := true, recurses := true, apart := false, narrowed := true }
def ImageSamplesUptoSaid : Prop := imageSamplesUptoRow.holds Try.pinned (OpenSpec.upto imageSamplesSpec)

/-- 'printworkslaw1.ImageCells', WHERE WHAT IT READS IS OF BULK AT MOST 1048576: true; the input reads as it did. -/
def imageCellsUptoRow : OpenClaim := { program := "ytampdegpfndggaa", sum := "b2aff1a4a553a24ae0d6d995623ceec6831894c97d52445b791de7000bb3edd6", func := "printworks/printworkslaw1.ImageCells", spec := "imageCells", unfollowed := true, recurses := true, apart := false, narrowed := true }
def ImageCellsUptoSaid : Prop := imageCellsUptoRow.holds Try.pinned (OpenSpec.upto imageCellsSpec)

/-- 'printworkslaw1.ImageBoxes', WHERE WHAT IT READS IS OF BULK AT MOST 1048576: true; the input reads as it did. -/
def imageBoxesUptoRow : OpenClaim := { program := "ytampdegpfndggaa", sum := "b2aff1a4a553a24ae0d6d995623ceec6831894c97d52445b791de7000bb3edd6", func := "printworks/printworkslaw1.ImageBoxes", spec := "imageBoxes", unfollowed := true, recurses := true, apart := false, narrowed := true }
def ImageBoxesUptoSaid : Prop := imageBoxesUptoRow.holds Try.pinned (OpenSpec.upto imageBoxesSpec)

/-- 'printworkslaw1.ListChecks', WHERE WHAT IT READS IS OF BULK AT MOST 1048576: true; the input reads as it did. -/
def listChecksUptoRow : OpenClaim := { program := "ytampdegpfndggaa", sum := "b2aff1a4a553a24ae0d6d995623ceec6831894c97d52445b791de7000bb3edd6", func := "printworks/printworkslaw1.ListChecks", spec := "listChecks", unfollowed := true, recurses := true, apart := false, narrowed := true }
def ListChecksUptoSaid : Prop := listChecksUptoRow.holds Try.pinned (OpenSpec.upto listChecksSpec)

/-- 'printworkslaw1.ListSources', WHERE WHAT IT READS IS OF BULK AT MOST 1048576: true; the input reads as it did. -/
def listSourcesUptoRow : OpenClaim := { program := "ytampdegpfndggaa", sum := "b2aff1a4a553a24ae0d6d995623ceec6831894c97d52445b791de7000bb3edd6", func := "printworks/printworkslaw1.ListSources", spec := "listSources", unfollowed := true, recurses := true, apart := false, narrowed := true }
def ListSourcesUptoSaid : Prop := listSourcesUptoRow.holds Try.pinned (OpenSpec.upto listSourcesSpec)

/-- 'printworkslaw1.ConicPointsExact', WHERE WHAT IT READS IS OF BULK AT MOST 1048576: true; the input reads as it did. -/
def conicPointsExactUptoRow : OpenClaim := { program := "ytampdegpfndggaa", sum := "b2aff1a4a553a24ae0d6d995623ceec6831894c97d52445b791de7000bb3edd6", func := "printworks/printworkslaw1.ConicPointsExact", spec := "conicPointsExact", apart := false, narrowed := true }
def ConicPointsExactUptoSaid : Prop := conicPointsExactUptoRow.holds Try.pinned (OpenSpec.upto conicPointsExactSpec)

/-- 'printworkslaw1.DashLengths', WHERE WHAT IT READS IS OF BULK AT MOST 1048576: true; the input reads as it did. -/
def dashLengthsUptoRow : OpenClaim := { program := "ytampdegpfndggaa", sum := "b2aff1a4a553a24ae0d6d995623ceec6831894c97d52445b791de7000bb3edd6", func := "printworks/printworkslaw1.DashLengths", spec := "dashLengths", unfollowed := true, recurses := true, apart := false, narrowed := true }
def DashLengthsUptoSaid : Prop := dashLengthsUptoRow.holds Try.pinned (OpenSpec.upto dashLengthsSpec)

end Rows
end Go.Proofs.Ytampdegpfndggaa
