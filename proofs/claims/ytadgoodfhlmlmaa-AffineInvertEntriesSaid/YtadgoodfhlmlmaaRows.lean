/-
  No cell of these rows narrows 'for every input' (looked for: loops, veiled, ifaces, maps, wideKeys, modest, calm, conditions, laid).
  DERIVED. THE GIVEN ROWS OF THIS SEAT. 13 by the template 'for every input the law returns true; each argument reads behind the call as it read before'; 0 by the template 'total and deterministic' (their statements: YtadgoodfhlmlmaaTotals.lean).
  GIVEN WITH THE SEED: the statements are not yours to turn. If you find one false, say at which input.
  Laid BY PROGRAM, IN A SANDBOX (cutbox-rows.mjs): the forced cells as the released guide's own fill.sh prints them over the translation b42cd79cdc625605… (all of the seat's roots in one cut). By AI agents, Wed Nov 11 2026. No macro, syntax, notation, axiom, sorry.
-/
import Derived.Test.YtadgoodfhlmlmaaChecked
import GoSem.Claim
import GoSem.ClaimJoined
import GoSem.ClaimMapViews
import Derived.JoinedTies
import Derived.KernelRfl
namespace Go.Proofs.Ytadgoodfhlmlmaa
/- THE CELL 'sum', in the pinned program and in every row, IS THE sha256 OF THE DUMP (.gsa) THAT YtadgoodfhlmlmaaProg.lean LOADS. Nothing in Lean hashes anything: it is a label: what it is worth is what the hold of that sum in a sandbox is worth. -/
noncomputable def Try.pinned : Pinned := { name := "ytadgoodfhlmlmaa", sum := "b42cd79cdc62560591fcf8f3e0f2bcd545b5bef08b91c3e060b7da45da774b4f", checked := Try.checked }
namespace Rows
def none {H : Type} : Left H := { results := [], args := [] }

/-- 'printworkslaw1.StrokeStyles': WHATEVER THE INPUT: true; the input reads as it did. -/
def strokeStylesSpec : ChangeSpec := { name := "strokeStyles", fn := fun _ => fun
  | [d] => { results := [.lit (.bool true)], args := [d] }
  | _ => none }
def strokeStylesRow : OpenClaim := { program := "ytadgoodfhlmlmaa", sum := "b42cd79cdc62560591fcf8f3e0f2bcd545b5bef08b91c3e060b7da45da774b4f", func := "printworks/printworkslaw1.StrokeStyles", spec := "strokeStyles", apart := false }
def StrokeStylesSaid : Prop := strokeStylesRow.holds Try.pinned (OpenSpec.ofChange strokeStylesSpec)

/-- ITS FALSE NEIGHBOUR: 'it returns false'. Refute it at one input. -/
def strokeStylesWrong : ChangeSpec := { name := "strokeStyles", fn := fun _ => fun
  | [d] => { results := [.lit (.bool false)], args := [d] }
  | _ => none }
def StrokeStylesWrongFalsely : Prop := strokeStylesRow.holds Try.pinned (OpenSpec.ofChange strokeStylesWrong)

/-- 'printworkslaw1.RegionCheckForm': WHATEVER THE INPUT: true; the input reads as it did. -/
def regionCheckFormSpec : ChangeSpec := { name := "regionCheckForm", fn := fun _ => fun
  | [d] => { results := [.lit (.bool true)], args := [d] }
  | _ => none }
def regionCheckFormRow : OpenClaim := { program := "ytadgoodfhlmlmaa", sum := "b42cd79cdc62560591fcf8f3e0f2bcd545b5bef08b91c3e060b7da45da774b4f", func := "printworks/printworkslaw1.RegionCheckForm", spec := "regionCheckForm", apart := false }
def RegionCheckFormSaid : Prop := regionCheckFormRow.holds Try.pinned (OpenSpec.ofChange regionCheckFormSpec)

/-- ITS FALSE NEIGHBOUR: 'it returns false'. Refute it at one input. -/
def regionCheckFormWrong : ChangeSpec := { name := "regionCheckForm", fn := fun _ => fun
  | [d] => { results := [.lit (.bool false)], args := [d] }
  | _ => none }
def RegionCheckFormWrongFalsely : Prop := regionCheckFormRow.holds Try.pinned (OpenSpec.ofChange regionCheckFormWrong)

/-- 'printworkslaw1.BlendNames': WHATEVER THE INPUT: true; the input reads as it did. -/
def blendNamesSpec : ChangeSpec := { name := "blendNames", fn := fun _ => fun
  | [d1, d2] => { results := [.lit (.bool true)], args := [d1, d2] }
  | _ => none }
def blendNamesRow : OpenClaim := { program := "ytadgoodfhlmlmaa", sum := "b42cd79cdc62560591fcf8f3e0f2bcd545b5bef08b91c3e060b7da45da774b4f", func := "printworks/printworkslaw1.BlendNames", spec := "blendNames", apart := false }
def BlendNamesSaid : Prop := blendNamesRow.holds Try.pinned (OpenSpec.ofChange blendNamesSpec)

/-- ITS FALSE NEIGHBOUR: 'it returns false'. Refute it at one input. -/
def blendNamesWrong : ChangeSpec := { name := "blendNames", fn := fun _ => fun
  | [d1, d2] => { results := [.lit (.bool false)], args := [d1, d2] }
  | _ => none }
def BlendNamesWrongFalsely : Prop := blendNamesRow.holds Try.pinned (OpenSpec.ofChange blendNamesWrong)

/-- 'printworkslaw1.NumAmounts': WHATEVER THE INPUT: true; the input reads as it did. -/
def numAmountsSpec : ChangeSpec := { name := "numAmounts", fn := fun _ => fun
  | [d1, d2, d3] => { results := [.lit (.bool true)], args := [d1, d2, d3] }
  | _ => none }
def numAmountsRow : OpenClaim := { program := "ytadgoodfhlmlmaa", sum := "b42cd79cdc62560591fcf8f3e0f2bcd545b5bef08b91c3e060b7da45da774b4f", func := "printworks/printworkslaw1.NumAmounts", spec := "numAmounts", apart := false }
def NumAmountsSaid : Prop := numAmountsRow.holds Try.pinned (OpenSpec.ofChange numAmountsSpec)

/-- ITS FALSE NEIGHBOUR: 'it returns false'. Refute it at one input. -/
def numAmountsWrong : ChangeSpec := { name := "numAmounts", fn := fun _ => fun
  | [d1, d2, d3] => { results := [.lit (.bool false)], args := [d1, d2, d3] }
  | _ => none }
def NumAmountsWrongFalsely : Prop := numAmountsRow.holds Try.pinned (OpenSpec.ofChange numAmountsWrong)

/-- 'printworkslaw1.NumGcdGreatest': WHATEVER THE INPUT: true; the input reads as it did. -/
def numGcdGreatestSpec : ChangeSpec := { name := "numGcdGreatest", fn := fun _ => fun
  | [d1, d2] => { results := [.lit (.bool true)], args := [d1, d2] }
  | _ => none }
def numGcdGreatestRow : OpenClaim := { program := "ytadgoodfhlmlmaa", sum := "b42cd79cdc62560591fcf8f3e0f2bcd545b5bef08b91c3e060b7da45da774b4f", func := "printworks/printworkslaw1.NumGcdGreatest", spec := "numGcdGreatest", apart := false }
def NumGcdGreatestSaid : Prop := numGcdGreatestRow.holds Try.pinned (OpenSpec.ofChange numGcdGreatestSpec)

/-- ITS FALSE NEIGHBOUR: 'it returns false'. Refute it at one input. -/
def numGcdGreatestWrong : ChangeSpec := { name := "numGcdGreatest", fn := fun _ => fun
  | [d1, d2] => { results := [.lit (.bool false)], args := [d1, d2] }
  | _ => none }
def NumGcdGreatestWrongFalsely : Prop := numGcdGreatestRow.holds Try.pinned (OpenSpec.ofChange numGcdGreatestWrong)

/-- 'printworkslaw1.NumFloorRemainder': WHATEVER THE INPUT: true; the input reads as it did. -/
def numFloorRemainderSpec : ChangeSpec := { name := "numFloorRemainder", fn := fun _ => fun
  | [d1, d2] => { results := [.lit (.bool true)], args := [d1, d2] }
  | _ => none }
def numFloorRemainderRow : OpenClaim := { program := "ytadgoodfhlmlmaa", sum := "b42cd79cdc62560591fcf8f3e0f2bcd545b5bef08b91c3e060b7da45da774b4f", func := "printworks/printworkslaw1.NumFloorRemainder", spec := "numFloorRemainder", apart := false }
def NumFloorRemainderSaid : Prop := numFloorRemainderRow.holds Try.pinned (OpenSpec.ofChange numFloorRemainderSpec)

/-- ITS FALSE NEIGHBOUR: 'it returns false'. Refute it at one input. -/
def numFloorRemainderWrong : ChangeSpec := { name := "numFloorRemainder", fn := fun _ => fun
  | [d1, d2] => { results := [.lit (.bool false)], args := [d1, d2] }
  | _ => none }
def NumFloorRemainderWrongFalsely : Prop := numFloorRemainderRow.holds Try.pinned (OpenSpec.ofChange numFloorRemainderWrong)

/-- 'printworkslaw1.AffineChecks': WHATEVER THE INPUT: true; the input reads as it did. -/
def affineChecksSpec : ChangeSpec := { name := "affineChecks", fn := fun _ => fun
  | [d1, d2, d3] => { results := [.lit (.bool true)], args := [d1, d2, d3] }
  | _ => none }
def affineChecksRow : OpenClaim := { program := "ytadgoodfhlmlmaa", sum := "b42cd79cdc62560591fcf8f3e0f2bcd545b5bef08b91c3e060b7da45da774b4f", func := "printworks/printworkslaw1.AffineChecks", spec := "affineChecks", apart := false }
def AffineChecksSaid : Prop := affineChecksRow.holds Try.pinned (OpenSpec.ofChange affineChecksSpec)

/-- ITS FALSE NEIGHBOUR: 'it returns false'. Refute it at one input. -/
def affineChecksWrong : ChangeSpec := { name := "affineChecks", fn := fun _ => fun
  | [d1, d2, d3] => { results := [.lit (.bool false)], args := [d1, d2, d3] }
  | _ => none }
def AffineChecksWrongFalsely : Prop := affineChecksRow.holds Try.pinned (OpenSpec.ofChange affineChecksWrong)

/-- 'printworkslaw1.NumRoundHalfUp': WHATEVER THE INPUT: true; the input reads as it did. -/
def numRoundHalfUpSpec : ChangeSpec := { name := "numRoundHalfUp", fn := fun _ => fun
  | [d1, d2] => { results := [.lit (.bool true)], args := [d1, d2] }
  | _ => none }
def numRoundHalfUpRow : OpenClaim := { program := "ytadgoodfhlmlmaa", sum := "b42cd79cdc62560591fcf8f3e0f2bcd545b5bef08b91c3e060b7da45da774b4f", func := "printworks/printworkslaw1.NumRoundHalfUp", spec := "numRoundHalfUp", apart := false }
def NumRoundHalfUpSaid : Prop := numRoundHalfUpRow.holds Try.pinned (OpenSpec.ofChange numRoundHalfUpSpec)

/-- ITS FALSE NEIGHBOUR: 'it returns false'. Refute it at one input. -/
def numRoundHalfUpWrong : ChangeSpec := { name := "numRoundHalfUp", fn := fun _ => fun
  | [d1, d2] => { results := [.lit (.bool false)], args := [d1, d2] }
  | _ => none }
def NumRoundHalfUpWrongFalsely : Prop := numRoundHalfUpRow.holds Try.pinned (OpenSpec.ofChange numRoundHalfUpWrong)

/-- 'printworkslaw1.AffineApplyRounds': WHATEVER THE INPUT: true; the input reads as it did. -/
def affineApplyRoundsSpec : ChangeSpec := { name := "affineApplyRounds", fn := fun _ => fun
  | [d1, d2] => { results := [.lit (.bool true)], args := [d1, d2] }
  | _ => none }
def affineApplyRoundsRow : OpenClaim := { program := "ytadgoodfhlmlmaa", sum := "b42cd79cdc62560591fcf8f3e0f2bcd545b5bef08b91c3e060b7da45da774b4f", func := "printworks/printworkslaw1.AffineApplyRounds", spec := "affineApplyRounds", apart := false }
def AffineApplyRoundsSaid : Prop := affineApplyRoundsRow.holds Try.pinned (OpenSpec.ofChange affineApplyRoundsSpec)

/-- ITS FALSE NEIGHBOUR: 'it returns false'. Refute it at one input. -/
def affineApplyRoundsWrong : ChangeSpec := { name := "affineApplyRounds", fn := fun _ => fun
  | [d1, d2] => { results := [.lit (.bool false)], args := [d1, d2] }
  | _ => none }
def AffineApplyRoundsWrongFalsely : Prop := affineApplyRoundsRow.holds Try.pinned (OpenSpec.ofChange affineApplyRoundsWrong)

/-- 'printworkslaw1.AffineInvertEntries': WHATEVER THE INPUT: true; the input reads as it did. -/
def affineInvertEntriesSpec : ChangeSpec := { name := "affineInvertEntries", fn := fun _ => fun
  | [d] => { results := [.lit (.bool true)], args := [d] }
  | _ => none }
def affineInvertEntriesRow : OpenClaim := { program := "ytadgoodfhlmlmaa", sum := "b42cd79cdc62560591fcf8f3e0f2bcd545b5bef08b91c3e060b7da45da774b4f", func := "printworks/printworkslaw1.AffineInvertEntries", spec := "affineInvertEntries", unfollowed := true, recurses := true, apart := false }
def AffineInvertEntriesSaid : Prop := affineInvertEntriesRow.holds Try.pinned (OpenSpec.ofChange affineInvertEntriesSpec)

/-- ITS FALSE NEIGHBOUR: 'it returns false'. Refute it at one input. -/
def affineInvertEntriesWrong : ChangeSpec := { name := "affineInvertEntries", fn := fun _ => fun
  | [d] => { results := [.lit (.bool false)], args := [d] }
  | _ => none }
def AffineInvertEntriesWrongFalsely : Prop := affineInvertEntriesRow.holds Try.pinned (OpenSpec.ofChange affineInvertEntriesWrong)

/-- 'printworkslaw1.NumRootFloor': WHATEVER THE INPUT: true; the input reads as it did. -/
def numRootFloorSpec : ChangeSpec := { name := "numRootFloor", fn := fun _ => fun
  | [d] => { results := [.lit (.bool true)], args := [d] }
  | _ => none }
def numRootFloorRow : OpenClaim := { program := "ytadgoodfhlmlmaa", sum := "b42cd79cdc62560591fcf8f3e0f2bcd545b5bef08b91c3e060b7da45da774b4f", func := "printworks/printworkslaw1.NumRootFloor", spec := "numRootFloor", apart := false }
def NumRootFloorSaid : Prop := numRootFloorRow.holds Try.pinned (OpenSpec.ofChange numRootFloorSpec)

/-- ITS FALSE NEIGHBOUR: 'it returns false'. Refute it at one input. -/
def numRootFloorWrong : ChangeSpec := { name := "numRootFloor", fn := fun _ => fun
  | [d] => { results := [.lit (.bool false)], args := [d] }
  | _ => none }
def NumRootFloorWrongFalsely : Prop := numRootFloorRow.holds Try.pinned (OpenSpec.ofChange numRootFloorWrong)

/-- 'printworkslaw1.AffineThenEntries': WHATEVER THE INPUT: true; the input reads as it did. -/
def affineThenEntriesSpec : ChangeSpec := { name := "affineThenEntries", fn := fun _ => fun
  | [d1, d2] => { results := [.lit (.bool true)], args := [d1, d2] }
  | _ => none }
def affineThenEntriesRow : OpenClaim := { program := "ytadgoodfhlmlmaa", sum := "b42cd79cdc62560591fcf8f3e0f2bcd545b5bef08b91c3e060b7da45da774b4f", func := "printworks/printworkslaw1.AffineThenEntries", spec := "affineThenEntries", unfollowed := true, recurses := true, apart := false }
def AffineThenEntriesSaid : Prop := affineThenEntriesRow.holds Try.pinned (OpenSpec.ofChange affineThenEntriesSpec)

/-- ITS FALSE NEIGHBOUR: 'it returns false'. Refute it at one input. -/
def affineThenEntriesWrong : ChangeSpec := { name := "affineThenEntries", fn := fun _ => fun
  | [d1, d2] => { results := [.lit (.bool false)], args := [d1, d2] }
  | _ => none }
def AffineThenEntriesWrongFalsely : Prop := affineThenEntriesRow.holds Try.pinned (OpenSpec.ofChange affineThenEntriesWrong)

/-- 'printworkslaw1.NumMulDivExact': WHATEVER THE INPUT: true; the input reads as it did. -/
def numMulDivExactSpec : ChangeSpec := { name := "numMulDivExact", fn := fun _ => fun
  | [d1, d2, d3] => { results := [.lit (.bool true)], args := [d1, d2, d3] }
  | _ => none }
def numMulDivExactRow : OpenClaim := { program := "ytadgoodfhlmlmaa", sum := "b42cd79cdc62560591fcf8f3e0f2bcd545b5bef08b91c3e060b7da45da774b4f", func := "printworks/printworkslaw1.NumMulDivExact", spec := "numMulDivExact", named := ["math/bits.divideError", "math/bits.overflowError"], apart := false }
def NumMulDivExactSaid : Prop := numMulDivExactRow.holds Try.pinned (OpenSpec.ofChange numMulDivExactSpec)

/-- ITS FALSE NEIGHBOUR: 'it returns false'. Refute it at one input. -/
def numMulDivExactWrong : ChangeSpec := { name := "numMulDivExact", fn := fun _ => fun
  | [d1, d2, d3] => { results := [.lit (.bool false)], args := [d1, d2, d3] }
  | _ => none }
def NumMulDivExactWrongFalsely : Prop := numMulDivExactRow.holds Try.pinned (OpenSpec.ofChange numMulDivExactWrong)

/- THE SECOND FORM. 'bulk': how many values and letters a reading holds, each counted each time it is reached (what is shared counts as often as it is met; a slice's spare places count too). A statement '..UptoSaid' is the law's where the arguments, and the package variables that the reading takes, are together of bulk at most 1048576: NARROWER than '..Said'. Prove '..Said' where nothing that the law and all that it calls make is longer than what came in: it says more and counts as full. Else prove '..UptoSaid'. A law counts once. -/
mutual
def uptoBulk {H : Type} : DataW H → Nat
  | .lit (.string bytes) => bytes.length + 1
  | .lit _ => 1
  | .nil => 1
  | .ptr d => uptoBulk d + 1
  | .slice elems spare => uptoBulkAll elems + uptoBulkAll spare + 1
  | .agg parts => uptoBulkAll parts + 1
  | .iface _ d => uptoBulk d + 1
  | .map entries => uptoBulkEntries entries + 1
  | .held _ => 1
def uptoBulkAll {H : Type} : List (DataW H) → Nat
  | [] => 0
  | d :: r => uptoBulk d + uptoBulkAll r
def uptoBulkEntries {H : Type} : List (Lit × DataW H) → Nat
  | [] => 0
  | x :: r => uptoBulkEntry x + uptoBulkEntries r
def uptoBulkEntry {H : Type} : Lit × DataW H → Nat
  | (.string bytes, d) => bytes.length + uptoBulk d + 1
  | (_, d) => uptoBulk d + 1
 end
def uptoSmall : (H : Type) → List (DataW H) → Bool := fun _ ds => decide (uptoBulkAll ds ≤ 1048576)
def OpenSpec.upto (s : _root_.Go.ChangeSpec) : _root_.Go.OpenSpec := { _root_.Go.OpenSpec.ofChange s with cond := some uptoSmall }

/-- 'printworkslaw1.StrokeStyles', WHERE WHAT IT READS IS OF BULK AT MOST 1048576: true; the input reads as it did. -/
def strokeStylesUptoRow : OpenClaim := { program := "ytadgoodfhlmlmaa", sum := "b42cd79cdc62560591fcf8f3e0f2bcd545b5bef08b91c3e060b7da45da774b4f", func := "printworks/printworkslaw1.StrokeStyles", spec := "strokeStyles", apart := false, narrowed := true }
def StrokeStylesUptoSaid : Prop := strokeStylesUptoRow.holds Try.pinned (OpenSpec.upto strokeStylesSpec)

/-- 'printworkslaw1.RegionCheckForm', WHERE WHAT IT READS IS OF BULK AT MOST 1048576: true; the input reads as it did. -/
def regionCheckFormUptoRow : OpenClaim := { program := "ytadgoodfhlmlmaa", sum := "b42cd79cdc62560591fcf8f3e0f2bcd545b5bef08b91c3e060b7da45da774b4f", func := "printworks/printworkslaw1.RegionCheckForm", spec := "regionCheckForm", apart := false, narrowed := true }
def RegionCheckFormUptoSaid : Prop := regionCheckFormUptoRow.holds Try.pinned (OpenSpec.upto regionCheckFormSpec)

/-- 'printworkslaw1.BlendNames', WHERE WHAT IT READS IS OF BULK AT MOST 1048576: true; the input reads as it did. -/
def blendNamesUptoRow : OpenClaim := { program := "ytadgoodfhlmlmaa", sum := "b42cd79cdc62560591fcf8f3e0f2bcd545b5bef08b91c3e060b7da45da774b4f", func := "printworks/printworkslaw1.BlendNames", spec := "blendNames", apart := false, narrowed := true }
def BlendNamesUptoSaid : Prop := blendNamesUptoRow.holds Try.pinned (OpenSpec.upto blendNamesSpec)

/-- 'printworkslaw1.NumAmounts', WHERE WHAT IT READS IS OF BULK AT MOST 1048576: true; the input reads as it did. -/
def numAmountsUptoRow : OpenClaim := { program := "ytadgoodfhlmlmaa", sum := "b42cd79cdc62560591fcf8f3e0f2bcd545b5bef08b91c3e060b7da45da774b4f", func := "printworks/printworkslaw1.NumAmounts", spec := "numAmounts", apart := false, narrowed := true }
def NumAmountsUptoSaid : Prop := numAmountsUptoRow.holds Try.pinned (OpenSpec.upto numAmountsSpec)

/-- 'printworkslaw1.NumGcdGreatest', WHERE WHAT IT READS IS OF BULK AT MOST 1048576: true; the input reads as it did. -/
def numGcdGreatestUptoRow : OpenClaim := { program := "ytadgoodfhlmlmaa", sum := "b42cd79cdc62560591fcf8f3e0f2bcd545b5bef08b91c3e060b7da45da774b4f", func := "printworks/printworkslaw1.NumGcdGreatest", spec := "numGcdGreatest", apart := false, narrowed := true }
def NumGcdGreatestUptoSaid : Prop := numGcdGreatestUptoRow.holds Try.pinned (OpenSpec.upto numGcdGreatestSpec)

/-- 'printworkslaw1.NumFloorRemainder', WHERE WHAT IT READS IS OF BULK AT MOST 1048576: true; the input reads as it did. -/
def numFloorRemainderUptoRow : OpenClaim := { program := "ytadgoodfhlmlmaa", sum := "b42cd79cdc62560591fcf8f3e0f2bcd545b5bef08b91c3e060b7da45da774b4f", func := "printworks/printworkslaw1.NumFloorRemainder", spec := "numFloorRemainder", apart := false, narrowed := true }
def NumFloorRemainderUptoSaid : Prop := numFloorRemainderUptoRow.holds Try.pinned (OpenSpec.upto numFloorRemainderSpec)

/-- 'printworkslaw1.AffineChecks', WHERE WHAT IT READS IS OF BULK AT MOST 1048576: true; the input reads as it did. -/
def affineChecksUptoRow : OpenClaim := { program := "ytadgoodfhlmlmaa", sum := "b42cd79cdc62560591fcf8f3e0f2bcd545b5bef08b91c3e060b7da45da774b4f", func := "printworks/printworkslaw1.AffineChecks", spec := "affineChecks", apart := false, narrowed := true }
def AffineChecksUptoSaid : Prop := affineChecksUptoRow.holds Try.pinned (OpenSpec.upto affineChecksSpec)

/-- 'printworkslaw1.NumRoundHalfUp', WHERE WHAT IT READS IS OF BULK AT MOST 1048576: true; the input reads as it did. -/
def numRoundHalfUpUptoRow : OpenClaim := { program := "ytadgoodfhlmlmaa", sum := "b42cd79cdc62560591fcf8f3e0f2bcd545b5bef08b91c3e060b7da45da774b4f", func := "printworks/printworkslaw1.NumRoundHalfUp", spec := "numRoundHalfUp", apart := false, narrowed := true }
def NumRoundHalfUpUptoSaid : Prop := numRoundHalfUpUptoRow.holds Try.pinned (OpenSpec.upto numRoundHalfUpSpec)

/-- 'printworkslaw1.AffineApplyRounds', WHERE WHAT IT READS IS OF BULK AT MOST 1048576: true; the input reads as it did. -/
def affineApplyRoundsUptoRow : OpenClaim := { program := "ytadgoodfhlmlmaa", sum := "b42cd79cdc62560591fcf8f3e0f2bcd545b5bef08b91c3e060b7da45da774b4f", func := "printworks/printworkslaw1.AffineApplyRounds", spec := "affineApplyRounds", apart := false, narrowed := true }
def AffineApplyRoundsUptoSaid : Prop := affineApplyRoundsUptoRow.holds Try.pinned (OpenSpec.upto affineApplyRoundsSpec)

/-- 'printworkslaw1.AffineInvertEntries', WHERE WHAT IT READS IS OF BULK AT MOST 1048576: true; the input reads as it did. -/
def affineInvertEntriesUptoRow : OpenClaim := { program := "ytadgoodfhlmlmaa", sum := "b42cd79cdc62560591fcf8f3e0f2bcd545b5bef08b91c3e060b7da45da774b4f", func := "printworks/printworkslaw1.AffineInvertEntries", spec := "affineInvertEntries", unfollowed := true, recurses := true, apart := false, narrowed := true }
def AffineInvertEntriesUptoSaid : Prop := affineInvertEntriesUptoRow.holds Try.pinned (OpenSpec.upto affineInvertEntriesSpec)

/-- 'printworkslaw1.NumRootFloor', WHERE WHAT IT READS IS OF BULK AT MOST 1048576: true; the input reads as it did. -/
def numRootFloorUptoRow : OpenClaim := { program := "ytadgoodfhlmlmaa", sum := "b42cd79cdc62560591fcf8f3e0f2bcd545b5bef08b91c3e060b7da45da774b4f", func := "printworks/printworkslaw1.NumRootFloor", spec := "numRootFloor", apart := false, narrowed := true }
def NumRootFloorUptoSaid : Prop := numRootFloorUptoRow.holds Try.pinned (OpenSpec.upto numRootFloorSpec)

/-- 'printworkslaw1.AffineThenEntries', WHERE WHAT IT READS IS OF BULK AT MOST 1048576: true; the input reads as it did. -/
def affineThenEntriesUptoRow : OpenClaim := { program := "ytadgoodfhlmlmaa", sum := "b42cd79cdc62560591fcf8f3e0f2bcd545b5bef08b91c3e060b7da45da774b4f", func := "printworks/printworkslaw1.AffineThenEntries", spec := "affineThenEntries", unfollowed := true, recurses := true, apart := false, narrowed := true }
def AffineThenEntriesUptoSaid : Prop := affineThenEntriesUptoRow.holds Try.pinned (OpenSpec.upto affineThenEntriesSpec)

/-- 'printworkslaw1.NumMulDivExact', WHERE WHAT IT READS IS OF BULK AT MOST 1048576: true; the input reads as it did. -/
def numMulDivExactUptoRow : OpenClaim := { program := "ytadgoodfhlmlmaa", sum := "b42cd79cdc62560591fcf8f3e0f2bcd545b5bef08b91c3e060b7da45da774b4f", func := "printworks/printworkslaw1.NumMulDivExact", spec := "numMulDivExact", named := ["math/bits.divideError", "math/bits.overflowError"], apart := false, narrowed := true }
def NumMulDivExactUptoSaid : Prop := numMulDivExactUptoRow.holds Try.pinned (OpenSpec.upto numMulDivExactSpec)

end Rows
end Go.Proofs.Ytadgoodfhlmlmaa
