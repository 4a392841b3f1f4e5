/-
  No cell of these rows narrows 'for every input' (looked for: loops, veiled, ifaces, maps, wideKeys, modest, calm, conditions, laid).
  DERIVED. THE GIVEN ROWS OF THIS SEAT. 4 by the template 'for every input the law returns true; each argument reads behind the call as it read before'; 0 by the template 'total and deterministic' (their statements: YtkicdhaklnmonaaGreatTotals.lean).
  GIVEN WITH THE SEED: the statements are not yours to turn. If you find one false, say at which input.
  Laid BY PROGRAM, IN A SANDBOX (cutbox-rows.mjs): the forced cells as the released guide's own fill.sh prints them over the translation 3884d36181188316… (all of the seat's roots in one cut). By AI agents, Wed Nov 11 2026. No macro, syntax, notation, axiom, sorry.
-/
import Derived.Test.YtkicdhaklnmonaaGreatChecked
import GoSem.Claim
import GoSem.ClaimJoined
import GoSem.ClaimMapViews
import Derived.JoinedTies
import Derived.KernelRfl
namespace Go.Proofs.YtkicdhaklnmonaaGreat
/- THE CELL 'sum', in the pinned program and in every row, IS THE sha256 OF THE DUMP (.gsa) THAT YtkicdhaklnmonaaGreatProg.lean LOADS. Nothing in Lean hashes anything: it is a label: what it is worth is what the hold of that sum in a sandbox is worth. -/
noncomputable def Tryz.pinned : Pinned := { name := "ytkicdhaklnmonaagreat", sum := "3884d36181188316198140eb8f6ea6b4a1511785f5cf0d9d0b15d3e6b94120a3", checked := Tryz.checked }
namespace Rows
def none {H : Type} : Left H := { results := [], args := [] }

/-- 'printworkslaw1.FlatInkRegions': WHATEVER THE INPUT: true; the input reads as it did. -/
def flatInkRegionsSpec : ChangeSpec := { name := "flatInkRegions", fn := fun _ => fun
  | [d1, d2, d3, d4, d5] => { results := [.lit (.bool true)], args := [d1, d2, d3, d4, d5] }
  | _ => none }
def flatInkRegionsRow : OpenClaim := { program := "ytkicdhaklnmonaagreat", sum := "3884d36181188316198140eb8f6ea6b4a1511785f5cf0d9d0b15d3e6b94120a3", func := "printworks/printworkslaw1.FlatInkRegions", spec := "flatInkRegions", unfollowed := true, recurses := true, plainKeys := false, apart := false }
def FlatInkRegionsSaid : Prop := flatInkRegionsRow.holds Tryz.pinned (OpenSpec.ofChange flatInkRegionsSpec)

/-- ITS FALSE NEIGHBOUR: 'it returns false'. Refute it at one input. -/
def flatInkRegionsWrong : ChangeSpec := { name := "flatInkRegions", fn := fun _ => fun
  | [d1, d2, d3, d4, d5] => { results := [.lit (.bool false)], args := [d1, d2, d3, d4, d5] }
  | _ => none }
def FlatInkRegionsWrongFalsely : Prop := flatInkRegionsRow.holds Tryz.pinned (OpenSpec.ofChange flatInkRegionsWrong)

/-- 'printworkslaw1.FlatOfCells': WHATEVER THE INPUT: true; the input reads as it did. -/
def flatOfCellsSpec : ChangeSpec := { name := "flatOfCells", fn := fun _ => fun
  | [d1, d2, d3, d4] => { results := [.lit (.bool true)], args := [d1, d2, d3, d4] }
  | _ => none }
def flatOfCellsRow : OpenClaim := { program := "ytkicdhaklnmonaagreat", sum := "3884d36181188316198140eb8f6ea6b4a1511785f5cf0d9d0b15d3e6b94120a3", func := "printworks/printworkslaw1.FlatOfCells", spec := "flatOfCells", unfollowed := true, recurses := true, plainKeys := false, apart := false }
def FlatOfCellsSaid : Prop := flatOfCellsRow.holds Tryz.pinned (OpenSpec.ofChange flatOfCellsSpec)

/-- ITS FALSE NEIGHBOUR: 'it returns false'. Refute it at one input. -/
def flatOfCellsWrong : ChangeSpec := { name := "flatOfCells", fn := fun _ => fun
  | [d1, d2, d3, d4] => { results := [.lit (.bool false)], args := [d1, d2, d3, d4] }
  | _ => none }
def FlatOfCellsWrongFalsely : Prop := flatOfCellsRow.holds Tryz.pinned (OpenSpec.ofChange flatOfCellsWrong)

/-- 'printworkslaw1.FlatLists': WHATEVER THE INPUT: true; the input reads as it did. -/
def flatListsSpec : ChangeSpec := { name := "flatLists", fn := fun _ => fun
  | [d1, d2, d3, d4] => { results := [.lit (.bool true)], args := [d1, d2, d3, d4] }
  | _ => none }
def flatListsRow : OpenClaim := { program := "ytkicdhaklnmonaagreat", sum := "3884d36181188316198140eb8f6ea6b4a1511785f5cf0d9d0b15d3e6b94120a3", func := "printworks/printworkslaw1.FlatLists", spec := "flatLists", unfollowed := true, recurses := true, plainKeys := false, apart := false }
def FlatListsSaid : Prop := flatListsRow.holds Tryz.pinned (OpenSpec.ofChange flatListsSpec)

/-- ITS FALSE NEIGHBOUR: 'it returns false'. Refute it at one input. -/
def flatListsWrong : ChangeSpec := { name := "flatLists", fn := fun _ => fun
  | [d1, d2, d3, d4] => { results := [.lit (.bool false)], args := [d1, d2, d3, d4] }
  | _ => none }
def FlatListsWrongFalsely : Prop := flatListsRow.holds Tryz.pinned (OpenSpec.ofChange flatListsWrong)

/-- 'printworkslaw1.FlatCellsOfPieces': WHATEVER THE INPUT: true; the input reads as it did. -/
def flatCellsOfPiecesSpec : ChangeSpec := { name := "flatCellsOfPieces", fn := fun _ => fun
  | [d1, d2, d3, d4, d5] => { results := [.lit (.bool true)], args := [d1, d2, d3, d4, d5] }
  | _ => none }
def flatCellsOfPiecesRow : OpenClaim := { program := "ytkicdhaklnmonaagreat", sum := "3884d36181188316198140eb8f6ea6b4a1511785f5cf0d9d0b15d3e6b94120a3", func := "printworks/printworkslaw1.FlatCellsOfPieces", spec := "flatCellsOfPieces", unfollowed := true, recurses := true, plainKeys := false, apart := false }
def FlatCellsOfPiecesSaid : Prop := flatCellsOfPiecesRow.holds Tryz.pinned (OpenSpec.ofChange flatCellsOfPiecesSpec)

/-- ITS FALSE NEIGHBOUR: 'it returns false'. Refute it at one input. -/
def flatCellsOfPiecesWrong : ChangeSpec := { name := "flatCellsOfPieces", fn := fun _ => fun
  | [d1, d2, d3, d4, d5] => { results := [.lit (.bool false)], args := [d1, d2, d3, d4, d5] }
  | _ => none }
def FlatCellsOfPiecesWrongFalsely : Prop := flatCellsOfPiecesRow.holds Tryz.pinned (OpenSpec.ofChange flatCellsOfPiecesWrong)

/- THE SECOND FORM. 'bulk': how many values and letters a reading holds, each counted each time it is reached (what is shared counts as often as it is met; a slice's spare places count too). A statement '..UptoSaid' is the law's where the arguments, and the package variables that the reading takes, are together of bulk at most 1048576: NARROWER than '..Said'. Prove '..Said' where nothing that the law and all that it calls make is longer than what came in: it says more and counts as full. Else prove '..UptoSaid'. A law counts once. -/
mutual
def uptoBulk {H : Type} : DataW H → Nat
  | .lit (.string bytes) => bytes.length + 1
  | .lit _ => 1
  | .nil => 1
  | .ptr d => uptoBulk d + 1
  | .slice elems spare => uptoBulkAll elems + uptoBulkAll spare + 1
  | .agg parts => uptoBulkAll parts + 1
  | .iface _ d => uptoBulk d + 1
  | .map entries => uptoBulkEntries entries + 1
  | .held _ => 1
def uptoBulkAll {H : Type} : List (DataW H) → Nat
  | [] => 0
  | d :: r => uptoBulk d + uptoBulkAll r
def uptoBulkEntries {H : Type} : List (Lit × DataW H) → Nat
  | [] => 0
  | x :: r => uptoBulkEntry x + uptoBulkEntries r
def uptoBulkEntry {H : Type} : Lit × DataW H → Nat
  | (.string bytes, d) => bytes.length + uptoBulk d + 1
  | (_, d) => uptoBulk d + 1
 end
def uptoSmall : (H : Type) → List (DataW H) → Bool := fun _ ds => decide (uptoBulkAll ds ≤ 1048576)
def OpenSpec.upto (s : _root_.Go.ChangeSpec) : _root_.Go.OpenSpec := { _root_.Go.OpenSpec.ofChange s with cond := some uptoSmall }

/-- 'printworkslaw1.FlatInkRegions', WHERE WHAT IT READS IS OF BULK AT MOST 1048576: true; the input reads as it did. -/
def flatInkRegionsUptoRow : OpenClaim := { program := "ytkicdhaklnmonaagreat", sum := "3884d36181188316198140eb8f6ea6b4a1511785f5cf0d9d0b15d3e6b94120a3", func := "printworks/printworkslaw1.FlatInkRegions", spec := "flatInkRegions", unfollowed := true, recurses := true, plainKeys := false, apart := false, narrowed := true }
def FlatInkRegionsUptoSaid : Prop := flatInkRegionsUptoRow.holds Tryz.pinned (OpenSpec.upto flatInkRegionsSpec)

/-- 'printworkslaw1.FlatOfCells', WHERE WHAT IT READS IS OF BULK AT MOST 1048576: true; the input reads as it did. -/
def flatOfCellsUptoRow : OpenClaim := { program := "ytkicdhaklnmonaagreat", sum := "3884d36181188316198140eb8f6ea6b4a1511785f5cf0d9d0b15d3e6b94120a3", func := "printworks/printworkslaw1.FlatOfCells", spec := "flatOfCells", unfollowed := true, recurses := true, plainKeys := false, apart := false, narrowed := true }
def FlatOfCellsUptoSaid : Prop := flatOfCellsUptoRow.holds Tryz.pinned (OpenSpec.upto flatOfCellsSpec)

/-- 'printworkslaw1.FlatLists', WHERE WHAT IT READS IS OF BULK AT MOST 1048576: true; the input reads as it did. -/
def flatListsUptoRow : OpenClaim := { program := "ytkicdhaklnmonaagreat", sum := "3884d36181188316198140eb8f6ea6b4a1511785f5cf0d9d0b15d3e6b94120a3", func := "printworks/printworkslaw1.FlatLists", spec := "flatLists", unfollowed := true, recurses := true, plainKeys := false, apart := false, narrowed := true }
def FlatListsUptoSaid : Prop := flatListsUptoRow.holds Tryz.pinned (OpenSpec.upto flatListsSpec)

/-- 'printworkslaw1.FlatCellsOfPieces', WHERE WHAT IT READS IS OF BULK AT MOST 1048576: true; the input reads as it did. -/
def flatCellsOfPiecesUptoRow : OpenClaim := { program := "ytkicdhaklnmonaagreat", sum := "3884d36181188316198140eb8f6ea6b4a1511785f5cf0d9d0b15d3e6b94120a3", func := "printworks/printworkslaw1.FlatCellsOfPieces", spec := "flatCellsOfPieces", unfollowed := true, recurses := true, plainKeys := false, apart := false, narrowed := true }
def FlatCellsOfPiecesUptoSaid : Prop := flatCellsOfPiecesUptoRow.holds Tryz.pinned (OpenSpec.upto flatCellsOfPiecesSpec)

end Rows
end Go.Proofs.YtkicdhaklnmonaaGreat
