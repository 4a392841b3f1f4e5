/-
  No cell of these rows narrows 'for every input' (looked for: loops, veiled, ifaces, maps, wideKeys, modest, calm, conditions, laid).
  DERIVED. THE GIVEN ROWS OF THIS SEAT. 4 by the template 'for every input the law returns true; each argument reads behind the call as it read before'; 0 by the template 'total and deterministic' (their statements: YtiakdbcikmkomaaTotals.lean).
  GIVEN WITH THE SEED: the statements are not yours to turn. If you find one false, say at which input.
  Laid BY PROGRAM, IN A SANDBOX (cutbox-rows.mjs): the forced cells as the released guide's own fill.sh prints them over the translation 54da178ea7025389… (all of the seat's roots in one cut). By AI agents, Wed Nov 11 2026. No macro, syntax, notation, axiom, sorry.
-/
import Derived.Test.YtiakdbcikmkomaaChecked
import GoSem.Claim
import GoSem.ClaimJoined
import GoSem.ClaimMapViews
import Derived.JoinedTies
import Derived.KernelRfl
namespace Go.Proofs.Ytiakdbcikmkomaa
/- THE CELL 'sum', in the pinned program and in every row, IS THE sha256 OF THE DUMP (.gsa) THAT YtiakdbcikmkomaaProg.lean LOADS. Nothing in Lean hashes anything: it is a label: what it is worth is what the hold of that sum in a sandbox is worth. -/
noncomputable def Try.pinned : Pinned := { name := "ytiakdbcikmkomaa", sum := "54da178ea70253892cbe4953d3c3a79f983c504c27cbbe179b6ab27576fc397e", checked := Try.checked }
namespace Rows
def none {H : Type} : Left H := { results := [], args := [] }

/-- 'printworkslaw1.MorphDilateCells': WHATEVER THE INPUT: true; the input reads as it did. -/
def morphDilateCellsSpec : ChangeSpec := { name := "morphDilateCells", fn := fun _ => fun
  | [d1, d2] => { results := [.lit (.bool true)], args := [d1, d2] }
  | _ => none }
def morphDilateCellsRow : OpenClaim := { program := "ytiakdbcikmkomaa", sum := "54da178ea70253892cbe4953d3c3a79f983c504c27cbbe179b6ab27576fc397e", func := "printworks/printworkslaw1.MorphDilateCells", spec := "morphDilateCells", unfollowed := true, recurses := true, apart := false }
def MorphDilateCellsSaid : Prop := morphDilateCellsRow.holds Try.pinned (OpenSpec.ofChange morphDilateCellsSpec)

/-- ITS FALSE NEIGHBOUR: 'it returns false'. Refute it at one input. -/
def morphDilateCellsWrong : ChangeSpec := { name := "morphDilateCells", fn := fun _ => fun
  | [d1, d2] => { results := [.lit (.bool false)], args := [d1, d2] }
  | _ => none }
def MorphDilateCellsWrongFalsely : Prop := morphDilateCellsRow.holds Try.pinned (OpenSpec.ofChange morphDilateCellsWrong)

/-- 'printworkslaw1.MorphErodeCells': WHATEVER THE INPUT: true; the input reads as it did. -/
def morphErodeCellsSpec : ChangeSpec := { name := "morphErodeCells", fn := fun _ => fun
  | [d1, d2] => { results := [.lit (.bool true)], args := [d1, d2] }
  | _ => none }
def morphErodeCellsRow : OpenClaim := { program := "ytiakdbcikmkomaa", sum := "54da178ea70253892cbe4953d3c3a79f983c504c27cbbe179b6ab27576fc397e", func := "printworks/printworkslaw1.MorphErodeCells", spec := "morphErodeCells", unfollowed := true, recurses := true, apart := false }
def MorphErodeCellsSaid : Prop := morphErodeCellsRow.holds Try.pinned (OpenSpec.ofChange morphErodeCellsSpec)

/-- ITS FALSE NEIGHBOUR: 'it returns false'. Refute it at one input. -/
def morphErodeCellsWrong : ChangeSpec := { name := "morphErodeCells", fn := fun _ => fun
  | [d1, d2] => { results := [.lit (.bool false)], args := [d1, d2] }
  | _ => none }
def MorphErodeCellsWrongFalsely : Prop := morphErodeCellsRow.holds Try.pinned (OpenSpec.ofChange morphErodeCellsWrong)

/-- 'printworkslaw1.MorphOpenCloseCells': WHATEVER THE INPUT: true; the input reads as it did. -/
def morphOpenCloseCellsSpec : ChangeSpec := { name := "morphOpenCloseCells", fn := fun _ => fun
  | [d1, d2] => { results := [.lit (.bool true)], args := [d1, d2] }
  | _ => none }
def morphOpenCloseCellsRow : OpenClaim := { program := "ytiakdbcikmkomaa", sum := "54da178ea70253892cbe4953d3c3a79f983c504c27cbbe179b6ab27576fc397e", func := "printworks/printworkslaw1.MorphOpenCloseCells", spec := "morphOpenCloseCells", unfollowed := true, recurses := true, apart := false }
def MorphOpenCloseCellsSaid : Prop := morphOpenCloseCellsRow.holds Try.pinned (OpenSpec.ofChange morphOpenCloseCellsSpec)

/-- ITS FALSE NEIGHBOUR: 'it returns false'. Refute it at one input. -/
def morphOpenCloseCellsWrong : ChangeSpec := { name := "morphOpenCloseCells", fn := fun _ => fun
  | [d1, d2] => { results := [.lit (.bool false)], args := [d1, d2] }
  | _ => none }
def MorphOpenCloseCellsWrongFalsely : Prop := morphOpenCloseCellsRow.holds Try.pinned (OpenSpec.ofChange morphOpenCloseCellsWrong)

/-- 'printworkslaw1.MorphEdgeCells': WHATEVER THE INPUT: true; the input reads as it did. -/
def morphEdgeCellsSpec : ChangeSpec := { name := "morphEdgeCells", fn := fun _ => fun
  | [d1, d2] => { results := [.lit (.bool true)], args := [d1, d2] }
  | _ => none }
def morphEdgeCellsRow : OpenClaim := { program := "ytiakdbcikmkomaa", sum := "54da178ea70253892cbe4953d3c3a79f983c504c27cbbe179b6ab27576fc397e", func := "printworks/printworkslaw1.MorphEdgeCells", spec := "morphEdgeCells", unfollowed := true, recurses := true, apart := false }
def MorphEdgeCellsSaid : Prop := morphEdgeCellsRow.holds Try.pinned (OpenSpec.ofChange morphEdgeCellsSpec)

/-- ITS FALSE NEIGHBOUR: 'it returns false'. Refute it at one input. -/
def morphEdgeCellsWrong : ChangeSpec := { name := "morphEdgeCells", fn := fun _ => fun
  | [d1, d2] => { results := [.lit (.bool false)], args := [d1, d2] }
  | _ => none }
def MorphEdgeCellsWrongFalsely : Prop := morphEdgeCellsRow.holds Try.pinned (OpenSpec.ofChange morphEdgeCellsWrong)

/- THE SECOND FORM. 'bulk': how many values and letters a reading holds, each counted each time it is reached (what is shared counts as often as it is met; a slice's spare places count too). A statement '..UptoSaid' is the law's where the arguments, and the package variables that the reading takes, are together of bulk at most 1048576: NARROWER than '..Said'. Prove '..Said' where nothing that the law and all that it calls make is longer than what came in: it says more and counts as full. Else prove '..UptoSaid'. A law counts once. -/
mutual
def uptoBulk {H : Type} : DataW H → Nat
  | .lit (.string bytes) => bytes.length + 1
  | .lit _ => 1
  | .nil => 1
  | .ptr d => uptoBulk d + 1
  | .slice elems spare => uptoBulkAll elems + uptoBulkAll spare + 1
  | .agg parts => uptoBulkAll parts + 1
  | .iface _ d => uptoBulk d + 1
  | .map entries => uptoBulkEntries entries + 1
  | .held _ => 1
def uptoBulkAll {H : Type} : List (DataW H) → Nat
  | [] => 0
  | d :: r => uptoBulk d + uptoBulkAll r
def uptoBulkEntries {H : Type} : List (Lit × DataW H) → Nat
  | [] => 0
  | x :: r => uptoBulkEntry x + uptoBulkEntries r
def uptoBulkEntry {H : Type} : Lit × DataW H → Nat
  | (.string bytes, d) => bytes.length + uptoBulk d + 1
  | (_, d) => uptoBulk d + 1
 end
def uptoSmall : (H : Type) → List (DataW H) → Bool := fun _ ds => decide (uptoBulkAll ds ≤ 1048576)
def OpenSpec.upto (s : _root_.Go.ChangeSpec) : _root_.Go.OpenSpec := { _root_.Go.OpenSpec.ofChange s with cond := some uptoSmall }

/-- 'printworkslaw1.MorphDilateCells', WHERE WHAT IT READS IS OF BULK AT MOST 1048576: true; the input reads as it did. -/
def morphDilateCellsUptoRow : OpenClaim := { program := "ytiakdbcikmkomaa", sum := "54da178ea70253892cbe4953d3c3a79f983c504c27cbbe179b6ab27576fc397e", func := "printworks/printworkslaw1.MorphDilateCells", spec := "morphDilateCells", unfollowed := true, recurses := true, apart := false, narrowed := true }
def MorphDilateCellsUptoSaid : Prop := morphDilateCellsUptoRow.holds Try.pinned (OpenSpec.upto morphDilateCellsSpec)

/-- 'printworkslaw1.MorphErodeCells', WHERE WHAT IT READS IS OF BULK AT MOST 1048576: true; the input reads as it did. -/
def morphErodeCellsUptoRow : OpenClaim := { program := "ytiakdbcikmkomaa", sum := "54da178ea70253892cbe4953d3c3a79f983c504c27cbbe179b6ab27576fc397e", func := "printworks/printworkslaw1.MorphErodeCells", spec := "morphErodeCells", unfollowed := true, recurses := true, apart := false, narrowed := true }
def MorphErodeCellsUptoSaid : Prop := morphErodeCellsUptoRow.holds Try.pinned (OpenSpec.upto morphErodeCellsSpec)

/-- 'printworkslaw1.MorphOpenCloseCells', WHERE WHAT IT READS IS OF BULK AT MOST 1048576: true; the input reads as it did. -/
def morphOpenCloseCellsUptoRow : OpenClaim := { program := "ytiakdbcikmkomaa", sum := "54da178ea70253892cbe4953d3c3a79f983c504c27cbbe179b6ab27576fc397e", func := "printworks/printworkslaw1.MorphOpenCloseCells", spec := "morphOpenCloseCells", unfollowed := true, recurses := true, apart := false, narrowed := true }
def MorphOpenCloseCellsUptoSaid : Prop := morphOpenCloseCellsUptoRow.holds Try.pinned (OpenSpec.upto morphOpenCloseCellsSpec)

/-- 'printworkslaw1.MorphEdgeCells', WHERE WHAT IT READS IS OF BULK AT MOST 1048576: true; the input reads as it did. -/
def morphEdgeCellsUptoRow : OpenClaim := { program := "ytiakdbcikmkomaa", sum := "54da178ea70253892cbe4953d3c3a79f983c504c27cbbe179b6ab27576fc397e", func := "printworks/printworkslaw1.MorphEdgeCells", spec := "morphEdgeCells", unfollowed := true, recurses := true, apart := false, narrowed := true }
def MorphEdgeCellsUptoSaid : Prop := morphEdgeCellsUptoRow.holds Try.pinned (OpenSpec.upto morphEdgeCellsSpec)

end Rows
end Go.Proofs.Ytiakdbcikmkomaa
