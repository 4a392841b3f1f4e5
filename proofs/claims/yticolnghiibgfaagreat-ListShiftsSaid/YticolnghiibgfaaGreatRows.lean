/-
  No cell of these rows narrows 'for every input' (looked for: loops, veiled, ifaces, maps, wideKeys, modest, calm, conditions, laid).
  DERIVED. THE GIVEN ROWS OF THIS SEAT. 6 by the template 'for every input the law returns true; each argument reads behind the call as it read before'; 0 by the template 'total and deterministic' (their statements: YticolnghiibgfaaGreatTotals.lean).
  GIVEN WITH THE SEED: the statements are not yours to turn. If you find one false, say at which input.
  Laid BY PROGRAM, IN A SANDBOX (cutbox-rows.mjs): the forced cells as the released guide's own fill.sh prints them over the translation 7f45de80ff1cbd70… (all of the seat's roots in one cut). By AI agents, Wed Nov 11 2026. No macro, syntax, notation, axiom, sorry.
-/
import Derived.Test.YticolnghiibgfaaGreatChecked
import GoSem.Claim
import GoSem.ClaimJoined
import GoSem.ClaimMapViews
import Derived.JoinedTies
import Derived.KernelRfl
namespace Go.Proofs.YticolnghiibgfaaGreat
/- THE CELL 'sum', in the pinned program and in every row, IS THE sha256 OF THE DUMP (.gsa) THAT YticolnghiibgfaaGreatProg.lean LOADS. Nothing in Lean hashes anything: it is a label: what it is worth is what the hold of that sum in a sandbox is worth. -/
noncomputable def Tryz.pinned : Pinned := { name := "yticolnghiibgfaagreat", sum := "7f45de80ff1cbd7001fabd7a65106e82271798ad1cb776b79f4cf7ffbfa23186", checked := Tryz.checked }
namespace Rows
def none {H : Type} : Left H := { results := [], args := [] }

/-- 'printworkslaw1.ListMeaning': WHATEVER THE INPUT: true; the input reads as it did. -/
def listMeaningSpec : ChangeSpec := { name := "listMeaning", fn := fun _ => fun
  | [d1, d2, d3] => { results := [.lit (.bool true)], args := [d1, d2, d3] }
  | _ => none }
def listMeaningRow : OpenClaim := { program := "yticolnghiibgfaagreat", sum := "7f45de80ff1cbd7001fabd7a65106e82271798ad1cb776b79f4cf7ffbfa23186", func := "printworks/printworkslaw1.ListMeaning", spec := "listMeaning", unfollowed := true, recurses := true, apart := false }
def ListMeaningSaid : Prop := listMeaningRow.holds Tryz.pinned (OpenSpec.ofChange listMeaningSpec)

/-- ITS FALSE NEIGHBOUR: 'it returns false'. Refute it at one input. -/
def listMeaningWrong : ChangeSpec := { name := "listMeaning", fn := fun _ => fun
  | [d1, d2, d3] => { results := [.lit (.bool false)], args := [d1, d2, d3] }
  | _ => none }
def ListMeaningWrongFalsely : Prop := listMeaningRow.holds Tryz.pinned (OpenSpec.ofChange listMeaningWrong)

/-- 'printworkslaw1.ListMeaningEverywhere': WHATEVER THE INPUT: true; the input reads as it did. -/
def listMeaningEverywhereSpec : ChangeSpec := { name := "listMeaningEverywhere", fn := fun _ => fun
  | [d] => { results := [.lit (.bool true)], args := [d] }
  | _ => none }
def listMeaningEverywhereRow : OpenClaim := { program := "yticolnghiibgfaagreat", sum := "7f45de80ff1cbd7001fabd7a65106e82271798ad1cb776b79f4cf7ffbfa23186", func := "printworks/printworkslaw1.ListMeaningEverywhere", spec := "listMeaningEverywhere", unfollowed := true, recurses := true, apart := false }
def ListMeaningEverywhereSaid : Prop := listMeaningEverywhereRow.holds Tryz.pinned (OpenSpec.ofChange listMeaningEverywhereSpec)

/-- ITS FALSE NEIGHBOUR: 'it returns false'. Refute it at one input. -/
def listMeaningEverywhereWrong : ChangeSpec := { name := "listMeaningEverywhere", fn := fun _ => fun
  | [d] => { results := [.lit (.bool false)], args := [d] }
  | _ => none }
def ListMeaningEverywhereWrongFalsely : Prop := listMeaningEverywhereRow.holds Tryz.pinned (OpenSpec.ofChange listMeaningEverywhereWrong)

/-- 'printworkslaw1.ListCoversCells': WHATEVER THE INPUT: true; the input reads as it did. -/
def listCoversCellsSpec : ChangeSpec := { name := "listCoversCells", fn := fun _ => fun
  | [d1, d2, d3, d4] => { results := [.lit (.bool true)], args := [d1, d2, d3, d4] }
  | _ => none }
def listCoversCellsRow : OpenClaim := { program := "yticolnghiibgfaagreat", sum := "7f45de80ff1cbd7001fabd7a65106e82271798ad1cb776b79f4cf7ffbfa23186", func := "printworks/printworkslaw1.ListCoversCells", spec := "listCoversCells", unfollowed := true, recurses := true, apart := false }
def ListCoversCellsSaid : Prop := listCoversCellsRow.holds Tryz.pinned (OpenSpec.ofChange listCoversCellsSpec)

/-- ITS FALSE NEIGHBOUR: 'it returns false'. Refute it at one input. -/
def listCoversCellsWrong : ChangeSpec := { name := "listCoversCells", fn := fun _ => fun
  | [d1, d2, d3, d4] => { results := [.lit (.bool false)], args := [d1, d2, d3, d4] }
  | _ => none }
def ListCoversCellsWrongFalsely : Prop := listCoversCellsRow.holds Tryz.pinned (OpenSpec.ofChange listCoversCellsWrong)

/-- 'printworkslaw1.ListBrackets': WHATEVER THE INPUT: true; the input reads as it did. -/
def listBracketsSpec : ChangeSpec := { name := "listBrackets", fn := fun _ => fun
  | [d1, d2, d3, d4] => { results := [.lit (.bool true)], args := [d1, d2, d3, d4] }
  | _ => none }
def listBracketsRow : OpenClaim := { program := "yticolnghiibgfaagreat", sum := "7f45de80ff1cbd7001fabd7a65106e82271798ad1cb776b79f4cf7ffbfa23186", func := "printworks/printworkslaw1.ListBrackets", spec := "listBrackets", unfollowed := true, recurses := true, apart := false }
def ListBracketsSaid : Prop := listBracketsRow.holds Tryz.pinned (OpenSpec.ofChange listBracketsSpec)

/-- ITS FALSE NEIGHBOUR: 'it returns false'. Refute it at one input. -/
def listBracketsWrong : ChangeSpec := { name := "listBrackets", fn := fun _ => fun
  | [d1, d2, d3, d4] => { results := [.lit (.bool false)], args := [d1, d2, d3, d4] }
  | _ => none }
def ListBracketsWrongFalsely : Prop := listBracketsRow.holds Tryz.pinned (OpenSpec.ofChange listBracketsWrong)

/-- 'printworkslaw1.ListShifts': WHATEVER THE INPUT: true; the input reads as it did. -/
def listShiftsSpec : ChangeSpec := { name := "listShifts", fn := fun _ => fun
  | [d1, d2, d3] => { results := [.lit (.bool true)], args := [d1, d2, d3] }
  | _ => none }
def listShiftsRow : OpenClaim := { program := "yticolnghiibgfaagreat", sum := "7f45de80ff1cbd7001fabd7a65106e82271798ad1cb776b79f4cf7ffbfa23186", func := "printworks/printworkslaw1.ListShifts", spec := "listShifts", unfollowed := true, recurses := true, apart := false }
def ListShiftsSaid : Prop := listShiftsRow.holds Tryz.pinned (OpenSpec.ofChange listShiftsSpec)

/-- ITS FALSE NEIGHBOUR: 'it returns false'. Refute it at one input. -/
def listShiftsWrong : ChangeSpec := { name := "listShifts", fn := fun _ => fun
  | [d1, d2, d3] => { results := [.lit (.bool false)], args := [d1, d2, d3] }
  | _ => none }
def ListShiftsWrongFalsely : Prop := listShiftsRow.holds Tryz.pinned (OpenSpec.ofChange listShiftsWrong)

/-- 'printworkslaw1.ListClips': WHATEVER THE INPUT: true; the input reads as it did. -/
def listClipsSpec : ChangeSpec := { name := "listClips", fn := fun _ => fun
  | [d1, d2, d3, d4] => { results := [.lit (.bool true)], args := [d1, d2, d3, d4] }
  | _ => none }
def listClipsRow : OpenClaim := { program := "yticolnghiibgfaagreat", sum := "7f45de80ff1cbd7001fabd7a65106e82271798ad1cb776b79f4cf7ffbfa23186", func := "printworks/printworkslaw1.ListClips", spec := "listClips", unfollowed := true, recurses := true, apart := false }
def ListClipsSaid : Prop := listClipsRow.holds Tryz.pinned (OpenSpec.ofChange listClipsSpec)

/-- ITS FALSE NEIGHBOUR: 'it returns false'. Refute it at one input. -/
def listClipsWrong : ChangeSpec := { name := "listClips", fn := fun _ => fun
  | [d1, d2, d3, d4] => { results := [.lit (.bool false)], args := [d1, d2, d3, d4] }
  | _ => none }
def ListClipsWrongFalsely : Prop := listClipsRow.holds Tryz.pinned (OpenSpec.ofChange listClipsWrong)

/- THE SECOND FORM. 'bulk': how many values and letters a reading holds, each counted each time it is reached (what is shared counts as often as it is met; a slice's spare places count too). A statement '..UptoSaid' is the law's where the arguments, and the package variables that the reading takes, are together of bulk at most 1048576: NARROWER than '..Said'. Prove '..Said' where nothing that the law and all that it calls make is longer than what came in: it says more and counts as full. Else prove '..UptoSaid'. A law counts once. -/
mutual
def uptoBulk {H : Type} : DataW H → Nat
  | .lit (.string bytes) => bytes.length + 1
  | .lit _ => 1
  | .nil => 1
  | .ptr d => uptoBulk d + 1
  | .slice elems spare => uptoBulkAll elems + uptoBulkAll spare + 1
  | .agg parts => uptoBulkAll parts + 1
  | .iface _ d => uptoBulk d + 1
  | .map entries => uptoBulkEntries entries + 1
  | .held _ => 1
def uptoBulkAll {H : Type} : List (DataW H) → Nat
  | [] => 0
  | d :: r => uptoBulk d + uptoBulkAll r
def uptoBulkEntries {H : Type} : List (Lit × DataW H) → Nat
  | [] => 0
  | x :: r => uptoBulkEntry x + uptoBulkEntries r
def uptoBulkEntry {H : Type} : Lit × DataW H → Nat
  | (.string bytes, d) => bytes.length + uptoBulk d + 1
  | (_, d) => uptoBulk d + 1
 end
def uptoSmall : (H : Type) → List (DataW H) → Bool := fun _ ds => decide (uptoBulkAll ds ≤ 1048576)
def OpenSpec.upto (s : _root_.Go.ChangeSpec) : _root_.Go.OpenSpec := { _root_.Go.OpenSpec.ofChange s with cond := some uptoSmall }

/-- 'printworkslaw1.ListMeaning', WHERE WHAT IT READS IS OF BULK AT MOST 1048576: true; the input reads as it did. -/
def listMeaningUptoRow : OpenClaim := { program := "yticolnghiibgfaagreat", sum := "7f45de80ff1cbd7001fabd7a65106e82271798ad1cb776b79f4cf7ffbfa23186", func := "printworks/printworkslaw1.ListMeaning", spec := "listMeaning", unfollowed := true, recurses := true, apart := false, narrowed := true }
def ListMeaningUptoSaid : Prop := listMeaningUptoRow.holds Tryz.pinned (OpenSpec.upto listMeaningSpec)

/-- 'printworkslaw1.ListMeaningEverywhere', WHERE WHAT IT READS IS OF BULK AT MOST 1048576: true; the input reads as it did. -/
def listMeaningEverywhereUptoRow : OpenClaim := { program := "yticolnghiibgfaagreat", sum := "7f45de80ff1cbd7001fabd7a65106e82271798ad1cb776b79f4cf7ffbfa23186", func := "printworks/printworkslaw1.ListMeaningEverywhere", spec := "listMeaningEverywhere", unfollowed := true, recurses := true, apart := false, narrowed := true }
def ListMeaningEverywhereUptoSaid : Prop := listMeaningEverywhereUptoRow.holds Tryz.pinned (OpenSpec.upto listMeaningEverywhereSpec)

/-- 'printworkslaw1.ListCoversCells', WHERE WHAT IT READS IS OF BULK AT MOST 1048576: true; the input reads as it did. -/
def listCoversCellsUptoRow : OpenClaim := { program := "yticolnghiibgfaagreat", sum := "7f45de80ff1cbd7001fabd7a65106e82271798ad1cb776b79f4cf7ffbfa23186", func := "printworks/printworkslaw1.ListCoversCells", spec := "listCoversCells", unfollowed := true, recurses := true, apart := false, narrowed := true }
def ListCoversCellsUptoSaid : Prop := listCoversCellsUptoRow.holds Tryz.pinned (OpenSpec.upto listCoversCellsSpec)

/-- 'printworkslaw1.ListBrackets', WHERE WHAT IT READS IS OF BULK AT MOST 1048576: true; the input reads as it did. -/
def listBracketsUptoRow : OpenClaim := { program := "yticolnghiibgfaagreat", sum := "7f45de80ff1cbd7001fabd7a65106e82271798ad1cb776b79f4cf7ffbfa23186", func := "printworks/printworkslaw1.ListBrackets", spec := "listBrackets", unfollowed := true, recurses := true, apart := false, narrowed := true }
def ListBracketsUptoSaid : Prop := listBracketsUptoRow.holds Tryz.pinned (OpenSpec.upto listBracketsSpec)

/-- 'printworkslaw1.ListShifts', WHERE WHAT IT READS IS OF BULK AT MOST 1048576: true; the input reads as it did. -/
def listShiftsUptoRow : OpenClaim := { program := "yticolnghiibgfaagreat", sum := "7f45de80ff1cbd7001fabd7a65106e82271798ad1cb776b79f4cf7ffbfa23186", func := "printworks/printworkslaw1.ListShifts", spec := "listShifts", unfollowed := true, recurses := true, apart := false, narrowed := true }
def ListShiftsUptoSaid : Prop := listShiftsUptoRow.holds Tryz.pinned (OpenSpec.upto listShiftsSpec)

/-- 'printworkslaw1.ListClips', WHERE WHAT IT READS IS OF BULK AT MOST 1048576: true; the input reads as it did. -/
def listClipsUptoRow : OpenClaim := { program := "yticolnghiibgfaagreat", sum := "7f45de80ff1cbd7001fabd7a65106e82271798ad1cb776b79f4cf7ffbfa23186", func := "printworks/printworkslaw1.ListClips", spec := "listClips", unfollowed := true, recurses := true, apart := false, narrowed := true }
def ListClipsUptoSaid : Prop := listClipsUptoRow.holds Tryz.pinned (OpenSpec.upto listClipsSpec)

end Rows
end Go.Proofs.YticolnghiibgfaaGreat
