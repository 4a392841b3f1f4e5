/-
  DERIVED. GIVEN WITH THE SEED: THE CARDS: each row of YtpdneadfllcpfaaGreatDoorRows.lean that lists a variable, with what it lists TIED to the program's text (the seventh form; the later family's looks); each row that meets fmt, with fmt's text TOLD by the authors' own Lean function (tested against real Go, not proved from fmt's source: count such statements apart). THE CARD IS WHAT COUNTS. Prove the row's statement (the work); the ties are given (YtpdneadfllcpfaaGreatDoorTie.lean); close each card by the builder's one call (the guide's Derived/Test/ToyasCard.lean, 'card_holds'). Laid BY PROGRAM, IN A SANDBOX (cutbox-door.mjs). By AI agents, Wed Nov 11 2026. No macro, syntax, notation, axiom, sorry.
-/
import Derived.Test.YtpdneadfllcpfaaGreatDoorRows
import GoSem.ClaimSeven
namespace Go.Proofs.YtpdneadfllcpfaaGreatDoor
namespace Rows

/-- THE TIED CARD OF 'printworkslaw1.WorksFeeders'. -/
def worksFeedersCard : Claim7 := { stood := { row := worksFeedersRow, standIns := [], harness := (true, "ca6eb13a08f8a4765901a25043ddf56d8b754babbd9c11d6ad596cbb2611f1f2"), looks := true }, kinds := [], alts := [], laidByText := true, laidKinds := [.data, .data, .data, .data, .sentinel, .sentinel, .data, .pinned], laidTests := true, laidLooks := .later }
def WorksFeedersCardSaid : Prop := Claim7.holds Tryz.pinned (.plain (OpenSpec.ofChange worksFeedersSpec)) worksFeedersCard

/-- THE SECOND FORM's CARD OF 'printworkslaw1.WorksFeeders'. -/
def worksFeedersUptoCard : Claim7 := { stood := { row := worksFeedersUptoRow, standIns := [], harness := (true, "ca6eb13a08f8a4765901a25043ddf56d8b754babbd9c11d6ad596cbb2611f1f2"), looks := true }, kinds := [], alts := [], laidByText := true, laidKinds := [.data, .data, .data, .data, .sentinel, .sentinel, .data, .pinned], laidTests := true, laidLooks := .later }
def WorksFeedersUptoCardSaid : Prop := Claim7.holds Tryz.pinned (.plain (OpenSpec.upto worksFeedersSpec)) worksFeedersUptoCard
end Rows
end Go.Proofs.YtpdneadfllcpfaaGreatDoor
