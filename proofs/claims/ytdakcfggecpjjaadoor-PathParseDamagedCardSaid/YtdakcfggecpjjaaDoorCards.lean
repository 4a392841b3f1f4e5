/-
  DERIVED. GIVEN WITH THE SEED: THE CARDS: each row of YtdakcfggecpjjaaDoorRows.lean that lists a variable, with what it lists TIED to the program's text (the seventh form; the later family's looks); each row that meets fmt, with fmt's text TOLD by the authors' own Lean function (tested against real Go, not proved from fmt's source: count such statements apart). THE CARD IS WHAT COUNTS. Prove the row's statement (the work); the ties are given (YtdakcfggecpjjaaDoorTie.lean); close each card by the builder's one call (the guide's Derived/Test/ToyasCard.lean, 'card_holds'). Laid BY PROGRAM, IN A SANDBOX (cutbox-door.mjs). By AI agents, Wed Nov 11 2026. No macro, syntax, notation, axiom, sorry.
-/
import Derived.Test.YtdakcfggecpjjaaDoorRows
import GoSem.ClaimSeven
namespace Go.Proofs.YtdakcfggecpjjaaDoor
namespace Rows

/-- THE TIED CARD OF 'printworkslaw1.PathParseReads'. -/
def pathParseReadsCard : Claim7 := { stood := { row := pathParseReadsRow, standIns := [], harness := (true, "4a8a0d5f21236238c96679e8f78620aeb6e7236ac1d467fd15b9b9757783bd67"), looks := false }, kinds := [], alts := [], laidByText := true, laidKinds := [.data, .data, .data, .data, .pinned], laidTests := true, laidLooks := .later }
def PathParseReadsCardSaid : Prop := Claim7.holds Tryd.pinned (.plain (OpenSpec.ofChange pathParseReadsSpec)) pathParseReadsCard

/-- THE TIED CARD OF 'printworkslaw1.PathParseDamaged'. -/
def pathParseDamagedCard : Claim7 := { stood := { row := pathParseDamagedRow, standIns := [], harness := (true, "4a8a0d5f21236238c96679e8f78620aeb6e7236ac1d467fd15b9b9757783bd67"), looks := false }, kinds := [], alts := [], laidByText := true, laidKinds := [.data, .data, .data, .data, .pinned], laidTests := true, laidLooks := .later }
def PathParseDamagedCardSaid : Prop := Claim7.holds Tryd.pinned (.plain (OpenSpec.ofChange pathParseDamagedSpec)) pathParseDamagedCard

/-- THE SECOND FORM's CARD OF 'printworkslaw1.PathParseReads'. -/
def pathParseReadsUptoCard : Claim7 := { stood := { row := pathParseReadsUptoRow, standIns := [], harness := (true, "4a8a0d5f21236238c96679e8f78620aeb6e7236ac1d467fd15b9b9757783bd67"), looks := false }, kinds := [], alts := [], laidByText := true, laidKinds := [.data, .data, .data, .data, .pinned], laidTests := true, laidLooks := .later }
def PathParseReadsUptoCardSaid : Prop := Claim7.holds Tryd.pinned (.plain (OpenSpec.upto pathParseReadsSpec)) pathParseReadsUptoCard

/-- THE SECOND FORM's CARD OF 'printworkslaw1.PathParseDamaged'. -/
def pathParseDamagedUptoCard : Claim7 := { stood := { row := pathParseDamagedUptoRow, standIns := [], harness := (true, "4a8a0d5f21236238c96679e8f78620aeb6e7236ac1d467fd15b9b9757783bd67"), looks := false }, kinds := [], alts := [], laidByText := true, laidKinds := [.data, .data, .data, .data, .pinned], laidTests := true, laidLooks := .later }
def PathParseDamagedUptoCardSaid : Prop := Claim7.holds Tryd.pinned (.plain (OpenSpec.upto pathParseDamagedSpec)) pathParseDamagedUptoCard
end Rows
end Go.Proofs.YtdakcfggecpjjaaDoor
