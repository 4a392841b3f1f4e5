/-
  DERIVED. GIVEN WITH THE SEED: THE CARDS: each row of YthbppimjaealnaaDoorRows.lean that lists a variable, with what it lists TIED to the program's text (the seventh form; the later family's looks); each row that meets fmt, with fmt's text TOLD by the authors' own Lean function (tested against real Go, not proved from fmt's source: count such statements apart). THE CARD IS WHAT COUNTS. Prove the row's statement (the work); the ties are given (YthbppimjaealnaaDoorTie.lean); close each card by the builder's one call (the guide's Derived/Test/ToyasCard.lean, 'card_holds'). Laid BY PROGRAM, IN A SANDBOX (cutbox-door.mjs). By AI agents, Wed Nov 11 2026. No macro, syntax, notation, axiom, sorry.
-/
import Derived.Test.YthbppimjaealnaaDoorRows
import GoSem.ClaimSeven
namespace Go.Proofs.YthbppimjaealnaaDoor
namespace Rows

/-- THE TIED CARD OF 'printworkslaw1.PathTextWords'. -/
def pathTextWordsCard : Claim7 := { stood := { row := pathTextWordsRow, standIns := [], harness := (true, "b05380922b86c6084ca1f414c97a02c8e45b9fe532492b72ae7bac083f2f6dec"), looks := false }, kinds := [], alts := [], laidByText := true, laidKinds := [.data, .data, .data], laidTests := true, laidLooks := .later }
def PathTextWordsCardSaid : Prop := Claim7.holds Tryd.pinned (.plain (OpenSpec.ofChange pathTextWordsSpec)) pathTextWordsCard

/-- THE TIED CARD OF 'printworkslaw1.PathRectangleSegs'. -/
def pathRectangleSegsCard : Claim7 := { stood := { row := pathRectangleSegsRow, standIns := [], harness := (true, "b05380922b86c6084ca1f414c97a02c8e45b9fe532492b72ae7bac083f2f6dec"), looks := false }, kinds := [], alts := [], laidByText := true, laidKinds := [.data, .data, .data], laidTests := true, laidLooks := .later }
def PathRectangleSegsCardSaid : Prop := Claim7.holds Tryd.pinned (.plain (OpenSpec.ofChange pathRectangleSegsSpec)) pathRectangleSegsCard

/-- THE TIED CARD OF 'printworkslaw1.PathBoundsHold'. -/
def pathBoundsHoldCard : Claim7 := { stood := { row := pathBoundsHoldRow, standIns := [], harness := (true, "b05380922b86c6084ca1f414c97a02c8e45b9fe532492b72ae7bac083f2f6dec"), looks := false }, kinds := [], alts := [], laidByText := true, laidKinds := [.data, .data, .data], laidTests := true, laidLooks := .later }
def PathBoundsHoldCardSaid : Prop := Claim7.holds Tryd.pinned (.plain (OpenSpec.ofChange pathBoundsHoldSpec)) pathBoundsHoldCard

/-- THE TIED CARD OF 'printworkslaw1.PathReverseSubpaths'. -/
def pathReverseSubpathsCard : Claim7 := { stood := { row := pathReverseSubpathsRow, standIns := [], harness := (true, "b05380922b86c6084ca1f414c97a02c8e45b9fe532492b72ae7bac083f2f6dec"), looks := false }, kinds := [], alts := [], laidByText := true, laidKinds := [.data, .data, .data], laidTests := true, laidLooks := .later }
def PathReverseSubpathsCardSaid : Prop := Claim7.holds Tryd.pinned (.plain (OpenSpec.ofChange pathReverseSubpathsSpec)) pathReverseSubpathsCard

/-- THE TIED CARD OF 'printworkslaw1.PathMapPoints'. -/
def pathMapPointsCard : Claim7 := { stood := { row := pathMapPointsRow, standIns := [], harness := (true, "b05380922b86c6084ca1f414c97a02c8e45b9fe532492b72ae7bac083f2f6dec"), looks := false }, kinds := [], alts := [], laidByText := true, laidKinds := [.data, .data, .data], laidTests := true, laidLooks := .later }
def PathMapPointsCardSaid : Prop := Claim7.holds Tryd.pinned (.plain (OpenSpec.ofChange pathMapPointsSpec)) pathMapPointsCard

/-- THE SECOND FORM's CARD OF 'printworkslaw1.PathTextWords'. -/
def pathTextWordsUptoCard : Claim7 := { stood := { row := pathTextWordsUptoRow, standIns := [], harness := (true, "b05380922b86c6084ca1f414c97a02c8e45b9fe532492b72ae7bac083f2f6dec"), looks := false }, kinds := [], alts := [], laidByText := true, laidKinds := [.data, .data, .data], laidTests := true, laidLooks := .later }
def PathTextWordsUptoCardSaid : Prop := Claim7.holds Tryd.pinned (.plain (OpenSpec.upto pathTextWordsSpec)) pathTextWordsUptoCard

/-- THE SECOND FORM's CARD OF 'printworkslaw1.PathRectangleSegs'. -/
def pathRectangleSegsUptoCard : Claim7 := { stood := { row := pathRectangleSegsUptoRow, standIns := [], harness := (true, "b05380922b86c6084ca1f414c97a02c8e45b9fe532492b72ae7bac083f2f6dec"), looks := false }, kinds := [], alts := [], laidByText := true, laidKinds := [.data, .data, .data], laidTests := true, laidLooks := .later }
def PathRectangleSegsUptoCardSaid : Prop := Claim7.holds Tryd.pinned (.plain (OpenSpec.upto pathRectangleSegsSpec)) pathRectangleSegsUptoCard

/-- THE SECOND FORM's CARD OF 'printworkslaw1.PathBoundsHold'. -/
def pathBoundsHoldUptoCard : Claim7 := { stood := { row := pathBoundsHoldUptoRow, standIns := [], harness := (true, "b05380922b86c6084ca1f414c97a02c8e45b9fe532492b72ae7bac083f2f6dec"), looks := false }, kinds := [], alts := [], laidByText := true, laidKinds := [.data, .data, .data], laidTests := true, laidLooks := .later }
def PathBoundsHoldUptoCardSaid : Prop := Claim7.holds Tryd.pinned (.plain (OpenSpec.upto pathBoundsHoldSpec)) pathBoundsHoldUptoCard

/-- THE SECOND FORM's CARD OF 'printworkslaw1.PathReverseSubpaths'. -/
def pathReverseSubpathsUptoCard : Claim7 := { stood := { row := pathReverseSubpathsUptoRow, standIns := [], harness := (true, "b05380922b86c6084ca1f414c97a02c8e45b9fe532492b72ae7bac083f2f6dec"), looks := false }, kinds := [], alts := [], laidByText := true, laidKinds := [.data, .data, .data], laidTests := true, laidLooks := .later }
def PathReverseSubpathsUptoCardSaid : Prop := Claim7.holds Tryd.pinned (.plain (OpenSpec.upto pathReverseSubpathsSpec)) pathReverseSubpathsUptoCard

/-- THE SECOND FORM's CARD OF 'printworkslaw1.PathMapPoints'. -/
def pathMapPointsUptoCard : Claim7 := { stood := { row := pathMapPointsUptoRow, standIns := [], harness := (true, "b05380922b86c6084ca1f414c97a02c8e45b9fe532492b72ae7bac083f2f6dec"), looks := false }, kinds := [], alts := [], laidByText := true, laidKinds := [.data, .data, .data], laidTests := true, laidLooks := .later }
def PathMapPointsUptoCardSaid : Prop := Claim7.holds Tryd.pinned (.plain (OpenSpec.upto pathMapPointsSpec)) pathMapPointsUptoCard
end Rows
end Go.Proofs.YthbppimjaealnaaDoor
