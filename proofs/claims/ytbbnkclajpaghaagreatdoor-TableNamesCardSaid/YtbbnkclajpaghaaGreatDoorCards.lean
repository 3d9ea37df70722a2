/-
  DERIVED. GIVEN WITH THE SEED: THE CARDS: each row of YtbbnkclajpaghaaGreatDoorRows.lean that lists a variable, with what it lists TIED to the program's text (the seventh form; the later family's looks); each row that meets fmt, with fmt's text TOLD by the authors' own Lean function (tested against real Go, not proved from fmt's source: count such statements apart). THE CARD IS WHAT COUNTS. Prove the row's statement (the work); the ties are given (YtbbnkclajpaghaaGreatDoorTie.lean); close each card by the builder's one call (the guide's Derived/Test/ToyasCard.lean, 'card_holds'). Laid BY PROGRAM, IN A SANDBOX (cutbox-door.mjs). By AI agents, Wed Nov 11 2026. No macro, syntax, notation, axiom, sorry.
-/
import Derived.Test.YtbbnkclajpaghaaGreatDoorRows
import GoSem.ClaimSeven
namespace Go.Proofs.YtbbnkclajpaghaaGreatDoor
namespace Rows

/-- THE TIED CARD OF 'fringelaw24.TableStrings'. -/
def tableStringsCard : Claim7 := { stood := { row := tableStringsRow, standIns := [], harness := (true, "f213e91f03f8dd9bbedecc78d698d9e39d06952e55b520a24c4d7f608af450c5"), looks := true }, kinds := [], alts := [], laidByText := true, laidKinds := [.data, .data, .data, .data, .sentinel, .sentinel, .pinned], laidTests := true, laidLooks := .later }
def TableStringsCardSaid : Prop := Claim7.holds Tryz.pinned (.plain (OpenSpec.ofChange tableStringsSpec)) tableStringsCard

/-- THE TIED CARD OF 'fringelaw24.TableTwice'. -/
def tableTwiceCard : Claim7 := { stood := { row := tableTwiceRow, standIns := [], harness := (true, "f213e91f03f8dd9bbedecc78d698d9e39d06952e55b520a24c4d7f608af450c5"), looks := true }, kinds := [], alts := [], laidByText := true, laidKinds := [.data, .data, .data, .data, .sentinel, .sentinel, .pinned], laidTests := true, laidLooks := .later }
def TableTwiceCardSaid : Prop := Claim7.holds Tryz.pinned (.plain (OpenSpec.ofChange tableTwiceSpec)) tableTwiceCard

/-- THE TIED CARD OF 'fringelaw24.TableWeights'. -/
def tableWeightsCard : Claim7 := { stood := { row := tableWeightsRow, standIns := [], harness := (true, "f213e91f03f8dd9bbedecc78d698d9e39d06952e55b520a24c4d7f608af450c5"), looks := true }, kinds := [], alts := [], laidByText := true, laidKinds := [.data, .data, .data, .data, .sentinel, .sentinel, .pinned], laidTests := true, laidLooks := .later }
def TableWeightsCardSaid : Prop := Claim7.holds Tryz.pinned (.plain (OpenSpec.ofChange tableWeightsSpec)) tableWeightsCard

/-- THE TIED CARD OF 'fringelaw24.TableNames'. -/
def tableNamesCard : Claim7 := { stood := { row := tableNamesRow, standIns := [], harness := (true, "f213e91f03f8dd9bbedecc78d698d9e39d06952e55b520a24c4d7f608af450c5"), looks := true }, kinds := [], alts := [], laidByText := true, laidKinds := [.data, .data, .data, .data, .sentinel, .sentinel, .pinned], laidTests := true, laidLooks := .later }
def TableNamesCardSaid : Prop := Claim7.holds Tryz.pinned (.plain (OpenSpec.ofChange tableNamesSpec)) tableNamesCard

/-- THE TIED CARD OF 'fringelaw24.TableDrops'. -/
def tableDropsCard : Claim7 := { stood := { row := tableDropsRow, standIns := [], harness := (true, "f213e91f03f8dd9bbedecc78d698d9e39d06952e55b520a24c4d7f608af450c5"), looks := true }, kinds := [], alts := [], laidByText := true, laidKinds := [.data, .data, .data, .data, .sentinel, .sentinel, .pinned], laidTests := true, laidLooks := .later }
def TableDropsCardSaid : Prop := Claim7.holds Tryz.pinned (.plain (OpenSpec.ofChange tableDropsSpec)) tableDropsCard

/-- THE SECOND FORM's CARD OF 'fringelaw24.TableStrings'. -/
def tableStringsUptoCard : Claim7 := { stood := { row := tableStringsUptoRow, standIns := [], harness := (true, "f213e91f03f8dd9bbedecc78d698d9e39d06952e55b520a24c4d7f608af450c5"), looks := true }, kinds := [], alts := [], laidByText := true, laidKinds := [.data, .data, .data, .data, .sentinel, .sentinel, .pinned], laidTests := true, laidLooks := .later }
def TableStringsUptoCardSaid : Prop := Claim7.holds Tryz.pinned (.plain (OpenSpec.upto tableStringsSpec)) tableStringsUptoCard

/-- THE SECOND FORM's CARD OF 'fringelaw24.TableTwice'. -/
def tableTwiceUptoCard : Claim7 := { stood := { row := tableTwiceUptoRow, standIns := [], harness := (true, "f213e91f03f8dd9bbedecc78d698d9e39d06952e55b520a24c4d7f608af450c5"), looks := true }, kinds := [], alts := [], laidByText := true, laidKinds := [.data, .data, .data, .data, .sentinel, .sentinel, .pinned], laidTests := true, laidLooks := .later }
def TableTwiceUptoCardSaid : Prop := Claim7.holds Tryz.pinned (.plain (OpenSpec.upto tableTwiceSpec)) tableTwiceUptoCard

/-- THE SECOND FORM's CARD OF 'fringelaw24.TableWeights'. -/
def tableWeightsUptoCard : Claim7 := { stood := { row := tableWeightsUptoRow, standIns := [], harness := (true, "f213e91f03f8dd9bbedecc78d698d9e39d06952e55b520a24c4d7f608af450c5"), looks := true }, kinds := [], alts := [], laidByText := true, laidKinds := [.data, .data, .data, .data, .sentinel, .sentinel, .pinned], laidTests := true, laidLooks := .later }
def TableWeightsUptoCardSaid : Prop := Claim7.holds Tryz.pinned (.plain (OpenSpec.upto tableWeightsSpec)) tableWeightsUptoCard

/-- THE SECOND FORM's CARD OF 'fringelaw24.TableNames'. -/
def tableNamesUptoCard : Claim7 := { stood := { row := tableNamesUptoRow, standIns := [], harness := (true, "f213e91f03f8dd9bbedecc78d698d9e39d06952e55b520a24c4d7f608af450c5"), looks := true }, kinds := [], alts := [], laidByText := true, laidKinds := [.data, .data, .data, .data, .sentinel, .sentinel, .pinned], laidTests := true, laidLooks := .later }
def TableNamesUptoCardSaid : Prop := Claim7.holds Tryz.pinned (.plain (OpenSpec.upto tableNamesSpec)) tableNamesUptoCard

/-- THE SECOND FORM's CARD OF 'fringelaw24.TableDrops'. -/
def tableDropsUptoCard : Claim7 := { stood := { row := tableDropsUptoRow, standIns := [], harness := (true, "f213e91f03f8dd9bbedecc78d698d9e39d06952e55b520a24c4d7f608af450c5"), looks := true }, kinds := [], alts := [], laidByText := true, laidKinds := [.data, .data, .data, .data, .sentinel, .sentinel, .pinned], laidTests := true, laidLooks := .later }
def TableDropsUptoCardSaid : Prop := Claim7.holds Tryz.pinned (.plain (OpenSpec.upto tableDropsSpec)) tableDropsUptoCard
end Rows
end Go.Proofs.YtbbnkclajpaghaaGreatDoor
