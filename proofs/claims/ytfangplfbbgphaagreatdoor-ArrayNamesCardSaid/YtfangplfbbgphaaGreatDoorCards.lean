/-
  DERIVED. GIVEN WITH THE SEED: THE CARDS: each row of YtfangplfbbgphaaGreatDoorRows.lean that lists a variable, with what it lists TIED to the program's text (the seventh form; the later family's looks); each row that meets fmt, with fmt's text TOLD by the authors' own Lean function (tested against real Go, not proved from fmt's source: count such statements apart). THE CARD IS WHAT COUNTS. Prove the row's statement (the work); the ties are given (YtfangplfbbgphaaGreatDoorTie.lean); close each card by the builder's one call (the guide's Derived/Test/ToyasCard.lean, 'card_holds'). Laid BY PROGRAM, IN A SANDBOX (cutbox-door.mjs). By AI agents, Wed Nov 11 2026. No macro, syntax, notation, axiom, sorry.
-/
import Derived.Test.YtfangplfbbgphaaGreatDoorRows
import GoSem.ClaimSeven
namespace Go.Proofs.YtfangplfbbgphaaGreatDoor
namespace Rows

/-- THE TIED CARD OF 'fringelaw04.ArrayClasses'. -/
def arrayClassesCard : Claim7 := { stood := { row := arrayClassesRow, standIns := [], harness := (true, "38d9ed679a051275769fe3263c1898abce73e695486cf63b31fd8bffdd48c9e5"), looks := true }, kinds := [], alts := [], laidByText := true, laidKinds := [.data, .data, .data], laidTests := true, laidLooks := .later }
def ArrayClassesCardSaid : Prop := Claim7.holds Tryz.pinned (.plain (OpenSpec.ofChange arrayClassesSpec)) arrayClassesCard

/-- THE TIED CARD OF 'fringelaw04.ArrayTriangles'. -/
def arrayTrianglesCard : Claim7 := { stood := { row := arrayTrianglesRow, standIns := [], harness := (true, "38d9ed679a051275769fe3263c1898abce73e695486cf63b31fd8bffdd48c9e5"), looks := true }, kinds := [], alts := [], laidByText := true, laidKinds := [.data, .data, .data], laidTests := true, laidLooks := .later }
def ArrayTrianglesCardSaid : Prop := Claim7.holds Tryz.pinned (.plain (OpenSpec.ofChange arrayTrianglesSpec)) arrayTrianglesCard

/-- THE TIED CARD OF 'fringelaw04.ArrayForms'. -/
def arrayFormsCard : Claim7 := { stood := { row := arrayFormsRow, standIns := [], harness := (true, "38d9ed679a051275769fe3263c1898abce73e695486cf63b31fd8bffdd48c9e5"), looks := true }, kinds := [], alts := [], laidByText := true, laidKinds := [.data, .data, .data, .sentinel, .sentinel], laidTests := true, laidLooks := .later }
def ArrayFormsCardSaid : Prop := Claim7.holds Tryz.pinned (.plain (OpenSpec.ofChange arrayFormsSpec)) arrayFormsCard

/-- THE TIED CARD OF 'fringelaw04.ArrayOrdered'. -/
def arrayOrderedCard : Claim7 := { stood := { row := arrayOrderedRow, standIns := [], harness := (true, "38d9ed679a051275769fe3263c1898abce73e695486cf63b31fd8bffdd48c9e5"), looks := true }, kinds := [], alts := [], laidByText := true, laidKinds := [.data, .data, .data, .sentinel, .sentinel], laidTests := true, laidLooks := .later }
def ArrayOrderedCardSaid : Prop := Claim7.holds Tryz.pinned (.plain (OpenSpec.ofChange arrayOrderedSpec)) arrayOrderedCard

/-- THE TIED CARD OF 'fringelaw04.ArrayNames'. -/
def arrayNamesCard : Claim7 := { stood := { row := arrayNamesRow, standIns := [], harness := (true, "38d9ed679a051275769fe3263c1898abce73e695486cf63b31fd8bffdd48c9e5"), looks := true }, kinds := [], alts := [], laidByText := true, laidKinds := [.data, .data, .data, .sentinel, .sentinel], laidTests := true, laidLooks := .later }
def ArrayNamesCardSaid : Prop := Claim7.holds Tryz.pinned (.plain (OpenSpec.ofChange arrayNamesSpec)) arrayNamesCard

/-- THE SECOND FORM's CARD OF 'fringelaw04.ArrayClasses'. -/
def arrayClassesUptoCard : Claim7 := { stood := { row := arrayClassesUptoRow, standIns := [], harness := (true, "38d9ed679a051275769fe3263c1898abce73e695486cf63b31fd8bffdd48c9e5"), looks := true }, kinds := [], alts := [], laidByText := true, laidKinds := [.data, .data, .data], laidTests := true, laidLooks := .later }
def ArrayClassesUptoCardSaid : Prop := Claim7.holds Tryz.pinned (.plain (OpenSpec.upto arrayClassesSpec)) arrayClassesUptoCard

/-- THE SECOND FORM's CARD OF 'fringelaw04.ArrayTriangles'. -/
def arrayTrianglesUptoCard : Claim7 := { stood := { row := arrayTrianglesUptoRow, standIns := [], harness := (true, "38d9ed679a051275769fe3263c1898abce73e695486cf63b31fd8bffdd48c9e5"), looks := true }, kinds := [], alts := [], laidByText := true, laidKinds := [.data, .data, .data], laidTests := true, laidLooks := .later }
def ArrayTrianglesUptoCardSaid : Prop := Claim7.holds Tryz.pinned (.plain (OpenSpec.upto arrayTrianglesSpec)) arrayTrianglesUptoCard

/-- THE SECOND FORM's CARD OF 'fringelaw04.ArrayForms'. -/
def arrayFormsUptoCard : Claim7 := { stood := { row := arrayFormsUptoRow, standIns := [], harness := (true, "38d9ed679a051275769fe3263c1898abce73e695486cf63b31fd8bffdd48c9e5"), looks := true }, kinds := [], alts := [], laidByText := true, laidKinds := [.data, .data, .data, .sentinel, .sentinel], laidTests := true, laidLooks := .later }
def ArrayFormsUptoCardSaid : Prop := Claim7.holds Tryz.pinned (.plain (OpenSpec.upto arrayFormsSpec)) arrayFormsUptoCard

/-- THE SECOND FORM's CARD OF 'fringelaw04.ArrayOrdered'. -/
def arrayOrderedUptoCard : Claim7 := { stood := { row := arrayOrderedUptoRow, standIns := [], harness := (true, "38d9ed679a051275769fe3263c1898abce73e695486cf63b31fd8bffdd48c9e5"), looks := true }, kinds := [], alts := [], laidByText := true, laidKinds := [.data, .data, .data, .sentinel, .sentinel], laidTests := true, laidLooks := .later }
def ArrayOrderedUptoCardSaid : Prop := Claim7.holds Tryz.pinned (.plain (OpenSpec.upto arrayOrderedSpec)) arrayOrderedUptoCard

/-- THE SECOND FORM's CARD OF 'fringelaw04.ArrayNames'. -/
def arrayNamesUptoCard : Claim7 := { stood := { row := arrayNamesUptoRow, standIns := [], harness := (true, "38d9ed679a051275769fe3263c1898abce73e695486cf63b31fd8bffdd48c9e5"), looks := true }, kinds := [], alts := [], laidByText := true, laidKinds := [.data, .data, .data, .sentinel, .sentinel], laidTests := true, laidLooks := .later }
def ArrayNamesUptoCardSaid : Prop := Claim7.holds Tryz.pinned (.plain (OpenSpec.upto arrayNamesSpec)) arrayNamesUptoCard
end Rows
end Go.Proofs.YtfangplfbbgphaaGreatDoor
