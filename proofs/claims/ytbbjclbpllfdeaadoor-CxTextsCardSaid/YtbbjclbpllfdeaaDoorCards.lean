/-
  DERIVED. GIVEN WITH THE SEED: THE CARDS: each row of YtbbjclbpllfdeaaDoorRows.lean that lists a variable, with what it lists TIED to the program's text (the seventh form; the later family's looks); each row that meets fmt, with fmt's text TOLD by the authors' own Lean function (tested against real Go, not proved from fmt's source: count such statements apart). THE CARD IS WHAT COUNTS. Prove the row's statement (the work); the ties are given (YtbbjclbpllfdeaaDoorTie.lean); close each card by the builder's one call (the guide's Derived/Test/ToyasCard.lean, 'card_holds'). Laid BY PROGRAM, IN A SANDBOX (cutbox-door.mjs). By AI agents, Wed Nov 11 2026. No macro, syntax, notation, axiom, sorry.
-/
import Derived.Test.YtbbjclbpllfdeaaDoorRows
import GoSem.ClaimSeven
namespace Go.Proofs.YtbbjclbpllfdeaaDoor
namespace Rows

/-- THE TIED CARD OF 'fringelaw25.CxTexts'. -/
def cxTextsCard : Claim7 := { stood := { row := cxTextsRow, standIns := [], harness := (true, "79a2c85c093c7f4bbd60387b9b96cb032bdfb92f3488d33d2cf8f7a3fa8fd4c2"), looks := true }, kinds := [], alts := [], laidByText := true, laidKinds := [.data, .data, .data, .sentinel, .sentinel], laidTests := true, laidLooks := .later }
def CxTextsCardSaid : Prop := Claim7.holds Tryd.pinned (.plain (OpenSpec.ofChange cxTextsSpec)) cxTextsCard

/-- THE TIED CARD OF 'fringelaw25.CxField'. -/
def cxFieldCard : Claim7 := { stood := { row := cxFieldRow, standIns := [], harness := (true, "79a2c85c093c7f4bbd60387b9b96cb032bdfb92f3488d33d2cf8f7a3fa8fd4c2"), looks := true }, kinds := [], alts := [], laidByText := true, laidKinds := [.data, .data, .data, .sentinel, .sentinel], laidTests := true, laidLooks := .later }
def CxFieldCardSaid : Prop := Claim7.holds Tryd.pinned (.plain (OpenSpec.ofChange cxFieldSpec)) cxFieldCard

/-- THE TIED CARD OF 'fringelaw25.CxNorms'. -/
def cxNormsCard : Claim7 := { stood := { row := cxNormsRow, standIns := [], harness := (true, "79a2c85c093c7f4bbd60387b9b96cb032bdfb92f3488d33d2cf8f7a3fa8fd4c2"), looks := true }, kinds := [], alts := [], laidByText := true, laidKinds := [.data, .data, .data, .sentinel, .sentinel], laidTests := true, laidLooks := .later }
def CxNormsCardSaid : Prop := Claim7.holds Tryd.pinned (.plain (OpenSpec.ofChange cxNormsSpec)) cxNormsCard

/-- THE TIED CARD OF 'fringelaw25.CxBack'. -/
def cxBackCard : Claim7 := { stood := { row := cxBackRow, standIns := [], harness := (true, "79a2c85c093c7f4bbd60387b9b96cb032bdfb92f3488d33d2cf8f7a3fa8fd4c2"), looks := true }, kinds := [], alts := [], laidByText := true, laidKinds := [.data, .data, .data, .sentinel, .sentinel], laidTests := true, laidLooks := .later }
def CxBackCardSaid : Prop := Claim7.holds Tryd.pinned (.plain (OpenSpec.ofChange cxBackSpec)) cxBackCard

/-- THE TIED CARD OF 'fringelaw25.CxRays'. -/
def cxRaysCard : Claim7 := { stood := { row := cxRaysRow, standIns := [], harness := (true, "79a2c85c093c7f4bbd60387b9b96cb032bdfb92f3488d33d2cf8f7a3fa8fd4c2"), looks := true }, kinds := [], alts := [], laidByText := true, laidKinds := [.data, .data, .data, .sentinel, .sentinel], laidTests := true, laidLooks := .later }
def CxRaysCardSaid : Prop := Claim7.holds Tryd.pinned (.plain (OpenSpec.ofChange cxRaysSpec)) cxRaysCard

/-- THE TIED CARD OF 'fringelaw25.CxNames'. -/
def cxNamesCard : Claim7 := { stood := { row := cxNamesRow, standIns := [], harness := (true, "79a2c85c093c7f4bbd60387b9b96cb032bdfb92f3488d33d2cf8f7a3fa8fd4c2"), looks := true }, kinds := [], alts := [], laidByText := true, laidKinds := [.data, .data, .data, .sentinel, .sentinel], laidTests := true, laidLooks := .later }
def CxNamesCardSaid : Prop := Claim7.holds Tryd.pinned (.plain (OpenSpec.ofChange cxNamesSpec)) cxNamesCard

/-- THE SECOND FORM's CARD OF 'fringelaw25.CxTexts'. -/
def cxTextsUptoCard : Claim7 := { stood := { row := cxTextsUptoRow, standIns := [], harness := (true, "79a2c85c093c7f4bbd60387b9b96cb032bdfb92f3488d33d2cf8f7a3fa8fd4c2"), looks := true }, kinds := [], alts := [], laidByText := true, laidKinds := [.data, .data, .data, .sentinel, .sentinel], laidTests := true, laidLooks := .later }
def CxTextsUptoCardSaid : Prop := Claim7.holds Tryd.pinned (.plain (OpenSpec.upto cxTextsSpec)) cxTextsUptoCard

/-- THE SECOND FORM's CARD OF 'fringelaw25.CxField'. -/
def cxFieldUptoCard : Claim7 := { stood := { row := cxFieldUptoRow, standIns := [], harness := (true, "79a2c85c093c7f4bbd60387b9b96cb032bdfb92f3488d33d2cf8f7a3fa8fd4c2"), looks := true }, kinds := [], alts := [], laidByText := true, laidKinds := [.data, .data, .data, .sentinel, .sentinel], laidTests := true, laidLooks := .later }
def CxFieldUptoCardSaid : Prop := Claim7.holds Tryd.pinned (.plain (OpenSpec.upto cxFieldSpec)) cxFieldUptoCard

/-- THE SECOND FORM's CARD OF 'fringelaw25.CxNorms'. -/
def cxNormsUptoCard : Claim7 := { stood := { row := cxNormsUptoRow, standIns := [], harness := (true, "79a2c85c093c7f4bbd60387b9b96cb032bdfb92f3488d33d2cf8f7a3fa8fd4c2"), looks := true }, kinds := [], alts := [], laidByText := true, laidKinds := [.data, .data, .data, .sentinel, .sentinel], laidTests := true, laidLooks := .later }
def CxNormsUptoCardSaid : Prop := Claim7.holds Tryd.pinned (.plain (OpenSpec.upto cxNormsSpec)) cxNormsUptoCard

/-- THE SECOND FORM's CARD OF 'fringelaw25.CxBack'. -/
def cxBackUptoCard : Claim7 := { stood := { row := cxBackUptoRow, standIns := [], harness := (true, "79a2c85c093c7f4bbd60387b9b96cb032bdfb92f3488d33d2cf8f7a3fa8fd4c2"), looks := true }, kinds := [], alts := [], laidByText := true, laidKinds := [.data, .data, .data, .sentinel, .sentinel], laidTests := true, laidLooks := .later }
def CxBackUptoCardSaid : Prop := Claim7.holds Tryd.pinned (.plain (OpenSpec.upto cxBackSpec)) cxBackUptoCard

/-- THE SECOND FORM's CARD OF 'fringelaw25.CxRays'. -/
def cxRaysUptoCard : Claim7 := { stood := { row := cxRaysUptoRow, standIns := [], harness := (true, "79a2c85c093c7f4bbd60387b9b96cb032bdfb92f3488d33d2cf8f7a3fa8fd4c2"), looks := true }, kinds := [], alts := [], laidByText := true, laidKinds := [.data, .data, .data, .sentinel, .sentinel], laidTests := true, laidLooks := .later }
def CxRaysUptoCardSaid : Prop := Claim7.holds Tryd.pinned (.plain (OpenSpec.upto cxRaysSpec)) cxRaysUptoCard

/-- THE SECOND FORM's CARD OF 'fringelaw25.CxNames'. -/
def cxNamesUptoCard : Claim7 := { stood := { row := cxNamesUptoRow, standIns := [], harness := (true, "79a2c85c093c7f4bbd60387b9b96cb032bdfb92f3488d33d2cf8f7a3fa8fd4c2"), looks := true }, kinds := [], alts := [], laidByText := true, laidKinds := [.data, .data, .data, .sentinel, .sentinel], laidTests := true, laidLooks := .later }
def CxNamesUptoCardSaid : Prop := Claim7.holds Tryd.pinned (.plain (OpenSpec.upto cxNamesSpec)) cxNamesUptoCard
end Rows
end Go.Proofs.YtbbjclbpllfdeaaDoor
