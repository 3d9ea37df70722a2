/-
  DERIVED. GIVEN WITH THE SEED: THE CARDS: each row of YtpeoecgehdicmaaDoorRows.lean that lists a variable, with what it lists TIED to the program's text (the seventh form; the later family's looks); each row that meets fmt, with fmt's text TOLD by the authors' own Lean function (tested against real Go, not proved from fmt's source: count such statements apart). THE CARD IS WHAT COUNTS. Prove the row's statement (the work); the ties are given (YtpeoecgehdicmaaDoorTie.lean); close each card by the builder's one call (the guide's Derived/Test/ToyasCard.lean, 'card_holds'). Laid BY PROGRAM, IN A SANDBOX (cutbox-door.mjs). By AI agents, Wed Nov 11 2026. No macro, syntax, notation, axiom, sorry.
-/
import Derived.Test.YtpeoecgehdicmaaDoorRows
import GoSem.ClaimSeven
namespace Go.Proofs.YtpeoecgehdicmaaDoor
namespace Rows

/-- THE TIED CARD OF 'fringelaw01.FracForms'. -/
def fracFormsCard : Claim7 := { stood := { row := fracFormsRow, standIns := [], harness := (true, "43c78dc67c81c121e4f2f638ffa34a2371ed4a535b44984ce1144cd4d0a3dfce"), looks := true }, kinds := [], alts := [], laidByText := true, laidKinds := [.data, .data, .data, .sentinel, .sentinel], laidTests := true, laidLooks := .later }
def FracFormsCardSaid : Prop := Claim7.holds Tryd.pinned (.plain (OpenSpec.ofChange fracFormsSpec)) fracFormsCard

/-- THE TIED CARD OF 'fringelaw01.FracBack'. -/
def fracBackCard : Claim7 := { stood := { row := fracBackRow, standIns := [], harness := (true, "43c78dc67c81c121e4f2f638ffa34a2371ed4a535b44984ce1144cd4d0a3dfce"), looks := true }, kinds := [], alts := [], laidByText := true, laidKinds := [.data, .data, .data, .sentinel, .sentinel], laidTests := true, laidLooks := .later }
def FracBackCardSaid : Prop := Claim7.holds Tryd.pinned (.plain (OpenSpec.ofChange fracBackSpec)) fracBackCard

/-- THE TIED CARD OF 'fringelaw01.FracNames'. -/
def fracNamesCard : Claim7 := { stood := { row := fracNamesRow, standIns := [], harness := (true, "43c78dc67c81c121e4f2f638ffa34a2371ed4a535b44984ce1144cd4d0a3dfce"), looks := true }, kinds := [], alts := [], laidByText := true, laidKinds := [.data, .data, .data, .sentinel, .sentinel], laidTests := true, laidLooks := .later }
def FracNamesCardSaid : Prop := Claim7.holds Tryd.pinned (.plain (OpenSpec.ofChange fracNamesSpec)) fracNamesCard

/-- THE SECOND FORM's CARD OF 'fringelaw01.FracForms'. -/
def fracFormsUptoCard : Claim7 := { stood := { row := fracFormsUptoRow, standIns := [], harness := (true, "43c78dc67c81c121e4f2f638ffa34a2371ed4a535b44984ce1144cd4d0a3dfce"), looks := true }, kinds := [], alts := [], laidByText := true, laidKinds := [.data, .data, .data, .sentinel, .sentinel], laidTests := true, laidLooks := .later }
def FracFormsUptoCardSaid : Prop := Claim7.holds Tryd.pinned (.plain (OpenSpec.upto fracFormsSpec)) fracFormsUptoCard

/-- THE SECOND FORM's CARD OF 'fringelaw01.FracBack'. -/
def fracBackUptoCard : Claim7 := { stood := { row := fracBackUptoRow, standIns := [], harness := (true, "43c78dc67c81c121e4f2f638ffa34a2371ed4a535b44984ce1144cd4d0a3dfce"), looks := true }, kinds := [], alts := [], laidByText := true, laidKinds := [.data, .data, .data, .sentinel, .sentinel], laidTests := true, laidLooks := .later }
def FracBackUptoCardSaid : Prop := Claim7.holds Tryd.pinned (.plain (OpenSpec.upto fracBackSpec)) fracBackUptoCard

/-- THE SECOND FORM's CARD OF 'fringelaw01.FracNames'. -/
def fracNamesUptoCard : Claim7 := { stood := { row := fracNamesUptoRow, standIns := [], harness := (true, "43c78dc67c81c121e4f2f638ffa34a2371ed4a535b44984ce1144cd4d0a3dfce"), looks := true }, kinds := [], alts := [], laidByText := true, laidKinds := [.data, .data, .data, .sentinel, .sentinel], laidTests := true, laidLooks := .later }
def FracNamesUptoCardSaid : Prop := Claim7.holds Tryd.pinned (.plain (OpenSpec.upto fracNamesSpec)) fracNamesUptoCard
end Rows
end Go.Proofs.YtpeoecgehdicmaaDoor
