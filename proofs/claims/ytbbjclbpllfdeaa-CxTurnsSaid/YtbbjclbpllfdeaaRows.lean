/-
  No cell of these rows narrows 'for every input' (looked for: loops, veiled, ifaces, maps, wideKeys, modest, calm, conditions, laid).
  DERIVED. THE GIVEN ROWS OF THIS SEAT. 2 by the template 'for every input the law returns true; each argument reads behind the call as it read before'; 0 by the template 'total and deterministic' (their statements: YtbbjclbpllfdeaaTotals.lean).
  GIVEN WITH THE SEED: the statements are not yours to turn. If you find one false, say at which input.
  Laid BY PROGRAM, IN A SANDBOX (cutbox-rows.mjs): the forced cells as the released guide's own fill.sh prints them over the translation 49569dc0f8541441… (all of the seat's roots in one cut). By AI agents, Wed Nov 11 2026. No macro, syntax, notation, axiom, sorry.
-/
import Derived.Test.YtbbjclbpllfdeaaChecked
import GoSem.Claim
import GoSem.ClaimJoined
import GoSem.ClaimMapViews
import Derived.JoinedTies
import Derived.KernelRfl
namespace Go.Proofs.Ytbbjclbpllfdeaa
/- THE CELL 'sum', in the pinned program and in every row, IS THE sha256 OF THE DUMP (.gsa) THAT YtbbjclbpllfdeaaProg.lean LOADS. Nothing in Lean hashes anything: it is a label: what it is worth is what the hold of that sum in a sandbox is worth. -/
noncomputable def Try.pinned : Pinned := { name := "ytbbjclbpllfdeaa", sum := "49569dc0f8541441632f30032721e6e08f0840ca3ae0ab9353b328b2e25d35d7", checked := Try.checked }
namespace Rows
def none {H : Type} : Left H := { results := [], args := [] }

/-- 'fringelaw25.CxSums': WHATEVER THE INPUT: true; the input reads as it did. -/
def cxSumsSpec : ChangeSpec := { name := "cxSums", fn := fun _ => fun
  | [d1, d2] => { results := [.lit (.bool true)], args := [d1, d2] }
  | _ => none }
def cxSumsRow : OpenClaim := { program := "ytbbjclbpllfdeaa", sum := "49569dc0f8541441632f30032721e6e08f0840ca3ae0ab9353b328b2e25d35d7", func := "fringe/fringelaw25.CxSums", spec := "cxSums", apart := false }
def CxSumsSaid : Prop := cxSumsRow.holds Try.pinned (OpenSpec.ofChange cxSumsSpec)

/-- ITS FALSE NEIGHBOUR: 'it returns false'. Refute it at one input. -/
def cxSumsWrong : ChangeSpec := { name := "cxSums", fn := fun _ => fun
  | [d1, d2] => { results := [.lit (.bool false)], args := [d1, d2] }
  | _ => none }
def CxSumsWrongFalsely : Prop := cxSumsRow.holds Try.pinned (OpenSpec.ofChange cxSumsWrong)

/-- 'fringelaw25.CxTurns': WHATEVER THE INPUT: true; the input reads as it did. -/
def cxTurnsSpec : ChangeSpec := { name := "cxTurns", fn := fun _ => fun
  | [d1, d2, d3, d4, d5, d6] => { results := [.lit (.bool true)], args := [d1, d2, d3, d4, d5, d6] }
  | _ => none }
def cxTurnsRow : OpenClaim := { program := "ytbbjclbpllfdeaa", sum := "49569dc0f8541441632f30032721e6e08f0840ca3ae0ab9353b328b2e25d35d7", func := "fringe/fringelaw25.CxTurns", spec := "cxTurns", apart := false }
def CxTurnsSaid : Prop := cxTurnsRow.holds Try.pinned (OpenSpec.ofChange cxTurnsSpec)

/-- ITS FALSE NEIGHBOUR: 'it returns false'. Refute it at one input. -/
def cxTurnsWrong : ChangeSpec := { name := "cxTurns", fn := fun _ => fun
  | [d1, d2, d3, d4, d5, d6] => { results := [.lit (.bool false)], args := [d1, d2, d3, d4, d5, d6] }
  | _ => none }
def CxTurnsWrongFalsely : Prop := cxTurnsRow.holds Try.pinned (OpenSpec.ofChange cxTurnsWrong)

/- THE SECOND FORM. 'bulk': how many values and letters a reading holds, each counted each time it is reached (what is shared counts as often as it is met; a slice's spare places count too). A statement '..UptoSaid' is the law's where the arguments, and the package variables that the reading takes, are together of bulk at most 1048576: NARROWER than '..Said'. Prove '..Said' where nothing that the law and all that it calls make is longer than what came in: it says more and counts as full. Else prove '..UptoSaid'. A law counts once. -/
mutual
def uptoBulk {H : Type} : DataW H → Nat
  | .lit (.string bytes) => bytes.length + 1
  | .lit _ => 1
  | .nil => 1
  | .ptr d => uptoBulk d + 1
  | .slice elems spare => uptoBulkAll elems + uptoBulkAll spare + 1
  | .agg parts => uptoBulkAll parts + 1
  | .iface _ d => uptoBulk d + 1
  | .map entries => uptoBulkEntries entries + 1
  | .held _ => 1
def uptoBulkAll {H : Type} : List (DataW H) → Nat
  | [] => 0
  | d :: r => uptoBulk d + uptoBulkAll r
def uptoBulkEntries {H : Type} : List (Lit × DataW H) → Nat
  | [] => 0
  | x :: r => uptoBulkEntry x + uptoBulkEntries r
def uptoBulkEntry {H : Type} : Lit × DataW H → Nat
  | (.string bytes, d) => bytes.length + uptoBulk d + 1
  | (_, d) => uptoBulk d + 1
 end
def uptoSmall : (H : Type) → List (DataW H) → Bool := fun _ ds => decide (uptoBulkAll ds ≤ 1048576)
def OpenSpec.upto (s : _root_.Go.ChangeSpec) : _root_.Go.OpenSpec := { _root_.Go.OpenSpec.ofChange s with cond := some uptoSmall }

/-- 'fringelaw25.CxSums', WHERE WHAT IT READS IS OF BULK AT MOST 1048576: true; the input reads as it did. -/
def cxSumsUptoRow : OpenClaim := { program := "ytbbjclbpllfdeaa", sum := "49569dc0f8541441632f30032721e6e08f0840ca3ae0ab9353b328b2e25d35d7", func := "fringe/fringelaw25.CxSums", spec := "cxSums", apart := false, narrowed := true }
def CxSumsUptoSaid : Prop := cxSumsUptoRow.holds Try.pinned (OpenSpec.upto cxSumsSpec)

/-- 'fringelaw25.CxTurns', WHERE WHAT IT READS IS OF BULK AT MOST 1048576: true; the input reads as it did. -/
def cxTurnsUptoRow : OpenClaim := { program := "ytbbjclbpllfdeaa", sum := "49569dc0f8541441632f30032721e6e08f0840ca3ae0ab9353b328b2e25d35d7", func := "fringe/fringelaw25.CxTurns", spec := "cxTurns", apart := false, narrowed := true }
def CxTurnsUptoSaid : Prop := cxTurnsUptoRow.holds Try.pinned (OpenSpec.upto cxTurnsSpec)

end Rows
end Go.Proofs.Ytbbjclbpllfdeaa
