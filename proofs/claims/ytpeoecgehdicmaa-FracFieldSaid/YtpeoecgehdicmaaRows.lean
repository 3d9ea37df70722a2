/-
  No cell of these rows narrows 'for every input' (looked for: loops, veiled, ifaces, maps, wideKeys, modest, calm, conditions, laid).
  DERIVED. THE GIVEN ROWS OF THIS SEAT. 4 by the template 'for every input the law returns true; each argument reads behind the call as it read before'; 0 by the template 'total and deterministic' (their statements: YtpeoecgehdicmaaTotals.lean).
  GIVEN WITH THE SEED: the statements are not yours to turn. If you find one false, say at which input.
  Laid BY PROGRAM, IN A SANDBOX (cutbox-rows.mjs): the forced cells as the released guide's own fill.sh prints them over the translation 68f436fe87c32a32… (all of the seat's roots in one cut). By AI agents, Wed Nov 11 2026. No macro, syntax, notation, axiom, sorry.
-/
import Derived.Test.YtpeoecgehdicmaaChecked
import GoSem.Claim
import GoSem.ClaimJoined
import GoSem.ClaimMapViews
import Derived.JoinedTies
import Derived.KernelRfl
namespace Go.Proofs.Ytpeoecgehdicmaa
/- THE CELL 'sum', in the pinned program and in every row, IS THE sha256 OF THE DUMP (.gsa) THAT YtpeoecgehdicmaaProg.lean LOADS. Nothing in Lean hashes anything: it is a label: what it is worth is what the hold of that sum in a sandbox is worth. -/
noncomputable def Try.pinned : Pinned := { name := "ytpeoecgehdicmaa", sum := "68f436fe87c32a32fe516a03549a928ab52107f5d5d78fda41132bc983b5b896", checked := Try.checked }
namespace Rows
def none {H : Type} : Left H := { results := [], args := [] }

/-- 'fringelaw01.FracProducts': WHATEVER THE INPUT: true; the input reads as it did. -/
def fracProductsSpec : ChangeSpec := { name := "fracProducts", fn := fun _ => fun
  | [d1, d2, d3, d4] => { results := [.lit (.bool true)], args := [d1, d2, d3, d4] }
  | _ => none }
def fracProductsRow : OpenClaim := { program := "ytpeoecgehdicmaa", sum := "68f436fe87c32a32fe516a03549a928ab52107f5d5d78fda41132bc983b5b896", func := "fringe/fringelaw01.FracProducts", spec := "fracProducts", apart := false }
def FracProductsSaid : Prop := fracProductsRow.holds Try.pinned (OpenSpec.ofChange fracProductsSpec)

/-- ITS FALSE NEIGHBOUR: 'it returns false'. Refute it at one input. -/
def fracProductsWrong : ChangeSpec := { name := "fracProducts", fn := fun _ => fun
  | [d1, d2, d3, d4] => { results := [.lit (.bool false)], args := [d1, d2, d3, d4] }
  | _ => none }
def FracProductsWrongFalsely : Prop := fracProductsRow.holds Try.pinned (OpenSpec.ofChange fracProductsWrong)

/-- 'fringelaw01.FracBest': WHATEVER THE INPUT: true; the input reads as it did. -/
def fracBestSpec : ChangeSpec := { name := "fracBest", fn := fun _ => fun
  | [d1, d2, d3] => { results := [.lit (.bool true)], args := [d1, d2, d3] }
  | _ => none }
def fracBestRow : OpenClaim := { program := "ytpeoecgehdicmaa", sum := "68f436fe87c32a32fe516a03549a928ab52107f5d5d78fda41132bc983b5b896", func := "fringe/fringelaw01.FracBest", spec := "fracBest", apart := false }
def FracBestSaid : Prop := fracBestRow.holds Try.pinned (OpenSpec.ofChange fracBestSpec)

/-- ITS FALSE NEIGHBOUR: 'it returns false'. Refute it at one input. -/
def fracBestWrong : ChangeSpec := { name := "fracBest", fn := fun _ => fun
  | [d1, d2, d3] => { results := [.lit (.bool false)], args := [d1, d2, d3] }
  | _ => none }
def FracBestWrongFalsely : Prop := fracBestRow.holds Try.pinned (OpenSpec.ofChange fracBestWrong)

/-- 'fringelaw01.FracSums': WHATEVER THE INPUT: true; the input reads as it did. -/
def fracSumsSpec : ChangeSpec := { name := "fracSums", fn := fun _ => fun
  | [d1, d2] => { results := [.lit (.bool true)], args := [d1, d2] }
  | _ => none }
def fracSumsRow : OpenClaim := { program := "ytpeoecgehdicmaa", sum := "68f436fe87c32a32fe516a03549a928ab52107f5d5d78fda41132bc983b5b896", func := "fringe/fringelaw01.FracSums", spec := "fracSums", inPlace := ["math/bits.Add64", "math/bits.Sub64"], named := ["math/bits.divideError", "math/bits.overflowError"], apart := false }
def FracSumsSaid : Prop := fracSumsRow.holds Try.pinned (OpenSpec.ofChange fracSumsSpec)

/-- ITS FALSE NEIGHBOUR: 'it returns false'. Refute it at one input. -/
def fracSumsWrong : ChangeSpec := { name := "fracSums", fn := fun _ => fun
  | [d1, d2] => { results := [.lit (.bool false)], args := [d1, d2] }
  | _ => none }
def FracSumsWrongFalsely : Prop := fracSumsRow.holds Try.pinned (OpenSpec.ofChange fracSumsWrong)

/-- 'fringelaw01.FracField': WHATEVER THE INPUT: true; the input reads as it did. -/
def fracFieldSpec : ChangeSpec := { name := "fracField", fn := fun _ => fun
  | [d1, d2] => { results := [.lit (.bool true)], args := [d1, d2] }
  | _ => none }
def fracFieldRow : OpenClaim := { program := "ytpeoecgehdicmaa", sum := "68f436fe87c32a32fe516a03549a928ab52107f5d5d78fda41132bc983b5b896", func := "fringe/fringelaw01.FracField", spec := "fracField", inPlace := ["math/bits.Add64", "math/bits.Sub64"], named := ["math/bits.divideError", "math/bits.overflowError"], apart := false }
def FracFieldSaid : Prop := fracFieldRow.holds Try.pinned (OpenSpec.ofChange fracFieldSpec)

/-- ITS FALSE NEIGHBOUR: 'it returns false'. Refute it at one input. -/
def fracFieldWrong : ChangeSpec := { name := "fracField", fn := fun _ => fun
  | [d1, d2] => { results := [.lit (.bool false)], args := [d1, d2] }
  | _ => none }
def FracFieldWrongFalsely : Prop := fracFieldRow.holds Try.pinned (OpenSpec.ofChange fracFieldWrong)

/- THE SECOND FORM. 'bulk': how many values and letters a reading holds, each counted each time it is reached (what is shared counts as often as it is met; a slice's spare places count too). A statement '..UptoSaid' is the law's where the arguments, and the package variables that the reading takes, are together of bulk at most 1048576: NARROWER than '..Said'. Prove '..Said' where nothing that the law and all that it calls make is longer than what came in: it says more and counts as full. Else prove '..UptoSaid'. A law counts once. -/
mutual
def uptoBulk {H : Type} : DataW H → Nat
  | .lit (.string bytes) => bytes.length + 1
  | .lit _ => 1
  | .nil => 1
  | .ptr d => uptoBulk d + 1
  | .slice elems spare => uptoBulkAll elems + uptoBulkAll spare + 1
  | .agg parts => uptoBulkAll parts + 1
  | .iface _ d => uptoBulk d + 1
  | .map entries => uptoBulkEntries entries + 1
  | .held _ => 1
def uptoBulkAll {H : Type} : List (DataW H) → Nat
  | [] => 0
  | d :: r => uptoBulk d + uptoBulkAll r
def uptoBulkEntries {H : Type} : List (Lit × DataW H) → Nat
  | [] => 0
  | x :: r => uptoBulkEntry x + uptoBulkEntries r
def uptoBulkEntry {H : Type} : Lit × DataW H → Nat
  | (.string bytes, d) => bytes.length + uptoBulk d + 1
  | (_, d) => uptoBulk d + 1
 end
def uptoSmall : (H : Type) → List (DataW H) → Bool := fun _ ds => decide (uptoBulkAll ds ≤ 1048576)
def OpenSpec.upto (s : _root_.Go.ChangeSpec) : _root_.Go.OpenSpec := { _root_.Go.OpenSpec.ofChange s with cond := some uptoSmall }

/-- 'fringelaw01.FracProducts', WHERE WHAT IT READS IS OF BULK AT MOST 1048576: true; the input reads as it did. -/
def fracProductsUptoRow : OpenClaim := { program := "ytpeoecgehdicmaa", sum := "68f436fe87c32a32fe516a03549a928ab52107f5d5d78fda41132bc983b5b896", func := "fringe/fringelaw01.FracProducts", spec := "fracProducts", apart := false, narrowed := true }
def FracProductsUptoSaid : Prop := fracProductsUptoRow.holds Try.pinned (OpenSpec.upto fracProductsSpec)

/-- 'fringelaw01.FracBest', WHERE WHAT IT READS IS OF BULK AT MOST 1048576: true; the input reads as it did. -/
def fracBestUptoRow : OpenClaim := { program := "ytpeoecgehdicmaa", sum := "68f436fe87c32a32fe516a03549a928ab52107f5d5d78fda41132bc983b5b896", func := "fringe/fringelaw01.FracBest", spec := "fracBest", apart := false, narrowed := true }
def FracBestUptoSaid : Prop := fracBestUptoRow.holds Try.pinned (OpenSpec.upto fracBestSpec)

/-- 'fringelaw01.FracSums', WHERE WHAT IT READS IS OF BULK AT MOST 1048576: true; the input reads as it did. -/
def fracSumsUptoRow : OpenClaim := { program := "ytpeoecgehdicmaa", sum := "68f436fe87c32a32fe516a03549a928ab52107f5d5d78fda41132bc983b5b896", func := "fringe/fringelaw01.FracSums", spec := "fracSums", inPlace := ["math/bits.Add64", "math/bits.Sub64"], named := ["math/bits.divideError", "math/bits.overflowError"], apart := false, narrowed := true }
def FracSumsUptoSaid : Prop := fracSumsUptoRow.holds Try.pinned (OpenSpec.upto fracSumsSpec)

/-- 'fringelaw01.FracField', WHERE WHAT IT READS IS OF BULK AT MOST 1048576: true; the input reads as it did. -/
def fracFieldUptoRow : OpenClaim := { program := "ytpeoecgehdicmaa", sum := "68f436fe87c32a32fe516a03549a928ab52107f5d5d78fda41132bc983b5b896", func := "fringe/fringelaw01.FracField", spec := "fracField", inPlace := ["math/bits.Add64", "math/bits.Sub64"], named := ["math/bits.divideError", "math/bits.overflowError"], apart := false, narrowed := true }
def FracFieldUptoSaid : Prop := fracFieldUptoRow.holds Try.pinned (OpenSpec.upto fracFieldSpec)

end Rows
end Go.Proofs.Ytpeoecgehdicmaa
