/-
  No cell of these rows narrows 'for every input' (looked for: loops, veiled, ifaces, maps, wideKeys, modest, calm, conditions, laid).
  DERIVED. THE GIVEN ROWS OF THIS SEAT. 7 by the template 'for every input the law returns true; each argument reads behind the call as it read before'; 0 by the template 'total and deterministic' (their statements: YthmfjlphmamegaaTotals.lean).
  GIVEN WITH THE SEED: the statements are not yours to turn. If you find one false, say at which input.
  Laid BY PROGRAM, IN A SANDBOX (cutbox-rows.mjs): the forced cells as the released guide's own fill.sh prints them over the translation 9d3057e56033f8c1… (all of the seat's roots in one cut). By AI agents, Wed Nov 11 2026. No macro, syntax, notation, axiom, sorry.
-/
import Derived.Test.YthmfjlphmamegaaChecked
import GoSem.Claim
import GoSem.ClaimJoined
import GoSem.ClaimMapViews
import Derived.JoinedTies
import Derived.KernelRfl
namespace Go.Proofs.Ythmfjlphmamegaa
/- THE CELL 'sum', in the pinned program and in every row, IS THE sha256 OF THE DUMP (.gsa) THAT YthmfjlphmamegaaProg.lean LOADS. Nothing in Lean hashes anything: it is a label: what it is worth is what the hold of that sum in a sandbox is worth. -/
noncomputable def Try.pinned : Pinned := { name := "ythmfjlphmamegaa", sum := "9d3057e56033f8c15e3c4fd22232c9a1acd9018c691c22a4d56a6c0e4a867829", checked := Try.checked }
namespace Rows
def none {H : Type} : Left H := { results := [], args := [] }

/-- 'fringelaw43.PlanTells': WHATEVER THE INPUT: true; the input reads as it did. -/
def planTellsSpec : ChangeSpec := { name := "planTells", fn := fun _ => fun
  | [d] => { results := [.lit (.bool true)], args := [d] }
  | _ => none }
def planTellsRow : OpenClaim := { program := "ythmfjlphmamegaa", sum := "9d3057e56033f8c15e3c4fd22232c9a1acd9018c691c22a4d56a6c0e4a867829", func := "fringe/fringelaw43.PlanTells", spec := "planTells", apart := false }
def PlanTellsSaid : Prop := planTellsRow.holds Try.pinned (OpenSpec.ofChange planTellsSpec)

/-- ITS FALSE NEIGHBOUR: 'it returns false'. Refute it at one input. -/
def planTellsWrong : ChangeSpec := { name := "planTells", fn := fun _ => fun
  | [d] => { results := [.lit (.bool false)], args := [d] }
  | _ => none }
def PlanTellsWrongFalsely : Prop := planTellsRow.holds Try.pinned (OpenSpec.ofChange planTellsWrong)

/-- 'fringelaw43.PlanChanges': WHATEVER THE INPUT: true; the input reads as it did. -/
def planChangesSpec : ChangeSpec := { name := "planChanges", fn := fun _ => fun
  | [d1, d2, d3, d4] => { results := [.lit (.bool true)], args := [d1, d2, d3, d4] }
  | _ => none }
def planChangesRow : OpenClaim := { program := "ythmfjlphmamegaa", sum := "9d3057e56033f8c15e3c4fd22232c9a1acd9018c691c22a4d56a6c0e4a867829", func := "fringe/fringelaw43.PlanChanges", spec := "planChanges", apart := false }
def PlanChangesSaid : Prop := planChangesRow.holds Try.pinned (OpenSpec.ofChange planChangesSpec)

/-- ITS FALSE NEIGHBOUR: 'it returns false'. Refute it at one input. -/
def planChangesWrong : ChangeSpec := { name := "planChanges", fn := fun _ => fun
  | [d1, d2, d3, d4] => { results := [.lit (.bool false)], args := [d1, d2, d3, d4] }
  | _ => none }
def PlanChangesWrongFalsely : Prop := planChangesRow.holds Try.pinned (OpenSpec.ofChange planChangesWrong)

/-- 'fringelaw43.PlanEarliest': WHATEVER THE INPUT: true; the input reads as it did. -/
def planEarliestSpec : ChangeSpec := { name := "planEarliest", fn := fun _ => fun
  | [d1, d2] => { results := [.lit (.bool true)], args := [d1, d2] }
  | _ => none }
def planEarliestRow : OpenClaim := { program := "ythmfjlphmamegaa", sum := "9d3057e56033f8c15e3c4fd22232c9a1acd9018c691c22a4d56a6c0e4a867829", func := "fringe/fringelaw43.PlanEarliest", spec := "planEarliest", apart := false }
def PlanEarliestSaid : Prop := planEarliestRow.holds Try.pinned (OpenSpec.ofChange planEarliestSpec)

/-- ITS FALSE NEIGHBOUR: 'it returns false'. Refute it at one input. -/
def planEarliestWrong : ChangeSpec := { name := "planEarliest", fn := fun _ => fun
  | [d1, d2] => { results := [.lit (.bool false)], args := [d1, d2] }
  | _ => none }
def PlanEarliestWrongFalsely : Prop := planEarliestRow.holds Try.pinned (OpenSpec.ofChange planEarliestWrong)

/-- 'fringelaw43.PlanFewer': WHATEVER THE INPUT: true; the input reads as it did. -/
def planFewerSpec : ChangeSpec := { name := "planFewer", fn := fun _ => fun
  | [d1, d2] => { results := [.lit (.bool true)], args := [d1, d2] }
  | _ => none }
def planFewerRow : OpenClaim := { program := "ythmfjlphmamegaa", sum := "9d3057e56033f8c15e3c4fd22232c9a1acd9018c691c22a4d56a6c0e4a867829", func := "fringe/fringelaw43.PlanFewer", spec := "planFewer", apart := false }
def PlanFewerSaid : Prop := planFewerRow.holds Try.pinned (OpenSpec.ofChange planFewerSpec)

/-- ITS FALSE NEIGHBOUR: 'it returns false'. Refute it at one input. -/
def planFewerWrong : ChangeSpec := { name := "planFewer", fn := fun _ => fun
  | [d1, d2] => { results := [.lit (.bool false)], args := [d1, d2] }
  | _ => none }
def PlanFewerWrongFalsely : Prop := planFewerRow.holds Try.pinned (OpenSpec.ofChange planFewerWrong)

/-- 'fringelaw43.PlanMoved': WHATEVER THE INPUT: true; the input reads as it did. -/
def planMovedSpec : ChangeSpec := { name := "planMoved", fn := fun _ => fun
  | [d1, d2] => { results := [.lit (.bool true)], args := [d1, d2] }
  | _ => none }
def planMovedRow : OpenClaim := { program := "ythmfjlphmamegaa", sum := "9d3057e56033f8c15e3c4fd22232c9a1acd9018c691c22a4d56a6c0e4a867829", func := "fringe/fringelaw43.PlanMoved", spec := "planMoved", apart := false }
def PlanMovedSaid : Prop := planMovedRow.holds Try.pinned (OpenSpec.ofChange planMovedSpec)

/-- ITS FALSE NEIGHBOUR: 'it returns false'. Refute it at one input. -/
def planMovedWrong : ChangeSpec := { name := "planMoved", fn := fun _ => fun
  | [d1, d2] => { results := [.lit (.bool false)], args := [d1, d2] }
  | _ => none }
def PlanMovedWrongFalsely : Prop := planMovedRow.holds Try.pinned (OpenSpec.ofChange planMovedWrong)

/-- 'fringelaw43.PlanNames': WHATEVER THE INPUT: true; the input reads as it did. -/
def planNamesSpec : ChangeSpec := { name := "planNames", fn := fun _ => fun
  | [] => { results := [.lit (.bool true)], args := [] }
  | _ => none }
def planNamesRow : OpenClaim := { program := "ythmfjlphmamegaa", sum := "9d3057e56033f8c15e3c4fd22232c9a1acd9018c691c22a4d56a6c0e4a867829", func := "fringe/fringelaw43.PlanNames", spec := "planNames", apart := false }
def PlanNamesSaid : Prop := planNamesRow.holds Try.pinned (OpenSpec.ofChange planNamesSpec)

/-- ITS FALSE NEIGHBOUR: 'it returns false'. Refute it at one input. -/
def planNamesWrong : ChangeSpec := { name := "planNames", fn := fun _ => fun
  | [] => { results := [.lit (.bool false)], args := [] }
  | _ => none }
def PlanNamesWrongFalsely : Prop := planNamesRow.holds Try.pinned (OpenSpec.ofChange planNamesWrong)

/-- 'fringelaw43.PlanOverrides': WHATEVER THE INPUT: true; the input reads as it did. -/
def planOverridesSpec : ChangeSpec := { name := "planOverrides", fn := fun _ => fun
  | [d1, d2, d3] => { results := [.lit (.bool true)], args := [d1, d2, d3] }
  | _ => none }
def planOverridesRow : OpenClaim := { program := "ythmfjlphmamegaa", sum := "9d3057e56033f8c15e3c4fd22232c9a1acd9018c691c22a4d56a6c0e4a867829", func := "fringe/fringelaw43.PlanOverrides", spec := "planOverrides", apart := false }
def PlanOverridesSaid : Prop := planOverridesRow.holds Try.pinned (OpenSpec.ofChange planOverridesSpec)

/-- ITS FALSE NEIGHBOUR: 'it returns false'. Refute it at one input. -/
def planOverridesWrong : ChangeSpec := { name := "planOverrides", fn := fun _ => fun
  | [d1, d2, d3] => { results := [.lit (.bool false)], args := [d1, d2, d3] }
  | _ => none }
def PlanOverridesWrongFalsely : Prop := planOverridesRow.holds Try.pinned (OpenSpec.ofChange planOverridesWrong)

/- THE SECOND FORM. 'bulk': how many values and letters a reading holds, each counted each time it is reached (what is shared counts as often as it is met; a slice's spare places count too). A statement '..UptoSaid' is the law's where the arguments, and the package variables that the reading takes, are together of bulk at most 1048576: NARROWER than '..Said'. Prove '..Said' where nothing that the law and all that it calls make is longer than what came in: it says more and counts as full. Else prove '..UptoSaid'. A law counts once. -/
mutual
def uptoBulk {H : Type} : DataW H → Nat
  | .lit (.string bytes) => bytes.length + 1
  | .lit _ => 1
  | .nil => 1
  | .ptr d => uptoBulk d + 1
  | .slice elems spare => uptoBulkAll elems + uptoBulkAll spare + 1
  | .agg parts => uptoBulkAll parts + 1
  | .iface _ d => uptoBulk d + 1
  | .map entries => uptoBulkEntries entries + 1
  | .held _ => 1
def uptoBulkAll {H : Type} : List (DataW H) → Nat
  | [] => 0
  | d :: r => uptoBulk d + uptoBulkAll r
def uptoBulkEntries {H : Type} : List (Lit × DataW H) → Nat
  | [] => 0
  | x :: r => uptoBulkEntry x + uptoBulkEntries r
def uptoBulkEntry {H : Type} : Lit × DataW H → Nat
  | (.string bytes, d) => bytes.length + uptoBulk d + 1
  | (_, d) => uptoBulk d + 1
 end
def uptoSmall : (H : Type) → List (DataW H) → Bool := fun _ ds => decide (uptoBulkAll ds ≤ 1048576)
def OpenSpec.upto (s : _root_.Go.ChangeSpec) : _root_.Go.OpenSpec := { _root_.Go.OpenSpec.ofChange s with cond := some uptoSmall }

/-- 'fringelaw43.PlanTells', WHERE WHAT IT READS IS OF BULK AT MOST 1048576: true; the input reads as it did. -/
def planTellsUptoRow : OpenClaim := { program := "ythmfjlphmamegaa", sum := "9d3057e56033f8c15e3c4fd22232c9a1acd9018c691c22a4d56a6c0e4a867829", func := "fringe/fringelaw43.PlanTells", spec := "planTells", apart := false, narrowed := true }
def PlanTellsUptoSaid : Prop := planTellsUptoRow.holds Try.pinned (OpenSpec.upto planTellsSpec)

/-- 'fringelaw43.PlanChanges', WHERE WHAT IT READS IS OF BULK AT MOST 1048576: true; the input reads as it did. -/
def planChangesUptoRow : OpenClaim := { program := "ythmfjlphmamegaa", sum := "9d3057e56033f8c15e3c4fd22232c9a1acd9018c691c22a4d56a6c0e4a867829", func := "fringe/fringelaw43.PlanChanges", spec := "planChanges", apart := false, narrowed := true }
def PlanChangesUptoSaid : Prop := planChangesUptoRow.holds Try.pinned (OpenSpec.upto planChangesSpec)

/-- 'fringelaw43.PlanEarliest', WHERE WHAT IT READS IS OF BULK AT MOST 1048576: true; the input reads as it did. -/
def planEarliestUptoRow : OpenClaim := { program := "ythmfjlphmamegaa", sum := "9d3057e56033f8c15e3c4fd22232c9a1acd9018c691c22a4d56a6c0e4a867829", func := "fringe/fringelaw43.PlanEarliest", spec := "planEarliest", apart := false, narrowed := true }
def PlanEarliestUptoSaid : Prop := planEarliestUptoRow.holds Try.pinned (OpenSpec.upto planEarliestSpec)

/-- 'fringelaw43.PlanFewer', WHERE WHAT IT READS IS OF BULK AT MOST 1048576: true; the input reads as it did. -/
def planFewerUptoRow : OpenClaim := { program := "ythmfjlphmamegaa", sum := "9d3057e56033f8c15e3c4fd22232c9a1acd9018c691c22a4d56a6c0e4a867829", func := "fringe/fringelaw43.PlanFewer", spec := "planFewer", apart := false, narrowed := true }
def PlanFewerUptoSaid : Prop := planFewerUptoRow.holds Try.pinned (OpenSpec.upto planFewerSpec)

/-- 'fringelaw43.PlanMoved', WHERE WHAT IT READS IS OF BULK AT MOST 1048576: true; the input reads as it did. -/
def planMovedUptoRow : OpenClaim := { program := "ythmfjlphmamegaa", sum := "9d3057e56033f8c15e3c4fd22232c9a1acd9018c691c22a4d56a6c0e4a867829", func := "fringe/fringelaw43.PlanMoved", spec := "planMoved", apart := false, narrowed := true }
def PlanMovedUptoSaid : Prop := planMovedUptoRow.holds Try.pinned (OpenSpec.upto planMovedSpec)

/-- 'fringelaw43.PlanNames', WHERE WHAT IT READS IS OF BULK AT MOST 1048576: true; the input reads as it did. -/
def planNamesUptoRow : OpenClaim := { program := "ythmfjlphmamegaa", sum := "9d3057e56033f8c15e3c4fd22232c9a1acd9018c691c22a4d56a6c0e4a867829", func := "fringe/fringelaw43.PlanNames", spec := "planNames", apart := false, narrowed := true }
def PlanNamesUptoSaid : Prop := planNamesUptoRow.holds Try.pinned (OpenSpec.upto planNamesSpec)

/-- 'fringelaw43.PlanOverrides', WHERE WHAT IT READS IS OF BULK AT MOST 1048576: true; the input reads as it did. -/
def planOverridesUptoRow : OpenClaim := { program := "ythmfjlphmamegaa", sum := "9d3057e56033f8c15e3c4fd22232c9a1acd9018c691c22a4d56a6c0e4a867829", func := "fringe/fringelaw43.PlanOverrides", spec := "planOverrides", apart := false, narrowed := true }
def PlanOverridesUptoSaid : Prop := planOverridesUptoRow.holds Try.pinned (OpenSpec.upto planOverridesSpec)

end Rows
end Go.Proofs.Ythmfjlphmamegaa
