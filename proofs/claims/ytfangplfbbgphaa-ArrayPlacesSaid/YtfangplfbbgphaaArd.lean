/- Plain law of layer 4: the reference's numbers on the circle are the program's. -/
import Derived.Test.YtfangplfbbgphaaArc
import Derived.Test.YtfangplfbbgphaaFse
namespace Go.Proofs.Ytfangplfbbgphaa
open Go.ChangeShapes Go.WideShapes Go.ChangeAt Go.RowKit
set_option linter.unusedVariables false
set_option maxRecDepth 100000
def pQ (n d : Int) : Int × Int × Int := mulR n d n d
def pL (n d : Int) : Int × Int × Int := subR 1 1 (pQ n d).1 (pQ n d).2.1
def pH (n d : Int) : Int × Int × Int := addR 1 1 (pQ n d).1 (pQ n d).2.1
def pC (n d : Int) : Int × Int × Int := divR (pL n d).1 (pL n d).2.1 (pH n d).1 (pH n d).2.1
def pT (n d : Int) : Int × Int × Int := mulR n d 2 1
def pS (n d : Int) : Int × Int × Int := divR (pT n d).1 (pT n d).2.1 (pH n d).1 (pH n d).2.1
def vfB (n d m : Int) : Bool := decide (1 ≤ d) && (decide (d ≤ m) && (decide (-m ≤ n) && decide (n ≤ m)))
def pairOK (n d : Int) : Bool :=
  ((pQ n d).2.2 == 0) && ((pL n d).2.2 == 0) && ((pH n d).2.2 == 0) && ((pT n d).2.2 == 0) && (pC n d == ((arC n d).1, (arC n d).2.1, 0)) && (pS n d == ((arK n d).1, (arK n d).2.1, 0)) &&
  ((arC n d).2.2 == 0) && ((arK n d).2.2 == 0) && okF (arC n d).1 (arC n d).2.1 && okF (arK n d).1 (arK n d).2.1 && vfB (arC n d).1 (arC n d).2.1 800 && vfB (arK n d).1 (arK n d).2.1 800
theorem pair_all : ((List.range 41).all fun i => (List.range 20).all fun j => !(prmB ((i : Int) - 20) ((j : Int) + 1)) || pairOK ((i : Int) - 20) ((j : Int) + 1)) = true := by kernel_rfl
theorem pair_plain {n d : Int} (h : prmB n d = true) : pairOK n d = true := by
  obtain ⟨_, h1, h2, h3, h4⟩ := prm_facts h
  have a := List.all_eq_true.1 pair_all (n + 20).toNat (by rw [List.mem_range]; omega)
  have b := List.all_eq_true.1 a (d - 1).toNat (by rw [List.mem_range]; omega)
  rw [show (((n + 20).toNat : Nat) : Int) - 20 = n by omega, show (((d - 1).toNat : Nat) : Int) + 1 = d by omega, h] at b
  simpa using b
theorem pair_facts {n d : Int} (h : prmB n d = true) : (pQ n d).2.2 = 0 ∧ (pL n d).2.2 = 0 ∧ (pH n d).2.2 = 0 ∧ (pT n d).2.2 = 0 ∧ pC n d = ((arC n d).1, (arC n d).2.1, 0) ∧ pS n d = ((arK n d).1, (arK n d).2.1, 0) ∧
    (arC n d).2.2 = 0 ∧ (arK n d).2.2 = 0 ∧ okF (arC n d).1 (arC n d).2.1 = true ∧ okF (arK n d).1 (arK n d).2.1 = true ∧ vfB (arC n d).1 (arC n d).2.1 800 = true ∧ vfB (arK n d).1 (arK n d).2.1 800 = true := by
  have a := pair_plain h
  unfold pairOK at a
  simp only [Bool.and_eq_true, beq_iff_eq] at a
  obtain ⟨⟨⟨⟨⟨⟨⟨⟨⟨⟨⟨a1, a2⟩, a3⟩, a4⟩, a5⟩, a6⟩, a7⟩, a8⟩, a9⟩, a10⟩, a11⟩, a12⟩ := a
  exact ⟨a1, a2, a3, a4, a5, a6, a7, a8, a9, a10, a11, a12⟩
end Go.Proofs.Ytfangplfbbgphaa
