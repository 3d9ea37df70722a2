/- Contracts of layer 43: valid slots and rules. -/
import Derived.Test.YthmfjlphmamegaaPlw
namespace Go.Proofs.Ythmfjlphmamegaa
open Go.ChangeShapes Go.WideShapes Go.ChangeAt Go.RowKit
set_option linter.unusedVariables false

theorem isHour_calls (t : Int) (w : World) :
    Calls Try.prog 54 #[.int .i64 t] w fun e w' => e = .returned (.bool (hourB t)) ∧ w = w' := by
  by_cases h : 0 ≤ t
  all_goals
    go_enter Try.func54, Try.ntmps54
    go_wp2
    go_ret
    refine ⟨?_, rfl⟩
    simp [hourB, h]
    try omega
theorem isStation_calls (t : Int) (w : World) :
    Calls Try.prog 53 #[.int .i64 t] w fun e w' => e = .returned (.bool (statB t)) ∧ w = w' := by
  by_cases h : 0 ≤ t
  all_goals
    go_enter Try.func53, Try.ntmps53
    go_wp2
    go_ret
    refine ⟨?_, rfl⟩
    simp [statB, h]
    try omega
def inB (t a b : Int) : Bool := decide (a ≤ t ∧ t ≤ b)
theorem in_calls (t a b : Int) (w : World) :
    Calls Try.prog 47 #[.int .i64 t, .int .i64 a, .int .i64 b] w fun e w' => e = .returned (.bool (inB t a b)) ∧ w = w' := by
  by_cases h : a ≤ t
  all_goals
    go_enter Try.func47, Try.ntmps47
    go_wp2
    go_ret
    refine ⟨?_, rfl⟩
    simp [inB, h]
    try omega
theorem in_hour (t : Int) : inB t 0 1000 = hourB t := rfl
theorem in_stat (t : Int) : inB t 0 7 = statB t := by unfold inB statB; rw [decide_eq_decide]; omega

set_option maxHeartbeats 2000000 in
theorem isSlot_calls (s : Slt) (w : World) :
    Calls Try.prog 42 #[Sv s] w fun e w' => e = .returned (.bool (slotB s)) ∧ Below w.heap.size w w' := by
  generalize hv : slotB s = v
  have HV := Lib.hid hv
  clear hv
  have F : Hid (v = (nameB s.name && (statB s.st && (hourB s.fr && (hourB s.to && decide (s.fr < s.to)))))) := Lib.hid (by rw [← HV.out]; rfl)
  cases c1 : nameB s.name <;> cases c2 : statB s.st <;> cases c3 : hourB s.fr <;> cases c4 : hourB s.to
  all_goals
    have F1 := F.out
    rw [c1, c2, c3, c4] at F1
    simp only [Bool.false_and, Bool.and_false, Bool.true_and] at F1
    have F2 := Lib.hid F1
    clear F1
    go_enter Try.func42, Try.ntmps42
    go_wp2_with (first | (go_at_call 52; refine (isName_calls _ _).mono ?_; rintro e w' ⟨rfl, rfl⟩) | (go_at_call 53; refine (isStation_calls _ _).mono ?_; rintro e w' ⟨rfl, rfl⟩) | (go_at_call 54; refine (isHour_calls _ _).mono ?_; rintro e w' ⟨rfl, rfl⟩))
    go_ret
    exact ⟨ret_bool F2.out.symm, Bal (Below.refl _ _) _⟩

set_option maxHeartbeats 2000000 in
theorem refSlot_calls (s : Slt) (w : World) :
    Calls Try.prog 30 #[Sv s] w fun e w' => e = .returned (.bool (slotB s)) ∧ Below w.heap.size w w' := by
  generalize hv : slotB s = v
  have HV := Lib.hid hv
  clear hv
  have q1 := in_stat s.st
  have q2 := in_hour s.fr
  have q3 := in_hour s.to
  have F : Hid (v = (nameB s.name && (statB s.st && (hourB s.fr && (hourB s.to && decide (s.fr < s.to)))))) := Lib.hid (by rw [← HV.out]; rfl)
  cases c1 : nameB s.name <;> cases c2 : statB s.st <;> cases c3 : hourB s.fr <;> cases c4 : hourB s.to
  all_goals
    have F1 := F.out
    rw [c1, c2, c3, c4] at F1
    simp only [Bool.false_and, Bool.and_false, Bool.true_and] at F1
    have F2 := Lib.hid F1
    clear F1
    go_enter Try.func30, Try.ntmps30
    go_wp2_with (first | (go_at_call 46; refine (refName_calls _ _).mono ?_; rintro e w' ⟨rfl, rfl⟩) | (go_at_call 47; refine (in_calls _ _ _ _).mono ?_; rintro e w' ⟨rfl, rfl⟩))
    go_ret
    exact ⟨ret_bool F2.out.symm, Bal (Below.refl _ _) _⟩
end Go.Proofs.Ythmfjlphmamegaa
