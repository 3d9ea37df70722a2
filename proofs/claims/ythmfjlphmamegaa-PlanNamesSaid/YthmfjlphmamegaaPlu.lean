/- Contracts of layer 43: valid rules. -/
import Derived.Test.YthmfjlphmamegaaPlv
import Derived.RegionTactic
namespace Go.Proofs.Ythmfjlphmamegaa
open Go.ChangeShapes Go.WideShapes Go.ChangeAt Go.RowKit
set_option linter.unusedVariables false

def ruleB (r : Rul) : Bool := decide (r.why.size ≤ 40) && (if r.kind = 1 then (nameB r.a && (r.b.toList.isEmpty && (hourB r.low && hourB r.high))) else if r.kind = 2 then ((nameB r.a && (nameB r.b && !(r.a.toList == r.b.toList))) && (hourB r.low && (r.high == 0))) else if r.kind = 3 then ((nameB r.a && (nameB r.b && !(r.a.toList == r.b.toList))) && ((r.low == 0) && (r.high == 0))) else if r.kind = 4 then (r.a.toList.isEmpty && (r.b.toList.isEmpty && (statB r.low && hourB r.high))) else if r.kind = 5 then (nameB r.a && (r.b.toList.isEmpty && (statB r.low && hourB r.high))) else false)
set_option maxHeartbeats 2000000 in
theorem isRule_1 (r : Rul) (v : Bool) (k1 : (r.kind == 1) = true) (hv : v = (decide (r.why.size ≤ 40) && (nameB r.a && (r.b.toList.isEmpty && (hourB r.low && hourB r.high))))) (w : World) :
    Calls Try.prog 43 #[Uv r] w fun e w' => e = .returned (.bool v) ∧ Below w.heap.size w w' := by
  have F := Lib.hid hv
  clear hv
  go_enter Try.func43, Try.ntmps43
  go_wp2_with (first | (go_at_call 52; refine (isName_calls _ _).mono ?_; rintro e w' ⟨rfl, rfl⟩) | (go_at_call 53; refine (isStation_calls _ _).mono ?_; rintro e w' ⟨rfl, rfl⟩) | (go_at_call 54; refine (isHour_calls _ _).mono ?_; rintro e w' ⟨rfl, rfl⟩))
  all_goals
    go_ret
    refine ⟨ret_bool ?_, Bal (Below.refl _ _) _⟩
    rw [F.out]
    clear F
    first
      | (have hh : ¬ r.why.size ≤ 40 := by omega
         simp [hh]; done)
      | (have hh : r.why.size ≤ 40 := by omega
         simp_all; done)
set_option maxHeartbeats 2000000 in
theorem isRule_2 (r : Rul) (v : Bool) (k1 : (r.kind == 1) = false) (k2 : (r.kind == 2) = true) (hv : v = (decide (r.why.size ≤ 40) && ((nameB r.a && (nameB r.b && !(r.a.toList == r.b.toList))) && (hourB r.low && (r.high == 0))))) (w : World) :
    Calls Try.prog 43 #[Uv r] w fun e w' => e = .returned (.bool v) ∧ Below w.heap.size w w' := by
  have F := Lib.hid hv
  clear hv
  go_enter Try.func43, Try.ntmps43
  go_wp2_with (first | (go_at_call 52; refine (isName_calls _ _).mono ?_; rintro e w' ⟨rfl, rfl⟩) | (go_at_call 53; refine (isStation_calls _ _).mono ?_; rintro e w' ⟨rfl, rfl⟩) | (go_at_call 54; refine (isHour_calls _ _).mono ?_; rintro e w' ⟨rfl, rfl⟩))
  all_goals
    go_ret
    refine ⟨ret_bool ?_, Bal (Below.refl _ _) _⟩
    rw [F.out]
    clear F
    first
      | (have hh : ¬ r.why.size ≤ 40 := by omega
         simp [hh]; done)
      | (have hh : r.why.size ≤ 40 := by omega
         simp_all; done)
set_option maxHeartbeats 2000000 in
theorem isRule_3 (r : Rul) (v : Bool) (k1 : (r.kind == 1) = false) (k2 : (r.kind == 2) = false) (k3 : (r.kind == 3) = true) (hv : v = (decide (r.why.size ≤ 40) && ((nameB r.a && (nameB r.b && !(r.a.toList == r.b.toList))) && ((r.low == 0) && (r.high == 0))))) (w : World) :
    Calls Try.prog 43 #[Uv r] w fun e w' => e = .returned (.bool v) ∧ Below w.heap.size w w' := by
  have F := Lib.hid hv
  clear hv
  go_enter Try.func43, Try.ntmps43
  go_wp2_with (first | (go_at_call 52; refine (isName_calls _ _).mono ?_; rintro e w' ⟨rfl, rfl⟩) | (go_at_call 53; refine (isStation_calls _ _).mono ?_; rintro e w' ⟨rfl, rfl⟩) | (go_at_call 54; refine (isHour_calls _ _).mono ?_; rintro e w' ⟨rfl, rfl⟩))
  all_goals
    go_ret
    refine ⟨ret_bool ?_, Bal (Below.refl _ _) _⟩
    rw [F.out]
    clear F
    first
      | (have hh : ¬ r.why.size ≤ 40 := by omega
         simp [hh]; done)
      | (have hh : r.why.size ≤ 40 := by omega
         simp_all; done)
set_option maxHeartbeats 2000000 in
theorem isRule_4 (r : Rul) (v : Bool) (k1 : (r.kind == 1) = false) (k2 : (r.kind == 2) = false) (k3 : (r.kind == 3) = false) (k4 : (r.kind == 4) = true) (hv : v = (decide (r.why.size ≤ 40) && (r.a.toList.isEmpty && (r.b.toList.isEmpty && (statB r.low && hourB r.high))))) (w : World) :
    Calls Try.prog 43 #[Uv r] w fun e w' => e = .returned (.bool v) ∧ Below w.heap.size w w' := by
  have F := Lib.hid hv
  clear hv
  go_enter Try.func43, Try.ntmps43
  go_wp2_with (first | (go_at_call 52; refine (isName_calls _ _).mono ?_; rintro e w' ⟨rfl, rfl⟩) | (go_at_call 53; refine (isStation_calls _ _).mono ?_; rintro e w' ⟨rfl, rfl⟩) | (go_at_call 54; refine (isHour_calls _ _).mono ?_; rintro e w' ⟨rfl, rfl⟩))
  all_goals
    go_ret
    refine ⟨ret_bool ?_, Bal (Below.refl _ _) _⟩
    rw [F.out]
    clear F
    first
      | (have hh : ¬ r.why.size ≤ 40 := by omega
         simp [hh]; done)
      | (have hh : r.why.size ≤ 40 := by omega
         simp_all; done)
set_option maxHeartbeats 2000000 in
theorem isRule_5 (r : Rul) (v : Bool) (k1 : (r.kind == 1) = false) (k2 : (r.kind == 2) = false) (k3 : (r.kind == 3) = false) (k4 : (r.kind == 4) = false) (k5 : (r.kind == 5) = true) (hv : v = (decide (r.why.size ≤ 40) && (nameB r.a && (r.b.toList.isEmpty && (statB r.low && hourB r.high))))) (w : World) :
    Calls Try.prog 43 #[Uv r] w fun e w' => e = .returned (.bool v) ∧ Below w.heap.size w w' := by
  have F := Lib.hid hv
  clear hv
  go_enter Try.func43, Try.ntmps43
  go_wp2_with (first | (go_at_call 52; refine (isName_calls _ _).mono ?_; rintro e w' ⟨rfl, rfl⟩) | (go_at_call 53; refine (isStation_calls _ _).mono ?_; rintro e w' ⟨rfl, rfl⟩) | (go_at_call 54; refine (isHour_calls _ _).mono ?_; rintro e w' ⟨rfl, rfl⟩))
  all_goals
    go_ret
    refine ⟨ret_bool ?_, Bal (Below.refl _ _) _⟩
    rw [F.out]
    clear F
    first
      | (have hh : ¬ r.why.size ≤ 40 := by omega
         simp [hh]; done)
      | (have hh : r.why.size ≤ 40 := by omega
         simp_all; done)
set_option maxHeartbeats 2000000 in
theorem isRule_0 (r : Rul) (v : Bool) (k1 : (r.kind == 1) = false) (k2 : (r.kind == 2) = false) (k3 : (r.kind == 3) = false) (k4 : (r.kind == 4) = false) (k5 : (r.kind == 5) = false) (hv : v = (decide (r.why.size ≤ 40) && false)) (w : World) :
    Calls Try.prog 43 #[Uv r] w fun e w' => e = .returned (.bool v) ∧ Below w.heap.size w w' := by
  have F := Lib.hid hv
  clear hv
  go_enter Try.func43, Try.ntmps43
  go_wp2_with (first | (go_at_call 52; refine (isName_calls _ _).mono ?_; rintro e w' ⟨rfl, rfl⟩) | (go_at_call 53; refine (isStation_calls _ _).mono ?_; rintro e w' ⟨rfl, rfl⟩) | (go_at_call 54; refine (isHour_calls _ _).mono ?_; rintro e w' ⟨rfl, rfl⟩))
  all_goals
    go_ret
    refine ⟨ret_bool ?_, Bal (Below.refl _ _) _⟩
    rw [F.out]
    clear F
    first
      | (have hh : ¬ r.why.size ≤ 40 := by omega
         simp [hh]; done)
      | (have hh : r.why.size ≤ 40 := by omega
         simp_all; done)
end Go.Proofs.Ythmfjlphmamegaa
