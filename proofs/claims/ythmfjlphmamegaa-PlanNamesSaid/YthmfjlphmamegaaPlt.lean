/- Contracts of layer 43: valid rules, of the reference; both in one. -/
import Derived.Test.YthmfjlphmamegaaPlu
namespace Go.Proofs.Ythmfjlphmamegaa
open Go.ChangeShapes Go.WideShapes Go.ChangeAt Go.RowKit
set_option linter.unusedVariables false

set_option maxRecDepth 100000 in
set_option maxHeartbeats 4000000 in
theorem refRule_1 (r : Rul) (v : Bool) (k1 : (r.kind == 1) = true) (hv : v = (decide (r.why.size ≤ 40) && (nameB r.a && (r.b.toList.isEmpty && (hourB r.low && hourB r.high))))) (w : World) :
    Calls Try.prog 44 #[Uv r] w fun e w' => e = .returned (.bool v) ∧ Below w.heap.size w w' := by
  have F := Lib.hid hv
  clear hv
  have q1 := in_stat r.low
  have q2 := in_hour r.low
  have q3 := in_hour r.high
  have hy : r.why.size ≤ 40 ∨ 40 < r.why.size := by omega
  rcases hy with hy | hy
  all_goals
    go_enter Try.func44, Try.ntmps44
    go_wp2_with fail
    go_region
    go_wp2_with (first | (go_at_call 46; refine (refName_calls _ _).mono ?_; rintro e w' ⟨rfl, rfl⟩) | (go_at_call 47; refine (in_calls _ _ _ _).mono ?_; rintro e w' ⟨rfl, rfl⟩))
    all_goals
      go_ret
      refine ⟨ret_bool ?_, by repeat (first | exact Below.refl _ _ | refine Bal ?_ _ | refine Below.drew ?_ | refine Bset1 ?_ (by simp) _ _)⟩
      rw [F.out]
      clear F q1 q2 q3
      first
        | (have hh : ¬ r.why.size ≤ 40 := by omega
           simp [hh]; done)
        | (have hh : r.why.size ≤ 40 := by omega
           simp_all; done)
set_option maxRecDepth 100000 in
set_option maxHeartbeats 4000000 in
theorem refRule_2 (r : Rul) (v : Bool) (k1 : (r.kind == 1) = false) (k2 : (r.kind == 2) = true) (hv : v = (decide (r.why.size ≤ 40) && ((nameB r.a && (nameB r.b && !(r.a.toList == r.b.toList))) && (hourB r.low && (r.high == 0))))) (w : World) :
    Calls Try.prog 44 #[Uv r] w fun e w' => e = .returned (.bool v) ∧ Below w.heap.size w w' := by
  have F := Lib.hid hv
  clear hv
  have q1 := in_stat r.low
  have q2 := in_hour r.low
  have q3 := in_hour r.high
  have hy : r.why.size ≤ 40 ∨ 40 < r.why.size := by omega
  rcases hy with hy | hy
  all_goals
    go_enter Try.func44, Try.ntmps44
    go_wp2_with fail
    go_region
    go_wp2_with (first | (go_at_call 46; refine (refName_calls _ _).mono ?_; rintro e w' ⟨rfl, rfl⟩) | (go_at_call 47; refine (in_calls _ _ _ _).mono ?_; rintro e w' ⟨rfl, rfl⟩))
    all_goals
      go_ret
      refine ⟨ret_bool ?_, by repeat (first | exact Below.refl _ _ | refine Bal ?_ _ | refine Below.drew ?_ | refine Bset1 ?_ (by simp) _ _)⟩
      rw [F.out]
      clear F q1 q2 q3
      first
        | (have hh : ¬ r.why.size ≤ 40 := by omega
           simp [hh]; done)
        | (have hh : r.why.size ≤ 40 := by omega
           simp_all; done)
set_option maxRecDepth 100000 in
set_option maxHeartbeats 4000000 in
theorem refRule_3 (r : Rul) (v : Bool) (k1 : (r.kind == 1) = false) (k2 : (r.kind == 2) = false) (k3 : (r.kind == 3) = true) (hv : v = (decide (r.why.size ≤ 40) && ((nameB r.a && (nameB r.b && !(r.a.toList == r.b.toList))) && ((r.low == 0) && (r.high == 0))))) (w : World) :
    Calls Try.prog 44 #[Uv r] w fun e w' => e = .returned (.bool v) ∧ Below w.heap.size w w' := by
  have F := Lib.hid hv
  clear hv
  have q1 := in_stat r.low
  have q2 := in_hour r.low
  have q3 := in_hour r.high
  have hy : r.why.size ≤ 40 ∨ 40 < r.why.size := by omega
  rcases hy with hy | hy
  all_goals
    go_enter Try.func44, Try.ntmps44
    go_wp2_with fail
    go_region
    go_wp2_with (first | (go_at_call 46; refine (refName_calls _ _).mono ?_; rintro e w' ⟨rfl, rfl⟩) | (go_at_call 47; refine (in_calls _ _ _ _).mono ?_; rintro e w' ⟨rfl, rfl⟩))
    all_goals
      go_ret
      refine ⟨ret_bool ?_, by repeat (first | exact Below.refl _ _ | refine Bal ?_ _ | refine Below.drew ?_ | refine Bset1 ?_ (by simp) _ _)⟩
      rw [F.out]
      clear F q1 q2 q3
      first
        | (have hh : ¬ r.why.size ≤ 40 := by omega
           simp [hh]; done)
        | (have hh : r.why.size ≤ 40 := by omega
           simp_all; done)
set_option maxRecDepth 100000 in
set_option maxHeartbeats 4000000 in
theorem refRule_4 (r : Rul) (v : Bool) (k1 : (r.kind == 1) = false) (k2 : (r.kind == 2) = false) (k3 : (r.kind == 3) = false) (k4 : (r.kind == 4) = true) (hv : v = (decide (r.why.size ≤ 40) && (r.a.toList.isEmpty && (r.b.toList.isEmpty && (statB r.low && hourB r.high))))) (w : World) :
    Calls Try.prog 44 #[Uv r] w fun e w' => e = .returned (.bool v) ∧ Below w.heap.size w w' := by
  have F := Lib.hid hv
  clear hv
  have q1 := in_stat r.low
  have q2 := in_hour r.low
  have q3 := in_hour r.high
  have hy : r.why.size ≤ 40 ∨ 40 < r.why.size := by omega
  rcases hy with hy | hy
  all_goals
    go_enter Try.func44, Try.ntmps44
    go_wp2_with fail
    go_region
    go_wp2_with (first | (go_at_call 46; refine (refName_calls _ _).mono ?_; rintro e w' ⟨rfl, rfl⟩) | (go_at_call 47; refine (in_calls _ _ _ _).mono ?_; rintro e w' ⟨rfl, rfl⟩))
    all_goals
      go_ret
      refine ⟨ret_bool ?_, by repeat (first | exact Below.refl _ _ | refine Bal ?_ _ | refine Below.drew ?_ | refine Bset1 ?_ (by simp) _ _)⟩
      rw [F.out]
      clear F q1 q2 q3
      first
        | (have hh : ¬ r.why.size ≤ 40 := by omega
           simp [hh]; done)
        | (have hh : r.why.size ≤ 40 := by omega
           simp_all; done)
set_option maxRecDepth 100000 in
set_option maxHeartbeats 4000000 in
theorem refRule_5 (r : Rul) (v : Bool) (k1 : (r.kind == 1) = false) (k2 : (r.kind == 2) = false) (k3 : (r.kind == 3) = false) (k4 : (r.kind == 4) = false) (k5 : (r.kind == 5) = true) (hv : v = (decide (r.why.size ≤ 40) && (nameB r.a && (r.b.toList.isEmpty && (statB r.low && hourB r.high))))) (w : World) :
    Calls Try.prog 44 #[Uv r] w fun e w' => e = .returned (.bool v) ∧ Below w.heap.size w w' := by
  have F := Lib.hid hv
  clear hv
  have q1 := in_stat r.low
  have q2 := in_hour r.low
  have q3 := in_hour r.high
  have hy : r.why.size ≤ 40 ∨ 40 < r.why.size := by omega
  rcases hy with hy | hy
  all_goals
    go_enter Try.func44, Try.ntmps44
    go_wp2_with fail
    go_region
    go_wp2_with (first | (go_at_call 46; refine (refName_calls _ _).mono ?_; rintro e w' ⟨rfl, rfl⟩) | (go_at_call 47; refine (in_calls _ _ _ _).mono ?_; rintro e w' ⟨rfl, rfl⟩))
    all_goals
      go_ret
      refine ⟨ret_bool ?_, by repeat (first | exact Below.refl _ _ | refine Bal ?_ _ | refine Below.drew ?_ | refine Bset1 ?_ (by simp) _ _)⟩
      rw [F.out]
      clear F q1 q2 q3
      first
        | (have hh : ¬ r.why.size ≤ 40 := by omega
           simp [hh]; done)
        | (have hh : r.why.size ≤ 40 := by omega
           simp_all; done)
set_option maxRecDepth 100000 in
set_option maxHeartbeats 4000000 in
theorem refRule_0 (r : Rul) (v : Bool) (k1 : (r.kind == 1) = false) (k2 : (r.kind == 2) = false) (k3 : (r.kind == 3) = false) (k4 : (r.kind == 4) = false) (k5 : (r.kind == 5) = false) (hv : v = (decide (r.why.size ≤ 40) && false)) (w : World) :
    Calls Try.prog 44 #[Uv r] w fun e w' => e = .returned (.bool v) ∧ Below w.heap.size w w' := by
  have F := Lib.hid hv
  clear hv
  have q1 := in_stat r.low
  have q2 := in_hour r.low
  have q3 := in_hour r.high
  have hy : r.why.size ≤ 40 ∨ 40 < r.why.size := by omega
  rcases hy with hy | hy
  all_goals
    go_enter Try.func44, Try.ntmps44
    go_wp2_with fail
    skip
    go_wp2_with (first | (go_at_call 46; refine (refName_calls _ _).mono ?_; rintro e w' ⟨rfl, rfl⟩) | (go_at_call 47; refine (in_calls _ _ _ _).mono ?_; rintro e w' ⟨rfl, rfl⟩))
    all_goals
      go_ret
      refine ⟨ret_bool ?_, by repeat (first | exact Below.refl _ _ | refine Bal ?_ _ | refine Below.drew ?_ | refine Bset1 ?_ (by simp) _ _)⟩
      rw [F.out]
      clear F q1 q2 q3
      first
        | (have hh : ¬ r.why.size ≤ 40 := by omega
           simp [hh]; done)
        | (have hh : r.why.size ≤ 40 := by omega
           simp_all; done)
theorem isRule_calls (r : Rul) (w : World) :
    Calls Try.prog 43 #[Uv r] w fun e w' => e = .returned (.bool (ruleB r)) ∧ Below w.heap.size w w' := by
  cases k1 : (r.kind == 1)
  case true =>
    refine isRule_1 r _ k1 ?_ w
    unfold ruleB
    simp only [beq_iff_eq] at k1
    rw [if_pos k1]
  cases k2 : (r.kind == 2)
  case true =>
    refine isRule_2 r _ k1 k2 ?_ w
    unfold ruleB
    simp only [beq_iff_eq, beq_eq_false_iff_ne, ne_eq] at k1 k2
    rw [if_neg k1, if_pos k2]
  cases k3 : (r.kind == 3)
  case true =>
    refine isRule_3 r _ k1 k2 k3 ?_ w
    unfold ruleB
    simp only [beq_iff_eq, beq_eq_false_iff_ne, ne_eq] at k1 k2 k3
    rw [if_neg k1, if_neg k2, if_pos k3]
  cases k4 : (r.kind == 4)
  case true =>
    refine isRule_4 r _ k1 k2 k3 k4 ?_ w
    unfold ruleB
    simp only [beq_iff_eq, beq_eq_false_iff_ne, ne_eq] at k1 k2 k3 k4
    rw [if_neg k1, if_neg k2, if_neg k3, if_pos k4]
  cases k5 : (r.kind == 5)
  case true =>
    refine isRule_5 r _ k1 k2 k3 k4 k5 ?_ w
    unfold ruleB
    simp only [beq_iff_eq, beq_eq_false_iff_ne, ne_eq] at k1 k2 k3 k4 k5
    rw [if_neg k1, if_neg k2, if_neg k3, if_neg k4, if_pos k5]
  refine isRule_0 r _ k1 k2 k3 k4 k5 ?_ w
  unfold ruleB
  simp only [beq_eq_false_iff_ne, ne_eq] at k1 k2 k3 k4 k5
  rw [if_neg k1, if_neg k2, if_neg k3, if_neg k4, if_neg k5]
theorem refRule_calls (r : Rul) (w : World) :
    Calls Try.prog 44 #[Uv r] w fun e w' => e = .returned (.bool (ruleB r)) ∧ Below w.heap.size w w' := by
  cases k1 : (r.kind == 1)
  case true =>
    refine refRule_1 r _ k1 ?_ w
    unfold ruleB
    simp only [beq_iff_eq] at k1
    rw [if_pos k1]
  cases k2 : (r.kind == 2)
  case true =>
    refine refRule_2 r _ k1 k2 ?_ w
    unfold ruleB
    simp only [beq_iff_eq, beq_eq_false_iff_ne, ne_eq] at k1 k2
    rw [if_neg k1, if_pos k2]
  cases k3 : (r.kind == 3)
  case true =>
    refine refRule_3 r _ k1 k2 k3 ?_ w
    unfold ruleB
    simp only [beq_iff_eq, beq_eq_false_iff_ne, ne_eq] at k1 k2 k3
    rw [if_neg k1, if_neg k2, if_pos k3]
  cases k4 : (r.kind == 4)
  case true =>
    refine refRule_4 r _ k1 k2 k3 k4 ?_ w
    unfold ruleB
    simp only [beq_iff_eq, beq_eq_false_iff_ne, ne_eq] at k1 k2 k3 k4
    rw [if_neg k1, if_neg k2, if_neg k3, if_pos k4]
  cases k5 : (r.kind == 5)
  case true =>
    refine refRule_5 r _ k1 k2 k3 k4 k5 ?_ w
    unfold ruleB
    simp only [beq_iff_eq, beq_eq_false_iff_ne, ne_eq] at k1 k2 k3 k4 k5
    rw [if_neg k1, if_neg k2, if_neg k3, if_neg k4, if_pos k5]
  refine refRule_0 r _ k1 k2 k3 k4 k5 ?_ w
  unfold ruleB
  simp only [beq_eq_false_iff_ne, ne_eq] at k1 k2 k3 k4 k5
  rw [if_neg k1, if_neg k2, if_neg k3, if_neg k4, if_neg k5]
end Go.Proofs.Ythmfjlphmamegaa
