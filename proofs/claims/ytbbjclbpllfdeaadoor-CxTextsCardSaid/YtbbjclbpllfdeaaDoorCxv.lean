/- Contracts, second part: the reference's check, both checks of two numbers, and reduced numbers. -/
import Derived.Test.YtbbjclbpllfdeaaDoorCxw
import Derived.RegionTactic
import Derived.ChangeAlike
import Derived.Deep.RegionWith
import Derived.StillTailTactics
namespace Go.Proofs.YtbbjclbpllfdeaaDoor
open Go.ChangeShapes Go.WideShapes Go.ChangeAt Go.RowKit Cxm

abbrev Rv (r i d e : Int) : Value := .tuple #[.agg #[.int .i64 r, .int .i64 i, .int .i64 d], .int .i64 e]

set_option maxHeartbeats 2000000 in
theorem refCheck_calls (re im den : Int) (w : World) :
    Calls Tryd.prog 15 #[Cv re im den] w fun e w' => e = .returned (.int .i64 (chkE re im den)) ∧ Below w.heap.size w w' := by
  generalize hv : chkE re im den = v
  have HV := Lib.hid hv
  clear hv
  by_cases c : 1 ≤ den ∧ den ≤ 1000000000 ∧ -1000000000 ≤ re ∧ re ≤ 1000000000 ∧ -1000000000 ≤ im ∧ im ≤ 1000000000
  · obtain ⟨c1, c2, c3, c4, c5, c6⟩ := c
    have n1 := g2_nonneg re im
    have n2 := g2_bd re im 1000000000 (by omega) (by omega)
    have F : Hid (v = if (g2 (g2 re im) den != 1) then 8 else 0) := Lib.hid (by
      rw [← HV.out]; unfold chkE chkB fitsB g3
      rw [decide_eq_true (by omega), decide_eq_true (by omega), decide_eq_true (by omega)]
      by_cases h : g2 (g2 re im) den = 1 <;> simp [h])
    have e1 : decide (den < 1) = false := by simp; omega
    have e2 : decide (1000000000 < den) = false := by simp; omega
    have e3 : decide (re < -1000000000) = false := by simp; omega
    have e4 : decide (1000000000 < re) = false := by simp; omega
    have e5 : decide (im < -1000000000) = false := by simp; omega
    have e6 : decide (1000000000 < im) = false := by simp; omega
    cases d5 : (g2 (g2 re im) den != 1)
    all_goals
      have F5 := F.out
      rw [d5] at F5
      have F6 := Lib.hid F5
      clear F5
      go_enter Tryd.func15, Tryd.ntmps15
      go_wp2
      go_quiet ((go_at_call 26; exact Calls.quiet_of (refGcd_calls _ _ (by omega) (by omega) (by omega) (by omega) _)))
      go_wp2
      go_ret
      refine ⟨ret_int ?_, below_drewN ((Below.refl _ _).alloc (Nat.le_refl _) _) _⟩
      rw [F6.out]; rfl
  · have F : Hid (v = 8) := Lib.hid (by
      rw [← HV.out]; unfold chkE
      rw [if_neg]
      intro h
      have := chk_iff.1 h
      omega)
    by_cases c1 : den < 1
    · have e1 : decide (den < 1) = true := by simpa using c1
      go_enter Tryd.func15, Tryd.ntmps15
      go_wp2
      go_quiet (fail)
      go_wp2
      go_ret
      exact ⟨ret_int F.out.symm, below_drewN ((Below.refl _ _).alloc (Nat.le_refl _) _) _⟩
    have e1 : decide (den < 1) = false := by simpa using c1
    by_cases c2 : 1000000000 < den
    · have e2 : decide (1000000000 < den) = true := by simpa using c2
      go_enter Tryd.func15, Tryd.ntmps15
      go_wp2
      go_quiet (fail)
      go_wp2
      go_ret
      exact ⟨ret_int F.out.symm, below_drewN ((Below.refl _ _).alloc (Nat.le_refl _) _) _⟩
    have e2 : decide (1000000000 < den) = false := by simpa using c2
    by_cases c3 : re < -1000000000
    · have e3 : decide (re < -1000000000) = true := by simpa using c3
      go_enter Tryd.func15, Tryd.ntmps15
      go_wp2
      go_quiet (fail)
      go_wp2
      go_ret
      exact ⟨ret_int F.out.symm, below_drewN ((Below.refl _ _).alloc (Nat.le_refl _) _) _⟩
    have e3 : decide (re < -1000000000) = false := by simpa using c3
    by_cases c4 : 1000000000 < re
    · have e4 : decide (1000000000 < re) = true := by simpa using c4
      go_enter Tryd.func15, Tryd.ntmps15
      go_wp2
      go_quiet (fail)
      go_wp2
      go_ret
      exact ⟨ret_int F.out.symm, below_drewN ((Below.refl _ _).alloc (Nat.le_refl _) _) _⟩
    have e4 : decide (1000000000 < re) = false := by simpa using c4
    by_cases c5 : im < -1000000000
    · have e5 : decide (im < -1000000000) = true := by simpa using c5
      go_enter Tryd.func15, Tryd.ntmps15
      go_wp2
      go_quiet (fail)
      go_wp2
      go_ret
      exact ⟨ret_int F.out.symm, below_drewN ((Below.refl _ _).alloc (Nat.le_refl _) _) _⟩
    have e5 : decide (im < -1000000000) = false := by simpa using c5
    have c6 : 1000000000 < im := by omega
    have e6 : decide (1000000000 < im) = true := by simpa using c6
    go_enter Tryd.func15, Tryd.ntmps15
    go_wp2
    go_quiet (fail)
    go_wp2
    go_ret
    exact ⟨ret_int F.out.symm, below_drewN ((Below.refl _ _).alloc (Nat.le_refl _) _) _⟩

def bothE (ar ai ad br bi bd : Int) : Int := if chkB ar ai ad && chkB br bi bd then 0 else 8
theorem chkE_yes {a b c : Int} (h : chkB a b c = true) : chkE a b c = 0 := by unfold chkE; rw [h]; rfl
theorem chkE_no {a b c : Int} (h : chkB a b c = false) : chkE a b c = 8 := by unfold chkE; rw [h]; rfl

set_option maxHeartbeats 400000 in
theorem checkBoth_calls (ar ai ad br bi bd : Int) (w : World) :
    Calls Tryd.prog 36 #[Cv ar ai ad, Cv br bi bd] w fun e w' => e = .returned (.int .i64 (bothE ar ai ad br bi bd)) ∧ Below w.heap.size w w' := by
  cases h : chkB ar ai ad
  · have F : Hid (bothE ar ai ad br bi bd = 8) := Lib.hid (by unfold bothE; rw [h]; rfl)
    have e1 := chkE_no h
    have hc := fun w => check_calls ar ai ad w
    rw [e1] at hc
    have HC := Lib.hid hc
    clear e1 hc h
    go_enter Tryd.func36, Tryd.ntmps36
    go_wp2_with fail
    refine (HC.out _).mono ?_
    rintro e w1 ⟨rfl, hb⟩
    obtain ⟨hc, hf⟩ := bcell hb
    go_wp2_with fail
    go_ret
    exact ⟨ret_int F.out.symm, Bgo (Bal (Bal (Below.refl _ _) _) _) hb⟩
  · have F : Hid (bothE ar ai ad br bi bd = chkE br bi bd) := Lib.hid (by unfold bothE chkE; rw [h]; rfl)
    have e1 := chkE_yes h
    have hc := fun w => check_calls ar ai ad w
    rw [e1] at hc
    have HC := Lib.hid hc
    clear e1 hc h
    go_enter Tryd.func36, Tryd.ntmps36
    go_wp2_with fail
    refine (HC.out _).mono ?_
    rintro e w1 ⟨rfl, hb⟩
    obtain ⟨hc, hf⟩ := bcell hb
    go_wp2_with fail
    refine (check_calls br bi bd _).mono ?_
    rintro e w2 ⟨rfl, hb2⟩
    go_wp2_with fail
    go_ret
    exact ⟨ret_int F.out.symm, Bgo (Bgo (Bal (Bal (Below.refl _ _) _) _) hb) hb2⟩

end Go.Proofs.YtbbjclbpllfdeaaDoor
