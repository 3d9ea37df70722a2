/- Contracts of the references' Same, Long and Great. -/
import Derived.Test.YtbbnkclajpaghaaTl
import Derived.Test.YtbbnkclajpaghaaTz
import Derived.OwnWalk
namespace Go.Proofs.Ytbbnkclajpaghaa
open Go.ChangeShapes Go.WideShapes Go.ChangeAt Go.RowKit
set_option linter.unusedVariables false
set_option linter.unusedSimpArgs false
set_option maxRecDepth 100000 in
set_option maxHeartbeats 4000000 in
theorem same_calls {A B : Option Addr} {ca cb : Nat} {l : List Vr} {w : World} (ha : RT w A l) (hb : RT w B l) (h1 : l.length ≤ ca) (h2 : l.length ≤ cb) (hn : l.length ≤ 1000000) : Calls Try.prog 15 #[.slice A l.length ca, .slice B l.length cb] w fun e w' =>
    e = .returned (.bool true) ∧ Below w.heap.size w w' := by
  have HA := Lib.hid ha
  have HB := Lib.hid hb
  have NN := Lib.hid (Below.refl w.heap.size w)
  clear ha hb
  go_enter Try.func15, Try.ntmps15
  go_wp2_with fail
  go_loopw [5] (fun p wr => ∃ k m : Nat, k ≤ l.length ∧ p = .int .i64 (k : Int) ∧ wr = w.drewN m) (fun p _ => l.length - (intOf p).toNat)
  case atStart => exact ⟨0, 0, Nat.zero_le _, rfl, rfl⟩
  case round =>
    obtain ⟨k, m, hk, rfl, rfl⟩ := hrel
    by_cases hlt : l.length ≤ k
    · have e : k = l.length := by omega
      subst e
      go_wp2_with fail
      go_ret
      exact ⟨rfl, below_drewN NN.out _⟩
    replace hlt : k < l.length := by omega
    obtain ⟨b, bo, eb, bl, a0, a1, a2, a3, a4, a5, a6, a7⟩ := RT.at_ HA.out hlt
    rw [← rowAt_lt hlt] at a0 a1 a2 a3 a4 a5 a6 a7
    subst eb
    obtain ⟨z, zo, ez, zl, g0, g1, g2, g3, g4, g5, g6, g7⟩ := RT.at_ HB.out hlt
    rw [← rowAt_lt hlt] at g0 g1 g2 g3 g4 g5 g6 g7
    subst ez
    generalize rowAt l k = s at *
    have k1 : k < ca := by omega
    have k2 : k < cb := by omega
    go_wp2_with fail
    go_quiet (fail)
    go_wp2_with fail
    refine ⟨⟨k + 1, m + nq, by omega, by go_num, rfl⟩, by simp [intOf]; omega⟩
def longB (n : Nat) : Bool := (decide (60 < n) && decide (n ≤ 200)) || decide (300 < n)
theorem long_calls (A : Option Addr) (n c : Nat) (w : World) : Calls Try.prog 5 #[.slice A n c] w fun e w' => e = .returned (.bool (longB n)) ∧ Below w.heap.size w w' := by
  have NN := Lib.hid (Below.refl w.heap.size w)
  have hc : n ≤ 60 ∨ (60 < n ∧ n ≤ 200) ∨ (200 < n ∧ n ≤ 300) ∨ 300 < n := by omega
  generalize hv : longB n = v
  unfold longB at hv
  have HV := Lib.hid hv
  clear hv
  rcases hc with h | ⟨h, h'⟩ | ⟨h, h'⟩ | h
  · have F : Hid (v = false) := Lib.hid (by rw [← HV.out, decide_eq_false (by omega : ¬ 60 < n), decide_eq_false (by omega : ¬ 300 < n)]; rfl)
    clear HV
    have q1 : decide ((60 : Int) < (n : Int)) = false := decide_eq_false (by omega)
    have q3 : decide ((300 : Int) < (n : Int)) = false := decide_eq_false (by omega)
    go_enter Try.func5, Try.ntmps5
    go_wp2_with fail
    all_goals first | (exfalso; omega; done) | (go_ret; refine ⟨ret_bool ?_, NN.out⟩; rw [F.out])
  · have F : Hid (v = true) := Lib.hid (by rw [← HV.out, decide_eq_true h, decide_eq_true h']; rfl)
    clear HV
    have q1 : decide ((60 : Int) < (n : Int)) = true := decide_eq_true (by omega)
    have q2 : decide ((n : Int) ≤ 200) = true := decide_eq_true (by omega)
    have q3 : decide ((300 : Int) < (n : Int)) = false := decide_eq_false (by omega)
    go_enter Try.func5, Try.ntmps5
    go_wp2_with fail
    all_goals first | (exfalso; omega; done) | (go_ret; refine ⟨ret_bool ?_, NN.out⟩; rw [F.out])
  · have F : Hid (v = false) := Lib.hid (by rw [← HV.out, decide_eq_false (by omega : ¬ n ≤ 200), decide_eq_false (by omega : ¬ 300 < n)]; simp)
    clear HV
    have q1 : decide ((60 : Int) < (n : Int)) = true := decide_eq_true (by omega)
    have q2 : decide ((n : Int) ≤ 200) = false := decide_eq_false (by omega)
    have q3 : decide ((300 : Int) < (n : Int)) = false := decide_eq_false (by omega)
    go_enter Try.func5, Try.ntmps5
    go_wp2_with fail
    all_goals first | (exfalso; omega; done) | (go_ret; refine ⟨ret_bool ?_, NN.out⟩; rw [F.out])
  · have F : Hid (v = true) := Lib.hid (by rw [← HV.out, decide_eq_true h]; simp)
    clear HV
    have q1 : decide ((60 : Int) < (n : Int)) = true := decide_eq_true (by omega)
    have q2 : decide ((n : Int) ≤ 200) = false := decide_eq_false (by omega)
    have q3 : decide ((300 : Int) < (n : Int)) = true := decide_eq_true (by omega)
    go_enter Try.func5, Try.ntmps5
    go_wp2_with fail
    all_goals first | (exfalso; omega; done) | (go_ret; refine ⟨ret_bool ?_, NN.out⟩; rw [F.out])
theorem great_calls (t c : Int) (A : Option Addr) (n cap : Nat) (w : World) : Calls Try.prog 6 #[Mv t c A n cap] w fun e w' => e = .returned (.bool (decide (600 < n))) ∧ Below w.heap.size w w' := by
  have NN := Lib.hid (Below.refl w.heap.size w)
  go_enter Try.func6, Try.ntmps6
  go_wp2_with fail
  go_ret
  exact ⟨ret_bool (by simp; omega), Bal NN.out _⟩
end Go.Proofs.Ytbbnkclajpaghaa
