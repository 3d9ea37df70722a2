/- Contracts of layer 1: comparisons of the program. -/
import Derived.Test.YtfangplfbbgphaaFrj
namespace Go.Proofs.Ytfangplfbbgphaa
open Go.ChangeShapes Go.WideShapes Go.ChangeAt Go.RowKit
set_option linter.unusedVariables false
set_option maxRecDepth 100000
attribute [local go_sem ↓] Go.wp_at_zero Go.wp_at_succ

def cmpI (x y : Int) : Int := if y < x then 1 else if x = y then 0 else -1
theorem cmpI_gt {x y : Int} (h : y < x) : cmpI x y = 1 := by unfold cmpI; rw [if_pos h]
theorem cmpI_eq {x y : Int} (h : x = y) : cmpI x y = 0 := by unfold cmpI; rw [if_neg (by omega), if_pos h]
theorem cmpI_lt {x y : Int} (h : x < y) : cmpI x y = -1 := by unfold cmpI; rw [if_neg (by omega), if_neg (by omega)]
theorem cmpI_range (x y : Int) : -1 ≤ cmpI x y ∧ cmpI x y ≤ 1 := by
  rcases Int.lt_trichotomy x y with h | h | h
  · rw [cmpI_lt h]; omega
  · rw [cmpI_eq h]; omega
  · rw [cmpI_gt h]; omega
theorem wider_calls (ah al bh bl : Nat) (w : World) (h1 : al < 18446744073709551616) (h2 : bl < 18446744073709551616) :
    Calls Try.prog 75 #[.int .u64 ah, .int .u64 al, .int .u64 bh, .int .u64 bl] w fun e w' => e = .returned (.int .i64 (cmpI ((18446744073709551616 * ah + al : Nat) : Int) ((18446744073709551616 * bh + bl : Nat) : Int))) ∧ w = w' := by
  have hc : bh < ah ∨ (ah = bh ∧ bl < al) ∨ (ah = bh ∧ al = bl) ∨ (ah = bh ∧ al < bl) ∨ ah < bh := by omega
  rcases hc with h | ⟨h, h'⟩ | ⟨h, h'⟩ | ⟨h, h'⟩ | h
  · rw [cmpI_gt (by omega)]
    have q1 : decide ((bh : Int) < (ah : Int)) = true := decide_eq_true (by omega)
    have q2 : ((ah : Int) == (bh : Int)) = false := by rw [beq_eq_false_iff_ne]; omega
    go_enter Try.func75, Try.ntmps75
    go_wp2_with fail
    go_ret
    exact ⟨rfl, rfl⟩
  · rw [cmpI_gt (by omega)]
    subst h
    have q0 : ¬ ah < ah := by omega
    go_enter Try.func75, Try.ntmps75
    go_wp2_with fail
    go_ret
    exact ⟨rfl, rfl⟩
  · rw [cmpI_eq (by omega)]
    subst h h'
    have q0 : ¬ ah < ah := by omega
    have q1 : ¬ al < al := by omega
    go_enter Try.func75, Try.ntmps75
    go_wp2_with fail
    go_ret
    exact ⟨rfl, rfl⟩
  · rw [cmpI_lt (by omega)]
    subst h
    have q0 : ¬ ah < ah := by omega
    have q1 : ¬ bl < al := by omega
    have q2 : ((al : Int) == (bl : Int)) = false := by rw [beq_eq_false_iff_ne]; omega
    go_enter Try.func75, Try.ntmps75
    go_wp2_with fail
    go_ret
    exact ⟨rfl, rfl⟩
  · rw [cmpI_lt (by omega)]
    have q0 : ¬ bh < ah := by omega
    have q2 : ((ah : Int) == (bh : Int)) = false := by rw [beq_eq_false_iff_ne]; omega
    go_enter Try.func75, Try.ntmps75
    go_wp2_with fail
    go_ret
    exact ⟨rfl, rfl⟩
theorem absmul {n d : Int} (hd : 0 ≤ d) : ((n.natAbs * d.natAbs : Nat) : Int) = if n < 0 then -(n * d) else n * d := by
  rw [Int.natCast_mul, show ((d.natAbs : Nat) : Int) = d by omega]
  by_cases h : n < 0
  · rw [if_pos h, show ((n.natAbs : Nat) : Int) = -n by omega, Int.neg_mul]
  · rw [if_neg h, show ((n.natAbs : Nat) : Int) = n by omega]
theorem cmpI_neg (x y : Int) : -(cmpI (-x) (-y)) = cmpI x y := by
  rcases Int.lt_trichotomy x y with h | h | h
  · rw [cmpI_lt h, cmpI_gt (by omega)]
  · rw [cmpI_eq h, cmpI_eq (by omega)]; rfl
  · rw [cmpI_gt h, cmpI_lt (by omega)]; rfl
end Go.Proofs.Ytfangplfbbgphaa
