/- Plain law of layer 1: division of two digits by one, as Div64 does it (a digit at a time, the guess mended). -/
import Derived.Test.YtfangplfbbgphaaBlk
namespace Go.Proofs.Ytfangplfbbgphaa.Dv
set_option linter.unusedVariables false
set_option maxRecDepth 100000
theorem lt_q {M y q : Nat} (hy : 0 < y) (h : M < q * y) : M / y < q := (Nat.div_lt_iff_lt_mul hy).2 h
theorem le_q {M y q : Nat} (hy : 0 < y) (h : q * y ≤ M) : q ≤ M / y := (Nat.le_div_iff_mul_le hy).2 h
/- the invariant of a digit's guess: the digits of the divisor d1, d0; the rest U, the next digit u1 -/
structure G (U u1 d1 d0 q r : Nat) : Prop where
  e : q * d1 + r = U
  hi : (U * 4294967296 + u1) / (d1 * 4294967296 + d0) ≤ q
theorem top {U u1 y : Nat} (hU : U < y) (hu : u1 < 4294967296) : (U * 4294967296 + u1) / y < 4294967296 := by
  refine lt_q (by omega) ?_
  rw [Nat.mul_comm 4294967296 y]
  omega
theorem mulY (q d1 d0 : Nat) : q * (d1 * 4294967296 + d0) = q * d1 * 4294967296 + q * d0 := by rw [Nat.mul_add, Nat.mul_assoc]
theorem start {U u1 d1 d0 : Nat} (h1 : 0 < d1) (hu : u1 < 4294967296) : G U u1 d1 d0 (U / d1) (U % d1) := by
  refine ⟨by rw [Nat.mul_comm]; exact Nat.div_add_mod U d1, ?_⟩
  refine Nat.le_of_lt_succ (lt_q (by omega) ?_)
  rw [mulY]
  have h := Nat.lt_div_mul_add (a := U) h1
  have : U + 1 ≤ (U / d1 + 1) * d1 := by rw [Nat.add_mul, Nat.one_mul]; omega
  generalize (U / d1 + 1) * d0 = z at *
  generalize (U / d1 + 1) * d1 = z' at *
  omega
/- what the guess is now, and that it is not 0 where it is lessened -/
theorem G.down {U u1 d1 d0 q r : Nat} (g : G U u1 d1 d0 q r) (h1 : 0 < d1) (hU : U < d1 * 4294967296 + d0) (hu : u1 < 4294967296) (h : 4294967296 ≤ q ∨ 4294967296 * r + u1 < q * d0) :
    1 ≤ q ∧ G U u1 d1 d0 (q - 1) (r + d1) := by
  have q1 : 1 ≤ q := by
    rcases h with h | h
    · omega
    · exact Nat.pos_of_ne_zero (fun z => by rw [z, Nat.zero_mul] at h; omega)
  refine ⟨q1, ?_, ?_⟩
  · have e := g.e
    have : q * d1 = (q - 1) * d1 + d1 := by rw [Nat.sub_mul, Nat.one_mul, Nat.sub_add_cancel (Nat.le_mul_of_pos_left _ q1)]
    omega
  · have : (U * 4294967296 + u1) / (d1 * 4294967296 + d0) < q := by
      rcases h with h | h
      · exact Nat.lt_of_lt_of_le (top hU hu) h
      · refine lt_q (by omega) ?_
        rw [mulY]
        have e := g.e
        generalize q * d1 = a at *
        omega
    omega
theorem G.bound {U u1 d1 d0 q r : Nat} (g : G U u1 d1 d0 q r) (h1 : 0 < d1) (hU : U < d1 * 4294967296 + d0) (hd : d0 < 4294967296) (hr : 4294967296 ≤ r) : q < 4294967296 := by
  have e := g.e
  by_cases c : q < 4294967296
  · exact c
  · have := Nat.mul_le_mul_right d1 (show 4294967296 ≤ q by omega)
    rw [Nat.mul_comm 4294967296 d1] at this
    omega
theorem G.done1 {U u1 d1 d0 q r : Nat} (g : G U u1 d1 d0 q r) (h1 : 0 < d1) (h : q * d0 ≤ 4294967296 * r + u1) : q = (U * 4294967296 + u1) / (d1 * 4294967296 + d0) := by
  refine Nat.le_antisymm (le_q (by omega) ?_) g.hi
  rw [mulY]
  have e := g.e
  generalize q * d1 = a at *
  omega
theorem G.done2 {U u1 d1 d0 q r : Nat} (g : G U u1 d1 d0 q r) (h1 : 0 < d1) (hU : U < d1 * 4294967296 + d0) (hd : d0 < 4294967296) (hr : 4294967296 ≤ r) : q = (U * 4294967296 + u1) / (d1 * 4294967296 + d0) := by
  refine g.done1 h1 ?_
  have := g.bound h1 hU hd hr
  have : q * d0 ≤ 4294967296 * 4294967296 := Nat.mul_le_mul (by omega) (by omega)
  omega
/- what is left -/
theorem left {M y : Nat} : M - M / y * y = M % y := by
  have := Nat.div_add_mod M y
  rw [Nat.mul_comm] at this
  omega
/- both digits together -/
theorem both {M u0 y : Nat} (hy : 0 < y) : M / y * 4294967296 + (M % y * 4294967296 + u0) / y = (M * 4294967296 + u0) / y ∧ (M % y * 4294967296 + u0) % y = (M * 4294967296 + u0) % y := by
  have h := Nat.div_add_mod M y
  have k : M * 4294967296 + u0 = (M % y * 4294967296 + u0) + y * (M / y * 4294967296) := by
    have : M * 4294967296 = (y * (M / y) + M % y) * 4294967296 := by rw [h]
    rw [this]; grind
  rw [k, Nat.add_mul_div_left _ _ hy, Nat.add_mul_mod_self_left]
  exact ⟨Nat.add_comm _ _, rfl⟩
/- the number moved by s bits: its two digits, where the upper one is below the divisor -/
theorem moved {hi lo y s : Nat} (hs : 2 ^ s ∣ 18446744073709551616) (hlo : lo < 18446744073709551616) :
    (hi * 2 ^ s + lo / (18446744073709551616 / 2 ^ s)) * 18446744073709551616 + lo * 2 ^ s % 18446744073709551616 = (hi * 18446744073709551616 + lo) * 2 ^ s := by
  obtain ⟨t, ht⟩ := hs
  have hp : 0 < 2 ^ s := Nat.two_pow_pos s
  rw [ht, Nat.mul_div_cancel_left _ hp]
  generalize 2 ^ s = p at *
  have h := Nat.div_add_mod lo t
  rw [Nat.mul_comm lo p, Nat.mul_mod_mul_left]
  have : lo * p = (t * (lo / t) + lo % t) * p := by rw [h]
  rw [Nat.add_mul, Nat.add_mul (hi * (p * t)), this]
  generalize lo / t = a at *
  generalize lo % t = b at *
  grind
/- quotient and rest of what was moved -/
theorem back {N y s : Nat} : N * 2 ^ s / (y * 2 ^ s) = N / y ∧ N * 2 ^ s % (y * 2 ^ s) / 2 ^ s = N % y :=
  ⟨Nat.mul_div_mul_right _ _ (Nat.two_pow_pos s), by rw [Nat.mul_mod_mul_right, Nat.mul_div_cancel _ (Nat.two_pow_pos s)]⟩
end Go.Proofs.Ytfangplfbbgphaa.Dv
