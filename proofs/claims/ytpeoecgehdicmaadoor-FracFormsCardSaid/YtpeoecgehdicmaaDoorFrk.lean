/- Contracts of layer 1: comparisons of the program. -/
import Derived.Test.YtpeoecgehdicmaaDoorFrj
namespace Go.Proofs.YtpeoecgehdicmaaDoor
open Go.ChangeShapes Go.WideShapes Go.ChangeAt Go.RowKit
set_option linter.unusedVariables false
attribute [local go_sem ↓] Go.wp_at_zero Go.wp_at_succ

def cmpI (x y : Int) : Int := if y < x then 1 else if x = y then 0 else -1
theorem cmpI_gt {x y : Int} (h : y < x) : cmpI x y = 1 := by unfold cmpI; rw [if_pos h]
theorem cmpI_eq {x y : Int} (h : x = y) : cmpI x y = 0 := by unfold cmpI; rw [if_neg (by omega), if_pos h]
theorem cmpI_lt {x y : Int} (h : x < y) : cmpI x y = -1 := by unfold cmpI; rw [if_neg (by omega), if_neg (by omega)]
theorem cmpI_range (x y : Int) : -1 ≤ cmpI x y ∧ cmpI x y ≤ 1 := by
  rcases Int.lt_trichotomy x y with h | h | h
  · rw [cmpI_lt h]; omega
  · rw [cmpI_eq h]; omega
  · rw [cmpI_gt h]; omega
theorem wider_calls (ah al bh bl : Nat) (w : World) (h1 : al < 18446744073709551616) (h2 : bl < 18446744073709551616) :
    Calls Tryd.prog 51 #[.int .u64 ah, .int .u64 al, .int .u64 bh, .int .u64 bl] w fun e w' => e = .returned (.int .i64 (cmpI ((18446744073709551616 * ah + al : Nat) : Int) ((18446744073709551616 * bh + bl : Nat) : Int))) ∧ w = w' := by
  have hc : bh < ah ∨ (ah = bh ∧ bl < al) ∨ (ah = bh ∧ al = bl) ∨ (ah = bh ∧ al < bl) ∨ ah < bh := by omega
  rcases hc with h | ⟨h, h'⟩ | ⟨h, h'⟩ | ⟨h, h'⟩ | h
  · rw [cmpI_gt (by omega)]
    have q1 : decide ((bh : Int) < (ah : Int)) = true := decide_eq_true (by omega)
    have q2 : ((ah : Int) == (bh : Int)) = false := by rw [beq_eq_false_iff_ne]; omega
    go_enter Tryd.func51, Tryd.ntmps51
    go_wp2_with fail
    go_ret
    exact ⟨rfl, rfl⟩
  · rw [cmpI_gt (by omega)]
    subst h
    have q0 : ¬ ah < ah := by omega
    go_enter Tryd.func51, Tryd.ntmps51
    go_wp2_with fail
    go_ret
    exact ⟨rfl, rfl⟩
  · rw [cmpI_eq (by omega)]
    subst h h'
    have q0 : ¬ ah < ah := by omega
    have q1 : ¬ al < al := by omega
    go_enter Tryd.func51, Tryd.ntmps51
    go_wp2_with fail
    go_ret
    exact ⟨rfl, rfl⟩
  · rw [cmpI_lt (by omega)]
    subst h
    have q0 : ¬ ah < ah := by omega
    have q1 : ¬ bl < al := by omega
    have q2 : ((al : Int) == (bl : Int)) = false := by rw [beq_eq_false_iff_ne]; omega
    go_enter Tryd.func51, Tryd.ntmps51
    go_wp2_with fail
    go_ret
    exact ⟨rfl, rfl⟩
  · rw [cmpI_lt (by omega)]
    have q0 : ¬ bh < ah := by omega
    have q2 : ((ah : Int) == (bh : Int)) = false := by rw [beq_eq_false_iff_ne]; omega
    go_enter Tryd.func51, Tryd.ntmps51
    go_wp2_with fail
    go_ret
    exact ⟨rfl, rfl⟩
theorem compare_calls (a b c d : Nat) (w : World) (h1 : a < 18446744073709551616) (h2 : b < 18446744073709551616) (h3 : c < 18446744073709551616) (h4 : d < 18446744073709551616) :
    Calls Tryd.prog 47 #[.int .u64 a, .int .u64 b, .int .u64 c, .int .u64 d] w fun e w' => e = .returned (.int .i64 (cmpI ((a * b : Nat) : Int) ((c * d : Nat) : Int))) ∧ w = w' := by
  have M1 := Lib.hid (fun W => mul64_calls a b W h1 h2)
  have M2 := Lib.hid (fun W => mul64_calls c d W h3 h4)
  generalize a * b = p at *
  generalize c * d = q at *
  have WC := Lib.hid (fun W => wider_calls (p / 18446744073709551616) (p % 18446744073709551616) (q / 18446744073709551616) (q % 18446744073709551616) W (Nat.mod_lt _ (by omega)) (Nat.mod_lt _ (by omega)))
  rw [Nat.div_add_mod, Nat.div_add_mod] at WC
  generalize p / 18446744073709551616 = p1 at *
  generalize p % 18446744073709551616 = p0 at *
  generalize q / 18446744073709551616 = q1 at *
  generalize q % 18446744073709551616 = q0 at *
  generalize cmpI (p : Int) (q : Int) = r at *
  go_enter Tryd.func47, Tryd.ntmps47
  go_wp2_with fail
  refine (M1.out _).mono ?_
  rintro e w1 ⟨rfl, rfl⟩
  go_wp2_with fail
  refine (M2.out _).mono ?_
  rintro e w1 ⟨rfl, rfl⟩
  go_wp2_with fail
  refine (WC.out _).mono ?_
  rintro e w1 ⟨rfl, rfl⟩
  go_wp2_with fail
  go_ret
  exact ⟨rfl, rfl⟩
theorem absmul {n d : Int} (hd : 0 ≤ d) : ((n.natAbs * d.natAbs : Nat) : Int) = if n < 0 then -(n * d) else n * d := by
  rw [Int.natCast_mul, show ((d.natAbs : Nat) : Int) = d by omega]
  by_cases h : n < 0
  · rw [if_pos h, show ((n.natAbs : Nat) : Int) = -n by omega, Int.neg_mul]
  · rw [if_neg h, show ((n.natAbs : Nat) : Int) = n by omega]
theorem cmpI_neg (x y : Int) : -(cmpI (-x) (-y)) = cmpI x y := by
  rcases Int.lt_trichotomy x y with h | h | h
  · rw [cmpI_lt h, cmpI_gt (by omega)]
  · rw [cmpI_eq h, cmpI_eq (by omega)]; rfl
  · rw [cmpI_gt h, cmpI_lt (by omega)]; rfl
set_option maxHeartbeats 2000000 in
theorem order_calls (an ad bn bd : Int) (w : World) (h1 : -9223372036854775808 ≤ an) (h2 : an ≤ 9223372036854775807) (h3 : 1 ≤ ad) (h4 : ad ≤ 9223372036854775807) (h5 : -9223372036854775808 ≤ bn) (h6 : bn ≤ 9223372036854775807) (h7 : 1 ≤ bd) (h8 : bd ≤ 9223372036854775807) :
    Calls Tryd.prog 48 #[Fv an ad, Fv bn bd] w fun e w' => e = .returned (.int .i64 (cmpI (an * bd) (bn * ad))) ∧ Below w.heap.size w w' := by
  have A1 := absmul (n := an) (d := bd) (by omega)
  have A2 := absmul (n := bn) (d := ad) (by omega)
  have nn1 : an < 0 → an * bd < 0 := fun h => Int.mul_neg_of_neg_of_pos h (by omega)
  have nn2 : 0 ≤ an → 0 ≤ an * bd := fun h => Int.mul_nonneg h (by omega)
  have nn3 : bn < 0 → bn * ad < 0 := fun h => Int.mul_neg_of_neg_of_pos h (by omega)
  have nn4 : 0 ≤ bn → 0 ≤ bn * ad := fun h => Int.mul_nonneg h (by omega)
  have CC := Lib.hid (fun W => compare_calls an.natAbs bd.natAbs bn.natAbs ad.natAbs W (by omega) (by omega) (by omega) (by omega))
  have S1 := Lib.hid (fun W => size_calls an W h1 h2)
  have S2 := Lib.hid (fun W => size_calls ad W (by omega) h4)
  have S3 := Lib.hid (fun W => size_calls bn W h5 h6)
  have S4 := Lib.hid (fun W => size_calls bd W (by omega) h8)
  rw [A1, A2] at CC
  generalize an * bd = x at *
  generalize bn * ad = y at *
  generalize an.natAbs = xa at *
  generalize ad.natAbs = xb at *
  generalize bn.natAbs = xc at *
  generalize bd.natAbs = xd at *
  clear A1 A2
  by_cases c1 : an < 0
  · have lx := nn1 c1
    rw [if_pos c1] at CC
    by_cases c2 : bn < 0
    · have ly := nn3 c2
      rw [if_pos c2] at CC
      have F := Lib.hid (cmpI_neg x y)
      have R := cmpI_range (-x) (-y)
      generalize cmpI x y = res at *
      generalize cmpI (-x) (-y) = r at *
      clear nn1 nn2 nn3 nn4
      have c3 : ¬ 0 ≤ bn := by omega
      have c4 : ¬ 0 ≤ an := by omega
      go_enter Tryd.func48, Tryd.ntmps48
      go_wp2_with fail
      go_quiet ((first | (go_at_call 42; (with_reducible exact quiet_left (S1.out _))) | (go_at_call 42; (with_reducible exact quiet_left (S2.out _))) | (go_at_call 42; (with_reducible exact quiet_left (S3.out _))) | (go_at_call 42; (with_reducible exact quiet_left (S4.out _))) | (go_at_call 47; (with_reducible exact quiet_left (CC.out _)))))
      go_wp2_with fail
      go_ret
      exact ⟨ret_int F.out, below_drewN (Bal (Bal (Below.refl _ _) _) _) _⟩
    · have ly := nn4 (by omega)
      rw [cmpI_lt (show x < y by omega)]
      clear nn1 nn2 nn3 nn4 CC
      go_enter Tryd.func48, Tryd.ntmps48
      go_wp2_with fail
      go_ret
      exact ⟨rfl, Bal (Bal (Below.refl _ _) _) _⟩
  · have lx := nn2 (by omega)
    rw [if_neg c1] at CC
    by_cases c2 : bn < 0
    · have ly := nn3 c2
      rw [cmpI_gt (show y < x by omega)]
      clear nn1 nn2 nn3 nn4 CC
      go_enter Tryd.func48, Tryd.ntmps48
      go_wp2_with fail
      go_ret
      exact ⟨rfl, Bal (Bal (Below.refl _ _) _) _⟩
    · rw [if_neg c2] at CC
      generalize cmpI x y = r at *
      clear nn1 nn2 nn3 nn4
      go_enter Tryd.func48, Tryd.ntmps48
      go_wp2_with fail
      go_quiet ((first | (go_at_call 42; (with_reducible exact quiet_left (S1.out _))) | (go_at_call 42; (with_reducible exact quiet_left (S2.out _))) | (go_at_call 42; (with_reducible exact quiet_left (S3.out _))) | (go_at_call 42; (with_reducible exact quiet_left (S4.out _))) | (go_at_call 47; (with_reducible exact quiet_left (CC.out _)))))
      go_wp2_with fail
      go_ret
      exact ⟨rfl, below_drewN (Bal (Bal (Below.refl _ _) _) _) _⟩
end Go.Proofs.YtpeoecgehdicmaaDoor
