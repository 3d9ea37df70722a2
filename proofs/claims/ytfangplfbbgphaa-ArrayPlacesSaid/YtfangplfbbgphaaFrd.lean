/- Contracts of layer 1: fractions in lowest terms. -/
import Derived.Test.YtfangplfbbgphaaFrc
import Derived.Laws.BitsAllLaws
namespace Go.Proofs.Ytfangplfbbgphaa
open Go.ChangeShapes Go.WideShapes Go.ChangeAt Go.RowKit
set_option linter.unusedVariables false
set_option maxRecDepth 100000
attribute [local go_sem ↓] Go.wp_at_zero Go.wp_at_succ

abbrev Rv (r : Int × Int × Int) : Value := .tuple #[Fv r.1 r.2.1, .int .i64 r.2.2]
def lowF (neg : Bool) (n d : Nat) : Int × Int × Int := if 1000000000000000000 < n ∨ 1000000000000000000 < d then (0, 0, 16) else (if neg then -(n : Int) else (n : Int), (d : Int), 0)
set_option maxHeartbeats 1000000 in
theorem build_calls (neg : Bool) (n d : Nat) (w : World) (hn : n < 18446744073709551616) (hd : d < 18446744073709551616) :
    Calls Try.prog 79 #[.bool neg, .int .u64 n, .int .u64 d] w fun e w' => e = .returned (Rv (lowF neg n d)) ∧ Below w.heap.size w w' := by
  have hv : (1000000000000000000 < n ∨ 1000000000000000000 < d) ∨ (n ≤ 1000000000000000000 ∧ d ≤ 1000000000000000000) := by omega
  rcases hv with h | ⟨h, h'⟩
  · have F : Hid (lowF neg n d = (0, 0, 16)) := Lib.hid (by unfold lowF; rw [if_pos h])
    generalize lowF neg n d = v at *
    rcases h with h | h
    · go_enter Try.func79, Try.ntmps79
      go_wp2_with fail
      refine bodyPost_ret (v := .tuple #[Fv 0 0, .int .i64 16]) (by simp [results, Try.results79, go_sem]) rfl ⟨by rw [F.out], ?_⟩
      repeat (first | exact Below.refl _ _ | refine Bal ?_ _ | refine Bset1 ?_ (by simp) _ _)
    · have h9 : n ≤ 1000000000000000000 ∨ 1000000000000000000 < n := by omega
      rcases h9 with h9 | h9
      all_goals
        go_enter Try.func79, Try.ntmps79
        go_wp2_with fail
        refine bodyPost_ret (v := .tuple #[Fv 0 0, .int .i64 16]) (by simp [results, Try.results79, go_sem]) rfl ⟨by rw [F.out], ?_⟩
        repeat (first | exact Below.refl _ _ | refine Bal ?_ _ | refine Bset1 ?_ (by simp) _ _)
  · have F : Hid (lowF neg n d = (if neg then -(n : Int) else (n : Int), (d : Int), 0)) := Lib.hid (by unfold lowF; rw [if_neg (by omega)])
    generalize lowF neg n d = v at *
    cases neg
    · go_enter Try.func79, Try.ntmps79
      go_wp2_with fail
      refine bodyPost_ret (v := .tuple #[Fv n d, .int .i64 0]) (by simp [results, Try.results79, go_sem]) rfl ⟨by rw [F.out]; rfl, ?_⟩
      repeat (first | exact Below.refl _ _ | refine Bal ?_ _ | refine Bset1 ?_ (by simp) _ _)
    · go_enter Try.func79, Try.ntmps79
      go_wp2_with fail
      refine bodyPost_ret (v := .tuple #[Fv (-(n : Int)) d, .int .i64 0]) (by simp [results, Try.results79, go_sem]) rfl ⟨by rw [F.out]; rfl, ?_⟩
      repeat (first | exact Below.refl _ _ | refine Bal ?_ _ | refine Bset1 ?_ (by simp) _ _)
theorem and32 (n : Nat) (hn : n < 18446744073709551616) : bits .and .u64 (n : Int) 4294967295 = ((n % 4294967296 : Nat) : Int) := by
  have := u64_and_nat n 4294967295 hn (by omega)
  rw [show ((4294967295 : Nat) : Int) = 4294967295 from rfl] at this
  rw [this]
  congr 1
  exact Nat.and_two_pow_sub_one_eq_mod n 32
set_option maxHeartbeats 1000000 in
theorem big_calls (n : Nat) (w : World) (hn : n < 18446744073709551616) :
    Calls Try.prog 86 #[.int .u64 n] w fun e w' => e = .returned (.agg #[.int .u64 (n % 4294967296 : Nat), .int .u64 (n / 4294967296 : Nat), .int .u64 0, .int .u64 0]) ∧ Below w.heap.size w w' := by
  go_enter Try.func86, Try.ntmps86
  go_wp2_with fail
  refine bodyPost_ret (v := .agg #[.int .u64 (bits .and .u64 (n : Int) 4294967295), .int .u64 ((n : Int) / 4294967296), .int .u64 0, .int .u64 0]) (by simp [results, Try.results86, go_sem]) rfl ⟨?_, Bal (Below.refl _ _) _⟩
  rw [and32 n hn, Int.natCast_ediv]; rfl
theorem or32 (a b : Nat) (ha : a < 4294967296) (hb : b < 4294967296) : bits .or .u64 ((b : Int) * 4294967296) (a : Int) = ((b * 4294967296 + a : Nat) : Int) := by
  have h := u64_or_nat (b * 4294967296) a (by omega) (by omega)
  rw [show (((b * 4294967296 : Nat) : Nat) : Int) = (b : Int) * 4294967296 by omega] at h
  rw [h]
  congr 1
  have h2 := Nat.shiftLeft_add_eq_or_of_lt (i := 32) (b := a) (by omega) b
  rw [Nat.shiftLeft_eq] at h2
  exact h2.symm
theorem and63 (n : Nat) (hn : n < 18446744073709551616) : bits .and .u64 (n : Int) 9223372036854775807 = ((n % 9223372036854775808 : Nat) : Int) := by
  have := u64_and_nat n 9223372036854775807 hn (by omega)
  rw [show ((9223372036854775807 : Nat) : Int) = 9223372036854775807 from rfl] at this
  rw [this]
  congr 1
  exact Nat.and_two_pow_sub_one_eq_mod n 63
set_option maxHeartbeats 1000000 in
theorem small_calls (a b c d : Nat) (w : World) (ha : a < 4294967296) (hb : b < 4294967296) :
    Calls Try.prog 85 #[.agg #[.int .u64 a, .int .u64 b, .int .u64 c, .int .u64 d]] w fun e w' => e = .returned (.tuple #[.int .i64 ((b * 4294967296 + a) % 9223372036854775808 : Nat), .bool (decide (c = 0) && (decide (d = 0) && decide (b * 4294967296 + a ≤ 1000000000000000000)))]) ∧ Below w.heap.size w w' := by
  have ho := or32 a b ha hb
  obtain ⟨v, hv⟩ : ∃ v : Nat, b * 4294967296 + a = v := ⟨_, rfl⟩
  have hvb : v < 18446744073709551616 := by omega
  rw [hv] at ho ⊢
  have hn := and63 v hvb
  have hm : v % 9223372036854775808 < 9223372036854775808 := Nat.mod_lt _ (by omega)
  clear hv
  obtain ⟨m, hme⟩ : ∃ m : Nat, v % 9223372036854775808 = m := ⟨_, rfl⟩
  rw [hme] at hn hm ⊢
  clear hme
  have hw : wrap64 (m : Int) = (m : Int) := IntWalk.wrap64_in _ ⟨by omega, by omega⟩
  by_cases hc : c = 0
  · subst hc
    by_cases hd : d = 0
    · subst hd
      go_enter Try.func85, Try.ntmps85
      go_wp2_with fail
      go_ret2
      exact ⟨by simp; omega, Bal (Below.refl _ _) _⟩
    · have q : ((d : Int) == 0) = false := by simpa using hd
      have q2 : decide (d = 0) = false := by simpa using hd
      go_enter Try.func85, Try.ntmps85
      go_wp2_with fail
      go_ret2
      exact ⟨by simp [q2], Bal (Below.refl _ _) _⟩
  · have q : ((c : Int) == 0) = false := by simpa using hc
    have q2 : decide (c = 0) = false := by simpa using hc
    go_enter Try.func85, Try.ntmps85
    go_wp2_with fail
    go_ret2
    exact ⟨by simp [q2], Bal (Below.refl _ _) _⟩
end Go.Proofs.Ytfangplfbbgphaa
