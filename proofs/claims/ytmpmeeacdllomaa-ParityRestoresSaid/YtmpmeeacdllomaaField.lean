/- Contracts of the products and inverses of the field of 256 elements, of the program and of the reference: both return what the plain functions gm and gi say. -/
import Derived.Test.YtmpmeeacdllomaaRows
import Derived.Test.YtmpmeeacdllomaaGf
import Derived.WalkKit
import Derived.ProofKit
import Derived.OpenShut
import Derived.WalkLawsBesides
import Derived.WalkSpells
import Derived.Outline
import Derived.Laws.BitsAllLaws
import Derived.Lib.Hide
namespace Go.Proofs.Ytmpmeeacdllomaa
open Go.ChangeShapes Go.WideShapes Go.ChangeAt Go.RowKit Gf

theorem bitTest (b k : Nat) (hb : b < 256) : (bits BinOp.and IntKind.u8 ((b : Int) / 2 ^ k) 1 == 1) = decide (b / 2 ^ k % 2 = 1) := by
  have e : ((b : Int) / 2 ^ k) = ((b / 2 ^ k : Nat) : Int) := by simp
  have hl : b / 2 ^ k < 256 := Nat.lt_of_le_of_lt (Nat.div_le_self _ _) hb
  have := u8_and_nat (b / 2 ^ k) 1 hl (by omega)
  rw [e]
  have e1 : ((1 : Nat) : Int) = 1 := rfl
  rw [e1] at this
  rw [this, nat_mask1, Bool.eq_iff_iff]
  simp; omega
theorem topTest (P : Nat) (hP : P < 256) : (bits BinOp.and IntKind.u64 ((P : Int) * 2) 256 != 0) = decide (256 ≤ 2 * P) := by
  have := u64_and_nat (2 * P) 256 (by omega) (by omega)
  have e : ((P : Int) * 2) = ((2 * P : Nat) : Int) := by omega
  have e1 : ((256 : Nat) : Int) = 256 := rfl
  rw [e1] at this
  rw [e, this]
  have q := nat_bit 8 (2 * P)
  have e2 : (2 ^ 8 : Nat) = 256 := rfl
  rw [e2] at q
  rw [q, Bool.eq_iff_iff]
  simp; omega
theorem xorU64 (a b : Nat) (ha : a < 512) (hb : b < 512) : bits BinOp.xor IntKind.u64 (a : Int) (b : Int) = ((a ^^^ b : Nat) : Int) := u64_xor_nat a b (by omega) (by omega)
theorem xorI64 (a b : Nat) (ha : a < 512) (hb : b < 512) : bits BinOp.xor IntKind.i64 (a : Int) (b : Int) = ((a ^^^ b : Nat) : Int) := by
  have hx : a ^^^ b < 2 ^ 9 := Nat.xor_lt_two_pow (by omega) (by omega)
  show IntKind.i64.wrap ((BitVec.ofInt 64 (a : Int) ^^^ BitVec.ofInt 64 (b : Int)).toNat : Int) = _
  rw [BitVec.toNat_xor, ofInt_u64 a (by omega), ofInt_u64 b (by omega)]
  exact IntWalk.i64_in _ (by omega)

theorem xtHi (P : Nat) (hP : P < 256) (h : 256 ≤ 2 * P) : bits BinOp.xor IntKind.u64 ((P : Int) * 2) 285 = ((xt P : Nat) : Int) := by
  have := xorU64 (2 * P) 285 (by omega) (by omega)
  have e : ((P : Int) * 2) = ((2 * P : Nat) : Int) := by omega
  rw [e, xt, if_pos h]; exact this
theorem xtLo (P : Nat) (h : ¬ 256 ≤ 2 * P) : ((P : Int) * 2) = ((xt P : Nat) : Int) := by
  rw [xt, if_neg h]; omega
theorem xtHiI (P : Nat) (hP : P < 256) (h : 256 ≤ 2 * P) : bits BinOp.xor IntKind.i64 ((P : Int) * 2) 285 = ((xt P : Nat) : Int) := by
  have := xorI64 (2 * P) 285 (by omega) (by omega)
  have e : ((P : Int) * 2) = ((2 * P : Nat) : Int) := by omega
  rw [e, xt, if_pos h]; exact this
theorem int_eq {k : IntKind} {a b : Int} (h : a = b) : Value.int k a = Value.int k b := by rw [h]
theorem ret_int {k : IntKind} {a b : Int} (h : a = b) : Ending.returned (.int k a) = .returned (.int k b) := by rw [h]

set_option maxHeartbeats 400000 in
theorem mul_calls (a b : Nat) (ha : a < 256) (hb : b < 256) (w : World) :
    Calls Try.prog 13 #[.int .u8 a, .int .u8 b] w fun e w' => e = .returned (.int .u8 (gm a b : Nat)) ∧ w = w' := by
  go_enter Try.func13, Try.ntmps13
  go_wp2
  go_loop [5, 6, 7] (fun p s i => ∃ k : Nat, k ≤ 8 ∧ i = .int .i64 k ∧ p = .int .u64 ((mulTo a b k).1 : Nat) ∧ s = .int .u64 ((mulTo a b k).2 : Nat)) (fun _ _ i => 8 - (intOf i).toNat)
  case atStart => exact ⟨0, by omega, rfl, rfl, rfl⟩
  case round =>
    obtain ⟨k, hk, rfl, rfl, rfl⟩ := hrel
    have hP := (mulTo_lt (b := b) ha k).1
    have hS := (mulTo_lt (b := b) ha k).2
    by_cases hlt : k < 8
    · have H1 : Hid ((mulTo a b (k + 1)).1 = xt (mulTo a b k).1) := Lib.hid rfl
      have H2 : Hid ((mulTo a b (k + 1)).2 = if b / 2 ^ k % 2 = 1 then (mulTo a b k).2 ^^^ (mulTo a b k).1 else (mulTo a b k).2) := Lib.hid rfl
      generalize (mulTo a b k).1 = P at *
      generalize (mulTo a b k).2 = S at *
      have ht1 := bitTest b k hb
      have ht2 := topTest P hP
      by_cases c1 : b / 2 ^ k % 2 = 1 <;> by_cases c2 : 256 ≤ 2 * P
      all_goals
        have d1 := ht1
        have d2 := ht2
        first | rw [decide_eq_true c1] at d1 | rw [decide_eq_false c1] at d1
        first | rw [decide_eq_true c2] at d2 | rw [decide_eq_false c2] at d2
        have C1 := Lib.hid c1
        have C2 := Lib.hid c2
        clear c1 c2 ht1 ht2
        go_wp2
        refine ⟨⟨k + 1, by omega, by go_num, ?_, ?_⟩, by simp [intOf]; omega⟩
        · rw [H1.out]
          first | exact int_eq (xtHi P hP C2.out) | exact int_eq (xtLo P C2.out)
        · rw [H2.out]
          first | (rw [if_pos C1.out]; exact int_eq (xorU64 S P (by omega) (by omega))) | rw [if_neg C1.out]
    · obtain rfl : k = 8 := by omega
      go_wp2
      go_ret
      exact ⟨rfl, rfl⟩

theorem bitTestI (b i : Nat) (hb : b < 256) : (bits BinOp.and IntKind.u8 ((b : Int) / 2 ^ i) 1 == 1) = decide (b / 2 ^ i % 2 = 1) := bitTest b i hb

set_option maxRecDepth 100000 in
set_option maxHeartbeats 400000 in
theorem refMul_calls (a b : Nat) (ha : a < 256) (hb : b < 256) (w : World) :
    Calls Try.prog 14 #[.int .u8 a, .int .u8 b] w fun e w' => e = .returned (.int .u8 (gm a b : Nat)) ∧ w = w' := by
  rw [← ref_eq b ha]
  go_enter Try.func14, Try.ntmps14
  go_wp2
  go_loop [5, 6] (fun p i => ∃ k : Nat, k ≤ 8 ∧ i = .int .i64 (7 - (k : Int)) ∧ p = .int .i64 ((refTo a b k) : Nat)) (fun _ i => (intOf i + 1).toNat)
  case atStart => exact ⟨0, by omega, rfl, rfl⟩
  case round =>
    obtain ⟨k, hk, rfl, rfl⟩ := hrel
    have hP := refTo_lt (b := b) ha k
    by_cases hlt : k < 8
    · have H1 : Hid (refTo a b (k + 1) = if b / 2 ^ (7 - k) % 2 = 1 then xt (refTo a b k) ^^^ a else xt (refTo a b k)) := Lib.hid rfl
      generalize refTo a b k = P at *
      have hX := xt_lt hP
      have ht1 := bitTest b (7 - k) hb
      obtain ⟨j, hj⟩ : ∃ j : Nat, j + k = 7 := ⟨7 - k, by omega⟩
      have e1 : (7 - (k : Int)) = (j : Int) := by omega
      have e2 : 7 - k = j := by omega
      rw [e2] at ht1 H1
      rw [e1]
      have E1 := Lib.hid e1
      have HJ := Lib.hid hj
      have hj7 : j ≤ 7 := by omega
      clear e1 e2 hj
      by_cases c1 : b / 2 ^ j % 2 = 1 <;> by_cases c2 : 256 ≤ 2 * P
      all_goals
        have d1 := ht1
        first | rw [decide_eq_true c1] at d1 | rw [decide_eq_false c1] at d1
        have C1 := Lib.hid c1
        have C2 := Lib.hid c2
        first | (have d2 : (256 : Int) ≤ (P : Int) * 2 := by omega) | (have d2 : (P : Int) * 2 < (256 : Int) := by omega)
        clear c1 c2 ht1
        go_wp2
        have hj := HJ.out
        refine ⟨⟨k + 1, by omega, by go_num, ?_⟩, by simp [intOf]⟩
        rw [H1.out]
        first
          | (rw [if_pos C1.out, xtHiI P hP C2.out]; exact int_eq (xorI64 _ _ (by omega) (by omega)))
          | (rw [if_pos C1.out, xtLo P C2.out]; exact int_eq (xorI64 _ _ (by omega) (by omega)))
          | (rw [if_neg C1.out, xtHiI P hP C2.out])
          | (rw [if_neg C1.out, xtLo P C2.out])
    · have hk8 : k = 8 := by omega
      have H8 := Lib.hid hk8
      have e1 : (7 - (k : Int)) = -1 := by omega
      rw [e1]
      clear hk8 e1
      go_wp2
      go_ret
      rw [H8.out]
      exact ⟨rfl, rfl⟩

set_option maxHeartbeats 400000 in
theorem inverse_calls (a : Nat) (ha : a < 256) (w : World) :
    Calls Try.prog 34 #[.int .u8 a] w fun e w' => e = .returned (.int .u8 (gi a : Nat)) ∧ w = w' := by
  go_enter Try.func34, Try.ntmps34
  go_wp2
  go_loop [3, 4, 5] (fun r p i => ∃ k : Nat, k ≤ 7 ∧ i = .int .i64 ((k : Int) + 1) ∧ r = .int .u8 ((invTo a k).1 : Nat) ∧ p = .int .u8 ((invTo a k).2 : Nat)) (fun _ _ i => 8 - (intOf i).toNat)
  case atStart => exact ⟨0, by omega, rfl, rfl, rfl⟩
  case round =>
    obtain ⟨k, hk, rfl, rfl, rfl⟩ := hrel
    have hR := (invTo_lt ha k).1
    have hP := (invTo_lt ha k).2
    by_cases hlt : k < 7
    · have H1 : Hid ((invTo a (k + 1)).1 = gm (invTo a k).1 (gm (invTo a k).2 (invTo a k).2)) := Lib.hid rfl
      have H2 : Hid ((invTo a (k + 1)).2 = gm (invTo a k).2 (invTo a k).2) := Lib.hid rfl
      generalize (invTo a k).1 = R at *
      generalize (invTo a k).2 = P at *
      go_wp2_with fail
      refine (mul_calls P P hP hP _).mono ?_
      rintro e w' ⟨rfl, rfl⟩
      go_wp2_with fail
      refine (mul_calls R (gm P P) hR (gm_lt hP) _).mono ?_
      rintro e w' ⟨rfl, rfl⟩
      go_wp2_with fail
      refine ⟨⟨k + 1, by omega, by go_num, ?_, ?_⟩, by simp [intOf]; omega⟩
      · rw [H1.out]
      · rw [H2.out]
    · obtain rfl : k = 7 := by omega
      go_wp2
      go_ret
      exact ⟨rfl, rfl⟩

set_option maxHeartbeats 400000 in
theorem refInverse_calls (a : Nat) (h0 : a ≠ 0) (ha : a < 256) (w : World) :
    Calls Try.prog 35 #[.int .u8 a] w fun e w' => e = .returned (.int .u8 (gi a : Nat)) ∧ w = w' := by
  have hp := gi_pos h0 ha
  have hl := gi_lt ha
  have U := fun b hb h => gi_unique (a := a) (b := b) h0 ha hb h
  have G := gm_gi h0 ha
  generalize gi a = g at *
  have HU := Lib.hid U
  have HG := Lib.hid G
  have H0 := Lib.hid h0
  clear U G h0
  go_enter Try.func35, Try.ntmps35
  go_wp2
  go_loop [3] (fun b => ∃ k : Nat, 1 ≤ k ∧ k ≤ g ∧ b = .int .u8 (k : Int)) (fun b => 256 - (intOf b).toNat)
  case atStart => exact ⟨1, by omega, by omega, rfl⟩
  case round =>
    obtain ⟨k, hk1, hk, rfl⟩ := hrel
    by_cases hlt : k < g
    · have hne : ((gm a k : Nat) : Int) ≠ 1 := fun h => by
        have := HU.out k (by omega) (by omega)
        omega
      have hne' : (((gm a k : Nat) : Int) != 1) = true := by rw [bne_iff_ne]; exact hne
      clear hne
      go_wp2_with fail
      refine (refMul_calls a k ha (by omega) _).mono ?_
      rintro e w' ⟨rfl, rfl⟩
      go_wp2_with fail
      refine ⟨⟨k + 1, by omega, by omega, by go_num⟩, by simp [intOf]; omega⟩
    · obtain rfl : k = g := by omega
      have hne' : (((gm a k : Nat) : Int) != 1) = false := by rw [HG.out]; rfl
      go_wp2_with fail
      refine (refMul_calls a k ha (by omega) _).mono ?_
      rintro e w' ⟨rfl, rfl⟩
      go_wp2_with fail
      go_ret
      exact ⟨rfl, rfl⟩

def invErr (a : Nat) : Int := if a = 0 then 18 else 0
def invVal (a : Nat) : Nat := if a = 0 then 0 else gi a

theorem inv_calls (a : Nat) (ha : a < 256) (w : World) :
    Calls Try.prog 11 #[.int .u8 a] w fun e w' => e = .returned (.tuple #[.int .u8 (invVal a : Nat), .int .i64 (invErr a)]) ∧ w = w' := by
  by_cases h0 : a = 0
  · subst h0
    go_enter Try.func11, Try.ntmps11
    go_wp2_with fail
    go_ret2
    exact ⟨rfl, rfl⟩
  · have E1 : Hid (invVal a = gi a) := Lib.hid (if_neg h0)
    have E2 : Hid (invErr a = 0) := Lib.hid (if_neg h0)
    have c : (((a : Nat) : Int) == 0) = false := by simp; omega
    clear h0
    go_enter Try.func11, Try.ntmps11
    go_wp2_with fail
    refine (inverse_calls a ha _).mono ?_
    rintro e w' ⟨rfl, rfl⟩
    go_wp2_with fail
    go_ret2
    rw [E1.out, E2.out]
    exact ⟨rfl, rfl⟩
theorem refInv_calls (a : Nat) (ha : a < 256) (w : World) :
    Calls Try.prog 12 #[.int .u8 a] w fun e w' => e = .returned (.tuple #[.int .u8 (invVal a : Nat), .int .i64 (invErr a)]) ∧ w = w' := by
  by_cases h0 : a = 0
  · subst h0
    go_enter Try.func12, Try.ntmps12
    go_wp2_with fail
    go_ret2
    exact ⟨rfl, rfl⟩
  · have E1 : Hid (invVal a = gi a) := Lib.hid (if_neg h0)
    have E2 : Hid (invErr a = 0) := Lib.hid (if_neg h0)
    have H0 := Lib.hid h0
    have c : (((a : Nat) : Int) == 0) = false := by simp; omega
    clear h0
    go_enter Try.func12, Try.ntmps12
    go_wp2_with fail
    refine (refInverse_calls a H0.out ha _).mono ?_
    rintro e w' ⟨rfl, rfl⟩
    go_wp2_with fail
    go_ret2
    rw [E1.out, E2.out]
    exact ⟨rfl, rfl⟩
end Go.Proofs.Ytmpmeeacdllomaa
