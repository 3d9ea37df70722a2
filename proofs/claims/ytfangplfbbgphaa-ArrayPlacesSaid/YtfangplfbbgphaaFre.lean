/- Contracts of layer 1: fractions in lowest terms, of the reference. -/
import Derived.Test.YtfangplfbbgphaaFrd
namespace Go.Proofs.Ytfangplfbbgphaa
open Go.ChangeShapes Go.WideShapes Go.ChangeAt Go.RowKit
set_option linter.unusedVariables false
set_option maxRecDepth 100000
attribute [local go_sem ↓] Go.wp_at_zero Go.wp_at_succ

/- a number of four digits to the base 2^32 -/
def bigN (a b c d : Nat) : Nat := a + 4294967296 * (b + 4294967296 * (c + 4294967296 * d))
abbrev Bv (a b c d : Nat) : Value := .agg #[.int .u64 a, .int .u64 b, .int .u64 c, .int .u64 d]
theorem blk3c (w : World) (x y z : Obj) : (((w.alloc x).alloc y).alloc z).heap[w.heap.size + 1 + 1]? = some z := blk_at z (by simp)
theorem blk3b (w : World) (x y z : Obj) : (((w.alloc x).alloc y).alloc z).heap[w.heap.size + 1]? = some y := blk_alloc (blk_at y (by simp)) z
theorem big_le {a b c d : Nat} (ha : a < 4294967296) (hb : b < 4294967296) : (decide (c = 0) && (decide (d = 0) && decide (b * 4294967296 + a ≤ 1000000000000000000))) = decide (bigN a b c d ≤ 1000000000000000000) := by
  rw [Bool.eq_iff_iff, Bool.and_eq_true, Bool.and_eq_true, decide_eq_true_eq, decide_eq_true_eq, decide_eq_true_eq, decide_eq_true_eq]
  unfold bigN
  omega
theorem big_mod {a b c d : Nat} (ha : a < 4294967296) (hb : b < 4294967296) (h : bigN a b c d ≤ 1000000000000000000) : (b * 4294967296 + a) % 9223372036854775808 = bigN a b c d := by
  unfold bigN at *; omega
set_option maxHeartbeats 2000000 in
theorem lowest_calls (neg : Bool) (a b c d a' b' c' d' : Nat) (w : World) (ha : a < 4294967296) (hb : b < 4294967296) (ha' : a' < 4294967296) (hb' : b' < 4294967296) :
    Calls Try.prog 68 #[.bool neg, Bv a b c d, Bv a' b' c' d'] w fun e w' => e = .returned (Rv (lowF neg (bigN a b c d) (bigN a' b' c' d'))) ∧ Below w.heap.size w w' := by
  have C1 := Lib.hid (fun W => small_calls a b c d W ha hb)
  have C2 := Lib.hid (fun W => small_calls a' b' c' d' W ha' hb')
  rw [big_le ha hb] at C1
  rw [big_le ha' hb'] at C2
  have M1 := Lib.hid (fun h => big_mod (c := c) (d := d) ha hb h)
  have M2 := Lib.hid (fun h => big_mod (c := c') (d := d') ha' hb' h)
  have F : Hid (lowF neg (bigN a b c d) (bigN a' b' c' d') = if 1000000000000000000 < bigN a b c d ∨ 1000000000000000000 < bigN a' b' c' d' then (0, 0, 16) else (if neg then -((bigN a b c d : Nat) : Int) else ((bigN a b c d : Nat) : Int), ((bigN a' b' c' d' : Nat) : Int), 0)) := Lib.hid rfl
  generalize lowF neg (bigN a b c d) (bigN a' b' c' d') = v at *
  generalize bigN a b c d = x at *
  generalize bigN a' b' c' d' = y at *
  have hm1 : (b * 4294967296 + a) % 9223372036854775808 < 9223372036854775808 := Nat.mod_lt _ (by omega)
  have hm2 : (b' * 4294967296 + a') % 9223372036854775808 < 9223372036854775808 := Nat.mod_lt _ (by omega)
  obtain ⟨m, em⟩ : ∃ m, (b * 4294967296 + a) % 9223372036854775808 = m := ⟨_, rfl⟩
  obtain ⟨m', em'⟩ : ∃ m, (b' * 4294967296 + a') % 9223372036854775808 = m := ⟨_, rfl⟩
  rw [em] at C1 M1 hm1
  rw [em'] at C2 M2 hm2
  clear em em'
  have cases4 : 1000000000000000000 < x ∨ (x ≤ 1000000000000000000 ∧ 1000000000000000000 < y) ∨ (x ≤ 1000000000000000000 ∧ y ≤ 1000000000000000000) := by omega
  rcases cases4 with h | ⟨h, h'⟩ | ⟨h, h'⟩
  · have q1 : decide (x ≤ 1000000000000000000) = false := by simp; omega
    have F2 : Hid (v = (0, 0, 16)) := Lib.hid (by rw [F.out, if_pos (.inl h)])
    rw [q1] at C1
    clear q1 M1 M2 F
    go_enter Try.func68, Try.ntmps68
    go_wp2_with fail
    refine (C1.out _).mono ?_
    rintro e w1 ⟨rfl, hb1⟩
    have X1 := Lib.hid (blk_next hb1 (blk3b w _ _ _))
    have Z1 : Hid (w1.heap[w.heap.size + 1 + 1]? = some (.cells #[.int .i64 0, .int .i64 0] 34)) := Lib.hid (blk_next hb1 (blk3c w _ _ _))
    have N1 : Hid (Below w.heap.size w w1) := Lib.hid (Bgo (Bal (Bal (Bal (Below.refl _ _) _) _) _) hb1)
    have x0 : w1.cell? ⟨w.heap.size + 1, 0, none⟩ = some (.int .u64 a') := blk_cell X1.out 0 _ rfl
    have x1 : w1.cell? ⟨w.heap.size + 1, 1, none⟩ = some (.int .u64 b') := blk_cell X1.out 1 _ rfl
    have x2 : w1.cell? ⟨w.heap.size + 1, 2, none⟩ = some (.int .u64 c') := blk_cell X1.out 2 _ rfl
    have x3 : w1.cell? ⟨w.heap.size + 1, 3, none⟩ = some (.int .u64 d') := blk_cell X1.out 3 _ rfl
    clear hb1
    go_wp2_with fail
    clear x0 x1 x2 x3
    refine (C2.out _).mono ?_
    rintro e w2 ⟨rfl, hb2⟩
    have Z2 := Lib.hid (blk_next hb2 Z1.out)
    have N2 : Hid (Below w.heap.size w w2) := Lib.hid (Bgo N1.out hb2)
    clear hb2 Z1 N1 X1
    have z0 : w2.cell? ⟨w.heap.size + 1 + 1, 0, none⟩ = some (.int .i64 0) := blk_cell Z2.out 0 _ rfl
    have z1 : w2.cell? ⟨w.heap.size + 1 + 1, 1, none⟩ = some (.int .i64 0) := blk_cell Z2.out 1 _ rfl
    have f0 : w2.frozen? ⟨w.heap.size + 1 + 1, 0, none⟩ = false := blk_frozen Z2.out 0
    have f1 : w2.frozen? ⟨w.heap.size + 1 + 1, 1, none⟩ = false := blk_frozen Z2.out 1
    go_wp2_with fail
    have e1 : ((w2.setCell ⟨w.heap.size + 1 + 1, 0, none⟩ (.int .i64 0)).setCell ⟨w.heap.size + 1 + 1, 1, none⟩ (.int .i64 0)).cell? ⟨w.heap.size + 1 + 1, 0, none⟩ = some (.int .i64 0) := blk_cell (blk_set (blk_set Z2.out 0 _) 1 _) 0 _ rfl
    have e2 : ((w2.setCell ⟨w.heap.size + 1 + 1, 0, none⟩ (.int .i64 0)).setCell ⟨w.heap.size + 1 + 1, 1, none⟩ (.int .i64 0)).cell? ⟨w.heap.size + 1 + 1, 1, none⟩ = some (.int .i64 0) := blk_cell (blk_set (blk_set Z2.out 0 _) 1 _) 1 _ rfl
    refine bodyPost_ret (v := .tuple #[Fv 0 0, .int .i64 16]) (by simp [results, Try.results68, go_sem, e1, e2]) rfl ⟨by rw [F2.out], Bset1 (Bset1 N2.out (by omega) _ _) (by omega) _ _⟩
  · have q1 : decide (x ≤ 1000000000000000000) = true := by simp; omega
    have q2 : decide (y ≤ 1000000000000000000) = false := by simp; omega
    have F2 : Hid (v = (0, 0, 16)) := Lib.hid (by rw [F.out, if_pos (.inr h')])
    rw [q1] at C1
    rw [q2] at C2
    clear q1 q2 M1 M2 F
    go_enter Try.func68, Try.ntmps68
    go_wp2_with fail
    refine (C1.out _).mono ?_
    rintro e w1 ⟨rfl, hb1⟩
    have X1 := Lib.hid (blk_next hb1 (blk3b w _ _ _))
    have Z1 : Hid (w1.heap[w.heap.size + 1 + 1]? = some (.cells #[.int .i64 0, .int .i64 0] 34)) := Lib.hid (blk_next hb1 (blk3c w _ _ _))
    have N1 : Hid (Below w.heap.size w w1) := Lib.hid (Bgo (Bal (Bal (Bal (Below.refl _ _) _) _) _) hb1)
    have x0 : w1.cell? ⟨w.heap.size + 1, 0, none⟩ = some (.int .u64 a') := blk_cell X1.out 0 _ rfl
    have x1 : w1.cell? ⟨w.heap.size + 1, 1, none⟩ = some (.int .u64 b') := blk_cell X1.out 1 _ rfl
    have x2 : w1.cell? ⟨w.heap.size + 1, 2, none⟩ = some (.int .u64 c') := blk_cell X1.out 2 _ rfl
    have x3 : w1.cell? ⟨w.heap.size + 1, 3, none⟩ = some (.int .u64 d') := blk_cell X1.out 3 _ rfl
    clear hb1
    go_wp2_with fail
    clear x0 x1 x2 x3
    refine (C2.out _).mono ?_
    rintro e w2 ⟨rfl, hb2⟩
    have Z2 := Lib.hid (blk_next hb2 Z1.out)
    have N2 : Hid (Below w.heap.size w w2) := Lib.hid (Bgo N1.out hb2)
    clear hb2 Z1 N1 X1
    have z0 : w2.cell? ⟨w.heap.size + 1 + 1, 0, none⟩ = some (.int .i64 0) := blk_cell Z2.out 0 _ rfl
    have z1 : w2.cell? ⟨w.heap.size + 1 + 1, 1, none⟩ = some (.int .i64 0) := blk_cell Z2.out 1 _ rfl
    have f0 : w2.frozen? ⟨w.heap.size + 1 + 1, 0, none⟩ = false := blk_frozen Z2.out 0
    have f1 : w2.frozen? ⟨w.heap.size + 1 + 1, 1, none⟩ = false := blk_frozen Z2.out 1
    go_wp2_with fail
    have e1 : ((w2.setCell ⟨w.heap.size + 1 + 1, 0, none⟩ (.int .i64 0)).setCell ⟨w.heap.size + 1 + 1, 1, none⟩ (.int .i64 0)).cell? ⟨w.heap.size + 1 + 1, 0, none⟩ = some (.int .i64 0) := blk_cell (blk_set (blk_set Z2.out 0 _) 1 _) 0 _ rfl
    have e2 : ((w2.setCell ⟨w.heap.size + 1 + 1, 0, none⟩ (.int .i64 0)).setCell ⟨w.heap.size + 1 + 1, 1, none⟩ (.int .i64 0)).cell? ⟨w.heap.size + 1 + 1, 1, none⟩ = some (.int .i64 0) := blk_cell (blk_set (blk_set Z2.out 0 _) 1 _) 1 _ rfl
    refine bodyPost_ret (v := .tuple #[Fv 0 0, .int .i64 16]) (by simp [results, Try.results68, go_sem, e1, e2]) rfl ⟨by rw [F2.out], Bset1 (Bset1 N2.out (by omega) _ _) (by omega) _ _⟩
  · have q1 : decide (x ≤ 1000000000000000000) = true := by simp; omega
    have q2 : decide (y ≤ 1000000000000000000) = true := by simp; omega
    have F2 : Hid (v = (if neg then -(x : Int) else (x : Int), (y : Int), 0)) := Lib.hid (by rw [F.out, if_neg (by omega)])
    rw [q1, M1.out h] at C1
    rw [q2, M2.out h'] at C2
    clear q1 q2 M1 M2 F hm1 hm2
    cases neg
    case false =>
      go_enter Try.func68, Try.ntmps68
      go_wp2_with fail
      refine (C1.out _).mono ?_
      rintro e w1 ⟨rfl, hb1⟩
      have X1 := Lib.hid (blk_next hb1 (blk3b w _ _ _))
      have Z1 : Hid (w1.heap[w.heap.size + 1 + 1]? = some (.cells #[.int .i64 0, .int .i64 0] 34)) := Lib.hid (blk_next hb1 (blk3c w _ _ _))
      have N1 : Hid (Below w.heap.size w w1) := Lib.hid (Bgo (Bal (Bal (Bal (Below.refl _ _) _) _) _) hb1)
      have x0 : w1.cell? ⟨w.heap.size + 1, 0, none⟩ = some (.int .u64 a') := blk_cell X1.out 0 _ rfl
      have x1 : w1.cell? ⟨w.heap.size + 1, 1, none⟩ = some (.int .u64 b') := blk_cell X1.out 1 _ rfl
      have x2 : w1.cell? ⟨w.heap.size + 1, 2, none⟩ = some (.int .u64 c') := blk_cell X1.out 2 _ rfl
      have x3 : w1.cell? ⟨w.heap.size + 1, 3, none⟩ = some (.int .u64 d') := blk_cell X1.out 3 _ rfl
      clear hb1
      go_wp2_with fail
      clear x0 x1 x2 x3
      refine (C2.out _).mono ?_
      rintro e w2 ⟨rfl, hb2⟩
      have Z2 := Lib.hid (blk_next hb2 Z1.out)
      have N2 : Hid (Below w.heap.size w w2) := Lib.hid (Bgo N1.out hb2)
      clear hb2 Z1 N1 X1
      have z0 : w2.cell? ⟨w.heap.size + 1 + 1, 0, none⟩ = some (.int .i64 0) := blk_cell Z2.out 0 _ rfl
      have z1 : w2.cell? ⟨w.heap.size + 1 + 1, 1, none⟩ = some (.int .i64 0) := blk_cell Z2.out 1 _ rfl
      have f0 : w2.frozen? ⟨w.heap.size + 1 + 1, 0, none⟩ = false := blk_frozen Z2.out 0
      have f1 : w2.frozen? ⟨w.heap.size + 1 + 1, 1, none⟩ = false := blk_frozen Z2.out 1
      go_wp2_with fail
      have e1 : ((w2.setCell ⟨w.heap.size + 1 + 1, 0, none⟩ (.int .i64 (x : Int))).setCell ⟨w.heap.size + 1 + 1, 1, none⟩ (.int .i64 (y : Int))).cell? ⟨w.heap.size + 1 + 1, 0, none⟩ = some (.int .i64 (x : Int)) := blk_cell (blk_set (blk_set Z2.out 0 _) 1 _) 0 _ rfl
      have e2 : ((w2.setCell ⟨w.heap.size + 1 + 1, 0, none⟩ (.int .i64 (x : Int))).setCell ⟨w.heap.size + 1 + 1, 1, none⟩ (.int .i64 (y : Int))).cell? ⟨w.heap.size + 1 + 1, 1, none⟩ = some (.int .i64 (y : Int)) := blk_cell (blk_set (blk_set Z2.out 0 _) 1 _) 1 _ rfl
      refine bodyPost_ret (v := .tuple #[Fv (x : Int) (y : Int), .int .i64 0]) (by simp [results, Try.results68, go_sem, e1, e2]) rfl ⟨by rw [F2.out]; rfl, Bset1 (Bset1 N2.out (by omega) _ _) (by omega) _ _⟩
    case true =>
      go_enter Try.func68, Try.ntmps68
      go_wp2_with fail
      refine (C1.out _).mono ?_
      rintro e w1 ⟨rfl, hb1⟩
      have X1 := Lib.hid (blk_next hb1 (blk3b w _ _ _))
      have Z1 : Hid (w1.heap[w.heap.size + 1 + 1]? = some (.cells #[.int .i64 0, .int .i64 0] 34)) := Lib.hid (blk_next hb1 (blk3c w _ _ _))
      have N1 : Hid (Below w.heap.size w w1) := Lib.hid (Bgo (Bal (Bal (Bal (Below.refl _ _) _) _) _) hb1)
      have x0 : w1.cell? ⟨w.heap.size + 1, 0, none⟩ = some (.int .u64 a') := blk_cell X1.out 0 _ rfl
      have x1 : w1.cell? ⟨w.heap.size + 1, 1, none⟩ = some (.int .u64 b') := blk_cell X1.out 1 _ rfl
      have x2 : w1.cell? ⟨w.heap.size + 1, 2, none⟩ = some (.int .u64 c') := blk_cell X1.out 2 _ rfl
      have x3 : w1.cell? ⟨w.heap.size + 1, 3, none⟩ = some (.int .u64 d') := blk_cell X1.out 3 _ rfl
      clear hb1
      go_wp2_with fail
      clear x0 x1 x2 x3
      refine (C2.out _).mono ?_
      rintro e w2 ⟨rfl, hb2⟩
      have Z2 := Lib.hid (blk_next hb2 Z1.out)
      have N2 : Hid (Below w.heap.size w w2) := Lib.hid (Bgo N1.out hb2)
      clear hb2 Z1 N1 X1
      have z0 : w2.cell? ⟨w.heap.size + 1 + 1, 0, none⟩ = some (.int .i64 0) := blk_cell Z2.out 0 _ rfl
      have z1 : w2.cell? ⟨w.heap.size + 1 + 1, 1, none⟩ = some (.int .i64 0) := blk_cell Z2.out 1 _ rfl
      have f0 : w2.frozen? ⟨w.heap.size + 1 + 1, 0, none⟩ = false := blk_frozen Z2.out 0
      have f1 : w2.frozen? ⟨w.heap.size + 1 + 1, 1, none⟩ = false := blk_frozen Z2.out 1
      go_wp2_with fail
      have e1 : ((w2.setCell ⟨w.heap.size + 1 + 1, 0, none⟩ (.int .i64 (-(x : Int)))).setCell ⟨w.heap.size + 1 + 1, 1, none⟩ (.int .i64 (y : Int))).cell? ⟨w.heap.size + 1 + 1, 0, none⟩ = some (.int .i64 (-(x : Int))) := blk_cell (blk_set (blk_set Z2.out 0 _) 1 _) 0 _ rfl
      have e2 : ((w2.setCell ⟨w.heap.size + 1 + 1, 0, none⟩ (.int .i64 (-(x : Int)))).setCell ⟨w.heap.size + 1 + 1, 1, none⟩ (.int .i64 (y : Int))).cell? ⟨w.heap.size + 1 + 1, 1, none⟩ = some (.int .i64 (y : Int)) := blk_cell (blk_set (blk_set Z2.out 0 _) 1 _) 1 _ rfl
      refine bodyPost_ret (v := .tuple #[Fv (-(x : Int)) (y : Int), .int .i64 0]) (by simp [results, Try.results68, go_sem, e1, e2]) rfl ⟨by rw [F2.out]; rfl, Bset1 (Bset1 N2.out (by omega) _ _) (by omega) _ _⟩
end Go.Proofs.Ytfangplfbbgphaa
