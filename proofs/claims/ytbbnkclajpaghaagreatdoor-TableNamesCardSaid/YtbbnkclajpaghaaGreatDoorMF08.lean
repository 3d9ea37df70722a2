/- Several texts in one. -/
import Derived.Test.YtbbnkclajpaghaaGreatDoorMF05
import Derived.Test.YtbbnkclajpaghaaGreatDoorMF07
set_option maxHeartbeats 8000000
set_option maxRecDepth 100000
set_option linter.unusedVariables false
set_option linter.unusedSimpArgs false
namespace Go.Proofs.YtbbnkclajpaghaaGreatDoor
section
open Go.ChangeShapes Go.WideShapes Go.ChangeAt Go.RowKit
attribute [local go_sem ↓] Go.wp_at_zero Go.wp_at_succ
def MKP (i j n1 d1 n2 d2 n : Int) (e : Ending) : Prop := ∃ x1 x2 x3 x4 x5 x6 er, e = .returned (.tuple #[.agg #[.int .i64 x1, .int .i64 x2, .int .i64 x3, .int .i64 x4, .int .i64 x5, .int .i64 x6], .int .i64 er]) ∧
 ((er ≠ 0 ∧ ∀ t c, mkO t c i j n1 d1 n2 d2 n = none) ∨ (er = 0 ∧ ∀ t c, mkO t c i j n1 d1 n2 d2 n = some ⟨t, c, x1, x2, x3, x4, x5, x6⟩))
theorem MKP.no {i j n1 d1 n2 d2 n er : Int} (he : er ≠ 0) (h : ∀ t c, mkO t c i j n1 d1 n2 d2 n = none) : MKP i j n1 d1 n2 d2 n (.returned (.tuple #[.agg #[.int .i64 0, .int .i64 0, .int .i64 0, .int .i64 0, .int .i64 0, .int .i64 0], .int .i64 er])) := ⟨_, _, _, _, _, _, _, rfl, .inl ⟨he, h⟩⟩
theorem MKP.yes {i j n1 d1 n2 d2 n x1 x2 x3 x4 x5 x6 : Int} (h : ∀ t c, mkO t c i j n1 d1 n2 d2 n = some ⟨t, c, x1, x2, x3, x4, x5, x6⟩) : MKP i j n1 d1 n2 d2 n (.returned (.tuple #[.agg #[.int .i64 x1, .int .i64 x2, .int .i64 x3, .int .i64 x4, .int .i64 x5, .int .i64 x6], .int .i64 0])) := ⟨_, _, _, _, _, _, _, rfl, .inr ⟨rfl, h⟩⟩
theorem wmake_calls (i j n : Int) {n1 d1 n2 d2 : Int} (v1 : VF n1 d1) (v2 : VF n2 d2) (w : World) : Calls Tryz.prog 65 #[.int .i64 i, .int .i64 j, Fv n1 d1, Fv n2 d2, .int .i64 n] w fun e w' => MKP i j n1 d1 n2 d2 n e ∧ Below w.heap.size w w' := by
 have NN := zh (Below.refl w.heap.size w)
 have K1 := zh (fun W => check_calls n1 d1 W)
 have K2 := zh (fun W => check_calls n2 d2 W)
 rw [v1.err] at K1
 rw [v2.err] at K2
 have VO := zh (fun W => valueOf_calls v1 v2 W)
 have WC : Hid (∀ W : World, Calls Tryz.prog 91 #[.int .i64 n] W fun e w' => e = .returned (.bool (decide (0 ≤ n) && decide (n ≤ 1000000))) ∧ Below W.heap.size W w') := zh (fun W => (isWeight_calls n W).mono fun e w' ⟨h, m, hw⟩ => ⟨h, by rw [hw]; exact below_drewN (Below.refl _ _) m⟩)
 have MN := zh (fun (h : i < 0 ∨ 8 ≤ i ∨ j < 0 ∨ 8 ≤ j ∨ i = j ∨ n < 0 ∨ 1000000 < n) t c => show mkO t c i j n1 d1 n2 d2 n = none by unfold mkO; rw [if_pos h])
 have M0 := zh (fun (h : ¬ (i < 0 ∨ 8 ≤ i ∨ j < 0 ∨ 8 ≤ j ∨ i = j ∨ n < 0 ∨ 1000000 < n)) (hv : valO n1 d1 n2 d2 = none) t c => show mkO t c i j n1 d1 n2 d2 n = none by unfold mkO; rw [if_neg h, hv])
 have M1 := zh (fun (h : ¬ (i < 0 ∨ 8 ≤ i ∨ j < 0 ∨ 8 ≤ j ∨ i = j ∨ n < 0 ∨ 1000000 < n)) a b D (hv : valO n1 d1 n2 d2 = some (a, b, D)) t c => show mkO t c i j n1 d1 n2 d2 n = if j < i then some ⟨t, c, j, i, a, -b, D, n⟩ else some ⟨t, c, i, j, a, b, D, n⟩ by unfold mkO; rw [if_neg h, hv])
 clear v1 v2
 by_cases h0 : i < 0
 ·have R0 := zh (MN.out (by omega))
  clear MN M0 M1 VO K1 K2
  have q0 : decide (i < 0) = true := decide_eq_true (by omega)
  go_enter Tryz.func65, Tryz.ntmps65
  go_wp2_with fail
  have RE : Hid ((((w.alloc (.cells #[.int .i64 n1, .int .i64 d1] 83)).alloc (.cells #[.int .i64 n2, .int .i64 d2] 83)).alloc (.cells #[.int .i64 0, .int .i64 0, .int .i64 0, .int .i64 0, .int .i64 0, .int .i64 0] 42)).heap[w.heap.size]? = some (.cells #[.int .i64 n1, .int .i64 d1] 83)) := zh (blk_alloc (blk_alloc (blk_new w _) _) _)
  have IM : Hid ((((w.alloc (.cells #[.int .i64 n1, .int .i64 d1] 83)).alloc (.cells #[.int .i64 n2, .int .i64 d2] 83)).alloc (.cells #[.int .i64 0, .int .i64 0, .int .i64 0, .int .i64 0, .int .i64 0, .int .i64 0] 42)).heap[w.heap.size + 1]? = some (.cells #[.int .i64 n2, .int .i64 d2] 83)) := zh (blk_alloc (blk_at _ (by simp)) _)
  have Z : Hid ((((w.alloc (.cells #[.int .i64 n1, .int .i64 d1] 83)).alloc (.cells #[.int .i64 n2, .int .i64 d2] 83)).alloc (.cells #[.int .i64 0, .int .i64 0, .int .i64 0, .int .i64 0, .int .i64 0, .int .i64 0] 42)).heap[w.heap.size + 1 + 1]? = some (.cells #[.int .i64 0, .int .i64 0, .int .i64 0, .int .i64 0, .int .i64 0, .int .i64 0] 42)) := zh (blk_at _ (by simp))
  replace NN : Hid (Below w.heap.size w (((w.alloc (.cells #[.int .i64 n1, .int .i64 d1] 83)).alloc (.cells #[.int .i64 n2, .int .i64 d2] 83)).alloc (.cells #[.int .i64 0, .int .i64 0, .int .i64 0, .int .i64 0, .int .i64 0, .int .i64 0] 42))) := zh (Bal (Bal (Bal NN.out _) _) _)
  generalize (((w.alloc (.cells #[.int .i64 n1, .int .i64 d1] 83)).alloc (.cells #[.int .i64 n2, .int .i64 d2] 83)).alloc (.cells #[.int .i64 0, .int .i64 0, .int .i64 0, .int .i64 0, .int .i64 0, .int .i64 0] 42)) = W1 at *
  skip
  obtain ⟨c_Z_0, f_Z_0, c_Z_1, f_Z_1, c_Z_2, f_Z_2, c_Z_3, f_Z_3, c_Z_4, f_Z_4, c_Z_5, f_Z_5, l_Z⟩ := zfl6 Z
  go_wp2_with fail
  clear c_Z_0 f_Z_0 c_Z_1 f_Z_1 c_Z_2 f_Z_2 c_Z_3 f_Z_3 c_Z_4 f_Z_4 c_Z_5 f_Z_5 l_Z
  obtain ⟨c_Z_0, c_Z_1, c_Z_2, c_Z_3, c_Z_4, c_Z_5, l_Z⟩ := zcl6 Z
  exact bodyPost_ret (v := .tuple #[.agg #[.int .i64 0, .int .i64 0, .int .i64 0, .int .i64 0, .int .i64 0, .int .i64 0], .int .i64 2]) (by simp [results, Tryz.results65, go_sem, c_Z_0, c_Z_1, c_Z_2, c_Z_3, c_Z_4, c_Z_5]) rfl ⟨MKP.no (by decide) R0.out, NN.out⟩
 ·skip
  by_cases h1 : 8 ≤ i
  ·have R0 := zh (MN.out (by omega))
   clear MN M0 M1 VO K1 K2
   have q0 : decide (i < 0) = false := decide_eq_false (by omega)
   have q1 : decide (8 ≤ i) = true := decide_eq_true (by omega)
   go_enter Tryz.func65, Tryz.ntmps65
   go_wp2_with fail
   have RE : Hid ((((w.alloc (.cells #[.int .i64 n1, .int .i64 d1] 83)).alloc (.cells #[.int .i64 n2, .int .i64 d2] 83)).alloc (.cells #[.int .i64 0, .int .i64 0, .int .i64 0, .int .i64 0, .int .i64 0, .int .i64 0] 42)).heap[w.heap.size]? = some (.cells #[.int .i64 n1, .int .i64 d1] 83)) := zh (blk_alloc (blk_alloc (blk_new w _) _) _)
   have IM : Hid ((((w.alloc (.cells #[.int .i64 n1, .int .i64 d1] 83)).alloc (.cells #[.int .i64 n2, .int .i64 d2] 83)).alloc (.cells #[.int .i64 0, .int .i64 0, .int .i64 0, .int .i64 0, .int .i64 0, .int .i64 0] 42)).heap[w.heap.size + 1]? = some (.cells #[.int .i64 n2, .int .i64 d2] 83)) := zh (blk_alloc (blk_at _ (by simp)) _)
   have Z : Hid ((((w.alloc (.cells #[.int .i64 n1, .int .i64 d1] 83)).alloc (.cells #[.int .i64 n2, .int .i64 d2] 83)).alloc (.cells #[.int .i64 0, .int .i64 0, .int .i64 0, .int .i64 0, .int .i64 0, .int .i64 0] 42)).heap[w.heap.size + 1 + 1]? = some (.cells #[.int .i64 0, .int .i64 0, .int .i64 0, .int .i64 0, .int .i64 0, .int .i64 0] 42)) := zh (blk_at _ (by simp))
   replace NN : Hid (Below w.heap.size w (((w.alloc (.cells #[.int .i64 n1, .int .i64 d1] 83)).alloc (.cells #[.int .i64 n2, .int .i64 d2] 83)).alloc (.cells #[.int .i64 0, .int .i64 0, .int .i64 0, .int .i64 0, .int .i64 0, .int .i64 0] 42))) := zh (Bal (Bal (Bal NN.out _) _) _)
   generalize (((w.alloc (.cells #[.int .i64 n1, .int .i64 d1] 83)).alloc (.cells #[.int .i64 n2, .int .i64 d2] 83)).alloc (.cells #[.int .i64 0, .int .i64 0, .int .i64 0, .int .i64 0, .int .i64 0, .int .i64 0] 42)) = W2 at *
   skip
   obtain ⟨c_Z_0, f_Z_0, c_Z_1, f_Z_1, c_Z_2, f_Z_2, c_Z_3, f_Z_3, c_Z_4, f_Z_4, c_Z_5, f_Z_5, l_Z⟩ := zfl6 Z
   go_wp2_with fail
   clear c_Z_0 f_Z_0 c_Z_1 f_Z_1 c_Z_2 f_Z_2 c_Z_3 f_Z_3 c_Z_4 f_Z_4 c_Z_5 f_Z_5 l_Z
   obtain ⟨c_Z_0, c_Z_1, c_Z_2, c_Z_3, c_Z_4, c_Z_5, l_Z⟩ := zcl6 Z
   exact bodyPost_ret (v := .tuple #[.agg #[.int .i64 0, .int .i64 0, .int .i64 0, .int .i64 0, .int .i64 0, .int .i64 0], .int .i64 2]) (by simp [results, Tryz.results65, go_sem, c_Z_0, c_Z_1, c_Z_2, c_Z_3, c_Z_4, c_Z_5]) rfl ⟨MKP.no (by decide) R0.out, NN.out⟩
  ·skip
   by_cases h2 : j < 0
   ·have R0 := zh (MN.out (by omega))
    clear MN M0 M1 VO K1 K2
    have q0 : decide (i < 0) = false := decide_eq_false (by omega)
    have q1 : decide (8 ≤ i) = false := decide_eq_false (by omega)
    have q2 : decide (j < 0) = true := decide_eq_true (by omega)
    go_enter Tryz.func65, Tryz.ntmps65
    go_wp2_with fail
    have RE : Hid ((((w.alloc (.cells #[.int .i64 n1, .int .i64 d1] 83)).alloc (.cells #[.int .i64 n2, .int .i64 d2] 83)).alloc (.cells #[.int .i64 0, .int .i64 0, .int .i64 0, .int .i64 0, .int .i64 0, .int .i64 0] 42)).heap[w.heap.size]? = some (.cells #[.int .i64 n1, .int .i64 d1] 83)) := zh (blk_alloc (blk_alloc (blk_new w _) _) _)
    have IM : Hid ((((w.alloc (.cells #[.int .i64 n1, .int .i64 d1] 83)).alloc (.cells #[.int .i64 n2, .int .i64 d2] 83)).alloc (.cells #[.int .i64 0, .int .i64 0, .int .i64 0, .int .i64 0, .int .i64 0, .int .i64 0] 42)).heap[w.heap.size + 1]? = some (.cells #[.int .i64 n2, .int .i64 d2] 83)) := zh (blk_alloc (blk_at _ (by simp)) _)
    have Z : Hid ((((w.alloc (.cells #[.int .i64 n1, .int .i64 d1] 83)).alloc (.cells #[.int .i64 n2, .int .i64 d2] 83)).alloc (.cells #[.int .i64 0, .int .i64 0, .int .i64 0, .int .i64 0, .int .i64 0, .int .i64 0] 42)).heap[w.heap.size + 1 + 1]? = some (.cells #[.int .i64 0, .int .i64 0, .int .i64 0, .int .i64 0, .int .i64 0, .int .i64 0] 42)) := zh (blk_at _ (by simp))
    replace NN : Hid (Below w.heap.size w (((w.alloc (.cells #[.int .i64 n1, .int .i64 d1] 83)).alloc (.cells #[.int .i64 n2, .int .i64 d2] 83)).alloc (.cells #[.int .i64 0, .int .i64 0, .int .i64 0, .int .i64 0, .int .i64 0, .int .i64 0] 42))) := zh (Bal (Bal (Bal NN.out _) _) _)
    generalize (((w.alloc (.cells #[.int .i64 n1, .int .i64 d1] 83)).alloc (.cells #[.int .i64 n2, .int .i64 d2] 83)).alloc (.cells #[.int .i64 0, .int .i64 0, .int .i64 0, .int .i64 0, .int .i64 0, .int .i64 0] 42)) = W3 at *
    skip
    obtain ⟨c_Z_0, f_Z_0, c_Z_1, f_Z_1, c_Z_2, f_Z_2, c_Z_3, f_Z_3, c_Z_4, f_Z_4, c_Z_5, f_Z_5, l_Z⟩ := zfl6 Z
    go_wp2_with fail
    clear c_Z_0 f_Z_0 c_Z_1 f_Z_1 c_Z_2 f_Z_2 c_Z_3 f_Z_3 c_Z_4 f_Z_4 c_Z_5 f_Z_5 l_Z
    obtain ⟨c_Z_0, c_Z_1, c_Z_2, c_Z_3, c_Z_4, c_Z_5, l_Z⟩ := zcl6 Z
    exact bodyPost_ret (v := .tuple #[.agg #[.int .i64 0, .int .i64 0, .int .i64 0, .int .i64 0, .int .i64 0, .int .i64 0], .int .i64 2]) (by simp [results, Tryz.results65, go_sem, c_Z_0, c_Z_1, c_Z_2, c_Z_3, c_Z_4, c_Z_5]) rfl ⟨MKP.no (by decide) R0.out, NN.out⟩
   ·skip
    by_cases h3 : 8 ≤ j
    ·have R0 := zh (MN.out (by omega))
     clear MN M0 M1 VO K1 K2
     have q0 : decide (i < 0) = false := decide_eq_false (by omega)
     have q1 : decide (8 ≤ i) = false := decide_eq_false (by omega)
     have q2 : decide (j < 0) = false := decide_eq_false (by omega)
     have q3 : decide (8 ≤ j) = true := decide_eq_true (by omega)
     go_enter Tryz.func65, Tryz.ntmps65
     go_wp2_with fail
     have RE : Hid ((((w.alloc (.cells #[.int .i64 n1, .int .i64 d1] 83)).alloc (.cells #[.int .i64 n2, .int .i64 d2] 83)).alloc (.cells #[.int .i64 0, .int .i64 0, .int .i64 0, .int .i64 0, .int .i64 0, .int .i64 0] 42)).heap[w.heap.size]? = some (.cells #[.int .i64 n1, .int .i64 d1] 83)) := zh (blk_alloc (blk_alloc (blk_new w _) _) _)
     have IM : Hid ((((w.alloc (.cells #[.int .i64 n1, .int .i64 d1] 83)).alloc (.cells #[.int .i64 n2, .int .i64 d2] 83)).alloc (.cells #[.int .i64 0, .int .i64 0, .int .i64 0, .int .i64 0, .int .i64 0, .int .i64 0] 42)).heap[w.heap.size + 1]? = some (.cells #[.int .i64 n2, .int .i64 d2] 83)) := zh (blk_alloc (blk_at _ (by simp)) _)
     have Z : Hid ((((w.alloc (.cells #[.int .i64 n1, .int .i64 d1] 83)).alloc (.cells #[.int .i64 n2, .int .i64 d2] 83)).alloc (.cells #[.int .i64 0, .int .i64 0, .int .i64 0, .int .i64 0, .int .i64 0, .int .i64 0] 42)).heap[w.heap.size + 1 + 1]? = some (.cells #[.int .i64 0, .int .i64 0, .int .i64 0, .int .i64 0, .int .i64 0, .int .i64 0] 42)) := zh (blk_at _ (by simp))
     replace NN : Hid (Below w.heap.size w (((w.alloc (.cells #[.int .i64 n1, .int .i64 d1] 83)).alloc (.cells #[.int .i64 n2, .int .i64 d2] 83)).alloc (.cells #[.int .i64 0, .int .i64 0, .int .i64 0, .int .i64 0, .int .i64 0, .int .i64 0] 42))) := zh (Bal (Bal (Bal NN.out _) _) _)
     generalize (((w.alloc (.cells #[.int .i64 n1, .int .i64 d1] 83)).alloc (.cells #[.int .i64 n2, .int .i64 d2] 83)).alloc (.cells #[.int .i64 0, .int .i64 0, .int .i64 0, .int .i64 0, .int .i64 0, .int .i64 0] 42)) = W4 at *
     skip
     obtain ⟨c_Z_0, f_Z_0, c_Z_1, f_Z_1, c_Z_2, f_Z_2, c_Z_3, f_Z_3, c_Z_4, f_Z_4, c_Z_5, f_Z_5, l_Z⟩ := zfl6 Z
     go_wp2_with fail
     clear c_Z_0 f_Z_0 c_Z_1 f_Z_1 c_Z_2 f_Z_2 c_Z_3 f_Z_3 c_Z_4 f_Z_4 c_Z_5 f_Z_5 l_Z
     obtain ⟨c_Z_0, c_Z_1, c_Z_2, c_Z_3, c_Z_4, c_Z_5, l_Z⟩ := zcl6 Z
     exact bodyPost_ret (v := .tuple #[.agg #[.int .i64 0, .int .i64 0, .int .i64 0, .int .i64 0, .int .i64 0, .int .i64 0], .int .i64 2]) (by simp [results, Tryz.results65, go_sem, c_Z_0, c_Z_1, c_Z_2, c_Z_3, c_Z_4, c_Z_5]) rfl ⟨MKP.no (by decide) R0.out, NN.out⟩
    ·skip
     by_cases h4 : i = j
     ·have R0 := zh (MN.out (by omega))
      clear MN M0 M1 VO K1 K2
      have q0 : decide (i < 0) = false := decide_eq_false (by omega)
      have q1 : decide (8 ≤ i) = false := decide_eq_false (by omega)
      have q2 : decide (j < 0) = false := decide_eq_false (by omega)
      have q3 : decide (8 ≤ j) = false := decide_eq_false (by omega)
      have q4 : (i == j) = true := by rw [h4]; exact beq_self_eq_true _
      clear h4
      go_enter Tryz.func65, Tryz.ntmps65
      go_wp2_with fail
      have RE : Hid ((((w.alloc (.cells #[.int .i64 n1, .int .i64 d1] 83)).alloc (.cells #[.int .i64 n2, .int .i64 d2] 83)).alloc (.cells #[.int .i64 0, .int .i64 0, .int .i64 0, .int .i64 0, .int .i64 0, .int .i64 0] 42)).heap[w.heap.size]? = some (.cells #[.int .i64 n1, .int .i64 d1] 83)) := zh (blk_alloc (blk_alloc (blk_new w _) _) _)
      have IM : Hid ((((w.alloc (.cells #[.int .i64 n1, .int .i64 d1] 83)).alloc (.cells #[.int .i64 n2, .int .i64 d2] 83)).alloc (.cells #[.int .i64 0, .int .i64 0, .int .i64 0, .int .i64 0, .int .i64 0, .int .i64 0] 42)).heap[w.heap.size + 1]? = some (.cells #[.int .i64 n2, .int .i64 d2] 83)) := zh (blk_alloc (blk_at _ (by simp)) _)
      have Z : Hid ((((w.alloc (.cells #[.int .i64 n1, .int .i64 d1] 83)).alloc (.cells #[.int .i64 n2, .int .i64 d2] 83)).alloc (.cells #[.int .i64 0, .int .i64 0, .int .i64 0, .int .i64 0, .int .i64 0, .int .i64 0] 42)).heap[w.heap.size + 1 + 1]? = some (.cells #[.int .i64 0, .int .i64 0, .int .i64 0, .int .i64 0, .int .i64 0, .int .i64 0] 42)) := zh (blk_at _ (by simp))
      replace NN : Hid (Below w.heap.size w (((w.alloc (.cells #[.int .i64 n1, .int .i64 d1] 83)).alloc (.cells #[.int .i64 n2, .int .i64 d2] 83)).alloc (.cells #[.int .i64 0, .int .i64 0, .int .i64 0, .int .i64 0, .int .i64 0, .int .i64 0] 42))) := zh (Bal (Bal (Bal NN.out _) _) _)
      generalize (((w.alloc (.cells #[.int .i64 n1, .int .i64 d1] 83)).alloc (.cells #[.int .i64 n2, .int .i64 d2] 83)).alloc (.cells #[.int .i64 0, .int .i64 0, .int .i64 0, .int .i64 0, .int .i64 0, .int .i64 0] 42)) = W5 at *
      skip
      obtain ⟨c_Z_0, f_Z_0, c_Z_1, f_Z_1, c_Z_2, f_Z_2, c_Z_3, f_Z_3, c_Z_4, f_Z_4, c_Z_5, f_Z_5, l_Z⟩ := zfl6 Z
      go_wp2_with fail
      clear c_Z_0 f_Z_0 c_Z_1 f_Z_1 c_Z_2 f_Z_2 c_Z_3 f_Z_3 c_Z_4 f_Z_4 c_Z_5 f_Z_5 l_Z
      obtain ⟨c_Z_0, c_Z_1, c_Z_2, c_Z_3, c_Z_4, c_Z_5, l_Z⟩ := zcl6 Z
      exact bodyPost_ret (v := .tuple #[.agg #[.int .i64 0, .int .i64 0, .int .i64 0, .int .i64 0, .int .i64 0, .int .i64 0], .int .i64 2]) (by simp [results, Tryz.results65, go_sem, c_Z_0, c_Z_1, c_Z_2, c_Z_3, c_Z_4, c_Z_5]) rfl ⟨MKP.no (by decide) R0.out, NN.out⟩
     ·skip
      have q0 : decide (i < 0) = false := decide_eq_false (by omega)
      have q1 : decide (8 ≤ i) = false := decide_eq_false (by omega)
      have q2 : decide (j < 0) = false := decide_eq_false (by omega)
      have q3 : decide (8 ≤ j) = false := decide_eq_false (by omega)
      have q4 : (i == j) = false := by rw [beq_eq_false_iff_ne]; exact h4
      by_cases h5 : n < 0 ∨ 1000000 < n
      ·have R0 := zh (MN.out (by omega))
       clear MN M0 M1 VO K1 K2
       have HW : (decide (0 ≤ n) && decide (n ≤ 1000000)) = false := by rw [Bool.and_eq_false_iff, decide_eq_false_iff_not, decide_eq_false_iff_not]; omega
       rw [HW] at WC
       clear HW
       go_enter Tryz.func65, Tryz.ntmps65
       go_wp2_with fail
       have RE : Hid ((((w.alloc (.cells #[.int .i64 n1, .int .i64 d1] 83)).alloc (.cells #[.int .i64 n2, .int .i64 d2] 83)).alloc (.cells #[.int .i64 0, .int .i64 0, .int .i64 0, .int .i64 0, .int .i64 0, .int .i64 0] 42)).heap[w.heap.size]? = some (.cells #[.int .i64 n1, .int .i64 d1] 83)) := zh (blk_alloc (blk_alloc (blk_new w _) _) _)
       have IM : Hid ((((w.alloc (.cells #[.int .i64 n1, .int .i64 d1] 83)).alloc (.cells #[.int .i64 n2, .int .i64 d2] 83)).alloc (.cells #[.int .i64 0, .int .i64 0, .int .i64 0, .int .i64 0, .int .i64 0, .int .i64 0] 42)).heap[w.heap.size + 1]? = some (.cells #[.int .i64 n2, .int .i64 d2] 83)) := zh (blk_alloc (blk_at _ (by simp)) _)
       have Z : Hid ((((w.alloc (.cells #[.int .i64 n1, .int .i64 d1] 83)).alloc (.cells #[.int .i64 n2, .int .i64 d2] 83)).alloc (.cells #[.int .i64 0, .int .i64 0, .int .i64 0, .int .i64 0, .int .i64 0, .int .i64 0] 42)).heap[w.heap.size + 1 + 1]? = some (.cells #[.int .i64 0, .int .i64 0, .int .i64 0, .int .i64 0, .int .i64 0, .int .i64 0] 42)) := zh (blk_at _ (by simp))
       replace NN : Hid (Below w.heap.size w (((w.alloc (.cells #[.int .i64 n1, .int .i64 d1] 83)).alloc (.cells #[.int .i64 n2, .int .i64 d2] 83)).alloc (.cells #[.int .i64 0, .int .i64 0, .int .i64 0, .int .i64 0, .int .i64 0, .int .i64 0] 42))) := zh (Bal (Bal (Bal NN.out _) _) _)
       generalize (((w.alloc (.cells #[.int .i64 n1, .int .i64 d1] 83)).alloc (.cells #[.int .i64 n2, .int .i64 d2] 83)).alloc (.cells #[.int .i64 0, .int .i64 0, .int .i64 0, .int .i64 0, .int .i64 0, .int .i64 0] 42)) = W6 at *
       skip
       go_wp2_with fail
       refine (WC.out _).mono ?_
       rintro e w7 ⟨rfl, hb⟩
       replace NN := zh (Bgo NN.out hb)
       replace RE := zn hb RE
       replace IM := zn hb IM
       replace Z := zn hb Z
       clear hb
       obtain ⟨c_Z_0, f_Z_0, c_Z_1, f_Z_1, c_Z_2, f_Z_2, c_Z_3, f_Z_3, c_Z_4, f_Z_4, c_Z_5, f_Z_5, l_Z⟩ := zfl6 Z
       go_wp2_with fail
       clear c_Z_0 f_Z_0 c_Z_1 f_Z_1 c_Z_2 f_Z_2 c_Z_3 f_Z_3 c_Z_4 f_Z_4 c_Z_5 f_Z_5 l_Z
       generalize hW : ((((((w7.setCell ⟨w.heap.size + 1 + 1, 0, none⟩ (.int .i64 0)).setCell ⟨w.heap.size + 1 + 1, 1, none⟩ (.int .i64 0)).setCell ⟨w.heap.size + 1 + 1, 2, none⟩ (.int .i64 0)).setCell ⟨w.heap.size + 1 + 1, 3, none⟩ (.int .i64 0)).setCell ⟨w.heap.size + 1 + 1, 4, none⟩ (.int .i64 0)).setCell ⟨w.heap.size + 1 + 1, 5, none⟩ (.int .i64 0)) = W8 at *
       replace RE : Hid (W8.heap[w.heap.size]? = some (.cells #[.int .i64 n1, .int .i64 d1] 83)) := zs hW (blk_set_other (blk_set_other (blk_set_other (blk_set_other (blk_set_other (blk_set_other (RE.out) (by omega) 0 (.int .i64 0)) (by omega) 1 (.int .i64 0)) (by omega) 2 (.int .i64 0)) (by omega) 3 (.int .i64 0)) (by omega) 4 (.int .i64 0)) (by omega) 5 (.int .i64 0))
       replace IM : Hid (W8.heap[w.heap.size + 1]? = some (.cells #[.int .i64 n2, .int .i64 d2] 83)) := zs hW (blk_set_other (blk_set_other (blk_set_other (blk_set_other (blk_set_other (blk_set_other (IM.out) (by omega) 0 (.int .i64 0)) (by omega) 1 (.int .i64 0)) (by omega) 2 (.int .i64 0)) (by omega) 3 (.int .i64 0)) (by omega) 4 (.int .i64 0)) (by omega) 5 (.int .i64 0))
       replace Z : Hid (W8.heap[w.heap.size + 1 + 1]? = some (.cells #[.int .i64 0, .int .i64 0, .int .i64 0, .int .i64 0, .int .i64 0, .int .i64 0] 42)) := zs hW (blk_set (blk_set (blk_set (blk_set (blk_set (blk_set (Z.out) 0 (.int .i64 0)) 1 (.int .i64 0)) 2 (.int .i64 0)) 3 (.int .i64 0)) 4 (.int .i64 0)) 5 (.int .i64 0))
       replace NN := zt hW (p := Below _ _) (Bset1 (Bset1 (Bset1 (Bset1 (Bset1 (Bset1 (NN.out) (by omega) 0 (.int .i64 0)) (by omega) 1 (.int .i64 0)) (by omega) 2 (.int .i64 0)) (by omega) 3 (.int .i64 0)) (by omega) 4 (.int .i64 0)) (by omega) 5 (.int .i64 0))
       clear hW
       obtain ⟨c_Z_0, c_Z_1, c_Z_2, c_Z_3, c_Z_4, c_Z_5, l_Z⟩ := zcl6 Z
       exact bodyPost_ret (v := .tuple #[.agg #[.int .i64 0, .int .i64 0, .int .i64 0, .int .i64 0, .int .i64 0, .int .i64 0], .int .i64 2]) (by simp [results, Tryz.results65, go_sem, c_Z_0, c_Z_1, c_Z_2, c_Z_3, c_Z_4, c_Z_5]) rfl ⟨MKP.no (by decide) R0.out, NN.out⟩
      have HW : (decide (0 ≤ n) && decide (n ≤ 1000000)) = true := by rw [Bool.and_eq_true, decide_eq_true_eq, decide_eq_true_eq]; omega
      rw [HW] at WC
      clear HW MN
      replace M0 := zh (M0.out (by omega))
      replace M1 := zh (M1.out (by omega))
      go_enter Tryz.func65, Tryz.ntmps65
      go_wp2_with fail
      have RE : Hid ((((w.alloc (.cells #[.int .i64 n1, .int .i64 d1] 83)).alloc (.cells #[.int .i64 n2, .int .i64 d2] 83)).alloc (.cells #[.int .i64 0, .int .i64 0, .int .i64 0, .int .i64 0, .int .i64 0, .int .i64 0] 42)).heap[w.heap.size]? = some (.cells #[.int .i64 n1, .int .i64 d1] 83)) := zh (blk_alloc (blk_alloc (blk_new w _) _) _)
      have IM : Hid ((((w.alloc (.cells #[.int .i64 n1, .int .i64 d1] 83)).alloc (.cells #[.int .i64 n2, .int .i64 d2] 83)).alloc (.cells #[.int .i64 0, .int .i64 0, .int .i64 0, .int .i64 0, .int .i64 0, .int .i64 0] 42)).heap[w.heap.size + 1]? = some (.cells #[.int .i64 n2, .int .i64 d2] 83)) := zh (blk_alloc (blk_at _ (by simp)) _)
      have Z : Hid ((((w.alloc (.cells #[.int .i64 n1, .int .i64 d1] 83)).alloc (.cells #[.int .i64 n2, .int .i64 d2] 83)).alloc (.cells #[.int .i64 0, .int .i64 0, .int .i64 0, .int .i64 0, .int .i64 0, .int .i64 0] 42)).heap[w.heap.size + 1 + 1]? = some (.cells #[.int .i64 0, .int .i64 0, .int .i64 0, .int .i64 0, .int .i64 0, .int .i64 0] 42)) := zh (blk_at _ (by simp))
      replace NN : Hid (Below w.heap.size w (((w.alloc (.cells #[.int .i64 n1, .int .i64 d1] 83)).alloc (.cells #[.int .i64 n2, .int .i64 d2] 83)).alloc (.cells #[.int .i64 0, .int .i64 0, .int .i64 0, .int .i64 0, .int .i64 0, .int .i64 0] 42))) := zh (Bal (Bal (Bal NN.out _) _) _)
      generalize (((w.alloc (.cells #[.int .i64 n1, .int .i64 d1] 83)).alloc (.cells #[.int .i64 n2, .int .i64 d2] 83)).alloc (.cells #[.int .i64 0, .int .i64 0, .int .i64 0, .int .i64 0, .int .i64 0, .int .i64 0] 42)) = W9 at *
      skip
      go_wp2_with fail
      refine (WC.out _).mono ?_
      rintro e w10 ⟨rfl, hb⟩
      replace NN := zh (Bgo NN.out hb)
      replace RE := zn hb RE
      replace IM := zn hb IM
      replace Z := zn hb Z
      clear hb
      obtain ⟨c_RE_0, f_RE_0, c_RE_1, f_RE_1, l_RE⟩ := zfl2 RE
      go_wp2_with fail
      clear c_RE_0 f_RE_0 c_RE_1 f_RE_1 l_RE
      refine (K1.out _).mono ?_
      rintro e w11 ⟨rfl, hb⟩
      replace NN := zh (Bgo NN.out hb)
      replace RE := zn hb RE
      replace IM := zn hb IM
      replace Z := zn hb Z
      clear hb
      obtain ⟨c_IM_0, f_IM_0, c_IM_1, f_IM_1, l_IM⟩ := zfl2 IM
      go_wp2_with fail
      clear c_IM_0 f_IM_0 c_IM_1 f_IM_1 l_IM
      refine (K2.out _).mono ?_
      rintro e w12 ⟨rfl, hb⟩
      replace NN := zh (Bgo NN.out hb)
      replace RE := zn hb RE
      replace IM := zn hb IM
      replace Z := zn hb Z
      clear hb
      obtain ⟨c_RE_0, f_RE_0, c_RE_1, f_RE_1, l_RE⟩ := zfl2 RE
      obtain ⟨c_IM_0, f_IM_0, c_IM_1, f_IM_1, l_IM⟩ := zfl2 IM
      go_wp2_with fail
      clear c_RE_0 f_RE_0 c_RE_1 f_RE_1 l_RE c_IM_0 f_IM_0 c_IM_1 f_IM_1 l_IM
      refine (VO.out _).mono ?_
      rintro e w77 ⟨⟨a, b, D, ok, rfl, hv⟩, hb⟩
      replace NN := zh (Bgo NN.out hb)
      replace RE := zn hb RE
      replace IM := zn hb IM
      replace Z := zn hb Z
      clear hb VO WC K1 K2
      have HV := zh hv
      clear hv
      go_upto_region 6 with fail
      obtain ⟨HB, VC⟩ := zl (w := w77) (.cells #[.int .i64 a, .int .i64 b, .int .i64 D] 40)
      have LT_VC : Hid (w.heap.size < w77.heap.size ∧ w.heap.size + 1 < w77.heap.size ∧ w.heap.size + 1 + 1 < w77.heap.size ∧ w.heap.size ≤ w77.heap.size) := zh ⟨blk_lt RE.out, blk_lt IM.out, blk_lt Z.out, NN.out.size⟩
      replace NN := zh (Bgo NN.out HB.out)
      replace RE := zn HB RE
      replace IM := zn HB IM
      replace Z := zn HB Z
      clear HB
      generalize (w77.alloc (.cells #[.int .i64 a, .int .i64 b, .int .i64 D] 40)) = W13 at *
      generalize w77.heap.size = gC at *
      clear RE IM
      rcases HV.out with ⟨rfl, hv⟩ | ⟨rfl, hv⟩
      ·have R0 := zh (M0.out hv)
       clear M0 M1 HV hv
       obtain ⟨c_Z_0, f_Z_0, c_Z_1, f_Z_1, c_Z_2, f_Z_2, c_Z_3, f_Z_3, c_Z_4, f_Z_4, c_Z_5, f_Z_5, l_Z⟩ := zfl6 Z
       go_wp2_with fail
       clear c_Z_0 f_Z_0 c_Z_1 f_Z_1 c_Z_2 f_Z_2 c_Z_3 f_Z_3 c_Z_4 f_Z_4 c_Z_5 f_Z_5 l_Z
       generalize hW : ((((((W13.setCell ⟨w.heap.size + 1 + 1, 0, none⟩ (.int .i64 0)).setCell ⟨w.heap.size + 1 + 1, 1, none⟩ (.int .i64 0)).setCell ⟨w.heap.size + 1 + 1, 2, none⟩ (.int .i64 0)).setCell ⟨w.heap.size + 1 + 1, 3, none⟩ (.int .i64 0)).setCell ⟨w.heap.size + 1 + 1, 4, none⟩ (.int .i64 0)).setCell ⟨w.heap.size + 1 + 1, 5, none⟩ (.int .i64 0)) = W14 at *
       replace Z : Hid (W14.heap[w.heap.size + 1 + 1]? = some (.cells #[.int .i64 0, .int .i64 0, .int .i64 0, .int .i64 0, .int .i64 0, .int .i64 0] 42)) := zs hW (blk_set (blk_set (blk_set (blk_set (blk_set (blk_set (Z.out) 0 (.int .i64 0)) 1 (.int .i64 0)) 2 (.int .i64 0)) 3 (.int .i64 0)) 4 (.int .i64 0)) 5 (.int .i64 0))
       replace VC : Hid (W14.heap[gC]? = some (.cells #[.int .i64 a, .int .i64 b, .int .i64 D] 40)) := zs hW (blk_set_other (blk_set_other (blk_set_other (blk_set_other (blk_set_other (blk_set_other (VC.out) (by have := LT_VC.out; omega) 0 (.int .i64 0)) (by have := LT_VC.out; omega) 1 (.int .i64 0)) (by have := LT_VC.out; omega) 2 (.int .i64 0)) (by have := LT_VC.out; omega) 3 (.int .i64 0)) (by have := LT_VC.out; omega) 4 (.int .i64 0)) (by have := LT_VC.out; omega) 5 (.int .i64 0))
       replace NN := zt hW (p := Below _ _) (Bset1 (Bset1 (Bset1 (Bset1 (Bset1 (Bset1 (NN.out) (by omega) 0 (.int .i64 0)) (by omega) 1 (.int .i64 0)) (by omega) 2 (.int .i64 0)) (by omega) 3 (.int .i64 0)) (by omega) 4 (.int .i64 0)) (by omega) 5 (.int .i64 0))
       clear hW
       obtain ⟨c_Z_0, c_Z_1, c_Z_2, c_Z_3, c_Z_4, c_Z_5, l_Z⟩ := zcl6 Z
       exact bodyPost_ret (v := .tuple #[.agg #[.int .i64 0, .int .i64 0, .int .i64 0, .int .i64 0, .int .i64 0, .int .i64 0], .int .i64 16]) (by simp [results, Tryz.results65, go_sem, c_Z_0, c_Z_1, c_Z_2, c_Z_3, c_Z_4, c_Z_5]) rfl ⟨MKP.no (by decide) R0.out, NN.out⟩
      have R1 := zh (M1.out a b D hv)
      have BL := chkB_lim (valO_chk hv)
      clear M0 M1 HV hv
      by_cases h6 : j < i
      ·have q6 : decide (j < i) = true := decide_eq_true h6
       have R0 := zh (fun t c => (R1.out t c).trans (if_pos h6))
       have wB : IntKind.i64.wrap (-b) = -b := IntWalk.i64_in _ (by omega)
       go_upto_region 9 with fail
       have HDRW := zh (Below.drew (Below.refl W13.heap.size W13))
       replace NN := zh (Bgo NN.out HDRW.out)
       replace Z := zn HDRW Z
       replace VC := zn HDRW VC
       clear HDRW
       have HAL : Hid (∀ kx9 : Nat, GK [(3, gC, .cells #[.int .i64 a, .int .i64 b, .int .i64 D] 40)] kx9 W13.drew) := zh (fun kx9 => fun px9 hp e => by
        simp only [List.mem_cons, List.not_mem_nil, or_false] at hp
        subst hp
        exact VC.out
       )
       refine region_G (S := GK [(3, gC, .cells #[.int .i64 a, .int .i64 b, .int .i64 D] 40)]) (by kernel_rfl) ?_
       refine tP 0 (.int .i64 j) (some 60) rfl ?_ ?_
       ·intro X hX
        clear hX
        go_simp
       try simp only [Act.put, zA, zB, zC]
       refine tP 1 (.int .i64 i) (some 61) rfl ?_ ?_
       ·intro X hX
        clear hX
        go_simp
       try simp only [Act.put, zA, zB, zC]
       refine tP 2 (.pointer (some ⟨gC, 1, none⟩)) (some 62) rfl ?_ ?_
       ·intro X hX
        clear hX
        go_simp
       try simp only [Act.put, zA, zB, zC]
       refine tG 3 (.int .i64 b) (some 63) (GK.grow _) rfl (YieldsIf.toG (Or.inl ⟨by rfl, ?_⟩)) (HAL.out 3) ?_
       ·intro X hX
        have hh := hX (3, gC, .cells #[.int .i64 a, .int .i64 b, .int .i64 D] 40) (List.Mem.head _) rfl
        have hh0 := blk_cell hh 1 _ rfl
        have hhl := blk_lt hh
        clear hh
        clear hX
        go_simp
       try simp only [Act.put, zA, zB, zC]
       refine tP 4 (.int .i64 (-b)) (some 64) rfl ?_ ?_
       ·intro X hX
        clear hX
        go_simp
       try simp only [Act.put, zA, zB, zC]
       refine tP 5 (.int .i64 j) (some 0) rfl ?_ ?_
       ·intro X hX
        clear hX
        go_simp
       try simp only [Act.put, zA, zB, zC]
       refine tP 6 (.int .i64 i) (some 1) rfl ?_ ?_
       ·intro X hX
        clear hX
        go_simp
       try simp only [Act.put, zA, zB, zC]
       refine tP 7 (.pointer (some ⟨gC, 1, none⟩)) (some 65) rfl ?_ ?_
       ·intro X hX
        clear hX
        go_simp
       try simp only [Act.put, zA, zB, zC]
       refine only_G 8 (by kernel_rfl) rfl (fun X15 hX K' hK' => ?_)
       replace NN := zh (Bgo NN.out hX)
       replace Z := zn hX Z
       replace VC := zn hX VC
       replace HAL := zh (fun kx9 => GK.grow _ _ _ _ (HAL.out kx9) hX)
       clear hX
       obtain ⟨c_VC_0, f_VC_0, c_VC_1, f_VC_1, c_VC_2, f_VC_2, l_VC⟩ := zfl3 VC
       go_simp
       clear c_VC_0 f_VC_0 c_VC_1 f_VC_1 c_VC_2 f_VC_2 l_VC
       refine hK'.out _ _ (fun kk hk hS => ?_) ?_
       ·have HN : ∀ px9 ∈ ([(3, gC, .cells #[.int .i64 a, .int .i64 b, .int .i64 D] 40)] : List (Nat × Nat × Obj)), px9.1 = kk → px9.2.1 ≠ gC := fun px9 hp e => by
         simp only [List.mem_cons, List.not_mem_nil, or_false] at hp
         subst hp
         subst e
         exact bfl (by kernel_rfl) hk
        exact GK.set hS HN
       clear hK' K'
       try simp only [Act.put, zA, zB, zC]
       clear HAL
       generalize hW : (X15.setCell ⟨gC, 1, none⟩ (.int .i64 (-b))) = W16 at *
       replace Z : Hid (W16.heap[w.heap.size + 1 + 1]? = some (.cells #[.int .i64 0, .int .i64 0, .int .i64 0, .int .i64 0, .int .i64 0, .int .i64 0] 42)) := zs hW (blk_set_other (Z.out) (by have := LT_VC.out; omega) 1 (.int .i64 (-b)))
       replace VC : Hid (W16.heap[gC]? = some (.cells #[.int .i64 a, .int .i64 (-b), .int .i64 D] 40)) := zs hW (blk_set (VC.out) 1 (.int .i64 (-b)))
       replace NN := zt hW (p := Below _ _) (Bset1 (NN.out) (by have := LT_VC.out; omega) 1 (.int .i64 (-b)))
       clear hW
       refine done_G (by kernel_rfl) (fun X17 hX => ?_) _
       replace NN := zh (Bgo NN.out hX)
       replace Z := zn hX Z
       replace VC := zn hX VC
       clear hX
       obtain ⟨c_VC_0, f_VC_0, c_VC_1, f_VC_1, c_VC_2, f_VC_2, l_VC⟩ := zfl3 VC
       obtain ⟨c_Z_0, f_Z_0, c_Z_1, f_Z_1, c_Z_2, f_Z_2, c_Z_3, f_Z_3, c_Z_4, f_Z_4, c_Z_5, f_Z_5, l_Z⟩ := zfl6 Z
       go_wp2_with fail
       clear c_VC_0 f_VC_0 c_VC_1 f_VC_1 c_VC_2 f_VC_2 l_VC c_Z_0 f_Z_0 c_Z_1 f_Z_1 c_Z_2 f_Z_2 c_Z_3 f_Z_3 c_Z_4 f_Z_4 c_Z_5 f_Z_5 l_Z
       generalize hW : ((((((X17.setCell ⟨w.heap.size + 1 + 1, 0, none⟩ (.int .i64 j)).setCell ⟨w.heap.size + 1 + 1, 1, none⟩ (.int .i64 i)).setCell ⟨w.heap.size + 1 + 1, 2, none⟩ (.int .i64 a)).setCell ⟨w.heap.size + 1 + 1, 3, none⟩ (.int .i64 (-b))).setCell ⟨w.heap.size + 1 + 1, 4, none⟩ (.int .i64 D)).setCell ⟨w.heap.size + 1 + 1, 5, none⟩ (.int .i64 n)) = W18 at *
       replace Z : Hid (W18.heap[w.heap.size + 1 + 1]? = some (.cells #[.int .i64 j, .int .i64 i, .int .i64 a, .int .i64 (-b), .int .i64 D, .int .i64 n] 42)) := zs hW (blk_set (blk_set (blk_set (blk_set (blk_set (blk_set (Z.out) 0 (.int .i64 j)) 1 (.int .i64 i)) 2 (.int .i64 a)) 3 (.int .i64 (-b))) 4 (.int .i64 D)) 5 (.int .i64 n))
       replace VC : Hid (W18.heap[gC]? = some (.cells #[.int .i64 a, .int .i64 (-b), .int .i64 D] 40)) := zs hW (blk_set_other (blk_set_other (blk_set_other (blk_set_other (blk_set_other (blk_set_other (VC.out) (by have := LT_VC.out; omega) 0 (.int .i64 j)) (by have := LT_VC.out; omega) 1 (.int .i64 i)) (by have := LT_VC.out; omega) 2 (.int .i64 a)) (by have := LT_VC.out; omega) 3 (.int .i64 (-b))) (by have := LT_VC.out; omega) 4 (.int .i64 D)) (by have := LT_VC.out; omega) 5 (.int .i64 n))
       replace NN := zt hW (p := Below _ _) (Bset1 (Bset1 (Bset1 (Bset1 (Bset1 (Bset1 (NN.out) (by omega) 0 (.int .i64 j)) (by omega) 1 (.int .i64 i)) (by omega) 2 (.int .i64 a)) (by omega) 3 (.int .i64 (-b))) (by omega) 4 (.int .i64 D)) (by omega) 5 (.int .i64 n))
       clear hW
       obtain ⟨c_Z_0, c_Z_1, c_Z_2, c_Z_3, c_Z_4, c_Z_5, l_Z⟩ := zcl6 Z
       exact bodyPost_ret (v := .tuple #[.agg #[.int .i64 j, .int .i64 i, .int .i64 a, .int .i64 (-b), .int .i64 D, .int .i64 n], .int .i64 0]) (by simp [results, Tryz.results65, go_sem, c_Z_0, c_Z_1, c_Z_2, c_Z_3, c_Z_4, c_Z_5]) rfl ⟨MKP.yes R0.out, NN.out⟩
      ·have q6 : decide (j < i) = false := decide_eq_false h6
       have R0 := zh (fun t c => (R1.out t c).trans (if_neg h6))
       obtain ⟨c_VC_0, f_VC_0, c_VC_1, f_VC_1, c_VC_2, f_VC_2, l_VC⟩ := zfl3 VC
       obtain ⟨c_Z_0, f_Z_0, c_Z_1, f_Z_1, c_Z_2, f_Z_2, c_Z_3, f_Z_3, c_Z_4, f_Z_4, c_Z_5, f_Z_5, l_Z⟩ := zfl6 Z
       go_wp2_with fail
       clear c_VC_0 f_VC_0 c_VC_1 f_VC_1 c_VC_2 f_VC_2 l_VC c_Z_0 f_Z_0 c_Z_1 f_Z_1 c_Z_2 f_Z_2 c_Z_3 f_Z_3 c_Z_4 f_Z_4 c_Z_5 f_Z_5 l_Z
       generalize hW : ((((((W13.setCell ⟨w.heap.size + 1 + 1, 0, none⟩ (.int .i64 i)).setCell ⟨w.heap.size + 1 + 1, 1, none⟩ (.int .i64 j)).setCell ⟨w.heap.size + 1 + 1, 2, none⟩ (.int .i64 a)).setCell ⟨w.heap.size + 1 + 1, 3, none⟩ (.int .i64 b)).setCell ⟨w.heap.size + 1 + 1, 4, none⟩ (.int .i64 D)).setCell ⟨w.heap.size + 1 + 1, 5, none⟩ (.int .i64 n)) = W19 at *
       replace Z : Hid (W19.heap[w.heap.size + 1 + 1]? = some (.cells #[.int .i64 i, .int .i64 j, .int .i64 a, .int .i64 b, .int .i64 D, .int .i64 n] 42)) := zs hW (blk_set (blk_set (blk_set (blk_set (blk_set (blk_set (Z.out) 0 (.int .i64 i)) 1 (.int .i64 j)) 2 (.int .i64 a)) 3 (.int .i64 b)) 4 (.int .i64 D)) 5 (.int .i64 n))
       replace VC : Hid (W19.heap[gC]? = some (.cells #[.int .i64 a, .int .i64 b, .int .i64 D] 40)) := zs hW (blk_set_other (blk_set_other (blk_set_other (blk_set_other (blk_set_other (blk_set_other (VC.out) (by have := LT_VC.out; omega) 0 (.int .i64 i)) (by have := LT_VC.out; omega) 1 (.int .i64 j)) (by have := LT_VC.out; omega) 2 (.int .i64 a)) (by have := LT_VC.out; omega) 3 (.int .i64 b)) (by have := LT_VC.out; omega) 4 (.int .i64 D)) (by have := LT_VC.out; omega) 5 (.int .i64 n))
       replace NN := zt hW (p := Below _ _) (Bset1 (Bset1 (Bset1 (Bset1 (Bset1 (Bset1 (NN.out) (by omega) 0 (.int .i64 i)) (by omega) 1 (.int .i64 j)) (by omega) 2 (.int .i64 a)) (by omega) 3 (.int .i64 b)) (by omega) 4 (.int .i64 D)) (by omega) 5 (.int .i64 n))
       clear hW
       obtain ⟨c_Z_0, c_Z_1, c_Z_2, c_Z_3, c_Z_4, c_Z_5, l_Z⟩ := zcl6 Z
       exact bodyPost_ret (v := .tuple #[.agg #[.int .i64 i, .int .i64 j, .int .i64 a, .int .i64 b, .int .i64 D, .int .i64 n], .int .i64 0]) (by simp [results, Tryz.results65, go_sem, c_Z_0, c_Z_1, c_Z_2, c_Z_3, c_Z_4, c_Z_5]) rfl ⟨MKP.yes R0.out, NN.out⟩
end
section
open Go.ChangeShapes Go.WideShapes Go.ChangeAt Go.RowKit
attribute [local go_sem ↓] Go.wp_at_zero Go.wp_at_succ
def strv (l : List (List UInt8)) : List Value := l.map fun x => Str x
theorem Rd.blk {w : World} {g size n : Nat} {xs : List Value} {T : TypeId} (h : w.heap[g]? = some (.cells xs.toArray T)) (hn : xs.length = n * size) : Rd w size (some ⟨g, 0, none⟩) n xs :=
 ⟨hn, fun _ => ⟨g, 0, rfl, blk_lt h, fun j u hu => blk_cell h (0 + j) u (by simpa using hu)⟩⟩
theorem wordsL_part (c : UInt8) : ∀ (a : List UInt8), ∀ w ∈ wordsL c a, w.length ≤ a.length
 | [], w, h => by
  simp only [wordsL, List.mem_singleton] at h
  subst h; exact Nat.le_refl _
 | x :: a, w, h => by
  have ih := wordsL_part c a
  unfold wordsL at h
  rw [List.length_cons]
  split at h
  ·rcases List.mem_cons.1 h with rfl | h
   ·exact Nat.zero_le _
   ·have := ih w h; omega
  ·split at h
   ·simp only [List.mem_singleton] at h
    subst h; simp
   ·rename_i u t e
    rcases List.mem_cons.1 h with rfl | h
    ·have := ih u (by rw [e]; exact List.mem_cons_self ..)
     rw [List.length_cons]; omega
    ·have := ih w (by rw [e]; exact List.mem_cons_of_mem _ h)
     omega
end
end Go.Proofs.YtbbnkclajpaghaaGreatDoor
