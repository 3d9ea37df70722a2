/- Several texts in one. -/
import Derived.Test.YtbbnkclajpaghaaGreatDoorMF05
import Derived.Test.YtbbnkclajpaghaaGreatDoorMF06
set_option maxHeartbeats 8000000
set_option maxRecDepth 100000
set_option linter.unusedVariables false
set_option linter.unusedSimpArgs false
namespace Go.Proofs.YtbbnkclajpaghaaGreatDoor
open Go.ChangeShapes Go.WideShapes Go.ChangeAt Go.RowKit
attribute [local go_sem ↓] Go.wp_at_zero Go.wp_at_succ
def VOP (n1 d1 n2 d2 : Int) (e : Ending) : Prop := ∃ a b D ok, e = .returned (.tuple #[.agg #[.int .i64 a, .int .i64 b, .int .i64 D], .bool ok]) ∧ ((ok = false ∧ valO n1 d1 n2 d2 = none) ∨ (ok = true ∧ valO n1 d1 n2 d2 = some (a, b, D)))
theorem valO_chk {n1 d1 n2 d2 a b D : Int} (h : valO n1 d1 n2 d2 = some (a, b, D)) : Cxm.chkB a b D = true := by
 unfold valO at h
 split at h
 ·rename_i hh
  injection h with h
  injection h with e1 h
  injection h with e2 e3
  subst e1 e2 e3
  exact hh.2
 ·cases h
theorem lcm_quo {d1 d2 : Int} (h1 : 1 ≤ d1) (h2 : 1 ≤ d2) : (d1.tdiv (Cxm.g2 d1 d2)) * d2 = valD d1 d2 ∧ 1 ≤ Cxm.g2 d1 d2 := by
 have h3 := Nat.gcd_pos_of_pos_left d2.natAbs (show 0 < d1.natAbs by omega)
 have e : Cxm.g2 d1 d2 = (Nat.gcd d1.natAbs d2.natAbs : Nat) := by simp only [Cxm.g2, Int.gcd]
 have h4 := valD_mul h1 h2
 have h5 : ((Nat.gcd d1.natAbs d2.natAbs : Nat) : Int) ∣ d1 := by rw [← Int.natAbs_dvd_natAbs]; simpa using Nat.gcd_dvd_left d1.natAbs d2.natAbs
 rw [e]
 obtain ⟨k, hk⟩ := h5
 refine ⟨?_, by omega⟩
 generalize ((Nat.gcd d1.natAbs d2.natAbs : Nat) : Int) = g at *
 have hg : g ≠ 0 := by intro h; rw [h] at hk; omega
 have e2 : d1.tdiv g = k := by rw [hk]; exact Int.mul_tdiv_cancel_left _ hg
 rw [e2]
 have h6 : g * (k * d2) = d1 * d2 := by rw [hk, Int.mul_assoc]
 exact Int.eq_of_mul_eq_mul_left hg (h6.trans h4)
theorem valueOf_calls {n1 d1 n2 d2 : Int} (v1 : VF n1 d1) (v2 : VF n2 d2) (w : World) : Calls Tryz.prog 92 #[Fv n1 d1, Fv n2 d2] w fun e w' => VOP n1 d1 n2 d2 e ∧ Below w.heap.size w w' := by
 have NN := zh (Below.refl w.heap.size w)
 have p1 := v1.d1
 have p2 := v2.d1
 have m1 := v1.n1
 have m2 := v1.n2
 have m3 := v2.n1
 have m4 := v2.n2
 have m5 := v1.d2
 have m6 := v2.d2
 have HG := valD_ge p1 p2
 have DP := valD_pos p1 p2
 have FI : Hid (∀ (x : Int) (W : World), Calls Tryz.prog 121 #[.int .i64 x] W fun e w' => e = .returned (.bool (Cxm.fitsB x)) ∧ Below W.heap.size W w') := zh (fun x W => (fits_calls x W).mono fun e w' ⟨h, m, hw⟩ => ⟨h, by rw [hw]; exact below_drewN (Below.refl _ _) m⟩)
 have O1 := fun h => valO_out (n1 := n1) (d1 := d1) (n2 := n2) (d2 := d2) (.inl h)
 have O2 := fun h => valO_out (n1 := n1) (d1 := d1) (n2 := n2) (d2 := d2) (.inr h)
 have P1 := part_ge (n := n1) p1 DP (valD_dvd d1 d2).1
 have P2 := part_ge (n := n2) p2 DP (valD_dvd d1 d2).2
 have FF : ∀ x : Int, Cxm.fitsB x = false → 1000000000 < x.natAbs := fun x h => by simp [Cxm.fitsB] at h; omega
 cases f1 : Cxm.fitsB n1
 ·have R0 := zh (O1 (by have := FF n1 f1; omega))
  clear O1 O2 P1 P2 FF v1 v2 HG DP
  go_enter Tryz.func92, Tryz.ntmps92
  go_wp2_with fail
  have RE : Hid ((((w.alloc (.cells #[.int .i64 n1, .int .i64 d1] 83)).alloc (.cells #[.int .i64 n2, .int .i64 d2] 83)).alloc (.cells #[.int .i64 0, .int .i64 0, .int .i64 0] 40)).heap[w.heap.size]? = some (.cells #[.int .i64 n1, .int .i64 d1] 83)) := zh (blk_alloc (blk_alloc (blk_new w _) _) _)
  have IM : Hid ((((w.alloc (.cells #[.int .i64 n1, .int .i64 d1] 83)).alloc (.cells #[.int .i64 n2, .int .i64 d2] 83)).alloc (.cells #[.int .i64 0, .int .i64 0, .int .i64 0] 40)).heap[w.heap.size + 1]? = some (.cells #[.int .i64 n2, .int .i64 d2] 83)) := zh (blk_alloc (blk_at _ (by simp)) _)
  have Z : Hid ((((w.alloc (.cells #[.int .i64 n1, .int .i64 d1] 83)).alloc (.cells #[.int .i64 n2, .int .i64 d2] 83)).alloc (.cells #[.int .i64 0, .int .i64 0, .int .i64 0] 40)).heap[w.heap.size + 1 + 1]? = some (.cells #[.int .i64 0, .int .i64 0, .int .i64 0] 40)) := zh (blk_at _ (by simp))
  replace NN : Hid (Below w.heap.size w (((w.alloc (.cells #[.int .i64 n1, .int .i64 d1] 83)).alloc (.cells #[.int .i64 n2, .int .i64 d2] 83)).alloc (.cells #[.int .i64 0, .int .i64 0, .int .i64 0] 40))) := zh (Bal (Bal (Bal NN.out _) _) _)
  generalize (((w.alloc (.cells #[.int .i64 n1, .int .i64 d1] 83)).alloc (.cells #[.int .i64 n2, .int .i64 d2] 83)).alloc (.cells #[.int .i64 0, .int .i64 0, .int .i64 0] 40)) = W1 at *
  obtain ⟨c_RE_0, f_RE_0, c_RE_1, f_RE_1, l_RE⟩ := zfl2 RE
  obtain ⟨c_IM_0, f_IM_0, c_IM_1, f_IM_1, l_IM⟩ := zfl2 IM
  go_wp2_with fail
  clear c_RE_0 f_RE_0 c_RE_1 f_RE_1 l_RE c_IM_0 f_IM_0 c_IM_1 f_IM_1 l_IM
  refine (FI.out n1 _).mono ?_
  rintro e w2 ⟨rfl, hb⟩
  replace NN := zh (Bgo NN.out hb)
  replace RE := zn hb RE
  replace IM := zn hb IM
  replace Z := zn hb Z
  clear hb
  obtain ⟨c_RE_0, f_RE_0, c_RE_1, f_RE_1, l_RE⟩ := zfl2 RE
  obtain ⟨c_IM_0, f_IM_0, c_IM_1, f_IM_1, l_IM⟩ := zfl2 IM
  obtain ⟨c_Z_0, f_Z_0, c_Z_1, f_Z_1, c_Z_2, f_Z_2, l_Z⟩ := zfl3 Z
  go_wp2_with fail
  clear c_RE_0 f_RE_0 c_RE_1 f_RE_1 l_RE c_IM_0 f_IM_0 c_IM_1 f_IM_1 l_IM c_Z_0 f_Z_0 c_Z_1 f_Z_1 c_Z_2 f_Z_2 l_Z
  generalize hW : (((w2.setCell ⟨w.heap.size + 1 + 1, 0, none⟩ (.int .i64 0)).setCell ⟨w.heap.size + 1 + 1, 1, none⟩ (.int .i64 0)).setCell ⟨w.heap.size + 1 + 1, 2, none⟩ (.int .i64 0)) = W3 at *
  replace RE : Hid (W3.heap[w.heap.size]? = some (.cells #[.int .i64 n1, .int .i64 d1] 83)) := zs hW (blk_set_other (blk_set_other (blk_set_other (RE.out) (by omega) 0 (.int .i64 0)) (by omega) 1 (.int .i64 0)) (by omega) 2 (.int .i64 0))
  replace IM : Hid (W3.heap[w.heap.size + 1]? = some (.cells #[.int .i64 n2, .int .i64 d2] 83)) := zs hW (blk_set_other (blk_set_other (blk_set_other (IM.out) (by omega) 0 (.int .i64 0)) (by omega) 1 (.int .i64 0)) (by omega) 2 (.int .i64 0))
  replace Z : Hid (W3.heap[w.heap.size + 1 + 1]? = some (.cells #[.int .i64 0, .int .i64 0, .int .i64 0] 40)) := zs hW (blk_set (blk_set (blk_set (Z.out) 0 (.int .i64 0)) 1 (.int .i64 0)) 2 (.int .i64 0))
  replace NN := zt hW (p := Below _ _) (Bset1 (Bset1 (Bset1 (NN.out) (by omega) 0 (.int .i64 0)) (by omega) 1 (.int .i64 0)) (by omega) 2 (.int .i64 0))
  clear hW
  obtain ⟨c_Z_0, c_Z_1, c_Z_2, l_Z⟩ := zcl3 Z
  exact bodyPost_ret (v := .tuple #[.agg #[.int .i64 0, .int .i64 0, .int .i64 0], .bool false]) (by simp [results, Tryz.results92, go_sem, c_Z_0, c_Z_1, c_Z_2]) rfl ⟨(show VOP n1 d1 n2 d2 _ from ⟨_, _, _, _, rfl, .inl ⟨rfl, R0.out⟩⟩), NN.out⟩
 ·skip
  cases f2 : Cxm.fitsB d1
  ·have R0 := zh (valO_far (n1 := n1) (d1 := d1) (n2 := n2) (d2 := d2) (by have := FF d1 f2; omega))
   clear O1 O2 P1 P2 FF v1 v2 HG DP
   go_enter Tryz.func92, Tryz.ntmps92
   go_wp2_with fail
   have RE : Hid ((((w.alloc (.cells #[.int .i64 n1, .int .i64 d1] 83)).alloc (.cells #[.int .i64 n2, .int .i64 d2] 83)).alloc (.cells #[.int .i64 0, .int .i64 0, .int .i64 0] 40)).heap[w.heap.size]? = some (.cells #[.int .i64 n1, .int .i64 d1] 83)) := zh (blk_alloc (blk_alloc (blk_new w _) _) _)
   have IM : Hid ((((w.alloc (.cells #[.int .i64 n1, .int .i64 d1] 83)).alloc (.cells #[.int .i64 n2, .int .i64 d2] 83)).alloc (.cells #[.int .i64 0, .int .i64 0, .int .i64 0] 40)).heap[w.heap.size + 1]? = some (.cells #[.int .i64 n2, .int .i64 d2] 83)) := zh (blk_alloc (blk_at _ (by simp)) _)
   have Z : Hid ((((w.alloc (.cells #[.int .i64 n1, .int .i64 d1] 83)).alloc (.cells #[.int .i64 n2, .int .i64 d2] 83)).alloc (.cells #[.int .i64 0, .int .i64 0, .int .i64 0] 40)).heap[w.heap.size + 1 + 1]? = some (.cells #[.int .i64 0, .int .i64 0, .int .i64 0] 40)) := zh (blk_at _ (by simp))
   replace NN : Hid (Below w.heap.size w (((w.alloc (.cells #[.int .i64 n1, .int .i64 d1] 83)).alloc (.cells #[.int .i64 n2, .int .i64 d2] 83)).alloc (.cells #[.int .i64 0, .int .i64 0, .int .i64 0] 40))) := zh (Bal (Bal (Bal NN.out _) _) _)
   generalize (((w.alloc (.cells #[.int .i64 n1, .int .i64 d1] 83)).alloc (.cells #[.int .i64 n2, .int .i64 d2] 83)).alloc (.cells #[.int .i64 0, .int .i64 0, .int .i64 0] 40)) = W4 at *
   obtain ⟨c_RE_0, f_RE_0, c_RE_1, f_RE_1, l_RE⟩ := zfl2 RE
   obtain ⟨c_IM_0, f_IM_0, c_IM_1, f_IM_1, l_IM⟩ := zfl2 IM
   go_wp2_with fail
   clear c_RE_0 f_RE_0 c_RE_1 f_RE_1 l_RE c_IM_0 f_IM_0 c_IM_1 f_IM_1 l_IM
   refine (FI.out n1 _).mono ?_
   rintro e w5 ⟨rfl, hb⟩
   replace NN := zh (Bgo NN.out hb)
   replace RE := zn hb RE
   replace IM := zn hb IM
   replace Z := zn hb Z
   clear hb
   obtain ⟨c_RE_0, f_RE_0, c_RE_1, f_RE_1, l_RE⟩ := zfl2 RE
   obtain ⟨c_IM_0, f_IM_0, c_IM_1, f_IM_1, l_IM⟩ := zfl2 IM
   obtain ⟨c_Z_0, f_Z_0, c_Z_1, f_Z_1, c_Z_2, f_Z_2, l_Z⟩ := zfl3 Z
   go_wp2_with fail
   clear c_RE_0 f_RE_0 c_RE_1 f_RE_1 l_RE c_IM_0 f_IM_0 c_IM_1 f_IM_1 l_IM c_Z_0 f_Z_0 c_Z_1 f_Z_1 c_Z_2 f_Z_2 l_Z
   refine (FI.out d1 _).mono ?_
   rintro e w6 ⟨rfl, hb⟩
   replace NN := zh (Bgo NN.out hb)
   replace RE := zn hb RE
   replace IM := zn hb IM
   replace Z := zn hb Z
   clear hb
   obtain ⟨c_RE_0, f_RE_0, c_RE_1, f_RE_1, l_RE⟩ := zfl2 RE
   obtain ⟨c_IM_0, f_IM_0, c_IM_1, f_IM_1, l_IM⟩ := zfl2 IM
   obtain ⟨c_Z_0, f_Z_0, c_Z_1, f_Z_1, c_Z_2, f_Z_2, l_Z⟩ := zfl3 Z
   go_wp2_with fail
   clear c_RE_0 f_RE_0 c_RE_1 f_RE_1 l_RE c_IM_0 f_IM_0 c_IM_1 f_IM_1 l_IM c_Z_0 f_Z_0 c_Z_1 f_Z_1 c_Z_2 f_Z_2 l_Z
   generalize hW : (((w6.setCell ⟨w.heap.size + 1 + 1, 0, none⟩ (.int .i64 0)).setCell ⟨w.heap.size + 1 + 1, 1, none⟩ (.int .i64 0)).setCell ⟨w.heap.size + 1 + 1, 2, none⟩ (.int .i64 0)) = W7 at *
   replace RE : Hid (W7.heap[w.heap.size]? = some (.cells #[.int .i64 n1, .int .i64 d1] 83)) := zs hW (blk_set_other (blk_set_other (blk_set_other (RE.out) (by omega) 0 (.int .i64 0)) (by omega) 1 (.int .i64 0)) (by omega) 2 (.int .i64 0))
   replace IM : Hid (W7.heap[w.heap.size + 1]? = some (.cells #[.int .i64 n2, .int .i64 d2] 83)) := zs hW (blk_set_other (blk_set_other (blk_set_other (IM.out) (by omega) 0 (.int .i64 0)) (by omega) 1 (.int .i64 0)) (by omega) 2 (.int .i64 0))
   replace Z : Hid (W7.heap[w.heap.size + 1 + 1]? = some (.cells #[.int .i64 0, .int .i64 0, .int .i64 0] 40)) := zs hW (blk_set (blk_set (blk_set (Z.out) 0 (.int .i64 0)) 1 (.int .i64 0)) 2 (.int .i64 0))
   replace NN := zt hW (p := Below _ _) (Bset1 (Bset1 (Bset1 (NN.out) (by omega) 0 (.int .i64 0)) (by omega) 1 (.int .i64 0)) (by omega) 2 (.int .i64 0))
   clear hW
   obtain ⟨c_Z_0, c_Z_1, c_Z_2, l_Z⟩ := zcl3 Z
   exact bodyPost_ret (v := .tuple #[.agg #[.int .i64 0, .int .i64 0, .int .i64 0], .bool false]) (by simp [results, Tryz.results92, go_sem, c_Z_0, c_Z_1, c_Z_2]) rfl ⟨(show VOP n1 d1 n2 d2 _ from ⟨_, _, _, _, rfl, .inl ⟨rfl, R0.out⟩⟩), NN.out⟩
  ·skip
   cases f3 : Cxm.fitsB n2
   ·have R0 := zh (O2 (by have := FF n2 f3; omega))
    clear O1 O2 P1 P2 FF v1 v2 HG DP
    go_enter Tryz.func92, Tryz.ntmps92
    go_wp2_with fail
    have RE : Hid ((((w.alloc (.cells #[.int .i64 n1, .int .i64 d1] 83)).alloc (.cells #[.int .i64 n2, .int .i64 d2] 83)).alloc (.cells #[.int .i64 0, .int .i64 0, .int .i64 0] 40)).heap[w.heap.size]? = some (.cells #[.int .i64 n1, .int .i64 d1] 83)) := zh (blk_alloc (blk_alloc (blk_new w _) _) _)
    have IM : Hid ((((w.alloc (.cells #[.int .i64 n1, .int .i64 d1] 83)).alloc (.cells #[.int .i64 n2, .int .i64 d2] 83)).alloc (.cells #[.int .i64 0, .int .i64 0, .int .i64 0] 40)).heap[w.heap.size + 1]? = some (.cells #[.int .i64 n2, .int .i64 d2] 83)) := zh (blk_alloc (blk_at _ (by simp)) _)
    have Z : Hid ((((w.alloc (.cells #[.int .i64 n1, .int .i64 d1] 83)).alloc (.cells #[.int .i64 n2, .int .i64 d2] 83)).alloc (.cells #[.int .i64 0, .int .i64 0, .int .i64 0] 40)).heap[w.heap.size + 1 + 1]? = some (.cells #[.int .i64 0, .int .i64 0, .int .i64 0] 40)) := zh (blk_at _ (by simp))
    replace NN : Hid (Below w.heap.size w (((w.alloc (.cells #[.int .i64 n1, .int .i64 d1] 83)).alloc (.cells #[.int .i64 n2, .int .i64 d2] 83)).alloc (.cells #[.int .i64 0, .int .i64 0, .int .i64 0] 40))) := zh (Bal (Bal (Bal NN.out _) _) _)
    generalize (((w.alloc (.cells #[.int .i64 n1, .int .i64 d1] 83)).alloc (.cells #[.int .i64 n2, .int .i64 d2] 83)).alloc (.cells #[.int .i64 0, .int .i64 0, .int .i64 0] 40)) = W8 at *
    obtain ⟨c_RE_0, f_RE_0, c_RE_1, f_RE_1, l_RE⟩ := zfl2 RE
    obtain ⟨c_IM_0, f_IM_0, c_IM_1, f_IM_1, l_IM⟩ := zfl2 IM
    go_wp2_with fail
    clear c_RE_0 f_RE_0 c_RE_1 f_RE_1 l_RE c_IM_0 f_IM_0 c_IM_1 f_IM_1 l_IM
    refine (FI.out n1 _).mono ?_
    rintro e w9 ⟨rfl, hb⟩
    replace NN := zh (Bgo NN.out hb)
    replace RE := zn hb RE
    replace IM := zn hb IM
    replace Z := zn hb Z
    clear hb
    obtain ⟨c_RE_0, f_RE_0, c_RE_1, f_RE_1, l_RE⟩ := zfl2 RE
    obtain ⟨c_IM_0, f_IM_0, c_IM_1, f_IM_1, l_IM⟩ := zfl2 IM
    obtain ⟨c_Z_0, f_Z_0, c_Z_1, f_Z_1, c_Z_2, f_Z_2, l_Z⟩ := zfl3 Z
    go_wp2_with fail
    clear c_RE_0 f_RE_0 c_RE_1 f_RE_1 l_RE c_IM_0 f_IM_0 c_IM_1 f_IM_1 l_IM c_Z_0 f_Z_0 c_Z_1 f_Z_1 c_Z_2 f_Z_2 l_Z
    refine (FI.out d1 _).mono ?_
    rintro e w10 ⟨rfl, hb⟩
    replace NN := zh (Bgo NN.out hb)
    replace RE := zn hb RE
    replace IM := zn hb IM
    replace Z := zn hb Z
    clear hb
    obtain ⟨c_RE_0, f_RE_0, c_RE_1, f_RE_1, l_RE⟩ := zfl2 RE
    obtain ⟨c_IM_0, f_IM_0, c_IM_1, f_IM_1, l_IM⟩ := zfl2 IM
    obtain ⟨c_Z_0, f_Z_0, c_Z_1, f_Z_1, c_Z_2, f_Z_2, l_Z⟩ := zfl3 Z
    go_wp2_with fail
    clear c_RE_0 f_RE_0 c_RE_1 f_RE_1 l_RE c_IM_0 f_IM_0 c_IM_1 f_IM_1 l_IM c_Z_0 f_Z_0 c_Z_1 f_Z_1 c_Z_2 f_Z_2 l_Z
    refine (FI.out n2 _).mono ?_
    rintro e w11 ⟨rfl, hb⟩
    replace NN := zh (Bgo NN.out hb)
    replace RE := zn hb RE
    replace IM := zn hb IM
    replace Z := zn hb Z
    clear hb
    obtain ⟨c_RE_0, f_RE_0, c_RE_1, f_RE_1, l_RE⟩ := zfl2 RE
    obtain ⟨c_IM_0, f_IM_0, c_IM_1, f_IM_1, l_IM⟩ := zfl2 IM
    obtain ⟨c_Z_0, f_Z_0, c_Z_1, f_Z_1, c_Z_2, f_Z_2, l_Z⟩ := zfl3 Z
    go_wp2_with fail
    clear c_RE_0 f_RE_0 c_RE_1 f_RE_1 l_RE c_IM_0 f_IM_0 c_IM_1 f_IM_1 l_IM c_Z_0 f_Z_0 c_Z_1 f_Z_1 c_Z_2 f_Z_2 l_Z
    generalize hW : (((w11.setCell ⟨w.heap.size + 1 + 1, 0, none⟩ (.int .i64 0)).setCell ⟨w.heap.size + 1 + 1, 1, none⟩ (.int .i64 0)).setCell ⟨w.heap.size + 1 + 1, 2, none⟩ (.int .i64 0)) = W12 at *
    replace RE : Hid (W12.heap[w.heap.size]? = some (.cells #[.int .i64 n1, .int .i64 d1] 83)) := zs hW (blk_set_other (blk_set_other (blk_set_other (RE.out) (by omega) 0 (.int .i64 0)) (by omega) 1 (.int .i64 0)) (by omega) 2 (.int .i64 0))
    replace IM : Hid (W12.heap[w.heap.size + 1]? = some (.cells #[.int .i64 n2, .int .i64 d2] 83)) := zs hW (blk_set_other (blk_set_other (blk_set_other (IM.out) (by omega) 0 (.int .i64 0)) (by omega) 1 (.int .i64 0)) (by omega) 2 (.int .i64 0))
    replace Z : Hid (W12.heap[w.heap.size + 1 + 1]? = some (.cells #[.int .i64 0, .int .i64 0, .int .i64 0] 40)) := zs hW (blk_set (blk_set (blk_set (Z.out) 0 (.int .i64 0)) 1 (.int .i64 0)) 2 (.int .i64 0))
    replace NN := zt hW (p := Below _ _) (Bset1 (Bset1 (Bset1 (NN.out) (by omega) 0 (.int .i64 0)) (by omega) 1 (.int .i64 0)) (by omega) 2 (.int .i64 0))
    clear hW
    obtain ⟨c_Z_0, c_Z_1, c_Z_2, l_Z⟩ := zcl3 Z
    exact bodyPost_ret (v := .tuple #[.agg #[.int .i64 0, .int .i64 0, .int .i64 0], .bool false]) (by simp [results, Tryz.results92, go_sem, c_Z_0, c_Z_1, c_Z_2]) rfl ⟨(show VOP n1 d1 n2 d2 _ from ⟨_, _, _, _, rfl, .inl ⟨rfl, R0.out⟩⟩), NN.out⟩
   ·skip
    cases f4 : Cxm.fitsB d2
    ·have R0 := zh (valO_far (n1 := n1) (d1 := d1) (n2 := n2) (d2 := d2) (by have := FF d2 f4; omega))
     clear O1 O2 P1 P2 FF v1 v2 HG DP
     go_enter Tryz.func92, Tryz.ntmps92
     go_wp2_with fail
     have RE : Hid ((((w.alloc (.cells #[.int .i64 n1, .int .i64 d1] 83)).alloc (.cells #[.int .i64 n2, .int .i64 d2] 83)).alloc (.cells #[.int .i64 0, .int .i64 0, .int .i64 0] 40)).heap[w.heap.size]? = some (.cells #[.int .i64 n1, .int .i64 d1] 83)) := zh (blk_alloc (blk_alloc (blk_new w _) _) _)
     have IM : Hid ((((w.alloc (.cells #[.int .i64 n1, .int .i64 d1] 83)).alloc (.cells #[.int .i64 n2, .int .i64 d2] 83)).alloc (.cells #[.int .i64 0, .int .i64 0, .int .i64 0] 40)).heap[w.heap.size + 1]? = some (.cells #[.int .i64 n2, .int .i64 d2] 83)) := zh (blk_alloc (blk_at _ (by simp)) _)
     have Z : Hid ((((w.alloc (.cells #[.int .i64 n1, .int .i64 d1] 83)).alloc (.cells #[.int .i64 n2, .int .i64 d2] 83)).alloc (.cells #[.int .i64 0, .int .i64 0, .int .i64 0] 40)).heap[w.heap.size + 1 + 1]? = some (.cells #[.int .i64 0, .int .i64 0, .int .i64 0] 40)) := zh (blk_at _ (by simp))
     replace NN : Hid (Below w.heap.size w (((w.alloc (.cells #[.int .i64 n1, .int .i64 d1] 83)).alloc (.cells #[.int .i64 n2, .int .i64 d2] 83)).alloc (.cells #[.int .i64 0, .int .i64 0, .int .i64 0] 40))) := zh (Bal (Bal (Bal NN.out _) _) _)
     generalize (((w.alloc (.cells #[.int .i64 n1, .int .i64 d1] 83)).alloc (.cells #[.int .i64 n2, .int .i64 d2] 83)).alloc (.cells #[.int .i64 0, .int .i64 0, .int .i64 0] 40)) = W13 at *
     obtain ⟨c_RE_0, f_RE_0, c_RE_1, f_RE_1, l_RE⟩ := zfl2 RE
     obtain ⟨c_IM_0, f_IM_0, c_IM_1, f_IM_1, l_IM⟩ := zfl2 IM
     go_wp2_with fail
     clear c_RE_0 f_RE_0 c_RE_1 f_RE_1 l_RE c_IM_0 f_IM_0 c_IM_1 f_IM_1 l_IM
     refine (FI.out n1 _).mono ?_
     rintro e w14 ⟨rfl, hb⟩
     replace NN := zh (Bgo NN.out hb)
     replace RE := zn hb RE
     replace IM := zn hb IM
     replace Z := zn hb Z
     clear hb
     obtain ⟨c_RE_0, f_RE_0, c_RE_1, f_RE_1, l_RE⟩ := zfl2 RE
     obtain ⟨c_IM_0, f_IM_0, c_IM_1, f_IM_1, l_IM⟩ := zfl2 IM
     obtain ⟨c_Z_0, f_Z_0, c_Z_1, f_Z_1, c_Z_2, f_Z_2, l_Z⟩ := zfl3 Z
     go_wp2_with fail
     clear c_RE_0 f_RE_0 c_RE_1 f_RE_1 l_RE c_IM_0 f_IM_0 c_IM_1 f_IM_1 l_IM c_Z_0 f_Z_0 c_Z_1 f_Z_1 c_Z_2 f_Z_2 l_Z
     refine (FI.out d1 _).mono ?_
     rintro e w15 ⟨rfl, hb⟩
     replace NN := zh (Bgo NN.out hb)
     replace RE := zn hb RE
     replace IM := zn hb IM
     replace Z := zn hb Z
     clear hb
     obtain ⟨c_RE_0, f_RE_0, c_RE_1, f_RE_1, l_RE⟩ := zfl2 RE
     obtain ⟨c_IM_0, f_IM_0, c_IM_1, f_IM_1, l_IM⟩ := zfl2 IM
     obtain ⟨c_Z_0, f_Z_0, c_Z_1, f_Z_1, c_Z_2, f_Z_2, l_Z⟩ := zfl3 Z
     go_wp2_with fail
     clear c_RE_0 f_RE_0 c_RE_1 f_RE_1 l_RE c_IM_0 f_IM_0 c_IM_1 f_IM_1 l_IM c_Z_0 f_Z_0 c_Z_1 f_Z_1 c_Z_2 f_Z_2 l_Z
     refine (FI.out n2 _).mono ?_
     rintro e w16 ⟨rfl, hb⟩
     replace NN := zh (Bgo NN.out hb)
     replace RE := zn hb RE
     replace IM := zn hb IM
     replace Z := zn hb Z
     clear hb
     obtain ⟨c_RE_0, f_RE_0, c_RE_1, f_RE_1, l_RE⟩ := zfl2 RE
     obtain ⟨c_IM_0, f_IM_0, c_IM_1, f_IM_1, l_IM⟩ := zfl2 IM
     obtain ⟨c_Z_0, f_Z_0, c_Z_1, f_Z_1, c_Z_2, f_Z_2, l_Z⟩ := zfl3 Z
     go_wp2_with fail
     clear c_RE_0 f_RE_0 c_RE_1 f_RE_1 l_RE c_IM_0 f_IM_0 c_IM_1 f_IM_1 l_IM c_Z_0 f_Z_0 c_Z_1 f_Z_1 c_Z_2 f_Z_2 l_Z
     refine (FI.out d2 _).mono ?_
     rintro e w17 ⟨rfl, hb⟩
     replace NN := zh (Bgo NN.out hb)
     replace RE := zn hb RE
     replace IM := zn hb IM
     replace Z := zn hb Z
     clear hb
     obtain ⟨c_RE_0, f_RE_0, c_RE_1, f_RE_1, l_RE⟩ := zfl2 RE
     obtain ⟨c_IM_0, f_IM_0, c_IM_1, f_IM_1, l_IM⟩ := zfl2 IM
     obtain ⟨c_Z_0, f_Z_0, c_Z_1, f_Z_1, c_Z_2, f_Z_2, l_Z⟩ := zfl3 Z
     go_wp2_with fail
     clear c_RE_0 f_RE_0 c_RE_1 f_RE_1 l_RE c_IM_0 f_IM_0 c_IM_1 f_IM_1 l_IM c_Z_0 f_Z_0 c_Z_1 f_Z_1 c_Z_2 f_Z_2 l_Z
     generalize hW : (((w17.setCell ⟨w.heap.size + 1 + 1, 0, none⟩ (.int .i64 0)).setCell ⟨w.heap.size + 1 + 1, 1, none⟩ (.int .i64 0)).setCell ⟨w.heap.size + 1 + 1, 2, none⟩ (.int .i64 0)) = W18 at *
     replace RE : Hid (W18.heap[w.heap.size]? = some (.cells #[.int .i64 n1, .int .i64 d1] 83)) := zs hW (blk_set_other (blk_set_other (blk_set_other (RE.out) (by omega) 0 (.int .i64 0)) (by omega) 1 (.int .i64 0)) (by omega) 2 (.int .i64 0))
     replace IM : Hid (W18.heap[w.heap.size + 1]? = some (.cells #[.int .i64 n2, .int .i64 d2] 83)) := zs hW (blk_set_other (blk_set_other (blk_set_other (IM.out) (by omega) 0 (.int .i64 0)) (by omega) 1 (.int .i64 0)) (by omega) 2 (.int .i64 0))
     replace Z : Hid (W18.heap[w.heap.size + 1 + 1]? = some (.cells #[.int .i64 0, .int .i64 0, .int .i64 0] 40)) := zs hW (blk_set (blk_set (blk_set (Z.out) 0 (.int .i64 0)) 1 (.int .i64 0)) 2 (.int .i64 0))
     replace NN := zt hW (p := Below _ _) (Bset1 (Bset1 (Bset1 (NN.out) (by omega) 0 (.int .i64 0)) (by omega) 1 (.int .i64 0)) (by omega) 2 (.int .i64 0))
     clear hW
     obtain ⟨c_Z_0, c_Z_1, c_Z_2, l_Z⟩ := zcl3 Z
     exact bodyPost_ret (v := .tuple #[.agg #[.int .i64 0, .int .i64 0, .int .i64 0], .bool false]) (by simp [results, Tryz.results92, go_sem, c_Z_0, c_Z_1, c_Z_2]) rfl ⟨(show VOP n1 d1 n2 d2 _ from ⟨_, _, _, _, rfl, .inl ⟨rfl, R0.out⟩⟩), NN.out⟩
    ·skip
     have b1 := fits_bd f1
     have b2 := fits_bd f2
     have b3 := fits_bd f3
     have b4 := fits_bd f4
     have GC : Hid (∀ W : World, Calls Tryz.prog 122 #[.int .i64 d1, .int .i64 d2] W fun e w' => e = .returned (.int .i64 (Cxm.g2 d1 d2)) ∧ Below W.heap.size W w') := zh (fun W => (wgcd_calls d1 d2 (by omega) (by omega) (by omega) (by omega) W).mono fun e w' ⟨h, m, hw⟩ => ⟨h, by rw [hw]; exact below_drewN (Below.refl _ _) m⟩)
     obtain ⟨QV, G1⟩ := lcm_quo p1 p2
     generalize Cxm.g2 d1 d2 = G at *
     obtain ⟨K, hK⟩ : ∃ K, d1.tdiv G = K := ⟨_, rfl⟩
     rw [hK] at QV
     have KB : 0 ≤ K ∧ K ≤ 1000000000 := by rw [← hK, Int.tdiv_eq_ediv_of_nonneg (by omega)]; exact ⟨Int.ediv_nonneg (by omega) (by omega), Int.le_trans (Int.ediv_le_self _ (by omega)) b2.2⟩
     have DB : valD d1 d2 ≤ 1000000000000000000 := by rw [← QV]; exact Int.le_trans (Int.mul_le_mul KB.2 b4.2 (by omega) (by omega)) (by decide)
     have G0 : ¬ G = 0 := by omega
     have wK : IntKind.i64.wrap K = K := IntWalk.i64_in _ (by omega)
     have VF0 := zh (fun (h : 1000000000 < valD d1 d2) => valO_far (n1 := n1) (n2 := n2) h)
     have VN := zh (fun h => valO_no (n1 := n1) (d1 := d1) (n2 := n2) (d2 := d2) h)
     have VY := zh (fun h => valO_yes (n1 := n1) (d1 := d1) (n2 := n2) (d2 := d2) h)
     have T1 : (valD d1 d2).tdiv d1 = valD d1 d2 / d1 := Int.tdiv_eq_ediv_of_nonneg (by omega)
     have T2 : (valD d1 d2).tdiv d2 = valD d1 d2 / d2 := Int.tdiv_eq_ediv_of_nonneg (by omega)
     have U1 : 0 ≤ valD d1 d2 / d1 ∧ valD d1 d2 / d1 ≤ valD d1 d2 := ⟨Int.ediv_nonneg (by omega) (by omega), Int.ediv_le_self _ (by omega)⟩
     have U2 : 0 ≤ valD d1 d2 / d2 ∧ valD d1 d2 / d2 ≤ valD d1 d2 := ⟨Int.ediv_nonneg (by omega) (by omega), Int.ediv_le_self _ (by omega)⟩
     clear O1 O2 P1 P2 FF v1 v2 HG
     generalize valD d1 d2 = D at *
     generalize D / d1 = Q1 at *
     generalize D / d2 = Q2 at *
     have wD : IntKind.i64.wrap D = D := IntWalk.i64_in _ (by omega)
     go_enter Tryz.func92, Tryz.ntmps92
     go_wp2_with fail
     have RE : Hid ((((w.alloc (.cells #[.int .i64 n1, .int .i64 d1] 83)).alloc (.cells #[.int .i64 n2, .int .i64 d2] 83)).alloc (.cells #[.int .i64 0, .int .i64 0, .int .i64 0] 40)).heap[w.heap.size]? = some (.cells #[.int .i64 n1, .int .i64 d1] 83)) := zh (blk_alloc (blk_alloc (blk_new w _) _) _)
     have IM : Hid ((((w.alloc (.cells #[.int .i64 n1, .int .i64 d1] 83)).alloc (.cells #[.int .i64 n2, .int .i64 d2] 83)).alloc (.cells #[.int .i64 0, .int .i64 0, .int .i64 0] 40)).heap[w.heap.size + 1]? = some (.cells #[.int .i64 n2, .int .i64 d2] 83)) := zh (blk_alloc (blk_at _ (by simp)) _)
     have Z : Hid ((((w.alloc (.cells #[.int .i64 n1, .int .i64 d1] 83)).alloc (.cells #[.int .i64 n2, .int .i64 d2] 83)).alloc (.cells #[.int .i64 0, .int .i64 0, .int .i64 0] 40)).heap[w.heap.size + 1 + 1]? = some (.cells #[.int .i64 0, .int .i64 0, .int .i64 0] 40)) := zh (blk_at _ (by simp))
     replace NN : Hid (Below w.heap.size w (((w.alloc (.cells #[.int .i64 n1, .int .i64 d1] 83)).alloc (.cells #[.int .i64 n2, .int .i64 d2] 83)).alloc (.cells #[.int .i64 0, .int .i64 0, .int .i64 0] 40))) := zh (Bal (Bal (Bal NN.out _) _) _)
     generalize (((w.alloc (.cells #[.int .i64 n1, .int .i64 d1] 83)).alloc (.cells #[.int .i64 n2, .int .i64 d2] 83)).alloc (.cells #[.int .i64 0, .int .i64 0, .int .i64 0] 40)) = W19 at *
     obtain ⟨c_RE_0, f_RE_0, c_RE_1, f_RE_1, l_RE⟩ := zfl2 RE
     obtain ⟨c_IM_0, f_IM_0, c_IM_1, f_IM_1, l_IM⟩ := zfl2 IM
     go_wp2_with fail
     clear c_RE_0 f_RE_0 c_RE_1 f_RE_1 l_RE c_IM_0 f_IM_0 c_IM_1 f_IM_1 l_IM
     refine (FI.out n1 _).mono ?_
     rintro e w20 ⟨rfl, hb⟩
     replace NN := zh (Bgo NN.out hb)
     replace RE := zn hb RE
     replace IM := zn hb IM
     replace Z := zn hb Z
     clear hb
     obtain ⟨c_RE_0, f_RE_0, c_RE_1, f_RE_1, l_RE⟩ := zfl2 RE
     obtain ⟨c_IM_0, f_IM_0, c_IM_1, f_IM_1, l_IM⟩ := zfl2 IM
     go_wp2_with fail
     clear c_RE_0 f_RE_0 c_RE_1 f_RE_1 l_RE c_IM_0 f_IM_0 c_IM_1 f_IM_1 l_IM
     refine (FI.out d1 _).mono ?_
     rintro e w21 ⟨rfl, hb⟩
     replace NN := zh (Bgo NN.out hb)
     replace RE := zn hb RE
     replace IM := zn hb IM
     replace Z := zn hb Z
     clear hb
     obtain ⟨c_RE_0, f_RE_0, c_RE_1, f_RE_1, l_RE⟩ := zfl2 RE
     obtain ⟨c_IM_0, f_IM_0, c_IM_1, f_IM_1, l_IM⟩ := zfl2 IM
     go_wp2_with fail
     clear c_RE_0 f_RE_0 c_RE_1 f_RE_1 l_RE c_IM_0 f_IM_0 c_IM_1 f_IM_1 l_IM
     refine (FI.out n2 _).mono ?_
     rintro e w22 ⟨rfl, hb⟩
     replace NN := zh (Bgo NN.out hb)
     replace RE := zn hb RE
     replace IM := zn hb IM
     replace Z := zn hb Z
     clear hb
     obtain ⟨c_RE_0, f_RE_0, c_RE_1, f_RE_1, l_RE⟩ := zfl2 RE
     obtain ⟨c_IM_0, f_IM_0, c_IM_1, f_IM_1, l_IM⟩ := zfl2 IM
     go_wp2_with fail
     clear c_RE_0 f_RE_0 c_RE_1 f_RE_1 l_RE c_IM_0 f_IM_0 c_IM_1 f_IM_1 l_IM
     refine (FI.out d2 _).mono ?_
     rintro e w23 ⟨rfl, hb⟩
     replace NN := zh (Bgo NN.out hb)
     replace RE := zn hb RE
     replace IM := zn hb IM
     replace Z := zn hb Z
     clear hb
     go_upto_region 3 with fail
     have HDRW := zh (Below.drew (Below.refl w23.heap.size w23))
     replace NN := zh (Bgo NN.out HDRW.out)
     replace RE := zn HDRW RE
     replace IM := zn HDRW IM
     replace Z := zn HDRW Z
     clear HDRW
     have HAL : Hid (∀ kx9 : Nat, GK [(1, w.heap.size, .cells #[.int .i64 n1, .int .i64 d1] 83), (3, w.heap.size, .cells #[.int .i64 n1, .int .i64 d1] 83), (5, w.heap.size + 1, .cells #[.int .i64 n2, .int .i64 d2] 83), (9, w.heap.size + 1, .cells #[.int .i64 n2, .int .i64 d2] 83)] kx9 w23.drew) := zh (fun kx9 => fun px9 hp e => by
      simp only [List.mem_cons, List.not_mem_nil, or_false] at hp
      rcases hp with rfl | rfl | rfl | rfl
      ·exact RE.out
      ·exact RE.out
      ·exact IM.out
      ·exact IM.out
     )
     refine region_G (S := GK [(1, w.heap.size, .cells #[.int .i64 n1, .int .i64 d1] 83), (3, w.heap.size, .cells #[.int .i64 n1, .int .i64 d1] 83), (5, w.heap.size + 1, .cells #[.int .i64 n2, .int .i64 d2] 83), (9, w.heap.size + 1, .cells #[.int .i64 n2, .int .i64 d2] 83)]) (by kernel_rfl) ?_
     refine tP 0 (.pointer (some ⟨w.heap.size, 1, none⟩)) (some 31) rfl ?_ ?_
     ·intro X hX
      clear hX
      go_simp
     try simp only [Act.put, zA, zB, zC]
     refine tG 1 (.int .i64 d1) (some 32) (GK.grow _) rfl (YieldsIf.toG (Or.inl ⟨by rfl, ?_⟩)) (HAL.out 1) ?_
     ·intro X hX
      have hh := hX (1, w.heap.size, .cells #[.int .i64 n1, .int .i64 d1] 83) (List.Mem.head _) rfl
      have hh0 := blk_cell hh 1 _ rfl
      have hhl := blk_lt hh
      clear hh
      clear hX
      go_simp
     try simp only [Act.put, zA, zB, zC]
     refine tP 2 (.pointer (some ⟨w.heap.size, 1, none⟩)) (some 33) rfl ?_ ?_
     ·intro X hX
      clear hX
      go_simp
     try simp only [Act.put, zA, zB, zC]
     refine tG 3 (.int .i64 d1) (some 34) (GK.grow _) rfl (YieldsIf.toG (Or.inl ⟨by rfl, ?_⟩)) (HAL.out 3) ?_
     ·intro X hX
      have hh := hX (3, w.heap.size, .cells #[.int .i64 n1, .int .i64 d1] 83) (List.Mem.tail _ (List.Mem.head _)) rfl
      have hh0 := blk_cell hh 1 _ rfl
      have hhl := blk_lt hh
      clear hh
      clear hX
      go_simp
     try simp only [Act.put, zA, zB, zC]
     refine tP 4 (.pointer (some ⟨w.heap.size + 1, 1, none⟩)) (some 35) rfl ?_ ?_
     ·intro X hX
      clear hX
      go_simp
     try simp only [Act.put, zA, zB, zC]
     refine tG 5 (.int .i64 d2) (some 36) (GK.grow _) rfl (YieldsIf.toG (Or.inl ⟨by rfl, ?_⟩)) (HAL.out 5) ?_
     ·intro X hX
      have hh := hX (5, w.heap.size + 1, .cells #[.int .i64 n2, .int .i64 d2] 83) (List.Mem.tail _ (List.Mem.tail _ (List.Mem.head _))) rfl
      have hh0 := blk_cell hh 1 _ rfl
      have hhl := blk_lt hh
      clear hh
      clear hX
      go_simp
     try simp only [Act.put, zA, zB, zC]
     have CFn : ∀ (args : Array Value) (W : World), Sem.run Tryz.prog (callFunc 122 args) W = .ok (.enter 122 args) W := fun _ _ => by kernel_rfl
     refine tG 6 (.int .i64 G) (some 37) (GK.grow _) rfl (yieldsG_call 122 #[.int .i64 d1, .int .i64 d2] (by rfl) ?_ (fun X hS => GC.out X)) (GK.drop (by simp)) ?_
     ·intro X hX
      clear hX
      go_simp
     clear CFn
     try simp only [Act.put, zA, zB, zC]
     refine tP 7 (.int .i64 K) (some 38) rfl ?_ ?_
     ·intro X hX
      clear hX
      go_simp
     try simp only [Act.put, zA, zB, zC]
     refine tP 8 (.pointer (some ⟨w.heap.size + 1, 1, none⟩)) (some 39) rfl ?_ ?_
     ·intro X hX
      clear hX
      go_simp
     try simp only [Act.put, zA, zB, zC]
     refine tG 9 (.int .i64 d2) (some 40) (GK.grow _) rfl (YieldsIf.toG (Or.inl ⟨by rfl, ?_⟩)) (HAL.out 9) ?_
     ·intro X hX
      have hh := hX (9, w.heap.size + 1, .cells #[.int .i64 n2, .int .i64 d2] 83) (List.Mem.tail _ (List.Mem.tail _ (List.Mem.tail _ (List.Mem.head _)))) rfl
      have hh0 := blk_cell hh 1 _ rfl
      have hhl := blk_lt hh
      clear hh
      clear hX
      go_simp
     try simp only [Act.put, zA, zB, zC]
     refine tP 10 (.int .i64 D) (some 41) rfl ?_ ?_
     ·intro X hX
      clear hX
      go_simp
     try simp only [Act.put, zA, zB, zC]
     refine tP 11 (.int .i64 D) (some 6) rfl ?_ ?_
     ·intro X hX
      clear hX
      go_simp
     try simp only [Act.put, zA, zB, zC]
     clear HAL
     refine done_G (by kernel_rfl) (fun X24 hX => ?_) _
     replace NN := zh (Bgo NN.out hX)
     replace RE := zn hX RE
     replace IM := zn hX IM
     replace Z := zn hX Z
     clear hX
     by_cases h3 : 1000000000 < D
     ·have q3 : decide (1000000000 < D) = true := decide_eq_true (by omega)
      have R0 := zh (VF0.out h3)
      clear VF0 VN VY GC FI h3
      obtain ⟨c_Z_0, f_Z_0, c_Z_1, f_Z_1, c_Z_2, f_Z_2, l_Z⟩ := zfl3 Z
      go_wp2_with fail
      clear c_Z_0 f_Z_0 c_Z_1 f_Z_1 c_Z_2 f_Z_2 l_Z
      generalize hW : (((X24.setCell ⟨w.heap.size + 1 + 1, 0, none⟩ (.int .i64 0)).setCell ⟨w.heap.size + 1 + 1, 1, none⟩ (.int .i64 0)).setCell ⟨w.heap.size + 1 + 1, 2, none⟩ (.int .i64 0)) = W25 at *
      replace RE : Hid (W25.heap[w.heap.size]? = some (.cells #[.int .i64 n1, .int .i64 d1] 83)) := zs hW (blk_set_other (blk_set_other (blk_set_other (RE.out) (by omega) 0 (.int .i64 0)) (by omega) 1 (.int .i64 0)) (by omega) 2 (.int .i64 0))
      replace IM : Hid (W25.heap[w.heap.size + 1]? = some (.cells #[.int .i64 n2, .int .i64 d2] 83)) := zs hW (blk_set_other (blk_set_other (blk_set_other (IM.out) (by omega) 0 (.int .i64 0)) (by omega) 1 (.int .i64 0)) (by omega) 2 (.int .i64 0))
      replace Z : Hid (W25.heap[w.heap.size + 1 + 1]? = some (.cells #[.int .i64 0, .int .i64 0, .int .i64 0] 40)) := zs hW (blk_set (blk_set (blk_set (Z.out) 0 (.int .i64 0)) 1 (.int .i64 0)) 2 (.int .i64 0))
      replace NN := zt hW (p := Below _ _) (Bset1 (Bset1 (Bset1 (NN.out) (by omega) 0 (.int .i64 0)) (by omega) 1 (.int .i64 0)) (by omega) 2 (.int .i64 0))
      clear hW
      obtain ⟨c_Z_0, c_Z_1, c_Z_2, l_Z⟩ := zcl3 Z
      exact bodyPost_ret (v := .tuple #[.agg #[.int .i64 0, .int .i64 0, .int .i64 0], .bool false]) (by simp [results, Tryz.results92, go_sem, c_Z_0, c_Z_1, c_Z_2]) rfl ⟨(show VOP n1 d1 n2 d2 _ from ⟨_, _, _, _, rfl, .inl ⟨rfl, R0.out⟩⟩), NN.out⟩
     have q3 : decide (1000000000 < D) = false := decide_eq_false (by omega)
     clear VF0 GC FI QV hK wK
     obtain ⟨A, hA⟩ : ∃ A, n1 * Q1 = A := ⟨_, rfl⟩
     obtain ⟨B, hB⟩ : ∃ B, n2 * Q2 = B := ⟨_, rfl⟩
     rw [hA, hB] at VN VY
     have BA : -1000000000000000000 ≤ A ∧ A ≤ 1000000000000000000 := by have h := Nat.mul_le_mul (show n1.natAbs ≤ 1000000000 by omega) (show Q1.natAbs ≤ 1000000000 by omega); rw [← Int.natAbs_mul, hA] at h; omega
     have BB : -1000000000000000000 ≤ B ∧ B ≤ 1000000000000000000 := by have h := Nat.mul_le_mul (show n2.natAbs ≤ 1000000000 by omega) (show Q2.natAbs ≤ 1000000000 by omega); rw [← Int.natAbs_mul, hB] at h; omega
     have wA : IntKind.i64.wrap A = A := IntWalk.i64_in _ (by omega)
     have wB : IntKind.i64.wrap B = B := IntWalk.i64_in _ (by omega)
     have wQ1 : IntKind.i64.wrap Q1 = Q1 := IntWalk.i64_in _ (by omega)
     have wQ2 : IntKind.i64.wrap Q2 = Q2 := IntWalk.i64_in _ (by omega)
     have z1 : ¬ d1 = 0 := by omega
     have z2 : ¬ d2 = 0 := by omega
     go_upto_region 6 with fail
     have HDRW := zh (Below.drew (Below.refl X24.heap.size X24))
     replace NN := zh (Bgo NN.out HDRW.out)
     replace RE := zn HDRW RE
     replace IM := zn HDRW IM
     replace Z := zn HDRW Z
     clear HDRW
     have HAL : Hid (∀ kx9 : Nat, GK [(1, w.heap.size, .cells #[.int .i64 n1, .int .i64 d1] 83), (4, w.heap.size, .cells #[.int .i64 n1, .int .i64 d1] 83), (8, w.heap.size + 1, .cells #[.int .i64 n2, .int .i64 d2] 83), (11, w.heap.size + 1, .cells #[.int .i64 n2, .int .i64 d2] 83)] kx9 X24.drew) := zh (fun kx9 => fun px9 hp e => by
      simp only [List.mem_cons, List.not_mem_nil, or_false] at hp
      rcases hp with rfl | rfl | rfl | rfl
      ·exact RE.out
      ·exact RE.out
      ·exact IM.out
      ·exact IM.out
     )
     refine region_G (S := GK [(1, w.heap.size, .cells #[.int .i64 n1, .int .i64 d1] 83), (4, w.heap.size, .cells #[.int .i64 n1, .int .i64 d1] 83), (8, w.heap.size + 1, .cells #[.int .i64 n2, .int .i64 d2] 83), (11, w.heap.size + 1, .cells #[.int .i64 n2, .int .i64 d2] 83)]) (by kernel_rfl) ?_
     refine tP 0 (.pointer (some ⟨w.heap.size, 0, none⟩)) (some 45) rfl ?_ ?_
     ·intro X hX
      clear hX
      go_simp
     try simp only [Act.put, zA, zB, zC]
     refine tG 1 (.int .i64 n1) (some 46) (GK.grow _) rfl (YieldsIf.toG (Or.inl ⟨by rfl, ?_⟩)) (HAL.out 1) ?_
     ·intro X hX
      have hh := hX (1, w.heap.size, .cells #[.int .i64 n1, .int .i64 d1] 83) (List.Mem.head _) rfl
      have hh0 := blk_cell hh 0 _ rfl
      have hhl := blk_lt hh
      clear hh
      clear hX
      go_simp
     try simp only [Act.put, zA, zB, zC]
     refine tP 2 (.int .i64 D) (some 47) rfl ?_ ?_
     ·intro X hX
      clear hX
      go_simp
     try simp only [Act.put, zA, zB, zC]
     refine tP 3 (.pointer (some ⟨w.heap.size, 1, none⟩)) (some 48) rfl ?_ ?_
     ·intro X hX
      clear hX
      go_simp
     try simp only [Act.put, zA, zB, zC]
     refine tG 4 (.int .i64 d1) (some 49) (GK.grow _) rfl (YieldsIf.toG (Or.inl ⟨by rfl, ?_⟩)) (HAL.out 4) ?_
     ·intro X hX
      have hh := hX (4, w.heap.size, .cells #[.int .i64 n1, .int .i64 d1] 83) (List.Mem.tail _ (List.Mem.head _)) rfl
      have hh0 := blk_cell hh 1 _ rfl
      have hhl := blk_lt hh
      clear hh
      clear hX
      go_simp
     try simp only [Act.put, zA, zB, zC]
     refine tP 5 (.int .i64 Q1) (some 50) rfl ?_ ?_
     ·intro X hX
      clear hX
      go_simp
     try simp only [Act.put, zA, zB, zC]
     refine tP 6 (.int .i64 A) (some 51) rfl ?_ ?_
     ·intro X hX
      clear hX
      go_simp
     try simp only [Act.put, zA, zB, zC]
     refine tP 7 (.pointer (some ⟨w.heap.size + 1, 0, none⟩)) (some 52) rfl ?_ ?_
     ·intro X hX
      clear hX
      go_simp
     try simp only [Act.put, zA, zB, zC]
     refine tG 8 (.int .i64 n2) (some 53) (GK.grow _) rfl (YieldsIf.toG (Or.inl ⟨by rfl, ?_⟩)) (HAL.out 8) ?_
     ·intro X hX
      have hh := hX (8, w.heap.size + 1, .cells #[.int .i64 n2, .int .i64 d2] 83) (List.Mem.tail _ (List.Mem.tail _ (List.Mem.head _))) rfl
      have hh0 := blk_cell hh 0 _ rfl
      have hhl := blk_lt hh
      clear hh
      clear hX
      go_simp
     try simp only [Act.put, zA, zB, zC]
     refine tP 9 (.int .i64 D) (some 54) rfl ?_ ?_
     ·intro X hX
      clear hX
      go_simp
     try simp only [Act.put, zA, zB, zC]
     refine tP 10 (.pointer (some ⟨w.heap.size + 1, 1, none⟩)) (some 55) rfl ?_ ?_
     ·intro X hX
      clear hX
      go_simp
     try simp only [Act.put, zA, zB, zC]
     refine tG 11 (.int .i64 d2) (some 56) (GK.grow _) rfl (YieldsIf.toG (Or.inl ⟨by rfl, ?_⟩)) (HAL.out 11) ?_
     ·intro X hX
      have hh := hX (11, w.heap.size + 1, .cells #[.int .i64 n2, .int .i64 d2] 83) (List.Mem.tail _ (List.Mem.tail _ (List.Mem.tail _ (List.Mem.head _)))) rfl
      have hh0 := blk_cell hh 1 _ rfl
      have hhl := blk_lt hh
      clear hh
      clear hX
      go_simp
     try simp only [Act.put, zA, zB, zC]
     refine tP 12 (.int .i64 Q2) (some 57) rfl ?_ ?_
     ·intro X hX
      clear hX
      go_simp
     try simp only [Act.put, zA, zB, zC]
     refine tP 13 (.int .i64 B) (some 58) rfl ?_ ?_
     ·intro X hX
      clear hX
      go_simp
     try simp only [Act.put, zA, zB, zC]
     refine tP 14 (.int .i64 D) (some 59) rfl ?_ ?_
     ·intro X hX
      clear hX
      go_simp
     try simp only [Act.put, zA, zB, zC]
     refine tP 15 (.agg #[.int .i64 A, .int .i64 B, .int .i64 D]) (some 60) rfl ?_ ?_
     ·intro X hX
      clear hX
      go_simp
     try simp only [Act.put, zA, zB, zC]
     refine only_G 16 (by kernel_rfl) rfl (fun X26 hX K' hK' => ?_)
     replace NN := zh (Bgo NN.out hX)
     replace RE := zn hX RE
     replace IM := zn hX IM
     replace Z := zn hX Z
     replace HAL := zh (fun kx9 => GK.grow _ _ _ _ (HAL.out kx9) hX)
     clear hX
     go_simp
     refine hK'.out _ _ (fun _ _ h => h.alloc _) ?_
     clear hK' K'
     try simp only [Act.put, zA, zB, zC]
     have HB := zh (Bal (Below.refl X26.heap.size X26) (.cells #[.int .i64 0, .int .i64 0, .int .i64 0] 40))
     have VC : Hid ((X26.alloc (.cells #[.int .i64 0, .int .i64 0, .int .i64 0] 40)).heap[X26.heap.size]? = some (.cells #[.int .i64 0, .int .i64 0, .int .i64 0] 40)) := zh (blk_new X26 (.cells #[.int .i64 0, .int .i64 0, .int .i64 0] 40))
     have LT_VC : Hid (w.heap.size < X26.heap.size ∧ w.heap.size + 1 < X26.heap.size ∧ w.heap.size + 1 + 1 < X26.heap.size ∧ w.heap.size ≤ X26.heap.size) := zh ⟨blk_lt RE.out, blk_lt IM.out, blk_lt Z.out, NN.out.size⟩
     replace NN := zh (Bgo NN.out HB.out)
     replace RE := zn HB RE
     replace IM := zn HB IM
     replace Z := zn HB Z
     replace HAL := zh (fun kx9 => GK.grow _ _ _ _ (HAL.out kx9) HB.out)
     clear HB
     generalize X26.alloc (.cells #[.int .i64 0, .int .i64 0, .int .i64 0] 40) = W27 at *
     generalize X26.heap.size = gVC at *
     refine only_G 17 (by kernel_rfl) rfl (fun X28 hX K' hK' => ?_)
     replace NN := zh (Bgo NN.out hX)
     replace RE := zn hX RE
     replace IM := zn hX IM
     replace Z := zn hX Z
     replace VC := zn hX VC
     replace HAL := zh (fun kx9 => GK.grow _ _ _ _ (HAL.out kx9) hX)
     clear hX
     obtain ⟨c_VC_0, f_VC_0, c_VC_1, f_VC_1, c_VC_2, f_VC_2, l_VC⟩ := zfl3 VC
     go_simp
     clear c_VC_0 f_VC_0 c_VC_1 f_VC_1 c_VC_2 f_VC_2 l_VC
     refine hK'.out _ _ (fun kk hk hS => ?_) ?_
     ·have HN : ∀ px9 ∈ ([(1, w.heap.size, .cells #[.int .i64 n1, .int .i64 d1] 83), (4, w.heap.size, .cells #[.int .i64 n1, .int .i64 d1] 83), (8, w.heap.size + 1, .cells #[.int .i64 n2, .int .i64 d2] 83), (11, w.heap.size + 1, .cells #[.int .i64 n2, .int .i64 d2] 83)] : List (Nat × Nat × Obj)), px9.1 = kk → px9.2.1 ≠ gVC := fun px9 hp e => by
       simp only [List.mem_cons, List.not_mem_nil, or_false] at hp
       rcases hp with rfl | rfl | rfl | rfl
       ·subst e
        exact bfl (by kernel_rfl) hk
       ·subst e
        exact bfl (by kernel_rfl) hk
       ·subst e
        exact bfl (by kernel_rfl) hk
       ·subst e
        exact bfl (by kernel_rfl) hk
      exact GK.set (GK.set (GK.set hS HN) HN) HN
     clear hK' K'
     try simp only [Act.put, zA, zB, zC]
     clear HAL
     generalize hW : (((X28.setCell ⟨gVC, 0, none⟩ (.int .i64 A)).setCell ⟨gVC, 1, none⟩ (.int .i64 B)).setCell ⟨gVC, 2, none⟩ (.int .i64 D)) = W29 at *
     replace RE : Hid (W29.heap[w.heap.size]? = some (.cells #[.int .i64 n1, .int .i64 d1] 83)) := zs hW (blk_set_other (blk_set_other (blk_set_other (RE.out) (by have := LT_VC.out; omega) 0 (.int .i64 A)) (by have := LT_VC.out; omega) 1 (.int .i64 B)) (by have := LT_VC.out; omega) 2 (.int .i64 D))
     replace IM : Hid (W29.heap[w.heap.size + 1]? = some (.cells #[.int .i64 n2, .int .i64 d2] 83)) := zs hW (blk_set_other (blk_set_other (blk_set_other (IM.out) (by have := LT_VC.out; omega) 0 (.int .i64 A)) (by have := LT_VC.out; omega) 1 (.int .i64 B)) (by have := LT_VC.out; omega) 2 (.int .i64 D))
     replace Z : Hid (W29.heap[w.heap.size + 1 + 1]? = some (.cells #[.int .i64 0, .int .i64 0, .int .i64 0] 40)) := zs hW (blk_set_other (blk_set_other (blk_set_other (Z.out) (by have := LT_VC.out; omega) 0 (.int .i64 A)) (by have := LT_VC.out; omega) 1 (.int .i64 B)) (by have := LT_VC.out; omega) 2 (.int .i64 D))
     replace VC : Hid (W29.heap[gVC]? = some (.cells #[.int .i64 A, .int .i64 B, .int .i64 D] 40)) := zs hW (blk_set (blk_set (blk_set (VC.out) 0 (.int .i64 A)) 1 (.int .i64 B)) 2 (.int .i64 D))
     replace NN := zt hW (p := Below _ _) (Bset1 (Bset1 (Bset1 (NN.out) (by have := LT_VC.out; omega) 0 (.int .i64 A)) (by have := LT_VC.out; omega) 1 (.int .i64 B)) (by have := LT_VC.out; omega) 2 (.int .i64 D))
     clear hW
     refine done_G (by kernel_rfl) (fun X30 hX => ?_) _
     replace NN := zh (Bgo NN.out hX)
     replace RE := zn hX RE
     replace IM := zn hX IM
     replace Z := zn hX Z
     replace VC := zn hX VC
     clear hX
     clear RE IM
     have CV := zh (fun W => isValue_calls A B D W)
     cases hk : Cxm.chkB A B D
     ·rw [hk] at CV
      have R0 := zh (VN.out hk)
      clear VN VY hk
      go_upto_region 7 with fail
      have HDRW := zh (Below.drew (Below.refl X30.heap.size X30))
      replace NN := zh (Bgo NN.out HDRW.out)
      replace Z := zn HDRW Z
      replace VC := zn HDRW VC
      clear HDRW
      have HAL : Hid (∀ kx9 : Nat, GK [(0, gVC, .cells #[.int .i64 A, .int .i64 B, .int .i64 D] 40), (1, gVC, .cells #[.int .i64 A, .int .i64 B, .int .i64 D] 40)] kx9 X30.drew) := zh (fun kx9 => fun px9 hp e => by
       simp only [List.mem_cons, List.not_mem_nil, or_false] at hp
       rcases hp with rfl | rfl
       ·exact VC.out
       ·exact VC.out
      )
      refine region_G (S := GK [(0, gVC, .cells #[.int .i64 A, .int .i64 B, .int .i64 D] 40), (1, gVC, .cells #[.int .i64 A, .int .i64 B, .int .i64 D] 40)]) (by kernel_rfl) ?_
      refine tG 0 (.agg #[.int .i64 A, .int .i64 B, .int .i64 D]) (some 61) (GK.grow _) rfl (YieldsIf.toG (Or.inl ⟨by rfl, ?_⟩)) (HAL.out 0) ?_
      ·intro X hX
       have hh := hX (0, gVC, .cells #[.int .i64 A, .int .i64 B, .int .i64 D] 40) (List.Mem.head _) rfl
       have hh0 := blk_cell hh 0 _ rfl
       have hh1 := blk_cell hh 1 _ rfl
       have hh2 := blk_cell hh 2 _ rfl
       have hhl := blk_lt hh
       clear hh
       clear hX
       go_simp
      try simp only [Act.put, zA, zB, zC]
      refine tG 1 (.agg #[.int .i64 A, .int .i64 B, .int .i64 D]) (some 62) (GK.grow _) rfl (YieldsIf.toG (Or.inl ⟨by rfl, ?_⟩)) (HAL.out 1) ?_
      ·intro X hX
       have hh := hX (1, gVC, .cells #[.int .i64 A, .int .i64 B, .int .i64 D] 40) (List.Mem.tail _ (List.Mem.head _)) rfl
       have hh0 := blk_cell hh 0 _ rfl
       have hh1 := blk_cell hh 1 _ rfl
       have hh2 := blk_cell hh 2 _ rfl
       have hhl := blk_lt hh
       clear hh
       clear hX
       go_simp
      try simp only [Act.put, zA, zB, zC]
      have CFn : ∀ (args : Array Value) (W : World), Sem.run Tryz.prog (callFunc 105 args) W = .ok (.enter 105 args) W := fun _ _ => by kernel_rfl
      refine tG 2 (.bool false) (some 63) (GK.grow _) rfl (yieldsG_call 105 #[.agg #[.int .i64 A, .int .i64 B, .int .i64 D]] (by rfl) ?_ (fun X hS => CV.out X)) (GK.drop (by simp)) ?_
      ·intro X hX
       clear hX
       go_simp
      clear CFn
      try simp only [Act.put, zA, zB, zC]
      refine only_G 3 (by kernel_rfl) rfl (fun X31 hX K' hK' => ?_)
      replace NN := zh (Bgo NN.out hX)
      replace Z := zn hX Z
      replace VC := zn hX VC
      replace HAL := zh (fun kx9 => GK.grow _ _ _ _ (HAL.out kx9) hX)
      clear hX
      obtain ⟨c_Z_0, f_Z_0, c_Z_1, f_Z_1, c_Z_2, f_Z_2, l_Z⟩ := zfl3 Z
      go_simp
      clear c_Z_0 f_Z_0 c_Z_1 f_Z_1 c_Z_2 f_Z_2 l_Z
      refine hK'.out _ _ (fun kk hk hS => ?_) ?_
      ·have HN : ∀ px9 ∈ ([(0, gVC, .cells #[.int .i64 A, .int .i64 B, .int .i64 D] 40), (1, gVC, .cells #[.int .i64 A, .int .i64 B, .int .i64 D] 40)] : List (Nat × Nat × Obj)), px9.1 = kk → px9.2.1 ≠ w.heap.size + 1 + 1 := fun px9 hp e => by
        simp only [List.mem_cons, List.not_mem_nil, or_false] at hp
        rcases hp with rfl | rfl
        ·subst e
         exact bfl (by kernel_rfl) hk
        ·subst e
         exact bfl (by kernel_rfl) hk
       exact GK.set (GK.set (GK.set hS HN) HN) HN
      clear hK' K'
      try simp only [Act.put, zA, zB, zC]
      clear HAL
      generalize hW : (((X31.setCell ⟨w.heap.size + 1 + 1, 0, none⟩ (.int .i64 A)).setCell ⟨w.heap.size + 1 + 1, 1, none⟩ (.int .i64 B)).setCell ⟨w.heap.size + 1 + 1, 2, none⟩ (.int .i64 D)) = W32 at *
      replace Z : Hid (W32.heap[w.heap.size + 1 + 1]? = some (.cells #[.int .i64 A, .int .i64 B, .int .i64 D] 40)) := zs hW (blk_set (blk_set (blk_set (Z.out) 0 (.int .i64 A)) 1 (.int .i64 B)) 2 (.int .i64 D))
      replace VC : Hid (W32.heap[gVC]? = some (.cells #[.int .i64 A, .int .i64 B, .int .i64 D] 40)) := zs hW (blk_set_other (blk_set_other (blk_set_other (VC.out) (by have := LT_VC.out; omega) 0 (.int .i64 A)) (by have := LT_VC.out; omega) 1 (.int .i64 B)) (by have := LT_VC.out; omega) 2 (.int .i64 D))
      replace NN := zt hW (p := Below _ _) (Bset1 (Bset1 (Bset1 (NN.out) (by omega) 0 (.int .i64 A)) (by omega) 1 (.int .i64 B)) (by omega) 2 (.int .i64 D))
      clear hW
      refine tP 4 (.bool false) (some 5) rfl ?_ ?_
      ·intro X hX
       clear hX
       go_simp
      try simp only [Act.put, zA, zB, zC]
      refine done_G (by kernel_rfl) (fun X33 hX => ?_) _
      replace NN := zh (Bgo NN.out hX)
      replace Z := zn hX Z
      replace VC := zn hX VC
      clear hX
      go_wp2_with fail
      obtain ⟨c_Z_0, c_Z_1, c_Z_2, l_Z⟩ := zcl3 Z
      exact bodyPost_ret (v := .tuple #[.agg #[.int .i64 A, .int .i64 B, .int .i64 D], .bool false]) (by simp [results, Tryz.results92, go_sem, c_Z_0, c_Z_1, c_Z_2]) rfl ⟨(show VOP n1 d1 n2 d2 _ from ⟨_, _, _, _, rfl, .inl ⟨rfl, R0.out⟩⟩), NN.out⟩
     ·rw [hk] at CV
      have R0 := zh (VY.out hk)
      clear VN VY hk
      go_upto_region 7 with fail
      have HDRW := zh (Below.drew (Below.refl X30.heap.size X30))
      replace NN := zh (Bgo NN.out HDRW.out)
      replace Z := zn HDRW Z
      replace VC := zn HDRW VC
      clear HDRW
      have HAL : Hid (∀ kx9 : Nat, GK [(0, gVC, .cells #[.int .i64 A, .int .i64 B, .int .i64 D] 40), (1, gVC, .cells #[.int .i64 A, .int .i64 B, .int .i64 D] 40)] kx9 X30.drew) := zh (fun kx9 => fun px9 hp e => by
       simp only [List.mem_cons, List.not_mem_nil, or_false] at hp
       rcases hp with rfl | rfl
       ·exact VC.out
       ·exact VC.out
      )
      refine region_G (S := GK [(0, gVC, .cells #[.int .i64 A, .int .i64 B, .int .i64 D] 40), (1, gVC, .cells #[.int .i64 A, .int .i64 B, .int .i64 D] 40)]) (by kernel_rfl) ?_
      refine tG 0 (.agg #[.int .i64 A, .int .i64 B, .int .i64 D]) (some 61) (GK.grow _) rfl (YieldsIf.toG (Or.inl ⟨by rfl, ?_⟩)) (HAL.out 0) ?_
      ·intro X hX
       have hh := hX (0, gVC, .cells #[.int .i64 A, .int .i64 B, .int .i64 D] 40) (List.Mem.head _) rfl
       have hh0 := blk_cell hh 0 _ rfl
       have hh1 := blk_cell hh 1 _ rfl
       have hh2 := blk_cell hh 2 _ rfl
       have hhl := blk_lt hh
       clear hh
       clear hX
       go_simp
      try simp only [Act.put, zA, zB, zC]
      refine tG 1 (.agg #[.int .i64 A, .int .i64 B, .int .i64 D]) (some 62) (GK.grow _) rfl (YieldsIf.toG (Or.inl ⟨by rfl, ?_⟩)) (HAL.out 1) ?_
      ·intro X hX
       have hh := hX (1, gVC, .cells #[.int .i64 A, .int .i64 B, .int .i64 D] 40) (List.Mem.tail _ (List.Mem.head _)) rfl
       have hh0 := blk_cell hh 0 _ rfl
       have hh1 := blk_cell hh 1 _ rfl
       have hh2 := blk_cell hh 2 _ rfl
       have hhl := blk_lt hh
       clear hh
       clear hX
       go_simp
      try simp only [Act.put, zA, zB, zC]
      have CFn : ∀ (args : Array Value) (W : World), Sem.run Tryz.prog (callFunc 105 args) W = .ok (.enter 105 args) W := fun _ _ => by kernel_rfl
      refine tG 2 (.bool true) (some 63) (GK.grow _) rfl (yieldsG_call 105 #[.agg #[.int .i64 A, .int .i64 B, .int .i64 D]] (by rfl) ?_ (fun X hS => CV.out X)) (GK.drop (by simp)) ?_
      ·intro X hX
       clear hX
       go_simp
      clear CFn
      try simp only [Act.put, zA, zB, zC]
      refine only_G 3 (by kernel_rfl) rfl (fun X34 hX K' hK' => ?_)
      replace NN := zh (Bgo NN.out hX)
      replace Z := zn hX Z
      replace VC := zn hX VC
      replace HAL := zh (fun kx9 => GK.grow _ _ _ _ (HAL.out kx9) hX)
      clear hX
      obtain ⟨c_Z_0, f_Z_0, c_Z_1, f_Z_1, c_Z_2, f_Z_2, l_Z⟩ := zfl3 Z
      go_simp
      clear c_Z_0 f_Z_0 c_Z_1 f_Z_1 c_Z_2 f_Z_2 l_Z
      refine hK'.out _ _ (fun kk hk hS => ?_) ?_
      ·have HN : ∀ px9 ∈ ([(0, gVC, .cells #[.int .i64 A, .int .i64 B, .int .i64 D] 40), (1, gVC, .cells #[.int .i64 A, .int .i64 B, .int .i64 D] 40)] : List (Nat × Nat × Obj)), px9.1 = kk → px9.2.1 ≠ w.heap.size + 1 + 1 := fun px9 hp e => by
        simp only [List.mem_cons, List.not_mem_nil, or_false] at hp
        rcases hp with rfl | rfl
        ·subst e
         exact bfl (by kernel_rfl) hk
        ·subst e
         exact bfl (by kernel_rfl) hk
       exact GK.set (GK.set (GK.set hS HN) HN) HN
      clear hK' K'
      try simp only [Act.put, zA, zB, zC]
      clear HAL
      generalize hW : (((X34.setCell ⟨w.heap.size + 1 + 1, 0, none⟩ (.int .i64 A)).setCell ⟨w.heap.size + 1 + 1, 1, none⟩ (.int .i64 B)).setCell ⟨w.heap.size + 1 + 1, 2, none⟩ (.int .i64 D)) = W35 at *
      replace Z : Hid (W35.heap[w.heap.size + 1 + 1]? = some (.cells #[.int .i64 A, .int .i64 B, .int .i64 D] 40)) := zs hW (blk_set (blk_set (blk_set (Z.out) 0 (.int .i64 A)) 1 (.int .i64 B)) 2 (.int .i64 D))
      replace VC : Hid (W35.heap[gVC]? = some (.cells #[.int .i64 A, .int .i64 B, .int .i64 D] 40)) := zs hW (blk_set_other (blk_set_other (blk_set_other (VC.out) (by have := LT_VC.out; omega) 0 (.int .i64 A)) (by have := LT_VC.out; omega) 1 (.int .i64 B)) (by have := LT_VC.out; omega) 2 (.int .i64 D))
      replace NN := zt hW (p := Below _ _) (Bset1 (Bset1 (Bset1 (NN.out) (by omega) 0 (.int .i64 A)) (by omega) 1 (.int .i64 B)) (by omega) 2 (.int .i64 D))
      clear hW
      refine tP 4 (.bool true) (some 5) rfl ?_ ?_
      ·intro X hX
       clear hX
       go_simp
      try simp only [Act.put, zA, zB, zC]
      refine done_G (by kernel_rfl) (fun X36 hX => ?_) _
      replace NN := zh (Bgo NN.out hX)
      replace Z := zn hX Z
      replace VC := zn hX VC
      clear hX
      go_wp2_with fail
      obtain ⟨c_Z_0, c_Z_1, c_Z_2, l_Z⟩ := zcl3 Z
      exact bodyPost_ret (v := .tuple #[.agg #[.int .i64 A, .int .i64 B, .int .i64 D], .bool true]) (by simp [results, Tryz.results92, go_sem, c_Z_0, c_Z_1, c_Z_2]) rfl ⟨(show VOP n1 d1 n2 d2 _ from ⟨_, _, _, _, rfl, .inr ⟨rfl, R0.out⟩⟩), NN.out⟩
end Go.Proofs.YtbbnkclajpaghaaGreatDoor
