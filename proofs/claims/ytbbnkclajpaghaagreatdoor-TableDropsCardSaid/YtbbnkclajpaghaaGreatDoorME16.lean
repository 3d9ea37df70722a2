/- Several texts in one. -/
import Derived.Test.YtbbnkclajpaghaaGreatDoorME14
import Derived.Test.YtbbnkclajpaghaaGreatDoorME15
set_option maxHeartbeats 8000000
set_option maxRecDepth 100000
set_option linter.unusedVariables false
set_option linter.unusedSimpArgs false
namespace Go.Proofs.YtbbnkclajpaghaaGreatDoor
section
open Go.ChangeShapes Go.WideShapes Go.ChangeAt Go.RowKit
attribute [local go_sem] Oper.semAt_some
abbrev RB (w : World) (A : Option Addr) (b : List Bool) : Prop := Rd w 1 A b.length (b.map Value.bool)
abbrev Mv (t c : Int) (A : Option Addr) (n cap : Nat) : Value := .agg #[.int .i64 t, .int .i64 c, .slice A n cap]
theorem flagcheck_calls (t c : Int) (A : Option Addr) (b : List Bool) (cap : Nat) (hb : b.length ≤ 1000000) (w : World) : Calls Tryz.prog 46 #[Mv t c A b.length cap] w fun e w' => e = .returned (.int .i64 (mskE t c b)) ∧ Below w.heap.size w w' := by
 generalize hv : mskE t c b = v
 unfold mskE at hv
 have NN := zh (Below.refl w.heap.size w)
 generalize hn : b.length = n at *
 have hc : 32 < t ∨ (t ≤ 32 ∧ 16 < c) ∨ (t ≤ 32 ∧ c ≤ 16 ∧ t < 1) ∨ (t ≤ 32 ∧ c ≤ 16 ∧ 1 ≤ t ∧ c < 1) ∨ (t ≤ 32 ∧ c ≤ 16 ∧ 1 ≤ t ∧ 1 ≤ c) := by omega
 rcases hc with h | ⟨h, h1⟩ | ⟨h, h1, h2⟩ | ⟨h, h1, h2, h3⟩ | ⟨h, h1, h2, h3⟩
 ·have HV : Hid (v = 4) := zh (by rw [← hv, if_pos (by omega)])
  have d0 : decide (32 < t) = true := decide_eq_true (by omega)
  clear hv hn
  go_enter Tryz.func46, Tryz.ntmps46
  go_wp2_with fail
  go_ret
  exact ⟨ret_int HV.out.symm, Bal NN.out _⟩
 ·have HV : Hid (v = 4) := zh (by rw [← hv, if_pos (by omega)])
  have d0 : decide (32 < t) = false := decide_eq_false (by omega)
  have d1 : decide (16 < c) = true := decide_eq_true (by omega)
  clear hv hn
  go_enter Tryz.func46, Tryz.ntmps46
  go_wp2_with fail
  go_ret
  exact ⟨ret_int HV.out.symm, Bal NN.out _⟩
 ·have HV : Hid (v = 8) := zh (by rw [← hv, if_neg (by omega), if_pos (by omega)])
  have d0 : decide (32 < t) = false := decide_eq_false (by omega)
  have d1 : decide (16 < c) = false := decide_eq_false (by omega)
  have d2 : decide (t < 1) = true := decide_eq_true (by omega)
  clear hv hn
  go_enter Tryz.func46, Tryz.ntmps46
  go_wp2_with fail
  go_ret
  exact ⟨ret_int HV.out.symm, Bal NN.out _⟩
 ·have HV : Hid (v = 8) := zh (by rw [← hv, if_neg (by omega), if_pos (by omega)])
  have d0 : decide (32 < t) = false := decide_eq_false (by omega)
  have d1 : decide (16 < c) = false := decide_eq_false (by omega)
  have d2 : decide (t < 1) = false := decide_eq_false (by omega)
  have d3 : decide (c < 1) = true := decide_eq_true (by omega)
  clear hv hn
  go_enter Tryz.func46, Tryz.ntmps46
  go_wp2_with fail
  go_ret
  exact ⟨ret_int HV.out.symm, Bal NN.out _⟩
 ·have hy0 : 0 ≤ t * c := Int.mul_nonneg (by omega) (by omega)
  have hy1 : t * c ≤ 32 * 16 := Int.mul_le_mul h h1 (by omega) (by omega)
  have hw : IntKind.i64.wrap (t * c) = t * c := IntWalk.i64_in _ (by omega)
  have d0 : decide (32 < t) = false := decide_eq_false (by omega)
  have d1 : decide (16 < c) = false := decide_eq_false (by omega)
  have d2 : decide (t < 1) = false := decide_eq_false (by omega)
  have d3 : decide (c < 1) = false := decide_eq_false (by omega)
  by_cases he : (n : Int) = t * c
  ·have HV : Hid (v = 0) := zh (by rw [← hv, if_neg (by omega), if_neg (by omega)])
   have q1 : ((n : Int) != t * c) = false := by rw [he]; simp
   clear hv hn he
   go_enter Tryz.func46, Tryz.ntmps46
   go_wp2_with fail
   go_ret
   exact ⟨ret_int HV.out.symm, Bal NN.out _⟩
  ·have HV : Hid (v = 8) := zh (by rw [← hv, if_neg (by omega), if_pos (by omega)])
   have q1 : ((n : Int) != t * c) = true := by simpa using he
   clear hv hn he
   go_enter Tryz.func46, Tryz.ntmps46
   go_wp2_with fail
   go_ret
   exact ⟨ret_int HV.out.symm, Bal NN.out _⟩
theorem refmask_calls (t c : Int) (A : Option Addr) (b : List Bool) (cap : Nat) (hb : b.length ≤ 1000000) (w : World) : Calls Tryz.prog 24 #[Mv t c A b.length cap] w fun e w' => e = .returned (.int .i64 (mskE t c b)) ∧ Below w.heap.size w w' := by
 generalize hv : mskE t c b = v
 unfold mskE at hv
 have NN := zh (Below.refl w.heap.size w)
 generalize hn : b.length = n at *
 have hc : 32 < t ∨ (t ≤ 32 ∧ 16 < c) ∨ (t ≤ 32 ∧ c ≤ 16 ∧ t < 1) ∨ (t ≤ 32 ∧ c ≤ 16 ∧ 1 ≤ t ∧ c < 1) ∨ (t ≤ 32 ∧ c ≤ 16 ∧ 1 ≤ t ∧ 1 ≤ c) := by omega
 rcases hc with h | ⟨h, h1⟩ | ⟨h, h1, h2⟩ | ⟨h, h1, h2, h3⟩ | ⟨h, h1, h2, h3⟩
 ·have HV : Hid (v = 4) := zh (by rw [← hv, if_pos (by omega)])
  have d0 : decide (32 < t) = true := decide_eq_true (by omega)
  clear hv hn
  go_enter Tryz.func24, Tryz.ntmps24
  go_wp2_with fail
  go_ret
  exact ⟨ret_int HV.out.symm, Bal NN.out _⟩
 ·have HV : Hid (v = 4) := zh (by rw [← hv, if_pos (by omega)])
  have d0 : decide (32 < t) = false := decide_eq_false (by omega)
  have d1 : decide (16 < c) = true := decide_eq_true (by omega)
  clear hv hn
  go_enter Tryz.func24, Tryz.ntmps24
  go_wp2_with fail
  go_ret
  exact ⟨ret_int HV.out.symm, Bal NN.out _⟩
 ·have HV : Hid (v = 8) := zh (by rw [← hv, if_neg (by omega), if_pos (by omega)])
  have d0 : decide (32 < t) = false := decide_eq_false (by omega)
  have d1 : decide (16 < c) = false := decide_eq_false (by omega)
  have d2 : decide (t < 1) = true := decide_eq_true (by omega)
  clear hv hn
  go_enter Tryz.func24, Tryz.ntmps24
  go_wp2_with fail
  go_ret
  exact ⟨ret_int HV.out.symm, Bal NN.out _⟩
 ·have HV : Hid (v = 8) := zh (by rw [← hv, if_neg (by omega), if_pos (by omega)])
  have d0 : decide (32 < t) = false := decide_eq_false (by omega)
  have d1 : decide (16 < c) = false := decide_eq_false (by omega)
  have d2 : decide (t < 1) = false := decide_eq_false (by omega)
  have d3 : decide (c < 1) = true := decide_eq_true (by omega)
  clear hv hn
  go_enter Tryz.func24, Tryz.ntmps24
  go_wp2_with fail
  go_ret
  exact ⟨ret_int HV.out.symm, Bal NN.out _⟩
 ·have hy0 : 0 ≤ t * c := Int.mul_nonneg (by omega) (by omega)
  have hy1 : t * c ≤ 32 * 16 := Int.mul_le_mul h h1 (by omega) (by omega)
  have hw : IntKind.i64.wrap (t * c) = t * c := IntWalk.i64_in _ (by omega)
  have d0 : decide (32 < t) = false := decide_eq_false (by omega)
  have d1 : decide (16 < c) = false := decide_eq_false (by omega)
  have d2 : decide (t < 1) = false := decide_eq_false (by omega)
  have d3 : decide (c < 1) = false := decide_eq_false (by omega)
  by_cases he : (n : Int) = t * c
  ·have HV : Hid (v = 0) := zh (by rw [← hv, if_neg (by omega), if_neg (by omega)])
   have q1 : ((n : Int) != t * c) = false := by rw [he]; simp
   clear hv hn he
   go_enter Tryz.func24, Tryz.ntmps24
   go_wp2_with fail
   go_ret
   exact ⟨ret_int HV.out.symm, Bal NN.out _⟩
  ·have HV : Hid (v = 8) := zh (by rw [← hv, if_neg (by omega), if_pos (by omega)])
   have q1 : ((n : Int) != t * c) = true := by simpa using he
   clear hv hn he
   go_enter Tryz.func24, Tryz.ntmps24
   go_wp2_with fail
   go_ret
   exact ⟨ret_int HV.out.symm, Bal NN.out _⟩
theorem idx_lt {t c x y : Int} (hx : 0 ≤ x) (hxt : x < t) (hy : 0 ≤ y) (hyc : y < c) : 0 ≤ x * c + y ∧ x * c + y < t * c ∧ 0 ≤ x * c ∧ x * c ≤ t * c := by
 have h1 : 0 ≤ x * c := Int.mul_nonneg hx (by omega)
 have h2 : (x + 1) * c ≤ t * c := Int.mul_le_mul_of_nonneg_right (by omega) (by omega)
 rw [Int.add_mul, Int.one_mul] at h2
 omega
theorem RB.at_ {w : World} {A : Option Addr} {b : List Bool} (h : RB w A b) {q : Nat} (hq : q < b.length) : ∃ bb off, A = some ⟨bb, off, none⟩ ∧ bb < w.heap.size ∧ w.cell? ⟨bb, off + q, none⟩ = some (.bool (b.getD q false)) := by
 obtain ⟨bb, off, e, hl, hc⟩ := h.2 (by omega)
 refine ⟨bb, off, e, hl, hc q _ ?_⟩
 simp [List.getD, hq]
theorem msk_ok {t c : Int} {b : List Bool} (h : mskE t c b = 0) : 1 ≤ t ∧ t ≤ 32 ∧ 1 ≤ c ∧ c ≤ 16 ∧ (b.length : Int) = t * c := by
 unfold mskE at h
 split at h
 ·omega
 ·split at h <;> omega
def drpM (c : Int) (b : List Bool) (l : List Vr) : List Vr := l.map (drpR c b)
theorem map_take (c : Int) (b : List Bool) {l : List Vr} {k : Nat} (hk : k < l.length) : drpM c b (l.take (k + 1)) = drpM c b (l.take k) ++ [drpR c b (rowAt l k)] := by
 unfold drpM
 rw [List.take_succ_eq_append_getElem hk, List.map_append, rowAt_lt hk]; rfl
theorem drop_calls {A Am : Option Addr} {cap cm : Nat} {l : List Vr} {bits : List Bool} {w : World} (t c : Int) (hl : RT w A l) (hA : ∀ b off, A = some ⟨b, off, none⟩ → b < w.heap.size) (hc : l.length ≤ cap) (hc' : cap ≤ 9223372036854775807)
  (hb : RB w Am bits) (hbl : bits.length ≤ 1000000) (hbc : bits.length ≤ cm) : Calls Tryz.prog 22 #[.slice A l.length cap, Mv t c Am bits.length cm] w fun e w' =>
  ∃ v, e = .returned (.tuple #[v, .int .i64 (drpE l t c bits)]) ∧ OR w.heap.size w' v (drpL l t c bits) ∧ Below w.heap.size w w' := by
 have CK : Hid (∀ W : World, Below w.heap.size w W → Calls Tryz.prog 20 #[.slice A l.length cap] W fun e w' => e = .returned (.int .i64 (chkE l)) ∧ Below W.heap.size W w') := zh (fun W (hb : Below w.heap.size w W) => chk_calls (w := W) (hl.next hb) (fun b off h => Nat.lt_of_lt_of_le (hA b off h) hb.size) hc hc')
 have CM := zh (flagcheck_calls t c Am bits cm hbl)
 obtain ⟨pe, hpe⟩ : ∃ pe, drpE l t c bits = pe := ⟨_, rfl⟩
 obtain ⟨pl, hpl⟩ : ∃ pl, drpL l t c bits = pl := ⟨_, rfl⟩
 obtain ⟨E, hE⟩ : ∃ E, chkE l = E := ⟨_, rfl⟩
 obtain ⟨M, hM⟩ : ∃ M, mskE t c bits = M := ⟨_, rfl⟩
 have HPE := zh hpe
 have HPL := zh hpl
 have HEE := zh hE
 have HMM := zh hM
 rw [hpe, hpl]
 rw [hE] at CK
 rw [hM] at CM
 clear hpe hpl hE hM
 have HL := zh hl
 have HA := zh hA
 have HB := zh hb
 have NN := zh (Below.refl w.heap.size w)
 clear hl hA hb
 refine (callsIn_wide (n := 0)).1 ?_
 refine callsIn_of_wp_marks Tryz.func22 rfl trivial ?_ rfl
 simp only [Tryz.ntmps22, List.size_toArray, List.length_cons, List.length_nil, Nat.reduceAdd, Nat.reduceSub, Array.replicate_succ, Array.replicate_zero, List.push_toArray, List.append_toArray, List.nil_append, List.cons_append]
 gi_wp2_with fail
 have V3 : Hid ((((w.alloc (.cells #[.int .i64 t, .int .i64 c, .slice Am bits.length cm] 52)).alloc (.cells #[.slice none 0 0] 22)).alloc (.cells #[.int .i64 0] 24)).heap[w.heap.size]? = some (.cells #[.int .i64 t, .int .i64 c, .slice Am bits.length cm] 52)) := zh (blk_alloc (blk_alloc (blk_new w _) _) _)
 have V4 : Hid ((((w.alloc (.cells #[.int .i64 t, .int .i64 c, .slice Am bits.length cm] 52)).alloc (.cells #[.slice none 0 0] 22)).alloc (.cells #[.int .i64 0] 24)).heap[w.heap.size + 1]? = some (.cells #[.slice none 0 0] 22)) := zh (blk_alloc (blk_at _ (by simp)) _)
 have V5 : Hid ((((w.alloc (.cells #[.int .i64 t, .int .i64 c, .slice Am bits.length cm] 52)).alloc (.cells #[.slice none 0 0] 22)).alloc (.cells #[.int .i64 0] 24)).heap[w.heap.size + 1 + 1]? = some (.cells #[.int .i64 0] 24)) := zh (blk_at _ (by simp))
 replace NN : Hid (Below w.heap.size w (((w.alloc (.cells #[.int .i64 t, .int .i64 c, .slice Am bits.length cm] 52)).alloc (.cells #[.slice none 0 0] 22)).alloc (.cells #[.int .i64 0] 24))) := zh (Bal (Bal (Bal NN.out _) _) _)
 generalize (((w.alloc (.cells #[.int .i64 t, .int .i64 c, .slice Am bits.length cm] 52)).alloc (.cells #[.slice none 0 0] 22)).alloc (.cells #[.int .i64 0] 24)) = W1 at *
 refine ⟨trivial, rfl, ((callsIn_wide (n := 0)).2 (CK.out _ NN.out)).mono ?_⟩
 rintro e w2 ⟨rfl, hb⟩
 replace NN := zh (Bgo NN.out hb)
 replace V3 := zn hb V3
 replace V4 := zn hb V4
 replace V5 := zn hb V5
 clear hb
 by_cases h0 : E ≠ 0
 ·have q1 : (E != 0) = true := by simpa using h0
  have HE0 := zh h0
  clear h0
  obtain ⟨c_V4_0, f_V4_0, l_V4⟩ := zfl1 V4
  obtain ⟨c_V5_0, f_V5_0, l_V5⟩ := zfl1 V5
  gi_wp2_with fail
  clear c_V4_0 f_V4_0 l_V4 c_V5_0 f_V5_0 l_V5
  generalize hW : ((w2.setCell ⟨w.heap.size + 1, 0, none⟩ (.slice none 0 0)).setCell ⟨w.heap.size + 1 + 1, 0, none⟩ (.int .i64 E)) = W3 at *
  replace V3 : Hid (W3.heap[w.heap.size]? = some (.cells #[.int .i64 t, .int .i64 c, .slice Am bits.length cm] 52)) := zs hW (blk_set_other (blk_set_other (V3.out) (by omega) 0 (.slice none 0 0)) (by omega) 0 (.int .i64 E))
  replace V4 : Hid (W3.heap[w.heap.size + 1]? = some (.cells #[.slice none 0 0] 22)) := zs hW (blk_set_other (blk_set (V4.out) 0 (.slice none 0 0)) (by omega) 0 (.int .i64 E))
  replace V5 : Hid (W3.heap[w.heap.size + 1 + 1]? = some (.cells #[.int .i64 E] 24)) := zs hW (blk_set (blk_set_other (V5.out) (by omega) 0 (.slice none 0 0)) 0 (.int .i64 E))
  replace NN := zt hW (p := Below _ _) (Bset1 (Bset1 (NN.out) (by omega) 0 (.slice none 0 0)) (by omega) 0 (.int .i64 E))
  clear hW
  have e0 := blk_cell V4.out 0 (.slice none 0 0) rfl
  have e1 := blk_cell V5.out 0 (.int .i64 E) rfl
  have h1 : drpE l t c bits = E := by unfold drpE; rw [HEE.out, if_pos HE0.out]
  have h2 : drpL l t c bits = [] := by unfold drpL; rw [h1]; exact if_neg HE0.out
  exact ⟨.tuple #[.slice none 0 0, .int .i64 E], by simp [results, Tryz.results22, go_sem, e0, e1], ⟨_, by rw [← HPE.out, h1], by rw [← HPL.out, h2]; exact OR.nil _ _, NN.out⟩⟩
 have h0' : E = 0 := by omega
 subst h0'
 clear h0
 obtain ⟨hg, hn⟩ := chkE_good HEE.out
 have HG := zh hg
 clear hg
 obtain ⟨c_V3_0, f_V3_0, c_V3_1, f_V3_1, c_V3_2, f_V3_2, l_V3⟩ := zfl3 V3
 gi_wp2_with fail
 refine ⟨trivial, rfl, ((callsIn_wide (n := 0)).2 (CM.out _)).mono ?_⟩
 rintro e w4 ⟨rfl, hb⟩
 clear c_V3_0 f_V3_0 c_V3_1 f_V3_1 c_V3_2 f_V3_2 l_V3
 replace NN := zh (Bgo NN.out hb)
 replace V3 := zn hb V3
 replace V4 := zn hb V4
 replace V5 := zn hb V5
 clear hb
 by_cases h0 : M ≠ 0
 ·have q1 : (M != 0) = true := by simpa using h0
  have HE0 := zh h0
  clear h0
  obtain ⟨c_V4_0, f_V4_0, l_V4⟩ := zfl1 V4
  obtain ⟨c_V5_0, f_V5_0, l_V5⟩ := zfl1 V5
  gi_wp2_with fail
  clear c_V4_0 f_V4_0 l_V4 c_V5_0 f_V5_0 l_V5
  generalize hW : ((w4.setCell ⟨w.heap.size + 1, 0, none⟩ (.slice none 0 0)).setCell ⟨w.heap.size + 1 + 1, 0, none⟩ (.int .i64 M)) = W5 at *
  replace V3 : Hid (W5.heap[w.heap.size]? = some (.cells #[.int .i64 t, .int .i64 c, .slice Am bits.length cm] 52)) := zs hW (blk_set_other (blk_set_other (V3.out) (by omega) 0 (.slice none 0 0)) (by omega) 0 (.int .i64 M))
  replace V4 : Hid (W5.heap[w.heap.size + 1]? = some (.cells #[.slice none 0 0] 22)) := zs hW (blk_set_other (blk_set (V4.out) 0 (.slice none 0 0)) (by omega) 0 (.int .i64 M))
  replace V5 : Hid (W5.heap[w.heap.size + 1 + 1]? = some (.cells #[.int .i64 M] 24)) := zs hW (blk_set (blk_set_other (V5.out) (by omega) 0 (.slice none 0 0)) 0 (.int .i64 M))
  replace NN := zt hW (p := Below _ _) (Bset1 (Bset1 (NN.out) (by omega) 0 (.slice none 0 0)) (by omega) 0 (.int .i64 M))
  clear hW
  have e0 := blk_cell V4.out 0 (.slice none 0 0) rfl
  have e1 := blk_cell V5.out 0 (.int .i64 M) rfl
  have h1 : drpE l t c bits = M := by unfold drpE; rw [HEE.out, HMM.out, if_neg (by omega), if_pos HE0.out]
  have h2 : drpL l t c bits = [] := by unfold drpL; rw [h1]; exact if_neg HE0.out
  exact ⟨.tuple #[.slice none 0 0, .int .i64 M], by simp [results, Tryz.results22, go_sem, e0, e1], ⟨_, by rw [← HPE.out, h1], by rw [← HPL.out, h2]; exact OR.nil _ _, NN.out⟩⟩
 have h0' : M = 0 := by omega
 subst h0'
 clear h0
 obtain ⟨m1, m2, m3, m4, m5⟩ := msk_ok HMM.out
 have M5 := zh m5
 clear m5 CK CM
 gi_wp2_with fail
 refine ⟨trivial, rfl, (callsIn_wide.2 (rows_calls A _ cap _)).mono ?_⟩
 rintro e w9 ⟨rfl, rfl⟩
 gi_wp2_with fail
 have LG : Hid (w.heap.size + 3 ≤ w4.heap.size) := zh (by have := blk_lt V5.out; omega)
 replace NN : Hid (Below w.heap.size w ((w4.alloc (.cells #[.slice none 0 0] 22)).alloc (.cells #[.slice A l.length cap] 22))) := zh (Bal (Bal NN.out _) _)
 have SZ : Hid (((w4.alloc (.cells #[.slice none 0 0] 22)).alloc (.cells #[.slice A l.length cap] 22)).heap.size = w4.heap.size + 2) := zh (by simp)
 replace V3 : Hid (((w4.alloc (.cells #[.slice none 0 0] 22)).alloc (.cells #[.slice A l.length cap] 22)).heap[w.heap.size]? = some (.cells #[.int .i64 t, .int .i64 c, .slice Am bits.length cm] 52)) := zh (blk_alloc (blk_alloc V3.out _) _)
 replace V4 : Hid (((w4.alloc (.cells #[.slice none 0 0] 22)).alloc (.cells #[.slice A l.length cap] 22)).heap[w.heap.size + 1]? = some (.cells #[.slice none 0 0] 22)) := zh (blk_alloc (blk_alloc V4.out _) _)
 replace V5 : Hid (((w4.alloc (.cells #[.slice none 0 0] 22)).alloc (.cells #[.slice A l.length cap] 22)).heap[w.heap.size + 1 + 1]? = some (.cells #[.int .i64 0] 24)) := zh (blk_alloc (blk_alloc V5.out _) _)
 have V9 : Hid (((w4.alloc (.cells #[.slice none 0 0] 22)).alloc (.cells #[.slice A l.length cap] 22)).heap[w4.heap.size]? = some (.cells #[.slice none 0 0] 22)) := zh (blk_alloc (blk_new w4 _) _)
 have VT : Hid (((w4.alloc (.cells #[.slice none 0 0] 22)).alloc (.cells #[.slice A l.length cap] 22)).heap[w4.heap.size + 1]? = some (.cells #[.slice A l.length cap] 22)) := zh (blk_at _ (by simp))
 generalize ((w4.alloc (.cells #[.slice none 0 0] 22)).alloc (.cells #[.slice A l.length cap] 22)) = W0 at *
 generalize w4.heap.size = g4 at *
 refine range_n 50 #[.pointer (some ⟨g4 + 1, 0, none⟩)] rfl (enters_of Tryz.func50 (by kernel_rfl) rfl) (encR l) w.heap.size l.length
  (rows_seq (HL.out.next NN.out) HA.out (by omega) (by have := SZ.out; have := LG.out; omega) VT.out) (by have := SZ.out; have := LG.out; omega) (fun _ => rfl)
  (fun k W => (W.heap[w.heap.size]? = some (.cells #[.int .i64 t, .int .i64 c, .slice Am bits.length cm] 52)) ∧ (W.heap[w.heap.size + 1]? = some (.cells #[.slice none 0 0] 22)) ∧ (W.heap[w.heap.size + 1 + 1]? = some (.cells #[.int .i64 0] 24)) ∧ (Below w.heap.size w W) ∧ (g4 + 2 ≤ W.heap.size) ∧ (∀ x ∈ l.take k, x.t < t ∧ x.c < c) ∧ (∃ A9 c9, W.heap[g4]? = some (.cells #[.slice A9 (drpM c bits (l.take k)).length c9] 22) ∧ OR W0.heap.size W (.slice A9 (drpM c bits (l.take k)).length c9) (drpM c bits (l.take k))))
  (fun cd k W => ((cd = .ret) ∧ (∃ x ∈ l, t ≤ x.t ∨ c ≤ x.c) ∧ (W.heap[w.heap.size + 1]? = some (.cells #[.slice none 0 0] 22)) ∧ (W.heap[w.heap.size + 1 + 1]? = some (.cells #[.int .i64 2] 24)) ∧ (Below w.heap.size w W)))
  (fun k a' W => ∃ Bx : Nat, (a' = { tmps := #[.slice A l.length cap, Mv t c Am bits.length cm, undef, .pointer (some ⟨w.heap.size, 0, none⟩), .pointer (some ⟨w.heap.size + 1, 0, none⟩), .pointer (some ⟨w.heap.size + 1 + 1, 0, none⟩), .int .i64 0, .int .i64 0, .pointer (some ⟨g4, 0, none⟩), undef, .pointer (some ⟨Bx, 0, none⟩), .slice A l.length cap, .int .i64 0, .int .i64 0, .bool false, undef, .agg #[.int .i64 t, .int .i64 c, .slice Am bits.length cm], .int .i64 0, .int .i64 0, .bool false, undef, .slice A l.length cap, .func (.func 50) #[] #[.pointer (some ⟨g4 + 1, 0, none⟩)], .int .i64 (k : Int), Rwv (rowAt l k), undef, undef, undef, undef, undef, undef, undef, undef, undef, undef, undef, undef, undef, undef, undef, undef, undef, undef, undef, undef, undef, undef, undef, undef, undef, undef, undef, undef, undef, undef, undef], defers := [] }) ∧ (g4 + 2 ≤ Bx) ∧ (W.heap[Bx]? = some (.cells #[.int .i64 (rowAt l k).t, .int .i64 (rowAt l k).c, .int .i64 (rowAt l k).i, .int .i64 (rowAt l k).j, .int .i64 (rowAt l k).re, .int .i64 (rowAt l k).im, .int .i64 (rowAt l k).dn, .int .i64 (rowAt l k).n] 67)) ∧ (W.heap[w.heap.size]? = some (.cells #[.int .i64 t, .int .i64 c, .slice Am bits.length cm] 52)) ∧ (W.heap[w.heap.size + 1]? = some (.cells #[.slice none 0 0] 22)) ∧ (W.heap[w.heap.size + 1 + 1]? = some (.cells #[.int .i64 0] 24)) ∧ (Below w.heap.size w W) ∧ (g4 + 2 ≤ W.heap.size) ∧ (∀ x ∈ l.take k, x.t < t ∧ x.c < c) ∧ (∃ A9 c9, W.heap[g4]? = some (.cells #[.slice A9 (drpM c bits (l.take k)).length c9] 22) ∧ OR W0.heap.size W (.slice A9 (drpM c bits (l.take k)).length c9) (drpM c bits (l.take k))))
  ((own_blk _ _ _).and ((own_blk _ _ _).and ((own_blk _ _ _).and ((ownFrom_below (Nat.le_refl _) (by have := SZ.out; have := LG.out; omega)).and ((own_size _).and ((own_pure _).and (own_ex fun _ => own_ex fun _ => (own_blk _ _ _).and (own_row _ _))))))))
  (fun _ => ((own_pure _).and ((own_pure _).and ((own_blk _ _ _).and ((own_blk _ _ _).and (ownFrom_below (Nat.le_refl _) (by have := SZ.out; have := LG.out; omega)))))))
  (fun _ => own_ex fun _ => ((own_pure _).and ((own_pure _).and ((own_blk _ _ _).and ((own_blk _ _ _).and ((own_blk _ _ _).and ((own_blk _ _ _).and ((ownFrom_below (Nat.le_refl _) (by have := SZ.out; have := LG.out; omega)).and ((own_size _).and ((own_pure _).and (own_ex fun _ => own_ex fun _ => (own_blk _ _ _).and (own_row _ _))))))))))))
  ⟨V3.out, V4.out, V5.out, NN.out, (by have := SZ.out; have := LG.out; omega), fun x hx => by simp at hx, ⟨none, 0, V9.out, OR.nil _ _⟩⟩ ?assign ?body ?done ?stop
 case assign =>
  rintro lp k W K ⟨v3, v4, v5, nn, sz, hbn, A9, c9, v9, o9⟩ hlt hK
  gi_wp2
  exact hK _ _ (keeps_of_below (Bal (Below.refl _ _) _)) ((Below.refl _ W).alloc nn.size _) ⟨W.heap.size, rfl, sz, blk_new W _, blk_alloc v3 _, blk_alloc v4 _, blk_alloc v5 _, Bal nn _, by rw [World.size_alloc]; omega, hbn, A9, c9, blk_alloc v9 _, o9.alloc _⟩
 case body =>
  rintro lp k a' W ⟨Bx, rfl, lx, vx, v3, v4, v5, nn, sz, hbn, A9, c9, v9, o9⟩ hlt
  have hlen : (drpM c bits (l.take k)).length ≤ 200 := by unfold drpM; rw [List.length_map, List.length_take]; omega
  have HF := zh (map_take c bits hlt)
  have HBN := zh hbn
  have HTK : Hid (l.take (k + 1) = l.take k ++ [rowAt l k]) := zh (by rw [List.take_succ_eq_append_getElem hlt, rowAt_lt hlt])
  have hx : rowB (rowAt l k) = true := by rw [rowAt_lt hlt]; exact goodF_row HG.out _ (List.getElem_mem hlt)
  have HM : Hid (rowAt l k ∈ l) := zh (by rw [rowAt_lt hlt]; exact List.getElem_mem hlt)
  obtain ⟨x1, x2, x3, x4, -⟩ := rowB_facts hx
  have hz := SZ.out
  have hg := LG.out
  generalize drpM c bits (l.take k) = L9 at *
  generalize rowAt l k = s at *
  have O9 := zh o9
  have SW : Hid (W0.heap.size ≤ W.heap.size) := zh (by omega)
  clear o9 hx hbn
  have NN := zh nn
  have KF := zh (KeepsFrom.refl W0.heap.size W)
  have V3 := zh v3
  have V4 := zh v4
  have V5 := zh v5
  have V9 := zh v9
  have VX := zh vx
  clear v3 v4 v5 v9 vx
  have hc3 : t ≤ s.t ∨ (s.t < t ∧ c ≤ s.c) ∨ (s.t < t ∧ s.c < c) := by omega
  rcases hc3 with h | ⟨h, h1⟩ | ⟨h, h1⟩
  ·have d1 : decide (t ≤ s.t) = true := decide_eq_true h
   obtain ⟨c_V3_0, f_V3_0, c_V3_1, f_V3_1, c_V3_2, f_V3_2, l_V3⟩ := zfl3 V3
   obtain ⟨c_V4_0, f_V4_0, l_V4⟩ := zfl1 V4
   obtain ⟨c_V5_0, f_V5_0, l_V5⟩ := zfl1 V5
   obtain ⟨c_VX_0, f_VX_0, c_VX_1, f_VX_1, c_VX_2, f_VX_2, c_VX_3, f_VX_3, c_VX_4, f_VX_4, c_VX_5, f_VX_5, c_VX_6, f_VX_6, c_VX_7, f_VX_7, l_VX⟩ := zfl8 VX
   gi_wp2_with fail
   clear c_V3_0 f_V3_0 c_V3_1 f_V3_1 c_V3_2 f_V3_2 l_V3 c_V4_0 f_V4_0 l_V4 c_V5_0 f_V5_0 l_V5 c_VX_0 f_VX_0 c_VX_1 f_VX_1 c_VX_2 f_VX_2 c_VX_3 f_VX_3 c_VX_4 f_VX_4 c_VX_5 f_VX_5 c_VX_6 f_VX_6 c_VX_7 f_VX_7 l_VX
   replace KF := zh (keep_set (keep_set (KF.out) (w.heap.size + 1) 0 (.slice none 0 0)) (w.heap.size + 1 + 1) 0 (.int .i64 2))
   generalize hW : ((W.setCell ⟨w.heap.size + 1, 0, none⟩ (.slice none 0 0)).setCell ⟨w.heap.size + 1 + 1, 0, none⟩ (.int .i64 2)) = W1 at *
   replace V3 : Hid (W1.heap[w.heap.size]? = some (.cells #[.int .i64 t, .int .i64 c, .slice Am bits.length cm] 52)) := zs hW (blk_set_other (blk_set_other (V3.out) (by omega) 0 (.slice none 0 0)) (by omega) 0 (.int .i64 2))
   replace V4 : Hid (W1.heap[w.heap.size + 1]? = some (.cells #[.slice none 0 0] 22)) := zs hW (blk_set_other (blk_set (V4.out) 0 (.slice none 0 0)) (by omega) 0 (.int .i64 2))
   replace V5 : Hid (W1.heap[w.heap.size + 1 + 1]? = some (.cells #[.int .i64 2] 24)) := zs hW (blk_set (blk_set_other (V5.out) (by omega) 0 (.slice none 0 0)) 0 (.int .i64 2))
   replace V9 : Hid (W1.heap[g4]? = some (.cells #[.slice A9 L9.length c9] 22)) := zs hW (blk_set_other (blk_set_other (V9.out) (by omega) 0 (.slice none 0 0)) (by omega) 0 (.int .i64 2))
   replace VX : Hid (W1.heap[Bx]? = some (.cells #[.int .i64 s.t, .int .i64 s.c, .int .i64 s.i, .int .i64 s.j, .int .i64 s.re, .int .i64 s.im, .int .i64 s.dn, .int .i64 s.n] 67)) := zs hW (blk_set_other (blk_set_other (VX.out) (by omega) 0 (.slice none 0 0)) (by omega) 0 (.int .i64 2))
   replace NN := zt hW (p := Below _ _) (Bset1 (Bset1 (NN.out) (by omega) 0 (.slice none 0 0)) (by omega) 0 (.int .i64 2))
   clear hW
   exact ⟨KF.out, rfl, ⟨s, HM.out, .inl h⟩, V4.out, V5.out, NN.out⟩
  ·have d1 : decide (t ≤ s.t) = false := decide_eq_false (by omega)
   have d2 : decide (c ≤ s.c) = true := decide_eq_true h1
   obtain ⟨c_V3_0, f_V3_0, c_V3_1, f_V3_1, c_V3_2, f_V3_2, l_V3⟩ := zfl3 V3
   obtain ⟨c_V4_0, f_V4_0, l_V4⟩ := zfl1 V4
   obtain ⟨c_V5_0, f_V5_0, l_V5⟩ := zfl1 V5
   obtain ⟨c_VX_0, f_VX_0, c_VX_1, f_VX_1, c_VX_2, f_VX_2, c_VX_3, f_VX_3, c_VX_4, f_VX_4, c_VX_5, f_VX_5, c_VX_6, f_VX_6, c_VX_7, f_VX_7, l_VX⟩ := zfl8 VX
   gi_wp2_with fail
   clear c_V3_0 f_V3_0 c_V3_1 f_V3_1 c_V3_2 f_V3_2 l_V3 c_V4_0 f_V4_0 l_V4 c_V5_0 f_V5_0 l_V5 c_VX_0 f_VX_0 c_VX_1 f_VX_1 c_VX_2 f_VX_2 c_VX_3 f_VX_3 c_VX_4 f_VX_4 c_VX_5 f_VX_5 c_VX_6 f_VX_6 c_VX_7 f_VX_7 l_VX
   replace KF := zh (keep_set (keep_set (KF.out) (w.heap.size + 1) 0 (.slice none 0 0)) (w.heap.size + 1 + 1) 0 (.int .i64 2))
   generalize hW : ((W.setCell ⟨w.heap.size + 1, 0, none⟩ (.slice none 0 0)).setCell ⟨w.heap.size + 1 + 1, 0, none⟩ (.int .i64 2)) = W2 at *
   replace V3 : Hid (W2.heap[w.heap.size]? = some (.cells #[.int .i64 t, .int .i64 c, .slice Am bits.length cm] 52)) := zs hW (blk_set_other (blk_set_other (V3.out) (by omega) 0 (.slice none 0 0)) (by omega) 0 (.int .i64 2))
   replace V4 : Hid (W2.heap[w.heap.size + 1]? = some (.cells #[.slice none 0 0] 22)) := zs hW (blk_set_other (blk_set (V4.out) 0 (.slice none 0 0)) (by omega) 0 (.int .i64 2))
   replace V5 : Hid (W2.heap[w.heap.size + 1 + 1]? = some (.cells #[.int .i64 2] 24)) := zs hW (blk_set (blk_set_other (V5.out) (by omega) 0 (.slice none 0 0)) 0 (.int .i64 2))
   replace V9 : Hid (W2.heap[g4]? = some (.cells #[.slice A9 L9.length c9] 22)) := zs hW (blk_set_other (blk_set_other (V9.out) (by omega) 0 (.slice none 0 0)) (by omega) 0 (.int .i64 2))
   replace VX : Hid (W2.heap[Bx]? = some (.cells #[.int .i64 s.t, .int .i64 s.c, .int .i64 s.i, .int .i64 s.j, .int .i64 s.re, .int .i64 s.im, .int .i64 s.dn, .int .i64 s.n] 67)) := zs hW (blk_set_other (blk_set_other (VX.out) (by omega) 0 (.slice none 0 0)) (by omega) 0 (.int .i64 2))
   replace NN := zt hW (p := Below _ _) (Bset1 (Bset1 (NN.out) (by omega) 0 (.slice none 0 0)) (by omega) 0 (.int .i64 2))
   clear hW
   exact ⟨KF.out, rfl, ⟨s, HM.out, .inr h1⟩, V4.out, V5.out, NN.out⟩
  ·have d1 : decide (t ≤ s.t) = false := decide_eq_false (by omega)
   have d2 : decide (c ≤ s.c) = false := decide_eq_false (by omega)
   obtain ⟨y1, y2, y3, y4⟩ := idx_lt x1 h x3 h1
   obtain ⟨q, hq⟩ : ∃ q, (s.t * c + s.c).toNat = q := ⟨_, rfl⟩
   have hq2 : s.t * c + s.c = (q : Int) := by omega
   have hql : q < bits.length := by have := M5.out; omega
   obtain ⟨bb, bo, eA, bl, cb⟩ := RB.at_ HB.out hql
   subst eA
   replace cb := (NN.out.cell (p := ⟨bb, bo + q, none⟩) bl).trans cb
   replace bl := Nat.lt_of_lt_of_le bl NN.out.size
   have HD : Hid (drpR c bits s = bif bits.getD q false then { s with n := 0 } else s) := zh (by unfold drpR; rw [hq]; cases bits.getD q false <;> rfl)
   have hw1 : IntKind.i64.wrap (s.t * c) = s.t * c := IntWalk.i64_in _ (by have := M5.out; omega)
   have hw2 : IntKind.i64.wrap (s.t * c + s.c) = (q : Int) := by rw [hq2]; exact IntWalk.i64_in _ (by omega)
   have HBD : Hid (s.t < t ∧ s.c < c) := zh ⟨h, h1⟩
   rw [HD.out] at HF
   clear HD hq hq2 y1 y2 y3 y4
   cases hbit : bits.getD q false
   ·rw [hbit] at cb
    replace HF := zh (by have h := HF.out; rw [hbit] at h; exact h)
    clear hbit
    have OB9 := O9
    have BB := zh (Below.refl W0.heap.size W)
    have KB := zh (KeepsFrom.refl W0.heap.size W)
    have SB : Hid (W0.heap.size ≤ W.heap.size) := zh (Nat.le_trans SW.out BB.out.size)
    have HSZ : Hid (W.heap.size = W.heap.size) := zh (by simp)
    have HZ := zh hz
    clear hz
    have hz2 : g4 < W0.heap.size := by have := HZ.out; omega
    have hz3 : w.heap.size + 1 + 1 < W0.heap.size := by have := HZ.out; omega
    obtain ⟨c_V3_0, f_V3_0, c_V3_1, f_V3_1, c_V3_2, f_V3_2, l_V3⟩ := zfl3 V3
    obtain ⟨c_V9_0, f_V9_0, l_V9⟩ := zfl1 V9
    obtain ⟨c_VX_0, f_VX_0, c_VX_1, f_VX_1, c_VX_2, f_VX_2, c_VX_3, f_VX_3, c_VX_4, f_VX_4, c_VX_5, f_VX_5, c_VX_6, f_VX_6, c_VX_7, f_VX_7, l_VX⟩ := zfl8 VX
    gi_wp2_with (gi_at_builtin; refine wpListIn_app rfl _ _ rfl W0.heap.size _ L9 rfl (some ⟨W.heap.size, 0, none⟩) 1 1 [s] rfl (OB9.out.alloc _) rfl (RT.one (r := s) (blk_at _ HSZ.out)) ?_ ?_ ?_; omega; (rw [World.size_alloc]; have := SB.out; omega); intro v1 w1 o1 q1 k1; obtain ⟨A1, c1, hv1, -⟩ := OR.form o1; rw [show (L9 ++ [s]).length = L9.length + 1 by simp] at hv1; subst hv1; have B1 := zh ((BB.out.alloc SB.out _).trans q1); have O1 := zh o1; have K1 := zh (KB.out.trans (((KeepsOthers.alloc W _).trans k1).from W0.heap.size)); have V91 := zh (blk_B B1.out V9.out (by omega)); have c9a := blk_cell V91.out 0 (.slice A9 L9.length c9) rfl; have f9a := blk_frozen V91.out 0; have l9a := blk_lt V91.out; clear o1 q1 k1)
    clear c_V3_0 f_V3_0 c_V3_1 f_V3_1 c_V3_2 f_V3_2 l_V3 c_V9_0 f_V9_0 l_V9 c_VX_0 f_VX_0 c_VX_1 f_VX_1 c_VX_2 f_VX_2 c_VX_3 f_VX_3 c_VX_4 f_VX_4 c_VX_5 f_VX_5 c_VX_6 f_VX_6 c_VX_7 f_VX_7 l_VX
    clear c9a f9a l9a V91
    replace V3 := zh (blk_B B1.out V3.out (by omega))
    replace V4 := zh (blk_B B1.out V4.out (by omega))
    replace V5 := zh (blk_B B1.out V5.out (by omega))
    replace V9 := zh (blk_B B1.out V9.out (by omega))
    replace NN := zh (NN.out.trans (B1.out.mono (by omega)))
    replace KF := K1
    clear VX OB9 BB KB SB
    have hz := HZ.out
    replace KF := zh (keep_set (KF.out) (g4) 0 (.slice A1 (L9.length + 1) c1))
    replace O1 := zh (OR.set_other (O1.out) (show g4 < W0.heap.size by omega) 0 (.slice A1 (L9.length + 1) c1))
    generalize hW : (w1.setCell ⟨g4, 0, none⟩ (.slice A1 (L9.length + 1) c1)) = W3 at *
    replace V3 : Hid (W3.heap[w.heap.size]? = some (.cells #[.int .i64 t, .int .i64 c, .slice (some ⟨bb, bo, none⟩) bits.length cm] 52)) := zs hW (blk_set_other (V3.out) (by omega) 0 (.slice A1 (L9.length + 1) c1))
    replace V4 : Hid (W3.heap[w.heap.size + 1]? = some (.cells #[.slice none 0 0] 22)) := zs hW (blk_set_other (V4.out) (by omega) 0 (.slice A1 (L9.length + 1) c1))
    replace V5 : Hid (W3.heap[w.heap.size + 1 + 1]? = some (.cells #[.int .i64 0] 24)) := zs hW (blk_set_other (V5.out) (by omega) 0 (.slice A1 (L9.length + 1) c1))
    replace V9 : Hid (W3.heap[g4]? = some (.cells #[.slice A1 (L9.length + 1) c1] 22)) := zs hW (blk_set (V9.out) 0 (.slice A1 (L9.length + 1) c1))
    replace NN := zt hW (p := Below _ _) (Bset1 (NN.out) (by omega) 0 (.slice A1 (L9.length + 1) c1))
    clear hW
    refine ⟨KF.out, below_mid nn NN.out KF.out.size, V3.out, V4.out, V5.out, NN.out, by have := KF.out.size; omega, ?_, A1, c1, ?_, ?_⟩
    ·intro x hx
     rw [HTK.out] at hx
     rcases List.mem_append.1 hx with hx | hx
     ·exact HBN.out x hx
     ·rw [List.mem_singleton.1 hx]; exact HBD.out
    ·rw [HF.out]; simpa using V9.out
    ·rw [HF.out]; simpa using O1.out
   ·rw [hbit] at cb
    replace HF := zh (by have h := HF.out; rw [hbit] at h; exact h)
    clear hbit
    have OB9 := zh (OR.set_ne O9.out VX.out (by decide) 7 (.int .i64 0))
    have BB : Hid (Below W0.heap.size W (W.setCell ⟨Bx, 7, none⟩ (.int .i64 0))) := zh ((Below.refl _ W).setCell (p := ⟨Bx, 7, none⟩) (show W0.heap.size ≤ Bx by omega) _)
    have KB := zh (keep_set (KeepsFrom.refl W0.heap.size W) Bx 7 (.int .i64 0))
    have SB : Hid (W0.heap.size ≤ (W.setCell ⟨Bx, 7, none⟩ (.int .i64 0)).heap.size) := zh (Nat.le_trans SW.out BB.out.size)
    have HSZ : Hid (W.heap.size = (W.setCell ⟨Bx, 7, none⟩ (.int .i64 0)).heap.size) := zh (by simp)
    have HZ := zh hz
    clear hz
    have hz2 : g4 < W0.heap.size := by have := HZ.out; omega
    have hz3 : w.heap.size + 1 + 1 < W0.heap.size := by have := HZ.out; omega
    obtain ⟨c_V3_0, f_V3_0, c_V3_1, f_V3_1, c_V3_2, f_V3_2, l_V3⟩ := zfl3 V3
    obtain ⟨c_V9_0, f_V9_0, l_V9⟩ := zfl1 V9
    obtain ⟨c_VX_0, f_VX_0, c_VX_1, f_VX_1, c_VX_2, f_VX_2, c_VX_3, f_VX_3, c_VX_4, f_VX_4, c_VX_5, f_VX_5, c_VX_6, f_VX_6, c_VX_7, f_VX_7, l_VX⟩ := zfl8 VX
    gi_wp2_with (gi_at_builtin; refine wpListIn_app rfl _ _ rfl W0.heap.size _ L9 rfl (some ⟨W.heap.size, 0, none⟩) 1 1 [({ s with n := 0 } : Vr)] rfl (OB9.out.alloc _) rfl (RT.one (r := ({ s with n := 0 } : Vr)) (blk_at _ HSZ.out)) ?_ ?_ ?_; omega; (rw [World.size_alloc]; have := SB.out; omega); intro v1 w1 o1 q1 k1; obtain ⟨A1, c1, hv1, -⟩ := OR.form o1; rw [show (L9 ++ [({ s with n := 0 } : Vr)]).length = L9.length + 1 by simp] at hv1; subst hv1; have B1 := zh ((BB.out.alloc SB.out _).trans q1); have O1 := zh o1; have K1 := zh (KB.out.trans (((KeepsOthers.alloc (W.setCell ⟨Bx, 7, none⟩ (.int .i64 0)) _).trans k1).from W0.heap.size)); have V91 := zh (blk_B B1.out V9.out (by omega)); have c9a := blk_cell V91.out 0 (.slice A9 L9.length c9) rfl; have f9a := blk_frozen V91.out 0; have l9a := blk_lt V91.out; clear o1 q1 k1)
    clear c_V3_0 f_V3_0 c_V3_1 f_V3_1 c_V3_2 f_V3_2 l_V3 c_V9_0 f_V9_0 l_V9 c_VX_0 f_VX_0 c_VX_1 f_VX_1 c_VX_2 f_VX_2 c_VX_3 f_VX_3 c_VX_4 f_VX_4 c_VX_5 f_VX_5 c_VX_6 f_VX_6 c_VX_7 f_VX_7 l_VX
    clear c9a f9a l9a V91
    replace V3 := zh (blk_B B1.out V3.out (by omega))
    replace V4 := zh (blk_B B1.out V4.out (by omega))
    replace V5 := zh (blk_B B1.out V5.out (by omega))
    replace V9 := zh (blk_B B1.out V9.out (by omega))
    replace NN := zh (NN.out.trans (B1.out.mono (by omega)))
    replace KF := K1
    clear VX OB9 BB KB SB
    have hz := HZ.out
    replace KF := zh (keep_set (KF.out) (g4) 0 (.slice A1 (L9.length + 1) c1))
    replace O1 := zh (OR.set_other (O1.out) (show g4 < W0.heap.size by omega) 0 (.slice A1 (L9.length + 1) c1))
    generalize hW : (w1.setCell ⟨g4, 0, none⟩ (.slice A1 (L9.length + 1) c1)) = W4 at *
    replace V3 : Hid (W4.heap[w.heap.size]? = some (.cells #[.int .i64 t, .int .i64 c, .slice (some ⟨bb, bo, none⟩) bits.length cm] 52)) := zs hW (blk_set_other (V3.out) (by omega) 0 (.slice A1 (L9.length + 1) c1))
    replace V4 : Hid (W4.heap[w.heap.size + 1]? = some (.cells #[.slice none 0 0] 22)) := zs hW (blk_set_other (V4.out) (by omega) 0 (.slice A1 (L9.length + 1) c1))
    replace V5 : Hid (W4.heap[w.heap.size + 1 + 1]? = some (.cells #[.int .i64 0] 24)) := zs hW (blk_set_other (V5.out) (by omega) 0 (.slice A1 (L9.length + 1) c1))
    replace V9 : Hid (W4.heap[g4]? = some (.cells #[.slice A1 (L9.length + 1) c1] 22)) := zs hW (blk_set (V9.out) 0 (.slice A1 (L9.length + 1) c1))
    replace NN := zt hW (p := Below _ _) (Bset1 (NN.out) (by omega) 0 (.slice A1 (L9.length + 1) c1))
    clear hW
    refine ⟨KF.out, below_mid nn NN.out KF.out.size, V3.out, V4.out, V5.out, NN.out, by have := KF.out.size; omega, ?_, A1, c1, ?_, ?_⟩
    ·intro x hx
     rw [HTK.out] at hx
     rcases List.mem_append.1 hx with hx | hx
     ·exact HBN.out x hx
     ·rw [List.mem_singleton.1 hx]; exact HBD.out
    ·rw [HF.out]; simpa using V9.out
    ·rw [HF.out]; simpa using O1.out
 case done =>
  rintro D W hD ⟨v3, v4, v5, nn, sz, hbn, A9, c9, v9, o9⟩ hK
  have hz := SZ.out
  have hg := LG.out
  rw [List.take_length] at v9 o9 hbn
  have HE : Hid (drpE l t c bits = 0) := zh (by
   have ha : (l.any fun r => decide (t ≤ r.t) || decide (c ≤ r.c)) = false := by
    rw [List.any_eq_false]
    intro x hx
    have := hbn x hx
    simp; omega
   unfold drpE; rw [HEE.out, HMM.out, if_neg (by omega), if_neg (by omega), ha]; rfl)
  have HP : Hid (drpL l t c bits = drpM c bits l) := zh (by unfold drpL; rw [if_pos HE.out]; rfl)
  generalize drpM c bits l = L9 at *
  have O9 := zh o9
  have HK := zh hK
  clear o9 hK hbn
  have NN := zh nn
  have V4 := zh v4
  have V5 := zh v5
  have V9 := zh v9
  clear v3 v4 v5 v9
  obtain ⟨c_V4_0, f_V4_0, l_V4⟩ := zfl1 V4
  obtain ⟨c_V5_0, f_V5_0, l_V5⟩ := zfl1 V5
  obtain ⟨c_V9_0, f_V9_0, l_V9⟩ := zfl1 V9
  gi_wp2_with fail
  clear c_V4_0 f_V4_0 l_V4 c_V5_0 f_V5_0 l_V5 c_V9_0 f_V9_0 l_V9
  replace HK := zh (blk_set_other (b' := w.heap.size + 1 + 1) (blk_set_other (b' := w.heap.size + 1) (HK.out) (by omega) 0 (.slice A9 L9.length c9)) (by omega) 0 (.int .i64 0))
  replace O9 := zh (OR.set_other (OR.set_other (O9.out) (show w.heap.size + 1 < W0.heap.size by omega) 0 (.slice A9 L9.length c9)) (show w.heap.size + 1 + 1 < W0.heap.size by omega) 0 (.int .i64 0))
  generalize hW : ((W.setCell ⟨w.heap.size + 1, 0, none⟩ (.slice A9 L9.length c9)).setCell ⟨w.heap.size + 1 + 1, 0, none⟩ (.int .i64 0)) = W1 at *
  replace V4 : Hid (W1.heap[w.heap.size + 1]? = some (.cells #[.slice A9 L9.length c9] 22)) := zs hW (blk_set_other (blk_set (V4.out) 0 (.slice A9 L9.length c9)) (by omega) 0 (.int .i64 0))
  replace V5 : Hid (W1.heap[w.heap.size + 1 + 1]? = some (.cells #[.int .i64 0] 24)) := zs hW (blk_set (blk_set_other (V5.out) (by omega) 0 (.slice A9 L9.length c9)) 0 (.int .i64 0))
  replace V9 : Hid (W1.heap[g4]? = some (.cells #[.slice A9 L9.length c9] 22)) := zs hW (blk_set_other (blk_set_other (V9.out) (by have := LG.out; omega) 0 (.slice A9 L9.length c9)) (by have := LG.out; omega) 0 (.int .i64 0))
  replace NN := zt hW (p := Below _ _) (Bset1 (Bset1 (NN.out) (by omega) 0 (.slice A9 L9.length c9)) (by omega) 0 (.int .i64 0))
  clear hW
  refine ⟨by simp, .inl ⟨_, _, rfl, run_takeDeferred HK.out, ?_⟩⟩
  have e0 := blk_cell (put_blk (D := D) (o' := .deferred none) V4.out (by omega)) 0 (.slice A9 L9.length c9) rfl
  have e1 := blk_cell (put_blk (D := D) (o' := .deferred none) V5.out (by omega)) 0 (.int .i64 0) rfl
  have h1 := HE.out
  exact ⟨.tuple #[.slice A9 L9.length c9, .int .i64 0], by simp [results, Tryz.results22, go_sem, e0, e1], ⟨_, by rw [← HPE.out, h1], by rw [← HPL.out, HP.out]; exact ownsRow_putObj (OR.mono O9.out (by omega)) _ HK.out rfl, put_below NN.out (by omega) (Nat.le_refl _) HK.out⟩⟩
 case stop =>
  rintro D cd k W hD hlt ⟨rfl, hx, v4, v5, nn⟩ hK
  have hz := SZ.out
  have hg := LG.out
  have HE : Hid (drpE l t c bits = 2) := zh (by
   have ha : (l.any fun r => decide (t ≤ r.t) || decide (c ≤ r.c)) = true := by simpa using hx
   unfold drpE; rw [HEE.out, HMM.out, if_neg (by omega), if_neg (by omega), ha]; rfl)
  have HK := zh hK
  clear hK hx
  have NN := zh nn
  have V4 := zh v4
  have V5 := zh v5
  gi_wp2_with fail
  refine ⟨by simp, .inl ⟨_, _, rfl, run_takeDeferred HK.out, ?_⟩⟩
  have e0 := blk_cell (put_blk (D := D) (o' := .deferred none) V4.out (by omega)) 0 (.slice none 0 0) rfl
  have e1 := blk_cell (put_blk (D := D) (o' := .deferred none) V5.out (by omega)) 0 (.int .i64 2) rfl
  have h1 := HE.out
  have h2 : drpL l t c bits = [] := by unfold drpL; rw [h1]; exact if_neg (by omega)
  exact ⟨.tuple #[.slice none 0 0, .int .i64 2], by simp [results, Tryz.results22, go_sem, e0, e1], ⟨_, by rw [← HPE.out, h1], by rw [← HPL.out, h2]; exact ownsRow_putObj (OR.nil _ _) _ HK.out rfl, put_below NN.out (by omega) (Nat.le_refl _) HK.out⟩⟩
end
section
open Go.ChangeShapes Go.WideShapes Go.ChangeAt Go.RowKit
attribute [local go_sem ↓] Go.wp_at_zero Go.wp_at_succ
theorem ib_run (w : World) : (callFunc 124 #[.string ⟨#[120, 10, 46, 10]⟩, .int .u8 10]).run Tryz.prog w = .ok (.value (.int .i64 1)) w := by kernel_rfl
def bf (b : Bool) : List Value := [.bool b]
theorem tyB : Ty 4 50 1 bf := ⟨⟨.bool false, 1, by kernel_rfl, rfl, by decide⟩, by kernel_rfl, by decide, fun _ => rfl, fun l u hu => by
 obtain ⟨s, _, hs⟩ := List.mem_flatMap.1 hu
 simp [bf] at hs
 rw [hs]; rfl⟩
abbrev OB (B : Nat) (w : World) (v : Value) (l : List Bool) : Prop := OG 4 1 bf B w v l
theorem bf_map (l : List Bool) : l.flatMap bf = l.map Value.bool := by
 induction l with
 | nil => rfl
 | cons b l ih => rw [List.flatMap_cons, ih]; rfl
theorem OB.rb {B : Nat} {w : World} {A : Option Addr} {n c : Nat} {l : List Bool} (h : OB B w (.slice A n c) l) : n = l.length ∧ l.length ≤ c ∧ c ≤ 9223372036854775807 ∧ RB w A l := by
 obtain ⟨A', c', e, h1, h2, h3, -⟩ := h.form
 injection e with e1 e2 e3
 subst e1 e2 e3
 rw [bf_map] at h3
 exact ⟨rfl, h1, h2, h3⟩
theorem Rd.bool {W : World} {b : Nat} {x : Bool} {T : TypeId} (h : W.heap[b]? = some (.cells #[.bool x] T)) : Rd W 1 (some ⟨b, 0, none⟩) [x].length ([x].flatMap bf) := by
 refine ⟨rfl, fun _ => ⟨b, 0, rfl, blk_lt h, fun j u hu => ?_⟩⟩
 refine blk_cell h (0 + j) u ?_
 simpa [bf] using hu
def bl (k : Nat) : List Bool := if k = 0 then [] else if k ≤ 2 then [true] else [true, false]
theorem slib_calls (w : World) : Calls Tryz.prog 98 #[.string ⟨#[120, 10, 46, 10]⟩, .int .u8 10] w fun e w' => e = .returned (.int .i64 1) ∧ Below w.heap.size w w' := by
 have hi := ib_run
 go_enter Tryz.func98, Tryz.ntmps98
 go_wp2_with fail
 go_ret
 exact ⟨rfl, Below.refl _ _⟩
theorem sib_calls (w : World) : Calls Tryz.prog 71 #[.string ⟨#[120, 10, 46, 10]⟩, .int .u8 10] w fun e w' => e = .returned (.int .i64 1) ∧ Below w.heap.size w w' := by
 skip
 go_enter Tryz.func71, Tryz.ntmps71
 go_wp2_with fail
 refine (slib_calls _).mono ?_
 rintro e w1 ⟨rfl, hb⟩
 go_wp2_with fail
 go_ret
 exact ⟨rfl, hb⟩
theorem fparse_calls (w : World) : Calls Tryz.prog 40 #[.string ⟨#[120, 10, 46, 10]⟩] w fun e w' => ∃ A c, e = .returned (.tuple #[Mv 2 1 A 2 c, .int .i64 0]) ∧ 2 ≤ c ∧ c ≤ 9223372036854775807 ∧ RB w' A [true, false] ∧ Below w.heap.size w w' := by
 have NN := zh (Below.refl w.heap.size w)
 go_enter Tryz.func40, Tryz.ntmps40
 go_wp2_with fail
 have Z : Hid ((w.alloc (.cells #[.int .i64 0, .int .i64 0, .slice none 0 0] 52)).heap[w.heap.size]? = some (.cells #[.int .i64 0, .int .i64 0, .slice none 0 0] 52)) := zh (blk_new w _)
 replace NN : Hid (Below w.heap.size w (w.alloc (.cells #[.int .i64 0, .int .i64 0, .slice none 0 0] 52))) := zh (Bal NN.out _)
 generalize (w.alloc (.cells #[.int .i64 0, .int .i64 0, .slice none 0 0] 52)) = W1 at *
 refine (sib_calls _).mono ?_
 rintro e w2 ⟨rfl, hb⟩
 replace NN := zh (Bgo NN.out hb)
 replace Z := zn hb Z
 clear hb
 go_upto_region 5 with fail
 obtain ⟨HB, V⟩ := zl (w := w2) (.cells #[.int .i64 2, .int .i64 1, .slice none 0 0] 52)
 have LT_V : Hid (w.heap.size < w2.heap.size ∧ w.heap.size ≤ w2.heap.size) := zh ⟨blk_lt Z.out, NN.out.size⟩
 replace NN := zh (Bgo NN.out HB.out)
 replace Z := zn HB Z
 clear HB
 generalize (w2.alloc (.cells #[.int .i64 2, .int .i64 1, .slice none 0 0] 52)) = W3 at *
 generalize w2.heap.size = gV at *
 go_wp2_with fail
 have LG : Hid (w.heap.size < gV) := zh (by have := LT_V.out; omega)
 clear LT_V
 go_loopw [43] (fun p wr => ∃ (k : Nat) (A : Option Addr) (c : Nat), k ≤ 4 ∧ p = .int .i64 k ∧ Hid (Below w.heap.size w wr) ∧ Hid (wr.heap[w.heap.size]? = some (.cells #[.int .i64 0, .int .i64 0, .slice none 0 0] 52)) ∧ Hid (wr.heap[gV]? = some (.cells #[.int .i64 2, .int .i64 1, .slice A (bl k).length c] 52)) ∧ Hid (OB w.heap.size wr (.slice A (bl k).length c) (bl k))) (fun p _ => 4 - (intOf p).toNat)
 case atStart => exact ⟨0, none, 0, by decide, rfl, NN, Z, V, zh (OG.nil _ _ _ _ _)⟩
 case round =>
  clear NN Z V
  obtain ⟨k, A, c, hk, rfl, NN, Z, V, OO⟩ := hrel
  rcases (show k = 0 ∨ k = 1 ∨ k = 2 ∨ k = 3 ∨ k = 4 by omega) with rfl | rfl | rfl | rfl | rfl
  ·have s0 : ((((⟨#[120, 10, 46, 10]⟩ : ByteArray)[0]).toNat : Nat) : Int) = 120 := rfl
   replace V : Hid (wr.heap[gV]? = some (.cells #[.int .i64 2, .int .i64 1, .slice A 0 c] 52)) := V
   replace OO : Hid (OB w.heap.size wr (.slice A 0 c) (bl 0)) := OO
   have BE := zh (Bal (Below.refl wr.heap.size wr) (.cells #[.bool true] 4))
   have WS := zh NN.out.size
   have NE9 : 52 ≠ 4 := by decide
   have hb9 : (bl 0).length + 1 ≤ 100000 := by decide
   obtain ⟨c_V_0, f_V_0, c_V_1, f_V_1, c_V_2, f_V_2, l_V⟩ := zfl3 V
   go_wp2_with (at_builtin; refine wpList_gapp tyB rfl _ _ rfl w.heap.size _ (bl 0) rfl (some ⟨wr.heap.size, 0, none⟩) 1 1 [true] rfl (OO.out.next BE.out) rfl (Rd.bool (blk_new wr _)) hb9 ?_ ?_; (rw [World.size_alloc]; have := WS.out; omega); intro v1 w8 o1 q1 t1; obtain ⟨A1, c1, hv1, -, -, -, -⟩ := OG.form o1; subst hv1; have OO1 := zh o1; have TT := zh t1; have QQ := zh q1; have Vn := zh (t1.blk (blk_next BE.out V.out) NE9); have c9a := blk_cell Vn.out 2 _ rfl; have f9a := blk_frozen Vn.out 2; have l9a := blk_lt Vn.out; clear o1 q1 t1)
   clear c_V_0 f_V_0 c_V_1 f_V_1 c_V_2 f_V_2 l_V
   replace OO1 : Hid (OB w.heap.size w8 (.slice A1 (bl 1).length c1) (bl 1)) := OO1
   have TS := zh (Oth.set Vn.out 2 (.slice A1 (bl 1).length c1))
   exact ⟨⟨1, A1, c1, by decide, by go_num, zh (Bset1 ((Bgo NN.out BE.out).trans QQ.out) (show w.heap.size ≤ gV by have := LG.out; omega) 2 _), zh (blk_set_other (b' := gV) (TT.out.blk (blk_next BE.out Z.out) NE9) (by have := LG.out; omega) 2 _), zh (blk_set Vn.out 2 _), zh (OO1.out.oth TS.out (by decide))⟩, by simp [intOf]⟩
  ·have s1 : ((((⟨#[120, 10, 46, 10]⟩ : ByteArray)[1]).toNat : Nat) : Int) = 10 := rfl
   go_wp2_with fail
   exact ⟨⟨2, A, c, by decide, by go_num, NN, Z, V, OO⟩, by simp [intOf]⟩
  ·have s2 : ((((⟨#[120, 10, 46, 10]⟩ : ByteArray)[2]).toNat : Nat) : Int) = 46 := rfl
   replace V : Hid (wr.heap[gV]? = some (.cells #[.int .i64 2, .int .i64 1, .slice A 1 c] 52)) := V
   replace OO : Hid (OB w.heap.size wr (.slice A 1 c) (bl 2)) := OO
   have BE := zh (Bal (Below.refl wr.heap.size wr) (.cells #[.bool false] 4))
   have WS := zh NN.out.size
   have NE9 : 52 ≠ 4 := by decide
   have hb9 : (bl 2).length + 1 ≤ 100000 := by decide
   obtain ⟨c_V_0, f_V_0, c_V_1, f_V_1, c_V_2, f_V_2, l_V⟩ := zfl3 V
   go_wp2_with (at_builtin; refine wpList_gapp tyB rfl _ _ rfl w.heap.size _ (bl 2) rfl (some ⟨wr.heap.size, 0, none⟩) 1 1 [false] rfl (OO.out.next BE.out) rfl (Rd.bool (blk_new wr _)) hb9 ?_ ?_; (rw [World.size_alloc]; have := WS.out; omega); intro v1 w8 o1 q1 t1; obtain ⟨A1, c1, hv1, -, -, -, -⟩ := OG.form o1; subst hv1; have OO1 := zh o1; have TT := zh t1; have QQ := zh q1; have Vn := zh (t1.blk (blk_next BE.out V.out) NE9); have c9a := blk_cell Vn.out 2 _ rfl; have f9a := blk_frozen Vn.out 2; have l9a := blk_lt Vn.out; clear o1 q1 t1)
   clear c_V_0 f_V_0 c_V_1 f_V_1 c_V_2 f_V_2 l_V
   replace OO1 : Hid (OB w.heap.size w8 (.slice A1 (bl 3).length c1) (bl 3)) := OO1
   have TS := zh (Oth.set Vn.out 2 (.slice A1 (bl 3).length c1))
   exact ⟨⟨3, A1, c1, by decide, by go_num, zh (Bset1 ((Bgo NN.out BE.out).trans QQ.out) (show w.heap.size ≤ gV by have := LG.out; omega) 2 _), zh (blk_set_other (b' := gV) (TT.out.blk (blk_next BE.out Z.out) NE9) (by have := LG.out; omega) 2 _), zh (blk_set Vn.out 2 _), zh (OO1.out.oth TS.out (by decide))⟩, by simp [intOf]⟩
  ·have s3 : ((((⟨#[120, 10, 46, 10]⟩ : ByteArray)[3]).toNat : Nat) : Int) = 10 := rfl
   go_wp2_with fail
   exact ⟨⟨4, A, c, by decide, by go_num, NN, Z, V, OO⟩, by simp [intOf]⟩
  ·replace V : Hid (wr.heap[gV]? = some (.cells #[.int .i64 2, .int .i64 1, .slice A 2 c] 52)) := V
   replace OO : Hid (OB w.heap.size wr (.slice A 2 c) [true, false]) := OO
   obtain ⟨c_V_0, f_V_0, c_V_1, f_V_1, c_V_2, f_V_2, l_V⟩ := zfl3 V
   obtain ⟨c_Z_0, f_Z_0, c_Z_1, f_Z_1, c_Z_2, f_Z_2, l_Z⟩ := zfl3 Z
   go_wp2_with fail
   clear c_V_0 f_V_0 c_V_1 f_V_1 c_V_2 f_V_2 l_V c_Z_0 f_Z_0 c_Z_1 f_Z_1 c_Z_2 f_Z_2 l_Z
   have OOn : Hid (OB w.heap.size (((wr.setCell ⟨w.heap.size, 0, none⟩ (.int .i64 2)).setCell ⟨w.heap.size, 1, none⟩ (.int .i64 1)).setCell ⟨w.heap.size, 2, none⟩ (.slice A 2 c)) (.slice A 2 c) [true, false]) := zh (OO.out.oth ((Oth.set Z.out 0 _).trans ((Oth.set (blk_set Z.out 0 _) 1 _).trans (Oth.set (blk_set (blk_set Z.out 0 _) 1 _) 2 _))) (by decide))
   generalize hW : (((wr.setCell ⟨w.heap.size, 0, none⟩ (.int .i64 2)).setCell ⟨w.heap.size, 1, none⟩ (.int .i64 1)).setCell ⟨w.heap.size, 2, none⟩ (.slice A 2 c)) = W4 at *
   replace Z : Hid (W4.heap[w.heap.size]? = some (.cells #[.int .i64 2, .int .i64 1, .slice A 2 c] 52)) := zs hW (blk_set (blk_set (blk_set (Z.out) 0 (.int .i64 2)) 1 (.int .i64 1)) 2 (.slice A 2 c))
   replace V : Hid (W4.heap[gV]? = some (.cells #[.int .i64 2, .int .i64 1, .slice A 2 c] 52)) := zs hW (blk_set_other (blk_set_other (blk_set_other (V.out) (by have := LG.out; omega) 0 (.int .i64 2)) (by have := LG.out; omega) 1 (.int .i64 1)) (by have := LG.out; omega) 2 (.slice A 2 c))
   replace NN := zt hW (p := Below _ _) (Bset1 (Bset1 (Bset1 (NN.out) (by omega) 0 (.int .i64 2)) (by omega) 1 (.int .i64 1)) (by omega) 2 (.slice A 2 c))
   clear hW
   obtain ⟨c_Z_0, c_Z_1, c_Z_2, l_Z⟩ := zcl3 Z
   exact bodyPost_ret (v := .tuple #[.agg #[.int .i64 2, .int .i64 1, .slice A 2 c], .int .i64 0]) (by simp [results, Tryz.results40, go_sem, c_Z_0, c_Z_1, c_Z_2]) rfl ⟨A, c, rfl, OOn.out.rb.2.1, OOn.out.rb.2.2.1, OOn.out.rb.2.2.2, NN.out⟩
end
end Go.Proofs.YtbbnkclajpaghaaGreatDoor
