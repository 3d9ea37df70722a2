/- Several texts in one. -/
import Derived.OwnWalk
import Derived.Test.YtbbnkclajpaghaaGreatDoorRows
import Derived.Test.YtbbnkclajpaghaaGreatDoorMF04
import Derived.Test.YtbbnkclajpaghaaGreatDoorMF05
import Derived.Test.YtbbnkclajpaghaaGreatDoorMF06
import Derived.Test.YtbbnkclajpaghaaGreatDoorMF10
set_option maxHeartbeats 8000000
set_option maxRecDepth 100000
set_option linter.unusedVariables false
set_option linter.unusedSimpArgs false
namespace Go.Proofs.YtbbnkclajpaghaaGreatDoor
section
open Go.ChangeShapes Go.WideShapes Go.ChangeAt Go.RowKit
attribute [local go_sem] Oper.semAt_some
abbrev RB (w : World) (A : Option Addr) (b : List Bool) : Prop := Rd w 1 A b.length (b.map Value.bool)
abbrev Mv (t c : Int) (A : Option Addr) (n cap : Nat) : Value := .agg #[.int .i64 t, .int .i64 c, .slice A n cap]
theorem flagcheck_calls (t c : Int) (A : Option Addr) (b : List Bool) (cap : Nat) (hb : b.length ≤ 1000000) (w : World) : Calls Tryz.prog 46 #[Mv t c A b.length cap] w fun e w' => e = .returned (.int .i64 (mskE t c b)) ∧ Below w.heap.size w w' := by
 generalize hv : mskE t c b = v
 unfold mskE at hv
 have NN := zh (Below.refl w.heap.size w)
 generalize hn : b.length = n at *
 have hc : 32 < t ∨ (t ≤ 32 ∧ 16 < c) ∨ (t ≤ 32 ∧ c ≤ 16 ∧ t < 1) ∨ (t ≤ 32 ∧ c ≤ 16 ∧ 1 ≤ t ∧ c < 1) ∨ (t ≤ 32 ∧ c ≤ 16 ∧ 1 ≤ t ∧ 1 ≤ c) := by omega
 rcases hc with h | ⟨h, h1⟩ | ⟨h, h1, h2⟩ | ⟨h, h1, h2, h3⟩ | ⟨h, h1, h2, h3⟩
 ·have HV : Hid (v = 4) := zh (by rw [← hv, if_pos (by omega)])
  have d0 : decide (32 < t) = true := decide_eq_true (by omega)
  clear hv hn
  go_enter Tryz.func46, Tryz.ntmps46
  go_wp2_with fail
  go_ret
  exact ⟨ret_int HV.out.symm, Bal NN.out _⟩
 ·have HV : Hid (v = 4) := zh (by rw [← hv, if_pos (by omega)])
  have d0 : decide (32 < t) = false := decide_eq_false (by omega)
  have d1 : decide (16 < c) = true := decide_eq_true (by omega)
  clear hv hn
  go_enter Tryz.func46, Tryz.ntmps46
  go_wp2_with fail
  go_ret
  exact ⟨ret_int HV.out.symm, Bal NN.out _⟩
 ·have HV : Hid (v = 8) := zh (by rw [← hv, if_neg (by omega), if_pos (by omega)])
  have d0 : decide (32 < t) = false := decide_eq_false (by omega)
  have d1 : decide (16 < c) = false := decide_eq_false (by omega)
  have d2 : decide (t < 1) = true := decide_eq_true (by omega)
  clear hv hn
  go_enter Tryz.func46, Tryz.ntmps46
  go_wp2_with fail
  go_ret
  exact ⟨ret_int HV.out.symm, Bal NN.out _⟩
 ·have HV : Hid (v = 8) := zh (by rw [← hv, if_neg (by omega), if_pos (by omega)])
  have d0 : decide (32 < t) = false := decide_eq_false (by omega)
  have d1 : decide (16 < c) = false := decide_eq_false (by omega)
  have d2 : decide (t < 1) = false := decide_eq_false (by omega)
  have d3 : decide (c < 1) = true := decide_eq_true (by omega)
  clear hv hn
  go_enter Tryz.func46, Tryz.ntmps46
  go_wp2_with fail
  go_ret
  exact ⟨ret_int HV.out.symm, Bal NN.out _⟩
 ·have hy0 : 0 ≤ t * c := Int.mul_nonneg (by omega) (by omega)
  have hy1 : t * c ≤ 32 * 16 := Int.mul_le_mul h h1 (by omega) (by omega)
  have hw : IntKind.i64.wrap (t * c) = t * c := IntWalk.i64_in _ (by omega)
  have d0 : decide (32 < t) = false := decide_eq_false (by omega)
  have d1 : decide (16 < c) = false := decide_eq_false (by omega)
  have d2 : decide (t < 1) = false := decide_eq_false (by omega)
  have d3 : decide (c < 1) = false := decide_eq_false (by omega)
  by_cases he : (n : Int) = t * c
  ·have HV : Hid (v = 0) := zh (by rw [← hv, if_neg (by omega), if_neg (by omega)])
   have q1 : ((n : Int) != t * c) = false := by rw [he]; simp
   clear hv hn he
   go_enter Tryz.func46, Tryz.ntmps46
   go_wp2_with fail
   go_ret
   exact ⟨ret_int HV.out.symm, Bal NN.out _⟩
  ·have HV : Hid (v = 8) := zh (by rw [← hv, if_neg (by omega), if_pos (by omega)])
   have q1 : ((n : Int) != t * c) = true := by simpa using he
   clear hv hn he
   go_enter Tryz.func46, Tryz.ntmps46
   go_wp2_with fail
   go_ret
   exact ⟨ret_int HV.out.symm, Bal NN.out _⟩
theorem idx_lt {t c x y : Int} (hx : 0 ≤ x) (hxt : x < t) (hy : 0 ≤ y) (hyc : y < c) : 0 ≤ x * c + y ∧ x * c + y < t * c ∧ 0 ≤ x * c ∧ x * c ≤ t * c := by
 have h1 : 0 ≤ x * c := Int.mul_nonneg hx (by omega)
 have h2 : (x + 1) * c ≤ t * c := Int.mul_le_mul_of_nonneg_right (by omega) (by omega)
 rw [Int.add_mul, Int.one_mul] at h2
 omega
theorem RB.at_ {w : World} {A : Option Addr} {b : List Bool} (h : RB w A b) {q : Nat} (hq : q < b.length) : ∃ bb off, A = some ⟨bb, off, none⟩ ∧ bb < w.heap.size ∧ w.cell? ⟨bb, off + q, none⟩ = some (.bool (b.getD q false)) := by
 obtain ⟨bb, off, e, hl, hc⟩ := h.2 (by omega)
 refine ⟨bb, off, e, hl, hc q _ ?_⟩
 simp [List.getD, hq]
theorem msk_ok {t c : Int} {b : List Bool} (h : mskE t c b = 0) : 1 ≤ t ∧ t ≤ 32 ∧ 1 ≤ c ∧ c ≤ 16 ∧ (b.length : Int) = t * c := by
 unfold mskE at h
 split at h
 ·omega
 ·split at h <;> omega
def drpM (c : Int) (b : List Bool) (l : List Vr) : List Vr := l.map (drpR c b)
theorem map_take (c : Int) (b : List Bool) {l : List Vr} {k : Nat} (hk : k < l.length) : drpM c b (l.take (k + 1)) = drpM c b (l.take k) ++ [drpR c b (rowAt l k)] := by
 unfold drpM
 rw [List.take_succ_eq_append_getElem hk, List.map_append, rowAt_lt hk]; rfl
theorem drop_calls {A Am : Option Addr} {cap cm : Nat} {l : List Vr} {bits : List Bool} {w : World} (t c : Int) (hl : RT w A l) (hA : ∀ b off, A = some ⟨b, off, none⟩ → b < w.heap.size) (hc : l.length ≤ cap) (hc' : cap ≤ 9223372036854775807)
  (hb : RB w Am bits) (hbl : bits.length ≤ 1000000) (hbc : bits.length ≤ cm) : Calls Tryz.prog 22 #[.slice A l.length cap, Mv t c Am bits.length cm] w fun e w' =>
  ∃ v, e = .returned (.tuple #[v, .int .i64 (drpE l t c bits)]) ∧ OR w.heap.size w' v (drpL l t c bits) ∧ Below w.heap.size w w' := by
 have CK : Hid (∀ W : World, Below w.heap.size w W → Calls Tryz.prog 20 #[.slice A l.length cap] W fun e w' => e = .returned (.int .i64 (chkE l)) ∧ Below W.heap.size W w') := zh (fun W (hb : Below w.heap.size w W) => chk_calls (w := W) (hl.next hb) (fun b off h => Nat.lt_of_lt_of_le (hA b off h) hb.size) hc hc')
 have CM := zh (flagcheck_calls t c Am bits cm hbl)
 obtain ⟨pe, hpe⟩ : ∃ pe, drpE l t c bits = pe := ⟨_, rfl⟩
 obtain ⟨pl, hpl⟩ : ∃ pl, drpL l t c bits = pl := ⟨_, rfl⟩
 obtain ⟨E, hE⟩ : ∃ E, chkE l = E := ⟨_, rfl⟩
 obtain ⟨M, hM⟩ : ∃ M, mskE t c bits = M := ⟨_, rfl⟩
 have HPE := zh hpe
 have HPL := zh hpl
 have HEE := zh hE
 have HMM := zh hM
 rw [hpe, hpl]
 rw [hE] at CK
 rw [hM] at CM
 clear hpe hpl hE hM
 have HL := zh hl
 have HA := zh hA
 have HB := zh hb
 have NN := zh (Below.refl w.heap.size w)
 clear hl hA hb
 refine (callsIn_wide (n := 0)).1 ?_
 refine callsIn_of_wp_marks Tryz.func22 rfl trivial ?_ rfl
 simp only [Tryz.ntmps22, List.size_toArray, List.length_cons, List.length_nil, Nat.reduceAdd, Nat.reduceSub, Array.replicate_succ, Array.replicate_zero, List.push_toArray, List.append_toArray, List.nil_append, List.cons_append]
 gi_wp2_with fail
 have V3 : Hid ((((w.alloc (.cells #[.int .i64 t, .int .i64 c, .slice Am bits.length cm] 52)).alloc (.cells #[.slice none 0 0] 22)).alloc (.cells #[.int .i64 0] 24)).heap[w.heap.size]? = some (.cells #[.int .i64 t, .int .i64 c, .slice Am bits.length cm] 52)) := zh (blk_alloc (blk_alloc (blk_new w _) _) _)
 have V4 : Hid ((((w.alloc (.cells #[.int .i64 t, .int .i64 c, .slice Am bits.length cm] 52)).alloc (.cells #[.slice none 0 0] 22)).alloc (.cells #[.int .i64 0] 24)).heap[w.heap.size + 1]? = some (.cells #[.slice none 0 0] 22)) := zh (blk_alloc (blk_at _ (by simp)) _)
 have V5 : Hid ((((w.alloc (.cells #[.int .i64 t, .int .i64 c, .slice Am bits.length cm] 52)).alloc (.cells #[.slice none 0 0] 22)).alloc (.cells #[.int .i64 0] 24)).heap[w.heap.size + 1 + 1]? = some (.cells #[.int .i64 0] 24)) := zh (blk_at _ (by simp))
 replace NN : Hid (Below w.heap.size w (((w.alloc (.cells #[.int .i64 t, .int .i64 c, .slice Am bits.length cm] 52)).alloc (.cells #[.slice none 0 0] 22)).alloc (.cells #[.int .i64 0] 24))) := zh (Bal (Bal (Bal NN.out _) _) _)
 generalize (((w.alloc (.cells #[.int .i64 t, .int .i64 c, .slice Am bits.length cm] 52)).alloc (.cells #[.slice none 0 0] 22)).alloc (.cells #[.int .i64 0] 24)) = W1 at *
 refine ⟨trivial, rfl, ((callsIn_wide (n := 0)).2 (CK.out _ NN.out)).mono ?_⟩
 rintro e w2 ⟨rfl, hb⟩
 replace NN := zh (Bgo NN.out hb)
 replace V3 := zn hb V3
 replace V4 := zn hb V4
 replace V5 := zn hb V5
 clear hb
 by_cases h0 : E ≠ 0
 ·have q1 : (E != 0) = true := by simpa using h0
  have HE0 := zh h0
  clear h0
  obtain ⟨c_V4_0, f_V4_0, l_V4⟩ := zfl1 V4
  obtain ⟨c_V5_0, f_V5_0, l_V5⟩ := zfl1 V5
  gi_wp2_with fail
  clear c_V4_0 f_V4_0 l_V4 c_V5_0 f_V5_0 l_V5
  generalize hW : ((w2.setCell ⟨w.heap.size + 1, 0, none⟩ (.slice none 0 0)).setCell ⟨w.heap.size + 1 + 1, 0, none⟩ (.int .i64 E)) = W3 at *
  replace V3 : Hid (W3.heap[w.heap.size]? = some (.cells #[.int .i64 t, .int .i64 c, .slice Am bits.length cm] 52)) := zs hW (blk_set_other (blk_set_other (V3.out) (by omega) 0 (.slice none 0 0)) (by omega) 0 (.int .i64 E))
  replace V4 : Hid (W3.heap[w.heap.size + 1]? = some (.cells #[.slice none 0 0] 22)) := zs hW (blk_set_other (blk_set (V4.out) 0 (.slice none 0 0)) (by omega) 0 (.int .i64 E))
  replace V5 : Hid (W3.heap[w.heap.size + 1 + 1]? = some (.cells #[.int .i64 E] 24)) := zs hW (blk_set (blk_set_other (V5.out) (by omega) 0 (.slice none 0 0)) 0 (.int .i64 E))
  replace NN := zt hW (p := Below _ _) (Bset1 (Bset1 (NN.out) (by omega) 0 (.slice none 0 0)) (by omega) 0 (.int .i64 E))
  clear hW
  have e0 := blk_cell V4.out 0 (.slice none 0 0) rfl
  have e1 := blk_cell V5.out 0 (.int .i64 E) rfl
  have h1 : drpE l t c bits = E := by unfold drpE; rw [HEE.out, if_pos HE0.out]
  have h2 : drpL l t c bits = [] := by unfold drpL; rw [h1]; exact if_neg HE0.out
  exact ⟨.tuple #[.slice none 0 0, .int .i64 E], by simp [results, Tryz.results22, go_sem, e0, e1], ⟨_, by rw [← HPE.out, h1], by rw [← HPL.out, h2]; exact OR.nil _ _, NN.out⟩⟩
 have h0' : E = 0 := by omega
 subst h0'
 clear h0
 obtain ⟨hg, hn⟩ := chkE_good HEE.out
 have HG := zh hg
 clear hg
 obtain ⟨c_V3_0, f_V3_0, c_V3_1, f_V3_1, c_V3_2, f_V3_2, l_V3⟩ := zfl3 V3
 gi_wp2_with fail
 refine ⟨trivial, rfl, ((callsIn_wide (n := 0)).2 (CM.out _)).mono ?_⟩
 rintro e w4 ⟨rfl, hb⟩
 clear c_V3_0 f_V3_0 c_V3_1 f_V3_1 c_V3_2 f_V3_2 l_V3
 replace NN := zh (Bgo NN.out hb)
 replace V3 := zn hb V3
 replace V4 := zn hb V4
 replace V5 := zn hb V5
 clear hb
 by_cases h0 : M ≠ 0
 ·have q1 : (M != 0) = true := by simpa using h0
  have HE0 := zh h0
  clear h0
  obtain ⟨c_V4_0, f_V4_0, l_V4⟩ := zfl1 V4
  obtain ⟨c_V5_0, f_V5_0, l_V5⟩ := zfl1 V5
  gi_wp2_with fail
  clear c_V4_0 f_V4_0 l_V4 c_V5_0 f_V5_0 l_V5
  generalize hW : ((w4.setCell ⟨w.heap.size + 1, 0, none⟩ (.slice none 0 0)).setCell ⟨w.heap.size + 1 + 1, 0, none⟩ (.int .i64 M)) = W5 at *
  replace V3 : Hid (W5.heap[w.heap.size]? = some (.cells #[.int .i64 t, .int .i64 c, .slice Am bits.length cm] 52)) := zs hW (blk_set_other (blk_set_other (V3.out) (by omega) 0 (.slice none 0 0)) (by omega) 0 (.int .i64 M))
  replace V4 : Hid (W5.heap[w.heap.size + 1]? = some (.cells #[.slice none 0 0] 22)) := zs hW (blk_set_other (blk_set (V4.out) 0 (.slice none 0 0)) (by omega) 0 (.int .i64 M))
  replace V5 : Hid (W5.heap[w.heap.size + 1 + 1]? = some (.cells #[.int .i64 M] 24)) := zs hW (blk_set (blk_set_other (V5.out) (by omega) 0 (.slice none 0 0)) 0 (.int .i64 M))
  replace NN := zt hW (p := Below _ _) (Bset1 (Bset1 (NN.out) (by omega) 0 (.slice none 0 0)) (by omega) 0 (.int .i64 M))
  clear hW
  have e0 := blk_cell V4.out 0 (.slice none 0 0) rfl
  have e1 := blk_cell V5.out 0 (.int .i64 M) rfl
  have h1 : drpE l t c bits = M := by unfold drpE; rw [HEE.out, HMM.out, if_neg (by omega), if_pos HE0.out]
  have h2 : drpL l t c bits = [] := by unfold drpL; rw [h1]; exact if_neg HE0.out
  exact ⟨.tuple #[.slice none 0 0, .int .i64 M], by simp [results, Tryz.results22, go_sem, e0, e1], ⟨_, by rw [← HPE.out, h1], by rw [← HPL.out, h2]; exact OR.nil _ _, NN.out⟩⟩
 have h0' : M = 0 := by omega
 subst h0'
 clear h0
 obtain ⟨m1, m2, m3, m4, m5⟩ := msk_ok HMM.out
 have M5 := zh m5
 clear m5 CK CM
 gi_wp2_with fail
 refine ⟨trivial, rfl, (callsIn_wide.2 (rows_calls A _ cap _)).mono ?_⟩
 rintro e w9 ⟨rfl, rfl⟩
 gi_wp2_with fail
 have LG : Hid (w.heap.size + 3 ≤ w4.heap.size) := zh (by have := blk_lt V5.out; omega)
 replace NN : Hid (Below w.heap.size w ((w4.alloc (.cells #[.slice none 0 0] 22)).alloc (.cells #[.slice A l.length cap] 22))) := zh (Bal (Bal NN.out _) _)
 have SZ : Hid (((w4.alloc (.cells #[.slice none 0 0] 22)).alloc (.cells #[.slice A l.length cap] 22)).heap.size = w4.heap.size + 2) := zh (by simp)
 replace V3 : Hid (((w4.alloc (.cells #[.slice none 0 0] 22)).alloc (.cells #[.slice A l.length cap] 22)).heap[w.heap.size]? = some (.cells #[.int .i64 t, .int .i64 c, .slice Am bits.length cm] 52)) := zh (blk_alloc (blk_alloc V3.out _) _)
 replace V4 : Hid (((w4.alloc (.cells #[.slice none 0 0] 22)).alloc (.cells #[.slice A l.length cap] 22)).heap[w.heap.size + 1]? = some (.cells #[.slice none 0 0] 22)) := zh (blk_alloc (blk_alloc V4.out _) _)
 replace V5 : Hid (((w4.alloc (.cells #[.slice none 0 0] 22)).alloc (.cells #[.slice A l.length cap] 22)).heap[w.heap.size + 1 + 1]? = some (.cells #[.int .i64 0] 24)) := zh (blk_alloc (blk_alloc V5.out _) _)
 have V9 : Hid (((w4.alloc (.cells #[.slice none 0 0] 22)).alloc (.cells #[.slice A l.length cap] 22)).heap[w4.heap.size]? = some (.cells #[.slice none 0 0] 22)) := zh (blk_alloc (blk_new w4 _) _)
 have VT : Hid (((w4.alloc (.cells #[.slice none 0 0] 22)).alloc (.cells #[.slice A l.length cap] 22)).heap[w4.heap.size + 1]? = some (.cells #[.slice A l.length cap] 22)) := zh (blk_at _ (by simp))
 generalize ((w4.alloc (.cells #[.slice none 0 0] 22)).alloc (.cells #[.slice A l.length cap] 22)) = W0 at *
 generalize w4.heap.size = g4 at *
 refine range_n 50 #[.pointer (some ⟨g4 + 1, 0, none⟩)] rfl (enters_of Tryz.func50 (by kernel_rfl) rfl) (encR l) w.heap.size l.length
  (rows_seq (HL.out.next NN.out) HA.out (by omega) (by have := SZ.out; have := LG.out; omega) VT.out) (by have := SZ.out; have := LG.out; omega) (fun _ => rfl)
  (fun k W => (W.heap[w.heap.size]? = some (.cells #[.int .i64 t, .int .i64 c, .slice Am bits.length cm] 52)) ∧ (W.heap[w.heap.size + 1]? = some (.cells #[.slice none 0 0] 22)) ∧ (W.heap[w.heap.size + 1 + 1]? = some (.cells #[.int .i64 0] 24)) ∧ (Below w.heap.size w W) ∧ (g4 + 2 ≤ W.heap.size) ∧ (∀ x ∈ l.take k, x.t < t ∧ x.c < c) ∧ (∃ A9 c9, W.heap[g4]? = some (.cells #[.slice A9 (drpM c bits (l.take k)).length c9] 22) ∧ OR W0.heap.size W (.slice A9 (drpM c bits (l.take k)).length c9) (drpM c bits (l.take k))))
  (fun cd k W => ((cd = .ret) ∧ (∃ x ∈ l, t ≤ x.t ∨ c ≤ x.c) ∧ (W.heap[w.heap.size + 1]? = some (.cells #[.slice none 0 0] 22)) ∧ (W.heap[w.heap.size + 1 + 1]? = some (.cells #[.int .i64 2] 24)) ∧ (Below w.heap.size w W)))
  (fun k a' W => ∃ Bx : Nat, (a' = { tmps := #[.slice A l.length cap, Mv t c Am bits.length cm, undef, .pointer (some ⟨w.heap.size, 0, none⟩), .pointer (some ⟨w.heap.size + 1, 0, none⟩), .pointer (some ⟨w.heap.size + 1 + 1, 0, none⟩), .int .i64 0, .int .i64 0, .pointer (some ⟨g4, 0, none⟩), undef, .pointer (some ⟨Bx, 0, none⟩), .slice A l.length cap, .int .i64 0, .int .i64 0, .bool false, undef, .agg #[.int .i64 t, .int .i64 c, .slice Am bits.length cm], .int .i64 0, .int .i64 0, .bool false, undef, .slice A l.length cap, .func (.func 50) #[] #[.pointer (some ⟨g4 + 1, 0, none⟩)], .int .i64 (k : Int), Rwv (rowAt l k), undef, undef, undef, undef, undef, undef, undef, undef, undef, undef, undef, undef, undef, undef, undef, undef, undef, undef, undef, undef, undef, undef, undef, undef, undef, undef, undef, undef, undef, undef, undef], defers := [] }) ∧ (g4 + 2 ≤ Bx) ∧ (W.heap[Bx]? = some (.cells #[.int .i64 (rowAt l k).t, .int .i64 (rowAt l k).c, .int .i64 (rowAt l k).i, .int .i64 (rowAt l k).j, .int .i64 (rowAt l k).re, .int .i64 (rowAt l k).im, .int .i64 (rowAt l k).dn, .int .i64 (rowAt l k).n] 67)) ∧ (W.heap[w.heap.size]? = some (.cells #[.int .i64 t, .int .i64 c, .slice Am bits.length cm] 52)) ∧ (W.heap[w.heap.size + 1]? = some (.cells #[.slice none 0 0] 22)) ∧ (W.heap[w.heap.size + 1 + 1]? = some (.cells #[.int .i64 0] 24)) ∧ (Below w.heap.size w W) ∧ (g4 + 2 ≤ W.heap.size) ∧ (∀ x ∈ l.take k, x.t < t ∧ x.c < c) ∧ (∃ A9 c9, W.heap[g4]? = some (.cells #[.slice A9 (drpM c bits (l.take k)).length c9] 22) ∧ OR W0.heap.size W (.slice A9 (drpM c bits (l.take k)).length c9) (drpM c bits (l.take k))))
  ((own_blk _ _ _).and ((own_blk _ _ _).and ((own_blk _ _ _).and ((ownFrom_below (Nat.le_refl _) (by have := SZ.out; have := LG.out; omega)).and ((own_size _).and ((own_pure _).and (own_ex fun _ => own_ex fun _ => (own_blk _ _ _).and (own_row _ _))))))))
  (fun _ => ((own_pure _).and ((own_pure _).and ((own_blk _ _ _).and ((own_blk _ _ _).and (ownFrom_below (Nat.le_refl _) (by have := SZ.out; have := LG.out; omega)))))))
  (fun _ => own_ex fun _ => ((own_pure _).and ((own_pure _).and ((own_blk _ _ _).and ((own_blk _ _ _).and ((own_blk _ _ _).and ((own_blk _ _ _).and ((ownFrom_below (Nat.le_refl _) (by have := SZ.out; have := LG.out; omega)).and ((own_size _).and ((own_pure _).and (own_ex fun _ => own_ex fun _ => (own_blk _ _ _).and (own_row _ _))))))))))))
  ⟨V3.out, V4.out, V5.out, NN.out, (by have := SZ.out; have := LG.out; omega), fun x hx => by simp at hx, ⟨none, 0, V9.out, OR.nil _ _⟩⟩ ?assign ?body ?done ?stop
 case assign =>
  rintro lp k W K ⟨v3, v4, v5, nn, sz, hbn, A9, c9, v9, o9⟩ hlt hK
  gi_wp2
  exact hK _ _ (keeps_of_below (Bal (Below.refl _ _) _)) ((Below.refl _ W).alloc nn.size _) ⟨W.heap.size, rfl, sz, blk_new W _, blk_alloc v3 _, blk_alloc v4 _, blk_alloc v5 _, Bal nn _, by rw [World.size_alloc]; omega, hbn, A9, c9, blk_alloc v9 _, o9.alloc _⟩
 case body =>
  rintro lp k a' W ⟨Bx, rfl, lx, vx, v3, v4, v5, nn, sz, hbn, A9, c9, v9, o9⟩ hlt
  have hlen : (drpM c bits (l.take k)).length ≤ 200 := by unfold drpM; rw [List.length_map, List.length_take]; omega
  have HF := zh (map_take c bits hlt)
  have HBN := zh hbn
  have HTK : Hid (l.take (k + 1) = l.take k ++ [rowAt l k]) := zh (by rw [List.take_succ_eq_append_getElem hlt, rowAt_lt hlt])
  have hx : rowB (rowAt l k) = true := by rw [rowAt_lt hlt]; exact goodF_row HG.out _ (List.getElem_mem hlt)
  have HM : Hid (rowAt l k ∈ l) := zh (by rw [rowAt_lt hlt]; exact List.getElem_mem hlt)
  obtain ⟨x1, x2, x3, x4, -⟩ := rowB_facts hx
  have hz := SZ.out
  have hg := LG.out
  generalize drpM c bits (l.take k) = L9 at *
  generalize rowAt l k = s at *
  have O9 := zh o9
  have SW : Hid (W0.heap.size ≤ W.heap.size) := zh (by omega)
  clear o9 hx hbn
  have NN := zh nn
  have KF := zh (KeepsFrom.refl W0.heap.size W)
  have V3 := zh v3
  have V4 := zh v4
  have V5 := zh v5
  have V9 := zh v9
  have VX := zh vx
  clear v3 v4 v5 v9 vx
  have hc3 : t ≤ s.t ∨ (s.t < t ∧ c ≤ s.c) ∨ (s.t < t ∧ s.c < c) := by omega
  rcases hc3 with h | ⟨h, h1⟩ | ⟨h, h1⟩
  ·have d1 : decide (t ≤ s.t) = true := decide_eq_true h
   obtain ⟨c_V3_0, f_V3_0, c_V3_1, f_V3_1, c_V3_2, f_V3_2, l_V3⟩ := zfl3 V3
   obtain ⟨c_V4_0, f_V4_0, l_V4⟩ := zfl1 V4
   obtain ⟨c_V5_0, f_V5_0, l_V5⟩ := zfl1 V5
   obtain ⟨c_VX_0, f_VX_0, c_VX_1, f_VX_1, c_VX_2, f_VX_2, c_VX_3, f_VX_3, c_VX_4, f_VX_4, c_VX_5, f_VX_5, c_VX_6, f_VX_6, c_VX_7, f_VX_7, l_VX⟩ := zfl8 VX
   gi_wp2_with fail
   clear c_V3_0 f_V3_0 c_V3_1 f_V3_1 c_V3_2 f_V3_2 l_V3 c_V4_0 f_V4_0 l_V4 c_V5_0 f_V5_0 l_V5 c_VX_0 f_VX_0 c_VX_1 f_VX_1 c_VX_2 f_VX_2 c_VX_3 f_VX_3 c_VX_4 f_VX_4 c_VX_5 f_VX_5 c_VX_6 f_VX_6 c_VX_7 f_VX_7 l_VX
   replace KF := zh (keep_set (keep_set (KF.out) (w.heap.size + 1) 0 (.slice none 0 0)) (w.heap.size + 1 + 1) 0 (.int .i64 2))
   generalize hW : ((W.setCell ⟨w.heap.size + 1, 0, none⟩ (.slice none 0 0)).setCell ⟨w.heap.size + 1 + 1, 0, none⟩ (.int .i64 2)) = W1 at *
   replace V3 : Hid (W1.heap[w.heap.size]? = some (.cells #[.int .i64 t, .int .i64 c, .slice Am bits.length cm] 52)) := zs hW (blk_set_other (blk_set_other (V3.out) (by omega) 0 (.slice none 0 0)) (by omega) 0 (.int .i64 2))
   replace V4 : Hid (W1.heap[w.heap.size + 1]? = some (.cells #[.slice none 0 0] 22)) := zs hW (blk_set_other (blk_set (V4.out) 0 (.slice none 0 0)) (by omega) 0 (.int .i64 2))
   replace V5 : Hid (W1.heap[w.heap.size + 1 + 1]? = some (.cells #[.int .i64 2] 24)) := zs hW (blk_set (blk_set_other (V5.out) (by omega) 0 (.slice none 0 0)) 0 (.int .i64 2))
   replace V9 : Hid (W1.heap[g4]? = some (.cells #[.slice A9 L9.length c9] 22)) := zs hW (blk_set_other (blk_set_other (V9.out) (by omega) 0 (.slice none 0 0)) (by omega) 0 (.int .i64 2))
   replace VX : Hid (W1.heap[Bx]? = some (.cells #[.int .i64 s.t, .int .i64 s.c, .int .i64 s.i, .int .i64 s.j, .int .i64 s.re, .int .i64 s.im, .int .i64 s.dn, .int .i64 s.n] 67)) := zs hW (blk_set_other (blk_set_other (VX.out) (by omega) 0 (.slice none 0 0)) (by omega) 0 (.int .i64 2))
   replace NN := zt hW (p := Below _ _) (Bset1 (Bset1 (NN.out) (by omega) 0 (.slice none 0 0)) (by omega) 0 (.int .i64 2))
   clear hW
   exact ⟨KF.out, rfl, ⟨s, HM.out, .inl h⟩, V4.out, V5.out, NN.out⟩
  ·have d1 : decide (t ≤ s.t) = false := decide_eq_false (by omega)
   have d2 : decide (c ≤ s.c) = true := decide_eq_true h1
   obtain ⟨c_V3_0, f_V3_0, c_V3_1, f_V3_1, c_V3_2, f_V3_2, l_V3⟩ := zfl3 V3
   obtain ⟨c_V4_0, f_V4_0, l_V4⟩ := zfl1 V4
   obtain ⟨c_V5_0, f_V5_0, l_V5⟩ := zfl1 V5
   obtain ⟨c_VX_0, f_VX_0, c_VX_1, f_VX_1, c_VX_2, f_VX_2, c_VX_3, f_VX_3, c_VX_4, f_VX_4, c_VX_5, f_VX_5, c_VX_6, f_VX_6, c_VX_7, f_VX_7, l_VX⟩ := zfl8 VX
   gi_wp2_with fail
   clear c_V3_0 f_V3_0 c_V3_1 f_V3_1 c_V3_2 f_V3_2 l_V3 c_V4_0 f_V4_0 l_V4 c_V5_0 f_V5_0 l_V5 c_VX_0 f_VX_0 c_VX_1 f_VX_1 c_VX_2 f_VX_2 c_VX_3 f_VX_3 c_VX_4 f_VX_4 c_VX_5 f_VX_5 c_VX_6 f_VX_6 c_VX_7 f_VX_7 l_VX
   replace KF := zh (keep_set (keep_set (KF.out) (w.heap.size + 1) 0 (.slice none 0 0)) (w.heap.size + 1 + 1) 0 (.int .i64 2))
   generalize hW : ((W.setCell ⟨w.heap.size + 1, 0, none⟩ (.slice none 0 0)).setCell ⟨w.heap.size + 1 + 1, 0, none⟩ (.int .i64 2)) = W2 at *
   replace V3 : Hid (W2.heap[w.heap.size]? = some (.cells #[.int .i64 t, .int .i64 c, .slice Am bits.length cm] 52)) := zs hW (blk_set_other (blk_set_other (V3.out) (by omega) 0 (.slice none 0 0)) (by omega) 0 (.int .i64 2))
   replace V4 : Hid (W2.heap[w.heap.size + 1]? = some (.cells #[.slice none 0 0] 22)) := zs hW (blk_set_other (blk_set (V4.out) 0 (.slice none 0 0)) (by omega) 0 (.int .i64 2))
   replace V5 : Hid (W2.heap[w.heap.size + 1 + 1]? = some (.cells #[.int .i64 2] 24)) := zs hW (blk_set (blk_set_other (V5.out) (by omega) 0 (.slice none 0 0)) 0 (.int .i64 2))
   replace V9 : Hid (W2.heap[g4]? = some (.cells #[.slice A9 L9.length c9] 22)) := zs hW (blk_set_other (blk_set_other (V9.out) (by omega) 0 (.slice none 0 0)) (by omega) 0 (.int .i64 2))
   replace VX : Hid (W2.heap[Bx]? = some (.cells #[.int .i64 s.t, .int .i64 s.c, .int .i64 s.i, .int .i64 s.j, .int .i64 s.re, .int .i64 s.im, .int .i64 s.dn, .int .i64 s.n] 67)) := zs hW (blk_set_other (blk_set_other (VX.out) (by omega) 0 (.slice none 0 0)) (by omega) 0 (.int .i64 2))
   replace NN := zt hW (p := Below _ _) (Bset1 (Bset1 (NN.out) (by omega) 0 (.slice none 0 0)) (by omega) 0 (.int .i64 2))
   clear hW
   exact ⟨KF.out, rfl, ⟨s, HM.out, .inr h1⟩, V4.out, V5.out, NN.out⟩
  ·have d1 : decide (t ≤ s.t) = false := decide_eq_false (by omega)
   have d2 : decide (c ≤ s.c) = false := decide_eq_false (by omega)
   obtain ⟨y1, y2, y3, y4⟩ := idx_lt x1 h x3 h1
   obtain ⟨q, hq⟩ : ∃ q, (s.t * c + s.c).toNat = q := ⟨_, rfl⟩
   have hq2 : s.t * c + s.c = (q : Int) := by omega
   have hql : q < bits.length := by have := M5.out; omega
   obtain ⟨bb, bo, eA, bl, cb⟩ := RB.at_ HB.out hql
   subst eA
   replace cb := (NN.out.cell (p := ⟨bb, bo + q, none⟩) bl).trans cb
   replace bl := Nat.lt_of_lt_of_le bl NN.out.size
   have HD : Hid (drpR c bits s = bif bits.getD q false then { s with n := 0 } else s) := zh (by unfold drpR; rw [hq]; cases bits.getD q false <;> rfl)
   have hw1 : IntKind.i64.wrap (s.t * c) = s.t * c := IntWalk.i64_in _ (by have := M5.out; omega)
   have hw2 : IntKind.i64.wrap (s.t * c + s.c) = (q : Int) := by rw [hq2]; exact IntWalk.i64_in _ (by omega)
   have HBD : Hid (s.t < t ∧ s.c < c) := zh ⟨h, h1⟩
   rw [HD.out] at HF
   clear HD hq hq2 y1 y2 y3 y4
   cases hbit : bits.getD q false
   ·rw [hbit] at cb
    replace HF := zh (by have h := HF.out; rw [hbit] at h; exact h)
    clear hbit
    have OB9 := O9
    have BB := zh (Below.refl W0.heap.size W)
    have KB := zh (KeepsFrom.refl W0.heap.size W)
    have SB : Hid (W0.heap.size ≤ W.heap.size) := zh (Nat.le_trans SW.out BB.out.size)
    have HSZ : Hid (W.heap.size = W.heap.size) := zh (by simp)
    have HZ := zh hz
    clear hz
    have hz2 : g4 < W0.heap.size := by have := HZ.out; omega
    have hz3 : w.heap.size + 1 + 1 < W0.heap.size := by have := HZ.out; omega
    obtain ⟨c_V3_0, f_V3_0, c_V3_1, f_V3_1, c_V3_2, f_V3_2, l_V3⟩ := zfl3 V3
    obtain ⟨c_V9_0, f_V9_0, l_V9⟩ := zfl1 V9
    obtain ⟨c_VX_0, f_VX_0, c_VX_1, f_VX_1, c_VX_2, f_VX_2, c_VX_3, f_VX_3, c_VX_4, f_VX_4, c_VX_5, f_VX_5, c_VX_6, f_VX_6, c_VX_7, f_VX_7, l_VX⟩ := zfl8 VX
    gi_wp2_with (gi_at_builtin; refine wpListIn_app rfl _ _ rfl W0.heap.size _ L9 rfl (some ⟨W.heap.size, 0, none⟩) 1 1 [s] rfl (OB9.out.alloc _) rfl (RT.one (r := s) (blk_at _ HSZ.out)) ?_ ?_ ?_; omega; (rw [World.size_alloc]; have := SB.out; omega); intro v1 w1 o1 q1 k1; obtain ⟨A1, c1, hv1, -⟩ := OR.form o1; rw [show (L9 ++ [s]).length = L9.length + 1 by simp] at hv1; subst hv1; have B1 := zh ((BB.out.alloc SB.out _).trans q1); have O1 := zh o1; have K1 := zh (KB.out.trans (((KeepsOthers.alloc W _).trans k1).from W0.heap.size)); have V91 := zh (blk_B B1.out V9.out (by omega)); have c9a := blk_cell V91.out 0 (.slice A9 L9.length c9) rfl; have f9a := blk_frozen V91.out 0; have l9a := blk_lt V91.out; clear o1 q1 k1)
    clear c_V3_0 f_V3_0 c_V3_1 f_V3_1 c_V3_2 f_V3_2 l_V3 c_V9_0 f_V9_0 l_V9 c_VX_0 f_VX_0 c_VX_1 f_VX_1 c_VX_2 f_VX_2 c_VX_3 f_VX_3 c_VX_4 f_VX_4 c_VX_5 f_VX_5 c_VX_6 f_VX_6 c_VX_7 f_VX_7 l_VX
    clear c9a f9a l9a V91
    replace V3 := zh (blk_B B1.out V3.out (by omega))
    replace V4 := zh (blk_B B1.out V4.out (by omega))
    replace V5 := zh (blk_B B1.out V5.out (by omega))
    replace V9 := zh (blk_B B1.out V9.out (by omega))
    replace NN := zh (NN.out.trans (B1.out.mono (by omega)))
    replace KF := K1
    clear VX OB9 BB KB SB
    have hz := HZ.out
    replace KF := zh (keep_set (KF.out) (g4) 0 (.slice A1 (L9.length + 1) c1))
    replace O1 := zh (OR.set_other (O1.out) (show g4 < W0.heap.size by omega) 0 (.slice A1 (L9.length + 1) c1))
    generalize hW : (w1.setCell ⟨g4, 0, none⟩ (.slice A1 (L9.length + 1) c1)) = W3 at *
    replace V3 : Hid (W3.heap[w.heap.size]? = some (.cells #[.int .i64 t, .int .i64 c, .slice (some ⟨bb, bo, none⟩) bits.length cm] 52)) := zs hW (blk_set_other (V3.out) (by omega) 0 (.slice A1 (L9.length + 1) c1))
    replace V4 : Hid (W3.heap[w.heap.size + 1]? = some (.cells #[.slice none 0 0] 22)) := zs hW (blk_set_other (V4.out) (by omega) 0 (.slice A1 (L9.length + 1) c1))
    replace V5 : Hid (W3.heap[w.heap.size + 1 + 1]? = some (.cells #[.int .i64 0] 24)) := zs hW (blk_set_other (V5.out) (by omega) 0 (.slice A1 (L9.length + 1) c1))
    replace V9 : Hid (W3.heap[g4]? = some (.cells #[.slice A1 (L9.length + 1) c1] 22)) := zs hW (blk_set (V9.out) 0 (.slice A1 (L9.length + 1) c1))
    replace NN := zt hW (p := Below _ _) (Bset1 (NN.out) (by omega) 0 (.slice A1 (L9.length + 1) c1))
    clear hW
    refine ⟨KF.out, below_mid nn NN.out KF.out.size, V3.out, V4.out, V5.out, NN.out, by have := KF.out.size; omega, ?_, A1, c1, ?_, ?_⟩
    ·intro x hx
     rw [HTK.out] at hx
     rcases List.mem_append.1 hx with hx | hx
     ·exact HBN.out x hx
     ·rw [List.mem_singleton.1 hx]; exact HBD.out
    ·rw [HF.out]; simpa using V9.out
    ·rw [HF.out]; simpa using O1.out
   ·rw [hbit] at cb
    replace HF := zh (by have h := HF.out; rw [hbit] at h; exact h)
    clear hbit
    have OB9 := zh (OR.set_ne O9.out VX.out (by decide) 7 (.int .i64 0))
    have BB : Hid (Below W0.heap.size W (W.setCell ⟨Bx, 7, none⟩ (.int .i64 0))) := zh ((Below.refl _ W).setCell (p := ⟨Bx, 7, none⟩) (show W0.heap.size ≤ Bx by omega) _)
    have KB := zh (keep_set (KeepsFrom.refl W0.heap.size W) Bx 7 (.int .i64 0))
    have SB : Hid (W0.heap.size ≤ (W.setCell ⟨Bx, 7, none⟩ (.int .i64 0)).heap.size) := zh (Nat.le_trans SW.out BB.out.size)
    have HSZ : Hid (W.heap.size = (W.setCell ⟨Bx, 7, none⟩ (.int .i64 0)).heap.size) := zh (by simp)
    have HZ := zh hz
    clear hz
    have hz2 : g4 < W0.heap.size := by have := HZ.out; omega
    have hz3 : w.heap.size + 1 + 1 < W0.heap.size := by have := HZ.out; omega
    obtain ⟨c_V3_0, f_V3_0, c_V3_1, f_V3_1, c_V3_2, f_V3_2, l_V3⟩ := zfl3 V3
    obtain ⟨c_V9_0, f_V9_0, l_V9⟩ := zfl1 V9
    obtain ⟨c_VX_0, f_VX_0, c_VX_1, f_VX_1, c_VX_2, f_VX_2, c_VX_3, f_VX_3, c_VX_4, f_VX_4, c_VX_5, f_VX_5, c_VX_6, f_VX_6, c_VX_7, f_VX_7, l_VX⟩ := zfl8 VX
    gi_wp2_with (gi_at_builtin; refine wpListIn_app rfl _ _ rfl W0.heap.size _ L9 rfl (some ⟨W.heap.size, 0, none⟩) 1 1 [({ s with n := 0 } : Vr)] rfl (OB9.out.alloc _) rfl (RT.one (r := ({ s with n := 0 } : Vr)) (blk_at _ HSZ.out)) ?_ ?_ ?_; omega; (rw [World.size_alloc]; have := SB.out; omega); intro v1 w1 o1 q1 k1; obtain ⟨A1, c1, hv1, -⟩ := OR.form o1; rw [show (L9 ++ [({ s with n := 0 } : Vr)]).length = L9.length + 1 by simp] at hv1; subst hv1; have B1 := zh ((BB.out.alloc SB.out _).trans q1); have O1 := zh o1; have K1 := zh (KB.out.trans (((KeepsOthers.alloc (W.setCell ⟨Bx, 7, none⟩ (.int .i64 0)) _).trans k1).from W0.heap.size)); have V91 := zh (blk_B B1.out V9.out (by omega)); have c9a := blk_cell V91.out 0 (.slice A9 L9.length c9) rfl; have f9a := blk_frozen V91.out 0; have l9a := blk_lt V91.out; clear o1 q1 k1)
    clear c_V3_0 f_V3_0 c_V3_1 f_V3_1 c_V3_2 f_V3_2 l_V3 c_V9_0 f_V9_0 l_V9 c_VX_0 f_VX_0 c_VX_1 f_VX_1 c_VX_2 f_VX_2 c_VX_3 f_VX_3 c_VX_4 f_VX_4 c_VX_5 f_VX_5 c_VX_6 f_VX_6 c_VX_7 f_VX_7 l_VX
    clear c9a f9a l9a V91
    replace V3 := zh (blk_B B1.out V3.out (by omega))
    replace V4 := zh (blk_B B1.out V4.out (by omega))
    replace V5 := zh (blk_B B1.out V5.out (by omega))
    replace V9 := zh (blk_B B1.out V9.out (by omega))
    replace NN := zh (NN.out.trans (B1.out.mono (by omega)))
    replace KF := K1
    clear VX OB9 BB KB SB
    have hz := HZ.out
    replace KF := zh (keep_set (KF.out) (g4) 0 (.slice A1 (L9.length + 1) c1))
    replace O1 := zh (OR.set_other (O1.out) (show g4 < W0.heap.size by omega) 0 (.slice A1 (L9.length + 1) c1))
    generalize hW : (w1.setCell ⟨g4, 0, none⟩ (.slice A1 (L9.length + 1) c1)) = W4 at *
    replace V3 : Hid (W4.heap[w.heap.size]? = some (.cells #[.int .i64 t, .int .i64 c, .slice (some ⟨bb, bo, none⟩) bits.length cm] 52)) := zs hW (blk_set_other (V3.out) (by omega) 0 (.slice A1 (L9.length + 1) c1))
    replace V4 : Hid (W4.heap[w.heap.size + 1]? = some (.cells #[.slice none 0 0] 22)) := zs hW (blk_set_other (V4.out) (by omega) 0 (.slice A1 (L9.length + 1) c1))
    replace V5 : Hid (W4.heap[w.heap.size + 1 + 1]? = some (.cells #[.int .i64 0] 24)) := zs hW (blk_set_other (V5.out) (by omega) 0 (.slice A1 (L9.length + 1) c1))
    replace V9 : Hid (W4.heap[g4]? = some (.cells #[.slice A1 (L9.length + 1) c1] 22)) := zs hW (blk_set (V9.out) 0 (.slice A1 (L9.length + 1) c1))
    replace NN := zt hW (p := Below _ _) (Bset1 (NN.out) (by omega) 0 (.slice A1 (L9.length + 1) c1))
    clear hW
    refine ⟨KF.out, below_mid nn NN.out KF.out.size, V3.out, V4.out, V5.out, NN.out, by have := KF.out.size; omega, ?_, A1, c1, ?_, ?_⟩
    ·intro x hx
     rw [HTK.out] at hx
     rcases List.mem_append.1 hx with hx | hx
     ·exact HBN.out x hx
     ·rw [List.mem_singleton.1 hx]; exact HBD.out
    ·rw [HF.out]; simpa using V9.out
    ·rw [HF.out]; simpa using O1.out
 case done =>
  rintro D W hD ⟨v3, v4, v5, nn, sz, hbn, A9, c9, v9, o9⟩ hK
  have hz := SZ.out
  have hg := LG.out
  rw [List.take_length] at v9 o9 hbn
  have HE : Hid (drpE l t c bits = 0) := zh (by
   have ha : (l.any fun r => decide (t ≤ r.t) || decide (c ≤ r.c)) = false := by
    rw [List.any_eq_false]
    intro x hx
    have := hbn x hx
    simp; omega
   unfold drpE; rw [HEE.out, HMM.out, if_neg (by omega), if_neg (by omega), ha]; rfl)
  have HP : Hid (drpL l t c bits = drpM c bits l) := zh (by unfold drpL; rw [if_pos HE.out]; rfl)
  generalize drpM c bits l = L9 at *
  have O9 := zh o9
  have HK := zh hK
  clear o9 hK hbn
  have NN := zh nn
  have V4 := zh v4
  have V5 := zh v5
  have V9 := zh v9
  clear v3 v4 v5 v9
  obtain ⟨c_V4_0, f_V4_0, l_V4⟩ := zfl1 V4
  obtain ⟨c_V5_0, f_V5_0, l_V5⟩ := zfl1 V5
  obtain ⟨c_V9_0, f_V9_0, l_V9⟩ := zfl1 V9
  gi_wp2_with fail
  clear c_V4_0 f_V4_0 l_V4 c_V5_0 f_V5_0 l_V5 c_V9_0 f_V9_0 l_V9
  replace HK := zh (blk_set_other (b' := w.heap.size + 1 + 1) (blk_set_other (b' := w.heap.size + 1) (HK.out) (by omega) 0 (.slice A9 L9.length c9)) (by omega) 0 (.int .i64 0))
  replace O9 := zh (OR.set_other (OR.set_other (O9.out) (show w.heap.size + 1 < W0.heap.size by omega) 0 (.slice A9 L9.length c9)) (show w.heap.size + 1 + 1 < W0.heap.size by omega) 0 (.int .i64 0))
  generalize hW : ((W.setCell ⟨w.heap.size + 1, 0, none⟩ (.slice A9 L9.length c9)).setCell ⟨w.heap.size + 1 + 1, 0, none⟩ (.int .i64 0)) = W1 at *
  replace V4 : Hid (W1.heap[w.heap.size + 1]? = some (.cells #[.slice A9 L9.length c9] 22)) := zs hW (blk_set_other (blk_set (V4.out) 0 (.slice A9 L9.length c9)) (by omega) 0 (.int .i64 0))
  replace V5 : Hid (W1.heap[w.heap.size + 1 + 1]? = some (.cells #[.int .i64 0] 24)) := zs hW (blk_set (blk_set_other (V5.out) (by omega) 0 (.slice A9 L9.length c9)) 0 (.int .i64 0))
  replace V9 : Hid (W1.heap[g4]? = some (.cells #[.slice A9 L9.length c9] 22)) := zs hW (blk_set_other (blk_set_other (V9.out) (by have := LG.out; omega) 0 (.slice A9 L9.length c9)) (by have := LG.out; omega) 0 (.int .i64 0))
  replace NN := zt hW (p := Below _ _) (Bset1 (Bset1 (NN.out) (by omega) 0 (.slice A9 L9.length c9)) (by omega) 0 (.int .i64 0))
  clear hW
  refine ⟨by simp, .inl ⟨_, _, rfl, run_takeDeferred HK.out, ?_⟩⟩
  have e0 := blk_cell (put_blk (D := D) (o' := .deferred none) V4.out (by omega)) 0 (.slice A9 L9.length c9) rfl
  have e1 := blk_cell (put_blk (D := D) (o' := .deferred none) V5.out (by omega)) 0 (.int .i64 0) rfl
  have h1 := HE.out
  exact ⟨.tuple #[.slice A9 L9.length c9, .int .i64 0], by simp [results, Tryz.results22, go_sem, e0, e1], ⟨_, by rw [← HPE.out, h1], by rw [← HPL.out, HP.out]; exact ownsRow_putObj (OR.mono O9.out (by omega)) _ HK.out rfl, put_below NN.out (by omega) (Nat.le_refl _) HK.out⟩⟩
 case stop =>
  rintro D cd k W hD hlt ⟨rfl, hx, v4, v5, nn⟩ hK
  have hz := SZ.out
  have hg := LG.out
  have HE : Hid (drpE l t c bits = 2) := zh (by
   have ha : (l.any fun r => decide (t ≤ r.t) || decide (c ≤ r.c)) = true := by simpa using hx
   unfold drpE; rw [HEE.out, HMM.out, if_neg (by omega), if_neg (by omega), ha]; rfl)
  have HK := zh hK
  clear hK hx
  have NN := zh nn
  have V4 := zh v4
  have V5 := zh v5
  gi_wp2_with fail
  refine ⟨by simp, .inl ⟨_, _, rfl, run_takeDeferred HK.out, ?_⟩⟩
  have e0 := blk_cell (put_blk (D := D) (o' := .deferred none) V4.out (by omega)) 0 (.slice none 0 0) rfl
  have e1 := blk_cell (put_blk (D := D) (o' := .deferred none) V5.out (by omega)) 0 (.int .i64 2) rfl
  have h1 := HE.out
  have h2 : drpL l t c bits = [] := by unfold drpL; rw [h1]; exact if_neg (by omega)
  exact ⟨.tuple #[.slice none 0 0, .int .i64 2], by simp [results, Tryz.results22, go_sem, e0, e1], ⟨_, by rw [← HPE.out, h1], by rw [← HPL.out, h2]; exact ownsRow_putObj (OR.nil _ _) _ HK.out rfl, put_below NN.out (by omega) (Nat.le_refl _) HK.out⟩⟩
end
section
open Go.ChangeShapes Go.WideShapes Go.ChangeAt Go.RowKit
theorem same_calls {A B : Option Addr} {ca cb : Nat} {l : List Vr} {w : World} (ha : RT w A l) (hb : RT w B l) (h1 : l.length ≤ ca) (h2 : l.length ≤ cb) (hn : l.length ≤ 1000000) : Calls Tryz.prog 13 #[.slice A l.length ca, .slice B l.length cb] w fun e w' =>
  e = .returned (.bool true) ∧ Below w.heap.size w w' := by
 have HA := zh ha
 have HB := zh hb
 have NN := zh (Below.refl w.heap.size w)
 clear ha hb
 go_enter Tryz.func13, Tryz.ntmps13
 go_wp2_with fail
 go_loopw [5] (fun p wr => ∃ k m : Nat, k ≤ l.length ∧ p = .int .i64 (k : Int) ∧ wr = w.drewN m) (fun p _ => l.length - (intOf p).toNat)
 case atStart => exact ⟨0, 0, Nat.zero_le _, rfl, rfl⟩
 case round =>
  obtain ⟨k, m, hk, rfl, rfl⟩ := hrel
  by_cases hlt : l.length ≤ k
  ·have e : k = l.length := by omega
   subst e
   go_wp2_with fail
   go_ret
   exact ⟨rfl, below_drewN NN.out _⟩
  replace hlt : k < l.length := by omega
  obtain ⟨b, bo, eb, bl, a0, a1, a2, a3, a4, a5, a6, a7⟩ := RT.at_ HA.out hlt
  rw [← rowAt_lt hlt] at a0 a1 a2 a3 a4 a5 a6 a7
  subst eb
  obtain ⟨z, zo, ez, zl, g0, g1, g2, g3, g4, g5, g6, g7⟩ := RT.at_ HB.out hlt
  rw [← rowAt_lt hlt] at g0 g1 g2 g3 g4 g5 g6 g7
  subst ez
  generalize rowAt l k = s at *
  have k1 : k < ca := by omega
  have k2 : k < cb := by omega
  go_wp2_with fail
  go_quiet (fail)
  go_wp2_with fail
  refine ⟨⟨k + 1, m + nq, by omega, by go_num, rfl⟩, by simp [intOf]; omega⟩
end
section
open Go.ChangeShapes Go.WideShapes Go.ChangeAt Go.RowKit
attribute [local go_sem ↓] Go.wp_at_zero Go.wp_at_succ
structure HR (W : World) (v : Value) (l : List Vr) : Prop where
 ex : ∃ A c, v = .slice A l.length c ∧ l.length ≤ c ∧ c ≤ 9223372036854775807 ∧ RT W A l ∧ ∀ b off, A = some ⟨b, off, none⟩ → b < W.heap.size
theorem OR.hr {B : Nat} {W : World} {v : Value} {l : List Vr} (h : OR B W v l) : HR W v l := ⟨by obtain ⟨A, c, h1, h2, h3, h4, h5⟩ := OR.form h; exact ⟨A, c, h1, h2, h3, h4, h5⟩⟩
theorem HR.next {W W' : World} {v : Value} {l : List Vr} (h : HR W v l) (hb : Below W.heap.size W W') : HR W' v l := ⟨by obtain ⟨A, c, h1, h2, h3, h4, h5⟩ := h.ex; exact ⟨A, c, h1, h2, h3, h4.next hb, fun b off e => Nat.lt_of_lt_of_le (h5 b off e) hb.size⟩⟩
theorem same_of {W : World} {v u : Value} {l : List Vr} (h : HR W v l) (k : HR W u l) (hn : l.length ≤ 1000000) : Calls Tryz.prog 13 #[v, u] W fun e w' => e = .returned (.bool true) ∧ Below W.heap.size W w' := by
 obtain ⟨A, c, rfl, h2, h3, h4, h5⟩ := h.ex
 obtain ⟨A', c', rfl, k2, k3, k4, k5⟩ := k.ex
 exact same_calls h4 k4 h2 k2 hn
theorem text_of {W : World} {v : Value} {l : List Vr} (h : HR W v l) (g : GL W) : Calls Tryz.prog 9 #[v] W fun e w' => e = .returned (.tuple #[Str (txO l), .int .i64 (txE l)]) ∧ Below W.heap.size W w' := by
 obtain ⟨A, c, rfl, h2, h3, h4, h5⟩ := h.ex
 exact ttext_calls h4 h5 h2 h3 g
end
section
section
variable {α : Type} {key : α → Int}
def Srt (key : α → Int) (l : List α) : Prop := l.Pairwise fun a b => key a ≤ key b
def FE (key : α → Int) (l m : List α) : Prop := ∀ k, l.filter (fun a => key a == k) = m.filter (fun a => key a == k)
theorem FE.refl (l : List α) : FE key l l := fun _ => rfl
theorem FE.symm {l m : List α} (h : FE key l m) : FE key m l := fun k => (h k).symm
theorem FE.trans {l m n : List α} (h : FE key l m) (h' : FE key m n) : FE key l n := fun k => (h k).trans (h' k)
theorem FE.app {l m l' m' : List α} (h : FE key l m) (h' : FE key l' m') : FE key (l ++ l') (m ++ m') := fun k => by rw [List.filter_append, List.filter_append, h k, h' k]
theorem FE.swap {l m : List α} (h : ∀ a ∈ l, ∀ b ∈ m, key a ≠ key b) : FE key (l ++ m) (m ++ l) := fun k => by
 rw [List.filter_append, List.filter_append]
 by_cases hk : ∃ a ∈ l, key a = k
 ·obtain ⟨a, ha, e⟩ := hk
  have : m.filter (fun a => key a == k) = [] := List.filter_eq_nil_iff.2 fun b hb => by
   have := h a ha b hb
   simp; omega
  rw [this, List.append_nil, List.nil_append]
 ·have : l.filter (fun a => key a == k) = [] := List.filter_eq_nil_iff.2 fun a ha => by
   simp; exact fun e => hk ⟨a, ha, e⟩
  rw [this, List.append_nil, List.nil_append]
theorem FE.mem {l m : List α} (h : FE key l m) {a : α} : a ∈ l ↔ a ∈ m := by
 have e := h (key a)
 constructor
 ·intro ha
  have : a ∈ l.filter (fun b => key b == key a) := List.mem_filter.2 ⟨ha, by simp⟩
  rw [e] at this
  exact (List.mem_filter.1 this).1
 ·intro ha
  have : a ∈ m.filter (fun b => key b == key a) := List.mem_filter.2 ⟨ha, by simp⟩
  rw [← e] at this
  exact (List.mem_filter.1 this).1
theorem Srt.app {l m : List α} : Srt key (l ++ m) ↔ Srt key l ∧ Srt key m ∧ ∀ a ∈ l, ∀ b ∈ m, key a ≤ key b := List.pairwise_append
theorem Srt.one (a : α) : Srt key [a] := List.pairwise_singleton ..
theorem Srt.nil : Srt key ([] : List α) := List.Pairwise.nil
theorem Srt.unique : ∀ {l m : List α}, Srt key l → Srt key m → FE key l m → l = m
 | [], m, _, _, h => by
  cases m with
  | nil => rfl
  | cons b m => exact absurd ((h.mem (a := b)).2 (List.mem_cons_self ..)) (by simp)
 | a :: l, m, hl, hm, h => by
  cases m with
  | nil => exact absurd ((h.mem (a := a)).1 (List.mem_cons_self ..)) (by simp)
  | cons b m =>
   obtain ⟨h1, h2⟩ := List.pairwise_cons.1 hl
   obtain ⟨h3, h4⟩ := List.pairwise_cons.1 hm
   have hab : key a = key b := by
    have ha : a ∈ b :: m := (h.mem (a := a)).1 (List.mem_cons_self ..)
    have hb : b ∈ a :: l := (h.mem (a := b)).2 (List.mem_cons_self ..)
    have k1 : key b ≤ key a := by
     rcases List.mem_cons.1 ha with e | e
     ·rw [e]; exact Int.le_refl _
     ·exact h3 a e
    have k2 : key a ≤ key b := by
     rcases List.mem_cons.1 hb with e | e
     ·rw [e]; exact Int.le_refl _
     ·exact h1 b e
    omega
   have e := h (key a)
   rw [List.filter_cons_of_pos (by simp), List.filter_cons_of_pos (by simp [hab])] at e
   injection e with e1 e2
   subst e1
   congr 1
   refine Srt.unique h2 h4 fun k => ?_
   by_cases hk : key a = k
   ·rw [← hk]; exact e2
   ·have := h k
    rwa [List.filter_cons_of_neg (by simpa using hk), List.filter_cons_of_neg (by simpa using hk)] at this
structure Part (key : α → Int) (U V : List α) (u v : Nat) : Prop where
 hu : u ≤ U.length
 hv : v ≤ V.length
 lo : ∀ a ∈ U.take u, ∀ b ∈ V.drop v, key a ≤ key b
 hi : ∀ a ∈ U.drop u, ∀ b ∈ V.take v, key b < key a
theorem Part.merge {U V : List α} {u v : Nat} (p : Part key U V u v) (hU : Srt key U) (hV : Srt key V) {X Y : List α} (hX : Srt key X) (hY : Srt key Y)
  (fX : FE key (U.take u ++ V.take v) X) (fY : FE key (U.drop u ++ V.drop v) Y) : Srt key (X ++ Y) ∧ FE key (U ++ V) (X ++ Y) := by
 have sU : U.take u ++ U.drop u = U := List.take_append_drop ..
 have sV : V.take v ++ V.drop v = V := List.take_append_drop ..
 constructor
 ·rw [Srt.app]
  refine ⟨hX, hY, fun a ha b hb => ?_⟩
  have ha' := (fX.mem (a := a)).2 ha
  have hb' := (fY.mem (a := b)).2 hb
  rcases List.mem_append.1 ha' with h1 | h1 <;> rcases List.mem_append.1 hb' with h2 | h2
  ·rw [← sU, Srt.app] at hU; exact hU.2.2 a h1 b h2
  ·exact p.lo a h1 b h2
  ·have := p.hi b h2 a h1; omega
  ·rw [← sV, Srt.app] at hV; exact hV.2.2 a h1 b h2
 ·have e1 : FE key (U ++ V) (U.take u ++ (U.drop u ++ V.take v) ++ V.drop v) := by
   rw [← List.append_assoc, sU, List.append_assoc, sV]; exact FE.refl _
  have e2 : FE key (U.take u ++ (U.drop u ++ V.take v) ++ V.drop v) (U.take u ++ (V.take v ++ U.drop u) ++ V.drop v) :=
   ((FE.refl _).app (FE.swap fun a ha b hb => by have := p.hi a ha b hb; omega)).app (FE.refl _)
  have e3 : U.take u ++ (V.take v ++ U.drop u) ++ V.drop v = (U.take u ++ V.take v) ++ (U.drop u ++ V.drop v) := by simp
  rw [e3] at e2
  exact (e1.trans e2).trans (fX.app fY)
theorem Srt.get {l : List α} (h : Srt key l) {i j : Nat} {a b : α} (hij : i ≤ j) (ha : l[i]? = some a) (hb : l[j]? = some b) : key a ≤ key b := by
 by_cases e : i = j
 ·subst e; rw [ha] at hb; injection hb with hb; rw [hb]; exact Int.le_refl _
 ·obtain ⟨hi, rfl⟩ := List.getElem?_eq_some_iff.1 ha
  obtain ⟨hj, rfl⟩ := List.getElem?_eq_some_iff.1 hb
  exact List.pairwise_iff_getElem.1 h i j hi hj (by omega)
theorem mem_take_get {l : List α} {n : Nat} {a : α} (h : a ∈ l.take n) : ∃ i, i < n ∧ l[i]? = some a := by
 obtain ⟨i, hi⟩ := List.mem_iff_getElem?.1 h
 rw [List.getElem?_take] at hi
 split at hi
 ·exact ⟨i, by assumption, hi⟩
 ·cases hi
theorem mem_drop_get {l : List α} {n : Nat} {a : α} (h : a ∈ l.drop n) : ∃ i, n ≤ i ∧ l[i]? = some a := by
 obtain ⟨i, hi⟩ := List.mem_iff_getElem?.1 h
 rw [List.getElem?_drop] at hi
 exact ⟨n + i, by omega, hi⟩
theorem Part.mk_ {U V : List α} {u v : Nat} (hU : Srt key U) (hV : Srt key V) (hu : u ≤ U.length) (hv : v ≤ V.length)
  (lo : ∀ a b, 0 < u → U[u - 1]? = some a → V[v]? = some b → key a ≤ key b) (hi : ∀ a b, 0 < v → U[u]? = some a → V[v - 1]? = some b → key b < key a) : Part key U V u v where
 hu := hu
 hv := hv
 lo := fun a ha b hb => by
  obtain ⟨i, hi, hia⟩ := mem_take_get ha
  obtain ⟨j, hj, hjb⟩ := mem_drop_get hb
  have hvl : v < V.length := Nat.lt_of_le_of_lt hj (List.getElem?_eq_some_iff.1 hjb).1
  have h1 := hU.get (show i ≤ u - 1 by omega) hia (List.getElem?_eq_getElem (show u - 1 < U.length by omega))
  have h2 := hV.get hj (List.getElem?_eq_getElem hvl) hjb
  have h3 := lo _ _ (by omega) (List.getElem?_eq_getElem (show u - 1 < U.length by omega)) (List.getElem?_eq_getElem hvl)
  omega
 hi := fun a ha b hb => by
  obtain ⟨i, hi', hia⟩ := mem_drop_get ha
  obtain ⟨j, hj, hjb⟩ := mem_take_get hb
  have hul : u < U.length := Nat.lt_of_le_of_lt hi' (List.getElem?_eq_some_iff.1 hia).1
  have h1 := hU.get hi' (List.getElem?_eq_getElem hul) hia
  have h2 := hV.get (show j ≤ v - 1 by omega) hjb (List.getElem?_eq_getElem (show v - 1 < V.length by omega))
  have h3 := hi _ _ (by omega) (List.getElem?_eq_getElem hul) (List.getElem?_eq_getElem (show v - 1 < V.length by omega))
  omega
end
end
section
def ptN (b : Bool) (r : Vr) : Int := if b then r.im else r.re
def wgt : List Vr → Int
 | [] => 0
 | r :: l => r.n + wgt l
def rnd (b : Bool) (n d : Int) (r : Vr) : Int × Int × Int :=
 if (mulR r.n 1 (makeF (ptN b r) r.dn).1 (makeF (ptN b r) r.dn).2.1).2.2 ≠ 0 then (0, 0, (mulR r.n 1 (makeF (ptN b r) r.dn).1 (makeF (ptN b r) r.dn).2.1).2.2)
 else addR n d (mulR r.n 1 (makeF (ptN b r) r.dn).1 (makeF (ptN b r) r.dn).2.1).1 (mulR r.n 1 (makeF (ptN b r) r.dn).1 (makeF (ptN b r) r.dn).2.1).2.1
def sumS (b : Bool) : Int → Int → List Vr → Int × Int × Int
 | n, d, [] => (n, d, 0)
 | n, d, r :: l => if (rnd b n d r).2.2 ≠ 0 then (0, 0, (rnd b n d r).2.2) else sumS b (rnd b n d r).1 (rnd b n d r).2.1 l
def avgR (b : Bool) (l : List Vr) : Int × Int × Int :=
 if (sumS b 0 1 l).2.2 ≠ 0 then (0, 0, (sumS b 0 1 l).2.2) else divR (sumS b 0 1 l).1 (sumS b 0 1 l).2.1 (wgt l) 1
def zV : Vr := ⟨0, 0, 0, 0, 0, 0, 0, 0⟩
def hdV (l : List Vr) : Vr := l.headD zV
def meanF (l : List Vr) : Int × Vr :=
 if wgt l = 0 then (18, zV) else if (avgR false l).2.2 ≠ 0 then ((avgR false l).2.2, zV) else if (avgR true l).2.2 ≠ 0 then ((avgR true l).2.2, zV)
 else match valO (avgR false l).1 (avgR false l).2.1 (avgR true l).1 (avgR true l).2.1 with
  | none => (16, zV)
  | some (a, b, D) => if 1000000 < wgt l then (16, zV) else (0, ⟨(hdV l).t, (hdV l).c, (hdV l).i, (hdV l).j, a, b, D, wgt l⟩)
theorem VF.ne {n d : Int} (v : VF n d) : (d : Rat) ≠ 0 := by
 have := v.d1
 have : d ≠ 0 := by omega
 exact_mod_cast this
theorem natAbs_cast {d : Int} (h : 0 ≤ d) : ((d.natAbs : Nat) : Int) = d := by omega
theorem rat_of {n d N D : Int} (hd : d ≠ 0) (hD : D ≠ 0) (h : n * D = N * d) : (n : Rat) / d = N / D := by
 have h1 : (d : Rat) ≠ 0 := by exact_mod_cast hd
 have h2 : (D : Rat) ≠ 0 := by exact_mod_cast hD
 have h3 : (n : Rat) * D = N * d := by exact_mod_cast h
 grind
theorem red_val {N n d e : Int} {D : Nat} (hD : 0 < D) (h : redF N D = (n, d, e)) : e = 16 ∨ (e = 0 ∧ VF n d ∧ (n : Rat) / d = N / (D : Int)) := by
 rcases redF_cases N D with h' | ⟨n', d', h'⟩
 ·rw [h'] at h; injection h with _ h; injection h with _ h; exact .inl h.symm
 ·rw [h'] at h
  injection h with h1 h; injection h with h2 h3
  subst h1 h2 h3
  have := redF_val hD h' rfl
  have d1 := this.1.d1
  exact .inr ⟨rfl, this.1, rat_of (by omega) (by omega) this.2⟩
theorem mul_val {an ad bn bd n d e : Int} (va : VF an ad) (vb : VF bn bd) (h : mulR an ad bn bd = (n, d, e)) : e = 16 ∨ (e = 0 ∧ VF n d ∧ (n : Rat) / d = (an / ad) * (bn / bd)) := by
 unfold mulR at h
 rw [if_pos (va.both vb), mulF_red va vb] at h
 have h1 := va.d1
 have h2 := vb.d1
 rcases red_val (Nat.mul_pos (show 0 < ad.natAbs by omega) (show 0 < bd.natAbs by omega)) h with h | ⟨h, v, e⟩
 ·exact .inl h
 ·refine .inr ⟨h, v, ?_⟩
  rw [e, Int.natCast_mul, natAbs_cast (by omega), natAbs_cast (by omega)]
  have := va.ne
  have := vb.ne
  push_cast
  grind
theorem add_val {an ad bn bd n d e : Int} (va : VF an ad) (vb : VF bn bd) (h : addR an ad bn bd = (n, d, e)) : e = 16 ∨ (e = 0 ∧ VF n d ∧ (n : Rat) / d = an / ad + bn / bd) := by
 unfold addR at h
 rw [if_pos (va.both vb), addF_red va vb] at h
 have h1 := va.d1
 have h2 := vb.d1
 rcases red_val (Nat.mul_pos (show 0 < ad.natAbs by omega) (show 0 < bd.natAbs by omega)) h with h | ⟨h, v, e⟩
 ·exact .inl h
 ·refine .inr ⟨h, v, ?_⟩
  rw [e, Int.natCast_mul, natAbs_cast (by omega), natAbs_cast (by omega)]
  have := va.ne
  have := vb.ne
  push_cast
  grind
theorem div_val {an ad N n d e : Int} (va : VF an ad) (vb : VF N 1) (hN : 0 < N) (h : divR an ad N 1 = (n, d, e)) : e = 16 ∨ (e = 0 ∧ VF n d ∧ (n : Rat) / d = (an / ad) / N) := by
 unfold divR at h
 rw [if_pos (va.both vb), if_neg (by omega), if_neg (by omega), mulF_red va (vb.over.2 hN)] at h
 have h1 := va.d1
 rcases red_val (Nat.mul_pos (show 0 < ad.natAbs by omega) (show 0 < N.natAbs by omega)) h with h | ⟨h, v, e⟩
 ·exact .inl h
 ·refine .inr ⟨h, v, ?_⟩
  rw [e, Int.natCast_mul, natAbs_cast (by omega), natAbs_cast (by omega)]
  have := va.ne
  have : (N : Rat) ≠ 0 := by
   have : N ≠ 0 := by omega
   exact_mod_cast this
  push_cast
  grind
theorem vis_val {r : Vr} (h : visB r = true) : 0 ≤ r.n ∧ r.n ≤ 1000000 ∧ Cxm.chkB r.re r.im r.dn = true ∧ 1 ≤ r.dn ∧ r.dn ≤ 1000000000 ∧ -1000000000 ≤ r.re ∧ r.re ≤ 1000000000 ∧ -1000000000 ≤ r.im ∧ r.im ≤ 1000000000 := by
 simp only [visB, Bool.and_eq_true, decide_eq_true_eq] at h
 obtain ⟨-, -, -, hv, h0, h1⟩ := h
 have := chkB_lim hv
 exact ⟨h0, h1, hv, by omega, by omega, by omega, by omega, by omega, by omega⟩
theorem pt_val (b : Bool) {r : Vr} (h : visB r = true) : -1000000000 ≤ ptN b r ∧ ptN b r ≤ 1000000000 ∧ ∃ n d, makeF (ptN b r) r.dn = (n, d, 0) ∧ VF n d ∧ (n : Rat) / d = ptN b r / r.dn := by
 have h1 := vis_val h
 have h2 : -1000000000 ≤ ptN b r ∧ ptN b r ≤ 1000000000 := by cases b <;> simp only [ptN] <;> omega
 obtain ⟨n, d, e, v, m⟩ := part_of (a := ptN b r) (D := r.dn) (by omega) (by omega) h2.1 h2.2
 have := v.d1
 exact ⟨h2.1, h2.2, n, d, e, v, rat_of (by omega) (by omega) m⟩
theorem VF.int {n : Int} (h : -1000000000000000000 ≤ n) (h' : n ≤ 1000000000000000000) : VF n 1 := ⟨by decide, by decide, h, h', by simp⟩
theorem rnd_val (b : Bool) {n d n' d' e : Int} {r : Vr} (v : VF n d) (hr : visB r = true) (h : rnd b n d r = (n', d', e)) : e = 16 ∨ (e = 0 ∧ VF n' d' ∧ (n' : Rat) / d' = n / d + r.n * ptN b r / r.dn) := by
 obtain ⟨-, -, x, y, hm, vx, ex⟩ := pt_val b hr
 have h0 := vis_val hr
 unfold rnd at h
 rw [hm] at h
 simp only at h
 have vn : VF r.n 1 := VF.int (by omega) (by omega)
 obtain ⟨p, q, k, hp⟩ : ∃ p q k, mulR r.n 1 x y = (p, q, k) := ⟨_, _, _, rfl⟩
 rw [hp] at h
 simp only at h
 rcases mul_val vn vx hp with hk | ⟨hk, vp, ep⟩
 ·rw [if_pos (by omega)] at h
  injection h with _ h; injection h with _ h
  exact .inl (by omega)
 ·rw [if_neg (by omega)] at h
  rcases add_val v vp h with h | ⟨h, v', e'⟩
  ·exact .inl h
  ·refine .inr ⟨h, v', ?_⟩
   rw [e', ep, ex]
   have := v.ne
   push_cast
   grind
def tot (b : Bool) : List Vr → Rat
 | [] => 0
 | r :: l => r.n * ptN b r / r.dn + tot b l
theorem wgt_append (l m : List Vr) : wgt (l ++ m) = wgt l + wgt m := by
 induction l with
 | nil => simp [wgt]
 | cons r l ih => simp only [List.cons_append, wgt, ih]; omega
theorem sumS_val (b : Bool) : ∀ {l : List Vr} {n d n' d' e : Int}, VF n d → (∀ r ∈ l, visB r = true) → sumS b n d l = (n', d', e) → e = 16 ∨ (e = 0 ∧ VF n' d' ∧ (n' : Rat) / d' = n / d + tot b l)
 | [], n, d, n', d', e, v, _, h => by
  simp only [sumS] at h
  injection h with h1 h; injection h with h2 h3
  subst h1 h2 h3
  exact .inr ⟨rfl, v, by simp only [tot]; grind⟩
 | r :: l, n, d, n', d', e, v, hl, h => by
  simp only [sumS] at h
  obtain ⟨p, q, k, hp⟩ : ∃ p q k, rnd b n d r = (p, q, k) := ⟨_, _, _, rfl⟩
  rw [hp] at h
  simp only at h
  rcases rnd_val b v (hl r (List.mem_cons_self ..)) hp with hk | ⟨hk, vp, ep⟩
  ·rw [if_pos (by omega)] at h
   injection h with _ h; injection h with _ h
   exact .inl (by omega)
  ·rw [if_neg (by omega)] at h
   rcases sumS_val b vp (fun x hx => hl x (List.mem_cons_of_mem _ hx)) h with h | ⟨h, v', e'⟩
   ·exact .inl h
   ·refine .inr ⟨h, v', ?_⟩
    rw [e', ep]
    simp only [tot]
    grind
theorem wgt_bd : ∀ {l : List Vr}, (∀ r ∈ l, visB r = true) → 0 ≤ wgt l ∧ wgt l ≤ 1000000 * l.length
 | [], _ => by simp [wgt]
 | r :: l, h => by
  have h1 := wgt_bd (l := l) fun x hx => h x (List.mem_cons_of_mem _ hx)
  have h2 := vis_val (h r (List.mem_cons_self ..))
  simp only [wgt, List.length_cons]
  omega
theorem avgR_val (b : Bool) {l : List Vr} {n d e : Int} (hl : ∀ r ∈ l, visB r = true) (h60 : l.length ≤ 1000) (h0 : wgt l ≠ 0) (h : avgR b l = (n, d, e)) : e = 16 ∨ (e = 0 ∧ VF n d ∧ (n : Rat) / d = tot b l / wgt l) := by
 have hw := wgt_bd hl
 unfold avgR at h
 obtain ⟨p, q, k, hp⟩ : ∃ p q k, sumS b 0 1 l = (p, q, k) := ⟨_, _, _, rfl⟩
 rw [hp] at h
 simp only at h
 rcases sumS_val b (VF.int (by decide) (by decide)) hl hp with hk | ⟨hk, vp, ep⟩
 ·rw [if_pos (by omega)] at h
  injection h with _ h; injection h with _ h
  exact .inl (by omega)
 ·rw [if_neg (by omega)] at h
  rcases div_val vp (VF.int (by omega) (by omega)) (by omega) h with h | ⟨h, v', e'⟩
  ·exact .inl h
  ·refine .inr ⟨h, v', ?_⟩
   rw [e', ep]
   have : ((0 : Int) : Rat) / ((1 : Int) : Rat) + tot b l = tot b l := by grind
   rw [this]
theorem valO_chk' {n1 d1 n2 d2 a b D : Int} (h : valO n1 d1 n2 d2 = some (a, b, D)) : Cxm.chkB a b D = true := by
 unfold valO at h
 split at h
 ·rename_i hh
  injection h with h
  injection h with e1 h
  injection h with e2 e3
  subst e1 e2 e3
  exact hh.2
 ·cases h
structure MeanOk (l : List Vr) (m : Vr) : Prop where
 t : m.t = (hdV l).t
 c : m.c = (hdV l).c
 i : m.i = (hdV l).i
 j : m.j = (hdV l).j
 n : m.n = wgt l
 pos : 0 < wgt l
 le : wgt l ≤ 1000000
 ok : Cxm.chkB m.re m.im m.dn = true
 tot : ∀ b, (m.n : Rat) * ptN b m / m.dn = tot b l
theorem valO_parts {n1 d1 n2 d2 a b D : Int} (v1 : VF n1 d1) (v2 : VF n2 d2) (h : valO n1 d1 n2 d2 = some (a, b, D)) : (a : Rat) / D = n1 / d1 ∧ (b : Rat) / D = n2 / d2 ∧ D ≠ 0 := by
 have h1 := v1.d1
 have h2 := v2.d1
 have hp := valD_pos h1 h2
 obtain ⟨⟨k1, hk1⟩, ⟨k2, hk2⟩⟩ := valD_dvd d1 d2
 unfold valO at h
 split at h
 ·injection h with h
  injection h with e1 h
  injection h with e2 e3
  subst e1 e2
  generalize valD d1 d2 = L at *
  subst e3
  have e1 : L / d1 = k1 := by rw [hk1]; exact Int.mul_ediv_cancel_left _ (by omega)
  have e2 : L / d2 = k2 := by rw [hk2]; exact Int.mul_ediv_cancel_left _ (by omega)
  rw [e1, e2]
  refine ⟨rat_of (by omega) (by omega) ?_, rat_of (by omega) (by omega) ?_, by omega⟩
  ·rw [hk1]; grind
  ·rw [hk2]; grind
 ·cases h
theorem meanF_err {l : List Vr} (hl : ∀ r ∈ l, visB r = true) (h60 : l.length ≤ 1000) : ((meanF l).1 = 18 ∧ wgt l = 0) ∨ ((meanF l).1 = 16 ∧ wgt l ≠ 0) ∨ ((meanF l).1 = 0 ∧ MeanOk l (meanF l).2) := by
 have hw := wgt_bd hl
 unfold meanF
 by_cases h0 : wgt l = 0
 ·rw [if_pos h0]; exact .inl ⟨rfl, h0⟩
 ·right
  rw [if_neg h0]
  obtain ⟨p, q, k, hp⟩ : ∃ p q k, avgR false l = (p, q, k) := ⟨_, _, _, rfl⟩
  obtain ⟨p', q', k', hp'⟩ : ∃ p q k, avgR true l = (p, q, k) := ⟨_, _, _, rfl⟩
  rw [hp, hp']
  simp only
  rcases avgR_val false hl h60 h0 hp with hk | ⟨hk, v, e⟩
  ·rw [if_pos (by omega)]; exact .inl ⟨hk, h0⟩
  rw [if_neg (by omega)]
  rcases avgR_val true hl h60 h0 hp' with hk | ⟨hk, v', e'⟩
  ·rw [if_pos (by omega)]; exact .inl ⟨hk, h0⟩
  rw [if_neg (by omega)]
  cases hv : valO p q p' q' with
  | none => exact .inl ⟨rfl, h0⟩
  | some x =>
   obtain ⟨a, b, D⟩ := x
   simp only
   split
   ·exact .inl ⟨rfl, h0⟩
   ·rename_i h9
    obtain ⟨f1, f2, f3⟩ := valO_parts v v' hv
    refine .inr ⟨rfl, ⟨rfl, rfl, rfl, rfl, rfl, by omega, by omega, valO_chk' hv, fun b => ?_⟩⟩
    have hN : (wgt l : Rat) ≠ 0 := by exact_mod_cast h0
    have hD : (D : Rat) ≠ 0 := by exact_mod_cast f3
    cases b
    ·show (wgt l : Rat) * a / D = _
     rw [e] at f1
     grind
    ·show (wgt l : Rat) * b / D = _
     rw [e'] at f2
     grind
end
end Go.Proofs.YtbbnkclajpaghaaGreatDoor
