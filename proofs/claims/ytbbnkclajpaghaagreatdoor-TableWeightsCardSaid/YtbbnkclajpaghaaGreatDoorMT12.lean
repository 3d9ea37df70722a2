/- Several texts in one. -/
import Derived.OwnWalk
import Derived.Test.YtbbnkclajpaghaaGreatDoorRows
import Derived.Test.YtbbnkclajpaghaaGreatDoorMT05
import Derived.Test.YtbbnkclajpaghaaGreatDoorMT06
import Derived.Test.YtbbnkclajpaghaaGreatDoorMT11
namespace Go.Proofs.YtbbnkclajpaghaaGreatDoor
open Go.ChangeShapes Go.WideShapes Go.ChangeAt Go.RowKit
set_option linter.unusedVariables false
set_option maxRecDepth 100000
set_option linter.unusedSimpArgs false
attribute [local go_sem] Oper.semAt_some
abbrev RB (w : World) (A : Option Addr) (b : List Bool) : Prop := Rd w 1 A b.length (b.map Value.bool)
abbrev Mv (t c : Int) (A : Option Addr) (n cap : Nat) : Value := .agg #[.int .i64 t, .int .i64 c, .slice A n cap]
set_option maxHeartbeats 2000000 in
theorem flagcheck_calls (t c : Int) (A : Option Addr) (b : List Bool) (cap : Nat) (hb : b.length ≤ 1000000) (w : World) : Calls Tryz.prog 46 #[Mv t c A b.length cap] w fun e w' => e = .returned (.int .i64 (mskE t c b)) ∧ Below w.heap.size w w' := by
 generalize hv : mskE t c b = v
 unfold mskE at hv
 have NN := Lib.hid (Below.refl w.heap.size w)
 generalize hn : b.length = n at *
 have hc : 32 < t ∨ (t ≤ 32 ∧ 16 < c) ∨ (t ≤ 32 ∧ c ≤ 16 ∧ t < 1) ∨ (t ≤ 32 ∧ c ≤ 16 ∧ 1 ≤ t ∧ c < 1) ∨ (t ≤ 32 ∧ c ≤ 16 ∧ 1 ≤ t ∧ 1 ≤ c) := by omega
 rcases hc with h | ⟨h, h1⟩ | ⟨h, h1, h2⟩ | ⟨h, h1, h2, h3⟩ | ⟨h, h1, h2, h3⟩
 ·have HV : Hid (v = 4) := Lib.hid (by rw [← hv, if_pos (by omega)])
  have d0 : decide (32 < t) = true := decide_eq_true (by omega)
  clear hv hn
  go_enter Tryz.func46, Tryz.ntmps46
  go_wp2_with fail
  go_ret
  exact ⟨ret_int HV.out.symm, Bal NN.out _⟩
 ·have HV : Hid (v = 4) := Lib.hid (by rw [← hv, if_pos (by omega)])
  have d0 : decide (32 < t) = false := decide_eq_false (by omega)
  have d1 : decide (16 < c) = true := decide_eq_true (by omega)
  clear hv hn
  go_enter Tryz.func46, Tryz.ntmps46
  go_wp2_with fail
  go_ret
  exact ⟨ret_int HV.out.symm, Bal NN.out _⟩
 ·have HV : Hid (v = 8) := Lib.hid (by rw [← hv, if_neg (by omega), if_pos (by omega)])
  have d0 : decide (32 < t) = false := decide_eq_false (by omega)
  have d1 : decide (16 < c) = false := decide_eq_false (by omega)
  have d2 : decide (t < 1) = true := decide_eq_true (by omega)
  clear hv hn
  go_enter Tryz.func46, Tryz.ntmps46
  go_wp2_with fail
  go_ret
  exact ⟨ret_int HV.out.symm, Bal NN.out _⟩
 ·have HV : Hid (v = 8) := Lib.hid (by rw [← hv, if_neg (by omega), if_pos (by omega)])
  have d0 : decide (32 < t) = false := decide_eq_false (by omega)
  have d1 : decide (16 < c) = false := decide_eq_false (by omega)
  have d2 : decide (t < 1) = false := decide_eq_false (by omega)
  have d3 : decide (c < 1) = true := decide_eq_true (by omega)
  clear hv hn
  go_enter Tryz.func46, Tryz.ntmps46
  go_wp2_with fail
  go_ret
  exact ⟨ret_int HV.out.symm, Bal NN.out _⟩
 ·have hy0 : 0 ≤ t * c := Int.mul_nonneg (by omega) (by omega)
  have hy1 : t * c ≤ 32 * 16 := Int.mul_le_mul h h1 (by omega) (by omega)
  have hw : IntKind.i64.wrap (t * c) = t * c := IntWalk.i64_in _ (by omega)
  have d0 : decide (32 < t) = false := decide_eq_false (by omega)
  have d1 : decide (16 < c) = false := decide_eq_false (by omega)
  have d2 : decide (t < 1) = false := decide_eq_false (by omega)
  have d3 : decide (c < 1) = false := decide_eq_false (by omega)
  by_cases he : (n : Int) = t * c
  ·have HV : Hid (v = 0) := Lib.hid (by rw [← hv, if_neg (by omega), if_neg (by omega)])
   have q1 : ((n : Int) != t * c) = false := by rw [he]; simp
   clear hv hn he
   go_enter Tryz.func46, Tryz.ntmps46
   go_wp2_with fail
   go_ret
   exact ⟨ret_int HV.out.symm, Bal NN.out _⟩
  ·have HV : Hid (v = 8) := Lib.hid (by rw [← hv, if_neg (by omega), if_pos (by omega)])
   have q1 : ((n : Int) != t * c) = true := by simpa using he
   clear hv hn he
   go_enter Tryz.func46, Tryz.ntmps46
   go_wp2_with fail
   go_ret
   exact ⟨ret_int HV.out.symm, Bal NN.out _⟩
theorem idx_lt {t c x y : Int} (hx : 0 ≤ x) (hxt : x < t) (hy : 0 ≤ y) (hyc : y < c) : 0 ≤ x * c + y ∧ x * c + y < t * c ∧ 0 ≤ x * c ∧ x * c ≤ t * c := by
 have h1 : 0 ≤ x * c := Int.mul_nonneg hx (by omega)
 have h2 : (x + 1) * c ≤ t * c := Int.mul_le_mul_of_nonneg_right (by omega) (by omega)
 rw [Int.add_mul, Int.one_mul] at h2
 omega
theorem RB.at_ {w : World} {A : Option Addr} {b : List Bool} (h : RB w A b) {q : Nat} (hq : q < b.length) : ∃ bb off, A = some ⟨bb, off, none⟩ ∧ bb < w.heap.size ∧ w.cell? ⟨bb, off + q, none⟩ = some (.bool (b.getD q false)) := by
 obtain ⟨bb, off, e, hl, hc⟩ := h.2 (by omega)
 refine ⟨bb, off, e, hl, hc q _ ?_⟩
 simp [List.getD, hq]
theorem msk_ok {t c : Int} {b : List Bool} (h : mskE t c b = 0) : 1 ≤ t ∧ t ≤ 32 ∧ 1 ≤ c ∧ c ≤ 16 ∧ (b.length : Int) = t * c := by
 unfold mskE at h
 split at h
 ·omega
 ·split at h <;> omega
def drpM (c : Int) (b : List Bool) (l : List Vr) : List Vr := l.map (drpR c b)
theorem map_take (c : Int) (b : List Bool) {l : List Vr} {k : Nat} (hk : k < l.length) : drpM c b (l.take (k + 1)) = drpM c b (l.take k) ++ [drpR c b (rowAt l k)] := by
 unfold drpM
 rw [List.take_succ_eq_append_getElem hk, List.map_append, rowAt_lt hk]; rfl
set_option maxRecDepth 100000 in
set_option maxHeartbeats 8000000 in
theorem drop_calls {A Am : Option Addr} {cap cm : Nat} {l : List Vr} {bits : List Bool} {w : World} (t c : Int) (hl : RT w A l) (hA : ∀ b off, A = some ⟨b, off, none⟩ → b < w.heap.size) (hc : l.length ≤ cap) (hc' : cap ≤ 9223372036854775807)
  (hb : RB w Am bits) (hbl : bits.length ≤ 1000000) (hbc : bits.length ≤ cm) : Calls Tryz.prog 22 #[.slice A l.length cap, Mv t c Am bits.length cm] w fun e w' =>
  ∃ v, e = .returned (.tuple #[v, .int .i64 (drpE l t c bits)]) ∧ OR w.heap.size w' v (drpL l t c bits) ∧ Below w.heap.size w w' := by
 have CK : Hid (∀ W : World, Below w.heap.size w W → Calls Tryz.prog 20 #[.slice A l.length cap] W fun e w' => e = .returned (.int .i64 (chkE l)) ∧ Below W.heap.size W w') := Lib.hid (fun W (hb : Below w.heap.size w W) => chk_calls (w := W) (hl.next hb) (fun b off h => Nat.lt_of_lt_of_le (hA b off h) hb.size) hc hc')
 have CM := Lib.hid (flagcheck_calls t c Am bits cm hbl)
 obtain ⟨pe, hpe⟩ : ∃ pe, drpE l t c bits = pe := ⟨_, rfl⟩
 obtain ⟨pl, hpl⟩ : ∃ pl, drpL l t c bits = pl := ⟨_, rfl⟩
 obtain ⟨E, hE⟩ : ∃ E, chkE l = E := ⟨_, rfl⟩
 obtain ⟨M, hM⟩ : ∃ M, mskE t c bits = M := ⟨_, rfl⟩
 have HPE := Lib.hid hpe
 have HPL := Lib.hid hpl
 have HEE := Lib.hid hE
 have HMM := Lib.hid hM
 rw [hpe, hpl]
 rw [hE] at CK
 rw [hM] at CM
 clear hpe hpl hE hM
 have HL := Lib.hid hl
 have HA := Lib.hid hA
 have HB := Lib.hid hb
 have NN := Lib.hid (Below.refl w.heap.size w)
 clear hl hA hb
 refine (callsIn_wide (n := 0)).1 ?_
 refine callsIn_of_wp_marks Tryz.func22 rfl trivial ?_ rfl
 simp only [Tryz.ntmps22, List.size_toArray, List.length_cons, List.length_nil, Nat.reduceAdd, Nat.reduceSub, Array.replicate_succ, Array.replicate_zero, List.push_toArray, List.append_toArray, List.nil_append, List.cons_append]
 gi_wp2_with fail
 have V3 : Hid ((((w.alloc (.cells #[.int .i64 t, .int .i64 c, .slice Am bits.length cm] 52)).alloc (.cells #[.slice none 0 0] 22)).alloc (.cells #[.int .i64 0] 24)).heap[w.heap.size]? = some (.cells #[.int .i64 t, .int .i64 c, .slice Am bits.length cm] 52)) := Lib.hid (blk_alloc (blk_alloc (blk_new w _) _) _)
 have V4 : Hid ((((w.alloc (.cells #[.int .i64 t, .int .i64 c, .slice Am bits.length cm] 52)).alloc (.cells #[.slice none 0 0] 22)).alloc (.cells #[.int .i64 0] 24)).heap[w.heap.size + 1]? = some (.cells #[.slice none 0 0] 22)) := Lib.hid (blk_alloc (blk_at _ (by simp)) _)
 have V5 : Hid ((((w.alloc (.cells #[.int .i64 t, .int .i64 c, .slice Am bits.length cm] 52)).alloc (.cells #[.slice none 0 0] 22)).alloc (.cells #[.int .i64 0] 24)).heap[w.heap.size + 1 + 1]? = some (.cells #[.int .i64 0] 24)) := Lib.hid (blk_at _ (by simp))
 replace NN : Hid (Below w.heap.size w (((w.alloc (.cells #[.int .i64 t, .int .i64 c, .slice Am bits.length cm] 52)).alloc (.cells #[.slice none 0 0] 22)).alloc (.cells #[.int .i64 0] 24))) := Lib.hid (Bal (Bal (Bal NN.out _) _) _)
 generalize (((w.alloc (.cells #[.int .i64 t, .int .i64 c, .slice Am bits.length cm] 52)).alloc (.cells #[.slice none 0 0] 22)).alloc (.cells #[.int .i64 0] 24)) = W1 at *
 refine ⟨trivial, rfl, ((callsIn_wide (n := 0)).2 (CK.out _ NN.out)).mono ?_⟩
 rintro e w2 ⟨rfl, hb⟩
 replace NN := Lib.hid (Bgo NN.out hb)
 replace V3 := Lib.hid (blk_next hb V3.out)
 replace V4 := Lib.hid (blk_next hb V4.out)
 replace V5 := Lib.hid (blk_next hb V5.out)
 clear hb
 by_cases h0 : E ≠ 0
 ·have q1 : (E != 0) = true := by simpa using h0
  have HE0 := Lib.hid h0
  clear h0
  have c_V4_0 := blk_cell V4.out 0 _ rfl
  have f_V4_0 := blk_frozen V4.out 0
  have l_V4 := blk_lt V4.out
  have c_V5_0 := blk_cell V5.out 0 _ rfl
  have f_V5_0 := blk_frozen V5.out 0
  have l_V5 := blk_lt V5.out
  gi_wp2_with fail
  clear c_V4_0 f_V4_0 l_V4 c_V5_0 f_V5_0 l_V5
  replace V3 : Hid (((w2.setCell ⟨w.heap.size + 1, 0, none⟩ (.slice none 0 0)).setCell ⟨w.heap.size + 1 + 1, 0, none⟩ (.int .i64 E)).heap[w.heap.size]? = some (.cells #[.int .i64 t, .int .i64 c, .slice Am bits.length cm] 52)) := Lib.hid (blk_set_other (b' := w.heap.size + 1 + 1) (blk_set_other (b' := w.heap.size + 1) (V3.out) (by omega) 0 (.slice none 0 0)) (by omega) 0 (.int .i64 E))
  replace V4 : Hid (((w2.setCell ⟨w.heap.size + 1, 0, none⟩ (.slice none 0 0)).setCell ⟨w.heap.size + 1 + 1, 0, none⟩ (.int .i64 E)).heap[w.heap.size + 1]? = some (.cells #[.slice none 0 0] 22)) := Lib.hid (blk_set_other (b' := w.heap.size + 1 + 1) (blk_set (V4.out) 0 (.slice none 0 0)) (by omega) 0 (.int .i64 E))
  replace V5 : Hid (((w2.setCell ⟨w.heap.size + 1, 0, none⟩ (.slice none 0 0)).setCell ⟨w.heap.size + 1 + 1, 0, none⟩ (.int .i64 E)).heap[w.heap.size + 1 + 1]? = some (.cells #[.int .i64 E] 24)) := Lib.hid (blk_set (blk_set_other (b' := w.heap.size + 1) (V5.out) (by omega) 0 (.slice none 0 0)) 0 (.int .i64 E))
  replace NN := Lib.hid (Bset1 (Bset1 (NN.out) (show w.heap.size ≤ w.heap.size + 1 by omega) 0 (.slice none 0 0)) (show w.heap.size ≤ w.heap.size + 1 + 1 by omega) 0 (.int .i64 E))
  generalize ((w2.setCell ⟨w.heap.size + 1, 0, none⟩ (.slice none 0 0)).setCell ⟨w.heap.size + 1 + 1, 0, none⟩ (.int .i64 E)) = W3 at *
  have e0 := blk_cell V4.out 0 (.slice none 0 0) rfl
  have e1 := blk_cell V5.out 0 (.int .i64 E) rfl
  have h1 : drpE l t c bits = E := by unfold drpE; rw [HEE.out, if_pos HE0.out]
  have h2 : drpL l t c bits = [] := by unfold drpL; rw [h1]; exact if_neg HE0.out
  exact ⟨.tuple #[.slice none 0 0, .int .i64 E], by simp [results, Tryz.results22, go_sem, e0, e1], ⟨_, by rw [← HPE.out, h1], by rw [← HPL.out, h2]; exact OR.nil _ _, NN.out⟩⟩
 have h0' : E = 0 := by omega
 subst h0'
 clear h0
 obtain ⟨hg, hn⟩ := chkE_good HEE.out
 have HG := Lib.hid hg
 clear hg
 have c_V3_0 := blk_cell V3.out 0 _ rfl
 have f_V3_0 := blk_frozen V3.out 0
 have c_V3_1 := blk_cell V3.out 1 _ rfl
 have f_V3_1 := blk_frozen V3.out 1
 have c_V3_2 := blk_cell V3.out 2 _ rfl
 have f_V3_2 := blk_frozen V3.out 2
 have l_V3 := blk_lt V3.out
 gi_wp2_with fail
 refine ⟨trivial, rfl, ((callsIn_wide (n := 0)).2 (CM.out _)).mono ?_⟩
 rintro e w4 ⟨rfl, hb⟩
 clear c_V3_0 f_V3_0 c_V3_1 f_V3_1 c_V3_2 f_V3_2 l_V3
 replace NN := Lib.hid (Bgo NN.out hb)
 replace V3 := Lib.hid (blk_next hb V3.out)
 replace V4 := Lib.hid (blk_next hb V4.out)
 replace V5 := Lib.hid (blk_next hb V5.out)
 clear hb
 by_cases h0 : M ≠ 0
 ·have q1 : (M != 0) = true := by simpa using h0
  have HE0 := Lib.hid h0
  clear h0
  have c_V4_0 := blk_cell V4.out 0 _ rfl
  have f_V4_0 := blk_frozen V4.out 0
  have l_V4 := blk_lt V4.out
  have c_V5_0 := blk_cell V5.out 0 _ rfl
  have f_V5_0 := blk_frozen V5.out 0
  have l_V5 := blk_lt V5.out
  gi_wp2_with fail
  clear c_V4_0 f_V4_0 l_V4 c_V5_0 f_V5_0 l_V5
  replace V3 : Hid (((w4.setCell ⟨w.heap.size + 1, 0, none⟩ (.slice none 0 0)).setCell ⟨w.heap.size + 1 + 1, 0, none⟩ (.int .i64 M)).heap[w.heap.size]? = some (.cells #[.int .i64 t, .int .i64 c, .slice Am bits.length cm] 52)) := Lib.hid (blk_set_other (b' := w.heap.size + 1 + 1) (blk_set_other (b' := w.heap.size + 1) (V3.out) (by omega) 0 (.slice none 0 0)) (by omega) 0 (.int .i64 M))
  replace V4 : Hid (((w4.setCell ⟨w.heap.size + 1, 0, none⟩ (.slice none 0 0)).setCell ⟨w.heap.size + 1 + 1, 0, none⟩ (.int .i64 M)).heap[w.heap.size + 1]? = some (.cells #[.slice none 0 0] 22)) := Lib.hid (blk_set_other (b' := w.heap.size + 1 + 1) (blk_set (V4.out) 0 (.slice none 0 0)) (by omega) 0 (.int .i64 M))
  replace V5 : Hid (((w4.setCell ⟨w.heap.size + 1, 0, none⟩ (.slice none 0 0)).setCell ⟨w.heap.size + 1 + 1, 0, none⟩ (.int .i64 M)).heap[w.heap.size + 1 + 1]? = some (.cells #[.int .i64 M] 24)) := Lib.hid (blk_set (blk_set_other (b' := w.heap.size + 1) (V5.out) (by omega) 0 (.slice none 0 0)) 0 (.int .i64 M))
  replace NN := Lib.hid (Bset1 (Bset1 (NN.out) (show w.heap.size ≤ w.heap.size + 1 by omega) 0 (.slice none 0 0)) (show w.heap.size ≤ w.heap.size + 1 + 1 by omega) 0 (.int .i64 M))
  generalize ((w4.setCell ⟨w.heap.size + 1, 0, none⟩ (.slice none 0 0)).setCell ⟨w.heap.size + 1 + 1, 0, none⟩ (.int .i64 M)) = W5 at *
  have e0 := blk_cell V4.out 0 (.slice none 0 0) rfl
  have e1 := blk_cell V5.out 0 (.int .i64 M) rfl
  have h1 : drpE l t c bits = M := by unfold drpE; rw [HEE.out, HMM.out, if_neg (by omega), if_pos HE0.out]
  have h2 : drpL l t c bits = [] := by unfold drpL; rw [h1]; exact if_neg HE0.out
  exact ⟨.tuple #[.slice none 0 0, .int .i64 M], by simp [results, Tryz.results22, go_sem, e0, e1], ⟨_, by rw [← HPE.out, h1], by rw [← HPL.out, h2]; exact OR.nil _ _, NN.out⟩⟩
 have h0' : M = 0 := by omega
 subst h0'
 clear h0
 obtain ⟨m1, m2, m3, m4, m5⟩ := msk_ok HMM.out
 have M5 := Lib.hid m5
 clear m5 CK CM
 gi_wp2_with fail
 refine ⟨trivial, rfl, (callsIn_wide.2 (rows_calls A _ cap _)).mono ?_⟩
 rintro e w9 ⟨rfl, rfl⟩
 gi_wp2_with fail
 have LG : Hid (w.heap.size + 3 ≤ w4.heap.size) := Lib.hid (by have := blk_lt V5.out; omega)
 replace NN : Hid (Below w.heap.size w ((w4.alloc (.cells #[.slice none 0 0] 22)).alloc (.cells #[.slice A l.length cap] 22))) := Lib.hid (Bal (Bal NN.out _) _)
 have SZ : Hid (((w4.alloc (.cells #[.slice none 0 0] 22)).alloc (.cells #[.slice A l.length cap] 22)).heap.size = w4.heap.size + 2) := Lib.hid (by simp)
 replace V3 : Hid (((w4.alloc (.cells #[.slice none 0 0] 22)).alloc (.cells #[.slice A l.length cap] 22)).heap[w.heap.size]? = some (.cells #[.int .i64 t, .int .i64 c, .slice Am bits.length cm] 52)) := Lib.hid (blk_alloc (blk_alloc V3.out _) _)
 replace V4 : Hid (((w4.alloc (.cells #[.slice none 0 0] 22)).alloc (.cells #[.slice A l.length cap] 22)).heap[w.heap.size + 1]? = some (.cells #[.slice none 0 0] 22)) := Lib.hid (blk_alloc (blk_alloc V4.out _) _)
 replace V5 : Hid (((w4.alloc (.cells #[.slice none 0 0] 22)).alloc (.cells #[.slice A l.length cap] 22)).heap[w.heap.size + 1 + 1]? = some (.cells #[.int .i64 0] 24)) := Lib.hid (blk_alloc (blk_alloc V5.out _) _)
 have V9 : Hid (((w4.alloc (.cells #[.slice none 0 0] 22)).alloc (.cells #[.slice A l.length cap] 22)).heap[w4.heap.size]? = some (.cells #[.slice none 0 0] 22)) := Lib.hid (blk_alloc (blk_new w4 _) _)
 have VT : Hid (((w4.alloc (.cells #[.slice none 0 0] 22)).alloc (.cells #[.slice A l.length cap] 22)).heap[w4.heap.size + 1]? = some (.cells #[.slice A l.length cap] 22)) := Lib.hid (blk_at _ (by simp))
 generalize ((w4.alloc (.cells #[.slice none 0 0] 22)).alloc (.cells #[.slice A l.length cap] 22)) = W0 at *
 generalize w4.heap.size = g4 at *
 refine range_n 50 #[.pointer (some ⟨g4 + 1, 0, none⟩)] rfl (enters_of Tryz.func50 (by kernel_rfl) rfl) (encR l) w.heap.size l.length
  (rows_seq (HL.out.next NN.out) HA.out (by omega) (by have := SZ.out; have := LG.out; omega) VT.out) (by have := SZ.out; have := LG.out; omega) (fun _ => rfl)
  (fun k W => (W.heap[w.heap.size]? = some (.cells #[.int .i64 t, .int .i64 c, .slice Am bits.length cm] 52)) ∧ (W.heap[w.heap.size + 1]? = some (.cells #[.slice none 0 0] 22)) ∧ (W.heap[w.heap.size + 1 + 1]? = some (.cells #[.int .i64 0] 24)) ∧ (Below w.heap.size w W) ∧ (g4 + 2 ≤ W.heap.size) ∧ (∀ x ∈ l.take k, x.t < t ∧ x.c < c) ∧ (∃ A9 c9, W.heap[g4]? = some (.cells #[.slice A9 (drpM c bits (l.take k)).length c9] 22) ∧ OR W0.heap.size W (.slice A9 (drpM c bits (l.take k)).length c9) (drpM c bits (l.take k))))
  (fun cd k W => ((cd = .ret) ∧ (∃ x ∈ l, t ≤ x.t ∨ c ≤ x.c) ∧ (W.heap[w.heap.size + 1]? = some (.cells #[.slice none 0 0] 22)) ∧ (W.heap[w.heap.size + 1 + 1]? = some (.cells #[.int .i64 2] 24)) ∧ (Below w.heap.size w W)))
  (fun k a' W => ∃ Bx : Nat, (a' = { tmps := #[.slice A l.length cap, Mv t c Am bits.length cm, undef, .pointer (some ⟨w.heap.size, 0, none⟩), .pointer (some ⟨w.heap.size + 1, 0, none⟩), .pointer (some ⟨w.heap.size + 1 + 1, 0, none⟩), .int .i64 0, .int .i64 0, .pointer (some ⟨g4, 0, none⟩), undef, .pointer (some ⟨Bx, 0, none⟩), .slice A l.length cap, .int .i64 0, .int .i64 0, .bool false, undef, .agg #[.int .i64 t, .int .i64 c, .slice Am bits.length cm], .int .i64 0, .int .i64 0, .bool false, undef, .slice A l.length cap, .func (.func 50) #[] #[.pointer (some ⟨g4 + 1, 0, none⟩)], .int .i64 (k : Int), Rwv (rowAt l k), undef, undef, undef, undef, undef, undef, undef, undef, undef, undef, undef, undef, undef, undef, undef, undef, undef, undef, undef, undef, undef, undef, undef, undef, undef, undef, undef, undef, undef, undef, undef], defers := [] }) ∧ (g4 + 2 ≤ Bx) ∧ (W.heap[Bx]? = some (.cells #[.int .i64 (rowAt l k).t, .int .i64 (rowAt l k).c, .int .i64 (rowAt l k).i, .int .i64 (rowAt l k).j, .int .i64 (rowAt l k).re, .int .i64 (rowAt l k).im, .int .i64 (rowAt l k).dn, .int .i64 (rowAt l k).n] 67)) ∧ (W.heap[w.heap.size]? = some (.cells #[.int .i64 t, .int .i64 c, .slice Am bits.length cm] 52)) ∧ (W.heap[w.heap.size + 1]? = some (.cells #[.slice none 0 0] 22)) ∧ (W.heap[w.heap.size + 1 + 1]? = some (.cells #[.int .i64 0] 24)) ∧ (Below w.heap.size w W) ∧ (g4 + 2 ≤ W.heap.size) ∧ (∀ x ∈ l.take k, x.t < t ∧ x.c < c) ∧ (∃ A9 c9, W.heap[g4]? = some (.cells #[.slice A9 (drpM c bits (l.take k)).length c9] 22) ∧ OR W0.heap.size W (.slice A9 (drpM c bits (l.take k)).length c9) (drpM c bits (l.take k))))
  ((own_blk _ _ _).and ((own_blk _ _ _).and ((own_blk _ _ _).and ((ownFrom_below (Nat.le_refl _) (by have := SZ.out; have := LG.out; omega)).and ((own_size _).and ((own_pure _).and (own_ex fun _ => own_ex fun _ => (own_blk _ _ _).and (own_row _ _))))))))
  (fun _ => ((own_pure _).and ((own_pure _).and ((own_blk _ _ _).and ((own_blk _ _ _).and (ownFrom_below (Nat.le_refl _) (by have := SZ.out; have := LG.out; omega)))))))
  (fun _ => own_ex fun _ => ((own_pure _).and ((own_pure _).and ((own_blk _ _ _).and ((own_blk _ _ _).and ((own_blk _ _ _).and ((own_blk _ _ _).and ((ownFrom_below (Nat.le_refl _) (by have := SZ.out; have := LG.out; omega)).and ((own_size _).and ((own_pure _).and (own_ex fun _ => own_ex fun _ => (own_blk _ _ _).and (own_row _ _))))))))))))
  ⟨V3.out, V4.out, V5.out, NN.out, (by have := SZ.out; have := LG.out; omega), fun x hx => by simp at hx, ⟨none, 0, V9.out, OR.nil _ _⟩⟩ ?assign ?body ?done ?stop
 case assign =>
  rintro lp k W K ⟨v3, v4, v5, nn, sz, hbn, A9, c9, v9, o9⟩ hlt hK
  gi_wp2
  exact hK _ _ (keeps_of_below (Bal (Below.refl _ _) _)) ((Below.refl _ W).alloc nn.size _) ⟨W.heap.size, rfl, sz, blk_new W _, blk_alloc v3 _, blk_alloc v4 _, blk_alloc v5 _, Bal nn _, by rw [World.size_alloc]; omega, hbn, A9, c9, blk_alloc v9 _, o9.alloc _⟩
 case body =>
  rintro lp k a' W ⟨Bx, rfl, lx, vx, v3, v4, v5, nn, sz, hbn, A9, c9, v9, o9⟩ hlt
  have hlen : (drpM c bits (l.take k)).length ≤ 200 := by unfold drpM; rw [List.length_map, List.length_take]; omega
  have HF := Lib.hid (map_take c bits hlt)
  have HBN := Lib.hid hbn
  have HTK : Hid (l.take (k + 1) = l.take k ++ [rowAt l k]) := Lib.hid (by rw [List.take_succ_eq_append_getElem hlt, rowAt_lt hlt])
  have hx : rowB (rowAt l k) = true := by rw [rowAt_lt hlt]; exact goodF_row HG.out _ (List.getElem_mem hlt)
  have HM : Hid (rowAt l k ∈ l) := Lib.hid (by rw [rowAt_lt hlt]; exact List.getElem_mem hlt)
  obtain ⟨x1, x2, x3, x4, -⟩ := rowB_facts hx
  have hz := SZ.out
  have hg := LG.out
  generalize drpM c bits (l.take k) = L9 at *
  generalize rowAt l k = s at *
  have O9 := Lib.hid o9
  have SW : Hid (W0.heap.size ≤ W.heap.size) := Lib.hid (by omega)
  clear o9 hx hbn
  have NN := Lib.hid nn
  have KF := Lib.hid (KeepsFrom.refl W0.heap.size W)
  have V3 := Lib.hid v3
  have V4 := Lib.hid v4
  have V5 := Lib.hid v5
  have V9 := Lib.hid v9
  have VX := Lib.hid vx
  clear v3 v4 v5 v9 vx
  have hc3 : t ≤ s.t ∨ (s.t < t ∧ c ≤ s.c) ∨ (s.t < t ∧ s.c < c) := by omega
  rcases hc3 with h | ⟨h, h1⟩ | ⟨h, h1⟩
  ·have d1 : decide (t ≤ s.t) = true := decide_eq_true h
   have c_V3_0 := blk_cell V3.out 0 _ rfl
   have f_V3_0 := blk_frozen V3.out 0
   have c_V3_1 := blk_cell V3.out 1 _ rfl
   have f_V3_1 := blk_frozen V3.out 1
   have c_V3_2 := blk_cell V3.out 2 _ rfl
   have f_V3_2 := blk_frozen V3.out 2
   have l_V3 := blk_lt V3.out
   have c_V4_0 := blk_cell V4.out 0 _ rfl
   have f_V4_0 := blk_frozen V4.out 0
   have l_V4 := blk_lt V4.out
   have c_V5_0 := blk_cell V5.out 0 _ rfl
   have f_V5_0 := blk_frozen V5.out 0
   have l_V5 := blk_lt V5.out
   have c_VX_0 := blk_cell VX.out 0 _ rfl
   have f_VX_0 := blk_frozen VX.out 0
   have c_VX_1 := blk_cell VX.out 1 _ rfl
   have f_VX_1 := blk_frozen VX.out 1
   have c_VX_2 := blk_cell VX.out 2 _ rfl
   have f_VX_2 := blk_frozen VX.out 2
   have c_VX_3 := blk_cell VX.out 3 _ rfl
   have f_VX_3 := blk_frozen VX.out 3
   have c_VX_4 := blk_cell VX.out 4 _ rfl
   have f_VX_4 := blk_frozen VX.out 4
   have c_VX_5 := blk_cell VX.out 5 _ rfl
   have f_VX_5 := blk_frozen VX.out 5
   have c_VX_6 := blk_cell VX.out 6 _ rfl
   have f_VX_6 := blk_frozen VX.out 6
   have c_VX_7 := blk_cell VX.out 7 _ rfl
   have f_VX_7 := blk_frozen VX.out 7
   have l_VX := blk_lt VX.out
   gi_wp2_with fail
   clear c_V3_0 f_V3_0 c_V3_1 f_V3_1 c_V3_2 f_V3_2 l_V3 c_V4_0 f_V4_0 l_V4 c_V5_0 f_V5_0 l_V5 c_VX_0 f_VX_0 c_VX_1 f_VX_1 c_VX_2 f_VX_2 c_VX_3 f_VX_3 c_VX_4 f_VX_4 c_VX_5 f_VX_5 c_VX_6 f_VX_6 c_VX_7 f_VX_7 l_VX
   replace KF := Lib.hid (keep_set (keep_set (KF.out) (w.heap.size + 1) 0 (.slice none 0 0)) (w.heap.size + 1 + 1) 0 (.int .i64 2))
   replace V3 : Hid (((W.setCell ⟨w.heap.size + 1, 0, none⟩ (.slice none 0 0)).setCell ⟨w.heap.size + 1 + 1, 0, none⟩ (.int .i64 2)).heap[w.heap.size]? = some (.cells #[.int .i64 t, .int .i64 c, .slice Am bits.length cm] 52)) := Lib.hid (blk_set_other (b' := w.heap.size + 1 + 1) (blk_set_other (b' := w.heap.size + 1) (V3.out) (by omega) 0 (.slice none 0 0)) (by omega) 0 (.int .i64 2))
   replace V4 : Hid (((W.setCell ⟨w.heap.size + 1, 0, none⟩ (.slice none 0 0)).setCell ⟨w.heap.size + 1 + 1, 0, none⟩ (.int .i64 2)).heap[w.heap.size + 1]? = some (.cells #[.slice none 0 0] 22)) := Lib.hid (blk_set_other (b' := w.heap.size + 1 + 1) (blk_set (V4.out) 0 (.slice none 0 0)) (by omega) 0 (.int .i64 2))
   replace V5 : Hid (((W.setCell ⟨w.heap.size + 1, 0, none⟩ (.slice none 0 0)).setCell ⟨w.heap.size + 1 + 1, 0, none⟩ (.int .i64 2)).heap[w.heap.size + 1 + 1]? = some (.cells #[.int .i64 2] 24)) := Lib.hid (blk_set (blk_set_other (b' := w.heap.size + 1) (V5.out) (by omega) 0 (.slice none 0 0)) 0 (.int .i64 2))
   replace V9 : Hid (((W.setCell ⟨w.heap.size + 1, 0, none⟩ (.slice none 0 0)).setCell ⟨w.heap.size + 1 + 1, 0, none⟩ (.int .i64 2)).heap[g4]? = some (.cells #[.slice A9 L9.length c9] 22)) := Lib.hid (blk_set_other (b' := w.heap.size + 1 + 1) (blk_set_other (b' := w.heap.size + 1) (V9.out) (by omega) 0 (.slice none 0 0)) (by omega) 0 (.int .i64 2))
   replace VX : Hid (((W.setCell ⟨w.heap.size + 1, 0, none⟩ (.slice none 0 0)).setCell ⟨w.heap.size + 1 + 1, 0, none⟩ (.int .i64 2)).heap[Bx]? = some (.cells #[.int .i64 s.t, .int .i64 s.c, .int .i64 s.i, .int .i64 s.j, .int .i64 s.re, .int .i64 s.im, .int .i64 s.dn, .int .i64 s.n] 67)) := Lib.hid (blk_set_other (b' := w.heap.size + 1 + 1) (blk_set_other (b' := w.heap.size + 1) (VX.out) (by omega) 0 (.slice none 0 0)) (by omega) 0 (.int .i64 2))
   replace NN := Lib.hid (Bset1 (Bset1 (NN.out) (show w.heap.size ≤ w.heap.size + 1 by omega) 0 (.slice none 0 0)) (show w.heap.size ≤ w.heap.size + 1 + 1 by omega) 0 (.int .i64 2))
   generalize ((W.setCell ⟨w.heap.size + 1, 0, none⟩ (.slice none 0 0)).setCell ⟨w.heap.size + 1 + 1, 0, none⟩ (.int .i64 2)) = W1 at *
   exact ⟨KF.out, rfl, ⟨s, HM.out, .inl h⟩, V4.out, V5.out, NN.out⟩
  ·have d1 : decide (t ≤ s.t) = false := decide_eq_false (by omega)
   have d2 : decide (c ≤ s.c) = true := decide_eq_true h1
   have c_V3_0 := blk_cell V3.out 0 _ rfl
   have f_V3_0 := blk_frozen V3.out 0
   have c_V3_1 := blk_cell V3.out 1 _ rfl
   have f_V3_1 := blk_frozen V3.out 1
   have c_V3_2 := blk_cell V3.out 2 _ rfl
   have f_V3_2 := blk_frozen V3.out 2
   have l_V3 := blk_lt V3.out
   have c_V4_0 := blk_cell V4.out 0 _ rfl
   have f_V4_0 := blk_frozen V4.out 0
   have l_V4 := blk_lt V4.out
   have c_V5_0 := blk_cell V5.out 0 _ rfl
   have f_V5_0 := blk_frozen V5.out 0
   have l_V5 := blk_lt V5.out
   have c_VX_0 := blk_cell VX.out 0 _ rfl
   have f_VX_0 := blk_frozen VX.out 0
   have c_VX_1 := blk_cell VX.out 1 _ rfl
   have f_VX_1 := blk_frozen VX.out 1
   have c_VX_2 := blk_cell VX.out 2 _ rfl
   have f_VX_2 := blk_frozen VX.out 2
   have c_VX_3 := blk_cell VX.out 3 _ rfl
   have f_VX_3 := blk_frozen VX.out 3
   have c_VX_4 := blk_cell VX.out 4 _ rfl
   have f_VX_4 := blk_frozen VX.out 4
   have c_VX_5 := blk_cell VX.out 5 _ rfl
   have f_VX_5 := blk_frozen VX.out 5
   have c_VX_6 := blk_cell VX.out 6 _ rfl
   have f_VX_6 := blk_frozen VX.out 6
   have c_VX_7 := blk_cell VX.out 7 _ rfl
   have f_VX_7 := blk_frozen VX.out 7
   have l_VX := blk_lt VX.out
   gi_wp2_with fail
   clear c_V3_0 f_V3_0 c_V3_1 f_V3_1 c_V3_2 f_V3_2 l_V3 c_V4_0 f_V4_0 l_V4 c_V5_0 f_V5_0 l_V5 c_VX_0 f_VX_0 c_VX_1 f_VX_1 c_VX_2 f_VX_2 c_VX_3 f_VX_3 c_VX_4 f_VX_4 c_VX_5 f_VX_5 c_VX_6 f_VX_6 c_VX_7 f_VX_7 l_VX
   replace KF := Lib.hid (keep_set (keep_set (KF.out) (w.heap.size + 1) 0 (.slice none 0 0)) (w.heap.size + 1 + 1) 0 (.int .i64 2))
   replace V3 : Hid (((W.setCell ⟨w.heap.size + 1, 0, none⟩ (.slice none 0 0)).setCell ⟨w.heap.size + 1 + 1, 0, none⟩ (.int .i64 2)).heap[w.heap.size]? = some (.cells #[.int .i64 t, .int .i64 c, .slice Am bits.length cm] 52)) := Lib.hid (blk_set_other (b' := w.heap.size + 1 + 1) (blk_set_other (b' := w.heap.size + 1) (V3.out) (by omega) 0 (.slice none 0 0)) (by omega) 0 (.int .i64 2))
   replace V4 : Hid (((W.setCell ⟨w.heap.size + 1, 0, none⟩ (.slice none 0 0)).setCell ⟨w.heap.size + 1 + 1, 0, none⟩ (.int .i64 2)).heap[w.heap.size + 1]? = some (.cells #[.slice none 0 0] 22)) := Lib.hid (blk_set_other (b' := w.heap.size + 1 + 1) (blk_set (V4.out) 0 (.slice none 0 0)) (by omega) 0 (.int .i64 2))
   replace V5 : Hid (((W.setCell ⟨w.heap.size + 1, 0, none⟩ (.slice none 0 0)).setCell ⟨w.heap.size + 1 + 1, 0, none⟩ (.int .i64 2)).heap[w.heap.size + 1 + 1]? = some (.cells #[.int .i64 2] 24)) := Lib.hid (blk_set (blk_set_other (b' := w.heap.size + 1) (V5.out) (by omega) 0 (.slice none 0 0)) 0 (.int .i64 2))
   replace V9 : Hid (((W.setCell ⟨w.heap.size + 1, 0, none⟩ (.slice none 0 0)).setCell ⟨w.heap.size + 1 + 1, 0, none⟩ (.int .i64 2)).heap[g4]? = some (.cells #[.slice A9 L9.length c9] 22)) := Lib.hid (blk_set_other (b' := w.heap.size + 1 + 1) (blk_set_other (b' := w.heap.size + 1) (V9.out) (by omega) 0 (.slice none 0 0)) (by omega) 0 (.int .i64 2))
   replace VX : Hid (((W.setCell ⟨w.heap.size + 1, 0, none⟩ (.slice none 0 0)).setCell ⟨w.heap.size + 1 + 1, 0, none⟩ (.int .i64 2)).heap[Bx]? = some (.cells #[.int .i64 s.t, .int .i64 s.c, .int .i64 s.i, .int .i64 s.j, .int .i64 s.re, .int .i64 s.im, .int .i64 s.dn, .int .i64 s.n] 67)) := Lib.hid (blk_set_other (b' := w.heap.size + 1 + 1) (blk_set_other (b' := w.heap.size + 1) (VX.out) (by omega) 0 (.slice none 0 0)) (by omega) 0 (.int .i64 2))
   replace NN := Lib.hid (Bset1 (Bset1 (NN.out) (show w.heap.size ≤ w.heap.size + 1 by omega) 0 (.slice none 0 0)) (show w.heap.size ≤ w.heap.size + 1 + 1 by omega) 0 (.int .i64 2))
   generalize ((W.setCell ⟨w.heap.size + 1, 0, none⟩ (.slice none 0 0)).setCell ⟨w.heap.size + 1 + 1, 0, none⟩ (.int .i64 2)) = W2 at *
   exact ⟨KF.out, rfl, ⟨s, HM.out, .inr h1⟩, V4.out, V5.out, NN.out⟩
  ·have d1 : decide (t ≤ s.t) = false := decide_eq_false (by omega)
   have d2 : decide (c ≤ s.c) = false := decide_eq_false (by omega)
   obtain ⟨y1, y2, y3, y4⟩ := idx_lt x1 h x3 h1
   obtain ⟨q, hq⟩ : ∃ q, (s.t * c + s.c).toNat = q := ⟨_, rfl⟩
   have hq2 : s.t * c + s.c = (q : Int) := by omega
   have hql : q < bits.length := by have := M5.out; omega
   obtain ⟨bb, bo, eA, bl, cb⟩ := RB.at_ HB.out hql
   subst eA
   replace cb := (NN.out.cell (p := ⟨bb, bo + q, none⟩) bl).trans cb
   replace bl := Nat.lt_of_lt_of_le bl NN.out.size
   have HD : Hid (drpR c bits s = bif bits.getD q false then { s with n := 0 } else s) := Lib.hid (by unfold drpR; rw [hq]; cases bits.getD q false <;> rfl)
   have hw1 : IntKind.i64.wrap (s.t * c) = s.t * c := IntWalk.i64_in _ (by have := M5.out; omega)
   have hw2 : IntKind.i64.wrap (s.t * c + s.c) = (q : Int) := by rw [hq2]; exact IntWalk.i64_in _ (by omega)
   have HBD : Hid (s.t < t ∧ s.c < c) := Lib.hid ⟨h, h1⟩
   rw [HD.out] at HF
   clear HD hq hq2 y1 y2 y3 y4
   cases hbit : bits.getD q false
   ·rw [hbit] at cb
    replace HF := Lib.hid (by have h := HF.out; rw [hbit] at h; exact h)
    clear hbit
    have OB9 := O9
    have BB := Lib.hid (Below.refl W0.heap.size W)
    have KB := Lib.hid (KeepsFrom.refl W0.heap.size W)
    have SB : Hid (W0.heap.size ≤ W.heap.size) := Lib.hid (Nat.le_trans SW.out BB.out.size)
    have HSZ : Hid (W.heap.size = W.heap.size) := Lib.hid (by simp)
    have HZ := Lib.hid hz
    clear hz
    have hz2 : g4 < W0.heap.size := by have := HZ.out; omega
    have hz3 : w.heap.size + 1 + 1 < W0.heap.size := by have := HZ.out; omega
    have c_V3_0 := blk_cell V3.out 0 _ rfl
    have f_V3_0 := blk_frozen V3.out 0
    have c_V3_1 := blk_cell V3.out 1 _ rfl
    have f_V3_1 := blk_frozen V3.out 1
    have c_V3_2 := blk_cell V3.out 2 _ rfl
    have f_V3_2 := blk_frozen V3.out 2
    have l_V3 := blk_lt V3.out
    have c_V9_0 := blk_cell V9.out 0 _ rfl
    have f_V9_0 := blk_frozen V9.out 0
    have l_V9 := blk_lt V9.out
    have c_VX_0 := blk_cell VX.out 0 _ rfl
    have f_VX_0 := blk_frozen VX.out 0
    have c_VX_1 := blk_cell VX.out 1 _ rfl
    have f_VX_1 := blk_frozen VX.out 1
    have c_VX_2 := blk_cell VX.out 2 _ rfl
    have f_VX_2 := blk_frozen VX.out 2
    have c_VX_3 := blk_cell VX.out 3 _ rfl
    have f_VX_3 := blk_frozen VX.out 3
    have c_VX_4 := blk_cell VX.out 4 _ rfl
    have f_VX_4 := blk_frozen VX.out 4
    have c_VX_5 := blk_cell VX.out 5 _ rfl
    have f_VX_5 := blk_frozen VX.out 5
    have c_VX_6 := blk_cell VX.out 6 _ rfl
    have f_VX_6 := blk_frozen VX.out 6
    have c_VX_7 := blk_cell VX.out 7 _ rfl
    have f_VX_7 := blk_frozen VX.out 7
    have l_VX := blk_lt VX.out
    gi_wp2_with (gi_at_builtin; refine wpListIn_app rfl _ _ rfl W0.heap.size _ L9 rfl (some ⟨W.heap.size, 0, none⟩) 1 1 [s] rfl (OB9.out.alloc _) rfl (RT.one (r := s) (blk_at _ HSZ.out)) ?_ ?_ ?_; omega; (rw [World.size_alloc]; have := SB.out; omega); intro v1 w1 o1 q1 k1; obtain ⟨A1, c1, hv1, -⟩ := OR.form o1; rw [show (L9 ++ [s]).length = L9.length + 1 by simp] at hv1; subst hv1; have B1 := Lib.hid ((BB.out.alloc SB.out _).trans q1); have O1 := Lib.hid o1; have K1 := Lib.hid (KB.out.trans (((KeepsOthers.alloc W _).trans k1).from W0.heap.size)); have V91 := Lib.hid (blk_B B1.out V9.out (by omega)); have c9a := blk_cell V91.out 0 (.slice A9 L9.length c9) rfl; have f9a := blk_frozen V91.out 0; have l9a := blk_lt V91.out; clear o1 q1 k1)
    clear c_V3_0 f_V3_0 c_V3_1 f_V3_1 c_V3_2 f_V3_2 l_V3 c_V9_0 f_V9_0 l_V9 c_VX_0 f_VX_0 c_VX_1 f_VX_1 c_VX_2 f_VX_2 c_VX_3 f_VX_3 c_VX_4 f_VX_4 c_VX_5 f_VX_5 c_VX_6 f_VX_6 c_VX_7 f_VX_7 l_VX
    clear c9a f9a l9a V91
    replace V3 := Lib.hid (blk_B B1.out V3.out (by omega))
    replace V4 := Lib.hid (blk_B B1.out V4.out (by omega))
    replace V5 := Lib.hid (blk_B B1.out V5.out (by omega))
    replace V9 := Lib.hid (blk_B B1.out V9.out (by omega))
    replace NN := Lib.hid (NN.out.trans (B1.out.mono (by omega)))
    replace KF := K1
    clear VX OB9 BB KB SB
    have hz := HZ.out
    replace KF := Lib.hid (keep_set (KF.out) (g4) 0 (.slice A1 (L9.length + 1) c1))
    replace O1 := Lib.hid (OR.set_other (O1.out) (show g4 < W0.heap.size by omega) 0 (.slice A1 (L9.length + 1) c1))
    replace V3 : Hid ((w1.setCell ⟨g4, 0, none⟩ (.slice A1 (L9.length + 1) c1)).heap[w.heap.size]? = some (.cells #[.int .i64 t, .int .i64 c, .slice (some ⟨bb, bo, none⟩) bits.length cm] 52)) := Lib.hid (blk_set_other (b' := g4) (V3.out) (by omega) 0 (.slice A1 (L9.length + 1) c1))
    replace V4 : Hid ((w1.setCell ⟨g4, 0, none⟩ (.slice A1 (L9.length + 1) c1)).heap[w.heap.size + 1]? = some (.cells #[.slice none 0 0] 22)) := Lib.hid (blk_set_other (b' := g4) (V4.out) (by omega) 0 (.slice A1 (L9.length + 1) c1))
    replace V5 : Hid ((w1.setCell ⟨g4, 0, none⟩ (.slice A1 (L9.length + 1) c1)).heap[w.heap.size + 1 + 1]? = some (.cells #[.int .i64 0] 24)) := Lib.hid (blk_set_other (b' := g4) (V5.out) (by omega) 0 (.slice A1 (L9.length + 1) c1))
    replace V9 : Hid ((w1.setCell ⟨g4, 0, none⟩ (.slice A1 (L9.length + 1) c1)).heap[g4]? = some (.cells #[.slice A1 (L9.length + 1) c1] 22)) := Lib.hid (blk_set (V9.out) 0 (.slice A1 (L9.length + 1) c1))
    replace NN := Lib.hid (Bset1 (NN.out) (show w.heap.size ≤ g4 by omega) 0 (.slice A1 (L9.length + 1) c1))
    generalize (w1.setCell ⟨g4, 0, none⟩ (.slice A1 (L9.length + 1) c1)) = W3 at *
    refine ⟨KF.out, below_mid nn NN.out KF.out.size, V3.out, V4.out, V5.out, NN.out, by have := KF.out.size; omega, ?_, A1, c1, ?_, ?_⟩
    ·intro x hx
     rw [HTK.out] at hx
     rcases List.mem_append.1 hx with hx | hx
     ·exact HBN.out x hx
     ·rw [List.mem_singleton.1 hx]; exact HBD.out
    ·rw [HF.out]; simpa using V9.out
    ·rw [HF.out]; simpa using O1.out
   ·rw [hbit] at cb
    replace HF := Lib.hid (by have h := HF.out; rw [hbit] at h; exact h)
    clear hbit
    have OB9 := Lib.hid (OR.set_ne O9.out VX.out (by decide) 7 (.int .i64 0))
    have BB : Hid (Below W0.heap.size W (W.setCell ⟨Bx, 7, none⟩ (.int .i64 0))) := Lib.hid ((Below.refl _ W).setCell (p := ⟨Bx, 7, none⟩) (show W0.heap.size ≤ Bx by omega) _)
    have KB := Lib.hid (keep_set (KeepsFrom.refl W0.heap.size W) Bx 7 (.int .i64 0))
    have SB : Hid (W0.heap.size ≤ (W.setCell ⟨Bx, 7, none⟩ (.int .i64 0)).heap.size) := Lib.hid (Nat.le_trans SW.out BB.out.size)
    have HSZ : Hid (W.heap.size = (W.setCell ⟨Bx, 7, none⟩ (.int .i64 0)).heap.size) := Lib.hid (by simp)
    have HZ := Lib.hid hz
    clear hz
    have hz2 : g4 < W0.heap.size := by have := HZ.out; omega
    have hz3 : w.heap.size + 1 + 1 < W0.heap.size := by have := HZ.out; omega
    have c_V3_0 := blk_cell V3.out 0 _ rfl
    have f_V3_0 := blk_frozen V3.out 0
    have c_V3_1 := blk_cell V3.out 1 _ rfl
    have f_V3_1 := blk_frozen V3.out 1
    have c_V3_2 := blk_cell V3.out 2 _ rfl
    have f_V3_2 := blk_frozen V3.out 2
    have l_V3 := blk_lt V3.out
    have c_V9_0 := blk_cell V9.out 0 _ rfl
    have f_V9_0 := blk_frozen V9.out 0
    have l_V9 := blk_lt V9.out
    have c_VX_0 := blk_cell VX.out 0 _ rfl
    have f_VX_0 := blk_frozen VX.out 0
    have c_VX_1 := blk_cell VX.out 1 _ rfl
    have f_VX_1 := blk_frozen VX.out 1
    have c_VX_2 := blk_cell VX.out 2 _ rfl
    have f_VX_2 := blk_frozen VX.out 2
    have c_VX_3 := blk_cell VX.out 3 _ rfl
    have f_VX_3 := blk_frozen VX.out 3
    have c_VX_4 := blk_cell VX.out 4 _ rfl
    have f_VX_4 := blk_frozen VX.out 4
    have c_VX_5 := blk_cell VX.out 5 _ rfl
    have f_VX_5 := blk_frozen VX.out 5
    have c_VX_6 := blk_cell VX.out 6 _ rfl
    have f_VX_6 := blk_frozen VX.out 6
    have c_VX_7 := blk_cell VX.out 7 _ rfl
    have f_VX_7 := blk_frozen VX.out 7
    have l_VX := blk_lt VX.out
    gi_wp2_with (gi_at_builtin; refine wpListIn_app rfl _ _ rfl W0.heap.size _ L9 rfl (some ⟨W.heap.size, 0, none⟩) 1 1 [({ s with n := 0 } : Vr)] rfl (OB9.out.alloc _) rfl (RT.one (r := ({ s with n := 0 } : Vr)) (blk_at _ HSZ.out)) ?_ ?_ ?_; omega; (rw [World.size_alloc]; have := SB.out; omega); intro v1 w1 o1 q1 k1; obtain ⟨A1, c1, hv1, -⟩ := OR.form o1; rw [show (L9 ++ [({ s with n := 0 } : Vr)]).length = L9.length + 1 by simp] at hv1; subst hv1; have B1 := Lib.hid ((BB.out.alloc SB.out _).trans q1); have O1 := Lib.hid o1; have K1 := Lib.hid (KB.out.trans (((KeepsOthers.alloc (W.setCell ⟨Bx, 7, none⟩ (.int .i64 0)) _).trans k1).from W0.heap.size)); have V91 := Lib.hid (blk_B B1.out V9.out (by omega)); have c9a := blk_cell V91.out 0 (.slice A9 L9.length c9) rfl; have f9a := blk_frozen V91.out 0; have l9a := blk_lt V91.out; clear o1 q1 k1)
    clear c_V3_0 f_V3_0 c_V3_1 f_V3_1 c_V3_2 f_V3_2 l_V3 c_V9_0 f_V9_0 l_V9 c_VX_0 f_VX_0 c_VX_1 f_VX_1 c_VX_2 f_VX_2 c_VX_3 f_VX_3 c_VX_4 f_VX_4 c_VX_5 f_VX_5 c_VX_6 f_VX_6 c_VX_7 f_VX_7 l_VX
    clear c9a f9a l9a V91
    replace V3 := Lib.hid (blk_B B1.out V3.out (by omega))
    replace V4 := Lib.hid (blk_B B1.out V4.out (by omega))
    replace V5 := Lib.hid (blk_B B1.out V5.out (by omega))
    replace V9 := Lib.hid (blk_B B1.out V9.out (by omega))
    replace NN := Lib.hid (NN.out.trans (B1.out.mono (by omega)))
    replace KF := K1
    clear VX OB9 BB KB SB
    have hz := HZ.out
    replace KF := Lib.hid (keep_set (KF.out) (g4) 0 (.slice A1 (L9.length + 1) c1))
    replace O1 := Lib.hid (OR.set_other (O1.out) (show g4 < W0.heap.size by omega) 0 (.slice A1 (L9.length + 1) c1))
    replace V3 : Hid ((w1.setCell ⟨g4, 0, none⟩ (.slice A1 (L9.length + 1) c1)).heap[w.heap.size]? = some (.cells #[.int .i64 t, .int .i64 c, .slice (some ⟨bb, bo, none⟩) bits.length cm] 52)) := Lib.hid (blk_set_other (b' := g4) (V3.out) (by omega) 0 (.slice A1 (L9.length + 1) c1))
    replace V4 : Hid ((w1.setCell ⟨g4, 0, none⟩ (.slice A1 (L9.length + 1) c1)).heap[w.heap.size + 1]? = some (.cells #[.slice none 0 0] 22)) := Lib.hid (blk_set_other (b' := g4) (V4.out) (by omega) 0 (.slice A1 (L9.length + 1) c1))
    replace V5 : Hid ((w1.setCell ⟨g4, 0, none⟩ (.slice A1 (L9.length + 1) c1)).heap[w.heap.size + 1 + 1]? = some (.cells #[.int .i64 0] 24)) := Lib.hid (blk_set_other (b' := g4) (V5.out) (by omega) 0 (.slice A1 (L9.length + 1) c1))
    replace V9 : Hid ((w1.setCell ⟨g4, 0, none⟩ (.slice A1 (L9.length + 1) c1)).heap[g4]? = some (.cells #[.slice A1 (L9.length + 1) c1] 22)) := Lib.hid (blk_set (V9.out) 0 (.slice A1 (L9.length + 1) c1))
    replace NN := Lib.hid (Bset1 (NN.out) (show w.heap.size ≤ g4 by omega) 0 (.slice A1 (L9.length + 1) c1))
    generalize (w1.setCell ⟨g4, 0, none⟩ (.slice A1 (L9.length + 1) c1)) = W4 at *
    refine ⟨KF.out, below_mid nn NN.out KF.out.size, V3.out, V4.out, V5.out, NN.out, by have := KF.out.size; omega, ?_, A1, c1, ?_, ?_⟩
    ·intro x hx
     rw [HTK.out] at hx
     rcases List.mem_append.1 hx with hx | hx
     ·exact HBN.out x hx
     ·rw [List.mem_singleton.1 hx]; exact HBD.out
    ·rw [HF.out]; simpa using V9.out
    ·rw [HF.out]; simpa using O1.out
 case done =>
  rintro D W hD ⟨v3, v4, v5, nn, sz, hbn, A9, c9, v9, o9⟩ hK
  have hz := SZ.out
  have hg := LG.out
  rw [List.take_length] at v9 o9 hbn
  have HE : Hid (drpE l t c bits = 0) := Lib.hid (by
   have ha : (l.any fun r => decide (t ≤ r.t) || decide (c ≤ r.c)) = false := by
    rw [List.any_eq_false]
    intro x hx
    have := hbn x hx
    simp; omega
   unfold drpE; rw [HEE.out, HMM.out, if_neg (by omega), if_neg (by omega), ha]; rfl)
  have HP : Hid (drpL l t c bits = drpM c bits l) := Lib.hid (by unfold drpL; rw [if_pos HE.out]; rfl)
  generalize drpM c bits l = L9 at *
  have O9 := Lib.hid o9
  have HK := Lib.hid hK
  clear o9 hK hbn
  have NN := Lib.hid nn
  have V4 := Lib.hid v4
  have V5 := Lib.hid v5
  have V9 := Lib.hid v9
  clear v3 v4 v5 v9
  have c_V4_0 := blk_cell V4.out 0 _ rfl
  have f_V4_0 := blk_frozen V4.out 0
  have l_V4 := blk_lt V4.out
  have c_V5_0 := blk_cell V5.out 0 _ rfl
  have f_V5_0 := blk_frozen V5.out 0
  have l_V5 := blk_lt V5.out
  have c_V9_0 := blk_cell V9.out 0 _ rfl
  have f_V9_0 := blk_frozen V9.out 0
  have l_V9 := blk_lt V9.out
  gi_wp2_with fail
  clear c_V4_0 f_V4_0 l_V4 c_V5_0 f_V5_0 l_V5 c_V9_0 f_V9_0 l_V9
  replace HK := Lib.hid (blk_set_other (b' := w.heap.size + 1 + 1) (blk_set_other (b' := w.heap.size + 1) (HK.out) (by omega) 0 (.slice A9 L9.length c9)) (by omega) 0 (.int .i64 0))
  replace O9 := Lib.hid (OR.set_other (OR.set_other (O9.out) (show w.heap.size + 1 < W0.heap.size by omega) 0 (.slice A9 L9.length c9)) (show w.heap.size + 1 + 1 < W0.heap.size by omega) 0 (.int .i64 0))
  replace V4 : Hid (((W.setCell ⟨w.heap.size + 1, 0, none⟩ (.slice A9 L9.length c9)).setCell ⟨w.heap.size + 1 + 1, 0, none⟩ (.int .i64 0)).heap[w.heap.size + 1]? = some (.cells #[.slice A9 L9.length c9] 22)) := Lib.hid (blk_set_other (b' := w.heap.size + 1 + 1) (blk_set (V4.out) 0 (.slice A9 L9.length c9)) (by omega) 0 (.int .i64 0))
  replace V5 : Hid (((W.setCell ⟨w.heap.size + 1, 0, none⟩ (.slice A9 L9.length c9)).setCell ⟨w.heap.size + 1 + 1, 0, none⟩ (.int .i64 0)).heap[w.heap.size + 1 + 1]? = some (.cells #[.int .i64 0] 24)) := Lib.hid (blk_set (blk_set_other (b' := w.heap.size + 1) (V5.out) (by omega) 0 (.slice A9 L9.length c9)) 0 (.int .i64 0))
  replace V9 : Hid (((W.setCell ⟨w.heap.size + 1, 0, none⟩ (.slice A9 L9.length c9)).setCell ⟨w.heap.size + 1 + 1, 0, none⟩ (.int .i64 0)).heap[g4]? = some (.cells #[.slice A9 L9.length c9] 22)) := Lib.hid (blk_set_other (b' := w.heap.size + 1 + 1) (blk_set_other (b' := w.heap.size + 1) (V9.out) (by have := LG.out; omega) 0 (.slice A9 L9.length c9)) (by have := LG.out; omega) 0 (.int .i64 0))
  replace NN := Lib.hid (Bset1 (Bset1 (NN.out) (show w.heap.size ≤ w.heap.size + 1 by omega) 0 (.slice A9 L9.length c9)) (show w.heap.size ≤ w.heap.size + 1 + 1 by omega) 0 (.int .i64 0))
  generalize ((W.setCell ⟨w.heap.size + 1, 0, none⟩ (.slice A9 L9.length c9)).setCell ⟨w.heap.size + 1 + 1, 0, none⟩ (.int .i64 0)) = W1 at *
  refine ⟨by simp, .inl ⟨_, _, rfl, run_takeDeferred HK.out, ?_⟩⟩
  have e0 := blk_cell (put_blk (D := D) (o' := .deferred none) V4.out (by omega)) 0 (.slice A9 L9.length c9) rfl
  have e1 := blk_cell (put_blk (D := D) (o' := .deferred none) V5.out (by omega)) 0 (.int .i64 0) rfl
  have h1 := HE.out
  exact ⟨.tuple #[.slice A9 L9.length c9, .int .i64 0], by simp [results, Tryz.results22, go_sem, e0, e1], ⟨_, by rw [← HPE.out, h1], by rw [← HPL.out, HP.out]; exact ownsRow_putObj (OR.mono O9.out (by omega)) _ HK.out rfl, put_below NN.out (by omega) (Nat.le_refl _) HK.out⟩⟩
 case stop =>
  rintro D cd k W hD hlt ⟨rfl, hx, v4, v5, nn⟩ hK
  have hz := SZ.out
  have hg := LG.out
  have HE : Hid (drpE l t c bits = 2) := Lib.hid (by
   have ha : (l.any fun r => decide (t ≤ r.t) || decide (c ≤ r.c)) = true := by simpa using hx
   unfold drpE; rw [HEE.out, HMM.out, if_neg (by omega), if_neg (by omega), ha]; rfl)
  have HK := Lib.hid hK
  clear hK hx
  have NN := Lib.hid nn
  have V4 := Lib.hid v4
  have V5 := Lib.hid v5
  gi_wp2_with fail
  refine ⟨by simp, .inl ⟨_, _, rfl, run_takeDeferred HK.out, ?_⟩⟩
  have e0 := blk_cell (put_blk (D := D) (o' := .deferred none) V4.out (by omega)) 0 (.slice none 0 0) rfl
  have e1 := blk_cell (put_blk (D := D) (o' := .deferred none) V5.out (by omega)) 0 (.int .i64 2) rfl
  have h1 := HE.out
  have h2 : drpL l t c bits = [] := by unfold drpL; rw [h1]; exact if_neg (by omega)
  exact ⟨.tuple #[.slice none 0 0, .int .i64 2], by simp [results, Tryz.results22, go_sem, e0, e1], ⟨_, by rw [← HPE.out, h1], by rw [← HPL.out, h2]; exact ownsRow_putObj (OR.nil _ _) _ HK.out rfl, put_below NN.out (by omega) (Nat.le_refl _) HK.out⟩⟩
end Go.Proofs.YtbbnkclajpaghaaGreatDoor
namespace Go.Proofs.YtbbnkclajpaghaaGreatDoor
open Go.ChangeShapes Go.WideShapes Go.ChangeAt Go.RowKit
set_option linter.unusedVariables false
set_option maxRecDepth 100000
set_option linter.unusedSimpArgs false
set_option maxRecDepth 100000 in
set_option maxHeartbeats 4000000 in
theorem same_calls {A B : Option Addr} {ca cb : Nat} {l : List Vr} {w : World} (ha : RT w A l) (hb : RT w B l) (h1 : l.length ≤ ca) (h2 : l.length ≤ cb) (hn : l.length ≤ 1000000) : Calls Tryz.prog 13 #[.slice A l.length ca, .slice B l.length cb] w fun e w' =>
  e = .returned (.bool true) ∧ Below w.heap.size w w' := by
 have HA := Lib.hid ha
 have HB := Lib.hid hb
 have NN := Lib.hid (Below.refl w.heap.size w)
 clear ha hb
 go_enter Tryz.func13, Tryz.ntmps13
 go_wp2_with fail
 go_loopw [5] (fun p wr => ∃ k m : Nat, k ≤ l.length ∧ p = .int .i64 (k : Int) ∧ wr = w.drewN m) (fun p _ => l.length - (intOf p).toNat)
 case atStart => exact ⟨0, 0, Nat.zero_le _, rfl, rfl⟩
 case round =>
  obtain ⟨k, m, hk, rfl, rfl⟩ := hrel
  by_cases hlt : l.length ≤ k
  ·have e : k = l.length := by omega
   subst e
   go_wp2_with fail
   go_ret
   exact ⟨rfl, below_drewN NN.out _⟩
  replace hlt : k < l.length := by omega
  obtain ⟨b, bo, eb, bl, a0, a1, a2, a3, a4, a5, a6, a7⟩ := RT.at_ HA.out hlt
  rw [← rowAt_lt hlt] at a0 a1 a2 a3 a4 a5 a6 a7
  subst eb
  obtain ⟨z, zo, ez, zl, g0, g1, g2, g3, g4, g5, g6, g7⟩ := RT.at_ HB.out hlt
  rw [← rowAt_lt hlt] at g0 g1 g2 g3 g4 g5 g6 g7
  subst ez
  generalize rowAt l k = s at *
  have k1 : k < ca := by omega
  have k2 : k < cb := by omega
  go_wp2_with fail
  go_quiet (fail)
  go_wp2_with fail
  refine ⟨⟨k + 1, m + nq, by omega, by go_num, rfl⟩, by simp [intOf]; omega⟩
def longB (n : Nat) : Bool := (decide (60 < n) && decide (n ≤ 200)) || decide (300 < n)
theorem long_calls (A : Option Addr) (n c : Nat) (w : World) : Calls Tryz.prog 8 #[.slice A n c] w fun e w' => e = .returned (.bool (longB n)) ∧ Below w.heap.size w w' := by
 have NN := Lib.hid (Below.refl w.heap.size w)
 have hc : n ≤ 60 ∨ (60 < n ∧ n ≤ 200) ∨ (200 < n ∧ n ≤ 300) ∨ 300 < n := by omega
 generalize hv : longB n = v
 unfold longB at hv
 have HV := Lib.hid hv
 clear hv
 rcases hc with h | ⟨h, h'⟩ | ⟨h, h'⟩ | h
 ·have F : Hid (v = false) := Lib.hid (by rw [← HV.out, decide_eq_false (by omega : ¬ 60 < n), decide_eq_false (by omega : ¬ 300 < n)]; rfl)
  clear HV
  have q1 : decide ((60 : Int) < (n : Int)) = false := decide_eq_false (by omega)
  have q3 : decide ((300 : Int) < (n : Int)) = false := decide_eq_false (by omega)
  go_enter Tryz.func8, Tryz.ntmps8
  go_wp2_with fail
  all_goals first | (exfalso; omega; done) | (go_ret; refine ⟨ret_bool ?_, NN.out⟩; rw [F.out])
 ·have F : Hid (v = true) := Lib.hid (by rw [← HV.out, decide_eq_true h, decide_eq_true h']; rfl)
  clear HV
  have q1 : decide ((60 : Int) < (n : Int)) = true := decide_eq_true (by omega)
  have q2 : decide ((n : Int) ≤ 200) = true := decide_eq_true (by omega)
  have q3 : decide ((300 : Int) < (n : Int)) = false := decide_eq_false (by omega)
  go_enter Tryz.func8, Tryz.ntmps8
  go_wp2_with fail
  all_goals first | (exfalso; omega; done) | (go_ret; refine ⟨ret_bool ?_, NN.out⟩; rw [F.out])
 ·have F : Hid (v = false) := Lib.hid (by rw [← HV.out, decide_eq_false (by omega : ¬ n ≤ 200), decide_eq_false (by omega : ¬ 300 < n)]; simp)
  clear HV
  have q1 : decide ((60 : Int) < (n : Int)) = true := decide_eq_true (by omega)
  have q2 : decide ((n : Int) ≤ 200) = false := decide_eq_false (by omega)
  have q3 : decide ((300 : Int) < (n : Int)) = false := decide_eq_false (by omega)
  go_enter Tryz.func8, Tryz.ntmps8
  go_wp2_with fail
  all_goals first | (exfalso; omega; done) | (go_ret; refine ⟨ret_bool ?_, NN.out⟩; rw [F.out])
 ·have F : Hid (v = true) := Lib.hid (by rw [← HV.out, decide_eq_true h]; simp)
  clear HV
  have q1 : decide ((60 : Int) < (n : Int)) = true := decide_eq_true (by omega)
  have q2 : decide ((n : Int) ≤ 200) = false := decide_eq_false (by omega)
  have q3 : decide ((300 : Int) < (n : Int)) = true := decide_eq_true (by omega)
  go_enter Tryz.func8, Tryz.ntmps8
  go_wp2_with fail
  all_goals first | (exfalso; omega; done) | (go_ret; refine ⟨ret_bool ?_, NN.out⟩; rw [F.out])
end Go.Proofs.YtbbnkclajpaghaaGreatDoor
namespace Go.Proofs.YtbbnkclajpaghaaGreatDoor
open Go.ChangeShapes Go.WideShapes Go.ChangeAt Go.RowKit
set_option linter.unusedVariables false
set_option linter.unusedSimpArgs false
attribute [local go_sem ↓] Go.wp_at_zero Go.wp_at_succ
structure HR (W : World) (v : Value) (l : List Vr) : Prop where
 ex : ∃ A c, v = .slice A l.length c ∧ l.length ≤ c ∧ c ≤ 9223372036854775807 ∧ RT W A l ∧ ∀ b off, A = some ⟨b, off, none⟩ → b < W.heap.size
theorem OR.hr {B : Nat} {W : World} {v : Value} {l : List Vr} (h : OR B W v l) : HR W v l := ⟨by obtain ⟨A, c, h1, h2, h3, h4, h5⟩ := OR.form h; exact ⟨A, c, h1, h2, h3, h4, h5⟩⟩
theorem HR.next {W W' : World} {v : Value} {l : List Vr} (h : HR W v l) (hb : Below W.heap.size W W') : HR W' v l := ⟨by obtain ⟨A, c, h1, h2, h3, h4, h5⟩ := h.ex; exact ⟨A, c, h1, h2, h3, h4.next hb, fun b off e => Nat.lt_of_lt_of_le (h5 b off e) hb.size⟩⟩
theorem same_of {W : World} {v u : Value} {l : List Vr} (h : HR W v l) (k : HR W u l) (hn : l.length ≤ 1000000) : Calls Tryz.prog 13 #[v, u] W fun e w' => e = .returned (.bool true) ∧ Below W.heap.size W w' := by
 obtain ⟨A, c, rfl, h2, h3, h4, h5⟩ := h.ex
 obtain ⟨A', c', rfl, k2, k3, k4, k5⟩ := k.ex
 exact same_calls h4 k4 h2 k2 hn
theorem text_of {W : World} {v : Value} {l : List Vr} (h : HR W v l) (g : GL W) : Calls Tryz.prog 9 #[v] W fun e w' => e = .returned (.tuple #[Str (txO l), .int .i64 (txE l)]) ∧ Below W.heap.size W w' := by
 obtain ⟨A, c, rfl, h2, h3, h4, h5⟩ := h.ex
 exact ttext_calls h4 h5 h2 h3 g
end Go.Proofs.YtbbnkclajpaghaaGreatDoor
namespace Go.Proofs.YtbbnkclajpaghaaGreatDoor
set_option linter.unusedVariables false
set_option maxRecDepth 100000
section
variable {α : Type} {key : α → Int}
def Srt (key : α → Int) (l : List α) : Prop := l.Pairwise fun a b => key a ≤ key b
def FE (key : α → Int) (l m : List α) : Prop := ∀ k, l.filter (fun a => key a == k) = m.filter (fun a => key a == k)
theorem FE.refl (l : List α) : FE key l l := fun _ => rfl
theorem FE.symm {l m : List α} (h : FE key l m) : FE key m l := fun k => (h k).symm
theorem FE.trans {l m n : List α} (h : FE key l m) (h' : FE key m n) : FE key l n := fun k => (h k).trans (h' k)
theorem FE.app {l m l' m' : List α} (h : FE key l m) (h' : FE key l' m') : FE key (l ++ l') (m ++ m') := fun k => by rw [List.filter_append, List.filter_append, h k, h' k]
theorem FE.swap {l m : List α} (h : ∀ a ∈ l, ∀ b ∈ m, key a ≠ key b) : FE key (l ++ m) (m ++ l) := fun k => by
 rw [List.filter_append, List.filter_append]
 by_cases hk : ∃ a ∈ l, key a = k
 ·obtain ⟨a, ha, e⟩ := hk
  have : m.filter (fun a => key a == k) = [] := List.filter_eq_nil_iff.2 fun b hb => by
   have := h a ha b hb
   simp; omega
  rw [this, List.append_nil, List.nil_append]
 ·have : l.filter (fun a => key a == k) = [] := List.filter_eq_nil_iff.2 fun a ha => by
   simp; exact fun e => hk ⟨a, ha, e⟩
  rw [this, List.append_nil, List.nil_append]
theorem FE.mem {l m : List α} (h : FE key l m) {a : α} : a ∈ l ↔ a ∈ m := by
 have e := h (key a)
 constructor
 ·intro ha
  have : a ∈ l.filter (fun b => key b == key a) := List.mem_filter.2 ⟨ha, by simp⟩
  rw [e] at this
  exact (List.mem_filter.1 this).1
 ·intro ha
  have : a ∈ m.filter (fun b => key b == key a) := List.mem_filter.2 ⟨ha, by simp⟩
  rw [← e] at this
  exact (List.mem_filter.1 this).1
theorem Srt.app {l m : List α} : Srt key (l ++ m) ↔ Srt key l ∧ Srt key m ∧ ∀ a ∈ l, ∀ b ∈ m, key a ≤ key b := List.pairwise_append
theorem Srt.one (a : α) : Srt key [a] := List.pairwise_singleton ..
theorem Srt.nil : Srt key ([] : List α) := List.Pairwise.nil
theorem Srt.unique : ∀ {l m : List α}, Srt key l → Srt key m → FE key l m → l = m
 | [], m, _, _, h => by
  cases m with
  | nil => rfl
  | cons b m => exact absurd ((h.mem (a := b)).2 (List.mem_cons_self ..)) (by simp)
 | a :: l, m, hl, hm, h => by
  cases m with
  | nil => exact absurd ((h.mem (a := a)).1 (List.mem_cons_self ..)) (by simp)
  | cons b m =>
   obtain ⟨h1, h2⟩ := List.pairwise_cons.1 hl
   obtain ⟨h3, h4⟩ := List.pairwise_cons.1 hm
   have hab : key a = key b := by
    have ha : a ∈ b :: m := (h.mem (a := a)).1 (List.mem_cons_self ..)
    have hb : b ∈ a :: l := (h.mem (a := b)).2 (List.mem_cons_self ..)
    have k1 : key b ≤ key a := by
     rcases List.mem_cons.1 ha with e | e
     ·rw [e]; exact Int.le_refl _
     ·exact h3 a e
    have k2 : key a ≤ key b := by
     rcases List.mem_cons.1 hb with e | e
     ·rw [e]; exact Int.le_refl _
     ·exact h1 b e
    omega
   have e := h (key a)
   rw [List.filter_cons_of_pos (by simp), List.filter_cons_of_pos (by simp [hab])] at e
   injection e with e1 e2
   subst e1
   congr 1
   refine Srt.unique h2 h4 fun k => ?_
   by_cases hk : key a = k
   ·rw [← hk]; exact e2
   ·have := h k
    rwa [List.filter_cons_of_neg (by simpa using hk), List.filter_cons_of_neg (by simpa using hk)] at this
structure Part (key : α → Int) (U V : List α) (u v : Nat) : Prop where
 hu : u ≤ U.length
 hv : v ≤ V.length
 lo : ∀ a ∈ U.take u, ∀ b ∈ V.drop v, key a ≤ key b
 hi : ∀ a ∈ U.drop u, ∀ b ∈ V.take v, key b < key a
theorem Part.merge {U V : List α} {u v : Nat} (p : Part key U V u v) (hU : Srt key U) (hV : Srt key V) {X Y : List α} (hX : Srt key X) (hY : Srt key Y)
  (fX : FE key (U.take u ++ V.take v) X) (fY : FE key (U.drop u ++ V.drop v) Y) : Srt key (X ++ Y) ∧ FE key (U ++ V) (X ++ Y) := by
 have sU : U.take u ++ U.drop u = U := List.take_append_drop ..
 have sV : V.take v ++ V.drop v = V := List.take_append_drop ..
 constructor
 ·rw [Srt.app]
  refine ⟨hX, hY, fun a ha b hb => ?_⟩
  have ha' := (fX.mem (a := a)).2 ha
  have hb' := (fY.mem (a := b)).2 hb
  rcases List.mem_append.1 ha' with h1 | h1 <;> rcases List.mem_append.1 hb' with h2 | h2
  ·rw [← sU, Srt.app] at hU; exact hU.2.2 a h1 b h2
  ·exact p.lo a h1 b h2
  ·have := p.hi b h2 a h1; omega
  ·rw [← sV, Srt.app] at hV; exact hV.2.2 a h1 b h2
 ·have e1 : FE key (U ++ V) (U.take u ++ (U.drop u ++ V.take v) ++ V.drop v) := by
   rw [← List.append_assoc, sU, List.append_assoc, sV]; exact FE.refl _
  have e2 : FE key (U.take u ++ (U.drop u ++ V.take v) ++ V.drop v) (U.take u ++ (V.take v ++ U.drop u) ++ V.drop v) :=
   ((FE.refl _).app (FE.swap fun a ha b hb => by have := p.hi a ha b hb; omega)).app (FE.refl _)
  have e3 : U.take u ++ (V.take v ++ U.drop u) ++ V.drop v = (U.take u ++ V.take v) ++ (U.drop u ++ V.drop v) := by simp
  rw [e3] at e2
  exact (e1.trans e2).trans (fX.app fY)
theorem Srt.get {l : List α} (h : Srt key l) {i j : Nat} {a b : α} (hij : i ≤ j) (ha : l[i]? = some a) (hb : l[j]? = some b) : key a ≤ key b := by
 by_cases e : i = j
 ·subst e; rw [ha] at hb; injection hb with hb; rw [hb]; exact Int.le_refl _
 ·obtain ⟨hi, rfl⟩ := List.getElem?_eq_some_iff.1 ha
  obtain ⟨hj, rfl⟩ := List.getElem?_eq_some_iff.1 hb
  exact List.pairwise_iff_getElem.1 h i j hi hj (by omega)
theorem mem_take_get {l : List α} {n : Nat} {a : α} (h : a ∈ l.take n) : ∃ i, i < n ∧ l[i]? = some a := by
 obtain ⟨i, hi⟩ := List.mem_iff_getElem?.1 h
 rw [List.getElem?_take] at hi
 split at hi
 ·exact ⟨i, by assumption, hi⟩
 ·cases hi
theorem mem_drop_get {l : List α} {n : Nat} {a : α} (h : a ∈ l.drop n) : ∃ i, n ≤ i ∧ l[i]? = some a := by
 obtain ⟨i, hi⟩ := List.mem_iff_getElem?.1 h
 rw [List.getElem?_drop] at hi
 exact ⟨n + i, by omega, hi⟩
theorem Part.mk_ {U V : List α} {u v : Nat} (hU : Srt key U) (hV : Srt key V) (hu : u ≤ U.length) (hv : v ≤ V.length)
  (lo : ∀ a b, 0 < u → U[u - 1]? = some a → V[v]? = some b → key a ≤ key b) (hi : ∀ a b, 0 < v → U[u]? = some a → V[v - 1]? = some b → key b < key a) : Part key U V u v where
 hu := hu
 hv := hv
 lo := fun a ha b hb => by
  obtain ⟨i, hi, hia⟩ := mem_take_get ha
  obtain ⟨j, hj, hjb⟩ := mem_drop_get hb
  have hvl : v < V.length := Nat.lt_of_le_of_lt hj (List.getElem?_eq_some_iff.1 hjb).1
  have h1 := hU.get (show i ≤ u - 1 by omega) hia (List.getElem?_eq_getElem (show u - 1 < U.length by omega))
  have h2 := hV.get hj (List.getElem?_eq_getElem hvl) hjb
  have h3 := lo _ _ (by omega) (List.getElem?_eq_getElem (show u - 1 < U.length by omega)) (List.getElem?_eq_getElem hvl)
  omega
 hi := fun a ha b hb => by
  obtain ⟨i, hi', hia⟩ := mem_drop_get ha
  obtain ⟨j, hj, hjb⟩ := mem_take_get hb
  have hul : u < U.length := Nat.lt_of_le_of_lt hi' (List.getElem?_eq_some_iff.1 hia).1
  have h1 := hU.get hi' (List.getElem?_eq_getElem hul) hia
  have h2 := hV.get (show j ≤ v - 1 by omega) hjb (List.getElem?_eq_getElem (show v - 1 < V.length by omega))
  have h3 := hi _ _ (by omega) (List.getElem?_eq_getElem hul) (List.getElem?_eq_getElem (show v - 1 < V.length by omega))
  omega
end
end Go.Proofs.YtbbnkclajpaghaaGreatDoor
