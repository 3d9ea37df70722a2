/- Contracts of layer 4: parameters. -/
import Derived.Test.YtfangplfbbgphaaAra
import Derived.Test.YtfangplfbbgphaaFrf
namespace Go.Proofs.Ytfangplfbbgphaa
open Go.ChangeShapes Go.WideShapes Go.ChangeAt Go.RowKit
set_option linter.unusedVariables false
set_option linter.unusedSimpArgs false
attribute [local go_sem ↓] Go.wp_at_zero Go.wp_at_succ
theorem prm_yes {n d : Int} (h : okF n d = true) (h1 : d ≤ 20) (h2 : -20 ≤ n) (h3 : n ≤ 20) : prmB n d = true := by unfold prmB; rw [h, decide_eq_true h1, decide_eq_true h2, decide_eq_true h3]; rfl
theorem prm_no {n d : Int} (h : okF n d = true) (h1 : ¬ (d ≤ 20 ∧ -20 ≤ n ∧ n ≤ 20)) : prmB n d = false := by
  unfold prmB; rw [h]; simp only [Bool.true_and, Bool.and_eq_false_iff, decide_eq_false_iff_not]; omega
theorem prm_bad {n d : Int} (h : okF n d = false) : prmB n d = false := by unfold prmB; rw [h]; rfl
theorem prm_facts {n d : Int} (h : prmB n d = true) : okF n d = true ∧ 1 ≤ d ∧ d ≤ 20 ∧ -20 ≤ n ∧ n ≤ 20 := by
  unfold prmB at h
  simp only [Bool.and_eq_true, decide_eq_true_eq] at h
  obtain ⟨h0, h1, h2, h3⟩ := h
  have h4 := h0
  unfold okF at h4
  simp only [Bool.and_eq_true, decide_eq_true_eq] at h4
  exact ⟨h0, h4.1.1, h1, h2, h3⟩
set_option maxRecDepth 100000 in
set_option maxHeartbeats 4000000 in
theorem param_calls (n d : Int) (w : World) : Calls Try.prog 42 #[Fv n d] w fun e w' => e = .returned (.bool (prmB n d)) ∧ Below w.heap.size w w' := by
  have C1 := Lib.hid (fun W => check_calls n d W)
  have NN := Lib.hid (Below.refl w.heap.size w)
  have HY := Lib.hid (fun (h : okF n d = true) (h1 : d ≤ 20) (h2 : -20 ≤ n) (h3 : n ≤ 20) => prm_yes h h1 h2 h3)
  have HN := Lib.hid (fun (h : okF n d = true) (h1 : ¬ (d ≤ 20 ∧ -20 ≤ n ∧ n ≤ 20)) => prm_no h h1)
  have HB := Lib.hid (fun (h : okF n d = false) => prm_bad h)
  generalize prmB n d = v at *
  cases ck : okF n d
  · have E8 : errF n d = 8 := by unfold errF; rw [ck]; rfl
    rw [E8] at C1
    have FV := Lib.hid (HB.out ck)
    clear E8 ck HY HN HB
    go_enter Try.func42, Try.ntmps42
    go_wp2_with fail
    have P : Hid ((w.alloc (.cells #[.int .i64 n, .int .i64 d] 34)).heap[w.heap.size]? = some (.cells #[.int .i64 n, .int .i64 d] 34)) := Lib.hid (blk_new w _)
    replace NN : Hid (Below w.heap.size w (w.alloc (.cells #[.int .i64 n, .int .i64 d] 34))) := Lib.hid (Bal NN.out _)
    generalize (w.alloc (.cells #[.int .i64 n, .int .i64 d] 34)) = W1 at *
    refine (C1.out _).mono ?_
    rintro e w2 ⟨rfl, hb⟩
    replace NN := Lib.hid (Bgo NN.out hb)
    replace P := Lib.hid (blk_next hb P.out)
    clear hb
    have c_P_0 := blk_cell P.out 0 _ rfl
    have f_P_0 := blk_frozen P.out 0
    have c_P_1 := blk_cell P.out 1 _ rfl
    have f_P_1 := blk_frozen P.out 1
    have l_P := blk_lt P.out
    go_wp2_with fail
    go_ret
    exact ⟨ret_bool FV.out.symm, NN.out⟩
  · have E0 : errF n d = 0 := by unfold errF; rw [ck]; rfl
    rw [E0] at C1
    have HK := Lib.hid ck
    clear E0 ck HB
    have hc : 20 < d ∨ (d ≤ 20 ∧ n < -20) ∨ (d ≤ 20 ∧ -20 ≤ n ∧ 20 < n) ∨ (d ≤ 20 ∧ -20 ≤ n ∧ n ≤ 20) := by omega
    rcases hc with h | ⟨h, h1⟩ | ⟨h, h1, h2⟩ | ⟨h, h1, h2⟩
    · have FV := Lib.hid (HN.out HK.out (by omega))
      clear HY HN HK
      go_enter Try.func42, Try.ntmps42
      go_wp2_with fail
      have P : Hid ((w.alloc (.cells #[.int .i64 n, .int .i64 d] 34)).heap[w.heap.size]? = some (.cells #[.int .i64 n, .int .i64 d] 34)) := Lib.hid (blk_new w _)
      replace NN : Hid (Below w.heap.size w (w.alloc (.cells #[.int .i64 n, .int .i64 d] 34))) := Lib.hid (Bal NN.out _)
      generalize (w.alloc (.cells #[.int .i64 n, .int .i64 d] 34)) = W3 at *
      refine (C1.out _).mono ?_
      rintro e w4 ⟨rfl, hb⟩
      replace NN := Lib.hid (Bgo NN.out hb)
      replace P := Lib.hid (blk_next hb P.out)
      clear hb
      have c_P_0 := blk_cell P.out 0 _ rfl
      have f_P_0 := blk_frozen P.out 0
      have c_P_1 := blk_cell P.out 1 _ rfl
      have f_P_1 := blk_frozen P.out 1
      have l_P := blk_lt P.out
      go_wp2_with fail
      all_goals first | (exfalso; omega; done) | skip
      go_ret
      first | exact ⟨ret_bool FV.out.symm, NN.out⟩ | (refine ⟨ret_bool ?_, NN.out⟩; rw [FV.out]; first | exact decide_eq_false (by omega) | exact decide_eq_true (by omega))
    · have FV := Lib.hid (HN.out HK.out (by omega))
      clear HY HN HK
      go_enter Try.func42, Try.ntmps42
      go_wp2_with fail
      have P : Hid ((w.alloc (.cells #[.int .i64 n, .int .i64 d] 34)).heap[w.heap.size]? = some (.cells #[.int .i64 n, .int .i64 d] 34)) := Lib.hid (blk_new w _)
      replace NN : Hid (Below w.heap.size w (w.alloc (.cells #[.int .i64 n, .int .i64 d] 34))) := Lib.hid (Bal NN.out _)
      generalize (w.alloc (.cells #[.int .i64 n, .int .i64 d] 34)) = W5 at *
      refine (C1.out _).mono ?_
      rintro e w6 ⟨rfl, hb⟩
      replace NN := Lib.hid (Bgo NN.out hb)
      replace P := Lib.hid (blk_next hb P.out)
      clear hb
      have c_P_0 := blk_cell P.out 0 _ rfl
      have f_P_0 := blk_frozen P.out 0
      have c_P_1 := blk_cell P.out 1 _ rfl
      have f_P_1 := blk_frozen P.out 1
      have l_P := blk_lt P.out
      go_wp2_with fail
      all_goals first | (exfalso; omega; done) | skip
      go_ret
      first | exact ⟨ret_bool FV.out.symm, NN.out⟩ | (refine ⟨ret_bool ?_, NN.out⟩; rw [FV.out]; first | exact decide_eq_false (by omega) | exact decide_eq_true (by omega))
    · have FV := Lib.hid (HN.out HK.out (by omega))
      clear HY HN HK
      go_enter Try.func42, Try.ntmps42
      go_wp2_with fail
      have P : Hid ((w.alloc (.cells #[.int .i64 n, .int .i64 d] 34)).heap[w.heap.size]? = some (.cells #[.int .i64 n, .int .i64 d] 34)) := Lib.hid (blk_new w _)
      replace NN : Hid (Below w.heap.size w (w.alloc (.cells #[.int .i64 n, .int .i64 d] 34))) := Lib.hid (Bal NN.out _)
      generalize (w.alloc (.cells #[.int .i64 n, .int .i64 d] 34)) = W7 at *
      refine (C1.out _).mono ?_
      rintro e w8 ⟨rfl, hb⟩
      replace NN := Lib.hid (Bgo NN.out hb)
      replace P := Lib.hid (blk_next hb P.out)
      clear hb
      have c_P_0 := blk_cell P.out 0 _ rfl
      have f_P_0 := blk_frozen P.out 0
      have c_P_1 := blk_cell P.out 1 _ rfl
      have f_P_1 := blk_frozen P.out 1
      have l_P := blk_lt P.out
      go_wp2_with fail
      all_goals first | (exfalso; omega; done) | skip
      go_ret
      first | exact ⟨ret_bool FV.out.symm, NN.out⟩ | (refine ⟨ret_bool ?_, NN.out⟩; rw [FV.out]; first | exact decide_eq_false (by omega) | exact decide_eq_true (by omega))
    · have FV := Lib.hid (HY.out HK.out h h1 h2)
      clear HY HN HK
      go_enter Try.func42, Try.ntmps42
      go_wp2_with fail
      have P : Hid ((w.alloc (.cells #[.int .i64 n, .int .i64 d] 34)).heap[w.heap.size]? = some (.cells #[.int .i64 n, .int .i64 d] 34)) := Lib.hid (blk_new w _)
      replace NN : Hid (Below w.heap.size w (w.alloc (.cells #[.int .i64 n, .int .i64 d] 34))) := Lib.hid (Bal NN.out _)
      generalize (w.alloc (.cells #[.int .i64 n, .int .i64 d] 34)) = W9 at *
      refine (C1.out _).mono ?_
      rintro e w10 ⟨rfl, hb⟩
      replace NN := Lib.hid (Bgo NN.out hb)
      replace P := Lib.hid (blk_next hb P.out)
      clear hb
      have c_P_0 := blk_cell P.out 0 _ rfl
      have f_P_0 := blk_frozen P.out 0
      have c_P_1 := blk_cell P.out 1 _ rfl
      have f_P_1 := blk_frozen P.out 1
      have l_P := blk_lt P.out
      go_wp2_with fail
      all_goals first | (exfalso; omega; done) | skip
      go_ret
      first | exact ⟨ret_bool FV.out.symm, NN.out⟩ | (refine ⟨ret_bool ?_, NN.out⟩; rw [FV.out]; first | exact decide_eq_false (by omega) | exact decide_eq_true (by omega))
set_option maxRecDepth 100000 in
set_option maxHeartbeats 4000000 in
theorem refparam_calls (n d : Int) (w : World) : Calls Try.prog 57 #[Fv n d] w fun e w' => e = .returned (.bool (prmB n d)) ∧ Below w.heap.size w w' := by
  have C1 := Lib.hid (fun W => refCheck_calls n d W)
  have NN := Lib.hid (Below.refl w.heap.size w)
  have HY := Lib.hid (fun (h : okF n d = true) (h1 : d ≤ 20) (h2 : -20 ≤ n) (h3 : n ≤ 20) => prm_yes h h1 h2 h3)
  have HN := Lib.hid (fun (h : okF n d = true) (h1 : ¬ (d ≤ 20 ∧ -20 ≤ n ∧ n ≤ 20)) => prm_no h h1)
  have HB := Lib.hid (fun (h : okF n d = false) => prm_bad h)
  generalize prmB n d = v at *
  cases ck : okF n d
  · have E8 : errF n d = 8 := by unfold errF; rw [ck]; rfl
    rw [E8] at C1
    have FV := Lib.hid (HB.out ck)
    clear E8 ck HY HN HB
    go_enter Try.func57, Try.ntmps57
    go_wp2_with fail
    have P : Hid ((w.alloc (.cells #[.int .i64 n, .int .i64 d] 34)).heap[w.heap.size]? = some (.cells #[.int .i64 n, .int .i64 d] 34)) := Lib.hid (blk_new w _)
    replace NN : Hid (Below w.heap.size w (w.alloc (.cells #[.int .i64 n, .int .i64 d] 34))) := Lib.hid (Bal NN.out _)
    generalize (w.alloc (.cells #[.int .i64 n, .int .i64 d] 34)) = W1 at *
    refine (C1.out _).mono ?_
    rintro e w2 ⟨rfl, hb⟩
    replace NN := Lib.hid (Bgo NN.out hb)
    replace P := Lib.hid (blk_next hb P.out)
    clear hb
    have c_P_0 := blk_cell P.out 0 _ rfl
    have f_P_0 := blk_frozen P.out 0
    have c_P_1 := blk_cell P.out 1 _ rfl
    have f_P_1 := blk_frozen P.out 1
    have l_P := blk_lt P.out
    go_wp2_with fail
    go_ret
    exact ⟨ret_bool FV.out.symm, NN.out⟩
  · have E0 : errF n d = 0 := by unfold errF; rw [ck]; rfl
    rw [E0] at C1
    have HK := Lib.hid ck
    clear E0 ck HB
    have hc : 20 < d ∨ (d ≤ 20 ∧ n < -20) ∨ (d ≤ 20 ∧ -20 ≤ n ∧ 20 < n) ∨ (d ≤ 20 ∧ -20 ≤ n ∧ n ≤ 20) := by omega
    rcases hc with h | ⟨h, h1⟩ | ⟨h, h1, h2⟩ | ⟨h, h1, h2⟩
    · have FV := Lib.hid (HN.out HK.out (by omega))
      clear HY HN HK
      go_enter Try.func57, Try.ntmps57
      go_wp2_with fail
      have P : Hid ((w.alloc (.cells #[.int .i64 n, .int .i64 d] 34)).heap[w.heap.size]? = some (.cells #[.int .i64 n, .int .i64 d] 34)) := Lib.hid (blk_new w _)
      replace NN : Hid (Below w.heap.size w (w.alloc (.cells #[.int .i64 n, .int .i64 d] 34))) := Lib.hid (Bal NN.out _)
      generalize (w.alloc (.cells #[.int .i64 n, .int .i64 d] 34)) = W3 at *
      refine (C1.out _).mono ?_
      rintro e w4 ⟨rfl, hb⟩
      replace NN := Lib.hid (Bgo NN.out hb)
      replace P := Lib.hid (blk_next hb P.out)
      clear hb
      have c_P_0 := blk_cell P.out 0 _ rfl
      have f_P_0 := blk_frozen P.out 0
      have c_P_1 := blk_cell P.out 1 _ rfl
      have f_P_1 := blk_frozen P.out 1
      have l_P := blk_lt P.out
      go_wp2_with fail
      all_goals first | (exfalso; omega; done) | skip
      go_ret
      first | exact ⟨ret_bool FV.out.symm, NN.out⟩ | (refine ⟨ret_bool ?_, NN.out⟩; rw [FV.out]; first | exact decide_eq_false (by omega) | exact decide_eq_true (by omega))
    · have FV := Lib.hid (HN.out HK.out (by omega))
      clear HY HN HK
      go_enter Try.func57, Try.ntmps57
      go_wp2_with fail
      have P : Hid ((w.alloc (.cells #[.int .i64 n, .int .i64 d] 34)).heap[w.heap.size]? = some (.cells #[.int .i64 n, .int .i64 d] 34)) := Lib.hid (blk_new w _)
      replace NN : Hid (Below w.heap.size w (w.alloc (.cells #[.int .i64 n, .int .i64 d] 34))) := Lib.hid (Bal NN.out _)
      generalize (w.alloc (.cells #[.int .i64 n, .int .i64 d] 34)) = W5 at *
      refine (C1.out _).mono ?_
      rintro e w6 ⟨rfl, hb⟩
      replace NN := Lib.hid (Bgo NN.out hb)
      replace P := Lib.hid (blk_next hb P.out)
      clear hb
      have c_P_0 := blk_cell P.out 0 _ rfl
      have f_P_0 := blk_frozen P.out 0
      have c_P_1 := blk_cell P.out 1 _ rfl
      have f_P_1 := blk_frozen P.out 1
      have l_P := blk_lt P.out
      go_wp2_with fail
      all_goals first | (exfalso; omega; done) | skip
      go_ret
      first | exact ⟨ret_bool FV.out.symm, NN.out⟩ | (refine ⟨ret_bool ?_, NN.out⟩; rw [FV.out]; first | exact decide_eq_false (by omega) | exact decide_eq_true (by omega))
    · have FV := Lib.hid (HN.out HK.out (by omega))
      clear HY HN HK
      go_enter Try.func57, Try.ntmps57
      go_wp2_with fail
      have P : Hid ((w.alloc (.cells #[.int .i64 n, .int .i64 d] 34)).heap[w.heap.size]? = some (.cells #[.int .i64 n, .int .i64 d] 34)) := Lib.hid (blk_new w _)
      replace NN : Hid (Below w.heap.size w (w.alloc (.cells #[.int .i64 n, .int .i64 d] 34))) := Lib.hid (Bal NN.out _)
      generalize (w.alloc (.cells #[.int .i64 n, .int .i64 d] 34)) = W7 at *
      refine (C1.out _).mono ?_
      rintro e w8 ⟨rfl, hb⟩
      replace NN := Lib.hid (Bgo NN.out hb)
      replace P := Lib.hid (blk_next hb P.out)
      clear hb
      have c_P_0 := blk_cell P.out 0 _ rfl
      have f_P_0 := blk_frozen P.out 0
      have c_P_1 := blk_cell P.out 1 _ rfl
      have f_P_1 := blk_frozen P.out 1
      have l_P := blk_lt P.out
      go_wp2_with fail
      all_goals first | (exfalso; omega; done) | skip
      go_ret
      first | exact ⟨ret_bool FV.out.symm, NN.out⟩ | (refine ⟨ret_bool ?_, NN.out⟩; rw [FV.out]; first | exact decide_eq_false (by omega) | exact decide_eq_true (by omega))
    · have FV := Lib.hid (HY.out HK.out h h1 h2)
      clear HY HN HK
      go_enter Try.func57, Try.ntmps57
      go_wp2_with fail
      have P : Hid ((w.alloc (.cells #[.int .i64 n, .int .i64 d] 34)).heap[w.heap.size]? = some (.cells #[.int .i64 n, .int .i64 d] 34)) := Lib.hid (blk_new w _)
      replace NN : Hid (Below w.heap.size w (w.alloc (.cells #[.int .i64 n, .int .i64 d] 34))) := Lib.hid (Bal NN.out _)
      generalize (w.alloc (.cells #[.int .i64 n, .int .i64 d] 34)) = W9 at *
      refine (C1.out _).mono ?_
      rintro e w10 ⟨rfl, hb⟩
      replace NN := Lib.hid (Bgo NN.out hb)
      replace P := Lib.hid (blk_next hb P.out)
      clear hb
      have c_P_0 := blk_cell P.out 0 _ rfl
      have f_P_0 := blk_frozen P.out 0
      have c_P_1 := blk_cell P.out 1 _ rfl
      have f_P_1 := blk_frozen P.out 1
      have l_P := blk_lt P.out
      go_wp2_with fail
      all_goals first | (exfalso; omega; done) | skip
      go_ret
      first | exact ⟨ret_bool FV.out.symm, NN.out⟩ | (refine ⟨ret_bool ?_, NN.out⟩; rw [FV.out]; first | exact decide_eq_false (by omega) | exact decide_eq_true (by omega))
end Go.Proofs.Ytfangplfbbgphaa
