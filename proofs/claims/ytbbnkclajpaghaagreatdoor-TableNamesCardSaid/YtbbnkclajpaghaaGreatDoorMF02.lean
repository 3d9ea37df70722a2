/- Several texts in one. -/
import Derived.OpenShut
import Derived.StillTail
import Derived.StillTailTactics
import Derived.Handy
import Derived.Test.YtbbnkclajpaghaaGreatDoorMF01
set_option maxHeartbeats 4000000
set_option maxRecDepth 100000
set_option linter.unusedVariables false
set_option linter.unusedSimpArgs false
namespace Go.Proofs.YtbbnkclajpaghaaGreatDoor
open Go.ChangeShapes Go.WideShapes Go.ChangeAt Go.RowKit Cxm
theorem rowvalid_calls (r : Vr) (w : World) : Calls Tryz.prog 45 #[Rwv r] w fun e w' => e = .returned (.bool (rowB r)) ∧ Below w.heap.size w w' := by
 have HC : Hid (∀ W : World, Calls Tryz.prog 77 #[Wv r] W fun e w' => e = .returned (.int .i64 (visE r)) ∧ Below W.heap.size W w') := zh (wcheck_calls r)
 have hz := visE_zero r
 generalize hv : rowB r = v
 unfold rowB at hv
 rw [← hz] at hv
 obtain ⟨t, c, i, j, re, im, dn, n⟩ := r
 dsimp only [Wv] at HC
 generalize visE ⟨t, c, i, j, re, im, dn, n⟩ = x at *
 dsimp only at hv
 have HV := zh hv
 have NN := zh (Below.refl w.heap.size w)
 clear hv hz
 have hc : t < 0 ∨ (0 ≤ t ∧ 64 ≤ t) ∨ (0 ≤ t ∧ t < 64 ∧ c < 0) ∨ (0 ≤ t ∧ t < 64 ∧ 0 ≤ c ∧ 16 ≤ c) ∨ (0 ≤ t ∧ t < 64 ∧ 0 ≤ c ∧ c < 16) := by omega
 rcases hc with h | ⟨h, h1⟩ | ⟨h, h1, h2⟩ | ⟨h, h1, h2, h3⟩ | ⟨h, h1, h2, h3⟩
 ·have F : Hid (v = false) := zh (by rw [← HV.out, decide_eq_false (by omega : ¬ 0 ≤ t)]; rfl)
  clear HV HC
  go_enter Tryz.func45, Tryz.ntmps45
  go_wp2_with fail
  go_ret
  exact ⟨ret_bool F.out.symm, Bal NN.out _⟩
 ·have F : Hid (v = false) := zh (by rw [← HV.out, decide_eq_true h, decide_eq_false (by omega : ¬ t < 64)]; rfl)
  clear HV HC
  go_enter Tryz.func45, Tryz.ntmps45
  go_wp2_with fail
  go_ret
  exact ⟨ret_bool F.out.symm, Bal NN.out _⟩
 ·have F : Hid (v = false) := zh (by rw [← HV.out, decide_eq_true h, decide_eq_true h1, decide_eq_false (by omega : ¬ 0 ≤ c)]; rfl)
  clear HV HC
  go_enter Tryz.func45, Tryz.ntmps45
  go_wp2_with fail
  go_ret
  exact ⟨ret_bool F.out.symm, Bal NN.out _⟩
 ·have F : Hid (v = false) := zh (by rw [← HV.out, decide_eq_true h, decide_eq_true h1, decide_eq_true h2, decide_eq_false (by omega : ¬ c < 16)]; rfl)
  clear HV HC
  go_enter Tryz.func45, Tryz.ntmps45
  go_wp2_with fail
  go_ret
  exact ⟨ret_bool F.out.symm, Bal NN.out _⟩
 ·have F : Hid (decide (x = 0) = v) := zh (by rw [← HV.out, decide_eq_true h, decide_eq_true h1, decide_eq_true h2, decide_eq_true h3]; rfl)
  clear HV
  go_enter Tryz.func45, Tryz.ntmps45
  go_wp2_with fail
  have V0 : Hid ((w.alloc (.cells #[.int .i64 t, .int .i64 c, .int .i64 i, .int .i64 j, .int .i64 re, .int .i64 im, .int .i64 dn, .int .i64 n] 67)).heap[w.heap.size]? = some (.cells #[.int .i64 t, .int .i64 c, .int .i64 i, .int .i64 j, .int .i64 re, .int .i64 im, .int .i64 dn, .int .i64 n] 67)) := zh (blk_new w _)
  replace NN : Hid (Below w.heap.size w (w.alloc (.cells #[.int .i64 t, .int .i64 c, .int .i64 i, .int .i64 j, .int .i64 re, .int .i64 im, .int .i64 dn, .int .i64 n] 67))) := zh (Bal NN.out _)
  generalize (w.alloc (.cells #[.int .i64 t, .int .i64 c, .int .i64 i, .int .i64 j, .int .i64 re, .int .i64 im, .int .i64 dn, .int .i64 n] 67)) = W1 at *
  obtain ⟨c_V0_0, f_V0_0, c_V0_1, f_V0_1, c_V0_2, f_V0_2, c_V0_3, f_V0_3, c_V0_4, f_V0_4, c_V0_5, f_V0_5, c_V0_6, f_V0_6, c_V0_7, f_V0_7, l_V0⟩ := zfl8 V0
  go_wp2_with fail
  refine (HC.out _).mono ?_
  rintro e w2 ⟨rfl, hb⟩
  clear c_V0_0 f_V0_0 c_V0_1 f_V0_1 c_V0_2 f_V0_2 c_V0_3 f_V0_3 c_V0_4 f_V0_4 c_V0_5 f_V0_5 c_V0_6 f_V0_6 c_V0_7 f_V0_7 l_V0
  replace NN := zh (Bgo NN.out hb)
  replace V0 := zn hb V0
  clear hb
  go_wp2_with fail
  go_ret
  exact ⟨ret_bool F.out, NN.out⟩
theorem isNaN_calls (x : Int) (w : World) : Calls Tryz.prog 101 #[.int .i64 x] w fun e w' => e = .returned (.bool false) ∧ w' = w := by
 go_enter Tryz.func101, Tryz.ntmps101
 go_wp2
 go_ret
 exact ⟨rfl, rfl⟩
theorem cmp_calls (x y : Int) (w : World) : Calls Tryz.prog 74 #[.int .i64 x, .int .i64 y] w fun e w' => e = .returned (.int .i64 (kcmp x y)) ∧ w' = w := by
 have NX := zh (isNaN_calls x)
 have NY := zh (isNaN_calls y)
 generalize hv : kcmp x y = v
 unfold kcmp at hv
 have HV := zh hv
 clear hv
 have hc : x < y ∨ x = y ∨ y < x := by omega
 rcases hc with h | h | h
 ·have F : Hid (v = -1) := zh (by rw [← HV.out, if_pos h])
  clear HV
  go_enter Tryz.func74, Tryz.ntmps74
  go_wp2_with fail
  refine (NX.out _).mono ?_
  rintro e w1 ⟨rfl, rfl⟩
  go_wp2_with fail
  refine (NY.out _).mono ?_
  rintro e w1 ⟨rfl, rfl⟩
  go_wp2_with fail
  go_ret
  exact ⟨ret_int F.out.symm, rfl⟩
 ·have F : Hid (v = 0) := zh (by rw [← HV.out, if_neg (by omega), if_pos h])
  subst h
  clear HV NY
  go_enter Tryz.func74, Tryz.ntmps74
  go_wp2_with fail
  refine (NX.out _).mono ?_
  rintro e w1 ⟨rfl, rfl⟩
  go_wp2_with fail
  refine (NX.out _).mono ?_
  rintro e w1 ⟨rfl, rfl⟩
  go_wp2_with fail
  go_ret
  exact ⟨ret_int F.out.symm, rfl⟩
 ·have F : Hid (v = 1) := zh (by rw [← HV.out, if_neg (by omega), if_neg (by omega)])
  clear HV
  go_enter Tryz.func74, Tryz.ntmps74
  go_wp2_with fail
  refine (NX.out _).mono ?_
  rintro e w1 ⟨rfl, rfl⟩
  go_wp2_with fail
  refine (NY.out _).mono ?_
  rintro e w1 ⟨rfl, rfl⟩
  go_wp2_with fail
  go_ret
  exact ⟨ret_int F.out.symm, rfl⟩
theorem or_calls (b : Nat) (x0 x1 x2 x3 : Int) (T : TypeId) (w : World) (hb : w.heap[b]? = some (.cells #[.int .i64 x0, .int .i64 x1, .int .i64 x2, .int .i64 x3] T)) :
  Calls Tryz.prog 73 #[.slice (some ⟨b, 0, none⟩) 4 4] w fun e w' => e = .returned (.int .i64 (orI x0 (orI x1 (orI x2 x3)))) ∧ w' = w := by
 generalize hv : orI x0 (orI x1 (orI x2 x3)) = v
 unfold orI at hv
 have c0 := blk_cell hb 0 (.int .i64 x0) rfl
 have c1 := blk_cell hb 1 (.int .i64 x1) rfl
 have c2 := blk_cell hb 2 (.int .i64 x2) rfl
 have c3 := blk_cell hb 3 (.int .i64 x3) rfl
 have lt := blk_lt hb
 clear hb
 have hc : x0 ≠ 0 ∨ (x0 = 0 ∧ x1 ≠ 0) ∨ (x0 = 0 ∧ x1 = 0 ∧ x2 ≠ 0) ∨ (x0 = 0 ∧ x1 = 0 ∧ x2 = 0 ∧ x3 ≠ 0) ∨ (x0 = 0 ∧ x1 = 0 ∧ x2 = 0 ∧ x3 = 0) := by omega
 rcases hc with h | ⟨rfl, h⟩ | ⟨rfl, rfl, h⟩ | ⟨rfl, rfl, rfl, h⟩ | ⟨rfl, rfl, rfl, rfl⟩
 ·have F : Hid (v = x0) := zh (by rw [← hv, if_neg h])
  have q : (x0 != 0) = true := by simp [h]
  clear hv h
  go_enter Tryz.func73, Tryz.ntmps73
  go_wp2
  go_rounds 1
  go_ret
  exact ⟨ret_int F.out.symm, rfl⟩
 ·have F : Hid (v = x1) := zh (by rw [← hv]; simp [h])
  have q : (x1 != 0) = true := by simp [h]
  clear hv h
  go_enter Tryz.func73, Tryz.ntmps73
  go_wp2
  go_rounds 2
  go_ret
  exact ⟨ret_int F.out.symm, rfl⟩
 ·have F : Hid (v = x2) := zh (by rw [← hv]; simp [h])
  have q : (x2 != 0) = true := by simp [h]
  clear hv h
  go_enter Tryz.func73, Tryz.ntmps73
  go_wp2
  go_rounds 3
  go_ret
  exact ⟨ret_int F.out.symm, rfl⟩
 ·have F : Hid (v = x3) := zh (by rw [← hv]; simp)
  have q : (x3 != 0) = true := by simp [h]
  clear hv h
  go_enter Tryz.func73, Tryz.ntmps73
  go_wp2
  go_rounds 4
  go_ret
  exact ⟨ret_int F.out.symm, rfl⟩
 ·have F : Hid (v = 0) := zh (by rw [← hv]; simp)
  clear hv
  go_enter Tryz.func73, Tryz.ntmps73
  go_wp2
  go_rounds 5
  go_ret
  exact ⟨ret_int F.out.symm, rfl⟩
theorem compare_calls (r s : Vr) (w : World) : Calls Tryz.prog 42 #[Rwv r, Rwv s] w fun e w' => e = .returned (.int .i64 (rcmp r s)) ∧ Below w.heap.size w w' := by
 have HV : Hid (orI (kcmp r.t s.t) (orI (kcmp r.c s.c) (orI (kcmp r.i s.i) (kcmp r.j s.j))) = rcmp r s) := zh rfl
 obtain ⟨t, c, i, j, re, im, dn, n⟩ := r
 obtain ⟨t', c', i', j', re', im', dn', n'⟩ := s
 dsimp only at HV
 have C0 := zh (cmp_calls t t')
 have C1 := zh (cmp_calls c c')
 have C2 := zh (cmp_calls i i')
 have C3 := zh (cmp_calls j j')
 generalize rcmp ⟨t, c, i, j, re, im, dn, n⟩ ⟨t', c', i', j', re', im', dn', n'⟩ = v at *
 generalize kcmp t t' = x0 at *
 generalize kcmp c c' = x1 at *
 generalize kcmp i i' = x2 at *
 generalize kcmp j j' = x3 at *
 have NN := zh (Below.refl w.heap.size w)
 go_enter Tryz.func42, Tryz.ntmps42
 go_wp2_with fail
 have V0 : Hid (((w.alloc (.cells #[.int .i64 t, .int .i64 c, .int .i64 i, .int .i64 j, .int .i64 re, .int .i64 im, .int .i64 dn, .int .i64 n] 67)).alloc (.cells #[.int .i64 t', .int .i64 c', .int .i64 i', .int .i64 j', .int .i64 re', .int .i64 im', .int .i64 dn', .int .i64 n'] 67)).heap[w.heap.size]? = some (.cells #[.int .i64 t, .int .i64 c, .int .i64 i, .int .i64 j, .int .i64 re, .int .i64 im, .int .i64 dn, .int .i64 n] 67)) := zh (blk_alloc (blk_new w _) _)
 have V1 : Hid (((w.alloc (.cells #[.int .i64 t, .int .i64 c, .int .i64 i, .int .i64 j, .int .i64 re, .int .i64 im, .int .i64 dn, .int .i64 n] 67)).alloc (.cells #[.int .i64 t', .int .i64 c', .int .i64 i', .int .i64 j', .int .i64 re', .int .i64 im', .int .i64 dn', .int .i64 n'] 67)).heap[w.heap.size + 1]? = some (.cells #[.int .i64 t', .int .i64 c', .int .i64 i', .int .i64 j', .int .i64 re', .int .i64 im', .int .i64 dn', .int .i64 n'] 67)) := zh (blk_at _ (by simp))
 replace NN : Hid (Below w.heap.size w ((w.alloc (.cells #[.int .i64 t, .int .i64 c, .int .i64 i, .int .i64 j, .int .i64 re, .int .i64 im, .int .i64 dn, .int .i64 n] 67)).alloc (.cells #[.int .i64 t', .int .i64 c', .int .i64 i', .int .i64 j', .int .i64 re', .int .i64 im', .int .i64 dn', .int .i64 n'] 67))) := zh (Bal (Bal NN.out _) _)
 generalize ((w.alloc (.cells #[.int .i64 t, .int .i64 c, .int .i64 i, .int .i64 j, .int .i64 re, .int .i64 im, .int .i64 dn, .int .i64 n] 67)).alloc (.cells #[.int .i64 t', .int .i64 c', .int .i64 i', .int .i64 j', .int .i64 re', .int .i64 im', .int .i64 dn', .int .i64 n'] 67)) = W1 at *
 obtain ⟨c_V0_0, f_V0_0, c_V0_1, f_V0_1, c_V0_2, f_V0_2, c_V0_3, f_V0_3, c_V0_4, f_V0_4, c_V0_5, f_V0_5, c_V0_6, f_V0_6, c_V0_7, f_V0_7, l_V0⟩ := zfl8 V0
 obtain ⟨c_V1_0, f_V1_0, c_V1_1, f_V1_1, c_V1_2, f_V1_2, c_V1_3, f_V1_3, c_V1_4, f_V1_4, c_V1_5, f_V1_5, c_V1_6, f_V1_6, c_V1_7, f_V1_7, l_V1⟩ := zfl8 V1
 go_wp2_with fail
 refine wp_region_still_tail 24 (by kernel_rfl) (by kernel_rfl) ?_
 simp only [List.take_succ_cons, List.take_zero, List.drop_succ_cons, List.drop_zero]
 repeat still_step
 still_call (C0.out _)
 repeat still_step
 still_call (C1.out _)
 repeat still_step
 still_call (C2.out _)
 repeat still_step
 still_call (C3.out _)
 repeat still_step
 refine wpStill_nil ?_
 clear c_V0_0 f_V0_0 c_V0_1 f_V0_1 c_V0_2 f_V0_2 c_V0_3 f_V0_3 c_V0_4 f_V0_4 c_V0_5 f_V0_5 c_V0_6 f_V0_6 c_V0_7 f_V0_7 l_V0 c_V1_0 f_V1_0 c_V1_1 f_V1_1 c_V1_2 f_V1_2 c_V1_3 f_V1_3 c_V1_4 f_V1_4 c_V1_5 f_V1_5 c_V1_6 f_V1_6 c_V1_7 f_V1_7 l_V1
 go_wp2_with fail
 have VB : (W1.alloc (.cells #[.int .i64 x0, .int .i64 x1, .int .i64 x2, .int .i64 x3] 3)).drew.heap[W1.heap.size]? = some (.cells #[.int .i64 x0, .int .i64 x1, .int .i64 x2, .int .i64 x3] 3) := blk_new W1 _
 refine (or_calls W1.heap.size x0 x1 x2 x3 _ _ VB).mono ?_
 rintro e w2 ⟨rfl, rfl⟩
 go_wp2_with fail
 go_ret
 exact ⟨ret_int HV.out, (Bal NN.out _).drew⟩
end Go.Proofs.YtbbnkclajpaghaaGreatDoor
