/- Several texts in one. -/
import Derived.OpenShut
import Derived.StillTail
import Derived.StillTailTactics
import Derived.Handy
import Derived.Test.YtbbnkclajpaghaaMA05
namespace Go.Proofs.Ytbbnkclajpaghaa
open Go.ChangeShapes Go.WideShapes Go.ChangeAt Go.RowKit Cxm
set_option linter.unusedVariables false
set_option maxRecDepth 100000
set_option maxHeartbeats 2000000 in
theorem rowvalid_calls (r : Vr) (w : World) : Calls Try.prog 18 #[Rwv r] w fun e w' => e = .returned (.bool (rowB r)) ∧ Below w.heap.size w w' := by
 have HC : Hid (∀ W : World, Calls Try.prog 31 #[Wv r] W fun e w' => e = .returned (.int .i64 (visE r)) ∧ Below W.heap.size W w') := Lib.hid (wcheck_calls r)
 have hz := visE_zero r
 generalize hv : rowB r = v
 unfold rowB at hv
 rw [← hz] at hv
 obtain ⟨t, c, i, j, re, im, dn, n⟩ := r
 dsimp only [Wv] at HC
 generalize visE ⟨t, c, i, j, re, im, dn, n⟩ = x at *
 dsimp only at hv
 have HV := Lib.hid hv
 have NN := Lib.hid (Below.refl w.heap.size w)
 clear hv hz
 have hc : t < 0 ∨ (0 ≤ t ∧ 64 ≤ t) ∨ (0 ≤ t ∧ t < 64 ∧ c < 0) ∨ (0 ≤ t ∧ t < 64 ∧ 0 ≤ c ∧ 16 ≤ c) ∨ (0 ≤ t ∧ t < 64 ∧ 0 ≤ c ∧ c < 16) := by omega
 rcases hc with h | ⟨h, h1⟩ | ⟨h, h1, h2⟩ | ⟨h, h1, h2, h3⟩ | ⟨h, h1, h2, h3⟩
 ·have F : Hid (v = false) := Lib.hid (by rw [← HV.out, decide_eq_false (by omega : ¬ 0 ≤ t)]; rfl)
  clear HV HC
  go_enter Try.func18, Try.ntmps18
  go_wp2_with fail
  go_ret
  exact ⟨ret_bool F.out.symm, Bal NN.out _⟩
 ·have F : Hid (v = false) := Lib.hid (by rw [← HV.out, decide_eq_true h, decide_eq_false (by omega : ¬ t < 64)]; rfl)
  clear HV HC
  go_enter Try.func18, Try.ntmps18
  go_wp2_with fail
  go_ret
  exact ⟨ret_bool F.out.symm, Bal NN.out _⟩
 ·have F : Hid (v = false) := Lib.hid (by rw [← HV.out, decide_eq_true h, decide_eq_true h1, decide_eq_false (by omega : ¬ 0 ≤ c)]; rfl)
  clear HV HC
  go_enter Try.func18, Try.ntmps18
  go_wp2_with fail
  go_ret
  exact ⟨ret_bool F.out.symm, Bal NN.out _⟩
 ·have F : Hid (v = false) := Lib.hid (by rw [← HV.out, decide_eq_true h, decide_eq_true h1, decide_eq_true h2, decide_eq_false (by omega : ¬ c < 16)]; rfl)
  clear HV HC
  go_enter Try.func18, Try.ntmps18
  go_wp2_with fail
  go_ret
  exact ⟨ret_bool F.out.symm, Bal NN.out _⟩
 ·have F : Hid (decide (x = 0) = v) := Lib.hid (by rw [← HV.out, decide_eq_true h, decide_eq_true h1, decide_eq_true h2, decide_eq_true h3]; rfl)
  clear HV
  go_enter Try.func18, Try.ntmps18
  go_wp2_with fail
  have V0 : Hid ((w.alloc (.cells #[.int .i64 t, .int .i64 c, .int .i64 i, .int .i64 j, .int .i64 re, .int .i64 im, .int .i64 dn, .int .i64 n] 48)).heap[w.heap.size]? = some (.cells #[.int .i64 t, .int .i64 c, .int .i64 i, .int .i64 j, .int .i64 re, .int .i64 im, .int .i64 dn, .int .i64 n] 48)) := Lib.hid (blk_new w _)
  replace NN : Hid (Below w.heap.size w (w.alloc (.cells #[.int .i64 t, .int .i64 c, .int .i64 i, .int .i64 j, .int .i64 re, .int .i64 im, .int .i64 dn, .int .i64 n] 48))) := Lib.hid (Bal NN.out _)
  generalize (w.alloc (.cells #[.int .i64 t, .int .i64 c, .int .i64 i, .int .i64 j, .int .i64 re, .int .i64 im, .int .i64 dn, .int .i64 n] 48)) = W1 at *
  have c_V0_0 := blk_cell V0.out 0 _ rfl
  have f_V0_0 := blk_frozen V0.out 0
  have c_V0_1 := blk_cell V0.out 1 _ rfl
  have f_V0_1 := blk_frozen V0.out 1
  have c_V0_2 := blk_cell V0.out 2 _ rfl
  have f_V0_2 := blk_frozen V0.out 2
  have c_V0_3 := blk_cell V0.out 3 _ rfl
  have f_V0_3 := blk_frozen V0.out 3
  have c_V0_4 := blk_cell V0.out 4 _ rfl
  have f_V0_4 := blk_frozen V0.out 4
  have c_V0_5 := blk_cell V0.out 5 _ rfl
  have f_V0_5 := blk_frozen V0.out 5
  have c_V0_6 := blk_cell V0.out 6 _ rfl
  have f_V0_6 := blk_frozen V0.out 6
  have c_V0_7 := blk_cell V0.out 7 _ rfl
  have f_V0_7 := blk_frozen V0.out 7
  have l_V0 := blk_lt V0.out
  go_wp2_with fail
  refine (HC.out _).mono ?_
  rintro e w2 ⟨rfl, hb⟩
  clear c_V0_0 f_V0_0 c_V0_1 f_V0_1 c_V0_2 f_V0_2 c_V0_3 f_V0_3 c_V0_4 f_V0_4 c_V0_5 f_V0_5 c_V0_6 f_V0_6 c_V0_7 f_V0_7 l_V0
  replace NN := Lib.hid (Bgo NN.out hb)
  replace V0 := Lib.hid (blk_next hb V0.out)
  clear hb
  go_wp2_with fail
  go_ret
  exact ⟨ret_bool F.out, NN.out⟩
set_option maxHeartbeats 2000000 in
theorem refvalid_calls (r : Vr) (w : World) : Calls Try.prog 21 #[Rwv r] w fun e w' => e = .returned (.bool (rowB r)) ∧ Below w.heap.size w w' := by
 have HC : Hid (∀ W : World, Calls Try.prog 35 #[Wv r] W fun e w' => e = .returned (.int .i64 (visE r)) ∧ Below W.heap.size W w') := Lib.hid (rcheck_calls r)
 have hz := visE_zero r
 generalize hv : rowB r = v
 unfold rowB at hv
 rw [← hz] at hv
 obtain ⟨t, c, i, j, re, im, dn, n⟩ := r
 dsimp only [Wv] at HC
 generalize visE ⟨t, c, i, j, re, im, dn, n⟩ = x at *
 dsimp only at hv
 have HV := Lib.hid hv
 have NN := Lib.hid (Below.refl w.heap.size w)
 clear hv hz
 have hc : t < 0 ∨ (0 ≤ t ∧ 64 ≤ t) ∨ (0 ≤ t ∧ t < 64 ∧ c < 0) ∨ (0 ≤ t ∧ t < 64 ∧ 0 ≤ c ∧ 16 ≤ c) ∨ (0 ≤ t ∧ t < 64 ∧ 0 ≤ c ∧ c < 16) := by omega
 rcases hc with h | ⟨h, h1⟩ | ⟨h, h1, h2⟩ | ⟨h, h1, h2, h3⟩ | ⟨h, h1, h2, h3⟩
 ·have F : Hid (v = false) := Lib.hid (by rw [← HV.out, decide_eq_false (by omega : ¬ 0 ≤ t)]; rfl)
  clear HV HC
  go_enter Try.func21, Try.ntmps21
  go_wp2_with fail
  go_ret
  exact ⟨ret_bool F.out.symm, Bal NN.out _⟩
 ·have F : Hid (v = false) := Lib.hid (by rw [← HV.out, decide_eq_true h, decide_eq_false (by omega : ¬ t < 64)]; rfl)
  clear HV HC
  go_enter Try.func21, Try.ntmps21
  go_wp2_with fail
  go_ret
  exact ⟨ret_bool F.out.symm, Bal NN.out _⟩
 ·have F : Hid (v = false) := Lib.hid (by rw [← HV.out, decide_eq_true h, decide_eq_true h1, decide_eq_false (by omega : ¬ 0 ≤ c)]; rfl)
  clear HV HC
  go_enter Try.func21, Try.ntmps21
  go_wp2_with fail
  go_ret
  exact ⟨ret_bool F.out.symm, Bal NN.out _⟩
 ·have F : Hid (v = false) := Lib.hid (by rw [← HV.out, decide_eq_true h, decide_eq_true h1, decide_eq_true h2, decide_eq_false (by omega : ¬ c < 16)]; rfl)
  clear HV HC
  go_enter Try.func21, Try.ntmps21
  go_wp2_with fail
  go_ret
  exact ⟨ret_bool F.out.symm, Bal NN.out _⟩
 ·have F : Hid (decide (x = 0) = v) := Lib.hid (by rw [← HV.out, decide_eq_true h, decide_eq_true h1, decide_eq_true h2, decide_eq_true h3]; rfl)
  clear HV
  go_enter Try.func21, Try.ntmps21
  go_wp2_with fail
  have V0 : Hid ((w.alloc (.cells #[.int .i64 t, .int .i64 c, .int .i64 i, .int .i64 j, .int .i64 re, .int .i64 im, .int .i64 dn, .int .i64 n] 28)).heap[w.heap.size]? = some (.cells #[.int .i64 t, .int .i64 c, .int .i64 i, .int .i64 j, .int .i64 re, .int .i64 im, .int .i64 dn, .int .i64 n] 28)) := Lib.hid (blk_new w _)
  replace NN : Hid (Below w.heap.size w (w.alloc (.cells #[.int .i64 t, .int .i64 c, .int .i64 i, .int .i64 j, .int .i64 re, .int .i64 im, .int .i64 dn, .int .i64 n] 28))) := Lib.hid (Bal NN.out _)
  generalize (w.alloc (.cells #[.int .i64 t, .int .i64 c, .int .i64 i, .int .i64 j, .int .i64 re, .int .i64 im, .int .i64 dn, .int .i64 n] 28)) = W1 at *
  have c_V0_0 := blk_cell V0.out 0 _ rfl
  have f_V0_0 := blk_frozen V0.out 0
  have c_V0_1 := blk_cell V0.out 1 _ rfl
  have f_V0_1 := blk_frozen V0.out 1
  have c_V0_2 := blk_cell V0.out 2 _ rfl
  have f_V0_2 := blk_frozen V0.out 2
  have c_V0_3 := blk_cell V0.out 3 _ rfl
  have f_V0_3 := blk_frozen V0.out 3
  have c_V0_4 := blk_cell V0.out 4 _ rfl
  have f_V0_4 := blk_frozen V0.out 4
  have c_V0_5 := blk_cell V0.out 5 _ rfl
  have f_V0_5 := blk_frozen V0.out 5
  have c_V0_6 := blk_cell V0.out 6 _ rfl
  have f_V0_6 := blk_frozen V0.out 6
  have c_V0_7 := blk_cell V0.out 7 _ rfl
  have f_V0_7 := blk_frozen V0.out 7
  have l_V0 := blk_lt V0.out
  go_wp2_with fail
  refine (HC.out _).mono ?_
  rintro e w2 ⟨rfl, hb⟩
  clear c_V0_0 f_V0_0 c_V0_1 f_V0_1 c_V0_2 f_V0_2 c_V0_3 f_V0_3 c_V0_4 f_V0_4 c_V0_5 f_V0_5 c_V0_6 f_V0_6 c_V0_7 f_V0_7 l_V0
  replace NN := Lib.hid (Bgo NN.out hb)
  replace V0 := Lib.hid (blk_next hb V0.out)
  clear hb
  go_wp2_with fail
  go_ret
  exact ⟨ret_bool F.out, NN.out⟩
theorem keyn_calls (t c i j : Int) (h : -1000000000 ≤ t ∧ t ≤ 1000000000 ∧ -1000000000 ≤ c ∧ c ≤ 1000000000 ∧ -1000000000 ≤ i ∧ i ≤ 1000000000 ∧ -1000000000 ≤ j ∧ j ≤ 1000000000) (w : World) : Calls Try.prog 36 #[.int .i64 t, .int .i64 c, .int .i64 i, .int .i64 j] w fun e w' => e = .returned (.int .i64 (((t * 16 + c) * 8 + i) * 8 + j)) ∧ w' = w := by
 obtain ⟨h1, h2, h3, h4, h5, h6, h7, h8⟩ := h
 go_enter Try.func36, Try.ntmps36
 go_wp2
 go_ret
 exact ⟨ret_int (by omega), rfl⟩
set_option maxHeartbeats 1000000 in
theorem key_calls (r : Vr) (hr : rowB r = true) (w : World) : Calls Try.prog 22 #[Rwv r] w fun e w' => e = .returned (.int .i64 (vkey r)) ∧ Below w.heap.size w w' := by
 have f := rowB_facts hr
 have CC := Lib.hid (keyn_calls r.t r.c r.i r.j (by omega))
 obtain ⟨t, c, i, j, re, im, dn, n⟩ := r
 dsimp only at CC
 have HV : Hid (((t * 16 + c) * 8 + i) * 8 + j = vkey ⟨t, c, i, j, re, im, dn, n⟩) := Lib.hid rfl
 generalize vkey ⟨t, c, i, j, re, im, dn, n⟩ = v at *
 generalize ((t * 16 + c) * 8 + i) * 8 + j = y at *
 have NN := Lib.hid (Below.refl w.heap.size w)
 clear f hr
 go_enter Try.func22, Try.ntmps22
 go_wp2_with fail
 have V0 : Hid ((w.alloc (.cells #[.int .i64 t, .int .i64 c, .int .i64 i, .int .i64 j, .int .i64 re, .int .i64 im, .int .i64 dn, .int .i64 n] 28)).heap[w.heap.size]? = some (.cells #[.int .i64 t, .int .i64 c, .int .i64 i, .int .i64 j, .int .i64 re, .int .i64 im, .int .i64 dn, .int .i64 n] 28)) := Lib.hid (blk_new w _)
 replace NN : Hid (Below w.heap.size w (w.alloc (.cells #[.int .i64 t, .int .i64 c, .int .i64 i, .int .i64 j, .int .i64 re, .int .i64 im, .int .i64 dn, .int .i64 n] 28))) := Lib.hid (Bal NN.out _)
 generalize (w.alloc (.cells #[.int .i64 t, .int .i64 c, .int .i64 i, .int .i64 j, .int .i64 re, .int .i64 im, .int .i64 dn, .int .i64 n] 28)) = W1 at *
 have c_V0_0 := blk_cell V0.out 0 _ rfl
 have f_V0_0 := blk_frozen V0.out 0
 have c_V0_1 := blk_cell V0.out 1 _ rfl
 have f_V0_1 := blk_frozen V0.out 1
 have c_V0_2 := blk_cell V0.out 2 _ rfl
 have f_V0_2 := blk_frozen V0.out 2
 have c_V0_3 := blk_cell V0.out 3 _ rfl
 have f_V0_3 := blk_frozen V0.out 3
 have c_V0_4 := blk_cell V0.out 4 _ rfl
 have f_V0_4 := blk_frozen V0.out 4
 have c_V0_5 := blk_cell V0.out 5 _ rfl
 have f_V0_5 := blk_frozen V0.out 5
 have c_V0_6 := blk_cell V0.out 6 _ rfl
 have f_V0_6 := blk_frozen V0.out 6
 have c_V0_7 := blk_cell V0.out 7 _ rfl
 have f_V0_7 := blk_frozen V0.out 7
 have l_V0 := blk_lt V0.out
 go_wp2_with fail
 refine (CC.out _).mono ?_
 rintro e w1 ⟨rfl, rfl⟩
 go_wp2_with fail
 go_ret
 exact ⟨ret_int HV.out, NN.out⟩
theorem isNaN_calls (x : Int) (w : World) : Calls Try.prog 47 #[.int .i64 x] w fun e w' => e = .returned (.bool false) ∧ w' = w := by
 go_enter Try.func47, Try.ntmps47
 go_wp2
 go_ret
 exact ⟨rfl, rfl⟩
set_option maxHeartbeats 1000000 in
theorem cmp_calls (x y : Int) (w : World) : Calls Try.prog 33 #[.int .i64 x, .int .i64 y] w fun e w' => e = .returned (.int .i64 (kcmp x y)) ∧ w' = w := by
 have NX := Lib.hid (isNaN_calls x)
 have NY := Lib.hid (isNaN_calls y)
 generalize hv : kcmp x y = v
 unfold kcmp at hv
 have HV := Lib.hid hv
 clear hv
 have hc : x < y ∨ x = y ∨ y < x := by omega
 rcases hc with h | h | h
 ·have F : Hid (v = -1) := Lib.hid (by rw [← HV.out, if_pos h])
  clear HV
  go_enter Try.func33, Try.ntmps33
  go_wp2_with fail
  refine (NX.out _).mono ?_
  rintro e w1 ⟨rfl, rfl⟩
  go_wp2_with fail
  refine (NY.out _).mono ?_
  rintro e w1 ⟨rfl, rfl⟩
  go_wp2_with fail
  go_ret
  exact ⟨ret_int F.out.symm, rfl⟩
 ·have F : Hid (v = 0) := Lib.hid (by rw [← HV.out, if_neg (by omega), if_pos h])
  subst h
  clear HV NY
  go_enter Try.func33, Try.ntmps33
  go_wp2_with fail
  refine (NX.out _).mono ?_
  rintro e w1 ⟨rfl, rfl⟩
  go_wp2_with fail
  refine (NX.out _).mono ?_
  rintro e w1 ⟨rfl, rfl⟩
  go_wp2_with fail
  go_ret
  exact ⟨ret_int F.out.symm, rfl⟩
 ·have F : Hid (v = 1) := Lib.hid (by rw [← HV.out, if_neg (by omega), if_neg (by omega)])
  clear HV
  go_enter Try.func33, Try.ntmps33
  go_wp2_with fail
  refine (NX.out _).mono ?_
  rintro e w1 ⟨rfl, rfl⟩
  go_wp2_with fail
  refine (NY.out _).mono ?_
  rintro e w1 ⟨rfl, rfl⟩
  go_wp2_with fail
  go_ret
  exact ⟨ret_int F.out.symm, rfl⟩
set_option maxHeartbeats 2000000 in
theorem or_calls (b : Nat) (x0 x1 x2 x3 : Int) (T : TypeId) (w : World) (hb : w.heap[b]? = some (.cells #[.int .i64 x0, .int .i64 x1, .int .i64 x2, .int .i64 x3] T)) :
  Calls Try.prog 32 #[.slice (some ⟨b, 0, none⟩) 4 4] w fun e w' => e = .returned (.int .i64 (orI x0 (orI x1 (orI x2 x3)))) ∧ w' = w := by
 generalize hv : orI x0 (orI x1 (orI x2 x3)) = v
 unfold orI at hv
 have c0 := blk_cell hb 0 (.int .i64 x0) rfl
 have c1 := blk_cell hb 1 (.int .i64 x1) rfl
 have c2 := blk_cell hb 2 (.int .i64 x2) rfl
 have c3 := blk_cell hb 3 (.int .i64 x3) rfl
 have lt := blk_lt hb
 clear hb
 have hc : x0 ≠ 0 ∨ (x0 = 0 ∧ x1 ≠ 0) ∨ (x0 = 0 ∧ x1 = 0 ∧ x2 ≠ 0) ∨ (x0 = 0 ∧ x1 = 0 ∧ x2 = 0 ∧ x3 ≠ 0) ∨ (x0 = 0 ∧ x1 = 0 ∧ x2 = 0 ∧ x3 = 0) := by omega
 rcases hc with h | ⟨rfl, h⟩ | ⟨rfl, rfl, h⟩ | ⟨rfl, rfl, rfl, h⟩ | ⟨rfl, rfl, rfl, rfl⟩
 ·have F : Hid (v = x0) := Lib.hid (by rw [← hv, if_neg h])
  have q : (x0 != 0) = true := by simp [h]
  clear hv h
  go_enter Try.func32, Try.ntmps32
  go_wp2
  go_rounds 1
  go_ret
  exact ⟨ret_int F.out.symm, rfl⟩
 ·have F : Hid (v = x1) := Lib.hid (by rw [← hv]; simp [h])
  have q : (x1 != 0) = true := by simp [h]
  clear hv h
  go_enter Try.func32, Try.ntmps32
  go_wp2
  go_rounds 2
  go_ret
  exact ⟨ret_int F.out.symm, rfl⟩
 ·have F : Hid (v = x2) := Lib.hid (by rw [← hv]; simp [h])
  have q : (x2 != 0) = true := by simp [h]
  clear hv h
  go_enter Try.func32, Try.ntmps32
  go_wp2
  go_rounds 3
  go_ret
  exact ⟨ret_int F.out.symm, rfl⟩
 ·have F : Hid (v = x3) := Lib.hid (by rw [← hv]; simp)
  have q : (x3 != 0) = true := by simp [h]
  clear hv h
  go_enter Try.func32, Try.ntmps32
  go_wp2
  go_rounds 4
  go_ret
  exact ⟨ret_int F.out.symm, rfl⟩
 ·have F : Hid (v = 0) := Lib.hid (by rw [← hv]; simp)
  clear hv
  go_enter Try.func32, Try.ntmps32
  go_wp2
  go_rounds 5
  go_ret
  exact ⟨ret_int F.out.symm, rfl⟩
set_option maxHeartbeats 4000000 in
set_option maxRecDepth 100000 in
theorem compare_calls (r s : Vr) (w : World) : Calls Try.prog 19 #[Rwv r, Rwv s] w fun e w' => e = .returned (.int .i64 (rcmp r s)) ∧ Below w.heap.size w w' := by
 have HV : Hid (orI (kcmp r.t s.t) (orI (kcmp r.c s.c) (orI (kcmp r.i s.i) (kcmp r.j s.j))) = rcmp r s) := Lib.hid rfl
 obtain ⟨t, c, i, j, re, im, dn, n⟩ := r
 obtain ⟨t', c', i', j', re', im', dn', n'⟩ := s
 dsimp only at HV
 have C0 := Lib.hid (cmp_calls t t')
 have C1 := Lib.hid (cmp_calls c c')
 have C2 := Lib.hid (cmp_calls i i')
 have C3 := Lib.hid (cmp_calls j j')
 generalize rcmp ⟨t, c, i, j, re, im, dn, n⟩ ⟨t', c', i', j', re', im', dn', n'⟩ = v at *
 generalize kcmp t t' = x0 at *
 generalize kcmp c c' = x1 at *
 generalize kcmp i i' = x2 at *
 generalize kcmp j j' = x3 at *
 have NN := Lib.hid (Below.refl w.heap.size w)
 go_enter Try.func19, Try.ntmps19
 go_wp2_with fail
 have V0 : Hid (((w.alloc (.cells #[.int .i64 t, .int .i64 c, .int .i64 i, .int .i64 j, .int .i64 re, .int .i64 im, .int .i64 dn, .int .i64 n] 48)).alloc (.cells #[.int .i64 t', .int .i64 c', .int .i64 i', .int .i64 j', .int .i64 re', .int .i64 im', .int .i64 dn', .int .i64 n'] 48)).heap[w.heap.size]? = some (.cells #[.int .i64 t, .int .i64 c, .int .i64 i, .int .i64 j, .int .i64 re, .int .i64 im, .int .i64 dn, .int .i64 n] 48)) := Lib.hid (blk_alloc (blk_new w _) _)
 have V1 : Hid (((w.alloc (.cells #[.int .i64 t, .int .i64 c, .int .i64 i, .int .i64 j, .int .i64 re, .int .i64 im, .int .i64 dn, .int .i64 n] 48)).alloc (.cells #[.int .i64 t', .int .i64 c', .int .i64 i', .int .i64 j', .int .i64 re', .int .i64 im', .int .i64 dn', .int .i64 n'] 48)).heap[w.heap.size + 1]? = some (.cells #[.int .i64 t', .int .i64 c', .int .i64 i', .int .i64 j', .int .i64 re', .int .i64 im', .int .i64 dn', .int .i64 n'] 48)) := Lib.hid (blk_at _ (by simp))
 replace NN : Hid (Below w.heap.size w ((w.alloc (.cells #[.int .i64 t, .int .i64 c, .int .i64 i, .int .i64 j, .int .i64 re, .int .i64 im, .int .i64 dn, .int .i64 n] 48)).alloc (.cells #[.int .i64 t', .int .i64 c', .int .i64 i', .int .i64 j', .int .i64 re', .int .i64 im', .int .i64 dn', .int .i64 n'] 48))) := Lib.hid (Bal (Bal NN.out _) _)
 generalize ((w.alloc (.cells #[.int .i64 t, .int .i64 c, .int .i64 i, .int .i64 j, .int .i64 re, .int .i64 im, .int .i64 dn, .int .i64 n] 48)).alloc (.cells #[.int .i64 t', .int .i64 c', .int .i64 i', .int .i64 j', .int .i64 re', .int .i64 im', .int .i64 dn', .int .i64 n'] 48)) = W1 at *
 have c_V0_0 := blk_cell V0.out 0 _ rfl
 have f_V0_0 := blk_frozen V0.out 0
 have c_V0_1 := blk_cell V0.out 1 _ rfl
 have f_V0_1 := blk_frozen V0.out 1
 have c_V0_2 := blk_cell V0.out 2 _ rfl
 have f_V0_2 := blk_frozen V0.out 2
 have c_V0_3 := blk_cell V0.out 3 _ rfl
 have f_V0_3 := blk_frozen V0.out 3
 have c_V0_4 := blk_cell V0.out 4 _ rfl
 have f_V0_4 := blk_frozen V0.out 4
 have c_V0_5 := blk_cell V0.out 5 _ rfl
 have f_V0_5 := blk_frozen V0.out 5
 have c_V0_6 := blk_cell V0.out 6 _ rfl
 have f_V0_6 := blk_frozen V0.out 6
 have c_V0_7 := blk_cell V0.out 7 _ rfl
 have f_V0_7 := blk_frozen V0.out 7
 have l_V0 := blk_lt V0.out
 have c_V1_0 := blk_cell V1.out 0 _ rfl
 have f_V1_0 := blk_frozen V1.out 0
 have c_V1_1 := blk_cell V1.out 1 _ rfl
 have f_V1_1 := blk_frozen V1.out 1
 have c_V1_2 := blk_cell V1.out 2 _ rfl
 have f_V1_2 := blk_frozen V1.out 2
 have c_V1_3 := blk_cell V1.out 3 _ rfl
 have f_V1_3 := blk_frozen V1.out 3
 have c_V1_4 := blk_cell V1.out 4 _ rfl
 have f_V1_4 := blk_frozen V1.out 4
 have c_V1_5 := blk_cell V1.out 5 _ rfl
 have f_V1_5 := blk_frozen V1.out 5
 have c_V1_6 := blk_cell V1.out 6 _ rfl
 have f_V1_6 := blk_frozen V1.out 6
 have c_V1_7 := blk_cell V1.out 7 _ rfl
 have f_V1_7 := blk_frozen V1.out 7
 have l_V1 := blk_lt V1.out
 go_wp2_with fail
 refine wp_region_still_tail 24 (by kernel_rfl) (by kernel_rfl) ?_
 simp only [List.take_succ_cons, List.take_zero, List.drop_succ_cons, List.drop_zero]
 repeat still_step
 still_call (C0.out _)
 repeat still_step
 still_call (C1.out _)
 repeat still_step
 still_call (C2.out _)
 repeat still_step
 still_call (C3.out _)
 repeat still_step
 refine wpStill_nil ?_
 clear c_V0_0 f_V0_0 c_V0_1 f_V0_1 c_V0_2 f_V0_2 c_V0_3 f_V0_3 c_V0_4 f_V0_4 c_V0_5 f_V0_5 c_V0_6 f_V0_6 c_V0_7 f_V0_7 l_V0 c_V1_0 f_V1_0 c_V1_1 f_V1_1 c_V1_2 f_V1_2 c_V1_3 f_V1_3 c_V1_4 f_V1_4 c_V1_5 f_V1_5 c_V1_6 f_V1_6 c_V1_7 f_V1_7 l_V1
 go_wp2_with fail
 have VB : (W1.alloc (.cells #[.int .i64 x0, .int .i64 x1, .int .i64 x2, .int .i64 x3] 3)).drew.heap[W1.heap.size]? = some (.cells #[.int .i64 x0, .int .i64 x1, .int .i64 x2, .int .i64 x3] 3) := blk_new W1 _
 refine (or_calls W1.heap.size x0 x1 x2 x3 _ _ VB).mono ?_
 rintro e w2 ⟨rfl, rfl⟩
 go_wp2_with fail
 go_ret
 exact ⟨ret_int HV.out, (Bal NN.out _).drew⟩
end Go.Proofs.Ytbbnkclajpaghaa
