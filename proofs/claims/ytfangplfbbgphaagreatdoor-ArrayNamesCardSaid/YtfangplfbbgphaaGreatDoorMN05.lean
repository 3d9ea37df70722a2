/- Several texts in one. -/
import Derived.Deep.DeepCutAuto
import Derived.Deep.RegionHeld3
import Derived.Test.YtfangplfbbgphaaGreatDoorMN04
namespace Go.Proofs.YtfangplfbbgphaaGreatDoor
open Go.ChangeShapes Go.WideShapes Go.ChangeAt Go.RowKit
set_option linter.unusedVariables false
set_option maxRecDepth 100000
set_option linter.unusedSimpArgs false
attribute [local go_sem ↓] Go.wp_at_zero Go.wp_at_succ
theorem SK.far {L : List (Nat × Nat × Obj)} {k b off : Nat} {X : World} {v : Value} (h : SK L k X) (hn : ∀ p ∈ L, p.2.1 ≠ b) : SK L k (X.setCell ⟨b, off, none⟩ v) := fun p hp e => blk_set_other (h p hp e) (fun hh => hn p hp hh.symm) _ _
abbrev Pv (x1 x2 y1 y2 z1 z2 : Int) : Value := .agg #[.int .i64 x1, .int .i64 x2, .int .i64 y1, .int .i64 y2, .int .i64 z1, .int .i64 z2]
def plB (n d m k : Int) : Bool := prmB n d && (prmB m k && (decide (-d ≤ n) && decide (n ≤ d)))
def atE (A B n d m k : Int) : Int := if errG A B ≠ 0 then errG A B else if plB n d m k then 0 else 8
def atV (A B n d m k : Int) : Value := if atE A B n d m k = 0 then Pv (plX A n d m k).1 (plX A n d m k).2.1 (plY A n d m k).1 (plY A n d m k).2.1 (plZ B n d).1 (plZ B n d).2.1 else Pv 0 0 0 0 0 0
theorem at_bad {A B n d m k e : Int} (h : atE A B n d m k = e) (he : e ≠ 0) : atV A B n d m k = Pv 0 0 0 0 0 0 := by unfold atV; rw [h, if_neg he]
set_option maxRecDepth 100000 in
set_option maxHeartbeats 8000000 in
theorem at_calls (A B n d m k : Int) (w : World) : Calls Tryz.prog 65 #[Gv A B, Fv n d, Fv m k] w fun e w' => e = .returned (.tuple #[atV A B n d m k, .int .i64 (atE A B n d m k)]) ∧ Below w.heap.size w w' := by
 have NN := Lib.hid (Below.refl w.heap.size w)
 have GC := Lib.hid (fun W => gcheck_calls A B W)
 have PS := Lib.hid (fun W => param_calls n d W)
 have PT := Lib.hid (fun W => param_calls m k W)
 by_cases hg : errG A B ≠ 0
 ·have hE : atE A B n d m k = errG A B := by unfold atE; rw [if_pos hg]
  have FV := Lib.hid (at_bad hE hg)
  have FE := Lib.hid hE
  have q1 : (errG A B != 0) = true := by simpa using hg
  generalize errG A B = eg at *
  generalize atE A B n d m k = ae at *
  generalize atV A B n d m k = av at *
  clear hE hg PS PT
  go_enter Tryz.func65, Tryz.ntmps65
  go_wp2_with fail
  have G : Hid (((((w.alloc (.cells #[.int .i64 A, .int .i64 B] 23)).alloc (.cells #[.int .i64 n, .int .i64 d] 36)).alloc (.cells #[.int .i64 m, .int .i64 k] 36)).alloc (.cells #[.int .i64 0, .int .i64 0, .int .i64 0, .int .i64 0, .int .i64 0, .int .i64 0] 38)).heap[w.heap.size]? = some (.cells #[.int .i64 A, .int .i64 B] 23)) := Lib.hid (blk_alloc (blk_alloc (blk_alloc (blk_new w _) _) _) _)
  have S : Hid (((((w.alloc (.cells #[.int .i64 A, .int .i64 B] 23)).alloc (.cells #[.int .i64 n, .int .i64 d] 36)).alloc (.cells #[.int .i64 m, .int .i64 k] 36)).alloc (.cells #[.int .i64 0, .int .i64 0, .int .i64 0, .int .i64 0, .int .i64 0, .int .i64 0] 38)).heap[w.heap.size + 1]? = some (.cells #[.int .i64 n, .int .i64 d] 36)) := Lib.hid (blk_alloc (blk_alloc (blk_at _ (by simp)) _) _)
  have T : Hid (((((w.alloc (.cells #[.int .i64 A, .int .i64 B] 23)).alloc (.cells #[.int .i64 n, .int .i64 d] 36)).alloc (.cells #[.int .i64 m, .int .i64 k] 36)).alloc (.cells #[.int .i64 0, .int .i64 0, .int .i64 0, .int .i64 0, .int .i64 0, .int .i64 0] 38)).heap[w.heap.size + 1 + 1]? = some (.cells #[.int .i64 m, .int .i64 k] 36)) := Lib.hid (blk_alloc (blk_at _ (by simp)) _)
  have R : Hid (((((w.alloc (.cells #[.int .i64 A, .int .i64 B] 23)).alloc (.cells #[.int .i64 n, .int .i64 d] 36)).alloc (.cells #[.int .i64 m, .int .i64 k] 36)).alloc (.cells #[.int .i64 0, .int .i64 0, .int .i64 0, .int .i64 0, .int .i64 0, .int .i64 0] 38)).heap[w.heap.size + 1 + 1 + 1]? = some (.cells #[.int .i64 0, .int .i64 0, .int .i64 0, .int .i64 0, .int .i64 0, .int .i64 0] 38)) := Lib.hid (blk_at _ (by simp))
  replace NN : Hid (Below w.heap.size w ((((w.alloc (.cells #[.int .i64 A, .int .i64 B] 23)).alloc (.cells #[.int .i64 n, .int .i64 d] 36)).alloc (.cells #[.int .i64 m, .int .i64 k] 36)).alloc (.cells #[.int .i64 0, .int .i64 0, .int .i64 0, .int .i64 0, .int .i64 0, .int .i64 0] 38))) := Lib.hid (Bal (Bal (Bal (Bal NN.out _) _) _) _)
  generalize ((((w.alloc (.cells #[.int .i64 A, .int .i64 B] 23)).alloc (.cells #[.int .i64 n, .int .i64 d] 36)).alloc (.cells #[.int .i64 m, .int .i64 k] 36)).alloc (.cells #[.int .i64 0, .int .i64 0, .int .i64 0, .int .i64 0, .int .i64 0, .int .i64 0] 38)) = W1 at *
  have c_G_0 := blk_cell G.out 0 _ rfl
  have f_G_0 := blk_frozen G.out 0
  have c_G_1 := blk_cell G.out 1 _ rfl
  have f_G_1 := blk_frozen G.out 1
  have l_G := blk_lt G.out
  go_wp2_with fail
  refine (GC.out _).mono ?_
  rintro e w2 ⟨rfl, hb⟩
  clear c_G_0 f_G_0 c_G_1 f_G_1 l_G
  replace NN := Lib.hid (Bgo NN.out hb)
  replace G := Lib.hid (blk_next hb G.out)
  replace S := Lib.hid (blk_next hb S.out)
  replace T := Lib.hid (blk_next hb T.out)
  replace R := Lib.hid (blk_next hb R.out)
  clear hb
  have c_R_0 := blk_cell R.out 0 _ rfl
  have f_R_0 := blk_frozen R.out 0
  have c_R_1 := blk_cell R.out 1 _ rfl
  have f_R_1 := blk_frozen R.out 1
  have c_R_2 := blk_cell R.out 2 _ rfl
  have f_R_2 := blk_frozen R.out 2
  have c_R_3 := blk_cell R.out 3 _ rfl
  have f_R_3 := blk_frozen R.out 3
  have c_R_4 := blk_cell R.out 4 _ rfl
  have f_R_4 := blk_frozen R.out 4
  have c_R_5 := blk_cell R.out 5 _ rfl
  have f_R_5 := blk_frozen R.out 5
  have l_R := blk_lt R.out
  go_wp2_with fail
  clear c_R_0 f_R_0 c_R_1 f_R_1 c_R_2 f_R_2 c_R_3 f_R_3 c_R_4 f_R_4 c_R_5 f_R_5 l_R
  replace G : Hid (((((((w2.setCell ⟨w.heap.size + 1 + 1 + 1, 0, none⟩ (.int .i64 0)).setCell ⟨w.heap.size + 1 + 1 + 1, 1, none⟩ (.int .i64 0)).setCell ⟨w.heap.size + 1 + 1 + 1, 2, none⟩ (.int .i64 0)).setCell ⟨w.heap.size + 1 + 1 + 1, 3, none⟩ (.int .i64 0)).setCell ⟨w.heap.size + 1 + 1 + 1, 4, none⟩ (.int .i64 0)).setCell ⟨w.heap.size + 1 + 1 + 1, 5, none⟩ (.int .i64 0)).heap[w.heap.size]? = some (.cells #[.int .i64 A, .int .i64 B] 23)) := Lib.hid (blk_set_other (b' := w.heap.size + 1 + 1 + 1) (blk_set_other (b' := w.heap.size + 1 + 1 + 1) (blk_set_other (b' := w.heap.size + 1 + 1 + 1) (blk_set_other (b' := w.heap.size + 1 + 1 + 1) (blk_set_other (b' := w.heap.size + 1 + 1 + 1) (blk_set_other (b' := w.heap.size + 1 + 1 + 1) (G.out) (by omega) 0 (.int .i64 0)) (by omega) 1 (.int .i64 0)) (by omega) 2 (.int .i64 0)) (by omega) 3 (.int .i64 0)) (by omega) 4 (.int .i64 0)) (by omega) 5 (.int .i64 0))
  replace S : Hid (((((((w2.setCell ⟨w.heap.size + 1 + 1 + 1, 0, none⟩ (.int .i64 0)).setCell ⟨w.heap.size + 1 + 1 + 1, 1, none⟩ (.int .i64 0)).setCell ⟨w.heap.size + 1 + 1 + 1, 2, none⟩ (.int .i64 0)).setCell ⟨w.heap.size + 1 + 1 + 1, 3, none⟩ (.int .i64 0)).setCell ⟨w.heap.size + 1 + 1 + 1, 4, none⟩ (.int .i64 0)).setCell ⟨w.heap.size + 1 + 1 + 1, 5, none⟩ (.int .i64 0)).heap[w.heap.size + 1]? = some (.cells #[.int .i64 n, .int .i64 d] 36)) := Lib.hid (blk_set_other (b' := w.heap.size + 1 + 1 + 1) (blk_set_other (b' := w.heap.size + 1 + 1 + 1) (blk_set_other (b' := w.heap.size + 1 + 1 + 1) (blk_set_other (b' := w.heap.size + 1 + 1 + 1) (blk_set_other (b' := w.heap.size + 1 + 1 + 1) (blk_set_other (b' := w.heap.size + 1 + 1 + 1) (S.out) (by omega) 0 (.int .i64 0)) (by omega) 1 (.int .i64 0)) (by omega) 2 (.int .i64 0)) (by omega) 3 (.int .i64 0)) (by omega) 4 (.int .i64 0)) (by omega) 5 (.int .i64 0))
  replace T : Hid (((((((w2.setCell ⟨w.heap.size + 1 + 1 + 1, 0, none⟩ (.int .i64 0)).setCell ⟨w.heap.size + 1 + 1 + 1, 1, none⟩ (.int .i64 0)).setCell ⟨w.heap.size + 1 + 1 + 1, 2, none⟩ (.int .i64 0)).setCell ⟨w.heap.size + 1 + 1 + 1, 3, none⟩ (.int .i64 0)).setCell ⟨w.heap.size + 1 + 1 + 1, 4, none⟩ (.int .i64 0)).setCell ⟨w.heap.size + 1 + 1 + 1, 5, none⟩ (.int .i64 0)).heap[w.heap.size + 1 + 1]? = some (.cells #[.int .i64 m, .int .i64 k] 36)) := Lib.hid (blk_set_other (b' := w.heap.size + 1 + 1 + 1) (blk_set_other (b' := w.heap.size + 1 + 1 + 1) (blk_set_other (b' := w.heap.size + 1 + 1 + 1) (blk_set_other (b' := w.heap.size + 1 + 1 + 1) (blk_set_other (b' := w.heap.size + 1 + 1 + 1) (blk_set_other (b' := w.heap.size + 1 + 1 + 1) (T.out) (by omega) 0 (.int .i64 0)) (by omega) 1 (.int .i64 0)) (by omega) 2 (.int .i64 0)) (by omega) 3 (.int .i64 0)) (by omega) 4 (.int .i64 0)) (by omega) 5 (.int .i64 0))
  replace R : Hid (((((((w2.setCell ⟨w.heap.size + 1 + 1 + 1, 0, none⟩ (.int .i64 0)).setCell ⟨w.heap.size + 1 + 1 + 1, 1, none⟩ (.int .i64 0)).setCell ⟨w.heap.size + 1 + 1 + 1, 2, none⟩ (.int .i64 0)).setCell ⟨w.heap.size + 1 + 1 + 1, 3, none⟩ (.int .i64 0)).setCell ⟨w.heap.size + 1 + 1 + 1, 4, none⟩ (.int .i64 0)).setCell ⟨w.heap.size + 1 + 1 + 1, 5, none⟩ (.int .i64 0)).heap[w.heap.size + 1 + 1 + 1]? = some (.cells #[.int .i64 0, .int .i64 0, .int .i64 0, .int .i64 0, .int .i64 0, .int .i64 0] 38)) := Lib.hid (blk_set (blk_set (blk_set (blk_set (blk_set (blk_set (R.out) 0 (.int .i64 0)) 1 (.int .i64 0)) 2 (.int .i64 0)) 3 (.int .i64 0)) 4 (.int .i64 0)) 5 (.int .i64 0))
  replace NN := Lib.hid (Bset1 (Bset1 (Bset1 (Bset1 (Bset1 (Bset1 (NN.out) (show w.heap.size ≤ w.heap.size + 1 + 1 + 1 by omega) 0 (.int .i64 0)) (show w.heap.size ≤ w.heap.size + 1 + 1 + 1 by omega) 1 (.int .i64 0)) (show w.heap.size ≤ w.heap.size + 1 + 1 + 1 by omega) 2 (.int .i64 0)) (show w.heap.size ≤ w.heap.size + 1 + 1 + 1 by omega) 3 (.int .i64 0)) (show w.heap.size ≤ w.heap.size + 1 + 1 + 1 by omega) 4 (.int .i64 0)) (show w.heap.size ≤ w.heap.size + 1 + 1 + 1 by omega) 5 (.int .i64 0))
  generalize ((((((w2.setCell ⟨w.heap.size + 1 + 1 + 1, 0, none⟩ (.int .i64 0)).setCell ⟨w.heap.size + 1 + 1 + 1, 1, none⟩ (.int .i64 0)).setCell ⟨w.heap.size + 1 + 1 + 1, 2, none⟩ (.int .i64 0)).setCell ⟨w.heap.size + 1 + 1 + 1, 3, none⟩ (.int .i64 0)).setCell ⟨w.heap.size + 1 + 1 + 1, 4, none⟩ (.int .i64 0)).setCell ⟨w.heap.size + 1 + 1 + 1, 5, none⟩ (.int .i64 0)) = W3 at *
  have c_R_0 := blk_cell R.out 0 _ rfl
  have f_R_0 := blk_frozen R.out 0
  have c_R_1 := blk_cell R.out 1 _ rfl
  have f_R_1 := blk_frozen R.out 1
  have c_R_2 := blk_cell R.out 2 _ rfl
  have f_R_2 := blk_frozen R.out 2
  have c_R_3 := blk_cell R.out 3 _ rfl
  have f_R_3 := blk_frozen R.out 3
  have c_R_4 := blk_cell R.out 4 _ rfl
  have f_R_4 := blk_frozen R.out 4
  have c_R_5 := blk_cell R.out 5 _ rfl
  have f_R_5 := blk_frozen R.out 5
  have l_R := blk_lt R.out
  go_wp2_with fail
  exact bodyPost_ret (v := .tuple #[Pv 0 0 0 0 0 0, .int .i64 eg]) (by simp [results, Tryz.results65, go_sem, c_R_0, c_R_1, c_R_2, c_R_3, c_R_4, c_R_5]) rfl ⟨by rw [FV.out, FE.out], NN.out⟩
 have hg0 : errG A B = 0 := by simpa using hg
 have hok : okG A B := by
  unfold errG at hg0
  by_cases c : okG A B
  ·exact c
  ·rw [if_neg c] at hg0; cases hg0
 rw [hg0] at GC
 have AE : atE A B n d m k = if plB n d m k then 0 else 8 := by unfold atE; rw [if_neg hg]
 clear hg hg0
 cases hs : prmB n d
 ·rw [hs] at PS
  have hP : plB n d m k = false := by unfold plB; rw [hs]; rfl
  clear hs
  have hE : atE A B n d m k = 8 := by rw [AE, hP]; rfl
  have FV := Lib.hid (at_bad hE (by decide))
  have FE := Lib.hid hE
  generalize atE A B n d m k = ae at *
  generalize atV A B n d m k = av at *
  clear hE AE hP hok
  go_enter Tryz.func65, Tryz.ntmps65
  go_wp2_with fail
  have G : Hid (((((w.alloc (.cells #[.int .i64 A, .int .i64 B] 23)).alloc (.cells #[.int .i64 n, .int .i64 d] 36)).alloc (.cells #[.int .i64 m, .int .i64 k] 36)).alloc (.cells #[.int .i64 0, .int .i64 0, .int .i64 0, .int .i64 0, .int .i64 0, .int .i64 0] 38)).heap[w.heap.size]? = some (.cells #[.int .i64 A, .int .i64 B] 23)) := Lib.hid (blk_alloc (blk_alloc (blk_alloc (blk_new w _) _) _) _)
  have S : Hid (((((w.alloc (.cells #[.int .i64 A, .int .i64 B] 23)).alloc (.cells #[.int .i64 n, .int .i64 d] 36)).alloc (.cells #[.int .i64 m, .int .i64 k] 36)).alloc (.cells #[.int .i64 0, .int .i64 0, .int .i64 0, .int .i64 0, .int .i64 0, .int .i64 0] 38)).heap[w.heap.size + 1]? = some (.cells #[.int .i64 n, .int .i64 d] 36)) := Lib.hid (blk_alloc (blk_alloc (blk_at _ (by simp)) _) _)
  have T : Hid (((((w.alloc (.cells #[.int .i64 A, .int .i64 B] 23)).alloc (.cells #[.int .i64 n, .int .i64 d] 36)).alloc (.cells #[.int .i64 m, .int .i64 k] 36)).alloc (.cells #[.int .i64 0, .int .i64 0, .int .i64 0, .int .i64 0, .int .i64 0, .int .i64 0] 38)).heap[w.heap.size + 1 + 1]? = some (.cells #[.int .i64 m, .int .i64 k] 36)) := Lib.hid (blk_alloc (blk_at _ (by simp)) _)
  have R : Hid (((((w.alloc (.cells #[.int .i64 A, .int .i64 B] 23)).alloc (.cells #[.int .i64 n, .int .i64 d] 36)).alloc (.cells #[.int .i64 m, .int .i64 k] 36)).alloc (.cells #[.int .i64 0, .int .i64 0, .int .i64 0, .int .i64 0, .int .i64 0, .int .i64 0] 38)).heap[w.heap.size + 1 + 1 + 1]? = some (.cells #[.int .i64 0, .int .i64 0, .int .i64 0, .int .i64 0, .int .i64 0, .int .i64 0] 38)) := Lib.hid (blk_at _ (by simp))
  replace NN : Hid (Below w.heap.size w ((((w.alloc (.cells #[.int .i64 A, .int .i64 B] 23)).alloc (.cells #[.int .i64 n, .int .i64 d] 36)).alloc (.cells #[.int .i64 m, .int .i64 k] 36)).alloc (.cells #[.int .i64 0, .int .i64 0, .int .i64 0, .int .i64 0, .int .i64 0, .int .i64 0] 38))) := Lib.hid (Bal (Bal (Bal (Bal NN.out _) _) _) _)
  generalize ((((w.alloc (.cells #[.int .i64 A, .int .i64 B] 23)).alloc (.cells #[.int .i64 n, .int .i64 d] 36)).alloc (.cells #[.int .i64 m, .int .i64 k] 36)).alloc (.cells #[.int .i64 0, .int .i64 0, .int .i64 0, .int .i64 0, .int .i64 0, .int .i64 0] 38)) = W4 at *
  have c_G_0 := blk_cell G.out 0 _ rfl
  have f_G_0 := blk_frozen G.out 0
  have c_G_1 := blk_cell G.out 1 _ rfl
  have f_G_1 := blk_frozen G.out 1
  have l_G := blk_lt G.out
  go_wp2_with fail
  refine (GC.out _).mono ?_
  rintro e w5 ⟨rfl, hb⟩
  clear c_G_0 f_G_0 c_G_1 f_G_1 l_G
  replace NN := Lib.hid (Bgo NN.out hb)
  replace G := Lib.hid (blk_next hb G.out)
  replace S := Lib.hid (blk_next hb S.out)
  replace T := Lib.hid (blk_next hb T.out)
  replace R := Lib.hid (blk_next hb R.out)
  clear hb
  have c_S_0 := blk_cell S.out 0 _ rfl
  have f_S_0 := blk_frozen S.out 0
  have c_S_1 := blk_cell S.out 1 _ rfl
  have f_S_1 := blk_frozen S.out 1
  have l_S := blk_lt S.out
  have c_T_0 := blk_cell T.out 0 _ rfl
  have f_T_0 := blk_frozen T.out 0
  have c_T_1 := blk_cell T.out 1 _ rfl
  have f_T_1 := blk_frozen T.out 1
  have l_T := blk_lt T.out
  go_wp2_with fail
  refine (PS.out _).mono ?_
  rintro e w6 ⟨rfl, hb⟩
  clear c_S_0 f_S_0 c_S_1 f_S_1 l_S c_T_0 f_T_0 c_T_1 f_T_1 l_T
  replace NN := Lib.hid (Bgo NN.out hb)
  replace G := Lib.hid (blk_next hb G.out)
  replace S := Lib.hid (blk_next hb S.out)
  replace T := Lib.hid (blk_next hb T.out)
  replace R := Lib.hid (blk_next hb R.out)
  clear hb
  have c_S_0 := blk_cell S.out 0 _ rfl
  have f_S_0 := blk_frozen S.out 0
  have c_S_1 := blk_cell S.out 1 _ rfl
  have f_S_1 := blk_frozen S.out 1
  have l_S := blk_lt S.out
  have c_T_0 := blk_cell T.out 0 _ rfl
  have f_T_0 := blk_frozen T.out 0
  have c_T_1 := blk_cell T.out 1 _ rfl
  have f_T_1 := blk_frozen T.out 1
  have l_T := blk_lt T.out
  have c_R_0 := blk_cell R.out 0 _ rfl
  have f_R_0 := blk_frozen R.out 0
  have c_R_1 := blk_cell R.out 1 _ rfl
  have f_R_1 := blk_frozen R.out 1
  have c_R_2 := blk_cell R.out 2 _ rfl
  have f_R_2 := blk_frozen R.out 2
  have c_R_3 := blk_cell R.out 3 _ rfl
  have f_R_3 := blk_frozen R.out 3
  have c_R_4 := blk_cell R.out 4 _ rfl
  have f_R_4 := blk_frozen R.out 4
  have c_R_5 := blk_cell R.out 5 _ rfl
  have f_R_5 := blk_frozen R.out 5
  have l_R := blk_lt R.out
  go_wp2_with fail
  all_goals first | (exfalso; omega; done) | skip
  clear c_S_0 f_S_0 c_S_1 f_S_1 l_S c_T_0 f_T_0 c_T_1 f_T_1 l_T c_R_0 f_R_0 c_R_1 f_R_1 c_R_2 f_R_2 c_R_3 f_R_3 c_R_4 f_R_4 c_R_5 f_R_5 l_R
  have c_R_0 := blk_cell R.out 0 _ rfl
  have f_R_0 := blk_frozen R.out 0
  have c_R_1 := blk_cell R.out 1 _ rfl
  have f_R_1 := blk_frozen R.out 1
  have c_R_2 := blk_cell R.out 2 _ rfl
  have f_R_2 := blk_frozen R.out 2
  have c_R_3 := blk_cell R.out 3 _ rfl
  have f_R_3 := blk_frozen R.out 3
  have c_R_4 := blk_cell R.out 4 _ rfl
  have f_R_4 := blk_frozen R.out 4
  have c_R_5 := blk_cell R.out 5 _ rfl
  have f_R_5 := blk_frozen R.out 5
  have l_R := blk_lt R.out
  go_wp2_with fail
  clear c_R_0 f_R_0 c_R_1 f_R_1 c_R_2 f_R_2 c_R_3 f_R_3 c_R_4 f_R_4 c_R_5 f_R_5 l_R
  replace G : Hid (((((((w6.setCell ⟨w.heap.size + 1 + 1 + 1, 0, none⟩ (.int .i64 0)).setCell ⟨w.heap.size + 1 + 1 + 1, 1, none⟩ (.int .i64 0)).setCell ⟨w.heap.size + 1 + 1 + 1, 2, none⟩ (.int .i64 0)).setCell ⟨w.heap.size + 1 + 1 + 1, 3, none⟩ (.int .i64 0)).setCell ⟨w.heap.size + 1 + 1 + 1, 4, none⟩ (.int .i64 0)).setCell ⟨w.heap.size + 1 + 1 + 1, 5, none⟩ (.int .i64 0)).heap[w.heap.size]? = some (.cells #[.int .i64 A, .int .i64 B] 23)) := Lib.hid (blk_set_other (b' := w.heap.size + 1 + 1 + 1) (blk_set_other (b' := w.heap.size + 1 + 1 + 1) (blk_set_other (b' := w.heap.size + 1 + 1 + 1) (blk_set_other (b' := w.heap.size + 1 + 1 + 1) (blk_set_other (b' := w.heap.size + 1 + 1 + 1) (blk_set_other (b' := w.heap.size + 1 + 1 + 1) (G.out) (by omega) 0 (.int .i64 0)) (by omega) 1 (.int .i64 0)) (by omega) 2 (.int .i64 0)) (by omega) 3 (.int .i64 0)) (by omega) 4 (.int .i64 0)) (by omega) 5 (.int .i64 0))
  replace S : Hid (((((((w6.setCell ⟨w.heap.size + 1 + 1 + 1, 0, none⟩ (.int .i64 0)).setCell ⟨w.heap.size + 1 + 1 + 1, 1, none⟩ (.int .i64 0)).setCell ⟨w.heap.size + 1 + 1 + 1, 2, none⟩ (.int .i64 0)).setCell ⟨w.heap.size + 1 + 1 + 1, 3, none⟩ (.int .i64 0)).setCell ⟨w.heap.size + 1 + 1 + 1, 4, none⟩ (.int .i64 0)).setCell ⟨w.heap.size + 1 + 1 + 1, 5, none⟩ (.int .i64 0)).heap[w.heap.size + 1]? = some (.cells #[.int .i64 n, .int .i64 d] 36)) := Lib.hid (blk_set_other (b' := w.heap.size + 1 + 1 + 1) (blk_set_other (b' := w.heap.size + 1 + 1 + 1) (blk_set_other (b' := w.heap.size + 1 + 1 + 1) (blk_set_other (b' := w.heap.size + 1 + 1 + 1) (blk_set_other (b' := w.heap.size + 1 + 1 + 1) (blk_set_other (b' := w.heap.size + 1 + 1 + 1) (S.out) (by omega) 0 (.int .i64 0)) (by omega) 1 (.int .i64 0)) (by omega) 2 (.int .i64 0)) (by omega) 3 (.int .i64 0)) (by omega) 4 (.int .i64 0)) (by omega) 5 (.int .i64 0))
  replace T : Hid (((((((w6.setCell ⟨w.heap.size + 1 + 1 + 1, 0, none⟩ (.int .i64 0)).setCell ⟨w.heap.size + 1 + 1 + 1, 1, none⟩ (.int .i64 0)).setCell ⟨w.heap.size + 1 + 1 + 1, 2, none⟩ (.int .i64 0)).setCell ⟨w.heap.size + 1 + 1 + 1, 3, none⟩ (.int .i64 0)).setCell ⟨w.heap.size + 1 + 1 + 1, 4, none⟩ (.int .i64 0)).setCell ⟨w.heap.size + 1 + 1 + 1, 5, none⟩ (.int .i64 0)).heap[w.heap.size + 1 + 1]? = some (.cells #[.int .i64 m, .int .i64 k] 36)) := Lib.hid (blk_set_other (b' := w.heap.size + 1 + 1 + 1) (blk_set_other (b' := w.heap.size + 1 + 1 + 1) (blk_set_other (b' := w.heap.size + 1 + 1 + 1) (blk_set_other (b' := w.heap.size + 1 + 1 + 1) (blk_set_other (b' := w.heap.size + 1 + 1 + 1) (blk_set_other (b' := w.heap.size + 1 + 1 + 1) (T.out) (by omega) 0 (.int .i64 0)) (by omega) 1 (.int .i64 0)) (by omega) 2 (.int .i64 0)) (by omega) 3 (.int .i64 0)) (by omega) 4 (.int .i64 0)) (by omega) 5 (.int .i64 0))
  replace R : Hid (((((((w6.setCell ⟨w.heap.size + 1 + 1 + 1, 0, none⟩ (.int .i64 0)).setCell ⟨w.heap.size + 1 + 1 + 1, 1, none⟩ (.int .i64 0)).setCell ⟨w.heap.size + 1 + 1 + 1, 2, none⟩ (.int .i64 0)).setCell ⟨w.heap.size + 1 + 1 + 1, 3, none⟩ (.int .i64 0)).setCell ⟨w.heap.size + 1 + 1 + 1, 4, none⟩ (.int .i64 0)).setCell ⟨w.heap.size + 1 + 1 + 1, 5, none⟩ (.int .i64 0)).heap[w.heap.size + 1 + 1 + 1]? = some (.cells #[.int .i64 0, .int .i64 0, .int .i64 0, .int .i64 0, .int .i64 0, .int .i64 0] 38)) := Lib.hid (blk_set (blk_set (blk_set (blk_set (blk_set (blk_set (R.out) 0 (.int .i64 0)) 1 (.int .i64 0)) 2 (.int .i64 0)) 3 (.int .i64 0)) 4 (.int .i64 0)) 5 (.int .i64 0))
  replace NN := Lib.hid (Bset1 (Bset1 (Bset1 (Bset1 (Bset1 (Bset1 (NN.out) (show w.heap.size ≤ w.heap.size + 1 + 1 + 1 by omega) 0 (.int .i64 0)) (show w.heap.size ≤ w.heap.size + 1 + 1 + 1 by omega) 1 (.int .i64 0)) (show w.heap.size ≤ w.heap.size + 1 + 1 + 1 by omega) 2 (.int .i64 0)) (show w.heap.size ≤ w.heap.size + 1 + 1 + 1 by omega) 3 (.int .i64 0)) (show w.heap.size ≤ w.heap.size + 1 + 1 + 1 by omega) 4 (.int .i64 0)) (show w.heap.size ≤ w.heap.size + 1 + 1 + 1 by omega) 5 (.int .i64 0))
  generalize ((((((w6.setCell ⟨w.heap.size + 1 + 1 + 1, 0, none⟩ (.int .i64 0)).setCell ⟨w.heap.size + 1 + 1 + 1, 1, none⟩ (.int .i64 0)).setCell ⟨w.heap.size + 1 + 1 + 1, 2, none⟩ (.int .i64 0)).setCell ⟨w.heap.size + 1 + 1 + 1, 3, none⟩ (.int .i64 0)).setCell ⟨w.heap.size + 1 + 1 + 1, 4, none⟩ (.int .i64 0)).setCell ⟨w.heap.size + 1 + 1 + 1, 5, none⟩ (.int .i64 0)) = W7 at *
  have c_R_0 := blk_cell R.out 0 _ rfl
  have f_R_0 := blk_frozen R.out 0
  have c_R_1 := blk_cell R.out 1 _ rfl
  have f_R_1 := blk_frozen R.out 1
  have c_R_2 := blk_cell R.out 2 _ rfl
  have f_R_2 := blk_frozen R.out 2
  have c_R_3 := blk_cell R.out 3 _ rfl
  have f_R_3 := blk_frozen R.out 3
  have c_R_4 := blk_cell R.out 4 _ rfl
  have f_R_4 := blk_frozen R.out 4
  have c_R_5 := blk_cell R.out 5 _ rfl
  have f_R_5 := blk_frozen R.out 5
  have l_R := blk_lt R.out
  go_wp2_with fail
  exact bodyPost_ret (v := .tuple #[Pv 0 0 0 0 0 0, .int .i64 8]) (by simp [results, Tryz.results65, go_sem, c_R_0, c_R_1, c_R_2, c_R_3, c_R_4, c_R_5]) rfl ⟨by rw [FV.out, FE.out], NN.out⟩
 ·rw [hs] at PS
  obtain ⟨_, d1, d2, d3, d4⟩ := prm_facts hs
  cases ht : prmB m k
  ·rw [ht] at PT
   have hP : plB n d m k = false := by unfold plB; rw [hs, ht]; rfl
   clear hs ht
   have hE : atE A B n d m k = 8 := by rw [AE, hP]; rfl
   have FV := Lib.hid (at_bad hE (by decide))
   have FE := Lib.hid hE
   generalize atE A B n d m k = ae at *
   generalize atV A B n d m k = av at *
   clear hE AE hP hok
   go_enter Tryz.func65, Tryz.ntmps65
   go_wp2_with fail
   have G : Hid (((((w.alloc (.cells #[.int .i64 A, .int .i64 B] 23)).alloc (.cells #[.int .i64 n, .int .i64 d] 36)).alloc (.cells #[.int .i64 m, .int .i64 k] 36)).alloc (.cells #[.int .i64 0, .int .i64 0, .int .i64 0, .int .i64 0, .int .i64 0, .int .i64 0] 38)).heap[w.heap.size]? = some (.cells #[.int .i64 A, .int .i64 B] 23)) := Lib.hid (blk_alloc (blk_alloc (blk_alloc (blk_new w _) _) _) _)
   have S : Hid (((((w.alloc (.cells #[.int .i64 A, .int .i64 B] 23)).alloc (.cells #[.int .i64 n, .int .i64 d] 36)).alloc (.cells #[.int .i64 m, .int .i64 k] 36)).alloc (.cells #[.int .i64 0, .int .i64 0, .int .i64 0, .int .i64 0, .int .i64 0, .int .i64 0] 38)).heap[w.heap.size + 1]? = some (.cells #[.int .i64 n, .int .i64 d] 36)) := Lib.hid (blk_alloc (blk_alloc (blk_at _ (by simp)) _) _)
   have T : Hid (((((w.alloc (.cells #[.int .i64 A, .int .i64 B] 23)).alloc (.cells #[.int .i64 n, .int .i64 d] 36)).alloc (.cells #[.int .i64 m, .int .i64 k] 36)).alloc (.cells #[.int .i64 0, .int .i64 0, .int .i64 0, .int .i64 0, .int .i64 0, .int .i64 0] 38)).heap[w.heap.size + 1 + 1]? = some (.cells #[.int .i64 m, .int .i64 k] 36)) := Lib.hid (blk_alloc (blk_at _ (by simp)) _)
   have R : Hid (((((w.alloc (.cells #[.int .i64 A, .int .i64 B] 23)).alloc (.cells #[.int .i64 n, .int .i64 d] 36)).alloc (.cells #[.int .i64 m, .int .i64 k] 36)).alloc (.cells #[.int .i64 0, .int .i64 0, .int .i64 0, .int .i64 0, .int .i64 0, .int .i64 0] 38)).heap[w.heap.size + 1 + 1 + 1]? = some (.cells #[.int .i64 0, .int .i64 0, .int .i64 0, .int .i64 0, .int .i64 0, .int .i64 0] 38)) := Lib.hid (blk_at _ (by simp))
   replace NN : Hid (Below w.heap.size w ((((w.alloc (.cells #[.int .i64 A, .int .i64 B] 23)).alloc (.cells #[.int .i64 n, .int .i64 d] 36)).alloc (.cells #[.int .i64 m, .int .i64 k] 36)).alloc (.cells #[.int .i64 0, .int .i64 0, .int .i64 0, .int .i64 0, .int .i64 0, .int .i64 0] 38))) := Lib.hid (Bal (Bal (Bal (Bal NN.out _) _) _) _)
   generalize ((((w.alloc (.cells #[.int .i64 A, .int .i64 B] 23)).alloc (.cells #[.int .i64 n, .int .i64 d] 36)).alloc (.cells #[.int .i64 m, .int .i64 k] 36)).alloc (.cells #[.int .i64 0, .int .i64 0, .int .i64 0, .int .i64 0, .int .i64 0, .int .i64 0] 38)) = W8 at *
   have c_G_0 := blk_cell G.out 0 _ rfl
   have f_G_0 := blk_frozen G.out 0
   have c_G_1 := blk_cell G.out 1 _ rfl
   have f_G_1 := blk_frozen G.out 1
   have l_G := blk_lt G.out
   go_wp2_with fail
   refine (GC.out _).mono ?_
   rintro e w9 ⟨rfl, hb⟩
   clear c_G_0 f_G_0 c_G_1 f_G_1 l_G
   replace NN := Lib.hid (Bgo NN.out hb)
   replace G := Lib.hid (blk_next hb G.out)
   replace S := Lib.hid (blk_next hb S.out)
   replace T := Lib.hid (blk_next hb T.out)
   replace R := Lib.hid (blk_next hb R.out)
   clear hb
   have c_S_0 := blk_cell S.out 0 _ rfl
   have f_S_0 := blk_frozen S.out 0
   have c_S_1 := blk_cell S.out 1 _ rfl
   have f_S_1 := blk_frozen S.out 1
   have l_S := blk_lt S.out
   have c_T_0 := blk_cell T.out 0 _ rfl
   have f_T_0 := blk_frozen T.out 0
   have c_T_1 := blk_cell T.out 1 _ rfl
   have f_T_1 := blk_frozen T.out 1
   have l_T := blk_lt T.out
   go_wp2_with fail
   refine (PS.out _).mono ?_
   rintro e w10 ⟨rfl, hb⟩
   clear c_S_0 f_S_0 c_S_1 f_S_1 l_S c_T_0 f_T_0 c_T_1 f_T_1 l_T
   replace NN := Lib.hid (Bgo NN.out hb)
   replace G := Lib.hid (blk_next hb G.out)
   replace S := Lib.hid (blk_next hb S.out)
   replace T := Lib.hid (blk_next hb T.out)
   replace R := Lib.hid (blk_next hb R.out)
   clear hb
   have c_S_0 := blk_cell S.out 0 _ rfl
   have f_S_0 := blk_frozen S.out 0
   have c_S_1 := blk_cell S.out 1 _ rfl
   have f_S_1 := blk_frozen S.out 1
   have l_S := blk_lt S.out
   have c_T_0 := blk_cell T.out 0 _ rfl
   have f_T_0 := blk_frozen T.out 0
   have c_T_1 := blk_cell T.out 1 _ rfl
   have f_T_1 := blk_frozen T.out 1
   have l_T := blk_lt T.out
   go_wp2_with fail
   refine (PT.out _).mono ?_
   rintro e w11 ⟨rfl, hb⟩
   clear c_S_0 f_S_0 c_S_1 f_S_1 l_S c_T_0 f_T_0 c_T_1 f_T_1 l_T
   replace NN := Lib.hid (Bgo NN.out hb)
   replace G := Lib.hid (blk_next hb G.out)
   replace S := Lib.hid (blk_next hb S.out)
   replace T := Lib.hid (blk_next hb T.out)
   replace R := Lib.hid (blk_next hb R.out)
   clear hb
   have c_S_0 := blk_cell S.out 0 _ rfl
   have f_S_0 := blk_frozen S.out 0
   have c_S_1 := blk_cell S.out 1 _ rfl
   have f_S_1 := blk_frozen S.out 1
   have l_S := blk_lt S.out
   have c_T_0 := blk_cell T.out 0 _ rfl
   have f_T_0 := blk_frozen T.out 0
   have c_T_1 := blk_cell T.out 1 _ rfl
   have f_T_1 := blk_frozen T.out 1
   have l_T := blk_lt T.out
   have c_R_0 := blk_cell R.out 0 _ rfl
   have f_R_0 := blk_frozen R.out 0
   have c_R_1 := blk_cell R.out 1 _ rfl
   have f_R_1 := blk_frozen R.out 1
   have c_R_2 := blk_cell R.out 2 _ rfl
   have f_R_2 := blk_frozen R.out 2
   have c_R_3 := blk_cell R.out 3 _ rfl
   have f_R_3 := blk_frozen R.out 3
   have c_R_4 := blk_cell R.out 4 _ rfl
   have f_R_4 := blk_frozen R.out 4
   have c_R_5 := blk_cell R.out 5 _ rfl
   have f_R_5 := blk_frozen R.out 5
   have l_R := blk_lt R.out
   go_wp2_with fail
   all_goals first | (exfalso; omega; done) | skip
   clear c_S_0 f_S_0 c_S_1 f_S_1 l_S c_T_0 f_T_0 c_T_1 f_T_1 l_T c_R_0 f_R_0 c_R_1 f_R_1 c_R_2 f_R_2 c_R_3 f_R_3 c_R_4 f_R_4 c_R_5 f_R_5 l_R
   have c_R_0 := blk_cell R.out 0 _ rfl
   have f_R_0 := blk_frozen R.out 0
   have c_R_1 := blk_cell R.out 1 _ rfl
   have f_R_1 := blk_frozen R.out 1
   have c_R_2 := blk_cell R.out 2 _ rfl
   have f_R_2 := blk_frozen R.out 2
   have c_R_3 := blk_cell R.out 3 _ rfl
   have f_R_3 := blk_frozen R.out 3
   have c_R_4 := blk_cell R.out 4 _ rfl
   have f_R_4 := blk_frozen R.out 4
   have c_R_5 := blk_cell R.out 5 _ rfl
   have f_R_5 := blk_frozen R.out 5
   have l_R := blk_lt R.out
   go_wp2_with fail
   clear c_R_0 f_R_0 c_R_1 f_R_1 c_R_2 f_R_2 c_R_3 f_R_3 c_R_4 f_R_4 c_R_5 f_R_5 l_R
   replace G : Hid (((((((w11.setCell ⟨w.heap.size + 1 + 1 + 1, 0, none⟩ (.int .i64 0)).setCell ⟨w.heap.size + 1 + 1 + 1, 1, none⟩ (.int .i64 0)).setCell ⟨w.heap.size + 1 + 1 + 1, 2, none⟩ (.int .i64 0)).setCell ⟨w.heap.size + 1 + 1 + 1, 3, none⟩ (.int .i64 0)).setCell ⟨w.heap.size + 1 + 1 + 1, 4, none⟩ (.int .i64 0)).setCell ⟨w.heap.size + 1 + 1 + 1, 5, none⟩ (.int .i64 0)).heap[w.heap.size]? = some (.cells #[.int .i64 A, .int .i64 B] 23)) := Lib.hid (blk_set_other (b' := w.heap.size + 1 + 1 + 1) (blk_set_other (b' := w.heap.size + 1 + 1 + 1) (blk_set_other (b' := w.heap.size + 1 + 1 + 1) (blk_set_other (b' := w.heap.size + 1 + 1 + 1) (blk_set_other (b' := w.heap.size + 1 + 1 + 1) (blk_set_other (b' := w.heap.size + 1 + 1 + 1) (G.out) (by omega) 0 (.int .i64 0)) (by omega) 1 (.int .i64 0)) (by omega) 2 (.int .i64 0)) (by omega) 3 (.int .i64 0)) (by omega) 4 (.int .i64 0)) (by omega) 5 (.int .i64 0))
   replace S : Hid (((((((w11.setCell ⟨w.heap.size + 1 + 1 + 1, 0, none⟩ (.int .i64 0)).setCell ⟨w.heap.size + 1 + 1 + 1, 1, none⟩ (.int .i64 0)).setCell ⟨w.heap.size + 1 + 1 + 1, 2, none⟩ (.int .i64 0)).setCell ⟨w.heap.size + 1 + 1 + 1, 3, none⟩ (.int .i64 0)).setCell ⟨w.heap.size + 1 + 1 + 1, 4, none⟩ (.int .i64 0)).setCell ⟨w.heap.size + 1 + 1 + 1, 5, none⟩ (.int .i64 0)).heap[w.heap.size + 1]? = some (.cells #[.int .i64 n, .int .i64 d] 36)) := Lib.hid (blk_set_other (b' := w.heap.size + 1 + 1 + 1) (blk_set_other (b' := w.heap.size + 1 + 1 + 1) (blk_set_other (b' := w.heap.size + 1 + 1 + 1) (blk_set_other (b' := w.heap.size + 1 + 1 + 1) (blk_set_other (b' := w.heap.size + 1 + 1 + 1) (blk_set_other (b' := w.heap.size + 1 + 1 + 1) (S.out) (by omega) 0 (.int .i64 0)) (by omega) 1 (.int .i64 0)) (by omega) 2 (.int .i64 0)) (by omega) 3 (.int .i64 0)) (by omega) 4 (.int .i64 0)) (by omega) 5 (.int .i64 0))
   replace T : Hid (((((((w11.setCell ⟨w.heap.size + 1 + 1 + 1, 0, none⟩ (.int .i64 0)).setCell ⟨w.heap.size + 1 + 1 + 1, 1, none⟩ (.int .i64 0)).setCell ⟨w.heap.size + 1 + 1 + 1, 2, none⟩ (.int .i64 0)).setCell ⟨w.heap.size + 1 + 1 + 1, 3, none⟩ (.int .i64 0)).setCell ⟨w.heap.size + 1 + 1 + 1, 4, none⟩ (.int .i64 0)).setCell ⟨w.heap.size + 1 + 1 + 1, 5, none⟩ (.int .i64 0)).heap[w.heap.size + 1 + 1]? = some (.cells #[.int .i64 m, .int .i64 k] 36)) := Lib.hid (blk_set_other (b' := w.heap.size + 1 + 1 + 1) (blk_set_other (b' := w.heap.size + 1 + 1 + 1) (blk_set_other (b' := w.heap.size + 1 + 1 + 1) (blk_set_other (b' := w.heap.size + 1 + 1 + 1) (blk_set_other (b' := w.heap.size + 1 + 1 + 1) (blk_set_other (b' := w.heap.size + 1 + 1 + 1) (T.out) (by omega) 0 (.int .i64 0)) (by omega) 1 (.int .i64 0)) (by omega) 2 (.int .i64 0)) (by omega) 3 (.int .i64 0)) (by omega) 4 (.int .i64 0)) (by omega) 5 (.int .i64 0))
   replace R : Hid (((((((w11.setCell ⟨w.heap.size + 1 + 1 + 1, 0, none⟩ (.int .i64 0)).setCell ⟨w.heap.size + 1 + 1 + 1, 1, none⟩ (.int .i64 0)).setCell ⟨w.heap.size + 1 + 1 + 1, 2, none⟩ (.int .i64 0)).setCell ⟨w.heap.size + 1 + 1 + 1, 3, none⟩ (.int .i64 0)).setCell ⟨w.heap.size + 1 + 1 + 1, 4, none⟩ (.int .i64 0)).setCell ⟨w.heap.size + 1 + 1 + 1, 5, none⟩ (.int .i64 0)).heap[w.heap.size + 1 + 1 + 1]? = some (.cells #[.int .i64 0, .int .i64 0, .int .i64 0, .int .i64 0, .int .i64 0, .int .i64 0] 38)) := Lib.hid (blk_set (blk_set (blk_set (blk_set (blk_set (blk_set (R.out) 0 (.int .i64 0)) 1 (.int .i64 0)) 2 (.int .i64 0)) 3 (.int .i64 0)) 4 (.int .i64 0)) 5 (.int .i64 0))
   replace NN := Lib.hid (Bset1 (Bset1 (Bset1 (Bset1 (Bset1 (Bset1 (NN.out) (show w.heap.size ≤ w.heap.size + 1 + 1 + 1 by omega) 0 (.int .i64 0)) (show w.heap.size ≤ w.heap.size + 1 + 1 + 1 by omega) 1 (.int .i64 0)) (show w.heap.size ≤ w.heap.size + 1 + 1 + 1 by omega) 2 (.int .i64 0)) (show w.heap.size ≤ w.heap.size + 1 + 1 + 1 by omega) 3 (.int .i64 0)) (show w.heap.size ≤ w.heap.size + 1 + 1 + 1 by omega) 4 (.int .i64 0)) (show w.heap.size ≤ w.heap.size + 1 + 1 + 1 by omega) 5 (.int .i64 0))
   generalize ((((((w11.setCell ⟨w.heap.size + 1 + 1 + 1, 0, none⟩ (.int .i64 0)).setCell ⟨w.heap.size + 1 + 1 + 1, 1, none⟩ (.int .i64 0)).setCell ⟨w.heap.size + 1 + 1 + 1, 2, none⟩ (.int .i64 0)).setCell ⟨w.heap.size + 1 + 1 + 1, 3, none⟩ (.int .i64 0)).setCell ⟨w.heap.size + 1 + 1 + 1, 4, none⟩ (.int .i64 0)).setCell ⟨w.heap.size + 1 + 1 + 1, 5, none⟩ (.int .i64 0)) = W12 at *
   have c_R_0 := blk_cell R.out 0 _ rfl
   have f_R_0 := blk_frozen R.out 0
   have c_R_1 := blk_cell R.out 1 _ rfl
   have f_R_1 := blk_frozen R.out 1
   have c_R_2 := blk_cell R.out 2 _ rfl
   have f_R_2 := blk_frozen R.out 2
   have c_R_3 := blk_cell R.out 3 _ rfl
   have f_R_3 := blk_frozen R.out 3
   have c_R_4 := blk_cell R.out 4 _ rfl
   have f_R_4 := blk_frozen R.out 4
   have c_R_5 := blk_cell R.out 5 _ rfl
   have f_R_5 := blk_frozen R.out 5
   have l_R := blk_lt R.out
   go_wp2_with fail
   exact bodyPost_ret (v := .tuple #[Pv 0 0 0 0 0 0, .int .i64 8]) (by simp [results, Tryz.results65, go_sem, c_R_0, c_R_1, c_R_2, c_R_3, c_R_4, c_R_5]) rfl ⟨by rw [FV.out, FE.out], NN.out⟩
  ·rw [ht] at PT
   have hc : n < -d ∨ (-d ≤ n ∧ d < n) ∨ (-d ≤ n ∧ n ≤ d) := by omega
   rcases hc with h | ⟨h, h'⟩ | ⟨h, h'⟩
   ·have hP : plB n d m k = false := by unfold plB; rw [hs, ht, decide_eq_false (by omega : ¬ -d ≤ n)]; rfl
    clear hs ht
    have hE : atE A B n d m k = 8 := by rw [AE, hP]; rfl
    have FV := Lib.hid (at_bad hE (by decide))
    have FE := Lib.hid hE
    generalize atE A B n d m k = ae at *
    generalize atV A B n d m k = av at *
    clear hE AE hP hok
    go_enter Tryz.func65, Tryz.ntmps65
    go_wp2_with fail
    have G : Hid (((((w.alloc (.cells #[.int .i64 A, .int .i64 B] 23)).alloc (.cells #[.int .i64 n, .int .i64 d] 36)).alloc (.cells #[.int .i64 m, .int .i64 k] 36)).alloc (.cells #[.int .i64 0, .int .i64 0, .int .i64 0, .int .i64 0, .int .i64 0, .int .i64 0] 38)).heap[w.heap.size]? = some (.cells #[.int .i64 A, .int .i64 B] 23)) := Lib.hid (blk_alloc (blk_alloc (blk_alloc (blk_new w _) _) _) _)
    have S : Hid (((((w.alloc (.cells #[.int .i64 A, .int .i64 B] 23)).alloc (.cells #[.int .i64 n, .int .i64 d] 36)).alloc (.cells #[.int .i64 m, .int .i64 k] 36)).alloc (.cells #[.int .i64 0, .int .i64 0, .int .i64 0, .int .i64 0, .int .i64 0, .int .i64 0] 38)).heap[w.heap.size + 1]? = some (.cells #[.int .i64 n, .int .i64 d] 36)) := Lib.hid (blk_alloc (blk_alloc (blk_at _ (by simp)) _) _)
    have T : Hid (((((w.alloc (.cells #[.int .i64 A, .int .i64 B] 23)).alloc (.cells #[.int .i64 n, .int .i64 d] 36)).alloc (.cells #[.int .i64 m, .int .i64 k] 36)).alloc (.cells #[.int .i64 0, .int .i64 0, .int .i64 0, .int .i64 0, .int .i64 0, .int .i64 0] 38)).heap[w.heap.size + 1 + 1]? = some (.cells #[.int .i64 m, .int .i64 k] 36)) := Lib.hid (blk_alloc (blk_at _ (by simp)) _)
    have R : Hid (((((w.alloc (.cells #[.int .i64 A, .int .i64 B] 23)).alloc (.cells #[.int .i64 n, .int .i64 d] 36)).alloc (.cells #[.int .i64 m, .int .i64 k] 36)).alloc (.cells #[.int .i64 0, .int .i64 0, .int .i64 0, .int .i64 0, .int .i64 0, .int .i64 0] 38)).heap[w.heap.size + 1 + 1 + 1]? = some (.cells #[.int .i64 0, .int .i64 0, .int .i64 0, .int .i64 0, .int .i64 0, .int .i64 0] 38)) := Lib.hid (blk_at _ (by simp))
    replace NN : Hid (Below w.heap.size w ((((w.alloc (.cells #[.int .i64 A, .int .i64 B] 23)).alloc (.cells #[.int .i64 n, .int .i64 d] 36)).alloc (.cells #[.int .i64 m, .int .i64 k] 36)).alloc (.cells #[.int .i64 0, .int .i64 0, .int .i64 0, .int .i64 0, .int .i64 0, .int .i64 0] 38))) := Lib.hid (Bal (Bal (Bal (Bal NN.out _) _) _) _)
    generalize ((((w.alloc (.cells #[.int .i64 A, .int .i64 B] 23)).alloc (.cells #[.int .i64 n, .int .i64 d] 36)).alloc (.cells #[.int .i64 m, .int .i64 k] 36)).alloc (.cells #[.int .i64 0, .int .i64 0, .int .i64 0, .int .i64 0, .int .i64 0, .int .i64 0] 38)) = W13 at *
    have c_G_0 := blk_cell G.out 0 _ rfl
    have f_G_0 := blk_frozen G.out 0
    have c_G_1 := blk_cell G.out 1 _ rfl
    have f_G_1 := blk_frozen G.out 1
    have l_G := blk_lt G.out
    go_wp2_with fail
    refine (GC.out _).mono ?_
    rintro e w14 ⟨rfl, hb⟩
    clear c_G_0 f_G_0 c_G_1 f_G_1 l_G
    replace NN := Lib.hid (Bgo NN.out hb)
    replace G := Lib.hid (blk_next hb G.out)
    replace S := Lib.hid (blk_next hb S.out)
    replace T := Lib.hid (blk_next hb T.out)
    replace R := Lib.hid (blk_next hb R.out)
    clear hb
    have c_S_0 := blk_cell S.out 0 _ rfl
    have f_S_0 := blk_frozen S.out 0
    have c_S_1 := blk_cell S.out 1 _ rfl
    have f_S_1 := blk_frozen S.out 1
    have l_S := blk_lt S.out
    have c_T_0 := blk_cell T.out 0 _ rfl
    have f_T_0 := blk_frozen T.out 0
    have c_T_1 := blk_cell T.out 1 _ rfl
    have f_T_1 := blk_frozen T.out 1
    have l_T := blk_lt T.out
    go_wp2_with fail
    refine (PS.out _).mono ?_
    rintro e w15 ⟨rfl, hb⟩
    clear c_S_0 f_S_0 c_S_1 f_S_1 l_S c_T_0 f_T_0 c_T_1 f_T_1 l_T
    replace NN := Lib.hid (Bgo NN.out hb)
    replace G := Lib.hid (blk_next hb G.out)
    replace S := Lib.hid (blk_next hb S.out)
    replace T := Lib.hid (blk_next hb T.out)
    replace R := Lib.hid (blk_next hb R.out)
    clear hb
    have c_S_0 := blk_cell S.out 0 _ rfl
    have f_S_0 := blk_frozen S.out 0
    have c_S_1 := blk_cell S.out 1 _ rfl
    have f_S_1 := blk_frozen S.out 1
    have l_S := blk_lt S.out
    have c_T_0 := blk_cell T.out 0 _ rfl
    have f_T_0 := blk_frozen T.out 0
    have c_T_1 := blk_cell T.out 1 _ rfl
    have f_T_1 := blk_frozen T.out 1
    have l_T := blk_lt T.out
    go_wp2_with fail
    refine (PT.out _).mono ?_
    rintro e w16 ⟨rfl, hb⟩
    clear c_S_0 f_S_0 c_S_1 f_S_1 l_S c_T_0 f_T_0 c_T_1 f_T_1 l_T
    replace NN := Lib.hid (Bgo NN.out hb)
    replace G := Lib.hid (blk_next hb G.out)
    replace S := Lib.hid (blk_next hb S.out)
    replace T := Lib.hid (blk_next hb T.out)
    replace R := Lib.hid (blk_next hb R.out)
    clear hb
    have c_S_0 := blk_cell S.out 0 _ rfl
    have f_S_0 := blk_frozen S.out 0
    have c_S_1 := blk_cell S.out 1 _ rfl
    have f_S_1 := blk_frozen S.out 1
    have l_S := blk_lt S.out
    have c_T_0 := blk_cell T.out 0 _ rfl
    have f_T_0 := blk_frozen T.out 0
    have c_T_1 := blk_cell T.out 1 _ rfl
    have f_T_1 := blk_frozen T.out 1
    have l_T := blk_lt T.out
    have c_R_0 := blk_cell R.out 0 _ rfl
    have f_R_0 := blk_frozen R.out 0
    have c_R_1 := blk_cell R.out 1 _ rfl
    have f_R_1 := blk_frozen R.out 1
    have c_R_2 := blk_cell R.out 2 _ rfl
    have f_R_2 := blk_frozen R.out 2
    have c_R_3 := blk_cell R.out 3 _ rfl
    have f_R_3 := blk_frozen R.out 3
    have c_R_4 := blk_cell R.out 4 _ rfl
    have f_R_4 := blk_frozen R.out 4
    have c_R_5 := blk_cell R.out 5 _ rfl
    have f_R_5 := blk_frozen R.out 5
    have l_R := blk_lt R.out
    go_wp2_with fail
    all_goals first | (exfalso; omega; done) | skip
    clear c_S_0 f_S_0 c_S_1 f_S_1 l_S c_T_0 f_T_0 c_T_1 f_T_1 l_T c_R_0 f_R_0 c_R_1 f_R_1 c_R_2 f_R_2 c_R_3 f_R_3 c_R_4 f_R_4 c_R_5 f_R_5 l_R
    have c_R_0 := blk_cell R.out 0 _ rfl
    have f_R_0 := blk_frozen R.out 0
    have c_R_1 := blk_cell R.out 1 _ rfl
    have f_R_1 := blk_frozen R.out 1
    have c_R_2 := blk_cell R.out 2 _ rfl
    have f_R_2 := blk_frozen R.out 2
    have c_R_3 := blk_cell R.out 3 _ rfl
    have f_R_3 := blk_frozen R.out 3
    have c_R_4 := blk_cell R.out 4 _ rfl
    have f_R_4 := blk_frozen R.out 4
    have c_R_5 := blk_cell R.out 5 _ rfl
    have f_R_5 := blk_frozen R.out 5
    have l_R := blk_lt R.out
    go_wp2_with fail
    clear c_R_0 f_R_0 c_R_1 f_R_1 c_R_2 f_R_2 c_R_3 f_R_3 c_R_4 f_R_4 c_R_5 f_R_5 l_R
    replace G : Hid (((((((w16.setCell ⟨w.heap.size + 1 + 1 + 1, 0, none⟩ (.int .i64 0)).setCell ⟨w.heap.size + 1 + 1 + 1, 1, none⟩ (.int .i64 0)).setCell ⟨w.heap.size + 1 + 1 + 1, 2, none⟩ (.int .i64 0)).setCell ⟨w.heap.size + 1 + 1 + 1, 3, none⟩ (.int .i64 0)).setCell ⟨w.heap.size + 1 + 1 + 1, 4, none⟩ (.int .i64 0)).setCell ⟨w.heap.size + 1 + 1 + 1, 5, none⟩ (.int .i64 0)).heap[w.heap.size]? = some (.cells #[.int .i64 A, .int .i64 B] 23)) := Lib.hid (blk_set_other (b' := w.heap.size + 1 + 1 + 1) (blk_set_other (b' := w.heap.size + 1 + 1 + 1) (blk_set_other (b' := w.heap.size + 1 + 1 + 1) (blk_set_other (b' := w.heap.size + 1 + 1 + 1) (blk_set_other (b' := w.heap.size + 1 + 1 + 1) (blk_set_other (b' := w.heap.size + 1 + 1 + 1) (G.out) (by omega) 0 (.int .i64 0)) (by omega) 1 (.int .i64 0)) (by omega) 2 (.int .i64 0)) (by omega) 3 (.int .i64 0)) (by omega) 4 (.int .i64 0)) (by omega) 5 (.int .i64 0))
    replace S : Hid (((((((w16.setCell ⟨w.heap.size + 1 + 1 + 1, 0, none⟩ (.int .i64 0)).setCell ⟨w.heap.size + 1 + 1 + 1, 1, none⟩ (.int .i64 0)).setCell ⟨w.heap.size + 1 + 1 + 1, 2, none⟩ (.int .i64 0)).setCell ⟨w.heap.size + 1 + 1 + 1, 3, none⟩ (.int .i64 0)).setCell ⟨w.heap.size + 1 + 1 + 1, 4, none⟩ (.int .i64 0)).setCell ⟨w.heap.size + 1 + 1 + 1, 5, none⟩ (.int .i64 0)).heap[w.heap.size + 1]? = some (.cells #[.int .i64 n, .int .i64 d] 36)) := Lib.hid (blk_set_other (b' := w.heap.size + 1 + 1 + 1) (blk_set_other (b' := w.heap.size + 1 + 1 + 1) (blk_set_other (b' := w.heap.size + 1 + 1 + 1) (blk_set_other (b' := w.heap.size + 1 + 1 + 1) (blk_set_other (b' := w.heap.size + 1 + 1 + 1) (blk_set_other (b' := w.heap.size + 1 + 1 + 1) (S.out) (by omega) 0 (.int .i64 0)) (by omega) 1 (.int .i64 0)) (by omega) 2 (.int .i64 0)) (by omega) 3 (.int .i64 0)) (by omega) 4 (.int .i64 0)) (by omega) 5 (.int .i64 0))
    replace T : Hid (((((((w16.setCell ⟨w.heap.size + 1 + 1 + 1, 0, none⟩ (.int .i64 0)).setCell ⟨w.heap.size + 1 + 1 + 1, 1, none⟩ (.int .i64 0)).setCell ⟨w.heap.size + 1 + 1 + 1, 2, none⟩ (.int .i64 0)).setCell ⟨w.heap.size + 1 + 1 + 1, 3, none⟩ (.int .i64 0)).setCell ⟨w.heap.size + 1 + 1 + 1, 4, none⟩ (.int .i64 0)).setCell ⟨w.heap.size + 1 + 1 + 1, 5, none⟩ (.int .i64 0)).heap[w.heap.size + 1 + 1]? = some (.cells #[.int .i64 m, .int .i64 k] 36)) := Lib.hid (blk_set_other (b' := w.heap.size + 1 + 1 + 1) (blk_set_other (b' := w.heap.size + 1 + 1 + 1) (blk_set_other (b' := w.heap.size + 1 + 1 + 1) (blk_set_other (b' := w.heap.size + 1 + 1 + 1) (blk_set_other (b' := w.heap.size + 1 + 1 + 1) (blk_set_other (b' := w.heap.size + 1 + 1 + 1) (T.out) (by omega) 0 (.int .i64 0)) (by omega) 1 (.int .i64 0)) (by omega) 2 (.int .i64 0)) (by omega) 3 (.int .i64 0)) (by omega) 4 (.int .i64 0)) (by omega) 5 (.int .i64 0))
    replace R : Hid (((((((w16.setCell ⟨w.heap.size + 1 + 1 + 1, 0, none⟩ (.int .i64 0)).setCell ⟨w.heap.size + 1 + 1 + 1, 1, none⟩ (.int .i64 0)).setCell ⟨w.heap.size + 1 + 1 + 1, 2, none⟩ (.int .i64 0)).setCell ⟨w.heap.size + 1 + 1 + 1, 3, none⟩ (.int .i64 0)).setCell ⟨w.heap.size + 1 + 1 + 1, 4, none⟩ (.int .i64 0)).setCell ⟨w.heap.size + 1 + 1 + 1, 5, none⟩ (.int .i64 0)).heap[w.heap.size + 1 + 1 + 1]? = some (.cells #[.int .i64 0, .int .i64 0, .int .i64 0, .int .i64 0, .int .i64 0, .int .i64 0] 38)) := Lib.hid (blk_set (blk_set (blk_set (blk_set (blk_set (blk_set (R.out) 0 (.int .i64 0)) 1 (.int .i64 0)) 2 (.int .i64 0)) 3 (.int .i64 0)) 4 (.int .i64 0)) 5 (.int .i64 0))
    replace NN := Lib.hid (Bset1 (Bset1 (Bset1 (Bset1 (Bset1 (Bset1 (NN.out) (show w.heap.size ≤ w.heap.size + 1 + 1 + 1 by omega) 0 (.int .i64 0)) (show w.heap.size ≤ w.heap.size + 1 + 1 + 1 by omega) 1 (.int .i64 0)) (show w.heap.size ≤ w.heap.size + 1 + 1 + 1 by omega) 2 (.int .i64 0)) (show w.heap.size ≤ w.heap.size + 1 + 1 + 1 by omega) 3 (.int .i64 0)) (show w.heap.size ≤ w.heap.size + 1 + 1 + 1 by omega) 4 (.int .i64 0)) (show w.heap.size ≤ w.heap.size + 1 + 1 + 1 by omega) 5 (.int .i64 0))
    generalize ((((((w16.setCell ⟨w.heap.size + 1 + 1 + 1, 0, none⟩ (.int .i64 0)).setCell ⟨w.heap.size + 1 + 1 + 1, 1, none⟩ (.int .i64 0)).setCell ⟨w.heap.size + 1 + 1 + 1, 2, none⟩ (.int .i64 0)).setCell ⟨w.heap.size + 1 + 1 + 1, 3, none⟩ (.int .i64 0)).setCell ⟨w.heap.size + 1 + 1 + 1, 4, none⟩ (.int .i64 0)).setCell ⟨w.heap.size + 1 + 1 + 1, 5, none⟩ (.int .i64 0)) = W17 at *
    have c_R_0 := blk_cell R.out 0 _ rfl
    have f_R_0 := blk_frozen R.out 0
    have c_R_1 := blk_cell R.out 1 _ rfl
    have f_R_1 := blk_frozen R.out 1
    have c_R_2 := blk_cell R.out 2 _ rfl
    have f_R_2 := blk_frozen R.out 2
    have c_R_3 := blk_cell R.out 3 _ rfl
    have f_R_3 := blk_frozen R.out 3
    have c_R_4 := blk_cell R.out 4 _ rfl
    have f_R_4 := blk_frozen R.out 4
    have c_R_5 := blk_cell R.out 5 _ rfl
    have f_R_5 := blk_frozen R.out 5
    have l_R := blk_lt R.out
    go_wp2_with fail
    exact bodyPost_ret (v := .tuple #[Pv 0 0 0 0 0 0, .int .i64 8]) (by simp [results, Tryz.results65, go_sem, c_R_0, c_R_1, c_R_2, c_R_3, c_R_4, c_R_5]) rfl ⟨by rw [FV.out, FE.out], NN.out⟩
   ·have hP : plB n d m k = false := by unfold plB; rw [hs, ht, decide_eq_true h, decide_eq_false (by omega : ¬ n ≤ d)]; rfl
    clear hs ht
    have hE : atE A B n d m k = 8 := by rw [AE, hP]; rfl
    have FV := Lib.hid (at_bad hE (by decide))
    have FE := Lib.hid hE
    generalize atE A B n d m k = ae at *
    generalize atV A B n d m k = av at *
    clear hE AE hP hok
    go_enter Tryz.func65, Tryz.ntmps65
    go_wp2_with fail
    have G : Hid (((((w.alloc (.cells #[.int .i64 A, .int .i64 B] 23)).alloc (.cells #[.int .i64 n, .int .i64 d] 36)).alloc (.cells #[.int .i64 m, .int .i64 k] 36)).alloc (.cells #[.int .i64 0, .int .i64 0, .int .i64 0, .int .i64 0, .int .i64 0, .int .i64 0] 38)).heap[w.heap.size]? = some (.cells #[.int .i64 A, .int .i64 B] 23)) := Lib.hid (blk_alloc (blk_alloc (blk_alloc (blk_new w _) _) _) _)
    have S : Hid (((((w.alloc (.cells #[.int .i64 A, .int .i64 B] 23)).alloc (.cells #[.int .i64 n, .int .i64 d] 36)).alloc (.cells #[.int .i64 m, .int .i64 k] 36)).alloc (.cells #[.int .i64 0, .int .i64 0, .int .i64 0, .int .i64 0, .int .i64 0, .int .i64 0] 38)).heap[w.heap.size + 1]? = some (.cells #[.int .i64 n, .int .i64 d] 36)) := Lib.hid (blk_alloc (blk_alloc (blk_at _ (by simp)) _) _)
    have T : Hid (((((w.alloc (.cells #[.int .i64 A, .int .i64 B] 23)).alloc (.cells #[.int .i64 n, .int .i64 d] 36)).alloc (.cells #[.int .i64 m, .int .i64 k] 36)).alloc (.cells #[.int .i64 0, .int .i64 0, .int .i64 0, .int .i64 0, .int .i64 0, .int .i64 0] 38)).heap[w.heap.size + 1 + 1]? = some (.cells #[.int .i64 m, .int .i64 k] 36)) := Lib.hid (blk_alloc (blk_at _ (by simp)) _)
    have R : Hid (((((w.alloc (.cells #[.int .i64 A, .int .i64 B] 23)).alloc (.cells #[.int .i64 n, .int .i64 d] 36)).alloc (.cells #[.int .i64 m, .int .i64 k] 36)).alloc (.cells #[.int .i64 0, .int .i64 0, .int .i64 0, .int .i64 0, .int .i64 0, .int .i64 0] 38)).heap[w.heap.size + 1 + 1 + 1]? = some (.cells #[.int .i64 0, .int .i64 0, .int .i64 0, .int .i64 0, .int .i64 0, .int .i64 0] 38)) := Lib.hid (blk_at _ (by simp))
    replace NN : Hid (Below w.heap.size w ((((w.alloc (.cells #[.int .i64 A, .int .i64 B] 23)).alloc (.cells #[.int .i64 n, .int .i64 d] 36)).alloc (.cells #[.int .i64 m, .int .i64 k] 36)).alloc (.cells #[.int .i64 0, .int .i64 0, .int .i64 0, .int .i64 0, .int .i64 0, .int .i64 0] 38))) := Lib.hid (Bal (Bal (Bal (Bal NN.out _) _) _) _)
    generalize ((((w.alloc (.cells #[.int .i64 A, .int .i64 B] 23)).alloc (.cells #[.int .i64 n, .int .i64 d] 36)).alloc (.cells #[.int .i64 m, .int .i64 k] 36)).alloc (.cells #[.int .i64 0, .int .i64 0, .int .i64 0, .int .i64 0, .int .i64 0, .int .i64 0] 38)) = W18 at *
    have c_G_0 := blk_cell G.out 0 _ rfl
    have f_G_0 := blk_frozen G.out 0
    have c_G_1 := blk_cell G.out 1 _ rfl
    have f_G_1 := blk_frozen G.out 1
    have l_G := blk_lt G.out
    go_wp2_with fail
    refine (GC.out _).mono ?_
    rintro e w19 ⟨rfl, hb⟩
    clear c_G_0 f_G_0 c_G_1 f_G_1 l_G
    replace NN := Lib.hid (Bgo NN.out hb)
    replace G := Lib.hid (blk_next hb G.out)
    replace S := Lib.hid (blk_next hb S.out)
    replace T := Lib.hid (blk_next hb T.out)
    replace R := Lib.hid (blk_next hb R.out)
    clear hb
    have c_S_0 := blk_cell S.out 0 _ rfl
    have f_S_0 := blk_frozen S.out 0
    have c_S_1 := blk_cell S.out 1 _ rfl
    have f_S_1 := blk_frozen S.out 1
    have l_S := blk_lt S.out
    have c_T_0 := blk_cell T.out 0 _ rfl
    have f_T_0 := blk_frozen T.out 0
    have c_T_1 := blk_cell T.out 1 _ rfl
    have f_T_1 := blk_frozen T.out 1
    have l_T := blk_lt T.out
    go_wp2_with fail
    refine (PS.out _).mono ?_
    rintro e w20 ⟨rfl, hb⟩
    clear c_S_0 f_S_0 c_S_1 f_S_1 l_S c_T_0 f_T_0 c_T_1 f_T_1 l_T
    replace NN := Lib.hid (Bgo NN.out hb)
    replace G := Lib.hid (blk_next hb G.out)
    replace S := Lib.hid (blk_next hb S.out)
    replace T := Lib.hid (blk_next hb T.out)
    replace R := Lib.hid (blk_next hb R.out)
    clear hb
    have c_S_0 := blk_cell S.out 0 _ rfl
    have f_S_0 := blk_frozen S.out 0
    have c_S_1 := blk_cell S.out 1 _ rfl
    have f_S_1 := blk_frozen S.out 1
    have l_S := blk_lt S.out
    have c_T_0 := blk_cell T.out 0 _ rfl
    have f_T_0 := blk_frozen T.out 0
    have c_T_1 := blk_cell T.out 1 _ rfl
    have f_T_1 := blk_frozen T.out 1
    have l_T := blk_lt T.out
    go_wp2_with fail
    refine (PT.out _).mono ?_
    rintro e w21 ⟨rfl, hb⟩
    clear c_S_0 f_S_0 c_S_1 f_S_1 l_S c_T_0 f_T_0 c_T_1 f_T_1 l_T
    replace NN := Lib.hid (Bgo NN.out hb)
    replace G := Lib.hid (blk_next hb G.out)
    replace S := Lib.hid (blk_next hb S.out)
    replace T := Lib.hid (blk_next hb T.out)
    replace R := Lib.hid (blk_next hb R.out)
    clear hb
    have c_S_0 := blk_cell S.out 0 _ rfl
    have f_S_0 := blk_frozen S.out 0
    have c_S_1 := blk_cell S.out 1 _ rfl
    have f_S_1 := blk_frozen S.out 1
    have l_S := blk_lt S.out
    have c_T_0 := blk_cell T.out 0 _ rfl
    have f_T_0 := blk_frozen T.out 0
    have c_T_1 := blk_cell T.out 1 _ rfl
    have f_T_1 := blk_frozen T.out 1
    have l_T := blk_lt T.out
    have c_R_0 := blk_cell R.out 0 _ rfl
    have f_R_0 := blk_frozen R.out 0
    have c_R_1 := blk_cell R.out 1 _ rfl
    have f_R_1 := blk_frozen R.out 1
    have c_R_2 := blk_cell R.out 2 _ rfl
    have f_R_2 := blk_frozen R.out 2
    have c_R_3 := blk_cell R.out 3 _ rfl
    have f_R_3 := blk_frozen R.out 3
    have c_R_4 := blk_cell R.out 4 _ rfl
    have f_R_4 := blk_frozen R.out 4
    have c_R_5 := blk_cell R.out 5 _ rfl
    have f_R_5 := blk_frozen R.out 5
    have l_R := blk_lt R.out
    go_wp2_with fail
    all_goals first | (exfalso; omega; done) | skip
    clear c_S_0 f_S_0 c_S_1 f_S_1 l_S c_T_0 f_T_0 c_T_1 f_T_1 l_T c_R_0 f_R_0 c_R_1 f_R_1 c_R_2 f_R_2 c_R_3 f_R_3 c_R_4 f_R_4 c_R_5 f_R_5 l_R
    have c_R_0 := blk_cell R.out 0 _ rfl
    have f_R_0 := blk_frozen R.out 0
    have c_R_1 := blk_cell R.out 1 _ rfl
    have f_R_1 := blk_frozen R.out 1
    have c_R_2 := blk_cell R.out 2 _ rfl
    have f_R_2 := blk_frozen R.out 2
    have c_R_3 := blk_cell R.out 3 _ rfl
    have f_R_3 := blk_frozen R.out 3
    have c_R_4 := blk_cell R.out 4 _ rfl
    have f_R_4 := blk_frozen R.out 4
    have c_R_5 := blk_cell R.out 5 _ rfl
    have f_R_5 := blk_frozen R.out 5
    have l_R := blk_lt R.out
    go_wp2_with fail
    clear c_R_0 f_R_0 c_R_1 f_R_1 c_R_2 f_R_2 c_R_3 f_R_3 c_R_4 f_R_4 c_R_5 f_R_5 l_R
    replace G : Hid (((((((w21.setCell ⟨w.heap.size + 1 + 1 + 1, 0, none⟩ (.int .i64 0)).setCell ⟨w.heap.size + 1 + 1 + 1, 1, none⟩ (.int .i64 0)).setCell ⟨w.heap.size + 1 + 1 + 1, 2, none⟩ (.int .i64 0)).setCell ⟨w.heap.size + 1 + 1 + 1, 3, none⟩ (.int .i64 0)).setCell ⟨w.heap.size + 1 + 1 + 1, 4, none⟩ (.int .i64 0)).setCell ⟨w.heap.size + 1 + 1 + 1, 5, none⟩ (.int .i64 0)).heap[w.heap.size]? = some (.cells #[.int .i64 A, .int .i64 B] 23)) := Lib.hid (blk_set_other (b' := w.heap.size + 1 + 1 + 1) (blk_set_other (b' := w.heap.size + 1 + 1 + 1) (blk_set_other (b' := w.heap.size + 1 + 1 + 1) (blk_set_other (b' := w.heap.size + 1 + 1 + 1) (blk_set_other (b' := w.heap.size + 1 + 1 + 1) (blk_set_other (b' := w.heap.size + 1 + 1 + 1) (G.out) (by omega) 0 (.int .i64 0)) (by omega) 1 (.int .i64 0)) (by omega) 2 (.int .i64 0)) (by omega) 3 (.int .i64 0)) (by omega) 4 (.int .i64 0)) (by omega) 5 (.int .i64 0))
    replace S : Hid (((((((w21.setCell ⟨w.heap.size + 1 + 1 + 1, 0, none⟩ (.int .i64 0)).setCell ⟨w.heap.size + 1 + 1 + 1, 1, none⟩ (.int .i64 0)).setCell ⟨w.heap.size + 1 + 1 + 1, 2, none⟩ (.int .i64 0)).setCell ⟨w.heap.size + 1 + 1 + 1, 3, none⟩ (.int .i64 0)).setCell ⟨w.heap.size + 1 + 1 + 1, 4, none⟩ (.int .i64 0)).setCell ⟨w.heap.size + 1 + 1 + 1, 5, none⟩ (.int .i64 0)).heap[w.heap.size + 1]? = some (.cells #[.int .i64 n, .int .i64 d] 36)) := Lib.hid (blk_set_other (b' := w.heap.size + 1 + 1 + 1) (blk_set_other (b' := w.heap.size + 1 + 1 + 1) (blk_set_other (b' := w.heap.size + 1 + 1 + 1) (blk_set_other (b' := w.heap.size + 1 + 1 + 1) (blk_set_other (b' := w.heap.size + 1 + 1 + 1) (blk_set_other (b' := w.heap.size + 1 + 1 + 1) (S.out) (by omega) 0 (.int .i64 0)) (by omega) 1 (.int .i64 0)) (by omega) 2 (.int .i64 0)) (by omega) 3 (.int .i64 0)) (by omega) 4 (.int .i64 0)) (by omega) 5 (.int .i64 0))
    replace T : Hid (((((((w21.setCell ⟨w.heap.size + 1 + 1 + 1, 0, none⟩ (.int .i64 0)).setCell ⟨w.heap.size + 1 + 1 + 1, 1, none⟩ (.int .i64 0)).setCell ⟨w.heap.size + 1 + 1 + 1, 2, none⟩ (.int .i64 0)).setCell ⟨w.heap.size + 1 + 1 + 1, 3, none⟩ (.int .i64 0)).setCell ⟨w.heap.size + 1 + 1 + 1, 4, none⟩ (.int .i64 0)).setCell ⟨w.heap.size + 1 + 1 + 1, 5, none⟩ (.int .i64 0)).heap[w.heap.size + 1 + 1]? = some (.cells #[.int .i64 m, .int .i64 k] 36)) := Lib.hid (blk_set_other (b' := w.heap.size + 1 + 1 + 1) (blk_set_other (b' := w.heap.size + 1 + 1 + 1) (blk_set_other (b' := w.heap.size + 1 + 1 + 1) (blk_set_other (b' := w.heap.size + 1 + 1 + 1) (blk_set_other (b' := w.heap.size + 1 + 1 + 1) (blk_set_other (b' := w.heap.size + 1 + 1 + 1) (T.out) (by omega) 0 (.int .i64 0)) (by omega) 1 (.int .i64 0)) (by omega) 2 (.int .i64 0)) (by omega) 3 (.int .i64 0)) (by omega) 4 (.int .i64 0)) (by omega) 5 (.int .i64 0))
    replace R : Hid (((((((w21.setCell ⟨w.heap.size + 1 + 1 + 1, 0, none⟩ (.int .i64 0)).setCell ⟨w.heap.size + 1 + 1 + 1, 1, none⟩ (.int .i64 0)).setCell ⟨w.heap.size + 1 + 1 + 1, 2, none⟩ (.int .i64 0)).setCell ⟨w.heap.size + 1 + 1 + 1, 3, none⟩ (.int .i64 0)).setCell ⟨w.heap.size + 1 + 1 + 1, 4, none⟩ (.int .i64 0)).setCell ⟨w.heap.size + 1 + 1 + 1, 5, none⟩ (.int .i64 0)).heap[w.heap.size + 1 + 1 + 1]? = some (.cells #[.int .i64 0, .int .i64 0, .int .i64 0, .int .i64 0, .int .i64 0, .int .i64 0] 38)) := Lib.hid (blk_set (blk_set (blk_set (blk_set (blk_set (blk_set (R.out) 0 (.int .i64 0)) 1 (.int .i64 0)) 2 (.int .i64 0)) 3 (.int .i64 0)) 4 (.int .i64 0)) 5 (.int .i64 0))
    replace NN := Lib.hid (Bset1 (Bset1 (Bset1 (Bset1 (Bset1 (Bset1 (NN.out) (show w.heap.size ≤ w.heap.size + 1 + 1 + 1 by omega) 0 (.int .i64 0)) (show w.heap.size ≤ w.heap.size + 1 + 1 + 1 by omega) 1 (.int .i64 0)) (show w.heap.size ≤ w.heap.size + 1 + 1 + 1 by omega) 2 (.int .i64 0)) (show w.heap.size ≤ w.heap.size + 1 + 1 + 1 by omega) 3 (.int .i64 0)) (show w.heap.size ≤ w.heap.size + 1 + 1 + 1 by omega) 4 (.int .i64 0)) (show w.heap.size ≤ w.heap.size + 1 + 1 + 1 by omega) 5 (.int .i64 0))
    generalize ((((((w21.setCell ⟨w.heap.size + 1 + 1 + 1, 0, none⟩ (.int .i64 0)).setCell ⟨w.heap.size + 1 + 1 + 1, 1, none⟩ (.int .i64 0)).setCell ⟨w.heap.size + 1 + 1 + 1, 2, none⟩ (.int .i64 0)).setCell ⟨w.heap.size + 1 + 1 + 1, 3, none⟩ (.int .i64 0)).setCell ⟨w.heap.size + 1 + 1 + 1, 4, none⟩ (.int .i64 0)).setCell ⟨w.heap.size + 1 + 1 + 1, 5, none⟩ (.int .i64 0)) = W22 at *
    have c_R_0 := blk_cell R.out 0 _ rfl
    have f_R_0 := blk_frozen R.out 0
    have c_R_1 := blk_cell R.out 1 _ rfl
    have f_R_1 := blk_frozen R.out 1
    have c_R_2 := blk_cell R.out 2 _ rfl
    have f_R_2 := blk_frozen R.out 2
    have c_R_3 := blk_cell R.out 3 _ rfl
    have f_R_3 := blk_frozen R.out 3
    have c_R_4 := blk_cell R.out 4 _ rfl
    have f_R_4 := blk_frozen R.out 4
    have c_R_5 := blk_cell R.out 5 _ rfl
    have f_R_5 := blk_frozen R.out 5
    have l_R := blk_lt R.out
    go_wp2_with fail
    exact bodyPost_ret (v := .tuple #[Pv 0 0 0 0 0 0, .int .i64 8]) (by simp [results, Tryz.results65, go_sem, c_R_0, c_R_1, c_R_2, c_R_3, c_R_4, c_R_5]) rfl ⟨by rw [FV.out, FE.out], NN.out⟩
   ·have hP : plB n d m k = true := by unfold plB; rw [hs, ht, decide_eq_true h, decide_eq_true h']; rfl
    have hE : atE A B n d m k = 0 := by rw [AE, hP]; rfl
    have FV : Hid (atV A B n d m k = Pv (plX A n d m k).1 (plX A n d m k).2.1 (plY A n d m k).1 (plY A n d m k).2.1 (plZ B n d).1 (plZ B n d).2.1) := Lib.hid (by unfold atV; rw [hE, if_pos rfl])
    have FE := Lib.hid hE
    obtain ⟨pw, _, px, py, pz, _, _, _, _⟩ := placed (A := A) (B := B) hok hs ht
    have A1 := Lib.hid (fun W => around_calls n d hs W)
    have A2 := Lib.hid (fun W => around_calls m k ht W)
    have M1 := Lib.hid (fun W => mul_calls A 1 (arC n d).1 (arC n d).2.1 W)
    have M2 := Lib.hid (fun W => mul_calls (wdR A n d).1 (wdR A n d).2.1 (arC m k).1 (arC m k).2.1 W)
    have M3 := Lib.hid (fun W => mul_calls (wdR A n d).1 (wdR A n d).2.1 (arK m k).1 (arK m k).2.1 W)
    have M4 := Lib.hid (fun W => mul_calls B 1 (arK n d).1 (arK n d).2.1 W)
    have WA := Lib.hid (fun W => whole_calls A W)
    have WB := Lib.hid (fun W => whole_calls B W)
    rw [show mulR A 1 (arC n d).1 (arC n d).2.1 = wdR A n d from rfl] at M1
    rw [show mulR (wdR A n d).1 (wdR A n d).2.1 (arC m k).1 (arC m k).2.1 = plX A n d m k from rfl] at M2
    rw [show mulR (wdR A n d).1 (wdR A n d).2.1 (arK m k).1 (arK m k).2.1 = plY A n d m k from rfl] at M3
    rw [show mulR B 1 (arK n d).1 (arK n d).2.1 = plZ B n d from rfl] at M4
    generalize atE A B n d m k = ae at *
    generalize atV A B n d m k = av at *
    generalize plX A n d m k = x at *
    generalize plY A n d m k = y at *
    generalize plZ B n d = z at *
    generalize wdR A n d = v at *
    generalize arC n d = c at *
    generalize arK n d = s at *
    generalize arC m k = t at *
    generalize arK m k = u at *
    obtain ⟨x1, x2, x3⟩ := x
    obtain ⟨y1, y2, y3⟩ := y
    obtain ⟨z1, z2, z3⟩ := z
    obtain ⟨v1, v2, v3⟩ := v
    obtain ⟨c1, c2, c3⟩ := c
    obtain ⟨s1, s2, s3⟩ := s
    obtain ⟨t1, t2, t3⟩ := t
    obtain ⟨u1, u2, u3⟩ := u
    simp only at pw px py pz
    subst pw px py pz
    clear hE AE hP hok hs ht
    go_enter Tryz.func65, Tryz.ntmps65
    go_wp2_with fail
    have G : Hid (((((w.alloc (.cells #[.int .i64 A, .int .i64 B] 23)).alloc (.cells #[.int .i64 n, .int .i64 d] 36)).alloc (.cells #[.int .i64 m, .int .i64 k] 36)).alloc (.cells #[.int .i64 0, .int .i64 0, .int .i64 0, .int .i64 0, .int .i64 0, .int .i64 0] 38)).heap[w.heap.size]? = some (.cells #[.int .i64 A, .int .i64 B] 23)) := Lib.hid (blk_alloc (blk_alloc (blk_alloc (blk_new w _) _) _) _)
    have S : Hid (((((w.alloc (.cells #[.int .i64 A, .int .i64 B] 23)).alloc (.cells #[.int .i64 n, .int .i64 d] 36)).alloc (.cells #[.int .i64 m, .int .i64 k] 36)).alloc (.cells #[.int .i64 0, .int .i64 0, .int .i64 0, .int .i64 0, .int .i64 0, .int .i64 0] 38)).heap[w.heap.size + 1]? = some (.cells #[.int .i64 n, .int .i64 d] 36)) := Lib.hid (blk_alloc (blk_alloc (blk_at _ (by simp)) _) _)
    have T : Hid (((((w.alloc (.cells #[.int .i64 A, .int .i64 B] 23)).alloc (.cells #[.int .i64 n, .int .i64 d] 36)).alloc (.cells #[.int .i64 m, .int .i64 k] 36)).alloc (.cells #[.int .i64 0, .int .i64 0, .int .i64 0, .int .i64 0, .int .i64 0, .int .i64 0] 38)).heap[w.heap.size + 1 + 1]? = some (.cells #[.int .i64 m, .int .i64 k] 36)) := Lib.hid (blk_alloc (blk_at _ (by simp)) _)
    have R : Hid (((((w.alloc (.cells #[.int .i64 A, .int .i64 B] 23)).alloc (.cells #[.int .i64 n, .int .i64 d] 36)).alloc (.cells #[.int .i64 m, .int .i64 k] 36)).alloc (.cells #[.int .i64 0, .int .i64 0, .int .i64 0, .int .i64 0, .int .i64 0, .int .i64 0] 38)).heap[w.heap.size + 1 + 1 + 1]? = some (.cells #[.int .i64 0, .int .i64 0, .int .i64 0, .int .i64 0, .int .i64 0, .int .i64 0] 38)) := Lib.hid (blk_at _ (by simp))
    replace NN : Hid (Below w.heap.size w ((((w.alloc (.cells #[.int .i64 A, .int .i64 B] 23)).alloc (.cells #[.int .i64 n, .int .i64 d] 36)).alloc (.cells #[.int .i64 m, .int .i64 k] 36)).alloc (.cells #[.int .i64 0, .int .i64 0, .int .i64 0, .int .i64 0, .int .i64 0, .int .i64 0] 38))) := Lib.hid (Bal (Bal (Bal (Bal NN.out _) _) _) _)
    generalize ((((w.alloc (.cells #[.int .i64 A, .int .i64 B] 23)).alloc (.cells #[.int .i64 n, .int .i64 d] 36)).alloc (.cells #[.int .i64 m, .int .i64 k] 36)).alloc (.cells #[.int .i64 0, .int .i64 0, .int .i64 0, .int .i64 0, .int .i64 0, .int .i64 0] 38)) = W23 at *
    have c_G_0 := blk_cell G.out 0 _ rfl
    have f_G_0 := blk_frozen G.out 0
    have c_G_1 := blk_cell G.out 1 _ rfl
    have f_G_1 := blk_frozen G.out 1
    have l_G := blk_lt G.out
    go_wp2_with fail
    refine (GC.out _).mono ?_
    rintro e w24 ⟨rfl, hb⟩
    clear c_G_0 f_G_0 c_G_1 f_G_1 l_G
    replace NN := Lib.hid (Bgo NN.out hb)
    replace G := Lib.hid (blk_next hb G.out)
    replace S := Lib.hid (blk_next hb S.out)
    replace T := Lib.hid (blk_next hb T.out)
    replace R := Lib.hid (blk_next hb R.out)
    clear hb
    have c_S_0 := blk_cell S.out 0 _ rfl
    have f_S_0 := blk_frozen S.out 0
    have c_S_1 := blk_cell S.out 1 _ rfl
    have f_S_1 := blk_frozen S.out 1
    have l_S := blk_lt S.out
    have c_T_0 := blk_cell T.out 0 _ rfl
    have f_T_0 := blk_frozen T.out 0
    have c_T_1 := blk_cell T.out 1 _ rfl
    have f_T_1 := blk_frozen T.out 1
    have l_T := blk_lt T.out
    go_wp2_with fail
    refine (PS.out _).mono ?_
    rintro e w25 ⟨rfl, hb⟩
    clear c_S_0 f_S_0 c_S_1 f_S_1 l_S c_T_0 f_T_0 c_T_1 f_T_1 l_T
    replace NN := Lib.hid (Bgo NN.out hb)
    replace G := Lib.hid (blk_next hb G.out)
    replace S := Lib.hid (blk_next hb S.out)
    replace T := Lib.hid (blk_next hb T.out)
    replace R := Lib.hid (blk_next hb R.out)
    clear hb
    have c_S_0 := blk_cell S.out 0 _ rfl
    have f_S_0 := blk_frozen S.out 0
    have c_S_1 := blk_cell S.out 1 _ rfl
    have f_S_1 := blk_frozen S.out 1
    have l_S := blk_lt S.out
    have c_T_0 := blk_cell T.out 0 _ rfl
    have f_T_0 := blk_frozen T.out 0
    have c_T_1 := blk_cell T.out 1 _ rfl
    have f_T_1 := blk_frozen T.out 1
    have l_T := blk_lt T.out
    go_wp2_with fail
    refine (PT.out _).mono ?_
    rintro e w26 ⟨rfl, hb⟩
    clear c_S_0 f_S_0 c_S_1 f_S_1 l_S c_T_0 f_T_0 c_T_1 f_T_1 l_T
    replace NN := Lib.hid (Bgo NN.out hb)
    replace G := Lib.hid (blk_next hb G.out)
    replace S := Lib.hid (blk_next hb S.out)
    replace T := Lib.hid (blk_next hb T.out)
    replace R := Lib.hid (blk_next hb R.out)
    clear hb
    have c_S_0 := blk_cell S.out 0 _ rfl
    have f_S_0 := blk_frozen S.out 0
    have c_S_1 := blk_cell S.out 1 _ rfl
    have f_S_1 := blk_frozen S.out 1
    have l_S := blk_lt S.out
    have c_T_0 := blk_cell T.out 0 _ rfl
    have f_T_0 := blk_frozen T.out 0
    have c_T_1 := blk_cell T.out 1 _ rfl
    have f_T_1 := blk_frozen T.out 1
    have l_T := blk_lt T.out
    go_wp2_with fail
    all_goals first | (exfalso; omega; done) | skip
    refine (A1.out _).mono ?_
    rintro e w27 ⟨rfl, hb⟩
    clear c_S_0 f_S_0 c_S_1 f_S_1 l_S c_T_0 f_T_0 c_T_1 f_T_1 l_T
    replace NN := Lib.hid (Bgo NN.out hb)
    replace G := Lib.hid (blk_next hb G.out)
    replace S := Lib.hid (blk_next hb S.out)
    replace T := Lib.hid (blk_next hb T.out)
    replace R := Lib.hid (blk_next hb R.out)
    clear hb
    have c_T_0 := blk_cell T.out 0 _ rfl
    have f_T_0 := blk_frozen T.out 0
    have c_T_1 := blk_cell T.out 1 _ rfl
    have f_T_1 := blk_frozen T.out 1
    have l_T := blk_lt T.out
    clear c_T_0 f_T_0 c_T_1 f_T_1 l_T
    have HB := Lib.hid (show Below w27.heap.size w27 ((w27.alloc (.cells #[.int .i64 c1, .int .i64 c2] 36)).alloc (.cells #[.int .i64 s1, .int .i64 s2] 36)) from Bal (Bal (Below.refl _ _) _) _)
    have C : Hid (((w27.alloc (.cells #[.int .i64 c1, .int .i64 c2] 36)).alloc (.cells #[.int .i64 s1, .int .i64 s2] 36)).heap[w27.heap.size]? = some (.cells #[.int .i64 c1, .int .i64 c2] 36)) := Lib.hid (blk_alloc (blk_new w27 _) _)
    have K : Hid (((w27.alloc (.cells #[.int .i64 c1, .int .i64 c2] 36)).alloc (.cells #[.int .i64 s1, .int .i64 s2] 36)).heap[w27.heap.size + 1]? = some (.cells #[.int .i64 s1, .int .i64 s2] 36)) := Lib.hid (blk_at _ (by simp))
    have LT_C : Hid (w.heap.size + 1 + 1 + 1 < w27.heap.size) := Lib.hid (blk_lt R.out)
    replace NN := Lib.hid (Bgo NN.out HB.out)
    replace G := Lib.hid (blk_next HB.out G.out)
    replace S := Lib.hid (blk_next HB.out S.out)
    replace T := Lib.hid (blk_next HB.out T.out)
    replace R := Lib.hid (blk_next HB.out R.out)
    clear HB
    have c_T_0 := blk_cell T.out 0 _ rfl
    have f_T_0 := blk_frozen T.out 0
    have c_T_1 := blk_cell T.out 1 _ rfl
    have f_T_1 := blk_frozen T.out 1
    have l_T := blk_lt T.out
    go_wp2_with fail
    clear c_T_0 f_T_0 c_T_1 f_T_1 l_T
    generalize ((w27.alloc (.cells #[.int .i64 c1, .int .i64 c2] 36)).alloc (.cells #[.int .i64 s1, .int .i64 s2] 36)) = W28 at *
    generalize w27.heap.size = gC at *
    refine (A2.out _).mono ?_
    rintro e w29 ⟨rfl, hb⟩
    replace NN := Lib.hid (Bgo NN.out hb)
    replace G := Lib.hid (blk_next hb G.out)
    replace S := Lib.hid (blk_next hb S.out)
    replace T := Lib.hid (blk_next hb T.out)
    replace R := Lib.hid (blk_next hb R.out)
    replace C := Lib.hid (blk_next hb C.out)
    replace K := Lib.hid (blk_next hb K.out)
    clear hb
    have HB := Lib.hid (show Below w29.heap.size w29 ((w29.alloc (.cells #[.int .i64 t1, .int .i64 t2] 36)).alloc (.cells #[.int .i64 u1, .int .i64 u2] 36)) from Bal (Bal (Below.refl _ _) _) _)
    have D : Hid (((w29.alloc (.cells #[.int .i64 t1, .int .i64 t2] 36)).alloc (.cells #[.int .i64 u1, .int .i64 u2] 36)).heap[w29.heap.size]? = some (.cells #[.int .i64 t1, .int .i64 t2] 36)) := Lib.hid (blk_alloc (blk_new w29 _) _)
    have U : Hid (((w29.alloc (.cells #[.int .i64 t1, .int .i64 t2] 36)).alloc (.cells #[.int .i64 u1, .int .i64 u2] 36)).heap[w29.heap.size + 1]? = some (.cells #[.int .i64 u1, .int .i64 u2] 36)) := Lib.hid (blk_at _ (by simp))
    have LT_D : Hid (w.heap.size + 1 + 1 + 1 < w29.heap.size) := Lib.hid (blk_lt R.out)
    replace NN := Lib.hid (Bgo NN.out HB.out)
    replace G := Lib.hid (blk_next HB.out G.out)
    replace S := Lib.hid (blk_next HB.out S.out)
    replace T := Lib.hid (blk_next HB.out T.out)
    replace R := Lib.hid (blk_next HB.out R.out)
    replace C := Lib.hid (blk_next HB.out C.out)
    replace K := Lib.hid (blk_next HB.out K.out)
    clear HB
    go_upto_region 8 with fail
    generalize ((w29.alloc (.cells #[.int .i64 t1, .int .i64 t2] 36)).alloc (.cells #[.int .i64 u1, .int .i64 u2] 36)) = W30 at *
    generalize w29.heap.size = gD at *
    go_cut [13, 14] (fun sv se wx => ∃ gv : Nat, sv = .pointer (some ⟨gv, 0, none⟩) ∧ se = .int .i64 0 ∧ Hid (W30.heap.size ≤ gv) ∧ Hid (Below W30.heap.size W30 wx) ∧ Hid (wx.heap[gv]? = some (.cells #[.int .i64 v1, .int .i64 v2] 36)))
    case first =>
     have KEEP : Hid (∀ X : World, Below W30.heap.size W30 X → X.cell? ⟨w.heap.size, 0, none⟩ = some (.int .i64 A) ∧ X.cell? ⟨gC, 0, none⟩ = some (.int .i64 c1) ∧ X.cell? ⟨gC, 1, none⟩ = some (.int .i64 c2)) := Lib.hid (fun X hX => ⟨blk_cell (blk_next hX G.out) 0 _ rfl, blk_cell (blk_next hX C.out) 0 _ rfl, blk_cell (blk_next hX C.out) 1 _ rfl⟩)
     obtain ⟨k1, k2, k3⟩ := KEEP.out W30 (Below.refl _ _)
     go_region_held3 (fun X => X.cell? ⟨w.heap.size, 0, none⟩ = some (.int .i64 A) ∧ X.cell? ⟨gC, 0, none⟩ = some (.int .i64 c1) ∧ X.cell? ⟨gC, 1, none⟩ = some (.int .i64 c2))
      ((refine KEEP.out _ ?_; (repeat (first | (with_reducible exact Below.refl _ _) | (with_reducible exact BM.out) | (with_reducible exact BA.out) | (with_reducible refine Below.drew ?_) | (with_reducible refine Bal ?_ _) | (with_reducible refine Bset1 ?_ (by first | exact Nat.le_refl _ | exact BA.out.size | exact BM.out.size) _ _)))))
      (first
       | (go_at_call 98; (with_reducible refine (WA.out _).mono ?_); rintro e wa ⟨rfl, ba⟩; have BA : Hid (Below W30.heap.size W30 wa) := Lib.hid (by refine Bgo ?_ ba; (repeat (first | (with_reducible exact Below.refl _ _) | (with_reducible exact BM.out) | (with_reducible exact BA.out) | (with_reducible refine Below.drew ?_) | (with_reducible refine Bal ?_ _) | (with_reducible refine Bset1 ?_ (by first | exact Nat.le_refl _ | exact BA.out.size | exact BM.out.size) _ _)))); (first | (have RA : Hid (wa.heap[W30.heap.size]? = some (.cells #[.int .i64 0, .int .i64 0] 36)) := Lib.hid (by first | (with_reducible exact blk_next ba (blk_new W30 _)) | (with_reducible exact blk_next (undrewB ba) (blk_new W30 _)))) | skip))
       | (go_at_call 97; (with_reducible refine (M1.out _).mono ?_); rintro e wm ⟨rfl, bm⟩; have BM : Hid (Below W30.heap.size W30 wm) := Lib.hid (by refine Bgo ?_ bm; (repeat (first | (with_reducible exact Below.refl _ _) | (with_reducible exact BM.out) | (with_reducible exact BA.out) | (with_reducible refine Below.drew ?_) | (with_reducible refine Bal ?_ _) | (with_reducible refine Bset1 ?_ (by first | exact Nat.le_refl _ | exact BA.out.size | exact BM.out.size) _ _)))); (first | (have RM : Hid (wm.heap[W30.heap.size]? = some (.cells #[.int .i64 0, .int .i64 0] 36)) := Lib.hid (by first | (with_reducible exact blk_next bm RA.out) | (with_reducible exact blk_next (undrewB bm) RA.out)); have ac0 := blk_cell RM.out 0 _ rfl; have ac1 := blk_cell RM.out 1 _ rfl; have af0 := blk_frozen RM.out 0; have af1 := blk_frozen RM.out 1; have al := blk_lt RM.out) | (have RM : Hid (wm.heap[wa.heap.size]? = some (.cells #[.int .i64 0, .int .i64 0] 36)) := Lib.hid (by first | (with_reducible exact blk_next bm (blk_new wa _)) | (with_reducible exact blk_next (undrewB bm) (blk_new wa _))); have ac0 := blk_cell RM.out 0 _ rfl; have ac1 := blk_cell RM.out 1 _ rfl; have af0 := blk_frozen RM.out 0; have af1 := blk_frozen RM.out 1; have al := blk_lt RM.out) | skip)))
     all_goals go_wp2_with fail
     all_goals go_meet
     all_goals (refine ⟨_, rfl, rfl, Lib.hid ?_, Lib.hid ?_, Lib.hid ?_⟩; (· first | exact Nat.le_refl _ | exact BA.out.size | exact BM.out.size); (· (repeat (first | (with_reducible exact Below.refl _ _) | (with_reducible exact BM.out) | (with_reducible exact BA.out) | (with_reducible refine Below.drew ?_) | (with_reducible refine Bal ?_ _) | (with_reducible refine Bset1 ?_ (by first | exact Nat.le_refl _ | exact BA.out.size | exact BM.out.size) _ _)))); (· first | (with_reducible exact blk_new wm _) | exact blk_set (blk_set RM.out 0 _) 1 _))
    case rest =>
     obtain ⟨gV, rfl, rfl, HV9, HB9, V⟩ := hcut
     have LT_V : Hid (w.heap.size + 1 + 1 + 1 < gV) := Lib.hid (Nat.lt_of_lt_of_le (blk_lt R.out) HV9.out)
     replace NN := Lib.hid (Bgo NN.out HB9.out)
     replace G := Lib.hid (blk_next HB9.out G.out)
     replace S := Lib.hid (blk_next HB9.out S.out)
     replace T := Lib.hid (blk_next HB9.out T.out)
     replace R := Lib.hid (blk_next HB9.out R.out)
     replace C := Lib.hid (blk_next HB9.out C.out)
     replace K := Lib.hid (blk_next HB9.out K.out)
     replace D := Lib.hid (blk_next HB9.out D.out)
     replace U := Lib.hid (blk_next HB9.out U.out)
     clear HB9 HV9
     have c_V_0 := blk_cell V.out 0 _ rfl
     have f_V_0 := blk_frozen V.out 0
     have c_V_1 := blk_cell V.out 1 _ rfl
     have f_V_1 := blk_frozen V.out 1
     have l_V := blk_lt V.out
     have c_D_0 := blk_cell D.out 0 _ rfl
     have f_D_0 := blk_frozen D.out 0
     have c_D_1 := blk_cell D.out 1 _ rfl
     have f_D_1 := blk_frozen D.out 1
     have l_D := blk_lt D.out
     go_wp2_with fail
     refine (M2.out _).mono ?_
     rintro e w31 ⟨rfl, hb⟩
     clear c_V_0 f_V_0 c_V_1 f_V_1 l_V c_D_0 f_D_0 c_D_1 f_D_1 l_D
     replace NN := Lib.hid (Bgo NN.out hb)
     replace G := Lib.hid (blk_next hb G.out)
     replace S := Lib.hid (blk_next hb S.out)
     replace T := Lib.hid (blk_next hb T.out)
     replace R := Lib.hid (blk_next hb R.out)
     replace C := Lib.hid (blk_next hb C.out)
     replace K := Lib.hid (blk_next hb K.out)
     replace D := Lib.hid (blk_next hb D.out)
     replace U := Lib.hid (blk_next hb U.out)
     replace V := Lib.hid (blk_next hb V.out)
     clear hb
     have HB := Lib.hid (show Below w31.heap.size w31 (w31.alloc (.cells #[.int .i64 x1, .int .i64 x2] 36)) from Bal (Below.refl _ _) _)
     have X : Hid ((w31.alloc (.cells #[.int .i64 x1, .int .i64 x2] 36)).heap[w31.heap.size]? = some (.cells #[.int .i64 x1, .int .i64 x2] 36)) := Lib.hid (blk_new w31 _)
     have LT_X : Hid (w.heap.size + 1 + 1 + 1 < w31.heap.size) := Lib.hid (blk_lt R.out)
     replace NN := Lib.hid (Bgo NN.out HB.out)
     replace G := Lib.hid (blk_next HB.out G.out)
     replace S := Lib.hid (blk_next HB.out S.out)
     replace T := Lib.hid (blk_next HB.out T.out)
     replace R := Lib.hid (blk_next HB.out R.out)
     replace C := Lib.hid (blk_next HB.out C.out)
     replace K := Lib.hid (blk_next HB.out K.out)
     replace D := Lib.hid (blk_next HB.out D.out)
     replace U := Lib.hid (blk_next HB.out U.out)
     replace V := Lib.hid (blk_next HB.out V.out)
     clear HB
     have c_V_0 := blk_cell V.out 0 _ rfl
     have f_V_0 := blk_frozen V.out 0
     have c_V_1 := blk_cell V.out 1 _ rfl
     have f_V_1 := blk_frozen V.out 1
     have l_V := blk_lt V.out
     have c_U_0 := blk_cell U.out 0 _ rfl
     have f_U_0 := blk_frozen U.out 0
     have c_U_1 := blk_cell U.out 1 _ rfl
     have f_U_1 := blk_frozen U.out 1
     have l_U := blk_lt U.out
     go_wp2_with fail
     clear c_V_0 f_V_0 c_V_1 f_V_1 l_V c_U_0 f_U_0 c_U_1 f_U_1 l_U
     generalize (w31.alloc (.cells #[.int .i64 x1, .int .i64 x2] 36)) = W32 at *
     generalize w31.heap.size = gX at *
     refine (M3.out _).mono ?_
     rintro e w33 ⟨rfl, hb⟩
     replace NN := Lib.hid (Bgo NN.out hb)
     replace G := Lib.hid (blk_next hb G.out)
     replace S := Lib.hid (blk_next hb S.out)
     replace T := Lib.hid (blk_next hb T.out)
     replace R := Lib.hid (blk_next hb R.out)
     replace C := Lib.hid (blk_next hb C.out)
     replace K := Lib.hid (blk_next hb K.out)
     replace D := Lib.hid (blk_next hb D.out)
     replace U := Lib.hid (blk_next hb U.out)
     replace V := Lib.hid (blk_next hb V.out)
     replace X := Lib.hid (blk_next hb X.out)
     clear hb
     have HB := Lib.hid (show Below w33.heap.size w33 (w33.alloc (.cells #[.int .i64 y1, .int .i64 y2] 36)) from Bal (Below.refl _ _) _)
     have Y : Hid ((w33.alloc (.cells #[.int .i64 y1, .int .i64 y2] 36)).heap[w33.heap.size]? = some (.cells #[.int .i64 y1, .int .i64 y2] 36)) := Lib.hid (blk_new w33 _)
     have LT_Y : Hid (w.heap.size + 1 + 1 + 1 < w33.heap.size) := Lib.hid (blk_lt R.out)
     replace NN := Lib.hid (Bgo NN.out HB.out)
     replace G := Lib.hid (blk_next HB.out G.out)
     replace S := Lib.hid (blk_next HB.out S.out)
     replace T := Lib.hid (blk_next HB.out T.out)
     replace R := Lib.hid (blk_next HB.out R.out)
     replace C := Lib.hid (blk_next HB.out C.out)
     replace K := Lib.hid (blk_next HB.out K.out)
     replace D := Lib.hid (blk_next HB.out D.out)
     replace U := Lib.hid (blk_next HB.out U.out)
     replace V := Lib.hid (blk_next HB.out V.out)
     replace X := Lib.hid (blk_next HB.out X.out)
     clear HB
     go_upto_region 17 with fail
     generalize (w33.alloc (.cells #[.int .i64 y1, .int .i64 y2] 36)) = W34 at *
     generalize w33.heap.size = gY at *
     go_cut [17, 14] (fun sv se wx => ∃ gv : Nat, sv = .pointer (some ⟨gv, 0, none⟩) ∧ se = .int .i64 0 ∧ Hid (W34.heap.size ≤ gv) ∧ Hid (Below W34.heap.size W34 wx) ∧ Hid (wx.heap[gv]? = some (.cells #[.int .i64 z1, .int .i64 z2] 36)))
     case first =>
      have KEEP : Hid (∀ X : World, Below W34.heap.size W34 X → X.cell? ⟨w.heap.size, 1, none⟩ = some (.int .i64 B) ∧ X.cell? ⟨gC + 1, 0, none⟩ = some (.int .i64 s1) ∧ X.cell? ⟨gC + 1, 1, none⟩ = some (.int .i64 s2)) := Lib.hid (fun X hX => ⟨blk_cell (blk_next hX G.out) 1 _ rfl, blk_cell (blk_next hX K.out) 0 _ rfl, blk_cell (blk_next hX K.out) 1 _ rfl⟩)
      obtain ⟨k1, k2, k3⟩ := KEEP.out W34 (Below.refl _ _)
      go_region_held3 (fun X => X.cell? ⟨w.heap.size, 1, none⟩ = some (.int .i64 B) ∧ X.cell? ⟨gC + 1, 0, none⟩ = some (.int .i64 s1) ∧ X.cell? ⟨gC + 1, 1, none⟩ = some (.int .i64 s2))
       ((refine KEEP.out _ ?_; (repeat (first | (with_reducible exact Below.refl _ _) | (with_reducible exact BM.out) | (with_reducible exact BA.out) | (with_reducible refine Below.drew ?_) | (with_reducible refine Bal ?_ _) | (with_reducible refine Bset1 ?_ (by first | exact Nat.le_refl _ | exact BA.out.size | exact BM.out.size) _ _)))))
       (first
        | (go_at_call 98; (with_reducible refine (WB.out _).mono ?_); rintro e wa ⟨rfl, ba⟩; have BA : Hid (Below W34.heap.size W34 wa) := Lib.hid (by refine Bgo ?_ ba; (repeat (first | (with_reducible exact Below.refl _ _) | (with_reducible exact BM.out) | (with_reducible exact BA.out) | (with_reducible refine Below.drew ?_) | (with_reducible refine Bal ?_ _) | (with_reducible refine Bset1 ?_ (by first | exact Nat.le_refl _ | exact BA.out.size | exact BM.out.size) _ _)))); (first | (have RA : Hid (wa.heap[W34.heap.size]? = some (.cells #[.int .i64 0, .int .i64 0] 36)) := Lib.hid (by first | (with_reducible exact blk_next ba (blk_new W34 _)) | (with_reducible exact blk_next (undrewB ba) (blk_new W34 _)))) | skip))
        | (go_at_call 97; (with_reducible refine (M4.out _).mono ?_); rintro e wm ⟨rfl, bm⟩; have BM : Hid (Below W34.heap.size W34 wm) := Lib.hid (by refine Bgo ?_ bm; (repeat (first | (with_reducible exact Below.refl _ _) | (with_reducible exact BM.out) | (with_reducible exact BA.out) | (with_reducible refine Below.drew ?_) | (with_reducible refine Bal ?_ _) | (with_reducible refine Bset1 ?_ (by first | exact Nat.le_refl _ | exact BA.out.size | exact BM.out.size) _ _)))); (first | (have RM : Hid (wm.heap[W34.heap.size]? = some (.cells #[.int .i64 0, .int .i64 0] 36)) := Lib.hid (by first | (with_reducible exact blk_next bm RA.out) | (with_reducible exact blk_next (undrewB bm) RA.out)); have ac0 := blk_cell RM.out 0 _ rfl; have ac1 := blk_cell RM.out 1 _ rfl; have af0 := blk_frozen RM.out 0; have af1 := blk_frozen RM.out 1; have al := blk_lt RM.out) | (have RM : Hid (wm.heap[wa.heap.size]? = some (.cells #[.int .i64 0, .int .i64 0] 36)) := Lib.hid (by first | (with_reducible exact blk_next bm (blk_new wa _)) | (with_reducible exact blk_next (undrewB bm) (blk_new wa _))); have ac0 := blk_cell RM.out 0 _ rfl; have ac1 := blk_cell RM.out 1 _ rfl; have af0 := blk_frozen RM.out 0; have af1 := blk_frozen RM.out 1; have al := blk_lt RM.out) | skip)))
      all_goals go_wp2_with fail
      all_goals go_meet
      all_goals (refine ⟨_, rfl, rfl, Lib.hid ?_, Lib.hid ?_, Lib.hid ?_⟩; (· first | exact Nat.le_refl _ | exact BA.out.size | exact BM.out.size); (· (repeat (first | (with_reducible exact Below.refl _ _) | (with_reducible exact BM.out) | (with_reducible exact BA.out) | (with_reducible refine Below.drew ?_) | (with_reducible refine Bal ?_ _) | (with_reducible refine Bset1 ?_ (by first | exact Nat.le_refl _ | exact BA.out.size | exact BM.out.size) _ _)))); (· first | (with_reducible exact blk_new wm _) | exact blk_set (blk_set RM.out 0 _) 1 _))
     case rest =>
      obtain ⟨gZ, rfl, rfl, HV9, HB9, Z⟩ := hcut
      have LT_Z : Hid (w.heap.size + 1 + 1 + 1 < gZ) := Lib.hid (Nat.lt_of_lt_of_le (blk_lt R.out) HV9.out)
      replace NN := Lib.hid (Bgo NN.out HB9.out)
      replace G := Lib.hid (blk_next HB9.out G.out)
      replace S := Lib.hid (blk_next HB9.out S.out)
      replace T := Lib.hid (blk_next HB9.out T.out)
      replace R := Lib.hid (blk_next HB9.out R.out)
      replace C := Lib.hid (blk_next HB9.out C.out)
      replace K := Lib.hid (blk_next HB9.out K.out)
      replace D := Lib.hid (blk_next HB9.out D.out)
      replace U := Lib.hid (blk_next HB9.out U.out)
      replace V := Lib.hid (blk_next HB9.out V.out)
      replace X := Lib.hid (blk_next HB9.out X.out)
      replace Y := Lib.hid (blk_next HB9.out Y.out)
      clear HB9 HV9
      have c_X_0 := blk_cell X.out 0 _ rfl
      have f_X_0 := blk_frozen X.out 0
      have c_X_1 := blk_cell X.out 1 _ rfl
      have f_X_1 := blk_frozen X.out 1
      have l_X := blk_lt X.out
      have c_Y_0 := blk_cell Y.out 0 _ rfl
      have f_Y_0 := blk_frozen Y.out 0
      have c_Y_1 := blk_cell Y.out 1 _ rfl
      have f_Y_1 := blk_frozen Y.out 1
      have l_Y := blk_lt Y.out
      have c_Z_0 := blk_cell Z.out 0 _ rfl
      have f_Z_0 := blk_frozen Z.out 0
      have c_Z_1 := blk_cell Z.out 1 _ rfl
      have f_Z_1 := blk_frozen Z.out 1
      have l_Z := blk_lt Z.out
      have c_R_0 := blk_cell R.out 0 _ rfl
      have f_R_0 := blk_frozen R.out 0
      have c_R_1 := blk_cell R.out 1 _ rfl
      have f_R_1 := blk_frozen R.out 1
      have c_R_2 := blk_cell R.out 2 _ rfl
      have f_R_2 := blk_frozen R.out 2
      have c_R_3 := blk_cell R.out 3 _ rfl
      have f_R_3 := blk_frozen R.out 3
      have c_R_4 := blk_cell R.out 4 _ rfl
      have f_R_4 := blk_frozen R.out 4
      have c_R_5 := blk_cell R.out 5 _ rfl
      have f_R_5 := blk_frozen R.out 5
      have l_R := blk_lt R.out
      go_wp2_with fail
      clear c_X_0 f_X_0 c_X_1 f_X_1 l_X c_Y_0 f_Y_0 c_Y_1 f_Y_1 l_Y c_Z_0 f_Z_0 c_Z_1 f_Z_1 l_Z c_R_0 f_R_0 c_R_1 f_R_1 c_R_2 f_R_2 c_R_3 f_R_3 c_R_4 f_R_4 c_R_5 f_R_5 l_R
      replace G : Hid (((((((wc.setCell ⟨w.heap.size + 1 + 1 + 1, 0, none⟩ (.int .i64 x1)).setCell ⟨w.heap.size + 1 + 1 + 1, 1, none⟩ (.int .i64 x2)).setCell ⟨w.heap.size + 1 + 1 + 1, 2, none⟩ (.int .i64 y1)).setCell ⟨w.heap.size + 1 + 1 + 1, 3, none⟩ (.int .i64 y2)).setCell ⟨w.heap.size + 1 + 1 + 1, 4, none⟩ (.int .i64 z1)).setCell ⟨w.heap.size + 1 + 1 + 1, 5, none⟩ (.int .i64 z2)).heap[w.heap.size]? = some (.cells #[.int .i64 A, .int .i64 B] 23)) := Lib.hid (blk_set_other (b' := w.heap.size + 1 + 1 + 1) (blk_set_other (b' := w.heap.size + 1 + 1 + 1) (blk_set_other (b' := w.heap.size + 1 + 1 + 1) (blk_set_other (b' := w.heap.size + 1 + 1 + 1) (blk_set_other (b' := w.heap.size + 1 + 1 + 1) (blk_set_other (b' := w.heap.size + 1 + 1 + 1) (G.out) (by omega) 0 (.int .i64 x1)) (by omega) 1 (.int .i64 x2)) (by omega) 2 (.int .i64 y1)) (by omega) 3 (.int .i64 y2)) (by omega) 4 (.int .i64 z1)) (by omega) 5 (.int .i64 z2))
      replace S : Hid (((((((wc.setCell ⟨w.heap.size + 1 + 1 + 1, 0, none⟩ (.int .i64 x1)).setCell ⟨w.heap.size + 1 + 1 + 1, 1, none⟩ (.int .i64 x2)).setCell ⟨w.heap.size + 1 + 1 + 1, 2, none⟩ (.int .i64 y1)).setCell ⟨w.heap.size + 1 + 1 + 1, 3, none⟩ (.int .i64 y2)).setCell ⟨w.heap.size + 1 + 1 + 1, 4, none⟩ (.int .i64 z1)).setCell ⟨w.heap.size + 1 + 1 + 1, 5, none⟩ (.int .i64 z2)).heap[w.heap.size + 1]? = some (.cells #[.int .i64 n, .int .i64 d] 36)) := Lib.hid (blk_set_other (b' := w.heap.size + 1 + 1 + 1) (blk_set_other (b' := w.heap.size + 1 + 1 + 1) (blk_set_other (b' := w.heap.size + 1 + 1 + 1) (blk_set_other (b' := w.heap.size + 1 + 1 + 1) (blk_set_other (b' := w.heap.size + 1 + 1 + 1) (blk_set_other (b' := w.heap.size + 1 + 1 + 1) (S.out) (by omega) 0 (.int .i64 x1)) (by omega) 1 (.int .i64 x2)) (by omega) 2 (.int .i64 y1)) (by omega) 3 (.int .i64 y2)) (by omega) 4 (.int .i64 z1)) (by omega) 5 (.int .i64 z2))
      replace T : Hid (((((((wc.setCell ⟨w.heap.size + 1 + 1 + 1, 0, none⟩ (.int .i64 x1)).setCell ⟨w.heap.size + 1 + 1 + 1, 1, none⟩ (.int .i64 x2)).setCell ⟨w.heap.size + 1 + 1 + 1, 2, none⟩ (.int .i64 y1)).setCell ⟨w.heap.size + 1 + 1 + 1, 3, none⟩ (.int .i64 y2)).setCell ⟨w.heap.size + 1 + 1 + 1, 4, none⟩ (.int .i64 z1)).setCell ⟨w.heap.size + 1 + 1 + 1, 5, none⟩ (.int .i64 z2)).heap[w.heap.size + 1 + 1]? = some (.cells #[.int .i64 m, .int .i64 k] 36)) := Lib.hid (blk_set_other (b' := w.heap.size + 1 + 1 + 1) (blk_set_other (b' := w.heap.size + 1 + 1 + 1) (blk_set_other (b' := w.heap.size + 1 + 1 + 1) (blk_set_other (b' := w.heap.size + 1 + 1 + 1) (blk_set_other (b' := w.heap.size + 1 + 1 + 1) (blk_set_other (b' := w.heap.size + 1 + 1 + 1) (T.out) (by omega) 0 (.int .i64 x1)) (by omega) 1 (.int .i64 x2)) (by omega) 2 (.int .i64 y1)) (by omega) 3 (.int .i64 y2)) (by omega) 4 (.int .i64 z1)) (by omega) 5 (.int .i64 z2))
      replace R : Hid (((((((wc.setCell ⟨w.heap.size + 1 + 1 + 1, 0, none⟩ (.int .i64 x1)).setCell ⟨w.heap.size + 1 + 1 + 1, 1, none⟩ (.int .i64 x2)).setCell ⟨w.heap.size + 1 + 1 + 1, 2, none⟩ (.int .i64 y1)).setCell ⟨w.heap.size + 1 + 1 + 1, 3, none⟩ (.int .i64 y2)).setCell ⟨w.heap.size + 1 + 1 + 1, 4, none⟩ (.int .i64 z1)).setCell ⟨w.heap.size + 1 + 1 + 1, 5, none⟩ (.int .i64 z2)).heap[w.heap.size + 1 + 1 + 1]? = some (.cells #[.int .i64 x1, .int .i64 x2, .int .i64 y1, .int .i64 y2, .int .i64 z1, .int .i64 z2] 38)) := Lib.hid (blk_set (blk_set (blk_set (blk_set (blk_set (blk_set (R.out) 0 (.int .i64 x1)) 1 (.int .i64 x2)) 2 (.int .i64 y1)) 3 (.int .i64 y2)) 4 (.int .i64 z1)) 5 (.int .i64 z2))
      replace C : Hid (((((((wc.setCell ⟨w.heap.size + 1 + 1 + 1, 0, none⟩ (.int .i64 x1)).setCell ⟨w.heap.size + 1 + 1 + 1, 1, none⟩ (.int .i64 x2)).setCell ⟨w.heap.size + 1 + 1 + 1, 2, none⟩ (.int .i64 y1)).setCell ⟨w.heap.size + 1 + 1 + 1, 3, none⟩ (.int .i64 y2)).setCell ⟨w.heap.size + 1 + 1 + 1, 4, none⟩ (.int .i64 z1)).setCell ⟨w.heap.size + 1 + 1 + 1, 5, none⟩ (.int .i64 z2)).heap[gC]? = some (.cells #[.int .i64 c1, .int .i64 c2] 36)) := Lib.hid (blk_set_other (b' := w.heap.size + 1 + 1 + 1) (blk_set_other (b' := w.heap.size + 1 + 1 + 1) (blk_set_other (b' := w.heap.size + 1 + 1 + 1) (blk_set_other (b' := w.heap.size + 1 + 1 + 1) (blk_set_other (b' := w.heap.size + 1 + 1 + 1) (blk_set_other (b' := w.heap.size + 1 + 1 + 1) (C.out) (by have := LT_C.out; omega) 0 (.int .i64 x1)) (by have := LT_C.out; omega) 1 (.int .i64 x2)) (by have := LT_C.out; omega) 2 (.int .i64 y1)) (by have := LT_C.out; omega) 3 (.int .i64 y2)) (by have := LT_C.out; omega) 4 (.int .i64 z1)) (by have := LT_C.out; omega) 5 (.int .i64 z2))
      replace K : Hid (((((((wc.setCell ⟨w.heap.size + 1 + 1 + 1, 0, none⟩ (.int .i64 x1)).setCell ⟨w.heap.size + 1 + 1 + 1, 1, none⟩ (.int .i64 x2)).setCell ⟨w.heap.size + 1 + 1 + 1, 2, none⟩ (.int .i64 y1)).setCell ⟨w.heap.size + 1 + 1 + 1, 3, none⟩ (.int .i64 y2)).setCell ⟨w.heap.size + 1 + 1 + 1, 4, none⟩ (.int .i64 z1)).setCell ⟨w.heap.size + 1 + 1 + 1, 5, none⟩ (.int .i64 z2)).heap[gC + 1]? = some (.cells #[.int .i64 s1, .int .i64 s2] 36)) := Lib.hid (blk_set_other (b' := w.heap.size + 1 + 1 + 1) (blk_set_other (b' := w.heap.size + 1 + 1 + 1) (blk_set_other (b' := w.heap.size + 1 + 1 + 1) (blk_set_other (b' := w.heap.size + 1 + 1 + 1) (blk_set_other (b' := w.heap.size + 1 + 1 + 1) (blk_set_other (b' := w.heap.size + 1 + 1 + 1) (K.out) (by have := LT_C.out; omega) 0 (.int .i64 x1)) (by have := LT_C.out; omega) 1 (.int .i64 x2)) (by have := LT_C.out; omega) 2 (.int .i64 y1)) (by have := LT_C.out; omega) 3 (.int .i64 y2)) (by have := LT_C.out; omega) 4 (.int .i64 z1)) (by have := LT_C.out; omega) 5 (.int .i64 z2))
      replace D : Hid (((((((wc.setCell ⟨w.heap.size + 1 + 1 + 1, 0, none⟩ (.int .i64 x1)).setCell ⟨w.heap.size + 1 + 1 + 1, 1, none⟩ (.int .i64 x2)).setCell ⟨w.heap.size + 1 + 1 + 1, 2, none⟩ (.int .i64 y1)).setCell ⟨w.heap.size + 1 + 1 + 1, 3, none⟩ (.int .i64 y2)).setCell ⟨w.heap.size + 1 + 1 + 1, 4, none⟩ (.int .i64 z1)).setCell ⟨w.heap.size + 1 + 1 + 1, 5, none⟩ (.int .i64 z2)).heap[gD]? = some (.cells #[.int .i64 t1, .int .i64 t2] 36)) := Lib.hid (blk_set_other (b' := w.heap.size + 1 + 1 + 1) (blk_set_other (b' := w.heap.size + 1 + 1 + 1) (blk_set_other (b' := w.heap.size + 1 + 1 + 1) (blk_set_other (b' := w.heap.size + 1 + 1 + 1) (blk_set_other (b' := w.heap.size + 1 + 1 + 1) (blk_set_other (b' := w.heap.size + 1 + 1 + 1) (D.out) (by have := LT_D.out; omega) 0 (.int .i64 x1)) (by have := LT_D.out; omega) 1 (.int .i64 x2)) (by have := LT_D.out; omega) 2 (.int .i64 y1)) (by have := LT_D.out; omega) 3 (.int .i64 y2)) (by have := LT_D.out; omega) 4 (.int .i64 z1)) (by have := LT_D.out; omega) 5 (.int .i64 z2))
      replace U : Hid (((((((wc.setCell ⟨w.heap.size + 1 + 1 + 1, 0, none⟩ (.int .i64 x1)).setCell ⟨w.heap.size + 1 + 1 + 1, 1, none⟩ (.int .i64 x2)).setCell ⟨w.heap.size + 1 + 1 + 1, 2, none⟩ (.int .i64 y1)).setCell ⟨w.heap.size + 1 + 1 + 1, 3, none⟩ (.int .i64 y2)).setCell ⟨w.heap.size + 1 + 1 + 1, 4, none⟩ (.int .i64 z1)).setCell ⟨w.heap.size + 1 + 1 + 1, 5, none⟩ (.int .i64 z2)).heap[gD + 1]? = some (.cells #[.int .i64 u1, .int .i64 u2] 36)) := Lib.hid (blk_set_other (b' := w.heap.size + 1 + 1 + 1) (blk_set_other (b' := w.heap.size + 1 + 1 + 1) (blk_set_other (b' := w.heap.size + 1 + 1 + 1) (blk_set_other (b' := w.heap.size + 1 + 1 + 1) (blk_set_other (b' := w.heap.size + 1 + 1 + 1) (blk_set_other (b' := w.heap.size + 1 + 1 + 1) (U.out) (by have := LT_D.out; omega) 0 (.int .i64 x1)) (by have := LT_D.out; omega) 1 (.int .i64 x2)) (by have := LT_D.out; omega) 2 (.int .i64 y1)) (by have := LT_D.out; omega) 3 (.int .i64 y2)) (by have := LT_D.out; omega) 4 (.int .i64 z1)) (by have := LT_D.out; omega) 5 (.int .i64 z2))
      replace V : Hid (((((((wc.setCell ⟨w.heap.size + 1 + 1 + 1, 0, none⟩ (.int .i64 x1)).setCell ⟨w.heap.size + 1 + 1 + 1, 1, none⟩ (.int .i64 x2)).setCell ⟨w.heap.size + 1 + 1 + 1, 2, none⟩ (.int .i64 y1)).setCell ⟨w.heap.size + 1 + 1 + 1, 3, none⟩ (.int .i64 y2)).setCell ⟨w.heap.size + 1 + 1 + 1, 4, none⟩ (.int .i64 z1)).setCell ⟨w.heap.size + 1 + 1 + 1, 5, none⟩ (.int .i64 z2)).heap[gV]? = some (.cells #[.int .i64 v1, .int .i64 v2] 36)) := Lib.hid (blk_set_other (b' := w.heap.size + 1 + 1 + 1) (blk_set_other (b' := w.heap.size + 1 + 1 + 1) (blk_set_other (b' := w.heap.size + 1 + 1 + 1) (blk_set_other (b' := w.heap.size + 1 + 1 + 1) (blk_set_other (b' := w.heap.size + 1 + 1 + 1) (blk_set_other (b' := w.heap.size + 1 + 1 + 1) (V.out) (by have := LT_V.out; omega) 0 (.int .i64 x1)) (by have := LT_V.out; omega) 1 (.int .i64 x2)) (by have := LT_V.out; omega) 2 (.int .i64 y1)) (by have := LT_V.out; omega) 3 (.int .i64 y2)) (by have := LT_V.out; omega) 4 (.int .i64 z1)) (by have := LT_V.out; omega) 5 (.int .i64 z2))
      replace X : Hid (((((((wc.setCell ⟨w.heap.size + 1 + 1 + 1, 0, none⟩ (.int .i64 x1)).setCell ⟨w.heap.size + 1 + 1 + 1, 1, none⟩ (.int .i64 x2)).setCell ⟨w.heap.size + 1 + 1 + 1, 2, none⟩ (.int .i64 y1)).setCell ⟨w.heap.size + 1 + 1 + 1, 3, none⟩ (.int .i64 y2)).setCell ⟨w.heap.size + 1 + 1 + 1, 4, none⟩ (.int .i64 z1)).setCell ⟨w.heap.size + 1 + 1 + 1, 5, none⟩ (.int .i64 z2)).heap[gX]? = some (.cells #[.int .i64 x1, .int .i64 x2] 36)) := Lib.hid (blk_set_other (b' := w.heap.size + 1 + 1 + 1) (blk_set_other (b' := w.heap.size + 1 + 1 + 1) (blk_set_other (b' := w.heap.size + 1 + 1 + 1) (blk_set_other (b' := w.heap.size + 1 + 1 + 1) (blk_set_other (b' := w.heap.size + 1 + 1 + 1) (blk_set_other (b' := w.heap.size + 1 + 1 + 1) (X.out) (by have := LT_X.out; omega) 0 (.int .i64 x1)) (by have := LT_X.out; omega) 1 (.int .i64 x2)) (by have := LT_X.out; omega) 2 (.int .i64 y1)) (by have := LT_X.out; omega) 3 (.int .i64 y2)) (by have := LT_X.out; omega) 4 (.int .i64 z1)) (by have := LT_X.out; omega) 5 (.int .i64 z2))
      replace Y : Hid (((((((wc.setCell ⟨w.heap.size + 1 + 1 + 1, 0, none⟩ (.int .i64 x1)).setCell ⟨w.heap.size + 1 + 1 + 1, 1, none⟩ (.int .i64 x2)).setCell ⟨w.heap.size + 1 + 1 + 1, 2, none⟩ (.int .i64 y1)).setCell ⟨w.heap.size + 1 + 1 + 1, 3, none⟩ (.int .i64 y2)).setCell ⟨w.heap.size + 1 + 1 + 1, 4, none⟩ (.int .i64 z1)).setCell ⟨w.heap.size + 1 + 1 + 1, 5, none⟩ (.int .i64 z2)).heap[gY]? = some (.cells #[.int .i64 y1, .int .i64 y2] 36)) := Lib.hid (blk_set_other (b' := w.heap.size + 1 + 1 + 1) (blk_set_other (b' := w.heap.size + 1 + 1 + 1) (blk_set_other (b' := w.heap.size + 1 + 1 + 1) (blk_set_other (b' := w.heap.size + 1 + 1 + 1) (blk_set_other (b' := w.heap.size + 1 + 1 + 1) (blk_set_other (b' := w.heap.size + 1 + 1 + 1) (Y.out) (by have := LT_Y.out; omega) 0 (.int .i64 x1)) (by have := LT_Y.out; omega) 1 (.int .i64 x2)) (by have := LT_Y.out; omega) 2 (.int .i64 y1)) (by have := LT_Y.out; omega) 3 (.int .i64 y2)) (by have := LT_Y.out; omega) 4 (.int .i64 z1)) (by have := LT_Y.out; omega) 5 (.int .i64 z2))
      replace Z : Hid (((((((wc.setCell ⟨w.heap.size + 1 + 1 + 1, 0, none⟩ (.int .i64 x1)).setCell ⟨w.heap.size + 1 + 1 + 1, 1, none⟩ (.int .i64 x2)).setCell ⟨w.heap.size + 1 + 1 + 1, 2, none⟩ (.int .i64 y1)).setCell ⟨w.heap.size + 1 + 1 + 1, 3, none⟩ (.int .i64 y2)).setCell ⟨w.heap.size + 1 + 1 + 1, 4, none⟩ (.int .i64 z1)).setCell ⟨w.heap.size + 1 + 1 + 1, 5, none⟩ (.int .i64 z2)).heap[gZ]? = some (.cells #[.int .i64 z1, .int .i64 z2] 36)) := Lib.hid (blk_set_other (b' := w.heap.size + 1 + 1 + 1) (blk_set_other (b' := w.heap.size + 1 + 1 + 1) (blk_set_other (b' := w.heap.size + 1 + 1 + 1) (blk_set_other (b' := w.heap.size + 1 + 1 + 1) (blk_set_other (b' := w.heap.size + 1 + 1 + 1) (blk_set_other (b' := w.heap.size + 1 + 1 + 1) (Z.out) (by have := LT_Z.out; omega) 0 (.int .i64 x1)) (by have := LT_Z.out; omega) 1 (.int .i64 x2)) (by have := LT_Z.out; omega) 2 (.int .i64 y1)) (by have := LT_Z.out; omega) 3 (.int .i64 y2)) (by have := LT_Z.out; omega) 4 (.int .i64 z1)) (by have := LT_Z.out; omega) 5 (.int .i64 z2))
      replace NN := Lib.hid (Bset1 (Bset1 (Bset1 (Bset1 (Bset1 (Bset1 (NN.out) (show w.heap.size ≤ w.heap.size + 1 + 1 + 1 by omega) 0 (.int .i64 x1)) (show w.heap.size ≤ w.heap.size + 1 + 1 + 1 by omega) 1 (.int .i64 x2)) (show w.heap.size ≤ w.heap.size + 1 + 1 + 1 by omega) 2 (.int .i64 y1)) (show w.heap.size ≤ w.heap.size + 1 + 1 + 1 by omega) 3 (.int .i64 y2)) (show w.heap.size ≤ w.heap.size + 1 + 1 + 1 by omega) 4 (.int .i64 z1)) (show w.heap.size ≤ w.heap.size + 1 + 1 + 1 by omega) 5 (.int .i64 z2))
      generalize ((((((wc.setCell ⟨w.heap.size + 1 + 1 + 1, 0, none⟩ (.int .i64 x1)).setCell ⟨w.heap.size + 1 + 1 + 1, 1, none⟩ (.int .i64 x2)).setCell ⟨w.heap.size + 1 + 1 + 1, 2, none⟩ (.int .i64 y1)).setCell ⟨w.heap.size + 1 + 1 + 1, 3, none⟩ (.int .i64 y2)).setCell ⟨w.heap.size + 1 + 1 + 1, 4, none⟩ (.int .i64 z1)).setCell ⟨w.heap.size + 1 + 1 + 1, 5, none⟩ (.int .i64 z2)) = W35 at *
      have c_R_0 := blk_cell R.out 0 _ rfl
      have f_R_0 := blk_frozen R.out 0
      have c_R_1 := blk_cell R.out 1 _ rfl
      have f_R_1 := blk_frozen R.out 1
      have c_R_2 := blk_cell R.out 2 _ rfl
      have f_R_2 := blk_frozen R.out 2
      have c_R_3 := blk_cell R.out 3 _ rfl
      have f_R_3 := blk_frozen R.out 3
      have c_R_4 := blk_cell R.out 4 _ rfl
      have f_R_4 := blk_frozen R.out 4
      have c_R_5 := blk_cell R.out 5 _ rfl
      have f_R_5 := blk_frozen R.out 5
      have l_R := blk_lt R.out
      go_wp2_with fail
      exact bodyPost_ret (v := .tuple #[Pv x1 x2 y1 y2 z1 z2, .int .i64 0]) (by simp [results, Tryz.results65, go_sem, c_R_0, c_R_1, c_R_2, c_R_3, c_R_4, c_R_5]) rfl ⟨by rw [FV.out, FE.out], NN.out⟩
end Go.Proofs.YtfangplfbbgphaaGreatDoor
