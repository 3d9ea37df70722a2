/- For every input the law CxField returns true and leaves its arguments as they were; the library's variables as the program's text lays them. -/
import Derived.Test.YtbbjclbpllfdeaaDoorRows
import Derived.Test.YtbbjclbpllfdeaaDoorCards
import Derived.Test.YtbbjclbpllfdeaaDoorTie
import Derived.Test.YtbbjclbpllfdeaaDoorCte
import Derived.WalkKit
import Derived.ProofKit
import Derived.OpenShut
import Derived.ShutString
import Derived.ChangeOld
import Derived.Below
import Derived.Lib.SmallJoins
import Derived.Deep.DeepHandedRow
import Derived.LaidLaws
import Derived.SevenTiedAt
namespace Go.Proofs.YtbbjclbpllfdeaaDoor.cxField
open Go.ChangeShapes Go.WideShapes Go.ChangeAt Go.RowKit Go.Joins
open Go.ChangeMaps (open_string shut_string)
set_option linter.unusedVariables false

theorem own : ownKnob Tryd.prog.godebug = none := by kernel_rfl
theorem laidOut : laidOutB Tryd.prog = true := by kernel_rfl
open Cxm
set_option maxRecDepth 100000 in
set_option maxHeartbeats 16000000 in
theorem walk (ar ai ad br bi bd cr ci cd : Int) (w : World) (g : GL w) :
    Calls Tryd.prog 4 #[Cv ar ai ad, Cv br bi bd, Cv cr ci cd] w fun e w' => e = .returned (.bool true) ∧ Below w.heap.size w w' := by
  have GG := Lib.hid g
  have NN := Lib.hid (Below.refl w.heap.size w)
  clear g
  have RB := Lib.hid (fun W => refBoth_calls ar ai ad br bi bd W)
  have RC := Lib.hid (fun W => refCheck_calls cr ci cd W)
  by_cases hab : chkB ar ai ad = true ∧ chkB br bi bd = true
  rotate_left
  · rw [both_no hab] at RB
    clear hab
    go_enter Tryd.func4, Tryd.ntmps4
    go_wp2_with fail
    have BA : Hid ((((w.alloc (.cells #[.int .i64 ar, .int .i64 ai, .int .i64 ad] 23)).alloc (.cells #[.int .i64 br, .int .i64 bi, .int .i64 bd] 23)).alloc (.cells #[.int .i64 cr, .int .i64 ci, .int .i64 cd] 23)).heap[w.heap.size]? = some (.cells #[.int .i64 ar, .int .i64 ai, .int .i64 ad] 23)) := Lib.hid (blk_alloc (blk_alloc (blk_new w _) _) _)
    have BB : Hid ((((w.alloc (.cells #[.int .i64 ar, .int .i64 ai, .int .i64 ad] 23)).alloc (.cells #[.int .i64 br, .int .i64 bi, .int .i64 bd] 23)).alloc (.cells #[.int .i64 cr, .int .i64 ci, .int .i64 cd] 23)).heap[w.heap.size + 1]? = some (.cells #[.int .i64 br, .int .i64 bi, .int .i64 bd] 23)) := Lib.hid (blk_alloc (blk_at _ (by simp)) _)
    have BC : Hid ((((w.alloc (.cells #[.int .i64 ar, .int .i64 ai, .int .i64 ad] 23)).alloc (.cells #[.int .i64 br, .int .i64 bi, .int .i64 bd] 23)).alloc (.cells #[.int .i64 cr, .int .i64 ci, .int .i64 cd] 23)).heap[w.heap.size + 1 + 1]? = some (.cells #[.int .i64 cr, .int .i64 ci, .int .i64 cd] 23)) := Lib.hid (blk_at _ (by simp))
    replace NN : Hid (Below w.heap.size w (((w.alloc (.cells #[.int .i64 ar, .int .i64 ai, .int .i64 ad] 23)).alloc (.cells #[.int .i64 br, .int .i64 bi, .int .i64 bd] 23)).alloc (.cells #[.int .i64 cr, .int .i64 ci, .int .i64 cd] 23))) := Lib.hid (Bal (Bal (Bal NN.out _) _) _)
    generalize (((w.alloc (.cells #[.int .i64 ar, .int .i64 ai, .int .i64 ad] 23)).alloc (.cells #[.int .i64 br, .int .i64 bi, .int .i64 bd] 23)).alloc (.cells #[.int .i64 cr, .int .i64 ci, .int .i64 cd] 23)) = W1 at *
    refine (alive_calls _ (GG.out.next NN.out)).mono ?_
    rintro e w2 ⟨rfl, hb⟩
    replace NN := Lib.hid (Bgo NN.out hb)
    replace BA := Lib.hid (blk_next hb BA.out)
    replace BB := Lib.hid (blk_next hb BB.out)
    replace BC := Lib.hid (blk_next hb BC.out)
    clear hb
    have c_BA_0 := blk_cell BA.out 0 _ rfl
    have f_BA_0 := blk_frozen BA.out 0
    have c_BA_1 := blk_cell BA.out 1 _ rfl
    have f_BA_1 := blk_frozen BA.out 1
    have c_BA_2 := blk_cell BA.out 2 _ rfl
    have f_BA_2 := blk_frozen BA.out 2
    have l_BA := blk_lt BA.out
    have c_BB_0 := blk_cell BB.out 0 _ rfl
    have f_BB_0 := blk_frozen BB.out 0
    have c_BB_1 := blk_cell BB.out 1 _ rfl
    have f_BB_1 := blk_frozen BB.out 1
    have c_BB_2 := blk_cell BB.out 2 _ rfl
    have f_BB_2 := blk_frozen BB.out 2
    have l_BB := blk_lt BB.out
    go_wp2_with fail
    refine (RB.out _).mono ?_
    rintro e w3 ⟨rfl, hb⟩
    clear c_BA_0 f_BA_0 c_BA_1 f_BA_1 c_BA_2 f_BA_2 l_BA c_BB_0 f_BB_0 c_BB_1 f_BB_1 c_BB_2 f_BB_2 l_BB
    replace NN := Lib.hid (Bgo NN.out hb)
    replace BA := Lib.hid (blk_next hb BA.out)
    replace BB := Lib.hid (blk_next hb BB.out)
    replace BC := Lib.hid (blk_next hb BC.out)
    clear hb
    go_wp2_with fail
    go_ret
    exact ⟨rfl, NN.out⟩
  obtain ⟨ha, hb⟩ := hab
  rw [both_yes ha hb] at RB
  cases hc : chkB cr ci cd
  · rw [chkE_no hc] at RC
    clear ha hb hc
    go_enter Tryd.func4, Tryd.ntmps4
    go_wp2_with fail
    have BA : Hid ((((w.alloc (.cells #[.int .i64 ar, .int .i64 ai, .int .i64 ad] 23)).alloc (.cells #[.int .i64 br, .int .i64 bi, .int .i64 bd] 23)).alloc (.cells #[.int .i64 cr, .int .i64 ci, .int .i64 cd] 23)).heap[w.heap.size]? = some (.cells #[.int .i64 ar, .int .i64 ai, .int .i64 ad] 23)) := Lib.hid (blk_alloc (blk_alloc (blk_new w _) _) _)
    have BB : Hid ((((w.alloc (.cells #[.int .i64 ar, .int .i64 ai, .int .i64 ad] 23)).alloc (.cells #[.int .i64 br, .int .i64 bi, .int .i64 bd] 23)).alloc (.cells #[.int .i64 cr, .int .i64 ci, .int .i64 cd] 23)).heap[w.heap.size + 1]? = some (.cells #[.int .i64 br, .int .i64 bi, .int .i64 bd] 23)) := Lib.hid (blk_alloc (blk_at _ (by simp)) _)
    have BC : Hid ((((w.alloc (.cells #[.int .i64 ar, .int .i64 ai, .int .i64 ad] 23)).alloc (.cells #[.int .i64 br, .int .i64 bi, .int .i64 bd] 23)).alloc (.cells #[.int .i64 cr, .int .i64 ci, .int .i64 cd] 23)).heap[w.heap.size + 1 + 1]? = some (.cells #[.int .i64 cr, .int .i64 ci, .int .i64 cd] 23)) := Lib.hid (blk_at _ (by simp))
    replace NN : Hid (Below w.heap.size w (((w.alloc (.cells #[.int .i64 ar, .int .i64 ai, .int .i64 ad] 23)).alloc (.cells #[.int .i64 br, .int .i64 bi, .int .i64 bd] 23)).alloc (.cells #[.int .i64 cr, .int .i64 ci, .int .i64 cd] 23))) := Lib.hid (Bal (Bal (Bal NN.out _) _) _)
    generalize (((w.alloc (.cells #[.int .i64 ar, .int .i64 ai, .int .i64 ad] 23)).alloc (.cells #[.int .i64 br, .int .i64 bi, .int .i64 bd] 23)).alloc (.cells #[.int .i64 cr, .int .i64 ci, .int .i64 cd] 23)) = W4 at *
    refine (alive_calls _ (GG.out.next NN.out)).mono ?_
    rintro e w5 ⟨rfl, hb⟩
    replace NN := Lib.hid (Bgo NN.out hb)
    replace BA := Lib.hid (blk_next hb BA.out)
    replace BB := Lib.hid (blk_next hb BB.out)
    replace BC := Lib.hid (blk_next hb BC.out)
    clear hb
    have c_BA_0 := blk_cell BA.out 0 _ rfl
    have f_BA_0 := blk_frozen BA.out 0
    have c_BA_1 := blk_cell BA.out 1 _ rfl
    have f_BA_1 := blk_frozen BA.out 1
    have c_BA_2 := blk_cell BA.out 2 _ rfl
    have f_BA_2 := blk_frozen BA.out 2
    have l_BA := blk_lt BA.out
    have c_BB_0 := blk_cell BB.out 0 _ rfl
    have f_BB_0 := blk_frozen BB.out 0
    have c_BB_1 := blk_cell BB.out 1 _ rfl
    have f_BB_1 := blk_frozen BB.out 1
    have c_BB_2 := blk_cell BB.out 2 _ rfl
    have f_BB_2 := blk_frozen BB.out 2
    have l_BB := blk_lt BB.out
    go_wp2_with fail
    refine (RB.out _).mono ?_
    rintro e w6 ⟨rfl, hb⟩
    clear c_BA_0 f_BA_0 c_BA_1 f_BA_1 c_BA_2 f_BA_2 l_BA c_BB_0 f_BB_0 c_BB_1 f_BB_1 c_BB_2 f_BB_2 l_BB
    replace NN := Lib.hid (Bgo NN.out hb)
    replace BA := Lib.hid (blk_next hb BA.out)
    replace BB := Lib.hid (blk_next hb BB.out)
    replace BC := Lib.hid (blk_next hb BC.out)
    clear hb
    have c_BC_0 := blk_cell BC.out 0 _ rfl
    have f_BC_0 := blk_frozen BC.out 0
    have c_BC_1 := blk_cell BC.out 1 _ rfl
    have f_BC_1 := blk_frozen BC.out 1
    have c_BC_2 := blk_cell BC.out 2 _ rfl
    have f_BC_2 := blk_frozen BC.out 2
    have l_BC := blk_lt BC.out
    go_wp2_with fail
    refine (RC.out _).mono ?_
    rintro e w7 ⟨rfl, hb⟩
    clear c_BC_0 f_BC_0 c_BC_1 f_BC_1 c_BC_2 f_BC_2 l_BC
    replace NN := Lib.hid (Bgo NN.out hb)
    replace BA := Lib.hid (blk_next hb BA.out)
    replace BB := Lib.hid (blk_next hb BB.out)
    replace BC := Lib.hid (blk_next hb BC.out)
    clear hb
    go_wp2_with fail
    go_ret
    exact ⟨rfl, NN.out⟩
  rw [chkE_yes hc] at RC
  obtain ⟨⟨s1, s2, s3, s4⟩, hs⟩ : ∃ r, sumS ar ai ad br bi bd = r := ⟨_, rfl⟩
  obtain ⟨⟨t1, t2, t3, t4⟩, ht⟩ : ∃ r, sumS br bi bd cr ci cd = r := ⟨_, rfl⟩
  obtain ⟨⟨p1, p2, p3, p4⟩, hp⟩ : ∃ r, mulS ar ai ad br bi bd = r := ⟨_, rfl⟩
  obtain ⟨⟨q1, q2, q3, q4⟩, hq⟩ : ∃ r, mulS br bi bd cr ci cd = r := ⟨_, rfl⟩
  obtain ⟨⟨r1, r2, r3, r4⟩, hr⟩ : ∃ r, mulS ar ai ad cr ci cd = r := ⟨_, rfl⟩
  have hs' := (sum_comm br bi bd ar ai ad).trans hs
  have hp' := (mul_comm' br bi bd ar ai ad).trans hp
  have Cs := Lib.hid (fun W => add_calls _ _ _ _ _ _ _ _ _ _ hs W)
  have Ct := Lib.hid (fun W => add_calls _ _ _ _ _ _ _ _ _ _ ht W)
  have Cp := Lib.hid (fun W => mul_calls _ _ _ _ _ _ _ _ _ _ hp W)
  have Cq := Lib.hid (fun W => mul_calls _ _ _ _ _ _ _ _ _ _ hq W)
  have Cr := Lib.hid (fun W => mul_calls _ _ _ _ _ _ _ _ _ _ hr W)
  have Cs' := Lib.hid (fun W => add_calls _ _ _ _ _ _ _ _ _ _ hs' W)
  have Cp' := Lib.hid (fun W => mul_calls _ _ _ _ _ _ _ _ _ _ hp' W)
  have AS := Lib.hid (fun (h : s4 = 0) (k : t4 = 0) => sum_assoc ha hb hc (by rw [h] at hs; exact hs) (by rw [k] at ht; exact ht))
  have AM := Lib.hid (fun (h : p4 = 0) (k : q4 = 0) => mul_assoc' ha hb hc (by rw [h] at hp; exact hp) (by rw [k] at hq; exact hq))
  have DI := Lib.hid (fun (h : p4 = 0) (k : r4 = 0) (l : t4 = 0) => distrib ha hb hc (by rw [h] at hp; exact hp) (by rw [k] at hr; exact hr) (by rw [l] at ht; exact ht))
  clear hs ht hp hq hr hs' hp' ha hb hc
  go_enter Tryd.func4, Tryd.ntmps4
  go_wp2_with fail
  have BA : Hid ((((w.alloc (.cells #[.int .i64 ar, .int .i64 ai, .int .i64 ad] 23)).alloc (.cells #[.int .i64 br, .int .i64 bi, .int .i64 bd] 23)).alloc (.cells #[.int .i64 cr, .int .i64 ci, .int .i64 cd] 23)).heap[w.heap.size]? = some (.cells #[.int .i64 ar, .int .i64 ai, .int .i64 ad] 23)) := Lib.hid (blk_alloc (blk_alloc (blk_new w _) _) _)
  have BB : Hid ((((w.alloc (.cells #[.int .i64 ar, .int .i64 ai, .int .i64 ad] 23)).alloc (.cells #[.int .i64 br, .int .i64 bi, .int .i64 bd] 23)).alloc (.cells #[.int .i64 cr, .int .i64 ci, .int .i64 cd] 23)).heap[w.heap.size + 1]? = some (.cells #[.int .i64 br, .int .i64 bi, .int .i64 bd] 23)) := Lib.hid (blk_alloc (blk_at _ (by simp)) _)
  have BC : Hid ((((w.alloc (.cells #[.int .i64 ar, .int .i64 ai, .int .i64 ad] 23)).alloc (.cells #[.int .i64 br, .int .i64 bi, .int .i64 bd] 23)).alloc (.cells #[.int .i64 cr, .int .i64 ci, .int .i64 cd] 23)).heap[w.heap.size + 1 + 1]? = some (.cells #[.int .i64 cr, .int .i64 ci, .int .i64 cd] 23)) := Lib.hid (blk_at _ (by simp))
  replace NN : Hid (Below w.heap.size w (((w.alloc (.cells #[.int .i64 ar, .int .i64 ai, .int .i64 ad] 23)).alloc (.cells #[.int .i64 br, .int .i64 bi, .int .i64 bd] 23)).alloc (.cells #[.int .i64 cr, .int .i64 ci, .int .i64 cd] 23))) := Lib.hid (Bal (Bal (Bal NN.out _) _) _)
  generalize (((w.alloc (.cells #[.int .i64 ar, .int .i64 ai, .int .i64 ad] 23)).alloc (.cells #[.int .i64 br, .int .i64 bi, .int .i64 bd] 23)).alloc (.cells #[.int .i64 cr, .int .i64 ci, .int .i64 cd] 23)) = W8 at *
  refine (alive_calls _ (GG.out.next NN.out)).mono ?_
  rintro e w9 ⟨rfl, hb⟩
  replace NN := Lib.hid (Bgo NN.out hb)
  replace BA := Lib.hid (blk_next hb BA.out)
  replace BB := Lib.hid (blk_next hb BB.out)
  replace BC := Lib.hid (blk_next hb BC.out)
  clear hb
  have c_BA_0 := blk_cell BA.out 0 _ rfl
  have f_BA_0 := blk_frozen BA.out 0
  have c_BA_1 := blk_cell BA.out 1 _ rfl
  have f_BA_1 := blk_frozen BA.out 1
  have c_BA_2 := blk_cell BA.out 2 _ rfl
  have f_BA_2 := blk_frozen BA.out 2
  have l_BA := blk_lt BA.out
  have c_BB_0 := blk_cell BB.out 0 _ rfl
  have f_BB_0 := blk_frozen BB.out 0
  have c_BB_1 := blk_cell BB.out 1 _ rfl
  have f_BB_1 := blk_frozen BB.out 1
  have c_BB_2 := blk_cell BB.out 2 _ rfl
  have f_BB_2 := blk_frozen BB.out 2
  have l_BB := blk_lt BB.out
  go_wp2_with fail
  refine (RB.out _).mono ?_
  rintro e w10 ⟨rfl, hb⟩
  clear c_BA_0 f_BA_0 c_BA_1 f_BA_1 c_BA_2 f_BA_2 l_BA c_BB_0 f_BB_0 c_BB_1 f_BB_1 c_BB_2 f_BB_2 l_BB
  replace NN := Lib.hid (Bgo NN.out hb)
  replace BA := Lib.hid (blk_next hb BA.out)
  replace BB := Lib.hid (blk_next hb BB.out)
  replace BC := Lib.hid (blk_next hb BC.out)
  clear hb
  have c_BC_0 := blk_cell BC.out 0 _ rfl
  have f_BC_0 := blk_frozen BC.out 0
  have c_BC_1 := blk_cell BC.out 1 _ rfl
  have f_BC_1 := blk_frozen BC.out 1
  have c_BC_2 := blk_cell BC.out 2 _ rfl
  have f_BC_2 := blk_frozen BC.out 2
  have l_BC := blk_lt BC.out
  go_wp2_with fail
  refine (RC.out _).mono ?_
  rintro e w11 ⟨rfl, hb⟩
  clear c_BC_0 f_BC_0 c_BC_1 f_BC_1 c_BC_2 f_BC_2 l_BC
  replace NN := Lib.hid (Bgo NN.out hb)
  replace BA := Lib.hid (blk_next hb BA.out)
  replace BB := Lib.hid (blk_next hb BB.out)
  replace BC := Lib.hid (blk_next hb BC.out)
  clear hb
  have c_BA_0 := blk_cell BA.out 0 _ rfl
  have f_BA_0 := blk_frozen BA.out 0
  have c_BA_1 := blk_cell BA.out 1 _ rfl
  have f_BA_1 := blk_frozen BA.out 1
  have c_BA_2 := blk_cell BA.out 2 _ rfl
  have f_BA_2 := blk_frozen BA.out 2
  have l_BA := blk_lt BA.out
  have c_BB_0 := blk_cell BB.out 0 _ rfl
  have f_BB_0 := blk_frozen BB.out 0
  have c_BB_1 := blk_cell BB.out 1 _ rfl
  have f_BB_1 := blk_frozen BB.out 1
  have c_BB_2 := blk_cell BB.out 2 _ rfl
  have f_BB_2 := blk_frozen BB.out 2
  have l_BB := blk_lt BB.out
  go_wp2_with fail
  refine (Cs.out _).mono ?_
  rintro e w12 ⟨rfl, hb⟩
  clear c_BA_0 f_BA_0 c_BA_1 f_BA_1 c_BA_2 f_BA_2 l_BA c_BB_0 f_BB_0 c_BB_1 f_BB_1 c_BB_2 f_BB_2 l_BB
  replace NN := Lib.hid (Bgo NN.out hb)
  replace BA := Lib.hid (blk_next hb BA.out)
  replace BB := Lib.hid (blk_next hb BB.out)
  replace BC := Lib.hid (blk_next hb BC.out)
  clear hb
  have HB : Hid (Below w12.heap.size w12 (w12.alloc (.cells #[.int .i64 s1, .int .i64 s2, .int .i64 s3] 23))) := Lib.hid (Bal (Below.refl _ _) _)
  have S1 := Lib.hid (blk_new w12 (.cells #[.int .i64 s1, .int .i64 s2, .int .i64 s3] 23))
  have LT_S1 : Hid (w.heap.size < w12.heap.size ∧ w.heap.size + 1 < w12.heap.size ∧ w.heap.size + 1 + 1 < w12.heap.size ∧ w.heap.size ≤ w12.heap.size) := Lib.hid ⟨blk_lt BA.out, blk_lt BB.out, blk_lt BC.out, NN.out.size⟩
  replace NN := Lib.hid (Bgo NN.out HB.out)
  replace BA := Lib.hid (blk_next HB.out BA.out)
  replace BB := Lib.hid (blk_next HB.out BB.out)
  replace BC := Lib.hid (blk_next HB.out BC.out)
  clear HB
  have c_BB_0 := blk_cell BB.out 0 _ rfl
  have f_BB_0 := blk_frozen BB.out 0
  have c_BB_1 := blk_cell BB.out 1 _ rfl
  have f_BB_1 := blk_frozen BB.out 1
  have c_BB_2 := blk_cell BB.out 2 _ rfl
  have f_BB_2 := blk_frozen BB.out 2
  have l_BB := blk_lt BB.out
  have c_BA_0 := blk_cell BA.out 0 _ rfl
  have f_BA_0 := blk_frozen BA.out 0
  have c_BA_1 := blk_cell BA.out 1 _ rfl
  have f_BA_1 := blk_frozen BA.out 1
  have c_BA_2 := blk_cell BA.out 2 _ rfl
  have f_BA_2 := blk_frozen BA.out 2
  have l_BA := blk_lt BA.out
  go_wp2_with fail
  clear c_BB_0 f_BB_0 c_BB_1 f_BB_1 c_BB_2 f_BB_2 l_BB c_BA_0 f_BA_0 c_BA_1 f_BA_1 c_BA_2 f_BA_2 l_BA
  generalize w12.alloc (.cells #[.int .i64 s1, .int .i64 s2, .int .i64 s3] 23) = W13 at *
  generalize w12.heap.size = g13 at *
  refine (Cs'.out _).mono ?_
  rintro e w14 ⟨rfl, hb⟩
  replace NN := Lib.hid (Bgo NN.out hb)
  replace BA := Lib.hid (blk_next hb BA.out)
  replace BB := Lib.hid (blk_next hb BB.out)
  replace BC := Lib.hid (blk_next hb BC.out)
  replace S1 := Lib.hid (blk_next hb S1.out)
  clear hb
  have HB : Hid (Below w14.heap.size w14 (w14.alloc (.cells #[.int .i64 s1, .int .i64 s2, .int .i64 s3] 23))) := Lib.hid (Bal (Below.refl _ _) _)
  have S2 := Lib.hid (blk_new w14 (.cells #[.int .i64 s1, .int .i64 s2, .int .i64 s3] 23))
  have LT_S2 : Hid (w.heap.size < w14.heap.size ∧ w.heap.size + 1 < w14.heap.size ∧ w.heap.size + 1 + 1 < w14.heap.size ∧ g13 < w14.heap.size ∧ w.heap.size ≤ w14.heap.size) := Lib.hid ⟨blk_lt BA.out, blk_lt BB.out, blk_lt BC.out, blk_lt S1.out, NN.out.size⟩
  replace NN := Lib.hid (Bgo NN.out HB.out)
  replace BA := Lib.hid (blk_next HB.out BA.out)
  replace BB := Lib.hid (blk_next HB.out BB.out)
  replace BC := Lib.hid (blk_next HB.out BC.out)
  replace S1 := Lib.hid (blk_next HB.out S1.out)
  clear HB
  have c_BB_0 := blk_cell BB.out 0 _ rfl
  have f_BB_0 := blk_frozen BB.out 0
  have c_BB_1 := blk_cell BB.out 1 _ rfl
  have f_BB_1 := blk_frozen BB.out 1
  have c_BB_2 := blk_cell BB.out 2 _ rfl
  have f_BB_2 := blk_frozen BB.out 2
  have l_BB := blk_lt BB.out
  have c_BC_0 := blk_cell BC.out 0 _ rfl
  have f_BC_0 := blk_frozen BC.out 0
  have c_BC_1 := blk_cell BC.out 1 _ rfl
  have f_BC_1 := blk_frozen BC.out 1
  have c_BC_2 := blk_cell BC.out 2 _ rfl
  have f_BC_2 := blk_frozen BC.out 2
  have l_BC := blk_lt BC.out
  go_wp2_with fail
  clear c_BB_0 f_BB_0 c_BB_1 f_BB_1 c_BB_2 f_BB_2 l_BB c_BC_0 f_BC_0 c_BC_1 f_BC_1 c_BC_2 f_BC_2 l_BC
  generalize w14.alloc (.cells #[.int .i64 s1, .int .i64 s2, .int .i64 s3] 23) = W15 at *
  generalize w14.heap.size = g15 at *
  refine (Ct.out _).mono ?_
  rintro e w16 ⟨rfl, hb⟩
  replace NN := Lib.hid (Bgo NN.out hb)
  replace BA := Lib.hid (blk_next hb BA.out)
  replace BB := Lib.hid (blk_next hb BB.out)
  replace BC := Lib.hid (blk_next hb BC.out)
  replace S1 := Lib.hid (blk_next hb S1.out)
  replace S2 := Lib.hid (blk_next hb S2.out)
  clear hb
  have HB : Hid (Below w16.heap.size w16 (w16.alloc (.cells #[.int .i64 t1, .int .i64 t2, .int .i64 t3] 23))) := Lib.hid (Bal (Below.refl _ _) _)
  have T1 := Lib.hid (blk_new w16 (.cells #[.int .i64 t1, .int .i64 t2, .int .i64 t3] 23))
  have LT_T1 : Hid (w.heap.size < w16.heap.size ∧ w.heap.size + 1 < w16.heap.size ∧ w.heap.size + 1 + 1 < w16.heap.size ∧ g13 < w16.heap.size ∧ g15 < w16.heap.size ∧ w.heap.size ≤ w16.heap.size) := Lib.hid ⟨blk_lt BA.out, blk_lt BB.out, blk_lt BC.out, blk_lt S1.out, blk_lt S2.out, NN.out.size⟩
  replace NN := Lib.hid (Bgo NN.out HB.out)
  replace BA := Lib.hid (blk_next HB.out BA.out)
  replace BB := Lib.hid (blk_next HB.out BB.out)
  replace BC := Lib.hid (blk_next HB.out BC.out)
  replace S1 := Lib.hid (blk_next HB.out S1.out)
  replace S2 := Lib.hid (blk_next HB.out S2.out)
  clear HB
  have c_BA_0 := blk_cell BA.out 0 _ rfl
  have f_BA_0 := blk_frozen BA.out 0
  have c_BA_1 := blk_cell BA.out 1 _ rfl
  have f_BA_1 := blk_frozen BA.out 1
  have c_BA_2 := blk_cell BA.out 2 _ rfl
  have f_BA_2 := blk_frozen BA.out 2
  have l_BA := blk_lt BA.out
  have c_BB_0 := blk_cell BB.out 0 _ rfl
  have f_BB_0 := blk_frozen BB.out 0
  have c_BB_1 := blk_cell BB.out 1 _ rfl
  have f_BB_1 := blk_frozen BB.out 1
  have c_BB_2 := blk_cell BB.out 2 _ rfl
  have f_BB_2 := blk_frozen BB.out 2
  have l_BB := blk_lt BB.out
  go_wp2_with fail
  clear c_BA_0 f_BA_0 c_BA_1 f_BA_1 c_BA_2 f_BA_2 l_BA c_BB_0 f_BB_0 c_BB_1 f_BB_1 c_BB_2 f_BB_2 l_BB
  generalize w16.alloc (.cells #[.int .i64 t1, .int .i64 t2, .int .i64 t3] 23) = W17 at *
  generalize w16.heap.size = g17 at *
  refine (Cp.out _).mono ?_
  rintro e w18 ⟨rfl, hb⟩
  replace NN := Lib.hid (Bgo NN.out hb)
  replace BA := Lib.hid (blk_next hb BA.out)
  replace BB := Lib.hid (blk_next hb BB.out)
  replace BC := Lib.hid (blk_next hb BC.out)
  replace S1 := Lib.hid (blk_next hb S1.out)
  replace S2 := Lib.hid (blk_next hb S2.out)
  replace T1 := Lib.hid (blk_next hb T1.out)
  clear hb
  have HB : Hid (Below w18.heap.size w18 (w18.alloc (.cells #[.int .i64 p1, .int .i64 p2, .int .i64 p3] 23))) := Lib.hid (Bal (Below.refl _ _) _)
  have P1 := Lib.hid (blk_new w18 (.cells #[.int .i64 p1, .int .i64 p2, .int .i64 p3] 23))
  have LT_P1 : Hid (w.heap.size < w18.heap.size ∧ w.heap.size + 1 < w18.heap.size ∧ w.heap.size + 1 + 1 < w18.heap.size ∧ g13 < w18.heap.size ∧ g15 < w18.heap.size ∧ g17 < w18.heap.size ∧ w.heap.size ≤ w18.heap.size) := Lib.hid ⟨blk_lt BA.out, blk_lt BB.out, blk_lt BC.out, blk_lt S1.out, blk_lt S2.out, blk_lt T1.out, NN.out.size⟩
  replace NN := Lib.hid (Bgo NN.out HB.out)
  replace BA := Lib.hid (blk_next HB.out BA.out)
  replace BB := Lib.hid (blk_next HB.out BB.out)
  replace BC := Lib.hid (blk_next HB.out BC.out)
  replace S1 := Lib.hid (blk_next HB.out S1.out)
  replace S2 := Lib.hid (blk_next HB.out S2.out)
  replace T1 := Lib.hid (blk_next HB.out T1.out)
  clear HB
  have c_BB_0 := blk_cell BB.out 0 _ rfl
  have f_BB_0 := blk_frozen BB.out 0
  have c_BB_1 := blk_cell BB.out 1 _ rfl
  have f_BB_1 := blk_frozen BB.out 1
  have c_BB_2 := blk_cell BB.out 2 _ rfl
  have f_BB_2 := blk_frozen BB.out 2
  have l_BB := blk_lt BB.out
  have c_BA_0 := blk_cell BA.out 0 _ rfl
  have f_BA_0 := blk_frozen BA.out 0
  have c_BA_1 := blk_cell BA.out 1 _ rfl
  have f_BA_1 := blk_frozen BA.out 1
  have c_BA_2 := blk_cell BA.out 2 _ rfl
  have f_BA_2 := blk_frozen BA.out 2
  have l_BA := blk_lt BA.out
  go_wp2_with fail
  clear c_BB_0 f_BB_0 c_BB_1 f_BB_1 c_BB_2 f_BB_2 l_BB c_BA_0 f_BA_0 c_BA_1 f_BA_1 c_BA_2 f_BA_2 l_BA
  generalize w18.alloc (.cells #[.int .i64 p1, .int .i64 p2, .int .i64 p3] 23) = W19 at *
  generalize w18.heap.size = g19 at *
  refine (Cp'.out _).mono ?_
  rintro e w20 ⟨rfl, hb⟩
  replace NN := Lib.hid (Bgo NN.out hb)
  replace BA := Lib.hid (blk_next hb BA.out)
  replace BB := Lib.hid (blk_next hb BB.out)
  replace BC := Lib.hid (blk_next hb BC.out)
  replace S1 := Lib.hid (blk_next hb S1.out)
  replace S2 := Lib.hid (blk_next hb S2.out)
  replace T1 := Lib.hid (blk_next hb T1.out)
  replace P1 := Lib.hid (blk_next hb P1.out)
  clear hb
  have HB : Hid (Below w20.heap.size w20 (w20.alloc (.cells #[.int .i64 p1, .int .i64 p2, .int .i64 p3] 23))) := Lib.hid (Bal (Below.refl _ _) _)
  have P2 := Lib.hid (blk_new w20 (.cells #[.int .i64 p1, .int .i64 p2, .int .i64 p3] 23))
  have LT_P2 : Hid (w.heap.size < w20.heap.size ∧ w.heap.size + 1 < w20.heap.size ∧ w.heap.size + 1 + 1 < w20.heap.size ∧ g13 < w20.heap.size ∧ g15 < w20.heap.size ∧ g17 < w20.heap.size ∧ g19 < w20.heap.size ∧ w.heap.size ≤ w20.heap.size) := Lib.hid ⟨blk_lt BA.out, blk_lt BB.out, blk_lt BC.out, blk_lt S1.out, blk_lt S2.out, blk_lt T1.out, blk_lt P1.out, NN.out.size⟩
  replace NN := Lib.hid (Bgo NN.out HB.out)
  replace BA := Lib.hid (blk_next HB.out BA.out)
  replace BB := Lib.hid (blk_next HB.out BB.out)
  replace BC := Lib.hid (blk_next HB.out BC.out)
  replace S1 := Lib.hid (blk_next HB.out S1.out)
  replace S2 := Lib.hid (blk_next HB.out S2.out)
  replace T1 := Lib.hid (blk_next HB.out T1.out)
  replace P1 := Lib.hid (blk_next HB.out P1.out)
  clear HB
  have c_BB_0 := blk_cell BB.out 0 _ rfl
  have f_BB_0 := blk_frozen BB.out 0
  have c_BB_1 := blk_cell BB.out 1 _ rfl
  have f_BB_1 := blk_frozen BB.out 1
  have c_BB_2 := blk_cell BB.out 2 _ rfl
  have f_BB_2 := blk_frozen BB.out 2
  have l_BB := blk_lt BB.out
  have c_BC_0 := blk_cell BC.out 0 _ rfl
  have f_BC_0 := blk_frozen BC.out 0
  have c_BC_1 := blk_cell BC.out 1 _ rfl
  have f_BC_1 := blk_frozen BC.out 1
  have c_BC_2 := blk_cell BC.out 2 _ rfl
  have f_BC_2 := blk_frozen BC.out 2
  have l_BC := blk_lt BC.out
  go_wp2_with fail
  clear c_BB_0 f_BB_0 c_BB_1 f_BB_1 c_BB_2 f_BB_2 l_BB c_BC_0 f_BC_0 c_BC_1 f_BC_1 c_BC_2 f_BC_2 l_BC
  generalize w20.alloc (.cells #[.int .i64 p1, .int .i64 p2, .int .i64 p3] 23) = W21 at *
  generalize w20.heap.size = g21 at *
  refine (Cq.out _).mono ?_
  rintro e w22 ⟨rfl, hb⟩
  replace NN := Lib.hid (Bgo NN.out hb)
  replace BA := Lib.hid (blk_next hb BA.out)
  replace BB := Lib.hid (blk_next hb BB.out)
  replace BC := Lib.hid (blk_next hb BC.out)
  replace S1 := Lib.hid (blk_next hb S1.out)
  replace S2 := Lib.hid (blk_next hb S2.out)
  replace T1 := Lib.hid (blk_next hb T1.out)
  replace P1 := Lib.hid (blk_next hb P1.out)
  replace P2 := Lib.hid (blk_next hb P2.out)
  clear hb
  have HB : Hid (Below w22.heap.size w22 (w22.alloc (.cells #[.int .i64 q1, .int .i64 q2, .int .i64 q3] 23))) := Lib.hid (Bal (Below.refl _ _) _)
  have Q1 := Lib.hid (blk_new w22 (.cells #[.int .i64 q1, .int .i64 q2, .int .i64 q3] 23))
  have LT_Q1 : Hid (w.heap.size < w22.heap.size ∧ w.heap.size + 1 < w22.heap.size ∧ w.heap.size + 1 + 1 < w22.heap.size ∧ g13 < w22.heap.size ∧ g15 < w22.heap.size ∧ g17 < w22.heap.size ∧ g19 < w22.heap.size ∧ g21 < w22.heap.size ∧ w.heap.size ≤ w22.heap.size) := Lib.hid ⟨blk_lt BA.out, blk_lt BB.out, blk_lt BC.out, blk_lt S1.out, blk_lt S2.out, blk_lt T1.out, blk_lt P1.out, blk_lt P2.out, NN.out.size⟩
  replace NN := Lib.hid (Bgo NN.out HB.out)
  replace BA := Lib.hid (blk_next HB.out BA.out)
  replace BB := Lib.hid (blk_next HB.out BB.out)
  replace BC := Lib.hid (blk_next HB.out BC.out)
  replace S1 := Lib.hid (blk_next HB.out S1.out)
  replace S2 := Lib.hid (blk_next HB.out S2.out)
  replace T1 := Lib.hid (blk_next HB.out T1.out)
  replace P1 := Lib.hid (blk_next HB.out P1.out)
  replace P2 := Lib.hid (blk_next HB.out P2.out)
  clear HB
  have c_BA_0 := blk_cell BA.out 0 _ rfl
  have f_BA_0 := blk_frozen BA.out 0
  have c_BA_1 := blk_cell BA.out 1 _ rfl
  have f_BA_1 := blk_frozen BA.out 1
  have c_BA_2 := blk_cell BA.out 2 _ rfl
  have f_BA_2 := blk_frozen BA.out 2
  have l_BA := blk_lt BA.out
  have c_BC_0 := blk_cell BC.out 0 _ rfl
  have f_BC_0 := blk_frozen BC.out 0
  have c_BC_1 := blk_cell BC.out 1 _ rfl
  have f_BC_1 := blk_frozen BC.out 1
  have c_BC_2 := blk_cell BC.out 2 _ rfl
  have f_BC_2 := blk_frozen BC.out 2
  have l_BC := blk_lt BC.out
  go_wp2_with fail
  clear c_BA_0 f_BA_0 c_BA_1 f_BA_1 c_BA_2 f_BA_2 l_BA c_BC_0 f_BC_0 c_BC_1 f_BC_1 c_BC_2 f_BC_2 l_BC
  generalize w22.alloc (.cells #[.int .i64 q1, .int .i64 q2, .int .i64 q3] 23) = W23 at *
  generalize w22.heap.size = g23 at *
  refine (Cr.out _).mono ?_
  rintro e w24 ⟨rfl, hb⟩
  replace NN := Lib.hid (Bgo NN.out hb)
  replace BA := Lib.hid (blk_next hb BA.out)
  replace BB := Lib.hid (blk_next hb BB.out)
  replace BC := Lib.hid (blk_next hb BC.out)
  replace S1 := Lib.hid (blk_next hb S1.out)
  replace S2 := Lib.hid (blk_next hb S2.out)
  replace T1 := Lib.hid (blk_next hb T1.out)
  replace P1 := Lib.hid (blk_next hb P1.out)
  replace P2 := Lib.hid (blk_next hb P2.out)
  replace Q1 := Lib.hid (blk_next hb Q1.out)
  clear hb
  have HB : Hid (Below w24.heap.size w24 (w24.alloc (.cells #[.int .i64 r1, .int .i64 r2, .int .i64 r3] 23))) := Lib.hid (Bal (Below.refl _ _) _)
  have R1 := Lib.hid (blk_new w24 (.cells #[.int .i64 r1, .int .i64 r2, .int .i64 r3] 23))
  have LT_R1 : Hid (w.heap.size < w24.heap.size ∧ w.heap.size + 1 < w24.heap.size ∧ w.heap.size + 1 + 1 < w24.heap.size ∧ g13 < w24.heap.size ∧ g15 < w24.heap.size ∧ g17 < w24.heap.size ∧ g19 < w24.heap.size ∧ g21 < w24.heap.size ∧ g23 < w24.heap.size ∧ w.heap.size ≤ w24.heap.size) := Lib.hid ⟨blk_lt BA.out, blk_lt BB.out, blk_lt BC.out, blk_lt S1.out, blk_lt S2.out, blk_lt T1.out, blk_lt P1.out, blk_lt P2.out, blk_lt Q1.out, NN.out.size⟩
  replace NN := Lib.hid (Bgo NN.out HB.out)
  replace BA := Lib.hid (blk_next HB.out BA.out)
  replace BB := Lib.hid (blk_next HB.out BB.out)
  replace BC := Lib.hid (blk_next HB.out BC.out)
  replace S1 := Lib.hid (blk_next HB.out S1.out)
  replace S2 := Lib.hid (blk_next HB.out S2.out)
  replace T1 := Lib.hid (blk_next HB.out T1.out)
  replace P1 := Lib.hid (blk_next HB.out P1.out)
  replace P2 := Lib.hid (blk_next HB.out P2.out)
  replace Q1 := Lib.hid (blk_next HB.out Q1.out)
  clear HB
  by_cases zs : s4 = 0
  rotate_left
  · have zs' : (s4 == 0) = false := by rw [beq_eq_false_iff_ne]; exact zs
    clear zs
    by_cases zp : p4 = 0
    rotate_left
    · have zp' : (p4 == 0) = false := by rw [beq_eq_false_iff_ne]; exact zp
      clear zp
      have c_S1_0 := blk_cell S1.out 0 _ rfl
      have f_S1_0 := blk_frozen S1.out 0
      have c_S1_1 := blk_cell S1.out 1 _ rfl
      have f_S1_1 := blk_frozen S1.out 1
      have c_S1_2 := blk_cell S1.out 2 _ rfl
      have f_S1_2 := blk_frozen S1.out 2
      have l_S1 := blk_lt S1.out
      have c_S2_0 := blk_cell S2.out 0 _ rfl
      have f_S2_0 := blk_frozen S2.out 0
      have c_S2_1 := blk_cell S2.out 1 _ rfl
      have f_S2_1 := blk_frozen S2.out 1
      have c_S2_2 := blk_cell S2.out 2 _ rfl
      have f_S2_2 := blk_frozen S2.out 2
      have l_S2 := blk_lt S2.out
      have c_P1_0 := blk_cell P1.out 0 _ rfl
      have f_P1_0 := blk_frozen P1.out 0
      have c_P1_1 := blk_cell P1.out 1 _ rfl
      have f_P1_1 := blk_frozen P1.out 1
      have c_P1_2 := blk_cell P1.out 2 _ rfl
      have f_P1_2 := blk_frozen P1.out 2
      have l_P1 := blk_lt P1.out
      have c_P2_0 := blk_cell P2.out 0 _ rfl
      have f_P2_0 := blk_frozen P2.out 0
      have c_P2_1 := blk_cell P2.out 1 _ rfl
      have f_P2_1 := blk_frozen P2.out 1
      have c_P2_2 := blk_cell P2.out 2 _ rfl
      have f_P2_2 := blk_frozen P2.out 2
      have l_P2 := blk_lt P2.out
      go_wp2_with fail
      go_ret
      exact ⟨rfl, NN.out⟩
    subst zp
    by_cases zq : q4 = 0
    rotate_left
    · have zq' : (q4 == 0) = false := by rw [beq_eq_false_iff_ne]; exact zq
      clear zq
      by_cases zr : r4 = 0
      rotate_left
      · have zr' : (r4 == 0) = false := by rw [beq_eq_false_iff_ne]; exact zr
        clear zr
        have c_S1_0 := blk_cell S1.out 0 _ rfl
        have f_S1_0 := blk_frozen S1.out 0
        have c_S1_1 := blk_cell S1.out 1 _ rfl
        have f_S1_1 := blk_frozen S1.out 1
        have c_S1_2 := blk_cell S1.out 2 _ rfl
        have f_S1_2 := blk_frozen S1.out 2
        have l_S1 := blk_lt S1.out
        have c_S2_0 := blk_cell S2.out 0 _ rfl
        have f_S2_0 := blk_frozen S2.out 0
        have c_S2_1 := blk_cell S2.out 1 _ rfl
        have f_S2_1 := blk_frozen S2.out 1
        have c_S2_2 := blk_cell S2.out 2 _ rfl
        have f_S2_2 := blk_frozen S2.out 2
        have l_S2 := blk_lt S2.out
        have c_P1_0 := blk_cell P1.out 0 _ rfl
        have f_P1_0 := blk_frozen P1.out 0
        have c_P1_1 := blk_cell P1.out 1 _ rfl
        have f_P1_1 := blk_frozen P1.out 1
        have c_P1_2 := blk_cell P1.out 2 _ rfl
        have f_P1_2 := blk_frozen P1.out 2
        have l_P1 := blk_lt P1.out
        have c_P2_0 := blk_cell P2.out 0 _ rfl
        have f_P2_0 := blk_frozen P2.out 0
        have c_P2_1 := blk_cell P2.out 1 _ rfl
        have f_P2_1 := blk_frozen P2.out 1
        have c_P2_2 := blk_cell P2.out 2 _ rfl
        have f_P2_2 := blk_frozen P2.out 2
        have l_P2 := blk_lt P2.out
        go_wp2_with fail
        go_ret
        exact ⟨rfl, NN.out⟩
      subst zr
      by_cases zt : t4 = 0
      rotate_left
      · have zt' : (t4 == 0) = false := by rw [beq_eq_false_iff_ne]; exact zt
        clear zt
        have c_S1_0 := blk_cell S1.out 0 _ rfl
        have f_S1_0 := blk_frozen S1.out 0
        have c_S1_1 := blk_cell S1.out 1 _ rfl
        have f_S1_1 := blk_frozen S1.out 1
        have c_S1_2 := blk_cell S1.out 2 _ rfl
        have f_S1_2 := blk_frozen S1.out 2
        have l_S1 := blk_lt S1.out
        have c_S2_0 := blk_cell S2.out 0 _ rfl
        have f_S2_0 := blk_frozen S2.out 0
        have c_S2_1 := blk_cell S2.out 1 _ rfl
        have f_S2_1 := blk_frozen S2.out 1
        have c_S2_2 := blk_cell S2.out 2 _ rfl
        have f_S2_2 := blk_frozen S2.out 2
        have l_S2 := blk_lt S2.out
        have c_P1_0 := blk_cell P1.out 0 _ rfl
        have f_P1_0 := blk_frozen P1.out 0
        have c_P1_1 := blk_cell P1.out 1 _ rfl
        have f_P1_1 := blk_frozen P1.out 1
        have c_P1_2 := blk_cell P1.out 2 _ rfl
        have f_P1_2 := blk_frozen P1.out 2
        have l_P1 := blk_lt P1.out
        have c_P2_0 := blk_cell P2.out 0 _ rfl
        have f_P2_0 := blk_frozen P2.out 0
        have c_P2_1 := blk_cell P2.out 1 _ rfl
        have f_P2_1 := blk_frozen P2.out 1
        have c_P2_2 := blk_cell P2.out 2 _ rfl
        have f_P2_2 := blk_frozen P2.out 2
        have l_P2 := blk_lt P2.out
        go_wp2_with fail
        go_ret
        exact ⟨rfl, NN.out⟩
      subst zt
      have EQ := DI.out (by first | rfl | trivial) (by first | rfl | trivial) (by first | rfl | trivial)
      obtain ⟨⟨u1, u2, u3, u4⟩, hu⟩ : ∃ r, sumS p1 p2 p3 r1 r2 r3 = r := ⟨_, rfl⟩
      have hv := EQ.symm.trans hu
      have K1 := Lib.hid (fun W => add_calls _ _ _ _ _ _ _ _ _ _ hu W)
      have K2 := Lib.hid (fun W => mul_calls _ _ _ _ _ _ _ _ _ _ hv W)
      clear EQ hu hv
      have c_P1_0 := blk_cell P1.out 0 _ rfl
      have f_P1_0 := blk_frozen P1.out 0
      have c_P1_1 := blk_cell P1.out 1 _ rfl
      have f_P1_1 := blk_frozen P1.out 1
      have c_P1_2 := blk_cell P1.out 2 _ rfl
      have f_P1_2 := blk_frozen P1.out 2
      have l_P1 := blk_lt P1.out
      have c_R1_0 := blk_cell R1.out 0 _ rfl
      have f_R1_0 := blk_frozen R1.out 0
      have c_R1_1 := blk_cell R1.out 1 _ rfl
      have f_R1_1 := blk_frozen R1.out 1
      have c_R1_2 := blk_cell R1.out 2 _ rfl
      have f_R1_2 := blk_frozen R1.out 2
      have l_R1 := blk_lt R1.out
      have c_S1_0 := blk_cell S1.out 0 _ rfl
      have f_S1_0 := blk_frozen S1.out 0
      have c_S1_1 := blk_cell S1.out 1 _ rfl
      have f_S1_1 := blk_frozen S1.out 1
      have c_S1_2 := blk_cell S1.out 2 _ rfl
      have f_S1_2 := blk_frozen S1.out 2
      have l_S1 := blk_lt S1.out
      have c_S2_0 := blk_cell S2.out 0 _ rfl
      have f_S2_0 := blk_frozen S2.out 0
      have c_S2_1 := blk_cell S2.out 1 _ rfl
      have f_S2_1 := blk_frozen S2.out 1
      have c_S2_2 := blk_cell S2.out 2 _ rfl
      have f_S2_2 := blk_frozen S2.out 2
      have l_S2 := blk_lt S2.out
      have c_P2_0 := blk_cell P2.out 0 _ rfl
      have f_P2_0 := blk_frozen P2.out 0
      have c_P2_1 := blk_cell P2.out 1 _ rfl
      have f_P2_1 := blk_frozen P2.out 1
      have c_P2_2 := blk_cell P2.out 2 _ rfl
      have f_P2_2 := blk_frozen P2.out 2
      have l_P2 := blk_lt P2.out
      go_wp2_with fail
      clear c_P1_0 f_P1_0 c_P1_1 f_P1_1 c_P1_2 f_P1_2 l_P1 c_R1_0 f_R1_0 c_R1_1 f_R1_1 c_R1_2 f_R1_2 l_R1 c_S1_0 f_S1_0 c_S1_1 f_S1_1 c_S1_2 f_S1_2 l_S1 c_S2_0 f_S2_0 c_S2_1 f_S2_1 c_S2_2 f_S2_2 l_S2 c_P2_0 f_P2_0 c_P2_1 f_P2_1 c_P2_2 f_P2_2 l_P2
      refine (K1.out _).mono ?_
      rintro e w26 ⟨rfl, hb⟩
      replace NN := Lib.hid (Bgo NN.out hb)
      replace BA := Lib.hid (blk_next hb BA.out)
      replace BB := Lib.hid (blk_next hb BB.out)
      replace BC := Lib.hid (blk_next hb BC.out)
      replace S1 := Lib.hid (blk_next hb S1.out)
      replace S2 := Lib.hid (blk_next hb S2.out)
      replace T1 := Lib.hid (blk_next hb T1.out)
      replace P1 := Lib.hid (blk_next hb P1.out)
      replace P2 := Lib.hid (blk_next hb P2.out)
      replace Q1 := Lib.hid (blk_next hb Q1.out)
      replace R1 := Lib.hid (blk_next hb R1.out)
      clear hb
      have HB : Hid (Below w26.heap.size w26 (w26.alloc (.cells #[.int .i64 u1, .int .i64 u2, .int .i64 u3] 23))) := Lib.hid (Bal (Below.refl _ _) _)
      have Ua := Lib.hid (blk_new w26 (.cells #[.int .i64 u1, .int .i64 u2, .int .i64 u3] 23))
      have LT_Ua : Hid (w.heap.size < w26.heap.size ∧ w.heap.size + 1 < w26.heap.size ∧ w.heap.size + 1 + 1 < w26.heap.size ∧ g13 < w26.heap.size ∧ g15 < w26.heap.size ∧ g17 < w26.heap.size ∧ g19 < w26.heap.size ∧ g21 < w26.heap.size ∧ g23 < w26.heap.size ∧ w24.heap.size < w26.heap.size ∧ w.heap.size ≤ w26.heap.size) := Lib.hid ⟨blk_lt BA.out, blk_lt BB.out, blk_lt BC.out, blk_lt S1.out, blk_lt S2.out, blk_lt T1.out, blk_lt P1.out, blk_lt P2.out, blk_lt Q1.out, blk_lt R1.out, NN.out.size⟩
      replace NN := Lib.hid (Bgo NN.out HB.out)
      replace BA := Lib.hid (blk_next HB.out BA.out)
      replace BB := Lib.hid (blk_next HB.out BB.out)
      replace BC := Lib.hid (blk_next HB.out BC.out)
      replace S1 := Lib.hid (blk_next HB.out S1.out)
      replace S2 := Lib.hid (blk_next HB.out S2.out)
      replace T1 := Lib.hid (blk_next HB.out T1.out)
      replace P1 := Lib.hid (blk_next HB.out P1.out)
      replace P2 := Lib.hid (blk_next HB.out P2.out)
      replace Q1 := Lib.hid (blk_next HB.out Q1.out)
      replace R1 := Lib.hid (blk_next HB.out R1.out)
      clear HB
      have c_BA_0 := blk_cell BA.out 0 _ rfl
      have f_BA_0 := blk_frozen BA.out 0
      have c_BA_1 := blk_cell BA.out 1 _ rfl
      have f_BA_1 := blk_frozen BA.out 1
      have c_BA_2 := blk_cell BA.out 2 _ rfl
      have f_BA_2 := blk_frozen BA.out 2
      have l_BA := blk_lt BA.out
      have c_T1_0 := blk_cell T1.out 0 _ rfl
      have f_T1_0 := blk_frozen T1.out 0
      have c_T1_1 := blk_cell T1.out 1 _ rfl
      have f_T1_1 := blk_frozen T1.out 1
      have c_T1_2 := blk_cell T1.out 2 _ rfl
      have f_T1_2 := blk_frozen T1.out 2
      have l_T1 := blk_lt T1.out
      go_wp2_with fail
      clear c_BA_0 f_BA_0 c_BA_1 f_BA_1 c_BA_2 f_BA_2 l_BA c_T1_0 f_T1_0 c_T1_1 f_T1_1 c_T1_2 f_T1_2 l_T1
      generalize w26.alloc (.cells #[.int .i64 u1, .int .i64 u2, .int .i64 u3] 23) = W27 at *
      generalize w26.heap.size = g27 at *
      refine (K2.out _).mono ?_
      rintro e w28 ⟨rfl, hb⟩
      replace NN := Lib.hid (Bgo NN.out hb)
      replace BA := Lib.hid (blk_next hb BA.out)
      replace BB := Lib.hid (blk_next hb BB.out)
      replace BC := Lib.hid (blk_next hb BC.out)
      replace S1 := Lib.hid (blk_next hb S1.out)
      replace S2 := Lib.hid (blk_next hb S2.out)
      replace T1 := Lib.hid (blk_next hb T1.out)
      replace P1 := Lib.hid (blk_next hb P1.out)
      replace P2 := Lib.hid (blk_next hb P2.out)
      replace Q1 := Lib.hid (blk_next hb Q1.out)
      replace R1 := Lib.hid (blk_next hb R1.out)
      replace Ua := Lib.hid (blk_next hb Ua.out)
      clear hb
      have HB : Hid (Below w28.heap.size w28 (w28.alloc (.cells #[.int .i64 u1, .int .i64 u2, .int .i64 u3] 23))) := Lib.hid (Bal (Below.refl _ _) _)
      have Ub := Lib.hid (blk_new w28 (.cells #[.int .i64 u1, .int .i64 u2, .int .i64 u3] 23))
      have LT_Ub : Hid (w.heap.size < w28.heap.size ∧ w.heap.size + 1 < w28.heap.size ∧ w.heap.size + 1 + 1 < w28.heap.size ∧ g13 < w28.heap.size ∧ g15 < w28.heap.size ∧ g17 < w28.heap.size ∧ g19 < w28.heap.size ∧ g21 < w28.heap.size ∧ g23 < w28.heap.size ∧ w24.heap.size < w28.heap.size ∧ g27 < w28.heap.size ∧ w.heap.size ≤ w28.heap.size) := Lib.hid ⟨blk_lt BA.out, blk_lt BB.out, blk_lt BC.out, blk_lt S1.out, blk_lt S2.out, blk_lt T1.out, blk_lt P1.out, blk_lt P2.out, blk_lt Q1.out, blk_lt R1.out, blk_lt Ua.out, NN.out.size⟩
      replace NN := Lib.hid (Bgo NN.out HB.out)
      replace BA := Lib.hid (blk_next HB.out BA.out)
      replace BB := Lib.hid (blk_next HB.out BB.out)
      replace BC := Lib.hid (blk_next HB.out BC.out)
      replace S1 := Lib.hid (blk_next HB.out S1.out)
      replace S2 := Lib.hid (blk_next HB.out S2.out)
      replace T1 := Lib.hid (blk_next HB.out T1.out)
      replace P1 := Lib.hid (blk_next HB.out P1.out)
      replace P2 := Lib.hid (blk_next HB.out P2.out)
      replace Q1 := Lib.hid (blk_next HB.out Q1.out)
      replace R1 := Lib.hid (blk_next HB.out R1.out)
      replace Ua := Lib.hid (blk_next HB.out Ua.out)
      clear HB
      have c_Ua_0 := blk_cell Ua.out 0 _ rfl
      have f_Ua_0 := blk_frozen Ua.out 0
      have c_Ua_1 := blk_cell Ua.out 1 _ rfl
      have f_Ua_1 := blk_frozen Ua.out 1
      have c_Ua_2 := blk_cell Ua.out 2 _ rfl
      have f_Ua_2 := blk_frozen Ua.out 2
      have l_Ua := blk_lt Ua.out
      have c_Ub_0 := blk_cell Ub.out 0 _ rfl
      have c_Ub_1 := blk_cell Ub.out 1 _ rfl
      have c_Ub_2 := blk_cell Ub.out 2 _ rfl
      have l_Ub := blk_lt Ub.out
      go_wp2_with fail
      go_ret
      exact ⟨rfl, NN.out⟩
    subst zq
    have EQ := AM.out (by first | rfl | trivial) (by first | rfl | trivial)
    obtain ⟨⟨m1, m2, m3, m4⟩, hu⟩ : ∃ r, mulS p1 p2 p3 cr ci cd = r := ⟨_, rfl⟩
    have hv := EQ.symm.trans hu
    have K1 := Lib.hid (fun W => mul_calls _ _ _ _ _ _ _ _ _ _ hu W)
    have K2 := Lib.hid (fun W => mul_calls _ _ _ _ _ _ _ _ _ _ hv W)
    clear EQ hu hv
    have c_P1_0 := blk_cell P1.out 0 _ rfl
    have f_P1_0 := blk_frozen P1.out 0
    have c_P1_1 := blk_cell P1.out 1 _ rfl
    have f_P1_1 := blk_frozen P1.out 1
    have c_P1_2 := blk_cell P1.out 2 _ rfl
    have f_P1_2 := blk_frozen P1.out 2
    have l_P1 := blk_lt P1.out
    have c_BC_0 := blk_cell BC.out 0 _ rfl
    have f_BC_0 := blk_frozen BC.out 0
    have c_BC_1 := blk_cell BC.out 1 _ rfl
    have f_BC_1 := blk_frozen BC.out 1
    have c_BC_2 := blk_cell BC.out 2 _ rfl
    have f_BC_2 := blk_frozen BC.out 2
    have l_BC := blk_lt BC.out
    have c_S1_0 := blk_cell S1.out 0 _ rfl
    have f_S1_0 := blk_frozen S1.out 0
    have c_S1_1 := blk_cell S1.out 1 _ rfl
    have f_S1_1 := blk_frozen S1.out 1
    have c_S1_2 := blk_cell S1.out 2 _ rfl
    have f_S1_2 := blk_frozen S1.out 2
    have l_S1 := blk_lt S1.out
    have c_S2_0 := blk_cell S2.out 0 _ rfl
    have f_S2_0 := blk_frozen S2.out 0
    have c_S2_1 := blk_cell S2.out 1 _ rfl
    have f_S2_1 := blk_frozen S2.out 1
    have c_S2_2 := blk_cell S2.out 2 _ rfl
    have f_S2_2 := blk_frozen S2.out 2
    have l_S2 := blk_lt S2.out
    have c_P2_0 := blk_cell P2.out 0 _ rfl
    have f_P2_0 := blk_frozen P2.out 0
    have c_P2_1 := blk_cell P2.out 1 _ rfl
    have f_P2_1 := blk_frozen P2.out 1
    have c_P2_2 := blk_cell P2.out 2 _ rfl
    have f_P2_2 := blk_frozen P2.out 2
    have l_P2 := blk_lt P2.out
    go_wp2_with fail
    clear c_P1_0 f_P1_0 c_P1_1 f_P1_1 c_P1_2 f_P1_2 l_P1 c_BC_0 f_BC_0 c_BC_1 f_BC_1 c_BC_2 f_BC_2 l_BC c_S1_0 f_S1_0 c_S1_1 f_S1_1 c_S1_2 f_S1_2 l_S1 c_S2_0 f_S2_0 c_S2_1 f_S2_1 c_S2_2 f_S2_2 l_S2 c_P2_0 f_P2_0 c_P2_1 f_P2_1 c_P2_2 f_P2_2 l_P2
    refine (K1.out _).mono ?_
    rintro e w30 ⟨rfl, hb⟩
    replace NN := Lib.hid (Bgo NN.out hb)
    replace BA := Lib.hid (blk_next hb BA.out)
    replace BB := Lib.hid (blk_next hb BB.out)
    replace BC := Lib.hid (blk_next hb BC.out)
    replace S1 := Lib.hid (blk_next hb S1.out)
    replace S2 := Lib.hid (blk_next hb S2.out)
    replace T1 := Lib.hid (blk_next hb T1.out)
    replace P1 := Lib.hid (blk_next hb P1.out)
    replace P2 := Lib.hid (blk_next hb P2.out)
    replace Q1 := Lib.hid (blk_next hb Q1.out)
    replace R1 := Lib.hid (blk_next hb R1.out)
    clear hb
    have HB : Hid (Below w30.heap.size w30 (w30.alloc (.cells #[.int .i64 m1, .int .i64 m2, .int .i64 m3] 23))) := Lib.hid (Bal (Below.refl _ _) _)
    have Ma := Lib.hid (blk_new w30 (.cells #[.int .i64 m1, .int .i64 m2, .int .i64 m3] 23))
    have LT_Ma : Hid (w.heap.size < w30.heap.size ∧ w.heap.size + 1 < w30.heap.size ∧ w.heap.size + 1 + 1 < w30.heap.size ∧ g13 < w30.heap.size ∧ g15 < w30.heap.size ∧ g17 < w30.heap.size ∧ g19 < w30.heap.size ∧ g21 < w30.heap.size ∧ g23 < w30.heap.size ∧ w24.heap.size < w30.heap.size ∧ w.heap.size ≤ w30.heap.size) := Lib.hid ⟨blk_lt BA.out, blk_lt BB.out, blk_lt BC.out, blk_lt S1.out, blk_lt S2.out, blk_lt T1.out, blk_lt P1.out, blk_lt P2.out, blk_lt Q1.out, blk_lt R1.out, NN.out.size⟩
    replace NN := Lib.hid (Bgo NN.out HB.out)
    replace BA := Lib.hid (blk_next HB.out BA.out)
    replace BB := Lib.hid (blk_next HB.out BB.out)
    replace BC := Lib.hid (blk_next HB.out BC.out)
    replace S1 := Lib.hid (blk_next HB.out S1.out)
    replace S2 := Lib.hid (blk_next HB.out S2.out)
    replace T1 := Lib.hid (blk_next HB.out T1.out)
    replace P1 := Lib.hid (blk_next HB.out P1.out)
    replace P2 := Lib.hid (blk_next HB.out P2.out)
    replace Q1 := Lib.hid (blk_next HB.out Q1.out)
    replace R1 := Lib.hid (blk_next HB.out R1.out)
    clear HB
    have c_BA_0 := blk_cell BA.out 0 _ rfl
    have f_BA_0 := blk_frozen BA.out 0
    have c_BA_1 := blk_cell BA.out 1 _ rfl
    have f_BA_1 := blk_frozen BA.out 1
    have c_BA_2 := blk_cell BA.out 2 _ rfl
    have f_BA_2 := blk_frozen BA.out 2
    have l_BA := blk_lt BA.out
    have c_Q1_0 := blk_cell Q1.out 0 _ rfl
    have f_Q1_0 := blk_frozen Q1.out 0
    have c_Q1_1 := blk_cell Q1.out 1 _ rfl
    have f_Q1_1 := blk_frozen Q1.out 1
    have c_Q1_2 := blk_cell Q1.out 2 _ rfl
    have f_Q1_2 := blk_frozen Q1.out 2
    have l_Q1 := blk_lt Q1.out
    go_wp2_with fail
    clear c_BA_0 f_BA_0 c_BA_1 f_BA_1 c_BA_2 f_BA_2 l_BA c_Q1_0 f_Q1_0 c_Q1_1 f_Q1_1 c_Q1_2 f_Q1_2 l_Q1
    generalize w30.alloc (.cells #[.int .i64 m1, .int .i64 m2, .int .i64 m3] 23) = W31 at *
    generalize w30.heap.size = g31 at *
    refine (K2.out _).mono ?_
    rintro e w32 ⟨rfl, hb⟩
    replace NN := Lib.hid (Bgo NN.out hb)
    replace BA := Lib.hid (blk_next hb BA.out)
    replace BB := Lib.hid (blk_next hb BB.out)
    replace BC := Lib.hid (blk_next hb BC.out)
    replace S1 := Lib.hid (blk_next hb S1.out)
    replace S2 := Lib.hid (blk_next hb S2.out)
    replace T1 := Lib.hid (blk_next hb T1.out)
    replace P1 := Lib.hid (blk_next hb P1.out)
    replace P2 := Lib.hid (blk_next hb P2.out)
    replace Q1 := Lib.hid (blk_next hb Q1.out)
    replace R1 := Lib.hid (blk_next hb R1.out)
    replace Ma := Lib.hid (blk_next hb Ma.out)
    clear hb
    have HB : Hid (Below w32.heap.size w32 (w32.alloc (.cells #[.int .i64 m1, .int .i64 m2, .int .i64 m3] 23))) := Lib.hid (Bal (Below.refl _ _) _)
    have Mb := Lib.hid (blk_new w32 (.cells #[.int .i64 m1, .int .i64 m2, .int .i64 m3] 23))
    have LT_Mb : Hid (w.heap.size < w32.heap.size ∧ w.heap.size + 1 < w32.heap.size ∧ w.heap.size + 1 + 1 < w32.heap.size ∧ g13 < w32.heap.size ∧ g15 < w32.heap.size ∧ g17 < w32.heap.size ∧ g19 < w32.heap.size ∧ g21 < w32.heap.size ∧ g23 < w32.heap.size ∧ w24.heap.size < w32.heap.size ∧ g31 < w32.heap.size ∧ w.heap.size ≤ w32.heap.size) := Lib.hid ⟨blk_lt BA.out, blk_lt BB.out, blk_lt BC.out, blk_lt S1.out, blk_lt S2.out, blk_lt T1.out, blk_lt P1.out, blk_lt P2.out, blk_lt Q1.out, blk_lt R1.out, blk_lt Ma.out, NN.out.size⟩
    replace NN := Lib.hid (Bgo NN.out HB.out)
    replace BA := Lib.hid (blk_next HB.out BA.out)
    replace BB := Lib.hid (blk_next HB.out BB.out)
    replace BC := Lib.hid (blk_next HB.out BC.out)
    replace S1 := Lib.hid (blk_next HB.out S1.out)
    replace S2 := Lib.hid (blk_next HB.out S2.out)
    replace T1 := Lib.hid (blk_next HB.out T1.out)
    replace P1 := Lib.hid (blk_next HB.out P1.out)
    replace P2 := Lib.hid (blk_next HB.out P2.out)
    replace Q1 := Lib.hid (blk_next HB.out Q1.out)
    replace R1 := Lib.hid (blk_next HB.out R1.out)
    replace Ma := Lib.hid (blk_next HB.out Ma.out)
    clear HB
    clear K1 K2
    by_cases zr : r4 = 0
    rotate_left
    · have zr' : (r4 == 0) = false := by rw [beq_eq_false_iff_ne]; exact zr
      clear zr
      have c_Ma_0 := blk_cell Ma.out 0 _ rfl
      have f_Ma_0 := blk_frozen Ma.out 0
      have c_Ma_1 := blk_cell Ma.out 1 _ rfl
      have f_Ma_1 := blk_frozen Ma.out 1
      have c_Ma_2 := blk_cell Ma.out 2 _ rfl
      have f_Ma_2 := blk_frozen Ma.out 2
      have l_Ma := blk_lt Ma.out
      have c_Mb_0 := blk_cell Mb.out 0 _ rfl
      have f_Mb_0 := blk_frozen Mb.out 0
      have c_Mb_1 := blk_cell Mb.out 1 _ rfl
      have f_Mb_1 := blk_frozen Mb.out 1
      have c_Mb_2 := blk_cell Mb.out 2 _ rfl
      have f_Mb_2 := blk_frozen Mb.out 2
      have l_Mb := blk_lt Mb.out
      go_wp2_with fail
      go_ret
      exact ⟨rfl, NN.out⟩
    subst zr
    by_cases zt : t4 = 0
    rotate_left
    · have zt' : (t4 == 0) = false := by rw [beq_eq_false_iff_ne]; exact zt
      clear zt
      have c_Ma_0 := blk_cell Ma.out 0 _ rfl
      have f_Ma_0 := blk_frozen Ma.out 0
      have c_Ma_1 := blk_cell Ma.out 1 _ rfl
      have f_Ma_1 := blk_frozen Ma.out 1
      have c_Ma_2 := blk_cell Ma.out 2 _ rfl
      have f_Ma_2 := blk_frozen Ma.out 2
      have l_Ma := blk_lt Ma.out
      have c_Mb_0 := blk_cell Mb.out 0 _ rfl
      have f_Mb_0 := blk_frozen Mb.out 0
      have c_Mb_1 := blk_cell Mb.out 1 _ rfl
      have f_Mb_1 := blk_frozen Mb.out 1
      have c_Mb_2 := blk_cell Mb.out 2 _ rfl
      have f_Mb_2 := blk_frozen Mb.out 2
      have l_Mb := blk_lt Mb.out
      go_wp2_with fail
      go_ret
      exact ⟨rfl, NN.out⟩
    subst zt
    have EQ := DI.out (by first | rfl | trivial) (by first | rfl | trivial) (by first | rfl | trivial)
    obtain ⟨⟨u1, u2, u3, u4⟩, hu⟩ : ∃ r, sumS p1 p2 p3 r1 r2 r3 = r := ⟨_, rfl⟩
    have hv := EQ.symm.trans hu
    have K1 := Lib.hid (fun W => add_calls _ _ _ _ _ _ _ _ _ _ hu W)
    have K2 := Lib.hid (fun W => mul_calls _ _ _ _ _ _ _ _ _ _ hv W)
    clear EQ hu hv
    have c_P1_0 := blk_cell P1.out 0 _ rfl
    have f_P1_0 := blk_frozen P1.out 0
    have c_P1_1 := blk_cell P1.out 1 _ rfl
    have f_P1_1 := blk_frozen P1.out 1
    have c_P1_2 := blk_cell P1.out 2 _ rfl
    have f_P1_2 := blk_frozen P1.out 2
    have l_P1 := blk_lt P1.out
    have c_R1_0 := blk_cell R1.out 0 _ rfl
    have f_R1_0 := blk_frozen R1.out 0
    have c_R1_1 := blk_cell R1.out 1 _ rfl
    have f_R1_1 := blk_frozen R1.out 1
    have c_R1_2 := blk_cell R1.out 2 _ rfl
    have f_R1_2 := blk_frozen R1.out 2
    have l_R1 := blk_lt R1.out
    have c_Ma_0 := blk_cell Ma.out 0 _ rfl
    have f_Ma_0 := blk_frozen Ma.out 0
    have c_Ma_1 := blk_cell Ma.out 1 _ rfl
    have f_Ma_1 := blk_frozen Ma.out 1
    have c_Ma_2 := blk_cell Ma.out 2 _ rfl
    have f_Ma_2 := blk_frozen Ma.out 2
    have l_Ma := blk_lt Ma.out
    have c_Mb_0 := blk_cell Mb.out 0 _ rfl
    have f_Mb_0 := blk_frozen Mb.out 0
    have c_Mb_1 := blk_cell Mb.out 1 _ rfl
    have f_Mb_1 := blk_frozen Mb.out 1
    have c_Mb_2 := blk_cell Mb.out 2 _ rfl
    have f_Mb_2 := blk_frozen Mb.out 2
    have l_Mb := blk_lt Mb.out
    go_wp2_with fail
    clear c_P1_0 f_P1_0 c_P1_1 f_P1_1 c_P1_2 f_P1_2 l_P1 c_R1_0 f_R1_0 c_R1_1 f_R1_1 c_R1_2 f_R1_2 l_R1 c_Ma_0 f_Ma_0 c_Ma_1 f_Ma_1 c_Ma_2 f_Ma_2 l_Ma c_Mb_0 f_Mb_0 c_Mb_1 f_Mb_1 c_Mb_2 f_Mb_2 l_Mb
    refine (K1.out _).mono ?_
    rintro e w34 ⟨rfl, hb⟩
    replace NN := Lib.hid (Bgo NN.out hb)
    replace BA := Lib.hid (blk_next hb BA.out)
    replace BB := Lib.hid (blk_next hb BB.out)
    replace BC := Lib.hid (blk_next hb BC.out)
    replace S1 := Lib.hid (blk_next hb S1.out)
    replace S2 := Lib.hid (blk_next hb S2.out)
    replace T1 := Lib.hid (blk_next hb T1.out)
    replace P1 := Lib.hid (blk_next hb P1.out)
    replace P2 := Lib.hid (blk_next hb P2.out)
    replace Q1 := Lib.hid (blk_next hb Q1.out)
    replace R1 := Lib.hid (blk_next hb R1.out)
    replace Ma := Lib.hid (blk_next hb Ma.out)
    replace Mb := Lib.hid (blk_next hb Mb.out)
    clear hb
    have HB : Hid (Below w34.heap.size w34 (w34.alloc (.cells #[.int .i64 u1, .int .i64 u2, .int .i64 u3] 23))) := Lib.hid (Bal (Below.refl _ _) _)
    have Ua := Lib.hid (blk_new w34 (.cells #[.int .i64 u1, .int .i64 u2, .int .i64 u3] 23))
    have LT_Ua : Hid (w.heap.size < w34.heap.size ∧ w.heap.size + 1 < w34.heap.size ∧ w.heap.size + 1 + 1 < w34.heap.size ∧ g13 < w34.heap.size ∧ g15 < w34.heap.size ∧ g17 < w34.heap.size ∧ g19 < w34.heap.size ∧ g21 < w34.heap.size ∧ g23 < w34.heap.size ∧ w24.heap.size < w34.heap.size ∧ g31 < w34.heap.size ∧ w32.heap.size < w34.heap.size ∧ w.heap.size ≤ w34.heap.size) := Lib.hid ⟨blk_lt BA.out, blk_lt BB.out, blk_lt BC.out, blk_lt S1.out, blk_lt S2.out, blk_lt T1.out, blk_lt P1.out, blk_lt P2.out, blk_lt Q1.out, blk_lt R1.out, blk_lt Ma.out, blk_lt Mb.out, NN.out.size⟩
    replace NN := Lib.hid (Bgo NN.out HB.out)
    replace BA := Lib.hid (blk_next HB.out BA.out)
    replace BB := Lib.hid (blk_next HB.out BB.out)
    replace BC := Lib.hid (blk_next HB.out BC.out)
    replace S1 := Lib.hid (blk_next HB.out S1.out)
    replace S2 := Lib.hid (blk_next HB.out S2.out)
    replace T1 := Lib.hid (blk_next HB.out T1.out)
    replace P1 := Lib.hid (blk_next HB.out P1.out)
    replace P2 := Lib.hid (blk_next HB.out P2.out)
    replace Q1 := Lib.hid (blk_next HB.out Q1.out)
    replace R1 := Lib.hid (blk_next HB.out R1.out)
    replace Ma := Lib.hid (blk_next HB.out Ma.out)
    replace Mb := Lib.hid (blk_next HB.out Mb.out)
    clear HB
    have c_BA_0 := blk_cell BA.out 0 _ rfl
    have f_BA_0 := blk_frozen BA.out 0
    have c_BA_1 := blk_cell BA.out 1 _ rfl
    have f_BA_1 := blk_frozen BA.out 1
    have c_BA_2 := blk_cell BA.out 2 _ rfl
    have f_BA_2 := blk_frozen BA.out 2
    have l_BA := blk_lt BA.out
    have c_T1_0 := blk_cell T1.out 0 _ rfl
    have f_T1_0 := blk_frozen T1.out 0
    have c_T1_1 := blk_cell T1.out 1 _ rfl
    have f_T1_1 := blk_frozen T1.out 1
    have c_T1_2 := blk_cell T1.out 2 _ rfl
    have f_T1_2 := blk_frozen T1.out 2
    have l_T1 := blk_lt T1.out
    go_wp2_with fail
    clear c_BA_0 f_BA_0 c_BA_1 f_BA_1 c_BA_2 f_BA_2 l_BA c_T1_0 f_T1_0 c_T1_1 f_T1_1 c_T1_2 f_T1_2 l_T1
    generalize w34.alloc (.cells #[.int .i64 u1, .int .i64 u2, .int .i64 u3] 23) = W35 at *
    generalize w34.heap.size = g35 at *
    refine (K2.out _).mono ?_
    rintro e w36 ⟨rfl, hb⟩
    replace NN := Lib.hid (Bgo NN.out hb)
    replace BA := Lib.hid (blk_next hb BA.out)
    replace BB := Lib.hid (blk_next hb BB.out)
    replace BC := Lib.hid (blk_next hb BC.out)
    replace S1 := Lib.hid (blk_next hb S1.out)
    replace S2 := Lib.hid (blk_next hb S2.out)
    replace T1 := Lib.hid (blk_next hb T1.out)
    replace P1 := Lib.hid (blk_next hb P1.out)
    replace P2 := Lib.hid (blk_next hb P2.out)
    replace Q1 := Lib.hid (blk_next hb Q1.out)
    replace R1 := Lib.hid (blk_next hb R1.out)
    replace Ma := Lib.hid (blk_next hb Ma.out)
    replace Mb := Lib.hid (blk_next hb Mb.out)
    replace Ua := Lib.hid (blk_next hb Ua.out)
    clear hb
    have HB : Hid (Below w36.heap.size w36 (w36.alloc (.cells #[.int .i64 u1, .int .i64 u2, .int .i64 u3] 23))) := Lib.hid (Bal (Below.refl _ _) _)
    have Ub := Lib.hid (blk_new w36 (.cells #[.int .i64 u1, .int .i64 u2, .int .i64 u3] 23))
    have LT_Ub : Hid (w.heap.size < w36.heap.size ∧ w.heap.size + 1 < w36.heap.size ∧ w.heap.size + 1 + 1 < w36.heap.size ∧ g13 < w36.heap.size ∧ g15 < w36.heap.size ∧ g17 < w36.heap.size ∧ g19 < w36.heap.size ∧ g21 < w36.heap.size ∧ g23 < w36.heap.size ∧ w24.heap.size < w36.heap.size ∧ g31 < w36.heap.size ∧ w32.heap.size < w36.heap.size ∧ g35 < w36.heap.size ∧ w.heap.size ≤ w36.heap.size) := Lib.hid ⟨blk_lt BA.out, blk_lt BB.out, blk_lt BC.out, blk_lt S1.out, blk_lt S2.out, blk_lt T1.out, blk_lt P1.out, blk_lt P2.out, blk_lt Q1.out, blk_lt R1.out, blk_lt Ma.out, blk_lt Mb.out, blk_lt Ua.out, NN.out.size⟩
    replace NN := Lib.hid (Bgo NN.out HB.out)
    replace BA := Lib.hid (blk_next HB.out BA.out)
    replace BB := Lib.hid (blk_next HB.out BB.out)
    replace BC := Lib.hid (blk_next HB.out BC.out)
    replace S1 := Lib.hid (blk_next HB.out S1.out)
    replace S2 := Lib.hid (blk_next HB.out S2.out)
    replace T1 := Lib.hid (blk_next HB.out T1.out)
    replace P1 := Lib.hid (blk_next HB.out P1.out)
    replace P2 := Lib.hid (blk_next HB.out P2.out)
    replace Q1 := Lib.hid (blk_next HB.out Q1.out)
    replace R1 := Lib.hid (blk_next HB.out R1.out)
    replace Ma := Lib.hid (blk_next HB.out Ma.out)
    replace Mb := Lib.hid (blk_next HB.out Mb.out)
    replace Ua := Lib.hid (blk_next HB.out Ua.out)
    clear HB
    have c_Ua_0 := blk_cell Ua.out 0 _ rfl
    have f_Ua_0 := blk_frozen Ua.out 0
    have c_Ua_1 := blk_cell Ua.out 1 _ rfl
    have f_Ua_1 := blk_frozen Ua.out 1
    have c_Ua_2 := blk_cell Ua.out 2 _ rfl
    have f_Ua_2 := blk_frozen Ua.out 2
    have l_Ua := blk_lt Ua.out
    have c_Ub_0 := blk_cell Ub.out 0 _ rfl
    have c_Ub_1 := blk_cell Ub.out 1 _ rfl
    have c_Ub_2 := blk_cell Ub.out 2 _ rfl
    have l_Ub := blk_lt Ub.out
    go_wp2_with fail
    go_ret
    exact ⟨rfl, NN.out⟩
  subst zs
  by_cases zt : t4 = 0
  rotate_left
  · have zt' : (t4 == 0) = false := by rw [beq_eq_false_iff_ne]; exact zt
    clear zt
    by_cases zp : p4 = 0
    rotate_left
    · have zp' : (p4 == 0) = false := by rw [beq_eq_false_iff_ne]; exact zp
      clear zp
      have c_S1_0 := blk_cell S1.out 0 _ rfl
      have f_S1_0 := blk_frozen S1.out 0
      have c_S1_1 := blk_cell S1.out 1 _ rfl
      have f_S1_1 := blk_frozen S1.out 1
      have c_S1_2 := blk_cell S1.out 2 _ rfl
      have f_S1_2 := blk_frozen S1.out 2
      have l_S1 := blk_lt S1.out
      have c_S2_0 := blk_cell S2.out 0 _ rfl
      have f_S2_0 := blk_frozen S2.out 0
      have c_S2_1 := blk_cell S2.out 1 _ rfl
      have f_S2_1 := blk_frozen S2.out 1
      have c_S2_2 := blk_cell S2.out 2 _ rfl
      have f_S2_2 := blk_frozen S2.out 2
      have l_S2 := blk_lt S2.out
      have c_P1_0 := blk_cell P1.out 0 _ rfl
      have f_P1_0 := blk_frozen P1.out 0
      have c_P1_1 := blk_cell P1.out 1 _ rfl
      have f_P1_1 := blk_frozen P1.out 1
      have c_P1_2 := blk_cell P1.out 2 _ rfl
      have f_P1_2 := blk_frozen P1.out 2
      have l_P1 := blk_lt P1.out
      have c_P2_0 := blk_cell P2.out 0 _ rfl
      have f_P2_0 := blk_frozen P2.out 0
      have c_P2_1 := blk_cell P2.out 1 _ rfl
      have f_P2_1 := blk_frozen P2.out 1
      have c_P2_2 := blk_cell P2.out 2 _ rfl
      have f_P2_2 := blk_frozen P2.out 2
      have l_P2 := blk_lt P2.out
      go_wp2_with fail
      go_ret
      exact ⟨rfl, NN.out⟩
    subst zp
    by_cases zq : q4 = 0
    rotate_left
    · have zq' : (q4 == 0) = false := by rw [beq_eq_false_iff_ne]; exact zq
      clear zq
      by_cases zr : r4 = 0
      · subst zr
        have c_S1_0 := blk_cell S1.out 0 _ rfl
        have f_S1_0 := blk_frozen S1.out 0
        have c_S1_1 := blk_cell S1.out 1 _ rfl
        have f_S1_1 := blk_frozen S1.out 1
        have c_S1_2 := blk_cell S1.out 2 _ rfl
        have f_S1_2 := blk_frozen S1.out 2
        have l_S1 := blk_lt S1.out
        have c_S2_0 := blk_cell S2.out 0 _ rfl
        have f_S2_0 := blk_frozen S2.out 0
        have c_S2_1 := blk_cell S2.out 1 _ rfl
        have f_S2_1 := blk_frozen S2.out 1
        have c_S2_2 := blk_cell S2.out 2 _ rfl
        have f_S2_2 := blk_frozen S2.out 2
        have l_S2 := blk_lt S2.out
        have c_P1_0 := blk_cell P1.out 0 _ rfl
        have f_P1_0 := blk_frozen P1.out 0
        have c_P1_1 := blk_cell P1.out 1 _ rfl
        have f_P1_1 := blk_frozen P1.out 1
        have c_P1_2 := blk_cell P1.out 2 _ rfl
        have f_P1_2 := blk_frozen P1.out 2
        have l_P1 := blk_lt P1.out
        have c_P2_0 := blk_cell P2.out 0 _ rfl
        have f_P2_0 := blk_frozen P2.out 0
        have c_P2_1 := blk_cell P2.out 1 _ rfl
        have f_P2_1 := blk_frozen P2.out 1
        have c_P2_2 := blk_cell P2.out 2 _ rfl
        have f_P2_2 := blk_frozen P2.out 2
        have l_P2 := blk_lt P2.out
        go_wp2_with fail
        go_ret
        exact ⟨rfl, NN.out⟩
      · have zr' : (r4 == 0) = false := by rw [beq_eq_false_iff_ne]; exact zr
        clear zr
        have c_S1_0 := blk_cell S1.out 0 _ rfl
        have f_S1_0 := blk_frozen S1.out 0
        have c_S1_1 := blk_cell S1.out 1 _ rfl
        have f_S1_1 := blk_frozen S1.out 1
        have c_S1_2 := blk_cell S1.out 2 _ rfl
        have f_S1_2 := blk_frozen S1.out 2
        have l_S1 := blk_lt S1.out
        have c_S2_0 := blk_cell S2.out 0 _ rfl
        have f_S2_0 := blk_frozen S2.out 0
        have c_S2_1 := blk_cell S2.out 1 _ rfl
        have f_S2_1 := blk_frozen S2.out 1
        have c_S2_2 := blk_cell S2.out 2 _ rfl
        have f_S2_2 := blk_frozen S2.out 2
        have l_S2 := blk_lt S2.out
        have c_P1_0 := blk_cell P1.out 0 _ rfl
        have f_P1_0 := blk_frozen P1.out 0
        have c_P1_1 := blk_cell P1.out 1 _ rfl
        have f_P1_1 := blk_frozen P1.out 1
        have c_P1_2 := blk_cell P1.out 2 _ rfl
        have f_P1_2 := blk_frozen P1.out 2
        have l_P1 := blk_lt P1.out
        have c_P2_0 := blk_cell P2.out 0 _ rfl
        have f_P2_0 := blk_frozen P2.out 0
        have c_P2_1 := blk_cell P2.out 1 _ rfl
        have f_P2_1 := blk_frozen P2.out 1
        have c_P2_2 := blk_cell P2.out 2 _ rfl
        have f_P2_2 := blk_frozen P2.out 2
        have l_P2 := blk_lt P2.out
        go_wp2_with fail
        go_ret
        exact ⟨rfl, NN.out⟩
    subst zq
    have EQ := AM.out (by first | rfl | trivial) (by first | rfl | trivial)
    obtain ⟨⟨m1, m2, m3, m4⟩, hu⟩ : ∃ r, mulS p1 p2 p3 cr ci cd = r := ⟨_, rfl⟩
    have hv := EQ.symm.trans hu
    have K1 := Lib.hid (fun W => mul_calls _ _ _ _ _ _ _ _ _ _ hu W)
    have K2 := Lib.hid (fun W => mul_calls _ _ _ _ _ _ _ _ _ _ hv W)
    clear EQ hu hv
    have c_P1_0 := blk_cell P1.out 0 _ rfl
    have f_P1_0 := blk_frozen P1.out 0
    have c_P1_1 := blk_cell P1.out 1 _ rfl
    have f_P1_1 := blk_frozen P1.out 1
    have c_P1_2 := blk_cell P1.out 2 _ rfl
    have f_P1_2 := blk_frozen P1.out 2
    have l_P1 := blk_lt P1.out
    have c_BC_0 := blk_cell BC.out 0 _ rfl
    have f_BC_0 := blk_frozen BC.out 0
    have c_BC_1 := blk_cell BC.out 1 _ rfl
    have f_BC_1 := blk_frozen BC.out 1
    have c_BC_2 := blk_cell BC.out 2 _ rfl
    have f_BC_2 := blk_frozen BC.out 2
    have l_BC := blk_lt BC.out
    have c_S1_0 := blk_cell S1.out 0 _ rfl
    have f_S1_0 := blk_frozen S1.out 0
    have c_S1_1 := blk_cell S1.out 1 _ rfl
    have f_S1_1 := blk_frozen S1.out 1
    have c_S1_2 := blk_cell S1.out 2 _ rfl
    have f_S1_2 := blk_frozen S1.out 2
    have l_S1 := blk_lt S1.out
    have c_S2_0 := blk_cell S2.out 0 _ rfl
    have f_S2_0 := blk_frozen S2.out 0
    have c_S2_1 := blk_cell S2.out 1 _ rfl
    have f_S2_1 := blk_frozen S2.out 1
    have c_S2_2 := blk_cell S2.out 2 _ rfl
    have f_S2_2 := blk_frozen S2.out 2
    have l_S2 := blk_lt S2.out
    have c_P2_0 := blk_cell P2.out 0 _ rfl
    have f_P2_0 := blk_frozen P2.out 0
    have c_P2_1 := blk_cell P2.out 1 _ rfl
    have f_P2_1 := blk_frozen P2.out 1
    have c_P2_2 := blk_cell P2.out 2 _ rfl
    have f_P2_2 := blk_frozen P2.out 2
    have l_P2 := blk_lt P2.out
    go_wp2_with fail
    clear c_P1_0 f_P1_0 c_P1_1 f_P1_1 c_P1_2 f_P1_2 l_P1 c_BC_0 f_BC_0 c_BC_1 f_BC_1 c_BC_2 f_BC_2 l_BC c_S1_0 f_S1_0 c_S1_1 f_S1_1 c_S1_2 f_S1_2 l_S1 c_S2_0 f_S2_0 c_S2_1 f_S2_1 c_S2_2 f_S2_2 l_S2 c_P2_0 f_P2_0 c_P2_1 f_P2_1 c_P2_2 f_P2_2 l_P2
    refine (K1.out _).mono ?_
    rintro e w38 ⟨rfl, hb⟩
    replace NN := Lib.hid (Bgo NN.out hb)
    replace BA := Lib.hid (blk_next hb BA.out)
    replace BB := Lib.hid (blk_next hb BB.out)
    replace BC := Lib.hid (blk_next hb BC.out)
    replace S1 := Lib.hid (blk_next hb S1.out)
    replace S2 := Lib.hid (blk_next hb S2.out)
    replace T1 := Lib.hid (blk_next hb T1.out)
    replace P1 := Lib.hid (blk_next hb P1.out)
    replace P2 := Lib.hid (blk_next hb P2.out)
    replace Q1 := Lib.hid (blk_next hb Q1.out)
    replace R1 := Lib.hid (blk_next hb R1.out)
    clear hb
    have HB : Hid (Below w38.heap.size w38 (w38.alloc (.cells #[.int .i64 m1, .int .i64 m2, .int .i64 m3] 23))) := Lib.hid (Bal (Below.refl _ _) _)
    have Ma := Lib.hid (blk_new w38 (.cells #[.int .i64 m1, .int .i64 m2, .int .i64 m3] 23))
    have LT_Ma : Hid (w.heap.size < w38.heap.size ∧ w.heap.size + 1 < w38.heap.size ∧ w.heap.size + 1 + 1 < w38.heap.size ∧ g13 < w38.heap.size ∧ g15 < w38.heap.size ∧ g17 < w38.heap.size ∧ g19 < w38.heap.size ∧ g21 < w38.heap.size ∧ g23 < w38.heap.size ∧ w24.heap.size < w38.heap.size ∧ w.heap.size ≤ w38.heap.size) := Lib.hid ⟨blk_lt BA.out, blk_lt BB.out, blk_lt BC.out, blk_lt S1.out, blk_lt S2.out, blk_lt T1.out, blk_lt P1.out, blk_lt P2.out, blk_lt Q1.out, blk_lt R1.out, NN.out.size⟩
    replace NN := Lib.hid (Bgo NN.out HB.out)
    replace BA := Lib.hid (blk_next HB.out BA.out)
    replace BB := Lib.hid (blk_next HB.out BB.out)
    replace BC := Lib.hid (blk_next HB.out BC.out)
    replace S1 := Lib.hid (blk_next HB.out S1.out)
    replace S2 := Lib.hid (blk_next HB.out S2.out)
    replace T1 := Lib.hid (blk_next HB.out T1.out)
    replace P1 := Lib.hid (blk_next HB.out P1.out)
    replace P2 := Lib.hid (blk_next HB.out P2.out)
    replace Q1 := Lib.hid (blk_next HB.out Q1.out)
    replace R1 := Lib.hid (blk_next HB.out R1.out)
    clear HB
    have c_BA_0 := blk_cell BA.out 0 _ rfl
    have f_BA_0 := blk_frozen BA.out 0
    have c_BA_1 := blk_cell BA.out 1 _ rfl
    have f_BA_1 := blk_frozen BA.out 1
    have c_BA_2 := blk_cell BA.out 2 _ rfl
    have f_BA_2 := blk_frozen BA.out 2
    have l_BA := blk_lt BA.out
    have c_Q1_0 := blk_cell Q1.out 0 _ rfl
    have f_Q1_0 := blk_frozen Q1.out 0
    have c_Q1_1 := blk_cell Q1.out 1 _ rfl
    have f_Q1_1 := blk_frozen Q1.out 1
    have c_Q1_2 := blk_cell Q1.out 2 _ rfl
    have f_Q1_2 := blk_frozen Q1.out 2
    have l_Q1 := blk_lt Q1.out
    go_wp2_with fail
    clear c_BA_0 f_BA_0 c_BA_1 f_BA_1 c_BA_2 f_BA_2 l_BA c_Q1_0 f_Q1_0 c_Q1_1 f_Q1_1 c_Q1_2 f_Q1_2 l_Q1
    generalize w38.alloc (.cells #[.int .i64 m1, .int .i64 m2, .int .i64 m3] 23) = W39 at *
    generalize w38.heap.size = g39 at *
    refine (K2.out _).mono ?_
    rintro e w40 ⟨rfl, hb⟩
    replace NN := Lib.hid (Bgo NN.out hb)
    replace BA := Lib.hid (blk_next hb BA.out)
    replace BB := Lib.hid (blk_next hb BB.out)
    replace BC := Lib.hid (blk_next hb BC.out)
    replace S1 := Lib.hid (blk_next hb S1.out)
    replace S2 := Lib.hid (blk_next hb S2.out)
    replace T1 := Lib.hid (blk_next hb T1.out)
    replace P1 := Lib.hid (blk_next hb P1.out)
    replace P2 := Lib.hid (blk_next hb P2.out)
    replace Q1 := Lib.hid (blk_next hb Q1.out)
    replace R1 := Lib.hid (blk_next hb R1.out)
    replace Ma := Lib.hid (blk_next hb Ma.out)
    clear hb
    have HB : Hid (Below w40.heap.size w40 (w40.alloc (.cells #[.int .i64 m1, .int .i64 m2, .int .i64 m3] 23))) := Lib.hid (Bal (Below.refl _ _) _)
    have Mb := Lib.hid (blk_new w40 (.cells #[.int .i64 m1, .int .i64 m2, .int .i64 m3] 23))
    have LT_Mb : Hid (w.heap.size < w40.heap.size ∧ w.heap.size + 1 < w40.heap.size ∧ w.heap.size + 1 + 1 < w40.heap.size ∧ g13 < w40.heap.size ∧ g15 < w40.heap.size ∧ g17 < w40.heap.size ∧ g19 < w40.heap.size ∧ g21 < w40.heap.size ∧ g23 < w40.heap.size ∧ w24.heap.size < w40.heap.size ∧ g39 < w40.heap.size ∧ w.heap.size ≤ w40.heap.size) := Lib.hid ⟨blk_lt BA.out, blk_lt BB.out, blk_lt BC.out, blk_lt S1.out, blk_lt S2.out, blk_lt T1.out, blk_lt P1.out, blk_lt P2.out, blk_lt Q1.out, blk_lt R1.out, blk_lt Ma.out, NN.out.size⟩
    replace NN := Lib.hid (Bgo NN.out HB.out)
    replace BA := Lib.hid (blk_next HB.out BA.out)
    replace BB := Lib.hid (blk_next HB.out BB.out)
    replace BC := Lib.hid (blk_next HB.out BC.out)
    replace S1 := Lib.hid (blk_next HB.out S1.out)
    replace S2 := Lib.hid (blk_next HB.out S2.out)
    replace T1 := Lib.hid (blk_next HB.out T1.out)
    replace P1 := Lib.hid (blk_next HB.out P1.out)
    replace P2 := Lib.hid (blk_next HB.out P2.out)
    replace Q1 := Lib.hid (blk_next HB.out Q1.out)
    replace R1 := Lib.hid (blk_next HB.out R1.out)
    replace Ma := Lib.hid (blk_next HB.out Ma.out)
    clear HB
    clear K1 K2
    by_cases zr : r4 = 0
    · subst zr
      have c_Ma_0 := blk_cell Ma.out 0 _ rfl
      have f_Ma_0 := blk_frozen Ma.out 0
      have c_Ma_1 := blk_cell Ma.out 1 _ rfl
      have f_Ma_1 := blk_frozen Ma.out 1
      have c_Ma_2 := blk_cell Ma.out 2 _ rfl
      have f_Ma_2 := blk_frozen Ma.out 2
      have l_Ma := blk_lt Ma.out
      have c_Mb_0 := blk_cell Mb.out 0 _ rfl
      have f_Mb_0 := blk_frozen Mb.out 0
      have c_Mb_1 := blk_cell Mb.out 1 _ rfl
      have f_Mb_1 := blk_frozen Mb.out 1
      have c_Mb_2 := blk_cell Mb.out 2 _ rfl
      have f_Mb_2 := blk_frozen Mb.out 2
      have l_Mb := blk_lt Mb.out
      go_wp2_with fail
      go_ret
      exact ⟨rfl, NN.out⟩
    · have zr' : (r4 == 0) = false := by rw [beq_eq_false_iff_ne]; exact zr
      clear zr
      have c_Ma_0 := blk_cell Ma.out 0 _ rfl
      have f_Ma_0 := blk_frozen Ma.out 0
      have c_Ma_1 := blk_cell Ma.out 1 _ rfl
      have f_Ma_1 := blk_frozen Ma.out 1
      have c_Ma_2 := blk_cell Ma.out 2 _ rfl
      have f_Ma_2 := blk_frozen Ma.out 2
      have l_Ma := blk_lt Ma.out
      have c_Mb_0 := blk_cell Mb.out 0 _ rfl
      have f_Mb_0 := blk_frozen Mb.out 0
      have c_Mb_1 := blk_cell Mb.out 1 _ rfl
      have f_Mb_1 := blk_frozen Mb.out 1
      have c_Mb_2 := blk_cell Mb.out 2 _ rfl
      have f_Mb_2 := blk_frozen Mb.out 2
      have l_Mb := blk_lt Mb.out
      go_wp2_with fail
      go_ret
      exact ⟨rfl, NN.out⟩
  subst zt
  have EQ := AS.out (by first | rfl | trivial) (by first | rfl | trivial)
  obtain ⟨⟨n1, n2, n3, n4⟩, hu⟩ : ∃ r, sumS s1 s2 s3 cr ci cd = r := ⟨_, rfl⟩
  have hv := EQ.symm.trans hu
  have K1 := Lib.hid (fun W => add_calls _ _ _ _ _ _ _ _ _ _ hu W)
  have K2 := Lib.hid (fun W => add_calls _ _ _ _ _ _ _ _ _ _ hv W)
  clear EQ hu hv
  have c_S1_0 := blk_cell S1.out 0 _ rfl
  have f_S1_0 := blk_frozen S1.out 0
  have c_S1_1 := blk_cell S1.out 1 _ rfl
  have f_S1_1 := blk_frozen S1.out 1
  have c_S1_2 := blk_cell S1.out 2 _ rfl
  have f_S1_2 := blk_frozen S1.out 2
  have l_S1 := blk_lt S1.out
  have c_BC_0 := blk_cell BC.out 0 _ rfl
  have f_BC_0 := blk_frozen BC.out 0
  have c_BC_1 := blk_cell BC.out 1 _ rfl
  have f_BC_1 := blk_frozen BC.out 1
  have c_BC_2 := blk_cell BC.out 2 _ rfl
  have f_BC_2 := blk_frozen BC.out 2
  have l_BC := blk_lt BC.out
  have c_S2_0 := blk_cell S2.out 0 _ rfl
  have f_S2_0 := blk_frozen S2.out 0
  have c_S2_1 := blk_cell S2.out 1 _ rfl
  have f_S2_1 := blk_frozen S2.out 1
  have c_S2_2 := blk_cell S2.out 2 _ rfl
  have f_S2_2 := blk_frozen S2.out 2
  have l_S2 := blk_lt S2.out
  have c_P1_0 := blk_cell P1.out 0 _ rfl
  have f_P1_0 := blk_frozen P1.out 0
  have c_P1_1 := blk_cell P1.out 1 _ rfl
  have f_P1_1 := blk_frozen P1.out 1
  have c_P1_2 := blk_cell P1.out 2 _ rfl
  have f_P1_2 := blk_frozen P1.out 2
  have l_P1 := blk_lt P1.out
  have c_P2_0 := blk_cell P2.out 0 _ rfl
  have f_P2_0 := blk_frozen P2.out 0
  have c_P2_1 := blk_cell P2.out 1 _ rfl
  have f_P2_1 := blk_frozen P2.out 1
  have c_P2_2 := blk_cell P2.out 2 _ rfl
  have f_P2_2 := blk_frozen P2.out 2
  have l_P2 := blk_lt P2.out
  go_wp2_with fail
  clear c_S1_0 f_S1_0 c_S1_1 f_S1_1 c_S1_2 f_S1_2 l_S1 c_BC_0 f_BC_0 c_BC_1 f_BC_1 c_BC_2 f_BC_2 l_BC c_S2_0 f_S2_0 c_S2_1 f_S2_1 c_S2_2 f_S2_2 l_S2 c_P1_0 f_P1_0 c_P1_1 f_P1_1 c_P1_2 f_P1_2 l_P1 c_P2_0 f_P2_0 c_P2_1 f_P2_1 c_P2_2 f_P2_2 l_P2
  refine (K1.out _).mono ?_
  rintro e w42 ⟨rfl, hb⟩
  replace NN := Lib.hid (Bgo NN.out hb)
  replace BA := Lib.hid (blk_next hb BA.out)
  replace BB := Lib.hid (blk_next hb BB.out)
  replace BC := Lib.hid (blk_next hb BC.out)
  replace S1 := Lib.hid (blk_next hb S1.out)
  replace S2 := Lib.hid (blk_next hb S2.out)
  replace T1 := Lib.hid (blk_next hb T1.out)
  replace P1 := Lib.hid (blk_next hb P1.out)
  replace P2 := Lib.hid (blk_next hb P2.out)
  replace Q1 := Lib.hid (blk_next hb Q1.out)
  replace R1 := Lib.hid (blk_next hb R1.out)
  clear hb
  have HB : Hid (Below w42.heap.size w42 (w42.alloc (.cells #[.int .i64 n1, .int .i64 n2, .int .i64 n3] 23))) := Lib.hid (Bal (Below.refl _ _) _)
  have Na := Lib.hid (blk_new w42 (.cells #[.int .i64 n1, .int .i64 n2, .int .i64 n3] 23))
  have LT_Na : Hid (w.heap.size < w42.heap.size ∧ w.heap.size + 1 < w42.heap.size ∧ w.heap.size + 1 + 1 < w42.heap.size ∧ g13 < w42.heap.size ∧ g15 < w42.heap.size ∧ g17 < w42.heap.size ∧ g19 < w42.heap.size ∧ g21 < w42.heap.size ∧ g23 < w42.heap.size ∧ w24.heap.size < w42.heap.size ∧ w.heap.size ≤ w42.heap.size) := Lib.hid ⟨blk_lt BA.out, blk_lt BB.out, blk_lt BC.out, blk_lt S1.out, blk_lt S2.out, blk_lt T1.out, blk_lt P1.out, blk_lt P2.out, blk_lt Q1.out, blk_lt R1.out, NN.out.size⟩
  replace NN := Lib.hid (Bgo NN.out HB.out)
  replace BA := Lib.hid (blk_next HB.out BA.out)
  replace BB := Lib.hid (blk_next HB.out BB.out)
  replace BC := Lib.hid (blk_next HB.out BC.out)
  replace S1 := Lib.hid (blk_next HB.out S1.out)
  replace S2 := Lib.hid (blk_next HB.out S2.out)
  replace T1 := Lib.hid (blk_next HB.out T1.out)
  replace P1 := Lib.hid (blk_next HB.out P1.out)
  replace P2 := Lib.hid (blk_next HB.out P2.out)
  replace Q1 := Lib.hid (blk_next HB.out Q1.out)
  replace R1 := Lib.hid (blk_next HB.out R1.out)
  clear HB
  have c_BA_0 := blk_cell BA.out 0 _ rfl
  have f_BA_0 := blk_frozen BA.out 0
  have c_BA_1 := blk_cell BA.out 1 _ rfl
  have f_BA_1 := blk_frozen BA.out 1
  have c_BA_2 := blk_cell BA.out 2 _ rfl
  have f_BA_2 := blk_frozen BA.out 2
  have l_BA := blk_lt BA.out
  have c_T1_0 := blk_cell T1.out 0 _ rfl
  have f_T1_0 := blk_frozen T1.out 0
  have c_T1_1 := blk_cell T1.out 1 _ rfl
  have f_T1_1 := blk_frozen T1.out 1
  have c_T1_2 := blk_cell T1.out 2 _ rfl
  have f_T1_2 := blk_frozen T1.out 2
  have l_T1 := blk_lt T1.out
  go_wp2_with fail
  clear c_BA_0 f_BA_0 c_BA_1 f_BA_1 c_BA_2 f_BA_2 l_BA c_T1_0 f_T1_0 c_T1_1 f_T1_1 c_T1_2 f_T1_2 l_T1
  generalize w42.alloc (.cells #[.int .i64 n1, .int .i64 n2, .int .i64 n3] 23) = W43 at *
  generalize w42.heap.size = g43 at *
  refine (K2.out _).mono ?_
  rintro e w44 ⟨rfl, hb⟩
  replace NN := Lib.hid (Bgo NN.out hb)
  replace BA := Lib.hid (blk_next hb BA.out)
  replace BB := Lib.hid (blk_next hb BB.out)
  replace BC := Lib.hid (blk_next hb BC.out)
  replace S1 := Lib.hid (blk_next hb S1.out)
  replace S2 := Lib.hid (blk_next hb S2.out)
  replace T1 := Lib.hid (blk_next hb T1.out)
  replace P1 := Lib.hid (blk_next hb P1.out)
  replace P2 := Lib.hid (blk_next hb P2.out)
  replace Q1 := Lib.hid (blk_next hb Q1.out)
  replace R1 := Lib.hid (blk_next hb R1.out)
  replace Na := Lib.hid (blk_next hb Na.out)
  clear hb
  have HB : Hid (Below w44.heap.size w44 (w44.alloc (.cells #[.int .i64 n1, .int .i64 n2, .int .i64 n3] 23))) := Lib.hid (Bal (Below.refl _ _) _)
  have Nb := Lib.hid (blk_new w44 (.cells #[.int .i64 n1, .int .i64 n2, .int .i64 n3] 23))
  have LT_Nb : Hid (w.heap.size < w44.heap.size ∧ w.heap.size + 1 < w44.heap.size ∧ w.heap.size + 1 + 1 < w44.heap.size ∧ g13 < w44.heap.size ∧ g15 < w44.heap.size ∧ g17 < w44.heap.size ∧ g19 < w44.heap.size ∧ g21 < w44.heap.size ∧ g23 < w44.heap.size ∧ w24.heap.size < w44.heap.size ∧ g43 < w44.heap.size ∧ w.heap.size ≤ w44.heap.size) := Lib.hid ⟨blk_lt BA.out, blk_lt BB.out, blk_lt BC.out, blk_lt S1.out, blk_lt S2.out, blk_lt T1.out, blk_lt P1.out, blk_lt P2.out, blk_lt Q1.out, blk_lt R1.out, blk_lt Na.out, NN.out.size⟩
  replace NN := Lib.hid (Bgo NN.out HB.out)
  replace BA := Lib.hid (blk_next HB.out BA.out)
  replace BB := Lib.hid (blk_next HB.out BB.out)
  replace BC := Lib.hid (blk_next HB.out BC.out)
  replace S1 := Lib.hid (blk_next HB.out S1.out)
  replace S2 := Lib.hid (blk_next HB.out S2.out)
  replace T1 := Lib.hid (blk_next HB.out T1.out)
  replace P1 := Lib.hid (blk_next HB.out P1.out)
  replace P2 := Lib.hid (blk_next HB.out P2.out)
  replace Q1 := Lib.hid (blk_next HB.out Q1.out)
  replace R1 := Lib.hid (blk_next HB.out R1.out)
  replace Na := Lib.hid (blk_next HB.out Na.out)
  clear HB
  clear K1 K2
  by_cases zp : p4 = 0
  rotate_left
  · have zp' : (p4 == 0) = false := by rw [beq_eq_false_iff_ne]; exact zp
    clear zp
    have c_Na_0 := blk_cell Na.out 0 _ rfl
    have f_Na_0 := blk_frozen Na.out 0
    have c_Na_1 := blk_cell Na.out 1 _ rfl
    have f_Na_1 := blk_frozen Na.out 1
    have c_Na_2 := blk_cell Na.out 2 _ rfl
    have f_Na_2 := blk_frozen Na.out 2
    have l_Na := blk_lt Na.out
    have c_Nb_0 := blk_cell Nb.out 0 _ rfl
    have f_Nb_0 := blk_frozen Nb.out 0
    have c_Nb_1 := blk_cell Nb.out 1 _ rfl
    have f_Nb_1 := blk_frozen Nb.out 1
    have c_Nb_2 := blk_cell Nb.out 2 _ rfl
    have f_Nb_2 := blk_frozen Nb.out 2
    have l_Nb := blk_lt Nb.out
    go_wp2_with fail
    go_ret
    exact ⟨rfl, NN.out⟩
  subst zp
  by_cases zq : q4 = 0
  rotate_left
  · have zq' : (q4 == 0) = false := by rw [beq_eq_false_iff_ne]; exact zq
    clear zq
    by_cases zr : r4 = 0
    rotate_left
    · have zr' : (r4 == 0) = false := by rw [beq_eq_false_iff_ne]; exact zr
      clear zr
      have c_Na_0 := blk_cell Na.out 0 _ rfl
      have f_Na_0 := blk_frozen Na.out 0
      have c_Na_1 := blk_cell Na.out 1 _ rfl
      have f_Na_1 := blk_frozen Na.out 1
      have c_Na_2 := blk_cell Na.out 2 _ rfl
      have f_Na_2 := blk_frozen Na.out 2
      have l_Na := blk_lt Na.out
      have c_Nb_0 := blk_cell Nb.out 0 _ rfl
      have f_Nb_0 := blk_frozen Nb.out 0
      have c_Nb_1 := blk_cell Nb.out 1 _ rfl
      have f_Nb_1 := blk_frozen Nb.out 1
      have c_Nb_2 := blk_cell Nb.out 2 _ rfl
      have f_Nb_2 := blk_frozen Nb.out 2
      have l_Nb := blk_lt Nb.out
      go_wp2_with fail
      go_ret
      exact ⟨rfl, NN.out⟩
    subst zr
    have EQ := DI.out (by first | rfl | trivial) (by first | rfl | trivial) (by first | rfl | trivial)
    obtain ⟨⟨u1, u2, u3, u4⟩, hu⟩ : ∃ r, sumS p1 p2 p3 r1 r2 r3 = r := ⟨_, rfl⟩
    have hv := EQ.symm.trans hu
    have K1 := Lib.hid (fun W => add_calls _ _ _ _ _ _ _ _ _ _ hu W)
    have K2 := Lib.hid (fun W => mul_calls _ _ _ _ _ _ _ _ _ _ hv W)
    clear EQ hu hv
    have c_P1_0 := blk_cell P1.out 0 _ rfl
    have f_P1_0 := blk_frozen P1.out 0
    have c_P1_1 := blk_cell P1.out 1 _ rfl
    have f_P1_1 := blk_frozen P1.out 1
    have c_P1_2 := blk_cell P1.out 2 _ rfl
    have f_P1_2 := blk_frozen P1.out 2
    have l_P1 := blk_lt P1.out
    have c_R1_0 := blk_cell R1.out 0 _ rfl
    have f_R1_0 := blk_frozen R1.out 0
    have c_R1_1 := blk_cell R1.out 1 _ rfl
    have f_R1_1 := blk_frozen R1.out 1
    have c_R1_2 := blk_cell R1.out 2 _ rfl
    have f_R1_2 := blk_frozen R1.out 2
    have l_R1 := blk_lt R1.out
    have c_Na_0 := blk_cell Na.out 0 _ rfl
    have f_Na_0 := blk_frozen Na.out 0
    have c_Na_1 := blk_cell Na.out 1 _ rfl
    have f_Na_1 := blk_frozen Na.out 1
    have c_Na_2 := blk_cell Na.out 2 _ rfl
    have f_Na_2 := blk_frozen Na.out 2
    have l_Na := blk_lt Na.out
    have c_Nb_0 := blk_cell Nb.out 0 _ rfl
    have f_Nb_0 := blk_frozen Nb.out 0
    have c_Nb_1 := blk_cell Nb.out 1 _ rfl
    have f_Nb_1 := blk_frozen Nb.out 1
    have c_Nb_2 := blk_cell Nb.out 2 _ rfl
    have f_Nb_2 := blk_frozen Nb.out 2
    have l_Nb := blk_lt Nb.out
    go_wp2_with fail
    clear c_P1_0 f_P1_0 c_P1_1 f_P1_1 c_P1_2 f_P1_2 l_P1 c_R1_0 f_R1_0 c_R1_1 f_R1_1 c_R1_2 f_R1_2 l_R1 c_Na_0 f_Na_0 c_Na_1 f_Na_1 c_Na_2 f_Na_2 l_Na c_Nb_0 f_Nb_0 c_Nb_1 f_Nb_1 c_Nb_2 f_Nb_2 l_Nb
    refine (K1.out _).mono ?_
    rintro e w46 ⟨rfl, hb⟩
    replace NN := Lib.hid (Bgo NN.out hb)
    replace BA := Lib.hid (blk_next hb BA.out)
    replace BB := Lib.hid (blk_next hb BB.out)
    replace BC := Lib.hid (blk_next hb BC.out)
    replace S1 := Lib.hid (blk_next hb S1.out)
    replace S2 := Lib.hid (blk_next hb S2.out)
    replace T1 := Lib.hid (blk_next hb T1.out)
    replace P1 := Lib.hid (blk_next hb P1.out)
    replace P2 := Lib.hid (blk_next hb P2.out)
    replace Q1 := Lib.hid (blk_next hb Q1.out)
    replace R1 := Lib.hid (blk_next hb R1.out)
    replace Na := Lib.hid (blk_next hb Na.out)
    replace Nb := Lib.hid (blk_next hb Nb.out)
    clear hb
    have HB : Hid (Below w46.heap.size w46 (w46.alloc (.cells #[.int .i64 u1, .int .i64 u2, .int .i64 u3] 23))) := Lib.hid (Bal (Below.refl _ _) _)
    have Ua := Lib.hid (blk_new w46 (.cells #[.int .i64 u1, .int .i64 u2, .int .i64 u3] 23))
    have LT_Ua : Hid (w.heap.size < w46.heap.size ∧ w.heap.size + 1 < w46.heap.size ∧ w.heap.size + 1 + 1 < w46.heap.size ∧ g13 < w46.heap.size ∧ g15 < w46.heap.size ∧ g17 < w46.heap.size ∧ g19 < w46.heap.size ∧ g21 < w46.heap.size ∧ g23 < w46.heap.size ∧ w24.heap.size < w46.heap.size ∧ g43 < w46.heap.size ∧ w44.heap.size < w46.heap.size ∧ w.heap.size ≤ w46.heap.size) := Lib.hid ⟨blk_lt BA.out, blk_lt BB.out, blk_lt BC.out, blk_lt S1.out, blk_lt S2.out, blk_lt T1.out, blk_lt P1.out, blk_lt P2.out, blk_lt Q1.out, blk_lt R1.out, blk_lt Na.out, blk_lt Nb.out, NN.out.size⟩
    replace NN := Lib.hid (Bgo NN.out HB.out)
    replace BA := Lib.hid (blk_next HB.out BA.out)
    replace BB := Lib.hid (blk_next HB.out BB.out)
    replace BC := Lib.hid (blk_next HB.out BC.out)
    replace S1 := Lib.hid (blk_next HB.out S1.out)
    replace S2 := Lib.hid (blk_next HB.out S2.out)
    replace T1 := Lib.hid (blk_next HB.out T1.out)
    replace P1 := Lib.hid (blk_next HB.out P1.out)
    replace P2 := Lib.hid (blk_next HB.out P2.out)
    replace Q1 := Lib.hid (blk_next HB.out Q1.out)
    replace R1 := Lib.hid (blk_next HB.out R1.out)
    replace Na := Lib.hid (blk_next HB.out Na.out)
    replace Nb := Lib.hid (blk_next HB.out Nb.out)
    clear HB
    have c_BA_0 := blk_cell BA.out 0 _ rfl
    have f_BA_0 := blk_frozen BA.out 0
    have c_BA_1 := blk_cell BA.out 1 _ rfl
    have f_BA_1 := blk_frozen BA.out 1
    have c_BA_2 := blk_cell BA.out 2 _ rfl
    have f_BA_2 := blk_frozen BA.out 2
    have l_BA := blk_lt BA.out
    have c_T1_0 := blk_cell T1.out 0 _ rfl
    have f_T1_0 := blk_frozen T1.out 0
    have c_T1_1 := blk_cell T1.out 1 _ rfl
    have f_T1_1 := blk_frozen T1.out 1
    have c_T1_2 := blk_cell T1.out 2 _ rfl
    have f_T1_2 := blk_frozen T1.out 2
    have l_T1 := blk_lt T1.out
    go_wp2_with fail
    clear c_BA_0 f_BA_0 c_BA_1 f_BA_1 c_BA_2 f_BA_2 l_BA c_T1_0 f_T1_0 c_T1_1 f_T1_1 c_T1_2 f_T1_2 l_T1
    generalize w46.alloc (.cells #[.int .i64 u1, .int .i64 u2, .int .i64 u3] 23) = W47 at *
    generalize w46.heap.size = g47 at *
    refine (K2.out _).mono ?_
    rintro e w48 ⟨rfl, hb⟩
    replace NN := Lib.hid (Bgo NN.out hb)
    replace BA := Lib.hid (blk_next hb BA.out)
    replace BB := Lib.hid (blk_next hb BB.out)
    replace BC := Lib.hid (blk_next hb BC.out)
    replace S1 := Lib.hid (blk_next hb S1.out)
    replace S2 := Lib.hid (blk_next hb S2.out)
    replace T1 := Lib.hid (blk_next hb T1.out)
    replace P1 := Lib.hid (blk_next hb P1.out)
    replace P2 := Lib.hid (blk_next hb P2.out)
    replace Q1 := Lib.hid (blk_next hb Q1.out)
    replace R1 := Lib.hid (blk_next hb R1.out)
    replace Na := Lib.hid (blk_next hb Na.out)
    replace Nb := Lib.hid (blk_next hb Nb.out)
    replace Ua := Lib.hid (blk_next hb Ua.out)
    clear hb
    have HB : Hid (Below w48.heap.size w48 (w48.alloc (.cells #[.int .i64 u1, .int .i64 u2, .int .i64 u3] 23))) := Lib.hid (Bal (Below.refl _ _) _)
    have Ub := Lib.hid (blk_new w48 (.cells #[.int .i64 u1, .int .i64 u2, .int .i64 u3] 23))
    have LT_Ub : Hid (w.heap.size < w48.heap.size ∧ w.heap.size + 1 < w48.heap.size ∧ w.heap.size + 1 + 1 < w48.heap.size ∧ g13 < w48.heap.size ∧ g15 < w48.heap.size ∧ g17 < w48.heap.size ∧ g19 < w48.heap.size ∧ g21 < w48.heap.size ∧ g23 < w48.heap.size ∧ w24.heap.size < w48.heap.size ∧ g43 < w48.heap.size ∧ w44.heap.size < w48.heap.size ∧ g47 < w48.heap.size ∧ w.heap.size ≤ w48.heap.size) := Lib.hid ⟨blk_lt BA.out, blk_lt BB.out, blk_lt BC.out, blk_lt S1.out, blk_lt S2.out, blk_lt T1.out, blk_lt P1.out, blk_lt P2.out, blk_lt Q1.out, blk_lt R1.out, blk_lt Na.out, blk_lt Nb.out, blk_lt Ua.out, NN.out.size⟩
    replace NN := Lib.hid (Bgo NN.out HB.out)
    replace BA := Lib.hid (blk_next HB.out BA.out)
    replace BB := Lib.hid (blk_next HB.out BB.out)
    replace BC := Lib.hid (blk_next HB.out BC.out)
    replace S1 := Lib.hid (blk_next HB.out S1.out)
    replace S2 := Lib.hid (blk_next HB.out S2.out)
    replace T1 := Lib.hid (blk_next HB.out T1.out)
    replace P1 := Lib.hid (blk_next HB.out P1.out)
    replace P2 := Lib.hid (blk_next HB.out P2.out)
    replace Q1 := Lib.hid (blk_next HB.out Q1.out)
    replace R1 := Lib.hid (blk_next HB.out R1.out)
    replace Na := Lib.hid (blk_next HB.out Na.out)
    replace Nb := Lib.hid (blk_next HB.out Nb.out)
    replace Ua := Lib.hid (blk_next HB.out Ua.out)
    clear HB
    have c_Ua_0 := blk_cell Ua.out 0 _ rfl
    have f_Ua_0 := blk_frozen Ua.out 0
    have c_Ua_1 := blk_cell Ua.out 1 _ rfl
    have f_Ua_1 := blk_frozen Ua.out 1
    have c_Ua_2 := blk_cell Ua.out 2 _ rfl
    have f_Ua_2 := blk_frozen Ua.out 2
    have l_Ua := blk_lt Ua.out
    have c_Ub_0 := blk_cell Ub.out 0 _ rfl
    have c_Ub_1 := blk_cell Ub.out 1 _ rfl
    have c_Ub_2 := blk_cell Ub.out 2 _ rfl
    have l_Ub := blk_lt Ub.out
    go_wp2_with fail
    go_ret
    exact ⟨rfl, NN.out⟩
  subst zq
  have EQ := AM.out (by first | rfl | trivial) (by first | rfl | trivial)
  obtain ⟨⟨m1, m2, m3, m4⟩, hu⟩ : ∃ r, mulS p1 p2 p3 cr ci cd = r := ⟨_, rfl⟩
  have hv := EQ.symm.trans hu
  have K1 := Lib.hid (fun W => mul_calls _ _ _ _ _ _ _ _ _ _ hu W)
  have K2 := Lib.hid (fun W => mul_calls _ _ _ _ _ _ _ _ _ _ hv W)
  clear EQ hu hv
  have c_P1_0 := blk_cell P1.out 0 _ rfl
  have f_P1_0 := blk_frozen P1.out 0
  have c_P1_1 := blk_cell P1.out 1 _ rfl
  have f_P1_1 := blk_frozen P1.out 1
  have c_P1_2 := blk_cell P1.out 2 _ rfl
  have f_P1_2 := blk_frozen P1.out 2
  have l_P1 := blk_lt P1.out
  have c_BC_0 := blk_cell BC.out 0 _ rfl
  have f_BC_0 := blk_frozen BC.out 0
  have c_BC_1 := blk_cell BC.out 1 _ rfl
  have f_BC_1 := blk_frozen BC.out 1
  have c_BC_2 := blk_cell BC.out 2 _ rfl
  have f_BC_2 := blk_frozen BC.out 2
  have l_BC := blk_lt BC.out
  have c_Na_0 := blk_cell Na.out 0 _ rfl
  have f_Na_0 := blk_frozen Na.out 0
  have c_Na_1 := blk_cell Na.out 1 _ rfl
  have f_Na_1 := blk_frozen Na.out 1
  have c_Na_2 := blk_cell Na.out 2 _ rfl
  have f_Na_2 := blk_frozen Na.out 2
  have l_Na := blk_lt Na.out
  have c_Nb_0 := blk_cell Nb.out 0 _ rfl
  have f_Nb_0 := blk_frozen Nb.out 0
  have c_Nb_1 := blk_cell Nb.out 1 _ rfl
  have f_Nb_1 := blk_frozen Nb.out 1
  have c_Nb_2 := blk_cell Nb.out 2 _ rfl
  have f_Nb_2 := blk_frozen Nb.out 2
  have l_Nb := blk_lt Nb.out
  go_wp2_with fail
  clear c_P1_0 f_P1_0 c_P1_1 f_P1_1 c_P1_2 f_P1_2 l_P1 c_BC_0 f_BC_0 c_BC_1 f_BC_1 c_BC_2 f_BC_2 l_BC c_Na_0 f_Na_0 c_Na_1 f_Na_1 c_Na_2 f_Na_2 l_Na c_Nb_0 f_Nb_0 c_Nb_1 f_Nb_1 c_Nb_2 f_Nb_2 l_Nb
  refine (K1.out _).mono ?_
  rintro e w50 ⟨rfl, hb⟩
  replace NN := Lib.hid (Bgo NN.out hb)
  replace BA := Lib.hid (blk_next hb BA.out)
  replace BB := Lib.hid (blk_next hb BB.out)
  replace BC := Lib.hid (blk_next hb BC.out)
  replace S1 := Lib.hid (blk_next hb S1.out)
  replace S2 := Lib.hid (blk_next hb S2.out)
  replace T1 := Lib.hid (blk_next hb T1.out)
  replace P1 := Lib.hid (blk_next hb P1.out)
  replace P2 := Lib.hid (blk_next hb P2.out)
  replace Q1 := Lib.hid (blk_next hb Q1.out)
  replace R1 := Lib.hid (blk_next hb R1.out)
  replace Na := Lib.hid (blk_next hb Na.out)
  replace Nb := Lib.hid (blk_next hb Nb.out)
  clear hb
  have HB : Hid (Below w50.heap.size w50 (w50.alloc (.cells #[.int .i64 m1, .int .i64 m2, .int .i64 m3] 23))) := Lib.hid (Bal (Below.refl _ _) _)
  have Ma := Lib.hid (blk_new w50 (.cells #[.int .i64 m1, .int .i64 m2, .int .i64 m3] 23))
  have LT_Ma : Hid (w.heap.size < w50.heap.size ∧ w.heap.size + 1 < w50.heap.size ∧ w.heap.size + 1 + 1 < w50.heap.size ∧ g13 < w50.heap.size ∧ g15 < w50.heap.size ∧ g17 < w50.heap.size ∧ g19 < w50.heap.size ∧ g21 < w50.heap.size ∧ g23 < w50.heap.size ∧ w24.heap.size < w50.heap.size ∧ g43 < w50.heap.size ∧ w44.heap.size < w50.heap.size ∧ w.heap.size ≤ w50.heap.size) := Lib.hid ⟨blk_lt BA.out, blk_lt BB.out, blk_lt BC.out, blk_lt S1.out, blk_lt S2.out, blk_lt T1.out, blk_lt P1.out, blk_lt P2.out, blk_lt Q1.out, blk_lt R1.out, blk_lt Na.out, blk_lt Nb.out, NN.out.size⟩
  replace NN := Lib.hid (Bgo NN.out HB.out)
  replace BA := Lib.hid (blk_next HB.out BA.out)
  replace BB := Lib.hid (blk_next HB.out BB.out)
  replace BC := Lib.hid (blk_next HB.out BC.out)
  replace S1 := Lib.hid (blk_next HB.out S1.out)
  replace S2 := Lib.hid (blk_next HB.out S2.out)
  replace T1 := Lib.hid (blk_next HB.out T1.out)
  replace P1 := Lib.hid (blk_next HB.out P1.out)
  replace P2 := Lib.hid (blk_next HB.out P2.out)
  replace Q1 := Lib.hid (blk_next HB.out Q1.out)
  replace R1 := Lib.hid (blk_next HB.out R1.out)
  replace Na := Lib.hid (blk_next HB.out Na.out)
  replace Nb := Lib.hid (blk_next HB.out Nb.out)
  clear HB
  have c_BA_0 := blk_cell BA.out 0 _ rfl
  have f_BA_0 := blk_frozen BA.out 0
  have c_BA_1 := blk_cell BA.out 1 _ rfl
  have f_BA_1 := blk_frozen BA.out 1
  have c_BA_2 := blk_cell BA.out 2 _ rfl
  have f_BA_2 := blk_frozen BA.out 2
  have l_BA := blk_lt BA.out
  have c_Q1_0 := blk_cell Q1.out 0 _ rfl
  have f_Q1_0 := blk_frozen Q1.out 0
  have c_Q1_1 := blk_cell Q1.out 1 _ rfl
  have f_Q1_1 := blk_frozen Q1.out 1
  have c_Q1_2 := blk_cell Q1.out 2 _ rfl
  have f_Q1_2 := blk_frozen Q1.out 2
  have l_Q1 := blk_lt Q1.out
  go_wp2_with fail
  clear c_BA_0 f_BA_0 c_BA_1 f_BA_1 c_BA_2 f_BA_2 l_BA c_Q1_0 f_Q1_0 c_Q1_1 f_Q1_1 c_Q1_2 f_Q1_2 l_Q1
  generalize w50.alloc (.cells #[.int .i64 m1, .int .i64 m2, .int .i64 m3] 23) = W51 at *
  generalize w50.heap.size = g51 at *
  refine (K2.out _).mono ?_
  rintro e w52 ⟨rfl, hb⟩
  replace NN := Lib.hid (Bgo NN.out hb)
  replace BA := Lib.hid (blk_next hb BA.out)
  replace BB := Lib.hid (blk_next hb BB.out)
  replace BC := Lib.hid (blk_next hb BC.out)
  replace S1 := Lib.hid (blk_next hb S1.out)
  replace S2 := Lib.hid (blk_next hb S2.out)
  replace T1 := Lib.hid (blk_next hb T1.out)
  replace P1 := Lib.hid (blk_next hb P1.out)
  replace P2 := Lib.hid (blk_next hb P2.out)
  replace Q1 := Lib.hid (blk_next hb Q1.out)
  replace R1 := Lib.hid (blk_next hb R1.out)
  replace Na := Lib.hid (blk_next hb Na.out)
  replace Nb := Lib.hid (blk_next hb Nb.out)
  replace Ma := Lib.hid (blk_next hb Ma.out)
  clear hb
  have HB : Hid (Below w52.heap.size w52 (w52.alloc (.cells #[.int .i64 m1, .int .i64 m2, .int .i64 m3] 23))) := Lib.hid (Bal (Below.refl _ _) _)
  have Mb := Lib.hid (blk_new w52 (.cells #[.int .i64 m1, .int .i64 m2, .int .i64 m3] 23))
  have LT_Mb : Hid (w.heap.size < w52.heap.size ∧ w.heap.size + 1 < w52.heap.size ∧ w.heap.size + 1 + 1 < w52.heap.size ∧ g13 < w52.heap.size ∧ g15 < w52.heap.size ∧ g17 < w52.heap.size ∧ g19 < w52.heap.size ∧ g21 < w52.heap.size ∧ g23 < w52.heap.size ∧ w24.heap.size < w52.heap.size ∧ g43 < w52.heap.size ∧ w44.heap.size < w52.heap.size ∧ g51 < w52.heap.size ∧ w.heap.size ≤ w52.heap.size) := Lib.hid ⟨blk_lt BA.out, blk_lt BB.out, blk_lt BC.out, blk_lt S1.out, blk_lt S2.out, blk_lt T1.out, blk_lt P1.out, blk_lt P2.out, blk_lt Q1.out, blk_lt R1.out, blk_lt Na.out, blk_lt Nb.out, blk_lt Ma.out, NN.out.size⟩
  replace NN := Lib.hid (Bgo NN.out HB.out)
  replace BA := Lib.hid (blk_next HB.out BA.out)
  replace BB := Lib.hid (blk_next HB.out BB.out)
  replace BC := Lib.hid (blk_next HB.out BC.out)
  replace S1 := Lib.hid (blk_next HB.out S1.out)
  replace S2 := Lib.hid (blk_next HB.out S2.out)
  replace T1 := Lib.hid (blk_next HB.out T1.out)
  replace P1 := Lib.hid (blk_next HB.out P1.out)
  replace P2 := Lib.hid (blk_next HB.out P2.out)
  replace Q1 := Lib.hid (blk_next HB.out Q1.out)
  replace R1 := Lib.hid (blk_next HB.out R1.out)
  replace Na := Lib.hid (blk_next HB.out Na.out)
  replace Nb := Lib.hid (blk_next HB.out Nb.out)
  replace Ma := Lib.hid (blk_next HB.out Ma.out)
  clear HB
  clear K1 K2
  by_cases zr : r4 = 0
  rotate_left
  · have zr' : (r4 == 0) = false := by rw [beq_eq_false_iff_ne]; exact zr
    clear zr
    have c_Ma_0 := blk_cell Ma.out 0 _ rfl
    have f_Ma_0 := blk_frozen Ma.out 0
    have c_Ma_1 := blk_cell Ma.out 1 _ rfl
    have f_Ma_1 := blk_frozen Ma.out 1
    have c_Ma_2 := blk_cell Ma.out 2 _ rfl
    have f_Ma_2 := blk_frozen Ma.out 2
    have l_Ma := blk_lt Ma.out
    have c_Mb_0 := blk_cell Mb.out 0 _ rfl
    have f_Mb_0 := blk_frozen Mb.out 0
    have c_Mb_1 := blk_cell Mb.out 1 _ rfl
    have f_Mb_1 := blk_frozen Mb.out 1
    have c_Mb_2 := blk_cell Mb.out 2 _ rfl
    have f_Mb_2 := blk_frozen Mb.out 2
    have l_Mb := blk_lt Mb.out
    go_wp2_with fail
    go_ret
    exact ⟨rfl, NN.out⟩
  subst zr
  have EQ := DI.out (by first | rfl | trivial) (by first | rfl | trivial) (by first | rfl | trivial)
  obtain ⟨⟨u1, u2, u3, u4⟩, hu⟩ : ∃ r, sumS p1 p2 p3 r1 r2 r3 = r := ⟨_, rfl⟩
  have hv := EQ.symm.trans hu
  have K1 := Lib.hid (fun W => add_calls _ _ _ _ _ _ _ _ _ _ hu W)
  have K2 := Lib.hid (fun W => mul_calls _ _ _ _ _ _ _ _ _ _ hv W)
  clear EQ hu hv
  have c_P1_0 := blk_cell P1.out 0 _ rfl
  have f_P1_0 := blk_frozen P1.out 0
  have c_P1_1 := blk_cell P1.out 1 _ rfl
  have f_P1_1 := blk_frozen P1.out 1
  have c_P1_2 := blk_cell P1.out 2 _ rfl
  have f_P1_2 := blk_frozen P1.out 2
  have l_P1 := blk_lt P1.out
  have c_R1_0 := blk_cell R1.out 0 _ rfl
  have f_R1_0 := blk_frozen R1.out 0
  have c_R1_1 := blk_cell R1.out 1 _ rfl
  have f_R1_1 := blk_frozen R1.out 1
  have c_R1_2 := blk_cell R1.out 2 _ rfl
  have f_R1_2 := blk_frozen R1.out 2
  have l_R1 := blk_lt R1.out
  have c_Ma_0 := blk_cell Ma.out 0 _ rfl
  have f_Ma_0 := blk_frozen Ma.out 0
  have c_Ma_1 := blk_cell Ma.out 1 _ rfl
  have f_Ma_1 := blk_frozen Ma.out 1
  have c_Ma_2 := blk_cell Ma.out 2 _ rfl
  have f_Ma_2 := blk_frozen Ma.out 2
  have l_Ma := blk_lt Ma.out
  have c_Mb_0 := blk_cell Mb.out 0 _ rfl
  have f_Mb_0 := blk_frozen Mb.out 0
  have c_Mb_1 := blk_cell Mb.out 1 _ rfl
  have f_Mb_1 := blk_frozen Mb.out 1
  have c_Mb_2 := blk_cell Mb.out 2 _ rfl
  have f_Mb_2 := blk_frozen Mb.out 2
  have l_Mb := blk_lt Mb.out
  go_wp2_with fail
  clear c_P1_0 f_P1_0 c_P1_1 f_P1_1 c_P1_2 f_P1_2 l_P1 c_R1_0 f_R1_0 c_R1_1 f_R1_1 c_R1_2 f_R1_2 l_R1 c_Ma_0 f_Ma_0 c_Ma_1 f_Ma_1 c_Ma_2 f_Ma_2 l_Ma c_Mb_0 f_Mb_0 c_Mb_1 f_Mb_1 c_Mb_2 f_Mb_2 l_Mb
  refine (K1.out _).mono ?_
  rintro e w54 ⟨rfl, hb⟩
  replace NN := Lib.hid (Bgo NN.out hb)
  replace BA := Lib.hid (blk_next hb BA.out)
  replace BB := Lib.hid (blk_next hb BB.out)
  replace BC := Lib.hid (blk_next hb BC.out)
  replace S1 := Lib.hid (blk_next hb S1.out)
  replace S2 := Lib.hid (blk_next hb S2.out)
  replace T1 := Lib.hid (blk_next hb T1.out)
  replace P1 := Lib.hid (blk_next hb P1.out)
  replace P2 := Lib.hid (blk_next hb P2.out)
  replace Q1 := Lib.hid (blk_next hb Q1.out)
  replace R1 := Lib.hid (blk_next hb R1.out)
  replace Na := Lib.hid (blk_next hb Na.out)
  replace Nb := Lib.hid (blk_next hb Nb.out)
  replace Ma := Lib.hid (blk_next hb Ma.out)
  replace Mb := Lib.hid (blk_next hb Mb.out)
  clear hb
  have HB : Hid (Below w54.heap.size w54 (w54.alloc (.cells #[.int .i64 u1, .int .i64 u2, .int .i64 u3] 23))) := Lib.hid (Bal (Below.refl _ _) _)
  have Ua := Lib.hid (blk_new w54 (.cells #[.int .i64 u1, .int .i64 u2, .int .i64 u3] 23))
  have LT_Ua : Hid (w.heap.size < w54.heap.size ∧ w.heap.size + 1 < w54.heap.size ∧ w.heap.size + 1 + 1 < w54.heap.size ∧ g13 < w54.heap.size ∧ g15 < w54.heap.size ∧ g17 < w54.heap.size ∧ g19 < w54.heap.size ∧ g21 < w54.heap.size ∧ g23 < w54.heap.size ∧ w24.heap.size < w54.heap.size ∧ g43 < w54.heap.size ∧ w44.heap.size < w54.heap.size ∧ g51 < w54.heap.size ∧ w52.heap.size < w54.heap.size ∧ w.heap.size ≤ w54.heap.size) := Lib.hid ⟨blk_lt BA.out, blk_lt BB.out, blk_lt BC.out, blk_lt S1.out, blk_lt S2.out, blk_lt T1.out, blk_lt P1.out, blk_lt P2.out, blk_lt Q1.out, blk_lt R1.out, blk_lt Na.out, blk_lt Nb.out, blk_lt Ma.out, blk_lt Mb.out, NN.out.size⟩
  replace NN := Lib.hid (Bgo NN.out HB.out)
  replace BA := Lib.hid (blk_next HB.out BA.out)
  replace BB := Lib.hid (blk_next HB.out BB.out)
  replace BC := Lib.hid (blk_next HB.out BC.out)
  replace S1 := Lib.hid (blk_next HB.out S1.out)
  replace S2 := Lib.hid (blk_next HB.out S2.out)
  replace T1 := Lib.hid (blk_next HB.out T1.out)
  replace P1 := Lib.hid (blk_next HB.out P1.out)
  replace P2 := Lib.hid (blk_next HB.out P2.out)
  replace Q1 := Lib.hid (blk_next HB.out Q1.out)
  replace R1 := Lib.hid (blk_next HB.out R1.out)
  replace Na := Lib.hid (blk_next HB.out Na.out)
  replace Nb := Lib.hid (blk_next HB.out Nb.out)
  replace Ma := Lib.hid (blk_next HB.out Ma.out)
  replace Mb := Lib.hid (blk_next HB.out Mb.out)
  clear HB
  have c_BA_0 := blk_cell BA.out 0 _ rfl
  have f_BA_0 := blk_frozen BA.out 0
  have c_BA_1 := blk_cell BA.out 1 _ rfl
  have f_BA_1 := blk_frozen BA.out 1
  have c_BA_2 := blk_cell BA.out 2 _ rfl
  have f_BA_2 := blk_frozen BA.out 2
  have l_BA := blk_lt BA.out
  have c_T1_0 := blk_cell T1.out 0 _ rfl
  have f_T1_0 := blk_frozen T1.out 0
  have c_T1_1 := blk_cell T1.out 1 _ rfl
  have f_T1_1 := blk_frozen T1.out 1
  have c_T1_2 := blk_cell T1.out 2 _ rfl
  have f_T1_2 := blk_frozen T1.out 2
  have l_T1 := blk_lt T1.out
  go_wp2_with fail
  clear c_BA_0 f_BA_0 c_BA_1 f_BA_1 c_BA_2 f_BA_2 l_BA c_T1_0 f_T1_0 c_T1_1 f_T1_1 c_T1_2 f_T1_2 l_T1
  generalize w54.alloc (.cells #[.int .i64 u1, .int .i64 u2, .int .i64 u3] 23) = W55 at *
  generalize w54.heap.size = g55 at *
  refine (K2.out _).mono ?_
  rintro e w56 ⟨rfl, hb⟩
  replace NN := Lib.hid (Bgo NN.out hb)
  replace BA := Lib.hid (blk_next hb BA.out)
  replace BB := Lib.hid (blk_next hb BB.out)
  replace BC := Lib.hid (blk_next hb BC.out)
  replace S1 := Lib.hid (blk_next hb S1.out)
  replace S2 := Lib.hid (blk_next hb S2.out)
  replace T1 := Lib.hid (blk_next hb T1.out)
  replace P1 := Lib.hid (blk_next hb P1.out)
  replace P2 := Lib.hid (blk_next hb P2.out)
  replace Q1 := Lib.hid (blk_next hb Q1.out)
  replace R1 := Lib.hid (blk_next hb R1.out)
  replace Na := Lib.hid (blk_next hb Na.out)
  replace Nb := Lib.hid (blk_next hb Nb.out)
  replace Ma := Lib.hid (blk_next hb Ma.out)
  replace Mb := Lib.hid (blk_next hb Mb.out)
  replace Ua := Lib.hid (blk_next hb Ua.out)
  clear hb
  have HB : Hid (Below w56.heap.size w56 (w56.alloc (.cells #[.int .i64 u1, .int .i64 u2, .int .i64 u3] 23))) := Lib.hid (Bal (Below.refl _ _) _)
  have Ub := Lib.hid (blk_new w56 (.cells #[.int .i64 u1, .int .i64 u2, .int .i64 u3] 23))
  have LT_Ub : Hid (w.heap.size < w56.heap.size ∧ w.heap.size + 1 < w56.heap.size ∧ w.heap.size + 1 + 1 < w56.heap.size ∧ g13 < w56.heap.size ∧ g15 < w56.heap.size ∧ g17 < w56.heap.size ∧ g19 < w56.heap.size ∧ g21 < w56.heap.size ∧ g23 < w56.heap.size ∧ w24.heap.size < w56.heap.size ∧ g43 < w56.heap.size ∧ w44.heap.size < w56.heap.size ∧ g51 < w56.heap.size ∧ w52.heap.size < w56.heap.size ∧ g55 < w56.heap.size ∧ w.heap.size ≤ w56.heap.size) := Lib.hid ⟨blk_lt BA.out, blk_lt BB.out, blk_lt BC.out, blk_lt S1.out, blk_lt S2.out, blk_lt T1.out, blk_lt P1.out, blk_lt P2.out, blk_lt Q1.out, blk_lt R1.out, blk_lt Na.out, blk_lt Nb.out, blk_lt Ma.out, blk_lt Mb.out, blk_lt Ua.out, NN.out.size⟩
  replace NN := Lib.hid (Bgo NN.out HB.out)
  replace BA := Lib.hid (blk_next HB.out BA.out)
  replace BB := Lib.hid (blk_next HB.out BB.out)
  replace BC := Lib.hid (blk_next HB.out BC.out)
  replace S1 := Lib.hid (blk_next HB.out S1.out)
  replace S2 := Lib.hid (blk_next HB.out S2.out)
  replace T1 := Lib.hid (blk_next HB.out T1.out)
  replace P1 := Lib.hid (blk_next HB.out P1.out)
  replace P2 := Lib.hid (blk_next HB.out P2.out)
  replace Q1 := Lib.hid (blk_next HB.out Q1.out)
  replace R1 := Lib.hid (blk_next HB.out R1.out)
  replace Na := Lib.hid (blk_next HB.out Na.out)
  replace Nb := Lib.hid (blk_next HB.out Nb.out)
  replace Ma := Lib.hid (blk_next HB.out Ma.out)
  replace Mb := Lib.hid (blk_next HB.out Mb.out)
  replace Ua := Lib.hid (blk_next HB.out Ua.out)
  clear HB
  have c_Ua_0 := blk_cell Ua.out 0 _ rfl
  have f_Ua_0 := blk_frozen Ua.out 0
  have c_Ua_1 := blk_cell Ua.out 1 _ rfl
  have f_Ua_1 := blk_frozen Ua.out 1
  have c_Ua_2 := blk_cell Ua.out 2 _ rfl
  have f_Ua_2 := blk_frozen Ua.out 2
  have l_Ua := blk_lt Ua.out
  have c_Ub_0 := blk_cell Ub.out 0 _ rfl
  have c_Ub_1 := blk_cell Ub.out 1 _ rfl
  have c_Ub_2 := blk_cell Ub.out 2 _ rfl
  have l_Ub := blk_lt Ub.out
  go_wp2_with fail
  go_ret
  exact ⟨rfl, NN.out⟩

abbrev synS : ByteArray := { data := #[105, 110, 118, 97, 108, 105, 100, 32, 115, 121, 110, 116, 97, 120] }
abbrev rngS : ByteArray := { data := #[118, 97, 108, 117, 101, 32, 111, 117, 116, 32, 111, 102, 32, 114, 97, 110, 103, 101] }
noncomputable def low : Nat := (World.holding Tryd.prog default ⟨#[], #[], []⟩).heap.size
def vals : DataW Unit → Array Value
  | .agg l => (l.map fun d => match d with | .lit (.int k z) => Value.int k z | _ => undef).toArray
  | _ => #[]
def put (vs : Array Value) : Obj → Obj
  | .cells _ t frozen => .cells vs t frozen
  | o => o
noncomputable def laidWorld (os : Os) : World :=
  let w0 := World.holding Tryd.prog os ⟨#[.cells #[.string rngS] 108, .cells #[.string synS] 108], #[], []⟩
  { w0 with heap := ((((w0.heap.modify 4 (put (vals Rows.laid_math_bits_deBruijn32tab))).modify 5 (put (vals Rows.laid_math_bits_deBruijn64tab))).modify 0 (put (vals Rows.laid_internal_strconv_uint64pow10))).modify 3 (put #[.iface 106 (.pointer (some ⟨low, 0, none⟩))])).modify 2 (put #[.iface 106 (.pointer (some ⟨low + 1, 0, none⟩))]) }
theorem laid_met (os : Os) (args : Array Value) : laidMet Tryd.prog Rows.cxFieldRow.laid ((laidWorld os).forCall (fun _ _ => 0) ⟨#[], args, []⟩).memory :=
  laidMet_of_run' 8 (by kernel_rfl) (by kernel_rfl)

set_option maxRecDepth 100000 in
set_option maxHeartbeats 4000000 in
theorem lifted (os : Os) (started : os.Started) (H : Type) (enc : TypeId × Value → H) (F0 : Stop.Interp) :
    ReturnsInHanded {} Tryd.checked os 4 .any ((OpenSpec.ofChange Rows.cxFieldSpec).preRow enc Tryd.prog Tryd.f4 Rows.cxFieldRow.domain false Rows.cxFieldRow.laid) (((OpenSpec.ofChange Rows.cxFieldSpec).at F0).post enc Tryd.prog Tryd.f4 false true false false) := by
  refine returnsInHanded_of_row (C := Tryd.checked) (s := OpenSpec.ofChange Rows.cxFieldSpec) own started (by kernel_rfl) Tryd.func4
    (witness_row_at (enc := enc) (C := Tryd.checked) false (laidWorld os) #[.agg #[.int .i64 0, .int .i64 0, .int .i64 0], .agg #[.int .i64 0, .int .i64 0, .int .i64 0], .agg #[.int .i64 0, .int .i64 0, .int .i64 0]] rfl (by kernel_rfl) (by kernel_rfl) (by kernel_rfl) (OpenSpec.preRow_of_B rfl 8 (by kernel_rfl) (by kernel_rfl) (laid_met os _))) ?_
  intro W base args ds gs before hval0 hW hcnd _ hsz0 hL hsh _
  have GLW := gl_of hL hsh
  clear hL hsh hsz0 hcnd
  have hval : ∀ (j : Nat) t v, Tryd.f4.params[j]? = some t → args[j]? = some v → Value.okWide Tryd.prog W .any base t v := hval0
  have hW' := hW
  obtain ⟨p, q, hA0, hV, rfl, hfz, hnd⟩ := hW
  have hA : DataW.TrodAll enc Tryd.prog W 0 (fun _ => true) true Tryd.f4.params.toList args.toList ds p := hA0
  rw [Tryd.params4] at hA hval
  obtain ⟨v0, vs0, d0, ds0, p0, q0, hargs, rfl, rfl, h0, r0⟩ := trodAll_cons hA
  obtain ⟨v1, vs1, d1, ds1, p1, q1, rfl, rfl, rfl, h1, r1⟩ := trodAll_cons r0
  obtain ⟨v2, vs2, d2, ds2, p2, q2, rfl, rfl, rfl, h2, r2⟩ := trodAll_cons r1
  obtain ⟨rfl, rfl, rfl⟩ := trodAll_nil r2
  obtain rfl : args = #[v0, v1, v2] := by cases args; simp_all
  obtain ⟨rfl, rfl⟩ := trodVars_none hV
  have k0 := h0
  have lt0 : ∀ x ∈ p0, x.block < W.heap.size := by obtain ⟨m, hm⟩ := k0; exact DataW.trod_lt m _ _ _ hm
  obtain ⟨c0_0, c1_0, c2_0, y0_0, y1_0, y2_0, m0, rfl, _, _, t0_0, t1_0, t2_0⟩ := open_agg3 Tryd.underlying23 (by kernel_rfl) (show Tryd.prog.cellsOf 23 = 3 by kernel_rfl) (hval 0 23 v0 rfl rfl) h0
  obtain ⟨ar, e0_0, _, war⟩ := DataW.trod_int Tryd.underlying2 t0_0
  simp only [List.cons.injEq, and_true] at e0_0
  subst e0_0
  obtain ⟨ai, e1_0, _, wai⟩ := DataW.trod_int Tryd.underlying2 t1_0
  simp only [List.cons.injEq, and_true] at e1_0
  subst e1_0
  obtain ⟨ad, e2_0, _, wad⟩ := DataW.trod_int Tryd.underlying2 t2_0
  simp only [List.cons.injEq, and_true] at e2_0
  subst e2_0
  have k1 := h1
  have lt1 : ∀ x ∈ p1, x.block < W.heap.size := by obtain ⟨m, hm⟩ := k1; exact DataW.trod_lt m _ _ _ hm
  obtain ⟨c0_1, c1_1, c2_1, y0_1, y1_1, y2_1, m1, rfl, _, _, t0_1, t1_1, t2_1⟩ := open_agg3 Tryd.underlying23 (by kernel_rfl) (show Tryd.prog.cellsOf 23 = 3 by kernel_rfl) (hval 1 23 v1 rfl rfl) h1
  obtain ⟨br, e0_1, _, wbr⟩ := DataW.trod_int Tryd.underlying2 t0_1
  simp only [List.cons.injEq, and_true] at e0_1
  subst e0_1
  obtain ⟨bi, e1_1, _, wbi⟩ := DataW.trod_int Tryd.underlying2 t1_1
  simp only [List.cons.injEq, and_true] at e1_1
  subst e1_1
  obtain ⟨bd, e2_1, _, wbd⟩ := DataW.trod_int Tryd.underlying2 t2_1
  simp only [List.cons.injEq, and_true] at e2_1
  subst e2_1
  have k2 := h2
  have lt2 : ∀ x ∈ p2, x.block < W.heap.size := by obtain ⟨m, hm⟩ := k2; exact DataW.trod_lt m _ _ _ hm
  obtain ⟨c0_2, c1_2, c2_2, y0_2, y1_2, y2_2, m2, rfl, _, _, t0_2, t1_2, t2_2⟩ := open_agg3 Tryd.underlying23 (by kernel_rfl) (show Tryd.prog.cellsOf 23 = 3 by kernel_rfl) (hval 2 23 v2 rfl rfl) h2
  obtain ⟨cr, e0_2, _, wcr⟩ := DataW.trod_int Tryd.underlying2 t0_2
  simp only [List.cons.injEq, and_true] at e0_2
  subst e0_2
  obtain ⟨ci, e1_2, _, wci⟩ := DataW.trod_int Tryd.underlying2 t1_2
  simp only [List.cons.injEq, and_true] at e1_2
  subst e1_2
  obtain ⟨cd, e2_2, _, wcd⟩ := DataW.trod_int Tryd.underlying2 t2_2
  simp only [List.cons.injEq, and_true] at e2_2
  subst e2_2
  clear hA0 hval0
  refine (walk ar ai ad br bi bd cr ci cd W GLW).mono fun e W' ⟨he, bel⟩ => ?_
  subst he
  exact ⟨_, rfl, _, _, _, [], _, [], hW', trodAll_mk1 (shut_bool Tryd.underlying4 _), (trodAll_cons_mk (Below.trod laidOut (by kernel_rfl) (of_decide_eq_true (by kernel_rfl)) k0 bel lt0) (trodAll_cons_mk (Below.trod laidOut (by kernel_rfl) (of_decide_eq_true (by kernel_rfl)) k1 bel lt1) (trodAll_cons_mk (Below.trod laidOut (by kernel_rfl) (of_decide_eq_true (by kernel_rfl)) k2 bel lt2) trodAll_mk0))), rfl, bel.frame _, fun h => by cases h⟩

theorem over : Rows.CxFieldSaid :=
  OpenClaim.holds_of_cond 4 Tryd.f4 rfl rfl rfl rfl rfl rfl rfl ⟨rfl, rfl, rfl, rfl, rfl⟩ rfl rfl rfl rfl rfl (by kernel_rfl) Tryd.func4 (by kernel_rfl)
    (of_decide_eq_true (by kernel_rfl)) (by unfold Func.isWrapper; first | (rw [if_pos (by decide +kernel)]; kernel_rfl) | (rw [if_neg (by decide +kernel)]; exact ⟨rfl, rfl⟩))
    (fun os started H enc _ F0 => by rw [OpenClaim.pre_eq_preRow]; exact lifted os started H enc F0)

theorem proved : Rows.CxFieldCardSaid :=
  Claim7.holds_tied_plain_at .later [] [.data, .data, .data, .sentinel, .sentinel] true (true, "79a2c85c093c7f4bbd60387b9b96cb032bdfb92f3488d33d2cf8f7a3fa8fd4c2") true
    over (fun _ h => by cases h) (by kernel_rfl) (fun _ h => by cases h) cxField_row_tie rfl ⟨rfl, rfl⟩ (by kernel_rfl) rfl
    (fun f fn hf hfn => by
      obtain rfl : f = 4 := Option.some.inj ((show Tryd.prog.funcNamed "fringe/fringelaw25.CxField" = some 4 by kernel_rfl).symm.trans hf) |>.symm
      obtain rfl : fn = Tryd.f4 := (Option.some.inj (Tryd.func4.symm.trans hfn)).symm
      exact ⟨by kernel_rfl, fun j t ht => by
        rw [Tryd.params4] at ht
        have hj : j < 3 := by
          have := (Array.getElem?_eq_some_iff.1 ht).1
          simpa using this
        obtain rfl | rfl | rfl : j = 0 ∨ j = 1 ∨ j = 2 := by omega
        · have h3 : t = 23 := by simpa using ht.symm
          subst h3
          exact (show Tryd.prog.wantsStandIn 23 = false by kernel_rfl)
        · have h3 : t = 23 := by simpa using ht.symm
          subst h3
          exact (show Tryd.prog.wantsStandIn 23 = false by kernel_rfl)
        · have h3 : t = 23 := by simpa using ht.symm
          subst h3
          exact (show Tryd.prog.wantsStandIn 23 = false by kernel_rfl)⟩)
    (by kernel_rfl)
#print axioms proved
end Go.Proofs.YtbbjclbpllfdeaaDoor.cxField
