/- For every input the law CxRays returns true and leaves its arguments as they were; the library's variables as the program's text lays them. -/
import Derived.Test.YtbbjclbpllfdeaaDoorRows
import Derived.Test.YtbbjclbpllfdeaaDoorCards
import Derived.Test.YtbbjclbpllfdeaaDoorTie
import Derived.Test.YtbbjclbpllfdeaaDoorCtg
import Derived.WalkKit
import Derived.ProofKit
import Derived.OpenShut
import Derived.ShutString
import Derived.ChangeOld
import Derived.Below
import Derived.Lib.SmallJoins
import Derived.Deep.DeepHandedRow
import Derived.LaidLaws
import Derived.SevenTiedAt
namespace Go.Proofs.YtbbjclbpllfdeaaDoor.cxRays
open Go.ChangeShapes Go.WideShapes Go.ChangeAt Go.RowKit Go.Joins
open Go.ChangeMaps (open_string shut_string)
set_option linter.unusedVariables false

theorem own : ownKnob Tryd.prog.godebug = none := by kernel_rfl
theorem laidOut : laidOutB Tryd.prog = true := by kernel_rfl
open Cxm
attribute [local go_sem ↓] Go.wp_at_zero Go.wp_at_succ
def eqB3 (a b c a' b' c' : Int) : Bool := a == a' && (b == b' && c == c')
theorem eqB3_self (a b c : Int) : eqB3 a b c a b c = true := by simp [eqB3]
theorem eqCx (a b c a' b' c' : Int) (w : World) : (Op.equalIn 10000 23 (.agg #[.int .i64 a, .int .i64 b, .int .i64 c]) (.agg #[.int .i64 a', .int .i64 b', .int .i64 c'])).run Tryd.prog w = .ok (eqB3 a b c a' b' c') w := by
  have u3 := Tryd.underlying2
  have a3 := Tryd.isAgg2
  have z3 := Tryd.sizeOf2
  rw [show (10000 : Nat) = 9999 + 1 from rfl, Op.equalIn]
  simp only [Sem.run_bind, run_underlying Tryd.underlying23, Result.andThen_ok]
  go_simp
  unfold eqB3
  by_cases h1 : a = a' <;> by_cases h2 : b = b' <;> by_cases h3 : c = c' <;> simp [h1, h2, h3]
attribute [local go_sem ↓] eqCx
attribute [local go_sem] eqB3_self
set_option maxRecDepth 100000 in
set_option maxHeartbeats 16000000 in
theorem walk (ar ai ad br bi bd cr ci cd : Int) (w : World) (g : GL w) :
    Calls Tryd.prog 7 #[Cv ar ai ad, Cv br bi bd, Cv cr ci cd] w fun e w' => e = .returned (.bool true) ∧ Below w.heap.size w w' := by
  have GG := Lib.hid g
  have NN := Lib.hid (Below.refl w.heap.size w)
  clear g
  have RB := Lib.hid (fun W => refBoth_calls ar ai ad br bi bd W)
  have RC := Lib.hid (fun W => refCheck_calls cr ci cd W)
  have ZA := Lib.hid (fun W => refZero_calls ar ai ad W)
  have ZB := Lib.hid (fun W => refZero_calls br bi bd W)
  have ZC := Lib.hid (fun W => refZero_calls cr ci cd W)
  by_cases hab : chkB ar ai ad = true ∧ chkB br bi bd = true
  rotate_left
  · rw [both_no hab] at RB
    clear hab
    go_enter Tryd.func7, Tryd.ntmps7
    go_wp2_with fail
    have BA : Hid ((((w.alloc (.cells #[.int .i64 ar, .int .i64 ai, .int .i64 ad] 23)).alloc (.cells #[.int .i64 br, .int .i64 bi, .int .i64 bd] 23)).alloc (.cells #[.int .i64 cr, .int .i64 ci, .int .i64 cd] 23)).heap[w.heap.size]? = some (.cells #[.int .i64 ar, .int .i64 ai, .int .i64 ad] 23)) := Lib.hid (blk_alloc (blk_alloc (blk_new w _) _) _)
    have BB : Hid ((((w.alloc (.cells #[.int .i64 ar, .int .i64 ai, .int .i64 ad] 23)).alloc (.cells #[.int .i64 br, .int .i64 bi, .int .i64 bd] 23)).alloc (.cells #[.int .i64 cr, .int .i64 ci, .int .i64 cd] 23)).heap[w.heap.size + 1]? = some (.cells #[.int .i64 br, .int .i64 bi, .int .i64 bd] 23)) := Lib.hid (blk_alloc (blk_at _ (by simp)) _)
    have BC : Hid ((((w.alloc (.cells #[.int .i64 ar, .int .i64 ai, .int .i64 ad] 23)).alloc (.cells #[.int .i64 br, .int .i64 bi, .int .i64 bd] 23)).alloc (.cells #[.int .i64 cr, .int .i64 ci, .int .i64 cd] 23)).heap[w.heap.size + 1 + 1]? = some (.cells #[.int .i64 cr, .int .i64 ci, .int .i64 cd] 23)) := Lib.hid (blk_at _ (by simp))
    replace NN : Hid (Below w.heap.size w (((w.alloc (.cells #[.int .i64 ar, .int .i64 ai, .int .i64 ad] 23)).alloc (.cells #[.int .i64 br, .int .i64 bi, .int .i64 bd] 23)).alloc (.cells #[.int .i64 cr, .int .i64 ci, .int .i64 cd] 23))) := Lib.hid (Bal (Bal (Bal NN.out _) _) _)
    generalize (((w.alloc (.cells #[.int .i64 ar, .int .i64 ai, .int .i64 ad] 23)).alloc (.cells #[.int .i64 br, .int .i64 bi, .int .i64 bd] 23)).alloc (.cells #[.int .i64 cr, .int .i64 ci, .int .i64 cd] 23)) = W1 at *
    refine (alive_calls _ (GG.out.next NN.out)).mono ?_
    rintro e w2 ⟨rfl, hb⟩
    replace NN := Lib.hid (Bgo NN.out hb)
    replace BA := Lib.hid (blk_next hb BA.out)
    replace BB := Lib.hid (blk_next hb BB.out)
    replace BC := Lib.hid (blk_next hb BC.out)
    clear hb
    have c_BA_0 := blk_cell BA.out 0 _ rfl
    have f_BA_0 := blk_frozen BA.out 0
    have c_BA_1 := blk_cell BA.out 1 _ rfl
    have f_BA_1 := blk_frozen BA.out 1
    have c_BA_2 := blk_cell BA.out 2 _ rfl
    have f_BA_2 := blk_frozen BA.out 2
    have l_BA := blk_lt BA.out
    have c_BB_0 := blk_cell BB.out 0 _ rfl
    have f_BB_0 := blk_frozen BB.out 0
    have c_BB_1 := blk_cell BB.out 1 _ rfl
    have f_BB_1 := blk_frozen BB.out 1
    have c_BB_2 := blk_cell BB.out 2 _ rfl
    have f_BB_2 := blk_frozen BB.out 2
    have l_BB := blk_lt BB.out
    go_wp2_with fail
    refine (RB.out _).mono ?_
    rintro e w3 ⟨rfl, hb⟩
    clear c_BA_0 f_BA_0 c_BA_1 f_BA_1 c_BA_2 f_BA_2 l_BA c_BB_0 f_BB_0 c_BB_1 f_BB_1 c_BB_2 f_BB_2 l_BB
    replace NN := Lib.hid (Bgo NN.out hb)
    replace BA := Lib.hid (blk_next hb BA.out)
    replace BB := Lib.hid (blk_next hb BB.out)
    replace BC := Lib.hid (blk_next hb BC.out)
    clear hb
    go_wp2_with fail
    go_ret
    exact ⟨rfl, NN.out⟩
  obtain ⟨ha, hb⟩ := hab
  rw [both_yes ha hb] at RB
  cases hc : chkB cr ci cd
  · rw [chkE_no hc] at RC
    clear ha hb hc
    go_enter Tryd.func7, Tryd.ntmps7
    go_wp2_with fail
    have BA : Hid ((((w.alloc (.cells #[.int .i64 ar, .int .i64 ai, .int .i64 ad] 23)).alloc (.cells #[.int .i64 br, .int .i64 bi, .int .i64 bd] 23)).alloc (.cells #[.int .i64 cr, .int .i64 ci, .int .i64 cd] 23)).heap[w.heap.size]? = some (.cells #[.int .i64 ar, .int .i64 ai, .int .i64 ad] 23)) := Lib.hid (blk_alloc (blk_alloc (blk_new w _) _) _)
    have BB : Hid ((((w.alloc (.cells #[.int .i64 ar, .int .i64 ai, .int .i64 ad] 23)).alloc (.cells #[.int .i64 br, .int .i64 bi, .int .i64 bd] 23)).alloc (.cells #[.int .i64 cr, .int .i64 ci, .int .i64 cd] 23)).heap[w.heap.size + 1]? = some (.cells #[.int .i64 br, .int .i64 bi, .int .i64 bd] 23)) := Lib.hid (blk_alloc (blk_at _ (by simp)) _)
    have BC : Hid ((((w.alloc (.cells #[.int .i64 ar, .int .i64 ai, .int .i64 ad] 23)).alloc (.cells #[.int .i64 br, .int .i64 bi, .int .i64 bd] 23)).alloc (.cells #[.int .i64 cr, .int .i64 ci, .int .i64 cd] 23)).heap[w.heap.size + 1 + 1]? = some (.cells #[.int .i64 cr, .int .i64 ci, .int .i64 cd] 23)) := Lib.hid (blk_at _ (by simp))
    replace NN : Hid (Below w.heap.size w (((w.alloc (.cells #[.int .i64 ar, .int .i64 ai, .int .i64 ad] 23)).alloc (.cells #[.int .i64 br, .int .i64 bi, .int .i64 bd] 23)).alloc (.cells #[.int .i64 cr, .int .i64 ci, .int .i64 cd] 23))) := Lib.hid (Bal (Bal (Bal NN.out _) _) _)
    generalize (((w.alloc (.cells #[.int .i64 ar, .int .i64 ai, .int .i64 ad] 23)).alloc (.cells #[.int .i64 br, .int .i64 bi, .int .i64 bd] 23)).alloc (.cells #[.int .i64 cr, .int .i64 ci, .int .i64 cd] 23)) = W4 at *
    refine (alive_calls _ (GG.out.next NN.out)).mono ?_
    rintro e w5 ⟨rfl, hb⟩
    replace NN := Lib.hid (Bgo NN.out hb)
    replace BA := Lib.hid (blk_next hb BA.out)
    replace BB := Lib.hid (blk_next hb BB.out)
    replace BC := Lib.hid (blk_next hb BC.out)
    clear hb
    have c_BA_0 := blk_cell BA.out 0 _ rfl
    have f_BA_0 := blk_frozen BA.out 0
    have c_BA_1 := blk_cell BA.out 1 _ rfl
    have f_BA_1 := blk_frozen BA.out 1
    have c_BA_2 := blk_cell BA.out 2 _ rfl
    have f_BA_2 := blk_frozen BA.out 2
    have l_BA := blk_lt BA.out
    have c_BB_0 := blk_cell BB.out 0 _ rfl
    have f_BB_0 := blk_frozen BB.out 0
    have c_BB_1 := blk_cell BB.out 1 _ rfl
    have f_BB_1 := blk_frozen BB.out 1
    have c_BB_2 := blk_cell BB.out 2 _ rfl
    have f_BB_2 := blk_frozen BB.out 2
    have l_BB := blk_lt BB.out
    go_wp2_with fail
    refine (RB.out _).mono ?_
    rintro e w6 ⟨rfl, hb⟩
    clear c_BA_0 f_BA_0 c_BA_1 f_BA_1 c_BA_2 f_BA_2 l_BA c_BB_0 f_BB_0 c_BB_1 f_BB_1 c_BB_2 f_BB_2 l_BB
    replace NN := Lib.hid (Bgo NN.out hb)
    replace BA := Lib.hid (blk_next hb BA.out)
    replace BB := Lib.hid (blk_next hb BB.out)
    replace BC := Lib.hid (blk_next hb BC.out)
    clear hb
    have c_BC_0 := blk_cell BC.out 0 _ rfl
    have f_BC_0 := blk_frozen BC.out 0
    have c_BC_1 := blk_cell BC.out 1 _ rfl
    have f_BC_1 := blk_frozen BC.out 1
    have c_BC_2 := blk_cell BC.out 2 _ rfl
    have f_BC_2 := blk_frozen BC.out 2
    have l_BC := blk_lt BC.out
    go_wp2_with fail
    refine (RC.out _).mono ?_
    rintro e w7 ⟨rfl, hb⟩
    clear c_BC_0 f_BC_0 c_BC_1 f_BC_1 c_BC_2 f_BC_2 l_BC
    replace NN := Lib.hid (Bgo NN.out hb)
    replace BA := Lib.hid (blk_next hb BA.out)
    replace BB := Lib.hid (blk_next hb BB.out)
    replace BC := Lib.hid (blk_next hb BC.out)
    clear hb
    go_wp2_with fail
    go_ret
    exact ⟨rfl, NN.out⟩
  rw [chkE_yes hc] at RC
  cases za : isZ ar ai
  rotate_left
  · rw [za] at ZA
    clear ha hb hc za
    go_enter Tryd.func7, Tryd.ntmps7
    go_wp2_with fail
    have BA : Hid ((((w.alloc (.cells #[.int .i64 ar, .int .i64 ai, .int .i64 ad] 23)).alloc (.cells #[.int .i64 br, .int .i64 bi, .int .i64 bd] 23)).alloc (.cells #[.int .i64 cr, .int .i64 ci, .int .i64 cd] 23)).heap[w.heap.size]? = some (.cells #[.int .i64 ar, .int .i64 ai, .int .i64 ad] 23)) := Lib.hid (blk_alloc (blk_alloc (blk_new w _) _) _)
    have BB : Hid ((((w.alloc (.cells #[.int .i64 ar, .int .i64 ai, .int .i64 ad] 23)).alloc (.cells #[.int .i64 br, .int .i64 bi, .int .i64 bd] 23)).alloc (.cells #[.int .i64 cr, .int .i64 ci, .int .i64 cd] 23)).heap[w.heap.size + 1]? = some (.cells #[.int .i64 br, .int .i64 bi, .int .i64 bd] 23)) := Lib.hid (blk_alloc (blk_at _ (by simp)) _)
    have BC : Hid ((((w.alloc (.cells #[.int .i64 ar, .int .i64 ai, .int .i64 ad] 23)).alloc (.cells #[.int .i64 br, .int .i64 bi, .int .i64 bd] 23)).alloc (.cells #[.int .i64 cr, .int .i64 ci, .int .i64 cd] 23)).heap[w.heap.size + 1 + 1]? = some (.cells #[.int .i64 cr, .int .i64 ci, .int .i64 cd] 23)) := Lib.hid (blk_at _ (by simp))
    replace NN : Hid (Below w.heap.size w (((w.alloc (.cells #[.int .i64 ar, .int .i64 ai, .int .i64 ad] 23)).alloc (.cells #[.int .i64 br, .int .i64 bi, .int .i64 bd] 23)).alloc (.cells #[.int .i64 cr, .int .i64 ci, .int .i64 cd] 23))) := Lib.hid (Bal (Bal (Bal NN.out _) _) _)
    generalize (((w.alloc (.cells #[.int .i64 ar, .int .i64 ai, .int .i64 ad] 23)).alloc (.cells #[.int .i64 br, .int .i64 bi, .int .i64 bd] 23)).alloc (.cells #[.int .i64 cr, .int .i64 ci, .int .i64 cd] 23)) = W8 at *
    refine (alive_calls _ (GG.out.next NN.out)).mono ?_
    rintro e w9 ⟨rfl, hb⟩
    replace NN := Lib.hid (Bgo NN.out hb)
    replace BA := Lib.hid (blk_next hb BA.out)
    replace BB := Lib.hid (blk_next hb BB.out)
    replace BC := Lib.hid (blk_next hb BC.out)
    clear hb
    have c_BA_0 := blk_cell BA.out 0 _ rfl
    have f_BA_0 := blk_frozen BA.out 0
    have c_BA_1 := blk_cell BA.out 1 _ rfl
    have f_BA_1 := blk_frozen BA.out 1
    have c_BA_2 := blk_cell BA.out 2 _ rfl
    have f_BA_2 := blk_frozen BA.out 2
    have l_BA := blk_lt BA.out
    have c_BB_0 := blk_cell BB.out 0 _ rfl
    have f_BB_0 := blk_frozen BB.out 0
    have c_BB_1 := blk_cell BB.out 1 _ rfl
    have f_BB_1 := blk_frozen BB.out 1
    have c_BB_2 := blk_cell BB.out 2 _ rfl
    have f_BB_2 := blk_frozen BB.out 2
    have l_BB := blk_lt BB.out
    go_wp2_with fail
    refine (RB.out _).mono ?_
    rintro e w10 ⟨rfl, hb⟩
    clear c_BA_0 f_BA_0 c_BA_1 f_BA_1 c_BA_2 f_BA_2 l_BA c_BB_0 f_BB_0 c_BB_1 f_BB_1 c_BB_2 f_BB_2 l_BB
    replace NN := Lib.hid (Bgo NN.out hb)
    replace BA := Lib.hid (blk_next hb BA.out)
    replace BB := Lib.hid (blk_next hb BB.out)
    replace BC := Lib.hid (blk_next hb BC.out)
    clear hb
    have c_BC_0 := blk_cell BC.out 0 _ rfl
    have f_BC_0 := blk_frozen BC.out 0
    have c_BC_1 := blk_cell BC.out 1 _ rfl
    have f_BC_1 := blk_frozen BC.out 1
    have c_BC_2 := blk_cell BC.out 2 _ rfl
    have f_BC_2 := blk_frozen BC.out 2
    have l_BC := blk_lt BC.out
    go_wp2_with fail
    refine (RC.out _).mono ?_
    rintro e w11 ⟨rfl, hb⟩
    clear c_BC_0 f_BC_0 c_BC_1 f_BC_1 c_BC_2 f_BC_2 l_BC
    replace NN := Lib.hid (Bgo NN.out hb)
    replace BA := Lib.hid (blk_next hb BA.out)
    replace BB := Lib.hid (blk_next hb BB.out)
    replace BC := Lib.hid (blk_next hb BC.out)
    clear hb
    have c_BA_0 := blk_cell BA.out 0 _ rfl
    have f_BA_0 := blk_frozen BA.out 0
    have c_BA_1 := blk_cell BA.out 1 _ rfl
    have f_BA_1 := blk_frozen BA.out 1
    have c_BA_2 := blk_cell BA.out 2 _ rfl
    have f_BA_2 := blk_frozen BA.out 2
    have l_BA := blk_lt BA.out
    go_wp2_with fail
    refine (ZA.out _).mono ?_
    rintro e w12 ⟨rfl, hb⟩
    clear c_BA_0 f_BA_0 c_BA_1 f_BA_1 c_BA_2 f_BA_2 l_BA
    replace NN := Lib.hid (Bgo NN.out hb)
    replace BA := Lib.hid (blk_next hb BA.out)
    replace BB := Lib.hid (blk_next hb BB.out)
    replace BC := Lib.hid (blk_next hb BC.out)
    clear hb
    go_wp2_with fail
    go_ret
    exact ⟨rfl, NN.out⟩
  rw [za] at ZA
  cases zb : isZ br bi
  rotate_left
  · rw [zb] at ZB
    clear ha hb hc za zb
    go_enter Tryd.func7, Tryd.ntmps7
    go_wp2_with fail
    have BA : Hid ((((w.alloc (.cells #[.int .i64 ar, .int .i64 ai, .int .i64 ad] 23)).alloc (.cells #[.int .i64 br, .int .i64 bi, .int .i64 bd] 23)).alloc (.cells #[.int .i64 cr, .int .i64 ci, .int .i64 cd] 23)).heap[w.heap.size]? = some (.cells #[.int .i64 ar, .int .i64 ai, .int .i64 ad] 23)) := Lib.hid (blk_alloc (blk_alloc (blk_new w _) _) _)
    have BB : Hid ((((w.alloc (.cells #[.int .i64 ar, .int .i64 ai, .int .i64 ad] 23)).alloc (.cells #[.int .i64 br, .int .i64 bi, .int .i64 bd] 23)).alloc (.cells #[.int .i64 cr, .int .i64 ci, .int .i64 cd] 23)).heap[w.heap.size + 1]? = some (.cells #[.int .i64 br, .int .i64 bi, .int .i64 bd] 23)) := Lib.hid (blk_alloc (blk_at _ (by simp)) _)
    have BC : Hid ((((w.alloc (.cells #[.int .i64 ar, .int .i64 ai, .int .i64 ad] 23)).alloc (.cells #[.int .i64 br, .int .i64 bi, .int .i64 bd] 23)).alloc (.cells #[.int .i64 cr, .int .i64 ci, .int .i64 cd] 23)).heap[w.heap.size + 1 + 1]? = some (.cells #[.int .i64 cr, .int .i64 ci, .int .i64 cd] 23)) := Lib.hid (blk_at _ (by simp))
    replace NN : Hid (Below w.heap.size w (((w.alloc (.cells #[.int .i64 ar, .int .i64 ai, .int .i64 ad] 23)).alloc (.cells #[.int .i64 br, .int .i64 bi, .int .i64 bd] 23)).alloc (.cells #[.int .i64 cr, .int .i64 ci, .int .i64 cd] 23))) := Lib.hid (Bal (Bal (Bal NN.out _) _) _)
    generalize (((w.alloc (.cells #[.int .i64 ar, .int .i64 ai, .int .i64 ad] 23)).alloc (.cells #[.int .i64 br, .int .i64 bi, .int .i64 bd] 23)).alloc (.cells #[.int .i64 cr, .int .i64 ci, .int .i64 cd] 23)) = W13 at *
    refine (alive_calls _ (GG.out.next NN.out)).mono ?_
    rintro e w14 ⟨rfl, hb⟩
    replace NN := Lib.hid (Bgo NN.out hb)
    replace BA := Lib.hid (blk_next hb BA.out)
    replace BB := Lib.hid (blk_next hb BB.out)
    replace BC := Lib.hid (blk_next hb BC.out)
    clear hb
    have c_BA_0 := blk_cell BA.out 0 _ rfl
    have f_BA_0 := blk_frozen BA.out 0
    have c_BA_1 := blk_cell BA.out 1 _ rfl
    have f_BA_1 := blk_frozen BA.out 1
    have c_BA_2 := blk_cell BA.out 2 _ rfl
    have f_BA_2 := blk_frozen BA.out 2
    have l_BA := blk_lt BA.out
    have c_BB_0 := blk_cell BB.out 0 _ rfl
    have f_BB_0 := blk_frozen BB.out 0
    have c_BB_1 := blk_cell BB.out 1 _ rfl
    have f_BB_1 := blk_frozen BB.out 1
    have c_BB_2 := blk_cell BB.out 2 _ rfl
    have f_BB_2 := blk_frozen BB.out 2
    have l_BB := blk_lt BB.out
    go_wp2_with fail
    refine (RB.out _).mono ?_
    rintro e w15 ⟨rfl, hb⟩
    clear c_BA_0 f_BA_0 c_BA_1 f_BA_1 c_BA_2 f_BA_2 l_BA c_BB_0 f_BB_0 c_BB_1 f_BB_1 c_BB_2 f_BB_2 l_BB
    replace NN := Lib.hid (Bgo NN.out hb)
    replace BA := Lib.hid (blk_next hb BA.out)
    replace BB := Lib.hid (blk_next hb BB.out)
    replace BC := Lib.hid (blk_next hb BC.out)
    clear hb
    have c_BC_0 := blk_cell BC.out 0 _ rfl
    have f_BC_0 := blk_frozen BC.out 0
    have c_BC_1 := blk_cell BC.out 1 _ rfl
    have f_BC_1 := blk_frozen BC.out 1
    have c_BC_2 := blk_cell BC.out 2 _ rfl
    have f_BC_2 := blk_frozen BC.out 2
    have l_BC := blk_lt BC.out
    go_wp2_with fail
    refine (RC.out _).mono ?_
    rintro e w16 ⟨rfl, hb⟩
    clear c_BC_0 f_BC_0 c_BC_1 f_BC_1 c_BC_2 f_BC_2 l_BC
    replace NN := Lib.hid (Bgo NN.out hb)
    replace BA := Lib.hid (blk_next hb BA.out)
    replace BB := Lib.hid (blk_next hb BB.out)
    replace BC := Lib.hid (blk_next hb BC.out)
    clear hb
    have c_BA_0 := blk_cell BA.out 0 _ rfl
    have f_BA_0 := blk_frozen BA.out 0
    have c_BA_1 := blk_cell BA.out 1 _ rfl
    have f_BA_1 := blk_frozen BA.out 1
    have c_BA_2 := blk_cell BA.out 2 _ rfl
    have f_BA_2 := blk_frozen BA.out 2
    have l_BA := blk_lt BA.out
    go_wp2_with fail
    refine (ZA.out _).mono ?_
    rintro e w17 ⟨rfl, hb⟩
    clear c_BA_0 f_BA_0 c_BA_1 f_BA_1 c_BA_2 f_BA_2 l_BA
    replace NN := Lib.hid (Bgo NN.out hb)
    replace BA := Lib.hid (blk_next hb BA.out)
    replace BB := Lib.hid (blk_next hb BB.out)
    replace BC := Lib.hid (blk_next hb BC.out)
    clear hb
    have c_BB_0 := blk_cell BB.out 0 _ rfl
    have f_BB_0 := blk_frozen BB.out 0
    have c_BB_1 := blk_cell BB.out 1 _ rfl
    have f_BB_1 := blk_frozen BB.out 1
    have c_BB_2 := blk_cell BB.out 2 _ rfl
    have f_BB_2 := blk_frozen BB.out 2
    have l_BB := blk_lt BB.out
    go_wp2_with fail
    refine (ZB.out _).mono ?_
    rintro e w18 ⟨rfl, hb⟩
    clear c_BB_0 f_BB_0 c_BB_1 f_BB_1 c_BB_2 f_BB_2 l_BB
    replace NN := Lib.hid (Bgo NN.out hb)
    replace BA := Lib.hid (blk_next hb BA.out)
    replace BB := Lib.hid (blk_next hb BB.out)
    replace BC := Lib.hid (blk_next hb BC.out)
    clear hb
    go_wp2_with fail
    go_ret
    exact ⟨rfl, NN.out⟩
  rw [zb] at ZB
  cases zc : isZ cr ci
  rotate_left
  · rw [zc] at ZC
    clear ha hb hc za zb zc
    go_enter Tryd.func7, Tryd.ntmps7
    go_wp2_with fail
    have BA : Hid ((((w.alloc (.cells #[.int .i64 ar, .int .i64 ai, .int .i64 ad] 23)).alloc (.cells #[.int .i64 br, .int .i64 bi, .int .i64 bd] 23)).alloc (.cells #[.int .i64 cr, .int .i64 ci, .int .i64 cd] 23)).heap[w.heap.size]? = some (.cells #[.int .i64 ar, .int .i64 ai, .int .i64 ad] 23)) := Lib.hid (blk_alloc (blk_alloc (blk_new w _) _) _)
    have BB : Hid ((((w.alloc (.cells #[.int .i64 ar, .int .i64 ai, .int .i64 ad] 23)).alloc (.cells #[.int .i64 br, .int .i64 bi, .int .i64 bd] 23)).alloc (.cells #[.int .i64 cr, .int .i64 ci, .int .i64 cd] 23)).heap[w.heap.size + 1]? = some (.cells #[.int .i64 br, .int .i64 bi, .int .i64 bd] 23)) := Lib.hid (blk_alloc (blk_at _ (by simp)) _)
    have BC : Hid ((((w.alloc (.cells #[.int .i64 ar, .int .i64 ai, .int .i64 ad] 23)).alloc (.cells #[.int .i64 br, .int .i64 bi, .int .i64 bd] 23)).alloc (.cells #[.int .i64 cr, .int .i64 ci, .int .i64 cd] 23)).heap[w.heap.size + 1 + 1]? = some (.cells #[.int .i64 cr, .int .i64 ci, .int .i64 cd] 23)) := Lib.hid (blk_at _ (by simp))
    replace NN : Hid (Below w.heap.size w (((w.alloc (.cells #[.int .i64 ar, .int .i64 ai, .int .i64 ad] 23)).alloc (.cells #[.int .i64 br, .int .i64 bi, .int .i64 bd] 23)).alloc (.cells #[.int .i64 cr, .int .i64 ci, .int .i64 cd] 23))) := Lib.hid (Bal (Bal (Bal NN.out _) _) _)
    generalize (((w.alloc (.cells #[.int .i64 ar, .int .i64 ai, .int .i64 ad] 23)).alloc (.cells #[.int .i64 br, .int .i64 bi, .int .i64 bd] 23)).alloc (.cells #[.int .i64 cr, .int .i64 ci, .int .i64 cd] 23)) = W19 at *
    refine (alive_calls _ (GG.out.next NN.out)).mono ?_
    rintro e w20 ⟨rfl, hb⟩
    replace NN := Lib.hid (Bgo NN.out hb)
    replace BA := Lib.hid (blk_next hb BA.out)
    replace BB := Lib.hid (blk_next hb BB.out)
    replace BC := Lib.hid (blk_next hb BC.out)
    clear hb
    have c_BA_0 := blk_cell BA.out 0 _ rfl
    have f_BA_0 := blk_frozen BA.out 0
    have c_BA_1 := blk_cell BA.out 1 _ rfl
    have f_BA_1 := blk_frozen BA.out 1
    have c_BA_2 := blk_cell BA.out 2 _ rfl
    have f_BA_2 := blk_frozen BA.out 2
    have l_BA := blk_lt BA.out
    have c_BB_0 := blk_cell BB.out 0 _ rfl
    have f_BB_0 := blk_frozen BB.out 0
    have c_BB_1 := blk_cell BB.out 1 _ rfl
    have f_BB_1 := blk_frozen BB.out 1
    have c_BB_2 := blk_cell BB.out 2 _ rfl
    have f_BB_2 := blk_frozen BB.out 2
    have l_BB := blk_lt BB.out
    go_wp2_with fail
    refine (RB.out _).mono ?_
    rintro e w21 ⟨rfl, hb⟩
    clear c_BA_0 f_BA_0 c_BA_1 f_BA_1 c_BA_2 f_BA_2 l_BA c_BB_0 f_BB_0 c_BB_1 f_BB_1 c_BB_2 f_BB_2 l_BB
    replace NN := Lib.hid (Bgo NN.out hb)
    replace BA := Lib.hid (blk_next hb BA.out)
    replace BB := Lib.hid (blk_next hb BB.out)
    replace BC := Lib.hid (blk_next hb BC.out)
    clear hb
    have c_BC_0 := blk_cell BC.out 0 _ rfl
    have f_BC_0 := blk_frozen BC.out 0
    have c_BC_1 := blk_cell BC.out 1 _ rfl
    have f_BC_1 := blk_frozen BC.out 1
    have c_BC_2 := blk_cell BC.out 2 _ rfl
    have f_BC_2 := blk_frozen BC.out 2
    have l_BC := blk_lt BC.out
    go_wp2_with fail
    refine (RC.out _).mono ?_
    rintro e w22 ⟨rfl, hb⟩
    clear c_BC_0 f_BC_0 c_BC_1 f_BC_1 c_BC_2 f_BC_2 l_BC
    replace NN := Lib.hid (Bgo NN.out hb)
    replace BA := Lib.hid (blk_next hb BA.out)
    replace BB := Lib.hid (blk_next hb BB.out)
    replace BC := Lib.hid (blk_next hb BC.out)
    clear hb
    have c_BA_0 := blk_cell BA.out 0 _ rfl
    have f_BA_0 := blk_frozen BA.out 0
    have c_BA_1 := blk_cell BA.out 1 _ rfl
    have f_BA_1 := blk_frozen BA.out 1
    have c_BA_2 := blk_cell BA.out 2 _ rfl
    have f_BA_2 := blk_frozen BA.out 2
    have l_BA := blk_lt BA.out
    go_wp2_with fail
    refine (ZA.out _).mono ?_
    rintro e w23 ⟨rfl, hb⟩
    clear c_BA_0 f_BA_0 c_BA_1 f_BA_1 c_BA_2 f_BA_2 l_BA
    replace NN := Lib.hid (Bgo NN.out hb)
    replace BA := Lib.hid (blk_next hb BA.out)
    replace BB := Lib.hid (blk_next hb BB.out)
    replace BC := Lib.hid (blk_next hb BC.out)
    clear hb
    have c_BB_0 := blk_cell BB.out 0 _ rfl
    have f_BB_0 := blk_frozen BB.out 0
    have c_BB_1 := blk_cell BB.out 1 _ rfl
    have f_BB_1 := blk_frozen BB.out 1
    have c_BB_2 := blk_cell BB.out 2 _ rfl
    have f_BB_2 := blk_frozen BB.out 2
    have l_BB := blk_lt BB.out
    go_wp2_with fail
    refine (ZB.out _).mono ?_
    rintro e w24 ⟨rfl, hb⟩
    clear c_BB_0 f_BB_0 c_BB_1 f_BB_1 c_BB_2 f_BB_2 l_BB
    replace NN := Lib.hid (Bgo NN.out hb)
    replace BA := Lib.hid (blk_next hb BA.out)
    replace BB := Lib.hid (blk_next hb BB.out)
    replace BC := Lib.hid (blk_next hb BC.out)
    clear hb
    have c_BC_0 := blk_cell BC.out 0 _ rfl
    have f_BC_0 := blk_frozen BC.out 0
    have c_BC_1 := blk_cell BC.out 1 _ rfl
    have f_BC_1 := blk_frozen BC.out 1
    have c_BC_2 := blk_cell BC.out 2 _ rfl
    have f_BC_2 := blk_frozen BC.out 2
    have l_BC := blk_lt BC.out
    go_wp2_with fail
    refine (ZC.out _).mono ?_
    rintro e w25 ⟨rfl, hb⟩
    clear c_BC_0 f_BC_0 c_BC_1 f_BC_1 c_BC_2 f_BC_2 l_BC
    replace NN := Lib.hid (Bgo NN.out hb)
    replace BA := Lib.hid (blk_next hb BA.out)
    replace BB := Lib.hid (blk_next hb BB.out)
    replace BC := Lib.hid (blk_next hb BC.out)
    clear hb
    go_wp2_with fail
    go_ret
    exact ⟨rfl, NN.out⟩
  rw [zc] at ZC
  obtain ⟨r1, r2, s1, s2, X, M, O, R⟩ := rlaw ha hb hc za zb zc
  have CRA := Lib.hid (fun W => ray_calls R.ra W)
  have CRB := Lib.hid (fun W => ray_calls R.rb W)
  have RV := Lib.hid (fun W => refBoth_calls r1 r2 1 s1 s2 1 W)
  rw [both_yes R.vr R.vs] at RV
  obtain ⟨g1, g2', g3', _⟩ := chk_iff.1 R.vr
  have GC := Lib.hid (fun W => refGcd_calls r1 r2 (by omega) (by omega) (by omega) (by omega) W)
  rw [R.g] at GC
  have DC := Lib.hid (div_cases ha hb)
  have PC := Lib.hid (mul_cases ha hb)
  have TC := Lib.hid (mul_cases R.vr R.vs)
  have PR := Lib.hid R.pro
  have Ooab := Lib.hid (fun W => order_calls R.oab W)
  have Ooba := Lib.hid (fun W => order_calls R.oba W)
  have Oors := Lib.hid (fun W => order_calls R.ors W)
  have Oobc := Lib.hid (fun W => order_calls R.obc W)
  have Ooac := Lib.hid (fun W => order_calls R.oac W)
  obtain ⟨EB, hEB⟩ : ∃ EB, eqB3 r1 r2 1 s1 s2 1 = EB := ⟨_, rfl⟩
  have SE : EB = true ↔ (r1 = s1 ∧ r2 = s2) := by rw [← hEB]; simp [eqB3]
  have XE : (X == 0) = EB := by rw [Bool.eq_iff_iff, beq_iff_eq, R.z, SE]
  have QE : Hid (∀ x y z, divS ar ai ad br bi bd = (x, y, z, 0) → (EB = true ↔ (y = 0 ∧ 0 < x))) := Lib.hid (fun x y z h => SE.trans (R.quo x y z h))
  have HEB := Lib.hid hEB
  have HXE := Lib.hid XE
  clear hEB XE SE
  have TR := Lib.hid R.tr
  obtain ⟨x1, x2⟩ := R.bX
  obtain ⟨m1, m2⟩ := R.bM
  obtain ⟨o1, o2⟩ := R.bO
  have HZB := Lib.hid zb
  clear R ha hb hc za zb zc
  go_enter Tryd.func7, Tryd.ntmps7
  go_wp2_with fail
  have BA : Hid ((((w.alloc (.cells #[.int .i64 ar, .int .i64 ai, .int .i64 ad] 23)).alloc (.cells #[.int .i64 br, .int .i64 bi, .int .i64 bd] 23)).alloc (.cells #[.int .i64 cr, .int .i64 ci, .int .i64 cd] 23)).heap[w.heap.size]? = some (.cells #[.int .i64 ar, .int .i64 ai, .int .i64 ad] 23)) := Lib.hid (blk_alloc (blk_alloc (blk_new w _) _) _)
  have BB : Hid ((((w.alloc (.cells #[.int .i64 ar, .int .i64 ai, .int .i64 ad] 23)).alloc (.cells #[.int .i64 br, .int .i64 bi, .int .i64 bd] 23)).alloc (.cells #[.int .i64 cr, .int .i64 ci, .int .i64 cd] 23)).heap[w.heap.size + 1]? = some (.cells #[.int .i64 br, .int .i64 bi, .int .i64 bd] 23)) := Lib.hid (blk_alloc (blk_at _ (by simp)) _)
  have BC : Hid ((((w.alloc (.cells #[.int .i64 ar, .int .i64 ai, .int .i64 ad] 23)).alloc (.cells #[.int .i64 br, .int .i64 bi, .int .i64 bd] 23)).alloc (.cells #[.int .i64 cr, .int .i64 ci, .int .i64 cd] 23)).heap[w.heap.size + 1 + 1]? = some (.cells #[.int .i64 cr, .int .i64 ci, .int .i64 cd] 23)) := Lib.hid (blk_at _ (by simp))
  replace NN : Hid (Below w.heap.size w (((w.alloc (.cells #[.int .i64 ar, .int .i64 ai, .int .i64 ad] 23)).alloc (.cells #[.int .i64 br, .int .i64 bi, .int .i64 bd] 23)).alloc (.cells #[.int .i64 cr, .int .i64 ci, .int .i64 cd] 23))) := Lib.hid (Bal (Bal (Bal NN.out _) _) _)
  generalize (((w.alloc (.cells #[.int .i64 ar, .int .i64 ai, .int .i64 ad] 23)).alloc (.cells #[.int .i64 br, .int .i64 bi, .int .i64 bd] 23)).alloc (.cells #[.int .i64 cr, .int .i64 ci, .int .i64 cd] 23)) = W26 at *
  refine (alive_calls _ (GG.out.next NN.out)).mono ?_
  rintro e w27 ⟨rfl, hb⟩
  replace NN := Lib.hid (Bgo NN.out hb)
  replace BA := Lib.hid (blk_next hb BA.out)
  replace BB := Lib.hid (blk_next hb BB.out)
  replace BC := Lib.hid (blk_next hb BC.out)
  clear hb
  have c_BA_0 := blk_cell BA.out 0 _ rfl
  have f_BA_0 := blk_frozen BA.out 0
  have c_BA_1 := blk_cell BA.out 1 _ rfl
  have f_BA_1 := blk_frozen BA.out 1
  have c_BA_2 := blk_cell BA.out 2 _ rfl
  have f_BA_2 := blk_frozen BA.out 2
  have l_BA := blk_lt BA.out
  have c_BB_0 := blk_cell BB.out 0 _ rfl
  have f_BB_0 := blk_frozen BB.out 0
  have c_BB_1 := blk_cell BB.out 1 _ rfl
  have f_BB_1 := blk_frozen BB.out 1
  have c_BB_2 := blk_cell BB.out 2 _ rfl
  have f_BB_2 := blk_frozen BB.out 2
  have l_BB := blk_lt BB.out
  go_wp2_with fail
  refine (RB.out _).mono ?_
  rintro e w28 ⟨rfl, hb⟩
  clear c_BA_0 f_BA_0 c_BA_1 f_BA_1 c_BA_2 f_BA_2 l_BA c_BB_0 f_BB_0 c_BB_1 f_BB_1 c_BB_2 f_BB_2 l_BB
  replace NN := Lib.hid (Bgo NN.out hb)
  replace BA := Lib.hid (blk_next hb BA.out)
  replace BB := Lib.hid (blk_next hb BB.out)
  replace BC := Lib.hid (blk_next hb BC.out)
  clear hb
  have c_BC_0 := blk_cell BC.out 0 _ rfl
  have f_BC_0 := blk_frozen BC.out 0
  have c_BC_1 := blk_cell BC.out 1 _ rfl
  have f_BC_1 := blk_frozen BC.out 1
  have c_BC_2 := blk_cell BC.out 2 _ rfl
  have f_BC_2 := blk_frozen BC.out 2
  have l_BC := blk_lt BC.out
  go_wp2_with fail
  refine (RC.out _).mono ?_
  rintro e w29 ⟨rfl, hb⟩
  clear c_BC_0 f_BC_0 c_BC_1 f_BC_1 c_BC_2 f_BC_2 l_BC
  replace NN := Lib.hid (Bgo NN.out hb)
  replace BA := Lib.hid (blk_next hb BA.out)
  replace BB := Lib.hid (blk_next hb BB.out)
  replace BC := Lib.hid (blk_next hb BC.out)
  clear hb
  have c_BA_0 := blk_cell BA.out 0 _ rfl
  have f_BA_0 := blk_frozen BA.out 0
  have c_BA_1 := blk_cell BA.out 1 _ rfl
  have f_BA_1 := blk_frozen BA.out 1
  have c_BA_2 := blk_cell BA.out 2 _ rfl
  have f_BA_2 := blk_frozen BA.out 2
  have l_BA := blk_lt BA.out
  go_wp2_with fail
  refine (ZA.out _).mono ?_
  rintro e w30 ⟨rfl, hb⟩
  clear c_BA_0 f_BA_0 c_BA_1 f_BA_1 c_BA_2 f_BA_2 l_BA
  replace NN := Lib.hid (Bgo NN.out hb)
  replace BA := Lib.hid (blk_next hb BA.out)
  replace BB := Lib.hid (blk_next hb BB.out)
  replace BC := Lib.hid (blk_next hb BC.out)
  clear hb
  have c_BB_0 := blk_cell BB.out 0 _ rfl
  have f_BB_0 := blk_frozen BB.out 0
  have c_BB_1 := blk_cell BB.out 1 _ rfl
  have f_BB_1 := blk_frozen BB.out 1
  have c_BB_2 := blk_cell BB.out 2 _ rfl
  have f_BB_2 := blk_frozen BB.out 2
  have l_BB := blk_lt BB.out
  go_wp2_with fail
  refine (ZB.out _).mono ?_
  rintro e w31 ⟨rfl, hb⟩
  clear c_BB_0 f_BB_0 c_BB_1 f_BB_1 c_BB_2 f_BB_2 l_BB
  replace NN := Lib.hid (Bgo NN.out hb)
  replace BA := Lib.hid (blk_next hb BA.out)
  replace BB := Lib.hid (blk_next hb BB.out)
  replace BC := Lib.hid (blk_next hb BC.out)
  clear hb
  have c_BC_0 := blk_cell BC.out 0 _ rfl
  have f_BC_0 := blk_frozen BC.out 0
  have c_BC_1 := blk_cell BC.out 1 _ rfl
  have f_BC_1 := blk_frozen BC.out 1
  have c_BC_2 := blk_cell BC.out 2 _ rfl
  have f_BC_2 := blk_frozen BC.out 2
  have l_BC := blk_lt BC.out
  go_wp2_with fail
  refine (ZC.out _).mono ?_
  rintro e w32 ⟨rfl, hb⟩
  clear c_BC_0 f_BC_0 c_BC_1 f_BC_1 c_BC_2 f_BC_2 l_BC
  replace NN := Lib.hid (Bgo NN.out hb)
  replace BA := Lib.hid (blk_next hb BA.out)
  replace BB := Lib.hid (blk_next hb BB.out)
  replace BC := Lib.hid (blk_next hb BC.out)
  clear hb
  have c_BA_0 := blk_cell BA.out 0 _ rfl
  have c_BA_1 := blk_cell BA.out 1 _ rfl
  have c_BA_2 := blk_cell BA.out 2 _ rfl
  have l_BA := blk_lt BA.out
  go_wp2_with fail
  clear c_BA_0 c_BA_1 c_BA_2 l_BA
  refine (CRA.out _).mono ?_
  rintro e w33 ⟨rfl, hb⟩
  replace NN := Lib.hid (Bgo NN.out hb)
  replace BA := Lib.hid (blk_next hb BA.out)
  replace BB := Lib.hid (blk_next hb BB.out)
  replace BC := Lib.hid (blk_next hb BC.out)
  clear hb
  have HB : Hid (Below w33.heap.size w33 (w33.alloc (.cells #[.int .i64 r1, .int .i64 r2, .int .i64 1] 23))) := Lib.hid (Bal (Below.refl _ _) _)
  have R1 := Lib.hid (blk_new w33 (.cells #[.int .i64 r1, .int .i64 r2, .int .i64 1] 23))
  have LT_R1 : Hid (w.heap.size < w33.heap.size ∧ w.heap.size + 1 < w33.heap.size ∧ w.heap.size + 1 + 1 < w33.heap.size ∧ w.heap.size ≤ w33.heap.size) := Lib.hid ⟨blk_lt BA.out, blk_lt BB.out, blk_lt BC.out, NN.out.size⟩
  replace NN := Lib.hid (Bgo NN.out HB.out)
  replace BA := Lib.hid (blk_next HB.out BA.out)
  replace BB := Lib.hid (blk_next HB.out BB.out)
  replace BC := Lib.hid (blk_next HB.out BC.out)
  clear HB
  have c_BB_0 := blk_cell BB.out 0 _ rfl
  have f_BB_0 := blk_frozen BB.out 0
  have c_BB_1 := blk_cell BB.out 1 _ rfl
  have f_BB_1 := blk_frozen BB.out 1
  have c_BB_2 := blk_cell BB.out 2 _ rfl
  have f_BB_2 := blk_frozen BB.out 2
  have l_BB := blk_lt BB.out
  go_wp2_with fail
  clear c_BB_0 f_BB_0 c_BB_1 f_BB_1 c_BB_2 f_BB_2 l_BB
  generalize w33.alloc (.cells #[.int .i64 r1, .int .i64 r2, .int .i64 1] 23) = W34 at *
  generalize w33.heap.size = g34 at *
  refine (CRB.out _).mono ?_
  rintro e w35 ⟨rfl, hb⟩
  replace NN := Lib.hid (Bgo NN.out hb)
  replace BA := Lib.hid (blk_next hb BA.out)
  replace BB := Lib.hid (blk_next hb BB.out)
  replace BC := Lib.hid (blk_next hb BC.out)
  replace R1 := Lib.hid (blk_next hb R1.out)
  clear hb
  have HB : Hid (Below w35.heap.size w35 (w35.alloc (.cells #[.int .i64 s1, .int .i64 s2, .int .i64 1] 23))) := Lib.hid (Bal (Below.refl _ _) _)
  have S1 := Lib.hid (blk_new w35 (.cells #[.int .i64 s1, .int .i64 s2, .int .i64 1] 23))
  have LT_S1 : Hid (w.heap.size < w35.heap.size ∧ w.heap.size + 1 < w35.heap.size ∧ w.heap.size + 1 + 1 < w35.heap.size ∧ g34 < w35.heap.size ∧ w.heap.size ≤ w35.heap.size) := Lib.hid ⟨blk_lt BA.out, blk_lt BB.out, blk_lt BC.out, blk_lt R1.out, NN.out.size⟩
  replace NN := Lib.hid (Bgo NN.out HB.out)
  replace BA := Lib.hid (blk_next HB.out BA.out)
  replace BB := Lib.hid (blk_next HB.out BB.out)
  replace BC := Lib.hid (blk_next HB.out BC.out)
  replace R1 := Lib.hid (blk_next HB.out R1.out)
  clear HB
  have c_R1_0 := blk_cell R1.out 0 _ rfl
  have c_R1_1 := blk_cell R1.out 1 _ rfl
  have c_R1_2 := blk_cell R1.out 2 _ rfl
  have l_R1 := blk_lt R1.out
  have c_S1_0 := blk_cell S1.out 0 _ rfl
  have c_S1_1 := blk_cell S1.out 1 _ rfl
  have c_S1_2 := blk_cell S1.out 2 _ rfl
  have l_S1 := blk_lt S1.out
  go_wp2_with fail
  clear c_R1_0 c_R1_1 c_R1_2 l_R1 c_S1_0 c_S1_1 c_S1_2 l_S1
  refine (RV.out _).mono ?_
  rintro e w37 ⟨rfl, hb⟩
  replace NN := Lib.hid (Bgo NN.out hb)
  replace BA := Lib.hid (blk_next hb BA.out)
  replace BB := Lib.hid (blk_next hb BB.out)
  replace BC := Lib.hid (blk_next hb BC.out)
  replace R1 := Lib.hid (blk_next hb R1.out)
  replace S1 := Lib.hid (blk_next hb S1.out)
  clear hb
  have c_R1_0 := blk_cell R1.out 0 _ rfl
  have f_R1_0 := blk_frozen R1.out 0
  have c_R1_1 := blk_cell R1.out 1 _ rfl
  have f_R1_1 := blk_frozen R1.out 1
  have c_R1_2 := blk_cell R1.out 2 _ rfl
  have f_R1_2 := blk_frozen R1.out 2
  have l_R1 := blk_lt R1.out
  go_wp2_with fail
  refine (GC.out _).mono ?_
  rintro e w38 ⟨rfl, nd, hnd⟩
  have hb := below_drewN (Below.refl w37.heap.size w37) nd
  rw [← hnd] at hb
  clear c_R1_0 f_R1_0 c_R1_1 f_R1_1 c_R1_2 f_R1_2 l_R1
  replace NN := Lib.hid (Bgo NN.out hb)
  replace BA := Lib.hid (blk_next hb BA.out)
  replace BB := Lib.hid (blk_next hb BB.out)
  replace BC := Lib.hid (blk_next hb BC.out)
  replace R1 := Lib.hid (blk_next hb R1.out)
  replace S1 := Lib.hid (blk_next hb S1.out)
  clear hb hnd
  have c_BA_0 := blk_cell BA.out 0 _ rfl
  have c_BA_1 := blk_cell BA.out 1 _ rfl
  have c_BA_2 := blk_cell BA.out 2 _ rfl
  have l_BA := blk_lt BA.out
  have c_BB_0 := blk_cell BB.out 0 _ rfl
  have c_BB_1 := blk_cell BB.out 1 _ rfl
  have c_BB_2 := blk_cell BB.out 2 _ rfl
  have l_BB := blk_lt BB.out
  go_wp2_with fail
  clear c_BA_0 c_BA_1 c_BA_2 l_BA c_BB_0 c_BB_1 c_BB_2 l_BB
  rcases DC.out with ⟨hz, _⟩ | ⟨_, ⟨dx, dy, dz, hd, _⟩ | hd⟩
  · rw [HZB.out] at hz; cases hz
  · have D := Lib.hid (fun W => div_calls hd W)
    have Q1 := QE.out _ _ _ hd
    clear DC HZB QE hd
    by_cases d1 : dy = 0
    · subst d1
      have d2 : decide ((0 : Int) < dx) = EB := by rw [Bool.eq_iff_iff, decide_eq_true_eq, Q1]; simp
      clear Q1
      refine (D.out _).mono ?_
      rintro e w39 ⟨rfl, hb⟩
      replace NN := Lib.hid (Bgo NN.out hb)
      replace BA := Lib.hid (blk_next hb BA.out)
      replace BB := Lib.hid (blk_next hb BB.out)
      replace BC := Lib.hid (blk_next hb BC.out)
      replace R1 := Lib.hid (blk_next hb R1.out)
      replace S1 := Lib.hid (blk_next hb S1.out)
      clear hb
      have HB : Hid (Below w39.heap.size w39 (w39.alloc (.cells #[.int .i64 dx, .int .i64 0, .int .i64 dz] 23))) := Lib.hid (Bal (Below.refl _ _) _)
      have Q := Lib.hid (blk_new w39 (.cells #[.int .i64 dx, .int .i64 0, .int .i64 dz] 23))
      have LT_Q : Hid (w.heap.size < w39.heap.size ∧ w.heap.size + 1 < w39.heap.size ∧ w.heap.size + 1 + 1 < w39.heap.size ∧ g34 < w39.heap.size ∧ w35.heap.size < w39.heap.size ∧ w.heap.size ≤ w39.heap.size) := Lib.hid ⟨blk_lt BA.out, blk_lt BB.out, blk_lt BC.out, blk_lt R1.out, blk_lt S1.out, NN.out.size⟩
      replace NN := Lib.hid (Bgo NN.out HB.out)
      replace BA := Lib.hid (blk_next HB.out BA.out)
      replace BB := Lib.hid (blk_next HB.out BB.out)
      replace BC := Lib.hid (blk_next HB.out BC.out)
      replace R1 := Lib.hid (blk_next HB.out R1.out)
      replace S1 := Lib.hid (blk_next HB.out S1.out)
      clear HB
      go_wp2_with fail
      generalize w39.alloc (.cells #[.int .i64 dx, .int .i64 0, .int .i64 dz] 23) = WS41 at *
      generalize w39.heap.size = gs41 at *
      refine region_I (S := SK [(3, g34, .cells #[.int .i64 r1, .int .i64 r2, .int .i64 1] 23), (4, w35.heap.size, .cells #[.int .i64 s1, .int .i64 s2, .int .i64 1] 23), (7, gs41, .cells #[.int .i64 dx, .int .i64 0, .int .i64 dz] 23), (11, gs41, .cells #[.int .i64 dx, .int .i64 0, .int .i64 dz] 23)]) (by kernel_rfl) ?_
      have HAL := Lib.hid (fun (k : Nat) => (show SK [(3, g34, .cells #[.int .i64 r1, .int .i64 r2, .int .i64 1] 23), (4, w35.heap.size, .cells #[.int .i64 s1, .int .i64 s2, .int .i64 1] 23), (7, gs41, .cells #[.int .i64 dx, .int .i64 0, .int .i64 dz] 23), (11, gs41, .cells #[.int .i64 dx, .int .i64 0, .int .i64 dz] 23)] k WS41.drew from fun p hp e => by
        simp only [List.mem_cons, List.not_mem_nil, or_false] at hp
        rcases hp with rfl | rfl | rfl | rfl
        · exact R1.out
        · exact S1.out
        · exact Q.out
        · exact Q.out))
      have HD := Lib.hid (Below.drew (Below.refl WS41.heap.size WS41))
      replace NN := Lib.hid (Bgo NN.out HD.out)
      replace BA := Lib.hid (blk_next HD.out BA.out)
      replace BB := Lib.hid (blk_next HD.out BB.out)
      replace BC := Lib.hid (blk_next HD.out BC.out)
      replace R1 := Lib.hid (blk_next HD.out R1.out)
      replace S1 := Lib.hid (blk_next HD.out S1.out)
      replace Q := Lib.hid (blk_next HD.out Q.out)
      clear HD
      refine only_I 0 (by kernel_rfl) rfl (fun K' hK' => ?_)
      go_simp
      refine hK'.out _ _ (fun k _ h => h) ?_
      clear hK' K'
      try simp only [Act.put, List.setIfInBounds_toArray, List.set_cons_zero, List.set_cons_succ]
      refine only_I 1 (by kernel_rfl) rfl (fun K' hK' => ?_)
      go_simp
      refine hK'.out _ _ (fun k _ h => h) ?_
      clear hK' K'
      try simp only [Act.put, List.setIfInBounds_toArray, List.set_cons_zero, List.set_cons_succ]
      refine only_I 2 (by kernel_rfl) rfl (fun K' hK' => ?_)
      go_simp
      refine hK'.out _ _ (fun k _ h => h) ?_
      clear hK' K'
      try simp only [Act.put, List.setIfInBounds_toArray, List.set_cons_zero, List.set_cons_succ]
      refine take_I 3 (Cv r1 r2 1) (some 103) rfl (by kernel_rfl) (by kernel_rfl) (by kernel_rfl) rfl (fun _ _ _ h => h) (Or.inl ⟨by rfl, ?_⟩) (HAL.out 3) ?_
      · intro X hX
        have hh := hX (3, g34, .cells #[.int .i64 r1, .int .i64 r2, .int .i64 1] 23) (List.Mem.head _) rfl
        have hh0 := blk_cell hh 0 _ rfl
        have hh1 := blk_cell hh 1 _ rfl
        have hh2 := blk_cell hh 2 _ rfl
        have hhl := blk_lt hh
        clear hh
        clear hX
        go_simp
      try simp only [Act.put, List.setIfInBounds_toArray, List.set_cons_zero, List.set_cons_succ]
      refine take_I 4 (Cv s1 s2 1) (some 104) rfl (by kernel_rfl) (by kernel_rfl) (by kernel_rfl) rfl (fun _ _ _ h => h) (Or.inl ⟨by rfl, ?_⟩) (HAL.out 4) ?_
      · intro X hX
        have hh := hX (4, w35.heap.size, .cells #[.int .i64 s1, .int .i64 s2, .int .i64 1] 23) (List.Mem.tail _ (List.Mem.head _)) rfl
        have hh0 := blk_cell hh 0 _ rfl
        have hh1 := blk_cell hh 1 _ rfl
        have hh2 := blk_cell hh 2 _ rfl
        have hhl := blk_lt hh
        clear hh
        clear hX
        go_simp
      try simp only [Act.put, List.setIfInBounds_toArray, List.set_cons_zero, List.set_cons_succ]
      refine take_I 6 (.pointer (some ⟨gs41, 1, none⟩)) (some 106) rfl (by kernel_rfl) (by kernel_rfl) (by kernel_rfl) rfl (fun _ _ _ h => h) (Or.inl ⟨by rfl, ?_⟩) (SK.drop (by simp)) ?_
      · intro X hX
        clear hX
        go_simp
      try simp only [Act.put, List.setIfInBounds_toArray, List.set_cons_zero, List.set_cons_succ]
      refine take_I 7 (.int .i64 0) (some 107) rfl (by kernel_rfl) (by kernel_rfl) (by kernel_rfl) rfl (fun _ _ _ h => h) (Or.inl ⟨by rfl, ?_⟩) (HAL.out 7) ?_
      · intro X hX
        have hh := hX (7, gs41, .cells #[.int .i64 dx, .int .i64 0, .int .i64 dz] 23) (List.Mem.tail _ (List.Mem.tail _ (List.Mem.head _))) rfl
        have hh1 := blk_cell hh 1 _ rfl
        have hhl := blk_lt hh
        clear hh
        clear hX
        go_simp
      try simp only [Act.put, List.setIfInBounds_toArray, List.set_cons_zero, List.set_cons_succ]
      have heb := HEB.out
      refine take_I 5 (.bool EB) (some 105) rfl (by kernel_rfl) (by kernel_rfl) (by kernel_rfl) rfl (fun _ _ _ h => h) (Or.inl ⟨by rfl, ?_⟩) (SK.drop (by simp)) ?_
      · intro X hX
        clear hX
        go_simp
      try simp only [Act.put, List.setIfInBounds_toArray, List.set_cons_zero, List.set_cons_succ]
      refine take_I 8 (.bool true) (some 108) rfl (by kernel_rfl) (by kernel_rfl) (by kernel_rfl) rfl (fun _ _ _ h => h) (Or.inl ⟨by rfl, ?_⟩) (SK.drop (by simp)) ?_
      · intro X hX
        clear hX
        go_simp
      try simp only [Act.put, List.setIfInBounds_toArray, List.set_cons_zero, List.set_cons_succ]
      refine take_I 9 (.bool true) (some 109) rfl (by kernel_rfl) (by kernel_rfl) (by kernel_rfl) rfl (fun _ _ _ h => h) (Or.inl ⟨by rfl, ?_⟩) (SK.drop (by simp)) ?_
      · intro X hX
        clear hX
        go_simp
      try simp only [Act.put, List.setIfInBounds_toArray, List.set_cons_zero, List.set_cons_succ]
      refine take_I 10 (.pointer (some ⟨gs41, 0, none⟩)) (some 110) rfl (by kernel_rfl) (by kernel_rfl) (by kernel_rfl) rfl (fun _ _ _ h => h) (Or.inl ⟨by rfl, ?_⟩) (SK.drop (by simp)) ?_
      · intro X hX
        clear hX
        go_simp
      try simp only [Act.put, List.setIfInBounds_toArray, List.set_cons_zero, List.set_cons_succ]
      refine take_I 11 (.int .i64 dx) (some 111) rfl (by kernel_rfl) (by kernel_rfl) (by kernel_rfl) rfl (fun _ _ _ h => h) (Or.inl ⟨by rfl, ?_⟩) (HAL.out 11) ?_
      · intro X hX
        have hh := hX (11, gs41, .cells #[.int .i64 dx, .int .i64 0, .int .i64 dz] 23) (List.Mem.tail _ (List.Mem.tail _ (List.Mem.tail _ (List.Mem.head _)))) rfl
        have hh0 := blk_cell hh 0 _ rfl
        have hhl := blk_lt hh
        clear hh
        clear hX
        go_simp
      try simp only [Act.put, List.setIfInBounds_toArray, List.set_cons_zero, List.set_cons_succ]
      refine take_I 12 (.bool EB) (some 112) rfl (by kernel_rfl) (by kernel_rfl) (by kernel_rfl) rfl (fun _ _ _ h => h) (Or.inl ⟨by rfl, ?_⟩) (SK.drop (by simp)) ?_
      · intro X hX
        clear hX
        go_simp
      try simp only [Act.put, List.setIfInBounds_toArray, List.set_cons_zero, List.set_cons_succ]
      refine take_I 13 (.bool EB) (some 113) rfl (by kernel_rfl) (by kernel_rfl) (by kernel_rfl) rfl (fun _ _ _ h => h) (Or.inl ⟨by rfl, ?_⟩) (SK.drop (by simp)) ?_
      · intro X hX
        clear hX
        go_simp
      try simp only [Act.put, List.setIfInBounds_toArray, List.set_cons_zero, List.set_cons_succ]
      refine take_I 14 (.bool false) (some 114) rfl (by kernel_rfl) (by kernel_rfl) (by kernel_rfl) rfl (fun _ _ _ h => h) (Or.inl ⟨by rfl, ?_⟩) (SK.drop (by simp)) ?_
      · intro X hX
        clear hX
        go_simp
      try simp only [Act.put, List.setIfInBounds_toArray, List.set_cons_zero, List.set_cons_succ]
      refine only_I 15 (by kernel_rfl) rfl (fun K' hK' => ?_)
      go_simp
      refine hK'.out _ _ (fun k _ h => h) ?_
      clear hK' K'
      try simp only [Act.put, List.setIfInBounds_toArray, List.set_cons_zero, List.set_cons_succ]
      clear heb d2
      clear HAL
      refine done_I (by kernel_rfl) ?_ _
      have c_BA_0 := blk_cell BA.out 0 _ rfl
      have c_BA_1 := blk_cell BA.out 1 _ rfl
      have c_BA_2 := blk_cell BA.out 2 _ rfl
      have l_BA := blk_lt BA.out
      have c_BB_0 := blk_cell BB.out 0 _ rfl
      have c_BB_1 := blk_cell BB.out 1 _ rfl
      have c_BB_2 := blk_cell BB.out 2 _ rfl
      have l_BB := blk_lt BB.out
      go_wp2_with fail
      clear c_BA_0 c_BA_1 c_BA_2 l_BA c_BB_0 c_BB_1 c_BB_2 l_BB
      rcases PC.out with ⟨px, py, pz, hp, _⟩ | hp
      rotate_left
      · have MP := Lib.hid (fun W => mul_calls _ _ _ _ _ _ _ _ _ _ hp W)
        clear hp PC PR
        rcases TC.out with ⟨tx, ty, tz, ht, _⟩ | ht
        · have MT := Lib.hid (fun W => mul_calls _ _ _ _ _ _ _ _ _ _ ht W)
          clear ht TC
          refine (MP.out _).mono ?_
          rintro e w42 ⟨rfl, hb⟩
          replace NN := Lib.hid (Bgo NN.out hb)
          replace BA := Lib.hid (blk_next hb BA.out)
          replace BB := Lib.hid (blk_next hb BB.out)
          replace BC := Lib.hid (blk_next hb BC.out)
          replace R1 := Lib.hid (blk_next hb R1.out)
          replace S1 := Lib.hid (blk_next hb S1.out)
          replace Q := Lib.hid (blk_next hb Q.out)
          clear hb
          have HB : Hid (Below w42.heap.size w42 (w42.alloc (.cells #[.int .i64 0, .int .i64 0, .int .i64 0] 23))) := Lib.hid (Bal (Below.refl _ _) _)
          have P := Lib.hid (blk_new w42 (.cells #[.int .i64 0, .int .i64 0, .int .i64 0] 23))
          have LT_P : Hid (w.heap.size < w42.heap.size ∧ w.heap.size + 1 < w42.heap.size ∧ w.heap.size + 1 + 1 < w42.heap.size ∧ g34 < w42.heap.size ∧ w35.heap.size < w42.heap.size ∧ gs41 < w42.heap.size ∧ w.heap.size ≤ w42.heap.size) := Lib.hid ⟨blk_lt BA.out, blk_lt BB.out, blk_lt BC.out, blk_lt R1.out, blk_lt S1.out, blk_lt Q.out, NN.out.size⟩
          replace NN := Lib.hid (Bgo NN.out HB.out)
          replace BA := Lib.hid (blk_next HB.out BA.out)
          replace BB := Lib.hid (blk_next HB.out BB.out)
          replace BC := Lib.hid (blk_next HB.out BC.out)
          replace R1 := Lib.hid (blk_next HB.out R1.out)
          replace S1 := Lib.hid (blk_next HB.out S1.out)
          replace Q := Lib.hid (blk_next HB.out Q.out)
          clear HB
          have c_R1_0 := blk_cell R1.out 0 _ rfl
          have f_R1_0 := blk_frozen R1.out 0
          have c_R1_1 := blk_cell R1.out 1 _ rfl
          have f_R1_1 := blk_frozen R1.out 1
          have c_R1_2 := blk_cell R1.out 2 _ rfl
          have f_R1_2 := blk_frozen R1.out 2
          have l_R1 := blk_lt R1.out
          have c_S1_0 := blk_cell S1.out 0 _ rfl
          have f_S1_0 := blk_frozen S1.out 0
          have c_S1_1 := blk_cell S1.out 1 _ rfl
          have f_S1_1 := blk_frozen S1.out 1
          have c_S1_2 := blk_cell S1.out 2 _ rfl
          have f_S1_2 := blk_frozen S1.out 2
          have l_S1 := blk_lt S1.out
          go_wp2_with fail
          clear c_R1_0 f_R1_0 c_R1_1 f_R1_1 c_R1_2 f_R1_2 l_R1 c_S1_0 f_S1_0 c_S1_1 f_S1_1 c_S1_2 f_S1_2 l_S1
          generalize w42.alloc (.cells #[.int .i64 0, .int .i64 0, .int .i64 0] 23) = W43 at *
          generalize w42.heap.size = g43 at *
          refine (MT.out _).mono ?_
          rintro e w44 ⟨rfl, hb⟩
          replace NN := Lib.hid (Bgo NN.out hb)
          replace BA := Lib.hid (blk_next hb BA.out)
          replace BB := Lib.hid (blk_next hb BB.out)
          replace BC := Lib.hid (blk_next hb BC.out)
          replace R1 := Lib.hid (blk_next hb R1.out)
          replace S1 := Lib.hid (blk_next hb S1.out)
          replace Q := Lib.hid (blk_next hb Q.out)
          replace P := Lib.hid (blk_next hb P.out)
          clear hb
          have HB : Hid (Below w44.heap.size w44 (w44.alloc (.cells #[.int .i64 tx, .int .i64 ty, .int .i64 tz] 23))) := Lib.hid (Bal (Below.refl _ _) _)
          have T := Lib.hid (blk_new w44 (.cells #[.int .i64 tx, .int .i64 ty, .int .i64 tz] 23))
          have LT_T : Hid (w.heap.size < w44.heap.size ∧ w.heap.size + 1 < w44.heap.size ∧ w.heap.size + 1 + 1 < w44.heap.size ∧ g34 < w44.heap.size ∧ w35.heap.size < w44.heap.size ∧ gs41 < w44.heap.size ∧ g43 < w44.heap.size ∧ w.heap.size ≤ w44.heap.size) := Lib.hid ⟨blk_lt BA.out, blk_lt BB.out, blk_lt BC.out, blk_lt R1.out, blk_lt S1.out, blk_lt Q.out, blk_lt P.out, NN.out.size⟩
          replace NN := Lib.hid (Bgo NN.out HB.out)
          replace BA := Lib.hid (blk_next HB.out BA.out)
          replace BB := Lib.hid (blk_next HB.out BB.out)
          replace BC := Lib.hid (blk_next HB.out BC.out)
          replace R1 := Lib.hid (blk_next HB.out R1.out)
          replace S1 := Lib.hid (blk_next HB.out S1.out)
          replace Q := Lib.hid (blk_next HB.out Q.out)
          replace P := Lib.hid (blk_next HB.out P.out)
          clear HB
          have c_BA_0 := blk_cell BA.out 0 _ rfl
          have c_BA_1 := blk_cell BA.out 1 _ rfl
          have c_BA_2 := blk_cell BA.out 2 _ rfl
          have l_BA := blk_lt BA.out
          have c_BB_0 := blk_cell BB.out 0 _ rfl
          have c_BB_1 := blk_cell BB.out 1 _ rfl
          have c_BB_2 := blk_cell BB.out 2 _ rfl
          have l_BB := blk_lt BB.out
          go_wp2_with fail
          clear c_BA_0 c_BA_1 c_BA_2 l_BA c_BB_0 c_BB_1 c_BB_2 l_BB
          refine (Ooab.out _).mono ?_
          rintro e w46 ⟨rfl, hb⟩
          replace NN := Lib.hid (Bgo NN.out hb)
          replace BA := Lib.hid (blk_next hb BA.out)
          replace BB := Lib.hid (blk_next hb BB.out)
          replace BC := Lib.hid (blk_next hb BC.out)
          replace R1 := Lib.hid (blk_next hb R1.out)
          replace S1 := Lib.hid (blk_next hb S1.out)
          replace Q := Lib.hid (blk_next hb Q.out)
          replace P := Lib.hid (blk_next hb P.out)
          replace T := Lib.hid (blk_next hb T.out)
          clear hb
          have c_BA_0 := blk_cell BA.out 0 _ rfl
          have f_BA_0 := blk_frozen BA.out 0
          have c_BA_1 := blk_cell BA.out 1 _ rfl
          have f_BA_1 := blk_frozen BA.out 1
          have c_BA_2 := blk_cell BA.out 2 _ rfl
          have f_BA_2 := blk_frozen BA.out 2
          have l_BA := blk_lt BA.out
          have c_BB_0 := blk_cell BB.out 0 _ rfl
          have f_BB_0 := blk_frozen BB.out 0
          have c_BB_1 := blk_cell BB.out 1 _ rfl
          have f_BB_1 := blk_frozen BB.out 1
          have c_BB_2 := blk_cell BB.out 2 _ rfl
          have f_BB_2 := blk_frozen BB.out 2
          have l_BB := blk_lt BB.out
          go_wp2_with fail
          refine (Ooba.out _).mono ?_
          rintro e w47 ⟨rfl, hb⟩
          clear c_BA_0 f_BA_0 c_BA_1 f_BA_1 c_BA_2 f_BA_2 l_BA c_BB_0 f_BB_0 c_BB_1 f_BB_1 c_BB_2 f_BB_2 l_BB
          replace NN := Lib.hid (Bgo NN.out hb)
          replace BA := Lib.hid (blk_next hb BA.out)
          replace BB := Lib.hid (blk_next hb BB.out)
          replace BC := Lib.hid (blk_next hb BC.out)
          replace R1 := Lib.hid (blk_next hb R1.out)
          replace S1 := Lib.hid (blk_next hb S1.out)
          replace Q := Lib.hid (blk_next hb Q.out)
          replace P := Lib.hid (blk_next hb P.out)
          replace T := Lib.hid (blk_next hb T.out)
          clear hb
          have c_R1_0 := blk_cell R1.out 0 _ rfl
          have f_R1_0 := blk_frozen R1.out 0
          have c_R1_1 := blk_cell R1.out 1 _ rfl
          have f_R1_1 := blk_frozen R1.out 1
          have c_R1_2 := blk_cell R1.out 2 _ rfl
          have f_R1_2 := blk_frozen R1.out 2
          have l_R1 := blk_lt R1.out
          have c_S1_0 := blk_cell S1.out 0 _ rfl
          have f_S1_0 := blk_frozen S1.out 0
          have c_S1_1 := blk_cell S1.out 1 _ rfl
          have f_S1_1 := blk_frozen S1.out 1
          have c_S1_2 := blk_cell S1.out 2 _ rfl
          have f_S1_2 := blk_frozen S1.out 2
          have l_S1 := blk_lt S1.out
          go_wp2_with fail
          refine (Oors.out _).mono ?_
          rintro e w48 ⟨rfl, hb⟩
          clear c_R1_0 f_R1_0 c_R1_1 f_R1_1 c_R1_2 f_R1_2 l_R1 c_S1_0 f_S1_0 c_S1_1 f_S1_1 c_S1_2 f_S1_2 l_S1
          replace NN := Lib.hid (Bgo NN.out hb)
          replace BA := Lib.hid (blk_next hb BA.out)
          replace BB := Lib.hid (blk_next hb BB.out)
          replace BC := Lib.hid (blk_next hb BC.out)
          replace R1 := Lib.hid (blk_next hb R1.out)
          replace S1 := Lib.hid (blk_next hb S1.out)
          replace Q := Lib.hid (blk_next hb Q.out)
          replace P := Lib.hid (blk_next hb P.out)
          replace T := Lib.hid (blk_next hb T.out)
          clear hb
          have c_BB_0 := blk_cell BB.out 0 _ rfl
          have f_BB_0 := blk_frozen BB.out 0
          have c_BB_1 := blk_cell BB.out 1 _ rfl
          have f_BB_1 := blk_frozen BB.out 1
          have c_BB_2 := blk_cell BB.out 2 _ rfl
          have f_BB_2 := blk_frozen BB.out 2
          have l_BB := blk_lt BB.out
          have c_BC_0 := blk_cell BC.out 0 _ rfl
          have f_BC_0 := blk_frozen BC.out 0
          have c_BC_1 := blk_cell BC.out 1 _ rfl
          have f_BC_1 := blk_frozen BC.out 1
          have c_BC_2 := blk_cell BC.out 2 _ rfl
          have f_BC_2 := blk_frozen BC.out 2
          have l_BC := blk_lt BC.out
          go_wp2_with fail
          refine (Oobc.out _).mono ?_
          rintro e w49 ⟨rfl, hb⟩
          clear c_BB_0 f_BB_0 c_BB_1 f_BB_1 c_BB_2 f_BB_2 l_BB c_BC_0 f_BC_0 c_BC_1 f_BC_1 c_BC_2 f_BC_2 l_BC
          replace NN := Lib.hid (Bgo NN.out hb)
          replace BA := Lib.hid (blk_next hb BA.out)
          replace BB := Lib.hid (blk_next hb BB.out)
          replace BC := Lib.hid (blk_next hb BC.out)
          replace R1 := Lib.hid (blk_next hb R1.out)
          replace S1 := Lib.hid (blk_next hb S1.out)
          replace Q := Lib.hid (blk_next hb Q.out)
          replace P := Lib.hid (blk_next hb P.out)
          replace T := Lib.hid (blk_next hb T.out)
          clear hb
          have c_BA_0 := blk_cell BA.out 0 _ rfl
          have f_BA_0 := blk_frozen BA.out 0
          have c_BA_1 := blk_cell BA.out 1 _ rfl
          have f_BA_1 := blk_frozen BA.out 1
          have c_BA_2 := blk_cell BA.out 2 _ rfl
          have f_BA_2 := blk_frozen BA.out 2
          have l_BA := blk_lt BA.out
          have c_BC_0 := blk_cell BC.out 0 _ rfl
          have f_BC_0 := blk_frozen BC.out 0
          have c_BC_1 := blk_cell BC.out 1 _ rfl
          have f_BC_1 := blk_frozen BC.out 1
          have c_BC_2 := blk_cell BC.out 2 _ rfl
          have f_BC_2 := blk_frozen BC.out 2
          have l_BC := blk_lt BC.out
          go_wp2_with fail
          refine (Ooac.out _).mono ?_
          rintro e w50 ⟨rfl, hb⟩
          clear c_BA_0 f_BA_0 c_BA_1 f_BA_1 c_BA_2 f_BA_2 l_BA c_BC_0 f_BC_0 c_BC_1 f_BC_1 c_BC_2 f_BC_2 l_BC
          replace NN := Lib.hid (Bgo NN.out hb)
          replace BA := Lib.hid (blk_next hb BA.out)
          replace BB := Lib.hid (blk_next hb BB.out)
          replace BC := Lib.hid (blk_next hb BC.out)
          replace R1 := Lib.hid (blk_next hb R1.out)
          replace S1 := Lib.hid (blk_next hb S1.out)
          replace Q := Lib.hid (blk_next hb Q.out)
          replace P := Lib.hid (blk_next hb P.out)
          replace T := Lib.hid (blk_next hb T.out)
          clear hb
          have heb := HEB.out
          have xe := HXE.out
          by_cases xl : X < 0
          · have xl' : decide (X < (0 : Int)) = true := decide_eq_true xl
            clear TR
            have c_R1_0 := blk_cell R1.out 0 _ rfl
            have c_R1_1 := blk_cell R1.out 1 _ rfl
            have c_R1_2 := blk_cell R1.out 2 _ rfl
            have l_R1 := blk_lt R1.out
            have c_S1_0 := blk_cell S1.out 0 _ rfl
            have c_S1_1 := blk_cell S1.out 1 _ rfl
            have c_S1_2 := blk_cell S1.out 2 _ rfl
            have l_S1 := blk_lt S1.out
            go_wp2_with fail
            go_ret
            exact ⟨rfl, NN.out⟩
          have xl' : decide (X < (0 : Int)) = false := decide_eq_false xl
          by_cases mn : M < 0
          · have mn' : decide (M < (0 : Int)) = true := decide_eq_true mn
            clear TR
            have c_R1_0 := blk_cell R1.out 0 _ rfl
            have c_R1_1 := blk_cell R1.out 1 _ rfl
            have c_R1_2 := blk_cell R1.out 2 _ rfl
            have l_R1 := blk_lt R1.out
            have c_S1_0 := blk_cell S1.out 0 _ rfl
            have c_S1_1 := blk_cell S1.out 1 _ rfl
            have c_S1_2 := blk_cell S1.out 2 _ rfl
            have l_S1 := blk_lt S1.out
            go_wp2_with fail
            go_ret
            exact ⟨rfl, NN.out⟩
          have mn' : decide (M < (0 : Int)) = false := decide_eq_false mn
          have on : decide ((0 : Int) ≤ O) = true := decide_eq_true (TR.out (by omega) (by omega))
          clear TR
          have c_R1_0 := blk_cell R1.out 0 _ rfl
          have c_R1_1 := blk_cell R1.out 1 _ rfl
          have c_R1_2 := blk_cell R1.out 2 _ rfl
          have l_R1 := blk_lt R1.out
          have c_S1_0 := blk_cell S1.out 0 _ rfl
          have c_S1_1 := blk_cell S1.out 1 _ rfl
          have c_S1_2 := blk_cell S1.out 2 _ rfl
          have l_S1 := blk_lt S1.out
          go_wp2_with fail
          go_ret
          exact ⟨rfl, NN.out⟩
        · have MT := Lib.hid (fun W => mul_calls _ _ _ _ _ _ _ _ _ _ ht W)
          clear ht TC
          refine (MP.out _).mono ?_
          rintro e w51 ⟨rfl, hb⟩
          replace NN := Lib.hid (Bgo NN.out hb)
          replace BA := Lib.hid (blk_next hb BA.out)
          replace BB := Lib.hid (blk_next hb BB.out)
          replace BC := Lib.hid (blk_next hb BC.out)
          replace R1 := Lib.hid (blk_next hb R1.out)
          replace S1 := Lib.hid (blk_next hb S1.out)
          replace Q := Lib.hid (blk_next hb Q.out)
          clear hb
          have HB : Hid (Below w51.heap.size w51 (w51.alloc (.cells #[.int .i64 0, .int .i64 0, .int .i64 0] 23))) := Lib.hid (Bal (Below.refl _ _) _)
          have P := Lib.hid (blk_new w51 (.cells #[.int .i64 0, .int .i64 0, .int .i64 0] 23))
          have LT_P : Hid (w.heap.size < w51.heap.size ∧ w.heap.size + 1 < w51.heap.size ∧ w.heap.size + 1 + 1 < w51.heap.size ∧ g34 < w51.heap.size ∧ w35.heap.size < w51.heap.size ∧ gs41 < w51.heap.size ∧ w.heap.size ≤ w51.heap.size) := Lib.hid ⟨blk_lt BA.out, blk_lt BB.out, blk_lt BC.out, blk_lt R1.out, blk_lt S1.out, blk_lt Q.out, NN.out.size⟩
          replace NN := Lib.hid (Bgo NN.out HB.out)
          replace BA := Lib.hid (blk_next HB.out BA.out)
          replace BB := Lib.hid (blk_next HB.out BB.out)
          replace BC := Lib.hid (blk_next HB.out BC.out)
          replace R1 := Lib.hid (blk_next HB.out R1.out)
          replace S1 := Lib.hid (blk_next HB.out S1.out)
          replace Q := Lib.hid (blk_next HB.out Q.out)
          clear HB
          have c_R1_0 := blk_cell R1.out 0 _ rfl
          have f_R1_0 := blk_frozen R1.out 0
          have c_R1_1 := blk_cell R1.out 1 _ rfl
          have f_R1_1 := blk_frozen R1.out 1
          have c_R1_2 := blk_cell R1.out 2 _ rfl
          have f_R1_2 := blk_frozen R1.out 2
          have l_R1 := blk_lt R1.out
          have c_S1_0 := blk_cell S1.out 0 _ rfl
          have f_S1_0 := blk_frozen S1.out 0
          have c_S1_1 := blk_cell S1.out 1 _ rfl
          have f_S1_1 := blk_frozen S1.out 1
          have c_S1_2 := blk_cell S1.out 2 _ rfl
          have f_S1_2 := blk_frozen S1.out 2
          have l_S1 := blk_lt S1.out
          go_wp2_with fail
          clear c_R1_0 f_R1_0 c_R1_1 f_R1_1 c_R1_2 f_R1_2 l_R1 c_S1_0 f_S1_0 c_S1_1 f_S1_1 c_S1_2 f_S1_2 l_S1
          generalize w51.alloc (.cells #[.int .i64 0, .int .i64 0, .int .i64 0] 23) = W52 at *
          generalize w51.heap.size = g52 at *
          refine (MT.out _).mono ?_
          rintro e w53 ⟨rfl, hb⟩
          replace NN := Lib.hid (Bgo NN.out hb)
          replace BA := Lib.hid (blk_next hb BA.out)
          replace BB := Lib.hid (blk_next hb BB.out)
          replace BC := Lib.hid (blk_next hb BC.out)
          replace R1 := Lib.hid (blk_next hb R1.out)
          replace S1 := Lib.hid (blk_next hb S1.out)
          replace Q := Lib.hid (blk_next hb Q.out)
          replace P := Lib.hid (blk_next hb P.out)
          clear hb
          have HB : Hid (Below w53.heap.size w53 (w53.alloc (.cells #[.int .i64 0, .int .i64 0, .int .i64 0] 23))) := Lib.hid (Bal (Below.refl _ _) _)
          have T := Lib.hid (blk_new w53 (.cells #[.int .i64 0, .int .i64 0, .int .i64 0] 23))
          have LT_T : Hid (w.heap.size < w53.heap.size ∧ w.heap.size + 1 < w53.heap.size ∧ w.heap.size + 1 + 1 < w53.heap.size ∧ g34 < w53.heap.size ∧ w35.heap.size < w53.heap.size ∧ gs41 < w53.heap.size ∧ g52 < w53.heap.size ∧ w.heap.size ≤ w53.heap.size) := Lib.hid ⟨blk_lt BA.out, blk_lt BB.out, blk_lt BC.out, blk_lt R1.out, blk_lt S1.out, blk_lt Q.out, blk_lt P.out, NN.out.size⟩
          replace NN := Lib.hid (Bgo NN.out HB.out)
          replace BA := Lib.hid (blk_next HB.out BA.out)
          replace BB := Lib.hid (blk_next HB.out BB.out)
          replace BC := Lib.hid (blk_next HB.out BC.out)
          replace R1 := Lib.hid (blk_next HB.out R1.out)
          replace S1 := Lib.hid (blk_next HB.out S1.out)
          replace Q := Lib.hid (blk_next HB.out Q.out)
          replace P := Lib.hid (blk_next HB.out P.out)
          clear HB
          have c_BA_0 := blk_cell BA.out 0 _ rfl
          have c_BA_1 := blk_cell BA.out 1 _ rfl
          have c_BA_2 := blk_cell BA.out 2 _ rfl
          have l_BA := blk_lt BA.out
          have c_BB_0 := blk_cell BB.out 0 _ rfl
          have c_BB_1 := blk_cell BB.out 1 _ rfl
          have c_BB_2 := blk_cell BB.out 2 _ rfl
          have l_BB := blk_lt BB.out
          go_wp2_with fail
          clear c_BA_0 c_BA_1 c_BA_2 l_BA c_BB_0 c_BB_1 c_BB_2 l_BB
          refine (Ooab.out _).mono ?_
          rintro e w55 ⟨rfl, hb⟩
          replace NN := Lib.hid (Bgo NN.out hb)
          replace BA := Lib.hid (blk_next hb BA.out)
          replace BB := Lib.hid (blk_next hb BB.out)
          replace BC := Lib.hid (blk_next hb BC.out)
          replace R1 := Lib.hid (blk_next hb R1.out)
          replace S1 := Lib.hid (blk_next hb S1.out)
          replace Q := Lib.hid (blk_next hb Q.out)
          replace P := Lib.hid (blk_next hb P.out)
          replace T := Lib.hid (blk_next hb T.out)
          clear hb
          have c_BA_0 := blk_cell BA.out 0 _ rfl
          have f_BA_0 := blk_frozen BA.out 0
          have c_BA_1 := blk_cell BA.out 1 _ rfl
          have f_BA_1 := blk_frozen BA.out 1
          have c_BA_2 := blk_cell BA.out 2 _ rfl
          have f_BA_2 := blk_frozen BA.out 2
          have l_BA := blk_lt BA.out
          have c_BB_0 := blk_cell BB.out 0 _ rfl
          have f_BB_0 := blk_frozen BB.out 0
          have c_BB_1 := blk_cell BB.out 1 _ rfl
          have f_BB_1 := blk_frozen BB.out 1
          have c_BB_2 := blk_cell BB.out 2 _ rfl
          have f_BB_2 := blk_frozen BB.out 2
          have l_BB := blk_lt BB.out
          go_wp2_with fail
          refine (Ooba.out _).mono ?_
          rintro e w56 ⟨rfl, hb⟩
          clear c_BA_0 f_BA_0 c_BA_1 f_BA_1 c_BA_2 f_BA_2 l_BA c_BB_0 f_BB_0 c_BB_1 f_BB_1 c_BB_2 f_BB_2 l_BB
          replace NN := Lib.hid (Bgo NN.out hb)
          replace BA := Lib.hid (blk_next hb BA.out)
          replace BB := Lib.hid (blk_next hb BB.out)
          replace BC := Lib.hid (blk_next hb BC.out)
          replace R1 := Lib.hid (blk_next hb R1.out)
          replace S1 := Lib.hid (blk_next hb S1.out)
          replace Q := Lib.hid (blk_next hb Q.out)
          replace P := Lib.hid (blk_next hb P.out)
          replace T := Lib.hid (blk_next hb T.out)
          clear hb
          have c_R1_0 := blk_cell R1.out 0 _ rfl
          have f_R1_0 := blk_frozen R1.out 0
          have c_R1_1 := blk_cell R1.out 1 _ rfl
          have f_R1_1 := blk_frozen R1.out 1
          have c_R1_2 := blk_cell R1.out 2 _ rfl
          have f_R1_2 := blk_frozen R1.out 2
          have l_R1 := blk_lt R1.out
          have c_S1_0 := blk_cell S1.out 0 _ rfl
          have f_S1_0 := blk_frozen S1.out 0
          have c_S1_1 := blk_cell S1.out 1 _ rfl
          have f_S1_1 := blk_frozen S1.out 1
          have c_S1_2 := blk_cell S1.out 2 _ rfl
          have f_S1_2 := blk_frozen S1.out 2
          have l_S1 := blk_lt S1.out
          go_wp2_with fail
          refine (Oors.out _).mono ?_
          rintro e w57 ⟨rfl, hb⟩
          clear c_R1_0 f_R1_0 c_R1_1 f_R1_1 c_R1_2 f_R1_2 l_R1 c_S1_0 f_S1_0 c_S1_1 f_S1_1 c_S1_2 f_S1_2 l_S1
          replace NN := Lib.hid (Bgo NN.out hb)
          replace BA := Lib.hid (blk_next hb BA.out)
          replace BB := Lib.hid (blk_next hb BB.out)
          replace BC := Lib.hid (blk_next hb BC.out)
          replace R1 := Lib.hid (blk_next hb R1.out)
          replace S1 := Lib.hid (blk_next hb S1.out)
          replace Q := Lib.hid (blk_next hb Q.out)
          replace P := Lib.hid (blk_next hb P.out)
          replace T := Lib.hid (blk_next hb T.out)
          clear hb
          have c_BB_0 := blk_cell BB.out 0 _ rfl
          have f_BB_0 := blk_frozen BB.out 0
          have c_BB_1 := blk_cell BB.out 1 _ rfl
          have f_BB_1 := blk_frozen BB.out 1
          have c_BB_2 := blk_cell BB.out 2 _ rfl
          have f_BB_2 := blk_frozen BB.out 2
          have l_BB := blk_lt BB.out
          have c_BC_0 := blk_cell BC.out 0 _ rfl
          have f_BC_0 := blk_frozen BC.out 0
          have c_BC_1 := blk_cell BC.out 1 _ rfl
          have f_BC_1 := blk_frozen BC.out 1
          have c_BC_2 := blk_cell BC.out 2 _ rfl
          have f_BC_2 := blk_frozen BC.out 2
          have l_BC := blk_lt BC.out
          go_wp2_with fail
          refine (Oobc.out _).mono ?_
          rintro e w58 ⟨rfl, hb⟩
          clear c_BB_0 f_BB_0 c_BB_1 f_BB_1 c_BB_2 f_BB_2 l_BB c_BC_0 f_BC_0 c_BC_1 f_BC_1 c_BC_2 f_BC_2 l_BC
          replace NN := Lib.hid (Bgo NN.out hb)
          replace BA := Lib.hid (blk_next hb BA.out)
          replace BB := Lib.hid (blk_next hb BB.out)
          replace BC := Lib.hid (blk_next hb BC.out)
          replace R1 := Lib.hid (blk_next hb R1.out)
          replace S1 := Lib.hid (blk_next hb S1.out)
          replace Q := Lib.hid (blk_next hb Q.out)
          replace P := Lib.hid (blk_next hb P.out)
          replace T := Lib.hid (blk_next hb T.out)
          clear hb
          have c_BA_0 := blk_cell BA.out 0 _ rfl
          have f_BA_0 := blk_frozen BA.out 0
          have c_BA_1 := blk_cell BA.out 1 _ rfl
          have f_BA_1 := blk_frozen BA.out 1
          have c_BA_2 := blk_cell BA.out 2 _ rfl
          have f_BA_2 := blk_frozen BA.out 2
          have l_BA := blk_lt BA.out
          have c_BC_0 := blk_cell BC.out 0 _ rfl
          have f_BC_0 := blk_frozen BC.out 0
          have c_BC_1 := blk_cell BC.out 1 _ rfl
          have f_BC_1 := blk_frozen BC.out 1
          have c_BC_2 := blk_cell BC.out 2 _ rfl
          have f_BC_2 := blk_frozen BC.out 2
          have l_BC := blk_lt BC.out
          go_wp2_with fail
          refine (Ooac.out _).mono ?_
          rintro e w59 ⟨rfl, hb⟩
          clear c_BA_0 f_BA_0 c_BA_1 f_BA_1 c_BA_2 f_BA_2 l_BA c_BC_0 f_BC_0 c_BC_1 f_BC_1 c_BC_2 f_BC_2 l_BC
          replace NN := Lib.hid (Bgo NN.out hb)
          replace BA := Lib.hid (blk_next hb BA.out)
          replace BB := Lib.hid (blk_next hb BB.out)
          replace BC := Lib.hid (blk_next hb BC.out)
          replace R1 := Lib.hid (blk_next hb R1.out)
          replace S1 := Lib.hid (blk_next hb S1.out)
          replace Q := Lib.hid (blk_next hb Q.out)
          replace P := Lib.hid (blk_next hb P.out)
          replace T := Lib.hid (blk_next hb T.out)
          clear hb
          have heb := HEB.out
          have xe := HXE.out
          by_cases xl : X < 0
          · have xl' : decide (X < (0 : Int)) = true := decide_eq_true xl
            clear TR
            have c_R1_0 := blk_cell R1.out 0 _ rfl
            have c_R1_1 := blk_cell R1.out 1 _ rfl
            have c_R1_2 := blk_cell R1.out 2 _ rfl
            have l_R1 := blk_lt R1.out
            have c_S1_0 := blk_cell S1.out 0 _ rfl
            have c_S1_1 := blk_cell S1.out 1 _ rfl
            have c_S1_2 := blk_cell S1.out 2 _ rfl
            have l_S1 := blk_lt S1.out
            go_wp2_with fail
            go_ret
            exact ⟨rfl, NN.out⟩
          have xl' : decide (X < (0 : Int)) = false := decide_eq_false xl
          by_cases mn : M < 0
          · have mn' : decide (M < (0 : Int)) = true := decide_eq_true mn
            clear TR
            have c_R1_0 := blk_cell R1.out 0 _ rfl
            have c_R1_1 := blk_cell R1.out 1 _ rfl
            have c_R1_2 := blk_cell R1.out 2 _ rfl
            have l_R1 := blk_lt R1.out
            have c_S1_0 := blk_cell S1.out 0 _ rfl
            have c_S1_1 := blk_cell S1.out 1 _ rfl
            have c_S1_2 := blk_cell S1.out 2 _ rfl
            have l_S1 := blk_lt S1.out
            go_wp2_with fail
            go_ret
            exact ⟨rfl, NN.out⟩
          have mn' : decide (M < (0 : Int)) = false := decide_eq_false mn
          have on : decide ((0 : Int) ≤ O) = true := decide_eq_true (TR.out (by omega) (by omega))
          clear TR
          have c_R1_0 := blk_cell R1.out 0 _ rfl
          have c_R1_1 := blk_cell R1.out 1 _ rfl
          have c_R1_2 := blk_cell R1.out 2 _ rfl
          have l_R1 := blk_lt R1.out
          have c_S1_0 := blk_cell S1.out 0 _ rfl
          have c_S1_1 := blk_cell S1.out 1 _ rfl
          have c_S1_2 := blk_cell S1.out 2 _ rfl
          have l_S1 := blk_lt S1.out
          go_wp2_with fail
          go_ret
          exact ⟨rfl, NN.out⟩
      have MP := Lib.hid (fun W => mul_calls _ _ _ _ _ _ _ _ _ _ hp W)
      rcases TC.out with ⟨tx, ty, tz, ht, _⟩ | ht
      rotate_left
      · have MT := Lib.hid (fun W => mul_calls _ _ _ _ _ _ _ _ _ _ ht W)
        clear ht hp TC PC PR
        refine (MP.out _).mono ?_
        rintro e w60 ⟨rfl, hb⟩
        replace NN := Lib.hid (Bgo NN.out hb)
        replace BA := Lib.hid (blk_next hb BA.out)
        replace BB := Lib.hid (blk_next hb BB.out)
        replace BC := Lib.hid (blk_next hb BC.out)
        replace R1 := Lib.hid (blk_next hb R1.out)
        replace S1 := Lib.hid (blk_next hb S1.out)
        replace Q := Lib.hid (blk_next hb Q.out)
        clear hb
        have HB : Hid (Below w60.heap.size w60 (w60.alloc (.cells #[.int .i64 px, .int .i64 py, .int .i64 pz] 23))) := Lib.hid (Bal (Below.refl _ _) _)
        have P := Lib.hid (blk_new w60 (.cells #[.int .i64 px, .int .i64 py, .int .i64 pz] 23))
        have LT_P : Hid (w.heap.size < w60.heap.size ∧ w.heap.size + 1 < w60.heap.size ∧ w.heap.size + 1 + 1 < w60.heap.size ∧ g34 < w60.heap.size ∧ w35.heap.size < w60.heap.size ∧ gs41 < w60.heap.size ∧ w.heap.size ≤ w60.heap.size) := Lib.hid ⟨blk_lt BA.out, blk_lt BB.out, blk_lt BC.out, blk_lt R1.out, blk_lt S1.out, blk_lt Q.out, NN.out.size⟩
        replace NN := Lib.hid (Bgo NN.out HB.out)
        replace BA := Lib.hid (blk_next HB.out BA.out)
        replace BB := Lib.hid (blk_next HB.out BB.out)
        replace BC := Lib.hid (blk_next HB.out BC.out)
        replace R1 := Lib.hid (blk_next HB.out R1.out)
        replace S1 := Lib.hid (blk_next HB.out S1.out)
        replace Q := Lib.hid (blk_next HB.out Q.out)
        clear HB
        have c_R1_0 := blk_cell R1.out 0 _ rfl
        have f_R1_0 := blk_frozen R1.out 0
        have c_R1_1 := blk_cell R1.out 1 _ rfl
        have f_R1_1 := blk_frozen R1.out 1
        have c_R1_2 := blk_cell R1.out 2 _ rfl
        have f_R1_2 := blk_frozen R1.out 2
        have l_R1 := blk_lt R1.out
        have c_S1_0 := blk_cell S1.out 0 _ rfl
        have f_S1_0 := blk_frozen S1.out 0
        have c_S1_1 := blk_cell S1.out 1 _ rfl
        have f_S1_1 := blk_frozen S1.out 1
        have c_S1_2 := blk_cell S1.out 2 _ rfl
        have f_S1_2 := blk_frozen S1.out 2
        have l_S1 := blk_lt S1.out
        go_wp2_with fail
        clear c_R1_0 f_R1_0 c_R1_1 f_R1_1 c_R1_2 f_R1_2 l_R1 c_S1_0 f_S1_0 c_S1_1 f_S1_1 c_S1_2 f_S1_2 l_S1
        generalize w60.alloc (.cells #[.int .i64 px, .int .i64 py, .int .i64 pz] 23) = W61 at *
        generalize w60.heap.size = g61 at *
        refine (MT.out _).mono ?_
        rintro e w62 ⟨rfl, hb⟩
        replace NN := Lib.hid (Bgo NN.out hb)
        replace BA := Lib.hid (blk_next hb BA.out)
        replace BB := Lib.hid (blk_next hb BB.out)
        replace BC := Lib.hid (blk_next hb BC.out)
        replace R1 := Lib.hid (blk_next hb R1.out)
        replace S1 := Lib.hid (blk_next hb S1.out)
        replace Q := Lib.hid (blk_next hb Q.out)
        replace P := Lib.hid (blk_next hb P.out)
        clear hb
        have HB : Hid (Below w62.heap.size w62 (w62.alloc (.cells #[.int .i64 0, .int .i64 0, .int .i64 0] 23))) := Lib.hid (Bal (Below.refl _ _) _)
        have T := Lib.hid (blk_new w62 (.cells #[.int .i64 0, .int .i64 0, .int .i64 0] 23))
        have LT_T : Hid (w.heap.size < w62.heap.size ∧ w.heap.size + 1 < w62.heap.size ∧ w.heap.size + 1 + 1 < w62.heap.size ∧ g34 < w62.heap.size ∧ w35.heap.size < w62.heap.size ∧ gs41 < w62.heap.size ∧ g61 < w62.heap.size ∧ w.heap.size ≤ w62.heap.size) := Lib.hid ⟨blk_lt BA.out, blk_lt BB.out, blk_lt BC.out, blk_lt R1.out, blk_lt S1.out, blk_lt Q.out, blk_lt P.out, NN.out.size⟩
        replace NN := Lib.hid (Bgo NN.out HB.out)
        replace BA := Lib.hid (blk_next HB.out BA.out)
        replace BB := Lib.hid (blk_next HB.out BB.out)
        replace BC := Lib.hid (blk_next HB.out BC.out)
        replace R1 := Lib.hid (blk_next HB.out R1.out)
        replace S1 := Lib.hid (blk_next HB.out S1.out)
        replace Q := Lib.hid (blk_next HB.out Q.out)
        replace P := Lib.hid (blk_next HB.out P.out)
        clear HB
        have c_BA_0 := blk_cell BA.out 0 _ rfl
        have c_BA_1 := blk_cell BA.out 1 _ rfl
        have c_BA_2 := blk_cell BA.out 2 _ rfl
        have l_BA := blk_lt BA.out
        have c_BB_0 := blk_cell BB.out 0 _ rfl
        have c_BB_1 := blk_cell BB.out 1 _ rfl
        have c_BB_2 := blk_cell BB.out 2 _ rfl
        have l_BB := blk_lt BB.out
        go_wp2_with fail
        clear c_BA_0 c_BA_1 c_BA_2 l_BA c_BB_0 c_BB_1 c_BB_2 l_BB
        refine (Ooab.out _).mono ?_
        rintro e w64 ⟨rfl, hb⟩
        replace NN := Lib.hid (Bgo NN.out hb)
        replace BA := Lib.hid (blk_next hb BA.out)
        replace BB := Lib.hid (blk_next hb BB.out)
        replace BC := Lib.hid (blk_next hb BC.out)
        replace R1 := Lib.hid (blk_next hb R1.out)
        replace S1 := Lib.hid (blk_next hb S1.out)
        replace Q := Lib.hid (blk_next hb Q.out)
        replace P := Lib.hid (blk_next hb P.out)
        replace T := Lib.hid (blk_next hb T.out)
        clear hb
        have c_BA_0 := blk_cell BA.out 0 _ rfl
        have f_BA_0 := blk_frozen BA.out 0
        have c_BA_1 := blk_cell BA.out 1 _ rfl
        have f_BA_1 := blk_frozen BA.out 1
        have c_BA_2 := blk_cell BA.out 2 _ rfl
        have f_BA_2 := blk_frozen BA.out 2
        have l_BA := blk_lt BA.out
        have c_BB_0 := blk_cell BB.out 0 _ rfl
        have f_BB_0 := blk_frozen BB.out 0
        have c_BB_1 := blk_cell BB.out 1 _ rfl
        have f_BB_1 := blk_frozen BB.out 1
        have c_BB_2 := blk_cell BB.out 2 _ rfl
        have f_BB_2 := blk_frozen BB.out 2
        have l_BB := blk_lt BB.out
        go_wp2_with fail
        refine (Ooba.out _).mono ?_
        rintro e w65 ⟨rfl, hb⟩
        clear c_BA_0 f_BA_0 c_BA_1 f_BA_1 c_BA_2 f_BA_2 l_BA c_BB_0 f_BB_0 c_BB_1 f_BB_1 c_BB_2 f_BB_2 l_BB
        replace NN := Lib.hid (Bgo NN.out hb)
        replace BA := Lib.hid (blk_next hb BA.out)
        replace BB := Lib.hid (blk_next hb BB.out)
        replace BC := Lib.hid (blk_next hb BC.out)
        replace R1 := Lib.hid (blk_next hb R1.out)
        replace S1 := Lib.hid (blk_next hb S1.out)
        replace Q := Lib.hid (blk_next hb Q.out)
        replace P := Lib.hid (blk_next hb P.out)
        replace T := Lib.hid (blk_next hb T.out)
        clear hb
        have c_R1_0 := blk_cell R1.out 0 _ rfl
        have f_R1_0 := blk_frozen R1.out 0
        have c_R1_1 := blk_cell R1.out 1 _ rfl
        have f_R1_1 := blk_frozen R1.out 1
        have c_R1_2 := blk_cell R1.out 2 _ rfl
        have f_R1_2 := blk_frozen R1.out 2
        have l_R1 := blk_lt R1.out
        have c_S1_0 := blk_cell S1.out 0 _ rfl
        have f_S1_0 := blk_frozen S1.out 0
        have c_S1_1 := blk_cell S1.out 1 _ rfl
        have f_S1_1 := blk_frozen S1.out 1
        have c_S1_2 := blk_cell S1.out 2 _ rfl
        have f_S1_2 := blk_frozen S1.out 2
        have l_S1 := blk_lt S1.out
        go_wp2_with fail
        refine (Oors.out _).mono ?_
        rintro e w66 ⟨rfl, hb⟩
        clear c_R1_0 f_R1_0 c_R1_1 f_R1_1 c_R1_2 f_R1_2 l_R1 c_S1_0 f_S1_0 c_S1_1 f_S1_1 c_S1_2 f_S1_2 l_S1
        replace NN := Lib.hid (Bgo NN.out hb)
        replace BA := Lib.hid (blk_next hb BA.out)
        replace BB := Lib.hid (blk_next hb BB.out)
        replace BC := Lib.hid (blk_next hb BC.out)
        replace R1 := Lib.hid (blk_next hb R1.out)
        replace S1 := Lib.hid (blk_next hb S1.out)
        replace Q := Lib.hid (blk_next hb Q.out)
        replace P := Lib.hid (blk_next hb P.out)
        replace T := Lib.hid (blk_next hb T.out)
        clear hb
        have c_BB_0 := blk_cell BB.out 0 _ rfl
        have f_BB_0 := blk_frozen BB.out 0
        have c_BB_1 := blk_cell BB.out 1 _ rfl
        have f_BB_1 := blk_frozen BB.out 1
        have c_BB_2 := blk_cell BB.out 2 _ rfl
        have f_BB_2 := blk_frozen BB.out 2
        have l_BB := blk_lt BB.out
        have c_BC_0 := blk_cell BC.out 0 _ rfl
        have f_BC_0 := blk_frozen BC.out 0
        have c_BC_1 := blk_cell BC.out 1 _ rfl
        have f_BC_1 := blk_frozen BC.out 1
        have c_BC_2 := blk_cell BC.out 2 _ rfl
        have f_BC_2 := blk_frozen BC.out 2
        have l_BC := blk_lt BC.out
        go_wp2_with fail
        refine (Oobc.out _).mono ?_
        rintro e w67 ⟨rfl, hb⟩
        clear c_BB_0 f_BB_0 c_BB_1 f_BB_1 c_BB_2 f_BB_2 l_BB c_BC_0 f_BC_0 c_BC_1 f_BC_1 c_BC_2 f_BC_2 l_BC
        replace NN := Lib.hid (Bgo NN.out hb)
        replace BA := Lib.hid (blk_next hb BA.out)
        replace BB := Lib.hid (blk_next hb BB.out)
        replace BC := Lib.hid (blk_next hb BC.out)
        replace R1 := Lib.hid (blk_next hb R1.out)
        replace S1 := Lib.hid (blk_next hb S1.out)
        replace Q := Lib.hid (blk_next hb Q.out)
        replace P := Lib.hid (blk_next hb P.out)
        replace T := Lib.hid (blk_next hb T.out)
        clear hb
        have c_BA_0 := blk_cell BA.out 0 _ rfl
        have f_BA_0 := blk_frozen BA.out 0
        have c_BA_1 := blk_cell BA.out 1 _ rfl
        have f_BA_1 := blk_frozen BA.out 1
        have c_BA_2 := blk_cell BA.out 2 _ rfl
        have f_BA_2 := blk_frozen BA.out 2
        have l_BA := blk_lt BA.out
        have c_BC_0 := blk_cell BC.out 0 _ rfl
        have f_BC_0 := blk_frozen BC.out 0
        have c_BC_1 := blk_cell BC.out 1 _ rfl
        have f_BC_1 := blk_frozen BC.out 1
        have c_BC_2 := blk_cell BC.out 2 _ rfl
        have f_BC_2 := blk_frozen BC.out 2
        have l_BC := blk_lt BC.out
        go_wp2_with fail
        refine (Ooac.out _).mono ?_
        rintro e w68 ⟨rfl, hb⟩
        clear c_BA_0 f_BA_0 c_BA_1 f_BA_1 c_BA_2 f_BA_2 l_BA c_BC_0 f_BC_0 c_BC_1 f_BC_1 c_BC_2 f_BC_2 l_BC
        replace NN := Lib.hid (Bgo NN.out hb)
        replace BA := Lib.hid (blk_next hb BA.out)
        replace BB := Lib.hid (blk_next hb BB.out)
        replace BC := Lib.hid (blk_next hb BC.out)
        replace R1 := Lib.hid (blk_next hb R1.out)
        replace S1 := Lib.hid (blk_next hb S1.out)
        replace Q := Lib.hid (blk_next hb Q.out)
        replace P := Lib.hid (blk_next hb P.out)
        replace T := Lib.hid (blk_next hb T.out)
        clear hb
        have heb := HEB.out
        have xe := HXE.out
        by_cases xl : X < 0
        · have xl' : decide (X < (0 : Int)) = true := decide_eq_true xl
          clear TR
          have c_R1_0 := blk_cell R1.out 0 _ rfl
          have c_R1_1 := blk_cell R1.out 1 _ rfl
          have c_R1_2 := blk_cell R1.out 2 _ rfl
          have l_R1 := blk_lt R1.out
          have c_S1_0 := blk_cell S1.out 0 _ rfl
          have c_S1_1 := blk_cell S1.out 1 _ rfl
          have c_S1_2 := blk_cell S1.out 2 _ rfl
          have l_S1 := blk_lt S1.out
          go_wp2_with fail
          go_ret
          exact ⟨rfl, NN.out⟩
        have xl' : decide (X < (0 : Int)) = false := decide_eq_false xl
        by_cases mn : M < 0
        · have mn' : decide (M < (0 : Int)) = true := decide_eq_true mn
          clear TR
          have c_R1_0 := blk_cell R1.out 0 _ rfl
          have c_R1_1 := blk_cell R1.out 1 _ rfl
          have c_R1_2 := blk_cell R1.out 2 _ rfl
          have l_R1 := blk_lt R1.out
          have c_S1_0 := blk_cell S1.out 0 _ rfl
          have c_S1_1 := blk_cell S1.out 1 _ rfl
          have c_S1_2 := blk_cell S1.out 2 _ rfl
          have l_S1 := blk_lt S1.out
          go_wp2_with fail
          go_ret
          exact ⟨rfl, NN.out⟩
        have mn' : decide (M < (0 : Int)) = false := decide_eq_false mn
        have on : decide ((0 : Int) ≤ O) = true := decide_eq_true (TR.out (by omega) (by omega))
        clear TR
        have c_R1_0 := blk_cell R1.out 0 _ rfl
        have c_R1_1 := blk_cell R1.out 1 _ rfl
        have c_R1_2 := blk_cell R1.out 2 _ rfl
        have l_R1 := blk_lt R1.out
        have c_S1_0 := blk_cell S1.out 0 _ rfl
        have c_S1_1 := blk_cell S1.out 1 _ rfl
        have c_S1_2 := blk_cell S1.out 2 _ rfl
        have l_S1 := blk_lt S1.out
        go_wp2_with fail
        go_ret
        exact ⟨rfl, NN.out⟩
      have MT := Lib.hid (fun W => mul_calls _ _ _ _ _ _ _ _ _ _ ht W)
      obtain ⟨u, v, hu, hv⟩ := PR.out _ _ _ _ _ _ hp ht
      have RP := Lib.hid (fun W => ray_calls hu W)
      have RT := Lib.hid (fun W => ray_calls hv W)
      clear ht hp hu hv TC PC PR
      refine (MP.out _).mono ?_
      rintro e w69 ⟨rfl, hb⟩
      replace NN := Lib.hid (Bgo NN.out hb)
      replace BA := Lib.hid (blk_next hb BA.out)
      replace BB := Lib.hid (blk_next hb BB.out)
      replace BC := Lib.hid (blk_next hb BC.out)
      replace R1 := Lib.hid (blk_next hb R1.out)
      replace S1 := Lib.hid (blk_next hb S1.out)
      replace Q := Lib.hid (blk_next hb Q.out)
      clear hb
      have HB : Hid (Below w69.heap.size w69 (w69.alloc (.cells #[.int .i64 px, .int .i64 py, .int .i64 pz] 23))) := Lib.hid (Bal (Below.refl _ _) _)
      have P := Lib.hid (blk_new w69 (.cells #[.int .i64 px, .int .i64 py, .int .i64 pz] 23))
      have LT_P : Hid (w.heap.size < w69.heap.size ∧ w.heap.size + 1 < w69.heap.size ∧ w.heap.size + 1 + 1 < w69.heap.size ∧ g34 < w69.heap.size ∧ w35.heap.size < w69.heap.size ∧ gs41 < w69.heap.size ∧ w.heap.size ≤ w69.heap.size) := Lib.hid ⟨blk_lt BA.out, blk_lt BB.out, blk_lt BC.out, blk_lt R1.out, blk_lt S1.out, blk_lt Q.out, NN.out.size⟩
      replace NN := Lib.hid (Bgo NN.out HB.out)
      replace BA := Lib.hid (blk_next HB.out BA.out)
      replace BB := Lib.hid (blk_next HB.out BB.out)
      replace BC := Lib.hid (blk_next HB.out BC.out)
      replace R1 := Lib.hid (blk_next HB.out R1.out)
      replace S1 := Lib.hid (blk_next HB.out S1.out)
      replace Q := Lib.hid (blk_next HB.out Q.out)
      clear HB
      have c_R1_0 := blk_cell R1.out 0 _ rfl
      have f_R1_0 := blk_frozen R1.out 0
      have c_R1_1 := blk_cell R1.out 1 _ rfl
      have f_R1_1 := blk_frozen R1.out 1
      have c_R1_2 := blk_cell R1.out 2 _ rfl
      have f_R1_2 := blk_frozen R1.out 2
      have l_R1 := blk_lt R1.out
      have c_S1_0 := blk_cell S1.out 0 _ rfl
      have f_S1_0 := blk_frozen S1.out 0
      have c_S1_1 := blk_cell S1.out 1 _ rfl
      have f_S1_1 := blk_frozen S1.out 1
      have c_S1_2 := blk_cell S1.out 2 _ rfl
      have f_S1_2 := blk_frozen S1.out 2
      have l_S1 := blk_lt S1.out
      go_wp2_with fail
      clear c_R1_0 f_R1_0 c_R1_1 f_R1_1 c_R1_2 f_R1_2 l_R1 c_S1_0 f_S1_0 c_S1_1 f_S1_1 c_S1_2 f_S1_2 l_S1
      generalize w69.alloc (.cells #[.int .i64 px, .int .i64 py, .int .i64 pz] 23) = W70 at *
      generalize w69.heap.size = g70 at *
      refine (MT.out _).mono ?_
      rintro e w71 ⟨rfl, hb⟩
      replace NN := Lib.hid (Bgo NN.out hb)
      replace BA := Lib.hid (blk_next hb BA.out)
      replace BB := Lib.hid (blk_next hb BB.out)
      replace BC := Lib.hid (blk_next hb BC.out)
      replace R1 := Lib.hid (blk_next hb R1.out)
      replace S1 := Lib.hid (blk_next hb S1.out)
      replace Q := Lib.hid (blk_next hb Q.out)
      replace P := Lib.hid (blk_next hb P.out)
      clear hb
      have HB : Hid (Below w71.heap.size w71 (w71.alloc (.cells #[.int .i64 tx, .int .i64 ty, .int .i64 tz] 23))) := Lib.hid (Bal (Below.refl _ _) _)
      have T := Lib.hid (blk_new w71 (.cells #[.int .i64 tx, .int .i64 ty, .int .i64 tz] 23))
      have LT_T : Hid (w.heap.size < w71.heap.size ∧ w.heap.size + 1 < w71.heap.size ∧ w.heap.size + 1 + 1 < w71.heap.size ∧ g34 < w71.heap.size ∧ w35.heap.size < w71.heap.size ∧ gs41 < w71.heap.size ∧ g70 < w71.heap.size ∧ w.heap.size ≤ w71.heap.size) := Lib.hid ⟨blk_lt BA.out, blk_lt BB.out, blk_lt BC.out, blk_lt R1.out, blk_lt S1.out, blk_lt Q.out, blk_lt P.out, NN.out.size⟩
      replace NN := Lib.hid (Bgo NN.out HB.out)
      replace BA := Lib.hid (blk_next HB.out BA.out)
      replace BB := Lib.hid (blk_next HB.out BB.out)
      replace BC := Lib.hid (blk_next HB.out BC.out)
      replace R1 := Lib.hid (blk_next HB.out R1.out)
      replace S1 := Lib.hid (blk_next HB.out S1.out)
      replace Q := Lib.hid (blk_next HB.out Q.out)
      replace P := Lib.hid (blk_next HB.out P.out)
      clear HB
      have c_P_0 := blk_cell P.out 0 _ rfl
      have c_P_1 := blk_cell P.out 1 _ rfl
      have c_P_2 := blk_cell P.out 2 _ rfl
      have l_P := blk_lt P.out
      go_wp2_with fail
      clear c_P_0 c_P_1 c_P_2 l_P
      refine (RP.out _).mono ?_
      rintro e w73 ⟨rfl, hb⟩
      replace NN := Lib.hid (Bgo NN.out hb)
      replace BA := Lib.hid (blk_next hb BA.out)
      replace BB := Lib.hid (blk_next hb BB.out)
      replace BC := Lib.hid (blk_next hb BC.out)
      replace R1 := Lib.hid (blk_next hb R1.out)
      replace S1 := Lib.hid (blk_next hb S1.out)
      replace Q := Lib.hid (blk_next hb Q.out)
      replace P := Lib.hid (blk_next hb P.out)
      replace T := Lib.hid (blk_next hb T.out)
      clear hb
      have HB : Hid (Below w73.heap.size w73 (w73.alloc (.cells #[.int .i64 u, .int .i64 v, .int .i64 1] 23))) := Lib.hid (Bal (Below.refl _ _) _)
      have U1 := Lib.hid (blk_new w73 (.cells #[.int .i64 u, .int .i64 v, .int .i64 1] 23))
      have LT_U1 : Hid (w.heap.size < w73.heap.size ∧ w.heap.size + 1 < w73.heap.size ∧ w.heap.size + 1 + 1 < w73.heap.size ∧ g34 < w73.heap.size ∧ w35.heap.size < w73.heap.size ∧ gs41 < w73.heap.size ∧ g70 < w73.heap.size ∧ w71.heap.size < w73.heap.size ∧ w.heap.size ≤ w73.heap.size) := Lib.hid ⟨blk_lt BA.out, blk_lt BB.out, blk_lt BC.out, blk_lt R1.out, blk_lt S1.out, blk_lt Q.out, blk_lt P.out, blk_lt T.out, NN.out.size⟩
      replace NN := Lib.hid (Bgo NN.out HB.out)
      replace BA := Lib.hid (blk_next HB.out BA.out)
      replace BB := Lib.hid (blk_next HB.out BB.out)
      replace BC := Lib.hid (blk_next HB.out BC.out)
      replace R1 := Lib.hid (blk_next HB.out R1.out)
      replace S1 := Lib.hid (blk_next HB.out S1.out)
      replace Q := Lib.hid (blk_next HB.out Q.out)
      replace P := Lib.hid (blk_next HB.out P.out)
      replace T := Lib.hid (blk_next HB.out T.out)
      clear HB
      have c_T_0 := blk_cell T.out 0 _ rfl
      have f_T_0 := blk_frozen T.out 0
      have c_T_1 := blk_cell T.out 1 _ rfl
      have f_T_1 := blk_frozen T.out 1
      have c_T_2 := blk_cell T.out 2 _ rfl
      have f_T_2 := blk_frozen T.out 2
      have l_T := blk_lt T.out
      go_wp2_with fail
      clear c_T_0 f_T_0 c_T_1 f_T_1 c_T_2 f_T_2 l_T
      generalize w73.alloc (.cells #[.int .i64 u, .int .i64 v, .int .i64 1] 23) = W74 at *
      generalize w73.heap.size = g74 at *
      refine (RT.out _).mono ?_
      rintro e w75 ⟨rfl, hb⟩
      replace NN := Lib.hid (Bgo NN.out hb)
      replace BA := Lib.hid (blk_next hb BA.out)
      replace BB := Lib.hid (blk_next hb BB.out)
      replace BC := Lib.hid (blk_next hb BC.out)
      replace R1 := Lib.hid (blk_next hb R1.out)
      replace S1 := Lib.hid (blk_next hb S1.out)
      replace Q := Lib.hid (blk_next hb Q.out)
      replace P := Lib.hid (blk_next hb P.out)
      replace T := Lib.hid (blk_next hb T.out)
      replace U1 := Lib.hid (blk_next hb U1.out)
      clear hb
      have HB : Hid (Below w75.heap.size w75 (w75.alloc (.cells #[.int .i64 u, .int .i64 v, .int .i64 1] 23))) := Lib.hid (Bal (Below.refl _ _) _)
      have U2 := Lib.hid (blk_new w75 (.cells #[.int .i64 u, .int .i64 v, .int .i64 1] 23))
      have LT_U2 : Hid (w.heap.size < w75.heap.size ∧ w.heap.size + 1 < w75.heap.size ∧ w.heap.size + 1 + 1 < w75.heap.size ∧ g34 < w75.heap.size ∧ w35.heap.size < w75.heap.size ∧ gs41 < w75.heap.size ∧ g70 < w75.heap.size ∧ w71.heap.size < w75.heap.size ∧ g74 < w75.heap.size ∧ w.heap.size ≤ w75.heap.size) := Lib.hid ⟨blk_lt BA.out, blk_lt BB.out, blk_lt BC.out, blk_lt R1.out, blk_lt S1.out, blk_lt Q.out, blk_lt P.out, blk_lt T.out, blk_lt U1.out, NN.out.size⟩
      replace NN := Lib.hid (Bgo NN.out HB.out)
      replace BA := Lib.hid (blk_next HB.out BA.out)
      replace BB := Lib.hid (blk_next HB.out BB.out)
      replace BC := Lib.hid (blk_next HB.out BC.out)
      replace R1 := Lib.hid (blk_next HB.out R1.out)
      replace S1 := Lib.hid (blk_next HB.out S1.out)
      replace Q := Lib.hid (blk_next HB.out Q.out)
      replace P := Lib.hid (blk_next HB.out P.out)
      replace T := Lib.hid (blk_next HB.out T.out)
      replace U1 := Lib.hid (blk_next HB.out U1.out)
      clear HB
      have c_BA_0 := blk_cell BA.out 0 _ rfl
      have c_BA_1 := blk_cell BA.out 1 _ rfl
      have c_BA_2 := blk_cell BA.out 2 _ rfl
      have l_BA := blk_lt BA.out
      have c_BB_0 := blk_cell BB.out 0 _ rfl
      have c_BB_1 := blk_cell BB.out 1 _ rfl
      have c_BB_2 := blk_cell BB.out 2 _ rfl
      have l_BB := blk_lt BB.out
      have c_U1_0 := blk_cell U1.out 0 _ rfl
      have c_U1_1 := blk_cell U1.out 1 _ rfl
      have c_U1_2 := blk_cell U1.out 2 _ rfl
      have l_U1 := blk_lt U1.out
      have c_U2_0 := blk_cell U2.out 0 _ rfl
      have c_U2_1 := blk_cell U2.out 1 _ rfl
      have c_U2_2 := blk_cell U2.out 2 _ rfl
      have l_U2 := blk_lt U2.out
      go_wp2_with fail
      clear c_BA_0 c_BA_1 c_BA_2 l_BA c_BB_0 c_BB_1 c_BB_2 l_BB c_U1_0 c_U1_1 c_U1_2 l_U1 c_U2_0 c_U2_1 c_U2_2 l_U2
      refine (Ooab.out _).mono ?_
      rintro e w77 ⟨rfl, hb⟩
      replace NN := Lib.hid (Bgo NN.out hb)
      replace BA := Lib.hid (blk_next hb BA.out)
      replace BB := Lib.hid (blk_next hb BB.out)
      replace BC := Lib.hid (blk_next hb BC.out)
      replace R1 := Lib.hid (blk_next hb R1.out)
      replace S1 := Lib.hid (blk_next hb S1.out)
      replace Q := Lib.hid (blk_next hb Q.out)
      replace P := Lib.hid (blk_next hb P.out)
      replace T := Lib.hid (blk_next hb T.out)
      replace U1 := Lib.hid (blk_next hb U1.out)
      replace U2 := Lib.hid (blk_next hb U2.out)
      clear hb
      have c_BA_0 := blk_cell BA.out 0 _ rfl
      have f_BA_0 := blk_frozen BA.out 0
      have c_BA_1 := blk_cell BA.out 1 _ rfl
      have f_BA_1 := blk_frozen BA.out 1
      have c_BA_2 := blk_cell BA.out 2 _ rfl
      have f_BA_2 := blk_frozen BA.out 2
      have l_BA := blk_lt BA.out
      have c_BB_0 := blk_cell BB.out 0 _ rfl
      have f_BB_0 := blk_frozen BB.out 0
      have c_BB_1 := blk_cell BB.out 1 _ rfl
      have f_BB_1 := blk_frozen BB.out 1
      have c_BB_2 := blk_cell BB.out 2 _ rfl
      have f_BB_2 := blk_frozen BB.out 2
      have l_BB := blk_lt BB.out
      go_wp2_with fail
      refine (Ooba.out _).mono ?_
      rintro e w78 ⟨rfl, hb⟩
      clear c_BA_0 f_BA_0 c_BA_1 f_BA_1 c_BA_2 f_BA_2 l_BA c_BB_0 f_BB_0 c_BB_1 f_BB_1 c_BB_2 f_BB_2 l_BB
      replace NN := Lib.hid (Bgo NN.out hb)
      replace BA := Lib.hid (blk_next hb BA.out)
      replace BB := Lib.hid (blk_next hb BB.out)
      replace BC := Lib.hid (blk_next hb BC.out)
      replace R1 := Lib.hid (blk_next hb R1.out)
      replace S1 := Lib.hid (blk_next hb S1.out)
      replace Q := Lib.hid (blk_next hb Q.out)
      replace P := Lib.hid (blk_next hb P.out)
      replace T := Lib.hid (blk_next hb T.out)
      replace U1 := Lib.hid (blk_next hb U1.out)
      replace U2 := Lib.hid (blk_next hb U2.out)
      clear hb
      have c_R1_0 := blk_cell R1.out 0 _ rfl
      have f_R1_0 := blk_frozen R1.out 0
      have c_R1_1 := blk_cell R1.out 1 _ rfl
      have f_R1_1 := blk_frozen R1.out 1
      have c_R1_2 := blk_cell R1.out 2 _ rfl
      have f_R1_2 := blk_frozen R1.out 2
      have l_R1 := blk_lt R1.out
      have c_S1_0 := blk_cell S1.out 0 _ rfl
      have f_S1_0 := blk_frozen S1.out 0
      have c_S1_1 := blk_cell S1.out 1 _ rfl
      have f_S1_1 := blk_frozen S1.out 1
      have c_S1_2 := blk_cell S1.out 2 _ rfl
      have f_S1_2 := blk_frozen S1.out 2
      have l_S1 := blk_lt S1.out
      go_wp2_with fail
      refine (Oors.out _).mono ?_
      rintro e w79 ⟨rfl, hb⟩
      clear c_R1_0 f_R1_0 c_R1_1 f_R1_1 c_R1_2 f_R1_2 l_R1 c_S1_0 f_S1_0 c_S1_1 f_S1_1 c_S1_2 f_S1_2 l_S1
      replace NN := Lib.hid (Bgo NN.out hb)
      replace BA := Lib.hid (blk_next hb BA.out)
      replace BB := Lib.hid (blk_next hb BB.out)
      replace BC := Lib.hid (blk_next hb BC.out)
      replace R1 := Lib.hid (blk_next hb R1.out)
      replace S1 := Lib.hid (blk_next hb S1.out)
      replace Q := Lib.hid (blk_next hb Q.out)
      replace P := Lib.hid (blk_next hb P.out)
      replace T := Lib.hid (blk_next hb T.out)
      replace U1 := Lib.hid (blk_next hb U1.out)
      replace U2 := Lib.hid (blk_next hb U2.out)
      clear hb
      have c_BB_0 := blk_cell BB.out 0 _ rfl
      have f_BB_0 := blk_frozen BB.out 0
      have c_BB_1 := blk_cell BB.out 1 _ rfl
      have f_BB_1 := blk_frozen BB.out 1
      have c_BB_2 := blk_cell BB.out 2 _ rfl
      have f_BB_2 := blk_frozen BB.out 2
      have l_BB := blk_lt BB.out
      have c_BC_0 := blk_cell BC.out 0 _ rfl
      have f_BC_0 := blk_frozen BC.out 0
      have c_BC_1 := blk_cell BC.out 1 _ rfl
      have f_BC_1 := blk_frozen BC.out 1
      have c_BC_2 := blk_cell BC.out 2 _ rfl
      have f_BC_2 := blk_frozen BC.out 2
      have l_BC := blk_lt BC.out
      go_wp2_with fail
      refine (Oobc.out _).mono ?_
      rintro e w80 ⟨rfl, hb⟩
      clear c_BB_0 f_BB_0 c_BB_1 f_BB_1 c_BB_2 f_BB_2 l_BB c_BC_0 f_BC_0 c_BC_1 f_BC_1 c_BC_2 f_BC_2 l_BC
      replace NN := Lib.hid (Bgo NN.out hb)
      replace BA := Lib.hid (blk_next hb BA.out)
      replace BB := Lib.hid (blk_next hb BB.out)
      replace BC := Lib.hid (blk_next hb BC.out)
      replace R1 := Lib.hid (blk_next hb R1.out)
      replace S1 := Lib.hid (blk_next hb S1.out)
      replace Q := Lib.hid (blk_next hb Q.out)
      replace P := Lib.hid (blk_next hb P.out)
      replace T := Lib.hid (blk_next hb T.out)
      replace U1 := Lib.hid (blk_next hb U1.out)
      replace U2 := Lib.hid (blk_next hb U2.out)
      clear hb
      have c_BA_0 := blk_cell BA.out 0 _ rfl
      have f_BA_0 := blk_frozen BA.out 0
      have c_BA_1 := blk_cell BA.out 1 _ rfl
      have f_BA_1 := blk_frozen BA.out 1
      have c_BA_2 := blk_cell BA.out 2 _ rfl
      have f_BA_2 := blk_frozen BA.out 2
      have l_BA := blk_lt BA.out
      have c_BC_0 := blk_cell BC.out 0 _ rfl
      have f_BC_0 := blk_frozen BC.out 0
      have c_BC_1 := blk_cell BC.out 1 _ rfl
      have f_BC_1 := blk_frozen BC.out 1
      have c_BC_2 := blk_cell BC.out 2 _ rfl
      have f_BC_2 := blk_frozen BC.out 2
      have l_BC := blk_lt BC.out
      go_wp2_with fail
      refine (Ooac.out _).mono ?_
      rintro e w81 ⟨rfl, hb⟩
      clear c_BA_0 f_BA_0 c_BA_1 f_BA_1 c_BA_2 f_BA_2 l_BA c_BC_0 f_BC_0 c_BC_1 f_BC_1 c_BC_2 f_BC_2 l_BC
      replace NN := Lib.hid (Bgo NN.out hb)
      replace BA := Lib.hid (blk_next hb BA.out)
      replace BB := Lib.hid (blk_next hb BB.out)
      replace BC := Lib.hid (blk_next hb BC.out)
      replace R1 := Lib.hid (blk_next hb R1.out)
      replace S1 := Lib.hid (blk_next hb S1.out)
      replace Q := Lib.hid (blk_next hb Q.out)
      replace P := Lib.hid (blk_next hb P.out)
      replace T := Lib.hid (blk_next hb T.out)
      replace U1 := Lib.hid (blk_next hb U1.out)
      replace U2 := Lib.hid (blk_next hb U2.out)
      clear hb
      have heb := HEB.out
      have xe := HXE.out
      by_cases xl : X < 0
      · have xl' : decide (X < (0 : Int)) = true := decide_eq_true xl
        clear TR
        have c_R1_0 := blk_cell R1.out 0 _ rfl
        have c_R1_1 := blk_cell R1.out 1 _ rfl
        have c_R1_2 := blk_cell R1.out 2 _ rfl
        have l_R1 := blk_lt R1.out
        have c_S1_0 := blk_cell S1.out 0 _ rfl
        have c_S1_1 := blk_cell S1.out 1 _ rfl
        have c_S1_2 := blk_cell S1.out 2 _ rfl
        have l_S1 := blk_lt S1.out
        go_wp2_with fail
        go_ret
        exact ⟨rfl, NN.out⟩
      have xl' : decide (X < (0 : Int)) = false := decide_eq_false xl
      by_cases mn : M < 0
      · have mn' : decide (M < (0 : Int)) = true := decide_eq_true mn
        clear TR
        have c_R1_0 := blk_cell R1.out 0 _ rfl
        have c_R1_1 := blk_cell R1.out 1 _ rfl
        have c_R1_2 := blk_cell R1.out 2 _ rfl
        have l_R1 := blk_lt R1.out
        have c_S1_0 := blk_cell S1.out 0 _ rfl
        have c_S1_1 := blk_cell S1.out 1 _ rfl
        have c_S1_2 := blk_cell S1.out 2 _ rfl
        have l_S1 := blk_lt S1.out
        go_wp2_with fail
        go_ret
        exact ⟨rfl, NN.out⟩
      have mn' : decide (M < (0 : Int)) = false := decide_eq_false mn
      have on : decide ((0 : Int) ≤ O) = true := decide_eq_true (TR.out (by omega) (by omega))
      clear TR
      have c_R1_0 := blk_cell R1.out 0 _ rfl
      have c_R1_1 := blk_cell R1.out 1 _ rfl
      have c_R1_2 := blk_cell R1.out 2 _ rfl
      have l_R1 := blk_lt R1.out
      have c_S1_0 := blk_cell S1.out 0 _ rfl
      have c_S1_1 := blk_cell S1.out 1 _ rfl
      have c_S1_2 := blk_cell S1.out 2 _ rfl
      have l_S1 := blk_lt S1.out
      go_wp2_with fail
      go_ret
      exact ⟨rfl, NN.out⟩
    · have e0 : EB = false := by cases EB; rfl; exact absurd (Q1.1 rfl).1 d1
      subst e0
      have d2 : (dy == 0) = false := by rw [beq_eq_false_iff_ne]; exact d1
      clear d1 Q1
      refine (D.out _).mono ?_
      rintro e w82 ⟨rfl, hb⟩
      replace NN := Lib.hid (Bgo NN.out hb)
      replace BA := Lib.hid (blk_next hb BA.out)
      replace BB := Lib.hid (blk_next hb BB.out)
      replace BC := Lib.hid (blk_next hb BC.out)
      replace R1 := Lib.hid (blk_next hb R1.out)
      replace S1 := Lib.hid (blk_next hb S1.out)
      clear hb
      have HB : Hid (Below w82.heap.size w82 (w82.alloc (.cells #[.int .i64 dx, .int .i64 dy, .int .i64 dz] 23))) := Lib.hid (Bal (Below.refl _ _) _)
      have Q := Lib.hid (blk_new w82 (.cells #[.int .i64 dx, .int .i64 dy, .int .i64 dz] 23))
      have LT_Q : Hid (w.heap.size < w82.heap.size ∧ w.heap.size + 1 < w82.heap.size ∧ w.heap.size + 1 + 1 < w82.heap.size ∧ g34 < w82.heap.size ∧ w35.heap.size < w82.heap.size ∧ w.heap.size ≤ w82.heap.size) := Lib.hid ⟨blk_lt BA.out, blk_lt BB.out, blk_lt BC.out, blk_lt R1.out, blk_lt S1.out, NN.out.size⟩
      replace NN := Lib.hid (Bgo NN.out HB.out)
      replace BA := Lib.hid (blk_next HB.out BA.out)
      replace BB := Lib.hid (blk_next HB.out BB.out)
      replace BC := Lib.hid (blk_next HB.out BC.out)
      replace R1 := Lib.hid (blk_next HB.out R1.out)
      replace S1 := Lib.hid (blk_next HB.out S1.out)
      clear HB
      go_wp2_with fail
      generalize w82.alloc (.cells #[.int .i64 dx, .int .i64 dy, .int .i64 dz] 23) = WS84 at *
      generalize w82.heap.size = gs84 at *
      refine region_I (S := SK [(3, g34, .cells #[.int .i64 r1, .int .i64 r2, .int .i64 1] 23), (4, w35.heap.size, .cells #[.int .i64 s1, .int .i64 s2, .int .i64 1] 23), (7, gs84, .cells #[.int .i64 dx, .int .i64 dy, .int .i64 dz] 23), (11, gs84, .cells #[.int .i64 dx, .int .i64 dy, .int .i64 dz] 23)]) (by kernel_rfl) ?_
      have HAL := Lib.hid (fun (k : Nat) => (show SK [(3, g34, .cells #[.int .i64 r1, .int .i64 r2, .int .i64 1] 23), (4, w35.heap.size, .cells #[.int .i64 s1, .int .i64 s2, .int .i64 1] 23), (7, gs84, .cells #[.int .i64 dx, .int .i64 dy, .int .i64 dz] 23), (11, gs84, .cells #[.int .i64 dx, .int .i64 dy, .int .i64 dz] 23)] k WS84.drew from fun p hp e => by
        simp only [List.mem_cons, List.not_mem_nil, or_false] at hp
        rcases hp with rfl | rfl | rfl | rfl
        · exact R1.out
        · exact S1.out
        · exact Q.out
        · exact Q.out))
      have HD := Lib.hid (Below.drew (Below.refl WS84.heap.size WS84))
      replace NN := Lib.hid (Bgo NN.out HD.out)
      replace BA := Lib.hid (blk_next HD.out BA.out)
      replace BB := Lib.hid (blk_next HD.out BB.out)
      replace BC := Lib.hid (blk_next HD.out BC.out)
      replace R1 := Lib.hid (blk_next HD.out R1.out)
      replace S1 := Lib.hid (blk_next HD.out S1.out)
      replace Q := Lib.hid (blk_next HD.out Q.out)
      clear HD
      refine only_I 0 (by kernel_rfl) rfl (fun K' hK' => ?_)
      go_simp
      refine hK'.out _ _ (fun k _ h => h) ?_
      clear hK' K'
      try simp only [Act.put, List.setIfInBounds_toArray, List.set_cons_zero, List.set_cons_succ]
      refine only_I 1 (by kernel_rfl) rfl (fun K' hK' => ?_)
      go_simp
      refine hK'.out _ _ (fun k _ h => h) ?_
      clear hK' K'
      try simp only [Act.put, List.setIfInBounds_toArray, List.set_cons_zero, List.set_cons_succ]
      refine only_I 2 (by kernel_rfl) rfl (fun K' hK' => ?_)
      go_simp
      refine hK'.out _ _ (fun k _ h => h) ?_
      clear hK' K'
      try simp only [Act.put, List.setIfInBounds_toArray, List.set_cons_zero, List.set_cons_succ]
      refine take_I 3 (Cv r1 r2 1) (some 103) rfl (by kernel_rfl) (by kernel_rfl) (by kernel_rfl) rfl (fun _ _ _ h => h) (Or.inl ⟨by rfl, ?_⟩) (HAL.out 3) ?_
      · intro X hX
        have hh := hX (3, g34, .cells #[.int .i64 r1, .int .i64 r2, .int .i64 1] 23) (List.Mem.head _) rfl
        have hh0 := blk_cell hh 0 _ rfl
        have hh1 := blk_cell hh 1 _ rfl
        have hh2 := blk_cell hh 2 _ rfl
        have hhl := blk_lt hh
        clear hh
        clear hX
        go_simp
      try simp only [Act.put, List.setIfInBounds_toArray, List.set_cons_zero, List.set_cons_succ]
      refine take_I 4 (Cv s1 s2 1) (some 104) rfl (by kernel_rfl) (by kernel_rfl) (by kernel_rfl) rfl (fun _ _ _ h => h) (Or.inl ⟨by rfl, ?_⟩) (HAL.out 4) ?_
      · intro X hX
        have hh := hX (4, w35.heap.size, .cells #[.int .i64 s1, .int .i64 s2, .int .i64 1] 23) (List.Mem.tail _ (List.Mem.head _)) rfl
        have hh0 := blk_cell hh 0 _ rfl
        have hh1 := blk_cell hh 1 _ rfl
        have hh2 := blk_cell hh 2 _ rfl
        have hhl := blk_lt hh
        clear hh
        clear hX
        go_simp
      try simp only [Act.put, List.setIfInBounds_toArray, List.set_cons_zero, List.set_cons_succ]
      refine take_I 6 (.pointer (some ⟨gs84, 1, none⟩)) (some 106) rfl (by kernel_rfl) (by kernel_rfl) (by kernel_rfl) rfl (fun _ _ _ h => h) (Or.inl ⟨by rfl, ?_⟩) (SK.drop (by simp)) ?_
      · intro X hX
        clear hX
        go_simp
      try simp only [Act.put, List.setIfInBounds_toArray, List.set_cons_zero, List.set_cons_succ]
      refine take_I 7 (.int .i64 dy) (some 107) rfl (by kernel_rfl) (by kernel_rfl) (by kernel_rfl) rfl (fun _ _ _ h => h) (Or.inl ⟨by rfl, ?_⟩) (HAL.out 7) ?_
      · intro X hX
        have hh := hX (7, gs84, .cells #[.int .i64 dx, .int .i64 dy, .int .i64 dz] 23) (List.Mem.tail _ (List.Mem.tail _ (List.Mem.head _))) rfl
        have hh1 := blk_cell hh 1 _ rfl
        have hhl := blk_lt hh
        clear hh
        clear hX
        go_simp
      try simp only [Act.put, List.setIfInBounds_toArray, List.set_cons_zero, List.set_cons_succ]
      have heb := HEB.out
      refine take_I 5 (.bool false) (some 105) rfl (by kernel_rfl) (by kernel_rfl) (by kernel_rfl) rfl (fun _ _ _ h => h) (Or.inl ⟨by rfl, ?_⟩) (SK.drop (by simp)) ?_
      · intro X hX
        clear hX
        go_simp
      try simp only [Act.put, List.setIfInBounds_toArray, List.set_cons_zero, List.set_cons_succ]
      refine take_I 8 (.bool false) (some 108) rfl (by kernel_rfl) (by kernel_rfl) (by kernel_rfl) rfl (fun _ _ _ h => h) (Or.inl ⟨by rfl, ?_⟩) (SK.drop (by simp)) ?_
      · intro X hX
        clear hX
        go_simp
      try simp only [Act.put, List.setIfInBounds_toArray, List.set_cons_zero, List.set_cons_succ]
      refine take_I 9 (.bool false) (some 109) rfl (by kernel_rfl) (by kernel_rfl) (by kernel_rfl) rfl (fun _ _ _ h => h) (Or.inl ⟨by rfl, ?_⟩) (SK.drop (by simp)) ?_
      · intro X hX
        clear hX
        go_simp
      try simp only [Act.put, List.setIfInBounds_toArray, List.set_cons_zero, List.set_cons_succ]
      refine take_I 10 undef (some 110) rfl (by kernel_rfl) (by kernel_rfl) (by kernel_rfl) rfl (fun _ _ _ h => h) (Or.inr ⟨by rfl, rfl⟩) (HAL.out 10) ?_
      try simp only [Act.put, List.setIfInBounds_toArray, List.set_cons_zero, List.set_cons_succ]
      refine take_I 11 undef (some 111) rfl (by kernel_rfl) (by kernel_rfl) (by kernel_rfl) rfl (fun _ _ _ h => h) (Or.inr ⟨by rfl, rfl⟩) (HAL.out 11) ?_
      try simp only [Act.put, List.setIfInBounds_toArray, List.set_cons_zero, List.set_cons_succ]
      refine take_I 12 undef (some 112) rfl (by kernel_rfl) (by kernel_rfl) (by kernel_rfl) rfl (fun _ _ _ h => h) (Or.inr ⟨by rfl, rfl⟩) (HAL.out 12) ?_
      try simp only [Act.put, List.setIfInBounds_toArray, List.set_cons_zero, List.set_cons_succ]
      refine take_I 13 (.bool false) (some 113) rfl (by kernel_rfl) (by kernel_rfl) (by kernel_rfl) rfl (fun _ _ _ h => h) (Or.inl ⟨by rfl, ?_⟩) (SK.drop (by simp)) ?_
      · intro X hX
        clear hX
        go_simp
      try simp only [Act.put, List.setIfInBounds_toArray, List.set_cons_zero, List.set_cons_succ]
      refine take_I 14 (.bool false) (some 114) rfl (by kernel_rfl) (by kernel_rfl) (by kernel_rfl) rfl (fun _ _ _ h => h) (Or.inl ⟨by rfl, ?_⟩) (SK.drop (by simp)) ?_
      · intro X hX
        clear hX
        go_simp
      try simp only [Act.put, List.setIfInBounds_toArray, List.set_cons_zero, List.set_cons_succ]
      refine only_I 15 (by kernel_rfl) rfl (fun K' hK' => ?_)
      go_simp
      refine hK'.out _ _ (fun k _ h => h) ?_
      clear hK' K'
      try simp only [Act.put, List.setIfInBounds_toArray, List.set_cons_zero, List.set_cons_succ]
      clear heb d2
      clear HAL
      refine done_I (by kernel_rfl) ?_ _
      have c_BA_0 := blk_cell BA.out 0 _ rfl
      have c_BA_1 := blk_cell BA.out 1 _ rfl
      have c_BA_2 := blk_cell BA.out 2 _ rfl
      have l_BA := blk_lt BA.out
      have c_BB_0 := blk_cell BB.out 0 _ rfl
      have c_BB_1 := blk_cell BB.out 1 _ rfl
      have c_BB_2 := blk_cell BB.out 2 _ rfl
      have l_BB := blk_lt BB.out
      go_wp2_with fail
      clear c_BA_0 c_BA_1 c_BA_2 l_BA c_BB_0 c_BB_1 c_BB_2 l_BB
      rcases PC.out with ⟨px, py, pz, hp, _⟩ | hp
      rotate_left
      · have MP := Lib.hid (fun W => mul_calls _ _ _ _ _ _ _ _ _ _ hp W)
        clear hp PC PR
        rcases TC.out with ⟨tx, ty, tz, ht, _⟩ | ht
        · have MT := Lib.hid (fun W => mul_calls _ _ _ _ _ _ _ _ _ _ ht W)
          clear ht TC
          refine (MP.out _).mono ?_
          rintro e w85 ⟨rfl, hb⟩
          replace NN := Lib.hid (Bgo NN.out hb)
          replace BA := Lib.hid (blk_next hb BA.out)
          replace BB := Lib.hid (blk_next hb BB.out)
          replace BC := Lib.hid (blk_next hb BC.out)
          replace R1 := Lib.hid (blk_next hb R1.out)
          replace S1 := Lib.hid (blk_next hb S1.out)
          replace Q := Lib.hid (blk_next hb Q.out)
          clear hb
          have HB : Hid (Below w85.heap.size w85 (w85.alloc (.cells #[.int .i64 0, .int .i64 0, .int .i64 0] 23))) := Lib.hid (Bal (Below.refl _ _) _)
          have P := Lib.hid (blk_new w85 (.cells #[.int .i64 0, .int .i64 0, .int .i64 0] 23))
          have LT_P : Hid (w.heap.size < w85.heap.size ∧ w.heap.size + 1 < w85.heap.size ∧ w.heap.size + 1 + 1 < w85.heap.size ∧ g34 < w85.heap.size ∧ w35.heap.size < w85.heap.size ∧ gs84 < w85.heap.size ∧ w.heap.size ≤ w85.heap.size) := Lib.hid ⟨blk_lt BA.out, blk_lt BB.out, blk_lt BC.out, blk_lt R1.out, blk_lt S1.out, blk_lt Q.out, NN.out.size⟩
          replace NN := Lib.hid (Bgo NN.out HB.out)
          replace BA := Lib.hid (blk_next HB.out BA.out)
          replace BB := Lib.hid (blk_next HB.out BB.out)
          replace BC := Lib.hid (blk_next HB.out BC.out)
          replace R1 := Lib.hid (blk_next HB.out R1.out)
          replace S1 := Lib.hid (blk_next HB.out S1.out)
          replace Q := Lib.hid (blk_next HB.out Q.out)
          clear HB
          have c_R1_0 := blk_cell R1.out 0 _ rfl
          have f_R1_0 := blk_frozen R1.out 0
          have c_R1_1 := blk_cell R1.out 1 _ rfl
          have f_R1_1 := blk_frozen R1.out 1
          have c_R1_2 := blk_cell R1.out 2 _ rfl
          have f_R1_2 := blk_frozen R1.out 2
          have l_R1 := blk_lt R1.out
          have c_S1_0 := blk_cell S1.out 0 _ rfl
          have f_S1_0 := blk_frozen S1.out 0
          have c_S1_1 := blk_cell S1.out 1 _ rfl
          have f_S1_1 := blk_frozen S1.out 1
          have c_S1_2 := blk_cell S1.out 2 _ rfl
          have f_S1_2 := blk_frozen S1.out 2
          have l_S1 := blk_lt S1.out
          go_wp2_with fail
          clear c_R1_0 f_R1_0 c_R1_1 f_R1_1 c_R1_2 f_R1_2 l_R1 c_S1_0 f_S1_0 c_S1_1 f_S1_1 c_S1_2 f_S1_2 l_S1
          generalize w85.alloc (.cells #[.int .i64 0, .int .i64 0, .int .i64 0] 23) = W86 at *
          generalize w85.heap.size = g86 at *
          refine (MT.out _).mono ?_
          rintro e w87 ⟨rfl, hb⟩
          replace NN := Lib.hid (Bgo NN.out hb)
          replace BA := Lib.hid (blk_next hb BA.out)
          replace BB := Lib.hid (blk_next hb BB.out)
          replace BC := Lib.hid (blk_next hb BC.out)
          replace R1 := Lib.hid (blk_next hb R1.out)
          replace S1 := Lib.hid (blk_next hb S1.out)
          replace Q := Lib.hid (blk_next hb Q.out)
          replace P := Lib.hid (blk_next hb P.out)
          clear hb
          have HB : Hid (Below w87.heap.size w87 (w87.alloc (.cells #[.int .i64 tx, .int .i64 ty, .int .i64 tz] 23))) := Lib.hid (Bal (Below.refl _ _) _)
          have T := Lib.hid (blk_new w87 (.cells #[.int .i64 tx, .int .i64 ty, .int .i64 tz] 23))
          have LT_T : Hid (w.heap.size < w87.heap.size ∧ w.heap.size + 1 < w87.heap.size ∧ w.heap.size + 1 + 1 < w87.heap.size ∧ g34 < w87.heap.size ∧ w35.heap.size < w87.heap.size ∧ gs84 < w87.heap.size ∧ g86 < w87.heap.size ∧ w.heap.size ≤ w87.heap.size) := Lib.hid ⟨blk_lt BA.out, blk_lt BB.out, blk_lt BC.out, blk_lt R1.out, blk_lt S1.out, blk_lt Q.out, blk_lt P.out, NN.out.size⟩
          replace NN := Lib.hid (Bgo NN.out HB.out)
          replace BA := Lib.hid (blk_next HB.out BA.out)
          replace BB := Lib.hid (blk_next HB.out BB.out)
          replace BC := Lib.hid (blk_next HB.out BC.out)
          replace R1 := Lib.hid (blk_next HB.out R1.out)
          replace S1 := Lib.hid (blk_next HB.out S1.out)
          replace Q := Lib.hid (blk_next HB.out Q.out)
          replace P := Lib.hid (blk_next HB.out P.out)
          clear HB
          have c_BA_0 := blk_cell BA.out 0 _ rfl
          have c_BA_1 := blk_cell BA.out 1 _ rfl
          have c_BA_2 := blk_cell BA.out 2 _ rfl
          have l_BA := blk_lt BA.out
          have c_BB_0 := blk_cell BB.out 0 _ rfl
          have c_BB_1 := blk_cell BB.out 1 _ rfl
          have c_BB_2 := blk_cell BB.out 2 _ rfl
          have l_BB := blk_lt BB.out
          go_wp2_with fail
          clear c_BA_0 c_BA_1 c_BA_2 l_BA c_BB_0 c_BB_1 c_BB_2 l_BB
          refine (Ooab.out _).mono ?_
          rintro e w89 ⟨rfl, hb⟩
          replace NN := Lib.hid (Bgo NN.out hb)
          replace BA := Lib.hid (blk_next hb BA.out)
          replace BB := Lib.hid (blk_next hb BB.out)
          replace BC := Lib.hid (blk_next hb BC.out)
          replace R1 := Lib.hid (blk_next hb R1.out)
          replace S1 := Lib.hid (blk_next hb S1.out)
          replace Q := Lib.hid (blk_next hb Q.out)
          replace P := Lib.hid (blk_next hb P.out)
          replace T := Lib.hid (blk_next hb T.out)
          clear hb
          have c_BA_0 := blk_cell BA.out 0 _ rfl
          have f_BA_0 := blk_frozen BA.out 0
          have c_BA_1 := blk_cell BA.out 1 _ rfl
          have f_BA_1 := blk_frozen BA.out 1
          have c_BA_2 := blk_cell BA.out 2 _ rfl
          have f_BA_2 := blk_frozen BA.out 2
          have l_BA := blk_lt BA.out
          have c_BB_0 := blk_cell BB.out 0 _ rfl
          have f_BB_0 := blk_frozen BB.out 0
          have c_BB_1 := blk_cell BB.out 1 _ rfl
          have f_BB_1 := blk_frozen BB.out 1
          have c_BB_2 := blk_cell BB.out 2 _ rfl
          have f_BB_2 := blk_frozen BB.out 2
          have l_BB := blk_lt BB.out
          go_wp2_with fail
          refine (Ooba.out _).mono ?_
          rintro e w90 ⟨rfl, hb⟩
          clear c_BA_0 f_BA_0 c_BA_1 f_BA_1 c_BA_2 f_BA_2 l_BA c_BB_0 f_BB_0 c_BB_1 f_BB_1 c_BB_2 f_BB_2 l_BB
          replace NN := Lib.hid (Bgo NN.out hb)
          replace BA := Lib.hid (blk_next hb BA.out)
          replace BB := Lib.hid (blk_next hb BB.out)
          replace BC := Lib.hid (blk_next hb BC.out)
          replace R1 := Lib.hid (blk_next hb R1.out)
          replace S1 := Lib.hid (blk_next hb S1.out)
          replace Q := Lib.hid (blk_next hb Q.out)
          replace P := Lib.hid (blk_next hb P.out)
          replace T := Lib.hid (blk_next hb T.out)
          clear hb
          have c_R1_0 := blk_cell R1.out 0 _ rfl
          have f_R1_0 := blk_frozen R1.out 0
          have c_R1_1 := blk_cell R1.out 1 _ rfl
          have f_R1_1 := blk_frozen R1.out 1
          have c_R1_2 := blk_cell R1.out 2 _ rfl
          have f_R1_2 := blk_frozen R1.out 2
          have l_R1 := blk_lt R1.out
          have c_S1_0 := blk_cell S1.out 0 _ rfl
          have f_S1_0 := blk_frozen S1.out 0
          have c_S1_1 := blk_cell S1.out 1 _ rfl
          have f_S1_1 := blk_frozen S1.out 1
          have c_S1_2 := blk_cell S1.out 2 _ rfl
          have f_S1_2 := blk_frozen S1.out 2
          have l_S1 := blk_lt S1.out
          go_wp2_with fail
          refine (Oors.out _).mono ?_
          rintro e w91 ⟨rfl, hb⟩
          clear c_R1_0 f_R1_0 c_R1_1 f_R1_1 c_R1_2 f_R1_2 l_R1 c_S1_0 f_S1_0 c_S1_1 f_S1_1 c_S1_2 f_S1_2 l_S1
          replace NN := Lib.hid (Bgo NN.out hb)
          replace BA := Lib.hid (blk_next hb BA.out)
          replace BB := Lib.hid (blk_next hb BB.out)
          replace BC := Lib.hid (blk_next hb BC.out)
          replace R1 := Lib.hid (blk_next hb R1.out)
          replace S1 := Lib.hid (blk_next hb S1.out)
          replace Q := Lib.hid (blk_next hb Q.out)
          replace P := Lib.hid (blk_next hb P.out)
          replace T := Lib.hid (blk_next hb T.out)
          clear hb
          have c_BB_0 := blk_cell BB.out 0 _ rfl
          have f_BB_0 := blk_frozen BB.out 0
          have c_BB_1 := blk_cell BB.out 1 _ rfl
          have f_BB_1 := blk_frozen BB.out 1
          have c_BB_2 := blk_cell BB.out 2 _ rfl
          have f_BB_2 := blk_frozen BB.out 2
          have l_BB := blk_lt BB.out
          have c_BC_0 := blk_cell BC.out 0 _ rfl
          have f_BC_0 := blk_frozen BC.out 0
          have c_BC_1 := blk_cell BC.out 1 _ rfl
          have f_BC_1 := blk_frozen BC.out 1
          have c_BC_2 := blk_cell BC.out 2 _ rfl
          have f_BC_2 := blk_frozen BC.out 2
          have l_BC := blk_lt BC.out
          go_wp2_with fail
          refine (Oobc.out _).mono ?_
          rintro e w92 ⟨rfl, hb⟩
          clear c_BB_0 f_BB_0 c_BB_1 f_BB_1 c_BB_2 f_BB_2 l_BB c_BC_0 f_BC_0 c_BC_1 f_BC_1 c_BC_2 f_BC_2 l_BC
          replace NN := Lib.hid (Bgo NN.out hb)
          replace BA := Lib.hid (blk_next hb BA.out)
          replace BB := Lib.hid (blk_next hb BB.out)
          replace BC := Lib.hid (blk_next hb BC.out)
          replace R1 := Lib.hid (blk_next hb R1.out)
          replace S1 := Lib.hid (blk_next hb S1.out)
          replace Q := Lib.hid (blk_next hb Q.out)
          replace P := Lib.hid (blk_next hb P.out)
          replace T := Lib.hid (blk_next hb T.out)
          clear hb
          have c_BA_0 := blk_cell BA.out 0 _ rfl
          have f_BA_0 := blk_frozen BA.out 0
          have c_BA_1 := blk_cell BA.out 1 _ rfl
          have f_BA_1 := blk_frozen BA.out 1
          have c_BA_2 := blk_cell BA.out 2 _ rfl
          have f_BA_2 := blk_frozen BA.out 2
          have l_BA := blk_lt BA.out
          have c_BC_0 := blk_cell BC.out 0 _ rfl
          have f_BC_0 := blk_frozen BC.out 0
          have c_BC_1 := blk_cell BC.out 1 _ rfl
          have f_BC_1 := blk_frozen BC.out 1
          have c_BC_2 := blk_cell BC.out 2 _ rfl
          have f_BC_2 := blk_frozen BC.out 2
          have l_BC := blk_lt BC.out
          go_wp2_with fail
          refine (Ooac.out _).mono ?_
          rintro e w93 ⟨rfl, hb⟩
          clear c_BA_0 f_BA_0 c_BA_1 f_BA_1 c_BA_2 f_BA_2 l_BA c_BC_0 f_BC_0 c_BC_1 f_BC_1 c_BC_2 f_BC_2 l_BC
          replace NN := Lib.hid (Bgo NN.out hb)
          replace BA := Lib.hid (blk_next hb BA.out)
          replace BB := Lib.hid (blk_next hb BB.out)
          replace BC := Lib.hid (blk_next hb BC.out)
          replace R1 := Lib.hid (blk_next hb R1.out)
          replace S1 := Lib.hid (blk_next hb S1.out)
          replace Q := Lib.hid (blk_next hb Q.out)
          replace P := Lib.hid (blk_next hb P.out)
          replace T := Lib.hid (blk_next hb T.out)
          clear hb
          have heb := HEB.out
          have xe := HXE.out
          by_cases xl : X < 0
          · have xl' : decide (X < (0 : Int)) = true := decide_eq_true xl
            clear TR
            have c_R1_0 := blk_cell R1.out 0 _ rfl
            have c_R1_1 := blk_cell R1.out 1 _ rfl
            have c_R1_2 := blk_cell R1.out 2 _ rfl
            have l_R1 := blk_lt R1.out
            have c_S1_0 := blk_cell S1.out 0 _ rfl
            have c_S1_1 := blk_cell S1.out 1 _ rfl
            have c_S1_2 := blk_cell S1.out 2 _ rfl
            have l_S1 := blk_lt S1.out
            go_wp2_with fail
            go_ret
            exact ⟨rfl, NN.out⟩
          have xl' : decide (X < (0 : Int)) = false := decide_eq_false xl
          by_cases mn : M < 0
          · have mn' : decide (M < (0 : Int)) = true := decide_eq_true mn
            clear TR
            have c_R1_0 := blk_cell R1.out 0 _ rfl
            have c_R1_1 := blk_cell R1.out 1 _ rfl
            have c_R1_2 := blk_cell R1.out 2 _ rfl
            have l_R1 := blk_lt R1.out
            have c_S1_0 := blk_cell S1.out 0 _ rfl
            have c_S1_1 := blk_cell S1.out 1 _ rfl
            have c_S1_2 := blk_cell S1.out 2 _ rfl
            have l_S1 := blk_lt S1.out
            go_wp2_with fail
            go_ret
            exact ⟨rfl, NN.out⟩
          have mn' : decide (M < (0 : Int)) = false := decide_eq_false mn
          have on : decide ((0 : Int) ≤ O) = true := decide_eq_true (TR.out (by omega) (by omega))
          clear TR
          have c_R1_0 := blk_cell R1.out 0 _ rfl
          have c_R1_1 := blk_cell R1.out 1 _ rfl
          have c_R1_2 := blk_cell R1.out 2 _ rfl
          have l_R1 := blk_lt R1.out
          have c_S1_0 := blk_cell S1.out 0 _ rfl
          have c_S1_1 := blk_cell S1.out 1 _ rfl
          have c_S1_2 := blk_cell S1.out 2 _ rfl
          have l_S1 := blk_lt S1.out
          go_wp2_with fail
          go_ret
          exact ⟨rfl, NN.out⟩
        · have MT := Lib.hid (fun W => mul_calls _ _ _ _ _ _ _ _ _ _ ht W)
          clear ht TC
          refine (MP.out _).mono ?_
          rintro e w94 ⟨rfl, hb⟩
          replace NN := Lib.hid (Bgo NN.out hb)
          replace BA := Lib.hid (blk_next hb BA.out)
          replace BB := Lib.hid (blk_next hb BB.out)
          replace BC := Lib.hid (blk_next hb BC.out)
          replace R1 := Lib.hid (blk_next hb R1.out)
          replace S1 := Lib.hid (blk_next hb S1.out)
          replace Q := Lib.hid (blk_next hb Q.out)
          clear hb
          have HB : Hid (Below w94.heap.size w94 (w94.alloc (.cells #[.int .i64 0, .int .i64 0, .int .i64 0] 23))) := Lib.hid (Bal (Below.refl _ _) _)
          have P := Lib.hid (blk_new w94 (.cells #[.int .i64 0, .int .i64 0, .int .i64 0] 23))
          have LT_P : Hid (w.heap.size < w94.heap.size ∧ w.heap.size + 1 < w94.heap.size ∧ w.heap.size + 1 + 1 < w94.heap.size ∧ g34 < w94.heap.size ∧ w35.heap.size < w94.heap.size ∧ gs84 < w94.heap.size ∧ w.heap.size ≤ w94.heap.size) := Lib.hid ⟨blk_lt BA.out, blk_lt BB.out, blk_lt BC.out, blk_lt R1.out, blk_lt S1.out, blk_lt Q.out, NN.out.size⟩
          replace NN := Lib.hid (Bgo NN.out HB.out)
          replace BA := Lib.hid (blk_next HB.out BA.out)
          replace BB := Lib.hid (blk_next HB.out BB.out)
          replace BC := Lib.hid (blk_next HB.out BC.out)
          replace R1 := Lib.hid (blk_next HB.out R1.out)
          replace S1 := Lib.hid (blk_next HB.out S1.out)
          replace Q := Lib.hid (blk_next HB.out Q.out)
          clear HB
          have c_R1_0 := blk_cell R1.out 0 _ rfl
          have f_R1_0 := blk_frozen R1.out 0
          have c_R1_1 := blk_cell R1.out 1 _ rfl
          have f_R1_1 := blk_frozen R1.out 1
          have c_R1_2 := blk_cell R1.out 2 _ rfl
          have f_R1_2 := blk_frozen R1.out 2
          have l_R1 := blk_lt R1.out
          have c_S1_0 := blk_cell S1.out 0 _ rfl
          have f_S1_0 := blk_frozen S1.out 0
          have c_S1_1 := blk_cell S1.out 1 _ rfl
          have f_S1_1 := blk_frozen S1.out 1
          have c_S1_2 := blk_cell S1.out 2 _ rfl
          have f_S1_2 := blk_frozen S1.out 2
          have l_S1 := blk_lt S1.out
          go_wp2_with fail
          clear c_R1_0 f_R1_0 c_R1_1 f_R1_1 c_R1_2 f_R1_2 l_R1 c_S1_0 f_S1_0 c_S1_1 f_S1_1 c_S1_2 f_S1_2 l_S1
          generalize w94.alloc (.cells #[.int .i64 0, .int .i64 0, .int .i64 0] 23) = W95 at *
          generalize w94.heap.size = g95 at *
          refine (MT.out _).mono ?_
          rintro e w96 ⟨rfl, hb⟩
          replace NN := Lib.hid (Bgo NN.out hb)
          replace BA := Lib.hid (blk_next hb BA.out)
          replace BB := Lib.hid (blk_next hb BB.out)
          replace BC := Lib.hid (blk_next hb BC.out)
          replace R1 := Lib.hid (blk_next hb R1.out)
          replace S1 := Lib.hid (blk_next hb S1.out)
          replace Q := Lib.hid (blk_next hb Q.out)
          replace P := Lib.hid (blk_next hb P.out)
          clear hb
          have HB : Hid (Below w96.heap.size w96 (w96.alloc (.cells #[.int .i64 0, .int .i64 0, .int .i64 0] 23))) := Lib.hid (Bal (Below.refl _ _) _)
          have T := Lib.hid (blk_new w96 (.cells #[.int .i64 0, .int .i64 0, .int .i64 0] 23))
          have LT_T : Hid (w.heap.size < w96.heap.size ∧ w.heap.size + 1 < w96.heap.size ∧ w.heap.size + 1 + 1 < w96.heap.size ∧ g34 < w96.heap.size ∧ w35.heap.size < w96.heap.size ∧ gs84 < w96.heap.size ∧ g95 < w96.heap.size ∧ w.heap.size ≤ w96.heap.size) := Lib.hid ⟨blk_lt BA.out, blk_lt BB.out, blk_lt BC.out, blk_lt R1.out, blk_lt S1.out, blk_lt Q.out, blk_lt P.out, NN.out.size⟩
          replace NN := Lib.hid (Bgo NN.out HB.out)
          replace BA := Lib.hid (blk_next HB.out BA.out)
          replace BB := Lib.hid (blk_next HB.out BB.out)
          replace BC := Lib.hid (blk_next HB.out BC.out)
          replace R1 := Lib.hid (blk_next HB.out R1.out)
          replace S1 := Lib.hid (blk_next HB.out S1.out)
          replace Q := Lib.hid (blk_next HB.out Q.out)
          replace P := Lib.hid (blk_next HB.out P.out)
          clear HB
          have c_BA_0 := blk_cell BA.out 0 _ rfl
          have c_BA_1 := blk_cell BA.out 1 _ rfl
          have c_BA_2 := blk_cell BA.out 2 _ rfl
          have l_BA := blk_lt BA.out
          have c_BB_0 := blk_cell BB.out 0 _ rfl
          have c_BB_1 := blk_cell BB.out 1 _ rfl
          have c_BB_2 := blk_cell BB.out 2 _ rfl
          have l_BB := blk_lt BB.out
          go_wp2_with fail
          clear c_BA_0 c_BA_1 c_BA_2 l_BA c_BB_0 c_BB_1 c_BB_2 l_BB
          refine (Ooab.out _).mono ?_
          rintro e w98 ⟨rfl, hb⟩
          replace NN := Lib.hid (Bgo NN.out hb)
          replace BA := Lib.hid (blk_next hb BA.out)
          replace BB := Lib.hid (blk_next hb BB.out)
          replace BC := Lib.hid (blk_next hb BC.out)
          replace R1 := Lib.hid (blk_next hb R1.out)
          replace S1 := Lib.hid (blk_next hb S1.out)
          replace Q := Lib.hid (blk_next hb Q.out)
          replace P := Lib.hid (blk_next hb P.out)
          replace T := Lib.hid (blk_next hb T.out)
          clear hb
          have c_BA_0 := blk_cell BA.out 0 _ rfl
          have f_BA_0 := blk_frozen BA.out 0
          have c_BA_1 := blk_cell BA.out 1 _ rfl
          have f_BA_1 := blk_frozen BA.out 1
          have c_BA_2 := blk_cell BA.out 2 _ rfl
          have f_BA_2 := blk_frozen BA.out 2
          have l_BA := blk_lt BA.out
          have c_BB_0 := blk_cell BB.out 0 _ rfl
          have f_BB_0 := blk_frozen BB.out 0
          have c_BB_1 := blk_cell BB.out 1 _ rfl
          have f_BB_1 := blk_frozen BB.out 1
          have c_BB_2 := blk_cell BB.out 2 _ rfl
          have f_BB_2 := blk_frozen BB.out 2
          have l_BB := blk_lt BB.out
          go_wp2_with fail
          refine (Ooba.out _).mono ?_
          rintro e w99 ⟨rfl, hb⟩
          clear c_BA_0 f_BA_0 c_BA_1 f_BA_1 c_BA_2 f_BA_2 l_BA c_BB_0 f_BB_0 c_BB_1 f_BB_1 c_BB_2 f_BB_2 l_BB
          replace NN := Lib.hid (Bgo NN.out hb)
          replace BA := Lib.hid (blk_next hb BA.out)
          replace BB := Lib.hid (blk_next hb BB.out)
          replace BC := Lib.hid (blk_next hb BC.out)
          replace R1 := Lib.hid (blk_next hb R1.out)
          replace S1 := Lib.hid (blk_next hb S1.out)
          replace Q := Lib.hid (blk_next hb Q.out)
          replace P := Lib.hid (blk_next hb P.out)
          replace T := Lib.hid (blk_next hb T.out)
          clear hb
          have c_R1_0 := blk_cell R1.out 0 _ rfl
          have f_R1_0 := blk_frozen R1.out 0
          have c_R1_1 := blk_cell R1.out 1 _ rfl
          have f_R1_1 := blk_frozen R1.out 1
          have c_R1_2 := blk_cell R1.out 2 _ rfl
          have f_R1_2 := blk_frozen R1.out 2
          have l_R1 := blk_lt R1.out
          have c_S1_0 := blk_cell S1.out 0 _ rfl
          have f_S1_0 := blk_frozen S1.out 0
          have c_S1_1 := blk_cell S1.out 1 _ rfl
          have f_S1_1 := blk_frozen S1.out 1
          have c_S1_2 := blk_cell S1.out 2 _ rfl
          have f_S1_2 := blk_frozen S1.out 2
          have l_S1 := blk_lt S1.out
          go_wp2_with fail
          refine (Oors.out _).mono ?_
          rintro e w100 ⟨rfl, hb⟩
          clear c_R1_0 f_R1_0 c_R1_1 f_R1_1 c_R1_2 f_R1_2 l_R1 c_S1_0 f_S1_0 c_S1_1 f_S1_1 c_S1_2 f_S1_2 l_S1
          replace NN := Lib.hid (Bgo NN.out hb)
          replace BA := Lib.hid (blk_next hb BA.out)
          replace BB := Lib.hid (blk_next hb BB.out)
          replace BC := Lib.hid (blk_next hb BC.out)
          replace R1 := Lib.hid (blk_next hb R1.out)
          replace S1 := Lib.hid (blk_next hb S1.out)
          replace Q := Lib.hid (blk_next hb Q.out)
          replace P := Lib.hid (blk_next hb P.out)
          replace T := Lib.hid (blk_next hb T.out)
          clear hb
          have c_BB_0 := blk_cell BB.out 0 _ rfl
          have f_BB_0 := blk_frozen BB.out 0
          have c_BB_1 := blk_cell BB.out 1 _ rfl
          have f_BB_1 := blk_frozen BB.out 1
          have c_BB_2 := blk_cell BB.out 2 _ rfl
          have f_BB_2 := blk_frozen BB.out 2
          have l_BB := blk_lt BB.out
          have c_BC_0 := blk_cell BC.out 0 _ rfl
          have f_BC_0 := blk_frozen BC.out 0
          have c_BC_1 := blk_cell BC.out 1 _ rfl
          have f_BC_1 := blk_frozen BC.out 1
          have c_BC_2 := blk_cell BC.out 2 _ rfl
          have f_BC_2 := blk_frozen BC.out 2
          have l_BC := blk_lt BC.out
          go_wp2_with fail
          refine (Oobc.out _).mono ?_
          rintro e w101 ⟨rfl, hb⟩
          clear c_BB_0 f_BB_0 c_BB_1 f_BB_1 c_BB_2 f_BB_2 l_BB c_BC_0 f_BC_0 c_BC_1 f_BC_1 c_BC_2 f_BC_2 l_BC
          replace NN := Lib.hid (Bgo NN.out hb)
          replace BA := Lib.hid (blk_next hb BA.out)
          replace BB := Lib.hid (blk_next hb BB.out)
          replace BC := Lib.hid (blk_next hb BC.out)
          replace R1 := Lib.hid (blk_next hb R1.out)
          replace S1 := Lib.hid (blk_next hb S1.out)
          replace Q := Lib.hid (blk_next hb Q.out)
          replace P := Lib.hid (blk_next hb P.out)
          replace T := Lib.hid (blk_next hb T.out)
          clear hb
          have c_BA_0 := blk_cell BA.out 0 _ rfl
          have f_BA_0 := blk_frozen BA.out 0
          have c_BA_1 := blk_cell BA.out 1 _ rfl
          have f_BA_1 := blk_frozen BA.out 1
          have c_BA_2 := blk_cell BA.out 2 _ rfl
          have f_BA_2 := blk_frozen BA.out 2
          have l_BA := blk_lt BA.out
          have c_BC_0 := blk_cell BC.out 0 _ rfl
          have f_BC_0 := blk_frozen BC.out 0
          have c_BC_1 := blk_cell BC.out 1 _ rfl
          have f_BC_1 := blk_frozen BC.out 1
          have c_BC_2 := blk_cell BC.out 2 _ rfl
          have f_BC_2 := blk_frozen BC.out 2
          have l_BC := blk_lt BC.out
          go_wp2_with fail
          refine (Ooac.out _).mono ?_
          rintro e w102 ⟨rfl, hb⟩
          clear c_BA_0 f_BA_0 c_BA_1 f_BA_1 c_BA_2 f_BA_2 l_BA c_BC_0 f_BC_0 c_BC_1 f_BC_1 c_BC_2 f_BC_2 l_BC
          replace NN := Lib.hid (Bgo NN.out hb)
          replace BA := Lib.hid (blk_next hb BA.out)
          replace BB := Lib.hid (blk_next hb BB.out)
          replace BC := Lib.hid (blk_next hb BC.out)
          replace R1 := Lib.hid (blk_next hb R1.out)
          replace S1 := Lib.hid (blk_next hb S1.out)
          replace Q := Lib.hid (blk_next hb Q.out)
          replace P := Lib.hid (blk_next hb P.out)
          replace T := Lib.hid (blk_next hb T.out)
          clear hb
          have heb := HEB.out
          have xe := HXE.out
          by_cases xl : X < 0
          · have xl' : decide (X < (0 : Int)) = true := decide_eq_true xl
            clear TR
            have c_R1_0 := blk_cell R1.out 0 _ rfl
            have c_R1_1 := blk_cell R1.out 1 _ rfl
            have c_R1_2 := blk_cell R1.out 2 _ rfl
            have l_R1 := blk_lt R1.out
            have c_S1_0 := blk_cell S1.out 0 _ rfl
            have c_S1_1 := blk_cell S1.out 1 _ rfl
            have c_S1_2 := blk_cell S1.out 2 _ rfl
            have l_S1 := blk_lt S1.out
            go_wp2_with fail
            go_ret
            exact ⟨rfl, NN.out⟩
          have xl' : decide (X < (0 : Int)) = false := decide_eq_false xl
          by_cases mn : M < 0
          · have mn' : decide (M < (0 : Int)) = true := decide_eq_true mn
            clear TR
            have c_R1_0 := blk_cell R1.out 0 _ rfl
            have c_R1_1 := blk_cell R1.out 1 _ rfl
            have c_R1_2 := blk_cell R1.out 2 _ rfl
            have l_R1 := blk_lt R1.out
            have c_S1_0 := blk_cell S1.out 0 _ rfl
            have c_S1_1 := blk_cell S1.out 1 _ rfl
            have c_S1_2 := blk_cell S1.out 2 _ rfl
            have l_S1 := blk_lt S1.out
            go_wp2_with fail
            go_ret
            exact ⟨rfl, NN.out⟩
          have mn' : decide (M < (0 : Int)) = false := decide_eq_false mn
          have on : decide ((0 : Int) ≤ O) = true := decide_eq_true (TR.out (by omega) (by omega))
          clear TR
          have c_R1_0 := blk_cell R1.out 0 _ rfl
          have c_R1_1 := blk_cell R1.out 1 _ rfl
          have c_R1_2 := blk_cell R1.out 2 _ rfl
          have l_R1 := blk_lt R1.out
          have c_S1_0 := blk_cell S1.out 0 _ rfl
          have c_S1_1 := blk_cell S1.out 1 _ rfl
          have c_S1_2 := blk_cell S1.out 2 _ rfl
          have l_S1 := blk_lt S1.out
          go_wp2_with fail
          go_ret
          exact ⟨rfl, NN.out⟩
      have MP := Lib.hid (fun W => mul_calls _ _ _ _ _ _ _ _ _ _ hp W)
      rcases TC.out with ⟨tx, ty, tz, ht, _⟩ | ht
      rotate_left
      · have MT := Lib.hid (fun W => mul_calls _ _ _ _ _ _ _ _ _ _ ht W)
        clear ht hp TC PC PR
        refine (MP.out _).mono ?_
        rintro e w103 ⟨rfl, hb⟩
        replace NN := Lib.hid (Bgo NN.out hb)
        replace BA := Lib.hid (blk_next hb BA.out)
        replace BB := Lib.hid (blk_next hb BB.out)
        replace BC := Lib.hid (blk_next hb BC.out)
        replace R1 := Lib.hid (blk_next hb R1.out)
        replace S1 := Lib.hid (blk_next hb S1.out)
        replace Q := Lib.hid (blk_next hb Q.out)
        clear hb
        have HB : Hid (Below w103.heap.size w103 (w103.alloc (.cells #[.int .i64 px, .int .i64 py, .int .i64 pz] 23))) := Lib.hid (Bal (Below.refl _ _) _)
        have P := Lib.hid (blk_new w103 (.cells #[.int .i64 px, .int .i64 py, .int .i64 pz] 23))
        have LT_P : Hid (w.heap.size < w103.heap.size ∧ w.heap.size + 1 < w103.heap.size ∧ w.heap.size + 1 + 1 < w103.heap.size ∧ g34 < w103.heap.size ∧ w35.heap.size < w103.heap.size ∧ gs84 < w103.heap.size ∧ w.heap.size ≤ w103.heap.size) := Lib.hid ⟨blk_lt BA.out, blk_lt BB.out, blk_lt BC.out, blk_lt R1.out, blk_lt S1.out, blk_lt Q.out, NN.out.size⟩
        replace NN := Lib.hid (Bgo NN.out HB.out)
        replace BA := Lib.hid (blk_next HB.out BA.out)
        replace BB := Lib.hid (blk_next HB.out BB.out)
        replace BC := Lib.hid (blk_next HB.out BC.out)
        replace R1 := Lib.hid (blk_next HB.out R1.out)
        replace S1 := Lib.hid (blk_next HB.out S1.out)
        replace Q := Lib.hid (blk_next HB.out Q.out)
        clear HB
        have c_R1_0 := blk_cell R1.out 0 _ rfl
        have f_R1_0 := blk_frozen R1.out 0
        have c_R1_1 := blk_cell R1.out 1 _ rfl
        have f_R1_1 := blk_frozen R1.out 1
        have c_R1_2 := blk_cell R1.out 2 _ rfl
        have f_R1_2 := blk_frozen R1.out 2
        have l_R1 := blk_lt R1.out
        have c_S1_0 := blk_cell S1.out 0 _ rfl
        have f_S1_0 := blk_frozen S1.out 0
        have c_S1_1 := blk_cell S1.out 1 _ rfl
        have f_S1_1 := blk_frozen S1.out 1
        have c_S1_2 := blk_cell S1.out 2 _ rfl
        have f_S1_2 := blk_frozen S1.out 2
        have l_S1 := blk_lt S1.out
        go_wp2_with fail
        clear c_R1_0 f_R1_0 c_R1_1 f_R1_1 c_R1_2 f_R1_2 l_R1 c_S1_0 f_S1_0 c_S1_1 f_S1_1 c_S1_2 f_S1_2 l_S1
        generalize w103.alloc (.cells #[.int .i64 px, .int .i64 py, .int .i64 pz] 23) = W104 at *
        generalize w103.heap.size = g104 at *
        refine (MT.out _).mono ?_
        rintro e w105 ⟨rfl, hb⟩
        replace NN := Lib.hid (Bgo NN.out hb)
        replace BA := Lib.hid (blk_next hb BA.out)
        replace BB := Lib.hid (blk_next hb BB.out)
        replace BC := Lib.hid (blk_next hb BC.out)
        replace R1 := Lib.hid (blk_next hb R1.out)
        replace S1 := Lib.hid (blk_next hb S1.out)
        replace Q := Lib.hid (blk_next hb Q.out)
        replace P := Lib.hid (blk_next hb P.out)
        clear hb
        have HB : Hid (Below w105.heap.size w105 (w105.alloc (.cells #[.int .i64 0, .int .i64 0, .int .i64 0] 23))) := Lib.hid (Bal (Below.refl _ _) _)
        have T := Lib.hid (blk_new w105 (.cells #[.int .i64 0, .int .i64 0, .int .i64 0] 23))
        have LT_T : Hid (w.heap.size < w105.heap.size ∧ w.heap.size + 1 < w105.heap.size ∧ w.heap.size + 1 + 1 < w105.heap.size ∧ g34 < w105.heap.size ∧ w35.heap.size < w105.heap.size ∧ gs84 < w105.heap.size ∧ g104 < w105.heap.size ∧ w.heap.size ≤ w105.heap.size) := Lib.hid ⟨blk_lt BA.out, blk_lt BB.out, blk_lt BC.out, blk_lt R1.out, blk_lt S1.out, blk_lt Q.out, blk_lt P.out, NN.out.size⟩
        replace NN := Lib.hid (Bgo NN.out HB.out)
        replace BA := Lib.hid (blk_next HB.out BA.out)
        replace BB := Lib.hid (blk_next HB.out BB.out)
        replace BC := Lib.hid (blk_next HB.out BC.out)
        replace R1 := Lib.hid (blk_next HB.out R1.out)
        replace S1 := Lib.hid (blk_next HB.out S1.out)
        replace Q := Lib.hid (blk_next HB.out Q.out)
        replace P := Lib.hid (blk_next HB.out P.out)
        clear HB
        have c_BA_0 := blk_cell BA.out 0 _ rfl
        have c_BA_1 := blk_cell BA.out 1 _ rfl
        have c_BA_2 := blk_cell BA.out 2 _ rfl
        have l_BA := blk_lt BA.out
        have c_BB_0 := blk_cell BB.out 0 _ rfl
        have c_BB_1 := blk_cell BB.out 1 _ rfl
        have c_BB_2 := blk_cell BB.out 2 _ rfl
        have l_BB := blk_lt BB.out
        go_wp2_with fail
        clear c_BA_0 c_BA_1 c_BA_2 l_BA c_BB_0 c_BB_1 c_BB_2 l_BB
        refine (Ooab.out _).mono ?_
        rintro e w107 ⟨rfl, hb⟩
        replace NN := Lib.hid (Bgo NN.out hb)
        replace BA := Lib.hid (blk_next hb BA.out)
        replace BB := Lib.hid (blk_next hb BB.out)
        replace BC := Lib.hid (blk_next hb BC.out)
        replace R1 := Lib.hid (blk_next hb R1.out)
        replace S1 := Lib.hid (blk_next hb S1.out)
        replace Q := Lib.hid (blk_next hb Q.out)
        replace P := Lib.hid (blk_next hb P.out)
        replace T := Lib.hid (blk_next hb T.out)
        clear hb
        have c_BA_0 := blk_cell BA.out 0 _ rfl
        have f_BA_0 := blk_frozen BA.out 0
        have c_BA_1 := blk_cell BA.out 1 _ rfl
        have f_BA_1 := blk_frozen BA.out 1
        have c_BA_2 := blk_cell BA.out 2 _ rfl
        have f_BA_2 := blk_frozen BA.out 2
        have l_BA := blk_lt BA.out
        have c_BB_0 := blk_cell BB.out 0 _ rfl
        have f_BB_0 := blk_frozen BB.out 0
        have c_BB_1 := blk_cell BB.out 1 _ rfl
        have f_BB_1 := blk_frozen BB.out 1
        have c_BB_2 := blk_cell BB.out 2 _ rfl
        have f_BB_2 := blk_frozen BB.out 2
        have l_BB := blk_lt BB.out
        go_wp2_with fail
        refine (Ooba.out _).mono ?_
        rintro e w108 ⟨rfl, hb⟩
        clear c_BA_0 f_BA_0 c_BA_1 f_BA_1 c_BA_2 f_BA_2 l_BA c_BB_0 f_BB_0 c_BB_1 f_BB_1 c_BB_2 f_BB_2 l_BB
        replace NN := Lib.hid (Bgo NN.out hb)
        replace BA := Lib.hid (blk_next hb BA.out)
        replace BB := Lib.hid (blk_next hb BB.out)
        replace BC := Lib.hid (blk_next hb BC.out)
        replace R1 := Lib.hid (blk_next hb R1.out)
        replace S1 := Lib.hid (blk_next hb S1.out)
        replace Q := Lib.hid (blk_next hb Q.out)
        replace P := Lib.hid (blk_next hb P.out)
        replace T := Lib.hid (blk_next hb T.out)
        clear hb
        have c_R1_0 := blk_cell R1.out 0 _ rfl
        have f_R1_0 := blk_frozen R1.out 0
        have c_R1_1 := blk_cell R1.out 1 _ rfl
        have f_R1_1 := blk_frozen R1.out 1
        have c_R1_2 := blk_cell R1.out 2 _ rfl
        have f_R1_2 := blk_frozen R1.out 2
        have l_R1 := blk_lt R1.out
        have c_S1_0 := blk_cell S1.out 0 _ rfl
        have f_S1_0 := blk_frozen S1.out 0
        have c_S1_1 := blk_cell S1.out 1 _ rfl
        have f_S1_1 := blk_frozen S1.out 1
        have c_S1_2 := blk_cell S1.out 2 _ rfl
        have f_S1_2 := blk_frozen S1.out 2
        have l_S1 := blk_lt S1.out
        go_wp2_with fail
        refine (Oors.out _).mono ?_
        rintro e w109 ⟨rfl, hb⟩
        clear c_R1_0 f_R1_0 c_R1_1 f_R1_1 c_R1_2 f_R1_2 l_R1 c_S1_0 f_S1_0 c_S1_1 f_S1_1 c_S1_2 f_S1_2 l_S1
        replace NN := Lib.hid (Bgo NN.out hb)
        replace BA := Lib.hid (blk_next hb BA.out)
        replace BB := Lib.hid (blk_next hb BB.out)
        replace BC := Lib.hid (blk_next hb BC.out)
        replace R1 := Lib.hid (blk_next hb R1.out)
        replace S1 := Lib.hid (blk_next hb S1.out)
        replace Q := Lib.hid (blk_next hb Q.out)
        replace P := Lib.hid (blk_next hb P.out)
        replace T := Lib.hid (blk_next hb T.out)
        clear hb
        have c_BB_0 := blk_cell BB.out 0 _ rfl
        have f_BB_0 := blk_frozen BB.out 0
        have c_BB_1 := blk_cell BB.out 1 _ rfl
        have f_BB_1 := blk_frozen BB.out 1
        have c_BB_2 := blk_cell BB.out 2 _ rfl
        have f_BB_2 := blk_frozen BB.out 2
        have l_BB := blk_lt BB.out
        have c_BC_0 := blk_cell BC.out 0 _ rfl
        have f_BC_0 := blk_frozen BC.out 0
        have c_BC_1 := blk_cell BC.out 1 _ rfl
        have f_BC_1 := blk_frozen BC.out 1
        have c_BC_2 := blk_cell BC.out 2 _ rfl
        have f_BC_2 := blk_frozen BC.out 2
        have l_BC := blk_lt BC.out
        go_wp2_with fail
        refine (Oobc.out _).mono ?_
        rintro e w110 ⟨rfl, hb⟩
        clear c_BB_0 f_BB_0 c_BB_1 f_BB_1 c_BB_2 f_BB_2 l_BB c_BC_0 f_BC_0 c_BC_1 f_BC_1 c_BC_2 f_BC_2 l_BC
        replace NN := Lib.hid (Bgo NN.out hb)
        replace BA := Lib.hid (blk_next hb BA.out)
        replace BB := Lib.hid (blk_next hb BB.out)
        replace BC := Lib.hid (blk_next hb BC.out)
        replace R1 := Lib.hid (blk_next hb R1.out)
        replace S1 := Lib.hid (blk_next hb S1.out)
        replace Q := Lib.hid (blk_next hb Q.out)
        replace P := Lib.hid (blk_next hb P.out)
        replace T := Lib.hid (blk_next hb T.out)
        clear hb
        have c_BA_0 := blk_cell BA.out 0 _ rfl
        have f_BA_0 := blk_frozen BA.out 0
        have c_BA_1 := blk_cell BA.out 1 _ rfl
        have f_BA_1 := blk_frozen BA.out 1
        have c_BA_2 := blk_cell BA.out 2 _ rfl
        have f_BA_2 := blk_frozen BA.out 2
        have l_BA := blk_lt BA.out
        have c_BC_0 := blk_cell BC.out 0 _ rfl
        have f_BC_0 := blk_frozen BC.out 0
        have c_BC_1 := blk_cell BC.out 1 _ rfl
        have f_BC_1 := blk_frozen BC.out 1
        have c_BC_2 := blk_cell BC.out 2 _ rfl
        have f_BC_2 := blk_frozen BC.out 2
        have l_BC := blk_lt BC.out
        go_wp2_with fail
        refine (Ooac.out _).mono ?_
        rintro e w111 ⟨rfl, hb⟩
        clear c_BA_0 f_BA_0 c_BA_1 f_BA_1 c_BA_2 f_BA_2 l_BA c_BC_0 f_BC_0 c_BC_1 f_BC_1 c_BC_2 f_BC_2 l_BC
        replace NN := Lib.hid (Bgo NN.out hb)
        replace BA := Lib.hid (blk_next hb BA.out)
        replace BB := Lib.hid (blk_next hb BB.out)
        replace BC := Lib.hid (blk_next hb BC.out)
        replace R1 := Lib.hid (blk_next hb R1.out)
        replace S1 := Lib.hid (blk_next hb S1.out)
        replace Q := Lib.hid (blk_next hb Q.out)
        replace P := Lib.hid (blk_next hb P.out)
        replace T := Lib.hid (blk_next hb T.out)
        clear hb
        have heb := HEB.out
        have xe := HXE.out
        by_cases xl : X < 0
        · have xl' : decide (X < (0 : Int)) = true := decide_eq_true xl
          clear TR
          have c_R1_0 := blk_cell R1.out 0 _ rfl
          have c_R1_1 := blk_cell R1.out 1 _ rfl
          have c_R1_2 := blk_cell R1.out 2 _ rfl
          have l_R1 := blk_lt R1.out
          have c_S1_0 := blk_cell S1.out 0 _ rfl
          have c_S1_1 := blk_cell S1.out 1 _ rfl
          have c_S1_2 := blk_cell S1.out 2 _ rfl
          have l_S1 := blk_lt S1.out
          go_wp2_with fail
          go_ret
          exact ⟨rfl, NN.out⟩
        have xl' : decide (X < (0 : Int)) = false := decide_eq_false xl
        by_cases mn : M < 0
        · have mn' : decide (M < (0 : Int)) = true := decide_eq_true mn
          clear TR
          have c_R1_0 := blk_cell R1.out 0 _ rfl
          have c_R1_1 := blk_cell R1.out 1 _ rfl
          have c_R1_2 := blk_cell R1.out 2 _ rfl
          have l_R1 := blk_lt R1.out
          have c_S1_0 := blk_cell S1.out 0 _ rfl
          have c_S1_1 := blk_cell S1.out 1 _ rfl
          have c_S1_2 := blk_cell S1.out 2 _ rfl
          have l_S1 := blk_lt S1.out
          go_wp2_with fail
          go_ret
          exact ⟨rfl, NN.out⟩
        have mn' : decide (M < (0 : Int)) = false := decide_eq_false mn
        have on : decide ((0 : Int) ≤ O) = true := decide_eq_true (TR.out (by omega) (by omega))
        clear TR
        have c_R1_0 := blk_cell R1.out 0 _ rfl
        have c_R1_1 := blk_cell R1.out 1 _ rfl
        have c_R1_2 := blk_cell R1.out 2 _ rfl
        have l_R1 := blk_lt R1.out
        have c_S1_0 := blk_cell S1.out 0 _ rfl
        have c_S1_1 := blk_cell S1.out 1 _ rfl
        have c_S1_2 := blk_cell S1.out 2 _ rfl
        have l_S1 := blk_lt S1.out
        go_wp2_with fail
        go_ret
        exact ⟨rfl, NN.out⟩
      have MT := Lib.hid (fun W => mul_calls _ _ _ _ _ _ _ _ _ _ ht W)
      obtain ⟨u, v, hu, hv⟩ := PR.out _ _ _ _ _ _ hp ht
      have RP := Lib.hid (fun W => ray_calls hu W)
      have RT := Lib.hid (fun W => ray_calls hv W)
      clear ht hp hu hv TC PC PR
      refine (MP.out _).mono ?_
      rintro e w112 ⟨rfl, hb⟩
      replace NN := Lib.hid (Bgo NN.out hb)
      replace BA := Lib.hid (blk_next hb BA.out)
      replace BB := Lib.hid (blk_next hb BB.out)
      replace BC := Lib.hid (blk_next hb BC.out)
      replace R1 := Lib.hid (blk_next hb R1.out)
      replace S1 := Lib.hid (blk_next hb S1.out)
      replace Q := Lib.hid (blk_next hb Q.out)
      clear hb
      have HB : Hid (Below w112.heap.size w112 (w112.alloc (.cells #[.int .i64 px, .int .i64 py, .int .i64 pz] 23))) := Lib.hid (Bal (Below.refl _ _) _)
      have P := Lib.hid (blk_new w112 (.cells #[.int .i64 px, .int .i64 py, .int .i64 pz] 23))
      have LT_P : Hid (w.heap.size < w112.heap.size ∧ w.heap.size + 1 < w112.heap.size ∧ w.heap.size + 1 + 1 < w112.heap.size ∧ g34 < w112.heap.size ∧ w35.heap.size < w112.heap.size ∧ gs84 < w112.heap.size ∧ w.heap.size ≤ w112.heap.size) := Lib.hid ⟨blk_lt BA.out, blk_lt BB.out, blk_lt BC.out, blk_lt R1.out, blk_lt S1.out, blk_lt Q.out, NN.out.size⟩
      replace NN := Lib.hid (Bgo NN.out HB.out)
      replace BA := Lib.hid (blk_next HB.out BA.out)
      replace BB := Lib.hid (blk_next HB.out BB.out)
      replace BC := Lib.hid (blk_next HB.out BC.out)
      replace R1 := Lib.hid (blk_next HB.out R1.out)
      replace S1 := Lib.hid (blk_next HB.out S1.out)
      replace Q := Lib.hid (blk_next HB.out Q.out)
      clear HB
      have c_R1_0 := blk_cell R1.out 0 _ rfl
      have f_R1_0 := blk_frozen R1.out 0
      have c_R1_1 := blk_cell R1.out 1 _ rfl
      have f_R1_1 := blk_frozen R1.out 1
      have c_R1_2 := blk_cell R1.out 2 _ rfl
      have f_R1_2 := blk_frozen R1.out 2
      have l_R1 := blk_lt R1.out
      have c_S1_0 := blk_cell S1.out 0 _ rfl
      have f_S1_0 := blk_frozen S1.out 0
      have c_S1_1 := blk_cell S1.out 1 _ rfl
      have f_S1_1 := blk_frozen S1.out 1
      have c_S1_2 := blk_cell S1.out 2 _ rfl
      have f_S1_2 := blk_frozen S1.out 2
      have l_S1 := blk_lt S1.out
      go_wp2_with fail
      clear c_R1_0 f_R1_0 c_R1_1 f_R1_1 c_R1_2 f_R1_2 l_R1 c_S1_0 f_S1_0 c_S1_1 f_S1_1 c_S1_2 f_S1_2 l_S1
      generalize w112.alloc (.cells #[.int .i64 px, .int .i64 py, .int .i64 pz] 23) = W113 at *
      generalize w112.heap.size = g113 at *
      refine (MT.out _).mono ?_
      rintro e w114 ⟨rfl, hb⟩
      replace NN := Lib.hid (Bgo NN.out hb)
      replace BA := Lib.hid (blk_next hb BA.out)
      replace BB := Lib.hid (blk_next hb BB.out)
      replace BC := Lib.hid (blk_next hb BC.out)
      replace R1 := Lib.hid (blk_next hb R1.out)
      replace S1 := Lib.hid (blk_next hb S1.out)
      replace Q := Lib.hid (blk_next hb Q.out)
      replace P := Lib.hid (blk_next hb P.out)
      clear hb
      have HB : Hid (Below w114.heap.size w114 (w114.alloc (.cells #[.int .i64 tx, .int .i64 ty, .int .i64 tz] 23))) := Lib.hid (Bal (Below.refl _ _) _)
      have T := Lib.hid (blk_new w114 (.cells #[.int .i64 tx, .int .i64 ty, .int .i64 tz] 23))
      have LT_T : Hid (w.heap.size < w114.heap.size ∧ w.heap.size + 1 < w114.heap.size ∧ w.heap.size + 1 + 1 < w114.heap.size ∧ g34 < w114.heap.size ∧ w35.heap.size < w114.heap.size ∧ gs84 < w114.heap.size ∧ g113 < w114.heap.size ∧ w.heap.size ≤ w114.heap.size) := Lib.hid ⟨blk_lt BA.out, blk_lt BB.out, blk_lt BC.out, blk_lt R1.out, blk_lt S1.out, blk_lt Q.out, blk_lt P.out, NN.out.size⟩
      replace NN := Lib.hid (Bgo NN.out HB.out)
      replace BA := Lib.hid (blk_next HB.out BA.out)
      replace BB := Lib.hid (blk_next HB.out BB.out)
      replace BC := Lib.hid (blk_next HB.out BC.out)
      replace R1 := Lib.hid (blk_next HB.out R1.out)
      replace S1 := Lib.hid (blk_next HB.out S1.out)
      replace Q := Lib.hid (blk_next HB.out Q.out)
      replace P := Lib.hid (blk_next HB.out P.out)
      clear HB
      have c_P_0 := blk_cell P.out 0 _ rfl
      have c_P_1 := blk_cell P.out 1 _ rfl
      have c_P_2 := blk_cell P.out 2 _ rfl
      have l_P := blk_lt P.out
      go_wp2_with fail
      clear c_P_0 c_P_1 c_P_2 l_P
      refine (RP.out _).mono ?_
      rintro e w116 ⟨rfl, hb⟩
      replace NN := Lib.hid (Bgo NN.out hb)
      replace BA := Lib.hid (blk_next hb BA.out)
      replace BB := Lib.hid (blk_next hb BB.out)
      replace BC := Lib.hid (blk_next hb BC.out)
      replace R1 := Lib.hid (blk_next hb R1.out)
      replace S1 := Lib.hid (blk_next hb S1.out)
      replace Q := Lib.hid (blk_next hb Q.out)
      replace P := Lib.hid (blk_next hb P.out)
      replace T := Lib.hid (blk_next hb T.out)
      clear hb
      have HB : Hid (Below w116.heap.size w116 (w116.alloc (.cells #[.int .i64 u, .int .i64 v, .int .i64 1] 23))) := Lib.hid (Bal (Below.refl _ _) _)
      have U1 := Lib.hid (blk_new w116 (.cells #[.int .i64 u, .int .i64 v, .int .i64 1] 23))
      have LT_U1 : Hid (w.heap.size < w116.heap.size ∧ w.heap.size + 1 < w116.heap.size ∧ w.heap.size + 1 + 1 < w116.heap.size ∧ g34 < w116.heap.size ∧ w35.heap.size < w116.heap.size ∧ gs84 < w116.heap.size ∧ g113 < w116.heap.size ∧ w114.heap.size < w116.heap.size ∧ w.heap.size ≤ w116.heap.size) := Lib.hid ⟨blk_lt BA.out, blk_lt BB.out, blk_lt BC.out, blk_lt R1.out, blk_lt S1.out, blk_lt Q.out, blk_lt P.out, blk_lt T.out, NN.out.size⟩
      replace NN := Lib.hid (Bgo NN.out HB.out)
      replace BA := Lib.hid (blk_next HB.out BA.out)
      replace BB := Lib.hid (blk_next HB.out BB.out)
      replace BC := Lib.hid (blk_next HB.out BC.out)
      replace R1 := Lib.hid (blk_next HB.out R1.out)
      replace S1 := Lib.hid (blk_next HB.out S1.out)
      replace Q := Lib.hid (blk_next HB.out Q.out)
      replace P := Lib.hid (blk_next HB.out P.out)
      replace T := Lib.hid (blk_next HB.out T.out)
      clear HB
      have c_T_0 := blk_cell T.out 0 _ rfl
      have f_T_0 := blk_frozen T.out 0
      have c_T_1 := blk_cell T.out 1 _ rfl
      have f_T_1 := blk_frozen T.out 1
      have c_T_2 := blk_cell T.out 2 _ rfl
      have f_T_2 := blk_frozen T.out 2
      have l_T := blk_lt T.out
      go_wp2_with fail
      clear c_T_0 f_T_0 c_T_1 f_T_1 c_T_2 f_T_2 l_T
      generalize w116.alloc (.cells #[.int .i64 u, .int .i64 v, .int .i64 1] 23) = W117 at *
      generalize w116.heap.size = g117 at *
      refine (RT.out _).mono ?_
      rintro e w118 ⟨rfl, hb⟩
      replace NN := Lib.hid (Bgo NN.out hb)
      replace BA := Lib.hid (blk_next hb BA.out)
      replace BB := Lib.hid (blk_next hb BB.out)
      replace BC := Lib.hid (blk_next hb BC.out)
      replace R1 := Lib.hid (blk_next hb R1.out)
      replace S1 := Lib.hid (blk_next hb S1.out)
      replace Q := Lib.hid (blk_next hb Q.out)
      replace P := Lib.hid (blk_next hb P.out)
      replace T := Lib.hid (blk_next hb T.out)
      replace U1 := Lib.hid (blk_next hb U1.out)
      clear hb
      have HB : Hid (Below w118.heap.size w118 (w118.alloc (.cells #[.int .i64 u, .int .i64 v, .int .i64 1] 23))) := Lib.hid (Bal (Below.refl _ _) _)
      have U2 := Lib.hid (blk_new w118 (.cells #[.int .i64 u, .int .i64 v, .int .i64 1] 23))
      have LT_U2 : Hid (w.heap.size < w118.heap.size ∧ w.heap.size + 1 < w118.heap.size ∧ w.heap.size + 1 + 1 < w118.heap.size ∧ g34 < w118.heap.size ∧ w35.heap.size < w118.heap.size ∧ gs84 < w118.heap.size ∧ g113 < w118.heap.size ∧ w114.heap.size < w118.heap.size ∧ g117 < w118.heap.size ∧ w.heap.size ≤ w118.heap.size) := Lib.hid ⟨blk_lt BA.out, blk_lt BB.out, blk_lt BC.out, blk_lt R1.out, blk_lt S1.out, blk_lt Q.out, blk_lt P.out, blk_lt T.out, blk_lt U1.out, NN.out.size⟩
      replace NN := Lib.hid (Bgo NN.out HB.out)
      replace BA := Lib.hid (blk_next HB.out BA.out)
      replace BB := Lib.hid (blk_next HB.out BB.out)
      replace BC := Lib.hid (blk_next HB.out BC.out)
      replace R1 := Lib.hid (blk_next HB.out R1.out)
      replace S1 := Lib.hid (blk_next HB.out S1.out)
      replace Q := Lib.hid (blk_next HB.out Q.out)
      replace P := Lib.hid (blk_next HB.out P.out)
      replace T := Lib.hid (blk_next HB.out T.out)
      replace U1 := Lib.hid (blk_next HB.out U1.out)
      clear HB
      have c_BA_0 := blk_cell BA.out 0 _ rfl
      have c_BA_1 := blk_cell BA.out 1 _ rfl
      have c_BA_2 := blk_cell BA.out 2 _ rfl
      have l_BA := blk_lt BA.out
      have c_BB_0 := blk_cell BB.out 0 _ rfl
      have c_BB_1 := blk_cell BB.out 1 _ rfl
      have c_BB_2 := blk_cell BB.out 2 _ rfl
      have l_BB := blk_lt BB.out
      have c_U1_0 := blk_cell U1.out 0 _ rfl
      have c_U1_1 := blk_cell U1.out 1 _ rfl
      have c_U1_2 := blk_cell U1.out 2 _ rfl
      have l_U1 := blk_lt U1.out
      have c_U2_0 := blk_cell U2.out 0 _ rfl
      have c_U2_1 := blk_cell U2.out 1 _ rfl
      have c_U2_2 := blk_cell U2.out 2 _ rfl
      have l_U2 := blk_lt U2.out
      go_wp2_with fail
      clear c_BA_0 c_BA_1 c_BA_2 l_BA c_BB_0 c_BB_1 c_BB_2 l_BB c_U1_0 c_U1_1 c_U1_2 l_U1 c_U2_0 c_U2_1 c_U2_2 l_U2
      refine (Ooab.out _).mono ?_
      rintro e w120 ⟨rfl, hb⟩
      replace NN := Lib.hid (Bgo NN.out hb)
      replace BA := Lib.hid (blk_next hb BA.out)
      replace BB := Lib.hid (blk_next hb BB.out)
      replace BC := Lib.hid (blk_next hb BC.out)
      replace R1 := Lib.hid (blk_next hb R1.out)
      replace S1 := Lib.hid (blk_next hb S1.out)
      replace Q := Lib.hid (blk_next hb Q.out)
      replace P := Lib.hid (blk_next hb P.out)
      replace T := Lib.hid (blk_next hb T.out)
      replace U1 := Lib.hid (blk_next hb U1.out)
      replace U2 := Lib.hid (blk_next hb U2.out)
      clear hb
      have c_BA_0 := blk_cell BA.out 0 _ rfl
      have f_BA_0 := blk_frozen BA.out 0
      have c_BA_1 := blk_cell BA.out 1 _ rfl
      have f_BA_1 := blk_frozen BA.out 1
      have c_BA_2 := blk_cell BA.out 2 _ rfl
      have f_BA_2 := blk_frozen BA.out 2
      have l_BA := blk_lt BA.out
      have c_BB_0 := blk_cell BB.out 0 _ rfl
      have f_BB_0 := blk_frozen BB.out 0
      have c_BB_1 := blk_cell BB.out 1 _ rfl
      have f_BB_1 := blk_frozen BB.out 1
      have c_BB_2 := blk_cell BB.out 2 _ rfl
      have f_BB_2 := blk_frozen BB.out 2
      have l_BB := blk_lt BB.out
      go_wp2_with fail
      refine (Ooba.out _).mono ?_
      rintro e w121 ⟨rfl, hb⟩
      clear c_BA_0 f_BA_0 c_BA_1 f_BA_1 c_BA_2 f_BA_2 l_BA c_BB_0 f_BB_0 c_BB_1 f_BB_1 c_BB_2 f_BB_2 l_BB
      replace NN := Lib.hid (Bgo NN.out hb)
      replace BA := Lib.hid (blk_next hb BA.out)
      replace BB := Lib.hid (blk_next hb BB.out)
      replace BC := Lib.hid (blk_next hb BC.out)
      replace R1 := Lib.hid (blk_next hb R1.out)
      replace S1 := Lib.hid (blk_next hb S1.out)
      replace Q := Lib.hid (blk_next hb Q.out)
      replace P := Lib.hid (blk_next hb P.out)
      replace T := Lib.hid (blk_next hb T.out)
      replace U1 := Lib.hid (blk_next hb U1.out)
      replace U2 := Lib.hid (blk_next hb U2.out)
      clear hb
      have c_R1_0 := blk_cell R1.out 0 _ rfl
      have f_R1_0 := blk_frozen R1.out 0
      have c_R1_1 := blk_cell R1.out 1 _ rfl
      have f_R1_1 := blk_frozen R1.out 1
      have c_R1_2 := blk_cell R1.out 2 _ rfl
      have f_R1_2 := blk_frozen R1.out 2
      have l_R1 := blk_lt R1.out
      have c_S1_0 := blk_cell S1.out 0 _ rfl
      have f_S1_0 := blk_frozen S1.out 0
      have c_S1_1 := blk_cell S1.out 1 _ rfl
      have f_S1_1 := blk_frozen S1.out 1
      have c_S1_2 := blk_cell S1.out 2 _ rfl
      have f_S1_2 := blk_frozen S1.out 2
      have l_S1 := blk_lt S1.out
      go_wp2_with fail
      refine (Oors.out _).mono ?_
      rintro e w122 ⟨rfl, hb⟩
      clear c_R1_0 f_R1_0 c_R1_1 f_R1_1 c_R1_2 f_R1_2 l_R1 c_S1_0 f_S1_0 c_S1_1 f_S1_1 c_S1_2 f_S1_2 l_S1
      replace NN := Lib.hid (Bgo NN.out hb)
      replace BA := Lib.hid (blk_next hb BA.out)
      replace BB := Lib.hid (blk_next hb BB.out)
      replace BC := Lib.hid (blk_next hb BC.out)
      replace R1 := Lib.hid (blk_next hb R1.out)
      replace S1 := Lib.hid (blk_next hb S1.out)
      replace Q := Lib.hid (blk_next hb Q.out)
      replace P := Lib.hid (blk_next hb P.out)
      replace T := Lib.hid (blk_next hb T.out)
      replace U1 := Lib.hid (blk_next hb U1.out)
      replace U2 := Lib.hid (blk_next hb U2.out)
      clear hb
      have c_BB_0 := blk_cell BB.out 0 _ rfl
      have f_BB_0 := blk_frozen BB.out 0
      have c_BB_1 := blk_cell BB.out 1 _ rfl
      have f_BB_1 := blk_frozen BB.out 1
      have c_BB_2 := blk_cell BB.out 2 _ rfl
      have f_BB_2 := blk_frozen BB.out 2
      have l_BB := blk_lt BB.out
      have c_BC_0 := blk_cell BC.out 0 _ rfl
      have f_BC_0 := blk_frozen BC.out 0
      have c_BC_1 := blk_cell BC.out 1 _ rfl
      have f_BC_1 := blk_frozen BC.out 1
      have c_BC_2 := blk_cell BC.out 2 _ rfl
      have f_BC_2 := blk_frozen BC.out 2
      have l_BC := blk_lt BC.out
      go_wp2_with fail
      refine (Oobc.out _).mono ?_
      rintro e w123 ⟨rfl, hb⟩
      clear c_BB_0 f_BB_0 c_BB_1 f_BB_1 c_BB_2 f_BB_2 l_BB c_BC_0 f_BC_0 c_BC_1 f_BC_1 c_BC_2 f_BC_2 l_BC
      replace NN := Lib.hid (Bgo NN.out hb)
      replace BA := Lib.hid (blk_next hb BA.out)
      replace BB := Lib.hid (blk_next hb BB.out)
      replace BC := Lib.hid (blk_next hb BC.out)
      replace R1 := Lib.hid (blk_next hb R1.out)
      replace S1 := Lib.hid (blk_next hb S1.out)
      replace Q := Lib.hid (blk_next hb Q.out)
      replace P := Lib.hid (blk_next hb P.out)
      replace T := Lib.hid (blk_next hb T.out)
      replace U1 := Lib.hid (blk_next hb U1.out)
      replace U2 := Lib.hid (blk_next hb U2.out)
      clear hb
      have c_BA_0 := blk_cell BA.out 0 _ rfl
      have f_BA_0 := blk_frozen BA.out 0
      have c_BA_1 := blk_cell BA.out 1 _ rfl
      have f_BA_1 := blk_frozen BA.out 1
      have c_BA_2 := blk_cell BA.out 2 _ rfl
      have f_BA_2 := blk_frozen BA.out 2
      have l_BA := blk_lt BA.out
      have c_BC_0 := blk_cell BC.out 0 _ rfl
      have f_BC_0 := blk_frozen BC.out 0
      have c_BC_1 := blk_cell BC.out 1 _ rfl
      have f_BC_1 := blk_frozen BC.out 1
      have c_BC_2 := blk_cell BC.out 2 _ rfl
      have f_BC_2 := blk_frozen BC.out 2
      have l_BC := blk_lt BC.out
      go_wp2_with fail
      refine (Ooac.out _).mono ?_
      rintro e w124 ⟨rfl, hb⟩
      clear c_BA_0 f_BA_0 c_BA_1 f_BA_1 c_BA_2 f_BA_2 l_BA c_BC_0 f_BC_0 c_BC_1 f_BC_1 c_BC_2 f_BC_2 l_BC
      replace NN := Lib.hid (Bgo NN.out hb)
      replace BA := Lib.hid (blk_next hb BA.out)
      replace BB := Lib.hid (blk_next hb BB.out)
      replace BC := Lib.hid (blk_next hb BC.out)
      replace R1 := Lib.hid (blk_next hb R1.out)
      replace S1 := Lib.hid (blk_next hb S1.out)
      replace Q := Lib.hid (blk_next hb Q.out)
      replace P := Lib.hid (blk_next hb P.out)
      replace T := Lib.hid (blk_next hb T.out)
      replace U1 := Lib.hid (blk_next hb U1.out)
      replace U2 := Lib.hid (blk_next hb U2.out)
      clear hb
      have heb := HEB.out
      have xe := HXE.out
      by_cases xl : X < 0
      · have xl' : decide (X < (0 : Int)) = true := decide_eq_true xl
        clear TR
        have c_R1_0 := blk_cell R1.out 0 _ rfl
        have c_R1_1 := blk_cell R1.out 1 _ rfl
        have c_R1_2 := blk_cell R1.out 2 _ rfl
        have l_R1 := blk_lt R1.out
        have c_S1_0 := blk_cell S1.out 0 _ rfl
        have c_S1_1 := blk_cell S1.out 1 _ rfl
        have c_S1_2 := blk_cell S1.out 2 _ rfl
        have l_S1 := blk_lt S1.out
        go_wp2_with fail
        go_ret
        exact ⟨rfl, NN.out⟩
      have xl' : decide (X < (0 : Int)) = false := decide_eq_false xl
      by_cases mn : M < 0
      · have mn' : decide (M < (0 : Int)) = true := decide_eq_true mn
        clear TR
        have c_R1_0 := blk_cell R1.out 0 _ rfl
        have c_R1_1 := blk_cell R1.out 1 _ rfl
        have c_R1_2 := blk_cell R1.out 2 _ rfl
        have l_R1 := blk_lt R1.out
        have c_S1_0 := blk_cell S1.out 0 _ rfl
        have c_S1_1 := blk_cell S1.out 1 _ rfl
        have c_S1_2 := blk_cell S1.out 2 _ rfl
        have l_S1 := blk_lt S1.out
        go_wp2_with fail
        go_ret
        exact ⟨rfl, NN.out⟩
      have mn' : decide (M < (0 : Int)) = false := decide_eq_false mn
      have on : decide ((0 : Int) ≤ O) = true := decide_eq_true (TR.out (by omega) (by omega))
      clear TR
      have c_R1_0 := blk_cell R1.out 0 _ rfl
      have c_R1_1 := blk_cell R1.out 1 _ rfl
      have c_R1_2 := blk_cell R1.out 2 _ rfl
      have l_R1 := blk_lt R1.out
      have c_S1_0 := blk_cell S1.out 0 _ rfl
      have c_S1_1 := blk_cell S1.out 1 _ rfl
      have c_S1_2 := blk_cell S1.out 2 _ rfl
      have l_S1 := blk_lt S1.out
      go_wp2_with fail
      go_ret
      exact ⟨rfl, NN.out⟩
  · have D := Lib.hid (fun W => div_calls hd W)
    clear hd DC HZB QE
    refine (D.out _).mono ?_
    rintro e w125 ⟨rfl, hb⟩
    replace NN := Lib.hid (Bgo NN.out hb)
    replace BA := Lib.hid (blk_next hb BA.out)
    replace BB := Lib.hid (blk_next hb BB.out)
    replace BC := Lib.hid (blk_next hb BC.out)
    replace R1 := Lib.hid (blk_next hb R1.out)
    replace S1 := Lib.hid (blk_next hb S1.out)
    clear hb
    have HB : Hid (Below w125.heap.size w125 (w125.alloc (.cells #[.int .i64 0, .int .i64 0, .int .i64 0] 23))) := Lib.hid (Bal (Below.refl _ _) _)
    have Q := Lib.hid (blk_new w125 (.cells #[.int .i64 0, .int .i64 0, .int .i64 0] 23))
    have LT_Q : Hid (w.heap.size < w125.heap.size ∧ w.heap.size + 1 < w125.heap.size ∧ w.heap.size + 1 + 1 < w125.heap.size ∧ g34 < w125.heap.size ∧ w35.heap.size < w125.heap.size ∧ w.heap.size ≤ w125.heap.size) := Lib.hid ⟨blk_lt BA.out, blk_lt BB.out, blk_lt BC.out, blk_lt R1.out, blk_lt S1.out, NN.out.size⟩
    replace NN := Lib.hid (Bgo NN.out HB.out)
    replace BA := Lib.hid (blk_next HB.out BA.out)
    replace BB := Lib.hid (blk_next HB.out BB.out)
    replace BC := Lib.hid (blk_next HB.out BC.out)
    replace R1 := Lib.hid (blk_next HB.out R1.out)
    replace S1 := Lib.hid (blk_next HB.out S1.out)
    clear HB
    go_wp2_with fail
    generalize w125.alloc (.cells #[.int .i64 0, .int .i64 0, .int .i64 0] 23) = WS127 at *
    generalize w125.heap.size = gs127 at *
    refine region_I (S := SK [(3, g34, .cells #[.int .i64 r1, .int .i64 r2, .int .i64 1] 23), (4, w35.heap.size, .cells #[.int .i64 s1, .int .i64 s2, .int .i64 1] 23), (7, gs127, .cells #[.int .i64 0, .int .i64 0, .int .i64 0] 23), (11, gs127, .cells #[.int .i64 0, .int .i64 0, .int .i64 0] 23)]) (by kernel_rfl) ?_
    have HAL := Lib.hid (fun (k : Nat) => (show SK [(3, g34, .cells #[.int .i64 r1, .int .i64 r2, .int .i64 1] 23), (4, w35.heap.size, .cells #[.int .i64 s1, .int .i64 s2, .int .i64 1] 23), (7, gs127, .cells #[.int .i64 0, .int .i64 0, .int .i64 0] 23), (11, gs127, .cells #[.int .i64 0, .int .i64 0, .int .i64 0] 23)] k WS127.drew from fun p hp e => by
      simp only [List.mem_cons, List.not_mem_nil, or_false] at hp
      rcases hp with rfl | rfl | rfl | rfl
      · exact R1.out
      · exact S1.out
      · exact Q.out
      · exact Q.out))
    have HD := Lib.hid (Below.drew (Below.refl WS127.heap.size WS127))
    replace NN := Lib.hid (Bgo NN.out HD.out)
    replace BA := Lib.hid (blk_next HD.out BA.out)
    replace BB := Lib.hid (blk_next HD.out BB.out)
    replace BC := Lib.hid (blk_next HD.out BC.out)
    replace R1 := Lib.hid (blk_next HD.out R1.out)
    replace S1 := Lib.hid (blk_next HD.out S1.out)
    replace Q := Lib.hid (blk_next HD.out Q.out)
    clear HD
    refine only_I 0 (by kernel_rfl) rfl (fun K' hK' => ?_)
    go_simp
    refine hK'.out _ _ (fun k _ h => h) ?_
    clear hK' K'
    try simp only [Act.put, List.setIfInBounds_toArray, List.set_cons_zero, List.set_cons_succ]
    refine only_I 1 (by kernel_rfl) rfl (fun K' hK' => ?_)
    go_simp
    refine hK'.out _ _ (fun k _ h => h) ?_
    clear hK' K'
    try simp only [Act.put, List.setIfInBounds_toArray, List.set_cons_zero, List.set_cons_succ]
    refine only_I 2 (by kernel_rfl) rfl (fun K' hK' => ?_)
    go_simp
    refine hK'.out _ _ (fun k _ h => h) ?_
    clear hK' K'
    try simp only [Act.put, List.setIfInBounds_toArray, List.set_cons_zero, List.set_cons_succ]
    refine take_I 3 undef (some 103) rfl (by kernel_rfl) (by kernel_rfl) (by kernel_rfl) rfl (fun _ _ _ h => h) (Or.inr ⟨by rfl, rfl⟩) (HAL.out 3) ?_
    try simp only [Act.put, List.setIfInBounds_toArray, List.set_cons_zero, List.set_cons_succ]
    refine take_I 4 undef (some 104) rfl (by kernel_rfl) (by kernel_rfl) (by kernel_rfl) rfl (fun _ _ _ h => h) (Or.inr ⟨by rfl, rfl⟩) (HAL.out 4) ?_
    try simp only [Act.put, List.setIfInBounds_toArray, List.set_cons_zero, List.set_cons_succ]
    refine take_I 5 undef (some 105) rfl (by kernel_rfl) (by kernel_rfl) (by kernel_rfl) rfl (fun _ _ _ h => h) (Or.inr ⟨by rfl, rfl⟩) (HAL.out 5) ?_
    try simp only [Act.put, List.setIfInBounds_toArray, List.set_cons_zero, List.set_cons_succ]
    refine take_I 6 undef (some 106) rfl (by kernel_rfl) (by kernel_rfl) (by kernel_rfl) rfl (fun _ _ _ h => h) (Or.inr ⟨by rfl, rfl⟩) (HAL.out 6) ?_
    try simp only [Act.put, List.setIfInBounds_toArray, List.set_cons_zero, List.set_cons_succ]
    refine take_I 7 undef (some 107) rfl (by kernel_rfl) (by kernel_rfl) (by kernel_rfl) rfl (fun _ _ _ h => h) (Or.inr ⟨by rfl, rfl⟩) (HAL.out 7) ?_
    try simp only [Act.put, List.setIfInBounds_toArray, List.set_cons_zero, List.set_cons_succ]
    refine take_I 8 undef (some 108) rfl (by kernel_rfl) (by kernel_rfl) (by kernel_rfl) rfl (fun _ _ _ h => h) (Or.inr ⟨by rfl, rfl⟩) (HAL.out 8) ?_
    try simp only [Act.put, List.setIfInBounds_toArray, List.set_cons_zero, List.set_cons_succ]
    refine take_I 9 undef (some 109) rfl (by kernel_rfl) (by kernel_rfl) (by kernel_rfl) rfl (fun _ _ _ h => h) (Or.inr ⟨by rfl, rfl⟩) (HAL.out 9) ?_
    try simp only [Act.put, List.setIfInBounds_toArray, List.set_cons_zero, List.set_cons_succ]
    refine take_I 10 undef (some 110) rfl (by kernel_rfl) (by kernel_rfl) (by kernel_rfl) rfl (fun _ _ _ h => h) (Or.inr ⟨by rfl, rfl⟩) (HAL.out 10) ?_
    try simp only [Act.put, List.setIfInBounds_toArray, List.set_cons_zero, List.set_cons_succ]
    refine take_I 11 undef (some 111) rfl (by kernel_rfl) (by kernel_rfl) (by kernel_rfl) rfl (fun _ _ _ h => h) (Or.inr ⟨by rfl, rfl⟩) (HAL.out 11) ?_
    try simp only [Act.put, List.setIfInBounds_toArray, List.set_cons_zero, List.set_cons_succ]
    refine take_I 12 undef (some 112) rfl (by kernel_rfl) (by kernel_rfl) (by kernel_rfl) rfl (fun _ _ _ h => h) (Or.inr ⟨by rfl, rfl⟩) (HAL.out 12) ?_
    try simp only [Act.put, List.setIfInBounds_toArray, List.set_cons_zero, List.set_cons_succ]
    refine take_I 13 undef (some 113) rfl (by kernel_rfl) (by kernel_rfl) (by kernel_rfl) rfl (fun _ _ _ h => h) (Or.inr ⟨by rfl, rfl⟩) (HAL.out 13) ?_
    try simp only [Act.put, List.setIfInBounds_toArray, List.set_cons_zero, List.set_cons_succ]
    refine take_I 14 undef (some 114) rfl (by kernel_rfl) (by kernel_rfl) (by kernel_rfl) rfl (fun _ _ _ h => h) (Or.inr ⟨by rfl, rfl⟩) (HAL.out 14) ?_
    try simp only [Act.put, List.setIfInBounds_toArray, List.set_cons_zero, List.set_cons_succ]
    refine only_I 15 (by kernel_rfl) rfl (fun K' hK' => ?_)
    go_simp
    refine hK'.out _ _ (fun k _ h => h) ?_
    clear hK' K'
    try simp only [Act.put, List.setIfInBounds_toArray, List.set_cons_zero, List.set_cons_succ]
    clear HAL
    refine done_I (by kernel_rfl) ?_ _
    have c_BA_0 := blk_cell BA.out 0 _ rfl
    have c_BA_1 := blk_cell BA.out 1 _ rfl
    have c_BA_2 := blk_cell BA.out 2 _ rfl
    have l_BA := blk_lt BA.out
    have c_BB_0 := blk_cell BB.out 0 _ rfl
    have c_BB_1 := blk_cell BB.out 1 _ rfl
    have c_BB_2 := blk_cell BB.out 2 _ rfl
    have l_BB := blk_lt BB.out
    go_wp2_with fail
    clear c_BA_0 c_BA_1 c_BA_2 l_BA c_BB_0 c_BB_1 c_BB_2 l_BB
    rcases PC.out with ⟨px, py, pz, hp, _⟩ | hp
    rotate_left
    · have MP := Lib.hid (fun W => mul_calls _ _ _ _ _ _ _ _ _ _ hp W)
      clear hp PC PR
      rcases TC.out with ⟨tx, ty, tz, ht, _⟩ | ht
      · have MT := Lib.hid (fun W => mul_calls _ _ _ _ _ _ _ _ _ _ ht W)
        clear ht TC
        refine (MP.out _).mono ?_
        rintro e w128 ⟨rfl, hb⟩
        replace NN := Lib.hid (Bgo NN.out hb)
        replace BA := Lib.hid (blk_next hb BA.out)
        replace BB := Lib.hid (blk_next hb BB.out)
        replace BC := Lib.hid (blk_next hb BC.out)
        replace R1 := Lib.hid (blk_next hb R1.out)
        replace S1 := Lib.hid (blk_next hb S1.out)
        replace Q := Lib.hid (blk_next hb Q.out)
        clear hb
        have HB : Hid (Below w128.heap.size w128 (w128.alloc (.cells #[.int .i64 0, .int .i64 0, .int .i64 0] 23))) := Lib.hid (Bal (Below.refl _ _) _)
        have P := Lib.hid (blk_new w128 (.cells #[.int .i64 0, .int .i64 0, .int .i64 0] 23))
        have LT_P : Hid (w.heap.size < w128.heap.size ∧ w.heap.size + 1 < w128.heap.size ∧ w.heap.size + 1 + 1 < w128.heap.size ∧ g34 < w128.heap.size ∧ w35.heap.size < w128.heap.size ∧ gs127 < w128.heap.size ∧ w.heap.size ≤ w128.heap.size) := Lib.hid ⟨blk_lt BA.out, blk_lt BB.out, blk_lt BC.out, blk_lt R1.out, blk_lt S1.out, blk_lt Q.out, NN.out.size⟩
        replace NN := Lib.hid (Bgo NN.out HB.out)
        replace BA := Lib.hid (blk_next HB.out BA.out)
        replace BB := Lib.hid (blk_next HB.out BB.out)
        replace BC := Lib.hid (blk_next HB.out BC.out)
        replace R1 := Lib.hid (blk_next HB.out R1.out)
        replace S1 := Lib.hid (blk_next HB.out S1.out)
        replace Q := Lib.hid (blk_next HB.out Q.out)
        clear HB
        have c_R1_0 := blk_cell R1.out 0 _ rfl
        have f_R1_0 := blk_frozen R1.out 0
        have c_R1_1 := blk_cell R1.out 1 _ rfl
        have f_R1_1 := blk_frozen R1.out 1
        have c_R1_2 := blk_cell R1.out 2 _ rfl
        have f_R1_2 := blk_frozen R1.out 2
        have l_R1 := blk_lt R1.out
        have c_S1_0 := blk_cell S1.out 0 _ rfl
        have f_S1_0 := blk_frozen S1.out 0
        have c_S1_1 := blk_cell S1.out 1 _ rfl
        have f_S1_1 := blk_frozen S1.out 1
        have c_S1_2 := blk_cell S1.out 2 _ rfl
        have f_S1_2 := blk_frozen S1.out 2
        have l_S1 := blk_lt S1.out
        go_wp2_with fail
        clear c_R1_0 f_R1_0 c_R1_1 f_R1_1 c_R1_2 f_R1_2 l_R1 c_S1_0 f_S1_0 c_S1_1 f_S1_1 c_S1_2 f_S1_2 l_S1
        generalize w128.alloc (.cells #[.int .i64 0, .int .i64 0, .int .i64 0] 23) = W129 at *
        generalize w128.heap.size = g129 at *
        refine (MT.out _).mono ?_
        rintro e w130 ⟨rfl, hb⟩
        replace NN := Lib.hid (Bgo NN.out hb)
        replace BA := Lib.hid (blk_next hb BA.out)
        replace BB := Lib.hid (blk_next hb BB.out)
        replace BC := Lib.hid (blk_next hb BC.out)
        replace R1 := Lib.hid (blk_next hb R1.out)
        replace S1 := Lib.hid (blk_next hb S1.out)
        replace Q := Lib.hid (blk_next hb Q.out)
        replace P := Lib.hid (blk_next hb P.out)
        clear hb
        have HB : Hid (Below w130.heap.size w130 (w130.alloc (.cells #[.int .i64 tx, .int .i64 ty, .int .i64 tz] 23))) := Lib.hid (Bal (Below.refl _ _) _)
        have T := Lib.hid (blk_new w130 (.cells #[.int .i64 tx, .int .i64 ty, .int .i64 tz] 23))
        have LT_T : Hid (w.heap.size < w130.heap.size ∧ w.heap.size + 1 < w130.heap.size ∧ w.heap.size + 1 + 1 < w130.heap.size ∧ g34 < w130.heap.size ∧ w35.heap.size < w130.heap.size ∧ gs127 < w130.heap.size ∧ g129 < w130.heap.size ∧ w.heap.size ≤ w130.heap.size) := Lib.hid ⟨blk_lt BA.out, blk_lt BB.out, blk_lt BC.out, blk_lt R1.out, blk_lt S1.out, blk_lt Q.out, blk_lt P.out, NN.out.size⟩
        replace NN := Lib.hid (Bgo NN.out HB.out)
        replace BA := Lib.hid (blk_next HB.out BA.out)
        replace BB := Lib.hid (blk_next HB.out BB.out)
        replace BC := Lib.hid (blk_next HB.out BC.out)
        replace R1 := Lib.hid (blk_next HB.out R1.out)
        replace S1 := Lib.hid (blk_next HB.out S1.out)
        replace Q := Lib.hid (blk_next HB.out Q.out)
        replace P := Lib.hid (blk_next HB.out P.out)
        clear HB
        have c_BA_0 := blk_cell BA.out 0 _ rfl
        have c_BA_1 := blk_cell BA.out 1 _ rfl
        have c_BA_2 := blk_cell BA.out 2 _ rfl
        have l_BA := blk_lt BA.out
        have c_BB_0 := blk_cell BB.out 0 _ rfl
        have c_BB_1 := blk_cell BB.out 1 _ rfl
        have c_BB_2 := blk_cell BB.out 2 _ rfl
        have l_BB := blk_lt BB.out
        go_wp2_with fail
        clear c_BA_0 c_BA_1 c_BA_2 l_BA c_BB_0 c_BB_1 c_BB_2 l_BB
        refine (Ooab.out _).mono ?_
        rintro e w132 ⟨rfl, hb⟩
        replace NN := Lib.hid (Bgo NN.out hb)
        replace BA := Lib.hid (blk_next hb BA.out)
        replace BB := Lib.hid (blk_next hb BB.out)
        replace BC := Lib.hid (blk_next hb BC.out)
        replace R1 := Lib.hid (blk_next hb R1.out)
        replace S1 := Lib.hid (blk_next hb S1.out)
        replace Q := Lib.hid (blk_next hb Q.out)
        replace P := Lib.hid (blk_next hb P.out)
        replace T := Lib.hid (blk_next hb T.out)
        clear hb
        have c_BA_0 := blk_cell BA.out 0 _ rfl
        have f_BA_0 := blk_frozen BA.out 0
        have c_BA_1 := blk_cell BA.out 1 _ rfl
        have f_BA_1 := blk_frozen BA.out 1
        have c_BA_2 := blk_cell BA.out 2 _ rfl
        have f_BA_2 := blk_frozen BA.out 2
        have l_BA := blk_lt BA.out
        have c_BB_0 := blk_cell BB.out 0 _ rfl
        have f_BB_0 := blk_frozen BB.out 0
        have c_BB_1 := blk_cell BB.out 1 _ rfl
        have f_BB_1 := blk_frozen BB.out 1
        have c_BB_2 := blk_cell BB.out 2 _ rfl
        have f_BB_2 := blk_frozen BB.out 2
        have l_BB := blk_lt BB.out
        go_wp2_with fail
        refine (Ooba.out _).mono ?_
        rintro e w133 ⟨rfl, hb⟩
        clear c_BA_0 f_BA_0 c_BA_1 f_BA_1 c_BA_2 f_BA_2 l_BA c_BB_0 f_BB_0 c_BB_1 f_BB_1 c_BB_2 f_BB_2 l_BB
        replace NN := Lib.hid (Bgo NN.out hb)
        replace BA := Lib.hid (blk_next hb BA.out)
        replace BB := Lib.hid (blk_next hb BB.out)
        replace BC := Lib.hid (blk_next hb BC.out)
        replace R1 := Lib.hid (blk_next hb R1.out)
        replace S1 := Lib.hid (blk_next hb S1.out)
        replace Q := Lib.hid (blk_next hb Q.out)
        replace P := Lib.hid (blk_next hb P.out)
        replace T := Lib.hid (blk_next hb T.out)
        clear hb
        have c_R1_0 := blk_cell R1.out 0 _ rfl
        have f_R1_0 := blk_frozen R1.out 0
        have c_R1_1 := blk_cell R1.out 1 _ rfl
        have f_R1_1 := blk_frozen R1.out 1
        have c_R1_2 := blk_cell R1.out 2 _ rfl
        have f_R1_2 := blk_frozen R1.out 2
        have l_R1 := blk_lt R1.out
        have c_S1_0 := blk_cell S1.out 0 _ rfl
        have f_S1_0 := blk_frozen S1.out 0
        have c_S1_1 := blk_cell S1.out 1 _ rfl
        have f_S1_1 := blk_frozen S1.out 1
        have c_S1_2 := blk_cell S1.out 2 _ rfl
        have f_S1_2 := blk_frozen S1.out 2
        have l_S1 := blk_lt S1.out
        go_wp2_with fail
        refine (Oors.out _).mono ?_
        rintro e w134 ⟨rfl, hb⟩
        clear c_R1_0 f_R1_0 c_R1_1 f_R1_1 c_R1_2 f_R1_2 l_R1 c_S1_0 f_S1_0 c_S1_1 f_S1_1 c_S1_2 f_S1_2 l_S1
        replace NN := Lib.hid (Bgo NN.out hb)
        replace BA := Lib.hid (blk_next hb BA.out)
        replace BB := Lib.hid (blk_next hb BB.out)
        replace BC := Lib.hid (blk_next hb BC.out)
        replace R1 := Lib.hid (blk_next hb R1.out)
        replace S1 := Lib.hid (blk_next hb S1.out)
        replace Q := Lib.hid (blk_next hb Q.out)
        replace P := Lib.hid (blk_next hb P.out)
        replace T := Lib.hid (blk_next hb T.out)
        clear hb
        have c_BB_0 := blk_cell BB.out 0 _ rfl
        have f_BB_0 := blk_frozen BB.out 0
        have c_BB_1 := blk_cell BB.out 1 _ rfl
        have f_BB_1 := blk_frozen BB.out 1
        have c_BB_2 := blk_cell BB.out 2 _ rfl
        have f_BB_2 := blk_frozen BB.out 2
        have l_BB := blk_lt BB.out
        have c_BC_0 := blk_cell BC.out 0 _ rfl
        have f_BC_0 := blk_frozen BC.out 0
        have c_BC_1 := blk_cell BC.out 1 _ rfl
        have f_BC_1 := blk_frozen BC.out 1
        have c_BC_2 := blk_cell BC.out 2 _ rfl
        have f_BC_2 := blk_frozen BC.out 2
        have l_BC := blk_lt BC.out
        go_wp2_with fail
        refine (Oobc.out _).mono ?_
        rintro e w135 ⟨rfl, hb⟩
        clear c_BB_0 f_BB_0 c_BB_1 f_BB_1 c_BB_2 f_BB_2 l_BB c_BC_0 f_BC_0 c_BC_1 f_BC_1 c_BC_2 f_BC_2 l_BC
        replace NN := Lib.hid (Bgo NN.out hb)
        replace BA := Lib.hid (blk_next hb BA.out)
        replace BB := Lib.hid (blk_next hb BB.out)
        replace BC := Lib.hid (blk_next hb BC.out)
        replace R1 := Lib.hid (blk_next hb R1.out)
        replace S1 := Lib.hid (blk_next hb S1.out)
        replace Q := Lib.hid (blk_next hb Q.out)
        replace P := Lib.hid (blk_next hb P.out)
        replace T := Lib.hid (blk_next hb T.out)
        clear hb
        have c_BA_0 := blk_cell BA.out 0 _ rfl
        have f_BA_0 := blk_frozen BA.out 0
        have c_BA_1 := blk_cell BA.out 1 _ rfl
        have f_BA_1 := blk_frozen BA.out 1
        have c_BA_2 := blk_cell BA.out 2 _ rfl
        have f_BA_2 := blk_frozen BA.out 2
        have l_BA := blk_lt BA.out
        have c_BC_0 := blk_cell BC.out 0 _ rfl
        have f_BC_0 := blk_frozen BC.out 0
        have c_BC_1 := blk_cell BC.out 1 _ rfl
        have f_BC_1 := blk_frozen BC.out 1
        have c_BC_2 := blk_cell BC.out 2 _ rfl
        have f_BC_2 := blk_frozen BC.out 2
        have l_BC := blk_lt BC.out
        go_wp2_with fail
        refine (Ooac.out _).mono ?_
        rintro e w136 ⟨rfl, hb⟩
        clear c_BA_0 f_BA_0 c_BA_1 f_BA_1 c_BA_2 f_BA_2 l_BA c_BC_0 f_BC_0 c_BC_1 f_BC_1 c_BC_2 f_BC_2 l_BC
        replace NN := Lib.hid (Bgo NN.out hb)
        replace BA := Lib.hid (blk_next hb BA.out)
        replace BB := Lib.hid (blk_next hb BB.out)
        replace BC := Lib.hid (blk_next hb BC.out)
        replace R1 := Lib.hid (blk_next hb R1.out)
        replace S1 := Lib.hid (blk_next hb S1.out)
        replace Q := Lib.hid (blk_next hb Q.out)
        replace P := Lib.hid (blk_next hb P.out)
        replace T := Lib.hid (blk_next hb T.out)
        clear hb
        have heb := HEB.out
        have xe := HXE.out
        by_cases xl : X < 0
        · have xl' : decide (X < (0 : Int)) = true := decide_eq_true xl
          clear TR
          have c_R1_0 := blk_cell R1.out 0 _ rfl
          have c_R1_1 := blk_cell R1.out 1 _ rfl
          have c_R1_2 := blk_cell R1.out 2 _ rfl
          have l_R1 := blk_lt R1.out
          have c_S1_0 := blk_cell S1.out 0 _ rfl
          have c_S1_1 := blk_cell S1.out 1 _ rfl
          have c_S1_2 := blk_cell S1.out 2 _ rfl
          have l_S1 := blk_lt S1.out
          go_wp2_with fail
          go_ret
          exact ⟨rfl, NN.out⟩
        have xl' : decide (X < (0 : Int)) = false := decide_eq_false xl
        by_cases mn : M < 0
        · have mn' : decide (M < (0 : Int)) = true := decide_eq_true mn
          clear TR
          have c_R1_0 := blk_cell R1.out 0 _ rfl
          have c_R1_1 := blk_cell R1.out 1 _ rfl
          have c_R1_2 := blk_cell R1.out 2 _ rfl
          have l_R1 := blk_lt R1.out
          have c_S1_0 := blk_cell S1.out 0 _ rfl
          have c_S1_1 := blk_cell S1.out 1 _ rfl
          have c_S1_2 := blk_cell S1.out 2 _ rfl
          have l_S1 := blk_lt S1.out
          go_wp2_with fail
          go_ret
          exact ⟨rfl, NN.out⟩
        have mn' : decide (M < (0 : Int)) = false := decide_eq_false mn
        have on : decide ((0 : Int) ≤ O) = true := decide_eq_true (TR.out (by omega) (by omega))
        clear TR
        have c_R1_0 := blk_cell R1.out 0 _ rfl
        have c_R1_1 := blk_cell R1.out 1 _ rfl
        have c_R1_2 := blk_cell R1.out 2 _ rfl
        have l_R1 := blk_lt R1.out
        have c_S1_0 := blk_cell S1.out 0 _ rfl
        have c_S1_1 := blk_cell S1.out 1 _ rfl
        have c_S1_2 := blk_cell S1.out 2 _ rfl
        have l_S1 := blk_lt S1.out
        go_wp2_with fail
        go_ret
        exact ⟨rfl, NN.out⟩
      · have MT := Lib.hid (fun W => mul_calls _ _ _ _ _ _ _ _ _ _ ht W)
        clear ht TC
        refine (MP.out _).mono ?_
        rintro e w137 ⟨rfl, hb⟩
        replace NN := Lib.hid (Bgo NN.out hb)
        replace BA := Lib.hid (blk_next hb BA.out)
        replace BB := Lib.hid (blk_next hb BB.out)
        replace BC := Lib.hid (blk_next hb BC.out)
        replace R1 := Lib.hid (blk_next hb R1.out)
        replace S1 := Lib.hid (blk_next hb S1.out)
        replace Q := Lib.hid (blk_next hb Q.out)
        clear hb
        have HB : Hid (Below w137.heap.size w137 (w137.alloc (.cells #[.int .i64 0, .int .i64 0, .int .i64 0] 23))) := Lib.hid (Bal (Below.refl _ _) _)
        have P := Lib.hid (blk_new w137 (.cells #[.int .i64 0, .int .i64 0, .int .i64 0] 23))
        have LT_P : Hid (w.heap.size < w137.heap.size ∧ w.heap.size + 1 < w137.heap.size ∧ w.heap.size + 1 + 1 < w137.heap.size ∧ g34 < w137.heap.size ∧ w35.heap.size < w137.heap.size ∧ gs127 < w137.heap.size ∧ w.heap.size ≤ w137.heap.size) := Lib.hid ⟨blk_lt BA.out, blk_lt BB.out, blk_lt BC.out, blk_lt R1.out, blk_lt S1.out, blk_lt Q.out, NN.out.size⟩
        replace NN := Lib.hid (Bgo NN.out HB.out)
        replace BA := Lib.hid (blk_next HB.out BA.out)
        replace BB := Lib.hid (blk_next HB.out BB.out)
        replace BC := Lib.hid (blk_next HB.out BC.out)
        replace R1 := Lib.hid (blk_next HB.out R1.out)
        replace S1 := Lib.hid (blk_next HB.out S1.out)
        replace Q := Lib.hid (blk_next HB.out Q.out)
        clear HB
        have c_R1_0 := blk_cell R1.out 0 _ rfl
        have f_R1_0 := blk_frozen R1.out 0
        have c_R1_1 := blk_cell R1.out 1 _ rfl
        have f_R1_1 := blk_frozen R1.out 1
        have c_R1_2 := blk_cell R1.out 2 _ rfl
        have f_R1_2 := blk_frozen R1.out 2
        have l_R1 := blk_lt R1.out
        have c_S1_0 := blk_cell S1.out 0 _ rfl
        have f_S1_0 := blk_frozen S1.out 0
        have c_S1_1 := blk_cell S1.out 1 _ rfl
        have f_S1_1 := blk_frozen S1.out 1
        have c_S1_2 := blk_cell S1.out 2 _ rfl
        have f_S1_2 := blk_frozen S1.out 2
        have l_S1 := blk_lt S1.out
        go_wp2_with fail
        clear c_R1_0 f_R1_0 c_R1_1 f_R1_1 c_R1_2 f_R1_2 l_R1 c_S1_0 f_S1_0 c_S1_1 f_S1_1 c_S1_2 f_S1_2 l_S1
        generalize w137.alloc (.cells #[.int .i64 0, .int .i64 0, .int .i64 0] 23) = W138 at *
        generalize w137.heap.size = g138 at *
        refine (MT.out _).mono ?_
        rintro e w139 ⟨rfl, hb⟩
        replace NN := Lib.hid (Bgo NN.out hb)
        replace BA := Lib.hid (blk_next hb BA.out)
        replace BB := Lib.hid (blk_next hb BB.out)
        replace BC := Lib.hid (blk_next hb BC.out)
        replace R1 := Lib.hid (blk_next hb R1.out)
        replace S1 := Lib.hid (blk_next hb S1.out)
        replace Q := Lib.hid (blk_next hb Q.out)
        replace P := Lib.hid (blk_next hb P.out)
        clear hb
        have HB : Hid (Below w139.heap.size w139 (w139.alloc (.cells #[.int .i64 0, .int .i64 0, .int .i64 0] 23))) := Lib.hid (Bal (Below.refl _ _) _)
        have T := Lib.hid (blk_new w139 (.cells #[.int .i64 0, .int .i64 0, .int .i64 0] 23))
        have LT_T : Hid (w.heap.size < w139.heap.size ∧ w.heap.size + 1 < w139.heap.size ∧ w.heap.size + 1 + 1 < w139.heap.size ∧ g34 < w139.heap.size ∧ w35.heap.size < w139.heap.size ∧ gs127 < w139.heap.size ∧ g138 < w139.heap.size ∧ w.heap.size ≤ w139.heap.size) := Lib.hid ⟨blk_lt BA.out, blk_lt BB.out, blk_lt BC.out, blk_lt R1.out, blk_lt S1.out, blk_lt Q.out, blk_lt P.out, NN.out.size⟩
        replace NN := Lib.hid (Bgo NN.out HB.out)
        replace BA := Lib.hid (blk_next HB.out BA.out)
        replace BB := Lib.hid (blk_next HB.out BB.out)
        replace BC := Lib.hid (blk_next HB.out BC.out)
        replace R1 := Lib.hid (blk_next HB.out R1.out)
        replace S1 := Lib.hid (blk_next HB.out S1.out)
        replace Q := Lib.hid (blk_next HB.out Q.out)
        replace P := Lib.hid (blk_next HB.out P.out)
        clear HB
        have c_BA_0 := blk_cell BA.out 0 _ rfl
        have c_BA_1 := blk_cell BA.out 1 _ rfl
        have c_BA_2 := blk_cell BA.out 2 _ rfl
        have l_BA := blk_lt BA.out
        have c_BB_0 := blk_cell BB.out 0 _ rfl
        have c_BB_1 := blk_cell BB.out 1 _ rfl
        have c_BB_2 := blk_cell BB.out 2 _ rfl
        have l_BB := blk_lt BB.out
        go_wp2_with fail
        clear c_BA_0 c_BA_1 c_BA_2 l_BA c_BB_0 c_BB_1 c_BB_2 l_BB
        refine (Ooab.out _).mono ?_
        rintro e w141 ⟨rfl, hb⟩
        replace NN := Lib.hid (Bgo NN.out hb)
        replace BA := Lib.hid (blk_next hb BA.out)
        replace BB := Lib.hid (blk_next hb BB.out)
        replace BC := Lib.hid (blk_next hb BC.out)
        replace R1 := Lib.hid (blk_next hb R1.out)
        replace S1 := Lib.hid (blk_next hb S1.out)
        replace Q := Lib.hid (blk_next hb Q.out)
        replace P := Lib.hid (blk_next hb P.out)
        replace T := Lib.hid (blk_next hb T.out)
        clear hb
        have c_BA_0 := blk_cell BA.out 0 _ rfl
        have f_BA_0 := blk_frozen BA.out 0
        have c_BA_1 := blk_cell BA.out 1 _ rfl
        have f_BA_1 := blk_frozen BA.out 1
        have c_BA_2 := blk_cell BA.out 2 _ rfl
        have f_BA_2 := blk_frozen BA.out 2
        have l_BA := blk_lt BA.out
        have c_BB_0 := blk_cell BB.out 0 _ rfl
        have f_BB_0 := blk_frozen BB.out 0
        have c_BB_1 := blk_cell BB.out 1 _ rfl
        have f_BB_1 := blk_frozen BB.out 1
        have c_BB_2 := blk_cell BB.out 2 _ rfl
        have f_BB_2 := blk_frozen BB.out 2
        have l_BB := blk_lt BB.out
        go_wp2_with fail
        refine (Ooba.out _).mono ?_
        rintro e w142 ⟨rfl, hb⟩
        clear c_BA_0 f_BA_0 c_BA_1 f_BA_1 c_BA_2 f_BA_2 l_BA c_BB_0 f_BB_0 c_BB_1 f_BB_1 c_BB_2 f_BB_2 l_BB
        replace NN := Lib.hid (Bgo NN.out hb)
        replace BA := Lib.hid (blk_next hb BA.out)
        replace BB := Lib.hid (blk_next hb BB.out)
        replace BC := Lib.hid (blk_next hb BC.out)
        replace R1 := Lib.hid (blk_next hb R1.out)
        replace S1 := Lib.hid (blk_next hb S1.out)
        replace Q := Lib.hid (blk_next hb Q.out)
        replace P := Lib.hid (blk_next hb P.out)
        replace T := Lib.hid (blk_next hb T.out)
        clear hb
        have c_R1_0 := blk_cell R1.out 0 _ rfl
        have f_R1_0 := blk_frozen R1.out 0
        have c_R1_1 := blk_cell R1.out 1 _ rfl
        have f_R1_1 := blk_frozen R1.out 1
        have c_R1_2 := blk_cell R1.out 2 _ rfl
        have f_R1_2 := blk_frozen R1.out 2
        have l_R1 := blk_lt R1.out
        have c_S1_0 := blk_cell S1.out 0 _ rfl
        have f_S1_0 := blk_frozen S1.out 0
        have c_S1_1 := blk_cell S1.out 1 _ rfl
        have f_S1_1 := blk_frozen S1.out 1
        have c_S1_2 := blk_cell S1.out 2 _ rfl
        have f_S1_2 := blk_frozen S1.out 2
        have l_S1 := blk_lt S1.out
        go_wp2_with fail
        refine (Oors.out _).mono ?_
        rintro e w143 ⟨rfl, hb⟩
        clear c_R1_0 f_R1_0 c_R1_1 f_R1_1 c_R1_2 f_R1_2 l_R1 c_S1_0 f_S1_0 c_S1_1 f_S1_1 c_S1_2 f_S1_2 l_S1
        replace NN := Lib.hid (Bgo NN.out hb)
        replace BA := Lib.hid (blk_next hb BA.out)
        replace BB := Lib.hid (blk_next hb BB.out)
        replace BC := Lib.hid (blk_next hb BC.out)
        replace R1 := Lib.hid (blk_next hb R1.out)
        replace S1 := Lib.hid (blk_next hb S1.out)
        replace Q := Lib.hid (blk_next hb Q.out)
        replace P := Lib.hid (blk_next hb P.out)
        replace T := Lib.hid (blk_next hb T.out)
        clear hb
        have c_BB_0 := blk_cell BB.out 0 _ rfl
        have f_BB_0 := blk_frozen BB.out 0
        have c_BB_1 := blk_cell BB.out 1 _ rfl
        have f_BB_1 := blk_frozen BB.out 1
        have c_BB_2 := blk_cell BB.out 2 _ rfl
        have f_BB_2 := blk_frozen BB.out 2
        have l_BB := blk_lt BB.out
        have c_BC_0 := blk_cell BC.out 0 _ rfl
        have f_BC_0 := blk_frozen BC.out 0
        have c_BC_1 := blk_cell BC.out 1 _ rfl
        have f_BC_1 := blk_frozen BC.out 1
        have c_BC_2 := blk_cell BC.out 2 _ rfl
        have f_BC_2 := blk_frozen BC.out 2
        have l_BC := blk_lt BC.out
        go_wp2_with fail
        refine (Oobc.out _).mono ?_
        rintro e w144 ⟨rfl, hb⟩
        clear c_BB_0 f_BB_0 c_BB_1 f_BB_1 c_BB_2 f_BB_2 l_BB c_BC_0 f_BC_0 c_BC_1 f_BC_1 c_BC_2 f_BC_2 l_BC
        replace NN := Lib.hid (Bgo NN.out hb)
        replace BA := Lib.hid (blk_next hb BA.out)
        replace BB := Lib.hid (blk_next hb BB.out)
        replace BC := Lib.hid (blk_next hb BC.out)
        replace R1 := Lib.hid (blk_next hb R1.out)
        replace S1 := Lib.hid (blk_next hb S1.out)
        replace Q := Lib.hid (blk_next hb Q.out)
        replace P := Lib.hid (blk_next hb P.out)
        replace T := Lib.hid (blk_next hb T.out)
        clear hb
        have c_BA_0 := blk_cell BA.out 0 _ rfl
        have f_BA_0 := blk_frozen BA.out 0
        have c_BA_1 := blk_cell BA.out 1 _ rfl
        have f_BA_1 := blk_frozen BA.out 1
        have c_BA_2 := blk_cell BA.out 2 _ rfl
        have f_BA_2 := blk_frozen BA.out 2
        have l_BA := blk_lt BA.out
        have c_BC_0 := blk_cell BC.out 0 _ rfl
        have f_BC_0 := blk_frozen BC.out 0
        have c_BC_1 := blk_cell BC.out 1 _ rfl
        have f_BC_1 := blk_frozen BC.out 1
        have c_BC_2 := blk_cell BC.out 2 _ rfl
        have f_BC_2 := blk_frozen BC.out 2
        have l_BC := blk_lt BC.out
        go_wp2_with fail
        refine (Ooac.out _).mono ?_
        rintro e w145 ⟨rfl, hb⟩
        clear c_BA_0 f_BA_0 c_BA_1 f_BA_1 c_BA_2 f_BA_2 l_BA c_BC_0 f_BC_0 c_BC_1 f_BC_1 c_BC_2 f_BC_2 l_BC
        replace NN := Lib.hid (Bgo NN.out hb)
        replace BA := Lib.hid (blk_next hb BA.out)
        replace BB := Lib.hid (blk_next hb BB.out)
        replace BC := Lib.hid (blk_next hb BC.out)
        replace R1 := Lib.hid (blk_next hb R1.out)
        replace S1 := Lib.hid (blk_next hb S1.out)
        replace Q := Lib.hid (blk_next hb Q.out)
        replace P := Lib.hid (blk_next hb P.out)
        replace T := Lib.hid (blk_next hb T.out)
        clear hb
        have heb := HEB.out
        have xe := HXE.out
        by_cases xl : X < 0
        · have xl' : decide (X < (0 : Int)) = true := decide_eq_true xl
          clear TR
          have c_R1_0 := blk_cell R1.out 0 _ rfl
          have c_R1_1 := blk_cell R1.out 1 _ rfl
          have c_R1_2 := blk_cell R1.out 2 _ rfl
          have l_R1 := blk_lt R1.out
          have c_S1_0 := blk_cell S1.out 0 _ rfl
          have c_S1_1 := blk_cell S1.out 1 _ rfl
          have c_S1_2 := blk_cell S1.out 2 _ rfl
          have l_S1 := blk_lt S1.out
          go_wp2_with fail
          go_ret
          exact ⟨rfl, NN.out⟩
        have xl' : decide (X < (0 : Int)) = false := decide_eq_false xl
        by_cases mn : M < 0
        · have mn' : decide (M < (0 : Int)) = true := decide_eq_true mn
          clear TR
          have c_R1_0 := blk_cell R1.out 0 _ rfl
          have c_R1_1 := blk_cell R1.out 1 _ rfl
          have c_R1_2 := blk_cell R1.out 2 _ rfl
          have l_R1 := blk_lt R1.out
          have c_S1_0 := blk_cell S1.out 0 _ rfl
          have c_S1_1 := blk_cell S1.out 1 _ rfl
          have c_S1_2 := blk_cell S1.out 2 _ rfl
          have l_S1 := blk_lt S1.out
          go_wp2_with fail
          go_ret
          exact ⟨rfl, NN.out⟩
        have mn' : decide (M < (0 : Int)) = false := decide_eq_false mn
        have on : decide ((0 : Int) ≤ O) = true := decide_eq_true (TR.out (by omega) (by omega))
        clear TR
        have c_R1_0 := blk_cell R1.out 0 _ rfl
        have c_R1_1 := blk_cell R1.out 1 _ rfl
        have c_R1_2 := blk_cell R1.out 2 _ rfl
        have l_R1 := blk_lt R1.out
        have c_S1_0 := blk_cell S1.out 0 _ rfl
        have c_S1_1 := blk_cell S1.out 1 _ rfl
        have c_S1_2 := blk_cell S1.out 2 _ rfl
        have l_S1 := blk_lt S1.out
        go_wp2_with fail
        go_ret
        exact ⟨rfl, NN.out⟩
    have MP := Lib.hid (fun W => mul_calls _ _ _ _ _ _ _ _ _ _ hp W)
    rcases TC.out with ⟨tx, ty, tz, ht, _⟩ | ht
    rotate_left
    · have MT := Lib.hid (fun W => mul_calls _ _ _ _ _ _ _ _ _ _ ht W)
      clear ht hp TC PC PR
      refine (MP.out _).mono ?_
      rintro e w146 ⟨rfl, hb⟩
      replace NN := Lib.hid (Bgo NN.out hb)
      replace BA := Lib.hid (blk_next hb BA.out)
      replace BB := Lib.hid (blk_next hb BB.out)
      replace BC := Lib.hid (blk_next hb BC.out)
      replace R1 := Lib.hid (blk_next hb R1.out)
      replace S1 := Lib.hid (blk_next hb S1.out)
      replace Q := Lib.hid (blk_next hb Q.out)
      clear hb
      have HB : Hid (Below w146.heap.size w146 (w146.alloc (.cells #[.int .i64 px, .int .i64 py, .int .i64 pz] 23))) := Lib.hid (Bal (Below.refl _ _) _)
      have P := Lib.hid (blk_new w146 (.cells #[.int .i64 px, .int .i64 py, .int .i64 pz] 23))
      have LT_P : Hid (w.heap.size < w146.heap.size ∧ w.heap.size + 1 < w146.heap.size ∧ w.heap.size + 1 + 1 < w146.heap.size ∧ g34 < w146.heap.size ∧ w35.heap.size < w146.heap.size ∧ gs127 < w146.heap.size ∧ w.heap.size ≤ w146.heap.size) := Lib.hid ⟨blk_lt BA.out, blk_lt BB.out, blk_lt BC.out, blk_lt R1.out, blk_lt S1.out, blk_lt Q.out, NN.out.size⟩
      replace NN := Lib.hid (Bgo NN.out HB.out)
      replace BA := Lib.hid (blk_next HB.out BA.out)
      replace BB := Lib.hid (blk_next HB.out BB.out)
      replace BC := Lib.hid (blk_next HB.out BC.out)
      replace R1 := Lib.hid (blk_next HB.out R1.out)
      replace S1 := Lib.hid (blk_next HB.out S1.out)
      replace Q := Lib.hid (blk_next HB.out Q.out)
      clear HB
      have c_R1_0 := blk_cell R1.out 0 _ rfl
      have f_R1_0 := blk_frozen R1.out 0
      have c_R1_1 := blk_cell R1.out 1 _ rfl
      have f_R1_1 := blk_frozen R1.out 1
      have c_R1_2 := blk_cell R1.out 2 _ rfl
      have f_R1_2 := blk_frozen R1.out 2
      have l_R1 := blk_lt R1.out
      have c_S1_0 := blk_cell S1.out 0 _ rfl
      have f_S1_0 := blk_frozen S1.out 0
      have c_S1_1 := blk_cell S1.out 1 _ rfl
      have f_S1_1 := blk_frozen S1.out 1
      have c_S1_2 := blk_cell S1.out 2 _ rfl
      have f_S1_2 := blk_frozen S1.out 2
      have l_S1 := blk_lt S1.out
      go_wp2_with fail
      clear c_R1_0 f_R1_0 c_R1_1 f_R1_1 c_R1_2 f_R1_2 l_R1 c_S1_0 f_S1_0 c_S1_1 f_S1_1 c_S1_2 f_S1_2 l_S1
      generalize w146.alloc (.cells #[.int .i64 px, .int .i64 py, .int .i64 pz] 23) = W147 at *
      generalize w146.heap.size = g147 at *
      refine (MT.out _).mono ?_
      rintro e w148 ⟨rfl, hb⟩
      replace NN := Lib.hid (Bgo NN.out hb)
      replace BA := Lib.hid (blk_next hb BA.out)
      replace BB := Lib.hid (blk_next hb BB.out)
      replace BC := Lib.hid (blk_next hb BC.out)
      replace R1 := Lib.hid (blk_next hb R1.out)
      replace S1 := Lib.hid (blk_next hb S1.out)
      replace Q := Lib.hid (blk_next hb Q.out)
      replace P := Lib.hid (blk_next hb P.out)
      clear hb
      have HB : Hid (Below w148.heap.size w148 (w148.alloc (.cells #[.int .i64 0, .int .i64 0, .int .i64 0] 23))) := Lib.hid (Bal (Below.refl _ _) _)
      have T := Lib.hid (blk_new w148 (.cells #[.int .i64 0, .int .i64 0, .int .i64 0] 23))
      have LT_T : Hid (w.heap.size < w148.heap.size ∧ w.heap.size + 1 < w148.heap.size ∧ w.heap.size + 1 + 1 < w148.heap.size ∧ g34 < w148.heap.size ∧ w35.heap.size < w148.heap.size ∧ gs127 < w148.heap.size ∧ g147 < w148.heap.size ∧ w.heap.size ≤ w148.heap.size) := Lib.hid ⟨blk_lt BA.out, blk_lt BB.out, blk_lt BC.out, blk_lt R1.out, blk_lt S1.out, blk_lt Q.out, blk_lt P.out, NN.out.size⟩
      replace NN := Lib.hid (Bgo NN.out HB.out)
      replace BA := Lib.hid (blk_next HB.out BA.out)
      replace BB := Lib.hid (blk_next HB.out BB.out)
      replace BC := Lib.hid (blk_next HB.out BC.out)
      replace R1 := Lib.hid (blk_next HB.out R1.out)
      replace S1 := Lib.hid (blk_next HB.out S1.out)
      replace Q := Lib.hid (blk_next HB.out Q.out)
      replace P := Lib.hid (blk_next HB.out P.out)
      clear HB
      have c_BA_0 := blk_cell BA.out 0 _ rfl
      have c_BA_1 := blk_cell BA.out 1 _ rfl
      have c_BA_2 := blk_cell BA.out 2 _ rfl
      have l_BA := blk_lt BA.out
      have c_BB_0 := blk_cell BB.out 0 _ rfl
      have c_BB_1 := blk_cell BB.out 1 _ rfl
      have c_BB_2 := blk_cell BB.out 2 _ rfl
      have l_BB := blk_lt BB.out
      go_wp2_with fail
      clear c_BA_0 c_BA_1 c_BA_2 l_BA c_BB_0 c_BB_1 c_BB_2 l_BB
      refine (Ooab.out _).mono ?_
      rintro e w150 ⟨rfl, hb⟩
      replace NN := Lib.hid (Bgo NN.out hb)
      replace BA := Lib.hid (blk_next hb BA.out)
      replace BB := Lib.hid (blk_next hb BB.out)
      replace BC := Lib.hid (blk_next hb BC.out)
      replace R1 := Lib.hid (blk_next hb R1.out)
      replace S1 := Lib.hid (blk_next hb S1.out)
      replace Q := Lib.hid (blk_next hb Q.out)
      replace P := Lib.hid (blk_next hb P.out)
      replace T := Lib.hid (blk_next hb T.out)
      clear hb
      have c_BA_0 := blk_cell BA.out 0 _ rfl
      have f_BA_0 := blk_frozen BA.out 0
      have c_BA_1 := blk_cell BA.out 1 _ rfl
      have f_BA_1 := blk_frozen BA.out 1
      have c_BA_2 := blk_cell BA.out 2 _ rfl
      have f_BA_2 := blk_frozen BA.out 2
      have l_BA := blk_lt BA.out
      have c_BB_0 := blk_cell BB.out 0 _ rfl
      have f_BB_0 := blk_frozen BB.out 0
      have c_BB_1 := blk_cell BB.out 1 _ rfl
      have f_BB_1 := blk_frozen BB.out 1
      have c_BB_2 := blk_cell BB.out 2 _ rfl
      have f_BB_2 := blk_frozen BB.out 2
      have l_BB := blk_lt BB.out
      go_wp2_with fail
      refine (Ooba.out _).mono ?_
      rintro e w151 ⟨rfl, hb⟩
      clear c_BA_0 f_BA_0 c_BA_1 f_BA_1 c_BA_2 f_BA_2 l_BA c_BB_0 f_BB_0 c_BB_1 f_BB_1 c_BB_2 f_BB_2 l_BB
      replace NN := Lib.hid (Bgo NN.out hb)
      replace BA := Lib.hid (blk_next hb BA.out)
      replace BB := Lib.hid (blk_next hb BB.out)
      replace BC := Lib.hid (blk_next hb BC.out)
      replace R1 := Lib.hid (blk_next hb R1.out)
      replace S1 := Lib.hid (blk_next hb S1.out)
      replace Q := Lib.hid (blk_next hb Q.out)
      replace P := Lib.hid (blk_next hb P.out)
      replace T := Lib.hid (blk_next hb T.out)
      clear hb
      have c_R1_0 := blk_cell R1.out 0 _ rfl
      have f_R1_0 := blk_frozen R1.out 0
      have c_R1_1 := blk_cell R1.out 1 _ rfl
      have f_R1_1 := blk_frozen R1.out 1
      have c_R1_2 := blk_cell R1.out 2 _ rfl
      have f_R1_2 := blk_frozen R1.out 2
      have l_R1 := blk_lt R1.out
      have c_S1_0 := blk_cell S1.out 0 _ rfl
      have f_S1_0 := blk_frozen S1.out 0
      have c_S1_1 := blk_cell S1.out 1 _ rfl
      have f_S1_1 := blk_frozen S1.out 1
      have c_S1_2 := blk_cell S1.out 2 _ rfl
      have f_S1_2 := blk_frozen S1.out 2
      have l_S1 := blk_lt S1.out
      go_wp2_with fail
      refine (Oors.out _).mono ?_
      rintro e w152 ⟨rfl, hb⟩
      clear c_R1_0 f_R1_0 c_R1_1 f_R1_1 c_R1_2 f_R1_2 l_R1 c_S1_0 f_S1_0 c_S1_1 f_S1_1 c_S1_2 f_S1_2 l_S1
      replace NN := Lib.hid (Bgo NN.out hb)
      replace BA := Lib.hid (blk_next hb BA.out)
      replace BB := Lib.hid (blk_next hb BB.out)
      replace BC := Lib.hid (blk_next hb BC.out)
      replace R1 := Lib.hid (blk_next hb R1.out)
      replace S1 := Lib.hid (blk_next hb S1.out)
      replace Q := Lib.hid (blk_next hb Q.out)
      replace P := Lib.hid (blk_next hb P.out)
      replace T := Lib.hid (blk_next hb T.out)
      clear hb
      have c_BB_0 := blk_cell BB.out 0 _ rfl
      have f_BB_0 := blk_frozen BB.out 0
      have c_BB_1 := blk_cell BB.out 1 _ rfl
      have f_BB_1 := blk_frozen BB.out 1
      have c_BB_2 := blk_cell BB.out 2 _ rfl
      have f_BB_2 := blk_frozen BB.out 2
      have l_BB := blk_lt BB.out
      have c_BC_0 := blk_cell BC.out 0 _ rfl
      have f_BC_0 := blk_frozen BC.out 0
      have c_BC_1 := blk_cell BC.out 1 _ rfl
      have f_BC_1 := blk_frozen BC.out 1
      have c_BC_2 := blk_cell BC.out 2 _ rfl
      have f_BC_2 := blk_frozen BC.out 2
      have l_BC := blk_lt BC.out
      go_wp2_with fail
      refine (Oobc.out _).mono ?_
      rintro e w153 ⟨rfl, hb⟩
      clear c_BB_0 f_BB_0 c_BB_1 f_BB_1 c_BB_2 f_BB_2 l_BB c_BC_0 f_BC_0 c_BC_1 f_BC_1 c_BC_2 f_BC_2 l_BC
      replace NN := Lib.hid (Bgo NN.out hb)
      replace BA := Lib.hid (blk_next hb BA.out)
      replace BB := Lib.hid (blk_next hb BB.out)
      replace BC := Lib.hid (blk_next hb BC.out)
      replace R1 := Lib.hid (blk_next hb R1.out)
      replace S1 := Lib.hid (blk_next hb S1.out)
      replace Q := Lib.hid (blk_next hb Q.out)
      replace P := Lib.hid (blk_next hb P.out)
      replace T := Lib.hid (blk_next hb T.out)
      clear hb
      have c_BA_0 := blk_cell BA.out 0 _ rfl
      have f_BA_0 := blk_frozen BA.out 0
      have c_BA_1 := blk_cell BA.out 1 _ rfl
      have f_BA_1 := blk_frozen BA.out 1
      have c_BA_2 := blk_cell BA.out 2 _ rfl
      have f_BA_2 := blk_frozen BA.out 2
      have l_BA := blk_lt BA.out
      have c_BC_0 := blk_cell BC.out 0 _ rfl
      have f_BC_0 := blk_frozen BC.out 0
      have c_BC_1 := blk_cell BC.out 1 _ rfl
      have f_BC_1 := blk_frozen BC.out 1
      have c_BC_2 := blk_cell BC.out 2 _ rfl
      have f_BC_2 := blk_frozen BC.out 2
      have l_BC := blk_lt BC.out
      go_wp2_with fail
      refine (Ooac.out _).mono ?_
      rintro e w154 ⟨rfl, hb⟩
      clear c_BA_0 f_BA_0 c_BA_1 f_BA_1 c_BA_2 f_BA_2 l_BA c_BC_0 f_BC_0 c_BC_1 f_BC_1 c_BC_2 f_BC_2 l_BC
      replace NN := Lib.hid (Bgo NN.out hb)
      replace BA := Lib.hid (blk_next hb BA.out)
      replace BB := Lib.hid (blk_next hb BB.out)
      replace BC := Lib.hid (blk_next hb BC.out)
      replace R1 := Lib.hid (blk_next hb R1.out)
      replace S1 := Lib.hid (blk_next hb S1.out)
      replace Q := Lib.hid (blk_next hb Q.out)
      replace P := Lib.hid (blk_next hb P.out)
      replace T := Lib.hid (blk_next hb T.out)
      clear hb
      have heb := HEB.out
      have xe := HXE.out
      by_cases xl : X < 0
      · have xl' : decide (X < (0 : Int)) = true := decide_eq_true xl
        clear TR
        have c_R1_0 := blk_cell R1.out 0 _ rfl
        have c_R1_1 := blk_cell R1.out 1 _ rfl
        have c_R1_2 := blk_cell R1.out 2 _ rfl
        have l_R1 := blk_lt R1.out
        have c_S1_0 := blk_cell S1.out 0 _ rfl
        have c_S1_1 := blk_cell S1.out 1 _ rfl
        have c_S1_2 := blk_cell S1.out 2 _ rfl
        have l_S1 := blk_lt S1.out
        go_wp2_with fail
        go_ret
        exact ⟨rfl, NN.out⟩
      have xl' : decide (X < (0 : Int)) = false := decide_eq_false xl
      by_cases mn : M < 0
      · have mn' : decide (M < (0 : Int)) = true := decide_eq_true mn
        clear TR
        have c_R1_0 := blk_cell R1.out 0 _ rfl
        have c_R1_1 := blk_cell R1.out 1 _ rfl
        have c_R1_2 := blk_cell R1.out 2 _ rfl
        have l_R1 := blk_lt R1.out
        have c_S1_0 := blk_cell S1.out 0 _ rfl
        have c_S1_1 := blk_cell S1.out 1 _ rfl
        have c_S1_2 := blk_cell S1.out 2 _ rfl
        have l_S1 := blk_lt S1.out
        go_wp2_with fail
        go_ret
        exact ⟨rfl, NN.out⟩
      have mn' : decide (M < (0 : Int)) = false := decide_eq_false mn
      have on : decide ((0 : Int) ≤ O) = true := decide_eq_true (TR.out (by omega) (by omega))
      clear TR
      have c_R1_0 := blk_cell R1.out 0 _ rfl
      have c_R1_1 := blk_cell R1.out 1 _ rfl
      have c_R1_2 := blk_cell R1.out 2 _ rfl
      have l_R1 := blk_lt R1.out
      have c_S1_0 := blk_cell S1.out 0 _ rfl
      have c_S1_1 := blk_cell S1.out 1 _ rfl
      have c_S1_2 := blk_cell S1.out 2 _ rfl
      have l_S1 := blk_lt S1.out
      go_wp2_with fail
      go_ret
      exact ⟨rfl, NN.out⟩
    have MT := Lib.hid (fun W => mul_calls _ _ _ _ _ _ _ _ _ _ ht W)
    obtain ⟨u, v, hu, hv⟩ := PR.out _ _ _ _ _ _ hp ht
    have RP := Lib.hid (fun W => ray_calls hu W)
    have RT := Lib.hid (fun W => ray_calls hv W)
    clear ht hp hu hv TC PC PR
    refine (MP.out _).mono ?_
    rintro e w155 ⟨rfl, hb⟩
    replace NN := Lib.hid (Bgo NN.out hb)
    replace BA := Lib.hid (blk_next hb BA.out)
    replace BB := Lib.hid (blk_next hb BB.out)
    replace BC := Lib.hid (blk_next hb BC.out)
    replace R1 := Lib.hid (blk_next hb R1.out)
    replace S1 := Lib.hid (blk_next hb S1.out)
    replace Q := Lib.hid (blk_next hb Q.out)
    clear hb
    have HB : Hid (Below w155.heap.size w155 (w155.alloc (.cells #[.int .i64 px, .int .i64 py, .int .i64 pz] 23))) := Lib.hid (Bal (Below.refl _ _) _)
    have P := Lib.hid (blk_new w155 (.cells #[.int .i64 px, .int .i64 py, .int .i64 pz] 23))
    have LT_P : Hid (w.heap.size < w155.heap.size ∧ w.heap.size + 1 < w155.heap.size ∧ w.heap.size + 1 + 1 < w155.heap.size ∧ g34 < w155.heap.size ∧ w35.heap.size < w155.heap.size ∧ gs127 < w155.heap.size ∧ w.heap.size ≤ w155.heap.size) := Lib.hid ⟨blk_lt BA.out, blk_lt BB.out, blk_lt BC.out, blk_lt R1.out, blk_lt S1.out, blk_lt Q.out, NN.out.size⟩
    replace NN := Lib.hid (Bgo NN.out HB.out)
    replace BA := Lib.hid (blk_next HB.out BA.out)
    replace BB := Lib.hid (blk_next HB.out BB.out)
    replace BC := Lib.hid (blk_next HB.out BC.out)
    replace R1 := Lib.hid (blk_next HB.out R1.out)
    replace S1 := Lib.hid (blk_next HB.out S1.out)
    replace Q := Lib.hid (blk_next HB.out Q.out)
    clear HB
    have c_R1_0 := blk_cell R1.out 0 _ rfl
    have f_R1_0 := blk_frozen R1.out 0
    have c_R1_1 := blk_cell R1.out 1 _ rfl
    have f_R1_1 := blk_frozen R1.out 1
    have c_R1_2 := blk_cell R1.out 2 _ rfl
    have f_R1_2 := blk_frozen R1.out 2
    have l_R1 := blk_lt R1.out
    have c_S1_0 := blk_cell S1.out 0 _ rfl
    have f_S1_0 := blk_frozen S1.out 0
    have c_S1_1 := blk_cell S1.out 1 _ rfl
    have f_S1_1 := blk_frozen S1.out 1
    have c_S1_2 := blk_cell S1.out 2 _ rfl
    have f_S1_2 := blk_frozen S1.out 2
    have l_S1 := blk_lt S1.out
    go_wp2_with fail
    clear c_R1_0 f_R1_0 c_R1_1 f_R1_1 c_R1_2 f_R1_2 l_R1 c_S1_0 f_S1_0 c_S1_1 f_S1_1 c_S1_2 f_S1_2 l_S1
    generalize w155.alloc (.cells #[.int .i64 px, .int .i64 py, .int .i64 pz] 23) = W156 at *
    generalize w155.heap.size = g156 at *
    refine (MT.out _).mono ?_
    rintro e w157 ⟨rfl, hb⟩
    replace NN := Lib.hid (Bgo NN.out hb)
    replace BA := Lib.hid (blk_next hb BA.out)
    replace BB := Lib.hid (blk_next hb BB.out)
    replace BC := Lib.hid (blk_next hb BC.out)
    replace R1 := Lib.hid (blk_next hb R1.out)
    replace S1 := Lib.hid (blk_next hb S1.out)
    replace Q := Lib.hid (blk_next hb Q.out)
    replace P := Lib.hid (blk_next hb P.out)
    clear hb
    have HB : Hid (Below w157.heap.size w157 (w157.alloc (.cells #[.int .i64 tx, .int .i64 ty, .int .i64 tz] 23))) := Lib.hid (Bal (Below.refl _ _) _)
    have T := Lib.hid (blk_new w157 (.cells #[.int .i64 tx, .int .i64 ty, .int .i64 tz] 23))
    have LT_T : Hid (w.heap.size < w157.heap.size ∧ w.heap.size + 1 < w157.heap.size ∧ w.heap.size + 1 + 1 < w157.heap.size ∧ g34 < w157.heap.size ∧ w35.heap.size < w157.heap.size ∧ gs127 < w157.heap.size ∧ g156 < w157.heap.size ∧ w.heap.size ≤ w157.heap.size) := Lib.hid ⟨blk_lt BA.out, blk_lt BB.out, blk_lt BC.out, blk_lt R1.out, blk_lt S1.out, blk_lt Q.out, blk_lt P.out, NN.out.size⟩
    replace NN := Lib.hid (Bgo NN.out HB.out)
    replace BA := Lib.hid (blk_next HB.out BA.out)
    replace BB := Lib.hid (blk_next HB.out BB.out)
    replace BC := Lib.hid (blk_next HB.out BC.out)
    replace R1 := Lib.hid (blk_next HB.out R1.out)
    replace S1 := Lib.hid (blk_next HB.out S1.out)
    replace Q := Lib.hid (blk_next HB.out Q.out)
    replace P := Lib.hid (blk_next HB.out P.out)
    clear HB
    have c_P_0 := blk_cell P.out 0 _ rfl
    have c_P_1 := blk_cell P.out 1 _ rfl
    have c_P_2 := blk_cell P.out 2 _ rfl
    have l_P := blk_lt P.out
    go_wp2_with fail
    clear c_P_0 c_P_1 c_P_2 l_P
    refine (RP.out _).mono ?_
    rintro e w159 ⟨rfl, hb⟩
    replace NN := Lib.hid (Bgo NN.out hb)
    replace BA := Lib.hid (blk_next hb BA.out)
    replace BB := Lib.hid (blk_next hb BB.out)
    replace BC := Lib.hid (blk_next hb BC.out)
    replace R1 := Lib.hid (blk_next hb R1.out)
    replace S1 := Lib.hid (blk_next hb S1.out)
    replace Q := Lib.hid (blk_next hb Q.out)
    replace P := Lib.hid (blk_next hb P.out)
    replace T := Lib.hid (blk_next hb T.out)
    clear hb
    have HB : Hid (Below w159.heap.size w159 (w159.alloc (.cells #[.int .i64 u, .int .i64 v, .int .i64 1] 23))) := Lib.hid (Bal (Below.refl _ _) _)
    have U1 := Lib.hid (blk_new w159 (.cells #[.int .i64 u, .int .i64 v, .int .i64 1] 23))
    have LT_U1 : Hid (w.heap.size < w159.heap.size ∧ w.heap.size + 1 < w159.heap.size ∧ w.heap.size + 1 + 1 < w159.heap.size ∧ g34 < w159.heap.size ∧ w35.heap.size < w159.heap.size ∧ gs127 < w159.heap.size ∧ g156 < w159.heap.size ∧ w157.heap.size < w159.heap.size ∧ w.heap.size ≤ w159.heap.size) := Lib.hid ⟨blk_lt BA.out, blk_lt BB.out, blk_lt BC.out, blk_lt R1.out, blk_lt S1.out, blk_lt Q.out, blk_lt P.out, blk_lt T.out, NN.out.size⟩
    replace NN := Lib.hid (Bgo NN.out HB.out)
    replace BA := Lib.hid (blk_next HB.out BA.out)
    replace BB := Lib.hid (blk_next HB.out BB.out)
    replace BC := Lib.hid (blk_next HB.out BC.out)
    replace R1 := Lib.hid (blk_next HB.out R1.out)
    replace S1 := Lib.hid (blk_next HB.out S1.out)
    replace Q := Lib.hid (blk_next HB.out Q.out)
    replace P := Lib.hid (blk_next HB.out P.out)
    replace T := Lib.hid (blk_next HB.out T.out)
    clear HB
    have c_T_0 := blk_cell T.out 0 _ rfl
    have f_T_0 := blk_frozen T.out 0
    have c_T_1 := blk_cell T.out 1 _ rfl
    have f_T_1 := blk_frozen T.out 1
    have c_T_2 := blk_cell T.out 2 _ rfl
    have f_T_2 := blk_frozen T.out 2
    have l_T := blk_lt T.out
    go_wp2_with fail
    clear c_T_0 f_T_0 c_T_1 f_T_1 c_T_2 f_T_2 l_T
    generalize w159.alloc (.cells #[.int .i64 u, .int .i64 v, .int .i64 1] 23) = W160 at *
    generalize w159.heap.size = g160 at *
    refine (RT.out _).mono ?_
    rintro e w161 ⟨rfl, hb⟩
    replace NN := Lib.hid (Bgo NN.out hb)
    replace BA := Lib.hid (blk_next hb BA.out)
    replace BB := Lib.hid (blk_next hb BB.out)
    replace BC := Lib.hid (blk_next hb BC.out)
    replace R1 := Lib.hid (blk_next hb R1.out)
    replace S1 := Lib.hid (blk_next hb S1.out)
    replace Q := Lib.hid (blk_next hb Q.out)
    replace P := Lib.hid (blk_next hb P.out)
    replace T := Lib.hid (blk_next hb T.out)
    replace U1 := Lib.hid (blk_next hb U1.out)
    clear hb
    have HB : Hid (Below w161.heap.size w161 (w161.alloc (.cells #[.int .i64 u, .int .i64 v, .int .i64 1] 23))) := Lib.hid (Bal (Below.refl _ _) _)
    have U2 := Lib.hid (blk_new w161 (.cells #[.int .i64 u, .int .i64 v, .int .i64 1] 23))
    have LT_U2 : Hid (w.heap.size < w161.heap.size ∧ w.heap.size + 1 < w161.heap.size ∧ w.heap.size + 1 + 1 < w161.heap.size ∧ g34 < w161.heap.size ∧ w35.heap.size < w161.heap.size ∧ gs127 < w161.heap.size ∧ g156 < w161.heap.size ∧ w157.heap.size < w161.heap.size ∧ g160 < w161.heap.size ∧ w.heap.size ≤ w161.heap.size) := Lib.hid ⟨blk_lt BA.out, blk_lt BB.out, blk_lt BC.out, blk_lt R1.out, blk_lt S1.out, blk_lt Q.out, blk_lt P.out, blk_lt T.out, blk_lt U1.out, NN.out.size⟩
    replace NN := Lib.hid (Bgo NN.out HB.out)
    replace BA := Lib.hid (blk_next HB.out BA.out)
    replace BB := Lib.hid (blk_next HB.out BB.out)
    replace BC := Lib.hid (blk_next HB.out BC.out)
    replace R1 := Lib.hid (blk_next HB.out R1.out)
    replace S1 := Lib.hid (blk_next HB.out S1.out)
    replace Q := Lib.hid (blk_next HB.out Q.out)
    replace P := Lib.hid (blk_next HB.out P.out)
    replace T := Lib.hid (blk_next HB.out T.out)
    replace U1 := Lib.hid (blk_next HB.out U1.out)
    clear HB
    have c_BA_0 := blk_cell BA.out 0 _ rfl
    have c_BA_1 := blk_cell BA.out 1 _ rfl
    have c_BA_2 := blk_cell BA.out 2 _ rfl
    have l_BA := blk_lt BA.out
    have c_BB_0 := blk_cell BB.out 0 _ rfl
    have c_BB_1 := blk_cell BB.out 1 _ rfl
    have c_BB_2 := blk_cell BB.out 2 _ rfl
    have l_BB := blk_lt BB.out
    have c_U1_0 := blk_cell U1.out 0 _ rfl
    have c_U1_1 := blk_cell U1.out 1 _ rfl
    have c_U1_2 := blk_cell U1.out 2 _ rfl
    have l_U1 := blk_lt U1.out
    have c_U2_0 := blk_cell U2.out 0 _ rfl
    have c_U2_1 := blk_cell U2.out 1 _ rfl
    have c_U2_2 := blk_cell U2.out 2 _ rfl
    have l_U2 := blk_lt U2.out
    go_wp2_with fail
    clear c_BA_0 c_BA_1 c_BA_2 l_BA c_BB_0 c_BB_1 c_BB_2 l_BB c_U1_0 c_U1_1 c_U1_2 l_U1 c_U2_0 c_U2_1 c_U2_2 l_U2
    refine (Ooab.out _).mono ?_
    rintro e w163 ⟨rfl, hb⟩
    replace NN := Lib.hid (Bgo NN.out hb)
    replace BA := Lib.hid (blk_next hb BA.out)
    replace BB := Lib.hid (blk_next hb BB.out)
    replace BC := Lib.hid (blk_next hb BC.out)
    replace R1 := Lib.hid (blk_next hb R1.out)
    replace S1 := Lib.hid (blk_next hb S1.out)
    replace Q := Lib.hid (blk_next hb Q.out)
    replace P := Lib.hid (blk_next hb P.out)
    replace T := Lib.hid (blk_next hb T.out)
    replace U1 := Lib.hid (blk_next hb U1.out)
    replace U2 := Lib.hid (blk_next hb U2.out)
    clear hb
    have c_BA_0 := blk_cell BA.out 0 _ rfl
    have f_BA_0 := blk_frozen BA.out 0
    have c_BA_1 := blk_cell BA.out 1 _ rfl
    have f_BA_1 := blk_frozen BA.out 1
    have c_BA_2 := blk_cell BA.out 2 _ rfl
    have f_BA_2 := blk_frozen BA.out 2
    have l_BA := blk_lt BA.out
    have c_BB_0 := blk_cell BB.out 0 _ rfl
    have f_BB_0 := blk_frozen BB.out 0
    have c_BB_1 := blk_cell BB.out 1 _ rfl
    have f_BB_1 := blk_frozen BB.out 1
    have c_BB_2 := blk_cell BB.out 2 _ rfl
    have f_BB_2 := blk_frozen BB.out 2
    have l_BB := blk_lt BB.out
    go_wp2_with fail
    refine (Ooba.out _).mono ?_
    rintro e w164 ⟨rfl, hb⟩
    clear c_BA_0 f_BA_0 c_BA_1 f_BA_1 c_BA_2 f_BA_2 l_BA c_BB_0 f_BB_0 c_BB_1 f_BB_1 c_BB_2 f_BB_2 l_BB
    replace NN := Lib.hid (Bgo NN.out hb)
    replace BA := Lib.hid (blk_next hb BA.out)
    replace BB := Lib.hid (blk_next hb BB.out)
    replace BC := Lib.hid (blk_next hb BC.out)
    replace R1 := Lib.hid (blk_next hb R1.out)
    replace S1 := Lib.hid (blk_next hb S1.out)
    replace Q := Lib.hid (blk_next hb Q.out)
    replace P := Lib.hid (blk_next hb P.out)
    replace T := Lib.hid (blk_next hb T.out)
    replace U1 := Lib.hid (blk_next hb U1.out)
    replace U2 := Lib.hid (blk_next hb U2.out)
    clear hb
    have c_R1_0 := blk_cell R1.out 0 _ rfl
    have f_R1_0 := blk_frozen R1.out 0
    have c_R1_1 := blk_cell R1.out 1 _ rfl
    have f_R1_1 := blk_frozen R1.out 1
    have c_R1_2 := blk_cell R1.out 2 _ rfl
    have f_R1_2 := blk_frozen R1.out 2
    have l_R1 := blk_lt R1.out
    have c_S1_0 := blk_cell S1.out 0 _ rfl
    have f_S1_0 := blk_frozen S1.out 0
    have c_S1_1 := blk_cell S1.out 1 _ rfl
    have f_S1_1 := blk_frozen S1.out 1
    have c_S1_2 := blk_cell S1.out 2 _ rfl
    have f_S1_2 := blk_frozen S1.out 2
    have l_S1 := blk_lt S1.out
    go_wp2_with fail
    refine (Oors.out _).mono ?_
    rintro e w165 ⟨rfl, hb⟩
    clear c_R1_0 f_R1_0 c_R1_1 f_R1_1 c_R1_2 f_R1_2 l_R1 c_S1_0 f_S1_0 c_S1_1 f_S1_1 c_S1_2 f_S1_2 l_S1
    replace NN := Lib.hid (Bgo NN.out hb)
    replace BA := Lib.hid (blk_next hb BA.out)
    replace BB := Lib.hid (blk_next hb BB.out)
    replace BC := Lib.hid (blk_next hb BC.out)
    replace R1 := Lib.hid (blk_next hb R1.out)
    replace S1 := Lib.hid (blk_next hb S1.out)
    replace Q := Lib.hid (blk_next hb Q.out)
    replace P := Lib.hid (blk_next hb P.out)
    replace T := Lib.hid (blk_next hb T.out)
    replace U1 := Lib.hid (blk_next hb U1.out)
    replace U2 := Lib.hid (blk_next hb U2.out)
    clear hb
    have c_BB_0 := blk_cell BB.out 0 _ rfl
    have f_BB_0 := blk_frozen BB.out 0
    have c_BB_1 := blk_cell BB.out 1 _ rfl
    have f_BB_1 := blk_frozen BB.out 1
    have c_BB_2 := blk_cell BB.out 2 _ rfl
    have f_BB_2 := blk_frozen BB.out 2
    have l_BB := blk_lt BB.out
    have c_BC_0 := blk_cell BC.out 0 _ rfl
    have f_BC_0 := blk_frozen BC.out 0
    have c_BC_1 := blk_cell BC.out 1 _ rfl
    have f_BC_1 := blk_frozen BC.out 1
    have c_BC_2 := blk_cell BC.out 2 _ rfl
    have f_BC_2 := blk_frozen BC.out 2
    have l_BC := blk_lt BC.out
    go_wp2_with fail
    refine (Oobc.out _).mono ?_
    rintro e w166 ⟨rfl, hb⟩
    clear c_BB_0 f_BB_0 c_BB_1 f_BB_1 c_BB_2 f_BB_2 l_BB c_BC_0 f_BC_0 c_BC_1 f_BC_1 c_BC_2 f_BC_2 l_BC
    replace NN := Lib.hid (Bgo NN.out hb)
    replace BA := Lib.hid (blk_next hb BA.out)
    replace BB := Lib.hid (blk_next hb BB.out)
    replace BC := Lib.hid (blk_next hb BC.out)
    replace R1 := Lib.hid (blk_next hb R1.out)
    replace S1 := Lib.hid (blk_next hb S1.out)
    replace Q := Lib.hid (blk_next hb Q.out)
    replace P := Lib.hid (blk_next hb P.out)
    replace T := Lib.hid (blk_next hb T.out)
    replace U1 := Lib.hid (blk_next hb U1.out)
    replace U2 := Lib.hid (blk_next hb U2.out)
    clear hb
    have c_BA_0 := blk_cell BA.out 0 _ rfl
    have f_BA_0 := blk_frozen BA.out 0
    have c_BA_1 := blk_cell BA.out 1 _ rfl
    have f_BA_1 := blk_frozen BA.out 1
    have c_BA_2 := blk_cell BA.out 2 _ rfl
    have f_BA_2 := blk_frozen BA.out 2
    have l_BA := blk_lt BA.out
    have c_BC_0 := blk_cell BC.out 0 _ rfl
    have f_BC_0 := blk_frozen BC.out 0
    have c_BC_1 := blk_cell BC.out 1 _ rfl
    have f_BC_1 := blk_frozen BC.out 1
    have c_BC_2 := blk_cell BC.out 2 _ rfl
    have f_BC_2 := blk_frozen BC.out 2
    have l_BC := blk_lt BC.out
    go_wp2_with fail
    refine (Ooac.out _).mono ?_
    rintro e w167 ⟨rfl, hb⟩
    clear c_BA_0 f_BA_0 c_BA_1 f_BA_1 c_BA_2 f_BA_2 l_BA c_BC_0 f_BC_0 c_BC_1 f_BC_1 c_BC_2 f_BC_2 l_BC
    replace NN := Lib.hid (Bgo NN.out hb)
    replace BA := Lib.hid (blk_next hb BA.out)
    replace BB := Lib.hid (blk_next hb BB.out)
    replace BC := Lib.hid (blk_next hb BC.out)
    replace R1 := Lib.hid (blk_next hb R1.out)
    replace S1 := Lib.hid (blk_next hb S1.out)
    replace Q := Lib.hid (blk_next hb Q.out)
    replace P := Lib.hid (blk_next hb P.out)
    replace T := Lib.hid (blk_next hb T.out)
    replace U1 := Lib.hid (blk_next hb U1.out)
    replace U2 := Lib.hid (blk_next hb U2.out)
    clear hb
    have heb := HEB.out
    have xe := HXE.out
    by_cases xl : X < 0
    · have xl' : decide (X < (0 : Int)) = true := decide_eq_true xl
      clear TR
      have c_R1_0 := blk_cell R1.out 0 _ rfl
      have c_R1_1 := blk_cell R1.out 1 _ rfl
      have c_R1_2 := blk_cell R1.out 2 _ rfl
      have l_R1 := blk_lt R1.out
      have c_S1_0 := blk_cell S1.out 0 _ rfl
      have c_S1_1 := blk_cell S1.out 1 _ rfl
      have c_S1_2 := blk_cell S1.out 2 _ rfl
      have l_S1 := blk_lt S1.out
      go_wp2_with fail
      go_ret
      exact ⟨rfl, NN.out⟩
    have xl' : decide (X < (0 : Int)) = false := decide_eq_false xl
    by_cases mn : M < 0
    · have mn' : decide (M < (0 : Int)) = true := decide_eq_true mn
      clear TR
      have c_R1_0 := blk_cell R1.out 0 _ rfl
      have c_R1_1 := blk_cell R1.out 1 _ rfl
      have c_R1_2 := blk_cell R1.out 2 _ rfl
      have l_R1 := blk_lt R1.out
      have c_S1_0 := blk_cell S1.out 0 _ rfl
      have c_S1_1 := blk_cell S1.out 1 _ rfl
      have c_S1_2 := blk_cell S1.out 2 _ rfl
      have l_S1 := blk_lt S1.out
      go_wp2_with fail
      go_ret
      exact ⟨rfl, NN.out⟩
    have mn' : decide (M < (0 : Int)) = false := decide_eq_false mn
    have on : decide ((0 : Int) ≤ O) = true := decide_eq_true (TR.out (by omega) (by omega))
    clear TR
    have c_R1_0 := blk_cell R1.out 0 _ rfl
    have c_R1_1 := blk_cell R1.out 1 _ rfl
    have c_R1_2 := blk_cell R1.out 2 _ rfl
    have l_R1 := blk_lt R1.out
    have c_S1_0 := blk_cell S1.out 0 _ rfl
    have c_S1_1 := blk_cell S1.out 1 _ rfl
    have c_S1_2 := blk_cell S1.out 2 _ rfl
    have l_S1 := blk_lt S1.out
    go_wp2_with fail
    go_ret
    exact ⟨rfl, NN.out⟩

abbrev synS : ByteArray := { data := #[105, 110, 118, 97, 108, 105, 100, 32, 115, 121, 110, 116, 97, 120] }
abbrev rngS : ByteArray := { data := #[118, 97, 108, 117, 101, 32, 111, 117, 116, 32, 111, 102, 32, 114, 97, 110, 103, 101] }
noncomputable def low : Nat := (World.holding Tryd.prog default ⟨#[], #[], []⟩).heap.size
def vals : DataW Unit → Array Value
  | .agg l => (l.map fun d => match d with | .lit (.int k z) => Value.int k z | _ => undef).toArray
  | _ => #[]
def put (vs : Array Value) : Obj → Obj
  | .cells _ t frozen => .cells vs t frozen
  | o => o
noncomputable def laidWorld (os : Os) : World :=
  let w0 := World.holding Tryd.prog os ⟨#[.cells #[.string rngS] 108, .cells #[.string synS] 108], #[], []⟩
  { w0 with heap := ((((w0.heap.modify 4 (put (vals Rows.laid_math_bits_deBruijn32tab))).modify 5 (put (vals Rows.laid_math_bits_deBruijn64tab))).modify 0 (put (vals Rows.laid_internal_strconv_uint64pow10))).modify 3 (put #[.iface 106 (.pointer (some ⟨low, 0, none⟩))])).modify 2 (put #[.iface 106 (.pointer (some ⟨low + 1, 0, none⟩))]) }
theorem laid_met (os : Os) (args : Array Value) : laidMet Tryd.prog Rows.cxRaysRow.laid ((laidWorld os).forCall (fun _ _ => 0) ⟨#[], args, []⟩).memory :=
  laidMet_of_run' 8 (by kernel_rfl) (by kernel_rfl)

set_option maxRecDepth 100000 in
set_option maxHeartbeats 4000000 in
theorem lifted (os : Os) (started : os.Started) (H : Type) (enc : TypeId × Value → H) (F0 : Stop.Interp) :
    ReturnsInHanded {} Tryd.checked os 7 .any ((OpenSpec.ofChange Rows.cxRaysSpec).preRow enc Tryd.prog Tryd.f7 Rows.cxRaysRow.domain false Rows.cxRaysRow.laid) (((OpenSpec.ofChange Rows.cxRaysSpec).at F0).post enc Tryd.prog Tryd.f7 false true false false) := by
  refine returnsInHanded_of_row (C := Tryd.checked) (s := OpenSpec.ofChange Rows.cxRaysSpec) own started (by kernel_rfl) Tryd.func7
    (witness_row_at (enc := enc) (C := Tryd.checked) false (laidWorld os) #[.agg #[.int .i64 0, .int .i64 0, .int .i64 0], .agg #[.int .i64 0, .int .i64 0, .int .i64 0], .agg #[.int .i64 0, .int .i64 0, .int .i64 0]] rfl (by kernel_rfl) (by kernel_rfl) (by kernel_rfl) (OpenSpec.preRow_of_B rfl 8 (by kernel_rfl) (by kernel_rfl) (laid_met os _))) ?_
  intro W base args ds gs before hval0 hW hcnd _ hsz0 hL hsh _
  have GLW := gl_of hL hsh
  clear hL hsh hsz0 hcnd
  have hval : ∀ (j : Nat) t v, Tryd.f7.params[j]? = some t → args[j]? = some v → Value.okWide Tryd.prog W .any base t v := hval0
  have hW' := hW
  obtain ⟨p, q, hA0, hV, rfl, hfz, hnd⟩ := hW
  have hA : DataW.TrodAll enc Tryd.prog W 0 (fun _ => true) true Tryd.f7.params.toList args.toList ds p := hA0
  rw [Tryd.params7] at hA hval
  obtain ⟨v0, vs0, d0, ds0, p0, q0, hargs, rfl, rfl, h0, r0⟩ := trodAll_cons hA
  obtain ⟨v1, vs1, d1, ds1, p1, q1, rfl, rfl, rfl, h1, r1⟩ := trodAll_cons r0
  obtain ⟨v2, vs2, d2, ds2, p2, q2, rfl, rfl, rfl, h2, r2⟩ := trodAll_cons r1
  obtain ⟨rfl, rfl, rfl⟩ := trodAll_nil r2
  obtain rfl : args = #[v0, v1, v2] := by cases args; simp_all
  obtain ⟨rfl, rfl⟩ := trodVars_none hV
  have k0 := h0
  have lt0 : ∀ x ∈ p0, x.block < W.heap.size := by obtain ⟨m, hm⟩ := k0; exact DataW.trod_lt m _ _ _ hm
  obtain ⟨c0_0, c1_0, c2_0, y0_0, y1_0, y2_0, m0, rfl, _, _, t0_0, t1_0, t2_0⟩ := open_agg3 Tryd.underlying23 (by kernel_rfl) (show Tryd.prog.cellsOf 23 = 3 by kernel_rfl) (hval 0 23 v0 rfl rfl) h0
  obtain ⟨ar, e0_0, _, war⟩ := DataW.trod_int Tryd.underlying2 t0_0
  simp only [List.cons.injEq, and_true] at e0_0
  subst e0_0
  obtain ⟨ai, e1_0, _, wai⟩ := DataW.trod_int Tryd.underlying2 t1_0
  simp only [List.cons.injEq, and_true] at e1_0
  subst e1_0
  obtain ⟨ad, e2_0, _, wad⟩ := DataW.trod_int Tryd.underlying2 t2_0
  simp only [List.cons.injEq, and_true] at e2_0
  subst e2_0
  have k1 := h1
  have lt1 : ∀ x ∈ p1, x.block < W.heap.size := by obtain ⟨m, hm⟩ := k1; exact DataW.trod_lt m _ _ _ hm
  obtain ⟨c0_1, c1_1, c2_1, y0_1, y1_1, y2_1, m1, rfl, _, _, t0_1, t1_1, t2_1⟩ := open_agg3 Tryd.underlying23 (by kernel_rfl) (show Tryd.prog.cellsOf 23 = 3 by kernel_rfl) (hval 1 23 v1 rfl rfl) h1
  obtain ⟨br, e0_1, _, wbr⟩ := DataW.trod_int Tryd.underlying2 t0_1
  simp only [List.cons.injEq, and_true] at e0_1
  subst e0_1
  obtain ⟨bi, e1_1, _, wbi⟩ := DataW.trod_int Tryd.underlying2 t1_1
  simp only [List.cons.injEq, and_true] at e1_1
  subst e1_1
  obtain ⟨bd, e2_1, _, wbd⟩ := DataW.trod_int Tryd.underlying2 t2_1
  simp only [List.cons.injEq, and_true] at e2_1
  subst e2_1
  have k2 := h2
  have lt2 : ∀ x ∈ p2, x.block < W.heap.size := by obtain ⟨m, hm⟩ := k2; exact DataW.trod_lt m _ _ _ hm
  obtain ⟨c0_2, c1_2, c2_2, y0_2, y1_2, y2_2, m2, rfl, _, _, t0_2, t1_2, t2_2⟩ := open_agg3 Tryd.underlying23 (by kernel_rfl) (show Tryd.prog.cellsOf 23 = 3 by kernel_rfl) (hval 2 23 v2 rfl rfl) h2
  obtain ⟨cr, e0_2, _, wcr⟩ := DataW.trod_int Tryd.underlying2 t0_2
  simp only [List.cons.injEq, and_true] at e0_2
  subst e0_2
  obtain ⟨ci, e1_2, _, wci⟩ := DataW.trod_int Tryd.underlying2 t1_2
  simp only [List.cons.injEq, and_true] at e1_2
  subst e1_2
  obtain ⟨cd, e2_2, _, wcd⟩ := DataW.trod_int Tryd.underlying2 t2_2
  simp only [List.cons.injEq, and_true] at e2_2
  subst e2_2
  clear hA0 hval0
  refine (walk ar ai ad br bi bd cr ci cd W GLW).mono fun e W' ⟨he, bel⟩ => ?_
  subst he
  exact ⟨_, rfl, _, _, _, [], _, [], hW', trodAll_mk1 (shut_bool Tryd.underlying4 _), (trodAll_cons_mk (Below.trod laidOut (by kernel_rfl) (of_decide_eq_true (by kernel_rfl)) k0 bel lt0) (trodAll_cons_mk (Below.trod laidOut (by kernel_rfl) (of_decide_eq_true (by kernel_rfl)) k1 bel lt1) (trodAll_cons_mk (Below.trod laidOut (by kernel_rfl) (of_decide_eq_true (by kernel_rfl)) k2 bel lt2) trodAll_mk0))), rfl, bel.frame _, fun h => by cases h⟩

theorem over : Rows.CxRaysSaid :=
  OpenClaim.holds_of_cond 7 Tryd.f7 rfl rfl rfl rfl rfl rfl rfl ⟨rfl, rfl, rfl, rfl, rfl⟩ rfl rfl rfl rfl rfl (by kernel_rfl) Tryd.func7 (by kernel_rfl)
    (of_decide_eq_true (by kernel_rfl)) (by unfold Func.isWrapper; first | (rw [if_pos (by decide +kernel)]; kernel_rfl) | (rw [if_neg (by decide +kernel)]; exact ⟨rfl, rfl⟩))
    (fun os started H enc _ F0 => by rw [OpenClaim.pre_eq_preRow]; exact lifted os started H enc F0)

theorem proved : Rows.CxRaysCardSaid :=
  Claim7.holds_tied_plain_at .later [] [.data, .data, .data, .sentinel, .sentinel] true (true, "79a2c85c093c7f4bbd60387b9b96cb032bdfb92f3488d33d2cf8f7a3fa8fd4c2") true
    over (fun _ h => by cases h) (by kernel_rfl) (fun _ h => by cases h) cxRays_row_tie rfl ⟨rfl, rfl⟩ (by kernel_rfl) rfl
    (fun f fn hf hfn => by
      obtain rfl : f = 7 := Option.some.inj ((show Tryd.prog.funcNamed "fringe/fringelaw25.CxRays" = some 7 by kernel_rfl).symm.trans hf) |>.symm
      obtain rfl : fn = Tryd.f7 := (Option.some.inj (Tryd.func7.symm.trans hfn)).symm
      exact ⟨by kernel_rfl, fun j t ht => by
        rw [Tryd.params7] at ht
        have hj : j < 3 := by
          have := (Array.getElem?_eq_some_iff.1 ht).1
          simpa using this
        obtain rfl | rfl | rfl : j = 0 ∨ j = 1 ∨ j = 2 := by omega
        · have h3 : t = 23 := by simpa using ht.symm
          subst h3
          exact (show Tryd.prog.wantsStandIn 23 = false by kernel_rfl)
        · have h3 : t = 23 := by simpa using ht.symm
          subst h3
          exact (show Tryd.prog.wantsStandIn 23 = false by kernel_rfl)
        · have h3 : t = 23 := by simpa using ht.symm
          subst h3
          exact (show Tryd.prog.wantsStandIn 23 = false by kernel_rfl)⟩)
    (by kernel_rfl)
#print axioms proved
end Go.Proofs.YtbbjclbpllfdeaaDoor.cxRays
