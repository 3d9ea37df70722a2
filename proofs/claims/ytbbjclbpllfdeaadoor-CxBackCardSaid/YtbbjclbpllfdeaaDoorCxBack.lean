/- For every input the law CxBack returns true and leaves its arguments as they were; the library's variables as the program's text lays them. -/
import Derived.Test.YtbbjclbpllfdeaaDoorRows
import Derived.Test.YtbbjclbpllfdeaaDoorCards
import Derived.Test.YtbbjclbpllfdeaaDoorTie
import Derived.Test.YtbbjclbpllfdeaaDoorCtf
import Derived.WalkKit
import Derived.ProofKit
import Derived.OpenShut
import Derived.ShutString
import Derived.ChangeOld
import Derived.Below
import Derived.Lib.SmallJoins
import Derived.Deep.DeepHandedRow
import Derived.LaidLaws
import Derived.SevenTiedAt
namespace Go.Proofs.YtbbjclbpllfdeaaDoor.cxBack
open Go.ChangeShapes Go.WideShapes Go.ChangeAt Go.RowKit Go.Joins
open Go.ChangeMaps (open_string shut_string)
set_option linter.unusedVariables false

theorem own : ownKnob Tryd.prog.godebug = none := by kernel_rfl
theorem laidOut : laidOutB Tryd.prog = true := by kernel_rfl
open Cxm
set_option maxRecDepth 100000 in
set_option maxHeartbeats 16000000 in
theorem walk (ar ai ad br bi bd q : Int) (w : World) (g : GL w) (hq1 : -9223372036854775808 ≤ q) (hq2 : q ≤ 9223372036854775807) :
    Calls Tryd.prog 6 #[Cv ar ai ad, Cv br bi bd, .int .i64 q] w fun e w' => e = .returned (.bool true) ∧ Below w.heap.size w w' := by
  have GG := Lib.hid g
  have NN := Lib.hid (Below.refl w.heap.size w)
  clear g
  have RB := Lib.hid (fun W => refBoth_calls ar ai ad br bi bd W)
  by_cases hab : chkB ar ai ad = true ∧ chkB br bi bd = true
  rotate_left
  · rw [both_no hab] at RB
    clear hab
    go_enter Tryd.func6, Tryd.ntmps6
    go_wp2_with fail
    have BA : Hid (((w.alloc (.cells #[.int .i64 ar, .int .i64 ai, .int .i64 ad] 23)).alloc (.cells #[.int .i64 br, .int .i64 bi, .int .i64 bd] 23)).heap[w.heap.size]? = some (.cells #[.int .i64 ar, .int .i64 ai, .int .i64 ad] 23)) := Lib.hid (blk_alloc (blk_new w _) _)
    have BB : Hid (((w.alloc (.cells #[.int .i64 ar, .int .i64 ai, .int .i64 ad] 23)).alloc (.cells #[.int .i64 br, .int .i64 bi, .int .i64 bd] 23)).heap[w.heap.size + 1]? = some (.cells #[.int .i64 br, .int .i64 bi, .int .i64 bd] 23)) := Lib.hid (blk_at _ (by simp))
    replace NN : Hid (Below w.heap.size w ((w.alloc (.cells #[.int .i64 ar, .int .i64 ai, .int .i64 ad] 23)).alloc (.cells #[.int .i64 br, .int .i64 bi, .int .i64 bd] 23))) := Lib.hid (Bal (Bal NN.out _) _)
    generalize ((w.alloc (.cells #[.int .i64 ar, .int .i64 ai, .int .i64 ad] 23)).alloc (.cells #[.int .i64 br, .int .i64 bi, .int .i64 bd] 23)) = W1 at *
    refine (alive_calls _ (GG.out.next NN.out)).mono ?_
    rintro e w2 ⟨rfl, hb⟩
    replace NN := Lib.hid (Bgo NN.out hb)
    replace BA := Lib.hid (blk_next hb BA.out)
    replace BB := Lib.hid (blk_next hb BB.out)
    clear hb
    have c_BA_0 := blk_cell BA.out 0 _ rfl
    have f_BA_0 := blk_frozen BA.out 0
    have c_BA_1 := blk_cell BA.out 1 _ rfl
    have f_BA_1 := blk_frozen BA.out 1
    have c_BA_2 := blk_cell BA.out 2 _ rfl
    have f_BA_2 := blk_frozen BA.out 2
    have l_BA := blk_lt BA.out
    have c_BB_0 := blk_cell BB.out 0 _ rfl
    have f_BB_0 := blk_frozen BB.out 0
    have c_BB_1 := blk_cell BB.out 1 _ rfl
    have f_BB_1 := blk_frozen BB.out 1
    have c_BB_2 := blk_cell BB.out 2 _ rfl
    have f_BB_2 := blk_frozen BB.out 2
    have l_BB := blk_lt BB.out
    go_wp2_with fail
    refine (RB.out _).mono ?_
    rintro e w3 ⟨rfl, hb⟩
    clear c_BA_0 f_BA_0 c_BA_1 f_BA_1 c_BA_2 f_BA_2 l_BA c_BB_0 f_BB_0 c_BB_1 f_BB_1 c_BB_2 f_BB_2 l_BB
    replace NN := Lib.hid (Bgo NN.out hb)
    replace BA := Lib.hid (blk_next hb BA.out)
    replace BB := Lib.hid (blk_next hb BB.out)
    clear hb
    go_wp2_with fail
    go_ret
    exact ⟨rfl, NN.out⟩
  obtain ⟨ha, hb⟩ := hab
  rw [both_yes ha hb] at RB
  have SC := Lib.hid (sub_cases ha hb)
  have DC := Lib.hid (div_cases ha hb)
  obtain ⟨tx, ty, tu, tv, TT⟩ := turn_all (q := q) ha
  have Tt := Lib.hid (fun W => turn_calls TT.t W)
  have Tb := Lib.hid (fun W => turn_calls TT.b W)
  have Tf := Lib.hid (fun W => turn_calls TT.f W)
  have To := Lib.hid (fun W => turn_calls TT.o W)
  have Tm := Lib.hid (fun W => mul_calls _ _ _ _ _ _ _ _ _ _ TT.m W)
  have RZ := Lib.hid (fun W => refZero_calls br bi bd W)
  clear TT ha hb
  go_enter Tryd.func6, Tryd.ntmps6
  go_wp2_with fail
  have BA : Hid (((w.alloc (.cells #[.int .i64 ar, .int .i64 ai, .int .i64 ad] 23)).alloc (.cells #[.int .i64 br, .int .i64 bi, .int .i64 bd] 23)).heap[w.heap.size]? = some (.cells #[.int .i64 ar, .int .i64 ai, .int .i64 ad] 23)) := Lib.hid (blk_alloc (blk_new w _) _)
  have BB : Hid (((w.alloc (.cells #[.int .i64 ar, .int .i64 ai, .int .i64 ad] 23)).alloc (.cells #[.int .i64 br, .int .i64 bi, .int .i64 bd] 23)).heap[w.heap.size + 1]? = some (.cells #[.int .i64 br, .int .i64 bi, .int .i64 bd] 23)) := Lib.hid (blk_at _ (by simp))
  replace NN : Hid (Below w.heap.size w ((w.alloc (.cells #[.int .i64 ar, .int .i64 ai, .int .i64 ad] 23)).alloc (.cells #[.int .i64 br, .int .i64 bi, .int .i64 bd] 23))) := Lib.hid (Bal (Bal NN.out _) _)
  generalize ((w.alloc (.cells #[.int .i64 ar, .int .i64 ai, .int .i64 ad] 23)).alloc (.cells #[.int .i64 br, .int .i64 bi, .int .i64 bd] 23)) = W4 at *
  refine (alive_calls _ (GG.out.next NN.out)).mono ?_
  rintro e w5 ⟨rfl, hb⟩
  replace NN := Lib.hid (Bgo NN.out hb)
  replace BA := Lib.hid (blk_next hb BA.out)
  replace BB := Lib.hid (blk_next hb BB.out)
  clear hb
  have c_BA_0 := blk_cell BA.out 0 _ rfl
  have f_BA_0 := blk_frozen BA.out 0
  have c_BA_1 := blk_cell BA.out 1 _ rfl
  have f_BA_1 := blk_frozen BA.out 1
  have c_BA_2 := blk_cell BA.out 2 _ rfl
  have f_BA_2 := blk_frozen BA.out 2
  have l_BA := blk_lt BA.out
  have c_BB_0 := blk_cell BB.out 0 _ rfl
  have f_BB_0 := blk_frozen BB.out 0
  have c_BB_1 := blk_cell BB.out 1 _ rfl
  have f_BB_1 := blk_frozen BB.out 1
  have c_BB_2 := blk_cell BB.out 2 _ rfl
  have f_BB_2 := blk_frozen BB.out 2
  have l_BB := blk_lt BB.out
  go_wp2_with fail
  refine (RB.out _).mono ?_
  rintro e w6 ⟨rfl, hb⟩
  clear c_BA_0 f_BA_0 c_BA_1 f_BA_1 c_BA_2 f_BA_2 l_BA c_BB_0 f_BB_0 c_BB_1 f_BB_1 c_BB_2 f_BB_2 l_BB
  replace NN := Lib.hid (Bgo NN.out hb)
  replace BA := Lib.hid (blk_next hb BA.out)
  replace BB := Lib.hid (blk_next hb BB.out)
  clear hb
  have c_BA_0 := blk_cell BA.out 0 _ rfl
  have f_BA_0 := blk_frozen BA.out 0
  have c_BA_1 := blk_cell BA.out 1 _ rfl
  have f_BA_1 := blk_frozen BA.out 1
  have c_BA_2 := blk_cell BA.out 2 _ rfl
  have f_BA_2 := blk_frozen BA.out 2
  have l_BA := blk_lt BA.out
  have c_BB_0 := blk_cell BB.out 0 _ rfl
  have f_BB_0 := blk_frozen BB.out 0
  have c_BB_1 := blk_cell BB.out 1 _ rfl
  have f_BB_1 := blk_frozen BB.out 1
  have c_BB_2 := blk_cell BB.out 2 _ rfl
  have f_BB_2 := blk_frozen BB.out 2
  have l_BB := blk_lt BB.out
  rcases SC.out with ⟨sx, sy, sz, hs, hk⟩ | hs
  · have S := Lib.hid (fun W => sub_calls _ _ _ _ _ _ _ _ _ _ hs W)
    have SA := Lib.hid (fun W => add_calls _ _ _ _ _ _ _ _ _ _ hk W)
    clear hs hk SC
    go_wp2_with fail
    clear c_BA_0 f_BA_0 c_BA_1 f_BA_1 c_BA_2 f_BA_2 l_BA c_BB_0 f_BB_0 c_BB_1 f_BB_1 c_BB_2 f_BB_2 l_BB
    refine (S.out _).mono ?_
    rintro e w7 ⟨rfl, hb⟩
    replace NN := Lib.hid (Bgo NN.out hb)
    replace BA := Lib.hid (blk_next hb BA.out)
    replace BB := Lib.hid (blk_next hb BB.out)
    clear hb
    have HB : Hid (Below w7.heap.size w7 (w7.alloc (.cells #[.int .i64 sx, .int .i64 sy, .int .i64 sz] 23))) := Lib.hid (Bal (Below.refl _ _) _)
    have SD := Lib.hid (blk_new w7 (.cells #[.int .i64 sx, .int .i64 sy, .int .i64 sz] 23))
    have LT_SD : Hid (w.heap.size < w7.heap.size ∧ w.heap.size + 1 < w7.heap.size ∧ w.heap.size ≤ w7.heap.size) := Lib.hid ⟨blk_lt BA.out, blk_lt BB.out, NN.out.size⟩
    replace NN := Lib.hid (Bgo NN.out HB.out)
    replace BA := Lib.hid (blk_next HB.out BA.out)
    replace BB := Lib.hid (blk_next HB.out BB.out)
    clear HB
    have c_BB_0 := blk_cell BB.out 0 _ rfl
    have f_BB_0 := blk_frozen BB.out 0
    have c_BB_1 := blk_cell BB.out 1 _ rfl
    have f_BB_1 := blk_frozen BB.out 1
    have c_BB_2 := blk_cell BB.out 2 _ rfl
    have f_BB_2 := blk_frozen BB.out 2
    have l_BB := blk_lt BB.out
    go_wp2_with fail
    clear c_BB_0 f_BB_0 c_BB_1 f_BB_1 c_BB_2 f_BB_2 l_BB
    generalize w7.alloc (.cells #[.int .i64 sx, .int .i64 sy, .int .i64 sz] 23) = W8 at *
    generalize w7.heap.size = g8 at *
    refine (SA.out _).mono ?_
    rintro e w9 ⟨rfl, hb⟩
    replace NN := Lib.hid (Bgo NN.out hb)
    replace BA := Lib.hid (blk_next hb BA.out)
    replace BB := Lib.hid (blk_next hb BB.out)
    replace SD := Lib.hid (blk_next hb SD.out)
    clear hb
    have HB : Hid (Below w9.heap.size w9 (w9.alloc (.cells #[.int .i64 ar, .int .i64 ai, .int .i64 ad] 23))) := Lib.hid (Bal (Below.refl _ _) _)
    have SX := Lib.hid (blk_new w9 (.cells #[.int .i64 ar, .int .i64 ai, .int .i64 ad] 23))
    have LT_SX : Hid (w.heap.size < w9.heap.size ∧ w.heap.size + 1 < w9.heap.size ∧ g8 < w9.heap.size ∧ w.heap.size ≤ w9.heap.size) := Lib.hid ⟨blk_lt BA.out, blk_lt BB.out, blk_lt SD.out, NN.out.size⟩
    replace NN := Lib.hid (Bgo NN.out HB.out)
    replace BA := Lib.hid (blk_next HB.out BA.out)
    replace BB := Lib.hid (blk_next HB.out BB.out)
    replace SD := Lib.hid (blk_next HB.out SD.out)
    clear HB
    rcases DC.out with ⟨hz, hd⟩ | ⟨hz, ⟨dx, dy, dz, hd, hm⟩ | hd⟩
    · have D := Lib.hid (fun W => div_calls hd W)
      rw [hz] at RZ
      clear hd hz
      have c_BA_0 := blk_cell BA.out 0 _ rfl
      have c_BA_1 := blk_cell BA.out 1 _ rfl
      have c_BA_2 := blk_cell BA.out 2 _ rfl
      have l_BA := blk_lt BA.out
      have c_BB_0 := blk_cell BB.out 0 _ rfl
      have c_BB_1 := blk_cell BB.out 1 _ rfl
      have c_BB_2 := blk_cell BB.out 2 _ rfl
      have l_BB := blk_lt BB.out
      have c_SX_0 := blk_cell SX.out 0 _ rfl
      have c_SX_1 := blk_cell SX.out 1 _ rfl
      have c_SX_2 := blk_cell SX.out 2 _ rfl
      have l_SX := blk_lt SX.out
      go_wp2_with fail
      clear c_BA_0 c_BA_1 c_BA_2 l_BA c_BB_0 c_BB_1 c_BB_2 l_BB c_SX_0 c_SX_1 c_SX_2 l_SX
      refine (D.out _).mono ?_
      rintro e w11 ⟨rfl, hb⟩
      replace NN := Lib.hid (Bgo NN.out hb)
      replace BA := Lib.hid (blk_next hb BA.out)
      replace BB := Lib.hid (blk_next hb BB.out)
      replace SD := Lib.hid (blk_next hb SD.out)
      replace SX := Lib.hid (blk_next hb SX.out)
      clear hb
      have HB : Hid (Below w11.heap.size w11 (w11.alloc (.cells #[.int .i64 0, .int .i64 0, .int .i64 0] 23))) := Lib.hid (Bal (Below.refl _ _) _)
      have QD := Lib.hid (blk_new w11 (.cells #[.int .i64 0, .int .i64 0, .int .i64 0] 23))
      have LT_QD : Hid (w.heap.size < w11.heap.size ∧ w.heap.size + 1 < w11.heap.size ∧ g8 < w11.heap.size ∧ w9.heap.size < w11.heap.size ∧ w.heap.size ≤ w11.heap.size) := Lib.hid ⟨blk_lt BA.out, blk_lt BB.out, blk_lt SD.out, blk_lt SX.out, NN.out.size⟩
      replace NN := Lib.hid (Bgo NN.out HB.out)
      replace BA := Lib.hid (blk_next HB.out BA.out)
      replace BB := Lib.hid (blk_next HB.out BB.out)
      replace SD := Lib.hid (blk_next HB.out SD.out)
      replace SX := Lib.hid (blk_next HB.out SX.out)
      clear HB
      have c_BB_0 := blk_cell BB.out 0 _ rfl
      have f_BB_0 := blk_frozen BB.out 0
      have c_BB_1 := blk_cell BB.out 1 _ rfl
      have f_BB_1 := blk_frozen BB.out 1
      have c_BB_2 := blk_cell BB.out 2 _ rfl
      have f_BB_2 := blk_frozen BB.out 2
      have l_BB := blk_lt BB.out
      go_wp2_with fail
      clear c_BB_0 f_BB_0 c_BB_1 f_BB_1 c_BB_2 f_BB_2 l_BB
      refine (RZ.out _).mono ?_
      rintro e w13 ⟨rfl, hb⟩
      replace NN := Lib.hid (Bgo NN.out hb)
      replace BA := Lib.hid (blk_next hb BA.out)
      replace BB := Lib.hid (blk_next hb BB.out)
      replace SD := Lib.hid (blk_next hb SD.out)
      replace SX := Lib.hid (blk_next hb SX.out)
      replace QD := Lib.hid (blk_next hb QD.out)
      clear hb
      by_cases q1 : q < -1000000000
      · have q1' : decide (q < (-1000000000 : Int)) = true := decide_eq_true q1
        go_wp2_with fail
        go_ret
        exact ⟨rfl, NN.out⟩
      have q1' : decide (q < (-1000000000 : Int)) = false := decide_eq_false q1
      by_cases q2 : 1000000000 < q
      · have q2' : decide ((1000000000 : Int) < q) = true := decide_eq_true q2
        go_wp2_with fail
        go_ret
        exact ⟨rfl, NN.out⟩
      have q2' : decide ((1000000000 : Int) < q) = false := decide_eq_false q2
      have c_BA_0 := blk_cell BA.out 0 _ rfl
      have c_BA_1 := blk_cell BA.out 1 _ rfl
      have c_BA_2 := blk_cell BA.out 2 _ rfl
      have l_BA := blk_lt BA.out
      go_wp2_with fail
      clear c_BA_0 c_BA_1 c_BA_2 l_BA
      refine (Tt.out _).mono ?_
      rintro e w14 ⟨rfl, hb⟩
      replace NN := Lib.hid (Bgo NN.out hb)
      replace BA := Lib.hid (blk_next hb BA.out)
      replace BB := Lib.hid (blk_next hb BB.out)
      replace SD := Lib.hid (blk_next hb SD.out)
      replace SX := Lib.hid (blk_next hb SX.out)
      replace QD := Lib.hid (blk_next hb QD.out)
      clear hb
      have HB : Hid (Below w14.heap.size w14 (w14.alloc (.cells #[.int .i64 tx, .int .i64 ty, .int .i64 ad] 23))) := Lib.hid (Bal (Below.refl _ _) _)
      have U1 := Lib.hid (blk_new w14 (.cells #[.int .i64 tx, .int .i64 ty, .int .i64 ad] 23))
      have LT_U1 : Hid (w.heap.size < w14.heap.size ∧ w.heap.size + 1 < w14.heap.size ∧ g8 < w14.heap.size ∧ w9.heap.size < w14.heap.size ∧ w11.heap.size < w14.heap.size ∧ w.heap.size ≤ w14.heap.size) := Lib.hid ⟨blk_lt BA.out, blk_lt BB.out, blk_lt SD.out, blk_lt SX.out, blk_lt QD.out, NN.out.size⟩
      replace NN := Lib.hid (Bgo NN.out HB.out)
      replace BA := Lib.hid (blk_next HB.out BA.out)
      replace BB := Lib.hid (blk_next HB.out BB.out)
      replace SD := Lib.hid (blk_next HB.out SD.out)
      replace SX := Lib.hid (blk_next HB.out SX.out)
      replace QD := Lib.hid (blk_next HB.out QD.out)
      clear HB
      go_wp2_with fail
      generalize w14.alloc (.cells #[.int .i64 tx, .int .i64 ty, .int .i64 ad] 23) = W15 at *
      generalize w14.heap.size = g15 at *
      refine (Tb.out _).mono ?_
      rintro e w16 ⟨rfl, hb⟩
      replace NN := Lib.hid (Bgo NN.out hb)
      replace BA := Lib.hid (blk_next hb BA.out)
      replace BB := Lib.hid (blk_next hb BB.out)
      replace SD := Lib.hid (blk_next hb SD.out)
      replace SX := Lib.hid (blk_next hb SX.out)
      replace QD := Lib.hid (blk_next hb QD.out)
      replace U1 := Lib.hid (blk_next hb U1.out)
      clear hb
      have HB : Hid (Below w16.heap.size w16 (w16.alloc (.cells #[.int .i64 ar, .int .i64 ai, .int .i64 ad] 23))) := Lib.hid (Bal (Below.refl _ _) _)
      have U2 := Lib.hid (blk_new w16 (.cells #[.int .i64 ar, .int .i64 ai, .int .i64 ad] 23))
      have LT_U2 : Hid (w.heap.size < w16.heap.size ∧ w.heap.size + 1 < w16.heap.size ∧ g8 < w16.heap.size ∧ w9.heap.size < w16.heap.size ∧ w11.heap.size < w16.heap.size ∧ g15 < w16.heap.size ∧ w.heap.size ≤ w16.heap.size) := Lib.hid ⟨blk_lt BA.out, blk_lt BB.out, blk_lt SD.out, blk_lt SX.out, blk_lt QD.out, blk_lt U1.out, NN.out.size⟩
      replace NN := Lib.hid (Bgo NN.out HB.out)
      replace BA := Lib.hid (blk_next HB.out BA.out)
      replace BB := Lib.hid (blk_next HB.out BB.out)
      replace SD := Lib.hid (blk_next HB.out SD.out)
      replace SX := Lib.hid (blk_next HB.out SX.out)
      replace QD := Lib.hid (blk_next HB.out QD.out)
      replace U1 := Lib.hid (blk_next HB.out U1.out)
      clear HB
      have c_BA_0 := blk_cell BA.out 0 _ rfl
      have f_BA_0 := blk_frozen BA.out 0
      have c_BA_1 := blk_cell BA.out 1 _ rfl
      have f_BA_1 := blk_frozen BA.out 1
      have c_BA_2 := blk_cell BA.out 2 _ rfl
      have f_BA_2 := blk_frozen BA.out 2
      have l_BA := blk_lt BA.out
      go_wp2_with fail
      clear c_BA_0 f_BA_0 c_BA_1 f_BA_1 c_BA_2 f_BA_2 l_BA
      generalize w16.alloc (.cells #[.int .i64 ar, .int .i64 ai, .int .i64 ad] 23) = W17 at *
      generalize w16.heap.size = g17 at *
      refine (Tf.out _).mono ?_
      rintro e w18 ⟨rfl, hb⟩
      replace NN := Lib.hid (Bgo NN.out hb)
      replace BA := Lib.hid (blk_next hb BA.out)
      replace BB := Lib.hid (blk_next hb BB.out)
      replace SD := Lib.hid (blk_next hb SD.out)
      replace SX := Lib.hid (blk_next hb SX.out)
      replace QD := Lib.hid (blk_next hb QD.out)
      replace U1 := Lib.hid (blk_next hb U1.out)
      replace U2 := Lib.hid (blk_next hb U2.out)
      clear hb
      have HB : Hid (Below w18.heap.size w18 (w18.alloc (.cells #[.int .i64 tx, .int .i64 ty, .int .i64 ad] 23))) := Lib.hid (Bal (Below.refl _ _) _)
      have U3 := Lib.hid (blk_new w18 (.cells #[.int .i64 tx, .int .i64 ty, .int .i64 ad] 23))
      have LT_U3 : Hid (w.heap.size < w18.heap.size ∧ w.heap.size + 1 < w18.heap.size ∧ g8 < w18.heap.size ∧ w9.heap.size < w18.heap.size ∧ w11.heap.size < w18.heap.size ∧ g15 < w18.heap.size ∧ g17 < w18.heap.size ∧ w.heap.size ≤ w18.heap.size) := Lib.hid ⟨blk_lt BA.out, blk_lt BB.out, blk_lt SD.out, blk_lt SX.out, blk_lt QD.out, blk_lt U1.out, blk_lt U2.out, NN.out.size⟩
      replace NN := Lib.hid (Bgo NN.out HB.out)
      replace BA := Lib.hid (blk_next HB.out BA.out)
      replace BB := Lib.hid (blk_next HB.out BB.out)
      replace SD := Lib.hid (blk_next HB.out SD.out)
      replace SX := Lib.hid (blk_next HB.out SX.out)
      replace QD := Lib.hid (blk_next HB.out QD.out)
      replace U1 := Lib.hid (blk_next HB.out U1.out)
      replace U2 := Lib.hid (blk_next HB.out U2.out)
      clear HB
      have c_BA_0 := blk_cell BA.out 0 _ rfl
      have f_BA_0 := blk_frozen BA.out 0
      have c_BA_1 := blk_cell BA.out 1 _ rfl
      have f_BA_1 := blk_frozen BA.out 1
      have c_BA_2 := blk_cell BA.out 2 _ rfl
      have f_BA_2 := blk_frozen BA.out 2
      have l_BA := blk_lt BA.out
      go_wp2_with fail
      clear c_BA_0 f_BA_0 c_BA_1 f_BA_1 c_BA_2 f_BA_2 l_BA
      generalize w18.alloc (.cells #[.int .i64 tx, .int .i64 ty, .int .i64 ad] 23) = W19 at *
      generalize w18.heap.size = g19 at *
      refine (Tm.out _).mono ?_
      rintro e w20 ⟨rfl, hb⟩
      replace NN := Lib.hid (Bgo NN.out hb)
      replace BA := Lib.hid (blk_next hb BA.out)
      replace BB := Lib.hid (blk_next hb BB.out)
      replace SD := Lib.hid (blk_next hb SD.out)
      replace SX := Lib.hid (blk_next hb SX.out)
      replace QD := Lib.hid (blk_next hb QD.out)
      replace U1 := Lib.hid (blk_next hb U1.out)
      replace U2 := Lib.hid (blk_next hb U2.out)
      replace U3 := Lib.hid (blk_next hb U3.out)
      clear hb
      have HB : Hid (Below w20.heap.size w20 (w20.alloc (.cells #[.int .i64 tu, .int .i64 tv, .int .i64 ad] 23))) := Lib.hid (Bal (Below.refl _ _) _)
      have U4 := Lib.hid (blk_new w20 (.cells #[.int .i64 tu, .int .i64 tv, .int .i64 ad] 23))
      have LT_U4 : Hid (w.heap.size < w20.heap.size ∧ w.heap.size + 1 < w20.heap.size ∧ g8 < w20.heap.size ∧ w9.heap.size < w20.heap.size ∧ w11.heap.size < w20.heap.size ∧ g15 < w20.heap.size ∧ g17 < w20.heap.size ∧ g19 < w20.heap.size ∧ w.heap.size ≤ w20.heap.size) := Lib.hid ⟨blk_lt BA.out, blk_lt BB.out, blk_lt SD.out, blk_lt SX.out, blk_lt QD.out, blk_lt U1.out, blk_lt U2.out, blk_lt U3.out, NN.out.size⟩
      replace NN := Lib.hid (Bgo NN.out HB.out)
      replace BA := Lib.hid (blk_next HB.out BA.out)
      replace BB := Lib.hid (blk_next HB.out BB.out)
      replace SD := Lib.hid (blk_next HB.out SD.out)
      replace SX := Lib.hid (blk_next HB.out SX.out)
      replace QD := Lib.hid (blk_next HB.out QD.out)
      replace U1 := Lib.hid (blk_next HB.out U1.out)
      replace U2 := Lib.hid (blk_next HB.out U2.out)
      replace U3 := Lib.hid (blk_next HB.out U3.out)
      clear HB
      have c_BA_0 := blk_cell BA.out 0 _ rfl
      have f_BA_0 := blk_frozen BA.out 0
      have c_BA_1 := blk_cell BA.out 1 _ rfl
      have f_BA_1 := blk_frozen BA.out 1
      have c_BA_2 := blk_cell BA.out 2 _ rfl
      have f_BA_2 := blk_frozen BA.out 2
      have l_BA := blk_lt BA.out
      go_wp2_with fail
      clear c_BA_0 f_BA_0 c_BA_1 f_BA_1 c_BA_2 f_BA_2 l_BA
      generalize w20.alloc (.cells #[.int .i64 tu, .int .i64 tv, .int .i64 ad] 23) = W21 at *
      generalize w20.heap.size = g21 at *
      refine (To.out _).mono ?_
      rintro e w22 ⟨rfl, hb⟩
      replace NN := Lib.hid (Bgo NN.out hb)
      replace BA := Lib.hid (blk_next hb BA.out)
      replace BB := Lib.hid (blk_next hb BB.out)
      replace SD := Lib.hid (blk_next hb SD.out)
      replace SX := Lib.hid (blk_next hb SX.out)
      replace QD := Lib.hid (blk_next hb QD.out)
      replace U1 := Lib.hid (blk_next hb U1.out)
      replace U2 := Lib.hid (blk_next hb U2.out)
      replace U3 := Lib.hid (blk_next hb U3.out)
      replace U4 := Lib.hid (blk_next hb U4.out)
      clear hb
      have HB : Hid (Below w22.heap.size w22 (w22.alloc (.cells #[.int .i64 tu, .int .i64 tv, .int .i64 ad] 23))) := Lib.hid (Bal (Below.refl _ _) _)
      have U5 := Lib.hid (blk_new w22 (.cells #[.int .i64 tu, .int .i64 tv, .int .i64 ad] 23))
      have LT_U5 : Hid (w.heap.size < w22.heap.size ∧ w.heap.size + 1 < w22.heap.size ∧ g8 < w22.heap.size ∧ w9.heap.size < w22.heap.size ∧ w11.heap.size < w22.heap.size ∧ g15 < w22.heap.size ∧ g17 < w22.heap.size ∧ g19 < w22.heap.size ∧ g21 < w22.heap.size ∧ w.heap.size ≤ w22.heap.size) := Lib.hid ⟨blk_lt BA.out, blk_lt BB.out, blk_lt SD.out, blk_lt SX.out, blk_lt QD.out, blk_lt U1.out, blk_lt U2.out, blk_lt U3.out, blk_lt U4.out, NN.out.size⟩
      replace NN := Lib.hid (Bgo NN.out HB.out)
      replace BA := Lib.hid (blk_next HB.out BA.out)
      replace BB := Lib.hid (blk_next HB.out BB.out)
      replace SD := Lib.hid (blk_next HB.out SD.out)
      replace SX := Lib.hid (blk_next HB.out SX.out)
      replace QD := Lib.hid (blk_next HB.out QD.out)
      replace U1 := Lib.hid (blk_next HB.out U1.out)
      replace U2 := Lib.hid (blk_next HB.out U2.out)
      replace U3 := Lib.hid (blk_next HB.out U3.out)
      replace U4 := Lib.hid (blk_next HB.out U4.out)
      clear HB
      have c_U1_0 := blk_cell U1.out 0 _ rfl
      have c_U1_1 := blk_cell U1.out 1 _ rfl
      have c_U1_2 := blk_cell U1.out 2 _ rfl
      have l_U1 := blk_lt U1.out
      have c_U2_0 := blk_cell U2.out 0 _ rfl
      have c_U2_1 := blk_cell U2.out 1 _ rfl
      have c_U2_2 := blk_cell U2.out 2 _ rfl
      have l_U2 := blk_lt U2.out
      have c_U3_0 := blk_cell U3.out 0 _ rfl
      have c_U3_1 := blk_cell U3.out 1 _ rfl
      have c_U3_2 := blk_cell U3.out 2 _ rfl
      have l_U3 := blk_lt U3.out
      have c_U4_0 := blk_cell U4.out 0 _ rfl
      have c_U4_1 := blk_cell U4.out 1 _ rfl
      have c_U4_2 := blk_cell U4.out 2 _ rfl
      have l_U4 := blk_lt U4.out
      have c_U5_0 := blk_cell U5.out 0 _ rfl
      have c_U5_1 := blk_cell U5.out 1 _ rfl
      have c_U5_2 := blk_cell U5.out 2 _ rfl
      have l_U5 := blk_lt U5.out
      have c_BA_0 := blk_cell BA.out 0 _ rfl
      have c_BA_1 := blk_cell BA.out 1 _ rfl
      have c_BA_2 := blk_cell BA.out 2 _ rfl
      have l_BA := blk_lt BA.out
      go_wp2_with fail
      go_ret
      exact ⟨rfl, NN.out⟩
    · have D := Lib.hid (fun W => div_calls hd W)
      rw [hz] at RZ
      clear hd hz
      have DM := Lib.hid (fun W => mul_calls _ _ _ _ _ _ _ _ _ _ hm W)
      clear hm
      have c_BA_0 := blk_cell BA.out 0 _ rfl
      have c_BA_1 := blk_cell BA.out 1 _ rfl
      have c_BA_2 := blk_cell BA.out 2 _ rfl
      have l_BA := blk_lt BA.out
      have c_BB_0 := blk_cell BB.out 0 _ rfl
      have c_BB_1 := blk_cell BB.out 1 _ rfl
      have c_BB_2 := blk_cell BB.out 2 _ rfl
      have l_BB := blk_lt BB.out
      have c_SX_0 := blk_cell SX.out 0 _ rfl
      have c_SX_1 := blk_cell SX.out 1 _ rfl
      have c_SX_2 := blk_cell SX.out 2 _ rfl
      have l_SX := blk_lt SX.out
      go_wp2_with fail
      clear c_BA_0 c_BA_1 c_BA_2 l_BA c_BB_0 c_BB_1 c_BB_2 l_BB c_SX_0 c_SX_1 c_SX_2 l_SX
      refine (D.out _).mono ?_
      rintro e w24 ⟨rfl, hb⟩
      replace NN := Lib.hid (Bgo NN.out hb)
      replace BA := Lib.hid (blk_next hb BA.out)
      replace BB := Lib.hid (blk_next hb BB.out)
      replace SD := Lib.hid (blk_next hb SD.out)
      replace SX := Lib.hid (blk_next hb SX.out)
      clear hb
      have HB : Hid (Below w24.heap.size w24 (w24.alloc (.cells #[.int .i64 dx, .int .i64 dy, .int .i64 dz] 23))) := Lib.hid (Bal (Below.refl _ _) _)
      have QD := Lib.hid (blk_new w24 (.cells #[.int .i64 dx, .int .i64 dy, .int .i64 dz] 23))
      have LT_QD : Hid (w.heap.size < w24.heap.size ∧ w.heap.size + 1 < w24.heap.size ∧ g8 < w24.heap.size ∧ w9.heap.size < w24.heap.size ∧ w.heap.size ≤ w24.heap.size) := Lib.hid ⟨blk_lt BA.out, blk_lt BB.out, blk_lt SD.out, blk_lt SX.out, NN.out.size⟩
      replace NN := Lib.hid (Bgo NN.out HB.out)
      replace BA := Lib.hid (blk_next HB.out BA.out)
      replace BB := Lib.hid (blk_next HB.out BB.out)
      replace SD := Lib.hid (blk_next HB.out SD.out)
      replace SX := Lib.hid (blk_next HB.out SX.out)
      clear HB
      have c_BB_0 := blk_cell BB.out 0 _ rfl
      have f_BB_0 := blk_frozen BB.out 0
      have c_BB_1 := blk_cell BB.out 1 _ rfl
      have f_BB_1 := blk_frozen BB.out 1
      have c_BB_2 := blk_cell BB.out 2 _ rfl
      have f_BB_2 := blk_frozen BB.out 2
      have l_BB := blk_lt BB.out
      go_wp2_with fail
      clear c_BB_0 f_BB_0 c_BB_1 f_BB_1 c_BB_2 f_BB_2 l_BB
      refine (RZ.out _).mono ?_
      rintro e w26 ⟨rfl, hb⟩
      replace NN := Lib.hid (Bgo NN.out hb)
      replace BA := Lib.hid (blk_next hb BA.out)
      replace BB := Lib.hid (blk_next hb BB.out)
      replace SD := Lib.hid (blk_next hb SD.out)
      replace SX := Lib.hid (blk_next hb SX.out)
      replace QD := Lib.hid (blk_next hb QD.out)
      clear hb
      have c_QD_0 := blk_cell QD.out 0 _ rfl
      have c_QD_1 := blk_cell QD.out 1 _ rfl
      have c_QD_2 := blk_cell QD.out 2 _ rfl
      have l_QD := blk_lt QD.out
      have c_BB_0 := blk_cell BB.out 0 _ rfl
      have c_BB_1 := blk_cell BB.out 1 _ rfl
      have c_BB_2 := blk_cell BB.out 2 _ rfl
      have l_BB := blk_lt BB.out
      go_wp2_with fail
      clear c_QD_0 c_QD_1 c_QD_2 l_QD c_BB_0 c_BB_1 c_BB_2 l_BB
      refine (DM.out _).mono ?_
      rintro e w27 ⟨rfl, hb⟩
      replace NN := Lib.hid (Bgo NN.out hb)
      replace BA := Lib.hid (blk_next hb BA.out)
      replace BB := Lib.hid (blk_next hb BB.out)
      replace SD := Lib.hid (blk_next hb SD.out)
      replace SX := Lib.hid (blk_next hb SX.out)
      replace QD := Lib.hid (blk_next hb QD.out)
      clear hb
      have HB : Hid (Below w27.heap.size w27 (w27.alloc (.cells #[.int .i64 ar, .int .i64 ai, .int .i64 ad] 23))) := Lib.hid (Bal (Below.refl _ _) _)
      have QM := Lib.hid (blk_new w27 (.cells #[.int .i64 ar, .int .i64 ai, .int .i64 ad] 23))
      have LT_QM : Hid (w.heap.size < w27.heap.size ∧ w.heap.size + 1 < w27.heap.size ∧ g8 < w27.heap.size ∧ w9.heap.size < w27.heap.size ∧ w24.heap.size < w27.heap.size ∧ w.heap.size ≤ w27.heap.size) := Lib.hid ⟨blk_lt BA.out, blk_lt BB.out, blk_lt SD.out, blk_lt SX.out, blk_lt QD.out, NN.out.size⟩
      replace NN := Lib.hid (Bgo NN.out HB.out)
      replace BA := Lib.hid (blk_next HB.out BA.out)
      replace BB := Lib.hid (blk_next HB.out BB.out)
      replace SD := Lib.hid (blk_next HB.out SD.out)
      replace SX := Lib.hid (blk_next HB.out SX.out)
      replace QD := Lib.hid (blk_next HB.out QD.out)
      clear HB
      by_cases q1 : q < -1000000000
      · have q1' : decide (q < (-1000000000 : Int)) = true := decide_eq_true q1
        have c_QM_0 := blk_cell QM.out 0 _ rfl
        have c_QM_1 := blk_cell QM.out 1 _ rfl
        have c_QM_2 := blk_cell QM.out 2 _ rfl
        have l_QM := blk_lt QM.out
        have c_BA_0 := blk_cell BA.out 0 _ rfl
        have c_BA_1 := blk_cell BA.out 1 _ rfl
        have c_BA_2 := blk_cell BA.out 2 _ rfl
        have l_BA := blk_lt BA.out
        go_wp2_with fail
        go_ret
        exact ⟨rfl, NN.out⟩
      have q1' : decide (q < (-1000000000 : Int)) = false := decide_eq_false q1
      by_cases q2 : 1000000000 < q
      · have q2' : decide ((1000000000 : Int) < q) = true := decide_eq_true q2
        have c_QM_0 := blk_cell QM.out 0 _ rfl
        have c_QM_1 := blk_cell QM.out 1 _ rfl
        have c_QM_2 := blk_cell QM.out 2 _ rfl
        have l_QM := blk_lt QM.out
        have c_BA_0 := blk_cell BA.out 0 _ rfl
        have c_BA_1 := blk_cell BA.out 1 _ rfl
        have c_BA_2 := blk_cell BA.out 2 _ rfl
        have l_BA := blk_lt BA.out
        go_wp2_with fail
        go_ret
        exact ⟨rfl, NN.out⟩
      have q2' : decide ((1000000000 : Int) < q) = false := decide_eq_false q2
      have c_BA_0 := blk_cell BA.out 0 _ rfl
      have c_BA_1 := blk_cell BA.out 1 _ rfl
      have c_BA_2 := blk_cell BA.out 2 _ rfl
      have l_BA := blk_lt BA.out
      have c_QM_0 := blk_cell QM.out 0 _ rfl
      have c_QM_1 := blk_cell QM.out 1 _ rfl
      have c_QM_2 := blk_cell QM.out 2 _ rfl
      have l_QM := blk_lt QM.out
      go_wp2_with fail
      clear c_BA_0 c_BA_1 c_BA_2 l_BA c_QM_0 c_QM_1 c_QM_2 l_QM
      refine (Tt.out _).mono ?_
      rintro e w29 ⟨rfl, hb⟩
      replace NN := Lib.hid (Bgo NN.out hb)
      replace BA := Lib.hid (blk_next hb BA.out)
      replace BB := Lib.hid (blk_next hb BB.out)
      replace SD := Lib.hid (blk_next hb SD.out)
      replace SX := Lib.hid (blk_next hb SX.out)
      replace QD := Lib.hid (blk_next hb QD.out)
      replace QM := Lib.hid (blk_next hb QM.out)
      clear hb
      have HB : Hid (Below w29.heap.size w29 (w29.alloc (.cells #[.int .i64 tx, .int .i64 ty, .int .i64 ad] 23))) := Lib.hid (Bal (Below.refl _ _) _)
      have U1 := Lib.hid (blk_new w29 (.cells #[.int .i64 tx, .int .i64 ty, .int .i64 ad] 23))
      have LT_U1 : Hid (w.heap.size < w29.heap.size ∧ w.heap.size + 1 < w29.heap.size ∧ g8 < w29.heap.size ∧ w9.heap.size < w29.heap.size ∧ w24.heap.size < w29.heap.size ∧ w27.heap.size < w29.heap.size ∧ w.heap.size ≤ w29.heap.size) := Lib.hid ⟨blk_lt BA.out, blk_lt BB.out, blk_lt SD.out, blk_lt SX.out, blk_lt QD.out, blk_lt QM.out, NN.out.size⟩
      replace NN := Lib.hid (Bgo NN.out HB.out)
      replace BA := Lib.hid (blk_next HB.out BA.out)
      replace BB := Lib.hid (blk_next HB.out BB.out)
      replace SD := Lib.hid (blk_next HB.out SD.out)
      replace SX := Lib.hid (blk_next HB.out SX.out)
      replace QD := Lib.hid (blk_next HB.out QD.out)
      replace QM := Lib.hid (blk_next HB.out QM.out)
      clear HB
      go_wp2_with fail
      generalize w29.alloc (.cells #[.int .i64 tx, .int .i64 ty, .int .i64 ad] 23) = W30 at *
      generalize w29.heap.size = g30 at *
      refine (Tb.out _).mono ?_
      rintro e w31 ⟨rfl, hb⟩
      replace NN := Lib.hid (Bgo NN.out hb)
      replace BA := Lib.hid (blk_next hb BA.out)
      replace BB := Lib.hid (blk_next hb BB.out)
      replace SD := Lib.hid (blk_next hb SD.out)
      replace SX := Lib.hid (blk_next hb SX.out)
      replace QD := Lib.hid (blk_next hb QD.out)
      replace QM := Lib.hid (blk_next hb QM.out)
      replace U1 := Lib.hid (blk_next hb U1.out)
      clear hb
      have HB : Hid (Below w31.heap.size w31 (w31.alloc (.cells #[.int .i64 ar, .int .i64 ai, .int .i64 ad] 23))) := Lib.hid (Bal (Below.refl _ _) _)
      have U2 := Lib.hid (blk_new w31 (.cells #[.int .i64 ar, .int .i64 ai, .int .i64 ad] 23))
      have LT_U2 : Hid (w.heap.size < w31.heap.size ∧ w.heap.size + 1 < w31.heap.size ∧ g8 < w31.heap.size ∧ w9.heap.size < w31.heap.size ∧ w24.heap.size < w31.heap.size ∧ w27.heap.size < w31.heap.size ∧ g30 < w31.heap.size ∧ w.heap.size ≤ w31.heap.size) := Lib.hid ⟨blk_lt BA.out, blk_lt BB.out, blk_lt SD.out, blk_lt SX.out, blk_lt QD.out, blk_lt QM.out, blk_lt U1.out, NN.out.size⟩
      replace NN := Lib.hid (Bgo NN.out HB.out)
      replace BA := Lib.hid (blk_next HB.out BA.out)
      replace BB := Lib.hid (blk_next HB.out BB.out)
      replace SD := Lib.hid (blk_next HB.out SD.out)
      replace SX := Lib.hid (blk_next HB.out SX.out)
      replace QD := Lib.hid (blk_next HB.out QD.out)
      replace QM := Lib.hid (blk_next HB.out QM.out)
      replace U1 := Lib.hid (blk_next HB.out U1.out)
      clear HB
      have c_BA_0 := blk_cell BA.out 0 _ rfl
      have f_BA_0 := blk_frozen BA.out 0
      have c_BA_1 := blk_cell BA.out 1 _ rfl
      have f_BA_1 := blk_frozen BA.out 1
      have c_BA_2 := blk_cell BA.out 2 _ rfl
      have f_BA_2 := blk_frozen BA.out 2
      have l_BA := blk_lt BA.out
      go_wp2_with fail
      clear c_BA_0 f_BA_0 c_BA_1 f_BA_1 c_BA_2 f_BA_2 l_BA
      generalize w31.alloc (.cells #[.int .i64 ar, .int .i64 ai, .int .i64 ad] 23) = W32 at *
      generalize w31.heap.size = g32 at *
      refine (Tf.out _).mono ?_
      rintro e w33 ⟨rfl, hb⟩
      replace NN := Lib.hid (Bgo NN.out hb)
      replace BA := Lib.hid (blk_next hb BA.out)
      replace BB := Lib.hid (blk_next hb BB.out)
      replace SD := Lib.hid (blk_next hb SD.out)
      replace SX := Lib.hid (blk_next hb SX.out)
      replace QD := Lib.hid (blk_next hb QD.out)
      replace QM := Lib.hid (blk_next hb QM.out)
      replace U1 := Lib.hid (blk_next hb U1.out)
      replace U2 := Lib.hid (blk_next hb U2.out)
      clear hb
      have HB : Hid (Below w33.heap.size w33 (w33.alloc (.cells #[.int .i64 tx, .int .i64 ty, .int .i64 ad] 23))) := Lib.hid (Bal (Below.refl _ _) _)
      have U3 := Lib.hid (blk_new w33 (.cells #[.int .i64 tx, .int .i64 ty, .int .i64 ad] 23))
      have LT_U3 : Hid (w.heap.size < w33.heap.size ∧ w.heap.size + 1 < w33.heap.size ∧ g8 < w33.heap.size ∧ w9.heap.size < w33.heap.size ∧ w24.heap.size < w33.heap.size ∧ w27.heap.size < w33.heap.size ∧ g30 < w33.heap.size ∧ g32 < w33.heap.size ∧ w.heap.size ≤ w33.heap.size) := Lib.hid ⟨blk_lt BA.out, blk_lt BB.out, blk_lt SD.out, blk_lt SX.out, blk_lt QD.out, blk_lt QM.out, blk_lt U1.out, blk_lt U2.out, NN.out.size⟩
      replace NN := Lib.hid (Bgo NN.out HB.out)
      replace BA := Lib.hid (blk_next HB.out BA.out)
      replace BB := Lib.hid (blk_next HB.out BB.out)
      replace SD := Lib.hid (blk_next HB.out SD.out)
      replace SX := Lib.hid (blk_next HB.out SX.out)
      replace QD := Lib.hid (blk_next HB.out QD.out)
      replace QM := Lib.hid (blk_next HB.out QM.out)
      replace U1 := Lib.hid (blk_next HB.out U1.out)
      replace U2 := Lib.hid (blk_next HB.out U2.out)
      clear HB
      have c_BA_0 := blk_cell BA.out 0 _ rfl
      have f_BA_0 := blk_frozen BA.out 0
      have c_BA_1 := blk_cell BA.out 1 _ rfl
      have f_BA_1 := blk_frozen BA.out 1
      have c_BA_2 := blk_cell BA.out 2 _ rfl
      have f_BA_2 := blk_frozen BA.out 2
      have l_BA := blk_lt BA.out
      go_wp2_with fail
      clear c_BA_0 f_BA_0 c_BA_1 f_BA_1 c_BA_2 f_BA_2 l_BA
      generalize w33.alloc (.cells #[.int .i64 tx, .int .i64 ty, .int .i64 ad] 23) = W34 at *
      generalize w33.heap.size = g34 at *
      refine (Tm.out _).mono ?_
      rintro e w35 ⟨rfl, hb⟩
      replace NN := Lib.hid (Bgo NN.out hb)
      replace BA := Lib.hid (blk_next hb BA.out)
      replace BB := Lib.hid (blk_next hb BB.out)
      replace SD := Lib.hid (blk_next hb SD.out)
      replace SX := Lib.hid (blk_next hb SX.out)
      replace QD := Lib.hid (blk_next hb QD.out)
      replace QM := Lib.hid (blk_next hb QM.out)
      replace U1 := Lib.hid (blk_next hb U1.out)
      replace U2 := Lib.hid (blk_next hb U2.out)
      replace U3 := Lib.hid (blk_next hb U3.out)
      clear hb
      have HB : Hid (Below w35.heap.size w35 (w35.alloc (.cells #[.int .i64 tu, .int .i64 tv, .int .i64 ad] 23))) := Lib.hid (Bal (Below.refl _ _) _)
      have U4 := Lib.hid (blk_new w35 (.cells #[.int .i64 tu, .int .i64 tv, .int .i64 ad] 23))
      have LT_U4 : Hid (w.heap.size < w35.heap.size ∧ w.heap.size + 1 < w35.heap.size ∧ g8 < w35.heap.size ∧ w9.heap.size < w35.heap.size ∧ w24.heap.size < w35.heap.size ∧ w27.heap.size < w35.heap.size ∧ g30 < w35.heap.size ∧ g32 < w35.heap.size ∧ g34 < w35.heap.size ∧ w.heap.size ≤ w35.heap.size) := Lib.hid ⟨blk_lt BA.out, blk_lt BB.out, blk_lt SD.out, blk_lt SX.out, blk_lt QD.out, blk_lt QM.out, blk_lt U1.out, blk_lt U2.out, blk_lt U3.out, NN.out.size⟩
      replace NN := Lib.hid (Bgo NN.out HB.out)
      replace BA := Lib.hid (blk_next HB.out BA.out)
      replace BB := Lib.hid (blk_next HB.out BB.out)
      replace SD := Lib.hid (blk_next HB.out SD.out)
      replace SX := Lib.hid (blk_next HB.out SX.out)
      replace QD := Lib.hid (blk_next HB.out QD.out)
      replace QM := Lib.hid (blk_next HB.out QM.out)
      replace U1 := Lib.hid (blk_next HB.out U1.out)
      replace U2 := Lib.hid (blk_next HB.out U2.out)
      replace U3 := Lib.hid (blk_next HB.out U3.out)
      clear HB
      have c_BA_0 := blk_cell BA.out 0 _ rfl
      have f_BA_0 := blk_frozen BA.out 0
      have c_BA_1 := blk_cell BA.out 1 _ rfl
      have f_BA_1 := blk_frozen BA.out 1
      have c_BA_2 := blk_cell BA.out 2 _ rfl
      have f_BA_2 := blk_frozen BA.out 2
      have l_BA := blk_lt BA.out
      go_wp2_with fail
      clear c_BA_0 f_BA_0 c_BA_1 f_BA_1 c_BA_2 f_BA_2 l_BA
      generalize w35.alloc (.cells #[.int .i64 tu, .int .i64 tv, .int .i64 ad] 23) = W36 at *
      generalize w35.heap.size = g36 at *
      refine (To.out _).mono ?_
      rintro e w37 ⟨rfl, hb⟩
      replace NN := Lib.hid (Bgo NN.out hb)
      replace BA := Lib.hid (blk_next hb BA.out)
      replace BB := Lib.hid (blk_next hb BB.out)
      replace SD := Lib.hid (blk_next hb SD.out)
      replace SX := Lib.hid (blk_next hb SX.out)
      replace QD := Lib.hid (blk_next hb QD.out)
      replace QM := Lib.hid (blk_next hb QM.out)
      replace U1 := Lib.hid (blk_next hb U1.out)
      replace U2 := Lib.hid (blk_next hb U2.out)
      replace U3 := Lib.hid (blk_next hb U3.out)
      replace U4 := Lib.hid (blk_next hb U4.out)
      clear hb
      have HB : Hid (Below w37.heap.size w37 (w37.alloc (.cells #[.int .i64 tu, .int .i64 tv, .int .i64 ad] 23))) := Lib.hid (Bal (Below.refl _ _) _)
      have U5 := Lib.hid (blk_new w37 (.cells #[.int .i64 tu, .int .i64 tv, .int .i64 ad] 23))
      have LT_U5 : Hid (w.heap.size < w37.heap.size ∧ w.heap.size + 1 < w37.heap.size ∧ g8 < w37.heap.size ∧ w9.heap.size < w37.heap.size ∧ w24.heap.size < w37.heap.size ∧ w27.heap.size < w37.heap.size ∧ g30 < w37.heap.size ∧ g32 < w37.heap.size ∧ g34 < w37.heap.size ∧ g36 < w37.heap.size ∧ w.heap.size ≤ w37.heap.size) := Lib.hid ⟨blk_lt BA.out, blk_lt BB.out, blk_lt SD.out, blk_lt SX.out, blk_lt QD.out, blk_lt QM.out, blk_lt U1.out, blk_lt U2.out, blk_lt U3.out, blk_lt U4.out, NN.out.size⟩
      replace NN := Lib.hid (Bgo NN.out HB.out)
      replace BA := Lib.hid (blk_next HB.out BA.out)
      replace BB := Lib.hid (blk_next HB.out BB.out)
      replace SD := Lib.hid (blk_next HB.out SD.out)
      replace SX := Lib.hid (blk_next HB.out SX.out)
      replace QD := Lib.hid (blk_next HB.out QD.out)
      replace QM := Lib.hid (blk_next HB.out QM.out)
      replace U1 := Lib.hid (blk_next HB.out U1.out)
      replace U2 := Lib.hid (blk_next HB.out U2.out)
      replace U3 := Lib.hid (blk_next HB.out U3.out)
      replace U4 := Lib.hid (blk_next HB.out U4.out)
      clear HB
      have c_U1_0 := blk_cell U1.out 0 _ rfl
      have c_U1_1 := blk_cell U1.out 1 _ rfl
      have c_U1_2 := blk_cell U1.out 2 _ rfl
      have l_U1 := blk_lt U1.out
      have c_U2_0 := blk_cell U2.out 0 _ rfl
      have c_U2_1 := blk_cell U2.out 1 _ rfl
      have c_U2_2 := blk_cell U2.out 2 _ rfl
      have l_U2 := blk_lt U2.out
      have c_U3_0 := blk_cell U3.out 0 _ rfl
      have c_U3_1 := blk_cell U3.out 1 _ rfl
      have c_U3_2 := blk_cell U3.out 2 _ rfl
      have l_U3 := blk_lt U3.out
      have c_U4_0 := blk_cell U4.out 0 _ rfl
      have c_U4_1 := blk_cell U4.out 1 _ rfl
      have c_U4_2 := blk_cell U4.out 2 _ rfl
      have l_U4 := blk_lt U4.out
      have c_U5_0 := blk_cell U5.out 0 _ rfl
      have c_U5_1 := blk_cell U5.out 1 _ rfl
      have c_U5_2 := blk_cell U5.out 2 _ rfl
      have l_U5 := blk_lt U5.out
      have c_BA_0 := blk_cell BA.out 0 _ rfl
      have c_BA_1 := blk_cell BA.out 1 _ rfl
      have c_BA_2 := blk_cell BA.out 2 _ rfl
      have l_BA := blk_lt BA.out
      go_wp2_with fail
      go_ret
      exact ⟨rfl, NN.out⟩
    · have D := Lib.hid (fun W => div_calls hd W)
      rw [hz] at RZ
      clear hd hz
      have c_BA_0 := blk_cell BA.out 0 _ rfl
      have c_BA_1 := blk_cell BA.out 1 _ rfl
      have c_BA_2 := blk_cell BA.out 2 _ rfl
      have l_BA := blk_lt BA.out
      have c_BB_0 := blk_cell BB.out 0 _ rfl
      have c_BB_1 := blk_cell BB.out 1 _ rfl
      have c_BB_2 := blk_cell BB.out 2 _ rfl
      have l_BB := blk_lt BB.out
      have c_SX_0 := blk_cell SX.out 0 _ rfl
      have c_SX_1 := blk_cell SX.out 1 _ rfl
      have c_SX_2 := blk_cell SX.out 2 _ rfl
      have l_SX := blk_lt SX.out
      go_wp2_with fail
      clear c_BA_0 c_BA_1 c_BA_2 l_BA c_BB_0 c_BB_1 c_BB_2 l_BB c_SX_0 c_SX_1 c_SX_2 l_SX
      refine (D.out _).mono ?_
      rintro e w39 ⟨rfl, hb⟩
      replace NN := Lib.hid (Bgo NN.out hb)
      replace BA := Lib.hid (blk_next hb BA.out)
      replace BB := Lib.hid (blk_next hb BB.out)
      replace SD := Lib.hid (blk_next hb SD.out)
      replace SX := Lib.hid (blk_next hb SX.out)
      clear hb
      have HB : Hid (Below w39.heap.size w39 (w39.alloc (.cells #[.int .i64 0, .int .i64 0, .int .i64 0] 23))) := Lib.hid (Bal (Below.refl _ _) _)
      have QD := Lib.hid (blk_new w39 (.cells #[.int .i64 0, .int .i64 0, .int .i64 0] 23))
      have LT_QD : Hid (w.heap.size < w39.heap.size ∧ w.heap.size + 1 < w39.heap.size ∧ g8 < w39.heap.size ∧ w9.heap.size < w39.heap.size ∧ w.heap.size ≤ w39.heap.size) := Lib.hid ⟨blk_lt BA.out, blk_lt BB.out, blk_lt SD.out, blk_lt SX.out, NN.out.size⟩
      replace NN := Lib.hid (Bgo NN.out HB.out)
      replace BA := Lib.hid (blk_next HB.out BA.out)
      replace BB := Lib.hid (blk_next HB.out BB.out)
      replace SD := Lib.hid (blk_next HB.out SD.out)
      replace SX := Lib.hid (blk_next HB.out SX.out)
      clear HB
      have c_BB_0 := blk_cell BB.out 0 _ rfl
      have f_BB_0 := blk_frozen BB.out 0
      have c_BB_1 := blk_cell BB.out 1 _ rfl
      have f_BB_1 := blk_frozen BB.out 1
      have c_BB_2 := blk_cell BB.out 2 _ rfl
      have f_BB_2 := blk_frozen BB.out 2
      have l_BB := blk_lt BB.out
      go_wp2_with fail
      clear c_BB_0 f_BB_0 c_BB_1 f_BB_1 c_BB_2 f_BB_2 l_BB
      refine (RZ.out _).mono ?_
      rintro e w41 ⟨rfl, hb⟩
      replace NN := Lib.hid (Bgo NN.out hb)
      replace BA := Lib.hid (blk_next hb BA.out)
      replace BB := Lib.hid (blk_next hb BB.out)
      replace SD := Lib.hid (blk_next hb SD.out)
      replace SX := Lib.hid (blk_next hb SX.out)
      replace QD := Lib.hid (blk_next hb QD.out)
      clear hb
      by_cases q1 : q < -1000000000
      · have q1' : decide (q < (-1000000000 : Int)) = true := decide_eq_true q1
        go_wp2_with fail
        go_ret
        exact ⟨rfl, NN.out⟩
      have q1' : decide (q < (-1000000000 : Int)) = false := decide_eq_false q1
      by_cases q2 : 1000000000 < q
      · have q2' : decide ((1000000000 : Int) < q) = true := decide_eq_true q2
        go_wp2_with fail
        go_ret
        exact ⟨rfl, NN.out⟩
      have q2' : decide ((1000000000 : Int) < q) = false := decide_eq_false q2
      have c_BA_0 := blk_cell BA.out 0 _ rfl
      have c_BA_1 := blk_cell BA.out 1 _ rfl
      have c_BA_2 := blk_cell BA.out 2 _ rfl
      have l_BA := blk_lt BA.out
      go_wp2_with fail
      clear c_BA_0 c_BA_1 c_BA_2 l_BA
      refine (Tt.out _).mono ?_
      rintro e w42 ⟨rfl, hb⟩
      replace NN := Lib.hid (Bgo NN.out hb)
      replace BA := Lib.hid (blk_next hb BA.out)
      replace BB := Lib.hid (blk_next hb BB.out)
      replace SD := Lib.hid (blk_next hb SD.out)
      replace SX := Lib.hid (blk_next hb SX.out)
      replace QD := Lib.hid (blk_next hb QD.out)
      clear hb
      have HB : Hid (Below w42.heap.size w42 (w42.alloc (.cells #[.int .i64 tx, .int .i64 ty, .int .i64 ad] 23))) := Lib.hid (Bal (Below.refl _ _) _)
      have U1 := Lib.hid (blk_new w42 (.cells #[.int .i64 tx, .int .i64 ty, .int .i64 ad] 23))
      have LT_U1 : Hid (w.heap.size < w42.heap.size ∧ w.heap.size + 1 < w42.heap.size ∧ g8 < w42.heap.size ∧ w9.heap.size < w42.heap.size ∧ w39.heap.size < w42.heap.size ∧ w.heap.size ≤ w42.heap.size) := Lib.hid ⟨blk_lt BA.out, blk_lt BB.out, blk_lt SD.out, blk_lt SX.out, blk_lt QD.out, NN.out.size⟩
      replace NN := Lib.hid (Bgo NN.out HB.out)
      replace BA := Lib.hid (blk_next HB.out BA.out)
      replace BB := Lib.hid (blk_next HB.out BB.out)
      replace SD := Lib.hid (blk_next HB.out SD.out)
      replace SX := Lib.hid (blk_next HB.out SX.out)
      replace QD := Lib.hid (blk_next HB.out QD.out)
      clear HB
      go_wp2_with fail
      generalize w42.alloc (.cells #[.int .i64 tx, .int .i64 ty, .int .i64 ad] 23) = W43 at *
      generalize w42.heap.size = g43 at *
      refine (Tb.out _).mono ?_
      rintro e w44 ⟨rfl, hb⟩
      replace NN := Lib.hid (Bgo NN.out hb)
      replace BA := Lib.hid (blk_next hb BA.out)
      replace BB := Lib.hid (blk_next hb BB.out)
      replace SD := Lib.hid (blk_next hb SD.out)
      replace SX := Lib.hid (blk_next hb SX.out)
      replace QD := Lib.hid (blk_next hb QD.out)
      replace U1 := Lib.hid (blk_next hb U1.out)
      clear hb
      have HB : Hid (Below w44.heap.size w44 (w44.alloc (.cells #[.int .i64 ar, .int .i64 ai, .int .i64 ad] 23))) := Lib.hid (Bal (Below.refl _ _) _)
      have U2 := Lib.hid (blk_new w44 (.cells #[.int .i64 ar, .int .i64 ai, .int .i64 ad] 23))
      have LT_U2 : Hid (w.heap.size < w44.heap.size ∧ w.heap.size + 1 < w44.heap.size ∧ g8 < w44.heap.size ∧ w9.heap.size < w44.heap.size ∧ w39.heap.size < w44.heap.size ∧ g43 < w44.heap.size ∧ w.heap.size ≤ w44.heap.size) := Lib.hid ⟨blk_lt BA.out, blk_lt BB.out, blk_lt SD.out, blk_lt SX.out, blk_lt QD.out, blk_lt U1.out, NN.out.size⟩
      replace NN := Lib.hid (Bgo NN.out HB.out)
      replace BA := Lib.hid (blk_next HB.out BA.out)
      replace BB := Lib.hid (blk_next HB.out BB.out)
      replace SD := Lib.hid (blk_next HB.out SD.out)
      replace SX := Lib.hid (blk_next HB.out SX.out)
      replace QD := Lib.hid (blk_next HB.out QD.out)
      replace U1 := Lib.hid (blk_next HB.out U1.out)
      clear HB
      have c_BA_0 := blk_cell BA.out 0 _ rfl
      have f_BA_0 := blk_frozen BA.out 0
      have c_BA_1 := blk_cell BA.out 1 _ rfl
      have f_BA_1 := blk_frozen BA.out 1
      have c_BA_2 := blk_cell BA.out 2 _ rfl
      have f_BA_2 := blk_frozen BA.out 2
      have l_BA := blk_lt BA.out
      go_wp2_with fail
      clear c_BA_0 f_BA_0 c_BA_1 f_BA_1 c_BA_2 f_BA_2 l_BA
      generalize w44.alloc (.cells #[.int .i64 ar, .int .i64 ai, .int .i64 ad] 23) = W45 at *
      generalize w44.heap.size = g45 at *
      refine (Tf.out _).mono ?_
      rintro e w46 ⟨rfl, hb⟩
      replace NN := Lib.hid (Bgo NN.out hb)
      replace BA := Lib.hid (blk_next hb BA.out)
      replace BB := Lib.hid (blk_next hb BB.out)
      replace SD := Lib.hid (blk_next hb SD.out)
      replace SX := Lib.hid (blk_next hb SX.out)
      replace QD := Lib.hid (blk_next hb QD.out)
      replace U1 := Lib.hid (blk_next hb U1.out)
      replace U2 := Lib.hid (blk_next hb U2.out)
      clear hb
      have HB : Hid (Below w46.heap.size w46 (w46.alloc (.cells #[.int .i64 tx, .int .i64 ty, .int .i64 ad] 23))) := Lib.hid (Bal (Below.refl _ _) _)
      have U3 := Lib.hid (blk_new w46 (.cells #[.int .i64 tx, .int .i64 ty, .int .i64 ad] 23))
      have LT_U3 : Hid (w.heap.size < w46.heap.size ∧ w.heap.size + 1 < w46.heap.size ∧ g8 < w46.heap.size ∧ w9.heap.size < w46.heap.size ∧ w39.heap.size < w46.heap.size ∧ g43 < w46.heap.size ∧ g45 < w46.heap.size ∧ w.heap.size ≤ w46.heap.size) := Lib.hid ⟨blk_lt BA.out, blk_lt BB.out, blk_lt SD.out, blk_lt SX.out, blk_lt QD.out, blk_lt U1.out, blk_lt U2.out, NN.out.size⟩
      replace NN := Lib.hid (Bgo NN.out HB.out)
      replace BA := Lib.hid (blk_next HB.out BA.out)
      replace BB := Lib.hid (blk_next HB.out BB.out)
      replace SD := Lib.hid (blk_next HB.out SD.out)
      replace SX := Lib.hid (blk_next HB.out SX.out)
      replace QD := Lib.hid (blk_next HB.out QD.out)
      replace U1 := Lib.hid (blk_next HB.out U1.out)
      replace U2 := Lib.hid (blk_next HB.out U2.out)
      clear HB
      have c_BA_0 := blk_cell BA.out 0 _ rfl
      have f_BA_0 := blk_frozen BA.out 0
      have c_BA_1 := blk_cell BA.out 1 _ rfl
      have f_BA_1 := blk_frozen BA.out 1
      have c_BA_2 := blk_cell BA.out 2 _ rfl
      have f_BA_2 := blk_frozen BA.out 2
      have l_BA := blk_lt BA.out
      go_wp2_with fail
      clear c_BA_0 f_BA_0 c_BA_1 f_BA_1 c_BA_2 f_BA_2 l_BA
      generalize w46.alloc (.cells #[.int .i64 tx, .int .i64 ty, .int .i64 ad] 23) = W47 at *
      generalize w46.heap.size = g47 at *
      refine (Tm.out _).mono ?_
      rintro e w48 ⟨rfl, hb⟩
      replace NN := Lib.hid (Bgo NN.out hb)
      replace BA := Lib.hid (blk_next hb BA.out)
      replace BB := Lib.hid (blk_next hb BB.out)
      replace SD := Lib.hid (blk_next hb SD.out)
      replace SX := Lib.hid (blk_next hb SX.out)
      replace QD := Lib.hid (blk_next hb QD.out)
      replace U1 := Lib.hid (blk_next hb U1.out)
      replace U2 := Lib.hid (blk_next hb U2.out)
      replace U3 := Lib.hid (blk_next hb U3.out)
      clear hb
      have HB : Hid (Below w48.heap.size w48 (w48.alloc (.cells #[.int .i64 tu, .int .i64 tv, .int .i64 ad] 23))) := Lib.hid (Bal (Below.refl _ _) _)
      have U4 := Lib.hid (blk_new w48 (.cells #[.int .i64 tu, .int .i64 tv, .int .i64 ad] 23))
      have LT_U4 : Hid (w.heap.size < w48.heap.size ∧ w.heap.size + 1 < w48.heap.size ∧ g8 < w48.heap.size ∧ w9.heap.size < w48.heap.size ∧ w39.heap.size < w48.heap.size ∧ g43 < w48.heap.size ∧ g45 < w48.heap.size ∧ g47 < w48.heap.size ∧ w.heap.size ≤ w48.heap.size) := Lib.hid ⟨blk_lt BA.out, blk_lt BB.out, blk_lt SD.out, blk_lt SX.out, blk_lt QD.out, blk_lt U1.out, blk_lt U2.out, blk_lt U3.out, NN.out.size⟩
      replace NN := Lib.hid (Bgo NN.out HB.out)
      replace BA := Lib.hid (blk_next HB.out BA.out)
      replace BB := Lib.hid (blk_next HB.out BB.out)
      replace SD := Lib.hid (blk_next HB.out SD.out)
      replace SX := Lib.hid (blk_next HB.out SX.out)
      replace QD := Lib.hid (blk_next HB.out QD.out)
      replace U1 := Lib.hid (blk_next HB.out U1.out)
      replace U2 := Lib.hid (blk_next HB.out U2.out)
      replace U3 := Lib.hid (blk_next HB.out U3.out)
      clear HB
      have c_BA_0 := blk_cell BA.out 0 _ rfl
      have f_BA_0 := blk_frozen BA.out 0
      have c_BA_1 := blk_cell BA.out 1 _ rfl
      have f_BA_1 := blk_frozen BA.out 1
      have c_BA_2 := blk_cell BA.out 2 _ rfl
      have f_BA_2 := blk_frozen BA.out 2
      have l_BA := blk_lt BA.out
      go_wp2_with fail
      clear c_BA_0 f_BA_0 c_BA_1 f_BA_1 c_BA_2 f_BA_2 l_BA
      generalize w48.alloc (.cells #[.int .i64 tu, .int .i64 tv, .int .i64 ad] 23) = W49 at *
      generalize w48.heap.size = g49 at *
      refine (To.out _).mono ?_
      rintro e w50 ⟨rfl, hb⟩
      replace NN := Lib.hid (Bgo NN.out hb)
      replace BA := Lib.hid (blk_next hb BA.out)
      replace BB := Lib.hid (blk_next hb BB.out)
      replace SD := Lib.hid (blk_next hb SD.out)
      replace SX := Lib.hid (blk_next hb SX.out)
      replace QD := Lib.hid (blk_next hb QD.out)
      replace U1 := Lib.hid (blk_next hb U1.out)
      replace U2 := Lib.hid (blk_next hb U2.out)
      replace U3 := Lib.hid (blk_next hb U3.out)
      replace U4 := Lib.hid (blk_next hb U4.out)
      clear hb
      have HB : Hid (Below w50.heap.size w50 (w50.alloc (.cells #[.int .i64 tu, .int .i64 tv, .int .i64 ad] 23))) := Lib.hid (Bal (Below.refl _ _) _)
      have U5 := Lib.hid (blk_new w50 (.cells #[.int .i64 tu, .int .i64 tv, .int .i64 ad] 23))
      have LT_U5 : Hid (w.heap.size < w50.heap.size ∧ w.heap.size + 1 < w50.heap.size ∧ g8 < w50.heap.size ∧ w9.heap.size < w50.heap.size ∧ w39.heap.size < w50.heap.size ∧ g43 < w50.heap.size ∧ g45 < w50.heap.size ∧ g47 < w50.heap.size ∧ g49 < w50.heap.size ∧ w.heap.size ≤ w50.heap.size) := Lib.hid ⟨blk_lt BA.out, blk_lt BB.out, blk_lt SD.out, blk_lt SX.out, blk_lt QD.out, blk_lt U1.out, blk_lt U2.out, blk_lt U3.out, blk_lt U4.out, NN.out.size⟩
      replace NN := Lib.hid (Bgo NN.out HB.out)
      replace BA := Lib.hid (blk_next HB.out BA.out)
      replace BB := Lib.hid (blk_next HB.out BB.out)
      replace SD := Lib.hid (blk_next HB.out SD.out)
      replace SX := Lib.hid (blk_next HB.out SX.out)
      replace QD := Lib.hid (blk_next HB.out QD.out)
      replace U1 := Lib.hid (blk_next HB.out U1.out)
      replace U2 := Lib.hid (blk_next HB.out U2.out)
      replace U3 := Lib.hid (blk_next HB.out U3.out)
      replace U4 := Lib.hid (blk_next HB.out U4.out)
      clear HB
      have c_U1_0 := blk_cell U1.out 0 _ rfl
      have c_U1_1 := blk_cell U1.out 1 _ rfl
      have c_U1_2 := blk_cell U1.out 2 _ rfl
      have l_U1 := blk_lt U1.out
      have c_U2_0 := blk_cell U2.out 0 _ rfl
      have c_U2_1 := blk_cell U2.out 1 _ rfl
      have c_U2_2 := blk_cell U2.out 2 _ rfl
      have l_U2 := blk_lt U2.out
      have c_U3_0 := blk_cell U3.out 0 _ rfl
      have c_U3_1 := blk_cell U3.out 1 _ rfl
      have c_U3_2 := blk_cell U3.out 2 _ rfl
      have l_U3 := blk_lt U3.out
      have c_U4_0 := blk_cell U4.out 0 _ rfl
      have c_U4_1 := blk_cell U4.out 1 _ rfl
      have c_U4_2 := blk_cell U4.out 2 _ rfl
      have l_U4 := blk_lt U4.out
      have c_U5_0 := blk_cell U5.out 0 _ rfl
      have c_U5_1 := blk_cell U5.out 1 _ rfl
      have c_U5_2 := blk_cell U5.out 2 _ rfl
      have l_U5 := blk_lt U5.out
      have c_BA_0 := blk_cell BA.out 0 _ rfl
      have c_BA_1 := blk_cell BA.out 1 _ rfl
      have c_BA_2 := blk_cell BA.out 2 _ rfl
      have l_BA := blk_lt BA.out
      go_wp2_with fail
      go_ret
      exact ⟨rfl, NN.out⟩
  · have S := Lib.hid (fun W => sub_calls _ _ _ _ _ _ _ _ _ _ hs W)
    clear hs SC
    go_wp2_with fail
    clear c_BA_0 f_BA_0 c_BA_1 f_BA_1 c_BA_2 f_BA_2 l_BA c_BB_0 f_BB_0 c_BB_1 f_BB_1 c_BB_2 f_BB_2 l_BB
    refine (S.out _).mono ?_
    rintro e w52 ⟨rfl, hb⟩
    replace NN := Lib.hid (Bgo NN.out hb)
    replace BA := Lib.hid (blk_next hb BA.out)
    replace BB := Lib.hid (blk_next hb BB.out)
    clear hb
    have HB : Hid (Below w52.heap.size w52 (w52.alloc (.cells #[.int .i64 0, .int .i64 0, .int .i64 0] 23))) := Lib.hid (Bal (Below.refl _ _) _)
    have SD := Lib.hid (blk_new w52 (.cells #[.int .i64 0, .int .i64 0, .int .i64 0] 23))
    have LT_SD : Hid (w.heap.size < w52.heap.size ∧ w.heap.size + 1 < w52.heap.size ∧ w.heap.size ≤ w52.heap.size) := Lib.hid ⟨blk_lt BA.out, blk_lt BB.out, NN.out.size⟩
    replace NN := Lib.hid (Bgo NN.out HB.out)
    replace BA := Lib.hid (blk_next HB.out BA.out)
    replace BB := Lib.hid (blk_next HB.out BB.out)
    clear HB
    rcases DC.out with ⟨hz, hd⟩ | ⟨hz, ⟨dx, dy, dz, hd, hm⟩ | hd⟩
    · have D := Lib.hid (fun W => div_calls hd W)
      rw [hz] at RZ
      clear hd hz
      have c_BA_0 := blk_cell BA.out 0 _ rfl
      have c_BA_1 := blk_cell BA.out 1 _ rfl
      have c_BA_2 := blk_cell BA.out 2 _ rfl
      have l_BA := blk_lt BA.out
      have c_BB_0 := blk_cell BB.out 0 _ rfl
      have c_BB_1 := blk_cell BB.out 1 _ rfl
      have c_BB_2 := blk_cell BB.out 2 _ rfl
      have l_BB := blk_lt BB.out
      go_wp2_with fail
      clear c_BA_0 c_BA_1 c_BA_2 l_BA c_BB_0 c_BB_1 c_BB_2 l_BB
      refine (D.out _).mono ?_
      rintro e w54 ⟨rfl, hb⟩
      replace NN := Lib.hid (Bgo NN.out hb)
      replace BA := Lib.hid (blk_next hb BA.out)
      replace BB := Lib.hid (blk_next hb BB.out)
      replace SD := Lib.hid (blk_next hb SD.out)
      clear hb
      have HB : Hid (Below w54.heap.size w54 (w54.alloc (.cells #[.int .i64 0, .int .i64 0, .int .i64 0] 23))) := Lib.hid (Bal (Below.refl _ _) _)
      have QD := Lib.hid (blk_new w54 (.cells #[.int .i64 0, .int .i64 0, .int .i64 0] 23))
      have LT_QD : Hid (w.heap.size < w54.heap.size ∧ w.heap.size + 1 < w54.heap.size ∧ w52.heap.size < w54.heap.size ∧ w.heap.size ≤ w54.heap.size) := Lib.hid ⟨blk_lt BA.out, blk_lt BB.out, blk_lt SD.out, NN.out.size⟩
      replace NN := Lib.hid (Bgo NN.out HB.out)
      replace BA := Lib.hid (blk_next HB.out BA.out)
      replace BB := Lib.hid (blk_next HB.out BB.out)
      replace SD := Lib.hid (blk_next HB.out SD.out)
      clear HB
      have c_BB_0 := blk_cell BB.out 0 _ rfl
      have f_BB_0 := blk_frozen BB.out 0
      have c_BB_1 := blk_cell BB.out 1 _ rfl
      have f_BB_1 := blk_frozen BB.out 1
      have c_BB_2 := blk_cell BB.out 2 _ rfl
      have f_BB_2 := blk_frozen BB.out 2
      have l_BB := blk_lt BB.out
      go_wp2_with fail
      clear c_BB_0 f_BB_0 c_BB_1 f_BB_1 c_BB_2 f_BB_2 l_BB
      refine (RZ.out _).mono ?_
      rintro e w56 ⟨rfl, hb⟩
      replace NN := Lib.hid (Bgo NN.out hb)
      replace BA := Lib.hid (blk_next hb BA.out)
      replace BB := Lib.hid (blk_next hb BB.out)
      replace SD := Lib.hid (blk_next hb SD.out)
      replace QD := Lib.hid (blk_next hb QD.out)
      clear hb
      by_cases q1 : q < -1000000000
      · have q1' : decide (q < (-1000000000 : Int)) = true := decide_eq_true q1
        go_wp2_with fail
        go_ret
        exact ⟨rfl, NN.out⟩
      have q1' : decide (q < (-1000000000 : Int)) = false := decide_eq_false q1
      by_cases q2 : 1000000000 < q
      · have q2' : decide ((1000000000 : Int) < q) = true := decide_eq_true q2
        go_wp2_with fail
        go_ret
        exact ⟨rfl, NN.out⟩
      have q2' : decide ((1000000000 : Int) < q) = false := decide_eq_false q2
      have c_BA_0 := blk_cell BA.out 0 _ rfl
      have c_BA_1 := blk_cell BA.out 1 _ rfl
      have c_BA_2 := blk_cell BA.out 2 _ rfl
      have l_BA := blk_lt BA.out
      go_wp2_with fail
      clear c_BA_0 c_BA_1 c_BA_2 l_BA
      refine (Tt.out _).mono ?_
      rintro e w57 ⟨rfl, hb⟩
      replace NN := Lib.hid (Bgo NN.out hb)
      replace BA := Lib.hid (blk_next hb BA.out)
      replace BB := Lib.hid (blk_next hb BB.out)
      replace SD := Lib.hid (blk_next hb SD.out)
      replace QD := Lib.hid (blk_next hb QD.out)
      clear hb
      have HB : Hid (Below w57.heap.size w57 (w57.alloc (.cells #[.int .i64 tx, .int .i64 ty, .int .i64 ad] 23))) := Lib.hid (Bal (Below.refl _ _) _)
      have U1 := Lib.hid (blk_new w57 (.cells #[.int .i64 tx, .int .i64 ty, .int .i64 ad] 23))
      have LT_U1 : Hid (w.heap.size < w57.heap.size ∧ w.heap.size + 1 < w57.heap.size ∧ w52.heap.size < w57.heap.size ∧ w54.heap.size < w57.heap.size ∧ w.heap.size ≤ w57.heap.size) := Lib.hid ⟨blk_lt BA.out, blk_lt BB.out, blk_lt SD.out, blk_lt QD.out, NN.out.size⟩
      replace NN := Lib.hid (Bgo NN.out HB.out)
      replace BA := Lib.hid (blk_next HB.out BA.out)
      replace BB := Lib.hid (blk_next HB.out BB.out)
      replace SD := Lib.hid (blk_next HB.out SD.out)
      replace QD := Lib.hid (blk_next HB.out QD.out)
      clear HB
      go_wp2_with fail
      generalize w57.alloc (.cells #[.int .i64 tx, .int .i64 ty, .int .i64 ad] 23) = W58 at *
      generalize w57.heap.size = g58 at *
      refine (Tb.out _).mono ?_
      rintro e w59 ⟨rfl, hb⟩
      replace NN := Lib.hid (Bgo NN.out hb)
      replace BA := Lib.hid (blk_next hb BA.out)
      replace BB := Lib.hid (blk_next hb BB.out)
      replace SD := Lib.hid (blk_next hb SD.out)
      replace QD := Lib.hid (blk_next hb QD.out)
      replace U1 := Lib.hid (blk_next hb U1.out)
      clear hb
      have HB : Hid (Below w59.heap.size w59 (w59.alloc (.cells #[.int .i64 ar, .int .i64 ai, .int .i64 ad] 23))) := Lib.hid (Bal (Below.refl _ _) _)
      have U2 := Lib.hid (blk_new w59 (.cells #[.int .i64 ar, .int .i64 ai, .int .i64 ad] 23))
      have LT_U2 : Hid (w.heap.size < w59.heap.size ∧ w.heap.size + 1 < w59.heap.size ∧ w52.heap.size < w59.heap.size ∧ w54.heap.size < w59.heap.size ∧ g58 < w59.heap.size ∧ w.heap.size ≤ w59.heap.size) := Lib.hid ⟨blk_lt BA.out, blk_lt BB.out, blk_lt SD.out, blk_lt QD.out, blk_lt U1.out, NN.out.size⟩
      replace NN := Lib.hid (Bgo NN.out HB.out)
      replace BA := Lib.hid (blk_next HB.out BA.out)
      replace BB := Lib.hid (blk_next HB.out BB.out)
      replace SD := Lib.hid (blk_next HB.out SD.out)
      replace QD := Lib.hid (blk_next HB.out QD.out)
      replace U1 := Lib.hid (blk_next HB.out U1.out)
      clear HB
      have c_BA_0 := blk_cell BA.out 0 _ rfl
      have f_BA_0 := blk_frozen BA.out 0
      have c_BA_1 := blk_cell BA.out 1 _ rfl
      have f_BA_1 := blk_frozen BA.out 1
      have c_BA_2 := blk_cell BA.out 2 _ rfl
      have f_BA_2 := blk_frozen BA.out 2
      have l_BA := blk_lt BA.out
      go_wp2_with fail
      clear c_BA_0 f_BA_0 c_BA_1 f_BA_1 c_BA_2 f_BA_2 l_BA
      generalize w59.alloc (.cells #[.int .i64 ar, .int .i64 ai, .int .i64 ad] 23) = W60 at *
      generalize w59.heap.size = g60 at *
      refine (Tf.out _).mono ?_
      rintro e w61 ⟨rfl, hb⟩
      replace NN := Lib.hid (Bgo NN.out hb)
      replace BA := Lib.hid (blk_next hb BA.out)
      replace BB := Lib.hid (blk_next hb BB.out)
      replace SD := Lib.hid (blk_next hb SD.out)
      replace QD := Lib.hid (blk_next hb QD.out)
      replace U1 := Lib.hid (blk_next hb U1.out)
      replace U2 := Lib.hid (blk_next hb U2.out)
      clear hb
      have HB : Hid (Below w61.heap.size w61 (w61.alloc (.cells #[.int .i64 tx, .int .i64 ty, .int .i64 ad] 23))) := Lib.hid (Bal (Below.refl _ _) _)
      have U3 := Lib.hid (blk_new w61 (.cells #[.int .i64 tx, .int .i64 ty, .int .i64 ad] 23))
      have LT_U3 : Hid (w.heap.size < w61.heap.size ∧ w.heap.size + 1 < w61.heap.size ∧ w52.heap.size < w61.heap.size ∧ w54.heap.size < w61.heap.size ∧ g58 < w61.heap.size ∧ g60 < w61.heap.size ∧ w.heap.size ≤ w61.heap.size) := Lib.hid ⟨blk_lt BA.out, blk_lt BB.out, blk_lt SD.out, blk_lt QD.out, blk_lt U1.out, blk_lt U2.out, NN.out.size⟩
      replace NN := Lib.hid (Bgo NN.out HB.out)
      replace BA := Lib.hid (blk_next HB.out BA.out)
      replace BB := Lib.hid (blk_next HB.out BB.out)
      replace SD := Lib.hid (blk_next HB.out SD.out)
      replace QD := Lib.hid (blk_next HB.out QD.out)
      replace U1 := Lib.hid (blk_next HB.out U1.out)
      replace U2 := Lib.hid (blk_next HB.out U2.out)
      clear HB
      have c_BA_0 := blk_cell BA.out 0 _ rfl
      have f_BA_0 := blk_frozen BA.out 0
      have c_BA_1 := blk_cell BA.out 1 _ rfl
      have f_BA_1 := blk_frozen BA.out 1
      have c_BA_2 := blk_cell BA.out 2 _ rfl
      have f_BA_2 := blk_frozen BA.out 2
      have l_BA := blk_lt BA.out
      go_wp2_with fail
      clear c_BA_0 f_BA_0 c_BA_1 f_BA_1 c_BA_2 f_BA_2 l_BA
      generalize w61.alloc (.cells #[.int .i64 tx, .int .i64 ty, .int .i64 ad] 23) = W62 at *
      generalize w61.heap.size = g62 at *
      refine (Tm.out _).mono ?_
      rintro e w63 ⟨rfl, hb⟩
      replace NN := Lib.hid (Bgo NN.out hb)
      replace BA := Lib.hid (blk_next hb BA.out)
      replace BB := Lib.hid (blk_next hb BB.out)
      replace SD := Lib.hid (blk_next hb SD.out)
      replace QD := Lib.hid (blk_next hb QD.out)
      replace U1 := Lib.hid (blk_next hb U1.out)
      replace U2 := Lib.hid (blk_next hb U2.out)
      replace U3 := Lib.hid (blk_next hb U3.out)
      clear hb
      have HB : Hid (Below w63.heap.size w63 (w63.alloc (.cells #[.int .i64 tu, .int .i64 tv, .int .i64 ad] 23))) := Lib.hid (Bal (Below.refl _ _) _)
      have U4 := Lib.hid (blk_new w63 (.cells #[.int .i64 tu, .int .i64 tv, .int .i64 ad] 23))
      have LT_U4 : Hid (w.heap.size < w63.heap.size ∧ w.heap.size + 1 < w63.heap.size ∧ w52.heap.size < w63.heap.size ∧ w54.heap.size < w63.heap.size ∧ g58 < w63.heap.size ∧ g60 < w63.heap.size ∧ g62 < w63.heap.size ∧ w.heap.size ≤ w63.heap.size) := Lib.hid ⟨blk_lt BA.out, blk_lt BB.out, blk_lt SD.out, blk_lt QD.out, blk_lt U1.out, blk_lt U2.out, blk_lt U3.out, NN.out.size⟩
      replace NN := Lib.hid (Bgo NN.out HB.out)
      replace BA := Lib.hid (blk_next HB.out BA.out)
      replace BB := Lib.hid (blk_next HB.out BB.out)
      replace SD := Lib.hid (blk_next HB.out SD.out)
      replace QD := Lib.hid (blk_next HB.out QD.out)
      replace U1 := Lib.hid (blk_next HB.out U1.out)
      replace U2 := Lib.hid (blk_next HB.out U2.out)
      replace U3 := Lib.hid (blk_next HB.out U3.out)
      clear HB
      have c_BA_0 := blk_cell BA.out 0 _ rfl
      have f_BA_0 := blk_frozen BA.out 0
      have c_BA_1 := blk_cell BA.out 1 _ rfl
      have f_BA_1 := blk_frozen BA.out 1
      have c_BA_2 := blk_cell BA.out 2 _ rfl
      have f_BA_2 := blk_frozen BA.out 2
      have l_BA := blk_lt BA.out
      go_wp2_with fail
      clear c_BA_0 f_BA_0 c_BA_1 f_BA_1 c_BA_2 f_BA_2 l_BA
      generalize w63.alloc (.cells #[.int .i64 tu, .int .i64 tv, .int .i64 ad] 23) = W64 at *
      generalize w63.heap.size = g64 at *
      refine (To.out _).mono ?_
      rintro e w65 ⟨rfl, hb⟩
      replace NN := Lib.hid (Bgo NN.out hb)
      replace BA := Lib.hid (blk_next hb BA.out)
      replace BB := Lib.hid (blk_next hb BB.out)
      replace SD := Lib.hid (blk_next hb SD.out)
      replace QD := Lib.hid (blk_next hb QD.out)
      replace U1 := Lib.hid (blk_next hb U1.out)
      replace U2 := Lib.hid (blk_next hb U2.out)
      replace U3 := Lib.hid (blk_next hb U3.out)
      replace U4 := Lib.hid (blk_next hb U4.out)
      clear hb
      have HB : Hid (Below w65.heap.size w65 (w65.alloc (.cells #[.int .i64 tu, .int .i64 tv, .int .i64 ad] 23))) := Lib.hid (Bal (Below.refl _ _) _)
      have U5 := Lib.hid (blk_new w65 (.cells #[.int .i64 tu, .int .i64 tv, .int .i64 ad] 23))
      have LT_U5 : Hid (w.heap.size < w65.heap.size ∧ w.heap.size + 1 < w65.heap.size ∧ w52.heap.size < w65.heap.size ∧ w54.heap.size < w65.heap.size ∧ g58 < w65.heap.size ∧ g60 < w65.heap.size ∧ g62 < w65.heap.size ∧ g64 < w65.heap.size ∧ w.heap.size ≤ w65.heap.size) := Lib.hid ⟨blk_lt BA.out, blk_lt BB.out, blk_lt SD.out, blk_lt QD.out, blk_lt U1.out, blk_lt U2.out, blk_lt U3.out, blk_lt U4.out, NN.out.size⟩
      replace NN := Lib.hid (Bgo NN.out HB.out)
      replace BA := Lib.hid (blk_next HB.out BA.out)
      replace BB := Lib.hid (blk_next HB.out BB.out)
      replace SD := Lib.hid (blk_next HB.out SD.out)
      replace QD := Lib.hid (blk_next HB.out QD.out)
      replace U1 := Lib.hid (blk_next HB.out U1.out)
      replace U2 := Lib.hid (blk_next HB.out U2.out)
      replace U3 := Lib.hid (blk_next HB.out U3.out)
      replace U4 := Lib.hid (blk_next HB.out U4.out)
      clear HB
      have c_U1_0 := blk_cell U1.out 0 _ rfl
      have c_U1_1 := blk_cell U1.out 1 _ rfl
      have c_U1_2 := blk_cell U1.out 2 _ rfl
      have l_U1 := blk_lt U1.out
      have c_U2_0 := blk_cell U2.out 0 _ rfl
      have c_U2_1 := blk_cell U2.out 1 _ rfl
      have c_U2_2 := blk_cell U2.out 2 _ rfl
      have l_U2 := blk_lt U2.out
      have c_U3_0 := blk_cell U3.out 0 _ rfl
      have c_U3_1 := blk_cell U3.out 1 _ rfl
      have c_U3_2 := blk_cell U3.out 2 _ rfl
      have l_U3 := blk_lt U3.out
      have c_U4_0 := blk_cell U4.out 0 _ rfl
      have c_U4_1 := blk_cell U4.out 1 _ rfl
      have c_U4_2 := blk_cell U4.out 2 _ rfl
      have l_U4 := blk_lt U4.out
      have c_U5_0 := blk_cell U5.out 0 _ rfl
      have c_U5_1 := blk_cell U5.out 1 _ rfl
      have c_U5_2 := blk_cell U5.out 2 _ rfl
      have l_U5 := blk_lt U5.out
      have c_BA_0 := blk_cell BA.out 0 _ rfl
      have c_BA_1 := blk_cell BA.out 1 _ rfl
      have c_BA_2 := blk_cell BA.out 2 _ rfl
      have l_BA := blk_lt BA.out
      go_wp2_with fail
      go_ret
      exact ⟨rfl, NN.out⟩
    · have D := Lib.hid (fun W => div_calls hd W)
      rw [hz] at RZ
      clear hd hz
      have DM := Lib.hid (fun W => mul_calls _ _ _ _ _ _ _ _ _ _ hm W)
      clear hm
      have c_BA_0 := blk_cell BA.out 0 _ rfl
      have c_BA_1 := blk_cell BA.out 1 _ rfl
      have c_BA_2 := blk_cell BA.out 2 _ rfl
      have l_BA := blk_lt BA.out
      have c_BB_0 := blk_cell BB.out 0 _ rfl
      have c_BB_1 := blk_cell BB.out 1 _ rfl
      have c_BB_2 := blk_cell BB.out 2 _ rfl
      have l_BB := blk_lt BB.out
      go_wp2_with fail
      clear c_BA_0 c_BA_1 c_BA_2 l_BA c_BB_0 c_BB_1 c_BB_2 l_BB
      refine (D.out _).mono ?_
      rintro e w67 ⟨rfl, hb⟩
      replace NN := Lib.hid (Bgo NN.out hb)
      replace BA := Lib.hid (blk_next hb BA.out)
      replace BB := Lib.hid (blk_next hb BB.out)
      replace SD := Lib.hid (blk_next hb SD.out)
      clear hb
      have HB : Hid (Below w67.heap.size w67 (w67.alloc (.cells #[.int .i64 dx, .int .i64 dy, .int .i64 dz] 23))) := Lib.hid (Bal (Below.refl _ _) _)
      have QD := Lib.hid (blk_new w67 (.cells #[.int .i64 dx, .int .i64 dy, .int .i64 dz] 23))
      have LT_QD : Hid (w.heap.size < w67.heap.size ∧ w.heap.size + 1 < w67.heap.size ∧ w52.heap.size < w67.heap.size ∧ w.heap.size ≤ w67.heap.size) := Lib.hid ⟨blk_lt BA.out, blk_lt BB.out, blk_lt SD.out, NN.out.size⟩
      replace NN := Lib.hid (Bgo NN.out HB.out)
      replace BA := Lib.hid (blk_next HB.out BA.out)
      replace BB := Lib.hid (blk_next HB.out BB.out)
      replace SD := Lib.hid (blk_next HB.out SD.out)
      clear HB
      have c_BB_0 := blk_cell BB.out 0 _ rfl
      have f_BB_0 := blk_frozen BB.out 0
      have c_BB_1 := blk_cell BB.out 1 _ rfl
      have f_BB_1 := blk_frozen BB.out 1
      have c_BB_2 := blk_cell BB.out 2 _ rfl
      have f_BB_2 := blk_frozen BB.out 2
      have l_BB := blk_lt BB.out
      go_wp2_with fail
      clear c_BB_0 f_BB_0 c_BB_1 f_BB_1 c_BB_2 f_BB_2 l_BB
      refine (RZ.out _).mono ?_
      rintro e w69 ⟨rfl, hb⟩
      replace NN := Lib.hid (Bgo NN.out hb)
      replace BA := Lib.hid (blk_next hb BA.out)
      replace BB := Lib.hid (blk_next hb BB.out)
      replace SD := Lib.hid (blk_next hb SD.out)
      replace QD := Lib.hid (blk_next hb QD.out)
      clear hb
      have c_QD_0 := blk_cell QD.out 0 _ rfl
      have c_QD_1 := blk_cell QD.out 1 _ rfl
      have c_QD_2 := blk_cell QD.out 2 _ rfl
      have l_QD := blk_lt QD.out
      have c_BB_0 := blk_cell BB.out 0 _ rfl
      have c_BB_1 := blk_cell BB.out 1 _ rfl
      have c_BB_2 := blk_cell BB.out 2 _ rfl
      have l_BB := blk_lt BB.out
      go_wp2_with fail
      clear c_QD_0 c_QD_1 c_QD_2 l_QD c_BB_0 c_BB_1 c_BB_2 l_BB
      refine (DM.out _).mono ?_
      rintro e w70 ⟨rfl, hb⟩
      replace NN := Lib.hid (Bgo NN.out hb)
      replace BA := Lib.hid (blk_next hb BA.out)
      replace BB := Lib.hid (blk_next hb BB.out)
      replace SD := Lib.hid (blk_next hb SD.out)
      replace QD := Lib.hid (blk_next hb QD.out)
      clear hb
      have HB : Hid (Below w70.heap.size w70 (w70.alloc (.cells #[.int .i64 ar, .int .i64 ai, .int .i64 ad] 23))) := Lib.hid (Bal (Below.refl _ _) _)
      have QM := Lib.hid (blk_new w70 (.cells #[.int .i64 ar, .int .i64 ai, .int .i64 ad] 23))
      have LT_QM : Hid (w.heap.size < w70.heap.size ∧ w.heap.size + 1 < w70.heap.size ∧ w52.heap.size < w70.heap.size ∧ w67.heap.size < w70.heap.size ∧ w.heap.size ≤ w70.heap.size) := Lib.hid ⟨blk_lt BA.out, blk_lt BB.out, blk_lt SD.out, blk_lt QD.out, NN.out.size⟩
      replace NN := Lib.hid (Bgo NN.out HB.out)
      replace BA := Lib.hid (blk_next HB.out BA.out)
      replace BB := Lib.hid (blk_next HB.out BB.out)
      replace SD := Lib.hid (blk_next HB.out SD.out)
      replace QD := Lib.hid (blk_next HB.out QD.out)
      clear HB
      by_cases q1 : q < -1000000000
      · have q1' : decide (q < (-1000000000 : Int)) = true := decide_eq_true q1
        have c_QM_0 := blk_cell QM.out 0 _ rfl
        have c_QM_1 := blk_cell QM.out 1 _ rfl
        have c_QM_2 := blk_cell QM.out 2 _ rfl
        have l_QM := blk_lt QM.out
        have c_BA_0 := blk_cell BA.out 0 _ rfl
        have c_BA_1 := blk_cell BA.out 1 _ rfl
        have c_BA_2 := blk_cell BA.out 2 _ rfl
        have l_BA := blk_lt BA.out
        go_wp2_with fail
        go_ret
        exact ⟨rfl, NN.out⟩
      have q1' : decide (q < (-1000000000 : Int)) = false := decide_eq_false q1
      by_cases q2 : 1000000000 < q
      · have q2' : decide ((1000000000 : Int) < q) = true := decide_eq_true q2
        have c_QM_0 := blk_cell QM.out 0 _ rfl
        have c_QM_1 := blk_cell QM.out 1 _ rfl
        have c_QM_2 := blk_cell QM.out 2 _ rfl
        have l_QM := blk_lt QM.out
        have c_BA_0 := blk_cell BA.out 0 _ rfl
        have c_BA_1 := blk_cell BA.out 1 _ rfl
        have c_BA_2 := blk_cell BA.out 2 _ rfl
        have l_BA := blk_lt BA.out
        go_wp2_with fail
        go_ret
        exact ⟨rfl, NN.out⟩
      have q2' : decide ((1000000000 : Int) < q) = false := decide_eq_false q2
      have c_BA_0 := blk_cell BA.out 0 _ rfl
      have c_BA_1 := blk_cell BA.out 1 _ rfl
      have c_BA_2 := blk_cell BA.out 2 _ rfl
      have l_BA := blk_lt BA.out
      have c_QM_0 := blk_cell QM.out 0 _ rfl
      have c_QM_1 := blk_cell QM.out 1 _ rfl
      have c_QM_2 := blk_cell QM.out 2 _ rfl
      have l_QM := blk_lt QM.out
      go_wp2_with fail
      clear c_BA_0 c_BA_1 c_BA_2 l_BA c_QM_0 c_QM_1 c_QM_2 l_QM
      refine (Tt.out _).mono ?_
      rintro e w72 ⟨rfl, hb⟩
      replace NN := Lib.hid (Bgo NN.out hb)
      replace BA := Lib.hid (blk_next hb BA.out)
      replace BB := Lib.hid (blk_next hb BB.out)
      replace SD := Lib.hid (blk_next hb SD.out)
      replace QD := Lib.hid (blk_next hb QD.out)
      replace QM := Lib.hid (blk_next hb QM.out)
      clear hb
      have HB : Hid (Below w72.heap.size w72 (w72.alloc (.cells #[.int .i64 tx, .int .i64 ty, .int .i64 ad] 23))) := Lib.hid (Bal (Below.refl _ _) _)
      have U1 := Lib.hid (blk_new w72 (.cells #[.int .i64 tx, .int .i64 ty, .int .i64 ad] 23))
      have LT_U1 : Hid (w.heap.size < w72.heap.size ∧ w.heap.size + 1 < w72.heap.size ∧ w52.heap.size < w72.heap.size ∧ w67.heap.size < w72.heap.size ∧ w70.heap.size < w72.heap.size ∧ w.heap.size ≤ w72.heap.size) := Lib.hid ⟨blk_lt BA.out, blk_lt BB.out, blk_lt SD.out, blk_lt QD.out, blk_lt QM.out, NN.out.size⟩
      replace NN := Lib.hid (Bgo NN.out HB.out)
      replace BA := Lib.hid (blk_next HB.out BA.out)
      replace BB := Lib.hid (blk_next HB.out BB.out)
      replace SD := Lib.hid (blk_next HB.out SD.out)
      replace QD := Lib.hid (blk_next HB.out QD.out)
      replace QM := Lib.hid (blk_next HB.out QM.out)
      clear HB
      go_wp2_with fail
      generalize w72.alloc (.cells #[.int .i64 tx, .int .i64 ty, .int .i64 ad] 23) = W73 at *
      generalize w72.heap.size = g73 at *
      refine (Tb.out _).mono ?_
      rintro e w74 ⟨rfl, hb⟩
      replace NN := Lib.hid (Bgo NN.out hb)
      replace BA := Lib.hid (blk_next hb BA.out)
      replace BB := Lib.hid (blk_next hb BB.out)
      replace SD := Lib.hid (blk_next hb SD.out)
      replace QD := Lib.hid (blk_next hb QD.out)
      replace QM := Lib.hid (blk_next hb QM.out)
      replace U1 := Lib.hid (blk_next hb U1.out)
      clear hb
      have HB : Hid (Below w74.heap.size w74 (w74.alloc (.cells #[.int .i64 ar, .int .i64 ai, .int .i64 ad] 23))) := Lib.hid (Bal (Below.refl _ _) _)
      have U2 := Lib.hid (blk_new w74 (.cells #[.int .i64 ar, .int .i64 ai, .int .i64 ad] 23))
      have LT_U2 : Hid (w.heap.size < w74.heap.size ∧ w.heap.size + 1 < w74.heap.size ∧ w52.heap.size < w74.heap.size ∧ w67.heap.size < w74.heap.size ∧ w70.heap.size < w74.heap.size ∧ g73 < w74.heap.size ∧ w.heap.size ≤ w74.heap.size) := Lib.hid ⟨blk_lt BA.out, blk_lt BB.out, blk_lt SD.out, blk_lt QD.out, blk_lt QM.out, blk_lt U1.out, NN.out.size⟩
      replace NN := Lib.hid (Bgo NN.out HB.out)
      replace BA := Lib.hid (blk_next HB.out BA.out)
      replace BB := Lib.hid (blk_next HB.out BB.out)
      replace SD := Lib.hid (blk_next HB.out SD.out)
      replace QD := Lib.hid (blk_next HB.out QD.out)
      replace QM := Lib.hid (blk_next HB.out QM.out)
      replace U1 := Lib.hid (blk_next HB.out U1.out)
      clear HB
      have c_BA_0 := blk_cell BA.out 0 _ rfl
      have f_BA_0 := blk_frozen BA.out 0
      have c_BA_1 := blk_cell BA.out 1 _ rfl
      have f_BA_1 := blk_frozen BA.out 1
      have c_BA_2 := blk_cell BA.out 2 _ rfl
      have f_BA_2 := blk_frozen BA.out 2
      have l_BA := blk_lt BA.out
      go_wp2_with fail
      clear c_BA_0 f_BA_0 c_BA_1 f_BA_1 c_BA_2 f_BA_2 l_BA
      generalize w74.alloc (.cells #[.int .i64 ar, .int .i64 ai, .int .i64 ad] 23) = W75 at *
      generalize w74.heap.size = g75 at *
      refine (Tf.out _).mono ?_
      rintro e w76 ⟨rfl, hb⟩
      replace NN := Lib.hid (Bgo NN.out hb)
      replace BA := Lib.hid (blk_next hb BA.out)
      replace BB := Lib.hid (blk_next hb BB.out)
      replace SD := Lib.hid (blk_next hb SD.out)
      replace QD := Lib.hid (blk_next hb QD.out)
      replace QM := Lib.hid (blk_next hb QM.out)
      replace U1 := Lib.hid (blk_next hb U1.out)
      replace U2 := Lib.hid (blk_next hb U2.out)
      clear hb
      have HB : Hid (Below w76.heap.size w76 (w76.alloc (.cells #[.int .i64 tx, .int .i64 ty, .int .i64 ad] 23))) := Lib.hid (Bal (Below.refl _ _) _)
      have U3 := Lib.hid (blk_new w76 (.cells #[.int .i64 tx, .int .i64 ty, .int .i64 ad] 23))
      have LT_U3 : Hid (w.heap.size < w76.heap.size ∧ w.heap.size + 1 < w76.heap.size ∧ w52.heap.size < w76.heap.size ∧ w67.heap.size < w76.heap.size ∧ w70.heap.size < w76.heap.size ∧ g73 < w76.heap.size ∧ g75 < w76.heap.size ∧ w.heap.size ≤ w76.heap.size) := Lib.hid ⟨blk_lt BA.out, blk_lt BB.out, blk_lt SD.out, blk_lt QD.out, blk_lt QM.out, blk_lt U1.out, blk_lt U2.out, NN.out.size⟩
      replace NN := Lib.hid (Bgo NN.out HB.out)
      replace BA := Lib.hid (blk_next HB.out BA.out)
      replace BB := Lib.hid (blk_next HB.out BB.out)
      replace SD := Lib.hid (blk_next HB.out SD.out)
      replace QD := Lib.hid (blk_next HB.out QD.out)
      replace QM := Lib.hid (blk_next HB.out QM.out)
      replace U1 := Lib.hid (blk_next HB.out U1.out)
      replace U2 := Lib.hid (blk_next HB.out U2.out)
      clear HB
      have c_BA_0 := blk_cell BA.out 0 _ rfl
      have f_BA_0 := blk_frozen BA.out 0
      have c_BA_1 := blk_cell BA.out 1 _ rfl
      have f_BA_1 := blk_frozen BA.out 1
      have c_BA_2 := blk_cell BA.out 2 _ rfl
      have f_BA_2 := blk_frozen BA.out 2
      have l_BA := blk_lt BA.out
      go_wp2_with fail
      clear c_BA_0 f_BA_0 c_BA_1 f_BA_1 c_BA_2 f_BA_2 l_BA
      generalize w76.alloc (.cells #[.int .i64 tx, .int .i64 ty, .int .i64 ad] 23) = W77 at *
      generalize w76.heap.size = g77 at *
      refine (Tm.out _).mono ?_
      rintro e w78 ⟨rfl, hb⟩
      replace NN := Lib.hid (Bgo NN.out hb)
      replace BA := Lib.hid (blk_next hb BA.out)
      replace BB := Lib.hid (blk_next hb BB.out)
      replace SD := Lib.hid (blk_next hb SD.out)
      replace QD := Lib.hid (blk_next hb QD.out)
      replace QM := Lib.hid (blk_next hb QM.out)
      replace U1 := Lib.hid (blk_next hb U1.out)
      replace U2 := Lib.hid (blk_next hb U2.out)
      replace U3 := Lib.hid (blk_next hb U3.out)
      clear hb
      have HB : Hid (Below w78.heap.size w78 (w78.alloc (.cells #[.int .i64 tu, .int .i64 tv, .int .i64 ad] 23))) := Lib.hid (Bal (Below.refl _ _) _)
      have U4 := Lib.hid (blk_new w78 (.cells #[.int .i64 tu, .int .i64 tv, .int .i64 ad] 23))
      have LT_U4 : Hid (w.heap.size < w78.heap.size ∧ w.heap.size + 1 < w78.heap.size ∧ w52.heap.size < w78.heap.size ∧ w67.heap.size < w78.heap.size ∧ w70.heap.size < w78.heap.size ∧ g73 < w78.heap.size ∧ g75 < w78.heap.size ∧ g77 < w78.heap.size ∧ w.heap.size ≤ w78.heap.size) := Lib.hid ⟨blk_lt BA.out, blk_lt BB.out, blk_lt SD.out, blk_lt QD.out, blk_lt QM.out, blk_lt U1.out, blk_lt U2.out, blk_lt U3.out, NN.out.size⟩
      replace NN := Lib.hid (Bgo NN.out HB.out)
      replace BA := Lib.hid (blk_next HB.out BA.out)
      replace BB := Lib.hid (blk_next HB.out BB.out)
      replace SD := Lib.hid (blk_next HB.out SD.out)
      replace QD := Lib.hid (blk_next HB.out QD.out)
      replace QM := Lib.hid (blk_next HB.out QM.out)
      replace U1 := Lib.hid (blk_next HB.out U1.out)
      replace U2 := Lib.hid (blk_next HB.out U2.out)
      replace U3 := Lib.hid (blk_next HB.out U3.out)
      clear HB
      have c_BA_0 := blk_cell BA.out 0 _ rfl
      have f_BA_0 := blk_frozen BA.out 0
      have c_BA_1 := blk_cell BA.out 1 _ rfl
      have f_BA_1 := blk_frozen BA.out 1
      have c_BA_2 := blk_cell BA.out 2 _ rfl
      have f_BA_2 := blk_frozen BA.out 2
      have l_BA := blk_lt BA.out
      go_wp2_with fail
      clear c_BA_0 f_BA_0 c_BA_1 f_BA_1 c_BA_2 f_BA_2 l_BA
      generalize w78.alloc (.cells #[.int .i64 tu, .int .i64 tv, .int .i64 ad] 23) = W79 at *
      generalize w78.heap.size = g79 at *
      refine (To.out _).mono ?_
      rintro e w80 ⟨rfl, hb⟩
      replace NN := Lib.hid (Bgo NN.out hb)
      replace BA := Lib.hid (blk_next hb BA.out)
      replace BB := Lib.hid (blk_next hb BB.out)
      replace SD := Lib.hid (blk_next hb SD.out)
      replace QD := Lib.hid (blk_next hb QD.out)
      replace QM := Lib.hid (blk_next hb QM.out)
      replace U1 := Lib.hid (blk_next hb U1.out)
      replace U2 := Lib.hid (blk_next hb U2.out)
      replace U3 := Lib.hid (blk_next hb U3.out)
      replace U4 := Lib.hid (blk_next hb U4.out)
      clear hb
      have HB : Hid (Below w80.heap.size w80 (w80.alloc (.cells #[.int .i64 tu, .int .i64 tv, .int .i64 ad] 23))) := Lib.hid (Bal (Below.refl _ _) _)
      have U5 := Lib.hid (blk_new w80 (.cells #[.int .i64 tu, .int .i64 tv, .int .i64 ad] 23))
      have LT_U5 : Hid (w.heap.size < w80.heap.size ∧ w.heap.size + 1 < w80.heap.size ∧ w52.heap.size < w80.heap.size ∧ w67.heap.size < w80.heap.size ∧ w70.heap.size < w80.heap.size ∧ g73 < w80.heap.size ∧ g75 < w80.heap.size ∧ g77 < w80.heap.size ∧ g79 < w80.heap.size ∧ w.heap.size ≤ w80.heap.size) := Lib.hid ⟨blk_lt BA.out, blk_lt BB.out, blk_lt SD.out, blk_lt QD.out, blk_lt QM.out, blk_lt U1.out, blk_lt U2.out, blk_lt U3.out, blk_lt U4.out, NN.out.size⟩
      replace NN := Lib.hid (Bgo NN.out HB.out)
      replace BA := Lib.hid (blk_next HB.out BA.out)
      replace BB := Lib.hid (blk_next HB.out BB.out)
      replace SD := Lib.hid (blk_next HB.out SD.out)
      replace QD := Lib.hid (blk_next HB.out QD.out)
      replace QM := Lib.hid (blk_next HB.out QM.out)
      replace U1 := Lib.hid (blk_next HB.out U1.out)
      replace U2 := Lib.hid (blk_next HB.out U2.out)
      replace U3 := Lib.hid (blk_next HB.out U3.out)
      replace U4 := Lib.hid (blk_next HB.out U4.out)
      clear HB
      have c_U1_0 := blk_cell U1.out 0 _ rfl
      have c_U1_1 := blk_cell U1.out 1 _ rfl
      have c_U1_2 := blk_cell U1.out 2 _ rfl
      have l_U1 := blk_lt U1.out
      have c_U2_0 := blk_cell U2.out 0 _ rfl
      have c_U2_1 := blk_cell U2.out 1 _ rfl
      have c_U2_2 := blk_cell U2.out 2 _ rfl
      have l_U2 := blk_lt U2.out
      have c_U3_0 := blk_cell U3.out 0 _ rfl
      have c_U3_1 := blk_cell U3.out 1 _ rfl
      have c_U3_2 := blk_cell U3.out 2 _ rfl
      have l_U3 := blk_lt U3.out
      have c_U4_0 := blk_cell U4.out 0 _ rfl
      have c_U4_1 := blk_cell U4.out 1 _ rfl
      have c_U4_2 := blk_cell U4.out 2 _ rfl
      have l_U4 := blk_lt U4.out
      have c_U5_0 := blk_cell U5.out 0 _ rfl
      have c_U5_1 := blk_cell U5.out 1 _ rfl
      have c_U5_2 := blk_cell U5.out 2 _ rfl
      have l_U5 := blk_lt U5.out
      have c_BA_0 := blk_cell BA.out 0 _ rfl
      have c_BA_1 := blk_cell BA.out 1 _ rfl
      have c_BA_2 := blk_cell BA.out 2 _ rfl
      have l_BA := blk_lt BA.out
      go_wp2_with fail
      go_ret
      exact ⟨rfl, NN.out⟩
    · have D := Lib.hid (fun W => div_calls hd W)
      rw [hz] at RZ
      clear hd hz
      have c_BA_0 := blk_cell BA.out 0 _ rfl
      have c_BA_1 := blk_cell BA.out 1 _ rfl
      have c_BA_2 := blk_cell BA.out 2 _ rfl
      have l_BA := blk_lt BA.out
      have c_BB_0 := blk_cell BB.out 0 _ rfl
      have c_BB_1 := blk_cell BB.out 1 _ rfl
      have c_BB_2 := blk_cell BB.out 2 _ rfl
      have l_BB := blk_lt BB.out
      go_wp2_with fail
      clear c_BA_0 c_BA_1 c_BA_2 l_BA c_BB_0 c_BB_1 c_BB_2 l_BB
      refine (D.out _).mono ?_
      rintro e w82 ⟨rfl, hb⟩
      replace NN := Lib.hid (Bgo NN.out hb)
      replace BA := Lib.hid (blk_next hb BA.out)
      replace BB := Lib.hid (blk_next hb BB.out)
      replace SD := Lib.hid (blk_next hb SD.out)
      clear hb
      have HB : Hid (Below w82.heap.size w82 (w82.alloc (.cells #[.int .i64 0, .int .i64 0, .int .i64 0] 23))) := Lib.hid (Bal (Below.refl _ _) _)
      have QD := Lib.hid (blk_new w82 (.cells #[.int .i64 0, .int .i64 0, .int .i64 0] 23))
      have LT_QD : Hid (w.heap.size < w82.heap.size ∧ w.heap.size + 1 < w82.heap.size ∧ w52.heap.size < w82.heap.size ∧ w.heap.size ≤ w82.heap.size) := Lib.hid ⟨blk_lt BA.out, blk_lt BB.out, blk_lt SD.out, NN.out.size⟩
      replace NN := Lib.hid (Bgo NN.out HB.out)
      replace BA := Lib.hid (blk_next HB.out BA.out)
      replace BB := Lib.hid (blk_next HB.out BB.out)
      replace SD := Lib.hid (blk_next HB.out SD.out)
      clear HB
      have c_BB_0 := blk_cell BB.out 0 _ rfl
      have f_BB_0 := blk_frozen BB.out 0
      have c_BB_1 := blk_cell BB.out 1 _ rfl
      have f_BB_1 := blk_frozen BB.out 1
      have c_BB_2 := blk_cell BB.out 2 _ rfl
      have f_BB_2 := blk_frozen BB.out 2
      have l_BB := blk_lt BB.out
      go_wp2_with fail
      clear c_BB_0 f_BB_0 c_BB_1 f_BB_1 c_BB_2 f_BB_2 l_BB
      refine (RZ.out _).mono ?_
      rintro e w84 ⟨rfl, hb⟩
      replace NN := Lib.hid (Bgo NN.out hb)
      replace BA := Lib.hid (blk_next hb BA.out)
      replace BB := Lib.hid (blk_next hb BB.out)
      replace SD := Lib.hid (blk_next hb SD.out)
      replace QD := Lib.hid (blk_next hb QD.out)
      clear hb
      by_cases q1 : q < -1000000000
      · have q1' : decide (q < (-1000000000 : Int)) = true := decide_eq_true q1
        go_wp2_with fail
        go_ret
        exact ⟨rfl, NN.out⟩
      have q1' : decide (q < (-1000000000 : Int)) = false := decide_eq_false q1
      by_cases q2 : 1000000000 < q
      · have q2' : decide ((1000000000 : Int) < q) = true := decide_eq_true q2
        go_wp2_with fail
        go_ret
        exact ⟨rfl, NN.out⟩
      have q2' : decide ((1000000000 : Int) < q) = false := decide_eq_false q2
      have c_BA_0 := blk_cell BA.out 0 _ rfl
      have c_BA_1 := blk_cell BA.out 1 _ rfl
      have c_BA_2 := blk_cell BA.out 2 _ rfl
      have l_BA := blk_lt BA.out
      go_wp2_with fail
      clear c_BA_0 c_BA_1 c_BA_2 l_BA
      refine (Tt.out _).mono ?_
      rintro e w85 ⟨rfl, hb⟩
      replace NN := Lib.hid (Bgo NN.out hb)
      replace BA := Lib.hid (blk_next hb BA.out)
      replace BB := Lib.hid (blk_next hb BB.out)
      replace SD := Lib.hid (blk_next hb SD.out)
      replace QD := Lib.hid (blk_next hb QD.out)
      clear hb
      have HB : Hid (Below w85.heap.size w85 (w85.alloc (.cells #[.int .i64 tx, .int .i64 ty, .int .i64 ad] 23))) := Lib.hid (Bal (Below.refl _ _) _)
      have U1 := Lib.hid (blk_new w85 (.cells #[.int .i64 tx, .int .i64 ty, .int .i64 ad] 23))
      have LT_U1 : Hid (w.heap.size < w85.heap.size ∧ w.heap.size + 1 < w85.heap.size ∧ w52.heap.size < w85.heap.size ∧ w82.heap.size < w85.heap.size ∧ w.heap.size ≤ w85.heap.size) := Lib.hid ⟨blk_lt BA.out, blk_lt BB.out, blk_lt SD.out, blk_lt QD.out, NN.out.size⟩
      replace NN := Lib.hid (Bgo NN.out HB.out)
      replace BA := Lib.hid (blk_next HB.out BA.out)
      replace BB := Lib.hid (blk_next HB.out BB.out)
      replace SD := Lib.hid (blk_next HB.out SD.out)
      replace QD := Lib.hid (blk_next HB.out QD.out)
      clear HB
      go_wp2_with fail
      generalize w85.alloc (.cells #[.int .i64 tx, .int .i64 ty, .int .i64 ad] 23) = W86 at *
      generalize w85.heap.size = g86 at *
      refine (Tb.out _).mono ?_
      rintro e w87 ⟨rfl, hb⟩
      replace NN := Lib.hid (Bgo NN.out hb)
      replace BA := Lib.hid (blk_next hb BA.out)
      replace BB := Lib.hid (blk_next hb BB.out)
      replace SD := Lib.hid (blk_next hb SD.out)
      replace QD := Lib.hid (blk_next hb QD.out)
      replace U1 := Lib.hid (blk_next hb U1.out)
      clear hb
      have HB : Hid (Below w87.heap.size w87 (w87.alloc (.cells #[.int .i64 ar, .int .i64 ai, .int .i64 ad] 23))) := Lib.hid (Bal (Below.refl _ _) _)
      have U2 := Lib.hid (blk_new w87 (.cells #[.int .i64 ar, .int .i64 ai, .int .i64 ad] 23))
      have LT_U2 : Hid (w.heap.size < w87.heap.size ∧ w.heap.size + 1 < w87.heap.size ∧ w52.heap.size < w87.heap.size ∧ w82.heap.size < w87.heap.size ∧ g86 < w87.heap.size ∧ w.heap.size ≤ w87.heap.size) := Lib.hid ⟨blk_lt BA.out, blk_lt BB.out, blk_lt SD.out, blk_lt QD.out, blk_lt U1.out, NN.out.size⟩
      replace NN := Lib.hid (Bgo NN.out HB.out)
      replace BA := Lib.hid (blk_next HB.out BA.out)
      replace BB := Lib.hid (blk_next HB.out BB.out)
      replace SD := Lib.hid (blk_next HB.out SD.out)
      replace QD := Lib.hid (blk_next HB.out QD.out)
      replace U1 := Lib.hid (blk_next HB.out U1.out)
      clear HB
      have c_BA_0 := blk_cell BA.out 0 _ rfl
      have f_BA_0 := blk_frozen BA.out 0
      have c_BA_1 := blk_cell BA.out 1 _ rfl
      have f_BA_1 := blk_frozen BA.out 1
      have c_BA_2 := blk_cell BA.out 2 _ rfl
      have f_BA_2 := blk_frozen BA.out 2
      have l_BA := blk_lt BA.out
      go_wp2_with fail
      clear c_BA_0 f_BA_0 c_BA_1 f_BA_1 c_BA_2 f_BA_2 l_BA
      generalize w87.alloc (.cells #[.int .i64 ar, .int .i64 ai, .int .i64 ad] 23) = W88 at *
      generalize w87.heap.size = g88 at *
      refine (Tf.out _).mono ?_
      rintro e w89 ⟨rfl, hb⟩
      replace NN := Lib.hid (Bgo NN.out hb)
      replace BA := Lib.hid (blk_next hb BA.out)
      replace BB := Lib.hid (blk_next hb BB.out)
      replace SD := Lib.hid (blk_next hb SD.out)
      replace QD := Lib.hid (blk_next hb QD.out)
      replace U1 := Lib.hid (blk_next hb U1.out)
      replace U2 := Lib.hid (blk_next hb U2.out)
      clear hb
      have HB : Hid (Below w89.heap.size w89 (w89.alloc (.cells #[.int .i64 tx, .int .i64 ty, .int .i64 ad] 23))) := Lib.hid (Bal (Below.refl _ _) _)
      have U3 := Lib.hid (blk_new w89 (.cells #[.int .i64 tx, .int .i64 ty, .int .i64 ad] 23))
      have LT_U3 : Hid (w.heap.size < w89.heap.size ∧ w.heap.size + 1 < w89.heap.size ∧ w52.heap.size < w89.heap.size ∧ w82.heap.size < w89.heap.size ∧ g86 < w89.heap.size ∧ g88 < w89.heap.size ∧ w.heap.size ≤ w89.heap.size) := Lib.hid ⟨blk_lt BA.out, blk_lt BB.out, blk_lt SD.out, blk_lt QD.out, blk_lt U1.out, blk_lt U2.out, NN.out.size⟩
      replace NN := Lib.hid (Bgo NN.out HB.out)
      replace BA := Lib.hid (blk_next HB.out BA.out)
      replace BB := Lib.hid (blk_next HB.out BB.out)
      replace SD := Lib.hid (blk_next HB.out SD.out)
      replace QD := Lib.hid (blk_next HB.out QD.out)
      replace U1 := Lib.hid (blk_next HB.out U1.out)
      replace U2 := Lib.hid (blk_next HB.out U2.out)
      clear HB
      have c_BA_0 := blk_cell BA.out 0 _ rfl
      have f_BA_0 := blk_frozen BA.out 0
      have c_BA_1 := blk_cell BA.out 1 _ rfl
      have f_BA_1 := blk_frozen BA.out 1
      have c_BA_2 := blk_cell BA.out 2 _ rfl
      have f_BA_2 := blk_frozen BA.out 2
      have l_BA := blk_lt BA.out
      go_wp2_with fail
      clear c_BA_0 f_BA_0 c_BA_1 f_BA_1 c_BA_2 f_BA_2 l_BA
      generalize w89.alloc (.cells #[.int .i64 tx, .int .i64 ty, .int .i64 ad] 23) = W90 at *
      generalize w89.heap.size = g90 at *
      refine (Tm.out _).mono ?_
      rintro e w91 ⟨rfl, hb⟩
      replace NN := Lib.hid (Bgo NN.out hb)
      replace BA := Lib.hid (blk_next hb BA.out)
      replace BB := Lib.hid (blk_next hb BB.out)
      replace SD := Lib.hid (blk_next hb SD.out)
      replace QD := Lib.hid (blk_next hb QD.out)
      replace U1 := Lib.hid (blk_next hb U1.out)
      replace U2 := Lib.hid (blk_next hb U2.out)
      replace U3 := Lib.hid (blk_next hb U3.out)
      clear hb
      have HB : Hid (Below w91.heap.size w91 (w91.alloc (.cells #[.int .i64 tu, .int .i64 tv, .int .i64 ad] 23))) := Lib.hid (Bal (Below.refl _ _) _)
      have U4 := Lib.hid (blk_new w91 (.cells #[.int .i64 tu, .int .i64 tv, .int .i64 ad] 23))
      have LT_U4 : Hid (w.heap.size < w91.heap.size ∧ w.heap.size + 1 < w91.heap.size ∧ w52.heap.size < w91.heap.size ∧ w82.heap.size < w91.heap.size ∧ g86 < w91.heap.size ∧ g88 < w91.heap.size ∧ g90 < w91.heap.size ∧ w.heap.size ≤ w91.heap.size) := Lib.hid ⟨blk_lt BA.out, blk_lt BB.out, blk_lt SD.out, blk_lt QD.out, blk_lt U1.out, blk_lt U2.out, blk_lt U3.out, NN.out.size⟩
      replace NN := Lib.hid (Bgo NN.out HB.out)
      replace BA := Lib.hid (blk_next HB.out BA.out)
      replace BB := Lib.hid (blk_next HB.out BB.out)
      replace SD := Lib.hid (blk_next HB.out SD.out)
      replace QD := Lib.hid (blk_next HB.out QD.out)
      replace U1 := Lib.hid (blk_next HB.out U1.out)
      replace U2 := Lib.hid (blk_next HB.out U2.out)
      replace U3 := Lib.hid (blk_next HB.out U3.out)
      clear HB
      have c_BA_0 := blk_cell BA.out 0 _ rfl
      have f_BA_0 := blk_frozen BA.out 0
      have c_BA_1 := blk_cell BA.out 1 _ rfl
      have f_BA_1 := blk_frozen BA.out 1
      have c_BA_2 := blk_cell BA.out 2 _ rfl
      have f_BA_2 := blk_frozen BA.out 2
      have l_BA := blk_lt BA.out
      go_wp2_with fail
      clear c_BA_0 f_BA_0 c_BA_1 f_BA_1 c_BA_2 f_BA_2 l_BA
      generalize w91.alloc (.cells #[.int .i64 tu, .int .i64 tv, .int .i64 ad] 23) = W92 at *
      generalize w91.heap.size = g92 at *
      refine (To.out _).mono ?_
      rintro e w93 ⟨rfl, hb⟩
      replace NN := Lib.hid (Bgo NN.out hb)
      replace BA := Lib.hid (blk_next hb BA.out)
      replace BB := Lib.hid (blk_next hb BB.out)
      replace SD := Lib.hid (blk_next hb SD.out)
      replace QD := Lib.hid (blk_next hb QD.out)
      replace U1 := Lib.hid (blk_next hb U1.out)
      replace U2 := Lib.hid (blk_next hb U2.out)
      replace U3 := Lib.hid (blk_next hb U3.out)
      replace U4 := Lib.hid (blk_next hb U4.out)
      clear hb
      have HB : Hid (Below w93.heap.size w93 (w93.alloc (.cells #[.int .i64 tu, .int .i64 tv, .int .i64 ad] 23))) := Lib.hid (Bal (Below.refl _ _) _)
      have U5 := Lib.hid (blk_new w93 (.cells #[.int .i64 tu, .int .i64 tv, .int .i64 ad] 23))
      have LT_U5 : Hid (w.heap.size < w93.heap.size ∧ w.heap.size + 1 < w93.heap.size ∧ w52.heap.size < w93.heap.size ∧ w82.heap.size < w93.heap.size ∧ g86 < w93.heap.size ∧ g88 < w93.heap.size ∧ g90 < w93.heap.size ∧ g92 < w93.heap.size ∧ w.heap.size ≤ w93.heap.size) := Lib.hid ⟨blk_lt BA.out, blk_lt BB.out, blk_lt SD.out, blk_lt QD.out, blk_lt U1.out, blk_lt U2.out, blk_lt U3.out, blk_lt U4.out, NN.out.size⟩
      replace NN := Lib.hid (Bgo NN.out HB.out)
      replace BA := Lib.hid (blk_next HB.out BA.out)
      replace BB := Lib.hid (blk_next HB.out BB.out)
      replace SD := Lib.hid (blk_next HB.out SD.out)
      replace QD := Lib.hid (blk_next HB.out QD.out)
      replace U1 := Lib.hid (blk_next HB.out U1.out)
      replace U2 := Lib.hid (blk_next HB.out U2.out)
      replace U3 := Lib.hid (blk_next HB.out U3.out)
      replace U4 := Lib.hid (blk_next HB.out U4.out)
      clear HB
      have c_U1_0 := blk_cell U1.out 0 _ rfl
      have c_U1_1 := blk_cell U1.out 1 _ rfl
      have c_U1_2 := blk_cell U1.out 2 _ rfl
      have l_U1 := blk_lt U1.out
      have c_U2_0 := blk_cell U2.out 0 _ rfl
      have c_U2_1 := blk_cell U2.out 1 _ rfl
      have c_U2_2 := blk_cell U2.out 2 _ rfl
      have l_U2 := blk_lt U2.out
      have c_U3_0 := blk_cell U3.out 0 _ rfl
      have c_U3_1 := blk_cell U3.out 1 _ rfl
      have c_U3_2 := blk_cell U3.out 2 _ rfl
      have l_U3 := blk_lt U3.out
      have c_U4_0 := blk_cell U4.out 0 _ rfl
      have c_U4_1 := blk_cell U4.out 1 _ rfl
      have c_U4_2 := blk_cell U4.out 2 _ rfl
      have l_U4 := blk_lt U4.out
      have c_U5_0 := blk_cell U5.out 0 _ rfl
      have c_U5_1 := blk_cell U5.out 1 _ rfl
      have c_U5_2 := blk_cell U5.out 2 _ rfl
      have l_U5 := blk_lt U5.out
      have c_BA_0 := blk_cell BA.out 0 _ rfl
      have c_BA_1 := blk_cell BA.out 1 _ rfl
      have c_BA_2 := blk_cell BA.out 2 _ rfl
      have l_BA := blk_lt BA.out
      go_wp2_with fail
      go_ret
      exact ⟨rfl, NN.out⟩

abbrev synS : ByteArray := { data := #[105, 110, 118, 97, 108, 105, 100, 32, 115, 121, 110, 116, 97, 120] }
abbrev rngS : ByteArray := { data := #[118, 97, 108, 117, 101, 32, 111, 117, 116, 32, 111, 102, 32, 114, 97, 110, 103, 101] }
noncomputable def low : Nat := (World.holding Tryd.prog default ⟨#[], #[], []⟩).heap.size
def vals : DataW Unit → Array Value
  | .agg l => (l.map fun d => match d with | .lit (.int k z) => Value.int k z | _ => undef).toArray
  | _ => #[]
def put (vs : Array Value) : Obj → Obj
  | .cells _ t frozen => .cells vs t frozen
  | o => o
noncomputable def laidWorld (os : Os) : World :=
  let w0 := World.holding Tryd.prog os ⟨#[.cells #[.string rngS] 108, .cells #[.string synS] 108], #[], []⟩
  { w0 with heap := ((((w0.heap.modify 4 (put (vals Rows.laid_math_bits_deBruijn32tab))).modify 5 (put (vals Rows.laid_math_bits_deBruijn64tab))).modify 0 (put (vals Rows.laid_internal_strconv_uint64pow10))).modify 3 (put #[.iface 106 (.pointer (some ⟨low, 0, none⟩))])).modify 2 (put #[.iface 106 (.pointer (some ⟨low + 1, 0, none⟩))]) }
theorem laid_met (os : Os) (args : Array Value) : laidMet Tryd.prog Rows.cxBackRow.laid ((laidWorld os).forCall (fun _ _ => 0) ⟨#[], args, []⟩).memory :=
  laidMet_of_run' 8 (by kernel_rfl) (by kernel_rfl)

set_option maxRecDepth 100000 in
set_option maxHeartbeats 4000000 in
theorem lifted (os : Os) (started : os.Started) (H : Type) (enc : TypeId × Value → H) (F0 : Stop.Interp) :
    ReturnsInHanded {} Tryd.checked os 6 .any ((OpenSpec.ofChange Rows.cxBackSpec).preRow enc Tryd.prog Tryd.f6 Rows.cxBackRow.domain false Rows.cxBackRow.laid) (((OpenSpec.ofChange Rows.cxBackSpec).at F0).post enc Tryd.prog Tryd.f6 false true false false) := by
  refine returnsInHanded_of_row (C := Tryd.checked) (s := OpenSpec.ofChange Rows.cxBackSpec) own started (by kernel_rfl) Tryd.func6
    (witness_row_at (enc := enc) (C := Tryd.checked) false (laidWorld os) #[.agg #[.int .i64 0, .int .i64 0, .int .i64 0], .agg #[.int .i64 0, .int .i64 0, .int .i64 0], .int .i64 0] rfl (by kernel_rfl) (by kernel_rfl) (by kernel_rfl) (OpenSpec.preRow_of_B rfl 8 (by kernel_rfl) (by kernel_rfl) (laid_met os _))) ?_
  intro W base args ds gs before hval0 hW hcnd _ hsz0 hL hsh _
  have GLW := gl_of hL hsh
  clear hL hsh hsz0 hcnd
  have hval : ∀ (j : Nat) t v, Tryd.f6.params[j]? = some t → args[j]? = some v → Value.okWide Tryd.prog W .any base t v := hval0
  have hW' := hW
  obtain ⟨p, q, hA0, hV, rfl, hfz, hnd⟩ := hW
  have hA : DataW.TrodAll enc Tryd.prog W 0 (fun _ => true) true Tryd.f6.params.toList args.toList ds p := hA0
  rw [Tryd.params6] at hA hval
  obtain ⟨v0, vs0, d0, ds0, p0, q0, hargs, rfl, rfl, h0, r0⟩ := trodAll_cons hA
  obtain ⟨v1, vs1, d1, ds1, p1, q1, rfl, rfl, rfl, h1, r1⟩ := trodAll_cons r0
  obtain ⟨v2, vs2, d2, ds2, p2, q2, rfl, rfl, rfl, h2, r2⟩ := trodAll_cons r1
  obtain ⟨rfl, rfl, rfl⟩ := trodAll_nil r2
  obtain rfl : args = #[v0, v1, v2] := by cases args; simp_all
  obtain ⟨rfl, rfl⟩ := trodVars_none hV
  have k0 := h0
  have lt0 : ∀ x ∈ p0, x.block < W.heap.size := by obtain ⟨m, hm⟩ := k0; exact DataW.trod_lt m _ _ _ hm
  obtain ⟨c0_0, c1_0, c2_0, y0_0, y1_0, y2_0, m0, rfl, _, _, t0_0, t1_0, t2_0⟩ := open_agg3 Tryd.underlying23 (by kernel_rfl) (show Tryd.prog.cellsOf 23 = 3 by kernel_rfl) (hval 0 23 v0 rfl rfl) h0
  obtain ⟨ar, e0_0, _, war⟩ := DataW.trod_int Tryd.underlying2 t0_0
  simp only [List.cons.injEq, and_true] at e0_0
  subst e0_0
  obtain ⟨ai, e1_0, _, wai⟩ := DataW.trod_int Tryd.underlying2 t1_0
  simp only [List.cons.injEq, and_true] at e1_0
  subst e1_0
  obtain ⟨ad, e2_0, _, wad⟩ := DataW.trod_int Tryd.underlying2 t2_0
  simp only [List.cons.injEq, and_true] at e2_0
  subst e2_0
  have k1 := h1
  have lt1 : ∀ x ∈ p1, x.block < W.heap.size := by obtain ⟨m, hm⟩ := k1; exact DataW.trod_lt m _ _ _ hm
  obtain ⟨c0_1, c1_1, c2_1, y0_1, y1_1, y2_1, m1, rfl, _, _, t0_1, t1_1, t2_1⟩ := open_agg3 Tryd.underlying23 (by kernel_rfl) (show Tryd.prog.cellsOf 23 = 3 by kernel_rfl) (hval 1 23 v1 rfl rfl) h1
  obtain ⟨br, e0_1, _, wbr⟩ := DataW.trod_int Tryd.underlying2 t0_1
  simp only [List.cons.injEq, and_true] at e0_1
  subst e0_1
  obtain ⟨bi, e1_1, _, wbi⟩ := DataW.trod_int Tryd.underlying2 t1_1
  simp only [List.cons.injEq, and_true] at e1_1
  subst e1_1
  obtain ⟨bd, e2_1, _, wbd⟩ := DataW.trod_int Tryd.underlying2 t2_1
  simp only [List.cons.injEq, and_true] at e2_1
  subst e2_1
  have k2 := h2
  have lt2 : ∀ x ∈ p2, x.block < W.heap.size := by obtain ⟨m, hm⟩ := k2; exact DataW.trod_lt m _ _ _ hm
  obtain ⟨q, rfl, _, _, wq⟩ := open_int Tryd.underlying3 (hval 2 3 v2 rfl rfl) h2
  clear hA0 hval0
  refine (walk ar ai ad br bi bd q W GLW (by have := bounds_i64 wq; omega) (by have := bounds_i64 wq; omega)).mono fun e W' ⟨he, bel⟩ => ?_
  subst he
  exact ⟨_, rfl, _, _, _, [], _, [], hW', trodAll_mk1 (shut_bool Tryd.underlying4 _), (trodAll_cons_mk (Below.trod laidOut (by kernel_rfl) (of_decide_eq_true (by kernel_rfl)) k0 bel lt0) (trodAll_cons_mk (Below.trod laidOut (by kernel_rfl) (of_decide_eq_true (by kernel_rfl)) k1 bel lt1) (trodAll_cons_mk (Below.trod laidOut (by kernel_rfl) (of_decide_eq_true (by kernel_rfl)) k2 bel lt2) trodAll_mk0))), rfl, bel.frame _, fun h => by cases h⟩

theorem over : Rows.CxBackSaid :=
  OpenClaim.holds_of_cond 6 Tryd.f6 rfl rfl rfl rfl rfl rfl rfl ⟨rfl, rfl, rfl, rfl, rfl⟩ rfl rfl rfl rfl rfl (by kernel_rfl) Tryd.func6 (by kernel_rfl)
    (of_decide_eq_true (by kernel_rfl)) (by unfold Func.isWrapper; first | (rw [if_pos (by decide +kernel)]; kernel_rfl) | (rw [if_neg (by decide +kernel)]; exact ⟨rfl, rfl⟩))
    (fun os started H enc _ F0 => by rw [OpenClaim.pre_eq_preRow]; exact lifted os started H enc F0)

theorem proved : Rows.CxBackCardSaid :=
  Claim7.holds_tied_plain_at .later [] [.data, .data, .data, .sentinel, .sentinel] true (true, "79a2c85c093c7f4bbd60387b9b96cb032bdfb92f3488d33d2cf8f7a3fa8fd4c2") true
    over (fun _ h => by cases h) (by kernel_rfl) (fun _ h => by cases h) cxBack_row_tie rfl ⟨rfl, rfl⟩ (by kernel_rfl) rfl
    (fun f fn hf hfn => by
      obtain rfl : f = 6 := Option.some.inj ((show Tryd.prog.funcNamed "fringe/fringelaw25.CxBack" = some 6 by kernel_rfl).symm.trans hf) |>.symm
      obtain rfl : fn = Tryd.f6 := (Option.some.inj (Tryd.func6.symm.trans hfn)).symm
      exact ⟨by kernel_rfl, fun j t ht => by
        rw [Tryd.params6] at ht
        have hj : j < 3 := by
          have := (Array.getElem?_eq_some_iff.1 ht).1
          simpa using this
        obtain rfl | rfl | rfl : j = 0 ∨ j = 1 ∨ j = 2 := by omega
        · have h3 : t = 23 := by simpa using ht.symm
          subst h3
          exact (show Tryd.prog.wantsStandIn 23 = false by kernel_rfl)
        · have h3 : t = 23 := by simpa using ht.symm
          subst h3
          exact (show Tryd.prog.wantsStandIn 23 = false by kernel_rfl)
        · have h3 : t = 3 := by simpa using ht.symm
          subst h3
          exact (show Tryd.prog.wantsStandIn 3 = false by kernel_rfl)⟩)
    (by kernel_rfl)
#print axioms proved
end Go.Proofs.YtbbjclbpllfdeaaDoor.cxBack
