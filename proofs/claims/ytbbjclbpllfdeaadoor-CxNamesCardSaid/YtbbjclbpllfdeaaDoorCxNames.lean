/- For every input the law CxNames returns true and leaves its arguments as they were; the library's variables as the program's text lays them. -/
import Derived.Test.YtbbjclbpllfdeaaDoorRows
import Derived.Test.YtbbjclbpllfdeaaDoorCards
import Derived.Test.YtbbjclbpllfdeaaDoorTie
import Derived.Test.YtbbjclbpllfdeaaDoorCtf
import Derived.WalkKit
import Derived.ProofKit
import Derived.OpenShut
import Derived.ShutString
import Derived.ChangeOld
import Derived.Below
import Derived.Lib.SmallJoins
import Derived.Deep.DeepHandedRow
import Derived.LaidLaws
import Derived.SevenTiedAt
namespace Go.Proofs.YtbbjclbpllfdeaaDoor.cxNames
open Go.ChangeShapes Go.WideShapes Go.ChangeAt Go.RowKit Go.Joins
open Go.ChangeMaps (open_string shut_string)
set_option linter.unusedVariables false

theorem own : ownKnob Tryd.prog.godebug = none := by kernel_rfl
theorem laidOut : laidOutB Tryd.prog = true := by kernel_rfl
open Cxm
theorem b0 : normS 0 0 0 = (0, 0, 8) := by decide +kernel
theorem c0 : chkE 0 0 0 = 8 := by decide +kernel
theorem b1 : normS 1 0 0 = (0, 0, 8) := by decide +kernel
theorem c1 : chkE 1 0 0 = 8 := by decide +kernel
theorem b2 : normS 2 4 2 = (0, 0, 8) := by decide +kernel
theorem c2 : chkE 2 4 2 = 8 := by decide +kernel
theorem b3 : normS 1 1 (-1) = (0, 0, 8) := by decide +kernel
theorem c3 : chkE 1 1 (-1) = 8 := by decide +kernel
theorem b4 : normS 0 0 2 = (0, 0, 8) := by decide +kernel
theorem c4 : chkE 0 0 2 = 8 := by decide +kernel
theorem b5 : normS 1000000001 0 1 = (0, 0, 8) := by decide +kernel
theorem c5 : chkE 1000000001 0 1 = 8 := by decide +kernel
theorem b6 : normS 0 (-1000000001) 1 = (0, 0, 8) := by decide +kernel
theorem c6 : chkE 0 (-1000000001) 1 = 8 := by decide +kernel
theorem b7 : normS 1 0 1000000001 = (0, 0, 8) := by decide +kernel
theorem c7 : chkE 1 0 1000000001 = 8 := by decide +kernel
theorem addA : sumS 1000000000 1 1 1000000000 1 1 = (0, 0, 0, 16) := by decide +kernel
theorem mulA : mulS 1000000000 1 1 1000000000 1 1 = (0, 0, 0, 16) := by decide +kernel
theorem divA : divS 1000000000 1 1 1000000000 1 1 = (1, 0, 1, 0) := by decide +kernel
theorem divB : divS 1000000000 1 1 0 0 1 = (0, 0, 0, 18) := by decide +kernel
theorem divC : divS 1 0 1000000000 1000000000 1 1 = (0, 0, 0, 16) := by decide +kernel
theorem subA : subS 1000000000 1 1 1000000000 1 1 = (0, 0, 1, 0) := by decide +kernel
theorem norA : normS 1000000000 1000000000 1 = (0, 0, 16) := by decide +kernel
theorem norB : normS 1000000000 0 1 = (1000000000000000000, 1, 0) := by decide +kernel
theorem rayA : rayS 0 0 1 = (0, 0, 0, 18) := by decide +kernel
theorem ordA : ordS 0 0 1 1000000000 1 1 = (0, 18) := by decide +kernel
theorem mkA : made (-2000000000000000000) 0 2000000000000000000 = (-1, 0, 1, 0) := by decide +kernel
theorem mkB : okB 2000000000000000001 0 1 = false := by decide +kernel
theorem mkC : made 1 1 0 = (0, 0, 0, 18) := by decide +kernel
theorem mkD : made 6 (-4) (-2) = (-3, 2, 1, 0) := by decide +kernel
theorem mkE : made 1000000001 0 1 = (0, 0, 0, 16) := by decide +kernel
theorem tuA : turnS 3 4 5 (-1) = (4, -3, 5, 0) := by decide +kernel
theorem tuB : turnS 3 4 5 9223372036854775807 = (4, -3, 5, 0) := by decide +kernel
theorem check_at {r i d e : Int} (h : chkE r i d = e) (w : World) : Calls Tryd.prog 28 #[Cv r i d] w fun x w' => x = .returned (.int .i64 e) ∧ Below w.heap.size w w' := by
  subst h
  exact check_calls r i d w
set_option maxRecDepth 100000 in
set_option maxHeartbeats 16000000 in
theorem walk (w : World) (g : GL w) :
    Calls Tryd.prog 8 #[] w fun e w' => e = .returned (.bool true) ∧ Below w.heap.size w w' := by
  have GG := Lib.hid g
  have NN := Lib.hid (Below.refl w.heap.size w)
  clear g
  go_enter Tryd.func8, Tryd.ntmps8
  go_wp2_with fail
  have HB : Hid (Below w.heap.size w (w.alloc (.cells #[.int .i64 0, .int .i64 0, .int .i64 0, .int .i64 1, .int .i64 0, .int .i64 0, .int .i64 2, .int .i64 4, .int .i64 2, .int .i64 1, .int .i64 1, .int .i64 (-1), .int .i64 0, .int .i64 0, .int .i64 2, .int .i64 1000000001, .int .i64 0, .int .i64 1, .int .i64 0, .int .i64 (-1000000001), .int .i64 1, .int .i64 1, .int .i64 0, .int .i64 1000000001] 23))) := Lib.hid (Bal (Below.refl _ _) _)
  have BL := Lib.hid (blk_new w (.cells #[.int .i64 0, .int .i64 0, .int .i64 0, .int .i64 1, .int .i64 0, .int .i64 0, .int .i64 2, .int .i64 4, .int .i64 2, .int .i64 1, .int .i64 1, .int .i64 (-1), .int .i64 0, .int .i64 0, .int .i64 2, .int .i64 1000000001, .int .i64 0, .int .i64 1, .int .i64 0, .int .i64 (-1000000001), .int .i64 1, .int .i64 1, .int .i64 0, .int .i64 1000000001] 23))
  have LT_BL : Hid (w.heap.size ≤ w.heap.size) := Lib.hid NN.out.size
  replace NN := Lib.hid (Bgo NN.out HB.out)
  clear HB
  generalize w.alloc (.cells #[.int .i64 0, .int .i64 0, .int .i64 0, .int .i64 1, .int .i64 0, .int .i64 0, .int .i64 2, .int .i64 4, .int .i64 2, .int .i64 1, .int .i64 1, .int .i64 (-1), .int .i64 0, .int .i64 0, .int .i64 2, .int .i64 1000000001, .int .i64 0, .int .i64 1, .int .i64 0, .int .i64 (-1000000001), .int .i64 1, .int .i64 1, .int .i64 0, .int .i64 1000000001] 23) = W1 at *
  go_loopw [2] (fun i wr => ∃ k : Nat, k ≤ 8 ∧ i = .int .i64 k ∧ Hid (Below w.heap.size w wr) ∧ Hid (wr.heap[w.heap.size]? = some (.cells #[.int .i64 0, .int .i64 0, .int .i64 0, .int .i64 1, .int .i64 0, .int .i64 0, .int .i64 2, .int .i64 4, .int .i64 2, .int .i64 1, .int .i64 1, .int .i64 (-1), .int .i64 0, .int .i64 0, .int .i64 2, .int .i64 1000000001, .int .i64 0, .int .i64 1, .int .i64 0, .int .i64 (-1000000001), .int .i64 1, .int .i64 1, .int .i64 0, .int .i64 1000000001] 23))) (fun i _ => 8 - (intOf i).toNat)
  case atStart => exact ⟨0, by omega, rfl, NN, BL⟩
  case round =>
    clear NN BL
    obtain ⟨k, hk, rfl, NN, BL⟩ := hrel
    have k9 : k = 0 ∨ k = 1 ∨ k = 2 ∨ k = 3 ∨ k = 4 ∨ k = 5 ∨ k = 6 ∨ k = 7 ∨ k = 8 := by omega
    clear hk
    rcases k9 with rfl | rfl | rfl | rfl | rfl | rfl | rfl | rfl | rfl
    · have zz := 0
      have cc0 := blk_cell BL.out 0 _ rfl
      have cc1 := blk_cell BL.out 1 _ rfl
      have cc2 := blk_cell BL.out 2 _ rfl
      have cl := blk_lt BL.out
      go_wp2_with fail
      clear cc0 cc1 cc2 cl
      refine (norm_calls b0 _).mono ?_
      rintro e w2 ⟨rfl, hb⟩
      replace NN := Lib.hid (Bgo NN.out hb)
      replace BL := Lib.hid (blk_next hb BL.out)
      clear hb
      have HB : Hid (Below w2.heap.size w2 (w2.alloc (.cells #[.int .i64 0, .int .i64 0] 41))) := Lib.hid (Bal (Below.refl _ _) _)
      have NB := Lib.hid (blk_new w2 (.cells #[.int .i64 0, .int .i64 0] 41))
      have LT_NB : Hid (w.heap.size < w2.heap.size ∧ w.heap.size ≤ w2.heap.size) := Lib.hid ⟨blk_lt BL.out, NN.out.size⟩
      replace NN := Lib.hid (Bgo NN.out HB.out)
      replace BL := Lib.hid (blk_next HB.out BL.out)
      clear HB
      have cc0 := blk_cell BL.out 0 _ rfl
      have cc1 := blk_cell BL.out 1 _ rfl
      have cc2 := blk_cell BL.out 2 _ rfl
      have cl := blk_lt BL.out
      go_wp2_with fail
      clear cc0 cc1 cc2 cl
      refine (check_at c0 _).mono ?_
      rintro e w4 ⟨rfl, hb⟩
      replace NN := Lib.hid (Bgo NN.out hb)
      replace BL := Lib.hid (blk_next hb BL.out)
      replace NB := Lib.hid (blk_next hb NB.out)
      clear hb
      go_wp2_with fail
      go_roundw
      case rel => exact ⟨1, by omega, by go_num, NN, BL⟩
      case measure => simp [intOf]
    · have zz := 0
      have cc0 := blk_cell BL.out 3 _ rfl
      have cc1 := blk_cell BL.out 4 _ rfl
      have cc2 := blk_cell BL.out 5 _ rfl
      have cl := blk_lt BL.out
      go_wp2_with fail
      clear cc0 cc1 cc2 cl
      refine (norm_calls b1 _).mono ?_
      rintro e w5 ⟨rfl, hb⟩
      replace NN := Lib.hid (Bgo NN.out hb)
      replace BL := Lib.hid (blk_next hb BL.out)
      clear hb
      have HB : Hid (Below w5.heap.size w5 (w5.alloc (.cells #[.int .i64 0, .int .i64 0] 41))) := Lib.hid (Bal (Below.refl _ _) _)
      have NB := Lib.hid (blk_new w5 (.cells #[.int .i64 0, .int .i64 0] 41))
      have LT_NB : Hid (w.heap.size < w5.heap.size ∧ w.heap.size ≤ w5.heap.size) := Lib.hid ⟨blk_lt BL.out, NN.out.size⟩
      replace NN := Lib.hid (Bgo NN.out HB.out)
      replace BL := Lib.hid (blk_next HB.out BL.out)
      clear HB
      have cc0 := blk_cell BL.out 3 _ rfl
      have cc1 := blk_cell BL.out 4 _ rfl
      have cc2 := blk_cell BL.out 5 _ rfl
      have cl := blk_lt BL.out
      go_wp2_with fail
      clear cc0 cc1 cc2 cl
      refine (check_at c1 _).mono ?_
      rintro e w7 ⟨rfl, hb⟩
      replace NN := Lib.hid (Bgo NN.out hb)
      replace BL := Lib.hid (blk_next hb BL.out)
      replace NB := Lib.hid (blk_next hb NB.out)
      clear hb
      go_wp2_with fail
      go_roundw
      case rel => exact ⟨2, by omega, by go_num, NN, BL⟩
      case measure => simp [intOf]
    · have zz := 0
      have cc0 := blk_cell BL.out 6 _ rfl
      have cc1 := blk_cell BL.out 7 _ rfl
      have cc2 := blk_cell BL.out 8 _ rfl
      have cl := blk_lt BL.out
      go_wp2_with fail
      clear cc0 cc1 cc2 cl
      refine (norm_calls b2 _).mono ?_
      rintro e w8 ⟨rfl, hb⟩
      replace NN := Lib.hid (Bgo NN.out hb)
      replace BL := Lib.hid (blk_next hb BL.out)
      clear hb
      have HB : Hid (Below w8.heap.size w8 (w8.alloc (.cells #[.int .i64 0, .int .i64 0] 41))) := Lib.hid (Bal (Below.refl _ _) _)
      have NB := Lib.hid (blk_new w8 (.cells #[.int .i64 0, .int .i64 0] 41))
      have LT_NB : Hid (w.heap.size < w8.heap.size ∧ w.heap.size ≤ w8.heap.size) := Lib.hid ⟨blk_lt BL.out, NN.out.size⟩
      replace NN := Lib.hid (Bgo NN.out HB.out)
      replace BL := Lib.hid (blk_next HB.out BL.out)
      clear HB
      have cc0 := blk_cell BL.out 6 _ rfl
      have cc1 := blk_cell BL.out 7 _ rfl
      have cc2 := blk_cell BL.out 8 _ rfl
      have cl := blk_lt BL.out
      go_wp2_with fail
      clear cc0 cc1 cc2 cl
      refine (check_at c2 _).mono ?_
      rintro e w10 ⟨rfl, hb⟩
      replace NN := Lib.hid (Bgo NN.out hb)
      replace BL := Lib.hid (blk_next hb BL.out)
      replace NB := Lib.hid (blk_next hb NB.out)
      clear hb
      go_wp2_with fail
      go_roundw
      case rel => exact ⟨3, by omega, by go_num, NN, BL⟩
      case measure => simp [intOf]
    · have zz := 0
      have cc0 := blk_cell BL.out 9 _ rfl
      have cc1 := blk_cell BL.out 10 _ rfl
      have cc2 := blk_cell BL.out 11 _ rfl
      have cl := blk_lt BL.out
      go_wp2_with fail
      clear cc0 cc1 cc2 cl
      refine (norm_calls b3 _).mono ?_
      rintro e w11 ⟨rfl, hb⟩
      replace NN := Lib.hid (Bgo NN.out hb)
      replace BL := Lib.hid (blk_next hb BL.out)
      clear hb
      have HB : Hid (Below w11.heap.size w11 (w11.alloc (.cells #[.int .i64 0, .int .i64 0] 41))) := Lib.hid (Bal (Below.refl _ _) _)
      have NB := Lib.hid (blk_new w11 (.cells #[.int .i64 0, .int .i64 0] 41))
      have LT_NB : Hid (w.heap.size < w11.heap.size ∧ w.heap.size ≤ w11.heap.size) := Lib.hid ⟨blk_lt BL.out, NN.out.size⟩
      replace NN := Lib.hid (Bgo NN.out HB.out)
      replace BL := Lib.hid (blk_next HB.out BL.out)
      clear HB
      have cc0 := blk_cell BL.out 9 _ rfl
      have cc1 := blk_cell BL.out 10 _ rfl
      have cc2 := blk_cell BL.out 11 _ rfl
      have cl := blk_lt BL.out
      go_wp2_with fail
      clear cc0 cc1 cc2 cl
      refine (check_at c3 _).mono ?_
      rintro e w13 ⟨rfl, hb⟩
      replace NN := Lib.hid (Bgo NN.out hb)
      replace BL := Lib.hid (blk_next hb BL.out)
      replace NB := Lib.hid (blk_next hb NB.out)
      clear hb
      go_wp2_with fail
      go_roundw
      case rel => exact ⟨4, by omega, by go_num, NN, BL⟩
      case measure => simp [intOf]
    · have zz := 0
      have cc0 := blk_cell BL.out 12 _ rfl
      have cc1 := blk_cell BL.out 13 _ rfl
      have cc2 := blk_cell BL.out 14 _ rfl
      have cl := blk_lt BL.out
      go_wp2_with fail
      clear cc0 cc1 cc2 cl
      refine (norm_calls b4 _).mono ?_
      rintro e w14 ⟨rfl, hb⟩
      replace NN := Lib.hid (Bgo NN.out hb)
      replace BL := Lib.hid (blk_next hb BL.out)
      clear hb
      have HB : Hid (Below w14.heap.size w14 (w14.alloc (.cells #[.int .i64 0, .int .i64 0] 41))) := Lib.hid (Bal (Below.refl _ _) _)
      have NB := Lib.hid (blk_new w14 (.cells #[.int .i64 0, .int .i64 0] 41))
      have LT_NB : Hid (w.heap.size < w14.heap.size ∧ w.heap.size ≤ w14.heap.size) := Lib.hid ⟨blk_lt BL.out, NN.out.size⟩
      replace NN := Lib.hid (Bgo NN.out HB.out)
      replace BL := Lib.hid (blk_next HB.out BL.out)
      clear HB
      have cc0 := blk_cell BL.out 12 _ rfl
      have cc1 := blk_cell BL.out 13 _ rfl
      have cc2 := blk_cell BL.out 14 _ rfl
      have cl := blk_lt BL.out
      go_wp2_with fail
      clear cc0 cc1 cc2 cl
      refine (check_at c4 _).mono ?_
      rintro e w16 ⟨rfl, hb⟩
      replace NN := Lib.hid (Bgo NN.out hb)
      replace BL := Lib.hid (blk_next hb BL.out)
      replace NB := Lib.hid (blk_next hb NB.out)
      clear hb
      go_wp2_with fail
      go_roundw
      case rel => exact ⟨5, by omega, by go_num, NN, BL⟩
      case measure => simp [intOf]
    · have zz := 0
      have cc0 := blk_cell BL.out 15 _ rfl
      have cc1 := blk_cell BL.out 16 _ rfl
      have cc2 := blk_cell BL.out 17 _ rfl
      have cl := blk_lt BL.out
      go_wp2_with fail
      clear cc0 cc1 cc2 cl
      refine (norm_calls b5 _).mono ?_
      rintro e w17 ⟨rfl, hb⟩
      replace NN := Lib.hid (Bgo NN.out hb)
      replace BL := Lib.hid (blk_next hb BL.out)
      clear hb
      have HB : Hid (Below w17.heap.size w17 (w17.alloc (.cells #[.int .i64 0, .int .i64 0] 41))) := Lib.hid (Bal (Below.refl _ _) _)
      have NB := Lib.hid (blk_new w17 (.cells #[.int .i64 0, .int .i64 0] 41))
      have LT_NB : Hid (w.heap.size < w17.heap.size ∧ w.heap.size ≤ w17.heap.size) := Lib.hid ⟨blk_lt BL.out, NN.out.size⟩
      replace NN := Lib.hid (Bgo NN.out HB.out)
      replace BL := Lib.hid (blk_next HB.out BL.out)
      clear HB
      have cc0 := blk_cell BL.out 15 _ rfl
      have cc1 := blk_cell BL.out 16 _ rfl
      have cc2 := blk_cell BL.out 17 _ rfl
      have cl := blk_lt BL.out
      go_wp2_with fail
      clear cc0 cc1 cc2 cl
      refine (check_at c5 _).mono ?_
      rintro e w19 ⟨rfl, hb⟩
      replace NN := Lib.hid (Bgo NN.out hb)
      replace BL := Lib.hid (blk_next hb BL.out)
      replace NB := Lib.hid (blk_next hb NB.out)
      clear hb
      go_wp2_with fail
      go_roundw
      case rel => exact ⟨6, by omega, by go_num, NN, BL⟩
      case measure => simp [intOf]
    · have zz := 0
      have cc0 := blk_cell BL.out 18 _ rfl
      have cc1 := blk_cell BL.out 19 _ rfl
      have cc2 := blk_cell BL.out 20 _ rfl
      have cl := blk_lt BL.out
      go_wp2_with fail
      clear cc0 cc1 cc2 cl
      refine (norm_calls b6 _).mono ?_
      rintro e w20 ⟨rfl, hb⟩
      replace NN := Lib.hid (Bgo NN.out hb)
      replace BL := Lib.hid (blk_next hb BL.out)
      clear hb
      have HB : Hid (Below w20.heap.size w20 (w20.alloc (.cells #[.int .i64 0, .int .i64 0] 41))) := Lib.hid (Bal (Below.refl _ _) _)
      have NB := Lib.hid (blk_new w20 (.cells #[.int .i64 0, .int .i64 0] 41))
      have LT_NB : Hid (w.heap.size < w20.heap.size ∧ w.heap.size ≤ w20.heap.size) := Lib.hid ⟨blk_lt BL.out, NN.out.size⟩
      replace NN := Lib.hid (Bgo NN.out HB.out)
      replace BL := Lib.hid (blk_next HB.out BL.out)
      clear HB
      have cc0 := blk_cell BL.out 18 _ rfl
      have cc1 := blk_cell BL.out 19 _ rfl
      have cc2 := blk_cell BL.out 20 _ rfl
      have cl := blk_lt BL.out
      go_wp2_with fail
      clear cc0 cc1 cc2 cl
      refine (check_at c6 _).mono ?_
      rintro e w22 ⟨rfl, hb⟩
      replace NN := Lib.hid (Bgo NN.out hb)
      replace BL := Lib.hid (blk_next hb BL.out)
      replace NB := Lib.hid (blk_next hb NB.out)
      clear hb
      go_wp2_with fail
      go_roundw
      case rel => exact ⟨7, by omega, by go_num, NN, BL⟩
      case measure => simp [intOf]
    · have zz := 0
      have cc0 := blk_cell BL.out 21 _ rfl
      have cc1 := blk_cell BL.out 22 _ rfl
      have cc2 := blk_cell BL.out 23 _ rfl
      have cl := blk_lt BL.out
      go_wp2_with fail
      clear cc0 cc1 cc2 cl
      refine (norm_calls b7 _).mono ?_
      rintro e w23 ⟨rfl, hb⟩
      replace NN := Lib.hid (Bgo NN.out hb)
      replace BL := Lib.hid (blk_next hb BL.out)
      clear hb
      have HB : Hid (Below w23.heap.size w23 (w23.alloc (.cells #[.int .i64 0, .int .i64 0] 41))) := Lib.hid (Bal (Below.refl _ _) _)
      have NB := Lib.hid (blk_new w23 (.cells #[.int .i64 0, .int .i64 0] 41))
      have LT_NB : Hid (w.heap.size < w23.heap.size ∧ w.heap.size ≤ w23.heap.size) := Lib.hid ⟨blk_lt BL.out, NN.out.size⟩
      replace NN := Lib.hid (Bgo NN.out HB.out)
      replace BL := Lib.hid (blk_next HB.out BL.out)
      clear HB
      have cc0 := blk_cell BL.out 21 _ rfl
      have cc1 := blk_cell BL.out 22 _ rfl
      have cc2 := blk_cell BL.out 23 _ rfl
      have cl := blk_lt BL.out
      go_wp2_with fail
      clear cc0 cc1 cc2 cl
      refine (check_at c7 _).mono ?_
      rintro e w25 ⟨rfl, hb⟩
      replace NN := Lib.hid (Bgo NN.out hb)
      replace BL := Lib.hid (blk_next hb BL.out)
      replace NB := Lib.hid (blk_next hb NB.out)
      clear hb
      go_wp2_with fail
      go_roundw
      case rel => exact ⟨8, by omega, by go_num, NN, BL⟩
      case measure => simp [intOf]
    have zz := 0
    go_wp2_with fail
    refine (of_calls 1000000000 1 1 _).mono ?_
    rintro e w26 ⟨rfl, hb⟩
    replace NN := Lib.hid (Bgo NN.out hb)
    replace BL := Lib.hid (blk_next hb BL.out)
    clear hb
    go_wp2_with fail
    refine (of_calls 0 0 1 _).mono ?_
    rintro e w27 ⟨rfl, hb⟩
    replace NN := Lib.hid (Bgo NN.out hb)
    replace BL := Lib.hid (blk_next hb BL.out)
    clear hb
    have BG : Hid (((w27.alloc (.cells #[.int .i64 1000000000, .int .i64 1, .int .i64 1] 23)).alloc (.cells #[.int .i64 0, .int .i64 0, .int .i64 1] 23)).heap[w27.heap.size]? = some (.cells #[.int .i64 1000000000, .int .i64 1, .int .i64 1] 23)) := Lib.hid (blk_alloc (blk_new _ _) _)
    have ZR : Hid (((w27.alloc (.cells #[.int .i64 1000000000, .int .i64 1, .int .i64 1] 23)).alloc (.cells #[.int .i64 0, .int .i64 0, .int .i64 1] 23)).heap[w27.heap.size + 1]? = some (.cells #[.int .i64 0, .int .i64 0, .int .i64 1] 23)) := Lib.hid (blk_at _ (by simp))
    have HB : Hid (Below w27.heap.size w27 ((w27.alloc (.cells #[.int .i64 1000000000, .int .i64 1, .int .i64 1] 23)).alloc (.cells #[.int .i64 0, .int .i64 0, .int .i64 1] 23))) := Lib.hid (Bal (Bal (Below.refl _ _) _) _)
    replace NN := Lib.hid (Bgo NN.out HB.out)
    replace BL := Lib.hid (blk_next HB.out BL.out)
    clear HB
    have c_BG_0 := blk_cell BG.out 0 _ rfl
    have c_BG_1 := blk_cell BG.out 1 _ rfl
    have c_BG_2 := blk_cell BG.out 2 _ rfl
    have l_BG := blk_lt BG.out
    go_wp2_with fail
    clear c_BG_0 c_BG_1 c_BG_2 l_BG
    refine (add_calls _ _ _ _ _ _ _ _ _ _ addA _).mono ?_
    rintro e w28 ⟨rfl, hb⟩
    replace NN := Lib.hid (Bgo NN.out hb)
    replace BL := Lib.hid (blk_next hb BL.out)
    replace BG := Lib.hid (blk_next hb BG.out)
    replace ZR := Lib.hid (blk_next hb ZR.out)
    clear hb
    have HB : Hid (Below w28.heap.size w28 (w28.alloc (.cells #[.int .i64 0, .int .i64 0, .int .i64 0] 23))) := Lib.hid (Bal (Below.refl _ _) _)
    have v0 := Lib.hid (blk_new w28 (.cells #[.int .i64 0, .int .i64 0, .int .i64 0] 23))
    have LT_v0 : Hid (w.heap.size < w28.heap.size ∧ w27.heap.size < w28.heap.size ∧ w27.heap.size + 1 < w28.heap.size ∧ w.heap.size ≤ w28.heap.size) := Lib.hid ⟨blk_lt BL.out, blk_lt BG.out, blk_lt ZR.out, NN.out.size⟩
    replace NN := Lib.hid (Bgo NN.out HB.out)
    replace BL := Lib.hid (blk_next HB.out BL.out)
    replace BG := Lib.hid (blk_next HB.out BG.out)
    replace ZR := Lib.hid (blk_next HB.out ZR.out)
    clear HB
    have c_BG_0 := blk_cell BG.out 0 _ rfl
    have f_BG_0 := blk_frozen BG.out 0
    have c_BG_1 := blk_cell BG.out 1 _ rfl
    have f_BG_1 := blk_frozen BG.out 1
    have c_BG_2 := blk_cell BG.out 2 _ rfl
    have f_BG_2 := blk_frozen BG.out 2
    have l_BG := blk_lt BG.out
    go_wp2_with fail
    clear c_BG_0 f_BG_0 c_BG_1 f_BG_1 c_BG_2 f_BG_2 l_BG
    generalize w28.alloc (.cells #[.int .i64 0, .int .i64 0, .int .i64 0] 23) = W29 at *
    generalize w28.heap.size = g29 at *
    refine (mul_calls _ _ _ _ _ _ _ _ _ _ mulA _).mono ?_
    rintro e w30 ⟨rfl, hb⟩
    replace NN := Lib.hid (Bgo NN.out hb)
    replace BL := Lib.hid (blk_next hb BL.out)
    replace BG := Lib.hid (blk_next hb BG.out)
    replace ZR := Lib.hid (blk_next hb ZR.out)
    replace v0 := Lib.hid (blk_next hb v0.out)
    clear hb
    have HB : Hid (Below w30.heap.size w30 (w30.alloc (.cells #[.int .i64 0, .int .i64 0, .int .i64 0] 23))) := Lib.hid (Bal (Below.refl _ _) _)
    have v1 := Lib.hid (blk_new w30 (.cells #[.int .i64 0, .int .i64 0, .int .i64 0] 23))
    have LT_v1 : Hid (w.heap.size < w30.heap.size ∧ w27.heap.size < w30.heap.size ∧ w27.heap.size + 1 < w30.heap.size ∧ g29 < w30.heap.size ∧ w.heap.size ≤ w30.heap.size) := Lib.hid ⟨blk_lt BL.out, blk_lt BG.out, blk_lt ZR.out, blk_lt v0.out, NN.out.size⟩
    replace NN := Lib.hid (Bgo NN.out HB.out)
    replace BL := Lib.hid (blk_next HB.out BL.out)
    replace BG := Lib.hid (blk_next HB.out BG.out)
    replace ZR := Lib.hid (blk_next HB.out ZR.out)
    replace v0 := Lib.hid (blk_next HB.out v0.out)
    clear HB
    have c_BG_0 := blk_cell BG.out 0 _ rfl
    have f_BG_0 := blk_frozen BG.out 0
    have c_BG_1 := blk_cell BG.out 1 _ rfl
    have f_BG_1 := blk_frozen BG.out 1
    have c_BG_2 := blk_cell BG.out 2 _ rfl
    have f_BG_2 := blk_frozen BG.out 2
    have l_BG := blk_lt BG.out
    go_wp2_with fail
    clear c_BG_0 f_BG_0 c_BG_1 f_BG_1 c_BG_2 f_BG_2 l_BG
    generalize w30.alloc (.cells #[.int .i64 0, .int .i64 0, .int .i64 0] 23) = W31 at *
    generalize w30.heap.size = g31 at *
    refine (div_calls divA _).mono ?_
    rintro e w32 ⟨rfl, hb⟩
    replace NN := Lib.hid (Bgo NN.out hb)
    replace BL := Lib.hid (blk_next hb BL.out)
    replace BG := Lib.hid (blk_next hb BG.out)
    replace ZR := Lib.hid (blk_next hb ZR.out)
    replace v0 := Lib.hid (blk_next hb v0.out)
    replace v1 := Lib.hid (blk_next hb v1.out)
    clear hb
    have HB : Hid (Below w32.heap.size w32 (w32.alloc (.cells #[.int .i64 1, .int .i64 0, .int .i64 1] 23))) := Lib.hid (Bal (Below.refl _ _) _)
    have P1 := Lib.hid (blk_new w32 (.cells #[.int .i64 1, .int .i64 0, .int .i64 1] 23))
    have LT_P1 : Hid (w.heap.size < w32.heap.size ∧ w27.heap.size < w32.heap.size ∧ w27.heap.size + 1 < w32.heap.size ∧ g29 < w32.heap.size ∧ g31 < w32.heap.size ∧ w.heap.size ≤ w32.heap.size) := Lib.hid ⟨blk_lt BL.out, blk_lt BG.out, blk_lt ZR.out, blk_lt v0.out, blk_lt v1.out, NN.out.size⟩
    replace NN := Lib.hid (Bgo NN.out HB.out)
    replace BL := Lib.hid (blk_next HB.out BL.out)
    replace BG := Lib.hid (blk_next HB.out BG.out)
    replace ZR := Lib.hid (blk_next HB.out ZR.out)
    replace v0 := Lib.hid (blk_next HB.out v0.out)
    replace v1 := Lib.hid (blk_next HB.out v1.out)
    clear HB
    have c_BG_0 := blk_cell BG.out 0 _ rfl
    have f_BG_0 := blk_frozen BG.out 0
    have c_BG_1 := blk_cell BG.out 1 _ rfl
    have f_BG_1 := blk_frozen BG.out 1
    have c_BG_2 := blk_cell BG.out 2 _ rfl
    have f_BG_2 := blk_frozen BG.out 2
    have l_BG := blk_lt BG.out
    have c_ZR_0 := blk_cell ZR.out 0 _ rfl
    have f_ZR_0 := blk_frozen ZR.out 0
    have c_ZR_1 := blk_cell ZR.out 1 _ rfl
    have f_ZR_1 := blk_frozen ZR.out 1
    have c_ZR_2 := blk_cell ZR.out 2 _ rfl
    have f_ZR_2 := blk_frozen ZR.out 2
    have l_ZR := blk_lt ZR.out
    go_wp2_with fail
    clear c_BG_0 f_BG_0 c_BG_1 f_BG_1 c_BG_2 f_BG_2 l_BG c_ZR_0 f_ZR_0 c_ZR_1 f_ZR_1 c_ZR_2 f_ZR_2 l_ZR
    generalize w32.alloc (.cells #[.int .i64 1, .int .i64 0, .int .i64 1] 23) = W33 at *
    generalize w32.heap.size = g33 at *
    refine (div_calls divB _).mono ?_
    rintro e w34 ⟨rfl, hb⟩
    replace NN := Lib.hid (Bgo NN.out hb)
    replace BL := Lib.hid (blk_next hb BL.out)
    replace BG := Lib.hid (blk_next hb BG.out)
    replace ZR := Lib.hid (blk_next hb ZR.out)
    replace v0 := Lib.hid (blk_next hb v0.out)
    replace v1 := Lib.hid (blk_next hb v1.out)
    replace P1 := Lib.hid (blk_next hb P1.out)
    clear hb
    have HB : Hid (Below w34.heap.size w34 (w34.alloc (.cells #[.int .i64 0, .int .i64 0, .int .i64 0] 23))) := Lib.hid (Bal (Below.refl _ _) _)
    have v2 := Lib.hid (blk_new w34 (.cells #[.int .i64 0, .int .i64 0, .int .i64 0] 23))
    have LT_v2 : Hid (w.heap.size < w34.heap.size ∧ w27.heap.size < w34.heap.size ∧ w27.heap.size + 1 < w34.heap.size ∧ g29 < w34.heap.size ∧ g31 < w34.heap.size ∧ g33 < w34.heap.size ∧ w.heap.size ≤ w34.heap.size) := Lib.hid ⟨blk_lt BL.out, blk_lt BG.out, blk_lt ZR.out, blk_lt v0.out, blk_lt v1.out, blk_lt P1.out, NN.out.size⟩
    replace NN := Lib.hid (Bgo NN.out HB.out)
    replace BL := Lib.hid (blk_next HB.out BL.out)
    replace BG := Lib.hid (blk_next HB.out BG.out)
    replace ZR := Lib.hid (blk_next HB.out ZR.out)
    replace v0 := Lib.hid (blk_next HB.out v0.out)
    replace v1 := Lib.hid (blk_next HB.out v1.out)
    replace P1 := Lib.hid (blk_next HB.out P1.out)
    clear HB
    go_wp2_with fail
    generalize w34.alloc (.cells #[.int .i64 0, .int .i64 0, .int .i64 0] 23) = W35 at *
    generalize w34.heap.size = g35 at *
    refine (of_calls 1 0 1000000000 _).mono ?_
    rintro e w36 ⟨rfl, hb⟩
    replace NN := Lib.hid (Bgo NN.out hb)
    replace BL := Lib.hid (blk_next hb BL.out)
    replace BG := Lib.hid (blk_next hb BG.out)
    replace ZR := Lib.hid (blk_next hb ZR.out)
    replace v0 := Lib.hid (blk_next hb v0.out)
    replace v1 := Lib.hid (blk_next hb v1.out)
    replace P1 := Lib.hid (blk_next hb P1.out)
    replace v2 := Lib.hid (blk_next hb v2.out)
    clear hb
    go_wp2_with fail
    refine (of_calls 1000000000 1 1 _).mono ?_
    rintro e w37 ⟨rfl, hb⟩
    replace NN := Lib.hid (Bgo NN.out hb)
    replace BL := Lib.hid (blk_next hb BL.out)
    replace BG := Lib.hid (blk_next hb BG.out)
    replace ZR := Lib.hid (blk_next hb ZR.out)
    replace v0 := Lib.hid (blk_next hb v0.out)
    replace v1 := Lib.hid (blk_next hb v1.out)
    replace P1 := Lib.hid (blk_next hb P1.out)
    replace v2 := Lib.hid (blk_next hb v2.out)
    clear hb
    go_wp2_with fail
    refine (div_calls divC _).mono ?_
    rintro e w38 ⟨rfl, hb⟩
    replace NN := Lib.hid (Bgo NN.out hb)
    replace BL := Lib.hid (blk_next hb BL.out)
    replace BG := Lib.hid (blk_next hb BG.out)
    replace ZR := Lib.hid (blk_next hb ZR.out)
    replace v0 := Lib.hid (blk_next hb v0.out)
    replace v1 := Lib.hid (blk_next hb v1.out)
    replace P1 := Lib.hid (blk_next hb P1.out)
    replace v2 := Lib.hid (blk_next hb v2.out)
    clear hb
    have HB : Hid (Below w38.heap.size w38 (w38.alloc (.cells #[.int .i64 0, .int .i64 0, .int .i64 0] 23))) := Lib.hid (Bal (Below.refl _ _) _)
    have v3 := Lib.hid (blk_new w38 (.cells #[.int .i64 0, .int .i64 0, .int .i64 0] 23))
    have LT_v3 : Hid (w.heap.size < w38.heap.size ∧ w27.heap.size < w38.heap.size ∧ w27.heap.size + 1 < w38.heap.size ∧ g29 < w38.heap.size ∧ g31 < w38.heap.size ∧ g33 < w38.heap.size ∧ g35 < w38.heap.size ∧ w.heap.size ≤ w38.heap.size) := Lib.hid ⟨blk_lt BL.out, blk_lt BG.out, blk_lt ZR.out, blk_lt v0.out, blk_lt v1.out, blk_lt P1.out, blk_lt v2.out, NN.out.size⟩
    replace NN := Lib.hid (Bgo NN.out HB.out)
    replace BL := Lib.hid (blk_next HB.out BL.out)
    replace BG := Lib.hid (blk_next HB.out BG.out)
    replace ZR := Lib.hid (blk_next HB.out ZR.out)
    replace v0 := Lib.hid (blk_next HB.out v0.out)
    replace v1 := Lib.hid (blk_next HB.out v1.out)
    replace P1 := Lib.hid (blk_next HB.out P1.out)
    replace v2 := Lib.hid (blk_next HB.out v2.out)
    clear HB
    have c_BG_0 := blk_cell BG.out 0 _ rfl
    have f_BG_0 := blk_frozen BG.out 0
    have c_BG_1 := blk_cell BG.out 1 _ rfl
    have f_BG_1 := blk_frozen BG.out 1
    have c_BG_2 := blk_cell BG.out 2 _ rfl
    have f_BG_2 := blk_frozen BG.out 2
    have l_BG := blk_lt BG.out
    go_wp2_with fail
    clear c_BG_0 f_BG_0 c_BG_1 f_BG_1 c_BG_2 f_BG_2 l_BG
    generalize w38.alloc (.cells #[.int .i64 0, .int .i64 0, .int .i64 0] 23) = W39 at *
    generalize w38.heap.size = g39 at *
    refine (sub_calls _ _ _ _ _ _ _ _ _ _ subA _).mono ?_
    rintro e w40 ⟨rfl, hb⟩
    replace NN := Lib.hid (Bgo NN.out hb)
    replace BL := Lib.hid (blk_next hb BL.out)
    replace BG := Lib.hid (blk_next hb BG.out)
    replace ZR := Lib.hid (blk_next hb ZR.out)
    replace v0 := Lib.hid (blk_next hb v0.out)
    replace v1 := Lib.hid (blk_next hb v1.out)
    replace P1 := Lib.hid (blk_next hb P1.out)
    replace v2 := Lib.hid (blk_next hb v2.out)
    replace v3 := Lib.hid (blk_next hb v3.out)
    clear hb
    have HB : Hid (Below w40.heap.size w40 (w40.alloc (.cells #[.int .i64 0, .int .i64 0, .int .i64 1] 23))) := Lib.hid (Bal (Below.refl _ _) _)
    have Q1 := Lib.hid (blk_new w40 (.cells #[.int .i64 0, .int .i64 0, .int .i64 1] 23))
    have LT_Q1 : Hid (w.heap.size < w40.heap.size ∧ w27.heap.size < w40.heap.size ∧ w27.heap.size + 1 < w40.heap.size ∧ g29 < w40.heap.size ∧ g31 < w40.heap.size ∧ g33 < w40.heap.size ∧ g35 < w40.heap.size ∧ g39 < w40.heap.size ∧ w.heap.size ≤ w40.heap.size) := Lib.hid ⟨blk_lt BL.out, blk_lt BG.out, blk_lt ZR.out, blk_lt v0.out, blk_lt v1.out, blk_lt P1.out, blk_lt v2.out, blk_lt v3.out, NN.out.size⟩
    replace NN := Lib.hid (Bgo NN.out HB.out)
    replace BL := Lib.hid (blk_next HB.out BL.out)
    replace BG := Lib.hid (blk_next HB.out BG.out)
    replace ZR := Lib.hid (blk_next HB.out ZR.out)
    replace v0 := Lib.hid (blk_next HB.out v0.out)
    replace v1 := Lib.hid (blk_next HB.out v1.out)
    replace P1 := Lib.hid (blk_next HB.out P1.out)
    replace v2 := Lib.hid (blk_next HB.out v2.out)
    replace v3 := Lib.hid (blk_next HB.out v3.out)
    clear HB
    go_wp2_with fail
    generalize w40.alloc (.cells #[.int .i64 0, .int .i64 0, .int .i64 1] 23) = W41 at *
    generalize w40.heap.size = g41 at *
    refine (of_calls 1000000000 1000000000 1 _).mono ?_
    rintro e w42 ⟨rfl, hb⟩
    replace NN := Lib.hid (Bgo NN.out hb)
    replace BL := Lib.hid (blk_next hb BL.out)
    replace BG := Lib.hid (blk_next hb BG.out)
    replace ZR := Lib.hid (blk_next hb ZR.out)
    replace v0 := Lib.hid (blk_next hb v0.out)
    replace v1 := Lib.hid (blk_next hb v1.out)
    replace P1 := Lib.hid (blk_next hb P1.out)
    replace v2 := Lib.hid (blk_next hb v2.out)
    replace v3 := Lib.hid (blk_next hb v3.out)
    replace Q1 := Lib.hid (blk_next hb Q1.out)
    clear hb
    go_wp2_with fail
    refine (norm_calls norA _).mono ?_
    rintro e w43 ⟨rfl, hb⟩
    replace NN := Lib.hid (Bgo NN.out hb)
    replace BL := Lib.hid (blk_next hb BL.out)
    replace BG := Lib.hid (blk_next hb BG.out)
    replace ZR := Lib.hid (blk_next hb ZR.out)
    replace v0 := Lib.hid (blk_next hb v0.out)
    replace v1 := Lib.hid (blk_next hb v1.out)
    replace P1 := Lib.hid (blk_next hb P1.out)
    replace v2 := Lib.hid (blk_next hb v2.out)
    replace v3 := Lib.hid (blk_next hb v3.out)
    replace Q1 := Lib.hid (blk_next hb Q1.out)
    clear hb
    have HB : Hid (Below w43.heap.size w43 (w43.alloc (.cells #[.int .i64 0, .int .i64 0] 41))) := Lib.hid (Bal (Below.refl _ _) _)
    have v4 := Lib.hid (blk_new w43 (.cells #[.int .i64 0, .int .i64 0] 41))
    have LT_v4 : Hid (w.heap.size < w43.heap.size ∧ w27.heap.size < w43.heap.size ∧ w27.heap.size + 1 < w43.heap.size ∧ g29 < w43.heap.size ∧ g31 < w43.heap.size ∧ g33 < w43.heap.size ∧ g35 < w43.heap.size ∧ g39 < w43.heap.size ∧ g41 < w43.heap.size ∧ w.heap.size ≤ w43.heap.size) := Lib.hid ⟨blk_lt BL.out, blk_lt BG.out, blk_lt ZR.out, blk_lt v0.out, blk_lt v1.out, blk_lt P1.out, blk_lt v2.out, blk_lt v3.out, blk_lt Q1.out, NN.out.size⟩
    replace NN := Lib.hid (Bgo NN.out HB.out)
    replace BL := Lib.hid (blk_next HB.out BL.out)
    replace BG := Lib.hid (blk_next HB.out BG.out)
    replace ZR := Lib.hid (blk_next HB.out ZR.out)
    replace v0 := Lib.hid (blk_next HB.out v0.out)
    replace v1 := Lib.hid (blk_next HB.out v1.out)
    replace P1 := Lib.hid (blk_next HB.out P1.out)
    replace v2 := Lib.hid (blk_next HB.out v2.out)
    replace v3 := Lib.hid (blk_next HB.out v3.out)
    replace Q1 := Lib.hid (blk_next HB.out Q1.out)
    clear HB
    go_wp2_with fail
    generalize w43.alloc (.cells #[.int .i64 0, .int .i64 0] 41) = W44 at *
    generalize w43.heap.size = g44 at *
    refine (of_calls 1000000000 0 1 _).mono ?_
    rintro e w45 ⟨rfl, hb⟩
    replace NN := Lib.hid (Bgo NN.out hb)
    replace BL := Lib.hid (blk_next hb BL.out)
    replace BG := Lib.hid (blk_next hb BG.out)
    replace ZR := Lib.hid (blk_next hb ZR.out)
    replace v0 := Lib.hid (blk_next hb v0.out)
    replace v1 := Lib.hid (blk_next hb v1.out)
    replace P1 := Lib.hid (blk_next hb P1.out)
    replace v2 := Lib.hid (blk_next hb v2.out)
    replace v3 := Lib.hid (blk_next hb v3.out)
    replace Q1 := Lib.hid (blk_next hb Q1.out)
    replace v4 := Lib.hid (blk_next hb v4.out)
    clear hb
    go_wp2_with fail
    refine (norm_calls norB _).mono ?_
    rintro e w46 ⟨rfl, hb⟩
    replace NN := Lib.hid (Bgo NN.out hb)
    replace BL := Lib.hid (blk_next hb BL.out)
    replace BG := Lib.hid (blk_next hb BG.out)
    replace ZR := Lib.hid (blk_next hb ZR.out)
    replace v0 := Lib.hid (blk_next hb v0.out)
    replace v1 := Lib.hid (blk_next hb v1.out)
    replace P1 := Lib.hid (blk_next hb P1.out)
    replace v2 := Lib.hid (blk_next hb v2.out)
    replace v3 := Lib.hid (blk_next hb v3.out)
    replace Q1 := Lib.hid (blk_next hb Q1.out)
    replace v4 := Lib.hid (blk_next hb v4.out)
    clear hb
    have HB : Hid (Below w46.heap.size w46 (w46.alloc (.cells #[.int .i64 1000000000000000000, .int .i64 1] 41))) := Lib.hid (Bal (Below.refl _ _) _)
    have N1 := Lib.hid (blk_new w46 (.cells #[.int .i64 1000000000000000000, .int .i64 1] 41))
    have LT_N1 : Hid (w.heap.size < w46.heap.size ∧ w27.heap.size < w46.heap.size ∧ w27.heap.size + 1 < w46.heap.size ∧ g29 < w46.heap.size ∧ g31 < w46.heap.size ∧ g33 < w46.heap.size ∧ g35 < w46.heap.size ∧ g39 < w46.heap.size ∧ g41 < w46.heap.size ∧ g44 < w46.heap.size ∧ w.heap.size ≤ w46.heap.size) := Lib.hid ⟨blk_lt BL.out, blk_lt BG.out, blk_lt ZR.out, blk_lt v0.out, blk_lt v1.out, blk_lt P1.out, blk_lt v2.out, blk_lt v3.out, blk_lt Q1.out, blk_lt v4.out, NN.out.size⟩
    replace NN := Lib.hid (Bgo NN.out HB.out)
    replace BL := Lib.hid (blk_next HB.out BL.out)
    replace BG := Lib.hid (blk_next HB.out BG.out)
    replace ZR := Lib.hid (blk_next HB.out ZR.out)
    replace v0 := Lib.hid (blk_next HB.out v0.out)
    replace v1 := Lib.hid (blk_next HB.out v1.out)
    replace P1 := Lib.hid (blk_next HB.out P1.out)
    replace v2 := Lib.hid (blk_next HB.out v2.out)
    replace v3 := Lib.hid (blk_next HB.out v3.out)
    replace Q1 := Lib.hid (blk_next HB.out Q1.out)
    replace v4 := Lib.hid (blk_next HB.out v4.out)
    clear HB
    have c_ZR_0 := blk_cell ZR.out 0 _ rfl
    have f_ZR_0 := blk_frozen ZR.out 0
    have c_ZR_1 := blk_cell ZR.out 1 _ rfl
    have f_ZR_1 := blk_frozen ZR.out 1
    have c_ZR_2 := blk_cell ZR.out 2 _ rfl
    have f_ZR_2 := blk_frozen ZR.out 2
    have l_ZR := blk_lt ZR.out
    go_wp2_with fail
    clear c_ZR_0 f_ZR_0 c_ZR_1 f_ZR_1 c_ZR_2 f_ZR_2 l_ZR
    generalize w46.alloc (.cells #[.int .i64 1000000000000000000, .int .i64 1] 41) = W47 at *
    generalize w46.heap.size = g47 at *
    refine (ray_calls rayA _).mono ?_
    rintro e w48 ⟨rfl, hb⟩
    replace NN := Lib.hid (Bgo NN.out hb)
    replace BL := Lib.hid (blk_next hb BL.out)
    replace BG := Lib.hid (blk_next hb BG.out)
    replace ZR := Lib.hid (blk_next hb ZR.out)
    replace v0 := Lib.hid (blk_next hb v0.out)
    replace v1 := Lib.hid (blk_next hb v1.out)
    replace P1 := Lib.hid (blk_next hb P1.out)
    replace v2 := Lib.hid (blk_next hb v2.out)
    replace v3 := Lib.hid (blk_next hb v3.out)
    replace Q1 := Lib.hid (blk_next hb Q1.out)
    replace v4 := Lib.hid (blk_next hb v4.out)
    replace N1 := Lib.hid (blk_next hb N1.out)
    clear hb
    have HB : Hid (Below w48.heap.size w48 (w48.alloc (.cells #[.int .i64 0, .int .i64 0, .int .i64 0] 23))) := Lib.hid (Bal (Below.refl _ _) _)
    have v5 := Lib.hid (blk_new w48 (.cells #[.int .i64 0, .int .i64 0, .int .i64 0] 23))
    have LT_v5 : Hid (w.heap.size < w48.heap.size ∧ w27.heap.size < w48.heap.size ∧ w27.heap.size + 1 < w48.heap.size ∧ g29 < w48.heap.size ∧ g31 < w48.heap.size ∧ g33 < w48.heap.size ∧ g35 < w48.heap.size ∧ g39 < w48.heap.size ∧ g41 < w48.heap.size ∧ g44 < w48.heap.size ∧ g47 < w48.heap.size ∧ w.heap.size ≤ w48.heap.size) := Lib.hid ⟨blk_lt BL.out, blk_lt BG.out, blk_lt ZR.out, blk_lt v0.out, blk_lt v1.out, blk_lt P1.out, blk_lt v2.out, blk_lt v3.out, blk_lt Q1.out, blk_lt v4.out, blk_lt N1.out, NN.out.size⟩
    replace NN := Lib.hid (Bgo NN.out HB.out)
    replace BL := Lib.hid (blk_next HB.out BL.out)
    replace BG := Lib.hid (blk_next HB.out BG.out)
    replace ZR := Lib.hid (blk_next HB.out ZR.out)
    replace v0 := Lib.hid (blk_next HB.out v0.out)
    replace v1 := Lib.hid (blk_next HB.out v1.out)
    replace P1 := Lib.hid (blk_next HB.out P1.out)
    replace v2 := Lib.hid (blk_next HB.out v2.out)
    replace v3 := Lib.hid (blk_next HB.out v3.out)
    replace Q1 := Lib.hid (blk_next HB.out Q1.out)
    replace v4 := Lib.hid (blk_next HB.out v4.out)
    replace N1 := Lib.hid (blk_next HB.out N1.out)
    clear HB
    have c_ZR_0 := blk_cell ZR.out 0 _ rfl
    have f_ZR_0 := blk_frozen ZR.out 0
    have c_ZR_1 := blk_cell ZR.out 1 _ rfl
    have f_ZR_1 := blk_frozen ZR.out 1
    have c_ZR_2 := blk_cell ZR.out 2 _ rfl
    have f_ZR_2 := blk_frozen ZR.out 2
    have l_ZR := blk_lt ZR.out
    have c_BG_0 := blk_cell BG.out 0 _ rfl
    have f_BG_0 := blk_frozen BG.out 0
    have c_BG_1 := blk_cell BG.out 1 _ rfl
    have f_BG_1 := blk_frozen BG.out 1
    have c_BG_2 := blk_cell BG.out 2 _ rfl
    have f_BG_2 := blk_frozen BG.out 2
    have l_BG := blk_lt BG.out
    go_wp2_with fail
    clear c_ZR_0 f_ZR_0 c_ZR_1 f_ZR_1 c_ZR_2 f_ZR_2 l_ZR c_BG_0 f_BG_0 c_BG_1 f_BG_1 c_BG_2 f_BG_2 l_BG
    generalize w48.alloc (.cells #[.int .i64 0, .int .i64 0, .int .i64 0] 23) = W49 at *
    generalize w48.heap.size = g49 at *
    refine (order_calls ordA _).mono ?_
    rintro e w50 ⟨rfl, hb⟩
    replace NN := Lib.hid (Bgo NN.out hb)
    replace BL := Lib.hid (blk_next hb BL.out)
    replace BG := Lib.hid (blk_next hb BG.out)
    replace ZR := Lib.hid (blk_next hb ZR.out)
    replace v0 := Lib.hid (blk_next hb v0.out)
    replace v1 := Lib.hid (blk_next hb v1.out)
    replace P1 := Lib.hid (blk_next hb P1.out)
    replace v2 := Lib.hid (blk_next hb v2.out)
    replace v3 := Lib.hid (blk_next hb v3.out)
    replace Q1 := Lib.hid (blk_next hb Q1.out)
    replace v4 := Lib.hid (blk_next hb v4.out)
    replace N1 := Lib.hid (blk_next hb N1.out)
    replace v5 := Lib.hid (blk_next hb v5.out)
    clear hb
    go_wp2_with fail
    refine (make_calls _ _ _ _ _ _ _ mkA (by decide) (by decide) (by decide) (by decide) (by decide) (by decide) _).mono ?_
    rintro e w51 ⟨rfl, hb⟩
    replace NN := Lib.hid (Bgo NN.out hb)
    replace BL := Lib.hid (blk_next hb BL.out)
    replace BG := Lib.hid (blk_next hb BG.out)
    replace ZR := Lib.hid (blk_next hb ZR.out)
    replace v0 := Lib.hid (blk_next hb v0.out)
    replace v1 := Lib.hid (blk_next hb v1.out)
    replace P1 := Lib.hid (blk_next hb P1.out)
    replace v2 := Lib.hid (blk_next hb v2.out)
    replace v3 := Lib.hid (blk_next hb v3.out)
    replace Q1 := Lib.hid (blk_next hb Q1.out)
    replace v4 := Lib.hid (blk_next hb v4.out)
    replace N1 := Lib.hid (blk_next hb N1.out)
    replace v5 := Lib.hid (blk_next hb v5.out)
    clear hb
    have HB : Hid (Below w51.heap.size w51 (w51.alloc (.cells #[.int .i64 (-1), .int .i64 0, .int .i64 1] 23))) := Lib.hid (Bal (Below.refl _ _) _)
    have R1 := Lib.hid (blk_new w51 (.cells #[.int .i64 (-1), .int .i64 0, .int .i64 1] 23))
    have LT_R1 : Hid (w.heap.size < w51.heap.size ∧ w27.heap.size < w51.heap.size ∧ w27.heap.size + 1 < w51.heap.size ∧ g29 < w51.heap.size ∧ g31 < w51.heap.size ∧ g33 < w51.heap.size ∧ g35 < w51.heap.size ∧ g39 < w51.heap.size ∧ g41 < w51.heap.size ∧ g44 < w51.heap.size ∧ g47 < w51.heap.size ∧ g49 < w51.heap.size ∧ w.heap.size ≤ w51.heap.size) := Lib.hid ⟨blk_lt BL.out, blk_lt BG.out, blk_lt ZR.out, blk_lt v0.out, blk_lt v1.out, blk_lt P1.out, blk_lt v2.out, blk_lt v3.out, blk_lt Q1.out, blk_lt v4.out, blk_lt N1.out, blk_lt v5.out, NN.out.size⟩
    replace NN := Lib.hid (Bgo NN.out HB.out)
    replace BL := Lib.hid (blk_next HB.out BL.out)
    replace BG := Lib.hid (blk_next HB.out BG.out)
    replace ZR := Lib.hid (blk_next HB.out ZR.out)
    replace v0 := Lib.hid (blk_next HB.out v0.out)
    replace v1 := Lib.hid (blk_next HB.out v1.out)
    replace P1 := Lib.hid (blk_next HB.out P1.out)
    replace v2 := Lib.hid (blk_next HB.out v2.out)
    replace v3 := Lib.hid (blk_next HB.out v3.out)
    replace Q1 := Lib.hid (blk_next HB.out Q1.out)
    replace v4 := Lib.hid (blk_next HB.out v4.out)
    replace N1 := Lib.hid (blk_next HB.out N1.out)
    replace v5 := Lib.hid (blk_next HB.out v5.out)
    clear HB
    go_wp2_with fail
    generalize w51.alloc (.cells #[.int .i64 (-1), .int .i64 0, .int .i64 1] 23) = W52 at *
    generalize w51.heap.size = g52 at *
    refine (make_out _ _ _ mkB _).mono ?_
    rintro e w53 ⟨rfl, hb⟩
    replace NN := Lib.hid (Bgo NN.out hb)
    replace BL := Lib.hid (blk_next hb BL.out)
    replace BG := Lib.hid (blk_next hb BG.out)
    replace ZR := Lib.hid (blk_next hb ZR.out)
    replace v0 := Lib.hid (blk_next hb v0.out)
    replace v1 := Lib.hid (blk_next hb v1.out)
    replace P1 := Lib.hid (blk_next hb P1.out)
    replace v2 := Lib.hid (blk_next hb v2.out)
    replace v3 := Lib.hid (blk_next hb v3.out)
    replace Q1 := Lib.hid (blk_next hb Q1.out)
    replace v4 := Lib.hid (blk_next hb v4.out)
    replace N1 := Lib.hid (blk_next hb N1.out)
    replace v5 := Lib.hid (blk_next hb v5.out)
    replace R1 := Lib.hid (blk_next hb R1.out)
    clear hb
    have HB : Hid (Below w53.heap.size w53 (w53.alloc (.cells #[.int .i64 0, .int .i64 0, .int .i64 0] 23))) := Lib.hid (Bal (Below.refl _ _) _)
    have v6 := Lib.hid (blk_new w53 (.cells #[.int .i64 0, .int .i64 0, .int .i64 0] 23))
    have LT_v6 : Hid (w.heap.size < w53.heap.size ∧ w27.heap.size < w53.heap.size ∧ w27.heap.size + 1 < w53.heap.size ∧ g29 < w53.heap.size ∧ g31 < w53.heap.size ∧ g33 < w53.heap.size ∧ g35 < w53.heap.size ∧ g39 < w53.heap.size ∧ g41 < w53.heap.size ∧ g44 < w53.heap.size ∧ g47 < w53.heap.size ∧ g49 < w53.heap.size ∧ g52 < w53.heap.size ∧ w.heap.size ≤ w53.heap.size) := Lib.hid ⟨blk_lt BL.out, blk_lt BG.out, blk_lt ZR.out, blk_lt v0.out, blk_lt v1.out, blk_lt P1.out, blk_lt v2.out, blk_lt v3.out, blk_lt Q1.out, blk_lt v4.out, blk_lt N1.out, blk_lt v5.out, blk_lt R1.out, NN.out.size⟩
    replace NN := Lib.hid (Bgo NN.out HB.out)
    replace BL := Lib.hid (blk_next HB.out BL.out)
    replace BG := Lib.hid (blk_next HB.out BG.out)
    replace ZR := Lib.hid (blk_next HB.out ZR.out)
    replace v0 := Lib.hid (blk_next HB.out v0.out)
    replace v1 := Lib.hid (blk_next HB.out v1.out)
    replace P1 := Lib.hid (blk_next HB.out P1.out)
    replace v2 := Lib.hid (blk_next HB.out v2.out)
    replace v3 := Lib.hid (blk_next HB.out v3.out)
    replace Q1 := Lib.hid (blk_next HB.out Q1.out)
    replace v4 := Lib.hid (blk_next HB.out v4.out)
    replace N1 := Lib.hid (blk_next HB.out N1.out)
    replace v5 := Lib.hid (blk_next HB.out v5.out)
    replace R1 := Lib.hid (blk_next HB.out R1.out)
    clear HB
    go_wp2_with fail
    generalize w53.alloc (.cells #[.int .i64 0, .int .i64 0, .int .i64 0] 23) = W54 at *
    generalize w53.heap.size = g54 at *
    refine (make_calls _ _ _ _ _ _ _ mkC (by decide) (by decide) (by decide) (by decide) (by decide) (by decide) _).mono ?_
    rintro e w55 ⟨rfl, hb⟩
    replace NN := Lib.hid (Bgo NN.out hb)
    replace BL := Lib.hid (blk_next hb BL.out)
    replace BG := Lib.hid (blk_next hb BG.out)
    replace ZR := Lib.hid (blk_next hb ZR.out)
    replace v0 := Lib.hid (blk_next hb v0.out)
    replace v1 := Lib.hid (blk_next hb v1.out)
    replace P1 := Lib.hid (blk_next hb P1.out)
    replace v2 := Lib.hid (blk_next hb v2.out)
    replace v3 := Lib.hid (blk_next hb v3.out)
    replace Q1 := Lib.hid (blk_next hb Q1.out)
    replace v4 := Lib.hid (blk_next hb v4.out)
    replace N1 := Lib.hid (blk_next hb N1.out)
    replace v5 := Lib.hid (blk_next hb v5.out)
    replace R1 := Lib.hid (blk_next hb R1.out)
    replace v6 := Lib.hid (blk_next hb v6.out)
    clear hb
    have HB : Hid (Below w55.heap.size w55 (w55.alloc (.cells #[.int .i64 0, .int .i64 0, .int .i64 0] 23))) := Lib.hid (Bal (Below.refl _ _) _)
    have v7 := Lib.hid (blk_new w55 (.cells #[.int .i64 0, .int .i64 0, .int .i64 0] 23))
    have LT_v7 : Hid (w.heap.size < w55.heap.size ∧ w27.heap.size < w55.heap.size ∧ w27.heap.size + 1 < w55.heap.size ∧ g29 < w55.heap.size ∧ g31 < w55.heap.size ∧ g33 < w55.heap.size ∧ g35 < w55.heap.size ∧ g39 < w55.heap.size ∧ g41 < w55.heap.size ∧ g44 < w55.heap.size ∧ g47 < w55.heap.size ∧ g49 < w55.heap.size ∧ g52 < w55.heap.size ∧ g54 < w55.heap.size ∧ w.heap.size ≤ w55.heap.size) := Lib.hid ⟨blk_lt BL.out, blk_lt BG.out, blk_lt ZR.out, blk_lt v0.out, blk_lt v1.out, blk_lt P1.out, blk_lt v2.out, blk_lt v3.out, blk_lt Q1.out, blk_lt v4.out, blk_lt N1.out, blk_lt v5.out, blk_lt R1.out, blk_lt v6.out, NN.out.size⟩
    replace NN := Lib.hid (Bgo NN.out HB.out)
    replace BL := Lib.hid (blk_next HB.out BL.out)
    replace BG := Lib.hid (blk_next HB.out BG.out)
    replace ZR := Lib.hid (blk_next HB.out ZR.out)
    replace v0 := Lib.hid (blk_next HB.out v0.out)
    replace v1 := Lib.hid (blk_next HB.out v1.out)
    replace P1 := Lib.hid (blk_next HB.out P1.out)
    replace v2 := Lib.hid (blk_next HB.out v2.out)
    replace v3 := Lib.hid (blk_next HB.out v3.out)
    replace Q1 := Lib.hid (blk_next HB.out Q1.out)
    replace v4 := Lib.hid (blk_next HB.out v4.out)
    replace N1 := Lib.hid (blk_next HB.out N1.out)
    replace v5 := Lib.hid (blk_next HB.out v5.out)
    replace R1 := Lib.hid (blk_next HB.out R1.out)
    replace v6 := Lib.hid (blk_next HB.out v6.out)
    clear HB
    go_wp2_with fail
    generalize w55.alloc (.cells #[.int .i64 0, .int .i64 0, .int .i64 0] 23) = W56 at *
    generalize w55.heap.size = g56 at *
    refine (make_calls _ _ _ _ _ _ _ mkD (by decide) (by decide) (by decide) (by decide) (by decide) (by decide) _).mono ?_
    rintro e w57 ⟨rfl, hb⟩
    replace NN := Lib.hid (Bgo NN.out hb)
    replace BL := Lib.hid (blk_next hb BL.out)
    replace BG := Lib.hid (blk_next hb BG.out)
    replace ZR := Lib.hid (blk_next hb ZR.out)
    replace v0 := Lib.hid (blk_next hb v0.out)
    replace v1 := Lib.hid (blk_next hb v1.out)
    replace P1 := Lib.hid (blk_next hb P1.out)
    replace v2 := Lib.hid (blk_next hb v2.out)
    replace v3 := Lib.hid (blk_next hb v3.out)
    replace Q1 := Lib.hid (blk_next hb Q1.out)
    replace v4 := Lib.hid (blk_next hb v4.out)
    replace N1 := Lib.hid (blk_next hb N1.out)
    replace v5 := Lib.hid (blk_next hb v5.out)
    replace R1 := Lib.hid (blk_next hb R1.out)
    replace v6 := Lib.hid (blk_next hb v6.out)
    replace v7 := Lib.hid (blk_next hb v7.out)
    clear hb
    have HB : Hid (Below w57.heap.size w57 (w57.alloc (.cells #[.int .i64 (-3), .int .i64 2, .int .i64 1] 23))) := Lib.hid (Bal (Below.refl _ _) _)
    have S1 := Lib.hid (blk_new w57 (.cells #[.int .i64 (-3), .int .i64 2, .int .i64 1] 23))
    have LT_S1 : Hid (w.heap.size < w57.heap.size ∧ w27.heap.size < w57.heap.size ∧ w27.heap.size + 1 < w57.heap.size ∧ g29 < w57.heap.size ∧ g31 < w57.heap.size ∧ g33 < w57.heap.size ∧ g35 < w57.heap.size ∧ g39 < w57.heap.size ∧ g41 < w57.heap.size ∧ g44 < w57.heap.size ∧ g47 < w57.heap.size ∧ g49 < w57.heap.size ∧ g52 < w57.heap.size ∧ g54 < w57.heap.size ∧ g56 < w57.heap.size ∧ w.heap.size ≤ w57.heap.size) := Lib.hid ⟨blk_lt BL.out, blk_lt BG.out, blk_lt ZR.out, blk_lt v0.out, blk_lt v1.out, blk_lt P1.out, blk_lt v2.out, blk_lt v3.out, blk_lt Q1.out, blk_lt v4.out, blk_lt N1.out, blk_lt v5.out, blk_lt R1.out, blk_lt v6.out, blk_lt v7.out, NN.out.size⟩
    replace NN := Lib.hid (Bgo NN.out HB.out)
    replace BL := Lib.hid (blk_next HB.out BL.out)
    replace BG := Lib.hid (blk_next HB.out BG.out)
    replace ZR := Lib.hid (blk_next HB.out ZR.out)
    replace v0 := Lib.hid (blk_next HB.out v0.out)
    replace v1 := Lib.hid (blk_next HB.out v1.out)
    replace P1 := Lib.hid (blk_next HB.out P1.out)
    replace v2 := Lib.hid (blk_next HB.out v2.out)
    replace v3 := Lib.hid (blk_next HB.out v3.out)
    replace Q1 := Lib.hid (blk_next HB.out Q1.out)
    replace v4 := Lib.hid (blk_next HB.out v4.out)
    replace N1 := Lib.hid (blk_next HB.out N1.out)
    replace v5 := Lib.hid (blk_next HB.out v5.out)
    replace R1 := Lib.hid (blk_next HB.out R1.out)
    replace v6 := Lib.hid (blk_next HB.out v6.out)
    replace v7 := Lib.hid (blk_next HB.out v7.out)
    clear HB
    go_wp2_with fail
    generalize w57.alloc (.cells #[.int .i64 (-3), .int .i64 2, .int .i64 1] 23) = W58 at *
    generalize w57.heap.size = g58 at *
    refine (make_calls _ _ _ _ _ _ _ mkE (by decide) (by decide) (by decide) (by decide) (by decide) (by decide) _).mono ?_
    rintro e w59 ⟨rfl, hb⟩
    replace NN := Lib.hid (Bgo NN.out hb)
    replace BL := Lib.hid (blk_next hb BL.out)
    replace BG := Lib.hid (blk_next hb BG.out)
    replace ZR := Lib.hid (blk_next hb ZR.out)
    replace v0 := Lib.hid (blk_next hb v0.out)
    replace v1 := Lib.hid (blk_next hb v1.out)
    replace P1 := Lib.hid (blk_next hb P1.out)
    replace v2 := Lib.hid (blk_next hb v2.out)
    replace v3 := Lib.hid (blk_next hb v3.out)
    replace Q1 := Lib.hid (blk_next hb Q1.out)
    replace v4 := Lib.hid (blk_next hb v4.out)
    replace N1 := Lib.hid (blk_next hb N1.out)
    replace v5 := Lib.hid (blk_next hb v5.out)
    replace R1 := Lib.hid (blk_next hb R1.out)
    replace v6 := Lib.hid (blk_next hb v6.out)
    replace v7 := Lib.hid (blk_next hb v7.out)
    replace S1 := Lib.hid (blk_next hb S1.out)
    clear hb
    have HB : Hid (Below w59.heap.size w59 (w59.alloc (.cells #[.int .i64 0, .int .i64 0, .int .i64 0] 23))) := Lib.hid (Bal (Below.refl _ _) _)
    have v8 := Lib.hid (blk_new w59 (.cells #[.int .i64 0, .int .i64 0, .int .i64 0] 23))
    have LT_v8 : Hid (w.heap.size < w59.heap.size ∧ w27.heap.size < w59.heap.size ∧ w27.heap.size + 1 < w59.heap.size ∧ g29 < w59.heap.size ∧ g31 < w59.heap.size ∧ g33 < w59.heap.size ∧ g35 < w59.heap.size ∧ g39 < w59.heap.size ∧ g41 < w59.heap.size ∧ g44 < w59.heap.size ∧ g47 < w59.heap.size ∧ g49 < w59.heap.size ∧ g52 < w59.heap.size ∧ g54 < w59.heap.size ∧ g56 < w59.heap.size ∧ g58 < w59.heap.size ∧ w.heap.size ≤ w59.heap.size) := Lib.hid ⟨blk_lt BL.out, blk_lt BG.out, blk_lt ZR.out, blk_lt v0.out, blk_lt v1.out, blk_lt P1.out, blk_lt v2.out, blk_lt v3.out, blk_lt Q1.out, blk_lt v4.out, blk_lt N1.out, blk_lt v5.out, blk_lt R1.out, blk_lt v6.out, blk_lt v7.out, blk_lt S1.out, NN.out.size⟩
    replace NN := Lib.hid (Bgo NN.out HB.out)
    replace BL := Lib.hid (blk_next HB.out BL.out)
    replace BG := Lib.hid (blk_next HB.out BG.out)
    replace ZR := Lib.hid (blk_next HB.out ZR.out)
    replace v0 := Lib.hid (blk_next HB.out v0.out)
    replace v1 := Lib.hid (blk_next HB.out v1.out)
    replace P1 := Lib.hid (blk_next HB.out P1.out)
    replace v2 := Lib.hid (blk_next HB.out v2.out)
    replace v3 := Lib.hid (blk_next HB.out v3.out)
    replace Q1 := Lib.hid (blk_next HB.out Q1.out)
    replace v4 := Lib.hid (blk_next HB.out v4.out)
    replace N1 := Lib.hid (blk_next HB.out N1.out)
    replace v5 := Lib.hid (blk_next HB.out v5.out)
    replace R1 := Lib.hid (blk_next HB.out R1.out)
    replace v6 := Lib.hid (blk_next HB.out v6.out)
    replace v7 := Lib.hid (blk_next HB.out v7.out)
    replace S1 := Lib.hid (blk_next HB.out S1.out)
    clear HB
    go_wp2_with fail
    generalize w59.alloc (.cells #[.int .i64 0, .int .i64 0, .int .i64 0] 23) = W60 at *
    generalize w59.heap.size = g60 at *
    refine (of_calls 3 4 5 _).mono ?_
    rintro e w61 ⟨rfl, hb⟩
    replace NN := Lib.hid (Bgo NN.out hb)
    replace BL := Lib.hid (blk_next hb BL.out)
    replace BG := Lib.hid (blk_next hb BG.out)
    replace ZR := Lib.hid (blk_next hb ZR.out)
    replace v0 := Lib.hid (blk_next hb v0.out)
    replace v1 := Lib.hid (blk_next hb v1.out)
    replace P1 := Lib.hid (blk_next hb P1.out)
    replace v2 := Lib.hid (blk_next hb v2.out)
    replace v3 := Lib.hid (blk_next hb v3.out)
    replace Q1 := Lib.hid (blk_next hb Q1.out)
    replace v4 := Lib.hid (blk_next hb v4.out)
    replace N1 := Lib.hid (blk_next hb N1.out)
    replace v5 := Lib.hid (blk_next hb v5.out)
    replace R1 := Lib.hid (blk_next hb R1.out)
    replace v6 := Lib.hid (blk_next hb v6.out)
    replace v7 := Lib.hid (blk_next hb v7.out)
    replace S1 := Lib.hid (blk_next hb S1.out)
    replace v8 := Lib.hid (blk_next hb v8.out)
    clear hb
    go_wp2_with fail
    refine (turn_calls tuA _).mono ?_
    rintro e w62 ⟨rfl, hb⟩
    replace NN := Lib.hid (Bgo NN.out hb)
    replace BL := Lib.hid (blk_next hb BL.out)
    replace BG := Lib.hid (blk_next hb BG.out)
    replace ZR := Lib.hid (blk_next hb ZR.out)
    replace v0 := Lib.hid (blk_next hb v0.out)
    replace v1 := Lib.hid (blk_next hb v1.out)
    replace P1 := Lib.hid (blk_next hb P1.out)
    replace v2 := Lib.hid (blk_next hb v2.out)
    replace v3 := Lib.hid (blk_next hb v3.out)
    replace Q1 := Lib.hid (blk_next hb Q1.out)
    replace v4 := Lib.hid (blk_next hb v4.out)
    replace N1 := Lib.hid (blk_next hb N1.out)
    replace v5 := Lib.hid (blk_next hb v5.out)
    replace R1 := Lib.hid (blk_next hb R1.out)
    replace v6 := Lib.hid (blk_next hb v6.out)
    replace v7 := Lib.hid (blk_next hb v7.out)
    replace S1 := Lib.hid (blk_next hb S1.out)
    replace v8 := Lib.hid (blk_next hb v8.out)
    clear hb
    have HB : Hid (Below w62.heap.size w62 (w62.alloc (.cells #[.int .i64 4, .int .i64 (-3), .int .i64 5] 23))) := Lib.hid (Bal (Below.refl _ _) _)
    have U1 := Lib.hid (blk_new w62 (.cells #[.int .i64 4, .int .i64 (-3), .int .i64 5] 23))
    have LT_U1 : Hid (w.heap.size < w62.heap.size ∧ w27.heap.size < w62.heap.size ∧ w27.heap.size + 1 < w62.heap.size ∧ g29 < w62.heap.size ∧ g31 < w62.heap.size ∧ g33 < w62.heap.size ∧ g35 < w62.heap.size ∧ g39 < w62.heap.size ∧ g41 < w62.heap.size ∧ g44 < w62.heap.size ∧ g47 < w62.heap.size ∧ g49 < w62.heap.size ∧ g52 < w62.heap.size ∧ g54 < w62.heap.size ∧ g56 < w62.heap.size ∧ g58 < w62.heap.size ∧ g60 < w62.heap.size ∧ w.heap.size ≤ w62.heap.size) := Lib.hid ⟨blk_lt BL.out, blk_lt BG.out, blk_lt ZR.out, blk_lt v0.out, blk_lt v1.out, blk_lt P1.out, blk_lt v2.out, blk_lt v3.out, blk_lt Q1.out, blk_lt v4.out, blk_lt N1.out, blk_lt v5.out, blk_lt R1.out, blk_lt v6.out, blk_lt v7.out, blk_lt S1.out, blk_lt v8.out, NN.out.size⟩
    replace NN := Lib.hid (Bgo NN.out HB.out)
    replace BL := Lib.hid (blk_next HB.out BL.out)
    replace BG := Lib.hid (blk_next HB.out BG.out)
    replace ZR := Lib.hid (blk_next HB.out ZR.out)
    replace v0 := Lib.hid (blk_next HB.out v0.out)
    replace v1 := Lib.hid (blk_next HB.out v1.out)
    replace P1 := Lib.hid (blk_next HB.out P1.out)
    replace v2 := Lib.hid (blk_next HB.out v2.out)
    replace v3 := Lib.hid (blk_next HB.out v3.out)
    replace Q1 := Lib.hid (blk_next HB.out Q1.out)
    replace v4 := Lib.hid (blk_next HB.out v4.out)
    replace N1 := Lib.hid (blk_next HB.out N1.out)
    replace v5 := Lib.hid (blk_next HB.out v5.out)
    replace R1 := Lib.hid (blk_next HB.out R1.out)
    replace v6 := Lib.hid (blk_next HB.out v6.out)
    replace v7 := Lib.hid (blk_next HB.out v7.out)
    replace S1 := Lib.hid (blk_next HB.out S1.out)
    replace v8 := Lib.hid (blk_next HB.out v8.out)
    clear HB
    go_wp2_with fail
    generalize w62.alloc (.cells #[.int .i64 4, .int .i64 (-3), .int .i64 5] 23) = W63 at *
    generalize w62.heap.size = g63 at *
    refine (of_calls 3 4 5 _).mono ?_
    rintro e w64 ⟨rfl, hb⟩
    replace NN := Lib.hid (Bgo NN.out hb)
    replace BL := Lib.hid (blk_next hb BL.out)
    replace BG := Lib.hid (blk_next hb BG.out)
    replace ZR := Lib.hid (blk_next hb ZR.out)
    replace v0 := Lib.hid (blk_next hb v0.out)
    replace v1 := Lib.hid (blk_next hb v1.out)
    replace P1 := Lib.hid (blk_next hb P1.out)
    replace v2 := Lib.hid (blk_next hb v2.out)
    replace v3 := Lib.hid (blk_next hb v3.out)
    replace Q1 := Lib.hid (blk_next hb Q1.out)
    replace v4 := Lib.hid (blk_next hb v4.out)
    replace N1 := Lib.hid (blk_next hb N1.out)
    replace v5 := Lib.hid (blk_next hb v5.out)
    replace R1 := Lib.hid (blk_next hb R1.out)
    replace v6 := Lib.hid (blk_next hb v6.out)
    replace v7 := Lib.hid (blk_next hb v7.out)
    replace S1 := Lib.hid (blk_next hb S1.out)
    replace v8 := Lib.hid (blk_next hb v8.out)
    replace U1 := Lib.hid (blk_next hb U1.out)
    clear hb
    go_wp2_with fail
    refine (turn_calls tuB _).mono ?_
    rintro e w65 ⟨rfl, hb⟩
    replace NN := Lib.hid (Bgo NN.out hb)
    replace BL := Lib.hid (blk_next hb BL.out)
    replace BG := Lib.hid (blk_next hb BG.out)
    replace ZR := Lib.hid (blk_next hb ZR.out)
    replace v0 := Lib.hid (blk_next hb v0.out)
    replace v1 := Lib.hid (blk_next hb v1.out)
    replace P1 := Lib.hid (blk_next hb P1.out)
    replace v2 := Lib.hid (blk_next hb v2.out)
    replace v3 := Lib.hid (blk_next hb v3.out)
    replace Q1 := Lib.hid (blk_next hb Q1.out)
    replace v4 := Lib.hid (blk_next hb v4.out)
    replace N1 := Lib.hid (blk_next hb N1.out)
    replace v5 := Lib.hid (blk_next hb v5.out)
    replace R1 := Lib.hid (blk_next hb R1.out)
    replace v6 := Lib.hid (blk_next hb v6.out)
    replace v7 := Lib.hid (blk_next hb v7.out)
    replace S1 := Lib.hid (blk_next hb S1.out)
    replace v8 := Lib.hid (blk_next hb v8.out)
    replace U1 := Lib.hid (blk_next hb U1.out)
    clear hb
    have HB : Hid (Below w65.heap.size w65 (w65.alloc (.cells #[.int .i64 4, .int .i64 (-3), .int .i64 5] 23))) := Lib.hid (Bal (Below.refl _ _) _)
    have W1 := Lib.hid (blk_new w65 (.cells #[.int .i64 4, .int .i64 (-3), .int .i64 5] 23))
    have LT_W1 : Hid (w.heap.size < w65.heap.size ∧ w27.heap.size < w65.heap.size ∧ w27.heap.size + 1 < w65.heap.size ∧ g29 < w65.heap.size ∧ g31 < w65.heap.size ∧ g33 < w65.heap.size ∧ g35 < w65.heap.size ∧ g39 < w65.heap.size ∧ g41 < w65.heap.size ∧ g44 < w65.heap.size ∧ g47 < w65.heap.size ∧ g49 < w65.heap.size ∧ g52 < w65.heap.size ∧ g54 < w65.heap.size ∧ g56 < w65.heap.size ∧ g58 < w65.heap.size ∧ g60 < w65.heap.size ∧ g63 < w65.heap.size ∧ w.heap.size ≤ w65.heap.size) := Lib.hid ⟨blk_lt BL.out, blk_lt BG.out, blk_lt ZR.out, blk_lt v0.out, blk_lt v1.out, blk_lt P1.out, blk_lt v2.out, blk_lt v3.out, blk_lt Q1.out, blk_lt v4.out, blk_lt N1.out, blk_lt v5.out, blk_lt R1.out, blk_lt v6.out, blk_lt v7.out, blk_lt S1.out, blk_lt v8.out, blk_lt U1.out, NN.out.size⟩
    replace NN := Lib.hid (Bgo NN.out HB.out)
    replace BL := Lib.hid (blk_next HB.out BL.out)
    replace BG := Lib.hid (blk_next HB.out BG.out)
    replace ZR := Lib.hid (blk_next HB.out ZR.out)
    replace v0 := Lib.hid (blk_next HB.out v0.out)
    replace v1 := Lib.hid (blk_next HB.out v1.out)
    replace P1 := Lib.hid (blk_next HB.out P1.out)
    replace v2 := Lib.hid (blk_next HB.out v2.out)
    replace v3 := Lib.hid (blk_next HB.out v3.out)
    replace Q1 := Lib.hid (blk_next HB.out Q1.out)
    replace v4 := Lib.hid (blk_next HB.out v4.out)
    replace N1 := Lib.hid (blk_next HB.out N1.out)
    replace v5 := Lib.hid (blk_next HB.out v5.out)
    replace R1 := Lib.hid (blk_next HB.out R1.out)
    replace v6 := Lib.hid (blk_next HB.out v6.out)
    replace v7 := Lib.hid (blk_next HB.out v7.out)
    replace S1 := Lib.hid (blk_next HB.out S1.out)
    replace v8 := Lib.hid (blk_next HB.out v8.out)
    replace U1 := Lib.hid (blk_next HB.out U1.out)
    clear HB
    go_wp2_with fail
    generalize w65.alloc (.cells #[.int .i64 4, .int .i64 (-3), .int .i64 5] 23) = WS67 at *
    generalize w65.heap.size = gs67 at *
    clear BL BG v0 v1 v2 v3 v4 v5 v6 v7 v8
    refine region_I (S := SK [(16, g33, .cells #[.int .i64 1, .int .i64 0, .int .i64 1] 23), (33, g41, .cells #[.int .i64 0, .int .i64 0, .int .i64 1] 23), (34, w27.heap.size + 1, .cells #[.int .i64 0, .int .i64 0, .int .i64 1] 23), (46, g47, .cells #[.int .i64 1000000000000000000, .int .i64 1] 41)]) (by kernel_rfl) ?_
    have HAL := Lib.hid (fun (k : Nat) => (show SK [(16, g33, .cells #[.int .i64 1, .int .i64 0, .int .i64 1] 23), (33, g41, .cells #[.int .i64 0, .int .i64 0, .int .i64 1] 23), (34, w27.heap.size + 1, .cells #[.int .i64 0, .int .i64 0, .int .i64 1] 23), (46, g47, .cells #[.int .i64 1000000000000000000, .int .i64 1] 41)] k WS67.drew from fun p hp e => by
      simp only [List.mem_cons, List.not_mem_nil, or_false] at hp
      rcases hp with rfl | rfl | rfl | rfl
      · exact P1.out
      · exact Q1.out
      · exact ZR.out
      · exact N1.out))
    have HD := Lib.hid (Below.drew (Below.refl WS67.heap.size WS67))
    replace NN := Lib.hid (Bgo NN.out HD.out)
    replace ZR := Lib.hid (blk_next HD.out ZR.out)
    replace P1 := Lib.hid (blk_next HD.out P1.out)
    replace Q1 := Lib.hid (blk_next HD.out Q1.out)
    replace N1 := Lib.hid (blk_next HD.out N1.out)
    replace R1 := Lib.hid (blk_next HD.out R1.out)
    replace S1 := Lib.hid (blk_next HD.out S1.out)
    replace U1 := Lib.hid (blk_next HD.out U1.out)
    replace W1 := Lib.hid (blk_next HD.out W1.out)
    clear HD
    refine only_I 0 (by kernel_rfl) rfl (fun K' hK' => ?_)
    go_simp
    refine hK'.out _ _ (fun k _ h => h) ?_
    clear hK' K'
    try simp only [Act.put, List.setIfInBounds_toArray, List.set_cons_zero, List.set_cons_succ]
    refine only_I 1 (by kernel_rfl) rfl (fun K' hK' => ?_)
    go_simp
    go_at_call 9
    refine (alive_calls _ (GG.out.next NN.out)).mono ?_
    rintro e x68 ⟨rfl, hb⟩
    replace NN := Lib.hid (Bgo NN.out hb)
    replace ZR := Lib.hid (blk_next hb ZR.out)
    replace P1 := Lib.hid (blk_next hb P1.out)
    replace Q1 := Lib.hid (blk_next hb Q1.out)
    replace N1 := Lib.hid (blk_next hb N1.out)
    replace R1 := Lib.hid (blk_next hb R1.out)
    replace S1 := Lib.hid (blk_next hb S1.out)
    replace U1 := Lib.hid (blk_next hb U1.out)
    replace W1 := Lib.hid (blk_next hb W1.out)
    go_simp
    refine hK'.out _ _ (fun k _ hS => hS.next hb) ?_
    clear hK' K'
    try simp only [Act.put, List.setIfInBounds_toArray, List.set_cons_zero, List.set_cons_succ]
    replace HAL := Lib.hid (fun k => (HAL.out k).next hb)
    refine only_I 2 (by kernel_rfl) rfl (fun K' hK' => ?_)
    go_simp
    refine hK'.out _ _ (fun k _ h => h) ?_
    clear hK' K'
    try simp only [Act.put, List.setIfInBounds_toArray, List.set_cons_zero, List.set_cons_succ]
    refine only_I 3 (by kernel_rfl) rfl (fun K' hK' => ?_)
    go_simp
    refine hK'.out _ _ (fun k _ h => h) ?_
    clear hK' K'
    try simp only [Act.put, List.setIfInBounds_toArray, List.set_cons_zero, List.set_cons_succ]
    refine only_I 4 (by kernel_rfl) rfl (fun K' hK' => ?_)
    go_simp
    refine hK'.out _ _ (fun k _ h => h) ?_
    clear hK' K'
    try simp only [Act.put, List.setIfInBounds_toArray, List.set_cons_zero, List.set_cons_succ]
    refine only_I 5 (by kernel_rfl) rfl (fun K' hK' => ?_)
    go_simp
    refine hK'.out _ _ (fun k _ h => h) ?_
    clear hK' K'
    try simp only [Act.put, List.setIfInBounds_toArray, List.set_cons_zero, List.set_cons_succ]
    refine only_I 6 (by kernel_rfl) rfl (fun K' hK' => ?_)
    go_simp
    refine hK'.out _ _ (fun k _ h => h) ?_
    clear hK' K'
    try simp only [Act.put, List.setIfInBounds_toArray, List.set_cons_zero, List.set_cons_succ]
    refine only_I 7 (by kernel_rfl) rfl (fun K' hK' => ?_)
    go_simp
    refine hK'.out _ _ (fun k _ h => h) ?_
    clear hK' K'
    try simp only [Act.put, List.setIfInBounds_toArray, List.set_cons_zero, List.set_cons_succ]
    refine only_I 8 (by kernel_rfl) rfl (fun K' hK' => ?_)
    go_simp
    refine hK'.out _ _ (fun k _ h => h) ?_
    clear hK' K'
    try simp only [Act.put, List.setIfInBounds_toArray, List.set_cons_zero, List.set_cons_succ]
    refine only_I 9 (by kernel_rfl) rfl (fun K' hK' => ?_)
    go_simp
    refine hK'.out _ _ (fun k _ h => h) ?_
    clear hK' K'
    try simp only [Act.put, List.setIfInBounds_toArray, List.set_cons_zero, List.set_cons_succ]
    refine only_I 10 (by kernel_rfl) rfl (fun K' hK' => ?_)
    go_simp
    refine hK'.out _ _ (fun k _ h => h) ?_
    clear hK' K'
    try simp only [Act.put, List.setIfInBounds_toArray, List.set_cons_zero, List.set_cons_succ]
    refine only_I 11 (by kernel_rfl) rfl (fun K' hK' => ?_)
    go_simp
    refine hK'.out _ _ (fun k _ h => h) ?_
    clear hK' K'
    try simp only [Act.put, List.setIfInBounds_toArray, List.set_cons_zero, List.set_cons_succ]
    refine only_I 12 (by kernel_rfl) rfl (fun K' hK' => ?_)
    go_simp
    refine hK'.out _ _ (fun k _ h => h) ?_
    clear hK' K'
    try simp only [Act.put, List.setIfInBounds_toArray, List.set_cons_zero, List.set_cons_succ]
    refine only_I 13 (by kernel_rfl) rfl (fun K' hK' => ?_)
    go_simp
    refine hK'.out _ _ (fun k _ h => h) ?_
    clear hK' K'
    try simp only [Act.put, List.setIfInBounds_toArray, List.set_cons_zero, List.set_cons_succ]
    refine only_I 14 (by kernel_rfl) rfl (fun K' hK' => ?_)
    go_simp
    refine hK'.out _ _ (fun k _ h => h) ?_
    clear hK' K'
    try simp only [Act.put, List.setIfInBounds_toArray, List.set_cons_zero, List.set_cons_succ]
    refine only_I 15 (by kernel_rfl) rfl (fun K' hK' => ?_)
    go_simp
    refine hK'.out _ _ (fun k _ h => h) ?_
    clear hK' K'
    try simp only [Act.put, List.setIfInBounds_toArray, List.set_cons_zero, List.set_cons_succ]
    refine take_I 16 (.agg #[.int .i64 1, .int .i64 0, .int .i64 1]) (some 180) rfl (by kernel_rfl) (by kernel_rfl) (by kernel_rfl) rfl (fun _ _ _ h => h) (Or.inl ⟨by rfl, ?_⟩) (HAL.out 16) ?_
    · intro X hX
      have hh := hX (16, g33, .cells #[.int .i64 1, .int .i64 0, .int .i64 1] 23) (List.Mem.head _) rfl
      have hh0 := blk_cell hh 0 _ rfl
      have hh1 := blk_cell hh 1 _ rfl
      have hh2 := blk_cell hh 2 _ rfl
      have hhl := blk_lt hh
      clear hh
      clear hX
      go_simp
    try simp only [Act.put, List.setIfInBounds_toArray, List.set_cons_zero, List.set_cons_succ]
    refine only_I 17 (by kernel_rfl) rfl (fun K' hK' => ?_)
    go_simp
    go_at_call 20
    refine (of_calls 1 0 1 _).mono ?_
    rintro e x69 ⟨rfl, hb⟩
    replace NN := Lib.hid (Bgo NN.out hb)
    replace ZR := Lib.hid (blk_next hb ZR.out)
    replace P1 := Lib.hid (blk_next hb P1.out)
    replace Q1 := Lib.hid (blk_next hb Q1.out)
    replace N1 := Lib.hid (blk_next hb N1.out)
    replace R1 := Lib.hid (blk_next hb R1.out)
    replace S1 := Lib.hid (blk_next hb S1.out)
    replace U1 := Lib.hid (blk_next hb U1.out)
    replace W1 := Lib.hid (blk_next hb W1.out)
    go_simp
    refine hK'.out _ _ (fun k _ hS => hS.next hb) ?_
    clear hK' K'
    try simp only [Act.put, List.setIfInBounds_toArray, List.set_cons_zero, List.set_cons_succ]
    replace HAL := Lib.hid (fun k => (HAL.out k).next hb)
    refine only_I 18 (by kernel_rfl) rfl (fun K' hK' => ?_)
    go_simp
    refine hK'.out _ _ (fun k _ h => h) ?_
    clear hK' K'
    try simp only [Act.put, List.setIfInBounds_toArray, List.set_cons_zero, List.set_cons_succ]
    refine only_I 19 (by kernel_rfl) rfl (fun K' hK' => ?_)
    go_simp
    refine hK'.out _ _ (fun k _ h => h) ?_
    clear hK' K'
    try simp only [Act.put, List.setIfInBounds_toArray, List.set_cons_zero, List.set_cons_succ]
    refine only_I 20 (by kernel_rfl) rfl (fun K' hK' => ?_)
    go_simp
    refine hK'.out _ _ (fun k _ h => h) ?_
    clear hK' K'
    try simp only [Act.put, List.setIfInBounds_toArray, List.set_cons_zero, List.set_cons_succ]
    refine only_I 21 (by kernel_rfl) rfl (fun K' hK' => ?_)
    go_simp
    refine hK'.out _ _ (fun k _ h => h) ?_
    clear hK' K'
    try simp only [Act.put, List.setIfInBounds_toArray, List.set_cons_zero, List.set_cons_succ]
    refine only_I 22 (by kernel_rfl) rfl (fun K' hK' => ?_)
    go_simp
    refine hK'.out _ _ (fun k _ h => h) ?_
    clear hK' K'
    try simp only [Act.put, List.setIfInBounds_toArray, List.set_cons_zero, List.set_cons_succ]
    refine only_I 23 (by kernel_rfl) rfl (fun K' hK' => ?_)
    go_simp
    refine hK'.out _ _ (fun k _ h => h) ?_
    clear hK' K'
    try simp only [Act.put, List.setIfInBounds_toArray, List.set_cons_zero, List.set_cons_succ]
    refine only_I 24 (by kernel_rfl) rfl (fun K' hK' => ?_)
    go_simp
    refine hK'.out _ _ (fun k _ h => h) ?_
    clear hK' K'
    try simp only [Act.put, List.setIfInBounds_toArray, List.set_cons_zero, List.set_cons_succ]
    refine only_I 25 (by kernel_rfl) rfl (fun K' hK' => ?_)
    go_simp
    refine hK'.out _ _ (fun k _ h => h) ?_
    clear hK' K'
    try simp only [Act.put, List.setIfInBounds_toArray, List.set_cons_zero, List.set_cons_succ]
    refine only_I 26 (by kernel_rfl) rfl (fun K' hK' => ?_)
    go_simp
    refine hK'.out _ _ (fun k _ h => h) ?_
    clear hK' K'
    try simp only [Act.put, List.setIfInBounds_toArray, List.set_cons_zero, List.set_cons_succ]
    refine only_I 27 (by kernel_rfl) rfl (fun K' hK' => ?_)
    go_simp
    refine hK'.out _ _ (fun k _ h => h) ?_
    clear hK' K'
    try simp only [Act.put, List.setIfInBounds_toArray, List.set_cons_zero, List.set_cons_succ]
    refine only_I 28 (by kernel_rfl) rfl (fun K' hK' => ?_)
    go_simp
    refine hK'.out _ _ (fun k _ h => h) ?_
    clear hK' K'
    try simp only [Act.put, List.setIfInBounds_toArray, List.set_cons_zero, List.set_cons_succ]
    refine only_I 29 (by kernel_rfl) rfl (fun K' hK' => ?_)
    go_simp
    refine hK'.out _ _ (fun k _ h => h) ?_
    clear hK' K'
    try simp only [Act.put, List.setIfInBounds_toArray, List.set_cons_zero, List.set_cons_succ]
    refine only_I 30 (by kernel_rfl) rfl (fun K' hK' => ?_)
    go_simp
    refine hK'.out _ _ (fun k _ h => h) ?_
    clear hK' K'
    try simp only [Act.put, List.setIfInBounds_toArray, List.set_cons_zero, List.set_cons_succ]
    refine only_I 31 (by kernel_rfl) rfl (fun K' hK' => ?_)
    go_simp
    refine hK'.out _ _ (fun k _ h => h) ?_
    clear hK' K'
    try simp only [Act.put, List.setIfInBounds_toArray, List.set_cons_zero, List.set_cons_succ]
    refine only_I 32 (by kernel_rfl) rfl (fun K' hK' => ?_)
    go_simp
    refine hK'.out _ _ (fun k _ h => h) ?_
    clear hK' K'
    try simp only [Act.put, List.setIfInBounds_toArray, List.set_cons_zero, List.set_cons_succ]
    refine take_I 33 (.agg #[.int .i64 0, .int .i64 0, .int .i64 1]) (some 197) rfl (by kernel_rfl) (by kernel_rfl) (by kernel_rfl) rfl (fun _ _ _ h => h) (Or.inl ⟨by rfl, ?_⟩) (HAL.out 33) ?_
    · intro X hX
      have hh := hX (33, g41, .cells #[.int .i64 0, .int .i64 0, .int .i64 1] 23) (List.Mem.tail _ (List.Mem.head _)) rfl
      have hh0 := blk_cell hh 0 _ rfl
      have hh1 := blk_cell hh 1 _ rfl
      have hh2 := blk_cell hh 2 _ rfl
      have hhl := blk_lt hh
      clear hh
      clear hX
      go_simp
    try simp only [Act.put, List.setIfInBounds_toArray, List.set_cons_zero, List.set_cons_succ]
    refine take_I 34 (.agg #[.int .i64 0, .int .i64 0, .int .i64 1]) (some 198) rfl (by kernel_rfl) (by kernel_rfl) (by kernel_rfl) rfl (fun _ _ _ h => h) (Or.inl ⟨by rfl, ?_⟩) (HAL.out 34) ?_
    · intro X hX
      have hh := hX (34, w27.heap.size + 1, .cells #[.int .i64 0, .int .i64 0, .int .i64 1] 23) (List.Mem.tail _ (List.Mem.tail _ (List.Mem.head _))) rfl
      have hh0 := blk_cell hh 0 _ rfl
      have hh1 := blk_cell hh 1 _ rfl
      have hh2 := blk_cell hh 2 _ rfl
      have hhl := blk_lt hh
      clear hh
      clear hX
      go_simp
    try simp only [Act.put, List.setIfInBounds_toArray, List.set_cons_zero, List.set_cons_succ]
    refine only_I 35 (by kernel_rfl) rfl (fun K' hK' => ?_)
    go_simp
    refine hK'.out _ _ (fun k _ h => h) ?_
    clear hK' K'
    try simp only [Act.put, List.setIfInBounds_toArray, List.set_cons_zero, List.set_cons_succ]
    refine only_I 36 (by kernel_rfl) rfl (fun K' hK' => ?_)
    go_simp
    refine hK'.out _ _ (fun k _ h => h) ?_
    clear hK' K'
    try simp only [Act.put, List.setIfInBounds_toArray, List.set_cons_zero, List.set_cons_succ]
    refine only_I 37 (by kernel_rfl) rfl (fun K' hK' => ?_)
    go_simp
    refine hK'.out _ _ (fun k _ h => h) ?_
    clear hK' K'
    try simp only [Act.put, List.setIfInBounds_toArray, List.set_cons_zero, List.set_cons_succ]
    refine only_I 38 (by kernel_rfl) rfl (fun K' hK' => ?_)
    go_simp
    refine hK'.out _ _ (fun k _ h => h) ?_
    clear hK' K'
    try simp only [Act.put, List.setIfInBounds_toArray, List.set_cons_zero, List.set_cons_succ]
    refine only_I 39 (by kernel_rfl) rfl (fun K' hK' => ?_)
    go_simp
    refine hK'.out _ _ (fun k _ h => h) ?_
    clear hK' K'
    try simp only [Act.put, List.setIfInBounds_toArray, List.set_cons_zero, List.set_cons_succ]
    refine only_I 40 (by kernel_rfl) rfl (fun K' hK' => ?_)
    go_simp
    refine hK'.out _ _ (fun k _ h => h) ?_
    clear hK' K'
    try simp only [Act.put, List.setIfInBounds_toArray, List.set_cons_zero, List.set_cons_succ]
    refine only_I 41 (by kernel_rfl) rfl (fun K' hK' => ?_)
    go_simp
    refine hK'.out _ _ (fun k _ h => h) ?_
    clear hK' K'
    try simp only [Act.put, List.setIfInBounds_toArray, List.set_cons_zero, List.set_cons_succ]
    refine only_I 42 (by kernel_rfl) rfl (fun K' hK' => ?_)
    go_simp
    refine hK'.out _ _ (fun k _ h => h) ?_
    clear hK' K'
    try simp only [Act.put, List.setIfInBounds_toArray, List.set_cons_zero, List.set_cons_succ]
    refine only_I 43 (by kernel_rfl) rfl (fun K' hK' => ?_)
    go_simp
    refine hK'.out _ _ (fun k _ h => h) ?_
    clear hK' K'
    try simp only [Act.put, List.setIfInBounds_toArray, List.set_cons_zero, List.set_cons_succ]
    refine only_I 44 (by kernel_rfl) rfl (fun K' hK' => ?_)
    go_simp
    refine hK'.out _ _ (fun k _ h => h) ?_
    clear hK' K'
    try simp only [Act.put, List.setIfInBounds_toArray, List.set_cons_zero, List.set_cons_succ]
    refine only_I 45 (by kernel_rfl) rfl (fun K' hK' => ?_)
    go_simp
    refine hK'.out _ _ (fun k _ h => h) ?_
    clear hK' K'
    try simp only [Act.put, List.setIfInBounds_toArray, List.set_cons_zero, List.set_cons_succ]
    refine take_I 46 (.agg #[.int .i64 1000000000000000000, .int .i64 1]) (some 210) rfl (by kernel_rfl) (by kernel_rfl) (by kernel_rfl) rfl (fun _ _ _ h => h) (Or.inl ⟨by rfl, ?_⟩) (HAL.out 46) ?_
    · intro X hX
      have hh := hX (46, g47, .cells #[.int .i64 1000000000000000000, .int .i64 1] 41) (List.Mem.tail _ (List.Mem.tail _ (List.Mem.tail _ (List.Mem.head _)))) rfl
      have hh0 := blk_cell hh 0 _ rfl
      have hh1 := blk_cell hh 1 _ rfl
      have hhl := blk_lt hh
      clear hh
      clear hX
      go_simp
    try simp only [Act.put, List.setIfInBounds_toArray, List.set_cons_zero, List.set_cons_succ]
    refine only_I 47 (by kernel_rfl) rfl (fun K' hK' => ?_)
    go_simp
    refine hK'.out _ _ (fun k _ h => h) ?_
    clear hK' K'
    try simp only [Act.put, List.setIfInBounds_toArray, List.set_cons_zero, List.set_cons_succ]
    refine only_I 48 (by kernel_rfl) rfl (fun K' hK' => ?_)
    go_simp
    refine hK'.out _ _ (fun k _ h => h) ?_
    clear hK' K'
    try simp only [Act.put, List.setIfInBounds_toArray, List.set_cons_zero, List.set_cons_succ]
    refine only_I 49 (by kernel_rfl) rfl (fun K' hK' => ?_)
    go_simp
    refine hK'.out _ _ (fun k _ h => h) ?_
    clear hK' K'
    try simp only [Act.put, List.setIfInBounds_toArray, List.set_cons_zero, List.set_cons_succ]
    refine only_I 50 (by kernel_rfl) rfl (fun K' hK' => ?_)
    go_simp
    refine hK'.out _ _ (fun k _ h => h) ?_
    clear hK' K'
    try simp only [Act.put, List.setIfInBounds_toArray, List.set_cons_zero, List.set_cons_succ]
    refine only_I 51 (by kernel_rfl) rfl (fun K' hK' => ?_)
    go_simp
    refine hK'.out _ _ (fun k _ h => h) ?_
    clear hK' K'
    try simp only [Act.put, List.setIfInBounds_toArray, List.set_cons_zero, List.set_cons_succ]
    refine only_I 52 (by kernel_rfl) rfl (fun K' hK' => ?_)
    go_simp
    refine hK'.out _ _ (fun k _ h => h) ?_
    clear hK' K'
    try simp only [Act.put, List.setIfInBounds_toArray, List.set_cons_zero, List.set_cons_succ]
    refine only_I 53 (by kernel_rfl) rfl (fun K' hK' => ?_)
    go_simp
    refine hK'.out _ _ (fun k _ h => h) ?_
    clear hK' K'
    try simp only [Act.put, List.setIfInBounds_toArray, List.set_cons_zero, List.set_cons_succ]
    refine only_I 54 (by kernel_rfl) rfl (fun K' hK' => ?_)
    go_simp
    refine hK'.out _ _ (fun k _ h => h) ?_
    clear hK' K'
    try simp only [Act.put, List.setIfInBounds_toArray, List.set_cons_zero, List.set_cons_succ]
    refine only_I 55 (by kernel_rfl) rfl (fun K' hK' => ?_)
    go_simp
    refine hK'.out _ _ (fun k _ h => h) ?_
    clear hK' K'
    try simp only [Act.put, List.setIfInBounds_toArray, List.set_cons_zero, List.set_cons_succ]
    refine only_I 56 (by kernel_rfl) rfl (fun K' hK' => ?_)
    go_simp
    refine hK'.out _ _ (fun k _ h => h) ?_
    clear hK' K'
    try simp only [Act.put, List.setIfInBounds_toArray, List.set_cons_zero, List.set_cons_succ]
    refine only_I 57 (by kernel_rfl) rfl (fun K' hK' => ?_)
    go_simp
    refine hK'.out _ _ (fun k _ h => h) ?_
    clear hK' K'
    try simp only [Act.put, List.setIfInBounds_toArray, List.set_cons_zero, List.set_cons_succ]
    refine only_I 58 (by kernel_rfl) rfl (fun K' hK' => ?_)
    go_simp
    refine hK'.out _ _ (fun k _ h => h) ?_
    clear hK' K'
    try simp only [Act.put, List.setIfInBounds_toArray, List.set_cons_zero, List.set_cons_succ]
    clear HAL
    refine done_I (by kernel_rfl) ?_ _
    go_wp2_with fail
    refine region_I (S := SK [(6, g52, .cells #[.int .i64 (-1), .int .i64 0, .int .i64 1] 23), (23, g58, .cells #[.int .i64 (-3), .int .i64 2, .int .i64 1] 23), (36, g63, .cells #[.int .i64 4, .int .i64 (-3), .int .i64 5] 23), (45, gs67, .cells #[.int .i64 4, .int .i64 (-3), .int .i64 5] 23)]) (by kernel_rfl) ?_
    have HAL := Lib.hid (fun (k : Nat) => (show SK [(6, g52, .cells #[.int .i64 (-1), .int .i64 0, .int .i64 1] 23), (23, g58, .cells #[.int .i64 (-3), .int .i64 2, .int .i64 1] 23), (36, g63, .cells #[.int .i64 4, .int .i64 (-3), .int .i64 5] 23), (45, gs67, .cells #[.int .i64 4, .int .i64 (-3), .int .i64 5] 23)] k x69.drew from fun p hp e => by
      simp only [List.mem_cons, List.not_mem_nil, or_false] at hp
      rcases hp with rfl | rfl | rfl | rfl
      · exact R1.out
      · exact S1.out
      · exact U1.out
      · exact W1.out))
    have HD := Lib.hid (Below.drew (Below.refl x69.heap.size x69))
    replace NN := Lib.hid (Bgo NN.out HD.out)
    replace ZR := Lib.hid (blk_next HD.out ZR.out)
    replace P1 := Lib.hid (blk_next HD.out P1.out)
    replace Q1 := Lib.hid (blk_next HD.out Q1.out)
    replace N1 := Lib.hid (blk_next HD.out N1.out)
    replace R1 := Lib.hid (blk_next HD.out R1.out)
    replace S1 := Lib.hid (blk_next HD.out S1.out)
    replace U1 := Lib.hid (blk_next HD.out U1.out)
    replace W1 := Lib.hid (blk_next HD.out W1.out)
    clear HD
    refine only_I 0 (by kernel_rfl) rfl (fun K' hK' => ?_)
    go_simp
    refine hK'.out _ _ (fun k _ h => h) ?_
    clear hK' K'
    try simp only [Act.put, List.setIfInBounds_toArray, List.set_cons_zero, List.set_cons_succ]
    refine only_I 1 (by kernel_rfl) rfl (fun K' hK' => ?_)
    go_simp
    refine hK'.out _ _ (fun k _ h => h) ?_
    clear hK' K'
    try simp only [Act.put, List.setIfInBounds_toArray, List.set_cons_zero, List.set_cons_succ]
    refine only_I 2 (by kernel_rfl) rfl (fun K' hK' => ?_)
    go_simp
    refine hK'.out _ _ (fun k _ h => h) ?_
    clear hK' K'
    try simp only [Act.put, List.setIfInBounds_toArray, List.set_cons_zero, List.set_cons_succ]
    refine only_I 3 (by kernel_rfl) rfl (fun K' hK' => ?_)
    go_simp
    refine hK'.out _ _ (fun k _ h => h) ?_
    clear hK' K'
    try simp only [Act.put, List.setIfInBounds_toArray, List.set_cons_zero, List.set_cons_succ]
    refine only_I 4 (by kernel_rfl) rfl (fun K' hK' => ?_)
    go_simp
    refine hK'.out _ _ (fun k _ h => h) ?_
    clear hK' K'
    try simp only [Act.put, List.setIfInBounds_toArray, List.set_cons_zero, List.set_cons_succ]
    refine only_I 5 (by kernel_rfl) rfl (fun K' hK' => ?_)
    go_simp
    refine hK'.out _ _ (fun k _ h => h) ?_
    clear hK' K'
    try simp only [Act.put, List.setIfInBounds_toArray, List.set_cons_zero, List.set_cons_succ]
    refine take_I 6 (.agg #[.int .i64 (-1), .int .i64 0, .int .i64 1]) (some 228) rfl (by kernel_rfl) (by kernel_rfl) (by kernel_rfl) rfl (fun _ _ _ h => h) (Or.inl ⟨by rfl, ?_⟩) (HAL.out 6) ?_
    · intro X hX
      have hh := hX (6, g52, .cells #[.int .i64 (-1), .int .i64 0, .int .i64 1] 23) (List.Mem.head _) rfl
      have hh0 := blk_cell hh 0 _ rfl
      have hh1 := blk_cell hh 1 _ rfl
      have hh2 := blk_cell hh 2 _ rfl
      have hhl := blk_lt hh
      clear hh
      clear hX
      go_simp
    try simp only [Act.put, List.setIfInBounds_toArray, List.set_cons_zero, List.set_cons_succ]
    refine only_I 7 (by kernel_rfl) rfl (fun K' hK' => ?_)
    go_simp
    go_at_call 20
    refine (of_calls (-1) 0 1 _).mono ?_
    rintro e x70 ⟨rfl, hb⟩
    replace NN := Lib.hid (Bgo NN.out hb)
    replace ZR := Lib.hid (blk_next hb ZR.out)
    replace P1 := Lib.hid (blk_next hb P1.out)
    replace Q1 := Lib.hid (blk_next hb Q1.out)
    replace N1 := Lib.hid (blk_next hb N1.out)
    replace R1 := Lib.hid (blk_next hb R1.out)
    replace S1 := Lib.hid (blk_next hb S1.out)
    replace U1 := Lib.hid (blk_next hb U1.out)
    replace W1 := Lib.hid (blk_next hb W1.out)
    go_simp
    refine hK'.out _ _ (fun k _ hS => hS.next hb) ?_
    clear hK' K'
    try simp only [Act.put, List.setIfInBounds_toArray, List.set_cons_zero, List.set_cons_succ]
    replace HAL := Lib.hid (fun k => (HAL.out k).next hb)
    refine only_I 8 (by kernel_rfl) rfl (fun K' hK' => ?_)
    go_simp
    refine hK'.out _ _ (fun k _ h => h) ?_
    clear hK' K'
    try simp only [Act.put, List.setIfInBounds_toArray, List.set_cons_zero, List.set_cons_succ]
    refine only_I 9 (by kernel_rfl) rfl (fun K' hK' => ?_)
    go_simp
    refine hK'.out _ _ (fun k _ h => h) ?_
    clear hK' K'
    try simp only [Act.put, List.setIfInBounds_toArray, List.set_cons_zero, List.set_cons_succ]
    refine only_I 10 (by kernel_rfl) rfl (fun K' hK' => ?_)
    go_simp
    refine hK'.out _ _ (fun k _ h => h) ?_
    clear hK' K'
    try simp only [Act.put, List.setIfInBounds_toArray, List.set_cons_zero, List.set_cons_succ]
    refine only_I 11 (by kernel_rfl) rfl (fun K' hK' => ?_)
    go_simp
    refine hK'.out _ _ (fun k _ h => h) ?_
    clear hK' K'
    try simp only [Act.put, List.setIfInBounds_toArray, List.set_cons_zero, List.set_cons_succ]
    refine only_I 12 (by kernel_rfl) rfl (fun K' hK' => ?_)
    go_simp
    refine hK'.out _ _ (fun k _ h => h) ?_
    clear hK' K'
    try simp only [Act.put, List.setIfInBounds_toArray, List.set_cons_zero, List.set_cons_succ]
    refine only_I 13 (by kernel_rfl) rfl (fun K' hK' => ?_)
    go_simp
    refine hK'.out _ _ (fun k _ h => h) ?_
    clear hK' K'
    try simp only [Act.put, List.setIfInBounds_toArray, List.set_cons_zero, List.set_cons_succ]
    refine only_I 14 (by kernel_rfl) rfl (fun K' hK' => ?_)
    go_simp
    refine hK'.out _ _ (fun k _ h => h) ?_
    clear hK' K'
    try simp only [Act.put, List.setIfInBounds_toArray, List.set_cons_zero, List.set_cons_succ]
    refine only_I 15 (by kernel_rfl) rfl (fun K' hK' => ?_)
    go_simp
    refine hK'.out _ _ (fun k _ h => h) ?_
    clear hK' K'
    try simp only [Act.put, List.setIfInBounds_toArray, List.set_cons_zero, List.set_cons_succ]
    refine only_I 16 (by kernel_rfl) rfl (fun K' hK' => ?_)
    go_simp
    refine hK'.out _ _ (fun k _ h => h) ?_
    clear hK' K'
    try simp only [Act.put, List.setIfInBounds_toArray, List.set_cons_zero, List.set_cons_succ]
    refine only_I 17 (by kernel_rfl) rfl (fun K' hK' => ?_)
    go_simp
    refine hK'.out _ _ (fun k _ h => h) ?_
    clear hK' K'
    try simp only [Act.put, List.setIfInBounds_toArray, List.set_cons_zero, List.set_cons_succ]
    refine only_I 18 (by kernel_rfl) rfl (fun K' hK' => ?_)
    go_simp
    refine hK'.out _ _ (fun k _ h => h) ?_
    clear hK' K'
    try simp only [Act.put, List.setIfInBounds_toArray, List.set_cons_zero, List.set_cons_succ]
    refine only_I 19 (by kernel_rfl) rfl (fun K' hK' => ?_)
    go_simp
    refine hK'.out _ _ (fun k _ h => h) ?_
    clear hK' K'
    try simp only [Act.put, List.setIfInBounds_toArray, List.set_cons_zero, List.set_cons_succ]
    refine only_I 20 (by kernel_rfl) rfl (fun K' hK' => ?_)
    go_simp
    refine hK'.out _ _ (fun k _ h => h) ?_
    clear hK' K'
    try simp only [Act.put, List.setIfInBounds_toArray, List.set_cons_zero, List.set_cons_succ]
    refine only_I 21 (by kernel_rfl) rfl (fun K' hK' => ?_)
    go_simp
    refine hK'.out _ _ (fun k _ h => h) ?_
    clear hK' K'
    try simp only [Act.put, List.setIfInBounds_toArray, List.set_cons_zero, List.set_cons_succ]
    refine only_I 22 (by kernel_rfl) rfl (fun K' hK' => ?_)
    go_simp
    refine hK'.out _ _ (fun k _ h => h) ?_
    clear hK' K'
    try simp only [Act.put, List.setIfInBounds_toArray, List.set_cons_zero, List.set_cons_succ]
    refine take_I 23 (.agg #[.int .i64 (-3), .int .i64 2, .int .i64 1]) (some 245) rfl (by kernel_rfl) (by kernel_rfl) (by kernel_rfl) rfl (fun _ _ _ h => h) (Or.inl ⟨by rfl, ?_⟩) (HAL.out 23) ?_
    · intro X hX
      have hh := hX (23, g58, .cells #[.int .i64 (-3), .int .i64 2, .int .i64 1] 23) (List.Mem.tail _ (List.Mem.head _)) rfl
      have hh0 := blk_cell hh 0 _ rfl
      have hh1 := blk_cell hh 1 _ rfl
      have hh2 := blk_cell hh 2 _ rfl
      have hhl := blk_lt hh
      clear hh
      clear hX
      go_simp
    try simp only [Act.put, List.setIfInBounds_toArray, List.set_cons_zero, List.set_cons_succ]
    refine only_I 24 (by kernel_rfl) rfl (fun K' hK' => ?_)
    go_simp
    go_at_call 20
    refine (of_calls (-3) 2 1 _).mono ?_
    rintro e x71 ⟨rfl, hb⟩
    replace NN := Lib.hid (Bgo NN.out hb)
    replace ZR := Lib.hid (blk_next hb ZR.out)
    replace P1 := Lib.hid (blk_next hb P1.out)
    replace Q1 := Lib.hid (blk_next hb Q1.out)
    replace N1 := Lib.hid (blk_next hb N1.out)
    replace R1 := Lib.hid (blk_next hb R1.out)
    replace S1 := Lib.hid (blk_next hb S1.out)
    replace U1 := Lib.hid (blk_next hb U1.out)
    replace W1 := Lib.hid (blk_next hb W1.out)
    go_simp
    refine hK'.out _ _ (fun k _ hS => hS.next hb) ?_
    clear hK' K'
    try simp only [Act.put, List.setIfInBounds_toArray, List.set_cons_zero, List.set_cons_succ]
    replace HAL := Lib.hid (fun k => (HAL.out k).next hb)
    refine only_I 25 (by kernel_rfl) rfl (fun K' hK' => ?_)
    go_simp
    refine hK'.out _ _ (fun k _ h => h) ?_
    clear hK' K'
    try simp only [Act.put, List.setIfInBounds_toArray, List.set_cons_zero, List.set_cons_succ]
    refine only_I 26 (by kernel_rfl) rfl (fun K' hK' => ?_)
    go_simp
    refine hK'.out _ _ (fun k _ h => h) ?_
    clear hK' K'
    try simp only [Act.put, List.setIfInBounds_toArray, List.set_cons_zero, List.set_cons_succ]
    refine only_I 27 (by kernel_rfl) rfl (fun K' hK' => ?_)
    go_simp
    refine hK'.out _ _ (fun k _ h => h) ?_
    clear hK' K'
    try simp only [Act.put, List.setIfInBounds_toArray, List.set_cons_zero, List.set_cons_succ]
    refine only_I 28 (by kernel_rfl) rfl (fun K' hK' => ?_)
    go_simp
    refine hK'.out _ _ (fun k _ h => h) ?_
    clear hK' K'
    try simp only [Act.put, List.setIfInBounds_toArray, List.set_cons_zero, List.set_cons_succ]
    refine only_I 29 (by kernel_rfl) rfl (fun K' hK' => ?_)
    go_simp
    refine hK'.out _ _ (fun k _ h => h) ?_
    clear hK' K'
    try simp only [Act.put, List.setIfInBounds_toArray, List.set_cons_zero, List.set_cons_succ]
    refine only_I 30 (by kernel_rfl) rfl (fun K' hK' => ?_)
    go_simp
    refine hK'.out _ _ (fun k _ h => h) ?_
    clear hK' K'
    try simp only [Act.put, List.setIfInBounds_toArray, List.set_cons_zero, List.set_cons_succ]
    refine only_I 31 (by kernel_rfl) rfl (fun K' hK' => ?_)
    go_simp
    refine hK'.out _ _ (fun k _ h => h) ?_
    clear hK' K'
    try simp only [Act.put, List.setIfInBounds_toArray, List.set_cons_zero, List.set_cons_succ]
    refine only_I 32 (by kernel_rfl) rfl (fun K' hK' => ?_)
    go_simp
    refine hK'.out _ _ (fun k _ h => h) ?_
    clear hK' K'
    try simp only [Act.put, List.setIfInBounds_toArray, List.set_cons_zero, List.set_cons_succ]
    refine only_I 33 (by kernel_rfl) rfl (fun K' hK' => ?_)
    go_simp
    refine hK'.out _ _ (fun k _ h => h) ?_
    clear hK' K'
    try simp only [Act.put, List.setIfInBounds_toArray, List.set_cons_zero, List.set_cons_succ]
    refine only_I 34 (by kernel_rfl) rfl (fun K' hK' => ?_)
    go_simp
    refine hK'.out _ _ (fun k _ h => h) ?_
    clear hK' K'
    try simp only [Act.put, List.setIfInBounds_toArray, List.set_cons_zero, List.set_cons_succ]
    refine only_I 35 (by kernel_rfl) rfl (fun K' hK' => ?_)
    go_simp
    refine hK'.out _ _ (fun k _ h => h) ?_
    clear hK' K'
    try simp only [Act.put, List.setIfInBounds_toArray, List.set_cons_zero, List.set_cons_succ]
    refine take_I 36 (.agg #[.int .i64 4, .int .i64 (-3), .int .i64 5]) (some 258) rfl (by kernel_rfl) (by kernel_rfl) (by kernel_rfl) rfl (fun _ _ _ h => h) (Or.inl ⟨by rfl, ?_⟩) (HAL.out 36) ?_
    · intro X hX
      have hh := hX (36, g63, .cells #[.int .i64 4, .int .i64 (-3), .int .i64 5] 23) (List.Mem.tail _ (List.Mem.tail _ (List.Mem.head _))) rfl
      have hh0 := blk_cell hh 0 _ rfl
      have hh1 := blk_cell hh 1 _ rfl
      have hh2 := blk_cell hh 2 _ rfl
      have hhl := blk_lt hh
      clear hh
      clear hX
      go_simp
    try simp only [Act.put, List.setIfInBounds_toArray, List.set_cons_zero, List.set_cons_succ]
    refine only_I 37 (by kernel_rfl) rfl (fun K' hK' => ?_)
    go_simp
    go_at_call 20
    refine (of_calls 4 (-3) 5 _).mono ?_
    rintro e x72 ⟨rfl, hb⟩
    replace NN := Lib.hid (Bgo NN.out hb)
    replace ZR := Lib.hid (blk_next hb ZR.out)
    replace P1 := Lib.hid (blk_next hb P1.out)
    replace Q1 := Lib.hid (blk_next hb Q1.out)
    replace N1 := Lib.hid (blk_next hb N1.out)
    replace R1 := Lib.hid (blk_next hb R1.out)
    replace S1 := Lib.hid (blk_next hb S1.out)
    replace U1 := Lib.hid (blk_next hb U1.out)
    replace W1 := Lib.hid (blk_next hb W1.out)
    go_simp
    refine hK'.out _ _ (fun k _ hS => hS.next hb) ?_
    clear hK' K'
    try simp only [Act.put, List.setIfInBounds_toArray, List.set_cons_zero, List.set_cons_succ]
    replace HAL := Lib.hid (fun k => (HAL.out k).next hb)
    refine only_I 38 (by kernel_rfl) rfl (fun K' hK' => ?_)
    go_simp
    refine hK'.out _ _ (fun k _ h => h) ?_
    clear hK' K'
    try simp only [Act.put, List.setIfInBounds_toArray, List.set_cons_zero, List.set_cons_succ]
    refine only_I 39 (by kernel_rfl) rfl (fun K' hK' => ?_)
    go_simp
    refine hK'.out _ _ (fun k _ h => h) ?_
    clear hK' K'
    try simp only [Act.put, List.setIfInBounds_toArray, List.set_cons_zero, List.set_cons_succ]
    refine only_I 40 (by kernel_rfl) rfl (fun K' hK' => ?_)
    go_simp
    refine hK'.out _ _ (fun k _ h => h) ?_
    clear hK' K'
    try simp only [Act.put, List.setIfInBounds_toArray, List.set_cons_zero, List.set_cons_succ]
    refine only_I 41 (by kernel_rfl) rfl (fun K' hK' => ?_)
    go_simp
    refine hK'.out _ _ (fun k _ h => h) ?_
    clear hK' K'
    try simp only [Act.put, List.setIfInBounds_toArray, List.set_cons_zero, List.set_cons_succ]
    refine only_I 42 (by kernel_rfl) rfl (fun K' hK' => ?_)
    go_simp
    refine hK'.out _ _ (fun k _ h => h) ?_
    clear hK' K'
    try simp only [Act.put, List.setIfInBounds_toArray, List.set_cons_zero, List.set_cons_succ]
    refine only_I 43 (by kernel_rfl) rfl (fun K' hK' => ?_)
    go_simp
    refine hK'.out _ _ (fun k _ h => h) ?_
    clear hK' K'
    try simp only [Act.put, List.setIfInBounds_toArray, List.set_cons_zero, List.set_cons_succ]
    refine only_I 44 (by kernel_rfl) rfl (fun K' hK' => ?_)
    go_simp
    refine hK'.out _ _ (fun k _ h => h) ?_
    clear hK' K'
    try simp only [Act.put, List.setIfInBounds_toArray, List.set_cons_zero, List.set_cons_succ]
    refine take_I 45 (.agg #[.int .i64 4, .int .i64 (-3), .int .i64 5]) (some 267) rfl (by kernel_rfl) (by kernel_rfl) (by kernel_rfl) rfl (fun _ _ _ h => h) (Or.inl ⟨by rfl, ?_⟩) (HAL.out 45) ?_
    · intro X hX
      have hh := hX (45, gs67, .cells #[.int .i64 4, .int .i64 (-3), .int .i64 5] 23) (List.Mem.tail _ (List.Mem.tail _ (List.Mem.tail _ (List.Mem.head _)))) rfl
      have hh0 := blk_cell hh 0 _ rfl
      have hh1 := blk_cell hh 1 _ rfl
      have hh2 := blk_cell hh 2 _ rfl
      have hhl := blk_lt hh
      clear hh
      clear hX
      go_simp
    try simp only [Act.put, List.setIfInBounds_toArray, List.set_cons_zero, List.set_cons_succ]
    refine only_I 46 (by kernel_rfl) rfl (fun K' hK' => ?_)
    go_simp
    go_at_call 20
    refine (of_calls 4 (-3) 5 _).mono ?_
    rintro e x73 ⟨rfl, hb⟩
    replace NN := Lib.hid (Bgo NN.out hb)
    replace ZR := Lib.hid (blk_next hb ZR.out)
    replace P1 := Lib.hid (blk_next hb P1.out)
    replace Q1 := Lib.hid (blk_next hb Q1.out)
    replace N1 := Lib.hid (blk_next hb N1.out)
    replace R1 := Lib.hid (blk_next hb R1.out)
    replace S1 := Lib.hid (blk_next hb S1.out)
    replace U1 := Lib.hid (blk_next hb U1.out)
    replace W1 := Lib.hid (blk_next hb W1.out)
    go_simp
    refine hK'.out _ _ (fun k _ hS => hS.next hb) ?_
    clear hK' K'
    try simp only [Act.put, List.setIfInBounds_toArray, List.set_cons_zero, List.set_cons_succ]
    replace HAL := Lib.hid (fun k => (HAL.out k).next hb)
    refine only_I 47 (by kernel_rfl) rfl (fun K' hK' => ?_)
    go_simp
    refine hK'.out _ _ (fun k _ h => h) ?_
    clear hK' K'
    try simp only [Act.put, List.setIfInBounds_toArray, List.set_cons_zero, List.set_cons_succ]
    refine only_I 48 (by kernel_rfl) rfl (fun K' hK' => ?_)
    go_simp
    refine hK'.out _ _ (fun k _ h => h) ?_
    clear hK' K'
    try simp only [Act.put, List.setIfInBounds_toArray, List.set_cons_zero, List.set_cons_succ]
    refine only_I 49 (by kernel_rfl) rfl (fun K' hK' => ?_)
    go_simp
    refine hK'.out _ _ (fun k _ h => h) ?_
    clear hK' K'
    try simp only [Act.put, List.setIfInBounds_toArray, List.set_cons_zero, List.set_cons_succ]
    clear HAL
    refine done_I (by kernel_rfl) ?_ _
    go_wp2_with fail
    go_ret
    exact ⟨rfl, NN.out⟩

abbrev synS : ByteArray := { data := #[105, 110, 118, 97, 108, 105, 100, 32, 115, 121, 110, 116, 97, 120] }
abbrev rngS : ByteArray := { data := #[118, 97, 108, 117, 101, 32, 111, 117, 116, 32, 111, 102, 32, 114, 97, 110, 103, 101] }
noncomputable def low : Nat := (World.holding Tryd.prog default ⟨#[], #[], []⟩).heap.size
def vals : DataW Unit → Array Value
  | .agg l => (l.map fun d => match d with | .lit (.int k z) => Value.int k z | _ => undef).toArray
  | _ => #[]
def put (vs : Array Value) : Obj → Obj
  | .cells _ t frozen => .cells vs t frozen
  | o => o
noncomputable def laidWorld (os : Os) : World :=
  let w0 := World.holding Tryd.prog os ⟨#[.cells #[.string rngS] 108, .cells #[.string synS] 108], #[], []⟩
  { w0 with heap := ((((w0.heap.modify 4 (put (vals Rows.laid_math_bits_deBruijn32tab))).modify 5 (put (vals Rows.laid_math_bits_deBruijn64tab))).modify 0 (put (vals Rows.laid_internal_strconv_uint64pow10))).modify 3 (put #[.iface 106 (.pointer (some ⟨low, 0, none⟩))])).modify 2 (put #[.iface 106 (.pointer (some ⟨low + 1, 0, none⟩))]) }
theorem laid_met (os : Os) (args : Array Value) : laidMet Tryd.prog Rows.cxNamesRow.laid ((laidWorld os).forCall (fun _ _ => 0) ⟨#[], args, []⟩).memory :=
  laidMet_of_run' 8 (by kernel_rfl) (by kernel_rfl)

set_option maxRecDepth 100000 in
set_option maxHeartbeats 4000000 in
theorem lifted (os : Os) (started : os.Started) (H : Type) (enc : TypeId × Value → H) (F0 : Stop.Interp) :
    ReturnsInHanded {} Tryd.checked os 8 .any ((OpenSpec.ofChange Rows.cxNamesSpec).preRow enc Tryd.prog Tryd.f8 Rows.cxNamesRow.domain false Rows.cxNamesRow.laid) (((OpenSpec.ofChange Rows.cxNamesSpec).at F0).post enc Tryd.prog Tryd.f8 false true false false) := by
  refine returnsInHanded_of_row (C := Tryd.checked) (s := OpenSpec.ofChange Rows.cxNamesSpec) own started (by kernel_rfl) Tryd.func8
    (witness_row_at (enc := enc) (C := Tryd.checked) false (laidWorld os) #[] rfl (by kernel_rfl) (by kernel_rfl) (by kernel_rfl) (OpenSpec.preRow_of_B rfl 8 (by kernel_rfl) (by kernel_rfl) (laid_met os _))) ?_
  intro W base args ds gs before hval0 hW hcnd _ hsz0 hL hsh _
  have GLW := gl_of hL hsh
  clear hL hsh hsz0 hcnd
  have hval : ∀ (j : Nat) t v, Tryd.f8.params[j]? = some t → args[j]? = some v → Value.okWide Tryd.prog W .any base t v := hval0
  have hW' := hW
  obtain ⟨p, q, hA0, hV, rfl, hfz, hnd⟩ := hW
  have hA : DataW.TrodAll enc Tryd.prog W 0 (fun _ => true) true Tryd.f8.params.toList args.toList ds p := hA0
  rw [Tryd.params8] at hA hval
  obtain ⟨hargs, rfl, rfl⟩ := trodAll_nil hA
  obtain rfl : args = #[] := by cases args; simp_all
  obtain ⟨rfl, rfl⟩ := trodVars_none hV
  clear hA0 hval0
  refine (walk W GLW).mono fun e W' ⟨he, bel⟩ => ?_
  subst he
  exact ⟨_, rfl, _, _, _, [], _, [], hW', trodAll_mk1 (shut_bool Tryd.underlying4 _), trodAll_mk0, rfl, bel.frame _, fun h => by cases h⟩

theorem over : Rows.CxNamesSaid :=
  OpenClaim.holds_of_cond 8 Tryd.f8 rfl rfl rfl rfl rfl rfl rfl ⟨rfl, rfl, rfl, rfl, rfl⟩ rfl rfl rfl rfl rfl (by kernel_rfl) Tryd.func8 (by kernel_rfl)
    (of_decide_eq_true (by kernel_rfl)) (by unfold Func.isWrapper; first | (rw [if_pos (by decide +kernel)]; kernel_rfl) | (rw [if_neg (by decide +kernel)]; exact ⟨rfl, rfl⟩))
    (fun os started H enc _ F0 => by rw [OpenClaim.pre_eq_preRow]; exact lifted os started H enc F0)

theorem proved : Rows.CxNamesCardSaid :=
  Claim7.holds_tied_plain_at .later [] [.data, .data, .data, .sentinel, .sentinel] true (true, "79a2c85c093c7f4bbd60387b9b96cb032bdfb92f3488d33d2cf8f7a3fa8fd4c2") true
    over (fun _ h => by cases h) (by kernel_rfl) (fun _ h => by cases h) cxNames_row_tie rfl ⟨rfl, rfl⟩ (by kernel_rfl) rfl
    (fun f fn hf hfn => by
      obtain rfl : f = 8 := Option.some.inj ((show Tryd.prog.funcNamed "fringe/fringelaw25.CxNames" = some 8 by kernel_rfl).symm.trans hf) |>.symm
      obtain rfl : fn = Tryd.f8 := (Option.some.inj (Tryd.func8.symm.trans hfn)).symm
      exact ⟨by kernel_rfl, fun j t ht => by
        rw [Tryd.params8] at ht
        have hj : j < 0 := by
          have := (Array.getElem?_eq_some_iff.1 ht).1
          simp at this
        omega⟩)
    (by kernel_rfl)
#print axioms proved
end Go.Proofs.YtbbjclbpllfdeaaDoor.cxNames
