/- For every input the law FracNames returns true and leaves its arguments as they were; the library's variables as the program's text lays them. -/
import Derived.Test.YtpeoecgehdicmaaDoorRows
import Derived.Test.YtpeoecgehdicmaaDoorCards
import Derived.Test.YtpeoecgehdicmaaDoorTie
import Derived.Test.YtpeoecgehdicmaaDoorFth
import Derived.WalkKit
import Derived.ProofKit
import Derived.OpenShut
import Derived.ShutString
import Derived.ChangeOld
import Derived.Below
import Derived.Lib.SmallJoins
import Derived.Deep.DeepHandedRow
import Derived.LaidLaws
import Derived.SevenTiedAt
namespace Go.Proofs.YtpeoecgehdicmaaDoor.fracNames
open Go.ChangeShapes Go.WideShapes Go.ChangeAt Go.RowKit Go.Joins
open Go.ChangeMaps (open_string shut_string)
set_option linter.unusedVariables false

theorem own : ownKnob Tryd.prog.godebug = none := by kernel_rfl
theorem laidOut : laidOutB Tryd.prog = true := by kernel_rfl
set_option maxRecDepth 100000 in
set_option maxHeartbeats 16000000 in
theorem walk (w : World) (g : GL w) : Calls Tryd.prog 5 #[] w fun e w' => e = .returned (.bool true) ∧ Below w.heap.size w w' := by
  have hm := mk101
  have GG := Lib.hid g
  have NN := Lib.hid (Below.refl w.heap.size w)
  clear g
  go_enter Tryd.func5, Tryd.ntmps5
  go_wp2_with fail
  refine (make_calls (-9223372036854775808) 4611686018427387904 _ (by decide) (by decide) (by decide) (by decide)).mono ?_
  rintro e w1 ⟨rfl, hb⟩
  rw [mkA]
  replace NN := Lib.hid (Bgo NN.out hb)
  clear hb
  have hb : Below w1.heap.size w1 (w1.alloc (.cells #[.int .i64 (-2), .int .i64 1] 23)) := Bal (Below.refl _ _) _
  have BA := Lib.hid (blk_new w1 (.cells #[.int .i64 (-2), .int .i64 1] 23))
  replace NN := Lib.hid (Bgo NN.out hb)
  clear hb
  go_wp2_with fail
  generalize w1.alloc (.cells #[.int .i64 (-2), .int .i64 1] 23) = W2 at *
  generalize w1.heap.size = gBA at *
  refine (make_calls 9223372036854775807 3 _ (by decide) (by decide) (by decide) (by decide)).mono ?_
  rintro e w3 ⟨rfl, hb⟩
  rw [mkB]
  replace NN := Lib.hid (Bgo NN.out hb)
  replace BA := Lib.hid (blk_next hb BA.out)
  clear hb
  have hb : Below w3.heap.size w3 (w3.alloc (.cells #[.int .i64 0, .int .i64 0] 23)) := Bal (Below.refl _ _) _
  replace NN := Lib.hid (Bgo NN.out hb)
  replace BA := Lib.hid (blk_next hb BA.out)
  clear hb
  go_wp2_with fail
  generalize w3.alloc (.cells #[.int .i64 0, .int .i64 0] 23) = W4 at *
  generalize w3.heap.size = g4 at *
  refine (make_calls 1 0 _ (by decide) (by decide) (by decide) (by decide)).mono ?_
  rintro e w5 ⟨rfl, hb⟩
  rw [mkC]
  replace NN := Lib.hid (Bgo NN.out hb)
  replace BA := Lib.hid (blk_next hb BA.out)
  clear hb
  have hb : Below w5.heap.size w5 (w5.alloc (.cells #[.int .i64 0, .int .i64 0] 23)) := Bal (Below.refl _ _) _
  replace NN := Lib.hid (Bgo NN.out hb)
  replace BA := Lib.hid (blk_next hb BA.out)
  clear hb
  go_wp2_with fail
  generalize w5.alloc (.cells #[.int .i64 0, .int .i64 0] 23) = W6 at *
  generalize w5.heap.size = g6 at *
  refine (of_calls 1000000000000000000 1 _).mono ?_
  rintro e w7 ⟨rfl, hb⟩
  replace NN := Lib.hid (Bgo NN.out hb)
  replace BA := Lib.hid (blk_next hb BA.out)
  clear hb
  go_wp2_with fail
  refine (of_calls (-1000000000000000000) 1 _).mono ?_
  rintro e w8 ⟨rfl, hb⟩
  replace NN := Lib.hid (Bgo NN.out hb)
  replace BA := Lib.hid (blk_next hb BA.out)
  clear hb
  go_wp2_with fail
  refine (add_calls 1000000000000000000 1 (-1000000000000000000) 1 _).mono ?_
  rintro e w9 ⟨rfl, hb⟩
  rw [adA]
  replace NN := Lib.hid (Bgo NN.out hb)
  replace BA := Lib.hid (blk_next hb BA.out)
  clear hb
  have hb : Below w9.heap.size w9 (w9.alloc (.cells #[.int .i64 0, .int .i64 1] 23)) := Bal (Below.refl _ _) _
  have BB := Lib.hid (blk_new w9 (.cells #[.int .i64 0, .int .i64 1] 23))
  replace NN := Lib.hid (Bgo NN.out hb)
  replace BA := Lib.hid (blk_next hb BA.out)
  clear hb
  go_wp2_with fail
  generalize w9.alloc (.cells #[.int .i64 0, .int .i64 1] 23) = W10 at *
  generalize w9.heap.size = gBB at *
  refine (of_calls 1000000000000000000 1 _).mono ?_
  rintro e w11 ⟨rfl, hb⟩
  replace NN := Lib.hid (Bgo NN.out hb)
  replace BA := Lib.hid (blk_next hb BA.out)
  replace BB := Lib.hid (blk_next hb BB.out)
  clear hb
  go_wp2_with fail
  refine (of_calls 1 1000000000000000000 _).mono ?_
  rintro e w12 ⟨rfl, hb⟩
  replace NN := Lib.hid (Bgo NN.out hb)
  replace BA := Lib.hid (blk_next hb BA.out)
  replace BB := Lib.hid (blk_next hb BB.out)
  clear hb
  go_wp2_with fail
  refine (add_calls 1000000000000000000 1 1 1000000000000000000 _).mono ?_
  rintro e w13 ⟨rfl, hb⟩
  rw [adB]
  replace NN := Lib.hid (Bgo NN.out hb)
  replace BA := Lib.hid (blk_next hb BA.out)
  replace BB := Lib.hid (blk_next hb BB.out)
  clear hb
  have hb : Below w13.heap.size w13 (w13.alloc (.cells #[.int .i64 0, .int .i64 0] 23)) := Bal (Below.refl _ _) _
  replace NN := Lib.hid (Bgo NN.out hb)
  replace BA := Lib.hid (blk_next hb BA.out)
  replace BB := Lib.hid (blk_next hb BB.out)
  clear hb
  go_wp2_with fail
  generalize w13.alloc (.cells #[.int .i64 0, .int .i64 0] 23) = W14 at *
  generalize w13.heap.size = g14 at *
  refine (of_calls 1 1000000000000000000 _).mono ?_
  rintro e w15 ⟨rfl, hb⟩
  replace NN := Lib.hid (Bgo NN.out hb)
  replace BA := Lib.hid (blk_next hb BA.out)
  replace BB := Lib.hid (blk_next hb BB.out)
  clear hb
  go_wp2_with fail
  refine (of_calls 999999999999999999 1000000000000000000 _).mono ?_
  rintro e w16 ⟨rfl, hb⟩
  replace NN := Lib.hid (Bgo NN.out hb)
  replace BA := Lib.hid (blk_next hb BA.out)
  replace BB := Lib.hid (blk_next hb BB.out)
  clear hb
  go_wp2_with fail
  refine (add_calls 1 1000000000000000000 999999999999999999 1000000000000000000 _).mono ?_
  rintro e w17 ⟨rfl, hb⟩
  rw [adC]
  replace NN := Lib.hid (Bgo NN.out hb)
  replace BA := Lib.hid (blk_next hb BA.out)
  replace BB := Lib.hid (blk_next hb BB.out)
  clear hb
  have hb : Below w17.heap.size w17 (w17.alloc (.cells #[.int .i64 1, .int .i64 1] 23)) := Bal (Below.refl _ _) _
  have BC := Lib.hid (blk_new w17 (.cells #[.int .i64 1, .int .i64 1] 23))
  replace NN := Lib.hid (Bgo NN.out hb)
  replace BA := Lib.hid (blk_next hb BA.out)
  replace BB := Lib.hid (blk_next hb BB.out)
  clear hb
  go_wp2_with fail
  generalize w17.alloc (.cells #[.int .i64 1, .int .i64 1] 23) = W18 at *
  generalize w17.heap.size = gBC at *
  refine (of_calls 1 2 _).mono ?_
  rintro e w19 ⟨rfl, hb⟩
  replace NN := Lib.hid (Bgo NN.out hb)
  replace BA := Lib.hid (blk_next hb BA.out)
  replace BB := Lib.hid (blk_next hb BB.out)
  replace BC := Lib.hid (blk_next hb BC.out)
  clear hb
  go_wp2_with fail
  refine (of_calls 0 1 _).mono ?_
  rintro e w20 ⟨rfl, hb⟩
  replace NN := Lib.hid (Bgo NN.out hb)
  replace BA := Lib.hid (blk_next hb BA.out)
  replace BB := Lib.hid (blk_next hb BB.out)
  replace BC := Lib.hid (blk_next hb BC.out)
  clear hb
  go_wp2_with fail
  refine (div_calls 1 2 0 1 _).mono ?_
  rintro e w21 ⟨rfl, hb⟩
  rw [dvA]
  replace NN := Lib.hid (Bgo NN.out hb)
  replace BA := Lib.hid (blk_next hb BA.out)
  replace BB := Lib.hid (blk_next hb BB.out)
  replace BC := Lib.hid (blk_next hb BC.out)
  clear hb
  have hb : Below w21.heap.size w21 (w21.alloc (.cells #[.int .i64 0, .int .i64 0] 23)) := Bal (Below.refl _ _) _
  replace NN := Lib.hid (Bgo NN.out hb)
  replace BA := Lib.hid (blk_next hb BA.out)
  replace BB := Lib.hid (blk_next hb BB.out)
  replace BC := Lib.hid (blk_next hb BC.out)
  clear hb
  go_wp2_with fail
  generalize w21.alloc (.cells #[.int .i64 0, .int .i64 0] 23) = W22 at *
  generalize w21.heap.size = g22 at *
  refine (of_calls 1 2 _).mono ?_
  rintro e w23 ⟨rfl, hb⟩
  replace NN := Lib.hid (Bgo NN.out hb)
  replace BA := Lib.hid (blk_next hb BA.out)
  replace BB := Lib.hid (blk_next hb BB.out)
  replace BC := Lib.hid (blk_next hb BC.out)
  clear hb
  go_wp2_with fail
  refine (of_calls 2 2 _).mono ?_
  rintro e w24 ⟨rfl, hb⟩
  replace NN := Lib.hid (Bgo NN.out hb)
  replace BA := Lib.hid (blk_next hb BA.out)
  replace BB := Lib.hid (blk_next hb BB.out)
  replace BC := Lib.hid (blk_next hb BC.out)
  clear hb
  go_wp2_with fail
  refine (sub_calls 1 2 2 2 _).mono ?_
  rintro e w25 ⟨rfl, hb⟩
  rw [sbA]
  replace NN := Lib.hid (Bgo NN.out hb)
  replace BA := Lib.hid (blk_next hb BA.out)
  replace BB := Lib.hid (blk_next hb BB.out)
  replace BC := Lib.hid (blk_next hb BC.out)
  clear hb
  have hb : Below w25.heap.size w25 (w25.alloc (.cells #[.int .i64 0, .int .i64 0] 23)) := Bal (Below.refl _ _) _
  replace NN := Lib.hid (Bgo NN.out hb)
  replace BA := Lib.hid (blk_next hb BA.out)
  replace BB := Lib.hid (blk_next hb BB.out)
  replace BC := Lib.hid (blk_next hb BC.out)
  clear hb
  go_wp2_with fail
  generalize w25.alloc (.cells #[.int .i64 0, .int .i64 0] 23) = W26 at *
  generalize w25.heap.size = g26 at *
  refine region_I (S := SK [(3, gBA, .cells #[.int .i64 (-2), .int .i64 1] 23), (20, gBB, .cells #[.int .i64 0, .int .i64 1] 23), (33, gBC, .cells #[.int .i64 1, .int .i64 1] 23)]) (by kernel_rfl) ?_
  have HAL := Lib.hid (fun (k : Nat) => (show SK [(3, gBA, .cells #[.int .i64 (-2), .int .i64 1] 23), (20, gBB, .cells #[.int .i64 0, .int .i64 1] 23), (33, gBC, .cells #[.int .i64 1, .int .i64 1] 23)] k W26.drew from fun p hp e => by
    simp only [List.mem_cons, List.not_mem_nil, or_false] at hp
    rcases hp with rfl | rfl | rfl
    · exact BA.out
    · exact BB.out
    · exact BC.out))
  replace NN := Lib.hid (Bgo NN.out (Below.drew (Below.refl W26.heap.size W26)))
  clear BA BB BC
  refine only_I 0 (by kernel_rfl) rfl (fun K' hK' => ?_)
  go_simp
  refine hK'.out _ _ (fun k _ h => h) ?_
  clear hK' K'
  try simp only [Act.put, List.setIfInBounds_toArray, List.set_cons_zero, List.set_cons_succ]
  refine only_I 1 (by kernel_rfl) rfl (fun K' hK' => ?_)
  go_simp
  refine hK'.out _ _ (fun k _ h => h) ?_
  clear hK' K'
  try simp only [Act.put, List.setIfInBounds_toArray, List.set_cons_zero, List.set_cons_succ]
  refine only_I 2 (by kernel_rfl) rfl (fun K' hK' => ?_)
  go_simp
  refine hK'.out _ _ (fun k _ h => h) ?_
  clear hK' K'
  try simp only [Act.put, List.setIfInBounds_toArray, List.set_cons_zero, List.set_cons_succ]
  refine take_I 3 (Fv (-2) 1) (some 92) rfl (by kernel_rfl) (by kernel_rfl) (by kernel_rfl) rfl (fun _ _ _ h => h) (Or.inl ⟨by rfl, ?_⟩) (HAL.out 3) ?_
  · intro X hX
    have hh := hX (3, gBA, .cells #[.int .i64 (-2), .int .i64 1] 23) (List.Mem.head _) rfl
    have hh0 := blk_cell hh 0 _ rfl
    have hh1 := blk_cell hh 1 _ rfl
    have hhl := blk_lt hh
    clear hh
    clear hX
    go_simp
  try simp only [Act.put, List.setIfInBounds_toArray, List.set_cons_zero, List.set_cons_succ]
  refine only_I 4 (by kernel_rfl) rfl (fun K' hK' => ?_)
  go_simp
  go_at_call 20
  refine (of_calls (-2) 1 _).mono ?_
  rintro e x27 ⟨rfl, hb⟩
  go_simp
  refine hK'.out _ _ (fun k _ hS => hS.next hb) ?_
  clear hK' K'
  try simp only [Act.put, List.setIfInBounds_toArray, List.set_cons_zero, List.set_cons_succ]
  replace HAL := Lib.hid (fun k => (HAL.out k).next hb)
  replace NN := Lib.hid (Bgo NN.out hb)
  clear hb
  refine only_I 5 (by kernel_rfl) rfl (fun K' hK' => ?_)
  go_simp
  refine hK'.out _ _ (fun k _ h => h) ?_
  clear hK' K'
  try simp only [Act.put, List.setIfInBounds_toArray, List.set_cons_zero, List.set_cons_succ]
  refine only_I 6 (by kernel_rfl) rfl (fun K' hK' => ?_)
  go_simp
  refine hK'.out _ _ (fun k _ h => h) ?_
  clear hK' K'
  try simp only [Act.put, List.setIfInBounds_toArray, List.set_cons_zero, List.set_cons_succ]
  refine only_I 7 (by kernel_rfl) rfl (fun K' hK' => ?_)
  go_simp
  refine hK'.out _ _ (fun k _ h => h) ?_
  clear hK' K'
  try simp only [Act.put, List.setIfInBounds_toArray, List.set_cons_zero, List.set_cons_succ]
  refine only_I 8 (by kernel_rfl) rfl (fun K' hK' => ?_)
  go_simp
  refine hK'.out _ _ (fun k _ h => h) ?_
  clear hK' K'
  try simp only [Act.put, List.setIfInBounds_toArray, List.set_cons_zero, List.set_cons_succ]
  refine only_I 9 (by kernel_rfl) rfl (fun K' hK' => ?_)
  go_simp
  refine hK'.out _ _ (fun k _ h => h) ?_
  clear hK' K'
  try simp only [Act.put, List.setIfInBounds_toArray, List.set_cons_zero, List.set_cons_succ]
  refine only_I 10 (by kernel_rfl) rfl (fun K' hK' => ?_)
  go_simp
  refine hK'.out _ _ (fun k _ h => h) ?_
  clear hK' K'
  try simp only [Act.put, List.setIfInBounds_toArray, List.set_cons_zero, List.set_cons_succ]
  refine only_I 11 (by kernel_rfl) rfl (fun K' hK' => ?_)
  go_simp
  refine hK'.out _ _ (fun k _ h => h) ?_
  clear hK' K'
  try simp only [Act.put, List.setIfInBounds_toArray, List.set_cons_zero, List.set_cons_succ]
  refine only_I 12 (by kernel_rfl) rfl (fun K' hK' => ?_)
  go_simp
  refine hK'.out _ _ (fun k _ h => h) ?_
  clear hK' K'
  try simp only [Act.put, List.setIfInBounds_toArray, List.set_cons_zero, List.set_cons_succ]
  refine only_I 13 (by kernel_rfl) rfl (fun K' hK' => ?_)
  go_simp
  refine hK'.out _ _ (fun k _ h => h) ?_
  clear hK' K'
  try simp only [Act.put, List.setIfInBounds_toArray, List.set_cons_zero, List.set_cons_succ]
  refine only_I 14 (by kernel_rfl) rfl (fun K' hK' => ?_)
  go_simp
  refine hK'.out _ _ (fun k _ h => h) ?_
  clear hK' K'
  try simp only [Act.put, List.setIfInBounds_toArray, List.set_cons_zero, List.set_cons_succ]
  refine only_I 15 (by kernel_rfl) rfl (fun K' hK' => ?_)
  go_simp
  refine hK'.out _ _ (fun k _ h => h) ?_
  clear hK' K'
  try simp only [Act.put, List.setIfInBounds_toArray, List.set_cons_zero, List.set_cons_succ]
  refine only_I 16 (by kernel_rfl) rfl (fun K' hK' => ?_)
  go_simp
  refine hK'.out _ _ (fun k _ h => h) ?_
  clear hK' K'
  try simp only [Act.put, List.setIfInBounds_toArray, List.set_cons_zero, List.set_cons_succ]
  refine only_I 17 (by kernel_rfl) rfl (fun K' hK' => ?_)
  go_simp
  refine hK'.out _ _ (fun k _ h => h) ?_
  clear hK' K'
  try simp only [Act.put, List.setIfInBounds_toArray, List.set_cons_zero, List.set_cons_succ]
  refine only_I 18 (by kernel_rfl) rfl (fun K' hK' => ?_)
  go_simp
  refine hK'.out _ _ (fun k _ h => h) ?_
  clear hK' K'
  try simp only [Act.put, List.setIfInBounds_toArray, List.set_cons_zero, List.set_cons_succ]
  refine only_I 19 (by kernel_rfl) rfl (fun K' hK' => ?_)
  go_simp
  refine hK'.out _ _ (fun k _ h => h) ?_
  clear hK' K'
  try simp only [Act.put, List.setIfInBounds_toArray, List.set_cons_zero, List.set_cons_succ]
  refine take_I 20 (Fv 0 1) (some 109) rfl (by kernel_rfl) (by kernel_rfl) (by kernel_rfl) rfl (fun _ _ _ h => h) (Or.inl ⟨by rfl, ?_⟩) (HAL.out 20) ?_
  · intro X hX
    have hh := hX (20, gBB, .cells #[.int .i64 0, .int .i64 1] 23) (List.Mem.tail _ (List.Mem.head _)) rfl
    have hh0 := blk_cell hh 0 _ rfl
    have hh1 := blk_cell hh 1 _ rfl
    have hhl := blk_lt hh
    clear hh
    clear hX
    go_simp
  try simp only [Act.put, List.setIfInBounds_toArray, List.set_cons_zero, List.set_cons_succ]
  refine only_I 21 (by kernel_rfl) rfl (fun K' hK' => ?_)
  go_simp
  go_at_call 20
  refine (of_calls 0 1 _).mono ?_
  rintro e x28 ⟨rfl, hb⟩
  go_simp
  refine hK'.out _ _ (fun k _ hS => hS.next hb) ?_
  clear hK' K'
  try simp only [Act.put, List.setIfInBounds_toArray, List.set_cons_zero, List.set_cons_succ]
  replace HAL := Lib.hid (fun k => (HAL.out k).next hb)
  replace NN := Lib.hid (Bgo NN.out hb)
  clear hb
  refine only_I 22 (by kernel_rfl) rfl (fun K' hK' => ?_)
  go_simp
  refine hK'.out _ _ (fun k _ h => h) ?_
  clear hK' K'
  try simp only [Act.put, List.setIfInBounds_toArray, List.set_cons_zero, List.set_cons_succ]
  refine only_I 23 (by kernel_rfl) rfl (fun K' hK' => ?_)
  go_simp
  refine hK'.out _ _ (fun k _ h => h) ?_
  clear hK' K'
  try simp only [Act.put, List.setIfInBounds_toArray, List.set_cons_zero, List.set_cons_succ]
  refine only_I 24 (by kernel_rfl) rfl (fun K' hK' => ?_)
  go_simp
  refine hK'.out _ _ (fun k _ h => h) ?_
  clear hK' K'
  try simp only [Act.put, List.setIfInBounds_toArray, List.set_cons_zero, List.set_cons_succ]
  refine only_I 25 (by kernel_rfl) rfl (fun K' hK' => ?_)
  go_simp
  refine hK'.out _ _ (fun k _ h => h) ?_
  clear hK' K'
  try simp only [Act.put, List.setIfInBounds_toArray, List.set_cons_zero, List.set_cons_succ]
  refine only_I 26 (by kernel_rfl) rfl (fun K' hK' => ?_)
  go_simp
  refine hK'.out _ _ (fun k _ h => h) ?_
  clear hK' K'
  try simp only [Act.put, List.setIfInBounds_toArray, List.set_cons_zero, List.set_cons_succ]
  refine only_I 27 (by kernel_rfl) rfl (fun K' hK' => ?_)
  go_simp
  refine hK'.out _ _ (fun k _ h => h) ?_
  clear hK' K'
  try simp only [Act.put, List.setIfInBounds_toArray, List.set_cons_zero, List.set_cons_succ]
  refine only_I 28 (by kernel_rfl) rfl (fun K' hK' => ?_)
  go_simp
  refine hK'.out _ _ (fun k _ h => h) ?_
  clear hK' K'
  try simp only [Act.put, List.setIfInBounds_toArray, List.set_cons_zero, List.set_cons_succ]
  refine only_I 29 (by kernel_rfl) rfl (fun K' hK' => ?_)
  go_simp
  refine hK'.out _ _ (fun k _ h => h) ?_
  clear hK' K'
  try simp only [Act.put, List.setIfInBounds_toArray, List.set_cons_zero, List.set_cons_succ]
  refine only_I 30 (by kernel_rfl) rfl (fun K' hK' => ?_)
  go_simp
  refine hK'.out _ _ (fun k _ h => h) ?_
  clear hK' K'
  try simp only [Act.put, List.setIfInBounds_toArray, List.set_cons_zero, List.set_cons_succ]
  refine only_I 31 (by kernel_rfl) rfl (fun K' hK' => ?_)
  go_simp
  refine hK'.out _ _ (fun k _ h => h) ?_
  clear hK' K'
  try simp only [Act.put, List.setIfInBounds_toArray, List.set_cons_zero, List.set_cons_succ]
  refine only_I 32 (by kernel_rfl) rfl (fun K' hK' => ?_)
  go_simp
  refine hK'.out _ _ (fun k _ h => h) ?_
  clear hK' K'
  try simp only [Act.put, List.setIfInBounds_toArray, List.set_cons_zero, List.set_cons_succ]
  refine take_I 33 (Fv 1 1) (some 122) rfl (by kernel_rfl) (by kernel_rfl) (by kernel_rfl) rfl (fun _ _ _ h => h) (Or.inl ⟨by rfl, ?_⟩) (HAL.out 33) ?_
  · intro X hX
    have hh := hX (33, gBC, .cells #[.int .i64 1, .int .i64 1] 23) (List.Mem.tail _ (List.Mem.tail _ (List.Mem.head _))) rfl
    have hh0 := blk_cell hh 0 _ rfl
    have hh1 := blk_cell hh 1 _ rfl
    have hhl := blk_lt hh
    clear hh
    clear hX
    go_simp
  try simp only [Act.put, List.setIfInBounds_toArray, List.set_cons_zero, List.set_cons_succ]
  refine only_I 34 (by kernel_rfl) rfl (fun K' hK' => ?_)
  go_simp
  go_at_call 20
  refine (of_calls 1 1 _).mono ?_
  rintro e x29 ⟨rfl, hb⟩
  go_simp
  refine hK'.out _ _ (fun k _ hS => hS.next hb) ?_
  clear hK' K'
  try simp only [Act.put, List.setIfInBounds_toArray, List.set_cons_zero, List.set_cons_succ]
  replace HAL := Lib.hid (fun k => (HAL.out k).next hb)
  replace NN := Lib.hid (Bgo NN.out hb)
  clear hb
  refine only_I 35 (by kernel_rfl) rfl (fun K' hK' => ?_)
  go_simp
  refine hK'.out _ _ (fun k _ h => h) ?_
  clear hK' K'
  try simp only [Act.put, List.setIfInBounds_toArray, List.set_cons_zero, List.set_cons_succ]
  refine only_I 36 (by kernel_rfl) rfl (fun K' hK' => ?_)
  go_simp
  refine hK'.out _ _ (fun k _ h => h) ?_
  clear hK' K'
  try simp only [Act.put, List.setIfInBounds_toArray, List.set_cons_zero, List.set_cons_succ]
  refine only_I 37 (by kernel_rfl) rfl (fun K' hK' => ?_)
  go_simp
  refine hK'.out _ _ (fun k _ h => h) ?_
  clear hK' K'
  try simp only [Act.put, List.setIfInBounds_toArray, List.set_cons_zero, List.set_cons_succ]
  refine only_I 38 (by kernel_rfl) rfl (fun K' hK' => ?_)
  go_simp
  refine hK'.out _ _ (fun k _ h => h) ?_
  clear hK' K'
  try simp only [Act.put, List.setIfInBounds_toArray, List.set_cons_zero, List.set_cons_succ]
  refine only_I 39 (by kernel_rfl) rfl (fun K' hK' => ?_)
  go_simp
  refine hK'.out _ _ (fun k _ h => h) ?_
  clear hK' K'
  try simp only [Act.put, List.setIfInBounds_toArray, List.set_cons_zero, List.set_cons_succ]
  refine only_I 40 (by kernel_rfl) rfl (fun K' hK' => ?_)
  go_simp
  refine hK'.out _ _ (fun k _ h => h) ?_
  clear hK' K'
  try simp only [Act.put, List.setIfInBounds_toArray, List.set_cons_zero, List.set_cons_succ]
  refine only_I 41 (by kernel_rfl) rfl (fun K' hK' => ?_)
  go_simp
  refine hK'.out _ _ (fun k _ h => h) ?_
  clear hK' K'
  try simp only [Act.put, List.setIfInBounds_toArray, List.set_cons_zero, List.set_cons_succ]
  refine only_I 42 (by kernel_rfl) rfl (fun K' hK' => ?_)
  go_simp
  refine hK'.out _ _ (fun k _ h => h) ?_
  clear hK' K'
  try simp only [Act.put, List.setIfInBounds_toArray, List.set_cons_zero, List.set_cons_succ]
  refine only_I 43 (by kernel_rfl) rfl (fun K' hK' => ?_)
  go_simp
  refine hK'.out _ _ (fun k _ h => h) ?_
  clear hK' K'
  try simp only [Act.put, List.setIfInBounds_toArray, List.set_cons_zero, List.set_cons_succ]
  refine only_I 44 (by kernel_rfl) rfl (fun K' hK' => ?_)
  go_simp
  refine hK'.out _ _ (fun k _ h => h) ?_
  clear hK' K'
  try simp only [Act.put, List.setIfInBounds_toArray, List.set_cons_zero, List.set_cons_succ]
  refine only_I 45 (by kernel_rfl) rfl (fun K' hK' => ?_)
  go_simp
  refine hK'.out _ _ (fun k _ h => h) ?_
  clear hK' K'
  try simp only [Act.put, List.setIfInBounds_toArray, List.set_cons_zero, List.set_cons_succ]
  clear HAL
  refine done_I (by kernel_rfl) ?_ _
  go_wp2_with fail
  refine (of_calls 999999999999999999 1000000000000000000 _).mono ?_
  rintro e w30 ⟨rfl, hb⟩
  replace NN := Lib.hid (Bgo NN.out hb)
  clear hb
  go_wp2_with fail
  refine (near_calls 999999999999999999 1000000000000000000 999999999999999999 _).mono ?_
  rintro e w31 ⟨r, rfl, hr, hb⟩
  obtain rfl := nrA.unique hr
  clear hr
  replace NN := Lib.hid (Bgo NN.out hb)
  clear hb
  have hb : Below w31.heap.size w31 (w31.alloc (.cells #[.int .i64 999999999999999998, .int .i64 999999999999999999] 23)) := Bal (Below.refl _ _) _
  have BD := Lib.hid (blk_new w31 (.cells #[.int .i64 999999999999999998, .int .i64 999999999999999999] 23))
  replace NN := Lib.hid (Bgo NN.out hb)
  clear hb
  go_wp2_with fail
  generalize w31.alloc (.cells #[.int .i64 999999999999999998, .int .i64 999999999999999999] 23) = W32 at *
  generalize w31.heap.size = gBD at *
  refine (of_calls 1 2 _).mono ?_
  rintro e w33 ⟨rfl, hb⟩
  replace NN := Lib.hid (Bgo NN.out hb)
  replace BD := Lib.hid (blk_next hb BD.out)
  clear hb
  go_wp2_with fail
  refine (near_calls 1 2 0 _).mono ?_
  rintro e w34 ⟨r, rfl, hr, hb⟩
  obtain rfl := nrB.unique hr
  clear hr
  replace NN := Lib.hid (Bgo NN.out hb)
  replace BD := Lib.hid (blk_next hb BD.out)
  clear hb
  have hb : Below w34.heap.size w34 (w34.alloc (.cells #[.int .i64 0, .int .i64 0] 23)) := Bal (Below.refl _ _) _
  replace NN := Lib.hid (Bgo NN.out hb)
  replace BD := Lib.hid (blk_next hb BD.out)
  clear hb
  go_wp2_with fail
  generalize w34.alloc (.cells #[.int .i64 0, .int .i64 0] 23) = W35 at *
  generalize w34.heap.size = g35 at *
  refine (of_calls 1 2 _).mono ?_
  rintro e w36 ⟨rfl, hb⟩
  replace NN := Lib.hid (Bgo NN.out hb)
  replace BD := Lib.hid (blk_next hb BD.out)
  clear hb
  go_wp2_with fail
  refine (near_calls 1 2 1000000000000000001 _).mono ?_
  rintro e w37 ⟨r, rfl, hr, hb⟩
  obtain rfl := nrC.unique hr
  clear hr
  replace NN := Lib.hid (Bgo NN.out hb)
  replace BD := Lib.hid (blk_next hb BD.out)
  clear hb
  have hb : Below w37.heap.size w37 (w37.alloc (.cells #[.int .i64 0, .int .i64 0] 23)) := Bal (Below.refl _ _) _
  replace NN := Lib.hid (Bgo NN.out hb)
  replace BD := Lib.hid (blk_next hb BD.out)
  clear hb
  go_wp2_with fail
  generalize w37.alloc (.cells #[.int .i64 0, .int .i64 0] 23) = W38 at *
  generalize w37.heap.size = g38 at *
  refine (of_calls (-1) 3 _).mono ?_
  rintro e w39 ⟨rfl, hb⟩
  replace NN := Lib.hid (Bgo NN.out hb)
  replace BD := Lib.hid (blk_next hb BD.out)
  clear hb
  go_wp2_with fail
  refine (near_calls (-1) 3 2 _).mono ?_
  rintro e w40 ⟨r, rfl, hr, hb⟩
  obtain rfl := nrD.unique hr
  clear hr
  replace NN := Lib.hid (Bgo NN.out hb)
  replace BD := Lib.hid (blk_next hb BD.out)
  clear hb
  have hb : Below w40.heap.size w40 (w40.alloc (.cells #[.int .i64 (-1), .int .i64 2] 23)) := Bal (Below.refl _ _) _
  have BP := Lib.hid (blk_new w40 (.cells #[.int .i64 (-1), .int .i64 2] 23))
  replace NN := Lib.hid (Bgo NN.out hb)
  replace BD := Lib.hid (blk_next hb BD.out)
  clear hb
  go_wp2_with fail
  generalize w40.alloc (.cells #[.int .i64 (-1), .int .i64 2] 23) = W41 at *
  generalize w40.heap.size = gBP at *
  refine (of_calls (-3) 2 _).mono ?_
  rintro e w42 ⟨rfl, hb⟩
  replace NN := Lib.hid (Bgo NN.out hb)
  replace BD := Lib.hid (blk_next hb BD.out)
  replace BP := Lib.hid (blk_next hb BP.out)
  clear hb
  go_wp2_with fail
  refine (near_calls (-3) 2 1 _).mono ?_
  rintro e w43 ⟨r, rfl, hr, hb⟩
  obtain rfl := nrE.unique hr
  clear hr
  replace NN := Lib.hid (Bgo NN.out hb)
  replace BD := Lib.hid (blk_next hb BD.out)
  replace BP := Lib.hid (blk_next hb BP.out)
  clear hb
  have hb : Below w43.heap.size w43 (w43.alloc (.cells #[.int .i64 (-2), .int .i64 1] 23)) := Bal (Below.refl _ _) _
  have BR := Lib.hid (blk_new w43 (.cells #[.int .i64 (-2), .int .i64 1] 23))
  replace NN := Lib.hid (Bgo NN.out hb)
  replace BD := Lib.hid (blk_next hb BD.out)
  replace BP := Lib.hid (blk_next hb BP.out)
  clear hb
  go_wp2_with fail
  generalize w43.alloc (.cells #[.int .i64 (-2), .int .i64 1] 23) = W44 at *
  generalize w43.heap.size = gBR at *
  refine region_I (S := SK [(3, gBD, .cells #[.int .i64 999999999999999998, .int .i64 999999999999999999] 23), (20, gBP, .cells #[.int .i64 (-1), .int .i64 2] 23), (29, gBR, .cells #[.int .i64 (-2), .int .i64 1] 23)]) (by kernel_rfl) ?_
  have HAL := Lib.hid (fun (k : Nat) => (show SK [(3, gBD, .cells #[.int .i64 999999999999999998, .int .i64 999999999999999999] 23), (20, gBP, .cells #[.int .i64 (-1), .int .i64 2] 23), (29, gBR, .cells #[.int .i64 (-2), .int .i64 1] 23)] k W44.drew from fun p hp e => by
    simp only [List.mem_cons, List.not_mem_nil, or_false] at hp
    rcases hp with rfl | rfl | rfl
    · exact BD.out
    · exact BP.out
    · exact BR.out))
  replace NN := Lib.hid (Bgo NN.out (Below.drew (Below.refl W44.heap.size W44)))
  clear BD BP BR
  refine only_I 0 (by kernel_rfl) rfl (fun K' hK' => ?_)
  go_simp
  refine hK'.out _ _ (fun k _ h => h) ?_
  clear hK' K'
  try simp only [Act.put, List.setIfInBounds_toArray, List.set_cons_zero, List.set_cons_succ]
  refine only_I 1 (by kernel_rfl) rfl (fun K' hK' => ?_)
  go_simp
  refine hK'.out _ _ (fun k _ h => h) ?_
  clear hK' K'
  try simp only [Act.put, List.setIfInBounds_toArray, List.set_cons_zero, List.set_cons_succ]
  refine only_I 2 (by kernel_rfl) rfl (fun K' hK' => ?_)
  go_simp
  refine hK'.out _ _ (fun k _ h => h) ?_
  clear hK' K'
  try simp only [Act.put, List.setIfInBounds_toArray, List.set_cons_zero, List.set_cons_succ]
  refine take_I 3 (Fv 999999999999999998 999999999999999999) (some 162) rfl (by kernel_rfl) (by kernel_rfl) (by kernel_rfl) rfl (fun _ _ _ h => h) (Or.inl ⟨by rfl, ?_⟩) (HAL.out 3) ?_
  · intro X hX
    have hh := hX (3, gBD, .cells #[.int .i64 999999999999999998, .int .i64 999999999999999999] 23) (List.Mem.head _) rfl
    have hh0 := blk_cell hh 0 _ rfl
    have hh1 := blk_cell hh 1 _ rfl
    have hhl := blk_lt hh
    clear hh
    clear hX
    go_simp
  try simp only [Act.put, List.setIfInBounds_toArray, List.set_cons_zero, List.set_cons_succ]
  refine only_I 4 (by kernel_rfl) rfl (fun K' hK' => ?_)
  go_simp
  go_at_call 20
  refine (of_calls 999999999999999998 999999999999999999 _).mono ?_
  rintro e x45 ⟨rfl, hb⟩
  go_simp
  refine hK'.out _ _ (fun k _ hS => hS.next hb) ?_
  clear hK' K'
  try simp only [Act.put, List.setIfInBounds_toArray, List.set_cons_zero, List.set_cons_succ]
  replace HAL := Lib.hid (fun k => (HAL.out k).next hb)
  replace NN := Lib.hid (Bgo NN.out hb)
  clear hb
  refine only_I 5 (by kernel_rfl) rfl (fun K' hK' => ?_)
  go_simp
  refine hK'.out _ _ (fun k _ h => h) ?_
  clear hK' K'
  try simp only [Act.put, List.setIfInBounds_toArray, List.set_cons_zero, List.set_cons_succ]
  refine only_I 6 (by kernel_rfl) rfl (fun K' hK' => ?_)
  go_simp
  refine hK'.out _ _ (fun k _ h => h) ?_
  clear hK' K'
  try simp only [Act.put, List.setIfInBounds_toArray, List.set_cons_zero, List.set_cons_succ]
  refine only_I 7 (by kernel_rfl) rfl (fun K' hK' => ?_)
  go_simp
  refine hK'.out _ _ (fun k _ h => h) ?_
  clear hK' K'
  try simp only [Act.put, List.setIfInBounds_toArray, List.set_cons_zero, List.set_cons_succ]
  refine only_I 8 (by kernel_rfl) rfl (fun K' hK' => ?_)
  go_simp
  refine hK'.out _ _ (fun k _ h => h) ?_
  clear hK' K'
  try simp only [Act.put, List.setIfInBounds_toArray, List.set_cons_zero, List.set_cons_succ]
  refine only_I 9 (by kernel_rfl) rfl (fun K' hK' => ?_)
  go_simp
  refine hK'.out _ _ (fun k _ h => h) ?_
  clear hK' K'
  try simp only [Act.put, List.setIfInBounds_toArray, List.set_cons_zero, List.set_cons_succ]
  refine only_I 10 (by kernel_rfl) rfl (fun K' hK' => ?_)
  go_simp
  refine hK'.out _ _ (fun k _ h => h) ?_
  clear hK' K'
  try simp only [Act.put, List.setIfInBounds_toArray, List.set_cons_zero, List.set_cons_succ]
  refine only_I 11 (by kernel_rfl) rfl (fun K' hK' => ?_)
  go_simp
  refine hK'.out _ _ (fun k _ h => h) ?_
  clear hK' K'
  try simp only [Act.put, List.setIfInBounds_toArray, List.set_cons_zero, List.set_cons_succ]
  refine only_I 12 (by kernel_rfl) rfl (fun K' hK' => ?_)
  go_simp
  refine hK'.out _ _ (fun k _ h => h) ?_
  clear hK' K'
  try simp only [Act.put, List.setIfInBounds_toArray, List.set_cons_zero, List.set_cons_succ]
  refine only_I 13 (by kernel_rfl) rfl (fun K' hK' => ?_)
  go_simp
  refine hK'.out _ _ (fun k _ h => h) ?_
  clear hK' K'
  try simp only [Act.put, List.setIfInBounds_toArray, List.set_cons_zero, List.set_cons_succ]
  refine only_I 14 (by kernel_rfl) rfl (fun K' hK' => ?_)
  go_simp
  refine hK'.out _ _ (fun k _ h => h) ?_
  clear hK' K'
  try simp only [Act.put, List.setIfInBounds_toArray, List.set_cons_zero, List.set_cons_succ]
  refine only_I 15 (by kernel_rfl) rfl (fun K' hK' => ?_)
  go_simp
  refine hK'.out _ _ (fun k _ h => h) ?_
  clear hK' K'
  try simp only [Act.put, List.setIfInBounds_toArray, List.set_cons_zero, List.set_cons_succ]
  refine only_I 16 (by kernel_rfl) rfl (fun K' hK' => ?_)
  go_simp
  refine hK'.out _ _ (fun k _ h => h) ?_
  clear hK' K'
  try simp only [Act.put, List.setIfInBounds_toArray, List.set_cons_zero, List.set_cons_succ]
  refine only_I 17 (by kernel_rfl) rfl (fun K' hK' => ?_)
  go_simp
  refine hK'.out _ _ (fun k _ h => h) ?_
  clear hK' K'
  try simp only [Act.put, List.setIfInBounds_toArray, List.set_cons_zero, List.set_cons_succ]
  refine only_I 18 (by kernel_rfl) rfl (fun K' hK' => ?_)
  go_simp
  refine hK'.out _ _ (fun k _ h => h) ?_
  clear hK' K'
  try simp only [Act.put, List.setIfInBounds_toArray, List.set_cons_zero, List.set_cons_succ]
  refine only_I 19 (by kernel_rfl) rfl (fun K' hK' => ?_)
  go_simp
  refine hK'.out _ _ (fun k _ h => h) ?_
  clear hK' K'
  try simp only [Act.put, List.setIfInBounds_toArray, List.set_cons_zero, List.set_cons_succ]
  refine take_I 20 (Fv (-1) 2) (some 179) rfl (by kernel_rfl) (by kernel_rfl) (by kernel_rfl) rfl (fun _ _ _ h => h) (Or.inl ⟨by rfl, ?_⟩) (HAL.out 20) ?_
  · intro X hX
    have hh := hX (20, gBP, .cells #[.int .i64 (-1), .int .i64 2] 23) (List.Mem.tail _ (List.Mem.head _)) rfl
    have hh0 := blk_cell hh 0 _ rfl
    have hh1 := blk_cell hh 1 _ rfl
    have hhl := blk_lt hh
    clear hh
    clear hX
    go_simp
  try simp only [Act.put, List.setIfInBounds_toArray, List.set_cons_zero, List.set_cons_succ]
  refine only_I 21 (by kernel_rfl) rfl (fun K' hK' => ?_)
  go_simp
  go_at_call 20
  refine (of_calls (-1) 2 _).mono ?_
  rintro e x46 ⟨rfl, hb⟩
  go_simp
  refine hK'.out _ _ (fun k _ hS => hS.next hb) ?_
  clear hK' K'
  try simp only [Act.put, List.setIfInBounds_toArray, List.set_cons_zero, List.set_cons_succ]
  replace HAL := Lib.hid (fun k => (HAL.out k).next hb)
  replace NN := Lib.hid (Bgo NN.out hb)
  clear hb
  refine only_I 22 (by kernel_rfl) rfl (fun K' hK' => ?_)
  go_simp
  refine hK'.out _ _ (fun k _ h => h) ?_
  clear hK' K'
  try simp only [Act.put, List.setIfInBounds_toArray, List.set_cons_zero, List.set_cons_succ]
  refine only_I 23 (by kernel_rfl) rfl (fun K' hK' => ?_)
  go_simp
  refine hK'.out _ _ (fun k _ h => h) ?_
  clear hK' K'
  try simp only [Act.put, List.setIfInBounds_toArray, List.set_cons_zero, List.set_cons_succ]
  refine only_I 24 (by kernel_rfl) rfl (fun K' hK' => ?_)
  go_simp
  refine hK'.out _ _ (fun k _ h => h) ?_
  clear hK' K'
  try simp only [Act.put, List.setIfInBounds_toArray, List.set_cons_zero, List.set_cons_succ]
  refine only_I 25 (by kernel_rfl) rfl (fun K' hK' => ?_)
  go_simp
  refine hK'.out _ _ (fun k _ h => h) ?_
  clear hK' K'
  try simp only [Act.put, List.setIfInBounds_toArray, List.set_cons_zero, List.set_cons_succ]
  refine only_I 26 (by kernel_rfl) rfl (fun K' hK' => ?_)
  go_simp
  refine hK'.out _ _ (fun k _ h => h) ?_
  clear hK' K'
  try simp only [Act.put, List.setIfInBounds_toArray, List.set_cons_zero, List.set_cons_succ]
  refine only_I 27 (by kernel_rfl) rfl (fun K' hK' => ?_)
  go_simp
  refine hK'.out _ _ (fun k _ h => h) ?_
  clear hK' K'
  try simp only [Act.put, List.setIfInBounds_toArray, List.set_cons_zero, List.set_cons_succ]
  refine only_I 28 (by kernel_rfl) rfl (fun K' hK' => ?_)
  go_simp
  refine hK'.out _ _ (fun k _ h => h) ?_
  clear hK' K'
  try simp only [Act.put, List.setIfInBounds_toArray, List.set_cons_zero, List.set_cons_succ]
  refine take_I 29 (Fv (-2) 1) (some 188) rfl (by kernel_rfl) (by kernel_rfl) (by kernel_rfl) rfl (fun _ _ _ h => h) (Or.inl ⟨by rfl, ?_⟩) (HAL.out 29) ?_
  · intro X hX
    have hh := hX (29, gBR, .cells #[.int .i64 (-2), .int .i64 1] 23) (List.Mem.tail _ (List.Mem.tail _ (List.Mem.head _))) rfl
    have hh0 := blk_cell hh 0 _ rfl
    have hh1 := blk_cell hh 1 _ rfl
    have hhl := blk_lt hh
    clear hh
    clear hX
    go_simp
  try simp only [Act.put, List.setIfInBounds_toArray, List.set_cons_zero, List.set_cons_succ]
  refine only_I 30 (by kernel_rfl) rfl (fun K' hK' => ?_)
  go_simp
  go_at_call 20
  refine (of_calls (-2) 1 _).mono ?_
  rintro e x47 ⟨rfl, hb⟩
  go_simp
  refine hK'.out _ _ (fun k _ hS => hS.next hb) ?_
  clear hK' K'
  try simp only [Act.put, List.setIfInBounds_toArray, List.set_cons_zero, List.set_cons_succ]
  replace HAL := Lib.hid (fun k => (HAL.out k).next hb)
  replace NN := Lib.hid (Bgo NN.out hb)
  clear hb
  refine only_I 31 (by kernel_rfl) rfl (fun K' hK' => ?_)
  go_simp
  refine hK'.out _ _ (fun k _ h => h) ?_
  clear hK' K'
  try simp only [Act.put, List.setIfInBounds_toArray, List.set_cons_zero, List.set_cons_succ]
  refine only_I 32 (by kernel_rfl) rfl (fun K' hK' => ?_)
  go_simp
  refine hK'.out _ _ (fun k _ h => h) ?_
  clear hK' K'
  try simp only [Act.put, List.setIfInBounds_toArray, List.set_cons_zero, List.set_cons_succ]
  refine only_I 33 (by kernel_rfl) rfl (fun K' hK' => ?_)
  go_simp
  refine hK'.out _ _ (fun k _ h => h) ?_
  clear hK' K'
  try simp only [Act.put, List.setIfInBounds_toArray, List.set_cons_zero, List.set_cons_succ]
  clear HAL
  refine done_I (by kernel_rfl) ?_ _
  go_wp2_with fail
  have hb : Below x47.heap.size x47 (x47.alloc (.cells #[.int .i64 0, .int .i64 1000000000000000000] 2)) := Bal (Below.refl _ _) _
  have RN : Hid (Rd (x47.alloc (.cells #[.int .i64 0, .int .i64 1000000000000000000] 2)) 1 (some ⟨x47.heap.size, 0, none⟩) 2 (lv [0, 1000000000000000000])) := Lib.hid (Rd.new rfl rfl)
  replace NN := Lib.hid (Bgo NN.out hb)
  clear hb
  have FC := foldC (c := 2) (n := 2) (L := [0, 1000000000000000000]) rfl fdA (by decide +kernel) _ (by omega) (by omega) RN.out
  with_reducible refine FC.mono ?_
  clear FC
  rintro e w48 ⟨rfl, hb⟩
  replace NN := Lib.hid (Bgo NN.out hb)
  clear hb RN
  have hb : Below w48.heap.size w48 (w48.alloc (.cells #[.int .i64 1, .int .i64 1000000000000000000] 23)) := Bal (Below.refl _ _) _
  have BT := Lib.hid (blk_new w48 (.cells #[.int .i64 1, .int .i64 1000000000000000000] 23))
  replace NN := Lib.hid (Bgo NN.out hb)
  clear hb
  go_wp2_with fail
  have sz : (w48.alloc (.cells #[.int .i64 1, .int .i64 1000000000000000000] 23)).heap.size = w48.heap.size + 1 := size_new _ _
  generalize w48.alloc (.cells #[.int .i64 1, .int .i64 1000000000000000000] 23) = W49 at *
  generalize w48.heap.size = gBT at *
  have hb : Below W49.heap.size W49 (W49.alloc (.cells #[.int .i64 1000000000000000000, .int .i64 1000000000000000000] 2)) := Bal (Below.refl _ _) _
  have RN : Hid (Rd (W49.alloc (.cells #[.int .i64 1000000000000000000, .int .i64 1000000000000000000] 2)) 1 (some ⟨gBT + 1, 0, none⟩) 2 (lv [1000000000000000000, 1000000000000000000])) := Lib.hid (by rw [← sz]; exact Rd.new rfl rfl)
  clear sz
  replace NN := Lib.hid (Bgo NN.out hb)
  replace BT := Lib.hid (blk_next hb BT.out)
  clear hb
  have FC := foldC (c := 2) (n := 2) (L := [1000000000000000000, 1000000000000000000]) rfl fdB (by decide +kernel) _ (by omega) (by omega) RN.out
  with_reducible refine FC.mono ?_
  clear FC
  rintro e w50 ⟨rfl, hb⟩
  replace NN := Lib.hid (Bgo NN.out hb)
  replace BT := Lib.hid (blk_next hb BT.out)
  clear hb RN
  have hb : Below w50.heap.size w50 (w50.alloc (.cells #[.int .i64 0, .int .i64 0] 23)) := Bal (Below.refl _ _) _
  replace NN := Lib.hid (Bgo NN.out hb)
  replace BT := Lib.hid (blk_next hb BT.out)
  clear hb
  go_wp2_with fail
  have sz : (w50.alloc (.cells #[.int .i64 0, .int .i64 0] 23)).heap.size = w50.heap.size + 1 := size_new _ _
  generalize w50.alloc (.cells #[.int .i64 0, .int .i64 0] 23) = W51 at *
  generalize w50.heap.size = g51 at *
  have hb : Below W51.heap.size W51 (W51.alloc (.cells #[.int .i64 1, .int .i64 0] 2)) := Bal (Below.refl _ _) _
  have RN : Hid (Rd (W51.alloc (.cells #[.int .i64 1, .int .i64 0] 2)) 1 (some ⟨g51 + 1, 0, none⟩) 2 (lv [1, 0])) := Lib.hid (by rw [← sz]; exact Rd.new rfl rfl)
  clear sz
  replace NN := Lib.hid (Bgo NN.out hb)
  replace BT := Lib.hid (blk_next hb BT.out)
  clear hb
  have FC := foldC (c := 2) (n := 2) (L := [1, 0]) rfl fdC (by decide +kernel) _ (by omega) (by omega) RN.out
  with_reducible refine FC.mono ?_
  clear FC
  rintro e w52 ⟨rfl, hb⟩
  replace NN := Lib.hid (Bgo NN.out hb)
  replace BT := Lib.hid (blk_next hb BT.out)
  clear hb RN
  have hb : Below w52.heap.size w52 (w52.alloc (.cells #[.int .i64 0, .int .i64 0] 23)) := Bal (Below.refl _ _) _
  replace NN := Lib.hid (Bgo NN.out hb)
  replace BT := Lib.hid (blk_next hb BT.out)
  clear hb
  go_wp2_with fail
  have sz : (w52.alloc (.cells #[.int .i64 0, .int .i64 0] 23)).heap.size = w52.heap.size + 1 := size_new _ _
  generalize w52.alloc (.cells #[.int .i64 0, .int .i64 0] 23) = W53 at *
  generalize w52.heap.size = g53 at *
  clear sz
  have RN : Hid (Rd W53 1 none 0 (lv [])) := Lib.hid ⟨by decide, fun h => absurd h (by decide)⟩
  have FC := foldC (A := none) (c := 0) (n := 0) (L := []) rfl fdD (by decide) _ (by omega) (by omega) RN.out
  with_reducible refine FC.mono ?_
  clear FC
  rintro e w54 ⟨rfl, hb⟩
  replace NN := Lib.hid (Bgo NN.out hb)
  replace BT := Lib.hid (blk_next hb BT.out)
  clear hb RN
  have hb : Below w54.heap.size w54 (w54.alloc (.cells #[.int .i64 0, .int .i64 0] 23)) := Bal (Below.refl _ _) _
  replace NN := Lib.hid (Bgo NN.out hb)
  replace BT := Lib.hid (blk_next hb BT.out)
  clear hb
  go_wp2_with fail
  have sz : (w54.alloc (.cells #[.int .i64 0, .int .i64 0] 23)).heap.size = w54.heap.size + 1 := size_new _ _
  generalize w54.alloc (.cells #[.int .i64 0, .int .i64 0] 23) = W55 at *
  generalize w54.heap.size = g55 at *
  have hb : Below W55.heap.size W55 (W55.alloc (.cells M101 2)) := Bal (Below.refl _ _) _
  have RN : Hid (Rd (W55.alloc (.cells M101 2)) 1 (some ⟨g55 + 1, 0, none⟩) 101 (lv (List.replicate 101 0))) := Lib.hid (by rw [← sz]; exact Rd.new m101 rfl)
  clear sz
  replace NN := Lib.hid (Bgo NN.out hb)
  replace BT := Lib.hid (blk_next hb BT.out)
  clear hb
  have FC := foldC (c := 101) (n := 101) (L := (List.replicate 101 0)) rfl fdE (by decide +kernel) _ (by omega) (by omega) RN.out
  with_reducible refine FC.mono ?_
  clear FC
  rintro e w56 ⟨rfl, hb⟩
  replace NN := Lib.hid (Bgo NN.out hb)
  replace BT := Lib.hid (blk_next hb BT.out)
  clear hb RN
  have hb : Below w56.heap.size w56 (w56.alloc (.cells #[.int .i64 0, .int .i64 0] 23)) := Bal (Below.refl _ _) _
  replace NN := Lib.hid (Bgo NN.out hb)
  replace BT := Lib.hid (blk_next hb BT.out)
  clear hb
  go_wp2_with fail
  have sz : (w56.alloc (.cells #[.int .i64 0, .int .i64 0] 23)).heap.size = w56.heap.size + 1 := size_new _ _
  generalize w56.alloc (.cells #[.int .i64 0, .int .i64 0] 23) = W57 at *
  generalize w56.heap.size = g57 at *
  have hb : Below W57.heap.size W57 (W57.alloc (.cells #[.int .i64 (-1000000000000000001)] 2)) := Bal (Below.refl _ _) _
  have RN : Hid (Rd (W57.alloc (.cells #[.int .i64 (-1000000000000000001)] 2)) 1 (some ⟨g57 + 1, 0, none⟩) 1 (lv [-1000000000000000001])) := Lib.hid (by rw [← sz]; exact Rd.new rfl rfl)
  clear sz
  replace NN := Lib.hid (Bgo NN.out hb)
  replace BT := Lib.hid (blk_next hb BT.out)
  clear hb
  have FC := foldC (c := 1) (n := 1) (L := [-1000000000000000001]) rfl fdF (by decide +kernel) _ (by omega) (by omega) RN.out
  with_reducible refine FC.mono ?_
  clear FC
  rintro e w58 ⟨rfl, hb⟩
  replace NN := Lib.hid (Bgo NN.out hb)
  replace BT := Lib.hid (blk_next hb BT.out)
  clear hb RN
  have hb : Below w58.heap.size w58 (w58.alloc (.cells #[.int .i64 0, .int .i64 0] 23)) := Bal (Below.refl _ _) _
  replace NN := Lib.hid (Bgo NN.out hb)
  replace BT := Lib.hid (blk_next hb BT.out)
  clear hb
  go_wp2_with fail
  have sz : (w58.alloc (.cells #[.int .i64 0, .int .i64 0] 23)).heap.size = w58.heap.size + 1 := size_new _ _
  generalize w58.alloc (.cells #[.int .i64 0, .int .i64 0] 23) = W59 at *
  generalize w58.heap.size = g59 at *
  have hb : Below W59.heap.size W59 (W59.alloc (.cells #[.int .i64 2, .int .i64 1, .int .i64 1] 2)) := Bal (Below.refl _ _) _
  have RN : Hid (Rd (W59.alloc (.cells #[.int .i64 2, .int .i64 1, .int .i64 1] 2)) 1 (some ⟨g59 + 1, 0, none⟩) 3 (lv [2, 1, 1])) := Lib.hid (by rw [← sz]; exact Rd.new rfl rfl)
  clear sz
  replace NN := Lib.hid (Bgo NN.out hb)
  replace BT := Lib.hid (blk_next hb BT.out)
  clear hb
  have FC := foldC (c := 3) (n := 3) (L := [2, 1, 1]) rfl fdG (by decide +kernel) _ (by omega) (by omega) RN.out
  with_reducible refine FC.mono ?_
  clear FC
  rintro e w60 ⟨rfl, hb⟩
  replace NN := Lib.hid (Bgo NN.out hb)
  replace BT := Lib.hid (blk_next hb BT.out)
  clear hb RN
  have hb : Below w60.heap.size w60 (w60.alloc (.cells #[.int .i64 5, .int .i64 2] 23)) := Bal (Below.refl _ _) _
  have BO := Lib.hid (blk_new w60 (.cells #[.int .i64 5, .int .i64 2] 23))
  replace NN := Lib.hid (Bgo NN.out hb)
  replace BT := Lib.hid (blk_next hb BT.out)
  clear hb
  go_wp2_with fail
  have sz : (w60.alloc (.cells #[.int .i64 5, .int .i64 2] 23)).heap.size = w60.heap.size + 1 := size_new _ _
  generalize w60.alloc (.cells #[.int .i64 5, .int .i64 2] 23) = W61 at *
  generalize w60.heap.size = gBO at *
  have hb : Below W61.heap.size W61 (W61.alloc (.cells #[.int .i64 1, .int .i64 9223372036854775807] 2)) := Bal (Below.refl _ _) _
  have RN : Hid (Rd (W61.alloc (.cells #[.int .i64 1, .int .i64 9223372036854775807] 2)) 1 (some ⟨gBO + 1, 0, none⟩) 2 (lv [1, 9223372036854775807])) := Lib.hid (by rw [← sz]; exact Rd.new rfl rfl)
  clear sz
  replace NN := Lib.hid (Bgo NN.out hb)
  replace BT := Lib.hid (blk_next hb BT.out)
  replace BO := Lib.hid (blk_next hb BO.out)
  clear hb
  have FC := foldC (c := 2) (n := 2) (L := [1, 9223372036854775807]) rfl fdH (by decide +kernel) _ (by omega) (by omega) RN.out
  with_reducible refine FC.mono ?_
  clear FC
  rintro e w62 ⟨rfl, hb⟩
  replace NN := Lib.hid (Bgo NN.out hb)
  replace BT := Lib.hid (blk_next hb BT.out)
  replace BO := Lib.hid (blk_next hb BO.out)
  clear hb RN
  have hb : Below w62.heap.size w62 (w62.alloc (.cells #[.int .i64 0, .int .i64 0] 23)) := Bal (Below.refl _ _) _
  replace NN := Lib.hid (Bgo NN.out hb)
  replace BT := Lib.hid (blk_next hb BT.out)
  replace BO := Lib.hid (blk_next hb BO.out)
  clear hb
  go_wp2_with fail
  generalize w62.alloc (.cells #[.int .i64 0, .int .i64 0] 23) = W63 at *
  generalize w62.heap.size = g63 at *
  refine region_I (S := SK [(3, gBT, .cells #[.int .i64 1, .int .i64 1000000000000000000] 23), (32, gBO, .cells #[.int .i64 5, .int .i64 2] 23)]) (by kernel_rfl) ?_
  have HAL := Lib.hid (fun (k : Nat) => (show SK [(3, gBT, .cells #[.int .i64 1, .int .i64 1000000000000000000] 23), (32, gBO, .cells #[.int .i64 5, .int .i64 2] 23)] k W63.drew from fun p hp e => by
    simp only [List.mem_cons, List.not_mem_nil, or_false] at hp
    rcases hp with rfl | rfl
    · exact BT.out
    · exact BO.out))
  replace NN := Lib.hid (Bgo NN.out (Below.drew (Below.refl W63.heap.size W63)))
  clear BT BO
  refine only_I 0 (by kernel_rfl) rfl (fun K' hK' => ?_)
  go_simp
  refine hK'.out _ _ (fun k _ h => h) ?_
  clear hK' K'
  try simp only [Act.put, List.setIfInBounds_toArray, List.set_cons_zero, List.set_cons_succ]
  refine only_I 1 (by kernel_rfl) rfl (fun K' hK' => ?_)
  go_simp
  refine hK'.out _ _ (fun k _ h => h) ?_
  clear hK' K'
  try simp only [Act.put, List.setIfInBounds_toArray, List.set_cons_zero, List.set_cons_succ]
  refine only_I 2 (by kernel_rfl) rfl (fun K' hK' => ?_)
  go_simp
  refine hK'.out _ _ (fun k _ h => h) ?_
  clear hK' K'
  try simp only [Act.put, List.setIfInBounds_toArray, List.set_cons_zero, List.set_cons_succ]
  refine take_I 3 (Fv 1 1000000000000000000) (some 234) rfl (by kernel_rfl) (by kernel_rfl) (by kernel_rfl) rfl (fun _ _ _ h => h) (Or.inl ⟨by rfl, ?_⟩) (HAL.out 3) ?_
  · intro X hX
    have hh := hX (3, gBT, .cells #[.int .i64 1, .int .i64 1000000000000000000] 23) (List.Mem.head _) rfl
    have hh0 := blk_cell hh 0 _ rfl
    have hh1 := blk_cell hh 1 _ rfl
    have hhl := blk_lt hh
    clear hh
    clear hX
    go_simp
  try simp only [Act.put, List.setIfInBounds_toArray, List.set_cons_zero, List.set_cons_succ]
  refine only_I 4 (by kernel_rfl) rfl (fun K' hK' => ?_)
  go_simp
  go_at_call 20
  refine (of_calls 1 1000000000000000000 _).mono ?_
  rintro e x64 ⟨rfl, hb⟩
  go_simp
  refine hK'.out _ _ (fun k _ hS => hS.next hb) ?_
  clear hK' K'
  try simp only [Act.put, List.setIfInBounds_toArray, List.set_cons_zero, List.set_cons_succ]
  replace HAL := Lib.hid (fun k => (HAL.out k).next hb)
  replace NN := Lib.hid (Bgo NN.out hb)
  clear hb
  refine only_I 5 (by kernel_rfl) rfl (fun K' hK' => ?_)
  go_simp
  refine hK'.out _ _ (fun k _ h => h) ?_
  clear hK' K'
  try simp only [Act.put, List.setIfInBounds_toArray, List.set_cons_zero, List.set_cons_succ]
  refine only_I 6 (by kernel_rfl) rfl (fun K' hK' => ?_)
  go_simp
  refine hK'.out _ _ (fun k _ h => h) ?_
  clear hK' K'
  try simp only [Act.put, List.setIfInBounds_toArray, List.set_cons_zero, List.set_cons_succ]
  refine only_I 7 (by kernel_rfl) rfl (fun K' hK' => ?_)
  go_simp
  refine hK'.out _ _ (fun k _ h => h) ?_
  clear hK' K'
  try simp only [Act.put, List.setIfInBounds_toArray, List.set_cons_zero, List.set_cons_succ]
  refine only_I 8 (by kernel_rfl) rfl (fun K' hK' => ?_)
  go_simp
  refine hK'.out _ _ (fun k _ h => h) ?_
  clear hK' K'
  try simp only [Act.put, List.setIfInBounds_toArray, List.set_cons_zero, List.set_cons_succ]
  refine only_I 9 (by kernel_rfl) rfl (fun K' hK' => ?_)
  go_simp
  refine hK'.out _ _ (fun k _ h => h) ?_
  clear hK' K'
  try simp only [Act.put, List.setIfInBounds_toArray, List.set_cons_zero, List.set_cons_succ]
  refine only_I 10 (by kernel_rfl) rfl (fun K' hK' => ?_)
  go_simp
  refine hK'.out _ _ (fun k _ h => h) ?_
  clear hK' K'
  try simp only [Act.put, List.setIfInBounds_toArray, List.set_cons_zero, List.set_cons_succ]
  refine only_I 11 (by kernel_rfl) rfl (fun K' hK' => ?_)
  go_simp
  refine hK'.out _ _ (fun k _ h => h) ?_
  clear hK' K'
  try simp only [Act.put, List.setIfInBounds_toArray, List.set_cons_zero, List.set_cons_succ]
  refine only_I 12 (by kernel_rfl) rfl (fun K' hK' => ?_)
  go_simp
  refine hK'.out _ _ (fun k _ h => h) ?_
  clear hK' K'
  try simp only [Act.put, List.setIfInBounds_toArray, List.set_cons_zero, List.set_cons_succ]
  refine only_I 13 (by kernel_rfl) rfl (fun K' hK' => ?_)
  go_simp
  refine hK'.out _ _ (fun k _ h => h) ?_
  clear hK' K'
  try simp only [Act.put, List.setIfInBounds_toArray, List.set_cons_zero, List.set_cons_succ]
  refine only_I 14 (by kernel_rfl) rfl (fun K' hK' => ?_)
  go_simp
  refine hK'.out _ _ (fun k _ h => h) ?_
  clear hK' K'
  try simp only [Act.put, List.setIfInBounds_toArray, List.set_cons_zero, List.set_cons_succ]
  refine only_I 15 (by kernel_rfl) rfl (fun K' hK' => ?_)
  go_simp
  refine hK'.out _ _ (fun k _ h => h) ?_
  clear hK' K'
  try simp only [Act.put, List.setIfInBounds_toArray, List.set_cons_zero, List.set_cons_succ]
  refine only_I 16 (by kernel_rfl) rfl (fun K' hK' => ?_)
  go_simp
  refine hK'.out _ _ (fun k _ h => h) ?_
  clear hK' K'
  try simp only [Act.put, List.setIfInBounds_toArray, List.set_cons_zero, List.set_cons_succ]
  refine only_I 17 (by kernel_rfl) rfl (fun K' hK' => ?_)
  go_simp
  refine hK'.out _ _ (fun k _ h => h) ?_
  clear hK' K'
  try simp only [Act.put, List.setIfInBounds_toArray, List.set_cons_zero, List.set_cons_succ]
  refine only_I 18 (by kernel_rfl) rfl (fun K' hK' => ?_)
  go_simp
  refine hK'.out _ _ (fun k _ h => h) ?_
  clear hK' K'
  try simp only [Act.put, List.setIfInBounds_toArray, List.set_cons_zero, List.set_cons_succ]
  refine only_I 19 (by kernel_rfl) rfl (fun K' hK' => ?_)
  go_simp
  refine hK'.out _ _ (fun k _ h => h) ?_
  clear hK' K'
  try simp only [Act.put, List.setIfInBounds_toArray, List.set_cons_zero, List.set_cons_succ]
  refine only_I 20 (by kernel_rfl) rfl (fun K' hK' => ?_)
  go_simp
  refine hK'.out _ _ (fun k _ h => h) ?_
  clear hK' K'
  try simp only [Act.put, List.setIfInBounds_toArray, List.set_cons_zero, List.set_cons_succ]
  refine only_I 21 (by kernel_rfl) rfl (fun K' hK' => ?_)
  go_simp
  refine hK'.out _ _ (fun k _ h => h) ?_
  clear hK' K'
  try simp only [Act.put, List.setIfInBounds_toArray, List.set_cons_zero, List.set_cons_succ]
  refine only_I 22 (by kernel_rfl) rfl (fun K' hK' => ?_)
  go_simp
  refine hK'.out _ _ (fun k _ h => h) ?_
  clear hK' K'
  try simp only [Act.put, List.setIfInBounds_toArray, List.set_cons_zero, List.set_cons_succ]
  refine only_I 23 (by kernel_rfl) rfl (fun K' hK' => ?_)
  go_simp
  refine hK'.out _ _ (fun k _ h => h) ?_
  clear hK' K'
  try simp only [Act.put, List.setIfInBounds_toArray, List.set_cons_zero, List.set_cons_succ]
  refine only_I 24 (by kernel_rfl) rfl (fun K' hK' => ?_)
  go_simp
  refine hK'.out _ _ (fun k _ h => h) ?_
  clear hK' K'
  try simp only [Act.put, List.setIfInBounds_toArray, List.set_cons_zero, List.set_cons_succ]
  refine only_I 25 (by kernel_rfl) rfl (fun K' hK' => ?_)
  go_simp
  refine hK'.out _ _ (fun k _ h => h) ?_
  clear hK' K'
  try simp only [Act.put, List.setIfInBounds_toArray, List.set_cons_zero, List.set_cons_succ]
  refine only_I 26 (by kernel_rfl) rfl (fun K' hK' => ?_)
  go_simp
  refine hK'.out _ _ (fun k _ h => h) ?_
  clear hK' K'
  try simp only [Act.put, List.setIfInBounds_toArray, List.set_cons_zero, List.set_cons_succ]
  refine only_I 27 (by kernel_rfl) rfl (fun K' hK' => ?_)
  go_simp
  refine hK'.out _ _ (fun k _ h => h) ?_
  clear hK' K'
  try simp only [Act.put, List.setIfInBounds_toArray, List.set_cons_zero, List.set_cons_succ]
  refine only_I 28 (by kernel_rfl) rfl (fun K' hK' => ?_)
  go_simp
  refine hK'.out _ _ (fun k _ h => h) ?_
  clear hK' K'
  try simp only [Act.put, List.setIfInBounds_toArray, List.set_cons_zero, List.set_cons_succ]
  refine only_I 29 (by kernel_rfl) rfl (fun K' hK' => ?_)
  go_simp
  refine hK'.out _ _ (fun k _ h => h) ?_
  clear hK' K'
  try simp only [Act.put, List.setIfInBounds_toArray, List.set_cons_zero, List.set_cons_succ]
  refine only_I 30 (by kernel_rfl) rfl (fun K' hK' => ?_)
  go_simp
  refine hK'.out _ _ (fun k _ h => h) ?_
  clear hK' K'
  try simp only [Act.put, List.setIfInBounds_toArray, List.set_cons_zero, List.set_cons_succ]
  refine only_I 31 (by kernel_rfl) rfl (fun K' hK' => ?_)
  go_simp
  refine hK'.out _ _ (fun k _ h => h) ?_
  clear hK' K'
  try simp only [Act.put, List.setIfInBounds_toArray, List.set_cons_zero, List.set_cons_succ]
  refine take_I 32 (Fv 5 2) (some 263) rfl (by kernel_rfl) (by kernel_rfl) (by kernel_rfl) rfl (fun _ _ _ h => h) (Or.inl ⟨by rfl, ?_⟩) (HAL.out 32) ?_
  · intro X hX
    have hh := hX (32, gBO, .cells #[.int .i64 5, .int .i64 2] 23) (List.Mem.tail _ (List.Mem.head _)) rfl
    have hh0 := blk_cell hh 0 _ rfl
    have hh1 := blk_cell hh 1 _ rfl
    have hhl := blk_lt hh
    clear hh
    clear hX
    go_simp
  try simp only [Act.put, List.setIfInBounds_toArray, List.set_cons_zero, List.set_cons_succ]
  refine only_I 33 (by kernel_rfl) rfl (fun K' hK' => ?_)
  go_simp
  go_at_call 20
  refine (of_calls 5 2 _).mono ?_
  rintro e x65 ⟨rfl, hb⟩
  go_simp
  refine hK'.out _ _ (fun k _ hS => hS.next hb) ?_
  clear hK' K'
  try simp only [Act.put, List.setIfInBounds_toArray, List.set_cons_zero, List.set_cons_succ]
  replace HAL := Lib.hid (fun k => (HAL.out k).next hb)
  replace NN := Lib.hid (Bgo NN.out hb)
  clear hb
  refine only_I 34 (by kernel_rfl) rfl (fun K' hK' => ?_)
  go_simp
  refine hK'.out _ _ (fun k _ h => h) ?_
  clear hK' K'
  try simp only [Act.put, List.setIfInBounds_toArray, List.set_cons_zero, List.set_cons_succ]
  refine only_I 35 (by kernel_rfl) rfl (fun K' hK' => ?_)
  go_simp
  refine hK'.out _ _ (fun k _ h => h) ?_
  clear hK' K'
  try simp only [Act.put, List.setIfInBounds_toArray, List.set_cons_zero, List.set_cons_succ]
  refine only_I 36 (by kernel_rfl) rfl (fun K' hK' => ?_)
  go_simp
  refine hK'.out _ _ (fun k _ h => h) ?_
  clear hK' K'
  try simp only [Act.put, List.setIfInBounds_toArray, List.set_cons_zero, List.set_cons_succ]
  refine only_I 37 (by kernel_rfl) rfl (fun K' hK' => ?_)
  go_simp
  refine hK'.out _ _ (fun k _ h => h) ?_
  clear hK' K'
  try simp only [Act.put, List.setIfInBounds_toArray, List.set_cons_zero, List.set_cons_succ]
  refine only_I 38 (by kernel_rfl) rfl (fun K' hK' => ?_)
  go_simp
  refine hK'.out _ _ (fun k _ h => h) ?_
  clear hK' K'
  try simp only [Act.put, List.setIfInBounds_toArray, List.set_cons_zero, List.set_cons_succ]
  refine only_I 39 (by kernel_rfl) rfl (fun K' hK' => ?_)
  go_simp
  refine hK'.out _ _ (fun k _ h => h) ?_
  clear hK' K'
  try simp only [Act.put, List.setIfInBounds_toArray, List.set_cons_zero, List.set_cons_succ]
  refine only_I 40 (by kernel_rfl) rfl (fun K' hK' => ?_)
  go_simp
  refine hK'.out _ _ (fun k _ h => h) ?_
  clear hK' K'
  try simp only [Act.put, List.setIfInBounds_toArray, List.set_cons_zero, List.set_cons_succ]
  clear HAL
  refine done_I (by kernel_rfl) ?_ _
  go_wp2_with fail
  refine (refused_calls _ _ (GG.out.next NN.out) tx0).mono ?_
  rintro e w66 ⟨rfl, hb⟩
  replace NN := Lib.hid (Bgo NN.out hb)
  clear hb
  go_wp2_with fail
  refine (refused_calls _ _ (GG.out.next NN.out) tx1).mono ?_
  rintro e w67 ⟨rfl, hb⟩
  replace NN := Lib.hid (Bgo NN.out hb)
  clear hb
  go_wp2_with fail
  refine (refused_calls _ _ (GG.out.next NN.out) tx2).mono ?_
  rintro e w68 ⟨rfl, hb⟩
  replace NN := Lib.hid (Bgo NN.out hb)
  clear hb
  go_wp2_with fail
  refine (refused_calls _ _ (GG.out.next NN.out) tx3).mono ?_
  rintro e w69 ⟨rfl, hb⟩
  replace NN := Lib.hid (Bgo NN.out hb)
  clear hb
  go_wp2_with fail
  refine (refused_calls _ _ (GG.out.next NN.out) tx4).mono ?_
  rintro e w70 ⟨rfl, hb⟩
  replace NN := Lib.hid (Bgo NN.out hb)
  clear hb
  go_wp2_with fail
  refine (refused_calls _ _ (GG.out.next NN.out) tx5).mono ?_
  rintro e w71 ⟨rfl, hb⟩
  replace NN := Lib.hid (Bgo NN.out hb)
  clear hb
  go_wp2_with fail
  refine (refused_calls _ _ (GG.out.next NN.out) tx6).mono ?_
  rintro e w72 ⟨rfl, hb⟩
  replace NN := Lib.hid (Bgo NN.out hb)
  clear hb
  go_wp2_with fail
  refine (refused_calls _ _ (GG.out.next NN.out) tx7).mono ?_
  rintro e w73 ⟨rfl, hb⟩
  replace NN := Lib.hid (Bgo NN.out hb)
  clear hb
  go_wp2_with fail
  refine (refused_calls _ _ (GG.out.next NN.out) tx8).mono ?_
  rintro e w74 ⟨rfl, hb⟩
  replace NN := Lib.hid (Bgo NN.out hb)
  clear hb
  go_wp2_with fail
  refine (refused_calls _ _ (GG.out.next NN.out) tx9).mono ?_
  rintro e w75 ⟨rfl, hb⟩
  replace NN := Lib.hid (Bgo NN.out hb)
  clear hb
  go_wp2_with fail
  refine (refused_calls _ _ (GG.out.next NN.out) tx10).mono ?_
  rintro e w76 ⟨rfl, hb⟩
  replace NN := Lib.hid (Bgo NN.out hb)
  clear hb
  go_wp2_with fail
  refine (refused_calls _ _ (GG.out.next NN.out) tx11).mono ?_
  rintro e w77 ⟨rfl, hb⟩
  replace NN := Lib.hid (Bgo NN.out hb)
  clear hb
  go_wp2_with fail
  refine (refused_calls _ _ (GG.out.next NN.out) tx12).mono ?_
  rintro e w78 ⟨rfl, hb⟩
  replace NN := Lib.hid (Bgo NN.out hb)
  clear hb
  go_wp2_with fail
  refine (alive_calls _).mono ?_
  rintro e w79 ⟨rfl, hb⟩
  replace NN := Lib.hid (Bgo NN.out hb)
  clear hb
  go_wp2_with fail
  go_ret
  exact ⟨rfl, NN.out⟩
  
abbrev synS : ByteArray := { data := #[105, 110, 118, 97, 108, 105, 100, 32, 115, 121, 110, 116, 97, 120] }
abbrev rngS : ByteArray := { data := #[118, 97, 108, 117, 101, 32, 111, 117, 116, 32, 111, 102, 32, 114, 97, 110, 103, 101] }
noncomputable def low : Nat := (World.holding Tryd.prog default ⟨#[], #[], []⟩).heap.size
def vals : DataW Unit → Array Value
  | .agg l => (l.map fun d => match d with | .lit (.int k z) => Value.int k z | _ => undef).toArray
  | _ => #[]
def put (vs : Array Value) : Obj → Obj
  | .cells _ t frozen => .cells vs t frozen
  | o => o
noncomputable def laidWorld (os : Os) : World :=
  let w0 := World.holding Tryd.prog os ⟨#[.cells #[.string rngS] 125, .cells #[.string synS] 125], #[], []⟩
  { w0 with heap := ((((w0.heap.modify 6 (put (vals Rows.laid_math_bits_deBruijn32tab))).modify 7 (put (vals Rows.laid_math_bits_deBruijn64tab))).modify 2 (put (vals Rows.laid_internal_strconv_uint64pow10))).modify 5 (put #[.iface 123 (.pointer (some ⟨low, 0, none⟩))])).modify 4 (put #[.iface 123 (.pointer (some ⟨low + 1, 0, none⟩))]) }
theorem laid_met (os : Os) (args : Array Value) : laidMet Tryd.prog Rows.fracNamesRow.laid ((laidWorld os).forCall (fun _ _ => 0) ⟨#[], args, []⟩).memory :=
  laidMet_of_run' 8 (by kernel_rfl) (by kernel_rfl)

set_option maxRecDepth 100000 in
set_option maxHeartbeats 4000000 in
theorem lifted (os : Os) (started : os.Started) (H : Type) (enc : TypeId × Value → H) (F0 : Stop.Interp) :
    ReturnsInHanded {} Tryd.checked os 5 .any ((OpenSpec.ofChange Rows.fracNamesSpec).preRow enc Tryd.prog Tryd.f5 Rows.fracNamesRow.domain false Rows.fracNamesRow.laid) (((OpenSpec.ofChange Rows.fracNamesSpec).at F0).post enc Tryd.prog Tryd.f5 false true false false) := by
  refine returnsInHanded_of_row (C := Tryd.checked) (s := OpenSpec.ofChange Rows.fracNamesSpec) own started (by kernel_rfl) Tryd.func5
    (witness_row_at (enc := enc) (C := Tryd.checked) false (laidWorld os) #[] rfl (by kernel_rfl) (by kernel_rfl) (by kernel_rfl) (OpenSpec.preRow_of_B rfl 8 (by kernel_rfl) (by kernel_rfl) (laid_met os _))) ?_
  intro W base args ds gs before hval0 hW hcnd _ hsz0 hL hsh _
  have GLW := gl_of hL hsh
  clear hL hsh hsz0 hcnd
  have hval : ∀ (j : Nat) t v, Tryd.f5.params[j]? = some t → args[j]? = some v → Value.okWide Tryd.prog W .any base t v := hval0
  have hW' := hW
  obtain ⟨p, q, hA0, hV, rfl, hfz, hnd⟩ := hW
  have hA : DataW.TrodAll enc Tryd.prog W 0 (fun _ => true) true Tryd.f5.params.toList args.toList ds p := hA0
  rw [Tryd.params5] at hA hval
  obtain ⟨hargs, rfl, rfl⟩ := trodAll_nil hA
  obtain rfl : args = #[] := by cases args; simp_all
  obtain ⟨rfl, rfl⟩ := trodVars_none hV
  clear hA0 hval0
  refine (walk W GLW).mono fun e W' ⟨he, bel⟩ => ?_
  subst he
  exact ⟨_, rfl, _, _, _, [], _, [], hW', trodAll_mk1 (shut_bool Tryd.underlying4 _), trodAll_mk0, rfl, bel.frame _, fun h => by cases h⟩

theorem over : Rows.FracNamesSaid :=
  OpenClaim.holds_of_cond 5 Tryd.f5 rfl rfl rfl rfl rfl rfl rfl ⟨rfl, rfl, rfl, rfl, rfl⟩ rfl rfl rfl rfl rfl (by kernel_rfl) Tryd.func5 (by kernel_rfl)
    (of_decide_eq_true (by kernel_rfl)) (by unfold Func.isWrapper; first | (rw [if_pos (by decide +kernel)]; kernel_rfl) | (rw [if_neg (by decide +kernel)]; exact ⟨rfl, rfl⟩))
    (fun os started H enc _ F0 => by rw [OpenClaim.pre_eq_preRow]; exact lifted os started H enc F0)

theorem proved : Rows.FracNamesCardSaid :=
  Claim7.holds_tied_plain_at .later [] [.data, .data, .data, .sentinel, .sentinel] true (true, "43c78dc67c81c121e4f2f638ffa34a2371ed4a535b44984ce1144cd4d0a3dfce") true
    over (fun _ h => by cases h) (by kernel_rfl) (fun _ h => by cases h) fracNames_row_tie rfl ⟨rfl, rfl⟩ (by kernel_rfl) rfl
    (fun f fn hf hfn => by
      obtain rfl : f = 5 := Option.some.inj ((show Tryd.prog.funcNamed "fringe/fringelaw01.FracNames" = some 5 by kernel_rfl).symm.trans hf) |>.symm
      obtain rfl : fn = Tryd.f5 := (Option.some.inj (Tryd.func5.symm.trans hfn)).symm
      exact ⟨by kernel_rfl, fun j t ht => by
        rw [Tryd.params5] at ht
        have hj : j < 0 := by
          have := (Array.getElem?_eq_some_iff.1 ht).1
          simp at this
        omega⟩)
    (by kernel_rfl)
#print axioms proved
end Go.Proofs.YtpeoecgehdicmaaDoor.fracNames
