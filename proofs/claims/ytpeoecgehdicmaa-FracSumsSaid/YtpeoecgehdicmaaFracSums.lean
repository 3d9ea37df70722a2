/- For every input the law FracSums returns true and leaves its arguments as they were. -/
import Derived.Test.YtpeoecgehdicmaaRows
import Derived.Test.YtpeoecgehdicmaaFse
import Derived.WalkKit
import Derived.ProofKit
import Derived.OpenShut
import Derived.ShutString
import Derived.ChangeOld
import Derived.Below
import Derived.Lib.SmallJoins
namespace Go.Proofs.Ytpeoecgehdicmaa.fracSums
open Go.ChangeShapes Go.WideShapes Go.ChangeAt Go.RowKit Go.Joins
open Go.ChangeMaps (open_string shut_string)
set_option linter.unusedVariables false

theorem own : ownKnob Try.prog.godebug = none := by kernel_rfl
theorem laidOut : laidOutB Try.prog = true := by kernel_rfl
set_option maxRecDepth 100000 in
set_option maxHeartbeats 16000000 in
theorem walk (an ad bn bd : Int) (w : World) :
    Calls Try.prog 5 #[Fv an ad, Fv bn bd] w fun e w' => e = .returned (.bool true) ∧ Below w.heap.size w w' := by
  have A1 := Lib.hid (fun W => add_calls an ad bn bd W)
  have A2 := Lib.hid (fun W => refAdd_calls an ad bn bd W)
  have S1 := Lib.hid (fun W => sub_calls an ad bn bd W)
  have S2 := Lib.hid (fun W => refSub_calls an ad bn bd W)
  have C1 := Lib.hid (fun W => cmp_calls an ad bn bd W)
  have C2 := Lib.hid (fun W => refCmp_calls an ad bn bd W)
  have L1 := Lib.hid (fun W => floorF_calls an ad W)
  have L2 := Lib.hid (fun W => refFloor_calls an ad W)
  have K1 := Lib.hid (fun W => check_calls an ad W)
  have K2 := Lib.hid (fun W => refCheck_calls an ad W)
  generalize addR an ad bn bd = ra at *
  obtain ⟨a1, a2, a3⟩ := ra
  generalize subR an ad bn bd = rs at *
  obtain ⟨s1, s2, s3⟩ := rs
  generalize cmpR an ad bn bd = cr at *
  generalize errB an ad bn bd = ce at *
  generalize flR an ad = fr at *
  generalize errF an ad = fe at *
  go_enter Try.func5, Try.ntmps5
  go_wp2_with fail
  have BA : Hid (((w.alloc (.cells #[.int .i64 an, .int .i64 ad] 23)).alloc (.cells #[.int .i64 bn, .int .i64 bd] 23)).heap[w.heap.size]? = some (.cells #[.int .i64 an, .int .i64 ad] 23)) := Lib.hid (blk1 w _ _)
  have BB : Hid (((w.alloc (.cells #[.int .i64 an, .int .i64 ad] 23)).alloc (.cells #[.int .i64 bn, .int .i64 bd] 23)).heap[w.heap.size + 1]? = some (.cells #[.int .i64 bn, .int .i64 bd] 23)) := Lib.hid (blk2 w _ _)
  have NN : Hid (Below w.heap.size w ((w.alloc (.cells #[.int .i64 an, .int .i64 ad] 23)).alloc (.cells #[.int .i64 bn, .int .i64 bd] 23))) := Lib.hid (Bal (Bal (Below.refl _ _) _) _)
  generalize (w.alloc (.cells #[.int .i64 an, .int .i64 ad] 23)).alloc (.cells #[.int .i64 bn, .int .i64 bd] 23) = W0 at *
  refine (A1.out _).mono ?_
  rintro e w1 ⟨rfl, hb⟩
  have HB : Hid (Below W0.heap.size W0 (w1.alloc (.cells #[.int .i64 a1, .int .i64 a2] 23))) := Lib.hid (Bal hb _)
  have yBA := blk_next hb BA.out
  have lBA := blk_lt yBA
  have cBA0 := blk_cell yBA 0 _ rfl
  have cBA1 := blk_cell yBA 1 _ rfl
  clear yBA
  have yBB := blk_next hb BB.out
  have lBB := blk_lt yBB
  have cBB0 := blk_cell yBB 0 _ rfl
  have cBB1 := blk_cell yBB 1 _ rfl
  clear yBB
  clear hb
  replace BA := Lib.hid (blk_next HB.out BA.out)
  replace BB := Lib.hid (blk_next HB.out BB.out)
  replace NN := Lib.hid (Bgo NN.out HB.out)
  have Bc : Hid ((w1.alloc (.cells #[.int .i64 a1, .int .i64 a2] 23)).heap[w1.heap.size]? = some (.cells #[.int .i64 a1, .int .i64 a2] 23)) := Lib.hid (blk_new w1 _)
  clear HB
  go_wp2_with fail
  clear lBA cBA0 cBA1 lBB cBB0 cBB1
  generalize w1.alloc (.cells #[.int .i64 a1, .int .i64 a2] 23) = W1 at *
  generalize w1.heap.size = gc at *
  refine (A2.out _).mono ?_
  rintro e w2 ⟨rfl, hb⟩
  have HB : Hid (Below W1.heap.size W1 (w2.alloc (.cells #[.int .i64 a1, .int .i64 a2] 23))) := Lib.hid (Bal hb _)
  have yBA := blk_next hb BA.out
  have lBA := blk_lt yBA
  have cBA0 := blk_cell yBA 0 _ rfl
  have cBA1 := blk_cell yBA 1 _ rfl
  clear yBA
  have yBB := blk_next hb BB.out
  have lBB := blk_lt yBB
  have cBB0 := blk_cell yBB 0 _ rfl
  have cBB1 := blk_cell yBB 1 _ rfl
  clear yBB
  clear hb
  replace BA := Lib.hid (blk_next HB.out BA.out)
  replace BB := Lib.hid (blk_next HB.out BB.out)
  replace Bc := Lib.hid (blk_next HB.out Bc.out)
  replace NN := Lib.hid (Bgo NN.out HB.out)
  have Bd : Hid ((w2.alloc (.cells #[.int .i64 a1, .int .i64 a2] 23)).heap[w2.heap.size]? = some (.cells #[.int .i64 a1, .int .i64 a2] 23)) := Lib.hid (blk_new w2 _)
  clear HB
  go_wp2_with fail
  clear lBA cBA0 cBA1 lBB cBB0 cBB1
  generalize w2.alloc (.cells #[.int .i64 a1, .int .i64 a2] 23) = W2 at *
  generalize w2.heap.size = gd at *
  refine (S1.out _).mono ?_
  rintro e w3 ⟨rfl, hb⟩
  have HB : Hid (Below W2.heap.size W2 (w3.alloc (.cells #[.int .i64 s1, .int .i64 s2] 23))) := Lib.hid (Bal hb _)
  have yBA := blk_next hb BA.out
  have lBA := blk_lt yBA
  have cBA0 := blk_cell yBA 0 _ rfl
  have cBA1 := blk_cell yBA 1 _ rfl
  clear yBA
  have yBB := blk_next hb BB.out
  have lBB := blk_lt yBB
  have cBB0 := blk_cell yBB 0 _ rfl
  have cBB1 := blk_cell yBB 1 _ rfl
  clear yBB
  clear hb
  replace BA := Lib.hid (blk_next HB.out BA.out)
  replace BB := Lib.hid (blk_next HB.out BB.out)
  replace Bc := Lib.hid (blk_next HB.out Bc.out)
  replace Bd := Lib.hid (blk_next HB.out Bd.out)
  replace NN := Lib.hid (Bgo NN.out HB.out)
  have Bg : Hid ((w3.alloc (.cells #[.int .i64 s1, .int .i64 s2] 23)).heap[w3.heap.size]? = some (.cells #[.int .i64 s1, .int .i64 s2] 23)) := Lib.hid (blk_new w3 _)
  clear HB
  go_wp2_with fail
  clear lBA cBA0 cBA1 lBB cBB0 cBB1
  generalize w3.alloc (.cells #[.int .i64 s1, .int .i64 s2] 23) = W3 at *
  generalize w3.heap.size = gg at *
  refine (S2.out _).mono ?_
  rintro e w4 ⟨rfl, hb⟩
  have HB : Hid (Below W3.heap.size W3 (w4.alloc (.cells #[.int .i64 s1, .int .i64 s2] 23))) := Lib.hid (Bal hb _)
  have yBA := blk_next hb BA.out
  have lBA := blk_lt yBA
  have cBA0 := blk_cell yBA 0 _ rfl
  have cBA1 := blk_cell yBA 1 _ rfl
  clear yBA
  have yBB := blk_next hb BB.out
  have lBB := blk_lt yBB
  have cBB0 := blk_cell yBB 0 _ rfl
  have cBB1 := blk_cell yBB 1 _ rfl
  clear yBB
  clear hb
  replace BA := Lib.hid (blk_next HB.out BA.out)
  replace BB := Lib.hid (blk_next HB.out BB.out)
  replace Bc := Lib.hid (blk_next HB.out Bc.out)
  replace Bd := Lib.hid (blk_next HB.out Bd.out)
  replace Bg := Lib.hid (blk_next HB.out Bg.out)
  replace NN := Lib.hid (Bgo NN.out HB.out)
  have Bi : Hid ((w4.alloc (.cells #[.int .i64 s1, .int .i64 s2] 23)).heap[w4.heap.size]? = some (.cells #[.int .i64 s1, .int .i64 s2] 23)) := Lib.hid (blk_new w4 _)
  clear HB
  go_wp2_with fail
  clear lBA cBA0 cBA1 lBB cBB0 cBB1
  generalize w4.alloc (.cells #[.int .i64 s1, .int .i64 s2] 23) = W4 at *
  generalize w4.heap.size = gi at *
  refine (C1.out _).mono ?_
  rintro e w5 ⟨rfl, hb⟩
  replace BA := Lib.hid (blk_next hb BA.out)
  replace BB := Lib.hid (blk_next hb BB.out)
  replace Bc := Lib.hid (blk_next hb Bc.out)
  replace Bd := Lib.hid (blk_next hb Bd.out)
  replace Bg := Lib.hid (blk_next hb Bg.out)
  replace Bi := Lib.hid (blk_next hb Bi.out)
  replace NN := Lib.hid (Bgo NN.out hb)
  clear hb
  have lBA := blk_lt BA.out
  have cBA0 := blk_cell BA.out 0 _ rfl
  have cBA1 := blk_cell BA.out 1 _ rfl
  have lBB := blk_lt BB.out
  have cBB0 := blk_cell BB.out 0 _ rfl
  have cBB1 := blk_cell BB.out 1 _ rfl
  go_wp2_with fail
  refine (C2.out _).mono ?_
  rintro e w6 ⟨rfl, hb⟩
  clear lBA cBA0 cBA1 lBB cBB0 cBB1
  replace BA := Lib.hid (blk_next hb BA.out)
  replace BB := Lib.hid (blk_next hb BB.out)
  replace Bc := Lib.hid (blk_next hb Bc.out)
  replace Bd := Lib.hid (blk_next hb Bd.out)
  replace Bg := Lib.hid (blk_next hb Bg.out)
  replace Bi := Lib.hid (blk_next hb Bi.out)
  replace NN := Lib.hid (Bgo NN.out hb)
  clear hb
  have lBA := blk_lt BA.out
  have cBA0 := blk_cell BA.out 0 _ rfl
  have cBA1 := blk_cell BA.out 1 _ rfl
  go_wp2_with fail
  refine (L1.out _).mono ?_
  rintro e w7 ⟨rfl, hb⟩
  clear lBA cBA0 cBA1
  replace BA := Lib.hid (blk_next hb BA.out)
  replace BB := Lib.hid (blk_next hb BB.out)
  replace Bc := Lib.hid (blk_next hb Bc.out)
  replace Bd := Lib.hid (blk_next hb Bd.out)
  replace Bg := Lib.hid (blk_next hb Bg.out)
  replace Bi := Lib.hid (blk_next hb Bi.out)
  replace NN := Lib.hid (Bgo NN.out hb)
  clear hb
  have lBA := blk_lt BA.out
  have cBA0 := blk_cell BA.out 0 _ rfl
  have cBA1 := blk_cell BA.out 1 _ rfl
  go_wp2_with fail
  refine (L2.out _).mono ?_
  rintro e w8 ⟨rfl, hb⟩
  clear lBA cBA0 cBA1
  replace BA := Lib.hid (blk_next hb BA.out)
  replace BB := Lib.hid (blk_next hb BB.out)
  replace Bc := Lib.hid (blk_next hb Bc.out)
  replace Bd := Lib.hid (blk_next hb Bd.out)
  replace Bg := Lib.hid (blk_next hb Bg.out)
  replace Bi := Lib.hid (blk_next hb Bi.out)
  replace NN := Lib.hid (Bgo NN.out hb)
  clear hb
  have lBA := blk_lt BA.out
  have cBA0 := blk_cell BA.out 0 _ rfl
  have cBA1 := blk_cell BA.out 1 _ rfl
  go_wp2_with fail
  clear lBA cBA0 cBA1
  refine region_I (S := SK [(0, w.heap.size, .cells #[.int .i64 an, .int .i64 ad] 23), (2, w.heap.size, .cells #[.int .i64 an, .int .i64 ad] 23), (6, gc, .cells #[.int .i64 a1, .int .i64 a2] 23), (7, gd, .cells #[.int .i64 a1, .int .i64 a2] 23), (16, gg, .cells #[.int .i64 s1, .int .i64 s2] 23), (17, gi, .cells #[.int .i64 s1, .int .i64 s2] 23)]) (by kernel_rfl) ?_
  have HAL := Lib.hid (fun (k : Nat) => (show SK [(0, w.heap.size, .cells #[.int .i64 an, .int .i64 ad] 23), (2, w.heap.size, .cells #[.int .i64 an, .int .i64 ad] 23), (6, gc, .cells #[.int .i64 a1, .int .i64 a2] 23), (7, gd, .cells #[.int .i64 a1, .int .i64 a2] 23), (16, gg, .cells #[.int .i64 s1, .int .i64 s2] 23), (17, gi, .cells #[.int .i64 s1, .int .i64 s2] 23)] k w8.drew from fun p hp e => by
    simp only [List.mem_cons, List.not_mem_nil, or_false] at hp
    rcases hp with rfl | rfl | rfl | rfl | rfl | rfl
    · exact BA.out
    · exact BA.out
    · exact Bc.out
    · exact Bd.out
    · exact Bg.out
    · exact Bi.out))
  have UD : Below w8.heap.size w8 w8.drew := Below.drew (Below.refl _ _)
  replace NN := Lib.hid (Bgo NN.out UD)
  clear UD BA BB Bc Bd Bg Bi
  refine take_I 0 (Fv an ad) (some 67) rfl (by kernel_rfl) (by kernel_rfl) (by kernel_rfl) rfl (fun _ _ _ h => h) (Or.inl ⟨by rfl, ?_⟩) (HAL.out 0) ?_
  · intro X hX
    have hh := hX (0, w.heap.size, .cells #[.int .i64 an, .int .i64 ad] 23) (List.Mem.head _) rfl
    have hh0 := blk_cell hh 0 _ rfl
    have hh1 := blk_cell hh 1 _ rfl
    have hhl := blk_lt hh
    clear hh
    clear hX
    go_simp
  try simp only [Act.put, List.setIfInBounds_toArray, List.set_cons_zero, List.set_cons_succ]
  refine take_I 2 (Fv an ad) (some 69) rfl (by kernel_rfl) (by kernel_rfl) (by kernel_rfl) rfl (fun _ _ _ h => h) (Or.inl ⟨by rfl, ?_⟩) (HAL.out 2) ?_
  · intro X hX
    have hh := hX (2, w.heap.size, .cells #[.int .i64 an, .int .i64 ad] 23) (List.Mem.tail _ (List.Mem.head _)) rfl
    have hh0 := blk_cell hh 0 _ rfl
    have hh1 := blk_cell hh 1 _ rfl
    have hhl := blk_lt hh
    clear hh
    clear hX
    go_simp
  try simp only [Act.put, List.setIfInBounds_toArray, List.set_cons_zero, List.set_cons_succ]
  refine only_I 1 (by kernel_rfl) rfl (fun K' hK' => ?_)
  go_simp
  go_at_call 28
  refine (K1.out _).mono ?_
  rintro e y1 ⟨rfl, hb⟩
  go_simp
  refine hK'.out _ _ (fun k _ hS => hS.next hb) ?_
  clear hK' K'
  try simp only [Act.put, List.setIfInBounds_toArray, List.set_cons_zero, List.set_cons_succ]
  replace HAL := Lib.hid (fun k => (HAL.out k).next hb)
  replace NN := Lib.hid (Bgo NN.out hb)
  clear hb
  refine only_I 3 (by kernel_rfl) rfl (fun K' hK' => ?_)
  go_simp
  go_at_call 17
  refine (K2.out _).mono ?_
  rintro e y2 ⟨rfl, hb⟩
  go_simp
  refine hK'.out _ _ (fun k _ hS => hS.next hb) ?_
  clear hK' K'
  try simp only [Act.put, List.setIfInBounds_toArray, List.set_cons_zero, List.set_cons_succ]
  replace HAL := Lib.hid (fun k => (HAL.out k).next hb)
  replace NN := Lib.hid (Bgo NN.out hb)
  clear hb
  refine only_I 4 (by kernel_rfl) rfl (fun K' hK' => ?_)
  go_simp
  refine hK'.out _ _ (fun k _ h => h) ?_
  clear hK' K'
  try simp only [Act.put, List.setIfInBounds_toArray, List.set_cons_zero, List.set_cons_succ]
  refine only_I 5 (by kernel_rfl) rfl (fun K' hK' => ?_)
  go_simp
  refine hK'.out _ _ (fun k _ h => h) ?_
  clear hK' K'
  try simp only [Act.put, List.setIfInBounds_toArray, List.set_cons_zero, List.set_cons_succ]
  refine take_I 6 (Fv a1 a2) (some 73) rfl (by kernel_rfl) (by kernel_rfl) (by kernel_rfl) rfl (fun _ _ _ h => h) (Or.inl ⟨by rfl, ?_⟩) (HAL.out 6) ?_
  · intro X hX
    have hh := hX (6, gc, .cells #[.int .i64 a1, .int .i64 a2] 23) (List.Mem.tail _ (List.Mem.tail _ (List.Mem.head _))) rfl
    have hh0 := blk_cell hh 0 _ rfl
    have hh1 := blk_cell hh 1 _ rfl
    have hhl := blk_lt hh
    clear hh
    clear hX
    go_simp
  try simp only [Act.put, List.setIfInBounds_toArray, List.set_cons_zero, List.set_cons_succ]
  refine take_I 7 (Fv a1 a2) (some 74) rfl (by kernel_rfl) (by kernel_rfl) (by kernel_rfl) rfl (fun _ _ _ h => h) (Or.inl ⟨by rfl, ?_⟩) (HAL.out 7) ?_
  · intro X hX
    have hh := hX (7, gd, .cells #[.int .i64 a1, .int .i64 a2] 23) (List.Mem.tail _ (List.Mem.tail _ (List.Mem.tail _ (List.Mem.head _)))) rfl
    have hh0 := blk_cell hh 0 _ rfl
    have hh1 := blk_cell hh 1 _ rfl
    have hhl := blk_lt hh
    clear hh
    clear hX
    go_simp
  try simp only [Act.put, List.setIfInBounds_toArray, List.set_cons_zero, List.set_cons_succ]
  refine only_I 8 (by kernel_rfl) rfl (fun K' hK' => ?_)
  go_simp
  refine hK'.out _ _ (fun k _ h => h) ?_
  clear hK' K'
  try simp only [Act.put, List.setIfInBounds_toArray, List.set_cons_zero, List.set_cons_succ]
  refine only_I 9 (by kernel_rfl) rfl (fun K' hK' => ?_)
  go_simp
  refine hK'.out _ _ (fun k _ h => h) ?_
  clear hK' K'
  try simp only [Act.put, List.setIfInBounds_toArray, List.set_cons_zero, List.set_cons_succ]
  refine only_I 10 (by kernel_rfl) rfl (fun K' hK' => ?_)
  go_simp
  refine hK'.out _ _ (fun k _ h => h) ?_
  clear hK' K'
  try simp only [Act.put, List.setIfInBounds_toArray, List.set_cons_zero, List.set_cons_succ]
  refine take_I 11 (.int .i64 a3) (some 78) rfl (by kernel_rfl) (by kernel_rfl) (by kernel_rfl) rfl (fun _ _ _ h => h) (Or.inl ⟨by rfl, ?_⟩) (SK.drop (by simp)) ?_
  · intro X hX
    clear hX
    go_simp
  try simp only [Act.put, List.setIfInBounds_toArray, List.set_cons_zero, List.set_cons_succ]
  refine only_I 12 (by kernel_rfl) rfl (fun K' hK' => ?_)
  go_simp
  refine hK'.out _ _ (fun k _ h => h) ?_
  clear hK' K'
  try simp only [Act.put, List.setIfInBounds_toArray, List.set_cons_zero, List.set_cons_succ]
  refine only_I 13 (by kernel_rfl) rfl (fun K' hK' => ?_)
  go_simp
  refine hK'.out _ _ (fun k _ h => h) ?_
  clear hK' K'
  try simp only [Act.put, List.setIfInBounds_toArray, List.set_cons_zero, List.set_cons_succ]
  refine only_I 14 (by kernel_rfl) rfl (fun K' hK' => ?_)
  go_simp
  refine hK'.out _ _ (fun k _ h => h) ?_
  clear hK' K'
  try simp only [Act.put, List.setIfInBounds_toArray, List.set_cons_zero, List.set_cons_succ]
  refine only_I 15 (by kernel_rfl) rfl (fun K' hK' => ?_)
  go_simp
  refine hK'.out _ _ (fun k _ h => h) ?_
  clear hK' K'
  try simp only [Act.put, List.setIfInBounds_toArray, List.set_cons_zero, List.set_cons_succ]
  refine take_I 16 (Fv s1 s2) (some 83) rfl (by kernel_rfl) (by kernel_rfl) (by kernel_rfl) rfl (fun _ _ _ h => h) (Or.inl ⟨by rfl, ?_⟩) (HAL.out 16) ?_
  · intro X hX
    have hh := hX (16, gg, .cells #[.int .i64 s1, .int .i64 s2] 23) (List.Mem.tail _ (List.Mem.tail _ (List.Mem.tail _ (List.Mem.tail _ (List.Mem.head _))))) rfl
    have hh0 := blk_cell hh 0 _ rfl
    have hh1 := blk_cell hh 1 _ rfl
    have hhl := blk_lt hh
    clear hh
    clear hX
    go_simp
  try simp only [Act.put, List.setIfInBounds_toArray, List.set_cons_zero, List.set_cons_succ]
  refine take_I 17 (Fv s1 s2) (some 84) rfl (by kernel_rfl) (by kernel_rfl) (by kernel_rfl) rfl (fun _ _ _ h => h) (Or.inl ⟨by rfl, ?_⟩) (HAL.out 17) ?_
  · intro X hX
    have hh := hX (17, gi, .cells #[.int .i64 s1, .int .i64 s2] 23) (List.Mem.tail _ (List.Mem.tail _ (List.Mem.tail _ (List.Mem.tail _ (List.Mem.tail _ (List.Mem.head _)))))) rfl
    have hh0 := blk_cell hh 0 _ rfl
    have hh1 := blk_cell hh 1 _ rfl
    have hhl := blk_lt hh
    clear hh
    clear hX
    go_simp
  try simp only [Act.put, List.setIfInBounds_toArray, List.set_cons_zero, List.set_cons_succ]
  refine only_I 18 (by kernel_rfl) rfl (fun K' hK' => ?_)
  go_simp
  refine hK'.out _ _ (fun k _ h => h) ?_
  clear hK' K'
  try simp only [Act.put, List.setIfInBounds_toArray, List.set_cons_zero, List.set_cons_succ]
  refine only_I 19 (by kernel_rfl) rfl (fun K' hK' => ?_)
  go_simp
  refine hK'.out _ _ (fun k _ h => h) ?_
  clear hK' K'
  try simp only [Act.put, List.setIfInBounds_toArray, List.set_cons_zero, List.set_cons_succ]
  refine only_I 20 (by kernel_rfl) rfl (fun K' hK' => ?_)
  go_simp
  refine hK'.out _ _ (fun k _ h => h) ?_
  clear hK' K'
  try simp only [Act.put, List.setIfInBounds_toArray, List.set_cons_zero, List.set_cons_succ]
  refine take_I 21 (.int .i64 s3) (some 88) rfl (by kernel_rfl) (by kernel_rfl) (by kernel_rfl) rfl (fun _ _ _ h => h) (Or.inl ⟨by rfl, ?_⟩) (SK.drop (by simp)) ?_
  · intro X hX
    clear hX
    go_simp
  try simp only [Act.put, List.setIfInBounds_toArray, List.set_cons_zero, List.set_cons_succ]
  refine only_I 22 (by kernel_rfl) rfl (fun K' hK' => ?_)
  go_simp
  refine hK'.out _ _ (fun k _ h => h) ?_
  clear hK' K'
  try simp only [Act.put, List.setIfInBounds_toArray, List.set_cons_zero, List.set_cons_succ]
  refine only_I 23 (by kernel_rfl) rfl (fun K' hK' => ?_)
  go_simp
  refine hK'.out _ _ (fun k _ h => h) ?_
  clear hK' K'
  try simp only [Act.put, List.setIfInBounds_toArray, List.set_cons_zero, List.set_cons_succ]
  refine only_I 24 (by kernel_rfl) rfl (fun K' hK' => ?_)
  go_simp
  refine hK'.out _ _ (fun k _ h => h) ?_
  clear hK' K'
  try simp only [Act.put, List.setIfInBounds_toArray, List.set_cons_zero, List.set_cons_succ]
  refine only_I 25 (by kernel_rfl) rfl (fun K' hK' => ?_)
  go_simp
  refine hK'.out _ _ (fun k _ h => h) ?_
  clear hK' K'
  try simp only [Act.put, List.setIfInBounds_toArray, List.set_cons_zero, List.set_cons_succ]
  refine take_I 26 (.int .i64 cr) (some 93) rfl (by kernel_rfl) (by kernel_rfl) (by kernel_rfl) rfl (fun _ _ _ h => h) (Or.inl ⟨by rfl, ?_⟩) (SK.drop (by simp)) ?_
  · intro X hX
    clear hX
    go_simp
  try simp only [Act.put, List.setIfInBounds_toArray, List.set_cons_zero, List.set_cons_succ]
  refine only_I 27 (by kernel_rfl) rfl (fun K' hK' => ?_)
  go_simp
  refine hK'.out _ _ (fun k _ h => h) ?_
  clear hK' K'
  try simp only [Act.put, List.setIfInBounds_toArray, List.set_cons_zero, List.set_cons_succ]
  refine only_I 28 (by kernel_rfl) rfl (fun K' hK' => ?_)
  go_simp
  refine hK'.out _ _ (fun k _ h => h) ?_
  clear hK' K'
  try simp only [Act.put, List.setIfInBounds_toArray, List.set_cons_zero, List.set_cons_succ]
  refine only_I 29 (by kernel_rfl) rfl (fun K' hK' => ?_)
  go_simp
  refine hK'.out _ _ (fun k _ h => h) ?_
  clear hK' K'
  try simp only [Act.put, List.setIfInBounds_toArray, List.set_cons_zero, List.set_cons_succ]
  refine only_I 30 (by kernel_rfl) rfl (fun K' hK' => ?_)
  go_simp
  refine hK'.out _ _ (fun k _ h => h) ?_
  clear hK' K'
  try simp only [Act.put, List.setIfInBounds_toArray, List.set_cons_zero, List.set_cons_succ]
  refine take_I 31 (.int .i64 ce) (some 98) rfl (by kernel_rfl) (by kernel_rfl) (by kernel_rfl) rfl (fun _ _ _ h => h) (Or.inl ⟨by rfl, ?_⟩) (SK.drop (by simp)) ?_
  · intro X hX
    clear hX
    go_simp
  try simp only [Act.put, List.setIfInBounds_toArray, List.set_cons_zero, List.set_cons_succ]
  refine only_I 32 (by kernel_rfl) rfl (fun K' hK' => ?_)
  go_simp
  refine hK'.out _ _ (fun k _ h => h) ?_
  clear hK' K'
  try simp only [Act.put, List.setIfInBounds_toArray, List.set_cons_zero, List.set_cons_succ]
  refine only_I 33 (by kernel_rfl) rfl (fun K' hK' => ?_)
  go_simp
  refine hK'.out _ _ (fun k _ h => h) ?_
  clear hK' K'
  try simp only [Act.put, List.setIfInBounds_toArray, List.set_cons_zero, List.set_cons_succ]
  refine only_I 34 (by kernel_rfl) rfl (fun K' hK' => ?_)
  go_simp
  refine hK'.out _ _ (fun k _ h => h) ?_
  clear hK' K'
  try simp only [Act.put, List.setIfInBounds_toArray, List.set_cons_zero, List.set_cons_succ]
  refine only_I 35 (by kernel_rfl) rfl (fun K' hK' => ?_)
  go_simp
  refine hK'.out _ _ (fun k _ h => h) ?_
  clear hK' K'
  try simp only [Act.put, List.setIfInBounds_toArray, List.set_cons_zero, List.set_cons_succ]
  refine take_I 36 (.int .i64 fr) (some 103) rfl (by kernel_rfl) (by kernel_rfl) (by kernel_rfl) rfl (fun _ _ _ h => h) (Or.inl ⟨by rfl, ?_⟩) (SK.drop (by simp)) ?_
  · intro X hX
    clear hX
    go_simp
  try simp only [Act.put, List.setIfInBounds_toArray, List.set_cons_zero, List.set_cons_succ]
  refine only_I 37 (by kernel_rfl) rfl (fun K' hK' => ?_)
  go_simp
  refine hK'.out _ _ (fun k _ h => h) ?_
  clear hK' K'
  try simp only [Act.put, List.setIfInBounds_toArray, List.set_cons_zero, List.set_cons_succ]
  refine only_I 38 (by kernel_rfl) rfl (fun K' hK' => ?_)
  go_simp
  refine hK'.out _ _ (fun k _ h => h) ?_
  clear hK' K'
  try simp only [Act.put, List.setIfInBounds_toArray, List.set_cons_zero, List.set_cons_succ]
  refine only_I 39 (by kernel_rfl) rfl (fun K' hK' => ?_)
  go_simp
  refine hK'.out _ _ (fun k _ h => h) ?_
  clear hK' K'
  try simp only [Act.put, List.setIfInBounds_toArray, List.set_cons_zero, List.set_cons_succ]
  refine only_I 40 (by kernel_rfl) rfl (fun K' hK' => ?_)
  go_simp
  refine hK'.out _ _ (fun k _ h => h) ?_
  clear hK' K'
  try simp only [Act.put, List.setIfInBounds_toArray, List.set_cons_zero, List.set_cons_succ]
  refine take_I 41 (.int .i64 fe) (some 108) rfl (by kernel_rfl) (by kernel_rfl) (by kernel_rfl) rfl (fun _ _ _ h => h) (Or.inl ⟨by rfl, ?_⟩) (SK.drop (by simp)) ?_
  · intro X hX
    clear hX
    go_simp
  try simp only [Act.put, List.setIfInBounds_toArray, List.set_cons_zero, List.set_cons_succ]
  refine only_I 42 (by kernel_rfl) rfl (fun K' hK' => ?_)
  go_simp
  refine hK'.out _ _ (fun k _ h => h) ?_
  clear hK' K'
  try simp only [Act.put, List.setIfInBounds_toArray, List.set_cons_zero, List.set_cons_succ]
  refine only_I 43 (by kernel_rfl) rfl (fun K' hK' => ?_)
  go_simp
  refine hK'.out _ _ (fun k _ h => h) ?_
  clear hK' K'
  try simp only [Act.put, List.setIfInBounds_toArray, List.set_cons_zero, List.set_cons_succ]
  refine only_I 44 (by kernel_rfl) rfl (fun K' hK' => ?_)
  go_simp
  refine hK'.out _ _ (fun k _ h => h) ?_
  clear hK' K'
  try simp only [Act.put, List.setIfInBounds_toArray, List.set_cons_zero, List.set_cons_succ]
  refine only_I 45 (by kernel_rfl) rfl (fun K' hK' => ?_)
  go_simp
  refine hK'.out _ _ (fun k _ h => h) ?_
  clear hK' K'
  try simp only [Act.put, List.setIfInBounds_toArray, List.set_cons_zero, List.set_cons_succ]
  refine done_I (by kernel_rfl) ?_ _
  go_wp2_with fail
  go_ret
  exact ⟨by simp, NN.out⟩

set_option maxRecDepth 100000 in
theorem lifted (os : Os) (started : os.Started) (H : Type) (enc : TypeId × Value → H) :
    ReturnsInHanded {} Try.checked os 5 .any (Rows.fracSumsSpec.pre6 enc Try.prog Try.f5 Rows.fracSumsRow.domain false) (Rows.fracSumsSpec.post enc Try.prog Try.f5 false true false false) := by
  refine returnsInHanded_of_change (C := Try.checked) own started (by kernel_rfl) Try.func5
    (ChangeSpec.witness6 (enc := enc) (C := Try.checked) false ⟨#[], #[.agg #[.int .i64 0, .int .i64 0], .agg #[.int .i64 0, .int .i64 0]], []⟩ 8 (by kernel_rfl) (by kernel_rfl) (by kernel_rfl) (by kernel_rfl)) ?_
  intro W base args ds gs before hval0 hW hcnd _
  have hval : ∀ (j : Nat) t v, Try.f5.params[j]? = some t → args[j]? = some v → Value.okWide Try.prog W .any base t v := hval0
  have hW' := hW
  obtain ⟨p, q, hA0, hV, rfl, hfz, hnd⟩ := hW
  have hA : DataW.TrodAll enc Try.prog W 0 (fun _ => true) true Try.f5.params.toList args.toList ds p := hA0
  rw [Try.params5] at hA hval
  obtain ⟨v0, vs0, d0, ds0, p0, q0, hargs, rfl, rfl, h0, r0⟩ := trodAll_cons hA
  obtain ⟨v1, vs1, d1, ds1, p1, q1, rfl, rfl, rfl, h1, r1⟩ := trodAll_cons r0
  obtain ⟨rfl, rfl, rfl⟩ := trodAll_nil r1
  obtain rfl : args = #[v0, v1] := by cases args; simp_all
  obtain ⟨rfl, rfl⟩ := trodVars_none hV
  have k0 := h0
  have lt0 : ∀ x ∈ p0, x.block < W.heap.size := by obtain ⟨m, hm⟩ := k0; exact DataW.trod_lt m _ _ _ hm
  obtain ⟨c0_0, c1_0, y0_0, y1_0, m0, rfl, _, _, t0_0, t1_0⟩ := open_agg2 Try.underlying23 (by kernel_rfl) (show Try.prog.cellsOf 23 = 2 by kernel_rfl) (hval 0 23 v0 rfl rfl) h0
  obtain ⟨an, e0_0, _, wan⟩ := DataW.trod_int Try.underlying2 t0_0
  simp only [List.cons.injEq, and_true] at e0_0
  subst e0_0
  obtain ⟨ad, e1_0, _, wad⟩ := DataW.trod_int Try.underlying2 t1_0
  simp only [List.cons.injEq, and_true] at e1_0
  subst e1_0
  have k1 := h1
  have lt1 : ∀ x ∈ p1, x.block < W.heap.size := by obtain ⟨m, hm⟩ := k1; exact DataW.trod_lt m _ _ _ hm
  obtain ⟨c0_1, c1_1, y0_1, y1_1, m1, rfl, _, _, t0_1, t1_1⟩ := open_agg2 Try.underlying23 (by kernel_rfl) (show Try.prog.cellsOf 23 = 2 by kernel_rfl) (hval 1 23 v1 rfl rfl) h1
  obtain ⟨bn, e0_1, _, wbn⟩ := DataW.trod_int Try.underlying2 t0_1
  simp only [List.cons.injEq, and_true] at e0_1
  subst e0_1
  obtain ⟨bd, e1_1, _, wbd⟩ := DataW.trod_int Try.underlying2 t1_1
  simp only [List.cons.injEq, and_true] at e1_1
  subst e1_1
  clear hA0 hval0
  refine (walk an ad bn bd W).mono fun e W' ⟨he, bel⟩ => ?_
  subst he
  exact ⟨_, rfl, _, _, _, [], _, [], hW', trodAll_mk1 (shut_bool Try.underlying4 _), (trodAll_cons_mk (Below.trod laidOut (by kernel_rfl) (of_decide_eq_true (by kernel_rfl)) k0 bel lt0) (trodAll_cons_mk (Below.trod laidOut (by kernel_rfl) (of_decide_eq_true (by kernel_rfl)) k1 bel lt1) trodAll_mk0)), rfl, bel.frame _, fun h => by cases h⟩

theorem over : Rows.fracSumsRow.holds Try.pinned (OpenSpec.ofChange Rows.fracSumsSpec) :=
  OpenClaim.holds_of_wide 5 Try.f5 rfl rfl rfl rfl rfl rfl rfl ⟨rfl, rfl, rfl, rfl, rfl⟩ rfl rfl rfl rfl rfl (by kernel_rfl) Try.func5 (by kernel_rfl)
    (of_decide_eq_true (by kernel_rfl)) (by unfold Func.isWrapper; first | (rw [if_pos (by decide +kernel)]; kernel_rfl) | (rw [if_neg (by decide +kernel)]; exact ⟨rfl, rfl⟩))
    (fun os started H enc _ => lifted os started H enc)

theorem proved : Rows.FracSumsSaid := over
#print axioms proved
end Go.Proofs.Ytpeoecgehdicmaa.fracSums
