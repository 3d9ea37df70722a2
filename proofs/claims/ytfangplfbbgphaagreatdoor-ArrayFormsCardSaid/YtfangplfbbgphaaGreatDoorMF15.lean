/- Several texts in one. -/
import Derived.RangeFuncNested
import Derived.RangeFuncLeaves
import Derived.RangeFuncBound
import Derived.Shelf.Abstract
import Derived.Shelf.RegionOpen
import Derived.OwnWalkIn
import Derived.TacticsInMore
import Derived.LoopNIn
import Derived.LoopIn
import Derived.Test.YtfangplfbbgphaaGreatDoorMF00
import Derived.Test.YtfangplfbbgphaaGreatDoorMF09
import Derived.Test.YtfangplfbbgphaaGreatDoorMF13
import Derived.Test.YtfangplfbbgphaaGreatDoorMF14
namespace Go.Proofs.YtfangplfbbgphaaGreatDoor
open Go.ChangeShapes Go.WideShapes Go.ChangeAt Go.RowKit
set_option linter.unusedVariables false
set_option maxRecDepth 100000
set_option linter.unusedSimpArgs false
attribute [local go_sem ↓] Go.wp_at_zero Go.wp_at_succ
set_option maxRecDepth 100000 in
set_option maxHeartbeats 8000000 in
theorem refPlaced_calls (n d m k : Int) (w : World) : Calls Tryz.prog 79 #[Fv n d, Fv m k] w fun e w' => e = .returned (.bool (plB n d m k)) ∧ Below w.heap.size w w' := by
 have NN := Lib.hid (Below.refl w.heap.size w)
 have PS := Lib.hid (fun W => refparam_calls n d W)
 have PT := Lib.hid (fun W => refparam_calls m k W)
 have HP : Hid (plB n d m k = (prmB n d && (prmB m k && (decide (-d ≤ n) && decide (n ≤ d))))) := Lib.hid rfl
 generalize plB n d m k = r at *
 cases hs : prmB n d
 ·rw [hs] at PS
  have HR : Hid (r = false) := Lib.hid (by rw [HP.out, hs]; rfl)
  clear hs
  go_enter Tryz.func79, Tryz.ntmps79
  go_upto_region 1 with fail
  have S : Hid (((w.alloc (.cells #[.int .i64 n, .int .i64 d] 36)).alloc (.cells #[.int .i64 m, .int .i64 k] 36)).heap[w.heap.size]? = some (.cells #[.int .i64 n, .int .i64 d] 36)) := Lib.hid (blk_alloc (blk_new w _) _)
  have T : Hid (((w.alloc (.cells #[.int .i64 n, .int .i64 d] 36)).alloc (.cells #[.int .i64 m, .int .i64 k] 36)).heap[w.heap.size + 1]? = some (.cells #[.int .i64 m, .int .i64 k] 36)) := Lib.hid (blk_at _ (by simp))
  replace NN : Hid (Below w.heap.size w ((w.alloc (.cells #[.int .i64 n, .int .i64 d] 36)).alloc (.cells #[.int .i64 m, .int .i64 k] 36))) := Lib.hid (Bal (Bal NN.out _) _)
  generalize ((w.alloc (.cells #[.int .i64 n, .int .i64 d] 36)).alloc (.cells #[.int .i64 m, .int .i64 k] 36)) = W1 at *
  have HDRW := Lib.hid (Below.drew (Below.refl W1.heap.size W1))
  replace NN := Lib.hid (Bgo NN.out HDRW.out)
  replace S := Lib.hid (blk_next HDRW.out S.out)
  replace T := Lib.hid (blk_next HDRW.out T.out)
  clear HDRW
  have HAL : Hid (∀ kx9 : Nat, GK [(0, w.heap.size, .cells #[.int .i64 n, .int .i64 d] 36)] kx9 W1.drew) := Lib.hid (fun kx9 px9 hp e => by
   simp only [List.mem_cons, List.not_mem_nil, or_false] at hp
   subst hp
   exact S.out)
  refine region_G (S := GK [(0, w.heap.size, .cells #[.int .i64 n, .int .i64 d] 36)]) (by kernel_rfl) ?_
  refine tG 0 (.agg #[.int .i64 n, .int .i64 d]) (some 5) (GK.grow _) rfl (YieldsIf.toG (Or.inl ⟨by rfl, ?_⟩)) (HAL.out 0) ?_
  ·intro X hX
   have hh := hX (0, w.heap.size, .cells #[.int .i64 n, .int .i64 d] 36) (List.Mem.head _) rfl
   have hh0 := blk_cell hh 0 _ rfl
   have hh1 := blk_cell hh 1 _ rfl
   have hhl := blk_lt hh
   clear hh
   clear hX
   go_simp
  try simp only [Act.put, zA, zB, zC]
  have CFn : ∀ (args : Array Value) (W : World), Sem.run Tryz.prog (callFunc 113 args) W = .ok (.enter 113 args) W := fun _ _ => by kernel_rfl
  refine tG 1 (.bool false) (some 6) (GK.grow _) rfl (yieldsG_call 113 #[.agg #[.int .i64 n, .int .i64 d]] (by rfl) ?_ (fun X hS => PS.out X)) (GK.drop (by simp)) ?_
  ·intro X hX
   clear hX
   go_simp
  clear CFn
  try simp only [Act.put, zA, zB, zC]
  refine tG 2 (.bool false) (some 7) (GK.grow _) rfl (YieldsIf.toG (Or.inl ⟨by rfl, ?_⟩)) (GK.drop (by simp)) ?_
  ·intro X hX
   clear hX
   go_simp
  try simp only [Act.put, zA, zB, zC]
  refine tG 3 (undef) (some 8) (GK.grow _) rfl (YieldsIf.toG (Or.inr ⟨by rfl, rfl⟩)) (GK.drop (by simp)) ?_
  try simp only [Act.put, zA, zB, zC]
  refine tG 4 (undef) (some 9) (GK.grow _) rfl (YieldsIf.toG (Or.inr ⟨by rfl, rfl⟩)) (GK.drop (by simp)) ?_
  try simp only [Act.put, zA, zB, zC]
  refine tG 5 (.bool false) (some 10) (GK.grow _) rfl (YieldsIf.toG (Or.inl ⟨by rfl, ?_⟩)) (GK.drop (by simp)) ?_
  ·intro X hX
   clear hX
   go_simp
  try simp only [Act.put, zA, zB, zC]
  refine tG 6 (.bool false) (some 11) (GK.grow _) rfl (YieldsIf.toG (Or.inl ⟨by rfl, ?_⟩)) (GK.drop (by simp)) ?_
  ·intro X hX
   clear hX
   go_simp
  try simp only [Act.put, zA, zB, zC]
  refine tG 7 (undef) (some 12) (GK.grow _) rfl (YieldsIf.toG (Or.inr ⟨by rfl, rfl⟩)) (GK.drop (by simp)) ?_
  try simp only [Act.put, zA, zB, zC]
  refine tG 8 (undef) (some 13) (GK.grow _) rfl (YieldsIf.toG (Or.inr ⟨by rfl, rfl⟩)) (GK.drop (by simp)) ?_
  try simp only [Act.put, zA, zB, zC]
  refine tG 9 (undef) (some 14) (GK.grow _) rfl (YieldsIf.toG (Or.inr ⟨by rfl, rfl⟩)) (GK.drop (by simp)) ?_
  try simp only [Act.put, zA, zB, zC]
  refine tG 10 (undef) (some 15) (GK.grow _) rfl (YieldsIf.toG (Or.inr ⟨by rfl, rfl⟩)) (GK.drop (by simp)) ?_
  try simp only [Act.put, zA, zB, zC]
  refine tG 11 (.bool false) (some 16) (GK.grow _) rfl (YieldsIf.toG (Or.inl ⟨by rfl, ?_⟩)) (GK.drop (by simp)) ?_
  ·intro X hX
   clear hX
   go_simp
  try simp only [Act.put, zA, zB, zC]
  refine tG 12 (.bool false) (some 17) (GK.grow _) rfl (YieldsIf.toG (Or.inl ⟨by rfl, ?_⟩)) (GK.drop (by simp)) ?_
  ·intro X hX
   clear hX
   go_simp
  try simp only [Act.put, zA, zB, zC]
  refine tG 13 (undef) (some 18) (GK.grow _) rfl (YieldsIf.toG (Or.inr ⟨by rfl, rfl⟩)) (GK.drop (by simp)) ?_
  try simp only [Act.put, zA, zB, zC]
  refine tG 14 (undef) (some 19) (GK.grow _) rfl (YieldsIf.toG (Or.inr ⟨by rfl, rfl⟩)) (GK.drop (by simp)) ?_
  try simp only [Act.put, zA, zB, zC]
  refine tG 15 (undef) (some 20) (GK.grow _) rfl (YieldsIf.toG (Or.inr ⟨by rfl, rfl⟩)) (GK.drop (by simp)) ?_
  try simp only [Act.put, zA, zB, zC]
  refine tG 16 (undef) (some 21) (GK.grow _) rfl (YieldsIf.toG (Or.inr ⟨by rfl, rfl⟩)) (GK.drop (by simp)) ?_
  try simp only [Act.put, zA, zB, zC]
  refine tG 17 (.bool false) (some 22) (GK.grow _) rfl (YieldsIf.toG (Or.inl ⟨by rfl, ?_⟩)) (GK.drop (by simp)) ?_
  ·intro X hX
   clear hX
   go_simp
  try simp only [Act.put, zA, zB, zC]
  refine tG 18 (.bool false) (some 4) (GK.grow _) rfl (YieldsIf.toG (Or.inl ⟨by rfl, ?_⟩)) (GK.drop (by simp)) ?_
  ·intro X hX
   clear hX
   go_simp
  try simp only [Act.put, zA, zB, zC]
  clear HAL
  refine done_G (by kernel_rfl) (fun X2 hX => ?_) _
  replace NN := Lib.hid (Bgo NN.out hX)
  replace S := Lib.hid (blk_next hX S.out)
  replace T := Lib.hid (blk_next hX T.out)
  clear hX
  go_wp2_with fail
  go_ret
  exact ⟨ret_bool HR.out.symm, NN.out⟩
 ·rw [hs] at PS
  obtain ⟨_, d1, d2, d3, d4⟩ := prm_facts hs
  cases ht : prmB m k
  ·rw [ht] at PT
   have HR : Hid (r = false) := Lib.hid (by rw [HP.out, hs, ht]; rfl)
   clear hs ht d1 d2 d3 d4
   go_enter Tryz.func79, Tryz.ntmps79
   go_upto_region 1 with fail
   have S : Hid (((w.alloc (.cells #[.int .i64 n, .int .i64 d] 36)).alloc (.cells #[.int .i64 m, .int .i64 k] 36)).heap[w.heap.size]? = some (.cells #[.int .i64 n, .int .i64 d] 36)) := Lib.hid (blk_alloc (blk_new w _) _)
   have T : Hid (((w.alloc (.cells #[.int .i64 n, .int .i64 d] 36)).alloc (.cells #[.int .i64 m, .int .i64 k] 36)).heap[w.heap.size + 1]? = some (.cells #[.int .i64 m, .int .i64 k] 36)) := Lib.hid (blk_at _ (by simp))
   replace NN : Hid (Below w.heap.size w ((w.alloc (.cells #[.int .i64 n, .int .i64 d] 36)).alloc (.cells #[.int .i64 m, .int .i64 k] 36))) := Lib.hid (Bal (Bal NN.out _) _)
   generalize ((w.alloc (.cells #[.int .i64 n, .int .i64 d] 36)).alloc (.cells #[.int .i64 m, .int .i64 k] 36)) = W3 at *
   have HDRW := Lib.hid (Below.drew (Below.refl W3.heap.size W3))
   replace NN := Lib.hid (Bgo NN.out HDRW.out)
   replace S := Lib.hid (blk_next HDRW.out S.out)
   replace T := Lib.hid (blk_next HDRW.out T.out)
   clear HDRW
   have HAL : Hid (∀ kx9 : Nat, GK [(0, w.heap.size, .cells #[.int .i64 n, .int .i64 d] 36), (3, w.heap.size + 1, .cells #[.int .i64 m, .int .i64 k] 36)] kx9 W3.drew) := Lib.hid (fun kx9 px9 hp e => by
    simp only [List.mem_cons, List.not_mem_nil, or_false] at hp
    rcases hp with rfl | rfl
    ·exact S.out
    ·exact T.out)
   refine region_G (S := GK [(0, w.heap.size, .cells #[.int .i64 n, .int .i64 d] 36), (3, w.heap.size + 1, .cells #[.int .i64 m, .int .i64 k] 36)]) (by kernel_rfl) ?_
   refine tG 0 (.agg #[.int .i64 n, .int .i64 d]) (some 5) (GK.grow _) rfl (YieldsIf.toG (Or.inl ⟨by rfl, ?_⟩)) (HAL.out 0) ?_
   ·intro X hX
    have hh := hX (0, w.heap.size, .cells #[.int .i64 n, .int .i64 d] 36) (List.Mem.head _) rfl
    have hh0 := blk_cell hh 0 _ rfl
    have hh1 := blk_cell hh 1 _ rfl
    have hhl := blk_lt hh
    clear hh
    clear hX
    go_simp
   try simp only [Act.put, zA, zB, zC]
   have CFn : ∀ (args : Array Value) (W : World), Sem.run Tryz.prog (callFunc 113 args) W = .ok (.enter 113 args) W := fun _ _ => by kernel_rfl
   refine tG 1 (.bool true) (some 6) (GK.grow _) rfl (yieldsG_call 113 #[.agg #[.int .i64 n, .int .i64 d]] (by rfl) ?_ (fun X hS => PS.out X)) (GK.drop (by simp)) ?_
   ·intro X hX
    clear hX
    go_simp
   clear CFn
   try simp only [Act.put, zA, zB, zC]
   refine tG 2 (.bool true) (some 7) (GK.grow _) rfl (YieldsIf.toG (Or.inl ⟨by rfl, ?_⟩)) (GK.drop (by simp)) ?_
   ·intro X hX
    clear hX
    go_simp
   try simp only [Act.put, zA, zB, zC]
   refine tG 3 (.agg #[.int .i64 m, .int .i64 k]) (some 8) (GK.grow _) rfl (YieldsIf.toG (Or.inl ⟨by rfl, ?_⟩)) (HAL.out 3) ?_
   ·intro X hX
    have hh := hX (3, w.heap.size + 1, .cells #[.int .i64 m, .int .i64 k] 36) (List.Mem.tail _ (List.Mem.head _)) rfl
    have hh0 := blk_cell hh 0 _ rfl
    have hh1 := blk_cell hh 1 _ rfl
    have hhl := blk_lt hh
    clear hh
    clear hX
    go_simp
   try simp only [Act.put, zA, zB, zC]
   have CFn : ∀ (args : Array Value) (W : World), Sem.run Tryz.prog (callFunc 113 args) W = .ok (.enter 113 args) W := fun _ _ => by kernel_rfl
   refine tG 4 (.bool false) (some 9) (GK.grow _) rfl (yieldsG_call 113 #[.agg #[.int .i64 m, .int .i64 k]] (by rfl) ?_ (fun X hS => PT.out X)) (GK.drop (by simp)) ?_
   ·intro X hX
    clear hX
    go_simp
   clear CFn
   try simp only [Act.put, zA, zB, zC]
   refine tG 5 (.bool false) (some 10) (GK.grow _) rfl (YieldsIf.toG (Or.inl ⟨by rfl, ?_⟩)) (GK.drop (by simp)) ?_
   ·intro X hX
    clear hX
    go_simp
   try simp only [Act.put, zA, zB, zC]
   refine tG 6 (.bool false) (some 11) (GK.grow _) rfl (YieldsIf.toG (Or.inl ⟨by rfl, ?_⟩)) (GK.drop (by simp)) ?_
   ·intro X hX
    clear hX
    go_simp
   try simp only [Act.put, zA, zB, zC]
   refine tG 7 (undef) (some 12) (GK.grow _) rfl (YieldsIf.toG (Or.inr ⟨by rfl, rfl⟩)) (GK.drop (by simp)) ?_
   try simp only [Act.put, zA, zB, zC]
   refine tG 8 (undef) (some 13) (GK.grow _) rfl (YieldsIf.toG (Or.inr ⟨by rfl, rfl⟩)) (GK.drop (by simp)) ?_
   try simp only [Act.put, zA, zB, zC]
   refine tG 9 (undef) (some 14) (GK.grow _) rfl (YieldsIf.toG (Or.inr ⟨by rfl, rfl⟩)) (GK.drop (by simp)) ?_
   try simp only [Act.put, zA, zB, zC]
   refine tG 10 (undef) (some 15) (GK.grow _) rfl (YieldsIf.toG (Or.inr ⟨by rfl, rfl⟩)) (GK.drop (by simp)) ?_
   try simp only [Act.put, zA, zB, zC]
   refine tG 11 (.bool false) (some 16) (GK.grow _) rfl (YieldsIf.toG (Or.inl ⟨by rfl, ?_⟩)) (GK.drop (by simp)) ?_
   ·intro X hX
    clear hX
    go_simp
   try simp only [Act.put, zA, zB, zC]
   refine tG 12 (.bool false) (some 17) (GK.grow _) rfl (YieldsIf.toG (Or.inl ⟨by rfl, ?_⟩)) (GK.drop (by simp)) ?_
   ·intro X hX
    clear hX
    go_simp
   try simp only [Act.put, zA, zB, zC]
   refine tG 13 (undef) (some 18) (GK.grow _) rfl (YieldsIf.toG (Or.inr ⟨by rfl, rfl⟩)) (GK.drop (by simp)) ?_
   try simp only [Act.put, zA, zB, zC]
   refine tG 14 (undef) (some 19) (GK.grow _) rfl (YieldsIf.toG (Or.inr ⟨by rfl, rfl⟩)) (GK.drop (by simp)) ?_
   try simp only [Act.put, zA, zB, zC]
   refine tG 15 (undef) (some 20) (GK.grow _) rfl (YieldsIf.toG (Or.inr ⟨by rfl, rfl⟩)) (GK.drop (by simp)) ?_
   try simp only [Act.put, zA, zB, zC]
   refine tG 16 (undef) (some 21) (GK.grow _) rfl (YieldsIf.toG (Or.inr ⟨by rfl, rfl⟩)) (GK.drop (by simp)) ?_
   try simp only [Act.put, zA, zB, zC]
   refine tG 17 (.bool false) (some 22) (GK.grow _) rfl (YieldsIf.toG (Or.inl ⟨by rfl, ?_⟩)) (GK.drop (by simp)) ?_
   ·intro X hX
    clear hX
    go_simp
   try simp only [Act.put, zA, zB, zC]
   refine tG 18 (.bool false) (some 4) (GK.grow _) rfl (YieldsIf.toG (Or.inl ⟨by rfl, ?_⟩)) (GK.drop (by simp)) ?_
   ·intro X hX
    clear hX
    go_simp
   try simp only [Act.put, zA, zB, zC]
   clear HAL
   refine done_G (by kernel_rfl) (fun X4 hX => ?_) _
   replace NN := Lib.hid (Bgo NN.out hX)
   replace S := Lib.hid (blk_next hX S.out)
   replace T := Lib.hid (blk_next hX T.out)
   clear hX
   go_wp2_with fail
   go_ret
   exact ⟨ret_bool HR.out.symm, NN.out⟩
  ·rw [ht] at PT
   have L1 := Lib.hid (fun W => refLess_calls 1 1 n d W (by omega) (by omega) (by omega) (by omega) (by omega) (by omega) (by omega) (by omega))
   have L2 := Lib.hid (fun W => refLess_calls n d (-1) 1 W (by omega) (by omega) (by omega) (by omega) (by omega) (by omega) (by omega) (by omega))
   have hc : d < n ∨ (n ≤ d ∧ n < -d) ∨ (n ≤ d ∧ -d ≤ n) := by omega
   rcases hc with h | ⟨h, h'⟩ | ⟨h, h'⟩
   ·rw [decide_eq_true (by omega : (1 : Int) * d < n * 1)] at L1
    have HR : Hid (r = false) := Lib.hid (by rw [HP.out, hs, ht, decide_eq_false (by omega : ¬ n ≤ d), Bool.and_false, Bool.and_false, Bool.and_false])
    clear hs ht d1 d2 d3 d4 h L2
    go_enter Tryz.func79, Tryz.ntmps79
    go_upto_region 1 with fail
    have S : Hid (((w.alloc (.cells #[.int .i64 n, .int .i64 d] 36)).alloc (.cells #[.int .i64 m, .int .i64 k] 36)).heap[w.heap.size]? = some (.cells #[.int .i64 n, .int .i64 d] 36)) := Lib.hid (blk_alloc (blk_new w _) _)
    have T : Hid (((w.alloc (.cells #[.int .i64 n, .int .i64 d] 36)).alloc (.cells #[.int .i64 m, .int .i64 k] 36)).heap[w.heap.size + 1]? = some (.cells #[.int .i64 m, .int .i64 k] 36)) := Lib.hid (blk_at _ (by simp))
    replace NN : Hid (Below w.heap.size w ((w.alloc (.cells #[.int .i64 n, .int .i64 d] 36)).alloc (.cells #[.int .i64 m, .int .i64 k] 36))) := Lib.hid (Bal (Bal NN.out _) _)
    generalize ((w.alloc (.cells #[.int .i64 n, .int .i64 d] 36)).alloc (.cells #[.int .i64 m, .int .i64 k] 36)) = W5 at *
    have HDRW := Lib.hid (Below.drew (Below.refl W5.heap.size W5))
    replace NN := Lib.hid (Bgo NN.out HDRW.out)
    replace S := Lib.hid (blk_next HDRW.out S.out)
    replace T := Lib.hid (blk_next HDRW.out T.out)
    clear HDRW
    have HAL : Hid (∀ kx9 : Nat, GK [(0, w.heap.size, .cells #[.int .i64 n, .int .i64 d] 36), (3, w.heap.size + 1, .cells #[.int .i64 m, .int .i64 k] 36), (8, w.heap.size, .cells #[.int .i64 n, .int .i64 d] 36)] kx9 W5.drew) := Lib.hid (fun kx9 px9 hp e => by
     simp only [List.mem_cons, List.not_mem_nil, or_false] at hp
     rcases hp with rfl | rfl | rfl
     ·exact S.out
     ·exact T.out
     ·exact S.out)
    refine region_G (S := GK [(0, w.heap.size, .cells #[.int .i64 n, .int .i64 d] 36), (3, w.heap.size + 1, .cells #[.int .i64 m, .int .i64 k] 36), (8, w.heap.size, .cells #[.int .i64 n, .int .i64 d] 36)]) (by kernel_rfl) ?_
    refine tG 0 (.agg #[.int .i64 n, .int .i64 d]) (some 5) (GK.grow _) rfl (YieldsIf.toG (Or.inl ⟨by rfl, ?_⟩)) (HAL.out 0) ?_
    ·intro X hX
     have hh := hX (0, w.heap.size, .cells #[.int .i64 n, .int .i64 d] 36) (List.Mem.head _) rfl
     have hh0 := blk_cell hh 0 _ rfl
     have hh1 := blk_cell hh 1 _ rfl
     have hhl := blk_lt hh
     clear hh
     clear hX
     go_simp
    try simp only [Act.put, zA, zB, zC]
    have CFn : ∀ (args : Array Value) (W : World), Sem.run Tryz.prog (callFunc 113 args) W = .ok (.enter 113 args) W := fun _ _ => by kernel_rfl
    refine tG 1 (.bool true) (some 6) (GK.grow _) rfl (yieldsG_call 113 #[.agg #[.int .i64 n, .int .i64 d]] (by rfl) ?_ (fun X hS => PS.out X)) (GK.drop (by simp)) ?_
    ·intro X hX
     clear hX
     go_simp
    clear CFn
    try simp only [Act.put, zA, zB, zC]
    refine tG 2 (.bool true) (some 7) (GK.grow _) rfl (YieldsIf.toG (Or.inl ⟨by rfl, ?_⟩)) (GK.drop (by simp)) ?_
    ·intro X hX
     clear hX
     go_simp
    try simp only [Act.put, zA, zB, zC]
    refine tG 3 (.agg #[.int .i64 m, .int .i64 k]) (some 8) (GK.grow _) rfl (YieldsIf.toG (Or.inl ⟨by rfl, ?_⟩)) (HAL.out 3) ?_
    ·intro X hX
     have hh := hX (3, w.heap.size + 1, .cells #[.int .i64 m, .int .i64 k] 36) (List.Mem.tail _ (List.Mem.head _)) rfl
     have hh0 := blk_cell hh 0 _ rfl
     have hh1 := blk_cell hh 1 _ rfl
     have hhl := blk_lt hh
     clear hh
     clear hX
     go_simp
    try simp only [Act.put, zA, zB, zC]
    have CFn : ∀ (args : Array Value) (W : World), Sem.run Tryz.prog (callFunc 113 args) W = .ok (.enter 113 args) W := fun _ _ => by kernel_rfl
    refine tG 4 (.bool true) (some 9) (GK.grow _) rfl (yieldsG_call 113 #[.agg #[.int .i64 m, .int .i64 k]] (by rfl) ?_ (fun X hS => PT.out X)) (GK.drop (by simp)) ?_
    ·intro X hX
     clear hX
     go_simp
    clear CFn
    try simp only [Act.put, zA, zB, zC]
    refine tG 5 (.bool true) (some 10) (GK.grow _) rfl (YieldsIf.toG (Or.inl ⟨by rfl, ?_⟩)) (GK.drop (by simp)) ?_
    ·intro X hX
     clear hX
     go_simp
    try simp only [Act.put, zA, zB, zC]
    refine tG 6 (.bool true) (some 11) (GK.grow _) rfl (YieldsIf.toG (Or.inl ⟨by rfl, ?_⟩)) (GK.drop (by simp)) ?_
    ·intro X hX
     clear hX
     go_simp
    try simp only [Act.put, zA, zB, zC]
    have CFn : ∀ (args : Array Value) (W : World), Sem.run Tryz.prog (callFunc 115 args) W = .ok (.enter 115 args) W := fun _ _ => by kernel_rfl
    refine tG 7 (.agg #[.int .i64 1, .int .i64 1]) (some 12) (GK.grow _) rfl (yieldsG_call 115 #[] (by rfl) ?_ (fun X hS => refOne_calls X)) (GK.drop (by simp)) ?_
    ·intro X hX
     clear hX
     go_simp
    clear CFn
    try simp only [Act.put, zA, zB, zC]
    refine tG 8 (.agg #[.int .i64 n, .int .i64 d]) (some 13) (GK.grow _) rfl (YieldsIf.toG (Or.inl ⟨by rfl, ?_⟩)) (HAL.out 8) ?_
    ·intro X hX
     have hh := hX (8, w.heap.size, .cells #[.int .i64 n, .int .i64 d] 36) (List.Mem.tail _ (List.Mem.tail _ (List.Mem.head _))) rfl
     have hh0 := blk_cell hh 0 _ rfl
     have hh1 := blk_cell hh 1 _ rfl
     have hhl := blk_lt hh
     clear hh
     clear hX
     go_simp
    try simp only [Act.put, zA, zB, zC]
    have CFn : ∀ (args : Array Value) (W : World), Sem.run Tryz.prog (callFunc 114 args) W = .ok (.enter 114 args) W := fun _ _ => by kernel_rfl
    refine tG 9 (.bool true) (some 14) (GK.grow _) rfl (yieldsG_call 114 #[.agg #[.int .i64 1, .int .i64 1], .agg #[.int .i64 n, .int .i64 d]] (by rfl) ?_ (fun X hS => L1.out X)) (GK.drop (by simp)) ?_
    ·intro X hX
     clear hX
     go_simp
    clear CFn
    try simp only [Act.put, zA, zB, zC]
    refine tG 10 (.bool false) (some 15) (GK.grow _) rfl (YieldsIf.toG (Or.inl ⟨by rfl, ?_⟩)) (GK.drop (by simp)) ?_
    ·intro X hX
     clear hX
     go_simp
    try simp only [Act.put, zA, zB, zC]
    refine tG 11 (.bool false) (some 16) (GK.grow _) rfl (YieldsIf.toG (Or.inl ⟨by rfl, ?_⟩)) (GK.drop (by simp)) ?_
    ·intro X hX
     clear hX
     go_simp
    try simp only [Act.put, zA, zB, zC]
    refine tG 12 (.bool false) (some 17) (GK.grow _) rfl (YieldsIf.toG (Or.inl ⟨by rfl, ?_⟩)) (GK.drop (by simp)) ?_
    ·intro X hX
     clear hX
     go_simp
    try simp only [Act.put, zA, zB, zC]
    refine tG 13 (undef) (some 18) (GK.grow _) rfl (YieldsIf.toG (Or.inr ⟨by rfl, rfl⟩)) (GK.drop (by simp)) ?_
    try simp only [Act.put, zA, zB, zC]
    refine tG 14 (undef) (some 19) (GK.grow _) rfl (YieldsIf.toG (Or.inr ⟨by rfl, rfl⟩)) (GK.drop (by simp)) ?_
    try simp only [Act.put, zA, zB, zC]
    refine tG 15 (undef) (some 20) (GK.grow _) rfl (YieldsIf.toG (Or.inr ⟨by rfl, rfl⟩)) (GK.drop (by simp)) ?_
    try simp only [Act.put, zA, zB, zC]
    refine tG 16 (undef) (some 21) (GK.grow _) rfl (YieldsIf.toG (Or.inr ⟨by rfl, rfl⟩)) (GK.drop (by simp)) ?_
    try simp only [Act.put, zA, zB, zC]
    refine tG 17 (.bool false) (some 22) (GK.grow _) rfl (YieldsIf.toG (Or.inl ⟨by rfl, ?_⟩)) (GK.drop (by simp)) ?_
    ·intro X hX
     clear hX
     go_simp
    try simp only [Act.put, zA, zB, zC]
    refine tG 18 (.bool false) (some 4) (GK.grow _) rfl (YieldsIf.toG (Or.inl ⟨by rfl, ?_⟩)) (GK.drop (by simp)) ?_
    ·intro X hX
     clear hX
     go_simp
    try simp only [Act.put, zA, zB, zC]
    clear HAL
    refine done_G (by kernel_rfl) (fun X6 hX => ?_) _
    replace NN := Lib.hid (Bgo NN.out hX)
    replace S := Lib.hid (blk_next hX S.out)
    replace T := Lib.hid (blk_next hX T.out)
    clear hX
    go_wp2_with fail
    go_ret
    exact ⟨ret_bool HR.out.symm, NN.out⟩
   ·rw [decide_eq_false (by omega : ¬ (1 : Int) * d < n * 1)] at L1
    rw [decide_eq_true (by omega : n * 1 < (-1 : Int) * d)] at L2
    have HR : Hid (r = false) := Lib.hid (by rw [HP.out, hs, ht, decide_eq_false (by omega : ¬ -d ≤ n)]; rfl)
    clear hs ht d1 d2 d3 d4 h h'
    go_enter Tryz.func79, Tryz.ntmps79
    go_upto_region 1 with fail
    have S : Hid (((w.alloc (.cells #[.int .i64 n, .int .i64 d] 36)).alloc (.cells #[.int .i64 m, .int .i64 k] 36)).heap[w.heap.size]? = some (.cells #[.int .i64 n, .int .i64 d] 36)) := Lib.hid (blk_alloc (blk_new w _) _)
    have T : Hid (((w.alloc (.cells #[.int .i64 n, .int .i64 d] 36)).alloc (.cells #[.int .i64 m, .int .i64 k] 36)).heap[w.heap.size + 1]? = some (.cells #[.int .i64 m, .int .i64 k] 36)) := Lib.hid (blk_at _ (by simp))
    replace NN : Hid (Below w.heap.size w ((w.alloc (.cells #[.int .i64 n, .int .i64 d] 36)).alloc (.cells #[.int .i64 m, .int .i64 k] 36))) := Lib.hid (Bal (Bal NN.out _) _)
    generalize ((w.alloc (.cells #[.int .i64 n, .int .i64 d] 36)).alloc (.cells #[.int .i64 m, .int .i64 k] 36)) = W7 at *
    have HDRW := Lib.hid (Below.drew (Below.refl W7.heap.size W7))
    replace NN := Lib.hid (Bgo NN.out HDRW.out)
    replace S := Lib.hid (blk_next HDRW.out S.out)
    replace T := Lib.hid (blk_next HDRW.out T.out)
    clear HDRW
    have HAL : Hid (∀ kx9 : Nat, GK [(0, w.heap.size, .cells #[.int .i64 n, .int .i64 d] 36), (3, w.heap.size + 1, .cells #[.int .i64 m, .int .i64 k] 36), (8, w.heap.size, .cells #[.int .i64 n, .int .i64 d] 36), (13, w.heap.size, .cells #[.int .i64 n, .int .i64 d] 36)] kx9 W7.drew) := Lib.hid (fun kx9 px9 hp e => by
     simp only [List.mem_cons, List.not_mem_nil, or_false] at hp
     rcases hp with rfl | rfl | rfl | rfl
     ·exact S.out
     ·exact T.out
     ·exact S.out
     ·exact S.out)
    refine region_G (S := GK [(0, w.heap.size, .cells #[.int .i64 n, .int .i64 d] 36), (3, w.heap.size + 1, .cells #[.int .i64 m, .int .i64 k] 36), (8, w.heap.size, .cells #[.int .i64 n, .int .i64 d] 36), (13, w.heap.size, .cells #[.int .i64 n, .int .i64 d] 36)]) (by kernel_rfl) ?_
    refine tG 0 (.agg #[.int .i64 n, .int .i64 d]) (some 5) (GK.grow _) rfl (YieldsIf.toG (Or.inl ⟨by rfl, ?_⟩)) (HAL.out 0) ?_
    ·intro X hX
     have hh := hX (0, w.heap.size, .cells #[.int .i64 n, .int .i64 d] 36) (List.Mem.head _) rfl
     have hh0 := blk_cell hh 0 _ rfl
     have hh1 := blk_cell hh 1 _ rfl
     have hhl := blk_lt hh
     clear hh
     clear hX
     go_simp
    try simp only [Act.put, zA, zB, zC]
    have CFn : ∀ (args : Array Value) (W : World), Sem.run Tryz.prog (callFunc 113 args) W = .ok (.enter 113 args) W := fun _ _ => by kernel_rfl
    refine tG 1 (.bool true) (some 6) (GK.grow _) rfl (yieldsG_call 113 #[.agg #[.int .i64 n, .int .i64 d]] (by rfl) ?_ (fun X hS => PS.out X)) (GK.drop (by simp)) ?_
    ·intro X hX
     clear hX
     go_simp
    clear CFn
    try simp only [Act.put, zA, zB, zC]
    refine tG 2 (.bool true) (some 7) (GK.grow _) rfl (YieldsIf.toG (Or.inl ⟨by rfl, ?_⟩)) (GK.drop (by simp)) ?_
    ·intro X hX
     clear hX
     go_simp
    try simp only [Act.put, zA, zB, zC]
    refine tG 3 (.agg #[.int .i64 m, .int .i64 k]) (some 8) (GK.grow _) rfl (YieldsIf.toG (Or.inl ⟨by rfl, ?_⟩)) (HAL.out 3) ?_
    ·intro X hX
     have hh := hX (3, w.heap.size + 1, .cells #[.int .i64 m, .int .i64 k] 36) (List.Mem.tail _ (List.Mem.head _)) rfl
     have hh0 := blk_cell hh 0 _ rfl
     have hh1 := blk_cell hh 1 _ rfl
     have hhl := blk_lt hh
     clear hh
     clear hX
     go_simp
    try simp only [Act.put, zA, zB, zC]
    have CFn : ∀ (args : Array Value) (W : World), Sem.run Tryz.prog (callFunc 113 args) W = .ok (.enter 113 args) W := fun _ _ => by kernel_rfl
    refine tG 4 (.bool true) (some 9) (GK.grow _) rfl (yieldsG_call 113 #[.agg #[.int .i64 m, .int .i64 k]] (by rfl) ?_ (fun X hS => PT.out X)) (GK.drop (by simp)) ?_
    ·intro X hX
     clear hX
     go_simp
    clear CFn
    try simp only [Act.put, zA, zB, zC]
    refine tG 5 (.bool true) (some 10) (GK.grow _) rfl (YieldsIf.toG (Or.inl ⟨by rfl, ?_⟩)) (GK.drop (by simp)) ?_
    ·intro X hX
     clear hX
     go_simp
    try simp only [Act.put, zA, zB, zC]
    refine tG 6 (.bool true) (some 11) (GK.grow _) rfl (YieldsIf.toG (Or.inl ⟨by rfl, ?_⟩)) (GK.drop (by simp)) ?_
    ·intro X hX
     clear hX
     go_simp
    try simp only [Act.put, zA, zB, zC]
    have CFn : ∀ (args : Array Value) (W : World), Sem.run Tryz.prog (callFunc 115 args) W = .ok (.enter 115 args) W := fun _ _ => by kernel_rfl
    refine tG 7 (.agg #[.int .i64 1, .int .i64 1]) (some 12) (GK.grow _) rfl (yieldsG_call 115 #[] (by rfl) ?_ (fun X hS => refOne_calls X)) (GK.drop (by simp)) ?_
    ·intro X hX
     clear hX
     go_simp
    clear CFn
    try simp only [Act.put, zA, zB, zC]
    refine tG 8 (.agg #[.int .i64 n, .int .i64 d]) (some 13) (GK.grow _) rfl (YieldsIf.toG (Or.inl ⟨by rfl, ?_⟩)) (HAL.out 8) ?_
    ·intro X hX
     have hh := hX (8, w.heap.size, .cells #[.int .i64 n, .int .i64 d] 36) (List.Mem.tail _ (List.Mem.tail _ (List.Mem.head _))) rfl
     have hh0 := blk_cell hh 0 _ rfl
     have hh1 := blk_cell hh 1 _ rfl
     have hhl := blk_lt hh
     clear hh
     clear hX
     go_simp
    try simp only [Act.put, zA, zB, zC]
    have CFn : ∀ (args : Array Value) (W : World), Sem.run Tryz.prog (callFunc 114 args) W = .ok (.enter 114 args) W := fun _ _ => by kernel_rfl
    refine tG 9 (.bool false) (some 14) (GK.grow _) rfl (yieldsG_call 114 #[.agg #[.int .i64 1, .int .i64 1], .agg #[.int .i64 n, .int .i64 d]] (by rfl) ?_ (fun X hS => L1.out X)) (GK.drop (by simp)) ?_
    ·intro X hX
     clear hX
     go_simp
    clear CFn
    try simp only [Act.put, zA, zB, zC]
    refine tG 10 (.bool true) (some 15) (GK.grow _) rfl (YieldsIf.toG (Or.inl ⟨by rfl, ?_⟩)) (GK.drop (by simp)) ?_
    ·intro X hX
     clear hX
     go_simp
    try simp only [Act.put, zA, zB, zC]
    refine tG 11 (.bool true) (some 16) (GK.grow _) rfl (YieldsIf.toG (Or.inl ⟨by rfl, ?_⟩)) (GK.drop (by simp)) ?_
    ·intro X hX
     clear hX
     go_simp
    try simp only [Act.put, zA, zB, zC]
    refine tG 12 (.bool true) (some 17) (GK.grow _) rfl (YieldsIf.toG (Or.inl ⟨by rfl, ?_⟩)) (GK.drop (by simp)) ?_
    ·intro X hX
     clear hX
     go_simp
    try simp only [Act.put, zA, zB, zC]
    refine tG 13 (.agg #[.int .i64 n, .int .i64 d]) (some 18) (GK.grow _) rfl (YieldsIf.toG (Or.inl ⟨by rfl, ?_⟩)) (HAL.out 13) ?_
    ·intro X hX
     have hh := hX (13, w.heap.size, .cells #[.int .i64 n, .int .i64 d] 36) (List.Mem.tail _ (List.Mem.tail _ (List.Mem.tail _ (List.Mem.head _)))) rfl
     have hh0 := blk_cell hh 0 _ rfl
     have hh1 := blk_cell hh 1 _ rfl
     have hhl := blk_lt hh
     clear hh
     clear hX
     go_simp
    try simp only [Act.put, zA, zB, zC]
    have CFn : ∀ (args : Array Value) (W : World), Sem.run Tryz.prog (callFunc 46 args) W = .ok (.enter 46 args) W := fun _ _ => by kernel_rfl
    refine tG 14 (.agg #[.int .i64 (-1), .int .i64 1]) (some 19) (GK.grow _) rfl (yieldsG_call 46 #[.int .i64 (-1)] (by rfl) ?_ (fun X hS => refOf_calls (-1) X)) (GK.drop (by simp)) ?_
    ·intro X hX
     clear hX
     go_simp
    clear CFn
    try simp only [Act.put, zA, zB, zC]
    have CFn : ∀ (args : Array Value) (W : World), Sem.run Tryz.prog (callFunc 114 args) W = .ok (.enter 114 args) W := fun _ _ => by kernel_rfl
    refine tG 15 (.bool true) (some 20) (GK.grow _) rfl (yieldsG_call 114 #[.agg #[.int .i64 n, .int .i64 d], .agg #[.int .i64 (-1), .int .i64 1]] (by rfl) ?_ (fun X hS => L2.out X)) (GK.drop (by simp)) ?_
    ·intro X hX
     clear hX
     go_simp
    clear CFn
    try simp only [Act.put, zA, zB, zC]
    refine tG 16 (.bool false) (some 21) (GK.grow _) rfl (YieldsIf.toG (Or.inl ⟨by rfl, ?_⟩)) (GK.drop (by simp)) ?_
    ·intro X hX
     clear hX
     go_simp
    try simp only [Act.put, zA, zB, zC]
    refine tG 17 (.bool false) (some 22) (GK.grow _) rfl (YieldsIf.toG (Or.inl ⟨by rfl, ?_⟩)) (GK.drop (by simp)) ?_
    ·intro X hX
     clear hX
     go_simp
    try simp only [Act.put, zA, zB, zC]
    refine tG 18 (.bool false) (some 4) (GK.grow _) rfl (YieldsIf.toG (Or.inl ⟨by rfl, ?_⟩)) (GK.drop (by simp)) ?_
    ·intro X hX
     clear hX
     go_simp
    try simp only [Act.put, zA, zB, zC]
    clear HAL
    refine done_G (by kernel_rfl) (fun X8 hX => ?_) _
    replace NN := Lib.hid (Bgo NN.out hX)
    replace S := Lib.hid (blk_next hX S.out)
    replace T := Lib.hid (blk_next hX T.out)
    clear hX
    go_wp2_with fail
    go_ret
    exact ⟨ret_bool HR.out.symm, NN.out⟩
   ·rw [decide_eq_false (by omega : ¬ (1 : Int) * d < n * 1)] at L1
    rw [decide_eq_false (by omega : ¬ n * 1 < (-1 : Int) * d)] at L2
    have HR : Hid (r = true) := Lib.hid (by rw [HP.out, hs, ht, decide_eq_true h', decide_eq_true h]; rfl)
    clear hs ht d1 d2 d3 d4 h h'
    go_enter Tryz.func79, Tryz.ntmps79
    go_upto_region 1 with fail
    have S : Hid (((w.alloc (.cells #[.int .i64 n, .int .i64 d] 36)).alloc (.cells #[.int .i64 m, .int .i64 k] 36)).heap[w.heap.size]? = some (.cells #[.int .i64 n, .int .i64 d] 36)) := Lib.hid (blk_alloc (blk_new w _) _)
    have T : Hid (((w.alloc (.cells #[.int .i64 n, .int .i64 d] 36)).alloc (.cells #[.int .i64 m, .int .i64 k] 36)).heap[w.heap.size + 1]? = some (.cells #[.int .i64 m, .int .i64 k] 36)) := Lib.hid (blk_at _ (by simp))
    replace NN : Hid (Below w.heap.size w ((w.alloc (.cells #[.int .i64 n, .int .i64 d] 36)).alloc (.cells #[.int .i64 m, .int .i64 k] 36))) := Lib.hid (Bal (Bal NN.out _) _)
    generalize ((w.alloc (.cells #[.int .i64 n, .int .i64 d] 36)).alloc (.cells #[.int .i64 m, .int .i64 k] 36)) = W9 at *
    have HDRW := Lib.hid (Below.drew (Below.refl W9.heap.size W9))
    replace NN := Lib.hid (Bgo NN.out HDRW.out)
    replace S := Lib.hid (blk_next HDRW.out S.out)
    replace T := Lib.hid (blk_next HDRW.out T.out)
    clear HDRW
    have HAL : Hid (∀ kx9 : Nat, GK [(0, w.heap.size, .cells #[.int .i64 n, .int .i64 d] 36), (3, w.heap.size + 1, .cells #[.int .i64 m, .int .i64 k] 36), (8, w.heap.size, .cells #[.int .i64 n, .int .i64 d] 36), (13, w.heap.size, .cells #[.int .i64 n, .int .i64 d] 36)] kx9 W9.drew) := Lib.hid (fun kx9 px9 hp e => by
     simp only [List.mem_cons, List.not_mem_nil, or_false] at hp
     rcases hp with rfl | rfl | rfl | rfl
     ·exact S.out
     ·exact T.out
     ·exact S.out
     ·exact S.out)
    refine region_G (S := GK [(0, w.heap.size, .cells #[.int .i64 n, .int .i64 d] 36), (3, w.heap.size + 1, .cells #[.int .i64 m, .int .i64 k] 36), (8, w.heap.size, .cells #[.int .i64 n, .int .i64 d] 36), (13, w.heap.size, .cells #[.int .i64 n, .int .i64 d] 36)]) (by kernel_rfl) ?_
    refine tG 0 (.agg #[.int .i64 n, .int .i64 d]) (some 5) (GK.grow _) rfl (YieldsIf.toG (Or.inl ⟨by rfl, ?_⟩)) (HAL.out 0) ?_
    ·intro X hX
     have hh := hX (0, w.heap.size, .cells #[.int .i64 n, .int .i64 d] 36) (List.Mem.head _) rfl
     have hh0 := blk_cell hh 0 _ rfl
     have hh1 := blk_cell hh 1 _ rfl
     have hhl := blk_lt hh
     clear hh
     clear hX
     go_simp
    try simp only [Act.put, zA, zB, zC]
    have CFn : ∀ (args : Array Value) (W : World), Sem.run Tryz.prog (callFunc 113 args) W = .ok (.enter 113 args) W := fun _ _ => by kernel_rfl
    refine tG 1 (.bool true) (some 6) (GK.grow _) rfl (yieldsG_call 113 #[.agg #[.int .i64 n, .int .i64 d]] (by rfl) ?_ (fun X hS => PS.out X)) (GK.drop (by simp)) ?_
    ·intro X hX
     clear hX
     go_simp
    clear CFn
    try simp only [Act.put, zA, zB, zC]
    refine tG 2 (.bool true) (some 7) (GK.grow _) rfl (YieldsIf.toG (Or.inl ⟨by rfl, ?_⟩)) (GK.drop (by simp)) ?_
    ·intro X hX
     clear hX
     go_simp
    try simp only [Act.put, zA, zB, zC]
    refine tG 3 (.agg #[.int .i64 m, .int .i64 k]) (some 8) (GK.grow _) rfl (YieldsIf.toG (Or.inl ⟨by rfl, ?_⟩)) (HAL.out 3) ?_
    ·intro X hX
     have hh := hX (3, w.heap.size + 1, .cells #[.int .i64 m, .int .i64 k] 36) (List.Mem.tail _ (List.Mem.head _)) rfl
     have hh0 := blk_cell hh 0 _ rfl
     have hh1 := blk_cell hh 1 _ rfl
     have hhl := blk_lt hh
     clear hh
     clear hX
     go_simp
    try simp only [Act.put, zA, zB, zC]
    have CFn : ∀ (args : Array Value) (W : World), Sem.run Tryz.prog (callFunc 113 args) W = .ok (.enter 113 args) W := fun _ _ => by kernel_rfl
    refine tG 4 (.bool true) (some 9) (GK.grow _) rfl (yieldsG_call 113 #[.agg #[.int .i64 m, .int .i64 k]] (by rfl) ?_ (fun X hS => PT.out X)) (GK.drop (by simp)) ?_
    ·intro X hX
     clear hX
     go_simp
    clear CFn
    try simp only [Act.put, zA, zB, zC]
    refine tG 5 (.bool true) (some 10) (GK.grow _) rfl (YieldsIf.toG (Or.inl ⟨by rfl, ?_⟩)) (GK.drop (by simp)) ?_
    ·intro X hX
     clear hX
     go_simp
    try simp only [Act.put, zA, zB, zC]
    refine tG 6 (.bool true) (some 11) (GK.grow _) rfl (YieldsIf.toG (Or.inl ⟨by rfl, ?_⟩)) (GK.drop (by simp)) ?_
    ·intro X hX
     clear hX
     go_simp
    try simp only [Act.put, zA, zB, zC]
    have CFn : ∀ (args : Array Value) (W : World), Sem.run Tryz.prog (callFunc 115 args) W = .ok (.enter 115 args) W := fun _ _ => by kernel_rfl
    refine tG 7 (.agg #[.int .i64 1, .int .i64 1]) (some 12) (GK.grow _) rfl (yieldsG_call 115 #[] (by rfl) ?_ (fun X hS => refOne_calls X)) (GK.drop (by simp)) ?_
    ·intro X hX
     clear hX
     go_simp
    clear CFn
    try simp only [Act.put, zA, zB, zC]
    refine tG 8 (.agg #[.int .i64 n, .int .i64 d]) (some 13) (GK.grow _) rfl (YieldsIf.toG (Or.inl ⟨by rfl, ?_⟩)) (HAL.out 8) ?_
    ·intro X hX
     have hh := hX (8, w.heap.size, .cells #[.int .i64 n, .int .i64 d] 36) (List.Mem.tail _ (List.Mem.tail _ (List.Mem.head _))) rfl
     have hh0 := blk_cell hh 0 _ rfl
     have hh1 := blk_cell hh 1 _ rfl
     have hhl := blk_lt hh
     clear hh
     clear hX
     go_simp
    try simp only [Act.put, zA, zB, zC]
    have CFn : ∀ (args : Array Value) (W : World), Sem.run Tryz.prog (callFunc 114 args) W = .ok (.enter 114 args) W := fun _ _ => by kernel_rfl
    refine tG 9 (.bool false) (some 14) (GK.grow _) rfl (yieldsG_call 114 #[.agg #[.int .i64 1, .int .i64 1], .agg #[.int .i64 n, .int .i64 d]] (by rfl) ?_ (fun X hS => L1.out X)) (GK.drop (by simp)) ?_
    ·intro X hX
     clear hX
     go_simp
    clear CFn
    try simp only [Act.put, zA, zB, zC]
    refine tG 10 (.bool true) (some 15) (GK.grow _) rfl (YieldsIf.toG (Or.inl ⟨by rfl, ?_⟩)) (GK.drop (by simp)) ?_
    ·intro X hX
     clear hX
     go_simp
    try simp only [Act.put, zA, zB, zC]
    refine tG 11 (.bool true) (some 16) (GK.grow _) rfl (YieldsIf.toG (Or.inl ⟨by rfl, ?_⟩)) (GK.drop (by simp)) ?_
    ·intro X hX
     clear hX
     go_simp
    try simp only [Act.put, zA, zB, zC]
    refine tG 12 (.bool true) (some 17) (GK.grow _) rfl (YieldsIf.toG (Or.inl ⟨by rfl, ?_⟩)) (GK.drop (by simp)) ?_
    ·intro X hX
     clear hX
     go_simp
    try simp only [Act.put, zA, zB, zC]
    refine tG 13 (.agg #[.int .i64 n, .int .i64 d]) (some 18) (GK.grow _) rfl (YieldsIf.toG (Or.inl ⟨by rfl, ?_⟩)) (HAL.out 13) ?_
    ·intro X hX
     have hh := hX (13, w.heap.size, .cells #[.int .i64 n, .int .i64 d] 36) (List.Mem.tail _ (List.Mem.tail _ (List.Mem.tail _ (List.Mem.head _)))) rfl
     have hh0 := blk_cell hh 0 _ rfl
     have hh1 := blk_cell hh 1 _ rfl
     have hhl := blk_lt hh
     clear hh
     clear hX
     go_simp
    try simp only [Act.put, zA, zB, zC]
    have CFn : ∀ (args : Array Value) (W : World), Sem.run Tryz.prog (callFunc 46 args) W = .ok (.enter 46 args) W := fun _ _ => by kernel_rfl
    refine tG 14 (.agg #[.int .i64 (-1), .int .i64 1]) (some 19) (GK.grow _) rfl (yieldsG_call 46 #[.int .i64 (-1)] (by rfl) ?_ (fun X hS => refOf_calls (-1) X)) (GK.drop (by simp)) ?_
    ·intro X hX
     clear hX
     go_simp
    clear CFn
    try simp only [Act.put, zA, zB, zC]
    have CFn : ∀ (args : Array Value) (W : World), Sem.run Tryz.prog (callFunc 114 args) W = .ok (.enter 114 args) W := fun _ _ => by kernel_rfl
    refine tG 15 (.bool false) (some 20) (GK.grow _) rfl (yieldsG_call 114 #[.agg #[.int .i64 n, .int .i64 d], .agg #[.int .i64 (-1), .int .i64 1]] (by rfl) ?_ (fun X hS => L2.out X)) (GK.drop (by simp)) ?_
    ·intro X hX
     clear hX
     go_simp
    clear CFn
    try simp only [Act.put, zA, zB, zC]
    refine tG 16 (.bool true) (some 21) (GK.grow _) rfl (YieldsIf.toG (Or.inl ⟨by rfl, ?_⟩)) (GK.drop (by simp)) ?_
    ·intro X hX
     clear hX
     go_simp
    try simp only [Act.put, zA, zB, zC]
    refine tG 17 (.bool true) (some 22) (GK.grow _) rfl (YieldsIf.toG (Or.inl ⟨by rfl, ?_⟩)) (GK.drop (by simp)) ?_
    ·intro X hX
     clear hX
     go_simp
    try simp only [Act.put, zA, zB, zC]
    refine tG 18 (.bool true) (some 4) (GK.grow _) rfl (YieldsIf.toG (Or.inl ⟨by rfl, ?_⟩)) (GK.drop (by simp)) ?_
    ·intro X hX
     clear hX
     go_simp
    try simp only [Act.put, zA, zB, zC]
    clear HAL
    refine done_G (by kernel_rfl) (fun X10 hX => ?_) _
    replace NN := Lib.hid (Bgo NN.out hX)
    replace S := Lib.hid (blk_next hX S.out)
    replace T := Lib.hid (blk_next hX T.out)
    clear hX
    go_wp2_with fail
    go_ret
    exact ⟨ret_bool HR.out.symm, NN.out⟩
set_option maxRecDepth 100000 in
set_option maxHeartbeats 8000000 in
theorem refValid_calls (x : St) (w : World) (hs : x.nm.size ≤ 9223372036854775807) : Calls Tryz.prog 54 #[Sv x] w fun e w' => e = .returned (.bool (valS x)) ∧ Below w.heap.size w w' := by
 have NN := Lib.hid (Below.refl w.heap.size w)
 obtain ⟨s, sn, sd, tn, td⟩ := x
 have CN := Lib.hid (fun W => named_calls s W hs)
 have CP := Lib.hid (fun W => refPlaced_calls sn sd tn td W)
 have VS : Hid (valS ⟨s, sn, sd, tn, td⟩ = (namB s.data.toList && plB sn sd tn td)) := Lib.hid rfl
 generalize valS ⟨s, sn, sd, tn, td⟩ = vs at *
 generalize plB sn sd tn td = pl at *
 clear hs
 cases hn : namB s.data.toList
 ·rw [hn] at CN
  have HN := Lib.hid hn
  clear hn
  go_enter Tryz.func54, Tryz.ntmps54
  go_wp2_with fail
  have X : Hid ((w.alloc (.cells #[.string s, .int .i64 sn, .int .i64 sd, .int .i64 tn, .int .i64 td] 69)).heap[w.heap.size]? = some (.cells #[.string s, .int .i64 sn, .int .i64 sd, .int .i64 tn, .int .i64 td] 69)) := Lib.hid (blk_new w _)
  replace NN : Hid (Below w.heap.size w (w.alloc (.cells #[.string s, .int .i64 sn, .int .i64 sd, .int .i64 tn, .int .i64 td] 69))) := Lib.hid (Bal NN.out _)
  generalize (w.alloc (.cells #[.string s, .int .i64 sn, .int .i64 sd, .int .i64 tn, .int .i64 td] 69)) = W1 at *
  have c_X_0 := blk_cell X.out 0 _ rfl
  have f_X_0 := blk_frozen X.out 0
  have c_X_1 := blk_cell X.out 1 _ rfl
  have f_X_1 := blk_frozen X.out 1
  have c_X_2 := blk_cell X.out 2 _ rfl
  have f_X_2 := blk_frozen X.out 2
  have c_X_3 := blk_cell X.out 3 _ rfl
  have f_X_3 := blk_frozen X.out 3
  have c_X_4 := blk_cell X.out 4 _ rfl
  have f_X_4 := blk_frozen X.out 4
  have l_X := blk_lt X.out
  go_wp2_with fail
  clear c_X_0 f_X_0 c_X_1 f_X_1 c_X_2 f_X_2 c_X_3 f_X_3 c_X_4 f_X_4 l_X
  refine (CN.out _).mono ?_
  rintro e w2 ⟨rfl, rfl⟩
  have c_X_0 := blk_cell X.out 0 _ rfl
  have f_X_0 := blk_frozen X.out 0
  have c_X_1 := blk_cell X.out 1 _ rfl
  have f_X_1 := blk_frozen X.out 1
  have c_X_2 := blk_cell X.out 2 _ rfl
  have f_X_2 := blk_frozen X.out 2
  have c_X_3 := blk_cell X.out 3 _ rfl
  have f_X_3 := blk_frozen X.out 3
  have c_X_4 := blk_cell X.out 4 _ rfl
  have f_X_4 := blk_frozen X.out 4
  have l_X := blk_lt X.out
  go_wp2_with fail
  go_ret
  exact ⟨ret_bool (by rw [VS.out, HN.out]; rfl), NN.out⟩
 ·rw [hn] at CN
  have HN := Lib.hid hn
  clear hn
  go_enter Tryz.func54, Tryz.ntmps54
  go_wp2_with fail
  have X : Hid ((w.alloc (.cells #[.string s, .int .i64 sn, .int .i64 sd, .int .i64 tn, .int .i64 td] 69)).heap[w.heap.size]? = some (.cells #[.string s, .int .i64 sn, .int .i64 sd, .int .i64 tn, .int .i64 td] 69)) := Lib.hid (blk_new w _)
  replace NN : Hid (Below w.heap.size w (w.alloc (.cells #[.string s, .int .i64 sn, .int .i64 sd, .int .i64 tn, .int .i64 td] 69))) := Lib.hid (Bal NN.out _)
  generalize (w.alloc (.cells #[.string s, .int .i64 sn, .int .i64 sd, .int .i64 tn, .int .i64 td] 69)) = W3 at *
  have c_X_0 := blk_cell X.out 0 _ rfl
  have f_X_0 := blk_frozen X.out 0
  have c_X_1 := blk_cell X.out 1 _ rfl
  have f_X_1 := blk_frozen X.out 1
  have c_X_2 := blk_cell X.out 2 _ rfl
  have f_X_2 := blk_frozen X.out 2
  have c_X_3 := blk_cell X.out 3 _ rfl
  have f_X_3 := blk_frozen X.out 3
  have c_X_4 := blk_cell X.out 4 _ rfl
  have f_X_4 := blk_frozen X.out 4
  have l_X := blk_lt X.out
  go_wp2_with fail
  clear c_X_0 f_X_0 c_X_1 f_X_1 c_X_2 f_X_2 c_X_3 f_X_3 c_X_4 f_X_4 l_X
  refine (CN.out _).mono ?_
  rintro e w4 ⟨rfl, rfl⟩
  have c_X_0 := blk_cell X.out 0 _ rfl
  have f_X_0 := blk_frozen X.out 0
  have c_X_1 := blk_cell X.out 1 _ rfl
  have f_X_1 := blk_frozen X.out 1
  have c_X_2 := blk_cell X.out 2 _ rfl
  have f_X_2 := blk_frozen X.out 2
  have c_X_3 := blk_cell X.out 3 _ rfl
  have f_X_3 := blk_frozen X.out 3
  have c_X_4 := blk_cell X.out 4 _ rfl
  have f_X_4 := blk_frozen X.out 4
  have l_X := blk_lt X.out
  go_wp2_with fail
  refine (CP.out _).mono ?_
  rintro e w5 ⟨rfl, hb⟩
  clear c_X_0 f_X_0 c_X_1 f_X_1 c_X_2 f_X_2 c_X_3 f_X_3 c_X_4 f_X_4 l_X
  replace NN := Lib.hid (Bgo NN.out hb)
  replace X := Lib.hid (blk_next hb X.out)
  clear hb
  go_wp2_with fail
  go_ret
  exact ⟨ret_bool (by rw [VS.out, HN.out]; rfl), NN.out⟩
set_option maxRecDepth 100000 in
set_option maxHeartbeats 4000000 in
theorem stations_calls (A : Option Addr) (c : Nat) (l : List St) (w : World) (hl : RSt w A l) (hc : l.length ≤ c) (hc' : c ≤ 9223372036854775807) (hn : ∀ x ∈ l, x.nm.size ≤ 9223372036854775807) : Calls Tryz.prog 50 #[.slice A l.length c] w fun e w' =>
  e = .returned (.int .i64 (stsE l)) ∧ Below w.heap.size w w' := by
 by_cases h8 : 8 < l.length
 ·have FV : Hid (stsE l = 4) := Lib.hid (by unfold stsE; rw [if_pos h8])
  generalize stsE l = v at *
  go_enter Tryz.func50, Tryz.ntmps50
  go_wp2_with fail
  go_ret
  exact ⟨ret_int FV.out.symm, Below.refl _ _⟩
 have HL := Lib.hid hl
 have HN := Lib.hid hn
 have YES : Hid ((∀ (j : Nat) (y : St), j < l.length → l[j]? = some y → valS y = true) → stsE l = 0) := Lib.hid (fun h => by unfold stsE; rw [if_neg h8, if_pos (all_get h)])
 have NO : Hid (∀ (k : Nat) (x : St), l[k]? = some x → valS x = false → stsE l = 8) := Lib.hid (fun k x h h' => by unfold stsE; rw [if_neg h8, if_neg (by rw [all_not h h']; simp)])
 clear hl hn
 generalize stsE l = v at *
 go_enter Tryz.func50, Tryz.ntmps50
 go_wp2_with fail
 go_loopw [10] (fun i wr => ∃ k : Nat, k ≤ l.length ∧ i = .int .i64 k ∧ Hid (Below w.heap.size w wr) ∧ Hid (∀ (j : Nat) (y : St), j < k → l[j]? = some y → valS y = true)) (fun i _ => l.length - (intOf i).toNat)
 case atStart => exact ⟨0, by omega, rfl, Lib.hid (Below.refl _ _), Lib.hid (by omega)⟩
 case round =>
  obtain ⟨k, hk, rfl, NN, GD⟩ := hrel
  by_cases hlt : k < l.length
  ·obtain ⟨x, hx⟩ := get_some hlt
   obtain ⟨b, off, e, hb, hc0⟩ := Rd.rec_ HL.out (Nat.le_refl _) st5_len hx
   subst e
   have c0 := (NN.out.cell (p := ⟨b, off + k * 5, none⟩) hb).trans (hc0 0 _ rfl)
   have c1 := (NN.out.cell (p := ⟨b, off + k * 5 + 1, none⟩) hb).trans (hc0 1 _ rfl)
   have c2 := (NN.out.cell (p := ⟨b, off + k * 5 + 2, none⟩) hb).trans (hc0 2 _ rfl)
   have c3 := (NN.out.cell (p := ⟨b, off + k * 5 + 3, none⟩) hb).trans (hc0 3 _ rfl)
   have c4 := (NN.out.cell (p := ⟨b, off + k * 5 + 4, none⟩) hb).trans (hc0 4 _ rfl)
   have hbr : b < wr.heap.size := Nat.lt_of_lt_of_le hb NN.out.size
   have HX := Lib.hid hx
   have kk : k + 1 ≤ l.length := hlt
   have CV := Lib.hid (fun W => valid_calls x W (HN.out x (List.mem_of_getElem? hx)))
   clear hc0 hx
   go_wp2_with fail
   refine (CV.out _).mono ?_
   rintro e w1 ⟨rfl, hb1⟩
   replace NN := Lib.hid (Bgo (Bal NN.out (.cells #[.string x.nm, .int .i64 x.sn, .int .i64 x.sd, .int .i64 x.tn, .int .i64 x.td] 69)) hb1)
   clear hb1 c0 c1 c2 c3 c4
   cases hp : valS x
   ·have FV := Lib.hid (NO.out k x HX.out hp)
    clear GD YES NO HX hp
    go_wp2_with fail
    go_ret
    exact ⟨ret_int FV.out.symm, NN.out⟩
   ·have G2 := Lib.hid (take_all HX.out GD.out hp)
    clear GD YES NO HX hp
    go_wp2_with fail
    go_roundw
    case rel => exact ⟨k + 1, kk, by go_num, NN, G2⟩
    case measure => simp [intOf]; omega
  ·obtain rfl : k = l.length := by omega
   have FV := Lib.hid (YES.out GD.out)
   clear GD YES NO
   go_wp2_with fail
   go_ret
   exact ⟨ret_int FV.out.symm, NN.out⟩
def greatB (l : List St) : Bool := l.any (fun x => decide (100 < x.nm.size)) || decide (20 < l.length)
theorem great_no {l : List St} (h : greatB l = false) : l.length ≤ 20 ∧ ∀ x ∈ l, x.nm.size ≤ 100 := by
 unfold greatB at h
 simp only [Bool.or_eq_false_iff, List.any_eq_false, decide_eq_true_eq, decide_eq_false_iff_not] at h
 exact ⟨by omega, fun x hx => by have := h.1 x hx; omega⟩
set_option maxRecDepth 100000 in
set_option maxHeartbeats 4000000 in
theorem great_calls (A : Option Addr) (c : Nat) (l : List St) (w : World) (hl : RSt w A l) (hc : l.length ≤ c) (hc' : c ≤ 9223372036854775807) : Calls Tryz.prog 16 #[.slice A l.length c] w fun e w' =>
  e = .returned (.bool (greatB l)) ∧ Below w.heap.size w w' := by
 have HL := Lib.hid hl
 have YES : Hid ((∀ (j : Nat) (y : St), j < l.length → l[j]? = some y → decide (y.nm.size ≤ 100) = true) → greatB l = decide (20 < l.length)) := Lib.hid (fun h => by
  unfold greatB
  rw [show (l.any fun x => decide (100 < x.nm.size)) = false from List.any_eq_false.2 (fun x hx => by
   obtain ⟨i, hi, e⟩ := List.mem_iff_getElem.1 hx
   have := h i x hi (by rw [List.getElem?_eq_getElem hi, e])
   simp at this ⊢; omega), Bool.false_or])
 have NO : Hid (∀ (k : Nat) (x : St), l[k]? = some x → 100 < x.nm.size → greatB l = true) := Lib.hid (fun k x h h' => by
  unfold greatB
  rw [show (l.any fun x => decide (100 < x.nm.size)) = true from List.any_eq_true.2 ⟨x, List.mem_of_getElem? h, by simpa using h'⟩, Bool.true_or])
 clear hl
 generalize greatB l = v at *
 go_enter Tryz.func16, Tryz.ntmps16
 go_wp2_with fail
 go_loopw [3] (fun i wr => ∃ k : Nat, k ≤ l.length ∧ i = .int .i64 k ∧ Hid (Below w.heap.size w wr) ∧ Hid (∀ (j : Nat) (y : St), j < k → l[j]? = some y → decide (y.nm.size ≤ 100) = true)) (fun i _ => l.length - (intOf i).toNat)
 case atStart => exact ⟨0, by omega, rfl, Lib.hid (Below.refl _ _), Lib.hid (by omega)⟩
 case round =>
  obtain ⟨k, hk, rfl, NN, GD⟩ := hrel
  by_cases hlt : k < l.length
  ·obtain ⟨x, hx⟩ := get_some hlt
   obtain ⟨b, off, e, hb, hc0⟩ := Rd.rec_ HL.out (Nat.le_refl _) st5_len hx
   subst e
   have c0 := (NN.out.cell (p := ⟨b, off + k * 5, none⟩) hb).trans (hc0 0 _ rfl)
   have hbr : b < wr.heap.size := Nat.lt_of_lt_of_le hb NN.out.size
   have HX := Lib.hid hx
   have kk : k + 1 ≤ l.length := hlt
   clear hc0 hx
   by_cases hp : 100 < x.nm.size
   ·have FV := Lib.hid (NO.out k x HX.out hp)
    have d1 : decide ((100 : Int) < (x.nm.size : Int)) = true := decide_eq_true (by omega)
    clear GD YES NO HX hp
    go_wp2_with fail
    go_ret
    exact ⟨ret_bool FV.out.symm, NN.out⟩
   ·have G2 := Lib.hid (take_all HX.out GD.out (decide_eq_true (by omega)))
    have d1 : decide ((100 : Int) < (x.nm.size : Int)) = false := decide_eq_false (by omega)
    clear GD YES NO HX hp
    go_wp2_with fail
    go_roundw
    case rel => exact ⟨k + 1, kk, by go_num, NN, G2⟩
    case measure => simp [intOf]; omega
  ·obtain rfl : k = l.length := by omega
   have FV := Lib.hid (YES.out GD.out)
   clear GD YES NO
   go_wp2_with fail
   go_ret
   exact ⟨ret_bool (by rw [FV.out]; exact decide_eq_decide.2 (by omega)), NN.out⟩
end Go.Proofs.YtfangplfbbgphaaGreatDoor
namespace Go.Proofs.YtfangplfbbgphaaGreatDoor
open Go Go.RowKit
set_option linter.unusedVariables false
set_option maxRecDepth 100000
section
variable {P : Program}
def SeqK (P : Program) (g : Nat) (lb : Array Value) (encs : Nat → Array Value) (n₀ N : Nat) (Kp : World → Prop) (w : World) : Prop :=
 ∀ (l : Nat) (J Jx : Nat → World → Prop) (W : World), Below w.heap.size w W → AbidesFrom W.heap.size J → AbidesFrom W.heap.size Jx → (∀ k W1, J k W1 → Kp W1) →
  (∀ k W1, J k W1 → k < N → YieldAt Fence.wide 0 P l (encs k) W1 fun e W' =>
   (e = .returned (.bool true) ∧ J (k + 1) W' ∧ Below n₀ W1 W') ∨ (e = .returned (.bool false) ∧ Jx k W')) →
  J 0 W → CallsIn Fence.wide 0 P g (#[.func (.yield l) #[] #[]] ++ lb) W fun e W' => (∃ v, e = .returned v) ∧ (J N W' ∨ ∃ k, k < N ∧ Jx k W')
def roundN (B n₀ : Nat) (I : Nat → World → Prop) (Ix : Code → Nat → World → Prop) (k : Nat) (W : World) : Exit → Act → World → Prop
 | .normal, _, W' => KeepsFrom B W W' ∧ Below n₀ W W' ∧ I (k + 1) W'
 | .ret, _, W' => KeepsFrom B W W' ∧ Ix .ret k W'
 | .exit i, _, W' => KeepsFrom B W W' ∧ Ix (.exit i) k W'
 | .goto t, _, W' => KeepsFrom B W W' ∧ Ix (.goto t) k W'
 | .panic _, _, _ => False
 | .outgrown, _, _ => False
theorem keeps_of_below {B : Nat} {W W' : World} (h : Below W.heap.size W W') : KeepsFrom B W W' := ⟨h.size, fun k o _ hk _ => (h.block k (Array.getElem?_eq_some_iff.1 hk).1).trans hk⟩
theorem range_k {g : Operand} {ps : Array Tmp} {assign body : Code} {Q : Exit → Act → World → Prop} {a : Act} {w : World} (gf : Nat) (lb : Array Value)
  (hg : a.eval g = .func (.func gf) #[] lb) (eg : ∀ args w, (callFunc gf args).run P w = .ok (.enter gf args) w)
  (encs : Nat → Array Value) (n₀ N : Nat) (Kp : World → Prop) (hseq : SeqK P gf lb encs n₀ N Kp w) (hn : n₀ ≤ w.heap.size) (hps : ∀ k, (encs k).size = ps.size)
  (I : Nat → World → Prop) (Ix : Code → Nat → World → Prop) (Ax : Nat → Act → World → Prop) (hI : OwnFrom w.heap.size I) (hIx : ∀ c, OwnFrom w.heap.size (Ix c)) (hAx : ∀ a', OwnFrom w.heap.size (fun k => Ax k a'))
  (hKp : ∀ k W, I k W → Kp W) (h0 : I 0 w)
  (hassign : ∀ (l k : Nat) (W : World) (K : Act → World → Prop), I k W → k < N → (∀ a' W', KeepsFrom w.heap.size W W' → Below n₀ W W' → Ax k a' W' → K a' W') →
   assign.wpIn (Fence.wide.inRound l) 0 P (Exit.then K fun _ _ _ => False) { tmps := (ps.zip (encs k)).foldl (fun t (p, v) => t.setIfInBounds p v) a.tmps, defers := [] } W)
  (hbody : ∀ (l k : Nat) (a' : Act) (W : World), Ax k a' W → k < N → body.wpIn (Fence.wide.inRound l) 0 P (roundN w.heap.size n₀ I Ix k W) a' W)
  (hdone : ∀ (D : Nat) (W : World), w.heap.size ≤ D → I N W → W.heap[D]? = some (.deferred (some [])) → Q .normal { a with defers := { target := .collected D, args := #[] } :: a.defers } W)
  (hstop : ∀ (D : Nat) (c : Code) (k : Nat) (W : World), w.heap.size ≤ D → k < N → Ix c k W → W.heap[D]? = some (.deferred (some [])) → c.wpIn Fence.wide 0 P Q { a with defers := { target := .collected D, args := #[] } :: a.defers } W) :
  (Code.rangeFunc g ps assign body).wpIn Fence.wide 0 P Q a w := by
 refine wpIn_rangeFunc fun fn _ => ?_
 obtain ⟨D, hD⟩ : ∃ D, D = w.heap.size := ⟨_, rfl⟩
 obtain ⟨rc, hrc⟩ : ∃ rc : LoopState → Option Code → Loop, rc = fun st pe => { state := st, pending := pe, fn, tmps := a.tmps, params := ps, assign, body, defers := D } := ⟨_, rfl⟩
 have rc_p : ∀ st pe, (rc st pe).params = ps := fun st pe => by rw [hrc]
 obtain ⟨W1, hW1⟩ : ∃ W1, (w.alloc (.deferred (some []))).alloc (.loop (rc .ready none)) = W1 := ⟨_, rfl⟩
 have s1 : (w.alloc (.deferred (some []))).heap.size = D + 1 := by rw [World.size_alloc, hD]
 have hsz : W1.heap.size = D + 2 := by rw [← hW1, World.size_alloc, s1]
 have hL1 : W1.heap[D + 1]? = some (.loop (rc .ready none)) := by
  have := World.alloc_heap_new (w.alloc (.deferred (some []))) (.loop (rc .ready none))
  rw [s1, hW1] at this; exact this
 have hK1 : W1.heap[D]? = some (.deferred (some [])) := by
  have h2 := World.alloc_heap_new w (.deferred (some []))
  rw [← hD] at h2
  rw [← hW1]; exact (Below.heap_alloc _ _ _ (by rw [s1]; omega)).trans h2
 have hI1 : I 0 W1 := by rw [← hW1]; exact hI.alloc _ (hI.alloc _ h0)
 have hb1 : Below w.heap.size w W1 := by
  rw [← hW1]; exact ((Below.refl _ w).alloc (Nat.le_refl _) _).alloc (by simp) _
 refine ⟨D + 1, [{ target := .collected D, args := #[] }], W1, { target := .fn (.func gf) lb, args := #[.func (.yield (D + 1)) #[] #[]] }, W1, gf, #[.func (.yield (D + 1)) #[] #[]] ++ lb, W1, ?_, ?_, fun _ _ => trivial, ?_, fun h => by simp [Fence.wide] at h, ?_⟩
 ·rw [← hW1, hrc, hD]; exact run_enterLoop_outer _ _ _ _ _
 ·simp only [resolve, hg]
  simp [go_sem]
 ·simp [invoke, go_sem, eg]
 -- the book of the loop: its record lies at D + 1, the block for deferred calls at D
 have turn : ∀ {β : Type} {X : β → World → Prop} (hX : OwnFrom w.heap.size X) {s : β} {W : World} {o : Obj} (o' : Obj), X s W → W.heap[D + 1]? = some o → o.isCells = false → X s (W.putObj (D + 1) o') := fun hX _ _ _ o' h ho hc => hX.putObj o' h (by omega) ho hc
 have put_same : ∀ {W : World} {o : Obj} (o' : Obj), W.heap[D + 1]? = some o → (W.putObj (D + 1) o').heap[D + 1]? = some o' := fun _ h => World.putObj_heap_same (Array.getElem?_eq_some_iff.1 h).1
 have put_D : ∀ {W : World} (o' : Obj), W.heap[D]? = some (.deferred (some [])) → (W.putObj (D + 1) o').heap[D]? = some (.deferred (some [])) := fun _ h => (World.putObj_heap_other (by omega)).trans h
 have put_b : ∀ {W : World} {o : Obj} (o' : Obj), W.heap[D + 1]? = some o → o.isCells = false → o.isWalk = false → Below n₀ W (W.putObj (D + 1) o') := fun {W} o o' h hc hw => belowK_b hn W (D + 1) o o' (by omega) h hc hw
 have frm : ∀ {A B : World} {row : Option Nat}, (∀ r, row = some r → W1.heap.size ≤ r ∧ ∃ o : Obj, A.heap[r]? = some o ∧ o.isWalk = true) → (∀ r, row = some r → w.heap.size ≤ r ∧ ∃ o : Obj, A.heap[r]? = some o ∧ o.isCells = false) :=
  fun hr r e => by obtain ⟨hB, o, ho, hw⟩ := hr r e; exact ⟨by omega, o, ho, Obj.not_cells_of_walk hw⟩
 have stay : ∀ {A B : World} {row : Option Nat} (_ : A.grownBy B row) (_ : ∀ r, row = some r → W1.heap.size ≤ r ∧ ∃ o : Obj, A.heap[r]? = some o ∧ o.isWalk = true) {k : Nat} {o : Obj}, A.heap[k]? = some o → o.isWalk = false → B.heap[k]? = some o :=
  fun hg' hr _ _ hk hw => (grownBy_keeps hg' (fun r e => (hr r e).2) hk hw).trans hk
 refine (hseq (D + 1)
  (fun k W => I k W ∧ W.heap[D + 1]? = some (.loop (rc .ready none)) ∧ W.heap[D]? = some (.deferred (some [])))
  (fun k W => ∃ c, Ix c k W ∧ W.heap[D + 1]? = some (.loop (rc .done (some c))) ∧ W.heap[D]? = some (.deferred (some [])))
  W1 hb1
  (fun s A B row hs hg' hr => ⟨hI s A B row hs.1 hg' (frm (B := B) hr), stay hg' hr hs.2.1 rfl, stay hg' hr hs.2.2 rfl⟩)
  (fun s A B row hs hg' hr => by
   obtain ⟨c, hc, hl, hk⟩ := hs
   exact ⟨c, hIx c s A B row hc hg' (frm (B := B) hr), stay hg' hr hl rfl, stay hg' hr hk rfl⟩)
  (fun k W1 h => hKp k W1 h.1) ?_ ⟨hI1, hL1, hK1⟩).mono ?_
 ·-- a round
  rintro k W ⟨hi, hl, hk⟩ hlt
  have hy := run_yield (P := P) (args := encs k) hl (by rw [rc_p]; exact hps k)
  rw [hrc] at hy
  refine ⟨fn, _, assign, body, hy, roundIn_of_wpIn trivial (hassign _ k W _ hi hlt fun a₁ W₁ hf₁ hb₁ hx₁ => ?_)⟩
  have hl₁ := hf₁.same _ _ (by omega) hl rfl
  have hk₁ := hf₁.same _ _ (by omega) hk rfl
  refine ⟨_, run_beginRound hl₁ (by rw [hrc]), ?_⟩
  obtain ⟨bz, hbz⟩ : ∃ bz : Loop, bz = { rc .ready none with state := .busy } := ⟨_, rfl⟩
  rw [← hbz]
  have hl₂ := put_same (.loop bz) hl₁
  have hk₂ := put_D (.loop bz) hk₁
  have hx₂ := turn (hAx a₁) (.loop bz) hx₁ hl₁ rfl
  have hb₂ := hb₁.trans (put_b (.loop bz) hl₁ rfl rfl)
  refine wpIn_mono (hbody _ k a₁ _ hx₂ hlt) ?_
  have fin : ∀ (jump : Option Code) (W3 : World), KeepsFrom w.heap.size (W₁.putObj (D + 1) (.loop bz)) W3 →
    (Instr.endRound (D + 1) jump).run P W3 = .ok (.bool jump.isNone) (W3.putObj (D + 1) (.loop (rc (if jump.isNone then .ready else .done) jump))) ∧ W3.heap[D + 1]? = some (.loop bz) ∧ W3.heap[D]? = some (.deferred (some [])) := fun jump W3 h3 => by
   have hl3 := h3.same _ _ (by omega) hl₂ rfl
   have he := run_endRound (P := P) jump hl3
   rw [hbz, hrc] at he
   rw [hrc]
   exact ⟨he, hl3, h3.same _ _ (by omega) hk₂ rfl⟩
  rintro e a3 W3 hp
  cases e with
  | normal =>
   obtain ⟨h3, hb3, hi3⟩ := hp
   obtain ⟨hr, hl3, hk3⟩ := fin none W3 h3
   exact ⟨_, _, hr, .inl ⟨rfl, ⟨turn hI _ hi3 hl3 rfl, put_same _ hl3, put_D _ hk3⟩, (hb₂.trans hb3).trans (put_b _ hl3 rfl rfl)⟩⟩
  | ret =>
   obtain ⟨h3, hi3⟩ := hp
   obtain ⟨hr, hl3, hk3⟩ := fin (some .ret) W3 h3
   exact ⟨_, _, hr, .inr ⟨rfl, .ret, turn (hIx _) _ hi3 hl3 rfl, put_same _ hl3, put_D _ hk3⟩⟩
  | exit i =>
   obtain ⟨h3, hi3⟩ := hp
   obtain ⟨hr, hl3, hk3⟩ := fin (some (.exit i)) W3 h3
   exact ⟨_, _, hr, .inr ⟨rfl, .exit i, turn (hIx _) _ hi3 hl3 rfl, put_same _ hl3, put_D _ hk3⟩⟩
  | goto t =>
   obtain ⟨h3, hi3⟩ := hp
   obtain ⟨hr, hl3, hk3⟩ := fin (some (.goto t)) W3 h3
   exact ⟨_, _, hr, .inr ⟨rfl, .goto t, turn (hIx _) _ hi3 hl3 rfl, put_same _ hl3, put_D _ hk3⟩⟩
  | panic ch => exact hp.elim
  | outgrown => exact hp.elim
 ·-- behind the iterator
  rintro e W2 ⟨⟨v, rfl⟩, (⟨hi, hl, hk⟩ | ⟨k, hlt, c, hi, hl, hk⟩)⟩
  ·have he := run_endLoop (P := P) hl (by rw [hrc]; simp)
   rw [hrc] at he
   exact ⟨none, _, he, hdone D _ (by omega) (turn hI _ hi hl rfl) (put_D _ hk)⟩
  ·have he := run_endLoop (P := P) hl (by rw [hrc]; simp)
   rw [hrc] at he
   exact ⟨some c, _, he, hstop D c k _ (by omega) hlt (turn (hIx c) _ hi hl rfl) (put_D _ hk)⟩
end
end Go.Proofs.YtfangplfbbgphaaGreatDoor
namespace Go.Proofs.YtfangplfbbgphaaGreatDoor
open Go.ChangeShapes Go.WideShapes Go.ChangeAt Go.RowKit
set_option linter.unusedVariables false
set_option maxRecDepth 100000
set_option linter.unusedSimpArgs false
attribute [local go_sem] Oper.semAt_some
theorem pairs_calls (n : Int) (w : World) : Calls Tryz.prog 38 #[.int .i64 n] w fun e w' =>
  e = .returned (.func (.func 66) #[] #[.pointer (some ⟨w.heap.size, 0, none⟩)]) ∧ w' = w.alloc (.cells #[.int .i64 n] 3) := by
 go_enter Tryz.func38, Tryz.ntmps38
 go_wp2
 go_ret
 exact ⟨rfl, rfl⟩
def prAt (n k : Nat) : Nat × Nat := (prs n).getD k (0, 0)
abbrev encP (n k : Nat) : Array Value := #[.agg #[.int .i64 ((prAt n k).1 : Int), .int .i64 ((prAt n k).2 : Int)]]
set_option maxRecDepth 100000 in
set_option maxHeartbeats 4000000 in
theorem pairs_seq {n₀ n Bt : Nat} {w : World} (h8 : n < 9) (hn : n₀ ≤ w.heap.size) :
  SeqK Tryz.prog 66 #[.pointer (some ⟨Bt, 0, none⟩)] (encP n) n₀ (prs n).length (fun W => W.heap[Bt]? = some (.cells #[.int .i64 (n : Int)] 3)) w := by
 intro lp J Jx W hW hJ hJx hKp hY h0
 obtain ⟨p0, pl, pa⟩ := pix_all h8
 have P0 := Lib.hid p0
 have PL := Lib.hid pl
 have PA := Lib.hid pa
 have KP := Lib.hid hKp
 clear p0 pl pa hKp
 have J0 : Hid (J (pix n 0 1) W) := Lib.hid (by rw [P0.out]; exact h0)
 have VB := Lib.hid (KP.out 0 W h0)
 have cB := blk_cell VB.out 0 (.int .i64 (n : Int)) rfl
 have lB := blk_lt VB.out
 clear h0 P0
 refine callsIn_of_wp Tryz.func66 rfl trivial ?_ rfl
 simp only [Tryz.ntmps66, List.size_toArray, List.length_cons, List.length_nil, Nat.reduceAdd, Nat.reduceSub, Array.replicate_succ, Array.replicate_zero, List.push_toArray, List.append_toArray, List.nil_append, List.cons_append]
 gi_wp2
 clear cB lB VB
 gi_loopw [6] (fun i wr => ∃ k : Nat, k ≤ n ∧ i = .int .i64 k ∧ Hid (J (pix n k (k + 1)) wr) ∧ Hid (Below n₀ W wr) ∧ Hid (W.heap.size ≤ wr.heap.size)) (fun i _ => n - (intOf i).toNat)
 case atStart => exact ⟨0, Nat.zero_le _, rfl, J0, Lib.hid (Below.refl _ _), Lib.hid (Nat.le_refl _)⟩
 case round =>
  clear J0
  obtain ⟨k, hk, rfl, hJs, hnx, hsz⟩ := hrel
  by_cases hlt : k < n
  ·have hlt' := Lib.hid hlt
   gi_wp2
   gi_loopw [4] (fun i wr => ∃ j : Nat, k + 1 ≤ j ∧ j ≤ n ∧ i = .int .i64 j ∧ Hid (J (pix n k j) wr) ∧ Hid (Below n₀ W wr) ∧ Hid (W.heap.size ≤ wr.heap.size)) (fun i _ => n - (intOf i).toNat)
   case atStart => exact ⟨k + 1, Nat.le_refl _, hlt, by simp, hJs, hnx, hsz⟩
   case round =>
    clear hJs hnx hsz
    obtain ⟨j, hj1, hj2, rfl, hJs, hnx, hsz⟩ := hrel
    have VB := Lib.hid (KP.out _ _ hJs.out)
    have cB := blk_cell VB.out 0 (.int .i64 (n : Int)) rfl
    have lB := blk_lt VB.out
    by_cases hjn : j < n
    ·obtain ⟨h1, h2⟩ := (PA.out k hlt'.out).2.2 j hjn (by omega)
     have hkl : pix n k j < (prs n).length := get_lt h1
     have hpa : prAt n (pix n k j) = (k, j) := by unfold prAt; rw [List.getD_eq_getElem?_getD, h1]; rfl
     obtain ⟨fn, tmps, assign, body, hy, hR⟩ := hY (pix n k j) _ hJs.out hkl
     dsimp only [encP] at hy
     rw [hpa] at hy
     have H2 := Lib.hid h2
     have HKL := Lib.hid hkl
     clear h1 h2 hpa hkl
     gi_wp2
     refine ⟨rfl, ?_⟩
     refine hR.mono ?_
     rintro e W3 (⟨rfl, hJ3, hk3⟩ | ⟨rfl, hJx3⟩)
     ·gi_wp2
      go_roundw
      case rel => exact ⟨j + 1, by omega, by omega, by simp, Lib.hid (by rw [H2.out]; exact hJ3), Lib.hid (hnx.out.trans hk3), Lib.hid (Nat.le_trans hsz.out hk3.size)⟩
      case measure => simp [intOf]; omega
     ·gi_wp2
      refine bodyPost_ret (results_none rfl _ _ _) rfl ?_
      exact ⟨⟨_, rfl⟩, .inr ⟨_, HKL.out, hJx3⟩⟩
    ·obtain rfl : j = n := by omega
     gi_wp2
     go_roundw
     case rel => exact ⟨k + 1, by have := hlt'.out; omega, by simp, Lib.hid (by rw [← (PA.out k hlt'.out).1]; exact hJs.out), hnx, hsz⟩
     case measure => have := hlt'.out; simp [intOf]; omega
  ·obtain rfl : k = n := by omega
   gi_wp2
   go_end0
   exact ⟨⟨_, rfl⟩, .inl (by rw [← PL.out]; exact hJs.out)⟩
end Go.Proofs.YtfangplfbbgphaaGreatDoor
