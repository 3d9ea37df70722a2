/- Contracts of layer 4: stations that are valid. -/
import Derived.Test.YtfangplfbbgphaaArq
import Derived.Test.YtfangplfbbgphaaArm
namespace Go.Proofs.Ytfangplfbbgphaa
open Go.ChangeShapes Go.WideShapes Go.ChangeAt Go.RowKit
set_option linter.unusedVariables false
set_option linter.unusedSimpArgs false
attribute [local go_sem ↓] Go.wp_at_zero Go.wp_at_succ

set_option maxRecDepth 100000 in
set_option maxHeartbeats 8000000 in
theorem refPlaced_calls (n d m k : Int) (w : World) : Calls Try.prog 40 #[Fv n d, Fv m k] w fun e w' => e = .returned (.bool (plB n d m k)) ∧ Below w.heap.size w w' := by
  have NN := Lib.hid (Below.refl w.heap.size w)
  have PS := Lib.hid (fun W => refparam_calls n d W)
  have PT := Lib.hid (fun W => refparam_calls m k W)
  have HP : Hid (plB n d m k = (prmB n d && (prmB m k && (decide (-d ≤ n) && decide (n ≤ d))))) := Lib.hid rfl
  generalize plB n d m k = r at *
  cases hs : prmB n d
  · rw [hs] at PS
    have HR : Hid (r = false) := Lib.hid (by rw [HP.out, hs]; rfl)
    clear hs
    go_enter Try.func40, Try.ntmps40
    go_upto_region 1 with fail
    have S : Hid (((w.alloc (.cells #[.int .i64 n, .int .i64 d] 34)).alloc (.cells #[.int .i64 m, .int .i64 k] 34)).heap[w.heap.size]? = some (.cells #[.int .i64 n, .int .i64 d] 34)) := Lib.hid (blk_alloc (blk_new w _) _)
    have T : Hid (((w.alloc (.cells #[.int .i64 n, .int .i64 d] 34)).alloc (.cells #[.int .i64 m, .int .i64 k] 34)).heap[w.heap.size + 1]? = some (.cells #[.int .i64 m, .int .i64 k] 34)) := Lib.hid (blk_at _ (by simp))
    replace NN : Hid (Below w.heap.size w ((w.alloc (.cells #[.int .i64 n, .int .i64 d] 34)).alloc (.cells #[.int .i64 m, .int .i64 k] 34))) := Lib.hid (Bal (Bal NN.out _) _)
    generalize ((w.alloc (.cells #[.int .i64 n, .int .i64 d] 34)).alloc (.cells #[.int .i64 m, .int .i64 k] 34)) = W1 at *
    have HDRW := Lib.hid (Below.drew (Below.refl W1.heap.size W1))
    replace NN := Lib.hid (Bgo NN.out HDRW.out)
    replace S := Lib.hid (blk_next HDRW.out S.out)
    replace T := Lib.hid (blk_next HDRW.out T.out)
    clear HDRW
    have HAL : Hid (∀ kx9 : Nat, GK [(0, w.heap.size, .cells #[.int .i64 n, .int .i64 d] 34)] kx9 W1.drew) := Lib.hid (fun kx9 px9 hp e => by
      simp only [List.mem_cons, List.not_mem_nil, or_false] at hp
      subst hp
      exact S.out)
    refine region_G (S := GK [(0, w.heap.size, .cells #[.int .i64 n, .int .i64 d] 34)]) (by kernel_rfl) ?_
    refine take_G 0 (.agg #[.int .i64 n, .int .i64 d]) (some 5) (GK.grow _) (by kernel_rfl) rfl (by kernel_rfl) (by kernel_rfl) (by kernel_rfl) rfl (fun _ _ _ h => h) (YieldsIf.toG (Or.inl ⟨by rfl, ?_⟩)) (HAL.out 0) ?_
    · intro X hX
      have hh := hX (0, w.heap.size, .cells #[.int .i64 n, .int .i64 d] 34) (List.Mem.head _) rfl
      have hh0 := blk_cell hh 0 _ rfl
      have hh1 := blk_cell hh 1 _ rfl
      have hhl := blk_lt hh
      clear hh
      clear hX
      go_simp
    try simp only [Act.put, List.setIfInBounds_toArray, List.set_cons_zero, List.set_cons_succ]
    have CFn : ∀ (args : Array Value) (W : World), Sem.run Try.prog (callFunc 57 args) W = .ok (.enter 57 args) W := fun _ _ => by kernel_rfl
    refine take_G 1 (.bool false) (some 6) (GK.grow _) (by kernel_rfl) rfl (by kernel_rfl) (by kernel_rfl) (by kernel_rfl) rfl (fun _ _ _ h => h) (yieldsG_call 57 #[.agg #[.int .i64 n, .int .i64 d]] (by rfl) ?_ (fun X hS => PS.out X)) (GK.drop (by simp)) ?_
    · intro X hX
      clear hX
      go_simp
    clear CFn
    try simp only [Act.put, List.setIfInBounds_toArray, List.set_cons_zero, List.set_cons_succ]
    refine take_G 2 (.bool false) (some 7) (GK.grow _) (by kernel_rfl) rfl (by kernel_rfl) (by kernel_rfl) (by kernel_rfl) rfl (fun _ _ _ h => h) (YieldsIf.toG (Or.inl ⟨by rfl, ?_⟩)) (GK.drop (by simp)) ?_
    · intro X hX
      clear hX
      go_simp
    try simp only [Act.put, List.setIfInBounds_toArray, List.set_cons_zero, List.set_cons_succ]
    refine take_G 3 (undef) (some 8) (GK.grow _) (by kernel_rfl) rfl (by kernel_rfl) (by kernel_rfl) (by kernel_rfl) rfl (fun _ _ _ h => h) (YieldsIf.toG (Or.inr ⟨by rfl, rfl⟩)) (GK.drop (by simp)) ?_
    try simp only [Act.put, List.setIfInBounds_toArray, List.set_cons_zero, List.set_cons_succ]
    refine take_G 4 (undef) (some 9) (GK.grow _) (by kernel_rfl) rfl (by kernel_rfl) (by kernel_rfl) (by kernel_rfl) rfl (fun _ _ _ h => h) (YieldsIf.toG (Or.inr ⟨by rfl, rfl⟩)) (GK.drop (by simp)) ?_
    try simp only [Act.put, List.setIfInBounds_toArray, List.set_cons_zero, List.set_cons_succ]
    refine take_G 5 (.bool false) (some 10) (GK.grow _) (by kernel_rfl) rfl (by kernel_rfl) (by kernel_rfl) (by kernel_rfl) rfl (fun _ _ _ h => h) (YieldsIf.toG (Or.inl ⟨by rfl, ?_⟩)) (GK.drop (by simp)) ?_
    · intro X hX
      clear hX
      go_simp
    try simp only [Act.put, List.setIfInBounds_toArray, List.set_cons_zero, List.set_cons_succ]
    refine take_G 6 (.bool false) (some 11) (GK.grow _) (by kernel_rfl) rfl (by kernel_rfl) (by kernel_rfl) (by kernel_rfl) rfl (fun _ _ _ h => h) (YieldsIf.toG (Or.inl ⟨by rfl, ?_⟩)) (GK.drop (by simp)) ?_
    · intro X hX
      clear hX
      go_simp
    try simp only [Act.put, List.setIfInBounds_toArray, List.set_cons_zero, List.set_cons_succ]
    refine take_G 7 (undef) (some 12) (GK.grow _) (by kernel_rfl) rfl (by kernel_rfl) (by kernel_rfl) (by kernel_rfl) rfl (fun _ _ _ h => h) (YieldsIf.toG (Or.inr ⟨by rfl, rfl⟩)) (GK.drop (by simp)) ?_
    try simp only [Act.put, List.setIfInBounds_toArray, List.set_cons_zero, List.set_cons_succ]
    refine take_G 8 (undef) (some 13) (GK.grow _) (by kernel_rfl) rfl (by kernel_rfl) (by kernel_rfl) (by kernel_rfl) rfl (fun _ _ _ h => h) (YieldsIf.toG (Or.inr ⟨by rfl, rfl⟩)) (GK.drop (by simp)) ?_
    try simp only [Act.put, List.setIfInBounds_toArray, List.set_cons_zero, List.set_cons_succ]
    refine take_G 9 (undef) (some 14) (GK.grow _) (by kernel_rfl) rfl (by kernel_rfl) (by kernel_rfl) (by kernel_rfl) rfl (fun _ _ _ h => h) (YieldsIf.toG (Or.inr ⟨by rfl, rfl⟩)) (GK.drop (by simp)) ?_
    try simp only [Act.put, List.setIfInBounds_toArray, List.set_cons_zero, List.set_cons_succ]
    refine take_G 10 (undef) (some 15) (GK.grow _) (by kernel_rfl) rfl (by kernel_rfl) (by kernel_rfl) (by kernel_rfl) rfl (fun _ _ _ h => h) (YieldsIf.toG (Or.inr ⟨by rfl, rfl⟩)) (GK.drop (by simp)) ?_
    try simp only [Act.put, List.setIfInBounds_toArray, List.set_cons_zero, List.set_cons_succ]
    refine take_G 11 (.bool false) (some 16) (GK.grow _) (by kernel_rfl) rfl (by kernel_rfl) (by kernel_rfl) (by kernel_rfl) rfl (fun _ _ _ h => h) (YieldsIf.toG (Or.inl ⟨by rfl, ?_⟩)) (GK.drop (by simp)) ?_
    · intro X hX
      clear hX
      go_simp
    try simp only [Act.put, List.setIfInBounds_toArray, List.set_cons_zero, List.set_cons_succ]
    refine take_G 12 (.bool false) (some 17) (GK.grow _) (by kernel_rfl) rfl (by kernel_rfl) (by kernel_rfl) (by kernel_rfl) rfl (fun _ _ _ h => h) (YieldsIf.toG (Or.inl ⟨by rfl, ?_⟩)) (GK.drop (by simp)) ?_
    · intro X hX
      clear hX
      go_simp
    try simp only [Act.put, List.setIfInBounds_toArray, List.set_cons_zero, List.set_cons_succ]
    refine take_G 13 (undef) (some 18) (GK.grow _) (by kernel_rfl) rfl (by kernel_rfl) (by kernel_rfl) (by kernel_rfl) rfl (fun _ _ _ h => h) (YieldsIf.toG (Or.inr ⟨by rfl, rfl⟩)) (GK.drop (by simp)) ?_
    try simp only [Act.put, List.setIfInBounds_toArray, List.set_cons_zero, List.set_cons_succ]
    refine take_G 14 (undef) (some 19) (GK.grow _) (by kernel_rfl) rfl (by kernel_rfl) (by kernel_rfl) (by kernel_rfl) rfl (fun _ _ _ h => h) (YieldsIf.toG (Or.inr ⟨by rfl, rfl⟩)) (GK.drop (by simp)) ?_
    try simp only [Act.put, List.setIfInBounds_toArray, List.set_cons_zero, List.set_cons_succ]
    refine take_G 15 (undef) (some 20) (GK.grow _) (by kernel_rfl) rfl (by kernel_rfl) (by kernel_rfl) (by kernel_rfl) rfl (fun _ _ _ h => h) (YieldsIf.toG (Or.inr ⟨by rfl, rfl⟩)) (GK.drop (by simp)) ?_
    try simp only [Act.put, List.setIfInBounds_toArray, List.set_cons_zero, List.set_cons_succ]
    refine take_G 16 (undef) (some 21) (GK.grow _) (by kernel_rfl) rfl (by kernel_rfl) (by kernel_rfl) (by kernel_rfl) rfl (fun _ _ _ h => h) (YieldsIf.toG (Or.inr ⟨by rfl, rfl⟩)) (GK.drop (by simp)) ?_
    try simp only [Act.put, List.setIfInBounds_toArray, List.set_cons_zero, List.set_cons_succ]
    refine take_G 17 (.bool false) (some 22) (GK.grow _) (by kernel_rfl) rfl (by kernel_rfl) (by kernel_rfl) (by kernel_rfl) rfl (fun _ _ _ h => h) (YieldsIf.toG (Or.inl ⟨by rfl, ?_⟩)) (GK.drop (by simp)) ?_
    · intro X hX
      clear hX
      go_simp
    try simp only [Act.put, List.setIfInBounds_toArray, List.set_cons_zero, List.set_cons_succ]
    refine take_G 18 (.bool false) (some 4) (GK.grow _) (by kernel_rfl) rfl (by kernel_rfl) (by kernel_rfl) (by kernel_rfl) rfl (fun _ _ _ h => h) (YieldsIf.toG (Or.inl ⟨by rfl, ?_⟩)) (GK.drop (by simp)) ?_
    · intro X hX
      clear hX
      go_simp
    try simp only [Act.put, List.setIfInBounds_toArray, List.set_cons_zero, List.set_cons_succ]
    clear HAL
    refine done_G (by kernel_rfl) (fun X2 hX => ?_) _
    replace NN := Lib.hid (Bgo NN.out hX)
    replace S := Lib.hid (blk_next hX S.out)
    replace T := Lib.hid (blk_next hX T.out)
    clear hX
    go_wp2_with fail
    go_ret
    exact ⟨ret_bool HR.out.symm, NN.out⟩
  · rw [hs] at PS
    obtain ⟨_, d1, d2, d3, d4⟩ := prm_facts hs
    cases ht : prmB m k
    · rw [ht] at PT
      have HR : Hid (r = false) := Lib.hid (by rw [HP.out, hs, ht]; rfl)
      clear hs ht d1 d2 d3 d4
      go_enter Try.func40, Try.ntmps40
      go_upto_region 1 with fail
      have S : Hid (((w.alloc (.cells #[.int .i64 n, .int .i64 d] 34)).alloc (.cells #[.int .i64 m, .int .i64 k] 34)).heap[w.heap.size]? = some (.cells #[.int .i64 n, .int .i64 d] 34)) := Lib.hid (blk_alloc (blk_new w _) _)
      have T : Hid (((w.alloc (.cells #[.int .i64 n, .int .i64 d] 34)).alloc (.cells #[.int .i64 m, .int .i64 k] 34)).heap[w.heap.size + 1]? = some (.cells #[.int .i64 m, .int .i64 k] 34)) := Lib.hid (blk_at _ (by simp))
      replace NN : Hid (Below w.heap.size w ((w.alloc (.cells #[.int .i64 n, .int .i64 d] 34)).alloc (.cells #[.int .i64 m, .int .i64 k] 34))) := Lib.hid (Bal (Bal NN.out _) _)
      generalize ((w.alloc (.cells #[.int .i64 n, .int .i64 d] 34)).alloc (.cells #[.int .i64 m, .int .i64 k] 34)) = W3 at *
      have HDRW := Lib.hid (Below.drew (Below.refl W3.heap.size W3))
      replace NN := Lib.hid (Bgo NN.out HDRW.out)
      replace S := Lib.hid (blk_next HDRW.out S.out)
      replace T := Lib.hid (blk_next HDRW.out T.out)
      clear HDRW
      have HAL : Hid (∀ kx9 : Nat, GK [(0, w.heap.size, .cells #[.int .i64 n, .int .i64 d] 34), (3, w.heap.size + 1, .cells #[.int .i64 m, .int .i64 k] 34)] kx9 W3.drew) := Lib.hid (fun kx9 px9 hp e => by
        simp only [List.mem_cons, List.not_mem_nil, or_false] at hp
        rcases hp with rfl | rfl
        · exact S.out
        · exact T.out)
      refine region_G (S := GK [(0, w.heap.size, .cells #[.int .i64 n, .int .i64 d] 34), (3, w.heap.size + 1, .cells #[.int .i64 m, .int .i64 k] 34)]) (by kernel_rfl) ?_
      refine take_G 0 (.agg #[.int .i64 n, .int .i64 d]) (some 5) (GK.grow _) (by kernel_rfl) rfl (by kernel_rfl) (by kernel_rfl) (by kernel_rfl) rfl (fun _ _ _ h => h) (YieldsIf.toG (Or.inl ⟨by rfl, ?_⟩)) (HAL.out 0) ?_
      · intro X hX
        have hh := hX (0, w.heap.size, .cells #[.int .i64 n, .int .i64 d] 34) (List.Mem.head _) rfl
        have hh0 := blk_cell hh 0 _ rfl
        have hh1 := blk_cell hh 1 _ rfl
        have hhl := blk_lt hh
        clear hh
        clear hX
        go_simp
      try simp only [Act.put, List.setIfInBounds_toArray, List.set_cons_zero, List.set_cons_succ]
      have CFn : ∀ (args : Array Value) (W : World), Sem.run Try.prog (callFunc 57 args) W = .ok (.enter 57 args) W := fun _ _ => by kernel_rfl
      refine take_G 1 (.bool true) (some 6) (GK.grow _) (by kernel_rfl) rfl (by kernel_rfl) (by kernel_rfl) (by kernel_rfl) rfl (fun _ _ _ h => h) (yieldsG_call 57 #[.agg #[.int .i64 n, .int .i64 d]] (by rfl) ?_ (fun X hS => PS.out X)) (GK.drop (by simp)) ?_
      · intro X hX
        clear hX
        go_simp
      clear CFn
      try simp only [Act.put, List.setIfInBounds_toArray, List.set_cons_zero, List.set_cons_succ]
      refine take_G 2 (.bool true) (some 7) (GK.grow _) (by kernel_rfl) rfl (by kernel_rfl) (by kernel_rfl) (by kernel_rfl) rfl (fun _ _ _ h => h) (YieldsIf.toG (Or.inl ⟨by rfl, ?_⟩)) (GK.drop (by simp)) ?_
      · intro X hX
        clear hX
        go_simp
      try simp only [Act.put, List.setIfInBounds_toArray, List.set_cons_zero, List.set_cons_succ]
      refine take_G 3 (.agg #[.int .i64 m, .int .i64 k]) (some 8) (GK.grow _) (by kernel_rfl) rfl (by kernel_rfl) (by kernel_rfl) (by kernel_rfl) rfl (fun _ _ _ h => h) (YieldsIf.toG (Or.inl ⟨by rfl, ?_⟩)) (HAL.out 3) ?_
      · intro X hX
        have hh := hX (3, w.heap.size + 1, .cells #[.int .i64 m, .int .i64 k] 34) (List.Mem.tail _ (List.Mem.head _)) rfl
        have hh0 := blk_cell hh 0 _ rfl
        have hh1 := blk_cell hh 1 _ rfl
        have hhl := blk_lt hh
        clear hh
        clear hX
        go_simp
      try simp only [Act.put, List.setIfInBounds_toArray, List.set_cons_zero, List.set_cons_succ]
      have CFn : ∀ (args : Array Value) (W : World), Sem.run Try.prog (callFunc 57 args) W = .ok (.enter 57 args) W := fun _ _ => by kernel_rfl
      refine take_G 4 (.bool false) (some 9) (GK.grow _) (by kernel_rfl) rfl (by kernel_rfl) (by kernel_rfl) (by kernel_rfl) rfl (fun _ _ _ h => h) (yieldsG_call 57 #[.agg #[.int .i64 m, .int .i64 k]] (by rfl) ?_ (fun X hS => PT.out X)) (GK.drop (by simp)) ?_
      · intro X hX
        clear hX
        go_simp
      clear CFn
      try simp only [Act.put, List.setIfInBounds_toArray, List.set_cons_zero, List.set_cons_succ]
      refine take_G 5 (.bool false) (some 10) (GK.grow _) (by kernel_rfl) rfl (by kernel_rfl) (by kernel_rfl) (by kernel_rfl) rfl (fun _ _ _ h => h) (YieldsIf.toG (Or.inl ⟨by rfl, ?_⟩)) (GK.drop (by simp)) ?_
      · intro X hX
        clear hX
        go_simp
      try simp only [Act.put, List.setIfInBounds_toArray, List.set_cons_zero, List.set_cons_succ]
      refine take_G 6 (.bool false) (some 11) (GK.grow _) (by kernel_rfl) rfl (by kernel_rfl) (by kernel_rfl) (by kernel_rfl) rfl (fun _ _ _ h => h) (YieldsIf.toG (Or.inl ⟨by rfl, ?_⟩)) (GK.drop (by simp)) ?_
      · intro X hX
        clear hX
        go_simp
      try simp only [Act.put, List.setIfInBounds_toArray, List.set_cons_zero, List.set_cons_succ]
      refine take_G 7 (undef) (some 12) (GK.grow _) (by kernel_rfl) rfl (by kernel_rfl) (by kernel_rfl) (by kernel_rfl) rfl (fun _ _ _ h => h) (YieldsIf.toG (Or.inr ⟨by rfl, rfl⟩)) (GK.drop (by simp)) ?_
      try simp only [Act.put, List.setIfInBounds_toArray, List.set_cons_zero, List.set_cons_succ]
      refine take_G 8 (undef) (some 13) (GK.grow _) (by kernel_rfl) rfl (by kernel_rfl) (by kernel_rfl) (by kernel_rfl) rfl (fun _ _ _ h => h) (YieldsIf.toG (Or.inr ⟨by rfl, rfl⟩)) (GK.drop (by simp)) ?_
      try simp only [Act.put, List.setIfInBounds_toArray, List.set_cons_zero, List.set_cons_succ]
      refine take_G 9 (undef) (some 14) (GK.grow _) (by kernel_rfl) rfl (by kernel_rfl) (by kernel_rfl) (by kernel_rfl) rfl (fun _ _ _ h => h) (YieldsIf.toG (Or.inr ⟨by rfl, rfl⟩)) (GK.drop (by simp)) ?_
      try simp only [Act.put, List.setIfInBounds_toArray, List.set_cons_zero, List.set_cons_succ]
      refine take_G 10 (undef) (some 15) (GK.grow _) (by kernel_rfl) rfl (by kernel_rfl) (by kernel_rfl) (by kernel_rfl) rfl (fun _ _ _ h => h) (YieldsIf.toG (Or.inr ⟨by rfl, rfl⟩)) (GK.drop (by simp)) ?_
      try simp only [Act.put, List.setIfInBounds_toArray, List.set_cons_zero, List.set_cons_succ]
      refine take_G 11 (.bool false) (some 16) (GK.grow _) (by kernel_rfl) rfl (by kernel_rfl) (by kernel_rfl) (by kernel_rfl) rfl (fun _ _ _ h => h) (YieldsIf.toG (Or.inl ⟨by rfl, ?_⟩)) (GK.drop (by simp)) ?_
      · intro X hX
        clear hX
        go_simp
      try simp only [Act.put, List.setIfInBounds_toArray, List.set_cons_zero, List.set_cons_succ]
      refine take_G 12 (.bool false) (some 17) (GK.grow _) (by kernel_rfl) rfl (by kernel_rfl) (by kernel_rfl) (by kernel_rfl) rfl (fun _ _ _ h => h) (YieldsIf.toG (Or.inl ⟨by rfl, ?_⟩)) (GK.drop (by simp)) ?_
      · intro X hX
        clear hX
        go_simp
      try simp only [Act.put, List.setIfInBounds_toArray, List.set_cons_zero, List.set_cons_succ]
      refine take_G 13 (undef) (some 18) (GK.grow _) (by kernel_rfl) rfl (by kernel_rfl) (by kernel_rfl) (by kernel_rfl) rfl (fun _ _ _ h => h) (YieldsIf.toG (Or.inr ⟨by rfl, rfl⟩)) (GK.drop (by simp)) ?_
      try simp only [Act.put, List.setIfInBounds_toArray, List.set_cons_zero, List.set_cons_succ]
      refine take_G 14 (undef) (some 19) (GK.grow _) (by kernel_rfl) rfl (by kernel_rfl) (by kernel_rfl) (by kernel_rfl) rfl (fun _ _ _ h => h) (YieldsIf.toG (Or.inr ⟨by rfl, rfl⟩)) (GK.drop (by simp)) ?_
      try simp only [Act.put, List.setIfInBounds_toArray, List.set_cons_zero, List.set_cons_succ]
      refine take_G 15 (undef) (some 20) (GK.grow _) (by kernel_rfl) rfl (by kernel_rfl) (by kernel_rfl) (by kernel_rfl) rfl (fun _ _ _ h => h) (YieldsIf.toG (Or.inr ⟨by rfl, rfl⟩)) (GK.drop (by simp)) ?_
      try simp only [Act.put, List.setIfInBounds_toArray, List.set_cons_zero, List.set_cons_succ]
      refine take_G 16 (undef) (some 21) (GK.grow _) (by kernel_rfl) rfl (by kernel_rfl) (by kernel_rfl) (by kernel_rfl) rfl (fun _ _ _ h => h) (YieldsIf.toG (Or.inr ⟨by rfl, rfl⟩)) (GK.drop (by simp)) ?_
      try simp only [Act.put, List.setIfInBounds_toArray, List.set_cons_zero, List.set_cons_succ]
      refine take_G 17 (.bool false) (some 22) (GK.grow _) (by kernel_rfl) rfl (by kernel_rfl) (by kernel_rfl) (by kernel_rfl) rfl (fun _ _ _ h => h) (YieldsIf.toG (Or.inl ⟨by rfl, ?_⟩)) (GK.drop (by simp)) ?_
      · intro X hX
        clear hX
        go_simp
      try simp only [Act.put, List.setIfInBounds_toArray, List.set_cons_zero, List.set_cons_succ]
      refine take_G 18 (.bool false) (some 4) (GK.grow _) (by kernel_rfl) rfl (by kernel_rfl) (by kernel_rfl) (by kernel_rfl) rfl (fun _ _ _ h => h) (YieldsIf.toG (Or.inl ⟨by rfl, ?_⟩)) (GK.drop (by simp)) ?_
      · intro X hX
        clear hX
        go_simp
      try simp only [Act.put, List.setIfInBounds_toArray, List.set_cons_zero, List.set_cons_succ]
      clear HAL
      refine done_G (by kernel_rfl) (fun X4 hX => ?_) _
      replace NN := Lib.hid (Bgo NN.out hX)
      replace S := Lib.hid (blk_next hX S.out)
      replace T := Lib.hid (blk_next hX T.out)
      clear hX
      go_wp2_with fail
      go_ret
      exact ⟨ret_bool HR.out.symm, NN.out⟩
    · rw [ht] at PT
      have L1 := Lib.hid (fun W => refLess_calls 1 1 n d W (by omega) (by omega) (by omega) (by omega) (by omega) (by omega) (by omega) (by omega))
      have L2 := Lib.hid (fun W => refLess_calls n d (-1) 1 W (by omega) (by omega) (by omega) (by omega) (by omega) (by omega) (by omega) (by omega))
      have hc : d < n ∨ (n ≤ d ∧ n < -d) ∨ (n ≤ d ∧ -d ≤ n) := by omega
      rcases hc with h | ⟨h, h'⟩ | ⟨h, h'⟩
      · rw [decide_eq_true (by omega : (1 : Int) * d < n * 1)] at L1
        have HR : Hid (r = false) := Lib.hid (by rw [HP.out, hs, ht, decide_eq_false (by omega : ¬ n ≤ d), Bool.and_false, Bool.and_false, Bool.and_false])
        clear hs ht d1 d2 d3 d4 h L2
        go_enter Try.func40, Try.ntmps40
        go_upto_region 1 with fail
        have S : Hid (((w.alloc (.cells #[.int .i64 n, .int .i64 d] 34)).alloc (.cells #[.int .i64 m, .int .i64 k] 34)).heap[w.heap.size]? = some (.cells #[.int .i64 n, .int .i64 d] 34)) := Lib.hid (blk_alloc (blk_new w _) _)
        have T : Hid (((w.alloc (.cells #[.int .i64 n, .int .i64 d] 34)).alloc (.cells #[.int .i64 m, .int .i64 k] 34)).heap[w.heap.size + 1]? = some (.cells #[.int .i64 m, .int .i64 k] 34)) := Lib.hid (blk_at _ (by simp))
        replace NN : Hid (Below w.heap.size w ((w.alloc (.cells #[.int .i64 n, .int .i64 d] 34)).alloc (.cells #[.int .i64 m, .int .i64 k] 34))) := Lib.hid (Bal (Bal NN.out _) _)
        generalize ((w.alloc (.cells #[.int .i64 n, .int .i64 d] 34)).alloc (.cells #[.int .i64 m, .int .i64 k] 34)) = W5 at *
        have HDRW := Lib.hid (Below.drew (Below.refl W5.heap.size W5))
        replace NN := Lib.hid (Bgo NN.out HDRW.out)
        replace S := Lib.hid (blk_next HDRW.out S.out)
        replace T := Lib.hid (blk_next HDRW.out T.out)
        clear HDRW
        have HAL : Hid (∀ kx9 : Nat, GK [(0, w.heap.size, .cells #[.int .i64 n, .int .i64 d] 34), (3, w.heap.size + 1, .cells #[.int .i64 m, .int .i64 k] 34), (8, w.heap.size, .cells #[.int .i64 n, .int .i64 d] 34)] kx9 W5.drew) := Lib.hid (fun kx9 px9 hp e => by
          simp only [List.mem_cons, List.not_mem_nil, or_false] at hp
          rcases hp with rfl | rfl | rfl
          · exact S.out
          · exact T.out
          · exact S.out)
        refine region_G (S := GK [(0, w.heap.size, .cells #[.int .i64 n, .int .i64 d] 34), (3, w.heap.size + 1, .cells #[.int .i64 m, .int .i64 k] 34), (8, w.heap.size, .cells #[.int .i64 n, .int .i64 d] 34)]) (by kernel_rfl) ?_
        refine take_G 0 (.agg #[.int .i64 n, .int .i64 d]) (some 5) (GK.grow _) (by kernel_rfl) rfl (by kernel_rfl) (by kernel_rfl) (by kernel_rfl) rfl (fun _ _ _ h => h) (YieldsIf.toG (Or.inl ⟨by rfl, ?_⟩)) (HAL.out 0) ?_
        · intro X hX
          have hh := hX (0, w.heap.size, .cells #[.int .i64 n, .int .i64 d] 34) (List.Mem.head _) rfl
          have hh0 := blk_cell hh 0 _ rfl
          have hh1 := blk_cell hh 1 _ rfl
          have hhl := blk_lt hh
          clear hh
          clear hX
          go_simp
        try simp only [Act.put, List.setIfInBounds_toArray, List.set_cons_zero, List.set_cons_succ]
        have CFn : ∀ (args : Array Value) (W : World), Sem.run Try.prog (callFunc 57 args) W = .ok (.enter 57 args) W := fun _ _ => by kernel_rfl
        refine take_G 1 (.bool true) (some 6) (GK.grow _) (by kernel_rfl) rfl (by kernel_rfl) (by kernel_rfl) (by kernel_rfl) rfl (fun _ _ _ h => h) (yieldsG_call 57 #[.agg #[.int .i64 n, .int .i64 d]] (by rfl) ?_ (fun X hS => PS.out X)) (GK.drop (by simp)) ?_
        · intro X hX
          clear hX
          go_simp
        clear CFn
        try simp only [Act.put, List.setIfInBounds_toArray, List.set_cons_zero, List.set_cons_succ]
        refine take_G 2 (.bool true) (some 7) (GK.grow _) (by kernel_rfl) rfl (by kernel_rfl) (by kernel_rfl) (by kernel_rfl) rfl (fun _ _ _ h => h) (YieldsIf.toG (Or.inl ⟨by rfl, ?_⟩)) (GK.drop (by simp)) ?_
        · intro X hX
          clear hX
          go_simp
        try simp only [Act.put, List.setIfInBounds_toArray, List.set_cons_zero, List.set_cons_succ]
        refine take_G 3 (.agg #[.int .i64 m, .int .i64 k]) (some 8) (GK.grow _) (by kernel_rfl) rfl (by kernel_rfl) (by kernel_rfl) (by kernel_rfl) rfl (fun _ _ _ h => h) (YieldsIf.toG (Or.inl ⟨by rfl, ?_⟩)) (HAL.out 3) ?_
        · intro X hX
          have hh := hX (3, w.heap.size + 1, .cells #[.int .i64 m, .int .i64 k] 34) (List.Mem.tail _ (List.Mem.head _)) rfl
          have hh0 := blk_cell hh 0 _ rfl
          have hh1 := blk_cell hh 1 _ rfl
          have hhl := blk_lt hh
          clear hh
          clear hX
          go_simp
        try simp only [Act.put, List.setIfInBounds_toArray, List.set_cons_zero, List.set_cons_succ]
        have CFn : ∀ (args : Array Value) (W : World), Sem.run Try.prog (callFunc 57 args) W = .ok (.enter 57 args) W := fun _ _ => by kernel_rfl
        refine take_G 4 (.bool true) (some 9) (GK.grow _) (by kernel_rfl) rfl (by kernel_rfl) (by kernel_rfl) (by kernel_rfl) rfl (fun _ _ _ h => h) (yieldsG_call 57 #[.agg #[.int .i64 m, .int .i64 k]] (by rfl) ?_ (fun X hS => PT.out X)) (GK.drop (by simp)) ?_
        · intro X hX
          clear hX
          go_simp
        clear CFn
        try simp only [Act.put, List.setIfInBounds_toArray, List.set_cons_zero, List.set_cons_succ]
        refine take_G 5 (.bool true) (some 10) (GK.grow _) (by kernel_rfl) rfl (by kernel_rfl) (by kernel_rfl) (by kernel_rfl) rfl (fun _ _ _ h => h) (YieldsIf.toG (Or.inl ⟨by rfl, ?_⟩)) (GK.drop (by simp)) ?_
        · intro X hX
          clear hX
          go_simp
        try simp only [Act.put, List.setIfInBounds_toArray, List.set_cons_zero, List.set_cons_succ]
        refine take_G 6 (.bool true) (some 11) (GK.grow _) (by kernel_rfl) rfl (by kernel_rfl) (by kernel_rfl) (by kernel_rfl) rfl (fun _ _ _ h => h) (YieldsIf.toG (Or.inl ⟨by rfl, ?_⟩)) (GK.drop (by simp)) ?_
        · intro X hX
          clear hX
          go_simp
        try simp only [Act.put, List.setIfInBounds_toArray, List.set_cons_zero, List.set_cons_succ]
        have CFn : ∀ (args : Array Value) (W : World), Sem.run Try.prog (callFunc 59 args) W = .ok (.enter 59 args) W := fun _ _ => by kernel_rfl
        refine take_G 7 (.agg #[.int .i64 1, .int .i64 1]) (some 12) (GK.grow _) (by kernel_rfl) rfl (by kernel_rfl) (by kernel_rfl) (by kernel_rfl) rfl (fun _ _ _ h => h) (yieldsG_call 59 #[] (by rfl) ?_ (fun X hS => refOne_calls X)) (GK.drop (by simp)) ?_
        · intro X hX
          clear hX
          go_simp
        clear CFn
        try simp only [Act.put, List.setIfInBounds_toArray, List.set_cons_zero, List.set_cons_succ]
        refine take_G 8 (.agg #[.int .i64 n, .int .i64 d]) (some 13) (GK.grow _) (by kernel_rfl) rfl (by kernel_rfl) (by kernel_rfl) (by kernel_rfl) rfl (fun _ _ _ h => h) (YieldsIf.toG (Or.inl ⟨by rfl, ?_⟩)) (HAL.out 8) ?_
        · intro X hX
          have hh := hX (8, w.heap.size, .cells #[.int .i64 n, .int .i64 d] 34) (List.Mem.tail _ (List.Mem.tail _ (List.Mem.head _))) rfl
          have hh0 := blk_cell hh 0 _ rfl
          have hh1 := blk_cell hh 1 _ rfl
          have hhl := blk_lt hh
          clear hh
          clear hX
          go_simp
        try simp only [Act.put, List.setIfInBounds_toArray, List.set_cons_zero, List.set_cons_succ]
        have CFn : ∀ (args : Array Value) (W : World), Sem.run Try.prog (callFunc 58 args) W = .ok (.enter 58 args) W := fun _ _ => by kernel_rfl
        refine take_G 9 (.bool true) (some 14) (GK.grow _) (by kernel_rfl) rfl (by kernel_rfl) (by kernel_rfl) (by kernel_rfl) rfl (fun _ _ _ h => h) (yieldsG_call 58 #[.agg #[.int .i64 1, .int .i64 1], .agg #[.int .i64 n, .int .i64 d]] (by rfl) ?_ (fun X hS => L1.out X)) (GK.drop (by simp)) ?_
        · intro X hX
          clear hX
          go_simp
        clear CFn
        try simp only [Act.put, List.setIfInBounds_toArray, List.set_cons_zero, List.set_cons_succ]
        refine take_G 10 (.bool false) (some 15) (GK.grow _) (by kernel_rfl) rfl (by kernel_rfl) (by kernel_rfl) (by kernel_rfl) rfl (fun _ _ _ h => h) (YieldsIf.toG (Or.inl ⟨by rfl, ?_⟩)) (GK.drop (by simp)) ?_
        · intro X hX
          clear hX
          go_simp
        try simp only [Act.put, List.setIfInBounds_toArray, List.set_cons_zero, List.set_cons_succ]
        refine take_G 11 (.bool false) (some 16) (GK.grow _) (by kernel_rfl) rfl (by kernel_rfl) (by kernel_rfl) (by kernel_rfl) rfl (fun _ _ _ h => h) (YieldsIf.toG (Or.inl ⟨by rfl, ?_⟩)) (GK.drop (by simp)) ?_
        · intro X hX
          clear hX
          go_simp
        try simp only [Act.put, List.setIfInBounds_toArray, List.set_cons_zero, List.set_cons_succ]
        refine take_G 12 (.bool false) (some 17) (GK.grow _) (by kernel_rfl) rfl (by kernel_rfl) (by kernel_rfl) (by kernel_rfl) rfl (fun _ _ _ h => h) (YieldsIf.toG (Or.inl ⟨by rfl, ?_⟩)) (GK.drop (by simp)) ?_
        · intro X hX
          clear hX
          go_simp
        try simp only [Act.put, List.setIfInBounds_toArray, List.set_cons_zero, List.set_cons_succ]
        refine take_G 13 (undef) (some 18) (GK.grow _) (by kernel_rfl) rfl (by kernel_rfl) (by kernel_rfl) (by kernel_rfl) rfl (fun _ _ _ h => h) (YieldsIf.toG (Or.inr ⟨by rfl, rfl⟩)) (GK.drop (by simp)) ?_
        try simp only [Act.put, List.setIfInBounds_toArray, List.set_cons_zero, List.set_cons_succ]
        refine take_G 14 (undef) (some 19) (GK.grow _) (by kernel_rfl) rfl (by kernel_rfl) (by kernel_rfl) (by kernel_rfl) rfl (fun _ _ _ h => h) (YieldsIf.toG (Or.inr ⟨by rfl, rfl⟩)) (GK.drop (by simp)) ?_
        try simp only [Act.put, List.setIfInBounds_toArray, List.set_cons_zero, List.set_cons_succ]
        refine take_G 15 (undef) (some 20) (GK.grow _) (by kernel_rfl) rfl (by kernel_rfl) (by kernel_rfl) (by kernel_rfl) rfl (fun _ _ _ h => h) (YieldsIf.toG (Or.inr ⟨by rfl, rfl⟩)) (GK.drop (by simp)) ?_
        try simp only [Act.put, List.setIfInBounds_toArray, List.set_cons_zero, List.set_cons_succ]
        refine take_G 16 (undef) (some 21) (GK.grow _) (by kernel_rfl) rfl (by kernel_rfl) (by kernel_rfl) (by kernel_rfl) rfl (fun _ _ _ h => h) (YieldsIf.toG (Or.inr ⟨by rfl, rfl⟩)) (GK.drop (by simp)) ?_
        try simp only [Act.put, List.setIfInBounds_toArray, List.set_cons_zero, List.set_cons_succ]
        refine take_G 17 (.bool false) (some 22) (GK.grow _) (by kernel_rfl) rfl (by kernel_rfl) (by kernel_rfl) (by kernel_rfl) rfl (fun _ _ _ h => h) (YieldsIf.toG (Or.inl ⟨by rfl, ?_⟩)) (GK.drop (by simp)) ?_
        · intro X hX
          clear hX
          go_simp
        try simp only [Act.put, List.setIfInBounds_toArray, List.set_cons_zero, List.set_cons_succ]
        refine take_G 18 (.bool false) (some 4) (GK.grow _) (by kernel_rfl) rfl (by kernel_rfl) (by kernel_rfl) (by kernel_rfl) rfl (fun _ _ _ h => h) (YieldsIf.toG (Or.inl ⟨by rfl, ?_⟩)) (GK.drop (by simp)) ?_
        · intro X hX
          clear hX
          go_simp
        try simp only [Act.put, List.setIfInBounds_toArray, List.set_cons_zero, List.set_cons_succ]
        clear HAL
        refine done_G (by kernel_rfl) (fun X6 hX => ?_) _
        replace NN := Lib.hid (Bgo NN.out hX)
        replace S := Lib.hid (blk_next hX S.out)
        replace T := Lib.hid (blk_next hX T.out)
        clear hX
        go_wp2_with fail
        go_ret
        exact ⟨ret_bool HR.out.symm, NN.out⟩
      · rw [decide_eq_false (by omega : ¬ (1 : Int) * d < n * 1)] at L1
        rw [decide_eq_true (by omega : n * 1 < (-1 : Int) * d)] at L2
        have HR : Hid (r = false) := Lib.hid (by rw [HP.out, hs, ht, decide_eq_false (by omega : ¬ -d ≤ n)]; rfl)
        clear hs ht d1 d2 d3 d4 h h'
        go_enter Try.func40, Try.ntmps40
        go_upto_region 1 with fail
        have S : Hid (((w.alloc (.cells #[.int .i64 n, .int .i64 d] 34)).alloc (.cells #[.int .i64 m, .int .i64 k] 34)).heap[w.heap.size]? = some (.cells #[.int .i64 n, .int .i64 d] 34)) := Lib.hid (blk_alloc (blk_new w _) _)
        have T : Hid (((w.alloc (.cells #[.int .i64 n, .int .i64 d] 34)).alloc (.cells #[.int .i64 m, .int .i64 k] 34)).heap[w.heap.size + 1]? = some (.cells #[.int .i64 m, .int .i64 k] 34)) := Lib.hid (blk_at _ (by simp))
        replace NN : Hid (Below w.heap.size w ((w.alloc (.cells #[.int .i64 n, .int .i64 d] 34)).alloc (.cells #[.int .i64 m, .int .i64 k] 34))) := Lib.hid (Bal (Bal NN.out _) _)
        generalize ((w.alloc (.cells #[.int .i64 n, .int .i64 d] 34)).alloc (.cells #[.int .i64 m, .int .i64 k] 34)) = W7 at *
        have HDRW := Lib.hid (Below.drew (Below.refl W7.heap.size W7))
        replace NN := Lib.hid (Bgo NN.out HDRW.out)
        replace S := Lib.hid (blk_next HDRW.out S.out)
        replace T := Lib.hid (blk_next HDRW.out T.out)
        clear HDRW
        have HAL : Hid (∀ kx9 : Nat, GK [(0, w.heap.size, .cells #[.int .i64 n, .int .i64 d] 34), (3, w.heap.size + 1, .cells #[.int .i64 m, .int .i64 k] 34), (8, w.heap.size, .cells #[.int .i64 n, .int .i64 d] 34), (13, w.heap.size, .cells #[.int .i64 n, .int .i64 d] 34)] kx9 W7.drew) := Lib.hid (fun kx9 px9 hp e => by
          simp only [List.mem_cons, List.not_mem_nil, or_false] at hp
          rcases hp with rfl | rfl | rfl | rfl
          · exact S.out
          · exact T.out
          · exact S.out
          · exact S.out)
        refine region_G (S := GK [(0, w.heap.size, .cells #[.int .i64 n, .int .i64 d] 34), (3, w.heap.size + 1, .cells #[.int .i64 m, .int .i64 k] 34), (8, w.heap.size, .cells #[.int .i64 n, .int .i64 d] 34), (13, w.heap.size, .cells #[.int .i64 n, .int .i64 d] 34)]) (by kernel_rfl) ?_
        refine take_G 0 (.agg #[.int .i64 n, .int .i64 d]) (some 5) (GK.grow _) (by kernel_rfl) rfl (by kernel_rfl) (by kernel_rfl) (by kernel_rfl) rfl (fun _ _ _ h => h) (YieldsIf.toG (Or.inl ⟨by rfl, ?_⟩)) (HAL.out 0) ?_
        · intro X hX
          have hh := hX (0, w.heap.size, .cells #[.int .i64 n, .int .i64 d] 34) (List.Mem.head _) rfl
          have hh0 := blk_cell hh 0 _ rfl
          have hh1 := blk_cell hh 1 _ rfl
          have hhl := blk_lt hh
          clear hh
          clear hX
          go_simp
        try simp only [Act.put, List.setIfInBounds_toArray, List.set_cons_zero, List.set_cons_succ]
        have CFn : ∀ (args : Array Value) (W : World), Sem.run Try.prog (callFunc 57 args) W = .ok (.enter 57 args) W := fun _ _ => by kernel_rfl
        refine take_G 1 (.bool true) (some 6) (GK.grow _) (by kernel_rfl) rfl (by kernel_rfl) (by kernel_rfl) (by kernel_rfl) rfl (fun _ _ _ h => h) (yieldsG_call 57 #[.agg #[.int .i64 n, .int .i64 d]] (by rfl) ?_ (fun X hS => PS.out X)) (GK.drop (by simp)) ?_
        · intro X hX
          clear hX
          go_simp
        clear CFn
        try simp only [Act.put, List.setIfInBounds_toArray, List.set_cons_zero, List.set_cons_succ]
        refine take_G 2 (.bool true) (some 7) (GK.grow _) (by kernel_rfl) rfl (by kernel_rfl) (by kernel_rfl) (by kernel_rfl) rfl (fun _ _ _ h => h) (YieldsIf.toG (Or.inl ⟨by rfl, ?_⟩)) (GK.drop (by simp)) ?_
        · intro X hX
          clear hX
          go_simp
        try simp only [Act.put, List.setIfInBounds_toArray, List.set_cons_zero, List.set_cons_succ]
        refine take_G 3 (.agg #[.int .i64 m, .int .i64 k]) (some 8) (GK.grow _) (by kernel_rfl) rfl (by kernel_rfl) (by kernel_rfl) (by kernel_rfl) rfl (fun _ _ _ h => h) (YieldsIf.toG (Or.inl ⟨by rfl, ?_⟩)) (HAL.out 3) ?_
        · intro X hX
          have hh := hX (3, w.heap.size + 1, .cells #[.int .i64 m, .int .i64 k] 34) (List.Mem.tail _ (List.Mem.head _)) rfl
          have hh0 := blk_cell hh 0 _ rfl
          have hh1 := blk_cell hh 1 _ rfl
          have hhl := blk_lt hh
          clear hh
          clear hX
          go_simp
        try simp only [Act.put, List.setIfInBounds_toArray, List.set_cons_zero, List.set_cons_succ]
        have CFn : ∀ (args : Array Value) (W : World), Sem.run Try.prog (callFunc 57 args) W = .ok (.enter 57 args) W := fun _ _ => by kernel_rfl
        refine take_G 4 (.bool true) (some 9) (GK.grow _) (by kernel_rfl) rfl (by kernel_rfl) (by kernel_rfl) (by kernel_rfl) rfl (fun _ _ _ h => h) (yieldsG_call 57 #[.agg #[.int .i64 m, .int .i64 k]] (by rfl) ?_ (fun X hS => PT.out X)) (GK.drop (by simp)) ?_
        · intro X hX
          clear hX
          go_simp
        clear CFn
        try simp only [Act.put, List.setIfInBounds_toArray, List.set_cons_zero, List.set_cons_succ]
        refine take_G 5 (.bool true) (some 10) (GK.grow _) (by kernel_rfl) rfl (by kernel_rfl) (by kernel_rfl) (by kernel_rfl) rfl (fun _ _ _ h => h) (YieldsIf.toG (Or.inl ⟨by rfl, ?_⟩)) (GK.drop (by simp)) ?_
        · intro X hX
          clear hX
          go_simp
        try simp only [Act.put, List.setIfInBounds_toArray, List.set_cons_zero, List.set_cons_succ]
        refine take_G 6 (.bool true) (some 11) (GK.grow _) (by kernel_rfl) rfl (by kernel_rfl) (by kernel_rfl) (by kernel_rfl) rfl (fun _ _ _ h => h) (YieldsIf.toG (Or.inl ⟨by rfl, ?_⟩)) (GK.drop (by simp)) ?_
        · intro X hX
          clear hX
          go_simp
        try simp only [Act.put, List.setIfInBounds_toArray, List.set_cons_zero, List.set_cons_succ]
        have CFn : ∀ (args : Array Value) (W : World), Sem.run Try.prog (callFunc 59 args) W = .ok (.enter 59 args) W := fun _ _ => by kernel_rfl
        refine take_G 7 (.agg #[.int .i64 1, .int .i64 1]) (some 12) (GK.grow _) (by kernel_rfl) rfl (by kernel_rfl) (by kernel_rfl) (by kernel_rfl) rfl (fun _ _ _ h => h) (yieldsG_call 59 #[] (by rfl) ?_ (fun X hS => refOne_calls X)) (GK.drop (by simp)) ?_
        · intro X hX
          clear hX
          go_simp
        clear CFn
        try simp only [Act.put, List.setIfInBounds_toArray, List.set_cons_zero, List.set_cons_succ]
        refine take_G 8 (.agg #[.int .i64 n, .int .i64 d]) (some 13) (GK.grow _) (by kernel_rfl) rfl (by kernel_rfl) (by kernel_rfl) (by kernel_rfl) rfl (fun _ _ _ h => h) (YieldsIf.toG (Or.inl ⟨by rfl, ?_⟩)) (HAL.out 8) ?_
        · intro X hX
          have hh := hX (8, w.heap.size, .cells #[.int .i64 n, .int .i64 d] 34) (List.Mem.tail _ (List.Mem.tail _ (List.Mem.head _))) rfl
          have hh0 := blk_cell hh 0 _ rfl
          have hh1 := blk_cell hh 1 _ rfl
          have hhl := blk_lt hh
          clear hh
          clear hX
          go_simp
        try simp only [Act.put, List.setIfInBounds_toArray, List.set_cons_zero, List.set_cons_succ]
        have CFn : ∀ (args : Array Value) (W : World), Sem.run Try.prog (callFunc 58 args) W = .ok (.enter 58 args) W := fun _ _ => by kernel_rfl
        refine take_G 9 (.bool false) (some 14) (GK.grow _) (by kernel_rfl) rfl (by kernel_rfl) (by kernel_rfl) (by kernel_rfl) rfl (fun _ _ _ h => h) (yieldsG_call 58 #[.agg #[.int .i64 1, .int .i64 1], .agg #[.int .i64 n, .int .i64 d]] (by rfl) ?_ (fun X hS => L1.out X)) (GK.drop (by simp)) ?_
        · intro X hX
          clear hX
          go_simp
        clear CFn
        try simp only [Act.put, List.setIfInBounds_toArray, List.set_cons_zero, List.set_cons_succ]
        refine take_G 10 (.bool true) (some 15) (GK.grow _) (by kernel_rfl) rfl (by kernel_rfl) (by kernel_rfl) (by kernel_rfl) rfl (fun _ _ _ h => h) (YieldsIf.toG (Or.inl ⟨by rfl, ?_⟩)) (GK.drop (by simp)) ?_
        · intro X hX
          clear hX
          go_simp
        try simp only [Act.put, List.setIfInBounds_toArray, List.set_cons_zero, List.set_cons_succ]
        refine take_G 11 (.bool true) (some 16) (GK.grow _) (by kernel_rfl) rfl (by kernel_rfl) (by kernel_rfl) (by kernel_rfl) rfl (fun _ _ _ h => h) (YieldsIf.toG (Or.inl ⟨by rfl, ?_⟩)) (GK.drop (by simp)) ?_
        · intro X hX
          clear hX
          go_simp
        try simp only [Act.put, List.setIfInBounds_toArray, List.set_cons_zero, List.set_cons_succ]
        refine take_G 12 (.bool true) (some 17) (GK.grow _) (by kernel_rfl) rfl (by kernel_rfl) (by kernel_rfl) (by kernel_rfl) rfl (fun _ _ _ h => h) (YieldsIf.toG (Or.inl ⟨by rfl, ?_⟩)) (GK.drop (by simp)) ?_
        · intro X hX
          clear hX
          go_simp
        try simp only [Act.put, List.setIfInBounds_toArray, List.set_cons_zero, List.set_cons_succ]
        refine take_G 13 (.agg #[.int .i64 n, .int .i64 d]) (some 18) (GK.grow _) (by kernel_rfl) rfl (by kernel_rfl) (by kernel_rfl) (by kernel_rfl) rfl (fun _ _ _ h => h) (YieldsIf.toG (Or.inl ⟨by rfl, ?_⟩)) (HAL.out 13) ?_
        · intro X hX
          have hh := hX (13, w.heap.size, .cells #[.int .i64 n, .int .i64 d] 34) (List.Mem.tail _ (List.Mem.tail _ (List.Mem.tail _ (List.Mem.head _)))) rfl
          have hh0 := blk_cell hh 0 _ rfl
          have hh1 := blk_cell hh 1 _ rfl
          have hhl := blk_lt hh
          clear hh
          clear hX
          go_simp
        try simp only [Act.put, List.setIfInBounds_toArray, List.set_cons_zero, List.set_cons_succ]
        have CFn : ∀ (args : Array Value) (W : World), Sem.run Try.prog (callFunc 48 args) W = .ok (.enter 48 args) W := fun _ _ => by kernel_rfl
        refine take_G 14 (.agg #[.int .i64 (-1), .int .i64 1]) (some 19) (GK.grow _) (by kernel_rfl) rfl (by kernel_rfl) (by kernel_rfl) (by kernel_rfl) rfl (fun _ _ _ h => h) (yieldsG_call 48 #[.int .i64 (-1)] (by rfl) ?_ (fun X hS => refOf_calls (-1) X)) (GK.drop (by simp)) ?_
        · intro X hX
          clear hX
          go_simp
        clear CFn
        try simp only [Act.put, List.setIfInBounds_toArray, List.set_cons_zero, List.set_cons_succ]
        have CFn : ∀ (args : Array Value) (W : World), Sem.run Try.prog (callFunc 58 args) W = .ok (.enter 58 args) W := fun _ _ => by kernel_rfl
        refine take_G 15 (.bool true) (some 20) (GK.grow _) (by kernel_rfl) rfl (by kernel_rfl) (by kernel_rfl) (by kernel_rfl) rfl (fun _ _ _ h => h) (yieldsG_call 58 #[.agg #[.int .i64 n, .int .i64 d], .agg #[.int .i64 (-1), .int .i64 1]] (by rfl) ?_ (fun X hS => L2.out X)) (GK.drop (by simp)) ?_
        · intro X hX
          clear hX
          go_simp
        clear CFn
        try simp only [Act.put, List.setIfInBounds_toArray, List.set_cons_zero, List.set_cons_succ]
        refine take_G 16 (.bool false) (some 21) (GK.grow _) (by kernel_rfl) rfl (by kernel_rfl) (by kernel_rfl) (by kernel_rfl) rfl (fun _ _ _ h => h) (YieldsIf.toG (Or.inl ⟨by rfl, ?_⟩)) (GK.drop (by simp)) ?_
        · intro X hX
          clear hX
          go_simp
        try simp only [Act.put, List.setIfInBounds_toArray, List.set_cons_zero, List.set_cons_succ]
        refine take_G 17 (.bool false) (some 22) (GK.grow _) (by kernel_rfl) rfl (by kernel_rfl) (by kernel_rfl) (by kernel_rfl) rfl (fun _ _ _ h => h) (YieldsIf.toG (Or.inl ⟨by rfl, ?_⟩)) (GK.drop (by simp)) ?_
        · intro X hX
          clear hX
          go_simp
        try simp only [Act.put, List.setIfInBounds_toArray, List.set_cons_zero, List.set_cons_succ]
        refine take_G 18 (.bool false) (some 4) (GK.grow _) (by kernel_rfl) rfl (by kernel_rfl) (by kernel_rfl) (by kernel_rfl) rfl (fun _ _ _ h => h) (YieldsIf.toG (Or.inl ⟨by rfl, ?_⟩)) (GK.drop (by simp)) ?_
        · intro X hX
          clear hX
          go_simp
        try simp only [Act.put, List.setIfInBounds_toArray, List.set_cons_zero, List.set_cons_succ]
        clear HAL
        refine done_G (by kernel_rfl) (fun X8 hX => ?_) _
        replace NN := Lib.hid (Bgo NN.out hX)
        replace S := Lib.hid (blk_next hX S.out)
        replace T := Lib.hid (blk_next hX T.out)
        clear hX
        go_wp2_with fail
        go_ret
        exact ⟨ret_bool HR.out.symm, NN.out⟩
      · rw [decide_eq_false (by omega : ¬ (1 : Int) * d < n * 1)] at L1
        rw [decide_eq_false (by omega : ¬ n * 1 < (-1 : Int) * d)] at L2
        have HR : Hid (r = true) := Lib.hid (by rw [HP.out, hs, ht, decide_eq_true h', decide_eq_true h]; rfl)
        clear hs ht d1 d2 d3 d4 h h'
        go_enter Try.func40, Try.ntmps40
        go_upto_region 1 with fail
        have S : Hid (((w.alloc (.cells #[.int .i64 n, .int .i64 d] 34)).alloc (.cells #[.int .i64 m, .int .i64 k] 34)).heap[w.heap.size]? = some (.cells #[.int .i64 n, .int .i64 d] 34)) := Lib.hid (blk_alloc (blk_new w _) _)
        have T : Hid (((w.alloc (.cells #[.int .i64 n, .int .i64 d] 34)).alloc (.cells #[.int .i64 m, .int .i64 k] 34)).heap[w.heap.size + 1]? = some (.cells #[.int .i64 m, .int .i64 k] 34)) := Lib.hid (blk_at _ (by simp))
        replace NN : Hid (Below w.heap.size w ((w.alloc (.cells #[.int .i64 n, .int .i64 d] 34)).alloc (.cells #[.int .i64 m, .int .i64 k] 34))) := Lib.hid (Bal (Bal NN.out _) _)
        generalize ((w.alloc (.cells #[.int .i64 n, .int .i64 d] 34)).alloc (.cells #[.int .i64 m, .int .i64 k] 34)) = W9 at *
        have HDRW := Lib.hid (Below.drew (Below.refl W9.heap.size W9))
        replace NN := Lib.hid (Bgo NN.out HDRW.out)
        replace S := Lib.hid (blk_next HDRW.out S.out)
        replace T := Lib.hid (blk_next HDRW.out T.out)
        clear HDRW
        have HAL : Hid (∀ kx9 : Nat, GK [(0, w.heap.size, .cells #[.int .i64 n, .int .i64 d] 34), (3, w.heap.size + 1, .cells #[.int .i64 m, .int .i64 k] 34), (8, w.heap.size, .cells #[.int .i64 n, .int .i64 d] 34), (13, w.heap.size, .cells #[.int .i64 n, .int .i64 d] 34)] kx9 W9.drew) := Lib.hid (fun kx9 px9 hp e => by
          simp only [List.mem_cons, List.not_mem_nil, or_false] at hp
          rcases hp with rfl | rfl | rfl | rfl
          · exact S.out
          · exact T.out
          · exact S.out
          · exact S.out)
        refine region_G (S := GK [(0, w.heap.size, .cells #[.int .i64 n, .int .i64 d] 34), (3, w.heap.size + 1, .cells #[.int .i64 m, .int .i64 k] 34), (8, w.heap.size, .cells #[.int .i64 n, .int .i64 d] 34), (13, w.heap.size, .cells #[.int .i64 n, .int .i64 d] 34)]) (by kernel_rfl) ?_
        refine take_G 0 (.agg #[.int .i64 n, .int .i64 d]) (some 5) (GK.grow _) (by kernel_rfl) rfl (by kernel_rfl) (by kernel_rfl) (by kernel_rfl) rfl (fun _ _ _ h => h) (YieldsIf.toG (Or.inl ⟨by rfl, ?_⟩)) (HAL.out 0) ?_
        · intro X hX
          have hh := hX (0, w.heap.size, .cells #[.int .i64 n, .int .i64 d] 34) (List.Mem.head _) rfl
          have hh0 := blk_cell hh 0 _ rfl
          have hh1 := blk_cell hh 1 _ rfl
          have hhl := blk_lt hh
          clear hh
          clear hX
          go_simp
        try simp only [Act.put, List.setIfInBounds_toArray, List.set_cons_zero, List.set_cons_succ]
        have CFn : ∀ (args : Array Value) (W : World), Sem.run Try.prog (callFunc 57 args) W = .ok (.enter 57 args) W := fun _ _ => by kernel_rfl
        refine take_G 1 (.bool true) (some 6) (GK.grow _) (by kernel_rfl) rfl (by kernel_rfl) (by kernel_rfl) (by kernel_rfl) rfl (fun _ _ _ h => h) (yieldsG_call 57 #[.agg #[.int .i64 n, .int .i64 d]] (by rfl) ?_ (fun X hS => PS.out X)) (GK.drop (by simp)) ?_
        · intro X hX
          clear hX
          go_simp
        clear CFn
        try simp only [Act.put, List.setIfInBounds_toArray, List.set_cons_zero, List.set_cons_succ]
        refine take_G 2 (.bool true) (some 7) (GK.grow _) (by kernel_rfl) rfl (by kernel_rfl) (by kernel_rfl) (by kernel_rfl) rfl (fun _ _ _ h => h) (YieldsIf.toG (Or.inl ⟨by rfl, ?_⟩)) (GK.drop (by simp)) ?_
        · intro X hX
          clear hX
          go_simp
        try simp only [Act.put, List.setIfInBounds_toArray, List.set_cons_zero, List.set_cons_succ]
        refine take_G 3 (.agg #[.int .i64 m, .int .i64 k]) (some 8) (GK.grow _) (by kernel_rfl) rfl (by kernel_rfl) (by kernel_rfl) (by kernel_rfl) rfl (fun _ _ _ h => h) (YieldsIf.toG (Or.inl ⟨by rfl, ?_⟩)) (HAL.out 3) ?_
        · intro X hX
          have hh := hX (3, w.heap.size + 1, .cells #[.int .i64 m, .int .i64 k] 34) (List.Mem.tail _ (List.Mem.head _)) rfl
          have hh0 := blk_cell hh 0 _ rfl
          have hh1 := blk_cell hh 1 _ rfl
          have hhl := blk_lt hh
          clear hh
          clear hX
          go_simp
        try simp only [Act.put, List.setIfInBounds_toArray, List.set_cons_zero, List.set_cons_succ]
        have CFn : ∀ (args : Array Value) (W : World), Sem.run Try.prog (callFunc 57 args) W = .ok (.enter 57 args) W := fun _ _ => by kernel_rfl
        refine take_G 4 (.bool true) (some 9) (GK.grow _) (by kernel_rfl) rfl (by kernel_rfl) (by kernel_rfl) (by kernel_rfl) rfl (fun _ _ _ h => h) (yieldsG_call 57 #[.agg #[.int .i64 m, .int .i64 k]] (by rfl) ?_ (fun X hS => PT.out X)) (GK.drop (by simp)) ?_
        · intro X hX
          clear hX
          go_simp
        clear CFn
        try simp only [Act.put, List.setIfInBounds_toArray, List.set_cons_zero, List.set_cons_succ]
        refine take_G 5 (.bool true) (some 10) (GK.grow _) (by kernel_rfl) rfl (by kernel_rfl) (by kernel_rfl) (by kernel_rfl) rfl (fun _ _ _ h => h) (YieldsIf.toG (Or.inl ⟨by rfl, ?_⟩)) (GK.drop (by simp)) ?_
        · intro X hX
          clear hX
          go_simp
        try simp only [Act.put, List.setIfInBounds_toArray, List.set_cons_zero, List.set_cons_succ]
        refine take_G 6 (.bool true) (some 11) (GK.grow _) (by kernel_rfl) rfl (by kernel_rfl) (by kernel_rfl) (by kernel_rfl) rfl (fun _ _ _ h => h) (YieldsIf.toG (Or.inl ⟨by rfl, ?_⟩)) (GK.drop (by simp)) ?_
        · intro X hX
          clear hX
          go_simp
        try simp only [Act.put, List.setIfInBounds_toArray, List.set_cons_zero, List.set_cons_succ]
        have CFn : ∀ (args : Array Value) (W : World), Sem.run Try.prog (callFunc 59 args) W = .ok (.enter 59 args) W := fun _ _ => by kernel_rfl
        refine take_G 7 (.agg #[.int .i64 1, .int .i64 1]) (some 12) (GK.grow _) (by kernel_rfl) rfl (by kernel_rfl) (by kernel_rfl) (by kernel_rfl) rfl (fun _ _ _ h => h) (yieldsG_call 59 #[] (by rfl) ?_ (fun X hS => refOne_calls X)) (GK.drop (by simp)) ?_
        · intro X hX
          clear hX
          go_simp
        clear CFn
        try simp only [Act.put, List.setIfInBounds_toArray, List.set_cons_zero, List.set_cons_succ]
        refine take_G 8 (.agg #[.int .i64 n, .int .i64 d]) (some 13) (GK.grow _) (by kernel_rfl) rfl (by kernel_rfl) (by kernel_rfl) (by kernel_rfl) rfl (fun _ _ _ h => h) (YieldsIf.toG (Or.inl ⟨by rfl, ?_⟩)) (HAL.out 8) ?_
        · intro X hX
          have hh := hX (8, w.heap.size, .cells #[.int .i64 n, .int .i64 d] 34) (List.Mem.tail _ (List.Mem.tail _ (List.Mem.head _))) rfl
          have hh0 := blk_cell hh 0 _ rfl
          have hh1 := blk_cell hh 1 _ rfl
          have hhl := blk_lt hh
          clear hh
          clear hX
          go_simp
        try simp only [Act.put, List.setIfInBounds_toArray, List.set_cons_zero, List.set_cons_succ]
        have CFn : ∀ (args : Array Value) (W : World), Sem.run Try.prog (callFunc 58 args) W = .ok (.enter 58 args) W := fun _ _ => by kernel_rfl
        refine take_G 9 (.bool false) (some 14) (GK.grow _) (by kernel_rfl) rfl (by kernel_rfl) (by kernel_rfl) (by kernel_rfl) rfl (fun _ _ _ h => h) (yieldsG_call 58 #[.agg #[.int .i64 1, .int .i64 1], .agg #[.int .i64 n, .int .i64 d]] (by rfl) ?_ (fun X hS => L1.out X)) (GK.drop (by simp)) ?_
        · intro X hX
          clear hX
          go_simp
        clear CFn
        try simp only [Act.put, List.setIfInBounds_toArray, List.set_cons_zero, List.set_cons_succ]
        refine take_G 10 (.bool true) (some 15) (GK.grow _) (by kernel_rfl) rfl (by kernel_rfl) (by kernel_rfl) (by kernel_rfl) rfl (fun _ _ _ h => h) (YieldsIf.toG (Or.inl ⟨by rfl, ?_⟩)) (GK.drop (by simp)) ?_
        · intro X hX
          clear hX
          go_simp
        try simp only [Act.put, List.setIfInBounds_toArray, List.set_cons_zero, List.set_cons_succ]
        refine take_G 11 (.bool true) (some 16) (GK.grow _) (by kernel_rfl) rfl (by kernel_rfl) (by kernel_rfl) (by kernel_rfl) rfl (fun _ _ _ h => h) (YieldsIf.toG (Or.inl ⟨by rfl, ?_⟩)) (GK.drop (by simp)) ?_
        · intro X hX
          clear hX
          go_simp
        try simp only [Act.put, List.setIfInBounds_toArray, List.set_cons_zero, List.set_cons_succ]
        refine take_G 12 (.bool true) (some 17) (GK.grow _) (by kernel_rfl) rfl (by kernel_rfl) (by kernel_rfl) (by kernel_rfl) rfl (fun _ _ _ h => h) (YieldsIf.toG (Or.inl ⟨by rfl, ?_⟩)) (GK.drop (by simp)) ?_
        · intro X hX
          clear hX
          go_simp
        try simp only [Act.put, List.setIfInBounds_toArray, List.set_cons_zero, List.set_cons_succ]
        refine take_G 13 (.agg #[.int .i64 n, .int .i64 d]) (some 18) (GK.grow _) (by kernel_rfl) rfl (by kernel_rfl) (by kernel_rfl) (by kernel_rfl) rfl (fun _ _ _ h => h) (YieldsIf.toG (Or.inl ⟨by rfl, ?_⟩)) (HAL.out 13) ?_
        · intro X hX
          have hh := hX (13, w.heap.size, .cells #[.int .i64 n, .int .i64 d] 34) (List.Mem.tail _ (List.Mem.tail _ (List.Mem.tail _ (List.Mem.head _)))) rfl
          have hh0 := blk_cell hh 0 _ rfl
          have hh1 := blk_cell hh 1 _ rfl
          have hhl := blk_lt hh
          clear hh
          clear hX
          go_simp
        try simp only [Act.put, List.setIfInBounds_toArray, List.set_cons_zero, List.set_cons_succ]
        have CFn : ∀ (args : Array Value) (W : World), Sem.run Try.prog (callFunc 48 args) W = .ok (.enter 48 args) W := fun _ _ => by kernel_rfl
        refine take_G 14 (.agg #[.int .i64 (-1), .int .i64 1]) (some 19) (GK.grow _) (by kernel_rfl) rfl (by kernel_rfl) (by kernel_rfl) (by kernel_rfl) rfl (fun _ _ _ h => h) (yieldsG_call 48 #[.int .i64 (-1)] (by rfl) ?_ (fun X hS => refOf_calls (-1) X)) (GK.drop (by simp)) ?_
        · intro X hX
          clear hX
          go_simp
        clear CFn
        try simp only [Act.put, List.setIfInBounds_toArray, List.set_cons_zero, List.set_cons_succ]
        have CFn : ∀ (args : Array Value) (W : World), Sem.run Try.prog (callFunc 58 args) W = .ok (.enter 58 args) W := fun _ _ => by kernel_rfl
        refine take_G 15 (.bool false) (some 20) (GK.grow _) (by kernel_rfl) rfl (by kernel_rfl) (by kernel_rfl) (by kernel_rfl) rfl (fun _ _ _ h => h) (yieldsG_call 58 #[.agg #[.int .i64 n, .int .i64 d], .agg #[.int .i64 (-1), .int .i64 1]] (by rfl) ?_ (fun X hS => L2.out X)) (GK.drop (by simp)) ?_
        · intro X hX
          clear hX
          go_simp
        clear CFn
        try simp only [Act.put, List.setIfInBounds_toArray, List.set_cons_zero, List.set_cons_succ]
        refine take_G 16 (.bool true) (some 21) (GK.grow _) (by kernel_rfl) rfl (by kernel_rfl) (by kernel_rfl) (by kernel_rfl) rfl (fun _ _ _ h => h) (YieldsIf.toG (Or.inl ⟨by rfl, ?_⟩)) (GK.drop (by simp)) ?_
        · intro X hX
          clear hX
          go_simp
        try simp only [Act.put, List.setIfInBounds_toArray, List.set_cons_zero, List.set_cons_succ]
        refine take_G 17 (.bool true) (some 22) (GK.grow _) (by kernel_rfl) rfl (by kernel_rfl) (by kernel_rfl) (by kernel_rfl) rfl (fun _ _ _ h => h) (YieldsIf.toG (Or.inl ⟨by rfl, ?_⟩)) (GK.drop (by simp)) ?_
        · intro X hX
          clear hX
          go_simp
        try simp only [Act.put, List.setIfInBounds_toArray, List.set_cons_zero, List.set_cons_succ]
        refine take_G 18 (.bool true) (some 4) (GK.grow _) (by kernel_rfl) rfl (by kernel_rfl) (by kernel_rfl) (by kernel_rfl) rfl (fun _ _ _ h => h) (YieldsIf.toG (Or.inl ⟨by rfl, ?_⟩)) (GK.drop (by simp)) ?_
        · intro X hX
          clear hX
          go_simp
        try simp only [Act.put, List.setIfInBounds_toArray, List.set_cons_zero, List.set_cons_succ]
        clear HAL
        refine done_G (by kernel_rfl) (fun X10 hX => ?_) _
        replace NN := Lib.hid (Bgo NN.out hX)
        replace S := Lib.hid (blk_next hX S.out)
        replace T := Lib.hid (blk_next hX T.out)
        clear hX
        go_wp2_with fail
        go_ret
        exact ⟨ret_bool HR.out.symm, NN.out⟩
set_option maxRecDepth 100000 in
set_option maxHeartbeats 8000000 in
theorem refValid_calls (x : St) (w : World) (hs : x.nm.size ≤ 9223372036854775807) : Calls Try.prog 25 #[Sv x] w fun e w' => e = .returned (.bool (valS x)) ∧ Below w.heap.size w w' := by
  have NN := Lib.hid (Below.refl w.heap.size w)
  obtain ⟨s, sn, sd, tn, td⟩ := x
  have CN := Lib.hid (fun W => named_calls s W hs)
  have CP := Lib.hid (fun W => refPlaced_calls sn sd tn td W)
  have VS : Hid (valS ⟨s, sn, sd, tn, td⟩ = (namB s.data.toList && plB sn sd tn td)) := Lib.hid rfl
  generalize valS ⟨s, sn, sd, tn, td⟩ = vs at *
  generalize plB sn sd tn td = pl at *
  clear hs
  cases hn : namB s.data.toList
  · rw [hn] at CN
    have HN := Lib.hid hn
    clear hn
    go_enter Try.func25, Try.ntmps25
    go_wp2_with fail
    have X : Hid ((w.alloc (.cells #[.string s, .int .i64 sn, .int .i64 sd, .int .i64 tn, .int .i64 td] 56)).heap[w.heap.size]? = some (.cells #[.string s, .int .i64 sn, .int .i64 sd, .int .i64 tn, .int .i64 td] 56)) := Lib.hid (blk_new w _)
    replace NN : Hid (Below w.heap.size w (w.alloc (.cells #[.string s, .int .i64 sn, .int .i64 sd, .int .i64 tn, .int .i64 td] 56))) := Lib.hid (Bal NN.out _)
    generalize (w.alloc (.cells #[.string s, .int .i64 sn, .int .i64 sd, .int .i64 tn, .int .i64 td] 56)) = W1 at *
    have c_X_0 := blk_cell X.out 0 _ rfl
    have f_X_0 := blk_frozen X.out 0
    have c_X_1 := blk_cell X.out 1 _ rfl
    have f_X_1 := blk_frozen X.out 1
    have c_X_2 := blk_cell X.out 2 _ rfl
    have f_X_2 := blk_frozen X.out 2
    have c_X_3 := blk_cell X.out 3 _ rfl
    have f_X_3 := blk_frozen X.out 3
    have c_X_4 := blk_cell X.out 4 _ rfl
    have f_X_4 := blk_frozen X.out 4
    have l_X := blk_lt X.out
    go_wp2_with fail
    clear c_X_0 f_X_0 c_X_1 f_X_1 c_X_2 f_X_2 c_X_3 f_X_3 c_X_4 f_X_4 l_X
    refine (CN.out _).mono ?_
    rintro e w2 ⟨rfl, rfl⟩
    have c_X_0 := blk_cell X.out 0 _ rfl
    have f_X_0 := blk_frozen X.out 0
    have c_X_1 := blk_cell X.out 1 _ rfl
    have f_X_1 := blk_frozen X.out 1
    have c_X_2 := blk_cell X.out 2 _ rfl
    have f_X_2 := blk_frozen X.out 2
    have c_X_3 := blk_cell X.out 3 _ rfl
    have f_X_3 := blk_frozen X.out 3
    have c_X_4 := blk_cell X.out 4 _ rfl
    have f_X_4 := blk_frozen X.out 4
    have l_X := blk_lt X.out
    go_wp2_with fail
    go_ret
    exact ⟨ret_bool (by rw [VS.out, HN.out]; rfl), NN.out⟩
  · rw [hn] at CN
    have HN := Lib.hid hn
    clear hn
    go_enter Try.func25, Try.ntmps25
    go_wp2_with fail
    have X : Hid ((w.alloc (.cells #[.string s, .int .i64 sn, .int .i64 sd, .int .i64 tn, .int .i64 td] 56)).heap[w.heap.size]? = some (.cells #[.string s, .int .i64 sn, .int .i64 sd, .int .i64 tn, .int .i64 td] 56)) := Lib.hid (blk_new w _)
    replace NN : Hid (Below w.heap.size w (w.alloc (.cells #[.string s, .int .i64 sn, .int .i64 sd, .int .i64 tn, .int .i64 td] 56))) := Lib.hid (Bal NN.out _)
    generalize (w.alloc (.cells #[.string s, .int .i64 sn, .int .i64 sd, .int .i64 tn, .int .i64 td] 56)) = W3 at *
    have c_X_0 := blk_cell X.out 0 _ rfl
    have f_X_0 := blk_frozen X.out 0
    have c_X_1 := blk_cell X.out 1 _ rfl
    have f_X_1 := blk_frozen X.out 1
    have c_X_2 := blk_cell X.out 2 _ rfl
    have f_X_2 := blk_frozen X.out 2
    have c_X_3 := blk_cell X.out 3 _ rfl
    have f_X_3 := blk_frozen X.out 3
    have c_X_4 := blk_cell X.out 4 _ rfl
    have f_X_4 := blk_frozen X.out 4
    have l_X := blk_lt X.out
    go_wp2_with fail
    clear c_X_0 f_X_0 c_X_1 f_X_1 c_X_2 f_X_2 c_X_3 f_X_3 c_X_4 f_X_4 l_X
    refine (CN.out _).mono ?_
    rintro e w4 ⟨rfl, rfl⟩
    have c_X_0 := blk_cell X.out 0 _ rfl
    have f_X_0 := blk_frozen X.out 0
    have c_X_1 := blk_cell X.out 1 _ rfl
    have f_X_1 := blk_frozen X.out 1
    have c_X_2 := blk_cell X.out 2 _ rfl
    have f_X_2 := blk_frozen X.out 2
    have c_X_3 := blk_cell X.out 3 _ rfl
    have f_X_3 := blk_frozen X.out 3
    have c_X_4 := blk_cell X.out 4 _ rfl
    have f_X_4 := blk_frozen X.out 4
    have l_X := blk_lt X.out
    go_wp2_with fail
    refine (CP.out _).mono ?_
    rintro e w5 ⟨rfl, hb⟩
    clear c_X_0 f_X_0 c_X_1 f_X_1 c_X_2 f_X_2 c_X_3 f_X_3 c_X_4 f_X_4 l_X
    replace NN := Lib.hid (Bgo NN.out hb)
    replace X := Lib.hid (blk_next hb X.out)
    clear hb
    go_wp2_with fail
    go_ret
    exact ⟨ret_bool (by rw [VS.out, HN.out]; rfl), NN.out⟩
set_option maxRecDepth 100000 in
set_option maxHeartbeats 4000000 in
theorem stations_calls (A : Option Addr) (c : Nat) (l : List St) (w : World) (hl : RSt w A l) (hc : l.length ≤ c) (hc' : c ≤ 9223372036854775807) (hn : ∀ x ∈ l, x.nm.size ≤ 9223372036854775807) : Calls Try.prog 27 #[.slice A l.length c] w fun e w' =>
    e = .returned (.int .i64 (stsE l)) ∧ Below w.heap.size w w' := by
  by_cases h8 : 8 < l.length
  · have FV : Hid (stsE l = 4) := Lib.hid (by unfold stsE; rw [if_pos h8])
    generalize stsE l = v at *
    go_enter Try.func27, Try.ntmps27
    go_wp2_with fail
    go_ret
    exact ⟨ret_int FV.out.symm, Below.refl _ _⟩
  have HL := Lib.hid hl
  have HN := Lib.hid hn
  have YES : Hid ((∀ (j : Nat) (y : St), j < l.length → l[j]? = some y → valS y = true) → stsE l = 0) := Lib.hid (fun h => by unfold stsE; rw [if_neg h8, if_pos (all_get h)])
  have NO : Hid (∀ (k : Nat) (x : St), l[k]? = some x → valS x = false → stsE l = 8) := Lib.hid (fun k x h h' => by unfold stsE; rw [if_neg h8, if_neg (by rw [all_not h h']; simp)])
  clear hl hn
  generalize stsE l = v at *
  go_enter Try.func27, Try.ntmps27
  go_wp2_with fail
  go_loopw [10] (fun i wr => ∃ k : Nat, k ≤ l.length ∧ i = .int .i64 k ∧ Hid (Below w.heap.size w wr) ∧ Hid (∀ (j : Nat) (y : St), j < k → l[j]? = some y → valS y = true)) (fun i _ => l.length - (intOf i).toNat)
  case atStart => exact ⟨0, by omega, rfl, Lib.hid (Below.refl _ _), Lib.hid (by omega)⟩
  case round =>
    obtain ⟨k, hk, rfl, NN, GD⟩ := hrel
    by_cases hlt : k < l.length
    · obtain ⟨x, hx⟩ := get_some hlt
      obtain ⟨b, off, e, hb, hc0⟩ := Rd.rec_ HL.out (Nat.le_refl _) st5_len hx
      subst e
      have c0 := (NN.out.cell (p := ⟨b, off + k * 5, none⟩) hb).trans (hc0 0 _ rfl)
      have c1 := (NN.out.cell (p := ⟨b, off + k * 5 + 1, none⟩) hb).trans (hc0 1 _ rfl)
      have c2 := (NN.out.cell (p := ⟨b, off + k * 5 + 2, none⟩) hb).trans (hc0 2 _ rfl)
      have c3 := (NN.out.cell (p := ⟨b, off + k * 5 + 3, none⟩) hb).trans (hc0 3 _ rfl)
      have c4 := (NN.out.cell (p := ⟨b, off + k * 5 + 4, none⟩) hb).trans (hc0 4 _ rfl)
      have hbr : b < wr.heap.size := Nat.lt_of_lt_of_le hb NN.out.size
      have HX := Lib.hid hx
      have kk : k + 1 ≤ l.length := hlt
      have CV := Lib.hid (fun W => valid_calls x W (HN.out x (List.mem_of_getElem? hx)))
      clear hc0 hx
      go_wp2_with fail
      refine (CV.out _).mono ?_
      rintro e w1 ⟨rfl, hb1⟩
      replace NN := Lib.hid (Bgo (Bal NN.out (.cells #[.string x.nm, .int .i64 x.sn, .int .i64 x.sd, .int .i64 x.tn, .int .i64 x.td] 56)) hb1)
      clear hb1 c0 c1 c2 c3 c4
      cases hp : valS x
      · have FV := Lib.hid (NO.out k x HX.out hp)
        clear GD YES NO HX hp
        go_wp2_with fail
        go_ret
        exact ⟨ret_int FV.out.symm, NN.out⟩
      · have G2 := Lib.hid (take_all HX.out GD.out hp)
        clear GD YES NO HX hp
        go_wp2_with fail
        go_roundw
        case rel => exact ⟨k + 1, kk, by go_num, NN, G2⟩
        case measure => simp [intOf]; omega
    · obtain rfl : k = l.length := by omega
      have FV := Lib.hid (YES.out GD.out)
      clear GD YES NO
      go_wp2_with fail
      go_ret
      exact ⟨ret_int FV.out.symm, NN.out⟩
def greatB (l : List St) : Bool := l.any (fun x => decide (100 < x.nm.size)) || decide (20 < l.length)
theorem great_no {l : List St} (h : greatB l = false) : l.length ≤ 20 ∧ ∀ x ∈ l, x.nm.size ≤ 100 := by
  unfold greatB at h
  simp only [Bool.or_eq_false_iff, List.any_eq_false, decide_eq_true_eq, decide_eq_false_iff_not] at h
  exact ⟨by omega, fun x hx => by have := h.1 x hx; omega⟩
set_option maxRecDepth 100000 in
set_option maxHeartbeats 4000000 in
theorem great_calls (A : Option Addr) (c : Nat) (l : List St) (w : World) (hl : RSt w A l) (hc : l.length ≤ c) (hc' : c ≤ 9223372036854775807) : Calls Try.prog 4 #[.slice A l.length c] w fun e w' =>
    e = .returned (.bool (greatB l)) ∧ Below w.heap.size w w' := by
  have HL := Lib.hid hl
  have YES : Hid ((∀ (j : Nat) (y : St), j < l.length → l[j]? = some y → decide (y.nm.size ≤ 100) = true) → greatB l = decide (20 < l.length)) := Lib.hid (fun h => by
    unfold greatB
    rw [show (l.any fun x => decide (100 < x.nm.size)) = false from List.any_eq_false.2 (fun x hx => by
      obtain ⟨i, hi, e⟩ := List.mem_iff_getElem.1 hx
      have := h i x hi (by rw [List.getElem?_eq_getElem hi, e])
      simp at this ⊢; omega), Bool.false_or])
  have NO : Hid (∀ (k : Nat) (x : St), l[k]? = some x → 100 < x.nm.size → greatB l = true) := Lib.hid (fun k x h h' => by
    unfold greatB
    rw [show (l.any fun x => decide (100 < x.nm.size)) = true from List.any_eq_true.2 ⟨x, List.mem_of_getElem? h, by simpa using h'⟩, Bool.true_or])
  clear hl
  generalize greatB l = v at *
  go_enter Try.func4, Try.ntmps4
  go_wp2_with fail
  go_loopw [3] (fun i wr => ∃ k : Nat, k ≤ l.length ∧ i = .int .i64 k ∧ Hid (Below w.heap.size w wr) ∧ Hid (∀ (j : Nat) (y : St), j < k → l[j]? = some y → decide (y.nm.size ≤ 100) = true)) (fun i _ => l.length - (intOf i).toNat)
  case atStart => exact ⟨0, by omega, rfl, Lib.hid (Below.refl _ _), Lib.hid (by omega)⟩
  case round =>
    obtain ⟨k, hk, rfl, NN, GD⟩ := hrel
    by_cases hlt : k < l.length
    · obtain ⟨x, hx⟩ := get_some hlt
      obtain ⟨b, off, e, hb, hc0⟩ := Rd.rec_ HL.out (Nat.le_refl _) st5_len hx
      subst e
      have c0 := (NN.out.cell (p := ⟨b, off + k * 5, none⟩) hb).trans (hc0 0 _ rfl)
      have hbr : b < wr.heap.size := Nat.lt_of_lt_of_le hb NN.out.size
      have HX := Lib.hid hx
      have kk : k + 1 ≤ l.length := hlt
      clear hc0 hx
      by_cases hp : 100 < x.nm.size
      · have FV := Lib.hid (NO.out k x HX.out hp)
        have d1 : decide ((100 : Int) < (x.nm.size : Int)) = true := decide_eq_true (by omega)
        clear GD YES NO HX hp
        go_wp2_with fail
        go_ret
        exact ⟨ret_bool FV.out.symm, NN.out⟩
      · have G2 := Lib.hid (take_all HX.out GD.out (decide_eq_true (by omega)))
        have d1 : decide ((100 : Int) < (x.nm.size : Int)) = false := decide_eq_false (by omega)
        clear GD YES NO HX hp
        go_wp2_with fail
        go_roundw
        case rel => exact ⟨k + 1, kk, by go_num, NN, G2⟩
        case measure => simp [intOf]; omega
    · obtain rfl : k = l.length := by omega
      have FV := Lib.hid (YES.out GD.out)
      clear GD YES NO
      go_wp2_with fail
      go_ret
      exact ⟨ret_bool (by rw [FV.out]; exact decide_eq_decide.2 (by omega)), NN.out⟩
end Go.Proofs.Ytfangplfbbgphaa
