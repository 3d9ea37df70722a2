/- Several texts in one. -/
import Derived.Test.YtfangplfbbgphaaGreatDoorMN06
namespace Go.Proofs.YtfangplfbbgphaaGreatDoor
open Go.ChangeShapes Go.WideShapes Go.ChangeAt Go.RowKit
set_option linter.unusedVariables false
set_option maxRecDepth 100000
set_option linter.unusedSimpArgs false
attribute [local go_sem ↓] Go.wp_at_zero Go.wp_at_succ
theorem ix0 (a b c d e f : Int) (W : World) : Sem.run Tryz.prog (Instr.index 93 (.agg #[.int .i64 a, .int .i64 b, .int .i64 c, .int .i64 d, .int .i64 e, .int .i64 f]) (.int .i64 0)) W = .ok (.agg #[.int .i64 a, .int .i64 b]) W := by kernel_rfl
theorem ix1 (a b c d e f : Int) (W : World) : Sem.run Tryz.prog (Instr.index 93 (.agg #[.int .i64 a, .int .i64 b, .int .i64 c, .int .i64 d, .int .i64 e, .int .i64 f]) (.int .i64 1)) W = .ok (.agg #[.int .i64 c, .int .i64 d]) W := by kernel_rfl
theorem ix2 (a b c d e f : Int) (W : World) : Sem.run Tryz.prog (Instr.index 93 (.agg #[.int .i64 a, .int .i64 b, .int .i64 c, .int .i64 d, .int .i64 e, .int .i64 f]) (.int .i64 2)) W = .ok (.agg #[.int .i64 e, .int .i64 f]) W := by kernel_rfl
theorem vsE_two {v u : V6} (h : okV v = true) (h' : okV u = true) : vsE [v, u] = 0 := by unfold vsE; simp [h, h']
attribute [local go_sem ↓] ix0 ix1 ix2
set_option maxRecDepth 100000 in
set_option maxHeartbeats 8000000 in
theorem vsub1_x (p q : Int) (u : V6) (g : Nat) (w : World) (hu : w.heap[g]? = some (.cells #[.int .i64 u.x1, .int .i64 u.x2, .int .i64 u.y1, .int .i64 u.y2, .int .i64 u.z1, .int .i64 u.z2] 38)) : Calls Tryz.prog 67 #[.int .i64 0, Fv p q, .pointer (some ⟨g, 0, none⟩)] w fun e w' => e = .returned (Rv (subR p q u.x1 u.x2)) ∧ Below w.heap.size w w' := by
 have NN := Lib.hid (Below.refl w.heap.size w)
 have GL := blk_lt hu
 have SB := Lib.hid (fun W => sub_calls p q u.x1 u.x2 W)
 have LU := Lib.hid (fun W => vlist_calls u W)
 generalize subR p q u.x1 u.x2 = r at *
 obtain ⟨r1, r2, r3⟩ := r
 go_enter Tryz.func67, Tryz.ntmps67
 go_upto_region 1 with fail
 have P : Hid (((w.alloc (.cells #[.int .i64 p, .int .i64 q] 36)).alloc (.cells #[.int .i64 0, .int .i64 0] 36)).heap[w.heap.size]? = some (.cells #[.int .i64 p, .int .i64 q] 36)) := Lib.hid (blk_alloc (blk_new w _) _)
 have R : Hid (((w.alloc (.cells #[.int .i64 p, .int .i64 q] 36)).alloc (.cells #[.int .i64 0, .int .i64 0] 36)).heap[w.heap.size + 1]? = some (.cells #[.int .i64 0, .int .i64 0] 36)) := Lib.hid (blk_at _ (by simp))
 replace NN : Hid (Below w.heap.size w ((w.alloc (.cells #[.int .i64 p, .int .i64 q] 36)).alloc (.cells #[.int .i64 0, .int .i64 0] 36))) := Lib.hid (Bal (Bal NN.out _) _)
 generalize ((w.alloc (.cells #[.int .i64 p, .int .i64 q] 36)).alloc (.cells #[.int .i64 0, .int .i64 0] 36)) = W1 at *
 replace hu := hu
 have U : Hid (W1.heap[g]? = some (.cells #[.int .i64 u.x1, .int .i64 u.x2, .int .i64 u.y1, .int .i64 u.y2, .int .i64 u.z1, .int .i64 u.z2] 38)) := Lib.hid ((NN.out.block g GL).trans hu)
 have LG : Hid (g < w.heap.size) := Lib.hid GL
 clear hu GL
 have HDRW := Lib.hid (Below.drew (Below.refl W1.heap.size W1))
 replace NN := Lib.hid (Bgo NN.out HDRW.out)
 replace U := Lib.hid (blk_next HDRW.out U.out)
 replace P := Lib.hid (blk_next HDRW.out P.out)
 replace R := Lib.hid (blk_next HDRW.out R.out)
 clear HDRW
 have HAL : Hid (∀ kx9 : Nat, GK [(0, w.heap.size, .cells #[.int .i64 p, .int .i64 q] 36), (1, g, .cells #[.int .i64 u.x1, .int .i64 u.x2, .int .i64 u.y1, .int .i64 u.y2, .int .i64 u.z1, .int .i64 u.z2] 38)] kx9 W1.drew) := Lib.hid (fun kx9 px9 hp e => by
  simp only [List.mem_cons, List.not_mem_nil, or_false] at hp
  rcases hp with rfl | rfl
  ·exact P.out
  ·exact U.out)
 refine region_G (S := GK [(0, w.heap.size, .cells #[.int .i64 p, .int .i64 q] 36), (1, g, .cells #[.int .i64 u.x1, .int .i64 u.x2, .int .i64 u.y1, .int .i64 u.y2, .int .i64 u.z1, .int .i64 u.z2] 38)]) (by kernel_rfl) ?_
 refine tG 0 (.agg #[.int .i64 p, .int .i64 q]) (some 7) (GK.grow _) rfl (YieldsIf.toG (Or.inl ⟨by rfl, ?_⟩)) (HAL.out 0) ?_
 ·intro X hX
  have hh := hX (0, w.heap.size, .cells #[.int .i64 p, .int .i64 q] 36) (List.Mem.head _) rfl
  have hh0 := blk_cell hh 0 _ rfl
  have hh1 := blk_cell hh 1 _ rfl
  have hhl := blk_lt hh
  clear hh
  clear hX
  go_simp
 try simp only [Act.put, zA, zB, zC]
 refine tG 1 (.agg #[.int .i64 u.x1, .int .i64 u.x2, .int .i64 u.y1, .int .i64 u.y2, .int .i64 u.z1, .int .i64 u.z2]) (some 8) (GK.grow _) rfl (YieldsIf.toG (Or.inl ⟨by rfl, ?_⟩)) (HAL.out 1) ?_
 ·intro X hX
  have hh := hX (1, g, .cells #[.int .i64 u.x1, .int .i64 u.x2, .int .i64 u.y1, .int .i64 u.y2, .int .i64 u.z1, .int .i64 u.z2] 38) (List.Mem.tail _ (List.Mem.head _)) rfl
  have hh0 := blk_cell hh 0 _ rfl
  have hh1 := blk_cell hh 1 _ rfl
  have hh2 := blk_cell hh 2 _ rfl
  have hh3 := blk_cell hh 3 _ rfl
  have hh4 := blk_cell hh 4 _ rfl
  have hh5 := blk_cell hh 5 _ rfl
  have hhl := blk_lt hh
  clear hh
  clear hX
  go_simp
 try simp only [Act.put, zA, zB, zC]
 have CFn : ∀ (args : Array Value) (W : World), Sem.run Tryz.prog (callFunc 43 args) W = .ok (.enter 43 args) W := fun _ _ => by kernel_rfl
 refine tG 2 (.agg #[.int .i64 u.x1, .int .i64 u.x2, .int .i64 u.y1, .int .i64 u.y2, .int .i64 u.z1, .int .i64 u.z2]) (some 9) (GK.grow _) rfl (yieldsG_call 43 #[.agg #[.int .i64 u.x1, .int .i64 u.x2, .int .i64 u.y1, .int .i64 u.y2, .int .i64 u.z1, .int .i64 u.z2]] (by rfl) ?_ (fun X hS => LU.out X)) (GK.drop (by simp)) ?_
 ·intro X hX
  clear hX
  go_simp
 clear CFn
 try simp only [Act.put, zA, zB, zC]
 refine tG 3 (.int .i64 0) (some 10) (GK.grow _) rfl (YieldsIf.toG (Or.inl ⟨by rfl, ?_⟩)) (GK.drop (by simp)) ?_
 ·intro X hX
  clear hX
  go_simp
 try simp only [Act.put, zA, zB, zC]
 refine tG 4 (.agg #[.int .i64 u.x1, .int .i64 u.x2]) (some 11) (GK.grow _) rfl (YieldsIf.toG (Or.inl ⟨by rfl, ?_⟩)) (GK.drop (by simp)) ?_
 ·intro X hX
  clear hX
  go_simp
 try simp only [Act.put, zA, zB, zC]
 have CFn : ∀ (args : Array Value) (W : World), Sem.run Tryz.prog (callFunc 68 args) W = .ok (.enter 68 args) W := fun _ _ => by kernel_rfl
 refine tG 5 (.tuple #[.agg #[.int .i64 r1, .int .i64 r2], .int .i64 r3]) (some 12) (GK.grow _) rfl (yieldsG_call 68 #[.agg #[.int .i64 p, .int .i64 q], .agg #[.int .i64 u.x1, .int .i64 u.x2]] (by rfl) ?_ (fun X hS => SB.out X)) (GK.drop (by simp)) ?_
 ·intro X hX
  clear hX
  go_simp
 clear CFn
 try simp only [Act.put, zA, zB, zC]
 refine tG 6 (.agg #[.int .i64 r1, .int .i64 r2]) (some 13) (GK.grow _) rfl (YieldsIf.toG (Or.inl ⟨by rfl, ?_⟩)) (GK.drop (by simp)) ?_
 ·intro X hX
  clear hX
  go_simp
 try simp only [Act.put, zA, zB, zC]
 refine tG 7 (.int .i64 r3) (some 14) (GK.grow _) rfl (YieldsIf.toG (Or.inl ⟨by rfl, ?_⟩)) (GK.drop (by simp)) ?_
 ·intro X hX
  clear hX
  go_simp
 try simp only [Act.put, zA, zB, zC]
 refine only_G 8 (by kernel_rfl) rfl (fun X2 hX K' hK' => ?_)
 replace NN := Lib.hid (Bgo NN.out hX)
 replace U := Lib.hid (blk_next hX U.out)
 replace P := Lib.hid (blk_next hX P.out)
 replace R := Lib.hid (blk_next hX R.out)
 replace HAL := Lib.hid (fun kx9 => GK.grow _ _ _ _ (HAL.out kx9) hX)
 clear hX
 have c_R_0 := blk_cell R.out 0 _ rfl
 have f_R_0 := blk_frozen R.out 0
 have c_R_1 := blk_cell R.out 1 _ rfl
 have f_R_1 := blk_frozen R.out 1
 have l_R := blk_lt R.out
 go_simp
 clear c_R_0 f_R_0 c_R_1 f_R_1 l_R
 refine hK'.out _ _ (fun kk hk hS => ?_) ?_
 ·have HN : ∀ px9 ∈ ([(0, w.heap.size, .cells #[.int .i64 p, .int .i64 q] 36), (1, g, .cells #[.int .i64 u.x1, .int .i64 u.x2, .int .i64 u.y1, .int .i64 u.y2, .int .i64 u.z1, .int .i64 u.z2] 38)] : List (Nat × Nat × Obj)), px9.1 = kk → px9.2.1 ≠ w.heap.size + 1 := fun px9 hp e => by
   simp only [List.mem_cons, List.not_mem_nil, or_false] at hp
   rcases hp with rfl | rfl
   ·subst e
    exact bfl (by kernel_rfl) hk
   ·subst e
    exact bfl (by kernel_rfl) hk
  exact GK.set (GK.set hS HN) HN
 clear hK' K'
 try simp only [Act.put, zA, zB, zC]
 clear HAL
 replace U : Hid (((X2.setCell ⟨w.heap.size + 1, 0, none⟩ (.int .i64 r1)).setCell ⟨w.heap.size + 1, 1, none⟩ (.int .i64 r2)).heap[g]? = some (.cells #[.int .i64 u.x1, .int .i64 u.x2, .int .i64 u.y1, .int .i64 u.y2, .int .i64 u.z1, .int .i64 u.z2] 38)) := Lib.hid (blk_set_other (b' := w.heap.size + 1) (blk_set_other (b' := w.heap.size + 1) (U.out) (by have := LG.out; omega) 0 (.int .i64 r1)) (by have := LG.out; omega) 1 (.int .i64 r2))
 replace P : Hid (((X2.setCell ⟨w.heap.size + 1, 0, none⟩ (.int .i64 r1)).setCell ⟨w.heap.size + 1, 1, none⟩ (.int .i64 r2)).heap[w.heap.size]? = some (.cells #[.int .i64 p, .int .i64 q] 36)) := Lib.hid (blk_set_other (b' := w.heap.size + 1) (blk_set_other (b' := w.heap.size + 1) (P.out) (by omega) 0 (.int .i64 r1)) (by omega) 1 (.int .i64 r2))
 replace R : Hid (((X2.setCell ⟨w.heap.size + 1, 0, none⟩ (.int .i64 r1)).setCell ⟨w.heap.size + 1, 1, none⟩ (.int .i64 r2)).heap[w.heap.size + 1]? = some (.cells #[.int .i64 r1, .int .i64 r2] 36)) := Lib.hid (blk_set (blk_set (R.out) 0 (.int .i64 r1)) 1 (.int .i64 r2))
 replace NN := Lib.hid (Bset1 (Bset1 (NN.out) (show w.heap.size ≤ w.heap.size + 1 by omega) 0 (.int .i64 r1)) (show w.heap.size ≤ w.heap.size + 1 by omega) 1 (.int .i64 r2))
 generalize ((X2.setCell ⟨w.heap.size + 1, 0, none⟩ (.int .i64 r1)).setCell ⟨w.heap.size + 1, 1, none⟩ (.int .i64 r2)) = W3 at *
 refine tG 9 (.int .i64 r3) (some 6) (GK.grow _) rfl (YieldsIf.toG (Or.inl ⟨by rfl, ?_⟩)) (GK.drop (by simp)) ?_
 ·intro X hX
  clear hX
  go_simp
 try simp only [Act.put, zA, zB, zC]
 refine done_G (by kernel_rfl) (fun X4 hX => ?_) _
 replace NN := Lib.hid (Bgo NN.out hX)
 replace U := Lib.hid (blk_next hX U.out)
 replace P := Lib.hid (blk_next hX P.out)
 replace R := Lib.hid (blk_next hX R.out)
 clear hX
 have c_R_0 := blk_cell R.out 0 _ rfl
 have f_R_0 := blk_frozen R.out 0
 have c_R_1 := blk_cell R.out 1 _ rfl
 have f_R_1 := blk_frozen R.out 1
 have l_R := blk_lt R.out
 go_wp2_with fail
 exact bodyPost_ret (v := .tuple #[Fv r1 r2, .int .i64 r3]) (by simp [results, Tryz.results67, go_sem, c_R_0, c_R_1]) rfl ⟨rfl, NN.out⟩
set_option maxRecDepth 100000 in
set_option maxHeartbeats 8000000 in
theorem vsub1_y (p q : Int) (u : V6) (g : Nat) (w : World) (hu : w.heap[g]? = some (.cells #[.int .i64 u.x1, .int .i64 u.x2, .int .i64 u.y1, .int .i64 u.y2, .int .i64 u.z1, .int .i64 u.z2] 38)) : Calls Tryz.prog 67 #[.int .i64 1, Fv p q, .pointer (some ⟨g, 0, none⟩)] w fun e w' => e = .returned (Rv (subR p q u.y1 u.y2)) ∧ Below w.heap.size w w' := by
 have NN := Lib.hid (Below.refl w.heap.size w)
 have GL := blk_lt hu
 have SB := Lib.hid (fun W => sub_calls p q u.y1 u.y2 W)
 have LU := Lib.hid (fun W => vlist_calls u W)
 generalize subR p q u.y1 u.y2 = r at *
 obtain ⟨r1, r2, r3⟩ := r
 go_enter Tryz.func67, Tryz.ntmps67
 go_upto_region 1 with fail
 have P : Hid (((w.alloc (.cells #[.int .i64 p, .int .i64 q] 36)).alloc (.cells #[.int .i64 0, .int .i64 0] 36)).heap[w.heap.size]? = some (.cells #[.int .i64 p, .int .i64 q] 36)) := Lib.hid (blk_alloc (blk_new w _) _)
 have R : Hid (((w.alloc (.cells #[.int .i64 p, .int .i64 q] 36)).alloc (.cells #[.int .i64 0, .int .i64 0] 36)).heap[w.heap.size + 1]? = some (.cells #[.int .i64 0, .int .i64 0] 36)) := Lib.hid (blk_at _ (by simp))
 replace NN : Hid (Below w.heap.size w ((w.alloc (.cells #[.int .i64 p, .int .i64 q] 36)).alloc (.cells #[.int .i64 0, .int .i64 0] 36))) := Lib.hid (Bal (Bal NN.out _) _)
 generalize ((w.alloc (.cells #[.int .i64 p, .int .i64 q] 36)).alloc (.cells #[.int .i64 0, .int .i64 0] 36)) = W1 at *
 replace hu := hu
 have U : Hid (W1.heap[g]? = some (.cells #[.int .i64 u.x1, .int .i64 u.x2, .int .i64 u.y1, .int .i64 u.y2, .int .i64 u.z1, .int .i64 u.z2] 38)) := Lib.hid ((NN.out.block g GL).trans hu)
 have LG : Hid (g < w.heap.size) := Lib.hid GL
 clear hu GL
 have HDRW := Lib.hid (Below.drew (Below.refl W1.heap.size W1))
 replace NN := Lib.hid (Bgo NN.out HDRW.out)
 replace U := Lib.hid (blk_next HDRW.out U.out)
 replace P := Lib.hid (blk_next HDRW.out P.out)
 replace R := Lib.hid (blk_next HDRW.out R.out)
 clear HDRW
 have HAL : Hid (∀ kx9 : Nat, GK [(0, w.heap.size, .cells #[.int .i64 p, .int .i64 q] 36), (1, g, .cells #[.int .i64 u.x1, .int .i64 u.x2, .int .i64 u.y1, .int .i64 u.y2, .int .i64 u.z1, .int .i64 u.z2] 38)] kx9 W1.drew) := Lib.hid (fun kx9 px9 hp e => by
  simp only [List.mem_cons, List.not_mem_nil, or_false] at hp
  rcases hp with rfl | rfl
  ·exact P.out
  ·exact U.out)
 refine region_G (S := GK [(0, w.heap.size, .cells #[.int .i64 p, .int .i64 q] 36), (1, g, .cells #[.int .i64 u.x1, .int .i64 u.x2, .int .i64 u.y1, .int .i64 u.y2, .int .i64 u.z1, .int .i64 u.z2] 38)]) (by kernel_rfl) ?_
 refine tG 0 (.agg #[.int .i64 p, .int .i64 q]) (some 7) (GK.grow _) rfl (YieldsIf.toG (Or.inl ⟨by rfl, ?_⟩)) (HAL.out 0) ?_
 ·intro X hX
  have hh := hX (0, w.heap.size, .cells #[.int .i64 p, .int .i64 q] 36) (List.Mem.head _) rfl
  have hh0 := blk_cell hh 0 _ rfl
  have hh1 := blk_cell hh 1 _ rfl
  have hhl := blk_lt hh
  clear hh
  clear hX
  go_simp
 try simp only [Act.put, zA, zB, zC]
 refine tG 1 (.agg #[.int .i64 u.x1, .int .i64 u.x2, .int .i64 u.y1, .int .i64 u.y2, .int .i64 u.z1, .int .i64 u.z2]) (some 8) (GK.grow _) rfl (YieldsIf.toG (Or.inl ⟨by rfl, ?_⟩)) (HAL.out 1) ?_
 ·intro X hX
  have hh := hX (1, g, .cells #[.int .i64 u.x1, .int .i64 u.x2, .int .i64 u.y1, .int .i64 u.y2, .int .i64 u.z1, .int .i64 u.z2] 38) (List.Mem.tail _ (List.Mem.head _)) rfl
  have hh0 := blk_cell hh 0 _ rfl
  have hh1 := blk_cell hh 1 _ rfl
  have hh2 := blk_cell hh 2 _ rfl
  have hh3 := blk_cell hh 3 _ rfl
  have hh4 := blk_cell hh 4 _ rfl
  have hh5 := blk_cell hh 5 _ rfl
  have hhl := blk_lt hh
  clear hh
  clear hX
  go_simp
 try simp only [Act.put, zA, zB, zC]
 have CFn : ∀ (args : Array Value) (W : World), Sem.run Tryz.prog (callFunc 43 args) W = .ok (.enter 43 args) W := fun _ _ => by kernel_rfl
 refine tG 2 (.agg #[.int .i64 u.x1, .int .i64 u.x2, .int .i64 u.y1, .int .i64 u.y2, .int .i64 u.z1, .int .i64 u.z2]) (some 9) (GK.grow _) rfl (yieldsG_call 43 #[.agg #[.int .i64 u.x1, .int .i64 u.x2, .int .i64 u.y1, .int .i64 u.y2, .int .i64 u.z1, .int .i64 u.z2]] (by rfl) ?_ (fun X hS => LU.out X)) (GK.drop (by simp)) ?_
 ·intro X hX
  clear hX
  go_simp
 clear CFn
 try simp only [Act.put, zA, zB, zC]
 refine tG 3 (.int .i64 1) (some 10) (GK.grow _) rfl (YieldsIf.toG (Or.inl ⟨by rfl, ?_⟩)) (GK.drop (by simp)) ?_
 ·intro X hX
  clear hX
  go_simp
 try simp only [Act.put, zA, zB, zC]
 refine tG 4 (.agg #[.int .i64 u.y1, .int .i64 u.y2]) (some 11) (GK.grow _) rfl (YieldsIf.toG (Or.inl ⟨by rfl, ?_⟩)) (GK.drop (by simp)) ?_
 ·intro X hX
  clear hX
  go_simp
 try simp only [Act.put, zA, zB, zC]
 have CFn : ∀ (args : Array Value) (W : World), Sem.run Tryz.prog (callFunc 68 args) W = .ok (.enter 68 args) W := fun _ _ => by kernel_rfl
 refine tG 5 (.tuple #[.agg #[.int .i64 r1, .int .i64 r2], .int .i64 r3]) (some 12) (GK.grow _) rfl (yieldsG_call 68 #[.agg #[.int .i64 p, .int .i64 q], .agg #[.int .i64 u.y1, .int .i64 u.y2]] (by rfl) ?_ (fun X hS => SB.out X)) (GK.drop (by simp)) ?_
 ·intro X hX
  clear hX
  go_simp
 clear CFn
 try simp only [Act.put, zA, zB, zC]
 refine tG 6 (.agg #[.int .i64 r1, .int .i64 r2]) (some 13) (GK.grow _) rfl (YieldsIf.toG (Or.inl ⟨by rfl, ?_⟩)) (GK.drop (by simp)) ?_
 ·intro X hX
  clear hX
  go_simp
 try simp only [Act.put, zA, zB, zC]
 refine tG 7 (.int .i64 r3) (some 14) (GK.grow _) rfl (YieldsIf.toG (Or.inl ⟨by rfl, ?_⟩)) (GK.drop (by simp)) ?_
 ·intro X hX
  clear hX
  go_simp
 try simp only [Act.put, zA, zB, zC]
 refine only_G 8 (by kernel_rfl) rfl (fun X2 hX K' hK' => ?_)
 replace NN := Lib.hid (Bgo NN.out hX)
 replace U := Lib.hid (blk_next hX U.out)
 replace P := Lib.hid (blk_next hX P.out)
 replace R := Lib.hid (blk_next hX R.out)
 replace HAL := Lib.hid (fun kx9 => GK.grow _ _ _ _ (HAL.out kx9) hX)
 clear hX
 have c_R_0 := blk_cell R.out 0 _ rfl
 have f_R_0 := blk_frozen R.out 0
 have c_R_1 := blk_cell R.out 1 _ rfl
 have f_R_1 := blk_frozen R.out 1
 have l_R := blk_lt R.out
 go_simp
 clear c_R_0 f_R_0 c_R_1 f_R_1 l_R
 refine hK'.out _ _ (fun kk hk hS => ?_) ?_
 ·have HN : ∀ px9 ∈ ([(0, w.heap.size, .cells #[.int .i64 p, .int .i64 q] 36), (1, g, .cells #[.int .i64 u.x1, .int .i64 u.x2, .int .i64 u.y1, .int .i64 u.y2, .int .i64 u.z1, .int .i64 u.z2] 38)] : List (Nat × Nat × Obj)), px9.1 = kk → px9.2.1 ≠ w.heap.size + 1 := fun px9 hp e => by
   simp only [List.mem_cons, List.not_mem_nil, or_false] at hp
   rcases hp with rfl | rfl
   ·subst e
    exact bfl (by kernel_rfl) hk
   ·subst e
    exact bfl (by kernel_rfl) hk
  exact GK.set (GK.set hS HN) HN
 clear hK' K'
 try simp only [Act.put, zA, zB, zC]
 clear HAL
 replace U : Hid (((X2.setCell ⟨w.heap.size + 1, 0, none⟩ (.int .i64 r1)).setCell ⟨w.heap.size + 1, 1, none⟩ (.int .i64 r2)).heap[g]? = some (.cells #[.int .i64 u.x1, .int .i64 u.x2, .int .i64 u.y1, .int .i64 u.y2, .int .i64 u.z1, .int .i64 u.z2] 38)) := Lib.hid (blk_set_other (b' := w.heap.size + 1) (blk_set_other (b' := w.heap.size + 1) (U.out) (by have := LG.out; omega) 0 (.int .i64 r1)) (by have := LG.out; omega) 1 (.int .i64 r2))
 replace P : Hid (((X2.setCell ⟨w.heap.size + 1, 0, none⟩ (.int .i64 r1)).setCell ⟨w.heap.size + 1, 1, none⟩ (.int .i64 r2)).heap[w.heap.size]? = some (.cells #[.int .i64 p, .int .i64 q] 36)) := Lib.hid (blk_set_other (b' := w.heap.size + 1) (blk_set_other (b' := w.heap.size + 1) (P.out) (by omega) 0 (.int .i64 r1)) (by omega) 1 (.int .i64 r2))
 replace R : Hid (((X2.setCell ⟨w.heap.size + 1, 0, none⟩ (.int .i64 r1)).setCell ⟨w.heap.size + 1, 1, none⟩ (.int .i64 r2)).heap[w.heap.size + 1]? = some (.cells #[.int .i64 r1, .int .i64 r2] 36)) := Lib.hid (blk_set (blk_set (R.out) 0 (.int .i64 r1)) 1 (.int .i64 r2))
 replace NN := Lib.hid (Bset1 (Bset1 (NN.out) (show w.heap.size ≤ w.heap.size + 1 by omega) 0 (.int .i64 r1)) (show w.heap.size ≤ w.heap.size + 1 by omega) 1 (.int .i64 r2))
 generalize ((X2.setCell ⟨w.heap.size + 1, 0, none⟩ (.int .i64 r1)).setCell ⟨w.heap.size + 1, 1, none⟩ (.int .i64 r2)) = W3 at *
 refine tG 9 (.int .i64 r3) (some 6) (GK.grow _) rfl (YieldsIf.toG (Or.inl ⟨by rfl, ?_⟩)) (GK.drop (by simp)) ?_
 ·intro X hX
  clear hX
  go_simp
 try simp only [Act.put, zA, zB, zC]
 refine done_G (by kernel_rfl) (fun X4 hX => ?_) _
 replace NN := Lib.hid (Bgo NN.out hX)
 replace U := Lib.hid (blk_next hX U.out)
 replace P := Lib.hid (blk_next hX P.out)
 replace R := Lib.hid (blk_next hX R.out)
 clear hX
 have c_R_0 := blk_cell R.out 0 _ rfl
 have f_R_0 := blk_frozen R.out 0
 have c_R_1 := blk_cell R.out 1 _ rfl
 have f_R_1 := blk_frozen R.out 1
 have l_R := blk_lt R.out
 go_wp2_with fail
 exact bodyPost_ret (v := .tuple #[Fv r1 r2, .int .i64 r3]) (by simp [results, Tryz.results67, go_sem, c_R_0, c_R_1]) rfl ⟨rfl, NN.out⟩
set_option maxRecDepth 100000 in
set_option maxHeartbeats 8000000 in
theorem vsub1_z (p q : Int) (u : V6) (g : Nat) (w : World) (hu : w.heap[g]? = some (.cells #[.int .i64 u.x1, .int .i64 u.x2, .int .i64 u.y1, .int .i64 u.y2, .int .i64 u.z1, .int .i64 u.z2] 38)) : Calls Tryz.prog 67 #[.int .i64 2, Fv p q, .pointer (some ⟨g, 0, none⟩)] w fun e w' => e = .returned (Rv (subR p q u.z1 u.z2)) ∧ Below w.heap.size w w' := by
 have NN := Lib.hid (Below.refl w.heap.size w)
 have GL := blk_lt hu
 have SB := Lib.hid (fun W => sub_calls p q u.z1 u.z2 W)
 have LU := Lib.hid (fun W => vlist_calls u W)
 generalize subR p q u.z1 u.z2 = r at *
 obtain ⟨r1, r2, r3⟩ := r
 go_enter Tryz.func67, Tryz.ntmps67
 go_upto_region 1 with fail
 have P : Hid (((w.alloc (.cells #[.int .i64 p, .int .i64 q] 36)).alloc (.cells #[.int .i64 0, .int .i64 0] 36)).heap[w.heap.size]? = some (.cells #[.int .i64 p, .int .i64 q] 36)) := Lib.hid (blk_alloc (blk_new w _) _)
 have R : Hid (((w.alloc (.cells #[.int .i64 p, .int .i64 q] 36)).alloc (.cells #[.int .i64 0, .int .i64 0] 36)).heap[w.heap.size + 1]? = some (.cells #[.int .i64 0, .int .i64 0] 36)) := Lib.hid (blk_at _ (by simp))
 replace NN : Hid (Below w.heap.size w ((w.alloc (.cells #[.int .i64 p, .int .i64 q] 36)).alloc (.cells #[.int .i64 0, .int .i64 0] 36))) := Lib.hid (Bal (Bal NN.out _) _)
 generalize ((w.alloc (.cells #[.int .i64 p, .int .i64 q] 36)).alloc (.cells #[.int .i64 0, .int .i64 0] 36)) = W1 at *
 replace hu := hu
 have U : Hid (W1.heap[g]? = some (.cells #[.int .i64 u.x1, .int .i64 u.x2, .int .i64 u.y1, .int .i64 u.y2, .int .i64 u.z1, .int .i64 u.z2] 38)) := Lib.hid ((NN.out.block g GL).trans hu)
 have LG : Hid (g < w.heap.size) := Lib.hid GL
 clear hu GL
 have HDRW := Lib.hid (Below.drew (Below.refl W1.heap.size W1))
 replace NN := Lib.hid (Bgo NN.out HDRW.out)
 replace U := Lib.hid (blk_next HDRW.out U.out)
 replace P := Lib.hid (blk_next HDRW.out P.out)
 replace R := Lib.hid (blk_next HDRW.out R.out)
 clear HDRW
 have HAL : Hid (∀ kx9 : Nat, GK [(0, w.heap.size, .cells #[.int .i64 p, .int .i64 q] 36), (1, g, .cells #[.int .i64 u.x1, .int .i64 u.x2, .int .i64 u.y1, .int .i64 u.y2, .int .i64 u.z1, .int .i64 u.z2] 38)] kx9 W1.drew) := Lib.hid (fun kx9 px9 hp e => by
  simp only [List.mem_cons, List.not_mem_nil, or_false] at hp
  rcases hp with rfl | rfl
  ·exact P.out
  ·exact U.out)
 refine region_G (S := GK [(0, w.heap.size, .cells #[.int .i64 p, .int .i64 q] 36), (1, g, .cells #[.int .i64 u.x1, .int .i64 u.x2, .int .i64 u.y1, .int .i64 u.y2, .int .i64 u.z1, .int .i64 u.z2] 38)]) (by kernel_rfl) ?_
 refine tG 0 (.agg #[.int .i64 p, .int .i64 q]) (some 7) (GK.grow _) rfl (YieldsIf.toG (Or.inl ⟨by rfl, ?_⟩)) (HAL.out 0) ?_
 ·intro X hX
  have hh := hX (0, w.heap.size, .cells #[.int .i64 p, .int .i64 q] 36) (List.Mem.head _) rfl
  have hh0 := blk_cell hh 0 _ rfl
  have hh1 := blk_cell hh 1 _ rfl
  have hhl := blk_lt hh
  clear hh
  clear hX
  go_simp
 try simp only [Act.put, zA, zB, zC]
 refine tG 1 (.agg #[.int .i64 u.x1, .int .i64 u.x2, .int .i64 u.y1, .int .i64 u.y2, .int .i64 u.z1, .int .i64 u.z2]) (some 8) (GK.grow _) rfl (YieldsIf.toG (Or.inl ⟨by rfl, ?_⟩)) (HAL.out 1) ?_
 ·intro X hX
  have hh := hX (1, g, .cells #[.int .i64 u.x1, .int .i64 u.x2, .int .i64 u.y1, .int .i64 u.y2, .int .i64 u.z1, .int .i64 u.z2] 38) (List.Mem.tail _ (List.Mem.head _)) rfl
  have hh0 := blk_cell hh 0 _ rfl
  have hh1 := blk_cell hh 1 _ rfl
  have hh2 := blk_cell hh 2 _ rfl
  have hh3 := blk_cell hh 3 _ rfl
  have hh4 := blk_cell hh 4 _ rfl
  have hh5 := blk_cell hh 5 _ rfl
  have hhl := blk_lt hh
  clear hh
  clear hX
  go_simp
 try simp only [Act.put, zA, zB, zC]
 have CFn : ∀ (args : Array Value) (W : World), Sem.run Tryz.prog (callFunc 43 args) W = .ok (.enter 43 args) W := fun _ _ => by kernel_rfl
 refine tG 2 (.agg #[.int .i64 u.x1, .int .i64 u.x2, .int .i64 u.y1, .int .i64 u.y2, .int .i64 u.z1, .int .i64 u.z2]) (some 9) (GK.grow _) rfl (yieldsG_call 43 #[.agg #[.int .i64 u.x1, .int .i64 u.x2, .int .i64 u.y1, .int .i64 u.y2, .int .i64 u.z1, .int .i64 u.z2]] (by rfl) ?_ (fun X hS => LU.out X)) (GK.drop (by simp)) ?_
 ·intro X hX
  clear hX
  go_simp
 clear CFn
 try simp only [Act.put, zA, zB, zC]
 refine tG 3 (.int .i64 2) (some 10) (GK.grow _) rfl (YieldsIf.toG (Or.inl ⟨by rfl, ?_⟩)) (GK.drop (by simp)) ?_
 ·intro X hX
  clear hX
  go_simp
 try simp only [Act.put, zA, zB, zC]
 refine tG 4 (.agg #[.int .i64 u.z1, .int .i64 u.z2]) (some 11) (GK.grow _) rfl (YieldsIf.toG (Or.inl ⟨by rfl, ?_⟩)) (GK.drop (by simp)) ?_
 ·intro X hX
  clear hX
  go_simp
 try simp only [Act.put, zA, zB, zC]
 have CFn : ∀ (args : Array Value) (W : World), Sem.run Tryz.prog (callFunc 68 args) W = .ok (.enter 68 args) W := fun _ _ => by kernel_rfl
 refine tG 5 (.tuple #[.agg #[.int .i64 r1, .int .i64 r2], .int .i64 r3]) (some 12) (GK.grow _) rfl (yieldsG_call 68 #[.agg #[.int .i64 p, .int .i64 q], .agg #[.int .i64 u.z1, .int .i64 u.z2]] (by rfl) ?_ (fun X hS => SB.out X)) (GK.drop (by simp)) ?_
 ·intro X hX
  clear hX
  go_simp
 clear CFn
 try simp only [Act.put, zA, zB, zC]
 refine tG 6 (.agg #[.int .i64 r1, .int .i64 r2]) (some 13) (GK.grow _) rfl (YieldsIf.toG (Or.inl ⟨by rfl, ?_⟩)) (GK.drop (by simp)) ?_
 ·intro X hX
  clear hX
  go_simp
 try simp only [Act.put, zA, zB, zC]
 refine tG 7 (.int .i64 r3) (some 14) (GK.grow _) rfl (YieldsIf.toG (Or.inl ⟨by rfl, ?_⟩)) (GK.drop (by simp)) ?_
 ·intro X hX
  clear hX
  go_simp
 try simp only [Act.put, zA, zB, zC]
 refine only_G 8 (by kernel_rfl) rfl (fun X2 hX K' hK' => ?_)
 replace NN := Lib.hid (Bgo NN.out hX)
 replace U := Lib.hid (blk_next hX U.out)
 replace P := Lib.hid (blk_next hX P.out)
 replace R := Lib.hid (blk_next hX R.out)
 replace HAL := Lib.hid (fun kx9 => GK.grow _ _ _ _ (HAL.out kx9) hX)
 clear hX
 have c_R_0 := blk_cell R.out 0 _ rfl
 have f_R_0 := blk_frozen R.out 0
 have c_R_1 := blk_cell R.out 1 _ rfl
 have f_R_1 := blk_frozen R.out 1
 have l_R := blk_lt R.out
 go_simp
 clear c_R_0 f_R_0 c_R_1 f_R_1 l_R
 refine hK'.out _ _ (fun kk hk hS => ?_) ?_
 ·have HN : ∀ px9 ∈ ([(0, w.heap.size, .cells #[.int .i64 p, .int .i64 q] 36), (1, g, .cells #[.int .i64 u.x1, .int .i64 u.x2, .int .i64 u.y1, .int .i64 u.y2, .int .i64 u.z1, .int .i64 u.z2] 38)] : List (Nat × Nat × Obj)), px9.1 = kk → px9.2.1 ≠ w.heap.size + 1 := fun px9 hp e => by
   simp only [List.mem_cons, List.not_mem_nil, or_false] at hp
   rcases hp with rfl | rfl
   ·subst e
    exact bfl (by kernel_rfl) hk
   ·subst e
    exact bfl (by kernel_rfl) hk
  exact GK.set (GK.set hS HN) HN
 clear hK' K'
 try simp only [Act.put, zA, zB, zC]
 clear HAL
 replace U : Hid (((X2.setCell ⟨w.heap.size + 1, 0, none⟩ (.int .i64 r1)).setCell ⟨w.heap.size + 1, 1, none⟩ (.int .i64 r2)).heap[g]? = some (.cells #[.int .i64 u.x1, .int .i64 u.x2, .int .i64 u.y1, .int .i64 u.y2, .int .i64 u.z1, .int .i64 u.z2] 38)) := Lib.hid (blk_set_other (b' := w.heap.size + 1) (blk_set_other (b' := w.heap.size + 1) (U.out) (by have := LG.out; omega) 0 (.int .i64 r1)) (by have := LG.out; omega) 1 (.int .i64 r2))
 replace P : Hid (((X2.setCell ⟨w.heap.size + 1, 0, none⟩ (.int .i64 r1)).setCell ⟨w.heap.size + 1, 1, none⟩ (.int .i64 r2)).heap[w.heap.size]? = some (.cells #[.int .i64 p, .int .i64 q] 36)) := Lib.hid (blk_set_other (b' := w.heap.size + 1) (blk_set_other (b' := w.heap.size + 1) (P.out) (by omega) 0 (.int .i64 r1)) (by omega) 1 (.int .i64 r2))
 replace R : Hid (((X2.setCell ⟨w.heap.size + 1, 0, none⟩ (.int .i64 r1)).setCell ⟨w.heap.size + 1, 1, none⟩ (.int .i64 r2)).heap[w.heap.size + 1]? = some (.cells #[.int .i64 r1, .int .i64 r2] 36)) := Lib.hid (blk_set (blk_set (R.out) 0 (.int .i64 r1)) 1 (.int .i64 r2))
 replace NN := Lib.hid (Bset1 (Bset1 (NN.out) (show w.heap.size ≤ w.heap.size + 1 by omega) 0 (.int .i64 r1)) (show w.heap.size ≤ w.heap.size + 1 by omega) 1 (.int .i64 r2))
 generalize ((X2.setCell ⟨w.heap.size + 1, 0, none⟩ (.int .i64 r1)).setCell ⟨w.heap.size + 1, 1, none⟩ (.int .i64 r2)) = W3 at *
 refine tG 9 (.int .i64 r3) (some 6) (GK.grow _) rfl (YieldsIf.toG (Or.inl ⟨by rfl, ?_⟩)) (GK.drop (by simp)) ?_
 ·intro X hX
  clear hX
  go_simp
 try simp only [Act.put, zA, zB, zC]
 refine done_G (by kernel_rfl) (fun X4 hX => ?_) _
 replace NN := Lib.hid (Bgo NN.out hX)
 replace U := Lib.hid (blk_next hX U.out)
 replace P := Lib.hid (blk_next hX P.out)
 replace R := Lib.hid (blk_next hX R.out)
 clear hX
 have c_R_0 := blk_cell R.out 0 _ rfl
 have f_R_0 := blk_frozen R.out 0
 have c_R_1 := blk_cell R.out 1 _ rfl
 have f_R_1 := blk_frozen R.out 1
 have l_R := blk_lt R.out
 go_wp2_with fail
 exact bodyPost_ret (v := .tuple #[Fv r1 r2, .int .i64 r3]) (by simp [results, Tryz.results67, go_sem, c_R_0, c_R_1]) rfl ⟨rfl, NN.out⟩
set_option maxRecDepth 100000 in
set_option maxHeartbeats 8000000 in
theorem veachsub_calls (v u : V6) (h : SubOk v u) (g : Nat) (w : World) (hu : w.heap[g]? = some (.cells #[.int .i64 u.x1, .int .i64 u.x2, .int .i64 u.y1, .int .i64 u.y2, .int .i64 u.z1, .int .i64 u.z2] 38)) : Calls Tryz.prog 42 #[Vv v, .func (.func 67) #[] #[.pointer (some ⟨g, 0, none⟩)]] w fun e w' => e = .returned (.tuple #[Vv (subV v u), .int .i64 0]) ∧ Below w.heap.size w w' := by
 have NN := Lib.hid (Below.refl w.heap.size w)
 have GL := blk_lt hu
 obtain ⟨E1, E2, Ex, Ey, Ez⟩ := h
 have X0 := Lib.hid (fun (W : World) (hW : W.heap[g]? = some (.cells #[.int .i64 u.x1, .int .i64 u.x2, .int .i64 u.y1, .int .i64 u.y2, .int .i64 u.z1, .int .i64 u.z2] 38)) => vsub1_x v.x1 v.x2 u g W hW)
 have X1 := Lib.hid (fun (W : World) (hW : W.heap[g]? = some (.cells #[.int .i64 u.x1, .int .i64 u.x2, .int .i64 u.y1, .int .i64 u.y2, .int .i64 u.z1, .int .i64 u.z2] 38)) => vsub1_y v.y1 v.y2 u g W hW)
 have X2 := Lib.hid (fun (W : World) (hW : W.heap[g]? = some (.cells #[.int .i64 u.x1, .int .i64 u.x2, .int .i64 u.y1, .int .i64 u.y2, .int .i64 u.z1, .int .i64 u.z2] 38)) => vsub1_z v.z1 v.z2 u g W hW)
 have DV : Hid (subV v u = ⟨(subR v.x1 v.x2 u.x1 u.x2).1, (subR v.x1 v.x2 u.x1 u.x2).2.1, (subR v.y1 v.y2 u.y1 u.y2).1, (subR v.y1 v.y2 u.y1 u.y2).2.1, (subR v.z1 v.z2 u.z1 u.z2).1, (subR v.z1 v.z2 u.z1 u.z2).2.1⟩) := Lib.hid rfl
 generalize subV v u = r at *
 generalize subR v.x1 v.x2 u.x1 u.x2 = x at *
 generalize subR v.y1 v.y2 u.y1 u.y2 = y at *
 generalize subR v.z1 v.z2 u.z1 u.z2 = z at *
 obtain ⟨x1, x2, x3⟩ := x
 obtain ⟨y1, y2, y3⟩ := y
 obtain ⟨z1, z2, z3⟩ := z
 simp only at Ex Ey Ez
 subst Ex Ey Ez
 clear E1 E2
 have CF : ∀ (args : Array Value) (W : World), Sem.run Tryz.prog (callFunc 67 args) W = .ok (.enter 67 args) W := fun _ _ => by kernel_rfl
 go_enter Tryz.func42, Tryz.ntmps42
 go_wp2_with fail
 have L : Hid ((((w.alloc (.cells #[.int .i64 v.x1, .int .i64 v.x2, .int .i64 v.y1, .int .i64 v.y2, .int .i64 v.z1, .int .i64 v.z2] 93)).alloc (.cells #[.int .i64 0, .int .i64 0, .int .i64 0, .int .i64 0, .int .i64 0, .int .i64 0] 38)).alloc (.cells #[.int .i64 0, .int .i64 0, .int .i64 0, .int .i64 0, .int .i64 0, .int .i64 0] 93)).heap[w.heap.size]? = some (.cells #[.int .i64 v.x1, .int .i64 v.x2, .int .i64 v.y1, .int .i64 v.y2, .int .i64 v.z1, .int .i64 v.z2] 93)) := Lib.hid (blk_alloc (blk_alloc (blk_new w _) _) _)
 have RS : Hid ((((w.alloc (.cells #[.int .i64 v.x1, .int .i64 v.x2, .int .i64 v.y1, .int .i64 v.y2, .int .i64 v.z1, .int .i64 v.z2] 93)).alloc (.cells #[.int .i64 0, .int .i64 0, .int .i64 0, .int .i64 0, .int .i64 0, .int .i64 0] 38)).alloc (.cells #[.int .i64 0, .int .i64 0, .int .i64 0, .int .i64 0, .int .i64 0, .int .i64 0] 93)).heap[w.heap.size + 1]? = some (.cells #[.int .i64 0, .int .i64 0, .int .i64 0, .int .i64 0, .int .i64 0, .int .i64 0] 38)) := Lib.hid (blk_alloc (blk_at _ (by simp)) _)
 have RW : Hid ((((w.alloc (.cells #[.int .i64 v.x1, .int .i64 v.x2, .int .i64 v.y1, .int .i64 v.y2, .int .i64 v.z1, .int .i64 v.z2] 93)).alloc (.cells #[.int .i64 0, .int .i64 0, .int .i64 0, .int .i64 0, .int .i64 0, .int .i64 0] 38)).alloc (.cells #[.int .i64 0, .int .i64 0, .int .i64 0, .int .i64 0, .int .i64 0, .int .i64 0] 93)).heap[w.heap.size + 1 + 1]? = some (.cells #[.int .i64 0, .int .i64 0, .int .i64 0, .int .i64 0, .int .i64 0, .int .i64 0] 93)) := Lib.hid (blk_at _ (by simp))
 replace NN : Hid (Below w.heap.size w (((w.alloc (.cells #[.int .i64 v.x1, .int .i64 v.x2, .int .i64 v.y1, .int .i64 v.y2, .int .i64 v.z1, .int .i64 v.z2] 93)).alloc (.cells #[.int .i64 0, .int .i64 0, .int .i64 0, .int .i64 0, .int .i64 0, .int .i64 0] 38)).alloc (.cells #[.int .i64 0, .int .i64 0, .int .i64 0, .int .i64 0, .int .i64 0, .int .i64 0] 93))) := Lib.hid (Bal (Bal (Bal NN.out _) _) _)
 generalize (((w.alloc (.cells #[.int .i64 v.x1, .int .i64 v.x2, .int .i64 v.y1, .int .i64 v.y2, .int .i64 v.z1, .int .i64 v.z2] 93)).alloc (.cells #[.int .i64 0, .int .i64 0, .int .i64 0, .int .i64 0, .int .i64 0, .int .i64 0] 38)).alloc (.cells #[.int .i64 0, .int .i64 0, .int .i64 0, .int .i64 0, .int .i64 0, .int .i64 0] 93)) = W1 at *
 have U : Hid (W1.heap[g]? = some (.cells #[.int .i64 u.x1, .int .i64 u.x2, .int .i64 u.y1, .int .i64 u.y2, .int .i64 u.z1, .int .i64 u.z2] 38)) := Lib.hid ((NN.out.block g GL).trans hu)
 have LG : Hid (g < w.heap.size) := Lib.hid GL
 clear hu GL
 go_loopw [12] (fun i wr => ∃ k : Nat, k ≤ 3 ∧ i = .int .i64 k ∧ Hid (Below w.heap.size w wr) ∧ Hid (wr.heap[g]? = some (.cells #[.int .i64 u.x1, .int .i64 u.x2, .int .i64 u.y1, .int .i64 u.y2, .int .i64 u.z1, .int .i64 u.z2] 38)) ∧ Hid (wr.heap[w.heap.size + 1]? = some (.cells #[.int .i64 0, .int .i64 0, .int .i64 0, .int .i64 0, .int .i64 0, .int .i64 0] 38)) ∧ Hid (wr.heap[w.heap.size + 1 + 1]? = some (.cells #[.int .i64 (if 0 < k then x1 else 0), .int .i64 (if 0 < k then x2 else 0), .int .i64 (if 1 < k then y1 else 0), .int .i64 (if 1 < k then y2 else 0), .int .i64 (if 2 < k then z1 else 0), .int .i64 (if 2 < k then z2 else 0)] 93))) (fun i _ => 3 - (intOf i).toNat)
 case atStart => exact ⟨0, by omega, rfl, NN, U, RS, RW⟩
 case round =>
  clear NN U RS RW L
  obtain ⟨k, hk, rfl, NN, U, RS, RW⟩ := hrel
  have hk4 : k = 0 ∨ k = 1 ∨ k = 2 ∨ k = 3 := by omega
  rcases hk4 with rfl | rfl | rfl | rfl
  ·replace RW : Hid (wr.heap[w.heap.size + 1 + 1]? = some (.cells #[.int .i64 0, .int .i64 0, .int .i64 0, .int .i64 0, .int .i64 0, .int .i64 0] 93)) := Lib.hid (by simpa using RW.out)
   clear X1 X2
   go_wp2_with fail
   have HB := Lib.hid (Bal (Below.refl wr.heap.size wr) (.cells #[.int .i64 v.x1, .int .i64 v.x2] 36))
   replace NN := Lib.hid (Bgo NN.out HB.out)
   replace U := Lib.hid (blk_next HB.out U.out)
   replace RS := Lib.hid (blk_next HB.out RS.out)
   replace RW := Lib.hid (blk_next HB.out RW.out)
   clear HB
   refine (X0.out _ U.out).mono ?_
   rintro e w2 ⟨rfl, hb⟩
   replace NN := Lib.hid (Bgo NN.out hb)
   replace U := Lib.hid (blk_next hb U.out)
   replace RS := Lib.hid (blk_next hb RS.out)
   replace RW := Lib.hid (blk_next hb RW.out)
   clear hb
   have HB := Lib.hid (show Below w2.heap.size w2 (w2.alloc (.cells #[.int .i64 x1, .int .i64 x2] 36)) from (Bal (Below.refl _ _) _))
   have Q : Hid ((w2.alloc (.cells #[.int .i64 x1, .int .i64 x2] 36)).heap[w2.heap.size]? = some (.cells #[.int .i64 x1, .int .i64 x2] 36)) := Lib.hid (blk_new w2 _)
   have LT_Q : Hid (g < w2.heap.size ∧ w.heap.size + 1 < w2.heap.size ∧ w.heap.size + 1 + 1 < w2.heap.size ∧ w.heap.size ≤ w2.heap.size) := Lib.hid ⟨blk_lt U.out, blk_lt RS.out, blk_lt RW.out, NN.out.size⟩
   replace NN := Lib.hid (Bgo NN.out HB.out)
   replace U := Lib.hid (blk_next HB.out U.out)
   replace RS := Lib.hid (blk_next HB.out RS.out)
   replace RW := Lib.hid (blk_next HB.out RW.out)
   clear HB
   have c_Q_0 := blk_cell Q.out 0 _ rfl
   have f_Q_0 := blk_frozen Q.out 0
   have c_Q_1 := blk_cell Q.out 1 _ rfl
   have f_Q_1 := blk_frozen Q.out 1
   have l_Q := blk_lt Q.out
   have c_RW_0 := blk_cell RW.out 0 _ rfl
   have f_RW_0 := blk_frozen RW.out 0
   have c_RW_1 := blk_cell RW.out 1 _ rfl
   have f_RW_1 := blk_frozen RW.out 1
   have c_RW_2 := blk_cell RW.out 2 _ rfl
   have f_RW_2 := blk_frozen RW.out 2
   have c_RW_3 := blk_cell RW.out 3 _ rfl
   have f_RW_3 := blk_frozen RW.out 3
   have c_RW_4 := blk_cell RW.out 4 _ rfl
   have f_RW_4 := blk_frozen RW.out 4
   have c_RW_5 := blk_cell RW.out 5 _ rfl
   have f_RW_5 := blk_frozen RW.out 5
   have l_RW := blk_lt RW.out
   go_wp2_with fail
   clear c_Q_0 f_Q_0 c_Q_1 f_Q_1 l_Q c_RW_0 f_RW_0 c_RW_1 f_RW_1 c_RW_2 f_RW_2 c_RW_3 f_RW_3 c_RW_4 f_RW_4 c_RW_5 f_RW_5 l_RW
   generalize (w2.alloc (.cells #[.int .i64 x1, .int .i64 x2] 36)) = W3 at *
   generalize w2.heap.size = gQ at *
   replace U : Hid (((W3.setCell ⟨w.heap.size + 1 + 1, 0, none⟩ (.int .i64 x1)).setCell ⟨w.heap.size + 1 + 1, 1, none⟩ (.int .i64 x2)).heap[g]? = some (.cells #[.int .i64 u.x1, .int .i64 u.x2, .int .i64 u.y1, .int .i64 u.y2, .int .i64 u.z1, .int .i64 u.z2] 38)) := Lib.hid (blk_set_other (b' := w.heap.size + 1 + 1) (blk_set_other (b' := w.heap.size + 1 + 1) (U.out) (by have := LG.out; omega) 0 (.int .i64 x1)) (by have := LG.out; omega) 1 (.int .i64 x2))
   replace RS : Hid (((W3.setCell ⟨w.heap.size + 1 + 1, 0, none⟩ (.int .i64 x1)).setCell ⟨w.heap.size + 1 + 1, 1, none⟩ (.int .i64 x2)).heap[w.heap.size + 1]? = some (.cells #[.int .i64 0, .int .i64 0, .int .i64 0, .int .i64 0, .int .i64 0, .int .i64 0] 38)) := Lib.hid (blk_set_other (b' := w.heap.size + 1 + 1) (blk_set_other (b' := w.heap.size + 1 + 1) (RS.out) (by omega) 0 (.int .i64 x1)) (by omega) 1 (.int .i64 x2))
   replace RW : Hid (((W3.setCell ⟨w.heap.size + 1 + 1, 0, none⟩ (.int .i64 x1)).setCell ⟨w.heap.size + 1 + 1, 1, none⟩ (.int .i64 x2)).heap[w.heap.size + 1 + 1]? = some (.cells #[.int .i64 x1, .int .i64 x2, .int .i64 0, .int .i64 0, .int .i64 0, .int .i64 0] 93)) := Lib.hid (blk_set (blk_set (RW.out) 0 (.int .i64 x1)) 1 (.int .i64 x2))
   replace Q : Hid (((W3.setCell ⟨w.heap.size + 1 + 1, 0, none⟩ (.int .i64 x1)).setCell ⟨w.heap.size + 1 + 1, 1, none⟩ (.int .i64 x2)).heap[gQ]? = some (.cells #[.int .i64 x1, .int .i64 x2] 36)) := Lib.hid (blk_set_other (b' := w.heap.size + 1 + 1) (blk_set_other (b' := w.heap.size + 1 + 1) (Q.out) (by have := LT_Q.out; omega) 0 (.int .i64 x1)) (by have := LT_Q.out; omega) 1 (.int .i64 x2))
   replace NN := Lib.hid (Bset1 (Bset1 (NN.out) (show w.heap.size ≤ w.heap.size + 1 + 1 by omega) 0 (.int .i64 x1)) (show w.heap.size ≤ w.heap.size + 1 + 1 by omega) 1 (.int .i64 x2))
   generalize ((W3.setCell ⟨w.heap.size + 1 + 1, 0, none⟩ (.int .i64 x1)).setCell ⟨w.heap.size + 1 + 1, 1, none⟩ (.int .i64 x2)) = W4 at *
   go_roundw
   case rel => exact ⟨1, by omega, by go_num, NN, U, RS, Lib.hid (by simpa using RW.out)⟩
   case measure => simp [intOf]
  ·replace RW : Hid (wr.heap[w.heap.size + 1 + 1]? = some (.cells #[.int .i64 x1, .int .i64 x2, .int .i64 0, .int .i64 0, .int .i64 0, .int .i64 0] 93)) := Lib.hid (by simpa using RW.out)
   clear X0 X2
   go_wp2_with fail
   have HB := Lib.hid (Bal (Below.refl wr.heap.size wr) (.cells #[.int .i64 v.y1, .int .i64 v.y2] 36))
   replace NN := Lib.hid (Bgo NN.out HB.out)
   replace U := Lib.hid (blk_next HB.out U.out)
   replace RS := Lib.hid (blk_next HB.out RS.out)
   replace RW := Lib.hid (blk_next HB.out RW.out)
   clear HB
   refine (X1.out _ U.out).mono ?_
   rintro e w5 ⟨rfl, hb⟩
   replace NN := Lib.hid (Bgo NN.out hb)
   replace U := Lib.hid (blk_next hb U.out)
   replace RS := Lib.hid (blk_next hb RS.out)
   replace RW := Lib.hid (blk_next hb RW.out)
   clear hb
   have HB := Lib.hid (show Below w5.heap.size w5 (w5.alloc (.cells #[.int .i64 y1, .int .i64 y2] 36)) from (Bal (Below.refl _ _) _))
   have Q : Hid ((w5.alloc (.cells #[.int .i64 y1, .int .i64 y2] 36)).heap[w5.heap.size]? = some (.cells #[.int .i64 y1, .int .i64 y2] 36)) := Lib.hid (blk_new w5 _)
   have LT_Q : Hid (g < w5.heap.size ∧ w.heap.size + 1 < w5.heap.size ∧ w.heap.size + 1 + 1 < w5.heap.size ∧ w.heap.size ≤ w5.heap.size) := Lib.hid ⟨blk_lt U.out, blk_lt RS.out, blk_lt RW.out, NN.out.size⟩
   replace NN := Lib.hid (Bgo NN.out HB.out)
   replace U := Lib.hid (blk_next HB.out U.out)
   replace RS := Lib.hid (blk_next HB.out RS.out)
   replace RW := Lib.hid (blk_next HB.out RW.out)
   clear HB
   have c_Q_0 := blk_cell Q.out 0 _ rfl
   have f_Q_0 := blk_frozen Q.out 0
   have c_Q_1 := blk_cell Q.out 1 _ rfl
   have f_Q_1 := blk_frozen Q.out 1
   have l_Q := blk_lt Q.out
   have c_RW_0 := blk_cell RW.out 0 _ rfl
   have f_RW_0 := blk_frozen RW.out 0
   have c_RW_1 := blk_cell RW.out 1 _ rfl
   have f_RW_1 := blk_frozen RW.out 1
   have c_RW_2 := blk_cell RW.out 2 _ rfl
   have f_RW_2 := blk_frozen RW.out 2
   have c_RW_3 := blk_cell RW.out 3 _ rfl
   have f_RW_3 := blk_frozen RW.out 3
   have c_RW_4 := blk_cell RW.out 4 _ rfl
   have f_RW_4 := blk_frozen RW.out 4
   have c_RW_5 := blk_cell RW.out 5 _ rfl
   have f_RW_5 := blk_frozen RW.out 5
   have l_RW := blk_lt RW.out
   go_wp2_with fail
   clear c_Q_0 f_Q_0 c_Q_1 f_Q_1 l_Q c_RW_0 f_RW_0 c_RW_1 f_RW_1 c_RW_2 f_RW_2 c_RW_3 f_RW_3 c_RW_4 f_RW_4 c_RW_5 f_RW_5 l_RW
   generalize (w5.alloc (.cells #[.int .i64 y1, .int .i64 y2] 36)) = W6 at *
   generalize w5.heap.size = gQ at *
   replace U : Hid (((W6.setCell ⟨w.heap.size + 1 + 1, 2, none⟩ (.int .i64 y1)).setCell ⟨w.heap.size + 1 + 1, 3, none⟩ (.int .i64 y2)).heap[g]? = some (.cells #[.int .i64 u.x1, .int .i64 u.x2, .int .i64 u.y1, .int .i64 u.y2, .int .i64 u.z1, .int .i64 u.z2] 38)) := Lib.hid (blk_set_other (b' := w.heap.size + 1 + 1) (blk_set_other (b' := w.heap.size + 1 + 1) (U.out) (by have := LG.out; omega) 2 (.int .i64 y1)) (by have := LG.out; omega) 3 (.int .i64 y2))
   replace RS : Hid (((W6.setCell ⟨w.heap.size + 1 + 1, 2, none⟩ (.int .i64 y1)).setCell ⟨w.heap.size + 1 + 1, 3, none⟩ (.int .i64 y2)).heap[w.heap.size + 1]? = some (.cells #[.int .i64 0, .int .i64 0, .int .i64 0, .int .i64 0, .int .i64 0, .int .i64 0] 38)) := Lib.hid (blk_set_other (b' := w.heap.size + 1 + 1) (blk_set_other (b' := w.heap.size + 1 + 1) (RS.out) (by omega) 2 (.int .i64 y1)) (by omega) 3 (.int .i64 y2))
   replace RW : Hid (((W6.setCell ⟨w.heap.size + 1 + 1, 2, none⟩ (.int .i64 y1)).setCell ⟨w.heap.size + 1 + 1, 3, none⟩ (.int .i64 y2)).heap[w.heap.size + 1 + 1]? = some (.cells #[.int .i64 x1, .int .i64 x2, .int .i64 y1, .int .i64 y2, .int .i64 0, .int .i64 0] 93)) := Lib.hid (blk_set (blk_set (RW.out) 2 (.int .i64 y1)) 3 (.int .i64 y2))
   replace Q : Hid (((W6.setCell ⟨w.heap.size + 1 + 1, 2, none⟩ (.int .i64 y1)).setCell ⟨w.heap.size + 1 + 1, 3, none⟩ (.int .i64 y2)).heap[gQ]? = some (.cells #[.int .i64 y1, .int .i64 y2] 36)) := Lib.hid (blk_set_other (b' := w.heap.size + 1 + 1) (blk_set_other (b' := w.heap.size + 1 + 1) (Q.out) (by have := LT_Q.out; omega) 2 (.int .i64 y1)) (by have := LT_Q.out; omega) 3 (.int .i64 y2))
   replace NN := Lib.hid (Bset1 (Bset1 (NN.out) (show w.heap.size ≤ w.heap.size + 1 + 1 by omega) 2 (.int .i64 y1)) (show w.heap.size ≤ w.heap.size + 1 + 1 by omega) 3 (.int .i64 y2))
   generalize ((W6.setCell ⟨w.heap.size + 1 + 1, 2, none⟩ (.int .i64 y1)).setCell ⟨w.heap.size + 1 + 1, 3, none⟩ (.int .i64 y2)) = W7 at *
   go_roundw
   case rel => exact ⟨2, by omega, by go_num, NN, U, RS, Lib.hid (by simpa using RW.out)⟩
   case measure => simp [intOf]
  ·replace RW : Hid (wr.heap[w.heap.size + 1 + 1]? = some (.cells #[.int .i64 x1, .int .i64 x2, .int .i64 y1, .int .i64 y2, .int .i64 0, .int .i64 0] 93)) := Lib.hid (by simpa using RW.out)
   clear X0 X1
   go_wp2_with fail
   have HB := Lib.hid (Bal (Below.refl wr.heap.size wr) (.cells #[.int .i64 v.z1, .int .i64 v.z2] 36))
   replace NN := Lib.hid (Bgo NN.out HB.out)
   replace U := Lib.hid (blk_next HB.out U.out)
   replace RS := Lib.hid (blk_next HB.out RS.out)
   replace RW := Lib.hid (blk_next HB.out RW.out)
   clear HB
   refine (X2.out _ U.out).mono ?_
   rintro e w8 ⟨rfl, hb⟩
   replace NN := Lib.hid (Bgo NN.out hb)
   replace U := Lib.hid (blk_next hb U.out)
   replace RS := Lib.hid (blk_next hb RS.out)
   replace RW := Lib.hid (blk_next hb RW.out)
   clear hb
   have HB := Lib.hid (show Below w8.heap.size w8 (w8.alloc (.cells #[.int .i64 z1, .int .i64 z2] 36)) from (Bal (Below.refl _ _) _))
   have Q : Hid ((w8.alloc (.cells #[.int .i64 z1, .int .i64 z2] 36)).heap[w8.heap.size]? = some (.cells #[.int .i64 z1, .int .i64 z2] 36)) := Lib.hid (blk_new w8 _)
   have LT_Q : Hid (g < w8.heap.size ∧ w.heap.size + 1 < w8.heap.size ∧ w.heap.size + 1 + 1 < w8.heap.size ∧ w.heap.size ≤ w8.heap.size) := Lib.hid ⟨blk_lt U.out, blk_lt RS.out, blk_lt RW.out, NN.out.size⟩
   replace NN := Lib.hid (Bgo NN.out HB.out)
   replace U := Lib.hid (blk_next HB.out U.out)
   replace RS := Lib.hid (blk_next HB.out RS.out)
   replace RW := Lib.hid (blk_next HB.out RW.out)
   clear HB
   have c_Q_0 := blk_cell Q.out 0 _ rfl
   have f_Q_0 := blk_frozen Q.out 0
   have c_Q_1 := blk_cell Q.out 1 _ rfl
   have f_Q_1 := blk_frozen Q.out 1
   have l_Q := blk_lt Q.out
   have c_RW_0 := blk_cell RW.out 0 _ rfl
   have f_RW_0 := blk_frozen RW.out 0
   have c_RW_1 := blk_cell RW.out 1 _ rfl
   have f_RW_1 := blk_frozen RW.out 1
   have c_RW_2 := blk_cell RW.out 2 _ rfl
   have f_RW_2 := blk_frozen RW.out 2
   have c_RW_3 := blk_cell RW.out 3 _ rfl
   have f_RW_3 := blk_frozen RW.out 3
   have c_RW_4 := blk_cell RW.out 4 _ rfl
   have f_RW_4 := blk_frozen RW.out 4
   have c_RW_5 := blk_cell RW.out 5 _ rfl
   have f_RW_5 := blk_frozen RW.out 5
   have l_RW := blk_lt RW.out
   go_wp2_with fail
   clear c_Q_0 f_Q_0 c_Q_1 f_Q_1 l_Q c_RW_0 f_RW_0 c_RW_1 f_RW_1 c_RW_2 f_RW_2 c_RW_3 f_RW_3 c_RW_4 f_RW_4 c_RW_5 f_RW_5 l_RW
   generalize (w8.alloc (.cells #[.int .i64 z1, .int .i64 z2] 36)) = W9 at *
   generalize w8.heap.size = gQ at *
   replace U : Hid (((W9.setCell ⟨w.heap.size + 1 + 1, 4, none⟩ (.int .i64 z1)).setCell ⟨w.heap.size + 1 + 1, 5, none⟩ (.int .i64 z2)).heap[g]? = some (.cells #[.int .i64 u.x1, .int .i64 u.x2, .int .i64 u.y1, .int .i64 u.y2, .int .i64 u.z1, .int .i64 u.z2] 38)) := Lib.hid (blk_set_other (b' := w.heap.size + 1 + 1) (blk_set_other (b' := w.heap.size + 1 + 1) (U.out) (by have := LG.out; omega) 4 (.int .i64 z1)) (by have := LG.out; omega) 5 (.int .i64 z2))
   replace RS : Hid (((W9.setCell ⟨w.heap.size + 1 + 1, 4, none⟩ (.int .i64 z1)).setCell ⟨w.heap.size + 1 + 1, 5, none⟩ (.int .i64 z2)).heap[w.heap.size + 1]? = some (.cells #[.int .i64 0, .int .i64 0, .int .i64 0, .int .i64 0, .int .i64 0, .int .i64 0] 38)) := Lib.hid (blk_set_other (b' := w.heap.size + 1 + 1) (blk_set_other (b' := w.heap.size + 1 + 1) (RS.out) (by omega) 4 (.int .i64 z1)) (by omega) 5 (.int .i64 z2))
   replace RW : Hid (((W9.setCell ⟨w.heap.size + 1 + 1, 4, none⟩ (.int .i64 z1)).setCell ⟨w.heap.size + 1 + 1, 5, none⟩ (.int .i64 z2)).heap[w.heap.size + 1 + 1]? = some (.cells #[.int .i64 x1, .int .i64 x2, .int .i64 y1, .int .i64 y2, .int .i64 z1, .int .i64 z2] 93)) := Lib.hid (blk_set (blk_set (RW.out) 4 (.int .i64 z1)) 5 (.int .i64 z2))
   replace Q : Hid (((W9.setCell ⟨w.heap.size + 1 + 1, 4, none⟩ (.int .i64 z1)).setCell ⟨w.heap.size + 1 + 1, 5, none⟩ (.int .i64 z2)).heap[gQ]? = some (.cells #[.int .i64 z1, .int .i64 z2] 36)) := Lib.hid (blk_set_other (b' := w.heap.size + 1 + 1) (blk_set_other (b' := w.heap.size + 1 + 1) (Q.out) (by have := LT_Q.out; omega) 4 (.int .i64 z1)) (by have := LT_Q.out; omega) 5 (.int .i64 z2))
   replace NN := Lib.hid (Bset1 (Bset1 (NN.out) (show w.heap.size ≤ w.heap.size + 1 + 1 by omega) 4 (.int .i64 z1)) (show w.heap.size ≤ w.heap.size + 1 + 1 by omega) 5 (.int .i64 z2))
   generalize ((W9.setCell ⟨w.heap.size + 1 + 1, 4, none⟩ (.int .i64 z1)).setCell ⟨w.heap.size + 1 + 1, 5, none⟩ (.int .i64 z2)) = W10 at *
   go_roundw
   case rel => exact ⟨3, by omega, by go_num, NN, U, RS, Lib.hid (by simpa using RW.out)⟩
   case measure => simp [intOf]
  ·replace RW : Hid (wr.heap[w.heap.size + 1 + 1]? = some (.cells #[.int .i64 x1, .int .i64 x2, .int .i64 y1, .int .i64 y2, .int .i64 z1, .int .i64 z2] 93)) := Lib.hid (by simpa using RW.out)
   have DW := DV.out
   subst DW
   clear X0 X1 X2
   have c_RW_0 := blk_cell RW.out 0 _ rfl
   have f_RW_0 := blk_frozen RW.out 0
   have c_RW_1 := blk_cell RW.out 1 _ rfl
   have f_RW_1 := blk_frozen RW.out 1
   have c_RW_2 := blk_cell RW.out 2 _ rfl
   have f_RW_2 := blk_frozen RW.out 2
   have c_RW_3 := blk_cell RW.out 3 _ rfl
   have f_RW_3 := blk_frozen RW.out 3
   have c_RW_4 := blk_cell RW.out 4 _ rfl
   have f_RW_4 := blk_frozen RW.out 4
   have c_RW_5 := blk_cell RW.out 5 _ rfl
   have f_RW_5 := blk_frozen RW.out 5
   have l_RW := blk_lt RW.out
   have c_RS_0 := blk_cell RS.out 0 _ rfl
   have f_RS_0 := blk_frozen RS.out 0
   have c_RS_1 := blk_cell RS.out 1 _ rfl
   have f_RS_1 := blk_frozen RS.out 1
   have c_RS_2 := blk_cell RS.out 2 _ rfl
   have f_RS_2 := blk_frozen RS.out 2
   have c_RS_3 := blk_cell RS.out 3 _ rfl
   have f_RS_3 := blk_frozen RS.out 3
   have c_RS_4 := blk_cell RS.out 4 _ rfl
   have f_RS_4 := blk_frozen RS.out 4
   have c_RS_5 := blk_cell RS.out 5 _ rfl
   have f_RS_5 := blk_frozen RS.out 5
   have l_RS := blk_lt RS.out
   go_wp2_with fail
   clear c_RW_0 f_RW_0 c_RW_1 f_RW_1 c_RW_2 f_RW_2 c_RW_3 f_RW_3 c_RW_4 f_RW_4 c_RW_5 f_RW_5 l_RW c_RS_0 f_RS_0 c_RS_1 f_RS_1 c_RS_2 f_RS_2 c_RS_3 f_RS_3 c_RS_4 f_RS_4 c_RS_5 f_RS_5 l_RS
   replace U : Hid (((((((wr.setCell ⟨w.heap.size + 1, 0, none⟩ (.int .i64 x1)).setCell ⟨w.heap.size + 1, 1, none⟩ (.int .i64 x2)).setCell ⟨w.heap.size + 1, 2, none⟩ (.int .i64 y1)).setCell ⟨w.heap.size + 1, 3, none⟩ (.int .i64 y2)).setCell ⟨w.heap.size + 1, 4, none⟩ (.int .i64 z1)).setCell ⟨w.heap.size + 1, 5, none⟩ (.int .i64 z2)).heap[g]? = some (.cells #[.int .i64 u.x1, .int .i64 u.x2, .int .i64 u.y1, .int .i64 u.y2, .int .i64 u.z1, .int .i64 u.z2] 38)) := Lib.hid (blk_set_other (b' := w.heap.size + 1) (blk_set_other (b' := w.heap.size + 1) (blk_set_other (b' := w.heap.size + 1) (blk_set_other (b' := w.heap.size + 1) (blk_set_other (b' := w.heap.size + 1) (blk_set_other (b' := w.heap.size + 1) (U.out) (by have := LG.out; omega) 0 (.int .i64 x1)) (by have := LG.out; omega) 1 (.int .i64 x2)) (by have := LG.out; omega) 2 (.int .i64 y1)) (by have := LG.out; omega) 3 (.int .i64 y2)) (by have := LG.out; omega) 4 (.int .i64 z1)) (by have := LG.out; omega) 5 (.int .i64 z2))
   replace RS : Hid (((((((wr.setCell ⟨w.heap.size + 1, 0, none⟩ (.int .i64 x1)).setCell ⟨w.heap.size + 1, 1, none⟩ (.int .i64 x2)).setCell ⟨w.heap.size + 1, 2, none⟩ (.int .i64 y1)).setCell ⟨w.heap.size + 1, 3, none⟩ (.int .i64 y2)).setCell ⟨w.heap.size + 1, 4, none⟩ (.int .i64 z1)).setCell ⟨w.heap.size + 1, 5, none⟩ (.int .i64 z2)).heap[w.heap.size + 1]? = some (.cells #[.int .i64 x1, .int .i64 x2, .int .i64 y1, .int .i64 y2, .int .i64 z1, .int .i64 z2] 38)) := Lib.hid (blk_set (blk_set (blk_set (blk_set (blk_set (blk_set (RS.out) 0 (.int .i64 x1)) 1 (.int .i64 x2)) 2 (.int .i64 y1)) 3 (.int .i64 y2)) 4 (.int .i64 z1)) 5 (.int .i64 z2))
   replace RW : Hid (((((((wr.setCell ⟨w.heap.size + 1, 0, none⟩ (.int .i64 x1)).setCell ⟨w.heap.size + 1, 1, none⟩ (.int .i64 x2)).setCell ⟨w.heap.size + 1, 2, none⟩ (.int .i64 y1)).setCell ⟨w.heap.size + 1, 3, none⟩ (.int .i64 y2)).setCell ⟨w.heap.size + 1, 4, none⟩ (.int .i64 z1)).setCell ⟨w.heap.size + 1, 5, none⟩ (.int .i64 z2)).heap[w.heap.size + 1 + 1]? = some (.cells #[.int .i64 x1, .int .i64 x2, .int .i64 y1, .int .i64 y2, .int .i64 z1, .int .i64 z2] 93)) := Lib.hid (blk_set_other (b' := w.heap.size + 1) (blk_set_other (b' := w.heap.size + 1) (blk_set_other (b' := w.heap.size + 1) (blk_set_other (b' := w.heap.size + 1) (blk_set_other (b' := w.heap.size + 1) (blk_set_other (b' := w.heap.size + 1) (RW.out) (by omega) 0 (.int .i64 x1)) (by omega) 1 (.int .i64 x2)) (by omega) 2 (.int .i64 y1)) (by omega) 3 (.int .i64 y2)) (by omega) 4 (.int .i64 z1)) (by omega) 5 (.int .i64 z2))
   replace NN := Lib.hid (Bset1 (Bset1 (Bset1 (Bset1 (Bset1 (Bset1 (NN.out) (show w.heap.size ≤ w.heap.size + 1 by omega) 0 (.int .i64 x1)) (show w.heap.size ≤ w.heap.size + 1 by omega) 1 (.int .i64 x2)) (show w.heap.size ≤ w.heap.size + 1 by omega) 2 (.int .i64 y1)) (show w.heap.size ≤ w.heap.size + 1 by omega) 3 (.int .i64 y2)) (show w.heap.size ≤ w.heap.size + 1 by omega) 4 (.int .i64 z1)) (show w.heap.size ≤ w.heap.size + 1 by omega) 5 (.int .i64 z2))
   generalize ((((((wr.setCell ⟨w.heap.size + 1, 0, none⟩ (.int .i64 x1)).setCell ⟨w.heap.size + 1, 1, none⟩ (.int .i64 x2)).setCell ⟨w.heap.size + 1, 2, none⟩ (.int .i64 y1)).setCell ⟨w.heap.size + 1, 3, none⟩ (.int .i64 y2)).setCell ⟨w.heap.size + 1, 4, none⟩ (.int .i64 z1)).setCell ⟨w.heap.size + 1, 5, none⟩ (.int .i64 z2)) = W11 at *
   have c_RS_0 := blk_cell RS.out 0 _ rfl
   have f_RS_0 := blk_frozen RS.out 0
   have c_RS_1 := blk_cell RS.out 1 _ rfl
   have f_RS_1 := blk_frozen RS.out 1
   have c_RS_2 := blk_cell RS.out 2 _ rfl
   have f_RS_2 := blk_frozen RS.out 2
   have c_RS_3 := blk_cell RS.out 3 _ rfl
   have f_RS_3 := blk_frozen RS.out 3
   have c_RS_4 := blk_cell RS.out 4 _ rfl
   have f_RS_4 := blk_frozen RS.out 4
   have c_RS_5 := blk_cell RS.out 5 _ rfl
   have f_RS_5 := blk_frozen RS.out 5
   have l_RS := blk_lt RS.out
   go_wp2_with fail
   exact bodyPost_ret (v := .tuple #[Vv ⟨x1, x2, y1, y2, z1, z2⟩, .int .i64 0]) (by simp [results, Tryz.results42, go_sem, c_RS_0, c_RS_1, c_RS_2, c_RS_3, c_RS_4, c_RS_5]) rfl ⟨rfl, NN.out⟩
set_option maxRecDepth 100000 in
set_option maxHeartbeats 8000000 in
theorem vsub_calls (v u : V6) (h : SubOk v u) (w : World) : Calls Tryz.prog 39 #[Vv v, Vv u] w fun e w' => e = .returned (.tuple #[Vv (subV v u), .int .i64 0]) ∧ Below w.heap.size w w' := by
 have NN := Lib.hid (Below.refl w.heap.size w)
 have C0 := Lib.hid (fun (A : Option Addr) (W : World) (hW : Rd W 6 A 2 (List.flatMap v6 [v, u])) => vectors_calls A 2 [v, u] W hW (Nat.le_refl _) (by decide))
 rw [vsE_two h.ov h.ou] at C0
 have C1 := Lib.hid (fun W => vlist_calls v W)
 have C2 := Lib.hid (fun (g : Nat) (W : World) (hW : W.heap[g]? = some (.cells #[.int .i64 u.x1, .int .i64 u.x2, .int .i64 u.y1, .int .i64 u.y2, .int .i64 u.z1, .int .i64 u.z2] 38)) => veachsub_calls v u h g W hW)
 generalize subV v u = r at *
 clear h
 go_enter Tryz.func39, Tryz.ntmps39
 go_wp2_with fail
 have V : Hid (((((w.alloc (.cells #[.int .i64 v.x1, .int .i64 v.x2, .int .i64 v.y1, .int .i64 v.y2, .int .i64 v.z1, .int .i64 v.z2] 38)).alloc (.cells #[.int .i64 u.x1, .int .i64 u.x2, .int .i64 u.y1, .int .i64 u.y2, .int .i64 u.z1, .int .i64 u.z2] 38)).alloc (.cells #[.int .i64 0, .int .i64 0, .int .i64 0, .int .i64 0, .int .i64 0, .int .i64 0] 38)).alloc (.cells #[.int .i64 v.x1, .int .i64 v.x2, .int .i64 v.y1, .int .i64 v.y2, .int .i64 v.z1, .int .i64 v.z2, .int .i64 u.x1, .int .i64 u.x2, .int .i64 u.y1, .int .i64 u.y2, .int .i64 u.z1, .int .i64 u.z2] 38)).heap[w.heap.size]? = some (.cells #[.int .i64 v.x1, .int .i64 v.x2, .int .i64 v.y1, .int .i64 v.y2, .int .i64 v.z1, .int .i64 v.z2] 38)) := Lib.hid (blk_alloc (blk_alloc (blk_alloc (blk_new w _) _) _) _)
 have U : Hid (((((w.alloc (.cells #[.int .i64 v.x1, .int .i64 v.x2, .int .i64 v.y1, .int .i64 v.y2, .int .i64 v.z1, .int .i64 v.z2] 38)).alloc (.cells #[.int .i64 u.x1, .int .i64 u.x2, .int .i64 u.y1, .int .i64 u.y2, .int .i64 u.z1, .int .i64 u.z2] 38)).alloc (.cells #[.int .i64 0, .int .i64 0, .int .i64 0, .int .i64 0, .int .i64 0, .int .i64 0] 38)).alloc (.cells #[.int .i64 v.x1, .int .i64 v.x2, .int .i64 v.y1, .int .i64 v.y2, .int .i64 v.z1, .int .i64 v.z2, .int .i64 u.x1, .int .i64 u.x2, .int .i64 u.y1, .int .i64 u.y2, .int .i64 u.z1, .int .i64 u.z2] 38)).heap[w.heap.size + 1]? = some (.cells #[.int .i64 u.x1, .int .i64 u.x2, .int .i64 u.y1, .int .i64 u.y2, .int .i64 u.z1, .int .i64 u.z2] 38)) := Lib.hid (blk_alloc (blk_alloc (blk_at _ (by simp)) _) _)
 have R : Hid (((((w.alloc (.cells #[.int .i64 v.x1, .int .i64 v.x2, .int .i64 v.y1, .int .i64 v.y2, .int .i64 v.z1, .int .i64 v.z2] 38)).alloc (.cells #[.int .i64 u.x1, .int .i64 u.x2, .int .i64 u.y1, .int .i64 u.y2, .int .i64 u.z1, .int .i64 u.z2] 38)).alloc (.cells #[.int .i64 0, .int .i64 0, .int .i64 0, .int .i64 0, .int .i64 0, .int .i64 0] 38)).alloc (.cells #[.int .i64 v.x1, .int .i64 v.x2, .int .i64 v.y1, .int .i64 v.y2, .int .i64 v.z1, .int .i64 v.z2, .int .i64 u.x1, .int .i64 u.x2, .int .i64 u.y1, .int .i64 u.y2, .int .i64 u.z1, .int .i64 u.z2] 38)).heap[w.heap.size + 1 + 1]? = some (.cells #[.int .i64 0, .int .i64 0, .int .i64 0, .int .i64 0, .int .i64 0, .int .i64 0] 38)) := Lib.hid (blk_alloc (blk_at _ (by simp)) _)
 have S2 : Hid (((((w.alloc (.cells #[.int .i64 v.x1, .int .i64 v.x2, .int .i64 v.y1, .int .i64 v.y2, .int .i64 v.z1, .int .i64 v.z2] 38)).alloc (.cells #[.int .i64 u.x1, .int .i64 u.x2, .int .i64 u.y1, .int .i64 u.y2, .int .i64 u.z1, .int .i64 u.z2] 38)).alloc (.cells #[.int .i64 0, .int .i64 0, .int .i64 0, .int .i64 0, .int .i64 0, .int .i64 0] 38)).alloc (.cells #[.int .i64 v.x1, .int .i64 v.x2, .int .i64 v.y1, .int .i64 v.y2, .int .i64 v.z1, .int .i64 v.z2, .int .i64 u.x1, .int .i64 u.x2, .int .i64 u.y1, .int .i64 u.y2, .int .i64 u.z1, .int .i64 u.z2] 38)).heap[w.heap.size + 1 + 1 + 1]? = some (.cells #[.int .i64 v.x1, .int .i64 v.x2, .int .i64 v.y1, .int .i64 v.y2, .int .i64 v.z1, .int .i64 v.z2, .int .i64 u.x1, .int .i64 u.x2, .int .i64 u.y1, .int .i64 u.y2, .int .i64 u.z1, .int .i64 u.z2] 38)) := Lib.hid (blk_at _ (by simp))
 replace NN : Hid (Below w.heap.size w ((((w.alloc (.cells #[.int .i64 v.x1, .int .i64 v.x2, .int .i64 v.y1, .int .i64 v.y2, .int .i64 v.z1, .int .i64 v.z2] 38)).alloc (.cells #[.int .i64 u.x1, .int .i64 u.x2, .int .i64 u.y1, .int .i64 u.y2, .int .i64 u.z1, .int .i64 u.z2] 38)).alloc (.cells #[.int .i64 0, .int .i64 0, .int .i64 0, .int .i64 0, .int .i64 0, .int .i64 0] 38)).alloc (.cells #[.int .i64 v.x1, .int .i64 v.x2, .int .i64 v.y1, .int .i64 v.y2, .int .i64 v.z1, .int .i64 v.z2, .int .i64 u.x1, .int .i64 u.x2, .int .i64 u.y1, .int .i64 u.y2, .int .i64 u.z1, .int .i64 u.z2] 38))) := Lib.hid (Bal (Bal (Bal (Bal NN.out _) _) _) _)
 generalize ((((w.alloc (.cells #[.int .i64 v.x1, .int .i64 v.x2, .int .i64 v.y1, .int .i64 v.y2, .int .i64 v.z1, .int .i64 v.z2] 38)).alloc (.cells #[.int .i64 u.x1, .int .i64 u.x2, .int .i64 u.y1, .int .i64 u.y2, .int .i64 u.z1, .int .i64 u.z2] 38)).alloc (.cells #[.int .i64 0, .int .i64 0, .int .i64 0, .int .i64 0, .int .i64 0, .int .i64 0] 38)).alloc (.cells #[.int .i64 v.x1, .int .i64 v.x2, .int .i64 v.y1, .int .i64 v.y2, .int .i64 v.z1, .int .i64 v.z2, .int .i64 u.x1, .int .i64 u.x2, .int .i64 u.y1, .int .i64 u.y2, .int .i64 u.z1, .int .i64 u.z2] 38)) = W1 at *
 refine (C0.out _ _ (Rd.blk S2.out rfl)).mono ?_
 rintro e w2 ⟨rfl, hb⟩
 replace NN := Lib.hid (Bgo NN.out hb)
 replace V := Lib.hid (blk_next hb V.out)
 replace U := Lib.hid (blk_next hb U.out)
 replace R := Lib.hid (blk_next hb R.out)
 replace S2 := Lib.hid (blk_next hb S2.out)
 clear hb
 have c_V_0 := blk_cell V.out 0 _ rfl
 have f_V_0 := blk_frozen V.out 0
 have c_V_1 := blk_cell V.out 1 _ rfl
 have f_V_1 := blk_frozen V.out 1
 have c_V_2 := blk_cell V.out 2 _ rfl
 have f_V_2 := blk_frozen V.out 2
 have c_V_3 := blk_cell V.out 3 _ rfl
 have f_V_3 := blk_frozen V.out 3
 have c_V_4 := blk_cell V.out 4 _ rfl
 have f_V_4 := blk_frozen V.out 4
 have c_V_5 := blk_cell V.out 5 _ rfl
 have f_V_5 := blk_frozen V.out 5
 have l_V := blk_lt V.out
 go_wp2_with fail
 clear c_V_0 f_V_0 c_V_1 f_V_1 c_V_2 f_V_2 c_V_3 f_V_3 c_V_4 f_V_4 c_V_5 f_V_5 l_V
 refine (C1.out _).mono ?_
 rintro e w3 ⟨rfl, hb⟩
 replace NN := Lib.hid (Bgo NN.out hb)
 replace V := Lib.hid (blk_next hb V.out)
 replace U := Lib.hid (blk_next hb U.out)
 replace R := Lib.hid (blk_next hb R.out)
 replace S2 := Lib.hid (blk_next hb S2.out)
 clear hb
 have c_U_0 := blk_cell U.out 0 _ rfl
 have f_U_0 := blk_frozen U.out 0
 have c_U_1 := blk_cell U.out 1 _ rfl
 have f_U_1 := blk_frozen U.out 1
 have c_U_2 := blk_cell U.out 2 _ rfl
 have f_U_2 := blk_frozen U.out 2
 have c_U_3 := blk_cell U.out 3 _ rfl
 have f_U_3 := blk_frozen U.out 3
 have c_U_4 := blk_cell U.out 4 _ rfl
 have f_U_4 := blk_frozen U.out 4
 have c_U_5 := blk_cell U.out 5 _ rfl
 have f_U_5 := blk_frozen U.out 5
 have l_U := blk_lt U.out
 go_wp2_with fail
 clear c_U_0 f_U_0 c_U_1 f_U_1 c_U_2 f_U_2 c_U_3 f_U_3 c_U_4 f_U_4 c_U_5 f_U_5 l_U
 refine (C2.out _ _ U.out).mono ?_
 rintro e w4 ⟨rfl, hb⟩
 replace NN := Lib.hid (Bgo NN.out hb)
 replace V := Lib.hid (blk_next hb V.out)
 replace U := Lib.hid (blk_next hb U.out)
 replace R := Lib.hid (blk_next hb R.out)
 replace S2 := Lib.hid (blk_next hb S2.out)
 clear hb
 have c_R_0 := blk_cell R.out 0 _ rfl
 have f_R_0 := blk_frozen R.out 0
 have c_R_1 := blk_cell R.out 1 _ rfl
 have f_R_1 := blk_frozen R.out 1
 have c_R_2 := blk_cell R.out 2 _ rfl
 have f_R_2 := blk_frozen R.out 2
 have c_R_3 := blk_cell R.out 3 _ rfl
 have f_R_3 := blk_frozen R.out 3
 have c_R_4 := blk_cell R.out 4 _ rfl
 have f_R_4 := blk_frozen R.out 4
 have c_R_5 := blk_cell R.out 5 _ rfl
 have f_R_5 := blk_frozen R.out 5
 have l_R := blk_lt R.out
 go_wp2_with fail
 clear c_R_0 f_R_0 c_R_1 f_R_1 c_R_2 f_R_2 c_R_3 f_R_3 c_R_4 f_R_4 c_R_5 f_R_5 l_R
 replace V : Hid (((((((w4.setCell ⟨w.heap.size + 1 + 1, 0, none⟩ (.int .i64 r.x1)).setCell ⟨w.heap.size + 1 + 1, 1, none⟩ (.int .i64 r.x2)).setCell ⟨w.heap.size + 1 + 1, 2, none⟩ (.int .i64 r.y1)).setCell ⟨w.heap.size + 1 + 1, 3, none⟩ (.int .i64 r.y2)).setCell ⟨w.heap.size + 1 + 1, 4, none⟩ (.int .i64 r.z1)).setCell ⟨w.heap.size + 1 + 1, 5, none⟩ (.int .i64 r.z2)).heap[w.heap.size]? = some (.cells #[.int .i64 v.x1, .int .i64 v.x2, .int .i64 v.y1, .int .i64 v.y2, .int .i64 v.z1, .int .i64 v.z2] 38)) := Lib.hid (blk_set_other (b' := w.heap.size + 1 + 1) (blk_set_other (b' := w.heap.size + 1 + 1) (blk_set_other (b' := w.heap.size + 1 + 1) (blk_set_other (b' := w.heap.size + 1 + 1) (blk_set_other (b' := w.heap.size + 1 + 1) (blk_set_other (b' := w.heap.size + 1 + 1) (V.out) (by omega) 0 (.int .i64 r.x1)) (by omega) 1 (.int .i64 r.x2)) (by omega) 2 (.int .i64 r.y1)) (by omega) 3 (.int .i64 r.y2)) (by omega) 4 (.int .i64 r.z1)) (by omega) 5 (.int .i64 r.z2))
 replace U : Hid (((((((w4.setCell ⟨w.heap.size + 1 + 1, 0, none⟩ (.int .i64 r.x1)).setCell ⟨w.heap.size + 1 + 1, 1, none⟩ (.int .i64 r.x2)).setCell ⟨w.heap.size + 1 + 1, 2, none⟩ (.int .i64 r.y1)).setCell ⟨w.heap.size + 1 + 1, 3, none⟩ (.int .i64 r.y2)).setCell ⟨w.heap.size + 1 + 1, 4, none⟩ (.int .i64 r.z1)).setCell ⟨w.heap.size + 1 + 1, 5, none⟩ (.int .i64 r.z2)).heap[w.heap.size + 1]? = some (.cells #[.int .i64 u.x1, .int .i64 u.x2, .int .i64 u.y1, .int .i64 u.y2, .int .i64 u.z1, .int .i64 u.z2] 38)) := Lib.hid (blk_set_other (b' := w.heap.size + 1 + 1) (blk_set_other (b' := w.heap.size + 1 + 1) (blk_set_other (b' := w.heap.size + 1 + 1) (blk_set_other (b' := w.heap.size + 1 + 1) (blk_set_other (b' := w.heap.size + 1 + 1) (blk_set_other (b' := w.heap.size + 1 + 1) (U.out) (by omega) 0 (.int .i64 r.x1)) (by omega) 1 (.int .i64 r.x2)) (by omega) 2 (.int .i64 r.y1)) (by omega) 3 (.int .i64 r.y2)) (by omega) 4 (.int .i64 r.z1)) (by omega) 5 (.int .i64 r.z2))
 replace R : Hid (((((((w4.setCell ⟨w.heap.size + 1 + 1, 0, none⟩ (.int .i64 r.x1)).setCell ⟨w.heap.size + 1 + 1, 1, none⟩ (.int .i64 r.x2)).setCell ⟨w.heap.size + 1 + 1, 2, none⟩ (.int .i64 r.y1)).setCell ⟨w.heap.size + 1 + 1, 3, none⟩ (.int .i64 r.y2)).setCell ⟨w.heap.size + 1 + 1, 4, none⟩ (.int .i64 r.z1)).setCell ⟨w.heap.size + 1 + 1, 5, none⟩ (.int .i64 r.z2)).heap[w.heap.size + 1 + 1]? = some (.cells #[.int .i64 r.x1, .int .i64 r.x2, .int .i64 r.y1, .int .i64 r.y2, .int .i64 r.z1, .int .i64 r.z2] 38)) := Lib.hid (blk_set (blk_set (blk_set (blk_set (blk_set (blk_set (R.out) 0 (.int .i64 r.x1)) 1 (.int .i64 r.x2)) 2 (.int .i64 r.y1)) 3 (.int .i64 r.y2)) 4 (.int .i64 r.z1)) 5 (.int .i64 r.z2))
 replace S2 : Hid (((((((w4.setCell ⟨w.heap.size + 1 + 1, 0, none⟩ (.int .i64 r.x1)).setCell ⟨w.heap.size + 1 + 1, 1, none⟩ (.int .i64 r.x2)).setCell ⟨w.heap.size + 1 + 1, 2, none⟩ (.int .i64 r.y1)).setCell ⟨w.heap.size + 1 + 1, 3, none⟩ (.int .i64 r.y2)).setCell ⟨w.heap.size + 1 + 1, 4, none⟩ (.int .i64 r.z1)).setCell ⟨w.heap.size + 1 + 1, 5, none⟩ (.int .i64 r.z2)).heap[w.heap.size + 1 + 1 + 1]? = some (.cells #[.int .i64 v.x1, .int .i64 v.x2, .int .i64 v.y1, .int .i64 v.y2, .int .i64 v.z1, .int .i64 v.z2, .int .i64 u.x1, .int .i64 u.x2, .int .i64 u.y1, .int .i64 u.y2, .int .i64 u.z1, .int .i64 u.z2] 38)) := Lib.hid (blk_set_other (b' := w.heap.size + 1 + 1) (blk_set_other (b' := w.heap.size + 1 + 1) (blk_set_other (b' := w.heap.size + 1 + 1) (blk_set_other (b' := w.heap.size + 1 + 1) (blk_set_other (b' := w.heap.size + 1 + 1) (blk_set_other (b' := w.heap.size + 1 + 1) (S2.out) (by omega) 0 (.int .i64 r.x1)) (by omega) 1 (.int .i64 r.x2)) (by omega) 2 (.int .i64 r.y1)) (by omega) 3 (.int .i64 r.y2)) (by omega) 4 (.int .i64 r.z1)) (by omega) 5 (.int .i64 r.z2))
 replace NN := Lib.hid (Bset1 (Bset1 (Bset1 (Bset1 (Bset1 (Bset1 (NN.out) (show w.heap.size ≤ w.heap.size + 1 + 1 by omega) 0 (.int .i64 r.x1)) (show w.heap.size ≤ w.heap.size + 1 + 1 by omega) 1 (.int .i64 r.x2)) (show w.heap.size ≤ w.heap.size + 1 + 1 by omega) 2 (.int .i64 r.y1)) (show w.heap.size ≤ w.heap.size + 1 + 1 by omega) 3 (.int .i64 r.y2)) (show w.heap.size ≤ w.heap.size + 1 + 1 by omega) 4 (.int .i64 r.z1)) (show w.heap.size ≤ w.heap.size + 1 + 1 by omega) 5 (.int .i64 r.z2))
 generalize ((((((w4.setCell ⟨w.heap.size + 1 + 1, 0, none⟩ (.int .i64 r.x1)).setCell ⟨w.heap.size + 1 + 1, 1, none⟩ (.int .i64 r.x2)).setCell ⟨w.heap.size + 1 + 1, 2, none⟩ (.int .i64 r.y1)).setCell ⟨w.heap.size + 1 + 1, 3, none⟩ (.int .i64 r.y2)).setCell ⟨w.heap.size + 1 + 1, 4, none⟩ (.int .i64 r.z1)).setCell ⟨w.heap.size + 1 + 1, 5, none⟩ (.int .i64 r.z2)) = W5 at *
 have c_R_0 := blk_cell R.out 0 _ rfl
 have f_R_0 := blk_frozen R.out 0
 have c_R_1 := blk_cell R.out 1 _ rfl
 have f_R_1 := blk_frozen R.out 1
 have c_R_2 := blk_cell R.out 2 _ rfl
 have f_R_2 := blk_frozen R.out 2
 have c_R_3 := blk_cell R.out 3 _ rfl
 have f_R_3 := blk_frozen R.out 3
 have c_R_4 := blk_cell R.out 4 _ rfl
 have f_R_4 := blk_frozen R.out 4
 have c_R_5 := blk_cell R.out 5 _ rfl
 have f_R_5 := blk_frozen R.out 5
 have l_R := blk_lt R.out
 go_wp2_with fail
 exact bodyPost_ret (v := .tuple #[Vv r, .int .i64 0]) (by simp [results, Tryz.results39, go_sem, c_R_0, c_R_1, c_R_2, c_R_3, c_R_4, c_R_5]) rfl ⟨rfl, NN.out⟩
end Go.Proofs.YtfangplfbbgphaaGreatDoor
