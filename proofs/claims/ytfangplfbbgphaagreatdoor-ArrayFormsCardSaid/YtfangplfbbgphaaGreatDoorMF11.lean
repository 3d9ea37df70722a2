/- Several texts in one. -/
import Derived.Test.YtfangplfbbgphaaGreatDoorMF09
import Derived.Test.YtfangplfbbgphaaGreatDoorMF10
namespace Go.Proofs.YtfangplfbbgphaaGreatDoor
open Go.ChangeShapes Go.WideShapes Go.ChangeAt Go.RowKit
set_option linter.unusedVariables false
set_option maxRecDepth 100000
set_option linter.unusedSimpArgs false
attribute [local go_sem ↓] Go.wp_at_zero Go.wp_at_succ
set_option maxRecDepth 100000 in
set_option maxHeartbeats 8000000 in
theorem refPlace_calls (A B n d m k : Int) (hg : okG A B) (hs : prmB n d = true) (ht : prmB m k = true) (w : World) : Calls Tryz.prog 27 #[Gv A B, Fv n d, Fv m k] w fun e w' =>
  e = .returned (Pv (plX A n d m k).1 (plX A n d m k).2.1 (plY A n d m k).1 (plY A n d m k).2.1 (plZ B n d).1 (plZ B n d).2.1) ∧ Below w.heap.size w w' := by
 have NN := Lib.hid (Below.refl w.heap.size w)
 obtain ⟨pw, qw, px, py, pz, qz, u1, u2, u3⟩ := placed (A := A) (B := B) hg hs ht
 clear u1 u2 u3
 have A1 := Lib.hid (fun W => pair_calls n d hs W)
 have A2 := Lib.hid (fun W => pair_calls m k ht W)
 have OA := Lib.hid (fun W => refOf_calls A W)
 have OB := Lib.hid (fun W => refOf_calls B W)
 have M1 := Lib.hid (fun W => refMul_calls (arC n d).1 (arC n d).2.1 A 1 W)
 have M2 := Lib.hid (fun W => refMul_calls (wdR A n d).1 (wdR A n d).2.1 (arC m k).1 (arC m k).2.1 W)
 have M3 := Lib.hid (fun W => refMul_calls (wdR A n d).1 (wdR A n d).2.1 (arK m k).1 (arK m k).2.1 W)
 have M4 := Lib.hid (fun W => refMul_calls (arK n d).1 (arK n d).2.1 B 1 W)
 rw [qw] at M1
 rw [show mulR (wdR A n d).1 (wdR A n d).2.1 (arC m k).1 (arC m k).2.1 = plX A n d m k from rfl] at M2
 rw [show mulR (wdR A n d).1 (wdR A n d).2.1 (arK m k).1 (arK m k).2.1 = plY A n d m k from rfl] at M3
 rw [qz] at M4
 clear qw qz hs ht
 generalize plX A n d m k = x at *
 generalize plY A n d m k = y at *
 generalize plZ B n d = z at *
 generalize wdR A n d = v at *
 generalize arC n d = c at *
 generalize arK n d = s at *
 generalize arC m k = t at *
 generalize arK m k = u at *
 obtain ⟨x1, x2, x3⟩ := x
 obtain ⟨y1, y2, y3⟩ := y
 obtain ⟨z1, z2, z3⟩ := z
 obtain ⟨v1, v2, v3⟩ := v
 obtain ⟨c1, c2, c3⟩ := c
 obtain ⟨s1, s2, s3⟩ := s
 obtain ⟨t1, t2, t3⟩ := t
 obtain ⟨u1, u2, u3⟩ := u
 simp only at pw px py pz
 subst pw px py pz
 clear hg
 go_enter Tryz.func27, Tryz.ntmps27
 go_wp2_with fail
 have G : Hid (((((w.alloc (.cells #[.int .i64 A, .int .i64 B] 23)).alloc (.cells #[.int .i64 n, .int .i64 d] 36)).alloc (.cells #[.int .i64 m, .int .i64 k] 36)).alloc (.cells #[.int .i64 0, .int .i64 0, .int .i64 0, .int .i64 0, .int .i64 0, .int .i64 0] 38)).heap[w.heap.size]? = some (.cells #[.int .i64 A, .int .i64 B] 23)) := Lib.hid (blk_alloc (blk_alloc (blk_alloc (blk_new w _) _) _) _)
 have S : Hid (((((w.alloc (.cells #[.int .i64 A, .int .i64 B] 23)).alloc (.cells #[.int .i64 n, .int .i64 d] 36)).alloc (.cells #[.int .i64 m, .int .i64 k] 36)).alloc (.cells #[.int .i64 0, .int .i64 0, .int .i64 0, .int .i64 0, .int .i64 0, .int .i64 0] 38)).heap[w.heap.size + 1]? = some (.cells #[.int .i64 n, .int .i64 d] 36)) := Lib.hid (blk_alloc (blk_alloc (blk_at _ (by simp)) _) _)
 have T : Hid (((((w.alloc (.cells #[.int .i64 A, .int .i64 B] 23)).alloc (.cells #[.int .i64 n, .int .i64 d] 36)).alloc (.cells #[.int .i64 m, .int .i64 k] 36)).alloc (.cells #[.int .i64 0, .int .i64 0, .int .i64 0, .int .i64 0, .int .i64 0, .int .i64 0] 38)).heap[w.heap.size + 1 + 1]? = some (.cells #[.int .i64 m, .int .i64 k] 36)) := Lib.hid (blk_alloc (blk_at _ (by simp)) _)
 have R : Hid (((((w.alloc (.cells #[.int .i64 A, .int .i64 B] 23)).alloc (.cells #[.int .i64 n, .int .i64 d] 36)).alloc (.cells #[.int .i64 m, .int .i64 k] 36)).alloc (.cells #[.int .i64 0, .int .i64 0, .int .i64 0, .int .i64 0, .int .i64 0, .int .i64 0] 38)).heap[w.heap.size + 1 + 1 + 1]? = some (.cells #[.int .i64 0, .int .i64 0, .int .i64 0, .int .i64 0, .int .i64 0, .int .i64 0] 38)) := Lib.hid (blk_at _ (by simp))
 replace NN : Hid (Below w.heap.size w ((((w.alloc (.cells #[.int .i64 A, .int .i64 B] 23)).alloc (.cells #[.int .i64 n, .int .i64 d] 36)).alloc (.cells #[.int .i64 m, .int .i64 k] 36)).alloc (.cells #[.int .i64 0, .int .i64 0, .int .i64 0, .int .i64 0, .int .i64 0, .int .i64 0] 38))) := Lib.hid (Bal (Bal (Bal (Bal NN.out _) _) _) _)
 generalize ((((w.alloc (.cells #[.int .i64 A, .int .i64 B] 23)).alloc (.cells #[.int .i64 n, .int .i64 d] 36)).alloc (.cells #[.int .i64 m, .int .i64 k] 36)).alloc (.cells #[.int .i64 0, .int .i64 0, .int .i64 0, .int .i64 0, .int .i64 0, .int .i64 0] 38)) = W1 at *
 have c_S_0 := blk_cell S.out 0 _ rfl
 have f_S_0 := blk_frozen S.out 0
 have c_S_1 := blk_cell S.out 1 _ rfl
 have f_S_1 := blk_frozen S.out 1
 have l_S := blk_lt S.out
 go_wp2_with fail
 refine (A1.out _).mono ?_
 rintro e w2 ⟨rfl, hb⟩
 clear c_S_0 f_S_0 c_S_1 f_S_1 l_S
 replace NN := Lib.hid (Bgo NN.out hb)
 replace G := Lib.hid (blk_next hb G.out)
 replace S := Lib.hid (blk_next hb S.out)
 replace T := Lib.hid (blk_next hb T.out)
 replace R := Lib.hid (blk_next hb R.out)
 clear hb
 have HB := Lib.hid (show Below w2.heap.size w2 ((w2.alloc (.cells #[.int .i64 c1, .int .i64 c2] 36)).alloc (.cells #[.int .i64 s1, .int .i64 s2] 36)) from (Bal (Bal (Below.refl _ _) _) _))
 have C : Hid (((w2.alloc (.cells #[.int .i64 c1, .int .i64 c2] 36)).alloc (.cells #[.int .i64 s1, .int .i64 s2] 36)).heap[w2.heap.size]? = some (.cells #[.int .i64 c1, .int .i64 c2] 36)) := Lib.hid (blk_alloc (blk_new w2 _) _)
 have K : Hid (((w2.alloc (.cells #[.int .i64 c1, .int .i64 c2] 36)).alloc (.cells #[.int .i64 s1, .int .i64 s2] 36)).heap[w2.heap.size + 1]? = some (.cells #[.int .i64 s1, .int .i64 s2] 36)) := Lib.hid (blk_at _ (by simp))
 have LT_C : Hid (w.heap.size < w2.heap.size ∧ w.heap.size + 1 < w2.heap.size ∧ w.heap.size + 1 + 1 < w2.heap.size ∧ w.heap.size + 1 + 1 + 1 < w2.heap.size ∧ w.heap.size ≤ w2.heap.size) := Lib.hid ⟨blk_lt G.out, blk_lt S.out, blk_lt T.out, blk_lt R.out, NN.out.size⟩
 replace NN := Lib.hid (Bgo NN.out HB.out)
 replace G := Lib.hid (blk_next HB.out G.out)
 replace S := Lib.hid (blk_next HB.out S.out)
 replace T := Lib.hid (blk_next HB.out T.out)
 replace R := Lib.hid (blk_next HB.out R.out)
 clear HB
 have c_T_0 := blk_cell T.out 0 _ rfl
 have f_T_0 := blk_frozen T.out 0
 have c_T_1 := blk_cell T.out 1 _ rfl
 have f_T_1 := blk_frozen T.out 1
 have l_T := blk_lt T.out
 go_wp2_with fail
 clear c_T_0 f_T_0 c_T_1 f_T_1 l_T
 generalize ((w2.alloc (.cells #[.int .i64 c1, .int .i64 c2] 36)).alloc (.cells #[.int .i64 s1, .int .i64 s2] 36)) = W3 at *
 generalize w2.heap.size = gC at *
 refine (A2.out _).mono ?_
 rintro e w4 ⟨rfl, hb⟩
 replace NN := Lib.hid (Bgo NN.out hb)
 replace G := Lib.hid (blk_next hb G.out)
 replace S := Lib.hid (blk_next hb S.out)
 replace T := Lib.hid (blk_next hb T.out)
 replace R := Lib.hid (blk_next hb R.out)
 replace C := Lib.hid (blk_next hb C.out)
 replace K := Lib.hid (blk_next hb K.out)
 clear hb
 have HB := Lib.hid (show Below w4.heap.size w4 ((w4.alloc (.cells #[.int .i64 t1, .int .i64 t2] 36)).alloc (.cells #[.int .i64 u1, .int .i64 u2] 36)) from (Bal (Bal (Below.refl _ _) _) _))
 have D : Hid (((w4.alloc (.cells #[.int .i64 t1, .int .i64 t2] 36)).alloc (.cells #[.int .i64 u1, .int .i64 u2] 36)).heap[w4.heap.size]? = some (.cells #[.int .i64 t1, .int .i64 t2] 36)) := Lib.hid (blk_alloc (blk_new w4 _) _)
 have U : Hid (((w4.alloc (.cells #[.int .i64 t1, .int .i64 t2] 36)).alloc (.cells #[.int .i64 u1, .int .i64 u2] 36)).heap[w4.heap.size + 1]? = some (.cells #[.int .i64 u1, .int .i64 u2] 36)) := Lib.hid (blk_at _ (by simp))
 have LT_D : Hid (w.heap.size < w4.heap.size ∧ w.heap.size + 1 < w4.heap.size ∧ w.heap.size + 1 + 1 < w4.heap.size ∧ w.heap.size + 1 + 1 + 1 < w4.heap.size ∧ gC < w4.heap.size ∧ gC + 1 < w4.heap.size ∧ w.heap.size ≤ w4.heap.size) := Lib.hid ⟨blk_lt G.out, blk_lt S.out, blk_lt T.out, blk_lt R.out, blk_lt C.out, blk_lt K.out, NN.out.size⟩
 replace NN := Lib.hid (Bgo NN.out HB.out)
 replace G := Lib.hid (blk_next HB.out G.out)
 replace S := Lib.hid (blk_next HB.out S.out)
 replace T := Lib.hid (blk_next HB.out T.out)
 replace R := Lib.hid (blk_next HB.out R.out)
 replace C := Lib.hid (blk_next HB.out C.out)
 replace K := Lib.hid (blk_next HB.out K.out)
 clear HB
 go_upto_region 3 with fail
 generalize ((w4.alloc (.cells #[.int .i64 t1, .int .i64 t2] 36)).alloc (.cells #[.int .i64 u1, .int .i64 u2] 36)) = W5 at *
 generalize w4.heap.size = gD at *
 have HDRW := Lib.hid (Below.drew (Below.refl W5.heap.size W5))
 replace NN := Lib.hid (Bgo NN.out HDRW.out)
 replace G := Lib.hid (blk_next HDRW.out G.out)
 replace S := Lib.hid (blk_next HDRW.out S.out)
 replace T := Lib.hid (blk_next HDRW.out T.out)
 replace R := Lib.hid (blk_next HDRW.out R.out)
 replace C := Lib.hid (blk_next HDRW.out C.out)
 replace K := Lib.hid (blk_next HDRW.out K.out)
 replace D := Lib.hid (blk_next HDRW.out D.out)
 replace U := Lib.hid (blk_next HDRW.out U.out)
 clear HDRW
 have HAL : Hid (∀ kx9 : Nat, GK [(0, gC, .cells #[.int .i64 c1, .int .i64 c2] 36), (2, w.heap.size, .cells #[.int .i64 A, .int .i64 B] 23)] kx9 W5.drew) := Lib.hid (fun kx9 p hp e => by
  simp only [List.mem_cons, List.not_mem_nil, or_false] at hp
  rcases hp with rfl | rfl
  ·exact C.out
  ·exact G.out)
 refine region_G (S := GK [(0, gC, .cells #[.int .i64 c1, .int .i64 c2] 36), (2, w.heap.size, .cells #[.int .i64 A, .int .i64 B] 23)]) (by kernel_rfl) ?_
 refine tG 0 (.agg #[.int .i64 c1, .int .i64 c2]) (some 32) (GK.grow _) rfl (YieldsIf.toG (Or.inl ⟨by rfl, ?_⟩)) (HAL.out 0) ?_
 ·intro X hX
  have hh := hX (0, gC, .cells #[.int .i64 c1, .int .i64 c2] 36) (List.Mem.head _) rfl
  have hh0 := blk_cell hh 0 _ rfl
  have hh1 := blk_cell hh 1 _ rfl
  have hhl := blk_lt hh
  clear hh
  clear hX
  go_simp
 try simp only [Act.put, zA, zB, zC]
 refine tG 1 (.pointer (some ⟨w.heap.size, 0, none⟩)) (some 33) (GK.grow _) rfl (YieldsIf.toG (Or.inl ⟨by rfl, ?_⟩)) (GK.drop (by simp)) ?_
 ·intro X hX
  clear hX
  go_simp
 try simp only [Act.put, zA, zB, zC]
 refine tG 2 (.int .i64 A) (some 34) (GK.grow _) rfl (YieldsIf.toG (Or.inl ⟨by rfl, ?_⟩)) (HAL.out 2) ?_
 ·intro X hX
  have hh := hX (2, w.heap.size, .cells #[.int .i64 A, .int .i64 B] 23) (List.Mem.tail _ (List.Mem.head _)) rfl
  have hh0 := blk_cell hh 0 _ rfl
  have hhl := blk_lt hh
  clear hh
  clear hX
  go_simp
 try simp only [Act.put, zA, zB, zC]
 have CFn : ∀ (args : Array Value) (W : World), Sem.run Tryz.prog (callFunc 46 args) W = .ok (.enter 46 args) W := fun _ _ => by kernel_rfl
 refine tG 3 (.agg #[.int .i64 A, .int .i64 1]) (some 35) (GK.grow _) rfl (yieldsG_call 46 #[.int .i64 A] (by rfl) ?_ (fun X hS => OA.out X)) (GK.drop (by simp)) ?_
 ·intro X hX
  clear hX
  go_simp
 clear CFn
 try simp only [Act.put, zA, zB, zC]
 have CFn : ∀ (args : Array Value) (W : World), Sem.run Tryz.prog (callFunc 61 args) W = .ok (.enter 61 args) W := fun _ _ => by kernel_rfl
 refine tG 4 (.tuple #[.agg #[.int .i64 v1, .int .i64 v2], .int .i64 0]) (some 36) (GK.grow _) rfl (yieldsG_call 61 #[.agg #[.int .i64 c1, .int .i64 c2], .agg #[.int .i64 A, .int .i64 1]] (by rfl) ?_ (fun X hS => M1.out X)) (GK.drop (by simp)) ?_
 ·intro X hX
  clear hX
  go_simp
 clear CFn
 try simp only [Act.put, zA, zB, zC]
 refine tG 5 (.tuple #[.agg #[.int .i64 v1, .int .i64 v2], .int .i64 0]) (some 31) (GK.grow _) rfl (YieldsIf.toG (Or.inl ⟨by rfl, ?_⟩)) (GK.drop (by simp)) ?_
 ·intro X hX
  clear hX
  go_simp
 try simp only [Act.put, zA, zB, zC]
 refine tG 6 (.agg #[.int .i64 v1, .int .i64 v2]) (some 37) (GK.grow _) rfl (YieldsIf.toG (Or.inl ⟨by rfl, ?_⟩)) (GK.drop (by simp)) ?_
 ·intro X hX
  clear hX
  go_simp
 try simp only [Act.put, zA, zB, zC]
 refine tG 7 (.int .i64 0) (some 38) (GK.grow _) rfl (YieldsIf.toG (Or.inl ⟨by rfl, ?_⟩)) (GK.drop (by simp)) ?_
 ·intro X hX
  clear hX
  go_simp
 try simp only [Act.put, zA, zB, zC]
 refine only_G 8 (by kernel_rfl) rfl (fun X6 hX K' hK' => ?_)
 replace NN := Lib.hid (Bgo NN.out hX)
 replace G := Lib.hid (blk_next hX G.out)
 replace S := Lib.hid (blk_next hX S.out)
 replace T := Lib.hid (blk_next hX T.out)
 replace R := Lib.hid (blk_next hX R.out)
 replace C := Lib.hid (blk_next hX C.out)
 replace K := Lib.hid (blk_next hX K.out)
 replace D := Lib.hid (blk_next hX D.out)
 replace U := Lib.hid (blk_next hX U.out)
 replace HAL := Lib.hid (fun kx9 => GK.grow _ _ _ _ (HAL.out kx9) hX)
 clear hX
 have c_C_0 := blk_cell C.out 0 _ rfl
 have f_C_0 := blk_frozen C.out 0
 have c_C_1 := blk_cell C.out 1 _ rfl
 have f_C_1 := blk_frozen C.out 1
 have l_C := blk_lt C.out
 go_simp
 clear c_C_0 f_C_0 c_C_1 f_C_1 l_C
 refine hK'.out _ _ (fun kk hk hS => ?_) ?_
 ·have HN : ∀ p ∈ ([(0, gC, .cells #[.int .i64 c1, .int .i64 c2] 36), (2, w.heap.size, .cells #[.int .i64 A, .int .i64 B] 23)] : List (Nat × Nat × Obj)), p.1 = kk → p.2.1 ≠ gC := fun p hp e => by
   simp only [List.mem_cons, List.not_mem_nil, or_false] at hp
   rcases hp with rfl | rfl
   ·subst e
    exact bfl (by kernel_rfl) hk
   ·subst e
    exact bfl (by kernel_rfl) hk
  exact GK.set (GK.set hS HN) HN
 clear hK' K'
 try simp only [Act.put, zA, zB, zC]
 clear HAL
 replace G : Hid (((X6.setCell ⟨gC, 0, none⟩ (.int .i64 v1)).setCell ⟨gC, 1, none⟩ (.int .i64 v2)).heap[w.heap.size]? = some (.cells #[.int .i64 A, .int .i64 B] 23)) := Lib.hid (blk_set_other (b' := gC) (blk_set_other (b' := gC) (G.out) (by have := LT_C.out; omega) 0 (.int .i64 v1)) (by have := LT_C.out; omega) 1 (.int .i64 v2))
 replace S : Hid (((X6.setCell ⟨gC, 0, none⟩ (.int .i64 v1)).setCell ⟨gC, 1, none⟩ (.int .i64 v2)).heap[w.heap.size + 1]? = some (.cells #[.int .i64 n, .int .i64 d] 36)) := Lib.hid (blk_set_other (b' := gC) (blk_set_other (b' := gC) (S.out) (by have := LT_C.out; omega) 0 (.int .i64 v1)) (by have := LT_C.out; omega) 1 (.int .i64 v2))
 replace T : Hid (((X6.setCell ⟨gC, 0, none⟩ (.int .i64 v1)).setCell ⟨gC, 1, none⟩ (.int .i64 v2)).heap[w.heap.size + 1 + 1]? = some (.cells #[.int .i64 m, .int .i64 k] 36)) := Lib.hid (blk_set_other (b' := gC) (blk_set_other (b' := gC) (T.out) (by have := LT_C.out; omega) 0 (.int .i64 v1)) (by have := LT_C.out; omega) 1 (.int .i64 v2))
 replace R : Hid (((X6.setCell ⟨gC, 0, none⟩ (.int .i64 v1)).setCell ⟨gC, 1, none⟩ (.int .i64 v2)).heap[w.heap.size + 1 + 1 + 1]? = some (.cells #[.int .i64 0, .int .i64 0, .int .i64 0, .int .i64 0, .int .i64 0, .int .i64 0] 38)) := Lib.hid (blk_set_other (b' := gC) (blk_set_other (b' := gC) (R.out) (by have := LT_C.out; omega) 0 (.int .i64 v1)) (by have := LT_C.out; omega) 1 (.int .i64 v2))
 replace C : Hid (((X6.setCell ⟨gC, 0, none⟩ (.int .i64 v1)).setCell ⟨gC, 1, none⟩ (.int .i64 v2)).heap[gC]? = some (.cells #[.int .i64 v1, .int .i64 v2] 36)) := Lib.hid (blk_set (blk_set (C.out) 0 (.int .i64 v1)) 1 (.int .i64 v2))
 replace K : Hid (((X6.setCell ⟨gC, 0, none⟩ (.int .i64 v1)).setCell ⟨gC, 1, none⟩ (.int .i64 v2)).heap[gC + 1]? = some (.cells #[.int .i64 s1, .int .i64 s2] 36)) := Lib.hid (blk_set_other (b' := gC) (blk_set_other (b' := gC) (K.out) (by have := LT_C.out; omega) 0 (.int .i64 v1)) (by have := LT_C.out; omega) 1 (.int .i64 v2))
 replace D : Hid (((X6.setCell ⟨gC, 0, none⟩ (.int .i64 v1)).setCell ⟨gC, 1, none⟩ (.int .i64 v2)).heap[gD]? = some (.cells #[.int .i64 t1, .int .i64 t2] 36)) := Lib.hid (blk_set_other (b' := gC) (blk_set_other (b' := gC) (D.out) (by have := LT_D.out; omega) 0 (.int .i64 v1)) (by have := LT_D.out; omega) 1 (.int .i64 v2))
 replace U : Hid (((X6.setCell ⟨gC, 0, none⟩ (.int .i64 v1)).setCell ⟨gC, 1, none⟩ (.int .i64 v2)).heap[gD + 1]? = some (.cells #[.int .i64 u1, .int .i64 u2] 36)) := Lib.hid (blk_set_other (b' := gC) (blk_set_other (b' := gC) (U.out) (by have := LT_D.out; omega) 0 (.int .i64 v1)) (by have := LT_D.out; omega) 1 (.int .i64 v2))
 replace NN := Lib.hid (Bset1 (Bset1 (NN.out) (show w.heap.size ≤ gC by have := LT_C.out; omega) 0 (.int .i64 v1)) (show w.heap.size ≤ gC by have := LT_C.out; omega) 1 (.int .i64 v2))
 generalize ((X6.setCell ⟨gC, 0, none⟩ (.int .i64 v1)).setCell ⟨gC, 1, none⟩ (.int .i64 v2)) = W7 at *
 refine done_G (by kernel_rfl) (fun X8 hX => ?_) _
 replace NN := Lib.hid (Bgo NN.out hX)
 replace G := Lib.hid (blk_next hX G.out)
 replace S := Lib.hid (blk_next hX S.out)
 replace T := Lib.hid (blk_next hX T.out)
 replace R := Lib.hid (blk_next hX R.out)
 replace C := Lib.hid (blk_next hX C.out)
 replace K := Lib.hid (blk_next hX K.out)
 replace D := Lib.hid (blk_next hX D.out)
 replace U := Lib.hid (blk_next hX U.out)
 clear hX
 have c_C_0 := blk_cell C.out 0 _ rfl
 have f_C_0 := blk_frozen C.out 0
 have c_C_1 := blk_cell C.out 1 _ rfl
 have f_C_1 := blk_frozen C.out 1
 have l_C := blk_lt C.out
 have c_D_0 := blk_cell D.out 0 _ rfl
 have f_D_0 := blk_frozen D.out 0
 have c_D_1 := blk_cell D.out 1 _ rfl
 have f_D_1 := blk_frozen D.out 1
 have l_D := blk_lt D.out
 go_wp2_with fail
 clear c_C_0 f_C_0 c_C_1 f_C_1 l_C c_D_0 f_D_0 c_D_1 f_D_1 l_D
 refine (M2.out _).mono ?_
 rintro e w9 ⟨rfl, hb⟩
 replace NN := Lib.hid (Bgo NN.out hb)
 replace G := Lib.hid (blk_next hb G.out)
 replace S := Lib.hid (blk_next hb S.out)
 replace T := Lib.hid (blk_next hb T.out)
 replace R := Lib.hid (blk_next hb R.out)
 replace C := Lib.hid (blk_next hb C.out)
 replace K := Lib.hid (blk_next hb K.out)
 replace D := Lib.hid (blk_next hb D.out)
 replace U := Lib.hid (blk_next hb U.out)
 clear hb
 have HB := Lib.hid (show Below w9.heap.size w9 (w9.alloc (.cells #[.int .i64 x1, .int .i64 x2] 36)) from (Bal (Below.refl _ _) _))
 have X : Hid ((w9.alloc (.cells #[.int .i64 x1, .int .i64 x2] 36)).heap[w9.heap.size]? = some (.cells #[.int .i64 x1, .int .i64 x2] 36)) := Lib.hid (blk_new w9 _)
 have LT_X : Hid (w.heap.size < w9.heap.size ∧ w.heap.size + 1 < w9.heap.size ∧ w.heap.size + 1 + 1 < w9.heap.size ∧ w.heap.size + 1 + 1 + 1 < w9.heap.size ∧ gC < w9.heap.size ∧ gC + 1 < w9.heap.size ∧ gD < w9.heap.size ∧ gD + 1 < w9.heap.size ∧ w.heap.size ≤ w9.heap.size) := Lib.hid ⟨blk_lt G.out, blk_lt S.out, blk_lt T.out, blk_lt R.out, blk_lt C.out, blk_lt K.out, blk_lt D.out, blk_lt U.out, NN.out.size⟩
 replace NN := Lib.hid (Bgo NN.out HB.out)
 replace G := Lib.hid (blk_next HB.out G.out)
 replace S := Lib.hid (blk_next HB.out S.out)
 replace T := Lib.hid (blk_next HB.out T.out)
 replace R := Lib.hid (blk_next HB.out R.out)
 replace C := Lib.hid (blk_next HB.out C.out)
 replace K := Lib.hid (blk_next HB.out K.out)
 replace D := Lib.hid (blk_next HB.out D.out)
 replace U := Lib.hid (blk_next HB.out U.out)
 clear HB
 have c_C_0 := blk_cell C.out 0 _ rfl
 have f_C_0 := blk_frozen C.out 0
 have c_C_1 := blk_cell C.out 1 _ rfl
 have f_C_1 := blk_frozen C.out 1
 have l_C := blk_lt C.out
 have c_U_0 := blk_cell U.out 0 _ rfl
 have f_U_0 := blk_frozen U.out 0
 have c_U_1 := blk_cell U.out 1 _ rfl
 have f_U_1 := blk_frozen U.out 1
 have l_U := blk_lt U.out
 go_wp2_with fail
 clear c_C_0 f_C_0 c_C_1 f_C_1 l_C c_U_0 f_U_0 c_U_1 f_U_1 l_U
 generalize (w9.alloc (.cells #[.int .i64 x1, .int .i64 x2] 36)) = W10 at *
 generalize w9.heap.size = gX at *
 refine (M3.out _).mono ?_
 rintro e w11 ⟨rfl, hb⟩
 replace NN := Lib.hid (Bgo NN.out hb)
 replace G := Lib.hid (blk_next hb G.out)
 replace S := Lib.hid (blk_next hb S.out)
 replace T := Lib.hid (blk_next hb T.out)
 replace R := Lib.hid (blk_next hb R.out)
 replace C := Lib.hid (blk_next hb C.out)
 replace K := Lib.hid (blk_next hb K.out)
 replace D := Lib.hid (blk_next hb D.out)
 replace U := Lib.hid (blk_next hb U.out)
 replace X := Lib.hid (blk_next hb X.out)
 clear hb
 have HB := Lib.hid (show Below w11.heap.size w11 (w11.alloc (.cells #[.int .i64 y1, .int .i64 y2] 36)) from (Bal (Below.refl _ _) _))
 have Y : Hid ((w11.alloc (.cells #[.int .i64 y1, .int .i64 y2] 36)).heap[w11.heap.size]? = some (.cells #[.int .i64 y1, .int .i64 y2] 36)) := Lib.hid (blk_new w11 _)
 have LT_Y : Hid (w.heap.size < w11.heap.size ∧ w.heap.size + 1 < w11.heap.size ∧ w.heap.size + 1 + 1 < w11.heap.size ∧ w.heap.size + 1 + 1 + 1 < w11.heap.size ∧ gC < w11.heap.size ∧ gC + 1 < w11.heap.size ∧ gD < w11.heap.size ∧ gD + 1 < w11.heap.size ∧ gX < w11.heap.size ∧ w.heap.size ≤ w11.heap.size) := Lib.hid ⟨blk_lt G.out, blk_lt S.out, blk_lt T.out, blk_lt R.out, blk_lt C.out, blk_lt K.out, blk_lt D.out, blk_lt U.out, blk_lt X.out, NN.out.size⟩
 replace NN := Lib.hid (Bgo NN.out HB.out)
 replace G := Lib.hid (blk_next HB.out G.out)
 replace S := Lib.hid (blk_next HB.out S.out)
 replace T := Lib.hid (blk_next HB.out T.out)
 replace R := Lib.hid (blk_next HB.out R.out)
 replace C := Lib.hid (blk_next HB.out C.out)
 replace K := Lib.hid (blk_next HB.out K.out)
 replace D := Lib.hid (blk_next HB.out D.out)
 replace U := Lib.hid (blk_next HB.out U.out)
 replace X := Lib.hid (blk_next HB.out X.out)
 clear HB
 go_upto_region 6 with fail
 generalize (w11.alloc (.cells #[.int .i64 y1, .int .i64 y2] 36)) = W12 at *
 generalize w11.heap.size = gY at *
 have HDRW := Lib.hid (Below.drew (Below.refl W12.heap.size W12))
 replace NN := Lib.hid (Bgo NN.out HDRW.out)
 replace G := Lib.hid (blk_next HDRW.out G.out)
 replace S := Lib.hid (blk_next HDRW.out S.out)
 replace T := Lib.hid (blk_next HDRW.out T.out)
 replace R := Lib.hid (blk_next HDRW.out R.out)
 replace C := Lib.hid (blk_next HDRW.out C.out)
 replace K := Lib.hid (blk_next HDRW.out K.out)
 replace D := Lib.hid (blk_next HDRW.out D.out)
 replace U := Lib.hid (blk_next HDRW.out U.out)
 replace X := Lib.hid (blk_next HDRW.out X.out)
 replace Y := Lib.hid (blk_next HDRW.out Y.out)
 clear HDRW
 have HAL : Hid (∀ kx9 : Nat, GK [(0, gC + 1, .cells #[.int .i64 s1, .int .i64 s2] 36), (2, w.heap.size, .cells #[.int .i64 A, .int .i64 B] 23)] kx9 W12.drew) := Lib.hid (fun kx9 p hp e => by
  simp only [List.mem_cons, List.not_mem_nil, or_false] at hp
  rcases hp with rfl | rfl
  ·exact K.out
  ·exact G.out)
 refine region_G (S := GK [(0, gC + 1, .cells #[.int .i64 s1, .int .i64 s2] 36), (2, w.heap.size, .cells #[.int .i64 A, .int .i64 B] 23)]) (by kernel_rfl) ?_
 refine tG 0 (.agg #[.int .i64 s1, .int .i64 s2]) (some 52) (GK.grow _) rfl (YieldsIf.toG (Or.inl ⟨by rfl, ?_⟩)) (HAL.out 0) ?_
 ·intro X hX
  have hh := hX (0, gC + 1, .cells #[.int .i64 s1, .int .i64 s2] 36) (List.Mem.head _) rfl
  have hh0 := blk_cell hh 0 _ rfl
  have hh1 := blk_cell hh 1 _ rfl
  have hhl := blk_lt hh
  clear hh
  clear hX
  go_simp
 try simp only [Act.put, zA, zB, zC]
 refine tG 1 (.pointer (some ⟨w.heap.size, 1, none⟩)) (some 53) (GK.grow _) rfl (YieldsIf.toG (Or.inl ⟨by rfl, ?_⟩)) (GK.drop (by simp)) ?_
 ·intro X hX
  clear hX
  go_simp
 try simp only [Act.put, zA, zB, zC]
 refine tG 2 (.int .i64 B) (some 54) (GK.grow _) rfl (YieldsIf.toG (Or.inl ⟨by rfl, ?_⟩)) (HAL.out 2) ?_
 ·intro X hX
  have hh := hX (2, w.heap.size, .cells #[.int .i64 A, .int .i64 B] 23) (List.Mem.tail _ (List.Mem.head _)) rfl
  have hh0 := blk_cell hh 1 _ rfl
  have hhl := blk_lt hh
  clear hh
  clear hX
  go_simp
 try simp only [Act.put, zA, zB, zC]
 have CFn : ∀ (args : Array Value) (W : World), Sem.run Tryz.prog (callFunc 46 args) W = .ok (.enter 46 args) W := fun _ _ => by kernel_rfl
 refine tG 3 (.agg #[.int .i64 B, .int .i64 1]) (some 55) (GK.grow _) rfl (yieldsG_call 46 #[.int .i64 B] (by rfl) ?_ (fun X hS => OB.out X)) (GK.drop (by simp)) ?_
 ·intro X hX
  clear hX
  go_simp
 clear CFn
 try simp only [Act.put, zA, zB, zC]
 have CFn : ∀ (args : Array Value) (W : World), Sem.run Tryz.prog (callFunc 61 args) W = .ok (.enter 61 args) W := fun _ _ => by kernel_rfl
 refine tG 4 (.tuple #[.agg #[.int .i64 z1, .int .i64 z2], .int .i64 0]) (some 56) (GK.grow _) rfl (yieldsG_call 61 #[.agg #[.int .i64 s1, .int .i64 s2], .agg #[.int .i64 B, .int .i64 1]] (by rfl) ?_ (fun X hS => M4.out X)) (GK.drop (by simp)) ?_
 ·intro X hX
  clear hX
  go_simp
 clear CFn
 try simp only [Act.put, zA, zB, zC]
 refine tG 5 (.tuple #[.agg #[.int .i64 z1, .int .i64 z2], .int .i64 0]) (some 51) (GK.grow _) rfl (YieldsIf.toG (Or.inl ⟨by rfl, ?_⟩)) (GK.drop (by simp)) ?_
 ·intro X hX
  clear hX
  go_simp
 try simp only [Act.put, zA, zB, zC]
 refine tG 6 (.agg #[.int .i64 z1, .int .i64 z2]) (some 57) (GK.grow _) rfl (YieldsIf.toG (Or.inl ⟨by rfl, ?_⟩)) (GK.drop (by simp)) ?_
 ·intro X hX
  clear hX
  go_simp
 try simp only [Act.put, zA, zB, zC]
 refine tG 7 (.int .i64 0) (some 58) (GK.grow _) rfl (YieldsIf.toG (Or.inl ⟨by rfl, ?_⟩)) (GK.drop (by simp)) ?_
 ·intro X hX
  clear hX
  go_simp
 try simp only [Act.put, zA, zB, zC]
 refine only_G 8 (by kernel_rfl) rfl (fun X13 hX K' hK' => ?_)
 replace NN := Lib.hid (Bgo NN.out hX)
 replace G := Lib.hid (blk_next hX G.out)
 replace S := Lib.hid (blk_next hX S.out)
 replace T := Lib.hid (blk_next hX T.out)
 replace R := Lib.hid (blk_next hX R.out)
 replace C := Lib.hid (blk_next hX C.out)
 replace K := Lib.hid (blk_next hX K.out)
 replace D := Lib.hid (blk_next hX D.out)
 replace U := Lib.hid (blk_next hX U.out)
 replace X := Lib.hid (blk_next hX X.out)
 replace Y := Lib.hid (blk_next hX Y.out)
 replace HAL := Lib.hid (fun kx9 => GK.grow _ _ _ _ (HAL.out kx9) hX)
 clear hX
 go_simp
 refine hK'.out _ _ (fun _ _ h => h.alloc _) ?_
 clear hK' K'
 try simp only [Act.put, zA, zB, zC]
 have HB := Lib.hid (Bal (Below.refl X13.heap.size X13) (.cells #[.int .i64 0, .int .i64 0] 36))
 have Z : Hid ((X13.alloc (.cells #[.int .i64 0, .int .i64 0] 36)).heap[X13.heap.size]? = some (.cells #[.int .i64 0, .int .i64 0] 36)) := Lib.hid (blk_new X13 (.cells #[.int .i64 0, .int .i64 0] 36))
 have LT_Z : Hid (w.heap.size < X13.heap.size ∧ w.heap.size + 1 < X13.heap.size ∧ w.heap.size + 1 + 1 < X13.heap.size ∧ w.heap.size + 1 + 1 + 1 < X13.heap.size ∧ gC < X13.heap.size ∧ gC + 1 < X13.heap.size ∧ gD < X13.heap.size ∧ gD + 1 < X13.heap.size ∧ gX < X13.heap.size ∧ gY < X13.heap.size ∧ w.heap.size ≤ X13.heap.size) := Lib.hid ⟨blk_lt G.out, blk_lt S.out, blk_lt T.out, blk_lt R.out, blk_lt C.out, blk_lt K.out, blk_lt D.out, blk_lt U.out, blk_lt X.out, blk_lt Y.out, NN.out.size⟩
 replace NN := Lib.hid (Bgo NN.out HB.out)
 replace G := Lib.hid (blk_next HB.out G.out)
 replace S := Lib.hid (blk_next HB.out S.out)
 replace T := Lib.hid (blk_next HB.out T.out)
 replace R := Lib.hid (blk_next HB.out R.out)
 replace C := Lib.hid (blk_next HB.out C.out)
 replace K := Lib.hid (blk_next HB.out K.out)
 replace D := Lib.hid (blk_next HB.out D.out)
 replace U := Lib.hid (blk_next HB.out U.out)
 replace X := Lib.hid (blk_next HB.out X.out)
 replace Y := Lib.hid (blk_next HB.out Y.out)
 replace HAL := Lib.hid (fun kx9 => GK.grow _ _ _ _ (HAL.out kx9) HB.out)
 clear HB
 generalize X13.alloc (.cells #[.int .i64 0, .int .i64 0] 36) = W14 at *
 generalize X13.heap.size = gZ at *
 refine only_G 9 (by kernel_rfl) rfl (fun X15 hX K' hK' => ?_)
 replace NN := Lib.hid (Bgo NN.out hX)
 replace G := Lib.hid (blk_next hX G.out)
 replace S := Lib.hid (blk_next hX S.out)
 replace T := Lib.hid (blk_next hX T.out)
 replace R := Lib.hid (blk_next hX R.out)
 replace C := Lib.hid (blk_next hX C.out)
 replace K := Lib.hid (blk_next hX K.out)
 replace D := Lib.hid (blk_next hX D.out)
 replace U := Lib.hid (blk_next hX U.out)
 replace X := Lib.hid (blk_next hX X.out)
 replace Y := Lib.hid (blk_next hX Y.out)
 replace Z := Lib.hid (blk_next hX Z.out)
 replace HAL := Lib.hid (fun kx9 => GK.grow _ _ _ _ (HAL.out kx9) hX)
 clear hX
 have c_Z_0 := blk_cell Z.out 0 _ rfl
 have f_Z_0 := blk_frozen Z.out 0
 have c_Z_1 := blk_cell Z.out 1 _ rfl
 have f_Z_1 := blk_frozen Z.out 1
 have l_Z := blk_lt Z.out
 go_simp
 clear c_Z_0 f_Z_0 c_Z_1 f_Z_1 l_Z
 refine hK'.out _ _ (fun kk hk hS => ?_) ?_
 ·have HN : ∀ p ∈ ([(0, gC + 1, .cells #[.int .i64 s1, .int .i64 s2] 36), (2, w.heap.size, .cells #[.int .i64 A, .int .i64 B] 23)] : List (Nat × Nat × Obj)), p.1 = kk → p.2.1 ≠ gZ := fun p hp e => by
   simp only [List.mem_cons, List.not_mem_nil, or_false] at hp
   rcases hp with rfl | rfl
   ·subst e
    exact bfl (by kernel_rfl) hk
   ·subst e
    exact bfl (by kernel_rfl) hk
  exact GK.set (GK.set hS HN) HN
 clear hK' K'
 try simp only [Act.put, zA, zB, zC]
 clear HAL
 replace G : Hid (((X15.setCell ⟨gZ, 0, none⟩ (.int .i64 z1)).setCell ⟨gZ, 1, none⟩ (.int .i64 z2)).heap[w.heap.size]? = some (.cells #[.int .i64 A, .int .i64 B] 23)) := Lib.hid (blk_set_other (b' := gZ) (blk_set_other (b' := gZ) (G.out) (by have := LT_Z.out; omega) 0 (.int .i64 z1)) (by have := LT_Z.out; omega) 1 (.int .i64 z2))
 replace S : Hid (((X15.setCell ⟨gZ, 0, none⟩ (.int .i64 z1)).setCell ⟨gZ, 1, none⟩ (.int .i64 z2)).heap[w.heap.size + 1]? = some (.cells #[.int .i64 n, .int .i64 d] 36)) := Lib.hid (blk_set_other (b' := gZ) (blk_set_other (b' := gZ) (S.out) (by have := LT_Z.out; omega) 0 (.int .i64 z1)) (by have := LT_Z.out; omega) 1 (.int .i64 z2))
 replace T : Hid (((X15.setCell ⟨gZ, 0, none⟩ (.int .i64 z1)).setCell ⟨gZ, 1, none⟩ (.int .i64 z2)).heap[w.heap.size + 1 + 1]? = some (.cells #[.int .i64 m, .int .i64 k] 36)) := Lib.hid (blk_set_other (b' := gZ) (blk_set_other (b' := gZ) (T.out) (by have := LT_Z.out; omega) 0 (.int .i64 z1)) (by have := LT_Z.out; omega) 1 (.int .i64 z2))
 replace R : Hid (((X15.setCell ⟨gZ, 0, none⟩ (.int .i64 z1)).setCell ⟨gZ, 1, none⟩ (.int .i64 z2)).heap[w.heap.size + 1 + 1 + 1]? = some (.cells #[.int .i64 0, .int .i64 0, .int .i64 0, .int .i64 0, .int .i64 0, .int .i64 0] 38)) := Lib.hid (blk_set_other (b' := gZ) (blk_set_other (b' := gZ) (R.out) (by have := LT_Z.out; omega) 0 (.int .i64 z1)) (by have := LT_Z.out; omega) 1 (.int .i64 z2))
 replace C : Hid (((X15.setCell ⟨gZ, 0, none⟩ (.int .i64 z1)).setCell ⟨gZ, 1, none⟩ (.int .i64 z2)).heap[gC]? = some (.cells #[.int .i64 v1, .int .i64 v2] 36)) := Lib.hid (blk_set_other (b' := gZ) (blk_set_other (b' := gZ) (C.out) (by have := LT_Z.out; omega) 0 (.int .i64 z1)) (by have := LT_Z.out; omega) 1 (.int .i64 z2))
 replace K : Hid (((X15.setCell ⟨gZ, 0, none⟩ (.int .i64 z1)).setCell ⟨gZ, 1, none⟩ (.int .i64 z2)).heap[gC + 1]? = some (.cells #[.int .i64 s1, .int .i64 s2] 36)) := Lib.hid (blk_set_other (b' := gZ) (blk_set_other (b' := gZ) (K.out) (by have := LT_Z.out; omega) 0 (.int .i64 z1)) (by have := LT_Z.out; omega) 1 (.int .i64 z2))
 replace D : Hid (((X15.setCell ⟨gZ, 0, none⟩ (.int .i64 z1)).setCell ⟨gZ, 1, none⟩ (.int .i64 z2)).heap[gD]? = some (.cells #[.int .i64 t1, .int .i64 t2] 36)) := Lib.hid (blk_set_other (b' := gZ) (blk_set_other (b' := gZ) (D.out) (by have := LT_Z.out; omega) 0 (.int .i64 z1)) (by have := LT_Z.out; omega) 1 (.int .i64 z2))
 replace U : Hid (((X15.setCell ⟨gZ, 0, none⟩ (.int .i64 z1)).setCell ⟨gZ, 1, none⟩ (.int .i64 z2)).heap[gD + 1]? = some (.cells #[.int .i64 u1, .int .i64 u2] 36)) := Lib.hid (blk_set_other (b' := gZ) (blk_set_other (b' := gZ) (U.out) (by have := LT_Z.out; omega) 0 (.int .i64 z1)) (by have := LT_Z.out; omega) 1 (.int .i64 z2))
 replace X : Hid (((X15.setCell ⟨gZ, 0, none⟩ (.int .i64 z1)).setCell ⟨gZ, 1, none⟩ (.int .i64 z2)).heap[gX]? = some (.cells #[.int .i64 x1, .int .i64 x2] 36)) := Lib.hid (blk_set_other (b' := gZ) (blk_set_other (b' := gZ) (X.out) (by have := LT_Z.out; omega) 0 (.int .i64 z1)) (by have := LT_Z.out; omega) 1 (.int .i64 z2))
 replace Y : Hid (((X15.setCell ⟨gZ, 0, none⟩ (.int .i64 z1)).setCell ⟨gZ, 1, none⟩ (.int .i64 z2)).heap[gY]? = some (.cells #[.int .i64 y1, .int .i64 y2] 36)) := Lib.hid (blk_set_other (b' := gZ) (blk_set_other (b' := gZ) (Y.out) (by have := LT_Z.out; omega) 0 (.int .i64 z1)) (by have := LT_Z.out; omega) 1 (.int .i64 z2))
 replace Z : Hid (((X15.setCell ⟨gZ, 0, none⟩ (.int .i64 z1)).setCell ⟨gZ, 1, none⟩ (.int .i64 z2)).heap[gZ]? = some (.cells #[.int .i64 z1, .int .i64 z2] 36)) := Lib.hid (blk_set (blk_set (Z.out) 0 (.int .i64 z1)) 1 (.int .i64 z2))
 replace NN := Lib.hid (Bset1 (Bset1 (NN.out) (show w.heap.size ≤ gZ by have := LT_Z.out; omega) 0 (.int .i64 z1)) (show w.heap.size ≤ gZ by have := LT_Z.out; omega) 1 (.int .i64 z2))
 generalize ((X15.setCell ⟨gZ, 0, none⟩ (.int .i64 z1)).setCell ⟨gZ, 1, none⟩ (.int .i64 z2)) = W16 at *
 refine tG 10 (.int .i64 0) (some 18) (GK.grow _) rfl (YieldsIf.toG (Or.inl ⟨by rfl, ?_⟩)) (GK.drop (by simp)) ?_
 ·intro X hX
  clear hX
  go_simp
 try simp only [Act.put, zA, zB, zC]
 refine done_G (by kernel_rfl) (fun X17 hX => ?_) _
 replace NN := Lib.hid (Bgo NN.out hX)
 replace G := Lib.hid (blk_next hX G.out)
 replace S := Lib.hid (blk_next hX S.out)
 replace T := Lib.hid (blk_next hX T.out)
 replace R := Lib.hid (blk_next hX R.out)
 replace C := Lib.hid (blk_next hX C.out)
 replace K := Lib.hid (blk_next hX K.out)
 replace D := Lib.hid (blk_next hX D.out)
 replace U := Lib.hid (blk_next hX U.out)
 replace X := Lib.hid (blk_next hX X.out)
 replace Y := Lib.hid (blk_next hX Y.out)
 replace Z := Lib.hid (blk_next hX Z.out)
 clear hX
 have c_X_0 := blk_cell X.out 0 _ rfl
 have f_X_0 := blk_frozen X.out 0
 have c_X_1 := blk_cell X.out 1 _ rfl
 have f_X_1 := blk_frozen X.out 1
 have l_X := blk_lt X.out
 have c_Y_0 := blk_cell Y.out 0 _ rfl
 have f_Y_0 := blk_frozen Y.out 0
 have c_Y_1 := blk_cell Y.out 1 _ rfl
 have f_Y_1 := blk_frozen Y.out 1
 have l_Y := blk_lt Y.out
 have c_Z_0 := blk_cell Z.out 0 _ rfl
 have f_Z_0 := blk_frozen Z.out 0
 have c_Z_1 := blk_cell Z.out 1 _ rfl
 have f_Z_1 := blk_frozen Z.out 1
 have l_Z := blk_lt Z.out
 have c_R_0 := blk_cell R.out 0 _ rfl
 have f_R_0 := blk_frozen R.out 0
 have c_R_1 := blk_cell R.out 1 _ rfl
 have f_R_1 := blk_frozen R.out 1
 have c_R_2 := blk_cell R.out 2 _ rfl
 have f_R_2 := blk_frozen R.out 2
 have c_R_3 := blk_cell R.out 3 _ rfl
 have f_R_3 := blk_frozen R.out 3
 have c_R_4 := blk_cell R.out 4 _ rfl
 have f_R_4 := blk_frozen R.out 4
 have c_R_5 := blk_cell R.out 5 _ rfl
 have f_R_5 := blk_frozen R.out 5
 have l_R := blk_lt R.out
 go_wp2_with fail
 clear c_X_0 f_X_0 c_X_1 f_X_1 l_X c_Y_0 f_Y_0 c_Y_1 f_Y_1 l_Y c_Z_0 f_Z_0 c_Z_1 f_Z_1 l_Z c_R_0 f_R_0 c_R_1 f_R_1 c_R_2 f_R_2 c_R_3 f_R_3 c_R_4 f_R_4 c_R_5 f_R_5 l_R
 replace G : Hid (((((((X17.setCell ⟨w.heap.size + 1 + 1 + 1, 0, none⟩ (.int .i64 x1)).setCell ⟨w.heap.size + 1 + 1 + 1, 1, none⟩ (.int .i64 x2)).setCell ⟨w.heap.size + 1 + 1 + 1, 2, none⟩ (.int .i64 y1)).setCell ⟨w.heap.size + 1 + 1 + 1, 3, none⟩ (.int .i64 y2)).setCell ⟨w.heap.size + 1 + 1 + 1, 4, none⟩ (.int .i64 z1)).setCell ⟨w.heap.size + 1 + 1 + 1, 5, none⟩ (.int .i64 z2)).heap[w.heap.size]? = some (.cells #[.int .i64 A, .int .i64 B] 23)) := Lib.hid (blk_set_other (b' := w.heap.size + 1 + 1 + 1) (blk_set_other (b' := w.heap.size + 1 + 1 + 1) (blk_set_other (b' := w.heap.size + 1 + 1 + 1) (blk_set_other (b' := w.heap.size + 1 + 1 + 1) (blk_set_other (b' := w.heap.size + 1 + 1 + 1) (blk_set_other (b' := w.heap.size + 1 + 1 + 1) (G.out) (by omega) 0 (.int .i64 x1)) (by omega) 1 (.int .i64 x2)) (by omega) 2 (.int .i64 y1)) (by omega) 3 (.int .i64 y2)) (by omega) 4 (.int .i64 z1)) (by omega) 5 (.int .i64 z2))
 replace S : Hid (((((((X17.setCell ⟨w.heap.size + 1 + 1 + 1, 0, none⟩ (.int .i64 x1)).setCell ⟨w.heap.size + 1 + 1 + 1, 1, none⟩ (.int .i64 x2)).setCell ⟨w.heap.size + 1 + 1 + 1, 2, none⟩ (.int .i64 y1)).setCell ⟨w.heap.size + 1 + 1 + 1, 3, none⟩ (.int .i64 y2)).setCell ⟨w.heap.size + 1 + 1 + 1, 4, none⟩ (.int .i64 z1)).setCell ⟨w.heap.size + 1 + 1 + 1, 5, none⟩ (.int .i64 z2)).heap[w.heap.size + 1]? = some (.cells #[.int .i64 n, .int .i64 d] 36)) := Lib.hid (blk_set_other (b' := w.heap.size + 1 + 1 + 1) (blk_set_other (b' := w.heap.size + 1 + 1 + 1) (blk_set_other (b' := w.heap.size + 1 + 1 + 1) (blk_set_other (b' := w.heap.size + 1 + 1 + 1) (blk_set_other (b' := w.heap.size + 1 + 1 + 1) (blk_set_other (b' := w.heap.size + 1 + 1 + 1) (S.out) (by omega) 0 (.int .i64 x1)) (by omega) 1 (.int .i64 x2)) (by omega) 2 (.int .i64 y1)) (by omega) 3 (.int .i64 y2)) (by omega) 4 (.int .i64 z1)) (by omega) 5 (.int .i64 z2))
 replace T : Hid (((((((X17.setCell ⟨w.heap.size + 1 + 1 + 1, 0, none⟩ (.int .i64 x1)).setCell ⟨w.heap.size + 1 + 1 + 1, 1, none⟩ (.int .i64 x2)).setCell ⟨w.heap.size + 1 + 1 + 1, 2, none⟩ (.int .i64 y1)).setCell ⟨w.heap.size + 1 + 1 + 1, 3, none⟩ (.int .i64 y2)).setCell ⟨w.heap.size + 1 + 1 + 1, 4, none⟩ (.int .i64 z1)).setCell ⟨w.heap.size + 1 + 1 + 1, 5, none⟩ (.int .i64 z2)).heap[w.heap.size + 1 + 1]? = some (.cells #[.int .i64 m, .int .i64 k] 36)) := Lib.hid (blk_set_other (b' := w.heap.size + 1 + 1 + 1) (blk_set_other (b' := w.heap.size + 1 + 1 + 1) (blk_set_other (b' := w.heap.size + 1 + 1 + 1) (blk_set_other (b' := w.heap.size + 1 + 1 + 1) (blk_set_other (b' := w.heap.size + 1 + 1 + 1) (blk_set_other (b' := w.heap.size + 1 + 1 + 1) (T.out) (by omega) 0 (.int .i64 x1)) (by omega) 1 (.int .i64 x2)) (by omega) 2 (.int .i64 y1)) (by omega) 3 (.int .i64 y2)) (by omega) 4 (.int .i64 z1)) (by omega) 5 (.int .i64 z2))
 replace R : Hid (((((((X17.setCell ⟨w.heap.size + 1 + 1 + 1, 0, none⟩ (.int .i64 x1)).setCell ⟨w.heap.size + 1 + 1 + 1, 1, none⟩ (.int .i64 x2)).setCell ⟨w.heap.size + 1 + 1 + 1, 2, none⟩ (.int .i64 y1)).setCell ⟨w.heap.size + 1 + 1 + 1, 3, none⟩ (.int .i64 y2)).setCell ⟨w.heap.size + 1 + 1 + 1, 4, none⟩ (.int .i64 z1)).setCell ⟨w.heap.size + 1 + 1 + 1, 5, none⟩ (.int .i64 z2)).heap[w.heap.size + 1 + 1 + 1]? = some (.cells #[.int .i64 x1, .int .i64 x2, .int .i64 y1, .int .i64 y2, .int .i64 z1, .int .i64 z2] 38)) := Lib.hid (blk_set (blk_set (blk_set (blk_set (blk_set (blk_set (R.out) 0 (.int .i64 x1)) 1 (.int .i64 x2)) 2 (.int .i64 y1)) 3 (.int .i64 y2)) 4 (.int .i64 z1)) 5 (.int .i64 z2))
 replace C : Hid (((((((X17.setCell ⟨w.heap.size + 1 + 1 + 1, 0, none⟩ (.int .i64 x1)).setCell ⟨w.heap.size + 1 + 1 + 1, 1, none⟩ (.int .i64 x2)).setCell ⟨w.heap.size + 1 + 1 + 1, 2, none⟩ (.int .i64 y1)).setCell ⟨w.heap.size + 1 + 1 + 1, 3, none⟩ (.int .i64 y2)).setCell ⟨w.heap.size + 1 + 1 + 1, 4, none⟩ (.int .i64 z1)).setCell ⟨w.heap.size + 1 + 1 + 1, 5, none⟩ (.int .i64 z2)).heap[gC]? = some (.cells #[.int .i64 v1, .int .i64 v2] 36)) := Lib.hid (blk_set_other (b' := w.heap.size + 1 + 1 + 1) (blk_set_other (b' := w.heap.size + 1 + 1 + 1) (blk_set_other (b' := w.heap.size + 1 + 1 + 1) (blk_set_other (b' := w.heap.size + 1 + 1 + 1) (blk_set_other (b' := w.heap.size + 1 + 1 + 1) (blk_set_other (b' := w.heap.size + 1 + 1 + 1) (C.out) (by have := LT_C.out; omega) 0 (.int .i64 x1)) (by have := LT_C.out; omega) 1 (.int .i64 x2)) (by have := LT_C.out; omega) 2 (.int .i64 y1)) (by have := LT_C.out; omega) 3 (.int .i64 y2)) (by have := LT_C.out; omega) 4 (.int .i64 z1)) (by have := LT_C.out; omega) 5 (.int .i64 z2))
 replace K : Hid (((((((X17.setCell ⟨w.heap.size + 1 + 1 + 1, 0, none⟩ (.int .i64 x1)).setCell ⟨w.heap.size + 1 + 1 + 1, 1, none⟩ (.int .i64 x2)).setCell ⟨w.heap.size + 1 + 1 + 1, 2, none⟩ (.int .i64 y1)).setCell ⟨w.heap.size + 1 + 1 + 1, 3, none⟩ (.int .i64 y2)).setCell ⟨w.heap.size + 1 + 1 + 1, 4, none⟩ (.int .i64 z1)).setCell ⟨w.heap.size + 1 + 1 + 1, 5, none⟩ (.int .i64 z2)).heap[gC + 1]? = some (.cells #[.int .i64 s1, .int .i64 s2] 36)) := Lib.hid (blk_set_other (b' := w.heap.size + 1 + 1 + 1) (blk_set_other (b' := w.heap.size + 1 + 1 + 1) (blk_set_other (b' := w.heap.size + 1 + 1 + 1) (blk_set_other (b' := w.heap.size + 1 + 1 + 1) (blk_set_other (b' := w.heap.size + 1 + 1 + 1) (blk_set_other (b' := w.heap.size + 1 + 1 + 1) (K.out) (by have := LT_C.out; omega) 0 (.int .i64 x1)) (by have := LT_C.out; omega) 1 (.int .i64 x2)) (by have := LT_C.out; omega) 2 (.int .i64 y1)) (by have := LT_C.out; omega) 3 (.int .i64 y2)) (by have := LT_C.out; omega) 4 (.int .i64 z1)) (by have := LT_C.out; omega) 5 (.int .i64 z2))
 replace D : Hid (((((((X17.setCell ⟨w.heap.size + 1 + 1 + 1, 0, none⟩ (.int .i64 x1)).setCell ⟨w.heap.size + 1 + 1 + 1, 1, none⟩ (.int .i64 x2)).setCell ⟨w.heap.size + 1 + 1 + 1, 2, none⟩ (.int .i64 y1)).setCell ⟨w.heap.size + 1 + 1 + 1, 3, none⟩ (.int .i64 y2)).setCell ⟨w.heap.size + 1 + 1 + 1, 4, none⟩ (.int .i64 z1)).setCell ⟨w.heap.size + 1 + 1 + 1, 5, none⟩ (.int .i64 z2)).heap[gD]? = some (.cells #[.int .i64 t1, .int .i64 t2] 36)) := Lib.hid (blk_set_other (b' := w.heap.size + 1 + 1 + 1) (blk_set_other (b' := w.heap.size + 1 + 1 + 1) (blk_set_other (b' := w.heap.size + 1 + 1 + 1) (blk_set_other (b' := w.heap.size + 1 + 1 + 1) (blk_set_other (b' := w.heap.size + 1 + 1 + 1) (blk_set_other (b' := w.heap.size + 1 + 1 + 1) (D.out) (by have := LT_D.out; omega) 0 (.int .i64 x1)) (by have := LT_D.out; omega) 1 (.int .i64 x2)) (by have := LT_D.out; omega) 2 (.int .i64 y1)) (by have := LT_D.out; omega) 3 (.int .i64 y2)) (by have := LT_D.out; omega) 4 (.int .i64 z1)) (by have := LT_D.out; omega) 5 (.int .i64 z2))
 replace U : Hid (((((((X17.setCell ⟨w.heap.size + 1 + 1 + 1, 0, none⟩ (.int .i64 x1)).setCell ⟨w.heap.size + 1 + 1 + 1, 1, none⟩ (.int .i64 x2)).setCell ⟨w.heap.size + 1 + 1 + 1, 2, none⟩ (.int .i64 y1)).setCell ⟨w.heap.size + 1 + 1 + 1, 3, none⟩ (.int .i64 y2)).setCell ⟨w.heap.size + 1 + 1 + 1, 4, none⟩ (.int .i64 z1)).setCell ⟨w.heap.size + 1 + 1 + 1, 5, none⟩ (.int .i64 z2)).heap[gD + 1]? = some (.cells #[.int .i64 u1, .int .i64 u2] 36)) := Lib.hid (blk_set_other (b' := w.heap.size + 1 + 1 + 1) (blk_set_other (b' := w.heap.size + 1 + 1 + 1) (blk_set_other (b' := w.heap.size + 1 + 1 + 1) (blk_set_other (b' := w.heap.size + 1 + 1 + 1) (blk_set_other (b' := w.heap.size + 1 + 1 + 1) (blk_set_other (b' := w.heap.size + 1 + 1 + 1) (U.out) (by have := LT_D.out; omega) 0 (.int .i64 x1)) (by have := LT_D.out; omega) 1 (.int .i64 x2)) (by have := LT_D.out; omega) 2 (.int .i64 y1)) (by have := LT_D.out; omega) 3 (.int .i64 y2)) (by have := LT_D.out; omega) 4 (.int .i64 z1)) (by have := LT_D.out; omega) 5 (.int .i64 z2))
 replace X : Hid (((((((X17.setCell ⟨w.heap.size + 1 + 1 + 1, 0, none⟩ (.int .i64 x1)).setCell ⟨w.heap.size + 1 + 1 + 1, 1, none⟩ (.int .i64 x2)).setCell ⟨w.heap.size + 1 + 1 + 1, 2, none⟩ (.int .i64 y1)).setCell ⟨w.heap.size + 1 + 1 + 1, 3, none⟩ (.int .i64 y2)).setCell ⟨w.heap.size + 1 + 1 + 1, 4, none⟩ (.int .i64 z1)).setCell ⟨w.heap.size + 1 + 1 + 1, 5, none⟩ (.int .i64 z2)).heap[gX]? = some (.cells #[.int .i64 x1, .int .i64 x2] 36)) := Lib.hid (blk_set_other (b' := w.heap.size + 1 + 1 + 1) (blk_set_other (b' := w.heap.size + 1 + 1 + 1) (blk_set_other (b' := w.heap.size + 1 + 1 + 1) (blk_set_other (b' := w.heap.size + 1 + 1 + 1) (blk_set_other (b' := w.heap.size + 1 + 1 + 1) (blk_set_other (b' := w.heap.size + 1 + 1 + 1) (X.out) (by have := LT_X.out; omega) 0 (.int .i64 x1)) (by have := LT_X.out; omega) 1 (.int .i64 x2)) (by have := LT_X.out; omega) 2 (.int .i64 y1)) (by have := LT_X.out; omega) 3 (.int .i64 y2)) (by have := LT_X.out; omega) 4 (.int .i64 z1)) (by have := LT_X.out; omega) 5 (.int .i64 z2))
 replace Y : Hid (((((((X17.setCell ⟨w.heap.size + 1 + 1 + 1, 0, none⟩ (.int .i64 x1)).setCell ⟨w.heap.size + 1 + 1 + 1, 1, none⟩ (.int .i64 x2)).setCell ⟨w.heap.size + 1 + 1 + 1, 2, none⟩ (.int .i64 y1)).setCell ⟨w.heap.size + 1 + 1 + 1, 3, none⟩ (.int .i64 y2)).setCell ⟨w.heap.size + 1 + 1 + 1, 4, none⟩ (.int .i64 z1)).setCell ⟨w.heap.size + 1 + 1 + 1, 5, none⟩ (.int .i64 z2)).heap[gY]? = some (.cells #[.int .i64 y1, .int .i64 y2] 36)) := Lib.hid (blk_set_other (b' := w.heap.size + 1 + 1 + 1) (blk_set_other (b' := w.heap.size + 1 + 1 + 1) (blk_set_other (b' := w.heap.size + 1 + 1 + 1) (blk_set_other (b' := w.heap.size + 1 + 1 + 1) (blk_set_other (b' := w.heap.size + 1 + 1 + 1) (blk_set_other (b' := w.heap.size + 1 + 1 + 1) (Y.out) (by have := LT_Y.out; omega) 0 (.int .i64 x1)) (by have := LT_Y.out; omega) 1 (.int .i64 x2)) (by have := LT_Y.out; omega) 2 (.int .i64 y1)) (by have := LT_Y.out; omega) 3 (.int .i64 y2)) (by have := LT_Y.out; omega) 4 (.int .i64 z1)) (by have := LT_Y.out; omega) 5 (.int .i64 z2))
 replace Z : Hid (((((((X17.setCell ⟨w.heap.size + 1 + 1 + 1, 0, none⟩ (.int .i64 x1)).setCell ⟨w.heap.size + 1 + 1 + 1, 1, none⟩ (.int .i64 x2)).setCell ⟨w.heap.size + 1 + 1 + 1, 2, none⟩ (.int .i64 y1)).setCell ⟨w.heap.size + 1 + 1 + 1, 3, none⟩ (.int .i64 y2)).setCell ⟨w.heap.size + 1 + 1 + 1, 4, none⟩ (.int .i64 z1)).setCell ⟨w.heap.size + 1 + 1 + 1, 5, none⟩ (.int .i64 z2)).heap[gZ]? = some (.cells #[.int .i64 z1, .int .i64 z2] 36)) := Lib.hid (blk_set_other (b' := w.heap.size + 1 + 1 + 1) (blk_set_other (b' := w.heap.size + 1 + 1 + 1) (blk_set_other (b' := w.heap.size + 1 + 1 + 1) (blk_set_other (b' := w.heap.size + 1 + 1 + 1) (blk_set_other (b' := w.heap.size + 1 + 1 + 1) (blk_set_other (b' := w.heap.size + 1 + 1 + 1) (Z.out) (by have := LT_Z.out; omega) 0 (.int .i64 x1)) (by have := LT_Z.out; omega) 1 (.int .i64 x2)) (by have := LT_Z.out; omega) 2 (.int .i64 y1)) (by have := LT_Z.out; omega) 3 (.int .i64 y2)) (by have := LT_Z.out; omega) 4 (.int .i64 z1)) (by have := LT_Z.out; omega) 5 (.int .i64 z2))
 replace NN := Lib.hid (Bset1 (Bset1 (Bset1 (Bset1 (Bset1 (Bset1 (NN.out) (show w.heap.size ≤ w.heap.size + 1 + 1 + 1 by omega) 0 (.int .i64 x1)) (show w.heap.size ≤ w.heap.size + 1 + 1 + 1 by omega) 1 (.int .i64 x2)) (show w.heap.size ≤ w.heap.size + 1 + 1 + 1 by omega) 2 (.int .i64 y1)) (show w.heap.size ≤ w.heap.size + 1 + 1 + 1 by omega) 3 (.int .i64 y2)) (show w.heap.size ≤ w.heap.size + 1 + 1 + 1 by omega) 4 (.int .i64 z1)) (show w.heap.size ≤ w.heap.size + 1 + 1 + 1 by omega) 5 (.int .i64 z2))
 generalize ((((((X17.setCell ⟨w.heap.size + 1 + 1 + 1, 0, none⟩ (.int .i64 x1)).setCell ⟨w.heap.size + 1 + 1 + 1, 1, none⟩ (.int .i64 x2)).setCell ⟨w.heap.size + 1 + 1 + 1, 2, none⟩ (.int .i64 y1)).setCell ⟨w.heap.size + 1 + 1 + 1, 3, none⟩ (.int .i64 y2)).setCell ⟨w.heap.size + 1 + 1 + 1, 4, none⟩ (.int .i64 z1)).setCell ⟨w.heap.size + 1 + 1 + 1, 5, none⟩ (.int .i64 z2)) = W18 at *
 have c_R_0 := blk_cell R.out 0 _ rfl
 have f_R_0 := blk_frozen R.out 0
 have c_R_1 := blk_cell R.out 1 _ rfl
 have f_R_1 := blk_frozen R.out 1
 have c_R_2 := blk_cell R.out 2 _ rfl
 have f_R_2 := blk_frozen R.out 2
 have c_R_3 := blk_cell R.out 3 _ rfl
 have f_R_3 := blk_frozen R.out 3
 have c_R_4 := blk_cell R.out 4 _ rfl
 have f_R_4 := blk_frozen R.out 4
 have c_R_5 := blk_cell R.out 5 _ rfl
 have f_R_5 := blk_frozen R.out 5
 have l_R := blk_lt R.out
 go_wp2_with fail
 exact bodyPost_ret (v := Pv x1 x2 y1 y2 z1 z2) (by simp [results, Tryz.results27, go_sem, c_R_0, c_R_1, c_R_2, c_R_3, c_R_4, c_R_5]) rfl ⟨rfl, NN.out⟩
end Go.Proofs.YtfangplfbbgphaaGreatDoor
