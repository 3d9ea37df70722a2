/- Several texts in one. -/
import Derived.Test.YtfangplfbbgphaaGreatDoorMF07
import Derived.Test.YtfangplfbbgphaaGreatDoorMF09
import Derived.Test.YtfangplfbbgphaaGreatDoorMF11
namespace Go.Proofs.YtfangplfbbgphaaGreatDoor
open Go.ChangeShapes Go.WideShapes Go.ChangeAt Go.RowKit
set_option linter.unusedVariables false
set_option maxRecDepth 100000
set_option linter.unusedSimpArgs false
attribute [local go_sem ↓] Go.wp_at_zero Go.wp_at_succ
theorem okF_neg (n d : Int) : okF (-n) d = okF n d := by
 unfold okF
 rw [Int.natAbs_neg]
 congr 1
 exact decide_eq_decide.2 (by omega)
theorem okF_lim {n d : Int} (h : okF n d = true) : -9223372036854775807 ≤ n ∧ n ≤ 9223372036854775807 ∧ 1 ≤ d := by
 unfold okF at h
 simp only [Bool.and_eq_true, decide_eq_true_eq] at h
 omega
theorem errB_yes {an ad bn bd : Int} (h : okF an ad = true) (h' : okF bn bd = true) : errB an ad bn bd = 0 := by
 unfold errB errF
 rw [h, h']; rfl
theorem okV_x {v : V6} (h : okV v = true) : okF v.x1 v.x2 = true ∧ okF v.y1 v.y2 = true ∧ okF v.z1 v.z2 = true := by
 unfold okV at h
 simpa using h
def negV (v : V6) : V6 := ⟨-v.x1, v.x2, -v.y1, v.y2, -v.z1, v.z2⟩
theorem okV_neg {v : V6} (h : okV v = true) : okV (negV v) = true := by
 obtain ⟨h1, h2, h3⟩ := okV_x h
 unfold okV negV
 rw [okF_neg, okF_neg, okF_neg, h1, h2, h3]; rfl
def addV (v u : V6) : V6 := ⟨(addR v.x1 v.x2 u.x1 u.x2).1, (addR v.x1 v.x2 u.x1 u.x2).2.1, (addR v.y1 v.y2 u.y1 u.y2).1, (addR v.y1 v.y2 u.y1 u.y2).2.1, (addR v.z1 v.z2 u.z1 u.z2).1, (addR v.z1 v.z2 u.z1 u.z2).2.1⟩
def subV (v u : V6) : V6 := ⟨(subR v.x1 v.x2 u.x1 u.x2).1, (subR v.x1 v.x2 u.x1 u.x2).2.1, (subR v.y1 v.y2 u.y1 u.y2).1, (subR v.y1 v.y2 u.y1 u.y2).2.1, (subR v.z1 v.z2 u.z1 u.z2).1, (subR v.z1 v.z2 u.z1 u.z2).2.1⟩
structure AddOk (v u : V6) : Prop where
 ov : okV v = true
 ou : okV u = true
 x : (addR v.x1 v.x2 u.x1 u.x2).2.2 = 0
 y : (addR v.y1 v.y2 u.y1 u.y2).2.2 = 0
 z : (addR v.z1 v.z2 u.z1 u.z2).2.2 = 0
structure SubOk (v u : V6) : Prop where
 ov : okV v = true
 ou : okV u = true
 x : (subR v.x1 v.x2 u.x1 u.x2).2.2 = 0
 y : (subR v.y1 v.y2 u.y1 u.y2).2.2 = 0
 z : (subR v.z1 v.z2 u.z1 u.z2).2.2 = 0
theorem subR_neg {an ad bn bd : Int} (h : okF an ad = true) (h' : okF bn bd = true) : addR an ad (-bn) bd = subR an ad bn bd := by
 unfold addR subR
 rw [errB_yes h h', errB_yes h (by rw [okF_neg]; exact h')]
theorem SubOk.neg {v u : V6} (h : SubOk v u) : AddOk v (negV u) ∧ addV v (negV u) = subV v u := by
 obtain ⟨a1, a2, a3⟩ := okV_x h.ov
 obtain ⟨b1, b2, b3⟩ := okV_x h.ou
 have ex : addR v.x1 v.x2 (negV u).x1 (negV u).x2 = subR v.x1 v.x2 u.x1 u.x2 := subR_neg a1 b1
 have ey : addR v.y1 v.y2 (negV u).y1 (negV u).y2 = subR v.y1 v.y2 u.y1 u.y2 := subR_neg a2 b2
 have ez : addR v.z1 v.z2 (negV u).z1 (negV u).z2 = subR v.z1 v.z2 u.z1 u.z2 := subR_neg a3 b3
 refine ⟨⟨h.ov, okV_neg h.ou, by rw [ex]; exact h.x, by rw [ey]; exact h.y, by rw [ez]; exact h.z⟩, ?_⟩
 unfold addV subV
 rw [ex, ey, ez]
set_option maxRecDepth 100000 in
set_option maxHeartbeats 8000000 in
theorem rvcheck_calls (v : V6) (h : okV v = true) (w : World) : Calls Tryz.prog 109 #[Vv v] w fun e w' => e = .returned (.int .i64 0) ∧ Below w.heap.size w w' := by
 have NN := Lib.hid (Below.refl w.heap.size w)
 obtain ⟨h1, h2, h3⟩ := okV_x h
 have C1 := Lib.hid (fun W => refBoth_calls v.x1 v.x2 v.y1 v.y2 W)
 have C2 := Lib.hid (fun W => refCheck_calls v.z1 v.z2 W)
 rw [errB_yes h1 h2] at C1
 rw [show errF v.z1 v.z2 = 0 by unfold errF; rw [h3]; rfl] at C2
 clear h h1 h2 h3
 go_enter Tryz.func109, Tryz.ntmps109
 go_wp2_with fail
 have V : Hid ((w.alloc (.cells #[.int .i64 v.x1, .int .i64 v.x2, .int .i64 v.y1, .int .i64 v.y2, .int .i64 v.z1, .int .i64 v.z2] 38)).heap[w.heap.size]? = some (.cells #[.int .i64 v.x1, .int .i64 v.x2, .int .i64 v.y1, .int .i64 v.y2, .int .i64 v.z1, .int .i64 v.z2] 38)) := Lib.hid (blk_new w _)
 replace NN : Hid (Below w.heap.size w (w.alloc (.cells #[.int .i64 v.x1, .int .i64 v.x2, .int .i64 v.y1, .int .i64 v.y2, .int .i64 v.z1, .int .i64 v.z2] 38))) := Lib.hid (Bal NN.out _)
 generalize (w.alloc (.cells #[.int .i64 v.x1, .int .i64 v.x2, .int .i64 v.y1, .int .i64 v.y2, .int .i64 v.z1, .int .i64 v.z2] 38)) = W1 at *
 refine (C1.out _).mono ?_
 rintro e w2 ⟨rfl, hb⟩
 replace NN := Lib.hid (Bgo NN.out hb)
 replace V := Lib.hid (blk_next hb V.out)
 clear hb
 have c_V_0 := blk_cell V.out 0 _ rfl
 have f_V_0 := blk_frozen V.out 0
 have c_V_1 := blk_cell V.out 1 _ rfl
 have f_V_1 := blk_frozen V.out 1
 have c_V_2 := blk_cell V.out 2 _ rfl
 have f_V_2 := blk_frozen V.out 2
 have c_V_3 := blk_cell V.out 3 _ rfl
 have f_V_3 := blk_frozen V.out 3
 have c_V_4 := blk_cell V.out 4 _ rfl
 have f_V_4 := blk_frozen V.out 4
 have c_V_5 := blk_cell V.out 5 _ rfl
 have f_V_5 := blk_frozen V.out 5
 have l_V := blk_lt V.out
 go_wp2_with fail
 refine (C2.out _).mono ?_
 rintro e w3 ⟨rfl, hb⟩
 clear c_V_0 f_V_0 c_V_1 f_V_1 c_V_2 f_V_2 c_V_3 f_V_3 c_V_4 f_V_4 c_V_5 f_V_5 l_V
 replace NN := Lib.hid (Bgo NN.out hb)
 replace V := Lib.hid (blk_next hb V.out)
 clear hb
 go_wp2_with fail
 go_ret
 exact ⟨rfl, NN.out⟩
set_option maxRecDepth 100000 in
set_option maxHeartbeats 8000000 in
theorem rvboth_calls (v u : V6) (h : okV v = true) (h' : okV u = true) (w : World) : Calls Tryz.prog 72 #[Vv v, Vv u] w fun e w' => e = .returned (.int .i64 0) ∧ Below w.heap.size w w' := by
 have NN := Lib.hid (Below.refl w.heap.size w)
 have C1 := Lib.hid (fun W => rvcheck_calls v h W)
 have C2 := Lib.hid (fun W => rvcheck_calls u h' W)
 clear h h'
 go_enter Tryz.func72, Tryz.ntmps72
 go_wp2_with fail
 have V : Hid (((w.alloc (.cells #[.int .i64 v.x1, .int .i64 v.x2, .int .i64 v.y1, .int .i64 v.y2, .int .i64 v.z1, .int .i64 v.z2] 38)).alloc (.cells #[.int .i64 u.x1, .int .i64 u.x2, .int .i64 u.y1, .int .i64 u.y2, .int .i64 u.z1, .int .i64 u.z2] 38)).heap[w.heap.size]? = some (.cells #[.int .i64 v.x1, .int .i64 v.x2, .int .i64 v.y1, .int .i64 v.y2, .int .i64 v.z1, .int .i64 v.z2] 38)) := Lib.hid (blk_alloc (blk_new w _) _)
 have U : Hid (((w.alloc (.cells #[.int .i64 v.x1, .int .i64 v.x2, .int .i64 v.y1, .int .i64 v.y2, .int .i64 v.z1, .int .i64 v.z2] 38)).alloc (.cells #[.int .i64 u.x1, .int .i64 u.x2, .int .i64 u.y1, .int .i64 u.y2, .int .i64 u.z1, .int .i64 u.z2] 38)).heap[w.heap.size + 1]? = some (.cells #[.int .i64 u.x1, .int .i64 u.x2, .int .i64 u.y1, .int .i64 u.y2, .int .i64 u.z1, .int .i64 u.z2] 38)) := Lib.hid (blk_at _ (by simp))
 replace NN : Hid (Below w.heap.size w ((w.alloc (.cells #[.int .i64 v.x1, .int .i64 v.x2, .int .i64 v.y1, .int .i64 v.y2, .int .i64 v.z1, .int .i64 v.z2] 38)).alloc (.cells #[.int .i64 u.x1, .int .i64 u.x2, .int .i64 u.y1, .int .i64 u.y2, .int .i64 u.z1, .int .i64 u.z2] 38))) := Lib.hid (Bal (Bal NN.out _) _)
 generalize ((w.alloc (.cells #[.int .i64 v.x1, .int .i64 v.x2, .int .i64 v.y1, .int .i64 v.y2, .int .i64 v.z1, .int .i64 v.z2] 38)).alloc (.cells #[.int .i64 u.x1, .int .i64 u.x2, .int .i64 u.y1, .int .i64 u.y2, .int .i64 u.z1, .int .i64 u.z2] 38)) = W1 at *
 refine (C1.out _).mono ?_
 rintro e w2 ⟨rfl, hb⟩
 replace NN := Lib.hid (Bgo NN.out hb)
 replace V := Lib.hid (blk_next hb V.out)
 replace U := Lib.hid (blk_next hb U.out)
 clear hb
 have c_U_0 := blk_cell U.out 0 _ rfl
 have f_U_0 := blk_frozen U.out 0
 have c_U_1 := blk_cell U.out 1 _ rfl
 have f_U_1 := blk_frozen U.out 1
 have c_U_2 := blk_cell U.out 2 _ rfl
 have f_U_2 := blk_frozen U.out 2
 have c_U_3 := blk_cell U.out 3 _ rfl
 have f_U_3 := blk_frozen U.out 3
 have c_U_4 := blk_cell U.out 4 _ rfl
 have f_U_4 := blk_frozen U.out 4
 have c_U_5 := blk_cell U.out 5 _ rfl
 have f_U_5 := blk_frozen U.out 5
 have l_U := blk_lt U.out
 go_wp2_with fail
 refine (C2.out _).mono ?_
 rintro e w3 ⟨rfl, hb⟩
 clear c_U_0 f_U_0 c_U_1 f_U_1 c_U_2 f_U_2 c_U_3 f_U_3 c_U_4 f_U_4 c_U_5 f_U_5 l_U
 replace NN := Lib.hid (Bgo NN.out hb)
 replace V := Lib.hid (blk_next hb V.out)
 replace U := Lib.hid (blk_next hb U.out)
 clear hb
 go_wp2_with fail
 go_ret
 exact ⟨rfl, NN.out⟩
set_option maxRecDepth 100000 in
set_option maxHeartbeats 8000000 in
theorem rvneg_calls (v : V6) (h : okV v = true) (w : World) : Calls Tryz.prog 12 #[Vv v] w fun e w' => e = .returned (Vv (negV v)) ∧ Below w.heap.size w w' := by
 have NN := Lib.hid (Below.refl w.heap.size w)
 obtain ⟨h1, h2, h3⟩ := okV_x h
 have C1 := Lib.hid (fun W => refNeg_calls v.x1 v.x2 W (okF_lim h1).1 (okF_lim h1).2.1)
 have C2 := Lib.hid (fun W => refNeg_calls v.y1 v.y2 W (okF_lim h2).1 (okF_lim h2).2.1)
 have C3 := Lib.hid (fun W => refNeg_calls v.z1 v.z2 W (okF_lim h3).1 (okF_lim h3).2.1)
 clear h h1 h2 h3
 go_enter Tryz.func12, Tryz.ntmps12
 go_upto_region 1 with fail
 have V : Hid (((w.alloc (.cells #[.int .i64 v.x1, .int .i64 v.x2, .int .i64 v.y1, .int .i64 v.y2, .int .i64 v.z1, .int .i64 v.z2] 38)).alloc (.cells #[.int .i64 0, .int .i64 0, .int .i64 0, .int .i64 0, .int .i64 0, .int .i64 0] 38)).heap[w.heap.size]? = some (.cells #[.int .i64 v.x1, .int .i64 v.x2, .int .i64 v.y1, .int .i64 v.y2, .int .i64 v.z1, .int .i64 v.z2] 38)) := Lib.hid (blk_alloc (blk_new w _) _)
 have R : Hid (((w.alloc (.cells #[.int .i64 v.x1, .int .i64 v.x2, .int .i64 v.y1, .int .i64 v.y2, .int .i64 v.z1, .int .i64 v.z2] 38)).alloc (.cells #[.int .i64 0, .int .i64 0, .int .i64 0, .int .i64 0, .int .i64 0, .int .i64 0] 38)).heap[w.heap.size + 1]? = some (.cells #[.int .i64 0, .int .i64 0, .int .i64 0, .int .i64 0, .int .i64 0, .int .i64 0] 38)) := Lib.hid (blk_at _ (by simp))
 replace NN : Hid (Below w.heap.size w ((w.alloc (.cells #[.int .i64 v.x1, .int .i64 v.x2, .int .i64 v.y1, .int .i64 v.y2, .int .i64 v.z1, .int .i64 v.z2] 38)).alloc (.cells #[.int .i64 0, .int .i64 0, .int .i64 0, .int .i64 0, .int .i64 0, .int .i64 0] 38))) := Lib.hid (Bal (Bal NN.out _) _)
 generalize ((w.alloc (.cells #[.int .i64 v.x1, .int .i64 v.x2, .int .i64 v.y1, .int .i64 v.y2, .int .i64 v.z1, .int .i64 v.z2] 38)).alloc (.cells #[.int .i64 0, .int .i64 0, .int .i64 0, .int .i64 0, .int .i64 0, .int .i64 0] 38)) = W1 at *
 have HDRW := Lib.hid (Below.drew (Below.refl W1.heap.size W1))
 replace NN := Lib.hid (Bgo NN.out HDRW.out)
 replace V := Lib.hid (blk_next HDRW.out V.out)
 replace R := Lib.hid (blk_next HDRW.out R.out)
 clear HDRW
 have HAL : Hid (∀ kx9 : Nat, GK [(1, w.heap.size, .cells #[.int .i64 v.x1, .int .i64 v.x2, .int .i64 v.y1, .int .i64 v.y2, .int .i64 v.z1, .int .i64 v.z2] 38), (4, w.heap.size, .cells #[.int .i64 v.x1, .int .i64 v.x2, .int .i64 v.y1, .int .i64 v.y2, .int .i64 v.z1, .int .i64 v.z2] 38), (7, w.heap.size, .cells #[.int .i64 v.x1, .int .i64 v.x2, .int .i64 v.y1, .int .i64 v.y2, .int .i64 v.z1, .int .i64 v.z2] 38)] kx9 W1.drew) := Lib.hid (fun kx9 p hp e => by
  simp only [List.mem_cons, List.not_mem_nil, or_false] at hp
  rcases hp with rfl | rfl | rfl
  ·exact V.out
  ·exact V.out
  ·exact V.out)
 refine region_G (S := GK [(1, w.heap.size, .cells #[.int .i64 v.x1, .int .i64 v.x2, .int .i64 v.y1, .int .i64 v.y2, .int .i64 v.z1, .int .i64 v.z2] 38), (4, w.heap.size, .cells #[.int .i64 v.x1, .int .i64 v.x2, .int .i64 v.y1, .int .i64 v.y2, .int .i64 v.z1, .int .i64 v.z2] 38), (7, w.heap.size, .cells #[.int .i64 v.x1, .int .i64 v.x2, .int .i64 v.y1, .int .i64 v.y2, .int .i64 v.z1, .int .i64 v.z2] 38)]) (by kernel_rfl) ?_
 refine tG 0 (.pointer (some ⟨w.heap.size, 0, none⟩)) (some 3) (GK.grow _) rfl (YieldsIf.toG (Or.inl ⟨by rfl, ?_⟩)) (GK.drop (by simp)) ?_
 ·intro X hX
  clear hX
  go_simp
 try simp only [Act.put, zA, zB, zC]
 refine tG 1 (.agg #[.int .i64 v.x1, .int .i64 v.x2]) (some 4) (GK.grow _) rfl (YieldsIf.toG (Or.inl ⟨by rfl, ?_⟩)) (HAL.out 1) ?_
 ·intro X hX
  have hh := hX (1, w.heap.size, .cells #[.int .i64 v.x1, .int .i64 v.x2, .int .i64 v.y1, .int .i64 v.y2, .int .i64 v.z1, .int .i64 v.z2] 38) (List.Mem.head _) rfl
  have hh0 := blk_cell hh 0 _ rfl
  have hh1 := blk_cell hh 1 _ rfl
  have hhl := blk_lt hh
  clear hh
  clear hX
  go_simp
 try simp only [Act.put, zA, zB, zC]
 have CFn : ∀ (args : Array Value) (W : World), Sem.run Tryz.prog (callFunc 40 args) W = .ok (.enter 40 args) W := fun _ _ => by kernel_rfl
 refine tG 2 (.agg #[.int .i64 (-v.x1), .int .i64 v.x2]) (some 5) (GK.grow _) rfl (yieldsG_call 40 #[.agg #[.int .i64 v.x1, .int .i64 v.x2]] (by rfl) ?_ (fun X hS => C1.out X)) (GK.drop (by simp)) ?_
 ·intro X hX
  clear hX
  go_simp
 clear CFn
 try simp only [Act.put, zA, zB, zC]
 refine tG 3 (.pointer (some ⟨w.heap.size, 2, none⟩)) (some 6) (GK.grow _) rfl (YieldsIf.toG (Or.inl ⟨by rfl, ?_⟩)) (GK.drop (by simp)) ?_
 ·intro X hX
  clear hX
  go_simp
 try simp only [Act.put, zA, zB, zC]
 refine tG 4 (.agg #[.int .i64 v.y1, .int .i64 v.y2]) (some 7) (GK.grow _) rfl (YieldsIf.toG (Or.inl ⟨by rfl, ?_⟩)) (HAL.out 4) ?_
 ·intro X hX
  have hh := hX (4, w.heap.size, .cells #[.int .i64 v.x1, .int .i64 v.x2, .int .i64 v.y1, .int .i64 v.y2, .int .i64 v.z1, .int .i64 v.z2] 38) (List.Mem.tail _ (List.Mem.head _)) rfl
  have hh0 := blk_cell hh 2 _ rfl
  have hh1 := blk_cell hh 3 _ rfl
  have hhl := blk_lt hh
  clear hh
  clear hX
  go_simp
 try simp only [Act.put, zA, zB, zC]
 have CFn : ∀ (args : Array Value) (W : World), Sem.run Tryz.prog (callFunc 40 args) W = .ok (.enter 40 args) W := fun _ _ => by kernel_rfl
 refine tG 5 (.agg #[.int .i64 (-v.y1), .int .i64 v.y2]) (some 8) (GK.grow _) rfl (yieldsG_call 40 #[.agg #[.int .i64 v.y1, .int .i64 v.y2]] (by rfl) ?_ (fun X hS => C2.out X)) (GK.drop (by simp)) ?_
 ·intro X hX
  clear hX
  go_simp
 clear CFn
 try simp only [Act.put, zA, zB, zC]
 refine tG 6 (.pointer (some ⟨w.heap.size, 4, none⟩)) (some 9) (GK.grow _) rfl (YieldsIf.toG (Or.inl ⟨by rfl, ?_⟩)) (GK.drop (by simp)) ?_
 ·intro X hX
  clear hX
  go_simp
 try simp only [Act.put, zA, zB, zC]
 refine tG 7 (.agg #[.int .i64 v.z1, .int .i64 v.z2]) (some 10) (GK.grow _) rfl (YieldsIf.toG (Or.inl ⟨by rfl, ?_⟩)) (HAL.out 7) ?_
 ·intro X hX
  have hh := hX (7, w.heap.size, .cells #[.int .i64 v.x1, .int .i64 v.x2, .int .i64 v.y1, .int .i64 v.y2, .int .i64 v.z1, .int .i64 v.z2] 38) (List.Mem.tail _ (List.Mem.tail _ (List.Mem.head _))) rfl
  have hh0 := blk_cell hh 4 _ rfl
  have hh1 := blk_cell hh 5 _ rfl
  have hhl := blk_lt hh
  clear hh
  clear hX
  go_simp
 try simp only [Act.put, zA, zB, zC]
 have CFn : ∀ (args : Array Value) (W : World), Sem.run Tryz.prog (callFunc 40 args) W = .ok (.enter 40 args) W := fun _ _ => by kernel_rfl
 refine tG 8 (.agg #[.int .i64 (-v.z1), .int .i64 v.z2]) (some 11) (GK.grow _) rfl (yieldsG_call 40 #[.agg #[.int .i64 v.z1, .int .i64 v.z2]] (by rfl) ?_ (fun X hS => C3.out X)) (GK.drop (by simp)) ?_
 ·intro X hX
  clear hX
  go_simp
 clear CFn
 try simp only [Act.put, zA, zB, zC]
 refine tG 9 (.agg #[.int .i64 (-v.x1), .int .i64 v.x2, .int .i64 (-v.y1), .int .i64 v.y2, .int .i64 (-v.z1), .int .i64 v.z2]) (some 12) (GK.grow _) rfl (YieldsIf.toG (Or.inl ⟨by rfl, ?_⟩)) (GK.drop (by simp)) ?_
 ·intro X hX
  clear hX
  go_simp
 try simp only [Act.put, zA, zB, zC]
 refine only_G 10 (by kernel_rfl) rfl (fun X2 hX K' hK' => ?_)
 replace NN := Lib.hid (Bgo NN.out hX)
 replace V := Lib.hid (blk_next hX V.out)
 replace R := Lib.hid (blk_next hX R.out)
 replace HAL := Lib.hid (fun kx9 => GK.grow _ _ _ _ (HAL.out kx9) hX)
 clear hX
 have c_R_0 := blk_cell R.out 0 _ rfl
 have f_R_0 := blk_frozen R.out 0
 have c_R_1 := blk_cell R.out 1 _ rfl
 have f_R_1 := blk_frozen R.out 1
 have c_R_2 := blk_cell R.out 2 _ rfl
 have f_R_2 := blk_frozen R.out 2
 have c_R_3 := blk_cell R.out 3 _ rfl
 have f_R_3 := blk_frozen R.out 3
 have c_R_4 := blk_cell R.out 4 _ rfl
 have f_R_4 := blk_frozen R.out 4
 have c_R_5 := blk_cell R.out 5 _ rfl
 have f_R_5 := blk_frozen R.out 5
 have l_R := blk_lt R.out
 go_simp
 clear c_R_0 f_R_0 c_R_1 f_R_1 c_R_2 f_R_2 c_R_3 f_R_3 c_R_4 f_R_4 c_R_5 f_R_5 l_R
 refine hK'.out _ _ (fun kk hk hS => ?_) ?_
 ·have HN : ∀ p ∈ ([(1, w.heap.size, .cells #[.int .i64 v.x1, .int .i64 v.x2, .int .i64 v.y1, .int .i64 v.y2, .int .i64 v.z1, .int .i64 v.z2] 38), (4, w.heap.size, .cells #[.int .i64 v.x1, .int .i64 v.x2, .int .i64 v.y1, .int .i64 v.y2, .int .i64 v.z1, .int .i64 v.z2] 38), (7, w.heap.size, .cells #[.int .i64 v.x1, .int .i64 v.x2, .int .i64 v.y1, .int .i64 v.y2, .int .i64 v.z1, .int .i64 v.z2] 38)] : List (Nat × Nat × Obj)), p.1 = kk → p.2.1 ≠ w.heap.size + 1 := fun p hp e => by
   simp only [List.mem_cons, List.not_mem_nil, or_false] at hp
   rcases hp with rfl | rfl | rfl
   ·subst e
    exact bfl (by kernel_rfl) hk
   ·subst e
    exact bfl (by kernel_rfl) hk
   ·subst e
    exact bfl (by kernel_rfl) hk
  exact GK.set (GK.set (GK.set (GK.set (GK.set (GK.set hS HN) HN) HN) HN) HN) HN
 clear hK' K'
 try simp only [Act.put, zA, zB, zC]
 clear HAL
 replace V : Hid (((((((X2.setCell ⟨w.heap.size + 1, 0, none⟩ (.int .i64 (-v.x1))).setCell ⟨w.heap.size + 1, 1, none⟩ (.int .i64 v.x2)).setCell ⟨w.heap.size + 1, 2, none⟩ (.int .i64 (-v.y1))).setCell ⟨w.heap.size + 1, 3, none⟩ (.int .i64 v.y2)).setCell ⟨w.heap.size + 1, 4, none⟩ (.int .i64 (-v.z1))).setCell ⟨w.heap.size + 1, 5, none⟩ (.int .i64 v.z2)).heap[w.heap.size]? = some (.cells #[.int .i64 v.x1, .int .i64 v.x2, .int .i64 v.y1, .int .i64 v.y2, .int .i64 v.z1, .int .i64 v.z2] 38)) := Lib.hid (blk_set_other (b' := w.heap.size + 1) (blk_set_other (b' := w.heap.size + 1) (blk_set_other (b' := w.heap.size + 1) (blk_set_other (b' := w.heap.size + 1) (blk_set_other (b' := w.heap.size + 1) (blk_set_other (b' := w.heap.size + 1) (V.out) (by omega) 0 (.int .i64 (-v.x1))) (by omega) 1 (.int .i64 v.x2)) (by omega) 2 (.int .i64 (-v.y1))) (by omega) 3 (.int .i64 v.y2)) (by omega) 4 (.int .i64 (-v.z1))) (by omega) 5 (.int .i64 v.z2))
 replace R : Hid (((((((X2.setCell ⟨w.heap.size + 1, 0, none⟩ (.int .i64 (-v.x1))).setCell ⟨w.heap.size + 1, 1, none⟩ (.int .i64 v.x2)).setCell ⟨w.heap.size + 1, 2, none⟩ (.int .i64 (-v.y1))).setCell ⟨w.heap.size + 1, 3, none⟩ (.int .i64 v.y2)).setCell ⟨w.heap.size + 1, 4, none⟩ (.int .i64 (-v.z1))).setCell ⟨w.heap.size + 1, 5, none⟩ (.int .i64 v.z2)).heap[w.heap.size + 1]? = some (.cells #[.int .i64 (-v.x1), .int .i64 v.x2, .int .i64 (-v.y1), .int .i64 v.y2, .int .i64 (-v.z1), .int .i64 v.z2] 38)) := Lib.hid (blk_set (blk_set (blk_set (blk_set (blk_set (blk_set (R.out) 0 (.int .i64 (-v.x1))) 1 (.int .i64 v.x2)) 2 (.int .i64 (-v.y1))) 3 (.int .i64 v.y2)) 4 (.int .i64 (-v.z1))) 5 (.int .i64 v.z2))
 replace NN := Lib.hid (Bset1 (Bset1 (Bset1 (Bset1 (Bset1 (Bset1 (NN.out) (show w.heap.size ≤ w.heap.size + 1 by omega) 0 (.int .i64 (-v.x1))) (show w.heap.size ≤ w.heap.size + 1 by omega) 1 (.int .i64 v.x2)) (show w.heap.size ≤ w.heap.size + 1 by omega) 2 (.int .i64 (-v.y1))) (show w.heap.size ≤ w.heap.size + 1 by omega) 3 (.int .i64 v.y2)) (show w.heap.size ≤ w.heap.size + 1 by omega) 4 (.int .i64 (-v.z1))) (show w.heap.size ≤ w.heap.size + 1 by omega) 5 (.int .i64 v.z2))
 generalize ((((((X2.setCell ⟨w.heap.size + 1, 0, none⟩ (.int .i64 (-v.x1))).setCell ⟨w.heap.size + 1, 1, none⟩ (.int .i64 v.x2)).setCell ⟨w.heap.size + 1, 2, none⟩ (.int .i64 (-v.y1))).setCell ⟨w.heap.size + 1, 3, none⟩ (.int .i64 v.y2)).setCell ⟨w.heap.size + 1, 4, none⟩ (.int .i64 (-v.z1))).setCell ⟨w.heap.size + 1, 5, none⟩ (.int .i64 v.z2)) = W3 at *
 refine done_G (by kernel_rfl) (fun X4 hX => ?_) _
 replace NN := Lib.hid (Bgo NN.out hX)
 replace V := Lib.hid (blk_next hX V.out)
 replace R := Lib.hid (blk_next hX R.out)
 clear hX
 have c_R_0 := blk_cell R.out 0 _ rfl
 have f_R_0 := blk_frozen R.out 0
 have c_R_1 := blk_cell R.out 1 _ rfl
 have f_R_1 := blk_frozen R.out 1
 have c_R_2 := blk_cell R.out 2 _ rfl
 have f_R_2 := blk_frozen R.out 2
 have c_R_3 := blk_cell R.out 3 _ rfl
 have f_R_3 := blk_frozen R.out 3
 have c_R_4 := blk_cell R.out 4 _ rfl
 have f_R_4 := blk_frozen R.out 4
 have c_R_5 := blk_cell R.out 5 _ rfl
 have f_R_5 := blk_frozen R.out 5
 have l_R := blk_lt R.out
 go_wp2_with fail
 exact bodyPost_ret (v := Vv (negV v)) (by simp [results, Tryz.results12, go_sem, c_R_0, c_R_1, c_R_2, c_R_3, c_R_4, c_R_5, negV]) rfl ⟨rfl, NN.out⟩
set_option maxRecDepth 100000 in
set_option maxHeartbeats 8000000 in
theorem rvvec_calls (v : V6) (w : World) : Calls Tryz.prog 110 #[Fv v.x1 v.x2, Fv v.y1 v.y2, Fv v.z1 v.z2, .int .i64 0] w fun e w' => e = .returned (.tuple #[Vv v, .int .i64 0]) ∧ Below w.heap.size w w' := by
 have NN := Lib.hid (Below.refl w.heap.size w)
 go_enter Tryz.func110, Tryz.ntmps110
 go_wp2_with fail
 have Z := blk_at (w := (((w.alloc (.cells #[.int .i64 v.x1, .int .i64 v.x2] 36)).alloc (.cells #[.int .i64 v.y1, .int .i64 v.y2] 36)).alloc (.cells #[.int .i64 v.z1, .int .i64 v.z2] 36))) (.cells #[.int .i64 v.x1, .int .i64 v.x2, .int .i64 v.y1, .int .i64 v.y2, .int .i64 v.z1, .int .i64 v.z2] 38) (show w.heap.size + 1 + 1 + 1 = _ by simp)
 have e0 := blk_cell Z 0 _ rfl
 have e1 := blk_cell Z 1 _ rfl
 have e2 := blk_cell Z 2 _ rfl
 have e3 := blk_cell Z 3 _ rfl
 have e4 := blk_cell Z 4 _ rfl
 have e5 := blk_cell Z 5 _ rfl
 exact bodyPost_ret (v := .tuple #[Vv v, .int .i64 0]) (by simp [results, Tryz.results110, go_sem, e0, e1, e2, e3, e4, e5]) rfl ⟨rfl, Bal (Bal (Bal (Bal NN.out _) _) _) _⟩
set_option maxRecDepth 100000 in
set_option maxHeartbeats 8000000 in
theorem rvadd_calls (v u : V6) (h : AddOk v u) (w : World) : Calls Tryz.prog 73 #[Vv v, Vv u] w fun e w' => e = .returned (.tuple #[Vv (addV v u), .int .i64 0]) ∧ Below w.heap.size w w' := by
 have NN := Lib.hid (Below.refl w.heap.size w)
 have C0 := Lib.hid (fun W => rvboth_calls v u h.ov h.ou W)
 have C1 := Lib.hid (fun W => refAdd_calls v.x1 v.x2 u.x1 u.x2 W)
 have C2 := Lib.hid (fun W => refAdd_calls v.y1 v.y2 u.y1 u.y2 W)
 have C3 := Lib.hid (fun W => refAdd_calls v.z1 v.z2 u.z1 u.z2 W)
 have E := h
 obtain ⟨E1, E2, Ex, Ey, Ez⟩ := E
 have DV : Hid (addV v u = ⟨(addR v.x1 v.x2 u.x1 u.x2).1, (addR v.x1 v.x2 u.x1 u.x2).2.1, (addR v.y1 v.y2 u.y1 u.y2).1, (addR v.y1 v.y2 u.y1 u.y2).2.1, (addR v.z1 v.z2 u.z1 u.z2).1, (addR v.z1 v.z2 u.z1 u.z2).2.1⟩) := Lib.hid rfl
 generalize addV v u = r at *
 generalize addR v.x1 v.x2 u.x1 u.x2 = x at *
 generalize addR v.y1 v.y2 u.y1 u.y2 = y at *
 generalize addR v.z1 v.z2 u.z1 u.z2 = z at *
 obtain ⟨x1, x2, x3⟩ := x
 obtain ⟨y1, y2, y3⟩ := y
 obtain ⟨z1, z2, z3⟩ := z
 simp only at Ex Ey Ez
 subst Ex Ey Ez
 clear E1 E2 h
 have C5 := Lib.hid (fun W => rvvec_calls ⟨x1, x2, y1, y2, z1, z2⟩ W)
 simp only at C5
 go_enter Tryz.func73, Tryz.ntmps73
 go_wp2_with fail
 have V : Hid ((((w.alloc (.cells #[.int .i64 v.x1, .int .i64 v.x2, .int .i64 v.y1, .int .i64 v.y2, .int .i64 v.z1, .int .i64 v.z2] 38)).alloc (.cells #[.int .i64 u.x1, .int .i64 u.x2, .int .i64 u.y1, .int .i64 u.y2, .int .i64 u.z1, .int .i64 u.z2] 38)).alloc (.cells #[.int .i64 0, .int .i64 0, .int .i64 0, .int .i64 0, .int .i64 0, .int .i64 0] 38)).heap[w.heap.size]? = some (.cells #[.int .i64 v.x1, .int .i64 v.x2, .int .i64 v.y1, .int .i64 v.y2, .int .i64 v.z1, .int .i64 v.z2] 38)) := Lib.hid (blk_alloc (blk_alloc (blk_new w _) _) _)
 have U : Hid ((((w.alloc (.cells #[.int .i64 v.x1, .int .i64 v.x2, .int .i64 v.y1, .int .i64 v.y2, .int .i64 v.z1, .int .i64 v.z2] 38)).alloc (.cells #[.int .i64 u.x1, .int .i64 u.x2, .int .i64 u.y1, .int .i64 u.y2, .int .i64 u.z1, .int .i64 u.z2] 38)).alloc (.cells #[.int .i64 0, .int .i64 0, .int .i64 0, .int .i64 0, .int .i64 0, .int .i64 0] 38)).heap[w.heap.size + 1]? = some (.cells #[.int .i64 u.x1, .int .i64 u.x2, .int .i64 u.y1, .int .i64 u.y2, .int .i64 u.z1, .int .i64 u.z2] 38)) := Lib.hid (blk_alloc (blk_at _ (by simp)) _)
 have R : Hid ((((w.alloc (.cells #[.int .i64 v.x1, .int .i64 v.x2, .int .i64 v.y1, .int .i64 v.y2, .int .i64 v.z1, .int .i64 v.z2] 38)).alloc (.cells #[.int .i64 u.x1, .int .i64 u.x2, .int .i64 u.y1, .int .i64 u.y2, .int .i64 u.z1, .int .i64 u.z2] 38)).alloc (.cells #[.int .i64 0, .int .i64 0, .int .i64 0, .int .i64 0, .int .i64 0, .int .i64 0] 38)).heap[w.heap.size + 1 + 1]? = some (.cells #[.int .i64 0, .int .i64 0, .int .i64 0, .int .i64 0, .int .i64 0, .int .i64 0] 38)) := Lib.hid (blk_at _ (by simp))
 replace NN : Hid (Below w.heap.size w (((w.alloc (.cells #[.int .i64 v.x1, .int .i64 v.x2, .int .i64 v.y1, .int .i64 v.y2, .int .i64 v.z1, .int .i64 v.z2] 38)).alloc (.cells #[.int .i64 u.x1, .int .i64 u.x2, .int .i64 u.y1, .int .i64 u.y2, .int .i64 u.z1, .int .i64 u.z2] 38)).alloc (.cells #[.int .i64 0, .int .i64 0, .int .i64 0, .int .i64 0, .int .i64 0, .int .i64 0] 38))) := Lib.hid (Bal (Bal (Bal NN.out _) _) _)
 generalize (((w.alloc (.cells #[.int .i64 v.x1, .int .i64 v.x2, .int .i64 v.y1, .int .i64 v.y2, .int .i64 v.z1, .int .i64 v.z2] 38)).alloc (.cells #[.int .i64 u.x1, .int .i64 u.x2, .int .i64 u.y1, .int .i64 u.y2, .int .i64 u.z1, .int .i64 u.z2] 38)).alloc (.cells #[.int .i64 0, .int .i64 0, .int .i64 0, .int .i64 0, .int .i64 0, .int .i64 0] 38)) = W1 at *
 refine (C0.out _).mono ?_
 rintro e w2 ⟨rfl, hb⟩
 replace NN := Lib.hid (Bgo NN.out hb)
 replace V := Lib.hid (blk_next hb V.out)
 replace U := Lib.hid (blk_next hb U.out)
 replace R := Lib.hid (blk_next hb R.out)
 clear hb
 have c_V_0 := blk_cell V.out 0 _ rfl
 have f_V_0 := blk_frozen V.out 0
 have c_V_1 := blk_cell V.out 1 _ rfl
 have f_V_1 := blk_frozen V.out 1
 have c_V_2 := blk_cell V.out 2 _ rfl
 have f_V_2 := blk_frozen V.out 2
 have c_V_3 := blk_cell V.out 3 _ rfl
 have f_V_3 := blk_frozen V.out 3
 have c_V_4 := blk_cell V.out 4 _ rfl
 have f_V_4 := blk_frozen V.out 4
 have c_V_5 := blk_cell V.out 5 _ rfl
 have f_V_5 := blk_frozen V.out 5
 have l_V := blk_lt V.out
 have c_U_0 := blk_cell U.out 0 _ rfl
 have f_U_0 := blk_frozen U.out 0
 have c_U_1 := blk_cell U.out 1 _ rfl
 have f_U_1 := blk_frozen U.out 1
 have c_U_2 := blk_cell U.out 2 _ rfl
 have f_U_2 := blk_frozen U.out 2
 have c_U_3 := blk_cell U.out 3 _ rfl
 have f_U_3 := blk_frozen U.out 3
 have c_U_4 := blk_cell U.out 4 _ rfl
 have f_U_4 := blk_frozen U.out 4
 have c_U_5 := blk_cell U.out 5 _ rfl
 have f_U_5 := blk_frozen U.out 5
 have l_U := blk_lt U.out
 go_wp2_with fail
 clear c_V_0 f_V_0 c_V_1 f_V_1 c_V_2 f_V_2 c_V_3 f_V_3 c_V_4 f_V_4 c_V_5 f_V_5 l_V c_U_0 f_U_0 c_U_1 f_U_1 c_U_2 f_U_2 c_U_3 f_U_3 c_U_4 f_U_4 c_U_5 f_U_5 l_U
 refine (C1.out _).mono ?_
 rintro e w3 ⟨rfl, hb⟩
 replace NN := Lib.hid (Bgo NN.out hb)
 replace V := Lib.hid (blk_next hb V.out)
 replace U := Lib.hid (blk_next hb U.out)
 replace R := Lib.hid (blk_next hb R.out)
 clear hb
 have HB := Lib.hid (show Below w3.heap.size w3 (w3.alloc (.cells #[.int .i64 x1, .int .i64 x2] 36)) from (Bal (Below.refl _ _) _))
 have X : Hid ((w3.alloc (.cells #[.int .i64 x1, .int .i64 x2] 36)).heap[w3.heap.size]? = some (.cells #[.int .i64 x1, .int .i64 x2] 36)) := Lib.hid (blk_new w3 _)
 have LT_X : Hid (w.heap.size < w3.heap.size ∧ w.heap.size + 1 < w3.heap.size ∧ w.heap.size + 1 + 1 < w3.heap.size ∧ w.heap.size ≤ w3.heap.size) := Lib.hid ⟨blk_lt V.out, blk_lt U.out, blk_lt R.out, NN.out.size⟩
 replace NN := Lib.hid (Bgo NN.out HB.out)
 replace V := Lib.hid (blk_next HB.out V.out)
 replace U := Lib.hid (blk_next HB.out U.out)
 replace R := Lib.hid (blk_next HB.out R.out)
 clear HB
 have c_V_0 := blk_cell V.out 0 _ rfl
 have f_V_0 := blk_frozen V.out 0
 have c_V_1 := blk_cell V.out 1 _ rfl
 have f_V_1 := blk_frozen V.out 1
 have c_V_2 := blk_cell V.out 2 _ rfl
 have f_V_2 := blk_frozen V.out 2
 have c_V_3 := blk_cell V.out 3 _ rfl
 have f_V_3 := blk_frozen V.out 3
 have c_V_4 := blk_cell V.out 4 _ rfl
 have f_V_4 := blk_frozen V.out 4
 have c_V_5 := blk_cell V.out 5 _ rfl
 have f_V_5 := blk_frozen V.out 5
 have l_V := blk_lt V.out
 have c_U_0 := blk_cell U.out 0 _ rfl
 have f_U_0 := blk_frozen U.out 0
 have c_U_1 := blk_cell U.out 1 _ rfl
 have f_U_1 := blk_frozen U.out 1
 have c_U_2 := blk_cell U.out 2 _ rfl
 have f_U_2 := blk_frozen U.out 2
 have c_U_3 := blk_cell U.out 3 _ rfl
 have f_U_3 := blk_frozen U.out 3
 have c_U_4 := blk_cell U.out 4 _ rfl
 have f_U_4 := blk_frozen U.out 4
 have c_U_5 := blk_cell U.out 5 _ rfl
 have f_U_5 := blk_frozen U.out 5
 have l_U := blk_lt U.out
 go_wp2_with fail
 clear c_V_0 f_V_0 c_V_1 f_V_1 c_V_2 f_V_2 c_V_3 f_V_3 c_V_4 f_V_4 c_V_5 f_V_5 l_V c_U_0 f_U_0 c_U_1 f_U_1 c_U_2 f_U_2 c_U_3 f_U_3 c_U_4 f_U_4 c_U_5 f_U_5 l_U
 generalize (w3.alloc (.cells #[.int .i64 x1, .int .i64 x2] 36)) = W4 at *
 generalize w3.heap.size = gX at *
 refine (C2.out _).mono ?_
 rintro e w5 ⟨rfl, hb⟩
 replace NN := Lib.hid (Bgo NN.out hb)
 replace V := Lib.hid (blk_next hb V.out)
 replace U := Lib.hid (blk_next hb U.out)
 replace R := Lib.hid (blk_next hb R.out)
 replace X := Lib.hid (blk_next hb X.out)
 clear hb
 have HB := Lib.hid (show Below w5.heap.size w5 (w5.alloc (.cells #[.int .i64 y1, .int .i64 y2] 36)) from (Bal (Below.refl _ _) _))
 have Y : Hid ((w5.alloc (.cells #[.int .i64 y1, .int .i64 y2] 36)).heap[w5.heap.size]? = some (.cells #[.int .i64 y1, .int .i64 y2] 36)) := Lib.hid (blk_new w5 _)
 have LT_Y : Hid (w.heap.size < w5.heap.size ∧ w.heap.size + 1 < w5.heap.size ∧ w.heap.size + 1 + 1 < w5.heap.size ∧ gX < w5.heap.size ∧ w.heap.size ≤ w5.heap.size) := Lib.hid ⟨blk_lt V.out, blk_lt U.out, blk_lt R.out, blk_lt X.out, NN.out.size⟩
 replace NN := Lib.hid (Bgo NN.out HB.out)
 replace V := Lib.hid (blk_next HB.out V.out)
 replace U := Lib.hid (blk_next HB.out U.out)
 replace R := Lib.hid (blk_next HB.out R.out)
 replace X := Lib.hid (blk_next HB.out X.out)
 clear HB
 have c_V_0 := blk_cell V.out 0 _ rfl
 have f_V_0 := blk_frozen V.out 0
 have c_V_1 := blk_cell V.out 1 _ rfl
 have f_V_1 := blk_frozen V.out 1
 have c_V_2 := blk_cell V.out 2 _ rfl
 have f_V_2 := blk_frozen V.out 2
 have c_V_3 := blk_cell V.out 3 _ rfl
 have f_V_3 := blk_frozen V.out 3
 have c_V_4 := blk_cell V.out 4 _ rfl
 have f_V_4 := blk_frozen V.out 4
 have c_V_5 := blk_cell V.out 5 _ rfl
 have f_V_5 := blk_frozen V.out 5
 have l_V := blk_lt V.out
 have c_U_0 := blk_cell U.out 0 _ rfl
 have f_U_0 := blk_frozen U.out 0
 have c_U_1 := blk_cell U.out 1 _ rfl
 have f_U_1 := blk_frozen U.out 1
 have c_U_2 := blk_cell U.out 2 _ rfl
 have f_U_2 := blk_frozen U.out 2
 have c_U_3 := blk_cell U.out 3 _ rfl
 have f_U_3 := blk_frozen U.out 3
 have c_U_4 := blk_cell U.out 4 _ rfl
 have f_U_4 := blk_frozen U.out 4
 have c_U_5 := blk_cell U.out 5 _ rfl
 have f_U_5 := blk_frozen U.out 5
 have l_U := blk_lt U.out
 go_wp2_with fail
 clear c_V_0 f_V_0 c_V_1 f_V_1 c_V_2 f_V_2 c_V_3 f_V_3 c_V_4 f_V_4 c_V_5 f_V_5 l_V c_U_0 f_U_0 c_U_1 f_U_1 c_U_2 f_U_2 c_U_3 f_U_3 c_U_4 f_U_4 c_U_5 f_U_5 l_U
 generalize (w5.alloc (.cells #[.int .i64 y1, .int .i64 y2] 36)) = W6 at *
 generalize w5.heap.size = gY at *
 refine (C3.out _).mono ?_
 rintro e w7 ⟨rfl, hb⟩
 replace NN := Lib.hid (Bgo NN.out hb)
 replace V := Lib.hid (blk_next hb V.out)
 replace U := Lib.hid (blk_next hb U.out)
 replace R := Lib.hid (blk_next hb R.out)
 replace X := Lib.hid (blk_next hb X.out)
 replace Y := Lib.hid (blk_next hb Y.out)
 clear hb
 have HB := Lib.hid (show Below w7.heap.size w7 (w7.alloc (.cells #[.int .i64 z1, .int .i64 z2] 36)) from (Bal (Below.refl _ _) _))
 have Z : Hid ((w7.alloc (.cells #[.int .i64 z1, .int .i64 z2] 36)).heap[w7.heap.size]? = some (.cells #[.int .i64 z1, .int .i64 z2] 36)) := Lib.hid (blk_new w7 _)
 have LT_Z : Hid (w.heap.size < w7.heap.size ∧ w.heap.size + 1 < w7.heap.size ∧ w.heap.size + 1 + 1 < w7.heap.size ∧ gX < w7.heap.size ∧ gY < w7.heap.size ∧ w.heap.size ≤ w7.heap.size) := Lib.hid ⟨blk_lt V.out, blk_lt U.out, blk_lt R.out, blk_lt X.out, blk_lt Y.out, NN.out.size⟩
 replace NN := Lib.hid (Bgo NN.out HB.out)
 replace V := Lib.hid (blk_next HB.out V.out)
 replace U := Lib.hid (blk_next HB.out U.out)
 replace R := Lib.hid (blk_next HB.out R.out)
 replace X := Lib.hid (blk_next HB.out X.out)
 replace Y := Lib.hid (blk_next HB.out Y.out)
 clear HB
 go_upto_region 6 with fail
 generalize (w7.alloc (.cells #[.int .i64 z1, .int .i64 z2] 36)) = W8 at *
 generalize w7.heap.size = gZ at *
 have HDRW := Lib.hid (Below.drew (Below.refl W8.heap.size W8))
 replace NN := Lib.hid (Bgo NN.out HDRW.out)
 replace V := Lib.hid (blk_next HDRW.out V.out)
 replace U := Lib.hid (blk_next HDRW.out U.out)
 replace R := Lib.hid (blk_next HDRW.out R.out)
 replace X := Lib.hid (blk_next HDRW.out X.out)
 replace Y := Lib.hid (blk_next HDRW.out Y.out)
 replace Z := Lib.hid (blk_next HDRW.out Z.out)
 clear HDRW
 have HAL : Hid (∀ kx9 : Nat, GK [(0, gX, .cells #[.int .i64 x1, .int .i64 x2] 36), (1, gY, .cells #[.int .i64 y1, .int .i64 y2] 36), (2, gZ, .cells #[.int .i64 z1, .int .i64 z2] 36)] kx9 W8.drew) := Lib.hid (fun kx9 p hp e => by
  simp only [List.mem_cons, List.not_mem_nil, or_false] at hp
  rcases hp with rfl | rfl | rfl
  ·exact X.out
  ·exact Y.out
  ·exact Z.out)
 refine region_G (S := GK [(0, gX, .cells #[.int .i64 x1, .int .i64 x2] 36), (1, gY, .cells #[.int .i64 y1, .int .i64 y2] 36), (2, gZ, .cells #[.int .i64 z1, .int .i64 z2] 36)]) (by kernel_rfl) ?_
 refine tG 0 (.agg #[.int .i64 x1, .int .i64 x2]) (some 41) (GK.grow _) rfl (YieldsIf.toG (Or.inl ⟨by rfl, ?_⟩)) (HAL.out 0) ?_
 ·intro X hX
  have hh := hX (0, gX, .cells #[.int .i64 x1, .int .i64 x2] 36) (List.Mem.head _) rfl
  have hh0 := blk_cell hh 0 _ rfl
  have hh1 := blk_cell hh 1 _ rfl
  have hhl := blk_lt hh
  clear hh
  clear hX
  go_simp
 try simp only [Act.put, zA, zB, zC]
 refine tG 1 (.agg #[.int .i64 y1, .int .i64 y2]) (some 42) (GK.grow _) rfl (YieldsIf.toG (Or.inl ⟨by rfl, ?_⟩)) (HAL.out 1) ?_
 ·intro X hX
  have hh := hX (1, gY, .cells #[.int .i64 y1, .int .i64 y2] 36) (List.Mem.tail _ (List.Mem.head _)) rfl
  have hh0 := blk_cell hh 0 _ rfl
  have hh1 := blk_cell hh 1 _ rfl
  have hhl := blk_lt hh
  clear hh
  clear hX
  go_simp
 try simp only [Act.put, zA, zB, zC]
 refine tG 2 (.agg #[.int .i64 z1, .int .i64 z2]) (some 43) (GK.grow _) rfl (YieldsIf.toG (Or.inl ⟨by rfl, ?_⟩)) (HAL.out 2) ?_
 ·intro X hX
  have hh := hX (2, gZ, .cells #[.int .i64 z1, .int .i64 z2] 36) (List.Mem.tail _ (List.Mem.tail _ (List.Mem.head _))) rfl
  have hh0 := blk_cell hh 0 _ rfl
  have hh1 := blk_cell hh 1 _ rfl
  have hhl := blk_lt hh
  clear hh
  clear hX
  go_simp
 try simp only [Act.put, zA, zB, zC]
 refine tG 3 (.int .i64 0) (some 44) (GK.grow _) rfl (YieldsIf.toG (Or.inl ⟨by rfl, ?_⟩)) (GK.drop (by simp)) ?_
 ·intro X hX
  clear hX
  go_simp
 try simp only [Act.put, zA, zB, zC]
 refine tG 4 (.int .i64 0) (some 45) (GK.grow _) rfl (YieldsIf.toG (Or.inl ⟨by rfl, ?_⟩)) (GK.drop (by simp)) ?_
 ·intro X hX
  clear hX
  go_simp
 try simp only [Act.put, zA, zB, zC]
 refine tG 5 (.int .i64 0) (some 46) (GK.grow _) rfl (YieldsIf.toG (Or.inl ⟨by rfl, ?_⟩)) (GK.drop (by simp)) ?_
 ·intro X hX
  clear hX
  go_simp
 try simp only [Act.put, zA, zB, zC]
 have CFn : ∀ (args : Array Value) (W : World), Sem.run Tryz.prog (callFunc 88 args) W = .ok (.enter 88 args) W := fun _ _ => by kernel_rfl
 refine tG 6 (.int .i64 0) (some 47) (GK.grow _) rfl (yieldsG_call 88 #[.int .i64 0, .int .i64 0, .int .i64 0] (by rfl) ?_ (fun X hS => first_calls X)) (GK.drop (by simp)) ?_
 ·intro X hX
  clear hX
  go_simp
 clear CFn
 try simp only [Act.put, zA, zB, zC]
 have CFn : ∀ (args : Array Value) (W : World), Sem.run Tryz.prog (callFunc 110 args) W = .ok (.enter 110 args) W := fun _ _ => by kernel_rfl
 refine tG 7 (.tuple #[.agg #[.int .i64 x1, .int .i64 x2, .int .i64 y1, .int .i64 y2, .int .i64 z1, .int .i64 z2], .int .i64 0]) (some 48) (GK.grow _) rfl (yieldsG_call 110 #[.agg #[.int .i64 x1, .int .i64 x2], .agg #[.int .i64 y1, .int .i64 y2], .agg #[.int .i64 z1, .int .i64 z2], .int .i64 0] (by rfl) ?_ (fun X hS => C5.out X)) (GK.drop (by simp)) ?_
 ·intro X hX
  clear hX
  go_simp
 clear CFn
 try simp only [Act.put, zA, zB, zC]
 refine tG 8 (.agg #[.int .i64 x1, .int .i64 x2, .int .i64 y1, .int .i64 y2, .int .i64 z1, .int .i64 z2]) (some 49) (GK.grow _) rfl (YieldsIf.toG (Or.inl ⟨by rfl, ?_⟩)) (GK.drop (by simp)) ?_
 ·intro X hX
  clear hX
  go_simp
 try simp only [Act.put, zA, zB, zC]
 refine tG 9 (.int .i64 0) (some 50) (GK.grow _) rfl (YieldsIf.toG (Or.inl ⟨by rfl, ?_⟩)) (GK.drop (by simp)) ?_
 ·intro X hX
  clear hX
  go_simp
 try simp only [Act.put, zA, zB, zC]
 refine only_G 10 (by kernel_rfl) rfl (fun X9 hX K' hK' => ?_)
 replace NN := Lib.hid (Bgo NN.out hX)
 replace V := Lib.hid (blk_next hX V.out)
 replace U := Lib.hid (blk_next hX U.out)
 replace R := Lib.hid (blk_next hX R.out)
 replace X := Lib.hid (blk_next hX X.out)
 replace Y := Lib.hid (blk_next hX Y.out)
 replace Z := Lib.hid (blk_next hX Z.out)
 replace HAL := Lib.hid (fun kx9 => GK.grow _ _ _ _ (HAL.out kx9) hX)
 clear hX
 have c_R_0 := blk_cell R.out 0 _ rfl
 have f_R_0 := blk_frozen R.out 0
 have c_R_1 := blk_cell R.out 1 _ rfl
 have f_R_1 := blk_frozen R.out 1
 have c_R_2 := blk_cell R.out 2 _ rfl
 have f_R_2 := blk_frozen R.out 2
 have c_R_3 := blk_cell R.out 3 _ rfl
 have f_R_3 := blk_frozen R.out 3
 have c_R_4 := blk_cell R.out 4 _ rfl
 have f_R_4 := blk_frozen R.out 4
 have c_R_5 := blk_cell R.out 5 _ rfl
 have f_R_5 := blk_frozen R.out 5
 have l_R := blk_lt R.out
 go_simp
 clear c_R_0 f_R_0 c_R_1 f_R_1 c_R_2 f_R_2 c_R_3 f_R_3 c_R_4 f_R_4 c_R_5 f_R_5 l_R
 refine hK'.out _ _ (fun kk hk hS => ?_) ?_
 ·have HN : ∀ p ∈ ([(0, gX, .cells #[.int .i64 x1, .int .i64 x2] 36), (1, gY, .cells #[.int .i64 y1, .int .i64 y2] 36), (2, gZ, .cells #[.int .i64 z1, .int .i64 z2] 36)] : List (Nat × Nat × Obj)), p.1 = kk → p.2.1 ≠ w.heap.size + 1 + 1 := fun p hp e => by
   simp only [List.mem_cons, List.not_mem_nil, or_false] at hp
   rcases hp with rfl | rfl | rfl
   ·subst e
    exact bfl (by kernel_rfl) hk
   ·subst e
    exact bfl (by kernel_rfl) hk
   ·subst e
    exact bfl (by kernel_rfl) hk
  exact GK.set (GK.set (GK.set (GK.set (GK.set (GK.set hS HN) HN) HN) HN) HN) HN
 clear hK' K'
 try simp only [Act.put, zA, zB, zC]
 clear HAL
 replace V : Hid (((((((X9.setCell ⟨w.heap.size + 1 + 1, 0, none⟩ (.int .i64 x1)).setCell ⟨w.heap.size + 1 + 1, 1, none⟩ (.int .i64 x2)).setCell ⟨w.heap.size + 1 + 1, 2, none⟩ (.int .i64 y1)).setCell ⟨w.heap.size + 1 + 1, 3, none⟩ (.int .i64 y2)).setCell ⟨w.heap.size + 1 + 1, 4, none⟩ (.int .i64 z1)).setCell ⟨w.heap.size + 1 + 1, 5, none⟩ (.int .i64 z2)).heap[w.heap.size]? = some (.cells #[.int .i64 v.x1, .int .i64 v.x2, .int .i64 v.y1, .int .i64 v.y2, .int .i64 v.z1, .int .i64 v.z2] 38)) := Lib.hid (blk_set_other (b' := w.heap.size + 1 + 1) (blk_set_other (b' := w.heap.size + 1 + 1) (blk_set_other (b' := w.heap.size + 1 + 1) (blk_set_other (b' := w.heap.size + 1 + 1) (blk_set_other (b' := w.heap.size + 1 + 1) (blk_set_other (b' := w.heap.size + 1 + 1) (V.out) (by omega) 0 (.int .i64 x1)) (by omega) 1 (.int .i64 x2)) (by omega) 2 (.int .i64 y1)) (by omega) 3 (.int .i64 y2)) (by omega) 4 (.int .i64 z1)) (by omega) 5 (.int .i64 z2))
 replace U : Hid (((((((X9.setCell ⟨w.heap.size + 1 + 1, 0, none⟩ (.int .i64 x1)).setCell ⟨w.heap.size + 1 + 1, 1, none⟩ (.int .i64 x2)).setCell ⟨w.heap.size + 1 + 1, 2, none⟩ (.int .i64 y1)).setCell ⟨w.heap.size + 1 + 1, 3, none⟩ (.int .i64 y2)).setCell ⟨w.heap.size + 1 + 1, 4, none⟩ (.int .i64 z1)).setCell ⟨w.heap.size + 1 + 1, 5, none⟩ (.int .i64 z2)).heap[w.heap.size + 1]? = some (.cells #[.int .i64 u.x1, .int .i64 u.x2, .int .i64 u.y1, .int .i64 u.y2, .int .i64 u.z1, .int .i64 u.z2] 38)) := Lib.hid (blk_set_other (b' := w.heap.size + 1 + 1) (blk_set_other (b' := w.heap.size + 1 + 1) (blk_set_other (b' := w.heap.size + 1 + 1) (blk_set_other (b' := w.heap.size + 1 + 1) (blk_set_other (b' := w.heap.size + 1 + 1) (blk_set_other (b' := w.heap.size + 1 + 1) (U.out) (by omega) 0 (.int .i64 x1)) (by omega) 1 (.int .i64 x2)) (by omega) 2 (.int .i64 y1)) (by omega) 3 (.int .i64 y2)) (by omega) 4 (.int .i64 z1)) (by omega) 5 (.int .i64 z2))
 replace R : Hid (((((((X9.setCell ⟨w.heap.size + 1 + 1, 0, none⟩ (.int .i64 x1)).setCell ⟨w.heap.size + 1 + 1, 1, none⟩ (.int .i64 x2)).setCell ⟨w.heap.size + 1 + 1, 2, none⟩ (.int .i64 y1)).setCell ⟨w.heap.size + 1 + 1, 3, none⟩ (.int .i64 y2)).setCell ⟨w.heap.size + 1 + 1, 4, none⟩ (.int .i64 z1)).setCell ⟨w.heap.size + 1 + 1, 5, none⟩ (.int .i64 z2)).heap[w.heap.size + 1 + 1]? = some (.cells #[.int .i64 x1, .int .i64 x2, .int .i64 y1, .int .i64 y2, .int .i64 z1, .int .i64 z2] 38)) := Lib.hid (blk_set (blk_set (blk_set (blk_set (blk_set (blk_set (R.out) 0 (.int .i64 x1)) 1 (.int .i64 x2)) 2 (.int .i64 y1)) 3 (.int .i64 y2)) 4 (.int .i64 z1)) 5 (.int .i64 z2))
 replace X : Hid (((((((X9.setCell ⟨w.heap.size + 1 + 1, 0, none⟩ (.int .i64 x1)).setCell ⟨w.heap.size + 1 + 1, 1, none⟩ (.int .i64 x2)).setCell ⟨w.heap.size + 1 + 1, 2, none⟩ (.int .i64 y1)).setCell ⟨w.heap.size + 1 + 1, 3, none⟩ (.int .i64 y2)).setCell ⟨w.heap.size + 1 + 1, 4, none⟩ (.int .i64 z1)).setCell ⟨w.heap.size + 1 + 1, 5, none⟩ (.int .i64 z2)).heap[gX]? = some (.cells #[.int .i64 x1, .int .i64 x2] 36)) := Lib.hid (blk_set_other (b' := w.heap.size + 1 + 1) (blk_set_other (b' := w.heap.size + 1 + 1) (blk_set_other (b' := w.heap.size + 1 + 1) (blk_set_other (b' := w.heap.size + 1 + 1) (blk_set_other (b' := w.heap.size + 1 + 1) (blk_set_other (b' := w.heap.size + 1 + 1) (X.out) (by have := LT_X.out; omega) 0 (.int .i64 x1)) (by have := LT_X.out; omega) 1 (.int .i64 x2)) (by have := LT_X.out; omega) 2 (.int .i64 y1)) (by have := LT_X.out; omega) 3 (.int .i64 y2)) (by have := LT_X.out; omega) 4 (.int .i64 z1)) (by have := LT_X.out; omega) 5 (.int .i64 z2))
 replace Y : Hid (((((((X9.setCell ⟨w.heap.size + 1 + 1, 0, none⟩ (.int .i64 x1)).setCell ⟨w.heap.size + 1 + 1, 1, none⟩ (.int .i64 x2)).setCell ⟨w.heap.size + 1 + 1, 2, none⟩ (.int .i64 y1)).setCell ⟨w.heap.size + 1 + 1, 3, none⟩ (.int .i64 y2)).setCell ⟨w.heap.size + 1 + 1, 4, none⟩ (.int .i64 z1)).setCell ⟨w.heap.size + 1 + 1, 5, none⟩ (.int .i64 z2)).heap[gY]? = some (.cells #[.int .i64 y1, .int .i64 y2] 36)) := Lib.hid (blk_set_other (b' := w.heap.size + 1 + 1) (blk_set_other (b' := w.heap.size + 1 + 1) (blk_set_other (b' := w.heap.size + 1 + 1) (blk_set_other (b' := w.heap.size + 1 + 1) (blk_set_other (b' := w.heap.size + 1 + 1) (blk_set_other (b' := w.heap.size + 1 + 1) (Y.out) (by have := LT_Y.out; omega) 0 (.int .i64 x1)) (by have := LT_Y.out; omega) 1 (.int .i64 x2)) (by have := LT_Y.out; omega) 2 (.int .i64 y1)) (by have := LT_Y.out; omega) 3 (.int .i64 y2)) (by have := LT_Y.out; omega) 4 (.int .i64 z1)) (by have := LT_Y.out; omega) 5 (.int .i64 z2))
 replace Z : Hid (((((((X9.setCell ⟨w.heap.size + 1 + 1, 0, none⟩ (.int .i64 x1)).setCell ⟨w.heap.size + 1 + 1, 1, none⟩ (.int .i64 x2)).setCell ⟨w.heap.size + 1 + 1, 2, none⟩ (.int .i64 y1)).setCell ⟨w.heap.size + 1 + 1, 3, none⟩ (.int .i64 y2)).setCell ⟨w.heap.size + 1 + 1, 4, none⟩ (.int .i64 z1)).setCell ⟨w.heap.size + 1 + 1, 5, none⟩ (.int .i64 z2)).heap[gZ]? = some (.cells #[.int .i64 z1, .int .i64 z2] 36)) := Lib.hid (blk_set_other (b' := w.heap.size + 1 + 1) (blk_set_other (b' := w.heap.size + 1 + 1) (blk_set_other (b' := w.heap.size + 1 + 1) (blk_set_other (b' := w.heap.size + 1 + 1) (blk_set_other (b' := w.heap.size + 1 + 1) (blk_set_other (b' := w.heap.size + 1 + 1) (Z.out) (by have := LT_Z.out; omega) 0 (.int .i64 x1)) (by have := LT_Z.out; omega) 1 (.int .i64 x2)) (by have := LT_Z.out; omega) 2 (.int .i64 y1)) (by have := LT_Z.out; omega) 3 (.int .i64 y2)) (by have := LT_Z.out; omega) 4 (.int .i64 z1)) (by have := LT_Z.out; omega) 5 (.int .i64 z2))
 replace NN := Lib.hid (Bset1 (Bset1 (Bset1 (Bset1 (Bset1 (Bset1 (NN.out) (show w.heap.size ≤ w.heap.size + 1 + 1 by omega) 0 (.int .i64 x1)) (show w.heap.size ≤ w.heap.size + 1 + 1 by omega) 1 (.int .i64 x2)) (show w.heap.size ≤ w.heap.size + 1 + 1 by omega) 2 (.int .i64 y1)) (show w.heap.size ≤ w.heap.size + 1 + 1 by omega) 3 (.int .i64 y2)) (show w.heap.size ≤ w.heap.size + 1 + 1 by omega) 4 (.int .i64 z1)) (show w.heap.size ≤ w.heap.size + 1 + 1 by omega) 5 (.int .i64 z2))
 generalize ((((((X9.setCell ⟨w.heap.size + 1 + 1, 0, none⟩ (.int .i64 x1)).setCell ⟨w.heap.size + 1 + 1, 1, none⟩ (.int .i64 x2)).setCell ⟨w.heap.size + 1 + 1, 2, none⟩ (.int .i64 y1)).setCell ⟨w.heap.size + 1 + 1, 3, none⟩ (.int .i64 y2)).setCell ⟨w.heap.size + 1 + 1, 4, none⟩ (.int .i64 z1)).setCell ⟨w.heap.size + 1 + 1, 5, none⟩ (.int .i64 z2)) = W10 at *
 refine tG 11 (.int .i64 0) (some 5) (GK.grow _) rfl (YieldsIf.toG (Or.inl ⟨by rfl, ?_⟩)) (GK.drop (by simp)) ?_
 ·intro X hX
  clear hX
  go_simp
 try simp only [Act.put, zA, zB, zC]
 refine done_G (by kernel_rfl) (fun X11 hX => ?_) _
 replace NN := Lib.hid (Bgo NN.out hX)
 replace V := Lib.hid (blk_next hX V.out)
 replace U := Lib.hid (blk_next hX U.out)
 replace R := Lib.hid (blk_next hX R.out)
 replace X := Lib.hid (blk_next hX X.out)
 replace Y := Lib.hid (blk_next hX Y.out)
 replace Z := Lib.hid (blk_next hX Z.out)
 clear hX
 have c_R_0 := blk_cell R.out 0 _ rfl
 have f_R_0 := blk_frozen R.out 0
 have c_R_1 := blk_cell R.out 1 _ rfl
 have f_R_1 := blk_frozen R.out 1
 have c_R_2 := blk_cell R.out 2 _ rfl
 have f_R_2 := blk_frozen R.out 2
 have c_R_3 := blk_cell R.out 3 _ rfl
 have f_R_3 := blk_frozen R.out 3
 have c_R_4 := blk_cell R.out 4 _ rfl
 have f_R_4 := blk_frozen R.out 4
 have c_R_5 := blk_cell R.out 5 _ rfl
 have f_R_5 := blk_frozen R.out 5
 have l_R := blk_lt R.out
 go_wp2_with fail
 have DW := DV.out
 subst DW
 exact bodyPost_ret (v := .tuple #[Vv ⟨x1, x2, y1, y2, z1, z2⟩, .int .i64 0]) (by simp [results, Tryz.results73, go_sem, c_R_0, c_R_1, c_R_2, c_R_3, c_R_4, c_R_5]) rfl ⟨rfl, NN.out⟩
set_option maxRecDepth 100000 in
set_option maxHeartbeats 8000000 in
theorem rvsub_calls (v u : V6) (h : SubOk v u) (w : World) : Calls Tryz.prog 49 #[Vv v, Vv u] w fun e w' => e = .returned (.tuple #[Vv (subV v u), .int .i64 0]) ∧ Below w.heap.size w w' := by
 have NN := Lib.hid (Below.refl w.heap.size w)
 have C0 := Lib.hid (fun W => rvboth_calls v u h.ov h.ou W)
 have C1 := Lib.hid (fun W => rvneg_calls u h.ou W)
 have C2 := Lib.hid (fun W => rvadd_calls v (negV u) h.neg.1 W)
 rw [h.neg.2] at C2
 generalize subV v u = r at *
 generalize negV u = t at *
 clear h
 go_enter Tryz.func49, Tryz.ntmps49
 go_wp2_with fail
 have V : Hid ((((w.alloc (.cells #[.int .i64 v.x1, .int .i64 v.x2, .int .i64 v.y1, .int .i64 v.y2, .int .i64 v.z1, .int .i64 v.z2] 38)).alloc (.cells #[.int .i64 u.x1, .int .i64 u.x2, .int .i64 u.y1, .int .i64 u.y2, .int .i64 u.z1, .int .i64 u.z2] 38)).alloc (.cells #[.int .i64 0, .int .i64 0, .int .i64 0, .int .i64 0, .int .i64 0, .int .i64 0] 38)).heap[w.heap.size]? = some (.cells #[.int .i64 v.x1, .int .i64 v.x2, .int .i64 v.y1, .int .i64 v.y2, .int .i64 v.z1, .int .i64 v.z2] 38)) := Lib.hid (blk_alloc (blk_alloc (blk_new w _) _) _)
 have U : Hid ((((w.alloc (.cells #[.int .i64 v.x1, .int .i64 v.x2, .int .i64 v.y1, .int .i64 v.y2, .int .i64 v.z1, .int .i64 v.z2] 38)).alloc (.cells #[.int .i64 u.x1, .int .i64 u.x2, .int .i64 u.y1, .int .i64 u.y2, .int .i64 u.z1, .int .i64 u.z2] 38)).alloc (.cells #[.int .i64 0, .int .i64 0, .int .i64 0, .int .i64 0, .int .i64 0, .int .i64 0] 38)).heap[w.heap.size + 1]? = some (.cells #[.int .i64 u.x1, .int .i64 u.x2, .int .i64 u.y1, .int .i64 u.y2, .int .i64 u.z1, .int .i64 u.z2] 38)) := Lib.hid (blk_alloc (blk_at _ (by simp)) _)
 have R : Hid ((((w.alloc (.cells #[.int .i64 v.x1, .int .i64 v.x2, .int .i64 v.y1, .int .i64 v.y2, .int .i64 v.z1, .int .i64 v.z2] 38)).alloc (.cells #[.int .i64 u.x1, .int .i64 u.x2, .int .i64 u.y1, .int .i64 u.y2, .int .i64 u.z1, .int .i64 u.z2] 38)).alloc (.cells #[.int .i64 0, .int .i64 0, .int .i64 0, .int .i64 0, .int .i64 0, .int .i64 0] 38)).heap[w.heap.size + 1 + 1]? = some (.cells #[.int .i64 0, .int .i64 0, .int .i64 0, .int .i64 0, .int .i64 0, .int .i64 0] 38)) := Lib.hid (blk_at _ (by simp))
 replace NN : Hid (Below w.heap.size w (((w.alloc (.cells #[.int .i64 v.x1, .int .i64 v.x2, .int .i64 v.y1, .int .i64 v.y2, .int .i64 v.z1, .int .i64 v.z2] 38)).alloc (.cells #[.int .i64 u.x1, .int .i64 u.x2, .int .i64 u.y1, .int .i64 u.y2, .int .i64 u.z1, .int .i64 u.z2] 38)).alloc (.cells #[.int .i64 0, .int .i64 0, .int .i64 0, .int .i64 0, .int .i64 0, .int .i64 0] 38))) := Lib.hid (Bal (Bal (Bal NN.out _) _) _)
 generalize (((w.alloc (.cells #[.int .i64 v.x1, .int .i64 v.x2, .int .i64 v.y1, .int .i64 v.y2, .int .i64 v.z1, .int .i64 v.z2] 38)).alloc (.cells #[.int .i64 u.x1, .int .i64 u.x2, .int .i64 u.y1, .int .i64 u.y2, .int .i64 u.z1, .int .i64 u.z2] 38)).alloc (.cells #[.int .i64 0, .int .i64 0, .int .i64 0, .int .i64 0, .int .i64 0, .int .i64 0] 38)) = W1 at *
 refine (C0.out _).mono ?_
 rintro e w2 ⟨rfl, hb⟩
 replace NN := Lib.hid (Bgo NN.out hb)
 replace V := Lib.hid (blk_next hb V.out)
 replace U := Lib.hid (blk_next hb U.out)
 replace R := Lib.hid (blk_next hb R.out)
 clear hb
 go_upto_region 3 with fail
 have HDRW := Lib.hid (Below.drew (Below.refl w2.heap.size w2))
 replace NN := Lib.hid (Bgo NN.out HDRW.out)
 replace V := Lib.hid (blk_next HDRW.out V.out)
 replace U := Lib.hid (blk_next HDRW.out U.out)
 replace R := Lib.hid (blk_next HDRW.out R.out)
 clear HDRW
 have HAL : Hid (∀ kx9 : Nat, GK [(0, w.heap.size, .cells #[.int .i64 v.x1, .int .i64 v.x2, .int .i64 v.y1, .int .i64 v.y2, .int .i64 v.z1, .int .i64 v.z2] 38), (1, w.heap.size + 1, .cells #[.int .i64 u.x1, .int .i64 u.x2, .int .i64 u.y1, .int .i64 u.y2, .int .i64 u.z1, .int .i64 u.z2] 38)] kx9 w2.drew) := Lib.hid (fun kx9 p hp e => by
  simp only [List.mem_cons, List.not_mem_nil, or_false] at hp
  rcases hp with rfl | rfl
  ·exact V.out
  ·exact U.out)
 refine region_G (S := GK [(0, w.heap.size, .cells #[.int .i64 v.x1, .int .i64 v.x2, .int .i64 v.y1, .int .i64 v.y2, .int .i64 v.z1, .int .i64 v.z2] 38), (1, w.heap.size + 1, .cells #[.int .i64 u.x1, .int .i64 u.x2, .int .i64 u.y1, .int .i64 u.y2, .int .i64 u.z1, .int .i64 u.z2] 38)]) (by kernel_rfl) ?_
 refine tG 0 (.agg #[.int .i64 v.x1, .int .i64 v.x2, .int .i64 v.y1, .int .i64 v.y2, .int .i64 v.z1, .int .i64 v.z2]) (some 11) (GK.grow _) rfl (YieldsIf.toG (Or.inl ⟨by rfl, ?_⟩)) (HAL.out 0) ?_
 ·intro X hX
  have hh := hX (0, w.heap.size, .cells #[.int .i64 v.x1, .int .i64 v.x2, .int .i64 v.y1, .int .i64 v.y2, .int .i64 v.z1, .int .i64 v.z2] 38) (List.Mem.head _) rfl
  have hh0 := blk_cell hh 0 _ rfl
  have hh1 := blk_cell hh 1 _ rfl
  have hh2 := blk_cell hh 2 _ rfl
  have hh3 := blk_cell hh 3 _ rfl
  have hh4 := blk_cell hh 4 _ rfl
  have hh5 := blk_cell hh 5 _ rfl
  have hhl := blk_lt hh
  clear hh
  clear hX
  go_simp
 try simp only [Act.put, zA, zB, zC]
 refine tG 1 (.agg #[.int .i64 u.x1, .int .i64 u.x2, .int .i64 u.y1, .int .i64 u.y2, .int .i64 u.z1, .int .i64 u.z2]) (some 12) (GK.grow _) rfl (YieldsIf.toG (Or.inl ⟨by rfl, ?_⟩)) (HAL.out 1) ?_
 ·intro X hX
  have hh := hX (1, w.heap.size + 1, .cells #[.int .i64 u.x1, .int .i64 u.x2, .int .i64 u.y1, .int .i64 u.y2, .int .i64 u.z1, .int .i64 u.z2] 38) (List.Mem.tail _ (List.Mem.head _)) rfl
  have hh0 := blk_cell hh 0 _ rfl
  have hh1 := blk_cell hh 1 _ rfl
  have hh2 := blk_cell hh 2 _ rfl
  have hh3 := blk_cell hh 3 _ rfl
  have hh4 := blk_cell hh 4 _ rfl
  have hh5 := blk_cell hh 5 _ rfl
  have hhl := blk_lt hh
  clear hh
  clear hX
  go_simp
 try simp only [Act.put, zA, zB, zC]
 have CFn : ∀ (args : Array Value) (W : World), Sem.run Tryz.prog (callFunc 12 args) W = .ok (.enter 12 args) W := fun _ _ => by kernel_rfl
 refine tG 2 (.agg #[.int .i64 t.x1, .int .i64 t.x2, .int .i64 t.y1, .int .i64 t.y2, .int .i64 t.z1, .int .i64 t.z2]) (some 13) (GK.grow _) rfl (yieldsG_call 12 #[.agg #[.int .i64 u.x1, .int .i64 u.x2, .int .i64 u.y1, .int .i64 u.y2, .int .i64 u.z1, .int .i64 u.z2]] (by rfl) ?_ (fun X hS => C1.out X)) (GK.drop (by simp)) ?_
 ·intro X hX
  clear hX
  go_simp
 clear CFn
 try simp only [Act.put, zA, zB, zC]
 have CFn : ∀ (args : Array Value) (W : World), Sem.run Tryz.prog (callFunc 73 args) W = .ok (.enter 73 args) W := fun _ _ => by kernel_rfl
 refine tG 3 (.tuple #[.agg #[.int .i64 r.x1, .int .i64 r.x2, .int .i64 r.y1, .int .i64 r.y2, .int .i64 r.z1, .int .i64 r.z2], .int .i64 0]) (some 14) (GK.grow _) rfl (yieldsG_call 73 #[.agg #[.int .i64 v.x1, .int .i64 v.x2, .int .i64 v.y1, .int .i64 v.y2, .int .i64 v.z1, .int .i64 v.z2], .agg #[.int .i64 t.x1, .int .i64 t.x2, .int .i64 t.y1, .int .i64 t.y2, .int .i64 t.z1, .int .i64 t.z2]] (by rfl) ?_ (fun X hS => C2.out X)) (GK.drop (by simp)) ?_
 ·intro X hX
  clear hX
  go_simp
 clear CFn
 try simp only [Act.put, zA, zB, zC]
 refine tG 4 (.agg #[.int .i64 r.x1, .int .i64 r.x2, .int .i64 r.y1, .int .i64 r.y2, .int .i64 r.z1, .int .i64 r.z2]) (some 15) (GK.grow _) rfl (YieldsIf.toG (Or.inl ⟨by rfl, ?_⟩)) (GK.drop (by simp)) ?_
 ·intro X hX
  clear hX
  go_simp
 try simp only [Act.put, zA, zB, zC]
 refine tG 5 (.int .i64 0) (some 16) (GK.grow _) rfl (YieldsIf.toG (Or.inl ⟨by rfl, ?_⟩)) (GK.drop (by simp)) ?_
 ·intro X hX
  clear hX
  go_simp
 try simp only [Act.put, zA, zB, zC]
 refine only_G 6 (by kernel_rfl) rfl (fun X3 hX K' hK' => ?_)
 replace NN := Lib.hid (Bgo NN.out hX)
 replace V := Lib.hid (blk_next hX V.out)
 replace U := Lib.hid (blk_next hX U.out)
 replace R := Lib.hid (blk_next hX R.out)
 replace HAL := Lib.hid (fun kx9 => GK.grow _ _ _ _ (HAL.out kx9) hX)
 clear hX
 have c_R_0 := blk_cell R.out 0 _ rfl
 have f_R_0 := blk_frozen R.out 0
 have c_R_1 := blk_cell R.out 1 _ rfl
 have f_R_1 := blk_frozen R.out 1
 have c_R_2 := blk_cell R.out 2 _ rfl
 have f_R_2 := blk_frozen R.out 2
 have c_R_3 := blk_cell R.out 3 _ rfl
 have f_R_3 := blk_frozen R.out 3
 have c_R_4 := blk_cell R.out 4 _ rfl
 have f_R_4 := blk_frozen R.out 4
 have c_R_5 := blk_cell R.out 5 _ rfl
 have f_R_5 := blk_frozen R.out 5
 have l_R := blk_lt R.out
 go_simp
 clear c_R_0 f_R_0 c_R_1 f_R_1 c_R_2 f_R_2 c_R_3 f_R_3 c_R_4 f_R_4 c_R_5 f_R_5 l_R
 refine hK'.out _ _ (fun kk hk hS => ?_) ?_
 ·have HN : ∀ p ∈ ([(0, w.heap.size, .cells #[.int .i64 v.x1, .int .i64 v.x2, .int .i64 v.y1, .int .i64 v.y2, .int .i64 v.z1, .int .i64 v.z2] 38), (1, w.heap.size + 1, .cells #[.int .i64 u.x1, .int .i64 u.x2, .int .i64 u.y1, .int .i64 u.y2, .int .i64 u.z1, .int .i64 u.z2] 38)] : List (Nat × Nat × Obj)), p.1 = kk → p.2.1 ≠ w.heap.size + 1 + 1 := fun p hp e => by
   simp only [List.mem_cons, List.not_mem_nil, or_false] at hp
   rcases hp with rfl | rfl
   ·subst e
    exact bfl (by kernel_rfl) hk
   ·subst e
    exact bfl (by kernel_rfl) hk
  exact GK.set (GK.set (GK.set (GK.set (GK.set (GK.set hS HN) HN) HN) HN) HN) HN
 clear hK' K'
 try simp only [Act.put, zA, zB, zC]
 clear HAL
 replace V : Hid (((((((X3.setCell ⟨w.heap.size + 1 + 1, 0, none⟩ (.int .i64 r.x1)).setCell ⟨w.heap.size + 1 + 1, 1, none⟩ (.int .i64 r.x2)).setCell ⟨w.heap.size + 1 + 1, 2, none⟩ (.int .i64 r.y1)).setCell ⟨w.heap.size + 1 + 1, 3, none⟩ (.int .i64 r.y2)).setCell ⟨w.heap.size + 1 + 1, 4, none⟩ (.int .i64 r.z1)).setCell ⟨w.heap.size + 1 + 1, 5, none⟩ (.int .i64 r.z2)).heap[w.heap.size]? = some (.cells #[.int .i64 v.x1, .int .i64 v.x2, .int .i64 v.y1, .int .i64 v.y2, .int .i64 v.z1, .int .i64 v.z2] 38)) := Lib.hid (blk_set_other (b' := w.heap.size + 1 + 1) (blk_set_other (b' := w.heap.size + 1 + 1) (blk_set_other (b' := w.heap.size + 1 + 1) (blk_set_other (b' := w.heap.size + 1 + 1) (blk_set_other (b' := w.heap.size + 1 + 1) (blk_set_other (b' := w.heap.size + 1 + 1) (V.out) (by omega) 0 (.int .i64 r.x1)) (by omega) 1 (.int .i64 r.x2)) (by omega) 2 (.int .i64 r.y1)) (by omega) 3 (.int .i64 r.y2)) (by omega) 4 (.int .i64 r.z1)) (by omega) 5 (.int .i64 r.z2))
 replace U : Hid (((((((X3.setCell ⟨w.heap.size + 1 + 1, 0, none⟩ (.int .i64 r.x1)).setCell ⟨w.heap.size + 1 + 1, 1, none⟩ (.int .i64 r.x2)).setCell ⟨w.heap.size + 1 + 1, 2, none⟩ (.int .i64 r.y1)).setCell ⟨w.heap.size + 1 + 1, 3, none⟩ (.int .i64 r.y2)).setCell ⟨w.heap.size + 1 + 1, 4, none⟩ (.int .i64 r.z1)).setCell ⟨w.heap.size + 1 + 1, 5, none⟩ (.int .i64 r.z2)).heap[w.heap.size + 1]? = some (.cells #[.int .i64 u.x1, .int .i64 u.x2, .int .i64 u.y1, .int .i64 u.y2, .int .i64 u.z1, .int .i64 u.z2] 38)) := Lib.hid (blk_set_other (b' := w.heap.size + 1 + 1) (blk_set_other (b' := w.heap.size + 1 + 1) (blk_set_other (b' := w.heap.size + 1 + 1) (blk_set_other (b' := w.heap.size + 1 + 1) (blk_set_other (b' := w.heap.size + 1 + 1) (blk_set_other (b' := w.heap.size + 1 + 1) (U.out) (by omega) 0 (.int .i64 r.x1)) (by omega) 1 (.int .i64 r.x2)) (by omega) 2 (.int .i64 r.y1)) (by omega) 3 (.int .i64 r.y2)) (by omega) 4 (.int .i64 r.z1)) (by omega) 5 (.int .i64 r.z2))
 replace R : Hid (((((((X3.setCell ⟨w.heap.size + 1 + 1, 0, none⟩ (.int .i64 r.x1)).setCell ⟨w.heap.size + 1 + 1, 1, none⟩ (.int .i64 r.x2)).setCell ⟨w.heap.size + 1 + 1, 2, none⟩ (.int .i64 r.y1)).setCell ⟨w.heap.size + 1 + 1, 3, none⟩ (.int .i64 r.y2)).setCell ⟨w.heap.size + 1 + 1, 4, none⟩ (.int .i64 r.z1)).setCell ⟨w.heap.size + 1 + 1, 5, none⟩ (.int .i64 r.z2)).heap[w.heap.size + 1 + 1]? = some (.cells #[.int .i64 r.x1, .int .i64 r.x2, .int .i64 r.y1, .int .i64 r.y2, .int .i64 r.z1, .int .i64 r.z2] 38)) := Lib.hid (blk_set (blk_set (blk_set (blk_set (blk_set (blk_set (R.out) 0 (.int .i64 r.x1)) 1 (.int .i64 r.x2)) 2 (.int .i64 r.y1)) 3 (.int .i64 r.y2)) 4 (.int .i64 r.z1)) 5 (.int .i64 r.z2))
 replace NN := Lib.hid (Bset1 (Bset1 (Bset1 (Bset1 (Bset1 (Bset1 (NN.out) (show w.heap.size ≤ w.heap.size + 1 + 1 by omega) 0 (.int .i64 r.x1)) (show w.heap.size ≤ w.heap.size + 1 + 1 by omega) 1 (.int .i64 r.x2)) (show w.heap.size ≤ w.heap.size + 1 + 1 by omega) 2 (.int .i64 r.y1)) (show w.heap.size ≤ w.heap.size + 1 + 1 by omega) 3 (.int .i64 r.y2)) (show w.heap.size ≤ w.heap.size + 1 + 1 by omega) 4 (.int .i64 r.z1)) (show w.heap.size ≤ w.heap.size + 1 + 1 by omega) 5 (.int .i64 r.z2))
 generalize ((((((X3.setCell ⟨w.heap.size + 1 + 1, 0, none⟩ (.int .i64 r.x1)).setCell ⟨w.heap.size + 1 + 1, 1, none⟩ (.int .i64 r.x2)).setCell ⟨w.heap.size + 1 + 1, 2, none⟩ (.int .i64 r.y1)).setCell ⟨w.heap.size + 1 + 1, 3, none⟩ (.int .i64 r.y2)).setCell ⟨w.heap.size + 1 + 1, 4, none⟩ (.int .i64 r.z1)).setCell ⟨w.heap.size + 1 + 1, 5, none⟩ (.int .i64 r.z2)) = W4 at *
 refine tG 7 (.int .i64 0) (some 5) (GK.grow _) rfl (YieldsIf.toG (Or.inl ⟨by rfl, ?_⟩)) (GK.drop (by simp)) ?_
 ·intro X hX
  clear hX
  go_simp
 try simp only [Act.put, zA, zB, zC]
 refine done_G (by kernel_rfl) (fun X5 hX => ?_) _
 replace NN := Lib.hid (Bgo NN.out hX)
 replace V := Lib.hid (blk_next hX V.out)
 replace U := Lib.hid (blk_next hX U.out)
 replace R := Lib.hid (blk_next hX R.out)
 clear hX
 have c_R_0 := blk_cell R.out 0 _ rfl
 have f_R_0 := blk_frozen R.out 0
 have c_R_1 := blk_cell R.out 1 _ rfl
 have f_R_1 := blk_frozen R.out 1
 have c_R_2 := blk_cell R.out 2 _ rfl
 have f_R_2 := blk_frozen R.out 2
 have c_R_3 := blk_cell R.out 3 _ rfl
 have f_R_3 := blk_frozen R.out 3
 have c_R_4 := blk_cell R.out 4 _ rfl
 have f_R_4 := blk_frozen R.out 4
 have c_R_5 := blk_cell R.out 5 _ rfl
 have f_R_5 := blk_frozen R.out 5
 have l_R := blk_lt R.out
 go_wp2_with fail
 exact bodyPost_ret (v := .tuple #[Vv r, .int .i64 0]) (by simp [results, Tryz.results49, go_sem, c_R_0, c_R_1, c_R_2, c_R_3, c_R_4, c_R_5]) rfl ⟨rfl, NN.out⟩
end Go.Proofs.YtfangplfbbgphaaGreatDoor
namespace Go.Proofs.YtfangplfbbgphaaGreatDoor
set_option linter.unusedVariables false
set_option maxRecDepth 100000
theorem okF_VF {n d : Int} (h : okF n d = true) : VF n d := errF_ok (by unfold errF; rw [h]; rfl)
theorem subR_red {an ad bn bd : Int} (ha : okF an ad = true) (hb : okF bn bd = true) : subR an ad bn bd = redF (an * bd - bn * ad) (ad.natAbs * bd.natAbs) := by
 unfold subR
 rw [errB_yes ha hb, if_pos rfl, addF_red (okF_VF ha) (okF_VF hb).neg]
 congr 1
 rw [Int.neg_mul]; omega
theorem abs_mul2 {a b : Int} (ha : 1 ≤ a) (hb : 1 ≤ b) : ((a.natAbs * b.natAbs : Nat) : Int) = a * b := by
 rw [Int.natCast_mul, Int.natAbs_of_nonneg (by omega), Int.natAbs_of_nonneg (by omega)]
theorem abs_pos2 {a b : Int} (ha : 1 ≤ a) (hb : 1 ≤ b) : 0 < a.natAbs * b.natAbs := Nat.mul_pos (by omega) (by omega)
theorem subR_val {an ad bn bd : Int} (ha : okF an ad = true) (hb : okF bn bd = true) (h0 : (subR an ad bn bd).2.2 = 0) :
  VF (subR an ad bn bd).1 (subR an ad bn bd).2.1 ∧ (subR an ad bn bd).1 * (ad * bd) = (an * bd - bn * ad) * (subR an ad bn bd).2.1 := by
 have va := okF_VF ha
 have vb := okF_VF hb
 obtain ⟨h1, h2⟩ := redF_val (abs_pos2 va.d1 vb.d1) (show redF (an * bd - bn * ad) (ad.natAbs * bd.natAbs) = ((subR an ad bn bd).1, (subR an ad bn bd).2.1, (subR an ad bn bd).2.2) by rw [subR_red ha hb]) h0
 rw [abs_mul2 va.d1 vb.d1] at h2
 exact ⟨h1, h2⟩
theorem subR_swap {an ad bn bd : Int} (ha : okF an ad = true) (hb : okF bn bd = true) (h0 : (subR an ad bn bd).2.2 = 0) : subR bn bd an ad = (-(subR an ad bn bd).1, (subR an ad bn bd).2.1, 0) := by
 have va := okF_VF ha
 have vb := okF_VF hb
 obtain ⟨h1, h2⟩ := subR_val ha hb h0
 rw [subR_red hb ha]
 refine redF_of (abs_pos2 vb.d1 va.d1) h1.neg ?_
 rw [abs_mul2 vb.d1 va.d1]
 generalize (subR an ad bn bd).1 = n at *
 generalize (subR an ad bn bd).2.1 = d at *
 clear h0 h1 va vb ha hb
 grind
theorem VF_okF {n d : Int} (h : VF n d) : okF n d = true := by
 unfold okF
 rw [h.g, decide_eq_true ⟨h.d1, h.d2, h.n1, h.n2⟩]; rfl
theorem subR_ok {an ad bn bd : Int} (ha : okF an ad = true) (hb : okF bn bd = true) (h0 : (subR an ad bn bd).2.2 = 0) : okF (subR an ad bn bd).1 (subR an ad bn bd).2.1 = true := VF_okF (subR_val ha hb h0).1
theorem subV_ok {v u : V6} (h : SubOk v u) : okV (subV v u) = true := by
 obtain ⟨a1, a2, a3⟩ := okV_x h.ov
 obtain ⟨b1, b2, b3⟩ := okV_x h.ou
 unfold okV subV
 rw [subR_ok a1 b1 h.x, subR_ok a2 b2 h.y, subR_ok a3 b3 h.z]; rfl
theorem subV_swap {v u : V6} (h : SubOk v u) : subV u v = negV (subV v u) := by
 obtain ⟨a1, a2, a3⟩ := okV_x h.ov
 obtain ⟨b1, b2, b3⟩ := okV_x h.ou
 unfold negV
 show V6.mk _ _ _ _ _ _ = _
 rw [subR_swap a1 b1 h.x, subR_swap a2 b2 h.y, subR_swap a3 b3 h.z]
 rfl
end Go.Proofs.YtfangplfbbgphaaGreatDoor
