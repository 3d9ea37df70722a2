/- Several texts in one. -/
import Derived.Deep.RegionLaw
import Derived.Laws.IdiomStrings
import Derived.Test.YtbbnkclajpaghaaGreatDoorMS02
import Derived.Test.YtbbnkclajpaghaaGreatDoorMS03
import Derived.Test.YtbbnkclajpaghaaGreatDoorMS04
namespace Go.Proofs.YtbbnkclajpaghaaGreatDoor
open Go.ChangeShapes Go.WideShapes Go.ChangeAt Go.RowKit
set_option linter.unusedVariables false
set_option linter.unusedSimpArgs false
attribute [local go_sem ↓] Go.wp_at_zero Go.wp_at_succ
theorem visE_row {r : Vr} (h : rowB r = true) : visE r = 0 := by
 simp only [rowB, Bool.and_eq_true] at h
 unfold visE
 rw [h.2.2.2.2]; rfl
theorem val_lim {r : Vr} (h : Cxm.chkB r.re r.im r.dn = true) : -1000000000 ≤ r.re ∧ r.re ≤ 1000000000 ∧ -1000000000 ≤ r.im ∧ r.im ≤ 1000000000 ∧ 1 ≤ r.dn ∧ r.dn ≤ 1000000000 := by
 simp only [Cxm.chkB, Cxm.fitsB, Bool.and_eq_true, decide_eq_true_eq] at h
 omega
set_option maxRecDepth 100000 in
set_option maxHeartbeats 8000000 in
theorem parts_calls {r : Vr} (h : rowB r = true) (w : World) : Calls Tryz.prog 51 #[Wv r] w fun e w' => e = .returned (.tuple #[Fv (makeF r.re r.dn).1 (makeF r.re r.dn).2.1, Fv (makeF r.im r.dn).1 (makeF r.im r.dn).2.1, .int .i64 0]) ∧ Below w.heap.size w w' := by
 have NN := Lib.hid (Below.refl w.heap.size w)
 obtain ⟨-, -, hc, ⟨n1, d1, e1, -, -⟩, ⟨n2, d2, e2, -, -⟩, -⟩ := rowB_val h
 have hl := val_lim hc
 have C0 := Lib.hid (fun W => wcheck_calls r W)
 rw [visE_row h] at C0
 have C1 := Lib.hid (fun W => make_calls r.re r.dn W (by omega) (by omega) (by omega) (by omega))
 have C2 := Lib.hid (fun W => make_calls r.im r.dn W (by omega) (by omega) (by omega) (by omega))
 rw [e1] at C1 ⊢
 rw [e2] at C2 ⊢
 simp only
 clear h hc hl e1 e2
 go_enter Tryz.func51, Tryz.ntmps51
 go_wp2_with fail
 have V : Hid ((((w.alloc (.cells #[.int .i64 r.i, .int .i64 r.j, .int .i64 r.re, .int .i64 r.im, .int .i64 r.dn, .int .i64 r.n] 42)).alloc (.cells #[.int .i64 0, .int .i64 0] 83)).alloc (.cells #[.int .i64 0, .int .i64 0] 83)).heap[w.heap.size]? = some (.cells #[.int .i64 r.i, .int .i64 r.j, .int .i64 r.re, .int .i64 r.im, .int .i64 r.dn, .int .i64 r.n] 42)) := Lib.hid (blk_alloc (blk_alloc (blk_new w _) _) _)
 have RE : Hid ((((w.alloc (.cells #[.int .i64 r.i, .int .i64 r.j, .int .i64 r.re, .int .i64 r.im, .int .i64 r.dn, .int .i64 r.n] 42)).alloc (.cells #[.int .i64 0, .int .i64 0] 83)).alloc (.cells #[.int .i64 0, .int .i64 0] 83)).heap[w.heap.size + 1]? = some (.cells #[.int .i64 0, .int .i64 0] 83)) := Lib.hid (blk_alloc (blk_at _ (by simp)) _)
 have IM : Hid ((((w.alloc (.cells #[.int .i64 r.i, .int .i64 r.j, .int .i64 r.re, .int .i64 r.im, .int .i64 r.dn, .int .i64 r.n] 42)).alloc (.cells #[.int .i64 0, .int .i64 0] 83)).alloc (.cells #[.int .i64 0, .int .i64 0] 83)).heap[w.heap.size + 1 + 1]? = some (.cells #[.int .i64 0, .int .i64 0] 83)) := Lib.hid (blk_at _ (by simp))
 replace NN : Hid (Below w.heap.size w (((w.alloc (.cells #[.int .i64 r.i, .int .i64 r.j, .int .i64 r.re, .int .i64 r.im, .int .i64 r.dn, .int .i64 r.n] 42)).alloc (.cells #[.int .i64 0, .int .i64 0] 83)).alloc (.cells #[.int .i64 0, .int .i64 0] 83))) := Lib.hid (Bal (Bal (Bal NN.out _) _) _)
 generalize (((w.alloc (.cells #[.int .i64 r.i, .int .i64 r.j, .int .i64 r.re, .int .i64 r.im, .int .i64 r.dn, .int .i64 r.n] 42)).alloc (.cells #[.int .i64 0, .int .i64 0] 83)).alloc (.cells #[.int .i64 0, .int .i64 0] 83)) = W1 at *
 have c_V_0 := blk_cell V.out 0 _ rfl
 have f_V_0 := blk_frozen V.out 0
 have c_V_1 := blk_cell V.out 1 _ rfl
 have f_V_1 := blk_frozen V.out 1
 have c_V_2 := blk_cell V.out 2 _ rfl
 have f_V_2 := blk_frozen V.out 2
 have c_V_3 := blk_cell V.out 3 _ rfl
 have f_V_3 := blk_frozen V.out 3
 have c_V_4 := blk_cell V.out 4 _ rfl
 have f_V_4 := blk_frozen V.out 4
 have c_V_5 := blk_cell V.out 5 _ rfl
 have f_V_5 := blk_frozen V.out 5
 have l_V := blk_lt V.out
 go_wp2_with fail
 clear c_V_0 f_V_0 c_V_1 f_V_1 c_V_2 f_V_2 c_V_3 f_V_3 c_V_4 f_V_4 c_V_5 f_V_5 l_V
 refine (C0.out _).mono ?_
 rintro e w2 ⟨rfl, hb⟩
 replace NN := Lib.hid (Bgo NN.out hb)
 replace V := Lib.hid (blk_next hb V.out)
 replace RE := Lib.hid (blk_next hb RE.out)
 replace IM := Lib.hid (blk_next hb IM.out)
 clear hb
 have c_V_0 := blk_cell V.out 0 _ rfl
 have f_V_0 := blk_frozen V.out 0
 have c_V_1 := blk_cell V.out 1 _ rfl
 have f_V_1 := blk_frozen V.out 1
 have c_V_2 := blk_cell V.out 2 _ rfl
 have f_V_2 := blk_frozen V.out 2
 have c_V_3 := blk_cell V.out 3 _ rfl
 have f_V_3 := blk_frozen V.out 3
 have c_V_4 := blk_cell V.out 4 _ rfl
 have f_V_4 := blk_frozen V.out 4
 have c_V_5 := blk_cell V.out 5 _ rfl
 have f_V_5 := blk_frozen V.out 5
 have l_V := blk_lt V.out
 have c_RE_0 := blk_cell RE.out 0 _ rfl
 have f_RE_0 := blk_frozen RE.out 0
 have c_RE_1 := blk_cell RE.out 1 _ rfl
 have f_RE_1 := blk_frozen RE.out 1
 have l_RE := blk_lt RE.out
 go_wp2_with fail
 clear c_V_0 f_V_0 c_V_1 f_V_1 c_V_2 f_V_2 c_V_3 f_V_3 c_V_4 f_V_4 c_V_5 f_V_5 l_V c_RE_0 f_RE_0 c_RE_1 f_RE_1 l_RE
 refine (C1.out _).mono ?_
 rintro e w3 ⟨rfl, hb⟩
 replace NN := Lib.hid (Bgo NN.out hb)
 replace V := Lib.hid (blk_next hb V.out)
 replace RE := Lib.hid (blk_next hb RE.out)
 replace IM := Lib.hid (blk_next hb IM.out)
 clear hb
 have c_RE_0 := blk_cell RE.out 0 _ rfl
 have f_RE_0 := blk_frozen RE.out 0
 have c_RE_1 := blk_cell RE.out 1 _ rfl
 have f_RE_1 := blk_frozen RE.out 1
 have l_RE := blk_lt RE.out
 have c_V_0 := blk_cell V.out 0 _ rfl
 have f_V_0 := blk_frozen V.out 0
 have c_V_1 := blk_cell V.out 1 _ rfl
 have f_V_1 := blk_frozen V.out 1
 have c_V_2 := blk_cell V.out 2 _ rfl
 have f_V_2 := blk_frozen V.out 2
 have c_V_3 := blk_cell V.out 3 _ rfl
 have f_V_3 := blk_frozen V.out 3
 have c_V_4 := blk_cell V.out 4 _ rfl
 have f_V_4 := blk_frozen V.out 4
 have c_V_5 := blk_cell V.out 5 _ rfl
 have f_V_5 := blk_frozen V.out 5
 have l_V := blk_lt V.out
 go_wp2_with fail
 clear c_RE_0 f_RE_0 c_RE_1 f_RE_1 l_RE c_V_0 f_V_0 c_V_1 f_V_1 c_V_2 f_V_2 c_V_3 f_V_3 c_V_4 f_V_4 c_V_5 f_V_5 l_V
 replace V : Hid (((w3.setCell ⟨w.heap.size + 1, 0, none⟩ (.int .i64 n1)).setCell ⟨w.heap.size + 1, 1, none⟩ (.int .i64 d1)).heap[w.heap.size]? = some (.cells #[.int .i64 r.i, .int .i64 r.j, .int .i64 r.re, .int .i64 r.im, .int .i64 r.dn, .int .i64 r.n] 42)) := Lib.hid (blk_set_other (b' := w.heap.size + 1) (blk_set_other (b' := w.heap.size + 1) (V.out) (by omega) 0 (.int .i64 n1)) (by omega) 1 (.int .i64 d1))
 replace RE : Hid (((w3.setCell ⟨w.heap.size + 1, 0, none⟩ (.int .i64 n1)).setCell ⟨w.heap.size + 1, 1, none⟩ (.int .i64 d1)).heap[w.heap.size + 1]? = some (.cells #[.int .i64 n1, .int .i64 d1] 83)) := Lib.hid (blk_set (blk_set (RE.out) 0 (.int .i64 n1)) 1 (.int .i64 d1))
 replace IM : Hid (((w3.setCell ⟨w.heap.size + 1, 0, none⟩ (.int .i64 n1)).setCell ⟨w.heap.size + 1, 1, none⟩ (.int .i64 d1)).heap[w.heap.size + 1 + 1]? = some (.cells #[.int .i64 0, .int .i64 0] 83)) := Lib.hid (blk_set_other (b' := w.heap.size + 1) (blk_set_other (b' := w.heap.size + 1) (IM.out) (by omega) 0 (.int .i64 n1)) (by omega) 1 (.int .i64 d1))
 replace NN := Lib.hid (Bset1 (Bset1 (NN.out) (show w.heap.size ≤ w.heap.size + 1 by omega) 0 (.int .i64 n1)) (show w.heap.size ≤ w.heap.size + 1 by omega) 1 (.int .i64 d1))
 generalize ((w3.setCell ⟨w.heap.size + 1, 0, none⟩ (.int .i64 n1)).setCell ⟨w.heap.size + 1, 1, none⟩ (.int .i64 d1)) = W4 at *
 refine (C2.out _).mono ?_
 rintro e w5 ⟨rfl, hb⟩
 replace NN := Lib.hid (Bgo NN.out hb)
 replace V := Lib.hid (blk_next hb V.out)
 replace RE := Lib.hid (blk_next hb RE.out)
 replace IM := Lib.hid (blk_next hb IM.out)
 clear hb
 have c_IM_0 := blk_cell IM.out 0 _ rfl
 have f_IM_0 := blk_frozen IM.out 0
 have c_IM_1 := blk_cell IM.out 1 _ rfl
 have f_IM_1 := blk_frozen IM.out 1
 have l_IM := blk_lt IM.out
 go_upto_region 10 with fail
 clear c_IM_0 f_IM_0 c_IM_1 f_IM_1 l_IM
 replace V : Hid (((w5.setCell ⟨w.heap.size + 1 + 1, 0, none⟩ (.int .i64 n2)).setCell ⟨w.heap.size + 1 + 1, 1, none⟩ (.int .i64 d2)).heap[w.heap.size]? = some (.cells #[.int .i64 r.i, .int .i64 r.j, .int .i64 r.re, .int .i64 r.im, .int .i64 r.dn, .int .i64 r.n] 42)) := Lib.hid (blk_set_other (b' := w.heap.size + 1 + 1) (blk_set_other (b' := w.heap.size + 1 + 1) (V.out) (by omega) 0 (.int .i64 n2)) (by omega) 1 (.int .i64 d2))
 replace RE : Hid (((w5.setCell ⟨w.heap.size + 1 + 1, 0, none⟩ (.int .i64 n2)).setCell ⟨w.heap.size + 1 + 1, 1, none⟩ (.int .i64 d2)).heap[w.heap.size + 1]? = some (.cells #[.int .i64 n1, .int .i64 d1] 83)) := Lib.hid (blk_set_other (b' := w.heap.size + 1 + 1) (blk_set_other (b' := w.heap.size + 1 + 1) (RE.out) (by omega) 0 (.int .i64 n2)) (by omega) 1 (.int .i64 d2))
 replace IM : Hid (((w5.setCell ⟨w.heap.size + 1 + 1, 0, none⟩ (.int .i64 n2)).setCell ⟨w.heap.size + 1 + 1, 1, none⟩ (.int .i64 d2)).heap[w.heap.size + 1 + 1]? = some (.cells #[.int .i64 n2, .int .i64 d2] 83)) := Lib.hid (blk_set (blk_set (IM.out) 0 (.int .i64 n2)) 1 (.int .i64 d2))
 replace NN := Lib.hid (Bset1 (Bset1 (NN.out) (show w.heap.size ≤ w.heap.size + 1 + 1 by omega) 0 (.int .i64 n2)) (show w.heap.size ≤ w.heap.size + 1 + 1 by omega) 1 (.int .i64 d2))
 generalize ((w5.setCell ⟨w.heap.size + 1 + 1, 0, none⟩ (.int .i64 n2)).setCell ⟨w.heap.size + 1 + 1, 1, none⟩ (.int .i64 d2)) = W6 at *
 have HDRW := Lib.hid (Below.drew (Below.refl W6.heap.size W6))
 replace NN := Lib.hid (Bgo NN.out HDRW.out)
 replace V := Lib.hid (blk_next HDRW.out V.out)
 replace RE := Lib.hid (blk_next HDRW.out RE.out)
 replace IM := Lib.hid (blk_next HDRW.out IM.out)
 clear HDRW
 have HAL : Hid (∀ kx9 : Nat, GK [(0, w.heap.size + 1, .cells #[.int .i64 n1, .int .i64 d1] 83), (1, w.heap.size + 1 + 1, .cells #[.int .i64 n2, .int .i64 d2] 83)] kx9 W6.drew) := Lib.hid (fun kx9 => fun px9 hp e => by
  simp only [List.mem_cons, List.not_mem_nil, or_false] at hp
  rcases hp with rfl | rfl
  ·exact RE.out
  ·exact IM.out
 )
 refine region_G (S := GK [(0, w.heap.size + 1, .cells #[.int .i64 n1, .int .i64 d1] 83), (1, w.heap.size + 1 + 1, .cells #[.int .i64 n2, .int .i64 d2] 83)]) (by kernel_rfl) ?_
 refine tG 0 (.agg #[.int .i64 n1, .int .i64 d1]) (some 43) (GK.grow _) rfl (YieldsIf.toG (Or.inl ⟨by rfl, ?_⟩)) (HAL.out 0) ?_
 ·intro X hX
  have hh := hX (0, w.heap.size + 1, .cells #[.int .i64 n1, .int .i64 d1] 83) (List.Mem.head _) rfl
  have hh0 := blk_cell hh 0 _ rfl
  have hh1 := blk_cell hh 1 _ rfl
  have hhl := blk_lt hh
  clear hh
  clear hX
  go_simp
 try simp only [Act.put, zA, zB, zC]
 refine tG 1 (.agg #[.int .i64 n2, .int .i64 d2]) (some 44) (GK.grow _) rfl (YieldsIf.toG (Or.inl ⟨by rfl, ?_⟩)) (HAL.out 1) ?_
 ·intro X hX
  have hh := hX (1, w.heap.size + 1 + 1, .cells #[.int .i64 n2, .int .i64 d2] 83) (List.Mem.tail _ (List.Mem.head _)) rfl
  have hh0 := blk_cell hh 0 _ rfl
  have hh1 := blk_cell hh 1 _ rfl
  have hhl := blk_lt hh
  clear hh
  clear hX
  go_simp
 try simp only [Act.put, zA, zB, zC]
 refine only_G 2 (by kernel_rfl) rfl (fun X7 hX K' hK' => ?_)
 replace NN := Lib.hid (Bgo NN.out hX)
 replace V := Lib.hid (blk_next hX V.out)
 replace RE := Lib.hid (blk_next hX RE.out)
 replace IM := Lib.hid (blk_next hX IM.out)
 replace HAL := Lib.hid (fun kx9 => GK.grow _ _ _ _ (HAL.out kx9) hX)
 clear hX
 have c_RE_0 := blk_cell RE.out 0 _ rfl
 have f_RE_0 := blk_frozen RE.out 0
 have c_RE_1 := blk_cell RE.out 1 _ rfl
 have f_RE_1 := blk_frozen RE.out 1
 have l_RE := blk_lt RE.out
 go_simp
 clear c_RE_0 f_RE_0 c_RE_1 f_RE_1 l_RE
 refine hK'.out _ _ (fun kk hk hS => ?_) ?_
 ·have HN : ∀ px9 ∈ ([(0, w.heap.size + 1, .cells #[.int .i64 n1, .int .i64 d1] 83), (1, w.heap.size + 1 + 1, .cells #[.int .i64 n2, .int .i64 d2] 83)] : List (Nat × Nat × Obj)), px9.1 = kk → px9.2.1 ≠ w.heap.size + 1 := fun px9 hp e => by
   simp only [List.mem_cons, List.not_mem_nil, or_false] at hp
   rcases hp with rfl | rfl
   ·subst e
    exact bfl (by kernel_rfl) hk
   ·show w.heap.size + 1 + 1 ≠ w.heap.size + 1
    omega
  exact GK.set (GK.set hS HN) HN
 clear hK' K'
 try simp only [Act.put, zA, zB, zC]
 clear HAL
 replace V : Hid (((X7.setCell ⟨w.heap.size + 1, 0, none⟩ (.int .i64 n1)).setCell ⟨w.heap.size + 1, 1, none⟩ (.int .i64 d1)).heap[w.heap.size]? = some (.cells #[.int .i64 r.i, .int .i64 r.j, .int .i64 r.re, .int .i64 r.im, .int .i64 r.dn, .int .i64 r.n] 42)) := Lib.hid (blk_set_other (b' := w.heap.size + 1) (blk_set_other (b' := w.heap.size + 1) (V.out) (by omega) 0 (.int .i64 n1)) (by omega) 1 (.int .i64 d1))
 replace RE : Hid (((X7.setCell ⟨w.heap.size + 1, 0, none⟩ (.int .i64 n1)).setCell ⟨w.heap.size + 1, 1, none⟩ (.int .i64 d1)).heap[w.heap.size + 1]? = some (.cells #[.int .i64 n1, .int .i64 d1] 83)) := Lib.hid (blk_set (blk_set (RE.out) 0 (.int .i64 n1)) 1 (.int .i64 d1))
 replace IM : Hid (((X7.setCell ⟨w.heap.size + 1, 0, none⟩ (.int .i64 n1)).setCell ⟨w.heap.size + 1, 1, none⟩ (.int .i64 d1)).heap[w.heap.size + 1 + 1]? = some (.cells #[.int .i64 n2, .int .i64 d2] 83)) := Lib.hid (blk_set_other (b' := w.heap.size + 1) (blk_set_other (b' := w.heap.size + 1) (IM.out) (by omega) 0 (.int .i64 n1)) (by omega) 1 (.int .i64 d1))
 replace NN := Lib.hid (Bset1 (Bset1 (NN.out) (show w.heap.size ≤ w.heap.size + 1 by omega) 0 (.int .i64 n1)) (show w.heap.size ≤ w.heap.size + 1 by omega) 1 (.int .i64 d1))
 generalize ((X7.setCell ⟨w.heap.size + 1, 0, none⟩ (.int .i64 n1)).setCell ⟨w.heap.size + 1, 1, none⟩ (.int .i64 d1)) = W8 at *
 refine only_G 3 (by kernel_rfl) rfl (fun X9 hX K' hK' => ?_)
 replace NN := Lib.hid (Bgo NN.out hX)
 replace V := Lib.hid (blk_next hX V.out)
 replace RE := Lib.hid (blk_next hX RE.out)
 replace IM := Lib.hid (blk_next hX IM.out)
 skip
 clear hX
 have c_IM_0 := blk_cell IM.out 0 _ rfl
 have f_IM_0 := blk_frozen IM.out 0
 have c_IM_1 := blk_cell IM.out 1 _ rfl
 have f_IM_1 := blk_frozen IM.out 1
 have l_IM := blk_lt IM.out
 go_simp
 clear c_IM_0 f_IM_0 c_IM_1 f_IM_1 l_IM
 refine hK'.out _ _ (fun kk hk hS => ?_) ?_
 ·have HN : ∀ px9 ∈ ([(0, w.heap.size + 1, .cells #[.int .i64 n1, .int .i64 d1] 83), (1, w.heap.size + 1 + 1, .cells #[.int .i64 n2, .int .i64 d2] 83)] : List (Nat × Nat × Obj)), px9.1 = kk → px9.2.1 ≠ w.heap.size + 1 + 1 := fun px9 hp e => by
   simp only [List.mem_cons, List.not_mem_nil, or_false] at hp
   rcases hp with rfl | rfl
   ·subst e
    exact bfl (by kernel_rfl) hk
   ·subst e
    exact bfl (by kernel_rfl) hk
  exact GK.set (GK.set hS HN) HN
 clear hK' K'
 try simp only [Act.put, zA, zB, zC]
 replace V : Hid (((X9.setCell ⟨w.heap.size + 1 + 1, 0, none⟩ (.int .i64 n2)).setCell ⟨w.heap.size + 1 + 1, 1, none⟩ (.int .i64 d2)).heap[w.heap.size]? = some (.cells #[.int .i64 r.i, .int .i64 r.j, .int .i64 r.re, .int .i64 r.im, .int .i64 r.dn, .int .i64 r.n] 42)) := Lib.hid (blk_set_other (b' := w.heap.size + 1 + 1) (blk_set_other (b' := w.heap.size + 1 + 1) (V.out) (by omega) 0 (.int .i64 n2)) (by omega) 1 (.int .i64 d2))
 replace RE : Hid (((X9.setCell ⟨w.heap.size + 1 + 1, 0, none⟩ (.int .i64 n2)).setCell ⟨w.heap.size + 1 + 1, 1, none⟩ (.int .i64 d2)).heap[w.heap.size + 1]? = some (.cells #[.int .i64 n1, .int .i64 d1] 83)) := Lib.hid (blk_set_other (b' := w.heap.size + 1 + 1) (blk_set_other (b' := w.heap.size + 1 + 1) (RE.out) (by omega) 0 (.int .i64 n2)) (by omega) 1 (.int .i64 d2))
 replace IM : Hid (((X9.setCell ⟨w.heap.size + 1 + 1, 0, none⟩ (.int .i64 n2)).setCell ⟨w.heap.size + 1 + 1, 1, none⟩ (.int .i64 d2)).heap[w.heap.size + 1 + 1]? = some (.cells #[.int .i64 n2, .int .i64 d2] 83)) := Lib.hid (blk_set (blk_set (IM.out) 0 (.int .i64 n2)) 1 (.int .i64 d2))
 replace NN := Lib.hid (Bset1 (Bset1 (NN.out) (show w.heap.size ≤ w.heap.size + 1 + 1 by omega) 0 (.int .i64 n2)) (show w.heap.size ≤ w.heap.size + 1 + 1 by omega) 1 (.int .i64 d2))
 generalize ((X9.setCell ⟨w.heap.size + 1 + 1, 0, none⟩ (.int .i64 n2)).setCell ⟨w.heap.size + 1 + 1, 1, none⟩ (.int .i64 d2)) = W10 at *
 refine tG 4 (.int .i64 0) (some 4) (GK.grow _) rfl (YieldsIf.toG (Or.inl ⟨by rfl, ?_⟩)) (GK.drop (by simp)) ?_
 ·intro X hX
  clear hX
  go_simp
 try simp only [Act.put, zA, zB, zC]
 refine done_G (by kernel_rfl) (fun X11 hX => ?_) _
 replace NN := Lib.hid (Bgo NN.out hX)
 replace V := Lib.hid (blk_next hX V.out)
 replace RE := Lib.hid (blk_next hX RE.out)
 replace IM := Lib.hid (blk_next hX IM.out)
 clear hX
 have c_RE_0 := blk_cell RE.out 0 _ rfl
 have f_RE_0 := blk_frozen RE.out 0
 have c_RE_1 := blk_cell RE.out 1 _ rfl
 have f_RE_1 := blk_frozen RE.out 1
 have l_RE := blk_lt RE.out
 have c_IM_0 := blk_cell IM.out 0 _ rfl
 have f_IM_0 := blk_frozen IM.out 0
 have c_IM_1 := blk_cell IM.out 1 _ rfl
 have f_IM_1 := blk_frozen IM.out 1
 have l_IM := blk_lt IM.out
 go_wp2_with fail
 exact bodyPost_ret (v := .tuple #[Fv n1 d1, Fv n2 d2, .int .i64 0]) (by simp [results, Tryz.results51, go_sem, c_RE_0, c_RE_1, c_IM_0, c_IM_1]) rfl ⟨rfl, NN.out⟩
end Go.Proofs.YtbbnkclajpaghaaGreatDoor
namespace Go.Proofs.YtbbnkclajpaghaaGreatDoor
open Go.ChangeShapes Go.WideShapes Go.ChangeAt Go.RowKit
set_option linter.unusedVariables false
set_option linter.unusedSimpArgs false
attribute [local go_sem ↓] Go.wp_at_zero Go.wp_at_succ
theorem itoa_calls (n : Int) (w : World) (h1 : -9223372036854775808 ≤ n) (h2 : n ≤ 9223372036854775807) (g : GL w) :
  Calls Tryz.prog 53 #[.int .i64 n] w fun e w' => e = .returned (Str (Lib.itoa n)) ∧ Below w.heap.size w w' :=
 (Tryz.strconv_Itoa n h1 h2 w g.tab).mono fun e w' ⟨h, k, os, hw⟩ => ⟨h, by rw [hw]; exact Lib.below_grow _ _ (Nat.le_refl _) k os⟩
theorem text_ok {n d : Int} (v : VF n d) (w : World) (g : GL w) : Calls Tryz.prog 52 #[Fv n d] w fun e w' => e = .returned (.tuple #[Str (textL n d), .int .i64 0]) ∧ Below w.heap.size w w' := by
 have := text_calls n d w g
 unfold txR at this
 rw [v.err, if_pos rfl] at this
 exact this
theorem join_calls {W : World} {g : Nat} {T : TypeId} {f0 f1 f2 f3 f4 f5 f6 : List UInt8} (h : W.heap[g]? = some (.cells #[Str f0, Str f1, Str f2, Str f3, Str f4, Str f5, Str f6] T)) (hl : (Lib.join [f0, f1, f2, f3, f4, f5, f6] [32]).length ≤ 140737488355328) :
  Calls Tryz.prog 54 #[.slice (some ⟨g, 0, none⟩) 7 7, .string ⟨#[32]⟩] W fun e w' => e = .returned (Str (Lib.join [f0, f1, f2, f3, f4, f5, f6] [32])) ∧ Below W.heap.size W w' := by
 refine Tryz.strings_Join g 0 7 [⟨f0.toArray⟩, ⟨f1.toArray⟩, ⟨f2.toArray⟩, ⟨f3.toArray⟩, ⟨f4.toArray⟩, ⟨f5.toArray⟩, ⟨f6.toArray⟩] ⟨#[32]⟩ W (fun j x hx => ?_) (blk_lt h) (by simp) (Nat.le_refl _) hl
 rw [Nat.zero_add]
 have hj : j < 7 := by have := (List.getElem?_eq_some_iff.1 hx).1; simpa using this
 obtain rfl | rfl | rfl | rfl | rfl | rfl | rfl : j = 0 ∨ j = 1 ∨ j = 2 ∨ j = 3 ∨ j = 4 ∨ j = 5 ∨ j = 6 := by omega
 all_goals (injection hx with hx; subst hx; exact blk_cell h _ _ rfl)
def GB (L : List (Nat × Nat × Obj)) (w0 : World) (k : Nat) (X : World) : Prop := GK L k X ∧ Below w0.heap.size w0 X
theorem GB.grow {L : List (Nat × Nat × Obj)} {w0 : World} : ∀ k (w X : World), GB L w0 k w → Below w.heap.size w X → GB L w0 k X := fun k w X h hb => ⟨GK.grow L k w X h.1 hb, below_go h.2 hb⟩
theorem GB.alloc {L : List (Nat × Nat × Obj)} {w0 : World} {k : Nat} {X : World} (h : GB L w0 k X) (o : Obj) : GB L w0 k (X.alloc o) := ⟨h.1.alloc o, Bal h.2 _⟩
theorem VF.len {n d : Int} (v : VF n d) : (textL n d).length ≤ 43 := by
 have h1 := Lib.itoa_length_le n (by have := v.n1; omega) (by have := v.n2; omega)
 have h2 := Lib.itoa_length_le d (by have := v.d1; omega) (by have := v.d2; omega)
 unfold textL
 split
 ·omega
 ·rw [List.length_append, List.length_cons]; omega
theorem lnL_len {r : Vr} (h : rowB r = true) : (lnL r).length ≤ 200 := by
 have hf := rowB_facts h
 obtain ⟨h0, h1, -, ⟨n1, d1, e1, v1, -⟩, ⟨n2, d2, e2, v2, -⟩, -⟩ := rowB_val h
 have a1 := v1.len
 have a2 := v2.len
 have b1 := Lib.itoa_length_le r.t (by omega) (by omega)
 have b2 := Lib.itoa_length_le r.c (by omega) (by omega)
 have b3 := Lib.itoa_length_le r.i (by omega) (by omega)
 have b4 := Lib.itoa_length_le r.j (by omega) (by omega)
 have b5 := Lib.itoa_length_le r.n (by omega) (by omega)
 unfold lnL lnF
 rw [e1, e2, Lib.join_length]
 simp [Lib.lens]
 omega
set_option maxRecDepth 100000 in
set_option maxHeartbeats 8000000 in
theorem lineOf_calls {r : Vr} (h : rowB r = true) (w : World) (g : GL w) : Calls Tryz.prog 28 #[Rwv r] w fun e w' => e = .returned (.tuple #[Str (lnL r ++ [10]), .int .i64 0]) ∧ Below w.heap.size w w' := by
 have NN := Lib.hid (Below.refl w.heap.size w)
 have GG := Lib.hid g
 have PC := Lib.hid (fun W => parts_calls h W)
 have hf := rowB_facts h
 obtain ⟨h0, h1, hc, ⟨n1, d1, e1, v1, -⟩, ⟨n2, d2, e2, v2, -⟩, -⟩ := rowB_val h
 have I1 := Lib.hid (fun W (g : GL W) => itoa_calls r.t W (by omega) (by omega) g)
 have I2 := Lib.hid (fun W (g : GL W) => itoa_calls r.c W (by omega) (by omega) g)
 have I3 := Lib.hid (fun W (g : GL W) => itoa_calls r.i W (by omega) (by omega) g)
 have I4 := Lib.hid (fun W (g : GL W) => itoa_calls r.j W (by omega) (by omega) g)
 have I5 := Lib.hid (fun W (g : GL W) => itoa_calls r.n W (by omega) (by omega) g)
 have T1 := Lib.hid (fun W (g : GL W) => text_ok v1 W g)
 have T2 := Lib.hid (fun W (g : GL W) => text_ok v2 W g)
 have LN := lnL_len h
 have EL : lnL r = Lib.join (lnF r) [32] := rfl
 unfold lnF at EL
 rw [e1, e2] at EL PC
 simp only at EL PC
 rw [EL] at LN ⊢
 have LN := Lib.hid LN
 clear g h hf h0 h1 hc e1 e2 v1 v2 EL
 generalize Lib.itoa r.t = f0 at *
 generalize Lib.itoa r.c = f1 at *
 generalize Lib.itoa r.i = f2 at *
 generalize Lib.itoa r.j = f3 at *
 generalize Lib.itoa r.n = f6 at *
 generalize textL n1 d1 = f4 at *
 generalize textL n2 d2 = f5 at *
 go_enter Tryz.func28, Tryz.ntmps28
 go_wp2_with fail
 have V : Hid ((w.alloc (.cells #[.int .i64 r.t, .int .i64 r.c, .int .i64 r.i, .int .i64 r.j, .int .i64 r.re, .int .i64 r.im, .int .i64 r.dn, .int .i64 r.n] 67)).heap[w.heap.size]? = some (.cells #[.int .i64 r.t, .int .i64 r.c, .int .i64 r.i, .int .i64 r.j, .int .i64 r.re, .int .i64 r.im, .int .i64 r.dn, .int .i64 r.n] 67)) := Lib.hid (blk_new w _)
 replace NN : Hid (Below w.heap.size w (w.alloc (.cells #[.int .i64 r.t, .int .i64 r.c, .int .i64 r.i, .int .i64 r.j, .int .i64 r.re, .int .i64 r.im, .int .i64 r.dn, .int .i64 r.n] 67))) := Lib.hid (Bal NN.out _)
 generalize (w.alloc (.cells #[.int .i64 r.t, .int .i64 r.c, .int .i64 r.i, .int .i64 r.j, .int .i64 r.re, .int .i64 r.im, .int .i64 r.dn, .int .i64 r.n] 67)) = W1 at *
 have c_V_0 := blk_cell V.out 0 _ rfl
 have f_V_0 := blk_frozen V.out 0
 have c_V_1 := blk_cell V.out 1 _ rfl
 have f_V_1 := blk_frozen V.out 1
 have c_V_2 := blk_cell V.out 2 _ rfl
 have f_V_2 := blk_frozen V.out 2
 have c_V_3 := blk_cell V.out 3 _ rfl
 have f_V_3 := blk_frozen V.out 3
 have c_V_4 := blk_cell V.out 4 _ rfl
 have f_V_4 := blk_frozen V.out 4
 have c_V_5 := blk_cell V.out 5 _ rfl
 have f_V_5 := blk_frozen V.out 5
 have c_V_6 := blk_cell V.out 6 _ rfl
 have f_V_6 := blk_frozen V.out 6
 have c_V_7 := blk_cell V.out 7 _ rfl
 have f_V_7 := blk_frozen V.out 7
 have l_V := blk_lt V.out
 go_wp2_with fail
 clear c_V_0 f_V_0 c_V_1 f_V_1 c_V_2 f_V_2 c_V_3 f_V_3 c_V_4 f_V_4 c_V_5 f_V_5 c_V_6 f_V_6 c_V_7 f_V_7 l_V
 replace GG := Lib.hid (GL.next GG.out NN.out)
 refine (PC.out _).mono ?_
 rintro e w2 ⟨rfl, hb⟩
 replace NN := Lib.hid (Bgo NN.out hb)
 replace GG := Lib.hid (GL.next GG.out hb)
 replace V := Lib.hid (blk_next hb V.out)
 clear hb
 go_upto_region 2 with fail
 have HB := Lib.hid (show Below w2.heap.size w2 ((w2.alloc (.cells #[.int .i64 n1, .int .i64 d1] 83)).alloc (.cells #[.int .i64 n2, .int .i64 d2] 83)) from (Bal (Bal (Below.refl _ _) _) _))
 have RE : Hid (((w2.alloc (.cells #[.int .i64 n1, .int .i64 d1] 83)).alloc (.cells #[.int .i64 n2, .int .i64 d2] 83)).heap[w2.heap.size]? = some (.cells #[.int .i64 n1, .int .i64 d1] 83)) := Lib.hid (blk_alloc (blk_new w2 _) _)
 have IM : Hid (((w2.alloc (.cells #[.int .i64 n1, .int .i64 d1] 83)).alloc (.cells #[.int .i64 n2, .int .i64 d2] 83)).heap[w2.heap.size + 1]? = some (.cells #[.int .i64 n2, .int .i64 d2] 83)) := Lib.hid (blk_at _ (by simp))
 have LT_RE : Hid (w.heap.size < w2.heap.size ∧ w.heap.size ≤ w2.heap.size) := Lib.hid ⟨blk_lt V.out, NN.out.size⟩
 replace NN := Lib.hid (Bgo NN.out HB.out)
 replace GG := Lib.hid (GL.next GG.out HB.out)
 replace V := Lib.hid (blk_next HB.out V.out)
 clear HB
 have c_RE_0 := blk_cell RE.out 0 _ rfl
 have f_RE_0 := blk_frozen RE.out 0
 have c_RE_1 := blk_cell RE.out 1 _ rfl
 have f_RE_1 := blk_frozen RE.out 1
 have l_RE := blk_lt RE.out
 go_wp2_with fail
 clear c_RE_0 f_RE_0 c_RE_1 f_RE_1 l_RE
 generalize ((w2.alloc (.cells #[.int .i64 n1, .int .i64 d1] 83)).alloc (.cells #[.int .i64 n2, .int .i64 d2] 83)) = W3 at *
 generalize w2.heap.size = gF at *
 refine (T1.out _ GG.out).mono ?_
 rintro e w4 ⟨rfl, hb⟩
 replace NN := Lib.hid (Bgo NN.out hb)
 replace GG := Lib.hid (GL.next GG.out hb)
 replace V := Lib.hid (blk_next hb V.out)
 replace RE := Lib.hid (blk_next hb RE.out)
 replace IM := Lib.hid (blk_next hb IM.out)
 clear hb
 have c_IM_0 := blk_cell IM.out 0 _ rfl
 have f_IM_0 := blk_frozen IM.out 0
 have c_IM_1 := blk_cell IM.out 1 _ rfl
 have f_IM_1 := blk_frozen IM.out 1
 have l_IM := blk_lt IM.out
 go_wp2_with fail
 clear c_IM_0 f_IM_0 c_IM_1 f_IM_1 l_IM
 refine (T2.out _ GG.out).mono ?_
 rintro e w5 ⟨rfl, hb⟩
 replace NN := Lib.hid (Bgo NN.out hb)
 replace GG := Lib.hid (GL.next GG.out hb)
 replace V := Lib.hid (blk_next hb V.out)
 replace RE := Lib.hid (blk_next hb RE.out)
 replace IM := Lib.hid (blk_next hb IM.out)
 clear hb
 go_upto_region 10 with fail
 clear RE IM
 have HDRW := Lib.hid (Below.drew (Below.refl w5.heap.size w5))
 replace NN := Lib.hid (Bgo NN.out HDRW.out)
 replace GG := Lib.hid (GL.next GG.out HDRW.out)
 replace V := Lib.hid (blk_next HDRW.out V.out)
 clear HDRW
 have HAL : Hid (∀ kx9 : Nat, GB [(1, w.heap.size, .cells #[.int .i64 r.t, .int .i64 r.c, .int .i64 r.i, .int .i64 r.j, .int .i64 r.re, .int .i64 r.im, .int .i64 r.dn, .int .i64 r.n] 67), (4, w.heap.size, .cells #[.int .i64 r.t, .int .i64 r.c, .int .i64 r.i, .int .i64 r.j, .int .i64 r.re, .int .i64 r.im, .int .i64 r.dn, .int .i64 r.n] 67), (8, w.heap.size, .cells #[.int .i64 r.t, .int .i64 r.c, .int .i64 r.i, .int .i64 r.j, .int .i64 r.re, .int .i64 r.im, .int .i64 r.dn, .int .i64 r.n] 67), (12, w.heap.size, .cells #[.int .i64 r.t, .int .i64 r.c, .int .i64 r.i, .int .i64 r.j, .int .i64 r.re, .int .i64 r.im, .int .i64 r.dn, .int .i64 r.n] 67), (18, w.heap.size, .cells #[.int .i64 r.t, .int .i64 r.c, .int .i64 r.i, .int .i64 r.j, .int .i64 r.re, .int .i64 r.im, .int .i64 r.dn, .int .i64 r.n] 67)] w5.drew kx9 w5.drew) := Lib.hid (fun kx9 => ⟨fun px9 hp e => by
  simp only [List.mem_cons, List.not_mem_nil, or_false] at hp
  rcases hp with rfl | rfl | rfl | rfl | rfl
  ·exact V.out
  ·exact V.out
  ·exact V.out
  ·exact V.out
  ·exact V.out
 , Below.refl _ _⟩)
 refine region_G (S := GB [(1, w.heap.size, .cells #[.int .i64 r.t, .int .i64 r.c, .int .i64 r.i, .int .i64 r.j, .int .i64 r.re, .int .i64 r.im, .int .i64 r.dn, .int .i64 r.n] 67), (4, w.heap.size, .cells #[.int .i64 r.t, .int .i64 r.c, .int .i64 r.i, .int .i64 r.j, .int .i64 r.re, .int .i64 r.im, .int .i64 r.dn, .int .i64 r.n] 67), (8, w.heap.size, .cells #[.int .i64 r.t, .int .i64 r.c, .int .i64 r.i, .int .i64 r.j, .int .i64 r.re, .int .i64 r.im, .int .i64 r.dn, .int .i64 r.n] 67), (12, w.heap.size, .cells #[.int .i64 r.t, .int .i64 r.c, .int .i64 r.i, .int .i64 r.j, .int .i64 r.re, .int .i64 r.im, .int .i64 r.dn, .int .i64 r.n] 67), (18, w.heap.size, .cells #[.int .i64 r.t, .int .i64 r.c, .int .i64 r.i, .int .i64 r.j, .int .i64 r.re, .int .i64 r.im, .int .i64 r.dn, .int .i64 r.n] 67)] w5.drew) (by kernel_rfl) ?_
 refine tG 0 (.pointer (some ⟨w.heap.size, 0, none⟩)) (some 36) GB.grow rfl (YieldsIf.toG (Or.inl ⟨by rfl, ?_⟩)) (HAL.out 0) ?_
 ·intro X hX
  clear hX
  go_simp
 try simp only [Act.put, zA, zB, zC]
 refine tG 1 (.int .i64 r.t) (some 37) GB.grow rfl (YieldsIf.toG (Or.inl ⟨by rfl, ?_⟩)) (HAL.out 1) ?_
 ·intro X hX
  have hh := hX.1 (1, w.heap.size, .cells #[.int .i64 r.t, .int .i64 r.c, .int .i64 r.i, .int .i64 r.j, .int .i64 r.re, .int .i64 r.im, .int .i64 r.dn, .int .i64 r.n] 67) (List.Mem.head _) rfl
  have hh0 := blk_cell hh 0 _ rfl
  have hhl := blk_lt hh
  clear hh
  clear hX
  go_simp
 try simp only [Act.put, zA, zB, zC]
 have CFn : ∀ (args : Array Value) (W : World), Sem.run Tryz.prog (callFunc 53 args) W = .ok (.enter 53 args) W := fun _ _ => by kernel_rfl
 refine tG 2 (Str f0) (some 38) GB.grow rfl (yieldsG_call 53 #[.int .i64 r.t] (by rfl) ?_ (fun X hS => I1.out X (GG.out.next hS.2))) (HAL.out 2) ?_
 ·intro X hX
  clear hX
  go_simp
 clear CFn
 try simp only [Act.put, zA, zB, zC]
 refine tG 3 (.pointer (some ⟨w.heap.size, 1, none⟩)) (some 39) GB.grow rfl (YieldsIf.toG (Or.inl ⟨by rfl, ?_⟩)) (HAL.out 3) ?_
 ·intro X hX
  clear hX
  go_simp
 try simp only [Act.put, zA, zB, zC]
 refine tG 4 (.int .i64 r.c) (some 40) GB.grow rfl (YieldsIf.toG (Or.inl ⟨by rfl, ?_⟩)) (HAL.out 4) ?_
 ·intro X hX
  have hh := hX.1 (4, w.heap.size, .cells #[.int .i64 r.t, .int .i64 r.c, .int .i64 r.i, .int .i64 r.j, .int .i64 r.re, .int .i64 r.im, .int .i64 r.dn, .int .i64 r.n] 67) (List.Mem.tail _ (List.Mem.head _)) rfl
  have hh0 := blk_cell hh 1 _ rfl
  have hhl := blk_lt hh
  clear hh
  clear hX
  go_simp
 try simp only [Act.put, zA, zB, zC]
 have CFn : ∀ (args : Array Value) (W : World), Sem.run Tryz.prog (callFunc 53 args) W = .ok (.enter 53 args) W := fun _ _ => by kernel_rfl
 refine tG 5 (Str f1) (some 41) GB.grow rfl (yieldsG_call 53 #[.int .i64 r.c] (by rfl) ?_ (fun X hS => I2.out X (GG.out.next hS.2))) (HAL.out 5) ?_
 ·intro X hX
  clear hX
  go_simp
 clear CFn
 try simp only [Act.put, zA, zB, zC]
 refine tG 6 (.pointer (some ⟨w.heap.size, 2, none⟩)) (some 42) GB.grow rfl (YieldsIf.toG (Or.inl ⟨by rfl, ?_⟩)) (HAL.out 6) ?_
 ·intro X hX
  clear hX
  go_simp
 try simp only [Act.put, zA, zB, zC]
 refine tG 7 (.pointer (some ⟨w.heap.size, 2, none⟩)) (some 43) GB.grow rfl (YieldsIf.toG (Or.inl ⟨by rfl, ?_⟩)) (HAL.out 7) ?_
 ·intro X hX
  clear hX
  go_simp
 try simp only [Act.put, zA, zB, zC]
 refine tG 8 (.int .i64 r.i) (some 44) GB.grow rfl (YieldsIf.toG (Or.inl ⟨by rfl, ?_⟩)) (HAL.out 8) ?_
 ·intro X hX
  have hh := hX.1 (8, w.heap.size, .cells #[.int .i64 r.t, .int .i64 r.c, .int .i64 r.i, .int .i64 r.j, .int .i64 r.re, .int .i64 r.im, .int .i64 r.dn, .int .i64 r.n] 67) (List.Mem.tail _ (List.Mem.tail _ (List.Mem.head _))) rfl
  have hh0 := blk_cell hh 2 _ rfl
  have hhl := blk_lt hh
  clear hh
  clear hX
  go_simp
 try simp only [Act.put, zA, zB, zC]
 have CFn : ∀ (args : Array Value) (W : World), Sem.run Tryz.prog (callFunc 53 args) W = .ok (.enter 53 args) W := fun _ _ => by kernel_rfl
 refine tG 9 (Str f2) (some 45) GB.grow rfl (yieldsG_call 53 #[.int .i64 r.i] (by rfl) ?_ (fun X hS => I3.out X (GG.out.next hS.2))) (HAL.out 9) ?_
 ·intro X hX
  clear hX
  go_simp
 clear CFn
 try simp only [Act.put, zA, zB, zC]
 refine tG 10 (.pointer (some ⟨w.heap.size, 2, none⟩)) (some 46) GB.grow rfl (YieldsIf.toG (Or.inl ⟨by rfl, ?_⟩)) (HAL.out 10) ?_
 ·intro X hX
  clear hX
  go_simp
 try simp only [Act.put, zA, zB, zC]
 refine tG 11 (.pointer (some ⟨w.heap.size, 3, none⟩)) (some 47) GB.grow rfl (YieldsIf.toG (Or.inl ⟨by rfl, ?_⟩)) (HAL.out 11) ?_
 ·intro X hX
  clear hX
  go_simp
 try simp only [Act.put, zA, zB, zC]
 refine tG 12 (.int .i64 r.j) (some 48) GB.grow rfl (YieldsIf.toG (Or.inl ⟨by rfl, ?_⟩)) (HAL.out 12) ?_
 ·intro X hX
  have hh := hX.1 (12, w.heap.size, .cells #[.int .i64 r.t, .int .i64 r.c, .int .i64 r.i, .int .i64 r.j, .int .i64 r.re, .int .i64 r.im, .int .i64 r.dn, .int .i64 r.n] 67) (List.Mem.tail _ (List.Mem.tail _ (List.Mem.tail _ (List.Mem.head _)))) rfl
  have hh0 := blk_cell hh 3 _ rfl
  have hhl := blk_lt hh
  clear hh
  clear hX
  go_simp
 try simp only [Act.put, zA, zB, zC]
 have CFn : ∀ (args : Array Value) (W : World), Sem.run Tryz.prog (callFunc 53 args) W = .ok (.enter 53 args) W := fun _ _ => by kernel_rfl
 refine tG 13 (Str f3) (some 49) GB.grow rfl (yieldsG_call 53 #[.int .i64 r.j] (by rfl) ?_ (fun X hS => I4.out X (GG.out.next hS.2))) (HAL.out 13) ?_
 ·intro X hX
  clear hX
  go_simp
 clear CFn
 try simp only [Act.put, zA, zB, zC]
 refine tG 14 (Str f4) (some 50) GB.grow rfl (YieldsIf.toG (Or.inl ⟨by rfl, ?_⟩)) (HAL.out 14) ?_
 ·intro X hX
  clear hX
  go_simp
 try simp only [Act.put, zA, zB, zC]
 refine tG 15 (Str f5) (some 51) GB.grow rfl (YieldsIf.toG (Or.inl ⟨by rfl, ?_⟩)) (HAL.out 15) ?_
 ·intro X hX
  clear hX
  go_simp
 try simp only [Act.put, zA, zB, zC]
 refine tG 16 (.pointer (some ⟨w.heap.size, 2, none⟩)) (some 52) GB.grow rfl (YieldsIf.toG (Or.inl ⟨by rfl, ?_⟩)) (HAL.out 16) ?_
 ·intro X hX
  clear hX
  go_simp
 try simp only [Act.put, zA, zB, zC]
 refine tG 17 (.pointer (some ⟨w.heap.size, 7, none⟩)) (some 53) GB.grow rfl (YieldsIf.toG (Or.inl ⟨by rfl, ?_⟩)) (HAL.out 17) ?_
 ·intro X hX
  clear hX
  go_simp
 try simp only [Act.put, zA, zB, zC]
 refine tG 18 (.int .i64 r.n) (some 54) GB.grow rfl (YieldsIf.toG (Or.inl ⟨by rfl, ?_⟩)) (HAL.out 18) ?_
 ·intro X hX
  have hh := hX.1 (18, w.heap.size, .cells #[.int .i64 r.t, .int .i64 r.c, .int .i64 r.i, .int .i64 r.j, .int .i64 r.re, .int .i64 r.im, .int .i64 r.dn, .int .i64 r.n] 67) (List.Mem.tail _ (List.Mem.tail _ (List.Mem.tail _ (List.Mem.tail _ (List.Mem.head _))))) rfl
  have hh0 := blk_cell hh 7 _ rfl
  have hhl := blk_lt hh
  clear hh
  clear hX
  go_simp
 try simp only [Act.put, zA, zB, zC]
 have CFn : ∀ (args : Array Value) (W : World), Sem.run Tryz.prog (callFunc 53 args) W = .ok (.enter 53 args) W := fun _ _ => by kernel_rfl
 refine tG 19 (Str f6) (some 55) GB.grow rfl (yieldsG_call 53 #[.int .i64 r.n] (by rfl) ?_ (fun X hS => I5.out X (GG.out.next hS.2))) (HAL.out 19) ?_
 ·intro X hX
  clear hX
  go_simp
 clear CFn
 try simp only [Act.put, zA, zB, zC]
 refine only_G 20 (by kernel_rfl) rfl (fun X6 hX K' hK' => ?_)
 replace NN := Lib.hid (Bgo NN.out hX)
 replace GG := Lib.hid (GL.next GG.out hX)
 replace V := Lib.hid (blk_next hX V.out)
 replace HAL := Lib.hid (fun kx9 => GB.grow _ _ _ (HAL.out kx9) hX)
 clear hX
 go_simp
 refine hK'.out _ _ (fun _ _ h => h.alloc _) ?_
 clear hK' K'
 try simp only [Act.put, zA, zB, zC]
 have HB := Lib.hid (Bal (Below.refl X6.heap.size X6) (.cells #[Str f0, Str f1, Str f2, Str f3, Str f4, Str f5, Str f6] 9))
 have SL : Hid ((X6.alloc (.cells #[Str f0, Str f1, Str f2, Str f3, Str f4, Str f5, Str f6] 9)).heap[X6.heap.size]? = some (.cells #[Str f0, Str f1, Str f2, Str f3, Str f4, Str f5, Str f6] 9)) := Lib.hid (blk_new X6 (.cells #[Str f0, Str f1, Str f2, Str f3, Str f4, Str f5, Str f6] 9))
 replace NN := Lib.hid (Bgo NN.out HB.out)
 replace GG := Lib.hid (GL.next GG.out HB.out)
 replace V := Lib.hid (blk_next HB.out V.out)
 replace HAL := Lib.hid (fun kx9 => GB.grow _ _ _ (HAL.out kx9) HB.out)
 clear HB
 generalize X6.alloc (.cells #[Str f0, Str f1, Str f2, Str f3, Str f4, Str f5, Str f6] 9) = W7 at *
 generalize X6.heap.size = gSL at *
 refine tG 21 (.slice (some ⟨gSL, 0, none⟩) 7 7) (some 9) GB.grow rfl (YieldsIf.toG (Or.inl ⟨by rfl, ?_⟩)) (HAL.out 21) ?_
 ·intro X hX
  clear hX
  go_simp
 try simp only [Act.put, zA, zB, zC]
 clear HAL
 refine done_G (by kernel_rfl) (fun X8 hX => ?_) _
 replace NN := Lib.hid (Bgo NN.out hX)
 replace GG := Lib.hid (GL.next GG.out hX)
 replace V := Lib.hid (blk_next hX V.out)
 replace SL := Lib.hid (blk_next hX SL.out)
 clear hX
 go_wp2_with fail
 refine (join_calls SL.out (Nat.le_trans LN.out (by decide))).mono ?_
 rintro e w9 ⟨rfl, hb⟩
 replace NN := Lib.hid (Bgo NN.out hb)
 replace GG := Lib.hid (GL.next GG.out hb)
 replace V := Lib.hid (blk_next hb V.out)
 replace SL := Lib.hid (blk_next hb SL.out)
 clear hb
 go_wp2_with fail
 exact bodyPost_ret (v := .tuple #[.string ((⟨(Lib.join [f0, f1, f2, f3, f4, f5, f6] [32]).toArray⟩ : ByteArray) ++ ⟨#[10]⟩), .int .i64 0]) (by simp [results, Tryz.results28, go_sem]) rfl ⟨by rw [show (⟨#[10]⟩ : ByteArray) = ⟨[10].toArray⟩ from rfl, cat2], NN.out⟩
end Go.Proofs.YtbbnkclajpaghaaGreatDoor
namespace Go.Proofs.YtbbnkclajpaghaaGreatDoor
open Go.ChangeShapes Go.WideShapes Go.ChangeAt Go.RowKit
set_option linter.unusedVariables false
set_option linter.unusedSimpArgs false
attribute [local go_sem ↓] Go.wp_at_zero Go.wp_at_succ
theorem enc_digit {d : Nat} (h : d < 10) : Utf8.encode (48 + (d : Int)) = ⟨[UInt8.ofNat (48 + d)].toArray⟩ := by
 obtain rfl | rfl | rfl | rfl | rfl | rfl | rfl | rfl | rfl | rfl : d = 0 ∨ d = 1 ∨ d = 2 ∨ d = 3 ∨ d = 4 ∨ d = 5 ∨ d = 6 ∨ d = 7 ∨ d = 8 ∨ d = 9 := by omega
 all_goals kernel_rfl
set_option maxRecDepth 100000 in
set_option maxHeartbeats 8000000 in
theorem decimal_nn : ∀ (f : Nat) (u : Nat) (w : World), u < f → u ≤ 1000000000 → Calls Tryz.prog 59 #[.int .i64 (u : Int)] w fun e w' => e = .returned (Str (Lib.decDigits u)) ∧ Below w.heap.size w w'
 | 0, _, _, h, _ => absurd h (Nat.not_lt_zero _)
 | f + 1, u, w, h, hm => by
  have NN := Lib.hid (Below.refl w.heap.size w)
  by_cases h10 : u < 10
  ·have d1 : decide ((u : Int) < 10) = true := decide_eq_true (by omega)
   have hu : (u : Int) < 10 := by omega
   have EN := Lib.hid (enc_digit h10)
   rw [Lib.decDigits_one h10]
   go_enter Tryz.func59, Tryz.ntmps59
   go_wp2_with fail
   have e9 : (⟨#[UInt8.ofNat (48 + u)]⟩ : ByteArray) = ⟨[UInt8.ofNat (48 + u)].toArray⟩ := by simp only [List.toArray]
   generalize UInt8.ofNat (48 + u) = b at *
   refine bodyPost_ret (v := .string (Utf8.encode (48 + (u : Int)))) (by simp [results, Tryz.results59, go_sem]) rfl ⟨by rw [EN.out], NN.out⟩
  ·have d1 : decide ((u : Int) < 10) = false := decide_eq_false (by omega)
   have EN := Lib.hid (enc_digit (Nat.mod_lt u (show 0 < 10 by decide)))
   have C := Lib.hid (fun W => decimal_nn f (u / 10) W (by omega) (by omega))
   have L1 := decl_len 9 (u / 10) (by omega)
   have e1 : Lib.decDigits u = Lib.decDigits (u / 10) ++ [UInt8.ofNat (48 + u % 10)] := by rw [Lib.decDigits, dif_neg h10]
   rw [e1]
   have q1 : (u : Int).tdiv 10 = ((u / 10 : Nat) : Int) := by rw [Int.tdiv_eq_ediv_of_nonneg (by omega)]; omega
   have q2 : (u : Int).tmod 10 = ((u % 10 : Nat) : Int) := by rw [Int.tmod_eq_emod_of_nonneg (by omega)]; omega
   have m10 : u % 10 < 10 := Nat.mod_lt u (by decide)
   clear e1
   generalize Lib.decDigits (u / 10) = D at *
   have wv : wrap64 ((u / 10 : Nat) : Int) = ((u / 10 : Nat) : Int) := IntWalk.wrap64_in _ ⟨by omega, by omega⟩
   generalize UInt8.ofNat (48 + u % 10) = b at *
   generalize u % 10 = m at *
   generalize u / 10 = v at *
   go_enter Tryz.func59, Tryz.ntmps59
   go_wp2_with fail
   refine (C.out _).mono ?_
   rintro e w1 ⟨rfl, hb⟩
   replace NN := Lib.hid (Bgo NN.out hb)
   clear hb
   have en := EN.out
   have lb : ([b] : List UInt8).length = 1 := rfl
   go_wp2_with fail
   clear en
   refine bodyPost_ret (v := .string ((⟨D.toArray⟩ : ByteArray) ++ ⟨#[b]⟩)) (by simp [results, Tryz.results59, go_sem]) rfl ⟨by rw [show (⟨#[b]⟩ : ByteArray) = ⟨[b].toArray⟩ from rfl, cat2], NN.out⟩
theorem decimal_calls (n : Int) (w : World) (h0 : 0 ≤ n) (h1 : n ≤ 1000000000) : Calls Tryz.prog 59 #[.int .i64 n] w fun e w' => e = .returned (Str (Lib.itoa n)) ∧ Below w.heap.size w w' := by
 obtain ⟨u, rfl⟩ := Int.eq_ofNat_of_zero_le h0
 rw [Lib.itoa_nonneg]
 exact decimal_nn (u + 1) u w (by omega) (by omega)
end Go.Proofs.YtbbnkclajpaghaaGreatDoor
namespace Go.Proofs.YtbbnkclajpaghaaGreatDoor
set_option linter.unusedVariables false
def numL : List UInt8 → Nat → Option Nat
 | [], n => some n
 | c :: r, n => if c.toNat < 48 ∨ 57 < c.toNat ∨ 100000000000000000 < n then none else numL r (10 * n + (c.toNat - 48))
theorem num_spell : ∀ (l : List UInt8) (acc : Nat), (∀ c ∈ l, 48 ≤ c.toNat ∧ c.toNat ≤ 57) → spell acc l ≤ 1000000000000000000 → numL l acc = some (spell acc l)
 | [], acc, _, _ => rfl
 | c :: l, acc, hd, hs => by
  have h1 := hd c (by simp)
  rw [spell_cons] at hs ⊢
  have h2 := spell_ge l (acc * 10 + (c.toNat - 48))
  unfold numL
  rw [if_neg (by omega), Nat.mul_comm 10 acc]
  exact num_spell l _ (fun x hx => hd x (by simp [hx])) hs
theorem num_dec {u : Nat} (h : u ≤ 1000000000000000000) : numL (Lib.decDigits u) 0 = some u := by
 have hs := spell_dec (u + 1) u (by omega)
 rw [num_spell _ _ (dec_digit (u + 1) u (by omega)) (by rw [hs]; omega), hs]
def negL (l : List UInt8) : Bool := match l with | c :: _ => c.toNat == 45 | [] => false
def bodyL (l : List UInt8) : List UInt8 := if negL l then l.tail else l
theorem itoa_neg' {n : Int} (h : n < 0) : Lib.itoa n = 45 :: Lib.decDigits n.natAbs := by unfold Lib.itoa; rw [if_pos h]
theorem itoa_pos' {n : Int} (h : ¬ n < 0) : Lib.itoa n = Lib.decDigits n.toNat := by unfold Lib.itoa; rw [if_neg h]
theorem negL_itoa (n : Int) : negL (Lib.itoa n) = decide (n < 0) := by
 by_cases h : n < 0
 ·rw [itoa_neg' h, decide_eq_true h]; rfl
 ·rw [itoa_pos' h, decide_eq_false h]
  have dg := dec_digit (n.toNat + 1) n.toNat (by omega)
  cases hl : Lib.decDigits n.toNat with
  | nil => rfl
  | cons c r =>
   rw [hl] at dg
   have := dg c (by simp)
   unfold negL
   rw [beq_eq_false_iff_ne]
   omega
theorem bodyL_itoa (n : Int) : bodyL (Lib.itoa n) = Lib.decDigits n.natAbs := by
 unfold bodyL
 rw [negL_itoa]
 by_cases h : n < 0
 ·rw [decide_eq_true h, itoa_neg' h]; rfl
 ·rw [decide_eq_false h, itoa_pos' h]
  simp only [Bool.false_eq_true, if_false]
  congr 1
  omega
theorem dec_len : ∀ (k u : Nat), u < 10 ^ (k + 1) → (Lib.decDigits u).length ≤ k + 1 := by
 intro k
 induction k with
 | zero => intro u hu; rw [dec_small (by simpa using hu)]; simp
 | succ k ih =>
  intro u hu
  by_cases h : u < 10
  ·rw [dec_small h]; simp
  ·rw [dec_big h, List.length_append]
   have := ih (u / 10) (by rw [Nat.pow_succ] at hu; omega)
   simp; omega
theorem itoa_len {n : Int} (h1 : -1000000000000000000 ≤ n) (h2 : n ≤ 1000000000000000000) : 0 < (Lib.itoa n).length ∧ (Lib.itoa n).length ≤ 20 := by
 by_cases h : n < 0
 ·rw [itoa_neg' h]
  have := dec_len 18 n.natAbs (by omega)
  simp; omega
 ·rw [itoa_pos' h]
  have := dec_len 18 n.toNat (by omega)
  have := List.length_pos_iff.2 (dec_ne n.toNat)
  omega
def NR (l : List UInt8) (v : Int) (b : Bool) : Prop :=
 (b = true ∧ -1000000000000000000 ≤ v ∧ v ≤ 1000000000000000000 ∧ Lib.itoa v = l) ∨ (b = false ∧ ∀ n, -1000000000000000000 ≤ n → n ≤ 1000000000000000000 → Lib.itoa n ≠ l)
theorem NR.long {l : List UInt8} (h : l.length = 0 ∨ 20 < l.length) (v : Int) : NR l v false := .inr ⟨rfl, fun n h1 h2 e => by have := itoa_len h1 h2; rw [e] at this; omega⟩
theorem NR.odd {l : List UInt8} (h : numL (bodyL l) 0 = none) (v : Int) : NR l v false := .inr ⟨rfl, fun n h1 h2 e => by
 rw [← e, bodyL_itoa, num_dec (by omega)] at h; cases h⟩
def sgn (b : Bool) (m : Nat) : Int := if b then -(m : Int) else m
theorem NR.val {l : List UInt8} {m : Nat} (h : numL (bodyL l) 0 = some m) : NR l (sgn (negL l) m) (decide (-1000000000000000000 ≤ sgn (negL l) m) && (decide (sgn (negL l) m ≤ 1000000000000000000) && (Lib.itoa (sgn (negL l) m) == l))) := by
 by_cases c1 : -1000000000000000000 ≤ sgn (negL l) m
 rotate_left
 ·rw [decide_eq_false c1]
  refine .inr ⟨rfl, fun n h1 h2 e => ?_⟩
  rw [← e, bodyL_itoa, num_dec (by omega)] at h
  cases h
  rw [← e, negL_itoa] at c1
  unfold sgn at c1
  split at c1 <;> omega
 by_cases c2 : sgn (negL l) m ≤ 1000000000000000000
 rotate_left
 ·rw [decide_eq_true c1, decide_eq_false c2]
  refine .inr ⟨rfl, fun n h1 h2 e => ?_⟩
  rw [← e, bodyL_itoa, num_dec (by omega)] at h
  cases h
  rw [← e, negL_itoa] at c2
  unfold sgn at c2
  split at c2 <;> omega
 rw [decide_eq_true c1, decide_eq_true c2]
 by_cases c3 : Lib.itoa (sgn (negL l) m) = l
 ·exact .inl ⟨by rw [Bool.true_and, Bool.true_and, beq_iff_eq]; exact c3, c1, c2, c3⟩
 ·refine .inr ⟨by rw [Bool.true_and, Bool.true_and, beq_eq_false_iff_ne]; exact c3, fun n h1 h2 e => ?_⟩
  have h' := h
  rw [← e, bodyL_itoa, num_dec (by omega)] at h'
  cases h'
  apply c3
  rw [← e]
  congr 1
  rw [negL_itoa]
  unfold sgn
  by_cases hn : n < 0
  ·rw [decide_eq_true hn]; simp; omega
  ·rw [decide_eq_false hn]; simp; omega
theorem cut_split (l : List UInt8) (k : Nat) (h : ∀ (j : Nat) (c : UInt8), j < k → l[j]? = some c → c.toNat ≠ 47) (hk : k < l.length → ∃ c, l[k]? = some c ∧ c.toNat = 47) (hl : k ≤ l.length) :
  Lib.cut l [47] = (l.take k, l.drop (k + 1), decide (k < l.length)) := by
 have no : ∀ x ∈ l.take k, x ≠ 47 := fun x hx e => by
  obtain ⟨j, hj, rfl⟩ := List.mem_iff_getElem.1 hx
  have hj' : j < k := by rw [List.length_take] at hj; omega
  rw [List.getElem_take] at e
  exact h j l[j] hj' (List.getElem?_eq_getElem (by omega)) (by rw [e]; rfl)
 by_cases c : k < l.length
 ·obtain ⟨b, hb, b47⟩ := hk c
  have e : l = l.take k ++ 47 :: l.drop (k + 1) := by
   have hb' : b = 47 := UInt8.toNat_inj.1 b47
   subst hb'
   obtain ⟨h1, h2⟩ := List.getElem?_eq_some_iff.1 hb
   have := List.drop_eq_getElem_cons h1
   rw [h2] at this
   rw [← this, List.take_append_drop]
  have := cut_at (l := l.take k) (r := l.drop (k + 1)) no
  rw [← e] at this
  rw [this, decide_eq_true c]
 ·have e : k = l.length := by omega
  subst e
  rw [List.take_length] at no ⊢
  rw [cut_none no, List.drop_eq_nil_of_le (by omega), decide_eq_false c]
theorem PR.cut0 {l l1 l2 : List UInt8} {n : Int} {b : Bool} (hc : Lib.cut l [47] = (l1, l2, false)) (h1 : NR l1 n b) (hl : l1 = l) : PR l (if b = true ∧ errF n 1 = 0 then (n, 1, 0) else (0, 0, 12)) := by
 subst hl
 by_cases h : b = true ∧ errF n 1 = 0
 ·rw [if_pos h]
  refine .inl ⟨rfl, errF_ok h.2, ?_⟩
  rcases h1 with ⟨_, _, _, e⟩ | ⟨e, _⟩
  ·unfold textL; rw [if_pos rfl]; exact e
  ·rw [e] at h; exact absurd h.1 (by decide)
 ·rw [if_neg h]
  refine .inr ⟨rfl, fun m d v e => h ?_⟩
  rw [← e, cut_text] at hc
  simp only [Prod.mk.injEq, Bool.not_eq_false', decide_eq_true_eq] at hc
  obtain ⟨e1, _, rfl⟩ := hc
  have im : Lib.itoa m = l1 := e1.trans e
  rcases h1 with ⟨hb, _, _, e2⟩ | ⟨_, e2⟩
  ·have vm := parseI_itoa (n := m) (by have := v.n1; omega) (by have := v.n2; omega)
   have vn := parseI_itoa (n := n) (by omega) (by omega)
   rw [im, ← e2, vn] at vm
   cases vm
   exact ⟨hb, v.err⟩
  ·exact absurd im (e2 m v.n1 v.n2)
theorem PR.cut1 {l l1 l2 : List UInt8} {n d : Int} {b b' : Bool} (hc : Lib.cut l [47] = (l1, l2, true)) (h1 : NR l1 n b) (h2 : NR l2 d b') (hl : l1 ++ 47 :: l2 = l) : PR l (if (b = true ∧ b' = true ∧ 1 < d) ∧ errF n d = 0 then (n, d, 0) else (0, 0, 12)) := by
 by_cases h : (b = true ∧ b' = true ∧ 1 < d) ∧ errF n d = 0
 ·rw [if_pos h]
  refine .inl ⟨rfl, errF_ok h.2, ?_⟩
  rcases h1 with ⟨_, _, _, e⟩ | ⟨e, _⟩
  ·rcases h2 with ⟨_, _, _, e'⟩ | ⟨e', _⟩
   ·have hd := h.1.2.2
    unfold textL; rw [if_neg (show ¬ d = 1 by omega)]; rw [e, e', hl]
   ·rw [e'] at h; exact absurd h.1.2.1 (by decide)
  ·rw [e] at h; exact absurd h.1.1 (by decide)
 ·rw [if_neg h]
  refine .inr ⟨rfl, fun m k v e => h ?_⟩
  rw [← e, cut_text] at hc
  simp only [Prod.mk.injEq, Bool.not_eq_true', decide_eq_false_iff_not] at hc
  obtain ⟨e1, e2, hk⟩ := hc
  rw [if_neg hk] at e2
  have d1 := v.d1
  rcases h1 with ⟨hb, _, _, f1⟩ | ⟨_, f1⟩
  ·rcases h2 with ⟨hb', _, _, f2⟩ | ⟨_, f2⟩
   ·have vm := parseI_itoa (n := m) (by have := v.n1; omega) (by have := v.n2; omega)
    have vn := parseI_itoa (n := n) (by omega) (by omega)
    have vk := parseI_itoa (n := k) (by omega) (by have := v.d2; omega)
    have vd := parseI_itoa (n := d) (by omega) (by omega)
    rw [e1, ← f1, vn] at vm
    rw [e2, ← f2, vd] at vk
    cases vm; cases vk
    exact ⟨⟨hb, hb', by omega⟩, v.err⟩
   ·exact absurd e2 (f2 k (by omega) v.d2)
  ·exact absurd e1 (f1 m v.n1 v.n2)
end Go.Proofs.YtbbnkclajpaghaaGreatDoor
namespace Go.Proofs.YtbbnkclajpaghaaGreatDoor
open Go.ChangeShapes Go.WideShapes Go.ChangeAt Go.RowKit
set_option linter.unusedVariables false
attribute [local go_sem ↓] Go.wp_at_zero Go.wp_at_succ
section
variable {P : Program} {ops : Array Oper} {Q : Exit → Act → World → Prop} {md : Region.Mode} {S : Nat → World → Prop}
theorem both_I {oi oj : Oper} {f : Nat} {done : Array Bool} {a : Act} {w : World} (i j : Nat) (hr : Region.ready md ops done = [i, j]) (hi : ops[i]? = some oi) (hj : ops[j]? = some oj)
  (h1 : ∀ K' : Act → World → Prop, Shut (∀ a' w', (∀ k, Region.waitsFor md ops i k = false → S k w → S k w') → wpAnyI P md ops Q S f (done.setIfInBounds i true) a' w' → K' a' w') → if Region.wanted oi (yielded ops a.tmps) = true then Oper.wp P oi a w K' Q else K' (a.put oi.dst undef) w)
  (h2 : ∀ K' : Act → World → Prop, Shut (∀ a' w', (∀ k, Region.waitsFor md ops j k = false → S k w → S k w') → wpAnyI P md ops Q S f (done.setIfInBounds j true) a' w' → K' a' w') → if Region.wanted oj (yielded ops a.tmps) = true then Oper.wp P oj a w K' Q else K' (a.put oj.dst undef) w) :
  wpAnyI P md ops Q S (f + 1) done a w :=
 ⟨fun h0 => (by rw [hr] at h0; cases h0), fun x hx => by
  rw [hr] at hx
  simp only [List.mem_cons, List.not_mem_nil, or_false] at hx
  rcases hx with rfl | rfl
  ·exact wpOp_step hi (fun K' hK => h1 K' (fun a' w' h1 h2 => hK a' w' ⟨h1, h2⟩))
  ·exact wpOp_step hj (fun K' hK => h2 K' (fun a' w' h1 h2 => hK a' w' ⟨h1, h2⟩))⟩
end
theorem conv_one (W : World) (g : Nat) (x : Int) (h0 : 0 ≤ x) (hx : x < 256) (h : W.cell? ⟨g, 0, none⟩ = some (.int .u8 x)) : (convert 61 9 (.slice (some ⟨g, 0, none⟩) 1 1)).run Tryz.prog W = .ok (Str [UInt8.ofNat x.toNat]) W := by
 have := run_convert_bytes_back (P := Tryz.prog) W 61 9 5 ⟨g, 0, none⟩ 1 [UInt8.ofNat x.toNat] Tryz.underlying61 Tryz.underlying5 Tryz.underlying9 (fun j hj => by
  have : j = 0 := by simpa using hj
  subst this
  simp only [List.getElem_cons_zero, UInt8.toNat_ofNat', Nat.reducePow, Nat.mod_eq_of_lt (show x.toNat < 256 by omega), show ((x.toNat : Nat) : Int) = x by omega]
  exact h)
 exact this
theorem cat_str (a b : List UInt8) : (⟨a.toArray⟩ : ByteArray) ++ ⟨b.toArray⟩ = ⟨(a ++ b).toArray⟩ := cat2 a b
set_option maxRecDepth 100000 in
set_option maxHeartbeats 4000000 in
theorem dec_nn (k : Nat) : ∀ (n : Int) (w : World), 0 ≤ n → n < k → n ≤ 9223372036854775807 →
  Calls Tryz.prog 84 #[.int .i64 n] w fun e w' => e = .returned (Str (Lib.decDigits n.toNat)) ∧ Below w.heap.size w w' := by
 induction k with
 | zero => intro n w h0 h1; omega
 | succ k ih =>
  intro n w h0 h1 h2
  by_cases hs : n < 10
  ·have F : Lib.decDigits n.toNat = [UInt8.ofNat (48 + n).toNat] := by rw [show (48 + n).toNat = 48 + n.toNat by omega]; exact dec_small (by omega)
   have NN := Lib.hid (Bal (Below.refl w.heap.size w) (.cells #[.int .u8 (48 + n)] 5))
   have CV := conv_one (w.alloc (.cells #[.int .u8 (48 + n)] 5)) w.heap.size (48 + n) (by omega) (by omega) (blk_cell (blk_new w _) 0 _ rfl)
   rw [← F] at CV
   generalize Lib.decDigits n.toNat = D at *
   clear F
   go_enter Tryz.func84, Tryz.ntmps84
   go_wp2_with fail
   go_ret
   exact ⟨rfl, NN.out⟩
  ·have F : Lib.decDigits n.toNat = Lib.decDigits (n / 10).toNat ++ [UInt8.ofNat (48 + n % 10).toNat] := by
    rw [show (48 + n % 10).toNat = 48 + n.toNat % 10 by omega, show (n / 10).toNat = n.toNat / 10 by omega]; exact dec_big (by omega)
   have q1 : 0 ≤ n / 10 := by omega
   have q2 : n / 10 ≤ 9223372036854775807 := by omega
   have r1 : 0 ≤ n % 10 := by omega
   have r2 : n % 10 < 10 := by omega
   have T : n.tdiv 10 = n / 10 := Int.tdiv_eq_ediv_of_nonneg h0
   have R : n.tmod 10 = n % 10 := Int.tmod_eq_emod_of_nonneg h0
   have C := Lib.hid (fun W => ih (n / 10) W q1 (by omega) q2)
   have CV := Lib.hid (fun W g h => conv_one W g (48 + n % 10) (by omega) (by omega) h)
   have W8 : IntKind.u8.wrap (48 + n % 10) = 48 + n % 10 := IntWalk.u8_in _ (by omega)
   have WQ : IntKind.i64.wrap (n / 10) = n / 10 := IntWalk.i64_in _ (by omega)
   have WR : IntKind.i64.wrap (48 + n % 10) = 48 + n % 10 := IntWalk.i64_in _ (by omega)
   have L1 := dec_len 18 (n / 10).toNat (by omega)
   have LL : ¬ 9223372036854775807 < (Lib.decDigits (n / 10).toNat).length + [UInt8.ofNat (48 + n % 10).toNat].length := by
    have : [UInt8.ofNat (48 + n % 10).toNat].length = 1 := rfl
    omega
   clear L1
   generalize [UInt8.ofNat (48 + n % 10).toNat] = D2 at *
   generalize Lib.decDigits (n / 10).toNat = D1 at *
   generalize Lib.decDigits n.toNat = D at *
   generalize n / 10 = q at *
   generalize n % 10 = r at *
   have HF := Lib.hid F
   have k1 : ¬ n < 0 := by omega
   clear F ih h1
   go_enter Tryz.func84, Tryz.ntmps84
   go_wp2_with fail
   refine region_I (S := fun _ _ => True) (by kernel_rfl) ?_
   refine take_I 0 (.int .i64 n) (some 16) rfl (by kernel_rfl) (by kernel_rfl) (by kernel_rfl) rfl (fun _ _ _ h => h) (Or.inl ⟨by rfl, ?_⟩) trivial ?_
   ·intro X hX
    clear hX
    go_simp
   try simp only [Act.put, zA, zB, zC]
   refine take_I 1 (.int .i64 q) (some 17) rfl (by kernel_rfl) (by kernel_rfl) (by kernel_rfl) rfl (fun _ _ _ h => h) (Or.inl ⟨by rfl, ?_⟩) trivial ?_
   ·intro X hX
    clear hX
    go_simp
   try simp only [Act.put, zA, zB, zC]
   refine take_I 3 (.int .i64 n) (some 19) rfl (by kernel_rfl) (by kernel_rfl) (by kernel_rfl) rfl (fun _ _ _ h => h) (Or.inl ⟨by rfl, ?_⟩) trivial ?_
   ·intro X hX
    clear hX
    go_simp
   try simp only [Act.put, zA, zB, zC]
   refine take_I 4 (.int .i64 r) (some 20) rfl (by kernel_rfl) (by kernel_rfl) (by kernel_rfl) rfl (fun _ _ _ h => h) (Or.inl ⟨by rfl, ?_⟩) trivial ?_
   ·intro X hX
    clear hX
    go_simp
   try simp only [Act.put, zA, zB, zC]
   refine take_I 5 (.int .i64 (48 + r)) (some 21) rfl (by kernel_rfl) (by kernel_rfl) (by kernel_rfl) rfl (fun _ _ _ h => h) (Or.inl ⟨by rfl, ?_⟩) trivial ?_
   ·intro X hX
    clear hX
    go_simp
   try simp only [Act.put, zA, zB, zC]
   refine take_I 6 (.int .u8 (48 + r)) (some 22) rfl (by kernel_rfl) (by kernel_rfl) (by kernel_rfl) rfl (fun _ _ _ h => h) (Or.inl ⟨by rfl, ?_⟩) trivial ?_
   ·intro X hX
    clear hX
    go_simp
   try simp only [Act.put, zA, zB, zC]
   refine both_I 2 7 (by kernel_rfl) rfl rfl (fun K' hK' => ?_) (fun K' hK' => ?_)
   ·have z := 0
    go_simp
    go_at_call 84
    refine (C.out _).mono ?_
    rintro e w1 ⟨rfl, hb⟩
    have NN := Lib.hid (Bgo (Below.drew (Below.refl w.heap.size w)) hb)
    clear hb
    go_simp
    refine hK'.out _ _ (fun _ _ _ => trivial) ?_
    clear hK' K'
    try simp only [Act.put, zA, zB, zC]
    refine only_I 7 (by kernel_rfl) rfl (fun K' hK' => ?_)
    go_simp
    refine hK'.out _ _ (fun _ _ _ => trivial) ?_
    clear hK' K'
    try simp only [Act.put, zA, zB, zC]
    have cv := CV.out (w1.alloc (.cells #[.int .u8 (48 + r)] 5)) w1.heap.size (blk_cell (blk_new w1 _) 0 _ rfl)
    refine only_I 8 (by kernel_rfl) rfl (fun K' hK' => ?_)
    go_simp
    refine hK'.out _ _ (fun _ _ _ => trivial) ?_
    clear hK' K'
    try simp only [Act.put, zA, zB, zC]
    refine only_I 9 (by kernel_rfl) rfl (fun K' hK' => ?_)
    go_simp
    refine hK'.out _ _ (fun _ _ _ => trivial) ?_
    clear hK' K'
    try simp only [Act.put, zA, zB, zC]
    refine only_I 10 (by kernel_rfl) rfl (fun K' hK' => ?_)
    go_simp
    refine hK'.out _ _ (fun _ _ _ => trivial) ?_
    clear hK' K'
    try simp only [Act.put, zA, zB, zC]
    refine done_I (by kernel_rfl) ?_ _
    go_wp2_with fail
    go_ret
    exact ⟨by rw [cat_str, HF.out]; rfl, Bal NN.out _⟩
   ·have z := 0
    go_simp
    refine hK'.out _ _ (fun _ _ _ => trivial) ?_
    clear hK' K'
    try simp only [Act.put, zA, zB, zC]
    have B := Lib.hid (blk_new w.drew (.cells #[.int .u8 (48 + r)] 5))
    have NN := Lib.hid (Bal (Below.drew (Below.refl w.heap.size w)) (.cells #[.int .u8 (48 + r)] 5))
    have cv := CV.out ((w.alloc (.cells #[.int .u8 (48 + r)] 5)).drew) w.heap.size (blk_cell (show ((w.alloc (.cells #[.int .u8 (48 + r)] 5)).drew).heap[w.heap.size]? = some (.cells #[.int .u8 (48 + r)] 5) from blk_new w _) 0 _ rfl)
    refine both_I 2 8 (by kernel_rfl) rfl rfl (fun K' hK' => ?_) (fun K' hK' => ?_)
    ·clear cv
     go_simp
     go_at_call 84
     refine (C.out _).mono ?_
     rintro e w1 ⟨rfl, hb⟩
     have cv := CV.out w1 w.heap.size (blk_cell (blk_next hb B.out) 0 _ rfl)
     replace NN := Lib.hid (Bgo NN.out hb)
     clear hb
     go_simp
     refine hK'.out _ _ (fun _ _ _ => trivial) ?_
     clear hK' K'
     try simp only [Act.put, zA, zB, zC]
     refine only_I 8 (by kernel_rfl) rfl (fun K' hK' => ?_)
     go_simp
     refine hK'.out _ _ (fun _ _ _ => trivial) ?_
     clear hK' K'
     try simp only [Act.put, zA, zB, zC]
     refine only_I 9 (by kernel_rfl) rfl (fun K' hK' => ?_)
     go_simp
     refine hK'.out _ _ (fun _ _ _ => trivial) ?_
     clear hK' K'
     try simp only [Act.put, zA, zB, zC]
     refine only_I 10 (by kernel_rfl) rfl (fun K' hK' => ?_)
     go_simp
     refine hK'.out _ _ (fun _ _ _ => trivial) ?_
     clear hK' K'
     try simp only [Act.put, zA, zB, zC]
     refine done_I (by kernel_rfl) ?_ _
     go_wp2_with fail
     go_ret
     exact ⟨by rw [cat_str, HF.out]; rfl, NN.out⟩
    ·go_simp
     refine hK'.out _ _ (fun _ _ _ => trivial) ?_
     clear hK' K'
     try simp only [Act.put, zA, zB, zC]
     refine only_I 2 (by kernel_rfl) rfl (fun K' hK' => ?_)
     go_simp
     go_at_call 84
     refine (C.out _).mono ?_
     rintro e w1 ⟨rfl, hb⟩
     replace NN := Lib.hid (Bgo NN.out hb)
     clear hb cv
     go_simp
     refine hK'.out _ _ (fun _ _ _ => trivial) ?_
     clear hK' K'
     try simp only [Act.put, zA, zB, zC]
     refine only_I 9 (by kernel_rfl) rfl (fun K' hK' => ?_)
     go_simp
     refine hK'.out _ _ (fun _ _ _ => trivial) ?_
     clear hK' K'
     try simp only [Act.put, zA, zB, zC]
     refine only_I 10 (by kernel_rfl) rfl (fun K' hK' => ?_)
     go_simp
     refine hK'.out _ _ (fun _ _ _ => trivial) ?_
     clear hK' K'
     try simp only [Act.put, zA, zB, zC]
     refine done_I (by kernel_rfl) ?_ _
     go_wp2_with fail
     go_ret
     exact ⟨by rw [cat_str, HF.out]; rfl, NN.out⟩
theorem dec_calls (n : Int) (w : World) (h1 : -9223372036854775808 < n) (h2 : n ≤ 9223372036854775807) :
  Calls Tryz.prog 84 #[.int .i64 n] w fun e w' => e = .returned (Str (Lib.itoa n)) ∧ Below w.heap.size w w' := by
 by_cases h : n < 0
 ·have F : Lib.itoa n = [45] ++ Lib.decDigits (-n).toNat := by rw [itoa_neg' h, show (-n).toNat = n.natAbs by omega]; rfl
  have C := Lib.hid (fun W => dec_nn ((-n).toNat + 1) (-n) W (by omega) (by omega) (by omega))
  have L1 := dec_len 18 (-n).toNat (by omega)
  have LL : ¬ 9223372036854775807 < ([45] : List UInt8).length + (Lib.decDigits (-n).toNat).length := by
   have : ([45] : List UInt8).length = 1 := rfl
   omega
  generalize Lib.decDigits (-n).toNat = D1 at *
  generalize Lib.itoa n = D at *
  have HF := Lib.hid F
  have L2 : D1.length ≤ 100 := by omega
  clear F L1
  go_enter Tryz.func84, Tryz.ntmps84
  go_wp2_with fail
  refine (C.out _).mono ?_
  rintro e w1 ⟨rfl, hb⟩
  have NN := Lib.hid hb
  clear hb
  go_wp2_with fail
  go_ret
  exact ⟨by rw [show (⟨#[45]⟩ : ByteArray) = ⟨([45] : List UInt8).toArray⟩ from rfl, cat_str, HF.out]; rfl, NN.out⟩
 ·have e : Lib.itoa n = Lib.decDigits n.toNat := itoa_pos' h
  rw [e]
  exact dec_nn (n.toNat + 1) n w (by omega) (by omega) h2
end Go.Proofs.YtbbnkclajpaghaaGreatDoor
