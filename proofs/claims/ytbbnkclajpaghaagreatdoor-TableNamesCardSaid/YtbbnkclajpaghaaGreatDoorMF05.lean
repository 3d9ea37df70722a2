/- Several texts in one. -/
import Derived.StillTail
import Derived.Deep.RegionHeld3
import Derived.Deep.RegionLaw
import Derived.Laws.IdiomStrings
import Derived.OpenShut
import Derived.Lib.Builder
import Derived.Lib.AppendStr
import Derived.Lib.UnsafeStr
import Derived.Lib.Strings
import Derived.Lib.Walk
import Derived.WalkKit
import Derived.Laws.Externs
import Derived.Test.YtbbnkclajpaghaaGreatDoorMF00
import Derived.Test.YtbbnkclajpaghaaGreatDoorMF01
import Derived.Test.YtbbnkclajpaghaaGreatDoorMF03
import Derived.Test.YtbbnkclajpaghaaGreatDoorMF04
set_option maxHeartbeats 8000000
set_option maxRecDepth 100000
set_option linter.unusedVariables false
set_option linter.unusedSimpArgs false
namespace Go.Proofs.YtbbnkclajpaghaaGreatDoor
section
open Go.ChangeShapes Go.WideShapes Go.ChangeAt Go.RowKit
attribute [local go_sem ↓] Go.wp_at_zero Go.wp_at_succ
theorem visE_row {r : Vr} (h : rowB r = true) : visE r = 0 := by
 simp only [rowB, Bool.and_eq_true] at h
 unfold visE
 rw [h.2.2.2.2]; rfl
theorem val_lim {r : Vr} (h : Cxm.chkB r.re r.im r.dn = true) : -1000000000 ≤ r.re ∧ r.re ≤ 1000000000 ∧ -1000000000 ≤ r.im ∧ r.im ≤ 1000000000 ∧ 1 ≤ r.dn ∧ r.dn ≤ 1000000000 := by
 simp only [Cxm.chkB, Cxm.fitsB, Bool.and_eq_true, decide_eq_true_eq] at h
 omega
theorem parts_calls {r : Vr} (h : rowB r = true) (w : World) : Calls Tryz.prog 51 #[Wv r] w fun e w' => e = .returned (.tuple #[Fv (makeF r.re r.dn).1 (makeF r.re r.dn).2.1, Fv (makeF r.im r.dn).1 (makeF r.im r.dn).2.1, .int .i64 0]) ∧ Below w.heap.size w w' := by
 have NN := zh (Below.refl w.heap.size w)
 obtain ⟨-, -, hc, ⟨n1, d1, e1, -, -⟩, ⟨n2, d2, e2, -, -⟩, -⟩ := rowB_val h
 have hl := val_lim hc
 have C0 := zh (fun W => wcheck_calls r W)
 rw [visE_row h] at C0
 have C1 := zh (fun W => make_calls r.re r.dn W (by omega) (by omega) (by omega) (by omega))
 have C2 := zh (fun W => make_calls r.im r.dn W (by omega) (by omega) (by omega) (by omega))
 rw [e1] at C1 ⊢
 rw [e2] at C2 ⊢
 simp only
 clear h hc hl e1 e2
 go_enter Tryz.func51, Tryz.ntmps51
 go_wp2_with fail
 have V : Hid ((((w.alloc (.cells #[.int .i64 r.i, .int .i64 r.j, .int .i64 r.re, .int .i64 r.im, .int .i64 r.dn, .int .i64 r.n] 42)).alloc (.cells #[.int .i64 0, .int .i64 0] 83)).alloc (.cells #[.int .i64 0, .int .i64 0] 83)).heap[w.heap.size]? = some (.cells #[.int .i64 r.i, .int .i64 r.j, .int .i64 r.re, .int .i64 r.im, .int .i64 r.dn, .int .i64 r.n] 42)) := zh (blk_alloc (blk_alloc (blk_new w _) _) _)
 have RE : Hid ((((w.alloc (.cells #[.int .i64 r.i, .int .i64 r.j, .int .i64 r.re, .int .i64 r.im, .int .i64 r.dn, .int .i64 r.n] 42)).alloc (.cells #[.int .i64 0, .int .i64 0] 83)).alloc (.cells #[.int .i64 0, .int .i64 0] 83)).heap[w.heap.size + 1]? = some (.cells #[.int .i64 0, .int .i64 0] 83)) := zh (blk_alloc (blk_at _ (by simp)) _)
 have IM : Hid ((((w.alloc (.cells #[.int .i64 r.i, .int .i64 r.j, .int .i64 r.re, .int .i64 r.im, .int .i64 r.dn, .int .i64 r.n] 42)).alloc (.cells #[.int .i64 0, .int .i64 0] 83)).alloc (.cells #[.int .i64 0, .int .i64 0] 83)).heap[w.heap.size + 1 + 1]? = some (.cells #[.int .i64 0, .int .i64 0] 83)) := zh (blk_at _ (by simp))
 replace NN : Hid (Below w.heap.size w (((w.alloc (.cells #[.int .i64 r.i, .int .i64 r.j, .int .i64 r.re, .int .i64 r.im, .int .i64 r.dn, .int .i64 r.n] 42)).alloc (.cells #[.int .i64 0, .int .i64 0] 83)).alloc (.cells #[.int .i64 0, .int .i64 0] 83))) := zh (Bal (Bal (Bal NN.out _) _) _)
 generalize (((w.alloc (.cells #[.int .i64 r.i, .int .i64 r.j, .int .i64 r.re, .int .i64 r.im, .int .i64 r.dn, .int .i64 r.n] 42)).alloc (.cells #[.int .i64 0, .int .i64 0] 83)).alloc (.cells #[.int .i64 0, .int .i64 0] 83)) = W1 at *
 obtain ⟨c_V_0, f_V_0, c_V_1, f_V_1, c_V_2, f_V_2, c_V_3, f_V_3, c_V_4, f_V_4, c_V_5, f_V_5, l_V⟩ := zfl6 V
 go_wp2_with fail
 clear c_V_0 f_V_0 c_V_1 f_V_1 c_V_2 f_V_2 c_V_3 f_V_3 c_V_4 f_V_4 c_V_5 f_V_5 l_V
 refine (C0.out _).mono ?_
 rintro e w2 ⟨rfl, hb⟩
 replace NN := zh (Bgo NN.out hb)
 replace V := zn hb V
 replace RE := zn hb RE
 replace IM := zn hb IM
 clear hb
 obtain ⟨c_V_0, f_V_0, c_V_1, f_V_1, c_V_2, f_V_2, c_V_3, f_V_3, c_V_4, f_V_4, c_V_5, f_V_5, l_V⟩ := zfl6 V
 obtain ⟨c_RE_0, f_RE_0, c_RE_1, f_RE_1, l_RE⟩ := zfl2 RE
 go_wp2_with fail
 clear c_V_0 f_V_0 c_V_1 f_V_1 c_V_2 f_V_2 c_V_3 f_V_3 c_V_4 f_V_4 c_V_5 f_V_5 l_V c_RE_0 f_RE_0 c_RE_1 f_RE_1 l_RE
 refine (C1.out _).mono ?_
 rintro e w3 ⟨rfl, hb⟩
 replace NN := zh (Bgo NN.out hb)
 replace V := zn hb V
 replace RE := zn hb RE
 replace IM := zn hb IM
 clear hb
 obtain ⟨c_RE_0, f_RE_0, c_RE_1, f_RE_1, l_RE⟩ := zfl2 RE
 obtain ⟨c_V_0, f_V_0, c_V_1, f_V_1, c_V_2, f_V_2, c_V_3, f_V_3, c_V_4, f_V_4, c_V_5, f_V_5, l_V⟩ := zfl6 V
 go_wp2_with fail
 clear c_RE_0 f_RE_0 c_RE_1 f_RE_1 l_RE c_V_0 f_V_0 c_V_1 f_V_1 c_V_2 f_V_2 c_V_3 f_V_3 c_V_4 f_V_4 c_V_5 f_V_5 l_V
 generalize hW : ((w3.setCell ⟨w.heap.size + 1, 0, none⟩ (.int .i64 n1)).setCell ⟨w.heap.size + 1, 1, none⟩ (.int .i64 d1)) = W4 at *
 replace V : Hid (W4.heap[w.heap.size]? = some (.cells #[.int .i64 r.i, .int .i64 r.j, .int .i64 r.re, .int .i64 r.im, .int .i64 r.dn, .int .i64 r.n] 42)) := zs hW (blk_set_other (blk_set_other (V.out) (by omega) 0 (.int .i64 n1)) (by omega) 1 (.int .i64 d1))
 replace RE : Hid (W4.heap[w.heap.size + 1]? = some (.cells #[.int .i64 n1, .int .i64 d1] 83)) := zs hW (blk_set (blk_set (RE.out) 0 (.int .i64 n1)) 1 (.int .i64 d1))
 replace IM : Hid (W4.heap[w.heap.size + 1 + 1]? = some (.cells #[.int .i64 0, .int .i64 0] 83)) := zs hW (blk_set_other (blk_set_other (IM.out) (by omega) 0 (.int .i64 n1)) (by omega) 1 (.int .i64 d1))
 replace NN := zt hW (p := Below _ _) (Bset1 (Bset1 (NN.out) (by omega) 0 (.int .i64 n1)) (by omega) 1 (.int .i64 d1))
 clear hW
 refine (C2.out _).mono ?_
 rintro e w5 ⟨rfl, hb⟩
 replace NN := zh (Bgo NN.out hb)
 replace V := zn hb V
 replace RE := zn hb RE
 replace IM := zn hb IM
 clear hb
 obtain ⟨c_IM_0, f_IM_0, c_IM_1, f_IM_1, l_IM⟩ := zfl2 IM
 go_upto_region 10 with fail
 clear c_IM_0 f_IM_0 c_IM_1 f_IM_1 l_IM
 generalize hW : ((w5.setCell ⟨w.heap.size + 1 + 1, 0, none⟩ (.int .i64 n2)).setCell ⟨w.heap.size + 1 + 1, 1, none⟩ (.int .i64 d2)) = W6 at *
 replace V : Hid (W6.heap[w.heap.size]? = some (.cells #[.int .i64 r.i, .int .i64 r.j, .int .i64 r.re, .int .i64 r.im, .int .i64 r.dn, .int .i64 r.n] 42)) := zs hW (blk_set_other (blk_set_other (V.out) (by omega) 0 (.int .i64 n2)) (by omega) 1 (.int .i64 d2))
 replace RE : Hid (W6.heap[w.heap.size + 1]? = some (.cells #[.int .i64 n1, .int .i64 d1] 83)) := zs hW (blk_set_other (blk_set_other (RE.out) (by omega) 0 (.int .i64 n2)) (by omega) 1 (.int .i64 d2))
 replace IM : Hid (W6.heap[w.heap.size + 1 + 1]? = some (.cells #[.int .i64 n2, .int .i64 d2] 83)) := zs hW (blk_set (blk_set (IM.out) 0 (.int .i64 n2)) 1 (.int .i64 d2))
 replace NN := zt hW (p := Below _ _) (Bset1 (Bset1 (NN.out) (by omega) 0 (.int .i64 n2)) (by omega) 1 (.int .i64 d2))
 clear hW
 have HDRW := zh (Below.drew (Below.refl W6.heap.size W6))
 replace NN := zh (Bgo NN.out HDRW.out)
 replace V := zn HDRW V
 replace RE := zn HDRW RE
 replace IM := zn HDRW IM
 clear HDRW
 have HAL : Hid (∀ kx9 : Nat, GK [(0, w.heap.size + 1, .cells #[.int .i64 n1, .int .i64 d1] 83), (1, w.heap.size + 1 + 1, .cells #[.int .i64 n2, .int .i64 d2] 83)] kx9 W6.drew) := zh (fun kx9 => fun px9 hp e => by
  simp only [List.mem_cons, List.not_mem_nil, or_false] at hp
  rcases hp with rfl | rfl
  ·exact RE.out
  ·exact IM.out
 )
 refine region_G (S := GK [(0, w.heap.size + 1, .cells #[.int .i64 n1, .int .i64 d1] 83), (1, w.heap.size + 1 + 1, .cells #[.int .i64 n2, .int .i64 d2] 83)]) (by kernel_rfl) ?_
 refine tG 0 (.agg #[.int .i64 n1, .int .i64 d1]) (some 43) (GK.grow _) rfl (YieldsIf.toG (Or.inl ⟨by rfl, ?_⟩)) (HAL.out 0) ?_
 ·intro X hX
  have hh := hX (0, w.heap.size + 1, .cells #[.int .i64 n1, .int .i64 d1] 83) (List.Mem.head _) rfl
  have hh0 := blk_cell hh 0 _ rfl
  have hh1 := blk_cell hh 1 _ rfl
  have hhl := blk_lt hh
  clear hh
  clear hX
  go_simp
 try simp only [Act.put, zA, zB, zC]
 refine tG 1 (.agg #[.int .i64 n2, .int .i64 d2]) (some 44) (GK.grow _) rfl (YieldsIf.toG (Or.inl ⟨by rfl, ?_⟩)) (HAL.out 1) ?_
 ·intro X hX
  have hh := hX (1, w.heap.size + 1 + 1, .cells #[.int .i64 n2, .int .i64 d2] 83) (List.Mem.tail _ (List.Mem.head _)) rfl
  have hh0 := blk_cell hh 0 _ rfl
  have hh1 := blk_cell hh 1 _ rfl
  have hhl := blk_lt hh
  clear hh
  clear hX
  go_simp
 try simp only [Act.put, zA, zB, zC]
 refine only_G 2 (by kernel_rfl) rfl (fun X7 hX K' hK' => ?_)
 replace NN := zh (Bgo NN.out hX)
 replace V := zn hX V
 replace RE := zn hX RE
 replace IM := zn hX IM
 replace HAL := zh (fun kx9 => GK.grow _ _ _ _ (HAL.out kx9) hX)
 clear hX
 obtain ⟨c_RE_0, f_RE_0, c_RE_1, f_RE_1, l_RE⟩ := zfl2 RE
 go_simp
 clear c_RE_0 f_RE_0 c_RE_1 f_RE_1 l_RE
 refine hK'.out _ _ (fun kk hk hS => ?_) ?_
 ·have HN : ∀ px9 ∈ ([(0, w.heap.size + 1, .cells #[.int .i64 n1, .int .i64 d1] 83), (1, w.heap.size + 1 + 1, .cells #[.int .i64 n2, .int .i64 d2] 83)] : List (Nat × Nat × Obj)), px9.1 = kk → px9.2.1 ≠ w.heap.size + 1 := fun px9 hp e => by
   simp only [List.mem_cons, List.not_mem_nil, or_false] at hp
   rcases hp with rfl | rfl
   ·subst e
    exact bfl (by kernel_rfl) hk
   ·show w.heap.size + 1 + 1 ≠ w.heap.size + 1
    omega
  exact GK.set (GK.set hS HN) HN
 clear hK' K'
 try simp only [Act.put, zA, zB, zC]
 clear HAL
 generalize hW : ((X7.setCell ⟨w.heap.size + 1, 0, none⟩ (.int .i64 n1)).setCell ⟨w.heap.size + 1, 1, none⟩ (.int .i64 d1)) = W8 at *
 replace V : Hid (W8.heap[w.heap.size]? = some (.cells #[.int .i64 r.i, .int .i64 r.j, .int .i64 r.re, .int .i64 r.im, .int .i64 r.dn, .int .i64 r.n] 42)) := zs hW (blk_set_other (blk_set_other (V.out) (by omega) 0 (.int .i64 n1)) (by omega) 1 (.int .i64 d1))
 replace RE : Hid (W8.heap[w.heap.size + 1]? = some (.cells #[.int .i64 n1, .int .i64 d1] 83)) := zs hW (blk_set (blk_set (RE.out) 0 (.int .i64 n1)) 1 (.int .i64 d1))
 replace IM : Hid (W8.heap[w.heap.size + 1 + 1]? = some (.cells #[.int .i64 n2, .int .i64 d2] 83)) := zs hW (blk_set_other (blk_set_other (IM.out) (by omega) 0 (.int .i64 n1)) (by omega) 1 (.int .i64 d1))
 replace NN := zt hW (p := Below _ _) (Bset1 (Bset1 (NN.out) (by omega) 0 (.int .i64 n1)) (by omega) 1 (.int .i64 d1))
 clear hW
 refine only_G 3 (by kernel_rfl) rfl (fun X9 hX K' hK' => ?_)
 replace NN := zh (Bgo NN.out hX)
 replace V := zn hX V
 replace RE := zn hX RE
 replace IM := zn hX IM
 skip
 clear hX
 obtain ⟨c_IM_0, f_IM_0, c_IM_1, f_IM_1, l_IM⟩ := zfl2 IM
 go_simp
 clear c_IM_0 f_IM_0 c_IM_1 f_IM_1 l_IM
 refine hK'.out _ _ (fun kk hk hS => ?_) ?_
 ·have HN : ∀ px9 ∈ ([(0, w.heap.size + 1, .cells #[.int .i64 n1, .int .i64 d1] 83), (1, w.heap.size + 1 + 1, .cells #[.int .i64 n2, .int .i64 d2] 83)] : List (Nat × Nat × Obj)), px9.1 = kk → px9.2.1 ≠ w.heap.size + 1 + 1 := fun px9 hp e => by
   simp only [List.mem_cons, List.not_mem_nil, or_false] at hp
   rcases hp with rfl | rfl
   ·subst e
    exact bfl (by kernel_rfl) hk
   ·subst e
    exact bfl (by kernel_rfl) hk
  exact GK.set (GK.set hS HN) HN
 clear hK' K'
 try simp only [Act.put, zA, zB, zC]
 generalize hW : ((X9.setCell ⟨w.heap.size + 1 + 1, 0, none⟩ (.int .i64 n2)).setCell ⟨w.heap.size + 1 + 1, 1, none⟩ (.int .i64 d2)) = W10 at *
 replace V : Hid (W10.heap[w.heap.size]? = some (.cells #[.int .i64 r.i, .int .i64 r.j, .int .i64 r.re, .int .i64 r.im, .int .i64 r.dn, .int .i64 r.n] 42)) := zs hW (blk_set_other (blk_set_other (V.out) (by omega) 0 (.int .i64 n2)) (by omega) 1 (.int .i64 d2))
 replace RE : Hid (W10.heap[w.heap.size + 1]? = some (.cells #[.int .i64 n1, .int .i64 d1] 83)) := zs hW (blk_set_other (blk_set_other (RE.out) (by omega) 0 (.int .i64 n2)) (by omega) 1 (.int .i64 d2))
 replace IM : Hid (W10.heap[w.heap.size + 1 + 1]? = some (.cells #[.int .i64 n2, .int .i64 d2] 83)) := zs hW (blk_set (blk_set (IM.out) 0 (.int .i64 n2)) 1 (.int .i64 d2))
 replace NN := zt hW (p := Below _ _) (Bset1 (Bset1 (NN.out) (by omega) 0 (.int .i64 n2)) (by omega) 1 (.int .i64 d2))
 clear hW
 refine tP 4 (.int .i64 0) (some 4) rfl ?_ ?_
 ·intro X hX
  clear hX
  go_simp
 try simp only [Act.put, zA, zB, zC]
 refine done_G (by kernel_rfl) (fun X11 hX => ?_) _
 replace NN := zh (Bgo NN.out hX)
 replace V := zn hX V
 replace RE := zn hX RE
 replace IM := zn hX IM
 clear hX
 obtain ⟨c_RE_0, f_RE_0, c_RE_1, f_RE_1, l_RE⟩ := zfl2 RE
 obtain ⟨c_IM_0, f_IM_0, c_IM_1, f_IM_1, l_IM⟩ := zfl2 IM
 go_wp2_with fail
 exact bodyPost_ret (v := .tuple #[Fv n1 d1, Fv n2 d2, .int .i64 0]) (by simp [results, Tryz.results51, go_sem, c_RE_0, c_RE_1, c_IM_0, c_IM_1]) rfl ⟨rfl, NN.out⟩
end
section
open Go.ChangeShapes Go.WideShapes Go.ChangeAt Go.RowKit
attribute [local go_sem ↓] Go.wp_at_zero Go.wp_at_succ
theorem itoa_calls (n : Int) (w : World) (h1 : -9223372036854775808 ≤ n) (h2 : n ≤ 9223372036854775807) (g : GL w) :
  Calls Tryz.prog 53 #[.int .i64 n] w fun e w' => e = .returned (Str (Lib.itoa n)) ∧ Below w.heap.size w w' :=
 (Tryz.strconv_Itoa n h1 h2 w g.tab).mono fun e w' ⟨h, k, os, hw⟩ => ⟨h, by rw [hw]; exact Lib.below_grow _ _ (Nat.le_refl _) k os⟩
theorem text_ok {n d : Int} (v : VF n d) (w : World) (g : GL w) : Calls Tryz.prog 52 #[Fv n d] w fun e w' => e = .returned (.tuple #[Str (textL n d), .int .i64 0]) ∧ Below w.heap.size w w' := by
 have := text_calls n d w g
 unfold txR at this
 rw [v.err, if_pos rfl] at this
 exact this
theorem join_calls {W : World} {g : Nat} {T : TypeId} {f0 f1 f2 f3 f4 f5 f6 : List UInt8} (h : W.heap[g]? = some (.cells #[Str f0, Str f1, Str f2, Str f3, Str f4, Str f5, Str f6] T)) (hl : (Lib.join [f0, f1, f2, f3, f4, f5, f6] [32]).length ≤ 140737488355328) :
  Calls Tryz.prog 54 #[.slice (some ⟨g, 0, none⟩) 7 7, .string ⟨#[32]⟩] W fun e w' => e = .returned (Str (Lib.join [f0, f1, f2, f3, f4, f5, f6] [32])) ∧ Below W.heap.size W w' := by
 refine Tryz.strings_Join g 0 7 [⟨f0.toArray⟩, ⟨f1.toArray⟩, ⟨f2.toArray⟩, ⟨f3.toArray⟩, ⟨f4.toArray⟩, ⟨f5.toArray⟩, ⟨f6.toArray⟩] ⟨#[32]⟩ W (fun j x hx => ?_) (blk_lt h) (by simp) (Nat.le_refl _) hl
 rw [Nat.zero_add]
 have hj : j < 7 := by have := (List.getElem?_eq_some_iff.1 hx).1; simpa using this
 obtain rfl | rfl | rfl | rfl | rfl | rfl | rfl : j = 0 ∨ j = 1 ∨ j = 2 ∨ j = 3 ∨ j = 4 ∨ j = 5 ∨ j = 6 := by omega
 all_goals (injection hx with hx; subst hx; exact blk_cell h _ _ rfl)
def GB (L : List (Nat × Nat × Obj)) (w0 : World) (k : Nat) (X : World) : Prop := GK L k X ∧ Below w0.heap.size w0 X
theorem GB.grow {L : List (Nat × Nat × Obj)} {w0 : World} : ∀ k (w X : World), GB L w0 k w → Below w.heap.size w X → GB L w0 k X := fun k w X h hb => ⟨GK.grow L k w X h.1 hb, below_go h.2 hb⟩
theorem GB.alloc {L : List (Nat × Nat × Obj)} {w0 : World} {k : Nat} {X : World} (h : GB L w0 k X) (o : Obj) : GB L w0 k (X.alloc o) := ⟨h.1.alloc o, Bal h.2 _⟩
theorem VF.len {n d : Int} (v : VF n d) : (textL n d).length ≤ 43 := by
 have h1 := Lib.itoa_length_le n (by have := v.n1; omega) (by have := v.n2; omega)
 have h2 := Lib.itoa_length_le d (by have := v.d1; omega) (by have := v.d2; omega)
 unfold textL
 split
 ·omega
 ·rw [List.length_append, List.length_cons]; omega
theorem lnL_len {r : Vr} (h : rowB r = true) : (lnL r).length ≤ 200 := by
 have hf := rowB_facts h
 obtain ⟨h0, h1, -, ⟨n1, d1, e1, v1, -⟩, ⟨n2, d2, e2, v2, -⟩, -⟩ := rowB_val h
 have a1 := v1.len
 have a2 := v2.len
 have b1 := Lib.itoa_length_le r.t (by omega) (by omega)
 have b2 := Lib.itoa_length_le r.c (by omega) (by omega)
 have b3 := Lib.itoa_length_le r.i (by omega) (by omega)
 have b4 := Lib.itoa_length_le r.j (by omega) (by omega)
 have b5 := Lib.itoa_length_le r.n (by omega) (by omega)
 unfold lnL lnF
 rw [e1, e2, Lib.join_length]
 simp [Lib.lens]
 omega
theorem lineOf_calls {r : Vr} (h : rowB r = true) (w : World) (g : GL w) : Calls Tryz.prog 28 #[Rwv r] w fun e w' => e = .returned (.tuple #[Str (lnL r ++ [10]), .int .i64 0]) ∧ Below w.heap.size w w' := by
 have NN := zh (Below.refl w.heap.size w)
 have GG := zh g
 have PC := zh (fun W => parts_calls h W)
 have hf := rowB_facts h
 obtain ⟨h0, h1, hc, ⟨n1, d1, e1, v1, -⟩, ⟨n2, d2, e2, v2, -⟩, -⟩ := rowB_val h
 have I1 := zh (fun W (g : GL W) => itoa_calls r.t W (by omega) (by omega) g)
 have I2 := zh (fun W (g : GL W) => itoa_calls r.c W (by omega) (by omega) g)
 have I3 := zh (fun W (g : GL W) => itoa_calls r.i W (by omega) (by omega) g)
 have I4 := zh (fun W (g : GL W) => itoa_calls r.j W (by omega) (by omega) g)
 have I5 := zh (fun W (g : GL W) => itoa_calls r.n W (by omega) (by omega) g)
 have T1 := zh (fun W (g : GL W) => text_ok v1 W g)
 have T2 := zh (fun W (g : GL W) => text_ok v2 W g)
 have LN := lnL_len h
 have EL : lnL r = Lib.join (lnF r) [32] := rfl
 unfold lnF at EL
 rw [e1, e2] at EL PC
 simp only at EL PC
 rw [EL] at LN ⊢
 have LN := zh LN
 clear g h hf h0 h1 hc e1 e2 v1 v2 EL
 generalize Lib.itoa r.t = f0 at *
 generalize Lib.itoa r.c = f1 at *
 generalize Lib.itoa r.i = f2 at *
 generalize Lib.itoa r.j = f3 at *
 generalize Lib.itoa r.n = f6 at *
 generalize textL n1 d1 = f4 at *
 generalize textL n2 d2 = f5 at *
 go_enter Tryz.func28, Tryz.ntmps28
 go_wp2_with fail
 have V : Hid ((w.alloc (.cells #[.int .i64 r.t, .int .i64 r.c, .int .i64 r.i, .int .i64 r.j, .int .i64 r.re, .int .i64 r.im, .int .i64 r.dn, .int .i64 r.n] 67)).heap[w.heap.size]? = some (.cells #[.int .i64 r.t, .int .i64 r.c, .int .i64 r.i, .int .i64 r.j, .int .i64 r.re, .int .i64 r.im, .int .i64 r.dn, .int .i64 r.n] 67)) := zh (blk_new w _)
 replace NN : Hid (Below w.heap.size w (w.alloc (.cells #[.int .i64 r.t, .int .i64 r.c, .int .i64 r.i, .int .i64 r.j, .int .i64 r.re, .int .i64 r.im, .int .i64 r.dn, .int .i64 r.n] 67))) := zh (Bal NN.out _)
 generalize (w.alloc (.cells #[.int .i64 r.t, .int .i64 r.c, .int .i64 r.i, .int .i64 r.j, .int .i64 r.re, .int .i64 r.im, .int .i64 r.dn, .int .i64 r.n] 67)) = W1 at *
 obtain ⟨c_V_0, f_V_0, c_V_1, f_V_1, c_V_2, f_V_2, c_V_3, f_V_3, c_V_4, f_V_4, c_V_5, f_V_5, c_V_6, f_V_6, c_V_7, f_V_7, l_V⟩ := zfl8 V
 go_wp2_with fail
 clear c_V_0 f_V_0 c_V_1 f_V_1 c_V_2 f_V_2 c_V_3 f_V_3 c_V_4 f_V_4 c_V_5 f_V_5 c_V_6 f_V_6 c_V_7 f_V_7 l_V
 replace GG := zh (GL.next GG.out NN.out)
 refine (PC.out _).mono ?_
 rintro e w2 ⟨rfl, hb⟩
 replace NN := zh (Bgo NN.out hb)
 replace GG := zh (GL.next GG.out hb)
 replace V := zn hb V
 clear hb
 go_upto_region 2 with fail
 have HB := zh (show Below w2.heap.size w2 ((w2.alloc (.cells #[.int .i64 n1, .int .i64 d1] 83)).alloc (.cells #[.int .i64 n2, .int .i64 d2] 83)) from (Bal (Bal (Below.refl _ _) _) _))
 have RE : Hid (((w2.alloc (.cells #[.int .i64 n1, .int .i64 d1] 83)).alloc (.cells #[.int .i64 n2, .int .i64 d2] 83)).heap[w2.heap.size]? = some (.cells #[.int .i64 n1, .int .i64 d1] 83)) := zh (blk_alloc (blk_new w2 _) _)
 have IM : Hid (((w2.alloc (.cells #[.int .i64 n1, .int .i64 d1] 83)).alloc (.cells #[.int .i64 n2, .int .i64 d2] 83)).heap[w2.heap.size + 1]? = some (.cells #[.int .i64 n2, .int .i64 d2] 83)) := zh (blk_at _ (by simp))
 have LT_RE : Hid (w.heap.size < w2.heap.size ∧ w.heap.size ≤ w2.heap.size) := zh ⟨blk_lt V.out, NN.out.size⟩
 replace NN := zh (Bgo NN.out HB.out)
 replace GG := zh (GL.next GG.out HB.out)
 replace V := zn HB V
 clear HB
 obtain ⟨c_RE_0, f_RE_0, c_RE_1, f_RE_1, l_RE⟩ := zfl2 RE
 go_wp2_with fail
 clear c_RE_0 f_RE_0 c_RE_1 f_RE_1 l_RE
 generalize ((w2.alloc (.cells #[.int .i64 n1, .int .i64 d1] 83)).alloc (.cells #[.int .i64 n2, .int .i64 d2] 83)) = W3 at *
 generalize w2.heap.size = gF at *
 refine (T1.out _ GG.out).mono ?_
 rintro e w4 ⟨rfl, hb⟩
 replace NN := zh (Bgo NN.out hb)
 replace GG := zh (GL.next GG.out hb)
 replace V := zn hb V
 replace RE := zn hb RE
 replace IM := zn hb IM
 clear hb
 obtain ⟨c_IM_0, f_IM_0, c_IM_1, f_IM_1, l_IM⟩ := zfl2 IM
 go_wp2_with fail
 clear c_IM_0 f_IM_0 c_IM_1 f_IM_1 l_IM
 refine (T2.out _ GG.out).mono ?_
 rintro e w5 ⟨rfl, hb⟩
 replace NN := zh (Bgo NN.out hb)
 replace GG := zh (GL.next GG.out hb)
 replace V := zn hb V
 replace RE := zn hb RE
 replace IM := zn hb IM
 clear hb
 go_upto_region 10 with fail
 clear RE IM
 have HDRW := zh (Below.drew (Below.refl w5.heap.size w5))
 replace NN := zh (Bgo NN.out HDRW.out)
 replace GG := zh (GL.next GG.out HDRW.out)
 replace V := zn HDRW V
 clear HDRW
 have HAL : Hid (∀ kx9 : Nat, GB [(1, w.heap.size, .cells #[.int .i64 r.t, .int .i64 r.c, .int .i64 r.i, .int .i64 r.j, .int .i64 r.re, .int .i64 r.im, .int .i64 r.dn, .int .i64 r.n] 67), (4, w.heap.size, .cells #[.int .i64 r.t, .int .i64 r.c, .int .i64 r.i, .int .i64 r.j, .int .i64 r.re, .int .i64 r.im, .int .i64 r.dn, .int .i64 r.n] 67), (8, w.heap.size, .cells #[.int .i64 r.t, .int .i64 r.c, .int .i64 r.i, .int .i64 r.j, .int .i64 r.re, .int .i64 r.im, .int .i64 r.dn, .int .i64 r.n] 67), (12, w.heap.size, .cells #[.int .i64 r.t, .int .i64 r.c, .int .i64 r.i, .int .i64 r.j, .int .i64 r.re, .int .i64 r.im, .int .i64 r.dn, .int .i64 r.n] 67), (18, w.heap.size, .cells #[.int .i64 r.t, .int .i64 r.c, .int .i64 r.i, .int .i64 r.j, .int .i64 r.re, .int .i64 r.im, .int .i64 r.dn, .int .i64 r.n] 67)] w5.drew kx9 w5.drew) := zh (fun kx9 => ⟨fun px9 hp e => by
  simp only [List.mem_cons, List.not_mem_nil, or_false] at hp
  rcases hp with rfl | rfl | rfl | rfl | rfl
  ·exact V.out
  ·exact V.out
  ·exact V.out
  ·exact V.out
  ·exact V.out
 , Below.refl _ _⟩)
 refine region_G (S := GB [(1, w.heap.size, .cells #[.int .i64 r.t, .int .i64 r.c, .int .i64 r.i, .int .i64 r.j, .int .i64 r.re, .int .i64 r.im, .int .i64 r.dn, .int .i64 r.n] 67), (4, w.heap.size, .cells #[.int .i64 r.t, .int .i64 r.c, .int .i64 r.i, .int .i64 r.j, .int .i64 r.re, .int .i64 r.im, .int .i64 r.dn, .int .i64 r.n] 67), (8, w.heap.size, .cells #[.int .i64 r.t, .int .i64 r.c, .int .i64 r.i, .int .i64 r.j, .int .i64 r.re, .int .i64 r.im, .int .i64 r.dn, .int .i64 r.n] 67), (12, w.heap.size, .cells #[.int .i64 r.t, .int .i64 r.c, .int .i64 r.i, .int .i64 r.j, .int .i64 r.re, .int .i64 r.im, .int .i64 r.dn, .int .i64 r.n] 67), (18, w.heap.size, .cells #[.int .i64 r.t, .int .i64 r.c, .int .i64 r.i, .int .i64 r.j, .int .i64 r.re, .int .i64 r.im, .int .i64 r.dn, .int .i64 r.n] 67)] w5.drew) (by kernel_rfl) ?_
 refine tG 0 (.pointer (some ⟨w.heap.size, 0, none⟩)) (some 36) GB.grow rfl (YieldsIf.toG (Or.inl ⟨by rfl, ?_⟩)) (HAL.out 0) ?_
 ·intro X hX
  clear hX
  go_simp
 try simp only [Act.put, zA, zB, zC]
 refine tG 1 (.int .i64 r.t) (some 37) GB.grow rfl (YieldsIf.toG (Or.inl ⟨by rfl, ?_⟩)) (HAL.out 1) ?_
 ·intro X hX
  have hh := hX.1 (1, w.heap.size, .cells #[.int .i64 r.t, .int .i64 r.c, .int .i64 r.i, .int .i64 r.j, .int .i64 r.re, .int .i64 r.im, .int .i64 r.dn, .int .i64 r.n] 67) (List.Mem.head _) rfl
  have hh0 := blk_cell hh 0 _ rfl
  have hhl := blk_lt hh
  clear hh
  clear hX
  go_simp
 try simp only [Act.put, zA, zB, zC]
 have CFn : ∀ (args : Array Value) (W : World), Sem.run Tryz.prog (callFunc 53 args) W = .ok (.enter 53 args) W := fun _ _ => by kernel_rfl
 refine tG 2 (Str f0) (some 38) GB.grow rfl (yieldsG_call 53 #[.int .i64 r.t] (by rfl) ?_ (fun X hS => I1.out X (GG.out.next hS.2))) (HAL.out 2) ?_
 ·intro X hX
  clear hX
  go_simp
 clear CFn
 try simp only [Act.put, zA, zB, zC]
 refine tG 3 (.pointer (some ⟨w.heap.size, 1, none⟩)) (some 39) GB.grow rfl (YieldsIf.toG (Or.inl ⟨by rfl, ?_⟩)) (HAL.out 3) ?_
 ·intro X hX
  clear hX
  go_simp
 try simp only [Act.put, zA, zB, zC]
 refine tG 4 (.int .i64 r.c) (some 40) GB.grow rfl (YieldsIf.toG (Or.inl ⟨by rfl, ?_⟩)) (HAL.out 4) ?_
 ·intro X hX
  have hh := hX.1 (4, w.heap.size, .cells #[.int .i64 r.t, .int .i64 r.c, .int .i64 r.i, .int .i64 r.j, .int .i64 r.re, .int .i64 r.im, .int .i64 r.dn, .int .i64 r.n] 67) (List.Mem.tail _ (List.Mem.head _)) rfl
  have hh0 := blk_cell hh 1 _ rfl
  have hhl := blk_lt hh
  clear hh
  clear hX
  go_simp
 try simp only [Act.put, zA, zB, zC]
 have CFn : ∀ (args : Array Value) (W : World), Sem.run Tryz.prog (callFunc 53 args) W = .ok (.enter 53 args) W := fun _ _ => by kernel_rfl
 refine tG 5 (Str f1) (some 41) GB.grow rfl (yieldsG_call 53 #[.int .i64 r.c] (by rfl) ?_ (fun X hS => I2.out X (GG.out.next hS.2))) (HAL.out 5) ?_
 ·intro X hX
  clear hX
  go_simp
 clear CFn
 try simp only [Act.put, zA, zB, zC]
 refine tG 6 (.pointer (some ⟨w.heap.size, 2, none⟩)) (some 42) GB.grow rfl (YieldsIf.toG (Or.inl ⟨by rfl, ?_⟩)) (HAL.out 6) ?_
 ·intro X hX
  clear hX
  go_simp
 try simp only [Act.put, zA, zB, zC]
 refine tG 7 (.pointer (some ⟨w.heap.size, 2, none⟩)) (some 43) GB.grow rfl (YieldsIf.toG (Or.inl ⟨by rfl, ?_⟩)) (HAL.out 7) ?_
 ·intro X hX
  clear hX
  go_simp
 try simp only [Act.put, zA, zB, zC]
 refine tG 8 (.int .i64 r.i) (some 44) GB.grow rfl (YieldsIf.toG (Or.inl ⟨by rfl, ?_⟩)) (HAL.out 8) ?_
 ·intro X hX
  have hh := hX.1 (8, w.heap.size, .cells #[.int .i64 r.t, .int .i64 r.c, .int .i64 r.i, .int .i64 r.j, .int .i64 r.re, .int .i64 r.im, .int .i64 r.dn, .int .i64 r.n] 67) (List.Mem.tail _ (List.Mem.tail _ (List.Mem.head _))) rfl
  have hh0 := blk_cell hh 2 _ rfl
  have hhl := blk_lt hh
  clear hh
  clear hX
  go_simp
 try simp only [Act.put, zA, zB, zC]
 have CFn : ∀ (args : Array Value) (W : World), Sem.run Tryz.prog (callFunc 53 args) W = .ok (.enter 53 args) W := fun _ _ => by kernel_rfl
 refine tG 9 (Str f2) (some 45) GB.grow rfl (yieldsG_call 53 #[.int .i64 r.i] (by rfl) ?_ (fun X hS => I3.out X (GG.out.next hS.2))) (HAL.out 9) ?_
 ·intro X hX
  clear hX
  go_simp
 clear CFn
 try simp only [Act.put, zA, zB, zC]
 refine tG 10 (.pointer (some ⟨w.heap.size, 2, none⟩)) (some 46) GB.grow rfl (YieldsIf.toG (Or.inl ⟨by rfl, ?_⟩)) (HAL.out 10) ?_
 ·intro X hX
  clear hX
  go_simp
 try simp only [Act.put, zA, zB, zC]
 refine tG 11 (.pointer (some ⟨w.heap.size, 3, none⟩)) (some 47) GB.grow rfl (YieldsIf.toG (Or.inl ⟨by rfl, ?_⟩)) (HAL.out 11) ?_
 ·intro X hX
  clear hX
  go_simp
 try simp only [Act.put, zA, zB, zC]
 refine tG 12 (.int .i64 r.j) (some 48) GB.grow rfl (YieldsIf.toG (Or.inl ⟨by rfl, ?_⟩)) (HAL.out 12) ?_
 ·intro X hX
  have hh := hX.1 (12, w.heap.size, .cells #[.int .i64 r.t, .int .i64 r.c, .int .i64 r.i, .int .i64 r.j, .int .i64 r.re, .int .i64 r.im, .int .i64 r.dn, .int .i64 r.n] 67) (List.Mem.tail _ (List.Mem.tail _ (List.Mem.tail _ (List.Mem.head _)))) rfl
  have hh0 := blk_cell hh 3 _ rfl
  have hhl := blk_lt hh
  clear hh
  clear hX
  go_simp
 try simp only [Act.put, zA, zB, zC]
 have CFn : ∀ (args : Array Value) (W : World), Sem.run Tryz.prog (callFunc 53 args) W = .ok (.enter 53 args) W := fun _ _ => by kernel_rfl
 refine tG 13 (Str f3) (some 49) GB.grow rfl (yieldsG_call 53 #[.int .i64 r.j] (by rfl) ?_ (fun X hS => I4.out X (GG.out.next hS.2))) (HAL.out 13) ?_
 ·intro X hX
  clear hX
  go_simp
 clear CFn
 try simp only [Act.put, zA, zB, zC]
 refine tG 14 (Str f4) (some 50) GB.grow rfl (YieldsIf.toG (Or.inl ⟨by rfl, ?_⟩)) (HAL.out 14) ?_
 ·intro X hX
  clear hX
  go_simp
 try simp only [Act.put, zA, zB, zC]
 refine tG 15 (Str f5) (some 51) GB.grow rfl (YieldsIf.toG (Or.inl ⟨by rfl, ?_⟩)) (HAL.out 15) ?_
 ·intro X hX
  clear hX
  go_simp
 try simp only [Act.put, zA, zB, zC]
 refine tG 16 (.pointer (some ⟨w.heap.size, 2, none⟩)) (some 52) GB.grow rfl (YieldsIf.toG (Or.inl ⟨by rfl, ?_⟩)) (HAL.out 16) ?_
 ·intro X hX
  clear hX
  go_simp
 try simp only [Act.put, zA, zB, zC]
 refine tG 17 (.pointer (some ⟨w.heap.size, 7, none⟩)) (some 53) GB.grow rfl (YieldsIf.toG (Or.inl ⟨by rfl, ?_⟩)) (HAL.out 17) ?_
 ·intro X hX
  clear hX
  go_simp
 try simp only [Act.put, zA, zB, zC]
 refine tG 18 (.int .i64 r.n) (some 54) GB.grow rfl (YieldsIf.toG (Or.inl ⟨by rfl, ?_⟩)) (HAL.out 18) ?_
 ·intro X hX
  have hh := hX.1 (18, w.heap.size, .cells #[.int .i64 r.t, .int .i64 r.c, .int .i64 r.i, .int .i64 r.j, .int .i64 r.re, .int .i64 r.im, .int .i64 r.dn, .int .i64 r.n] 67) (List.Mem.tail _ (List.Mem.tail _ (List.Mem.tail _ (List.Mem.tail _ (List.Mem.head _))))) rfl
  have hh0 := blk_cell hh 7 _ rfl
  have hhl := blk_lt hh
  clear hh
  clear hX
  go_simp
 try simp only [Act.put, zA, zB, zC]
 have CFn : ∀ (args : Array Value) (W : World), Sem.run Tryz.prog (callFunc 53 args) W = .ok (.enter 53 args) W := fun _ _ => by kernel_rfl
 refine tG 19 (Str f6) (some 55) GB.grow rfl (yieldsG_call 53 #[.int .i64 r.n] (by rfl) ?_ (fun X hS => I5.out X (GG.out.next hS.2))) (HAL.out 19) ?_
 ·intro X hX
  clear hX
  go_simp
 clear CFn
 try simp only [Act.put, zA, zB, zC]
 refine only_G 20 (by kernel_rfl) rfl (fun X6 hX K' hK' => ?_)
 replace NN := zh (Bgo NN.out hX)
 replace GG := zh (GL.next GG.out hX)
 replace V := zn hX V
 replace HAL := zh (fun kx9 => GB.grow _ _ _ (HAL.out kx9) hX)
 clear hX
 go_simp
 refine hK'.out _ _ (fun _ _ h => h.alloc _) ?_
 clear hK' K'
 try simp only [Act.put, zA, zB, zC]
 have HB := zh (Bal (Below.refl X6.heap.size X6) (.cells #[Str f0, Str f1, Str f2, Str f3, Str f4, Str f5, Str f6] 9))
 have SL : Hid ((X6.alloc (.cells #[Str f0, Str f1, Str f2, Str f3, Str f4, Str f5, Str f6] 9)).heap[X6.heap.size]? = some (.cells #[Str f0, Str f1, Str f2, Str f3, Str f4, Str f5, Str f6] 9)) := zh (blk_new X6 (.cells #[Str f0, Str f1, Str f2, Str f3, Str f4, Str f5, Str f6] 9))
 replace NN := zh (Bgo NN.out HB.out)
 replace GG := zh (GL.next GG.out HB.out)
 replace V := zn HB V
 replace HAL := zh (fun kx9 => GB.grow _ _ _ (HAL.out kx9) HB.out)
 clear HB
 generalize X6.alloc (.cells #[Str f0, Str f1, Str f2, Str f3, Str f4, Str f5, Str f6] 9) = W7 at *
 generalize X6.heap.size = gSL at *
 refine tG 21 (.slice (some ⟨gSL, 0, none⟩) 7 7) (some 9) GB.grow rfl (YieldsIf.toG (Or.inl ⟨by rfl, ?_⟩)) (HAL.out 21) ?_
 ·intro X hX
  clear hX
  go_simp
 try simp only [Act.put, zA, zB, zC]
 clear HAL
 refine done_G (by kernel_rfl) (fun X8 hX => ?_) _
 replace NN := zh (Bgo NN.out hX)
 replace GG := zh (GL.next GG.out hX)
 replace V := zn hX V
 replace SL := zn hX SL
 clear hX
 go_wp2_with fail
 refine (join_calls SL.out (Nat.le_trans LN.out (by decide))).mono ?_
 rintro e w9 ⟨rfl, hb⟩
 replace NN := zh (Bgo NN.out hb)
 replace GG := zh (GL.next GG.out hb)
 replace V := zn hb V
 replace SL := zn hb SL
 clear hb
 go_wp2_with fail
 exact bodyPost_ret (v := .tuple #[.string ((⟨(Lib.join [f0, f1, f2, f3, f4, f5, f6] [32]).toArray⟩ : ByteArray) ++ ⟨#[10]⟩), .int .i64 0]) (by simp [results, Tryz.results28, go_sem]) rfl ⟨by rw [show (⟨#[10]⟩ : ByteArray) = ⟨[10].toArray⟩ from rfl, cat2], NN.out⟩
end
section
open Go Go.RowKit
section
variable {P : Program} {ops : Array Oper} {Q : Exit → Act → World → Prop} {md : Region.Mode} {S : Nat → World → Prop}
end
def SZ (L : List (Nat × Addr × Value)) (C : List (Nat × Option Addr × List Nat)) (k : Nat) (X : World) : Prop := (∀ p ∈ L, p.1 = k → p.2.1.block < X.heap.size ∧ X.cell? p.2.1 = some p.2.2) ∧ ∀ p ∈ C, p.1 ≠ k
theorem SZ.next {L : List (Nat × Addr × Value)} {C : List (Nat × Option Addr × List Nat)} {k : Nat} {X Y : World} (h : SZ L C k X) (hb : Below X.heap.size X Y) : SZ L C k Y := by
 refine ⟨fun p hp e => ?_, h.2⟩
 obtain ⟨h1, h2⟩ := h.1 p hp e
 exact ⟨Nat.lt_of_lt_of_le h1 hb.size, (hb.cell h1).trans h2⟩
theorem SZ.drop {L : List (Nat × Addr × Value)} {C : List (Nat × Option Addr × List Nat)} {k : Nat} {X : World} (h : ∀ p ∈ L, p.1 ≠ k) (h2 : ∀ p ∈ C, p.1 ≠ k) : SZ L C k X := ⟨fun p hp e => absurd e (h p hp), h2⟩
end
section
open Go.ChangeShapes Go.WideShapes Go.ChangeAt Go.RowKit
attribute [local go_sem ↓] Go.wp_at_zero Go.wp_at_succ
def txE (t : List Vr) : Int := if chkE t ≠ 0 then chkE t else if 20000 < (txT t).length then 4 else 0
def txO (t : List Vr) : List UInt8 := if txE t = 0 then txT t else []
theorem txT_snoc (t : List Vr) (r : Vr) : txT (t ++ [r]) = txT t ++ (lnL r ++ [10]) := by simp [txT]
theorem txT_take {t : List Vr} {k : Nat} {r : Vr} (h : t[k]? = some r) : txT (t.take (k + 1)) = txT (t.take k) ++ (lnL r ++ [10]) := by
 obtain ⟨h1, h2⟩ := List.getElem?_eq_some_iff.1 h
 rw [← List.take_append_getElem h1, h2, txT_snoc]
theorem txT_max {t : List Vr} (h : ∀ r ∈ t, rowB r = true) : (txT t).length ≤ t.length * 201 := by
 induction t with
 | nil => exact Nat.zero_le _
 | cons r t ih =>
  have h1 := lnL_len (h r (List.mem_cons_self ..))
  have h2 := ih fun x hx => h x (List.mem_cons_of_mem _ hx)
  rw [txT_cons, List.length_append, List.length_cons, List.length_cons]; omega
end
section
open Go Go.RowKit
theorem own_keeps {B : Nat} {w w' : World} {e : TypeId} {sz n : Nat} {v : Value} {xs : List Value} (h : w.ownsRow B e sz v n xs) (hg : w.grownBy w' v.ownBlock) : KeepsOthers w w' := by
 refine KeepsOthers.of_grownBy hg fun j o e hj => ?_
 rcases h.2 with ⟨h5, _⟩ | ⟨g, cap', cur, hv, hb, h3, _⟩
 ·rw [h5] at e; cases e
 ·rw [hv] at e
  simp [Value.ownBlock] at e
  subst e
  rw [h3] at hj
  cases hj
  rfl
theorem sb_size : (Tryz.prog.info? 63).map (·.size) = some 2 := by kernel_rfl
theorem sb_lies : liesAt Tryz.prog Tryz.prog.depth 63 (2 / Tryz.prog.cellsOf 63) 0 63 1 = true := by kernel_rfl
theorem sb_byte : (Tryz.prog.info? 5).map (fun i => (i.zero, i.size, i.bytes)) = some (some (.int .u8 0), 1, 1) := by kernel_rfl
theorem sb_used (b : Nat) (w : World) (h0 : w.cell? ⟨b, 0, none⟩ = some (.pointer (some ⟨b, 0, none⟩))) :
  Calls Tryz.prog 55 #[.pointer (some ⟨b, 0, none⟩)] w fun e w' => e = .returned (.tuple #[]) ∧ w' = w := by
 obtain ⟨j, hj, _⟩ := Option.map_eq_some_iff.1 sb_size
 go_enter Tryz.func55, Tryz.ntmps55
 go_wp2
 rw [Lib.run_neq_ptr_same w _ Tryz.underlying60 hj]
 go_wp2
 go_end0
 exact ⟨rfl, rfl⟩
theorem sb_fresh (b : Nat) (w : World) (h0 : w.cell? ⟨b, 0, none⟩ = some (.pointer none)) (hsh : w.shape? b = some (63, 2)) (hfz : w.frozen? ⟨b, 0, none⟩ = false) :
  Calls Tryz.prog 55 #[.pointer (some ⟨b, 0, none⟩)] w fun e w' => e = .returned (.tuple #[]) ∧ w' = w.setCell ⟨b, 0, none⟩ (.pointer (some ⟨b, 0, none⟩)) := by
 obtain ⟨j, hj, hjs⟩ := Option.map_eq_some_iff.1 sb_size
 go_enter Tryz.func55, Tryz.ntmps55
 go_wp2
 rw [Lib.run_to_unsafe w ⟨b, 0, none⟩ Tryz.underlying60 Tryz.underlying136 hj (by rw [hjs]; decide) hsh (Nat.zero_lt_succ 1)]
 simp only [Result.andThen]
 rw [Oper.upon_value]
 go_wp2
 rw [run_callFunc_extern Tryz.func83 (by kernel_rfl) (by kernel_rfl) (by kernel_rfl) (e := Extern.AbiNoEscape.same) (by kernel_rfl)]
 rw [Lib.run_noEscape]
 simp only [Result.andThen]
 rw [Oper.upon_value]
 go_wp2
 rw [Lib.run_from_unsafe w ⟨b, 0, none⟩ Tryz.underlying136 Tryz.underlying60 hj hsh sb_lies]
 simp only [Result.andThen]
 rw [Oper.upon_value]
 go_wp2
 go_end0
 exact ⟨rfl, rfl⟩
abbrev SB (B b : Nat) (bs : List Value) (w : World) : Prop := Lib.IsBuilder 63 5 B b bs w
abbrev SBU (B b : Nat) (bs : List Value) (w : World) : Prop := Lib.BuilderAt 63 5 B b (.pointer (some ⟨b, 0, none⟩)) bs w
theorem sb_check (B b : Nat) (bs : List Value) (w : World) (h : SB B b bs w) :
  Calls Tryz.prog 55 #[.pointer (some ⟨b, 0, none⟩)] w fun e w' => e = .returned (.tuple #[]) ∧ SBU B b bs w' ∧ Below B w w' ∧ KeepsOthers w w' := by
 rcases h with h | h
 ·refine (sb_fresh b w h.cell0 h.shape h.frozen0).mono ?_
  rintro e w' ⟨rfl, rfl⟩
  exact ⟨rfl, h.used _, (Below.refl B w).setCell (p := ⟨b, 0, none⟩) h.1 _, KeepsOthers.setCell _ _ _⟩
 ·refine (sb_used b w h.cell0).mono ?_
  rintro e w' ⟨rfl, rfl⟩
  exact ⟨rfl, h, Below.refl B _, KeepsOthers.refl _⟩
theorem sb_write (B b : Nat) (bs : List Value) (s : ByteArray) (w : World) (h : SB B b bs w) (hlen : bs.length + s.size ≤ 140737488355328) (hBw : B ≤ w.heap.size) :
  Calls Tryz.prog 29 #[.pointer (some ⟨b, 0, none⟩), .string s] w fun e w' => e = .returned (.tuple #[.int .i64 s.size, .nilIface]) ∧ SBU B b (bs ++ Lib.strCells s) w' ∧ Below B w w' ∧ KeepsOthers w w' := by
 obtain ⟨i0, hi, hz0, hz1, hz2⟩ := info_parts sb_byte
 go_enter Tryz.func29, Tryz.ntmps29
 go_wp2_with fail
 refine (sb_check B b bs _ h).mono ?_
 rintro e w1 ⟨rfl, h1, hb1, hk1⟩
 obtain ⟨hB, v, hbk, hown, hne⟩ := h1
 have c0 : w1.cell? ⟨b, 0, none⟩ = some (.pointer (some ⟨b, 0, none⟩)) := by rw [Lib.cell_of_heap hbk]; rfl
 have c1 : w1.cell? ⟨b, 1, none⟩ = some v := by rw [Lib.cell_of_heap hbk]; rfl
 go_wp2_with (at_builtin; refine Lib.wpList_append_own_string _ rfl _ _ 61 9 rfl B 5 i0 Tryz.underlying61 Tryz.underlying9 hi hz0 hz1 hz2 _ _ _ rfl hown s rfl ?c3 ?c4 ?c5 ?_)
 case c3 => unfold maxLen; omega
 case c4 => omega
 case c5 => have := hb1.size; omega
 intro v' w2 hown' hgrow _
 have hk2 := own_keeps hown hgrow
 have hlt : b < w1.heap.size := by
  rcases Nat.lt_or_ge b w1.heap.size with h' | h'
  ·exact h'
  ·simp [Array.getElem?_eq_none h'] at hbk
 have hb2 : w2.heap[b]? = some (.cells #[.pointer (some ⟨b, 0, none⟩), v] 63 (0, 0)) := by
  rw [hgrow.block b hlt (fun e => hne e.symm)]
  exact hbk
 have d0 : w2.cell? ⟨b, 0, none⟩ = some (.pointer (some ⟨b, 0, none⟩)) := by rw [Lib.cell_of_heap hb2]; rfl
 have d1 : w2.cell? ⟨b, 1, none⟩ = some v := by rw [Lib.cell_of_heap hb2]; rfl
 have f1 : w2.frozen? ⟨b, 1, none⟩ = false := Lib.frozen_of_heap hb2 1
 obtain ⟨ao, n', cap, rfl⟩ : ∃ ao n' cap, v' = .slice ao n' cap := by
  rcases hown'.2 with ⟨hv, _⟩ | ⟨g, cap, cur, hv, _⟩
  ·exact ⟨_, _, _, hv⟩
  ·exact ⟨_, _, _, hv⟩
 go_wp2
 go_ret2
 refine ⟨rfl, ?_, ?_, (hk1.trans hk2).trans (KeepsOthers.setCell _ _ _)⟩
 ·exact Lib.BuilderAt.put (T := 63) (e := 5) hB hb2 (bs' := bs ++ Lib.strCells s) (by simpa [Lib.strCells_length] using hown') (by decide)
 ·exact (hb1.grown hgrow (by have := hb1.size; omega) (fun k hk => (hown.lt k hk).1)).setCell (p := ⟨b, 1, none⟩) hB _
theorem SBU.sb {B b : Nat} {bs : List Value} {W : World} (h : SBU B b bs W) : SB B b bs W := .inr h
theorem SB.next {B b : Nat} {bs : List Value} {W W' : World} (h : SB B b bs W) (hb : Below W.heap.size W W') : SB B b bs W' := by
 rcases h with ⟨h1, v, h2, h3, h4⟩ | ⟨h1, v, h2, h3, h4⟩
 ·exact .inl ⟨h1, v, blk_next hb h2, own_next hb h3, h4⟩
 ·exact .inr ⟨h1, v, blk_next hb h2, own_next hb h3, h4⟩
theorem own_any {B B' : Nat} {e : TypeId} {sz n : Nat} {v : Value} {xs : List Value} {W W' : World} {row : Option Nat} (h : W.ownsRow B' e sz v n xs) (hg : W.grownBy W' row) (hr : ∀ r, row = some r → B ≤ r ∧ ∃ o : Obj, W.heap[r]? = some o ∧ o.isCells = false) : W'.ownsRow B' e sz v n xs := by
 refine ⟨h.1, ?_⟩
 rcases h.2 with h2 | ⟨g, cap, cur, h1, h2, h3, h4⟩
 ·exact .inl h2
 ·refine .inr ⟨g, cap, cur, h1, h2, (hg.block g (blk_lt h3) fun e => ?_).trans h3, h4⟩
  obtain ⟨_, o, ho, hc⟩ := hr g e.symm
  rw [h3] at ho
  cases ho
  cases hc
theorem own_sb {B B' b : Nat} {β : Type} (bs : β → List Value) : OwnFrom B (fun k W => SB B' b (bs k) W) := by
 intro s W W' row h hg hr
 have K : ∀ {cs : Array Value} {T : TypeId}, W.heap[b]? = some (.cells cs T) → W'.heap[b]? = some (.cells cs T) := fun {cs T} h1 => by
  refine (hg.block b (blk_lt h1) fun e => ?_).trans h1
  obtain ⟨_, o, ho, hc⟩ := hr b e.symm
  rw [h1] at ho
  cases ho
  cases hc
 rcases h with ⟨h1, v, h2, h3, h4⟩ | ⟨h1, v, h2, h3, h4⟩
 ·exact .inl ⟨h1, v, K h2, own_any h3 hg hr, h4⟩
 ·exact .inr ⟨h1, v, K h2, own_any h3 hg hr, h4⟩
theorem SB.new (w : World) : SB w.heap.size w.heap.size [] (w.alloc (.cells #[.pointer none, .slice none 0 0] 63)) :=
 .inl ⟨Nat.le_refl _, _, blk_new w _, World.ownsRow_nil _ _ _ _, by simp [Value.ownBlock]⟩
end
section
theorem cut_less {s : List UInt8} (h : s ≠ []) (c : UInt8) : (Lib.cut s [c]).2.1.length < s.length := by
 have h0 := List.length_pos_iff.2 h
 unfold Lib.cut
 split
 ·rename_i e
  have := Lib.index_room s [c] e
  simp only [List.length_drop, List.length_singleton]
  omega
 ·simpa using h0
theorem cut_part (s : List UInt8) (c : UInt8) : (Lib.cut s [c]).1.length ≤ s.length := by
 unfold Lib.cut
 split
 ·simp only [List.length_take]; omega
 ·exact Nat.le_refl _
theorem linesL_fuel : ∀ (f g : Nat) (s : List UInt8), s.length < f → s.length < g → linesL f s = linesL g s
 | 0, _, s, h, _ => by omega
 | f + 1, 0, s, _, h => by omega
 | f + 1, g + 1, s, h1, h2 => by
  unfold linesL
  by_cases e : s = []
  ·rw [if_pos e, if_pos e]
  ·rw [if_neg e, if_neg e]
   have := cut_less e 10
   rw [linesL_fuel f g _ (by omega) (by omega)]
def linesF (s : List UInt8) : List (List UInt8) := linesL (s.length + 1) s
theorem linesF_nil : linesF [] = [] := rfl
theorem linesF_cons {s : List UInt8} (h : s ≠ []) : linesF s = (Lib.cut s [10]).1 :: linesF (Lib.cut s [10]).2.1 := by
 conv => lhs; unfold linesF linesL
 rw [if_neg h]
 have := cut_less h 10
 unfold linesF
 rw [linesL_fuel s.length _ _ this (Nat.lt_succ_self _)]
theorem linesF_part : ∀ (n : Nat) (s : List UInt8), s.length ≤ n → ∀ x ∈ linesF s, x.length ≤ s.length
 | 0, s, h => by
  have : s = [] := List.length_eq_zero_iff.1 (by omega)
  subst this; intro x hx; cases hx
 | n + 1, s, h => by
  by_cases e : s = []
  ·subst e; intro x hx; cases hx
  ·rw [linesF_cons e]
   have h1 := cut_less e 10
   intro x hx
   rcases List.mem_cons.1 hx with rfl | hx
   ·exact cut_part s 10
   ·exact Nat.le_trans (linesF_part n _ (by omega) x hx) (by omega)
theorem drop_line {L : List (List UInt8)} {k : Nat} {s : List UInt8} (h : L.drop k = linesF s) (hs : s ≠ []) : k < L.length ∧ L.getD k [] = (Lib.cut s [10]).1 ∧ L.drop (k + 1) = linesF (Lib.cut s [10]).2.1 := by
 rw [linesF_cons hs] at h
 have hk : k < L.length := by
  rcases Nat.lt_or_ge k L.length with h' | h'
  ·exact h'
  ·rw [List.drop_eq_nil_of_le h'] at h; cases h
 rw [List.drop_eq_getElem_cons hk] at h
 injection h with h1 h2
 exact ⟨hk, by rw [← h1]; simp [List.getD, hk], h2⟩
theorem drop_end {L : List (List UInt8)} {k : Nat} (h : L.drop k = linesF []) (hk : k ≤ L.length) : k = L.length := by
 rw [linesF_nil] at h
 have := List.drop_eq_nil_iff.1 h
 omega
end
section
open Go.ChangeShapes Go.WideShapes Go.ChangeAt Go.RowKit
attribute [local go_sem] Oper.semAt_some
theorem lines_calls (s : List UInt8) (w : World) : Calls Tryz.prog 33 #[Str s] w fun e w' =>
  e = .returned (.func (.func 60) #[] #[.pointer (some ⟨w.heap.size, 0, none⟩)]) ∧ w' = w.alloc (.cells #[Str s] 9) := by
 go_enter Tryz.func33, Tryz.ntmps33
 go_wp2
 go_ret
 exact ⟨rfl, rfl⟩
theorem cutN_calls (l : List UInt8) (w : World) (hs : l.length ≤ 100000) (g : GL w) :
  Calls Tryz.prog 61 #[Str l, .string ⟨#[10]⟩] w fun e w' => e = .returned (.tuple #[Str (Lib.cut l [10]).1, Str (Lib.cut l [10]).2.1, .bool (Lib.cut l [10]).2.2]) ∧ ∃ n, w' = w.drewN n := by
 obtain ⟨m, hm⟩ := g.max
 have h := Tryz.strings_Cut ⟨l.toArray⟩ ⟨#[10]⟩ m w (by show l.toArray.size < _; simp; omega) hm
 simpa using h
theorem grown_drewN9 (W : World) (n : Nat) (row : Option Nat) : W.grownBy (W.drewN n) row := ⟨rfl, rfl, rfl, Nat.le_refl _, fun _ _ _ => rfl⟩
abbrev encL (s : List UInt8) (k : Nat) : Array Value := #[Str ((linesF s).getD k [])]
theorem lines_seq {s : List UInt8} {n₀ Bt : Nat} {w : World} (hs : s.length ≤ 100000) (hG : ∀ W, Below n₀ w W → GL W)
  (hn : n₀ ≤ w.heap.size) (hB : w.heap[Bt]? = some (.cells #[Str s] 9)) :
  SeqN Tryz.prog 60 #[.pointer (some ⟨Bt, 0, none⟩)] (encL s) n₀ (linesF s).length w := by
 intro lp J Jx W hW hJ hJx hY h0
 have VB := blk_next hW hB
 have HG := zh (fun X (h : Below n₀ W X) => hG X ((hW.mono hn).trans h))
 have cB := blk_cell VB 0 (Str s) rfl
 have lB := blk_lt VB
 have SN : Hid ((linesF s).drop 0 = linesF s) := zh rfl
 clear hB VB hG
 refine callsIn_of_wp Tryz.func60 rfl trivial ?_ rfl
 simp only [Tryz.ntmps60, List.size_toArray, List.length_cons, List.length_nil, Nat.reduceAdd, Nat.reduceSub, Array.replicate_succ, Array.replicate_zero, List.push_toArray, List.append_toArray, List.nil_append, List.cons_append]
 gi_wp2
 gi_loopw [3] (fun i wr => ∃ (k : Nat) (r : List UInt8), k ≤ (linesF s).length ∧ r.length ≤ s.length ∧ i = Str r ∧ Hid ((linesF s).drop k = linesF r) ∧ Hid (J k wr) ∧ Hid (Below n₀ W wr) ∧ Hid (W.heap.size ≤ wr.heap.size)) (fun i _ => match i with | .string b => b.data.size | _ => 0)
 case atStart => exact ⟨0, s, Nat.zero_le _, Nat.le_refl _, rfl, SN, zh h0, zh (Below.refl _ _), zh (Nat.le_refl _)⟩
 case round =>
  obtain ⟨k, r, hk, hr, rfl, hd, hJs, hnx, hsz⟩ := hrel
  by_cases e : r = []
  ·subst e
   have ek := drop_end hd.out hk
   have q1 : (([] : List UInt8) == []) = true := rfl
   gi_wp2
   go_end0
   exact ⟨⟨_, rfl⟩, .inl (by rw [← ek]; exact hJs.out)⟩
  ·obtain ⟨hlt, hg, hd2⟩ := drop_line hd.out e
   have hl2 := cut_less e 10
   have q1 : (r == []) = false := by rw [beq_eq_false_iff_ne]; exact e
   have HGW := HG.out wr hnx.out
   have CC := zh (fun W3 (g : GL W3) => cutN_calls r W3 (by omega) g)
   gi_wp2
   refine ⟨trivial, rfl, (callsIn_wide.2 (CC.out wr HGW)).mono ?_⟩
   rintro e W2 ⟨rfl, n2, rfl⟩
   have hb2 : Below n₀ wr (wr.drewN n2) := below_drewN (Below.refl _ _) n2
   obtain ⟨fn, tmps, assign, body, hy, hR⟩ := hY k (wr.drewN n2) (hJ k wr _ none hJs.out (grown_drewN9 wr n2 none) (fun _ e => by cases e)) hlt
   dsimp only [encL] at hy
   rw [hg] at hy
   have HX := zh (hnx.out.trans hb2)
   have HZ : Hid (W.heap.size ≤ (wr.drewN n2).heap.size) := zh hsz.out
   have HD2 := zh hd2
   clear hd hg hb2 hd2 HGW
   generalize (Lib.cut r [10]).1 = c1 at *
   generalize (Lib.cut r [10]).2.1 = c2 at *
   gi_wp2
   refine ⟨rfl, ?_⟩
   refine hR.mono ?_
   rintro e W3 (⟨rfl, hJ3, hk3⟩ | ⟨rfl, hJx3⟩)
   ·gi_wp2
    go_roundw
    case rel => exact ⟨k + 1, c2, by omega, by omega, rfl, HD2, zh hJ3, zh (HX.out.trans hk3), zh (Nat.le_trans HZ.out hk3.size)⟩
    case measure => simpa using hl2
   ·gi_wp2
    refine bodyPost_ret (results_none rfl _ _ _) rfl ?_
    exact ⟨⟨_, rfl⟩, .inr ⟨k, hlt, hJx3⟩⟩
end
end Go.Proofs.YtbbnkclajpaghaaGreatDoor
