/- Several texts in one. -/
import Derived.Test.YtbbnkclajpaghaaGreatDoorMF03
import Derived.Test.YtbbnkclajpaghaaGreatDoorMF04
import Derived.Test.YtbbnkclajpaghaaGreatDoorMF05
set_option maxHeartbeats 8000000
set_option maxRecDepth 100000
set_option linter.unusedVariables false
set_option linter.unusedSimpArgs false
namespace Go.Proofs.YtbbnkclajpaghaaGreatDoor
section
open Go.ChangeShapes Go.WideShapes Go.ChangeAt Go.RowKit
attribute [local go_sem] Oper.semAt_some
theorem filter_take (p : Vr → Bool) {l : List Vr} {k : Nat} (hk : k < l.length) : List.filter p (l.take (k + 1)) = List.filter p (l.take k) ++ bif p (rowAt l k) then [rowAt l k] else [] := by
 rw [List.take_succ_eq_append_getElem hk, List.filter_append, rowAt_lt hk]
 cases h : p l[k] <;> simp [h]
theorem select_calls {A : Option Addr} {c : Nat} {l : List Vr} {w : World} (i j : Int) (hl : RT w A l) (hA : ∀ b off, A = some ⟨b, off, none⟩ → b < w.heap.size) (hc : l.length ≤ c) (hc' : c ≤ 9223372036854775807) : Calls Tryz.prog 18 #[.slice A l.length c, .int .i64 i, .int .i64 j] w fun e w' =>
  ∃ v, e = .returned (.tuple #[v, .int .i64 (selE l i j)]) ∧ OR w.heap.size w' v (selL l i j) ∧ Below w.heap.size w w' := by
 have CK : Hid (∀ W : World, Below w.heap.size w W → Calls Tryz.prog 20 #[.slice A l.length c] W fun e w' => e = .returned (.int .i64 (chkE l)) ∧ Below W.heap.size W w') := zh (fun W (hb : Below w.heap.size w W) => chk_calls (w := W) (hl.next hb) (fun b off h => Nat.lt_of_lt_of_le (hA b off h) hb.size) hc hc')
 obtain ⟨pe, hpe⟩ : ∃ pe, selE l i j = pe := ⟨_, rfl⟩
 obtain ⟨pl, hpl⟩ : ∃ pl, selL l i j = pl := ⟨_, rfl⟩
 obtain ⟨E, hE⟩ : ∃ E, chkE l = E := ⟨_, rfl⟩
 have HPE := zh hpe
 have HPL := zh hpl
 have HEE := zh hE
 rw [hpe, hpl]
 rw [hE] at CK
 clear hpe hpl hE
 have HL := zh hl
 have HA := zh hA
 have NN := zh (Below.refl w.heap.size w)
 clear hl hA
 refine (callsIn_wide (n := 0)).1 ?_
 refine callsIn_of_wp_marks Tryz.func18 rfl trivial ?_ rfl
 simp only [Tryz.ntmps18, List.size_toArray, List.length_cons, List.length_nil, Nat.reduceAdd, Nat.reduceSub, Array.replicate_succ, Array.replicate_zero, List.push_toArray, List.append_toArray, List.nil_append, List.cons_append]
 gi_wp2_with fail
 have V4 : Hid (((w.alloc (.cells #[.int .i64 i] 3)).alloc (.cells #[.int .i64 j] 3)).heap[w.heap.size]? = some (.cells #[.int .i64 i] 3)) := zh (blk_alloc (blk_new w _) _)
 have V5 : Hid (((w.alloc (.cells #[.int .i64 i] 3)).alloc (.cells #[.int .i64 j] 3)).heap[w.heap.size + 1]? = some (.cells #[.int .i64 j] 3)) := zh (blk_at _ (by simp))
 replace NN : Hid (Below w.heap.size w ((w.alloc (.cells #[.int .i64 i] 3)).alloc (.cells #[.int .i64 j] 3))) := zh (Bal (Bal NN.out _) _)
 generalize ((w.alloc (.cells #[.int .i64 i] 3)).alloc (.cells #[.int .i64 j] 3)) = W1 at *
 refine ⟨trivial, rfl, ((callsIn_wide (n := 0)).2 (CK.out _ NN.out)).mono ?_⟩
 rintro e w2 ⟨rfl, hb⟩
 replace NN := zh (Bgo NN.out hb)
 replace V4 := zn hb V4
 replace V5 := zn hb V5
 clear hb
 by_cases h0 : E ≠ 0
 ·have q1 : (E != 0) = true := by simpa using h0
  have HE0 := zh h0
  clear h0
  obtain ⟨c_V4_0, f_V4_0, l_V4⟩ := zfl1 V4
  obtain ⟨c_V5_0, f_V5_0, l_V5⟩ := zfl1 V5
  gi_wp2_with fail
  clear c_V4_0 f_V4_0 l_V4 c_V5_0 f_V5_0 l_V5
  have h1 : selE l i j = E := by unfold selE; rw [HEE.out, if_pos HE0.out]
  have h2 : selL l i j = [] := by unfold selL; rw [h1]; exact if_neg HE0.out
  exact ⟨.tuple #[.slice none 0 0, .int .i64 E], by simp [results, Tryz.results18, go_sem], ⟨_, by rw [← HPE.out, h1], by rw [← HPL.out, h2]; exact OR.nil _ _, NN.out⟩⟩
 have h0' : E = 0 := by omega
 subst h0'
 clear h0
 obtain ⟨hg, hn⟩ := chkE_good HEE.out
 clear hg
 have hc4 : i < 0 ∨ (0 ≤ i ∧ j ≤ i) ∨ (0 ≤ i ∧ i < j ∧ 8 ≤ j) ∨ (0 ≤ i ∧ i < j ∧ j < 8) := by omega
 rcases hc4 with h | ⟨h, h1⟩ | ⟨h, h1, h2⟩ | ⟨h, h1, h2⟩
 ·have d1 : decide (i < 0) = true := decide_eq_true h
  obtain ⟨c_V4_0, f_V4_0, l_V4⟩ := zfl1 V4
  obtain ⟨c_V5_0, f_V5_0, l_V5⟩ := zfl1 V5
  gi_wp2_with fail
  clear c_V4_0 f_V4_0 l_V4 c_V5_0 f_V5_0 l_V5
  have h1 : selE l i j = 2 := by unfold selE; rw [HEE.out, if_neg (by omega), if_pos (by omega)]
  have h2 : selL l i j = [] := by unfold selL; rw [h1]; exact if_neg (by omega)
  exact ⟨.tuple #[.slice none 0 0, .int .i64 2], by simp [results, Tryz.results18, go_sem], ⟨_, by rw [← HPE.out, h1], by rw [← HPL.out, h2]; exact OR.nil _ _, NN.out⟩⟩
 ·have d1 : decide (i < 0) = false := decide_eq_false (by omega)
  have d2 : decide (j ≤ i) = true := decide_eq_true h1
  obtain ⟨c_V4_0, f_V4_0, l_V4⟩ := zfl1 V4
  obtain ⟨c_V5_0, f_V5_0, l_V5⟩ := zfl1 V5
  gi_wp2_with fail
  clear c_V4_0 f_V4_0 l_V4 c_V5_0 f_V5_0 l_V5
  have h1 : selE l i j = 2 := by unfold selE; rw [HEE.out, if_neg (by omega), if_pos (by omega)]
  have h2 : selL l i j = [] := by unfold selL; rw [h1]; exact if_neg (by omega)
  exact ⟨.tuple #[.slice none 0 0, .int .i64 2], by simp [results, Tryz.results18, go_sem], ⟨_, by rw [← HPE.out, h1], by rw [← HPL.out, h2]; exact OR.nil _ _, NN.out⟩⟩
 ·have d1 : decide (i < 0) = false := decide_eq_false (by omega)
  have d2 : decide (j ≤ i) = false := decide_eq_false (by omega)
  have d3 : decide (8 ≤ j) = true := decide_eq_true h2
  obtain ⟨c_V4_0, f_V4_0, l_V4⟩ := zfl1 V4
  obtain ⟨c_V5_0, f_V5_0, l_V5⟩ := zfl1 V5
  gi_wp2_with fail
  clear c_V4_0 f_V4_0 l_V4 c_V5_0 f_V5_0 l_V5
  have h1 : selE l i j = 2 := by unfold selE; rw [HEE.out, if_neg (by omega), if_pos (by omega)]
  have h2 : selL l i j = [] := by unfold selL; rw [h1]; exact if_neg (by omega)
  exact ⟨.tuple #[.slice none 0 0, .int .i64 2], by simp [results, Tryz.results18, go_sem], ⟨_, by rw [← HPE.out, h1], by rw [← HPL.out, h2]; exact OR.nil _ _, NN.out⟩⟩
 have HSE : Hid (selE l i j = 0) := zh (by unfold selE; rw [HEE.out, if_neg (by omega), if_neg (by omega)])
 clear HEE CK
 have d1 : decide (i < 0) = false := decide_eq_false (by omega)
 have d2 : decide (j ≤ i) = false := decide_eq_false (by omega)
 have d3 : decide (8 ≤ j) = false := decide_eq_false (by omega)
 obtain ⟨c_V4_0, f_V4_0, l_V4⟩ := zfl1 V4
 obtain ⟨c_V5_0, f_V5_0, l_V5⟩ := zfl1 V5
 gi_wp2_with fail
 clear c_V4_0 f_V4_0 l_V4 c_V5_0 f_V5_0 l_V5
 refine ⟨trivial, rfl, (callsIn_wide.2 (rows_calls A _ c _)).mono ?_⟩
 rintro e w9 ⟨rfl, rfl⟩
 gi_wp2_with fail
 have LG : Hid (w.heap.size + 2 ≤ w2.heap.size) := zh (by have := blk_lt V5.out; omega)
 clear d1 d2 d3
 replace NN : Hid (Below w.heap.size w ((w2.alloc (.cells #[.slice none 0 0] 22)).alloc (.cells #[.slice A l.length c] 22))) := zh (Bal (Bal NN.out _) _)
 have SZ : Hid (((w2.alloc (.cells #[.slice none 0 0] 22)).alloc (.cells #[.slice A l.length c] 22)).heap.size = w2.heap.size + 2) := zh (by simp)
 replace V4 : Hid (((w2.alloc (.cells #[.slice none 0 0] 22)).alloc (.cells #[.slice A l.length c] 22)).heap[w.heap.size]? = some (.cells #[.int .i64 i] 3)) := zh (blk_alloc (blk_alloc V4.out _) _)
 replace V5 : Hid (((w2.alloc (.cells #[.slice none 0 0] 22)).alloc (.cells #[.slice A l.length c] 22)).heap[w.heap.size + 1]? = some (.cells #[.int .i64 j] 3)) := zh (blk_alloc (blk_alloc V5.out _) _)
 have V9 : Hid (((w2.alloc (.cells #[.slice none 0 0] 22)).alloc (.cells #[.slice A l.length c] 22)).heap[w2.heap.size]? = some (.cells #[.slice none 0 0] 22)) := zh (blk_alloc (blk_new w2 _) _)
 have VT : Hid (((w2.alloc (.cells #[.slice none 0 0] 22)).alloc (.cells #[.slice A l.length c] 22)).heap[w2.heap.size + 1]? = some (.cells #[.slice A l.length c] 22)) := zh (blk_at _ (by simp))
 generalize ((w2.alloc (.cells #[.slice none 0 0] 22)).alloc (.cells #[.slice A l.length c] 22)) = W0 at *
 generalize w2.heap.size = g2 at *
 refine range_n 50 #[.pointer (some ⟨g2 + 1, 0, none⟩)] rfl (enters_of Tryz.func50 (by kernel_rfl) rfl) (encR l) w.heap.size l.length
  (rows_seq (HL.out.next NN.out) HA.out (by omega) (by have := SZ.out; have := LG.out; omega) VT.out) (by have := SZ.out; have := LG.out; omega) (fun _ => rfl)
  (fun k W => (W.heap[w.heap.size]? = some (.cells #[.int .i64 i] 3)) ∧ (W.heap[w.heap.size + 1]? = some (.cells #[.int .i64 j] 3)) ∧ (Below w.heap.size w W) ∧ (g2 + 2 ≤ W.heap.size) ∧ (∃ A9 c9, W.heap[g2]? = some (.cells #[.slice A9 (List.filter (selB i j) (l.take k)).length c9] 22) ∧ OR W0.heap.size W (.slice A9 (List.filter (selB i j) (l.take k)).length c9) (List.filter (selB i j) (l.take k))))
  (fun cd k W => False)
  (fun k a' W => ∃ Bx : Nat, (a' = { tmps := #[.slice A l.length c, .int .i64 i, .int .i64 j, undef, .pointer (some ⟨w.heap.size, 0, none⟩), .pointer (some ⟨w.heap.size + 1, 0, none⟩), .slice none 0 0, .int .i64 0, .int .i64 0, .pointer (some ⟨g2, 0, none⟩), undef, .pointer (some ⟨Bx, 0, none⟩), .slice A l.length c, .int .i64 0, .int .i64 0, .bool false, undef, .int .i64 i, .bool false, .bool false, .int .i64 i, .int .i64 j, .bool false, .bool false, .bool false, .int .i64 j, .bool false, .bool false, .slice A l.length c, .func (.func 50) #[] #[.pointer (some ⟨g2 + 1, 0, none⟩)], .int .i64 (k : Int), Rwv (rowAt l k), undef, undef, undef, undef, undef, undef, undef, undef, undef, undef, undef, undef, undef, undef, undef, undef, undef], defers := [] }) ∧ (g2 + 2 ≤ Bx) ∧ (W.heap[Bx]? = some (.cells #[.int .i64 (rowAt l k).t, .int .i64 (rowAt l k).c, .int .i64 (rowAt l k).i, .int .i64 (rowAt l k).j, .int .i64 (rowAt l k).re, .int .i64 (rowAt l k).im, .int .i64 (rowAt l k).dn, .int .i64 (rowAt l k).n] 67)) ∧ (W.heap[w.heap.size]? = some (.cells #[.int .i64 i] 3)) ∧ (W.heap[w.heap.size + 1]? = some (.cells #[.int .i64 j] 3)) ∧ (Below w.heap.size w W) ∧ (g2 + 2 ≤ W.heap.size) ∧ (∃ A9 c9, W.heap[g2]? = some (.cells #[.slice A9 (List.filter (selB i j) (l.take k)).length c9] 22) ∧ OR W0.heap.size W (.slice A9 (List.filter (selB i j) (l.take k)).length c9) (List.filter (selB i j) (l.take k))))
  ((own_blk _ _ _).and ((own_blk _ _ _).and ((ownFrom_below (Nat.le_refl _) (by have := SZ.out; have := LG.out; omega)).and ((own_size _).and (own_ex fun _ => own_ex fun _ => (own_blk _ _ _).and (own_row _ _))))))
  (fun _ => (own_pure _))
  (fun _ => own_ex fun _ => ((own_pure _).and ((own_pure _).and ((own_blk _ _ _).and ((own_blk _ _ _).and ((own_blk _ _ _).and ((ownFrom_below (Nat.le_refl _) (by have := SZ.out; have := LG.out; omega)).and ((own_size _).and (own_ex fun _ => own_ex fun _ => (own_blk _ _ _).and (own_row _ _))))))))))
  ⟨V4.out, V5.out, NN.out, (by have := SZ.out; have := LG.out; omega), ⟨none, 0, V9.out, OR.nil _ _⟩⟩ ?assign ?body ?done ?stop
 case assign =>
  rintro lp k W K ⟨v4, v5, nn, sz, A9, c9, v9, o9⟩ hlt hK
  gi_wp2
  exact hK _ _ (keeps_of_below (Bal (Below.refl _ _) _)) ((Below.refl _ W).alloc nn.size _) ⟨W.heap.size, rfl, sz, blk_new W _, blk_alloc v4 _, blk_alloc v5 _, Bal nn _, by rw [World.size_alloc]; omega, A9, c9, blk_alloc v9 _, o9.alloc _⟩
 case body =>
  rintro lp k a' W ⟨Bx, rfl, lx, vx, v4, v5, nn, sz, A9, c9, v9, o9⟩ hlt
  have hlen : (List.filter (selB i j) (l.take k)).length ≤ 200 := Nat.le_trans (List.length_filter_le _ _) (by rw [List.length_take]; omega)
  have HF := zh (filter_take (selB i j) hlt)
  have hz := SZ.out
  have hg := LG.out
  generalize List.filter (selB i j) (l.take k) = L9 at *
  generalize rowAt l k = s at *
  have O9 := zh o9
  have SW : Hid (W0.heap.size ≤ W.heap.size) := zh (by omega)
  clear o9
  have NN := zh nn
  have KF := zh (KeepsFrom.refl W0.heap.size W)
  have V4 := zh v4
  have V5 := zh v5
  have V9 := zh v9
  have VX := zh vx
  clear v4 v5 v9 vx
  by_cases h : s.i = i ∧ s.j = j
  ·obtain ⟨h1, h2⟩ := h
   have hs : selB i j s = true := by simp [selB, h1, h2]
   rw [hs] at HF
   have q1 : (s.i == i) = true := by simp [h1]
   have q2 : (s.j == j) = true := by simp [h2]
   clear hs h1 h2
   obtain ⟨c_V4_0, f_V4_0, l_V4⟩ := zfl1 V4
   obtain ⟨c_V5_0, f_V5_0, l_V5⟩ := zfl1 V5
   obtain ⟨c_V9_0, f_V9_0, l_V9⟩ := zfl1 V9
   obtain ⟨c_VX_0, f_VX_0, c_VX_1, f_VX_1, c_VX_2, f_VX_2, c_VX_3, f_VX_3, c_VX_4, f_VX_4, c_VX_5, f_VX_5, c_VX_6, f_VX_6, c_VX_7, f_VX_7, l_VX⟩ := zfl8 VX
   gi_wp2_with (gi_at_builtin; refine wpListIn_app rfl _ _ rfl W0.heap.size _ L9 rfl (some ⟨W.heap.size, 0, none⟩) 1 1 [s] rfl (O9.out.alloc _) rfl (RT.one (blk_new W _)) ?_ ?_ ?_; omega; (rw [World.size_alloc]; have := SW.out; omega); intro v1 w1 o1 q1 k1; obtain ⟨A1, c1, hv1, -⟩ := OR.form o1; rw [show (L9 ++ [s]).length = L9.length + 1 by simp] at hv1; subst hv1; have B1 := zh (((Below.refl W0.heap.size W).alloc SW.out _).trans q1); have O1 := zh o1; have K1 := zh (((KeepsOthers.alloc W _).trans k1).from W0.heap.size); have V91 := zh (blk_B B1.out V9.out (by omega)); have c9a := blk_cell V91.out 0 (.slice A9 L9.length c9) rfl; have f9a := blk_frozen V91.out 0; have l9a := blk_lt V91.out; clear o1 q1 k1)
   clear c_V4_0 f_V4_0 l_V4 c_V5_0 f_V5_0 l_V5 c_V9_0 f_V9_0 l_V9 c_VX_0 f_VX_0 c_VX_1 f_VX_1 c_VX_2 f_VX_2 c_VX_3 f_VX_3 c_VX_4 f_VX_4 c_VX_5 f_VX_5 c_VX_6 f_VX_6 c_VX_7 f_VX_7 l_VX
   clear c9a f9a l9a V91
   replace V4 := zh (blk_B B1.out V4.out (by omega))
   replace V5 := zh (blk_B B1.out V5.out (by omega))
   replace V9 := zh (blk_B B1.out V9.out (by omega))
   replace NN := zh (NN.out.trans (B1.out.mono (by omega)))
   replace KF := K1
   clear VX
   replace KF := zh (keep_set (KF.out) (g2) 0 (.slice A1 (L9.length + 1) c1))
   replace O1 := zh (OR.set_other (O1.out) (show g2 < W0.heap.size by omega) 0 (.slice A1 (L9.length + 1) c1))
   generalize hW : (w1.setCell ⟨g2, 0, none⟩ (.slice A1 (L9.length + 1) c1)) = W1 at *
   replace V4 : Hid (W1.heap[w.heap.size]? = some (.cells #[.int .i64 i] 3)) := zs hW (blk_set_other (V4.out) (by omega) 0 (.slice A1 (L9.length + 1) c1))
   replace V5 : Hid (W1.heap[w.heap.size + 1]? = some (.cells #[.int .i64 j] 3)) := zs hW (blk_set_other (V5.out) (by omega) 0 (.slice A1 (L9.length + 1) c1))
   replace V9 : Hid (W1.heap[g2]? = some (.cells #[.slice A1 (L9.length + 1) c1] 22)) := zs hW (blk_set (V9.out) 0 (.slice A1 (L9.length + 1) c1))
   replace NN := zt hW (p := Below _ _) (Bset1 (NN.out) (by omega) 0 (.slice A1 (L9.length + 1) c1))
   clear hW
   refine ⟨KF.out, below_mid nn NN.out KF.out.size, V4.out, V5.out, NN.out, by have := KF.out.size; omega, A1, c1, ?_, ?_⟩
   ·rw [HF.out]; simpa using V9.out
   ·rw [HF.out]; simpa using O1.out
  ·have hs : selB i j s = false := by simp [selB]; omega
   rw [hs] at HF
   by_cases h1 : s.i = i
   ·have q1 : (s.i == i) = true := by simp [h1]
    have q2 : (s.j == j) = false := by rw [beq_eq_false_iff_ne]; omega
    clear hs h h1
    obtain ⟨c_V4_0, f_V4_0, l_V4⟩ := zfl1 V4
    obtain ⟨c_V5_0, f_V5_0, l_V5⟩ := zfl1 V5
    obtain ⟨c_V9_0, f_V9_0, l_V9⟩ := zfl1 V9
    obtain ⟨c_VX_0, f_VX_0, c_VX_1, f_VX_1, c_VX_2, f_VX_2, c_VX_3, f_VX_3, c_VX_4, f_VX_4, c_VX_5, f_VX_5, c_VX_6, f_VX_6, c_VX_7, f_VX_7, l_VX⟩ := zfl8 VX
    gi_wp2_with fail
    clear c_V4_0 f_V4_0 l_V4 c_V5_0 f_V5_0 l_V5 c_V9_0 f_V9_0 l_V9 c_VX_0 f_VX_0 c_VX_1 f_VX_1 c_VX_2 f_VX_2 c_VX_3 f_VX_3 c_VX_4 f_VX_4 c_VX_5 f_VX_5 c_VX_6 f_VX_6 c_VX_7 f_VX_7 l_VX
    refine ⟨KF.out, below_mid nn NN.out KF.out.size, V4.out, V5.out, NN.out, by have := KF.out.size; omega, A9, c9, ?_, ?_⟩
    ·rw [HF.out]; simpa using V9.out
    ·rw [HF.out]; simpa using O9.out
   ·have q1 : (s.i == i) = false := by rw [beq_eq_false_iff_ne]; omega
    clear hs h h1
    obtain ⟨c_V4_0, f_V4_0, l_V4⟩ := zfl1 V4
    obtain ⟨c_V5_0, f_V5_0, l_V5⟩ := zfl1 V5
    obtain ⟨c_V9_0, f_V9_0, l_V9⟩ := zfl1 V9
    obtain ⟨c_VX_0, f_VX_0, c_VX_1, f_VX_1, c_VX_2, f_VX_2, c_VX_3, f_VX_3, c_VX_4, f_VX_4, c_VX_5, f_VX_5, c_VX_6, f_VX_6, c_VX_7, f_VX_7, l_VX⟩ := zfl8 VX
    gi_wp2_with fail
    clear c_V4_0 f_V4_0 l_V4 c_V5_0 f_V5_0 l_V5 c_V9_0 f_V9_0 l_V9 c_VX_0 f_VX_0 c_VX_1 f_VX_1 c_VX_2 f_VX_2 c_VX_3 f_VX_3 c_VX_4 f_VX_4 c_VX_5 f_VX_5 c_VX_6 f_VX_6 c_VX_7 f_VX_7 l_VX
    refine ⟨KF.out, below_mid nn NN.out KF.out.size, V4.out, V5.out, NN.out, by have := KF.out.size; omega, A9, c9, ?_, ?_⟩
    ·rw [HF.out]; simpa using V9.out
    ·rw [HF.out]; simpa using O9.out
 case done =>
  rintro D W hD ⟨v4, v5, nn, sz, A9, c9, v9, o9⟩ hK
  have hz := SZ.out
  have hg := LG.out
  rw [List.take_length] at v9 o9
  have HP : Hid (selL l i j = List.filter (selB i j) l) := zh (by unfold selL; rw [if_pos HSE.out])
  generalize List.filter (selB i j) l = L9 at *
  have O9 := zh o9
  have HK := zh hK
  clear o9 hK
  have NN := zh nn
  have V9 := zh v9
  clear v4 v5 v9
  obtain ⟨c_V9_0, f_V9_0, l_V9⟩ := zfl1 V9
  gi_wp2_with fail
  clear c_V9_0 f_V9_0 l_V9
  refine ⟨by simp, .inl ⟨_, _, rfl, run_takeDeferred HK.out, ?_⟩⟩
  exact ⟨.tuple #[.slice A9 L9.length c9, .int .i64 0], by simp [results, Tryz.results18, go_sem], ⟨_, by rw [← HPE.out, HSE.out], by rw [← HPL.out, HP.out]; exact ownsRow_putObj (OR.mono O9.out (by omega)) _ HK.out rfl, put_below NN.out (by omega) (Nat.le_refl _) HK.out⟩⟩
 case stop =>
  rintro D cd k W hD hlt h hK
  exact h.elim
end
section
open Go.ChangeShapes Go.WideShapes Go.ChangeAt Go.RowKit
attribute [local go_sem] Oper.semAt_some
theorem sb_string {B b : Nat} {l : List UInt8} {w : World} (h : SB B b (Lib.byteCells l) w) (hBw : B ≤ w.heap.size) : Calls Tryz.prog 31 #[.pointer (some ⟨b, 0, none⟩)] w fun e w' => e = .returned (Str l) ∧ Below B w w' ∧ Lib.OthersKept 5 (some b) w w' := by
 refine (Any.Builder_String_any_k Tryz.lays169 Tryz.Builder_Extra_169 B b l w (h.imp Lib.BuilderAtF.of Lib.BuilderAtF.of) hBw).mono ?_
 rintro e w' ⟨rfl, -, h1, h2⟩
 exact ⟨rfl, h1, h2⟩
theorem sb_len {B b : Nat} {l : List UInt8} {w : World} (h : SB B b (Lib.byteCells l) w) : Calls Tryz.prog 30 #[.pointer (some ⟨b, 0, none⟩)] w fun e w' => e = .returned (.int .i64 (l.length : Nat)) ∧ w' = w := by
 have := Tryz.Builder_Len B b (Lib.byteCells l) w h
 rw [show (Lib.byteCells l).length = l.length by simp [Lib.byteCells]] at this
 exact this
theorem strC (a : List UInt8) : Lib.strCells ⟨a.toArray⟩ = Lib.byteCells a := by rw [Lib.strCells_eq]
theorem bytes_app (a b : List UInt8) : Lib.byteCells (a ++ b) = Lib.byteCells a ++ Lib.byteCells b := by unfold Lib.byteCells; rw [List.map_append]
theorem sb_line {B b : Nat} {a c : List UInt8} {w : World} (h : SB B b (Lib.byteCells a) w) (hl : a.length ≤ 100000) (hc : c.length ≤ 100000) (hB : B ≤ w.heap.size) : Calls Tryz.prog 29 #[.pointer (some ⟨b, 0, none⟩), Str c] w fun e w' =>
  e = .returned (.tuple #[.int .i64 (c.length : Nat), .nilIface]) ∧ SB B b (Lib.byteCells (a ++ c)) w' ∧ Below B w w' ∧ KeepsOthers w w' := by
 have hz : (⟨c.toArray⟩ : ByteArray).size = c.length := by show c.toArray.size = _; simp
 refine (sb_write B b _ ⟨c.toArray⟩ w h (by rw [hz]; simp only [Lib.byteCells, List.length_map]; omega) hB).mono ?_
 rintro e w' ⟨rfl, h1, h2, h3⟩
 rw [hz]
 refine ⟨rfl, ?_, h2, h3⟩
 rw [bytes_app, ← strC c]
 exact h1.sb
theorem txT_app (a b : List Vr) : txT (a ++ b) = txT a ++ txT b := by simp [txT]
theorem txT_pre (t : List Vr) (k : Nat) : (txT (t.take k)).length ≤ (txT t).length := by
 conv => rhs; rw [← List.take_append_drop k t, txT_app, List.length_append]
 omega
theorem txT_next {l : List Vr} {k : Nat} (h : k < l.length) : txT (l.take (k + 1)) = txT (l.take k) ++ (lnL (rowAt l k) ++ [10]) := txT_take (by rw [rowAt_lt h]; exact List.getElem?_eq_getElem h)
theorem ttext_calls {A : Option Addr} {c : Nat} {l : List Vr} {w : World} (hl : RT w A l) (hA : ∀ b off, A = some ⟨b, off, none⟩ → b < w.heap.size) (hc : l.length ≤ c) (hc' : c ≤ 9223372036854775807) (g : GL w) : Calls Tryz.prog 9 #[.slice A l.length c] w fun e w' =>
  e = .returned (.tuple #[Str (txO l), .int .i64 (txE l)]) ∧ Below w.heap.size w w' := by
 have CK : Hid (∀ W : World, Below w.heap.size w W → Calls Tryz.prog 20 #[.slice A l.length c] W fun e w' => e = .returned (.int .i64 (chkE l)) ∧ Below W.heap.size W w') := zh (fun W (hb : Below w.heap.size w W) => chk_calls (w := W) (hl.next hb) (fun b off h => Nat.lt_of_lt_of_le (hA b off h) hb.size) hc hc')
 have GG := zh (fun W (h : Below w.heap.size w W) => g.next h)
 have HL := zh hl
 have HA := zh hA
 have NN := zh (Below.refl w.heap.size w)
 have EX : Hid (txE l = if chkE l ≠ 0 then chkE l else if 20000 < (txT l).length then 4 else 0) := zh rfl
 have OX : Hid (txO l = if txE l = 0 then txT l else []) := zh rfl
 obtain ⟨pe, hpe⟩ : ∃ pe, txE l = pe := ⟨_, rfl⟩
 obtain ⟨po, hpo⟩ : ∃ po, txO l = po := ⟨_, rfl⟩
 rw [hpe] at EX OX ⊢
 rw [hpo] at OX ⊢
 obtain ⟨E, hE⟩ : ∃ E, chkE l = E := ⟨_, rfl⟩
 have HEE := zh hE
 rw [hE] at CK EX
 clear hpe hpo hE hl hA g
 refine (callsIn_wide (n := 0)).1 ?_
 refine callsIn_of_wp_marks Tryz.func9 rfl trivial ?_ rfl
 simp only [Tryz.ntmps9, List.size_toArray, List.length_cons, List.length_nil, Nat.reduceAdd, Nat.reduceSub, Array.replicate_succ, Array.replicate_zero, List.push_toArray, List.append_toArray, List.nil_append, List.cons_append]
 gi_wp2_with fail
 have V2 : Hid (((w.alloc (.cells #[.string ⟨#[]⟩] 9)).alloc (.cells #[.int .i64 0] 24)).heap[w.heap.size]? = some (.cells #[.string ⟨#[]⟩] 9)) := zh (blk_alloc (blk_new w _) _)
 have V3 : Hid (((w.alloc (.cells #[.string ⟨#[]⟩] 9)).alloc (.cells #[.int .i64 0] 24)).heap[w.heap.size + 1]? = some (.cells #[.int .i64 0] 24)) := zh (blk_at _ (by simp))
 replace NN : Hid (Below w.heap.size w ((w.alloc (.cells #[.string ⟨#[]⟩] 9)).alloc (.cells #[.int .i64 0] 24))) := zh (Bal (Bal NN.out _) _)
 generalize ((w.alloc (.cells #[.string ⟨#[]⟩] 9)).alloc (.cells #[.int .i64 0] 24)) = W1 at *
 refine ⟨trivial, rfl, ((callsIn_wide (n := 0)).2 (CK.out _ NN.out)).mono ?_⟩
 rintro e w2 ⟨rfl, hb⟩
 replace NN := zh (Bgo NN.out hb)
 replace V2 := zn hb V2
 replace V3 := zn hb V3
 clear hb
 by_cases h0 : E ≠ 0
 ·have q1 : (E != 0) = true := by simpa using h0
  have HE1 : Hid (pe = E) := zh (by rw [EX.out, if_pos h0])
  have HO1 : Hid (po = []) := zh (by rw [OX.out, HE1.out, if_neg h0])
  clear h0 EX OX
  obtain ⟨c_V2_0, f_V2_0, l_V2⟩ := zfl1 V2
  obtain ⟨c_V3_0, f_V3_0, l_V3⟩ := zfl1 V3
  gi_wp2_with fail
  clear c_V2_0 f_V2_0 l_V2 c_V3_0 f_V3_0 l_V3
  generalize hW : ((w2.setCell ⟨w.heap.size, 0, none⟩ (.string ⟨#[]⟩)).setCell ⟨w.heap.size + 1, 0, none⟩ (.int .i64 E)) = W3 at *
  replace V2 : Hid (W3.heap[w.heap.size]? = some (.cells #[.string ⟨#[]⟩] 9)) := zs hW (blk_set_other (blk_set (V2.out) 0 (.string ⟨#[]⟩)) (by omega) 0 (.int .i64 E))
  replace V3 : Hid (W3.heap[w.heap.size + 1]? = some (.cells #[.int .i64 E] 24)) := zs hW (blk_set (blk_set_other (V3.out) (by omega) 0 (.string ⟨#[]⟩)) 0 (.int .i64 E))
  replace NN := zt hW (p := Below _ _) (Bset1 (Bset1 (NN.out) (by omega) 0 (.string ⟨#[]⟩)) (by omega) 0 (.int .i64 E))
  clear hW
  obtain ⟨c_V2_0, l_V2⟩ := zcl1 V2
  obtain ⟨c_V3_0, l_V3⟩ := zcl1 V3
  exact ⟨.tuple #[Str [], .int .i64 E], by simp [results, Tryz.results9, go_sem, c_V2_0, c_V3_0], ⟨by rw [HE1.out, HO1.out], NN.out⟩⟩
 have h0' : E = 0 := by omega
 subst h0'
 clear h0 CK
 have RB := zh (chk_rows HEE.out)
 have LM := zh (txT_max (t := l) (fun r hr => (chk_rows HEE.out).2 r hr))
 have LN : l.length ≤ 200 := (chk_rows HEE.out).1
 rw [if_neg (by simp)] at EX
 gi_wp2_with fail
 refine ⟨trivial, rfl, (callsIn_wide.2 (rows_calls A _ c _)).mono ?_⟩
 rintro e w9 ⟨rfl, rfl⟩
 gi_wp2_with fail
 have LG : Hid (w.heap.size + 2 ≤ w2.heap.size) := zh (by have := blk_lt V3.out; omega)
 replace NN : Hid (Below w.heap.size w ((w2.alloc (.cells #[.pointer none, .slice none 0 0] 63)).alloc (.cells #[.slice A l.length c] 22))) := zh (Bal (Bal NN.out _) _)
 have SZ : Hid (((w2.alloc (.cells #[.pointer none, .slice none 0 0] 63)).alloc (.cells #[.slice A l.length c] 22)).heap.size = w2.heap.size + 2) := zh (by simp)
 replace V2 : Hid (((w2.alloc (.cells #[.pointer none, .slice none 0 0] 63)).alloc (.cells #[.slice A l.length c] 22)).heap[w.heap.size]? = some (.cells #[.string ⟨#[]⟩] 9)) := zh (blk_alloc (blk_alloc V2.out _) _)
 replace V3 : Hid (((w2.alloc (.cells #[.pointer none, .slice none 0 0] 63)).alloc (.cells #[.slice A l.length c] 22)).heap[w.heap.size + 1]? = some (.cells #[.int .i64 0] 24)) := zh (blk_alloc (blk_alloc V3.out _) _)
 have VB : Hid (((w2.alloc (.cells #[.pointer none, .slice none 0 0] 63)).alloc (.cells #[.slice A l.length c] 22)).heap[w2.heap.size]? = some (.cells #[.pointer none, .slice none 0 0] 63)) := zh (blk_alloc (blk_new w2 _) _)
 have VT : Hid (((w2.alloc (.cells #[.pointer none, .slice none 0 0] 63)).alloc (.cells #[.slice A l.length c] 22)).heap[w2.heap.size + 1]? = some (.cells #[.slice A l.length c] 22)) := zh (blk_at _ (by simp))
 generalize ((w2.alloc (.cells #[.pointer none, .slice none 0 0] 63)).alloc (.cells #[.slice A l.length c] 22)) = W0 at *
 generalize w2.heap.size = g2 at *
 refine range_n 50 #[.pointer (some ⟨g2 + 1, 0, none⟩)] rfl (enters_of Tryz.func50 (by kernel_rfl) rfl) (encR l) w.heap.size l.length
  (rows_seq (HL.out.next NN.out) HA.out (by omega) (by have := SZ.out; have := LG.out; omega) VT.out) (by have := SZ.out; have := LG.out; omega) (fun _ => rfl)
  (fun k W => (W.heap[w.heap.size]? = some (.cells #[.string ⟨#[]⟩] 9)) ∧ (W.heap[w.heap.size + 1]? = some (.cells #[.int .i64 0] 24)) ∧ (Below w.heap.size w W) ∧ (g2 + 2 ≤ W.heap.size) ∧ (SB g2 g2 (Lib.byteCells (txT (l.take k))) W) ∧ ((txT (l.take k)).length ≤ 20000))
  (fun cd k W => ((cd = .ret) ∧ (20000 < (txT l).length) ∧ (W.heap[w.heap.size]? = some (.cells #[.string ⟨#[]⟩] 9)) ∧ (W.heap[w.heap.size + 1]? = some (.cells #[.int .i64 4] 24)) ∧ (Below w.heap.size w W)))
  (fun k a' W => ∃ Bx : Nat, (a' = { tmps := #[.slice A l.length c, undef, .pointer (some ⟨w.heap.size, 0, none⟩), .pointer (some ⟨w.heap.size + 1, 0, none⟩), .int .i64 0, .pointer (some ⟨g2, 0, none⟩), undef, .pointer (some ⟨Bx, 0, none⟩), undef, undef, .slice A l.length c, .int .i64 0, .int .i64 0, .bool false, undef, .slice A l.length c, .func (.func 50) #[] #[.pointer (some ⟨g2 + 1, 0, none⟩)], .int .i64 (k : Int), Rwv (rowAt l k), undef, undef, undef, undef, undef, undef, undef, undef, undef, undef, undef, undef, undef], defers := [] }) ∧ (g2 + 2 ≤ Bx) ∧ (W.heap[Bx]? = some (.cells #[.int .i64 (rowAt l k).t, .int .i64 (rowAt l k).c, .int .i64 (rowAt l k).i, .int .i64 (rowAt l k).j, .int .i64 (rowAt l k).re, .int .i64 (rowAt l k).im, .int .i64 (rowAt l k).dn, .int .i64 (rowAt l k).n] 67)) ∧ (W.heap[w.heap.size]? = some (.cells #[.string ⟨#[]⟩] 9)) ∧ (W.heap[w.heap.size + 1]? = some (.cells #[.int .i64 0] 24)) ∧ (Below w.heap.size w W) ∧ (g2 + 2 ≤ W.heap.size) ∧ (SB g2 g2 (Lib.byteCells (txT (l.take k))) W) ∧ ((txT (l.take k)).length ≤ 20000))
  ((own_blk _ _ _).and ((own_blk _ _ _).and ((ownFrom_below (Nat.le_refl _) (by have := SZ.out; have := LG.out; omega)).and ((own_size _).and ((own_sb _).and (own_pure _))))))
  (fun _ => ((own_pure _).and ((own_pure _).and ((own_blk _ _ _).and ((own_blk _ _ _).and (ownFrom_below (Nat.le_refl _) (by have := SZ.out; have := LG.out; omega)))))))
  (fun _ => own_ex fun _ => ((own_pure _).and ((own_pure _).and ((own_blk _ _ _).and ((own_blk _ _ _).and ((own_blk _ _ _).and ((ownFrom_below (Nat.le_refl _) (by have := SZ.out; have := LG.out; omega)).and ((own_size _).and ((own_sb _).and (own_pure _))))))))))
  ⟨V2.out, V3.out, NN.out, (by have := SZ.out; have := LG.out; omega), (.inl ⟨Nat.le_refl _, _, VB.out, World.ownsRow_nil _ _ _ _, by simp [Value.ownBlock]⟩), by rw [List.take_zero]; exact Nat.zero_le _⟩ ?assign ?body ?done ?stop
 case assign =>
  rintro lp k W K ⟨v2, v3, nn, sz, s9, ln⟩ hlt hK
  gi_wp2
  exact hK _ _ (keeps_of_below (Bal (Below.refl _ _) _)) ((Below.refl _ W).alloc nn.size _) ⟨W.heap.size, rfl, sz, blk_new W _, blk_alloc v2 _, blk_alloc v3 _, Bal nn _, by rw [World.size_alloc]; omega, s9.next (Bal (Below.refl _ _) _), ln⟩
 case body =>
  rintro lp k a' W ⟨Bx, rfl, lx, vx, v2, v3, nn, sz, s9, ln⟩ hlt
  have hz := SZ.out
  have hg := LG.out
  have HT := zh (txT_next hlt)
  have HP := zh (txT_pre l (k + 1))
  have RBk : Hid (rowB (rowAt l k) = true) := zh (RB.out.2 _ (by rw [rowAt_lt hlt]; exact List.getElem_mem hlt))
  have LL := lnL_len RBk.out
  have LC := zh (fun W g => lineOf_calls RBk.out W g)
  have S9 := zh s9
  have SG : Hid (g2 ≤ W.heap.size) := zh (by omega)
  clear s9 RBk
  generalize txT (l.take k) = tx at *
  generalize rowAt l k = s at *
  have NN := zh nn
  have KF := zh (KeepsFrom.refl W0.heap.size W)
  have V2 := zh v2
  have V3 := zh v3
  have VX := zh vx
  clear v2 v3 vx
  obtain ⟨c_VX_0, f_VX_0, c_VX_1, f_VX_1, c_VX_2, f_VX_2, c_VX_3, f_VX_3, c_VX_4, f_VX_4, c_VX_5, f_VX_5, c_VX_6, f_VX_6, c_VX_7, f_VX_7, l_VX⟩ := zfl8 VX
  gi_wp2_with fail
  clear c_VX_0 f_VX_0 c_VX_1 f_VX_1 c_VX_2 f_VX_2 c_VX_3 f_VX_3 c_VX_4 f_VX_4 c_VX_5 f_VX_5 c_VX_6 f_VX_6 c_VX_7 f_VX_7 l_VX
  refine ⟨trivial, rfl, (CallsIn.inRound lp ((callsIn_wide (n := 0)).2 (LC.out _ (GG.out _ NN.out)))).mono ?_⟩
  rintro e w1 ⟨rfl, hb⟩
  replace NN := zh (Bgo NN.out hb)
  replace KF := zh ((KF.out).trans (keeps_of_below hb))
  replace S9 := zh (SB.next S9.out hb)
  replace SG := zh (Nat.le_trans SG.out hb.size)
  replace V2 := zn hb V2
  replace V3 := zn hb V3
  replace VX := zn hb VX
  clear hb
  have HLN : Hid ((lnL s ++ [10]).length ≤ 201) := zh (by rw [List.length_append]; exact Nat.succ_le_succ LL)
  generalize lnL s ++ [10] = li at *
  clear LL LC VX
  gi_wp2_with fail
  refine ⟨trivial, rfl, (CallsIn.inRound lp ((callsIn_wide (n := 0)).2 (sb_line S9.out (by omega) (Nat.le_trans HLN.out (by decide)) SG.out))).mono ?_⟩
  rintro e w9 ⟨rfl, hs9, hb9, hk9⟩
  have S8 := zh hs9
  replace V2 := zh (blk_B hb9 V2.out (by omega))
  replace V3 := zh (blk_B hb9 V3.out (by omega))
  replace KF := zh (KF.out.trans (hk9.from _))
  replace NN := zh (NN.out.trans (hb9.mono (by omega)))
  replace SG := zh (Nat.le_trans SG.out hb9.size)
  clear S9 hs9 hb9 hk9
  rw [← HT.out] at S8
  obtain ⟨ty, hty⟩ : ∃ ty, txT (l.take (k + 1)) = ty := ⟨_, rfl⟩
  rw [hty] at S8 HP
  have HTY := zh hty
  clear hty HT
  generalize li.length = ll at *
  gi_wp2_with fail
  refine ⟨trivial, rfl, (CallsIn.inRound lp ((callsIn_wide (n := 0)).2 (sb_len S8.out))).mono ?_⟩
  rintro e w8 ⟨rfl, rfl⟩
  by_cases hL : 20000 < ty.length
  ·have d1 : decide ((20000 : Int) < (ty.length : Int)) = true := decide_eq_true (by omega)
   have HL9 : 20000 < (txT l).length := by have := HP.out; omega
   clear hL
   obtain ⟨c_V2_0, f_V2_0, l_V2⟩ := zfl1 V2
   obtain ⟨c_V3_0, f_V3_0, l_V3⟩ := zfl1 V3
   gi_wp2_with fail
   clear c_V2_0 f_V2_0 l_V2 c_V3_0 f_V3_0 l_V3
   replace KF := zh (keep_set (keep_set (KF.out) (w.heap.size) 0 (.string ⟨#[]⟩)) (w.heap.size + 1) 0 (.int .i64 4))
   generalize hW : ((w8.setCell ⟨w.heap.size, 0, none⟩ (.string ⟨#[]⟩)).setCell ⟨w.heap.size + 1, 0, none⟩ (.int .i64 4)) = W2 at *
   replace V2 : Hid (W2.heap[w.heap.size]? = some (.cells #[.string ⟨#[]⟩] 9)) := zs hW (blk_set_other (blk_set (V2.out) 0 (.string ⟨#[]⟩)) (by omega) 0 (.int .i64 4))
   replace V3 : Hid (W2.heap[w.heap.size + 1]? = some (.cells #[.int .i64 4] 24)) := zs hW (blk_set (blk_set_other (V3.out) (by omega) 0 (.string ⟨#[]⟩)) 0 (.int .i64 4))
   replace NN := zt hW (p := Below _ _) (Bset1 (Bset1 (NN.out) (by omega) 0 (.string ⟨#[]⟩)) (by omega) 0 (.int .i64 4))
   clear hW
   exact ⟨KF.out, rfl, HL9, V2.out, V3.out, NN.out⟩
  ·have d1 : decide ((20000 : Int) < (ty.length : Int)) = false := decide_eq_false (by omega)
   gi_wp2_with fail
   exact ⟨KF.out, below_mid nn NN.out KF.out.size, V2.out, V3.out, NN.out, by have := KF.out.size; omega, by rw [HTY.out]; exact S8.out, by rw [HTY.out]; omega⟩
 case done =>
  rintro D W hD ⟨v2, v3, nn, sz, s9, ln⟩ hK
  have hz := SZ.out
  have hg := LG.out
  rw [List.take_length] at s9 ln
  have HE1 : Hid (pe = 0) := zh (by rw [EX.out, if_neg (by omega)])
  have HO1 : Hid (po = txT l) := zh (by rw [OX.out, HE1.out, if_pos rfl])
  have HSG : g2 ≤ W.heap.size := by omega
  have S9 := zh s9
  have HK := zh hK
  clear s9 hK EX OX
  generalize txT l = ty at *
  have NN := zh nn
  have V2 := zh v2
  have V3 := zh v3
  clear v2 v3
  gi_wp2_with fail
  refine ⟨trivial, rfl, ((callsIn_wide (n := 0)).2 (sb_string S9.out HSG)).mono ?_⟩
  rintro e w9 ⟨rfl, hb9, hk9⟩
  replace V2 := zh (blk_B hb9 V2.out (by omega))
  replace V3 := zh (blk_B hb9 V3.out (by omega))
  replace NN := zh (NN.out.trans (hb9.mono (by omega)))
  replace HK := zh (hk9 D _ HK.out (by intro h; injection h with h; omega) (fun _ _ h => by cases h))
  clear S9 hb9 hk9
  obtain ⟨c_V2_0, f_V2_0, l_V2⟩ := zfl1 V2
  obtain ⟨c_V3_0, f_V3_0, l_V3⟩ := zfl1 V3
  gi_wp2_with fail
  clear c_V2_0 f_V2_0 l_V2 c_V3_0 f_V3_0 l_V3
  replace HK := zh (blk_set_other (b' := w.heap.size + 1) (blk_set_other (b' := w.heap.size) HK.out (by omega) 0 (Str ty)) (by omega) 0 (.int .i64 0))
  generalize hW : ((w9.setCell ⟨w.heap.size, 0, none⟩ (Str ty)).setCell ⟨w.heap.size + 1, 0, none⟩ (.int .i64 0)) = W1 at *
  replace V2 : Hid (W1.heap[w.heap.size]? = some (.cells #[Str ty] 9)) := zs hW (blk_set_other (blk_set (V2.out) 0 (Str ty)) (by omega) 0 (.int .i64 0))
  replace V3 : Hid (W1.heap[w.heap.size + 1]? = some (.cells #[.int .i64 0] 24)) := zs hW (blk_set (blk_set_other (V3.out) (by omega) 0 (Str ty)) 0 (.int .i64 0))
  replace NN := zt hW (p := Below _ _) (Bset1 (Bset1 (NN.out) (by omega) 0 (Str ty)) (by omega) 0 (.int .i64 0))
  clear hW
  refine ⟨by simp, .inl ⟨_, _, rfl, run_takeDeferred HK.out, ?_⟩⟩
  have e0 := blk_cell (put_blk (D := D) (o' := .deferred none) V2.out (by omega)) 0 (Str ty) rfl
  have e1 := blk_cell (put_blk (D := D) (o' := .deferred none) V3.out (by omega)) 0 (.int .i64 0) rfl
  exact ⟨.tuple #[Str ty, .int .i64 0], by simp [results, Tryz.results9, go_sem, e0, e1], ⟨by rw [HE1.out, HO1.out], put_below NN.out (by omega) (Nat.le_refl _) HK.out⟩⟩
 case stop =>
  rintro D cd k W hD hlt ⟨rfl, hL, v2, v3, nn⟩ hK
  have hDs := SZ.out
  have hg := LG.out
  have HE1 : Hid (pe = 4) := zh (by rw [EX.out, if_pos hL])
  have HO1 : Hid (po = []) := zh (by rw [OX.out, HE1.out, if_neg (by decide)])
  have V2 := zh v2
  have V3 := zh v3
  have NN := zh nn
  have HK := zh hK
  clear EX OX v2 v3 nn hK
  gi_wp2
  refine ⟨by simp, .inl ⟨_, _, rfl, run_takeDeferred HK.out, ?_⟩⟩
  have e0 := blk_cell (put_blk (D := D) (o' := .deferred none) V2.out (by omega)) 0 (Str []) rfl
  have e1 := blk_cell (put_blk (D := D) (o' := .deferred none) V3.out (by omega)) 0 (.int .i64 4) rfl
  exact ⟨.tuple #[Str [], .int .i64 4], by simp [results, Tryz.results9, go_sem, e0, e1], ⟨by rw [HE1.out, HO1.out], put_below NN.out (by omega) (Nat.le_refl _) HK.out⟩⟩
end
section
theorem chkB_lim {a b D : Int} (h : Cxm.chkB a b D = true) : -1000000000 ≤ a ∧ a ≤ 1000000000 ∧ -1000000000 ≤ b ∧ b ≤ 1000000000 ∧ 1 ≤ D ∧ D ≤ 1000000000 := by
 simp only [Cxm.chkB, Cxm.fitsB, Bool.and_eq_true, decide_eq_true_eq] at h
 omega
theorem valD_dvd (d1 d2 : Int) : d1 ∣ valD d1 d2 ∧ d2 ∣ valD d1 d2 := by
 unfold valD
 exact ⟨by rw [← Int.natAbs_dvd_natAbs]; exact Nat.dvd_lcm_left _ _, by rw [← Int.natAbs_dvd_natAbs]; exact Nat.dvd_lcm_right _ _⟩
theorem valD_pos {d1 d2 : Int} (h1 : 1 ≤ d1) (h2 : 1 ≤ d2) : 1 ≤ valD d1 d2 := by
 unfold valD
 have := Nat.lcm_pos (show 0 < d1.natAbs by omega) (show 0 < d2.natAbs by omega)
 omega
theorem valD_ge {d1 d2 : Int} (h1 : 1 ≤ d1) (h2 : 1 ≤ d2) : d1 ≤ valD d1 d2 ∧ d2 ≤ valD d1 d2 := by
 have := valD_pos h1 h2
 exact ⟨Int.le_of_dvd (by omega) (valD_dvd d1 d2).1, Int.le_of_dvd (by omega) (valD_dvd d1 d2).2⟩
theorem valD_mul {d1 d2 : Int} (h1 : 1 ≤ d1) (h2 : 1 ≤ d2) : d1 * d2 = (Nat.gcd d1.natAbs d2.natAbs : Nat) * valD d1 d2 := by
 unfold valD
 rw [← Int.natCast_mul, Nat.gcd_mul_lcm, Int.natCast_mul]
 rw [show ((d1.natAbs : Nat) : Int) = d1 by omega, show ((d2.natAbs : Nat) : Int) = d2 by omega]
theorem valO_far {n1 d1 n2 d2 : Int} (h : 1000000000 < valD d1 d2) : valO n1 d1 n2 d2 = none := by unfold valO; rw [if_neg (by omega)]
theorem valO_no {n1 d1 n2 d2 : Int} (h : Cxm.chkB (n1 * (valD d1 d2 / d1)) (n2 * (valD d1 d2 / d2)) (valD d1 d2) = false) : valO n1 d1 n2 d2 = none := by unfold valO; rw [if_neg (by rw [h]; simp)]
theorem valO_yes {n1 d1 n2 d2 : Int} (h : Cxm.chkB (n1 * (valD d1 d2 / d1)) (n2 * (valD d1 d2 / d2)) (valD d1 d2) = true) : valO n1 d1 n2 d2 = some (n1 * (valD d1 d2 / d1), n2 * (valD d1 d2 / d2), valD d1 d2) := by unfold valO; rw [if_pos ⟨(chkB_lim h).2.2.2.2.2, h⟩]
theorem valO_out {n1 d1 n2 d2 : Int} (h : 1000000000 < (n1 * (valD d1 d2 / d1)).natAbs ∨ 1000000000 < (n2 * (valD d1 d2 / d2)).natAbs) : valO n1 d1 n2 d2 = none := by
 refine valO_no ?_
 cases e : Cxm.chkB (n1 * (valD d1 d2 / d1)) (n2 * (valD d1 d2 / d2)) (valD d1 d2) with
 | false => rfl
 | true => have := chkB_lim e; omega
theorem part_ge {n d D : Int} (hd : 1 ≤ d) (hD : 1 ≤ D) (h : d ∣ D) : n.natAbs ≤ (n * (D / d)).natAbs := by
 obtain ⟨k, rfl⟩ := h
 rw [Int.mul_ediv_cancel_left _ (by omega), Int.natAbs_mul]
 have : 0 < k.natAbs := by
  rcases Nat.eq_zero_or_pos k.natAbs with h | h
  ·have : k = 0 := by omega
   subst this; omega
  ·exact h
 exact Nat.le_mul_of_pos_right _ this
end
end Go.Proofs.YtbbnkclajpaghaaGreatDoor
