/- Contract of table.Select. -/
import Derived.Test.YtbbnkclajpaghaaTha
namespace Go.Proofs.Ytbbnkclajpaghaa
open Go.ChangeShapes Go.WideShapes Go.ChangeAt Go.RowKit
set_option linter.unusedVariables false
set_option linter.unusedSimpArgs false
attribute [local go_sem] Oper.semAt_some
theorem filter_take (p : Vr → Bool) {l : List Vr} {k : Nat} (hk : k < l.length) : List.filter p (l.take (k + 1)) = List.filter p (l.take k) ++ bif p (rowAt l k) then [rowAt l k] else [] := by
  rw [List.take_succ_eq_append_getElem hk, List.filter_append, rowAt_lt hk]
  cases h : p l[k] <;> simp [h]

set_option maxRecDepth 100000 in
set_option maxHeartbeats 8000000 in
theorem select_calls {A : Option Addr} {c : Nat} {l : List Vr} {w : World} (i j : Int) (hl : RT w A l) (hA : ∀ b off, A = some ⟨b, off, none⟩ → b < w.heap.size) (hc : l.length ≤ c) (hc' : c ≤ 9223372036854775807) : Calls Try.prog 9 #[.slice A l.length c, .int .i64 i, .int .i64 j] w fun e w' =>
    ∃ v, e = .returned (.tuple #[v, .int .i64 (selE l i j)]) ∧ OR w.heap.size w' v (selL l i j) ∧ Below w.heap.size w w' := by
  have CK : Hid (∀ W : World, Below w.heap.size w W → Calls Try.prog 13 #[.slice A l.length c] W fun e w' => e = .returned (.int .i64 (chkE l)) ∧ Below W.heap.size W w') := Lib.hid (fun W (hb : Below w.heap.size w W) => chk_calls (w := W) (hl.next hb) (fun b off h => Nat.lt_of_lt_of_le (hA b off h) hb.size) hc hc')
  obtain ⟨pe, hpe⟩ : ∃ pe, selE l i j = pe := ⟨_, rfl⟩
  obtain ⟨pl, hpl⟩ : ∃ pl, selL l i j = pl := ⟨_, rfl⟩
  obtain ⟨E, hE⟩ : ∃ E, chkE l = E := ⟨_, rfl⟩
  have HPE := Lib.hid hpe
  have HPL := Lib.hid hpl
  have HEE := Lib.hid hE
  rw [hpe, hpl]
  rw [hE] at CK
  clear hpe hpl hE
  have HL := Lib.hid hl
  have HA := Lib.hid hA
  have NN := Lib.hid (Below.refl w.heap.size w)
  clear hl hA
  refine (callsIn_wide (n := 0)).1 ?_
  refine callsIn_of_wp_marks Try.func9 rfl trivial ?_ rfl
  simp only [Try.ntmps9, List.size_toArray, List.length_cons, List.length_nil, Nat.reduceAdd, Nat.reduceSub, Array.replicate_succ, Array.replicate_zero, List.push_toArray, List.append_toArray, List.nil_append, List.cons_append]
  gi_wp2_with fail
  have V4 : Hid (((w.alloc (.cells #[.int .i64 i] 3)).alloc (.cells #[.int .i64 j] 3)).heap[w.heap.size]? = some (.cells #[.int .i64 i] 3)) := Lib.hid (blk_alloc (blk_new w _) _)
  have V5 : Hid (((w.alloc (.cells #[.int .i64 i] 3)).alloc (.cells #[.int .i64 j] 3)).heap[w.heap.size + 1]? = some (.cells #[.int .i64 j] 3)) := Lib.hid (blk_at _ (by simp))
  replace NN : Hid (Below w.heap.size w ((w.alloc (.cells #[.int .i64 i] 3)).alloc (.cells #[.int .i64 j] 3))) := Lib.hid (Bal (Bal NN.out _) _)
  generalize ((w.alloc (.cells #[.int .i64 i] 3)).alloc (.cells #[.int .i64 j] 3)) = W1 at *
  refine ⟨trivial, rfl, ((callsIn_wide (n := 0)).2 (CK.out _ NN.out)).mono ?_⟩
  rintro e w2 ⟨rfl, hb⟩
  replace NN := Lib.hid (Bgo NN.out hb)
  replace V4 := Lib.hid (blk_next hb V4.out)
  replace V5 := Lib.hid (blk_next hb V5.out)
  clear hb
  by_cases h0 : E ≠ 0
  · have q1 : (E != 0) = true := by simpa using h0
    have HE0 := Lib.hid h0
    clear h0
    have c_V4_0 := blk_cell V4.out 0 _ rfl
    have f_V4_0 := blk_frozen V4.out 0
    have l_V4 := blk_lt V4.out
    have c_V5_0 := blk_cell V5.out 0 _ rfl
    have f_V5_0 := blk_frozen V5.out 0
    have l_V5 := blk_lt V5.out
    gi_wp2_with fail
    clear c_V4_0 f_V4_0 l_V4 c_V5_0 f_V5_0 l_V5
    have h1 : selE l i j = E := by unfold selE; rw [HEE.out, if_pos HE0.out]
    have h2 : selL l i j = [] := by unfold selL; rw [h1]; exact if_neg HE0.out
    exact ⟨.tuple #[.slice none 0 0, .int .i64 E], by simp [results, Try.results9, go_sem], ⟨_, by rw [← HPE.out, h1], by rw [← HPL.out, h2]; exact OR.nil _ _, NN.out⟩⟩
  have h0' : E = 0 := by omega
  subst h0'
  clear h0
  obtain ⟨hg, hn⟩ := chkE_good HEE.out
  clear hg
  have hc4 : i < 0 ∨ (0 ≤ i ∧ j ≤ i) ∨ (0 ≤ i ∧ i < j ∧ 8 ≤ j) ∨ (0 ≤ i ∧ i < j ∧ j < 8) := by omega
  rcases hc4 with h | ⟨h, h1⟩ | ⟨h, h1, h2⟩ | ⟨h, h1, h2⟩
  · have d1 : decide (i < 0) = true := decide_eq_true h
    have c_V4_0 := blk_cell V4.out 0 _ rfl
    have f_V4_0 := blk_frozen V4.out 0
    have l_V4 := blk_lt V4.out
    have c_V5_0 := blk_cell V5.out 0 _ rfl
    have f_V5_0 := blk_frozen V5.out 0
    have l_V5 := blk_lt V5.out
    gi_wp2_with fail
    clear c_V4_0 f_V4_0 l_V4 c_V5_0 f_V5_0 l_V5
    have h1 : selE l i j = 2 := by unfold selE; rw [HEE.out, if_neg (by omega), if_pos (by omega)]
    have h2 : selL l i j = [] := by unfold selL; rw [h1]; exact if_neg (by omega)
    exact ⟨.tuple #[.slice none 0 0, .int .i64 2], by simp [results, Try.results9, go_sem], ⟨_, by rw [← HPE.out, h1], by rw [← HPL.out, h2]; exact OR.nil _ _, NN.out⟩⟩
  · have d1 : decide (i < 0) = false := decide_eq_false (by omega)
    have d2 : decide (j ≤ i) = true := decide_eq_true h1
    have c_V4_0 := blk_cell V4.out 0 _ rfl
    have f_V4_0 := blk_frozen V4.out 0
    have l_V4 := blk_lt V4.out
    have c_V5_0 := blk_cell V5.out 0 _ rfl
    have f_V5_0 := blk_frozen V5.out 0
    have l_V5 := blk_lt V5.out
    gi_wp2_with fail
    clear c_V4_0 f_V4_0 l_V4 c_V5_0 f_V5_0 l_V5
    have h1 : selE l i j = 2 := by unfold selE; rw [HEE.out, if_neg (by omega), if_pos (by omega)]
    have h2 : selL l i j = [] := by unfold selL; rw [h1]; exact if_neg (by omega)
    exact ⟨.tuple #[.slice none 0 0, .int .i64 2], by simp [results, Try.results9, go_sem], ⟨_, by rw [← HPE.out, h1], by rw [← HPL.out, h2]; exact OR.nil _ _, NN.out⟩⟩
  · have d1 : decide (i < 0) = false := decide_eq_false (by omega)
    have d2 : decide (j ≤ i) = false := decide_eq_false (by omega)
    have d3 : decide (8 ≤ j) = true := decide_eq_true h2
    have c_V4_0 := blk_cell V4.out 0 _ rfl
    have f_V4_0 := blk_frozen V4.out 0
    have l_V4 := blk_lt V4.out
    have c_V5_0 := blk_cell V5.out 0 _ rfl
    have f_V5_0 := blk_frozen V5.out 0
    have l_V5 := blk_lt V5.out
    gi_wp2_with fail
    clear c_V4_0 f_V4_0 l_V4 c_V5_0 f_V5_0 l_V5
    have h1 : selE l i j = 2 := by unfold selE; rw [HEE.out, if_neg (by omega), if_pos (by omega)]
    have h2 : selL l i j = [] := by unfold selL; rw [h1]; exact if_neg (by omega)
    exact ⟨.tuple #[.slice none 0 0, .int .i64 2], by simp [results, Try.results9, go_sem], ⟨_, by rw [← HPE.out, h1], by rw [← HPL.out, h2]; exact OR.nil _ _, NN.out⟩⟩
  have HSE : Hid (selE l i j = 0) := Lib.hid (by unfold selE; rw [HEE.out, if_neg (by omega), if_neg (by omega)])
  clear HEE CK
  have d1 : decide (i < 0) = false := decide_eq_false (by omega)
  have d2 : decide (j ≤ i) = false := decide_eq_false (by omega)
  have d3 : decide (8 ≤ j) = false := decide_eq_false (by omega)
  have c_V4_0 := blk_cell V4.out 0 _ rfl
  have f_V4_0 := blk_frozen V4.out 0
  have l_V4 := blk_lt V4.out
  have c_V5_0 := blk_cell V5.out 0 _ rfl
  have f_V5_0 := blk_frozen V5.out 0
  have l_V5 := blk_lt V5.out
  gi_wp2_with fail
  clear c_V4_0 f_V4_0 l_V4 c_V5_0 f_V5_0 l_V5
  refine ⟨trivial, rfl, (callsIn_wide.2 (rows_calls A _ c _)).mono ?_⟩
  rintro e w9 ⟨rfl, rfl⟩
  gi_wp2_with fail
  have LG : Hid (w.heap.size + 2 ≤ w2.heap.size) := Lib.hid (by have := blk_lt V5.out; omega)
  clear d1 d2 d3
  replace NN : Hid (Below w.heap.size w ((w2.alloc (.cells #[.slice none 0 0] 22)).alloc (.cells #[.slice A l.length c] 22))) := Lib.hid (Bal (Bal NN.out _) _)
  have SZ : Hid (((w2.alloc (.cells #[.slice none 0 0] 22)).alloc (.cells #[.slice A l.length c] 22)).heap.size = w2.heap.size + 2) := Lib.hid (by simp)
  replace V4 : Hid (((w2.alloc (.cells #[.slice none 0 0] 22)).alloc (.cells #[.slice A l.length c] 22)).heap[w.heap.size]? = some (.cells #[.int .i64 i] 3)) := Lib.hid (blk_alloc (blk_alloc V4.out _) _)
  replace V5 : Hid (((w2.alloc (.cells #[.slice none 0 0] 22)).alloc (.cells #[.slice A l.length c] 22)).heap[w.heap.size + 1]? = some (.cells #[.int .i64 j] 3)) := Lib.hid (blk_alloc (blk_alloc V5.out _) _)
  have V9 : Hid (((w2.alloc (.cells #[.slice none 0 0] 22)).alloc (.cells #[.slice A l.length c] 22)).heap[w2.heap.size]? = some (.cells #[.slice none 0 0] 22)) := Lib.hid (blk_alloc (blk_new w2 _) _)
  have VT : Hid (((w2.alloc (.cells #[.slice none 0 0] 22)).alloc (.cells #[.slice A l.length c] 22)).heap[w2.heap.size + 1]? = some (.cells #[.slice A l.length c] 22)) := Lib.hid (blk_at _ (by simp))
  generalize ((w2.alloc (.cells #[.slice none 0 0] 22)).alloc (.cells #[.slice A l.length c] 22)) = W0 at *
  generalize w2.heap.size = g2 at *
  refine range_n 34 #[.pointer (some ⟨g2 + 1, 0, none⟩)] rfl (enters_of Try.func34 (by kernel_rfl) rfl) (encR l) w.heap.size l.length
    (rows_seq (HL.out.next NN.out) HA.out (by omega) (by have := SZ.out; have := LG.out; omega) VT.out) (by have := SZ.out; have := LG.out; omega) (fun _ => rfl)
    (fun k W => (W.heap[w.heap.size]? = some (.cells #[.int .i64 i] 3)) ∧ (W.heap[w.heap.size + 1]? = some (.cells #[.int .i64 j] 3)) ∧ (Below w.heap.size w W) ∧ (g2 + 2 ≤ W.heap.size) ∧ (∃ A9 c9, W.heap[g2]? = some (.cells #[.slice A9 (List.filter (selB i j) (l.take k)).length c9] 22) ∧ OR W0.heap.size W (.slice A9 (List.filter (selB i j) (l.take k)).length c9) (List.filter (selB i j) (l.take k))))
    (fun cd k W => False)
    (fun k a' W => ∃ Bx : Nat, (a' = { tmps := #[.slice A l.length c, .int .i64 i, .int .i64 j, undef, .pointer (some ⟨w.heap.size, 0, none⟩), .pointer (some ⟨w.heap.size + 1, 0, none⟩), .slice none 0 0, .int .i64 0, .int .i64 0, .pointer (some ⟨g2, 0, none⟩), undef, .pointer (some ⟨Bx, 0, none⟩), .slice A l.length c, .int .i64 0, .int .i64 0, .bool false, undef, .int .i64 i, .bool false, .bool false, .int .i64 i, .int .i64 j, .bool false, .bool false, .bool false, .int .i64 j, .bool false, .bool false, .slice A l.length c, .func (.func 34) #[] #[.pointer (some ⟨g2 + 1, 0, none⟩)], .int .i64 (k : Int), Rv (rowAt l k), undef, undef, undef, undef, undef, undef, undef, undef, undef, undef, undef, undef, undef, undef, undef, undef, undef], defers := [] }) ∧ (g2 + 2 ≤ Bx) ∧ (W.heap[Bx]? = some (.cells #[.int .i64 (rowAt l k).t, .int .i64 (rowAt l k).c, .int .i64 (rowAt l k).i, .int .i64 (rowAt l k).j, .int .i64 (rowAt l k).re, .int .i64 (rowAt l k).im, .int .i64 (rowAt l k).dn, .int .i64 (rowAt l k).n] 48)) ∧ (W.heap[w.heap.size]? = some (.cells #[.int .i64 i] 3)) ∧ (W.heap[w.heap.size + 1]? = some (.cells #[.int .i64 j] 3)) ∧ (Below w.heap.size w W) ∧ (g2 + 2 ≤ W.heap.size) ∧ (∃ A9 c9, W.heap[g2]? = some (.cells #[.slice A9 (List.filter (selB i j) (l.take k)).length c9] 22) ∧ OR W0.heap.size W (.slice A9 (List.filter (selB i j) (l.take k)).length c9) (List.filter (selB i j) (l.take k))))
    ((own_blk _ _ _).and ((own_blk _ _ _).and ((ownFrom_below (Nat.le_refl _) (by have := SZ.out; have := LG.out; omega)).and ((own_size _).and (own_ex fun _ => own_ex fun _ => (own_blk _ _ _).and (own_row _ _))))))
    (fun _ => (own_pure _))
    (fun _ => own_ex fun _ => ((own_pure _).and ((own_pure _).and ((own_blk _ _ _).and ((own_blk _ _ _).and ((own_blk _ _ _).and ((ownFrom_below (Nat.le_refl _) (by have := SZ.out; have := LG.out; omega)).and ((own_size _).and (own_ex fun _ => own_ex fun _ => (own_blk _ _ _).and (own_row _ _))))))))))
    ⟨V4.out, V5.out, NN.out, (by have := SZ.out; have := LG.out; omega), ⟨none, 0, V9.out, OR.nil _ _⟩⟩ ?assign ?body ?done ?stop
  case assign =>
    rintro lp k W K ⟨v4, v5, nn, sz, A9, c9, v9, o9⟩ hlt hK
    gi_wp2
    exact hK _ _ (keeps_of_below (Bal (Below.refl _ _) _)) ((Below.refl _ W).alloc nn.size _) ⟨W.heap.size, rfl, sz, blk_new W _, blk_alloc v4 _, blk_alloc v5 _, Bal nn _, by rw [World.size_alloc]; omega, A9, c9, blk_alloc v9 _, o9.alloc _⟩
  case body =>
    rintro lp k a' W ⟨Bx, rfl, lx, vx, v4, v5, nn, sz, A9, c9, v9, o9⟩ hlt
    have hlen : (List.filter (selB i j) (l.take k)).length ≤ 200 := Nat.le_trans (List.length_filter_le _ _) (by rw [List.length_take]; omega)
    have HF := Lib.hid (filter_take (selB i j) hlt)
    have hz := SZ.out
    have hg := LG.out
    generalize List.filter (selB i j) (l.take k) = L9 at *
    generalize rowAt l k = s at *
    have O9 := Lib.hid o9
    have SW : Hid (W0.heap.size ≤ W.heap.size) := Lib.hid (by omega)
    clear o9
    have NN := Lib.hid nn
    have KF := Lib.hid (KeepsFrom.refl W0.heap.size W)
    have V4 := Lib.hid v4
    have V5 := Lib.hid v5
    have V9 := Lib.hid v9
    have VX := Lib.hid vx
    clear v4 v5 v9 vx
    by_cases h : s.i = i ∧ s.j = j
    · obtain ⟨h1, h2⟩ := h
      have hs : selB i j s = true := by simp [selB, h1, h2]
      rw [hs] at HF
      have q1 : (s.i == i) = true := by simp [h1]
      have q2 : (s.j == j) = true := by simp [h2]
      clear hs h1 h2
      have c_V4_0 := blk_cell V4.out 0 _ rfl
      have f_V4_0 := blk_frozen V4.out 0
      have l_V4 := blk_lt V4.out
      have c_V5_0 := blk_cell V5.out 0 _ rfl
      have f_V5_0 := blk_frozen V5.out 0
      have l_V5 := blk_lt V5.out
      have c_V9_0 := blk_cell V9.out 0 _ rfl
      have f_V9_0 := blk_frozen V9.out 0
      have l_V9 := blk_lt V9.out
      have c_VX_0 := blk_cell VX.out 0 _ rfl
      have f_VX_0 := blk_frozen VX.out 0
      have c_VX_1 := blk_cell VX.out 1 _ rfl
      have f_VX_1 := blk_frozen VX.out 1
      have c_VX_2 := blk_cell VX.out 2 _ rfl
      have f_VX_2 := blk_frozen VX.out 2
      have c_VX_3 := blk_cell VX.out 3 _ rfl
      have f_VX_3 := blk_frozen VX.out 3
      have c_VX_4 := blk_cell VX.out 4 _ rfl
      have f_VX_4 := blk_frozen VX.out 4
      have c_VX_5 := blk_cell VX.out 5 _ rfl
      have f_VX_5 := blk_frozen VX.out 5
      have c_VX_6 := blk_cell VX.out 6 _ rfl
      have f_VX_6 := blk_frozen VX.out 6
      have c_VX_7 := blk_cell VX.out 7 _ rfl
      have f_VX_7 := blk_frozen VX.out 7
      have l_VX := blk_lt VX.out
      gi_wp2_with (gi_at_builtin; refine wpListIn_app rfl _ _ rfl W0.heap.size _ L9 rfl (some ⟨W.heap.size, 0, none⟩) 1 1 [s] rfl (O9.out.alloc _) rfl (RT.one (blk_new W _)) ?_ ?_ ?_; omega; (rw [World.size_alloc]; have := SW.out; omega); intro v1 w1 o1 q1 k1; obtain ⟨A1, c1, hv1, -⟩ := OR.form o1; rw [show (L9 ++ [s]).length = L9.length + 1 by simp] at hv1; subst hv1; have B1 := Lib.hid (((Below.refl W0.heap.size W).alloc SW.out _).trans q1); have O1 := Lib.hid o1; have K1 := Lib.hid (((KeepsOthers.alloc W _).trans k1).from W0.heap.size); have V91 := Lib.hid (blk_B B1.out V9.out (by omega)); have c9a := blk_cell V91.out 0 (.slice A9 L9.length c9) rfl; have f9a := blk_frozen V91.out 0; have l9a := blk_lt V91.out; clear o1 q1 k1)
      clear c_V4_0 f_V4_0 l_V4 c_V5_0 f_V5_0 l_V5 c_V9_0 f_V9_0 l_V9 c_VX_0 f_VX_0 c_VX_1 f_VX_1 c_VX_2 f_VX_2 c_VX_3 f_VX_3 c_VX_4 f_VX_4 c_VX_5 f_VX_5 c_VX_6 f_VX_6 c_VX_7 f_VX_7 l_VX
      clear c9a f9a l9a V91
      replace V4 := Lib.hid (blk_B B1.out V4.out (by omega))
      replace V5 := Lib.hid (blk_B B1.out V5.out (by omega))
      replace V9 := Lib.hid (blk_B B1.out V9.out (by omega))
      replace NN := Lib.hid (NN.out.trans (B1.out.mono (by omega)))
      replace KF := K1
      clear VX
      replace KF := Lib.hid (keep_set (KF.out) (g2) 0 (.slice A1 (L9.length + 1) c1))
      replace O1 := Lib.hid (OR.set_other (O1.out) (show g2 < W0.heap.size by omega) 0 (.slice A1 (L9.length + 1) c1))
      replace V4 : Hid ((w1.setCell ⟨g2, 0, none⟩ (.slice A1 (L9.length + 1) c1)).heap[w.heap.size]? = some (.cells #[.int .i64 i] 3)) := Lib.hid (blk_set_other (b' := g2) (V4.out) (by omega) 0 (.slice A1 (L9.length + 1) c1))
      replace V5 : Hid ((w1.setCell ⟨g2, 0, none⟩ (.slice A1 (L9.length + 1) c1)).heap[w.heap.size + 1]? = some (.cells #[.int .i64 j] 3)) := Lib.hid (blk_set_other (b' := g2) (V5.out) (by omega) 0 (.slice A1 (L9.length + 1) c1))
      replace V9 : Hid ((w1.setCell ⟨g2, 0, none⟩ (.slice A1 (L9.length + 1) c1)).heap[g2]? = some (.cells #[.slice A1 (L9.length + 1) c1] 22)) := Lib.hid (blk_set (V9.out) 0 (.slice A1 (L9.length + 1) c1))
      replace NN := Lib.hid (Bset1 (NN.out) (show w.heap.size ≤ g2 by omega) 0 (.slice A1 (L9.length + 1) c1))
      generalize (w1.setCell ⟨g2, 0, none⟩ (.slice A1 (L9.length + 1) c1)) = W1 at *
      refine ⟨KF.out, below_mid nn NN.out KF.out.size, V4.out, V5.out, NN.out, by have := KF.out.size; omega, A1, c1, ?_, ?_⟩
      · rw [HF.out]; simpa using V9.out
      · rw [HF.out]; simpa using O1.out
    · have hs : selB i j s = false := by simp [selB]; omega
      rw [hs] at HF
      by_cases h1 : s.i = i
      · have q1 : (s.i == i) = true := by simp [h1]
        have q2 : (s.j == j) = false := by rw [beq_eq_false_iff_ne]; omega
        clear hs h h1
        have c_V4_0 := blk_cell V4.out 0 _ rfl
        have f_V4_0 := blk_frozen V4.out 0
        have l_V4 := blk_lt V4.out
        have c_V5_0 := blk_cell V5.out 0 _ rfl
        have f_V5_0 := blk_frozen V5.out 0
        have l_V5 := blk_lt V5.out
        have c_V9_0 := blk_cell V9.out 0 _ rfl
        have f_V9_0 := blk_frozen V9.out 0
        have l_V9 := blk_lt V9.out
        have c_VX_0 := blk_cell VX.out 0 _ rfl
        have f_VX_0 := blk_frozen VX.out 0
        have c_VX_1 := blk_cell VX.out 1 _ rfl
        have f_VX_1 := blk_frozen VX.out 1
        have c_VX_2 := blk_cell VX.out 2 _ rfl
        have f_VX_2 := blk_frozen VX.out 2
        have c_VX_3 := blk_cell VX.out 3 _ rfl
        have f_VX_3 := blk_frozen VX.out 3
        have c_VX_4 := blk_cell VX.out 4 _ rfl
        have f_VX_4 := blk_frozen VX.out 4
        have c_VX_5 := blk_cell VX.out 5 _ rfl
        have f_VX_5 := blk_frozen VX.out 5
        have c_VX_6 := blk_cell VX.out 6 _ rfl
        have f_VX_6 := blk_frozen VX.out 6
        have c_VX_7 := blk_cell VX.out 7 _ rfl
        have f_VX_7 := blk_frozen VX.out 7
        have l_VX := blk_lt VX.out
        gi_wp2_with fail
        clear c_V4_0 f_V4_0 l_V4 c_V5_0 f_V5_0 l_V5 c_V9_0 f_V9_0 l_V9 c_VX_0 f_VX_0 c_VX_1 f_VX_1 c_VX_2 f_VX_2 c_VX_3 f_VX_3 c_VX_4 f_VX_4 c_VX_5 f_VX_5 c_VX_6 f_VX_6 c_VX_7 f_VX_7 l_VX
        refine ⟨KF.out, below_mid nn NN.out KF.out.size, V4.out, V5.out, NN.out, by have := KF.out.size; omega, A9, c9, ?_, ?_⟩
        · rw [HF.out]; simpa using V9.out
        · rw [HF.out]; simpa using O9.out
      · have q1 : (s.i == i) = false := by rw [beq_eq_false_iff_ne]; omega
        clear hs h h1
        have c_V4_0 := blk_cell V4.out 0 _ rfl
        have f_V4_0 := blk_frozen V4.out 0
        have l_V4 := blk_lt V4.out
        have c_V5_0 := blk_cell V5.out 0 _ rfl
        have f_V5_0 := blk_frozen V5.out 0
        have l_V5 := blk_lt V5.out
        have c_V9_0 := blk_cell V9.out 0 _ rfl
        have f_V9_0 := blk_frozen V9.out 0
        have l_V9 := blk_lt V9.out
        have c_VX_0 := blk_cell VX.out 0 _ rfl
        have f_VX_0 := blk_frozen VX.out 0
        have c_VX_1 := blk_cell VX.out 1 _ rfl
        have f_VX_1 := blk_frozen VX.out 1
        have c_VX_2 := blk_cell VX.out 2 _ rfl
        have f_VX_2 := blk_frozen VX.out 2
        have c_VX_3 := blk_cell VX.out 3 _ rfl
        have f_VX_3 := blk_frozen VX.out 3
        have c_VX_4 := blk_cell VX.out 4 _ rfl
        have f_VX_4 := blk_frozen VX.out 4
        have c_VX_5 := blk_cell VX.out 5 _ rfl
        have f_VX_5 := blk_frozen VX.out 5
        have c_VX_6 := blk_cell VX.out 6 _ rfl
        have f_VX_6 := blk_frozen VX.out 6
        have c_VX_7 := blk_cell VX.out 7 _ rfl
        have f_VX_7 := blk_frozen VX.out 7
        have l_VX := blk_lt VX.out
        gi_wp2_with fail
        clear c_V4_0 f_V4_0 l_V4 c_V5_0 f_V5_0 l_V5 c_V9_0 f_V9_0 l_V9 c_VX_0 f_VX_0 c_VX_1 f_VX_1 c_VX_2 f_VX_2 c_VX_3 f_VX_3 c_VX_4 f_VX_4 c_VX_5 f_VX_5 c_VX_6 f_VX_6 c_VX_7 f_VX_7 l_VX
        refine ⟨KF.out, below_mid nn NN.out KF.out.size, V4.out, V5.out, NN.out, by have := KF.out.size; omega, A9, c9, ?_, ?_⟩
        · rw [HF.out]; simpa using V9.out
        · rw [HF.out]; simpa using O9.out
  case done =>
    rintro D W hD ⟨v4, v5, nn, sz, A9, c9, v9, o9⟩ hK
    have hz := SZ.out
    have hg := LG.out
    rw [List.take_length] at v9 o9
    have HP : Hid (selL l i j = List.filter (selB i j) l) := Lib.hid (by unfold selL; rw [if_pos HSE.out])
    generalize List.filter (selB i j) l = L9 at *
    have O9 := Lib.hid o9
    have HK := Lib.hid hK
    clear o9 hK
    have NN := Lib.hid nn
    have V9 := Lib.hid v9
    clear v4 v5 v9
    have c_V9_0 := blk_cell V9.out 0 _ rfl
    have f_V9_0 := blk_frozen V9.out 0
    have l_V9 := blk_lt V9.out
    gi_wp2_with fail
    clear c_V9_0 f_V9_0 l_V9
    refine ⟨by simp, .inl ⟨_, _, rfl, run_takeDeferred HK.out, ?_⟩⟩
    exact ⟨.tuple #[.slice A9 L9.length c9, .int .i64 0], by simp [results, Try.results9, go_sem], ⟨_, by rw [← HPE.out, HSE.out], by rw [← HPL.out, HP.out]; exact ownsRow_putObj (OR.mono O9.out (by omega)) _ HK.out rfl, put_below NN.out (by omega) (Nat.le_refl _) HK.out⟩⟩
  case stop =>
    rintro D cd k W hD hlt h hK
    exact h.elim
end Go.Proofs.Ytbbnkclajpaghaa
