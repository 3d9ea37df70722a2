/- Contract of the reference's Put. -/
import Derived.Test.YtbbnkclajpaghaaTn
import Derived.OwnWalk
namespace Go.Proofs.Ytbbnkclajpaghaa
open Go.ChangeShapes Go.WideShapes Go.ChangeAt Go.RowKit
set_option linter.unusedVariables false
set_option linter.unusedSimpArgs false
theorem OR.drop_ {B : Nat} {w : World} {v : Value} {l : List Vr} (h : OR B w v l) : ∃ A cap, v = .slice A l.length cap := by
  obtain ⟨A, cap, e, _⟩ := h.form; exact ⟨A, cap, e⟩
def ltK (r x : Vr) : Bool := decide (vkey x < vkey r)
def geK (r x : Vr) : Bool := decide (¬ vkey x < vkey r)
theorem ltK_t {r s : Vr} (h : vkey s < vkey r) : ltK r s = true ∧ geK r s = false := ⟨decide_eq_true h, decide_eq_false (fun hh => hh h)⟩
theorem ltK_f {r s : Vr} (h : ¬ vkey s < vkey r) : ltK r s = false ∧ geK r s = true := ⟨decide_eq_false h, decide_eq_true h⟩
theorem filter_len (r : Vr) (l : List Vr) : (l.filter (ltK r)).length + (l.filter (geK r)).length = l.length := by
  induction l with
  | nil => rfl
  | cons x l ih =>
    by_cases h : vkey x < vkey r
    · rw [List.filter_cons_of_pos (ltK_t h).1, List.filter_cons_of_neg (by rw [(ltK_t h).2]; simp)]; simp only [List.length_cons]; omega
    · rw [List.filter_cons_of_neg (by rw [(ltK_f h).1]; simp), List.filter_cons_of_pos (ltK_f h).2]; simp only [List.length_cons]; omega
theorem put_filters {l : List Vr} {r : Vr} (h : chkE l = 0) (hp : putE l r = 0) : putL l r = l.filter (ltK r) ++ [r] ++ l.filter (geK r) := by
  obtain ⟨h1, h2⟩ := filter_tw (chkE_good h).1 (vkey r)
  unfold putL
  rw [if_pos hp, ← h1, ← h2, List.append_assoc]; rfl
set_option maxRecDepth 100000 in
set_option maxHeartbeats 8000000 in
theorem refput_calls {A : Option Addr} {cap : Nat} {l : List Vr} {w : World} (r : Vr) (hl : RT w A l) (hc : l.length ≤ cap) (hc' : cap ≤ 9223372036854775807) : Calls Try.prog 8 #[.slice A l.length cap, Rv r] w fun e w' =>
    ∃ v, e = .returned (.tuple #[v, .int .i64 (putE l r)]) ∧ OR w.heap.size w' v (putL l r) ∧ Below w.heap.size w w' := by
  have CK : Hid (∀ W : World, Below w.heap.size w W → Calls Try.prog 14 #[.slice A l.length cap] W fun e w' => e = .returned (.int .i64 (chkE l)) ∧ Below W.heap.size W w') := Lib.hid (fun W hb => refchk_calls (w := W) (hl.next hb) hc hc')
  have HL := Lib.hid hl
  have NN := Lib.hid (Below.refl w.heap.size w)
  clear hl
  obtain ⟨pe, hpe⟩ : ∃ pe, putE l r = pe := ⟨_, rfl⟩
  obtain ⟨pl, hpl⟩ : ∃ pl, putL l r = pl := ⟨_, rfl⟩
  obtain ⟨E, hE⟩ : ∃ E, chkE l = E := ⟨_, rfl⟩
  have HPE := Lib.hid hpe
  have HPL := Lib.hid hpl
  have HEE := Lib.hid hE
  rw [hpe, hpl]
  rw [hE] at CK
  clear hpe hpl hE
  have HV := Lib.hid (refvalid_calls r)
  go_enter Try.func8, Try.ntmps8
  go_wp2_with fail
  have V3 : Hid ((w.alloc (.cells #[.int .i64 r.t, .int .i64 r.c, .int .i64 r.i, .int .i64 r.j, .int .i64 r.re, .int .i64 r.im, .int .i64 r.dn, .int .i64 r.n] 28)).heap[w.heap.size]? = some (.cells #[.int .i64 r.t, .int .i64 r.c, .int .i64 r.i, .int .i64 r.j, .int .i64 r.re, .int .i64 r.im, .int .i64 r.dn, .int .i64 r.n] 28)) := Lib.hid (blk_new w _)
  replace NN : Hid (Below w.heap.size w (w.alloc (.cells #[.int .i64 r.t, .int .i64 r.c, .int .i64 r.i, .int .i64 r.j, .int .i64 r.re, .int .i64 r.im, .int .i64 r.dn, .int .i64 r.n] 28))) := Lib.hid (Bal NN.out _)
  generalize (w.alloc (.cells #[.int .i64 r.t, .int .i64 r.c, .int .i64 r.i, .int .i64 r.j, .int .i64 r.re, .int .i64 r.im, .int .i64 r.dn, .int .i64 r.n] 28)) = W1 at *
  refine (CK.out _ NN.out).mono ?_
  rintro e w2 ⟨rfl, hb⟩
  replace NN := Lib.hid (Bgo NN.out hb)
  replace V3 := Lib.hid (blk_next hb V3.out)
  clear hb
  by_cases h0 : E ≠ 0
  · have q1 : (E != 0) = true := by simpa using h0
    have HE0 := Lib.hid h0
    clear h0
    go_wp2_with fail
    refine (CK.out _ NN.out).mono ?_
    rintro e w3 ⟨rfl, hb⟩
    replace NN := Lib.hid (Bgo NN.out hb)
    replace V3 := Lib.hid (blk_next hb V3.out)
    clear hb
    go_wp2_with fail
    go_ret2
    have h1 : putE l r = E := by unfold putE; rw [HEE.out, if_pos HE0.out]
    have h2 : putL l r = [] := by unfold putL; rw [h1]; exact if_neg HE0.out
    exact ⟨.slice none 0 0, by rw [← HPE.out, h1]; rfl, by rw [← HPL.out, h2]; exact OR.nil _ _, NN.out⟩
  have h0' : E = 0 := by omega
  subst h0'
  clear h0
  obtain ⟨hg, hn⟩ := chkE_good HEE.out
  have HG := Lib.hid hg
  clear hg CK
  have c_V3_0 := blk_cell V3.out 0 _ rfl
  have f_V3_0 := blk_frozen V3.out 0
  have c_V3_1 := blk_cell V3.out 1 _ rfl
  have f_V3_1 := blk_frozen V3.out 1
  have c_V3_2 := blk_cell V3.out 2 _ rfl
  have f_V3_2 := blk_frozen V3.out 2
  have c_V3_3 := blk_cell V3.out 3 _ rfl
  have f_V3_3 := blk_frozen V3.out 3
  have c_V3_4 := blk_cell V3.out 4 _ rfl
  have f_V3_4 := blk_frozen V3.out 4
  have c_V3_5 := blk_cell V3.out 5 _ rfl
  have f_V3_5 := blk_frozen V3.out 5
  have c_V3_6 := blk_cell V3.out 6 _ rfl
  have f_V3_6 := blk_frozen V3.out 6
  have c_V3_7 := blk_cell V3.out 7 _ rfl
  have f_V3_7 := blk_frozen V3.out 7
  have l_V3 := blk_lt V3.out
  go_wp2_with fail
  refine (HV.out _).mono ?_
  rintro e w4 ⟨rfl, hb⟩
  clear c_V3_0 f_V3_0 c_V3_1 f_V3_1 c_V3_2 f_V3_2 c_V3_3 f_V3_3 c_V3_4 f_V3_4 c_V3_5 f_V3_5 c_V3_6 f_V3_6 c_V3_7 f_V3_7 l_V3
  replace NN := Lib.hid (Bgo NN.out hb)
  replace V3 := Lib.hid (blk_next hb V3.out)
  clear hb
  cases hr : rowB r
  · have HR0 := Lib.hid hr
    clear hr
    go_wp2_with fail
    go_ret2
    have h1 : putE l r = 8 := by unfold putE; rw [HEE.out, if_neg (by omega), if_pos HR0.out]
    have h2 : putL l r = [] := by unfold putL; rw [h1]; exact if_neg (by omega)
    exact ⟨.slice none 0 0, by rw [← HPE.out, h1]; rfl, by rw [← HPL.out, h2]; exact OR.nil _ _, NN.out⟩
  have HR0 := Lib.hid hr
  have KR : Hid (∀ X : World, Calls Try.prog 22 #[Rv r] X fun e w' => e = .returned (.int .i64 (vkey r)) ∧ Below X.heap.size X w') := Lib.hid (key_calls r hr)
  clear hr HV
  go_wp2_with fail
  have HNN := NN
  have HV3 := V3
  clear NN V3
  go_loopw [6, 7, 8] (fun v6 v7 p wr => ∃ (k : Nat) (A6 : Option Addr) (c6 : Nat) (L6 : List Vr) (A7 : Option Addr) (c7 : Nat) (L7 : List Vr), k ≤ l.length ∧ p = .int .i64 (k : Int) ∧ v6 = .slice A6 L6.length c6 ∧ v7 = .slice A7 L7.length c7 ∧ Hid (L6 = List.filter (ltK r) (l.take k)) ∧ Hid (L7 = List.filter (geK r) (l.take k)) ∧ Hid (OR (w.heap.size + 1) wr (.slice A6 L6.length c6) L6) ∧ Hid (OR (w.heap.size + 1) wr (.slice A7 L7.length c7) L7) ∧ Hid (apart2 (.slice A6 L6.length c6) (.slice A7 L7.length c7)) ∧ Hid (∀ x ∈ l.take k, vkey x ≠ vkey r) ∧ Hid (Below w.heap.size w wr) ∧ Hid (wr.heap[w.heap.size]? = some (.cells #[.int .i64 r.t, .int .i64 r.c, .int .i64 r.i, .int .i64 r.j, .int .i64 r.re, .int .i64 r.im, .int .i64 r.dn, .int .i64 r.n] 28))) (fun _ _ p _ => l.length - (intOf p).toNat)
  case atStart => exact ⟨0, none, 0, [], none, 0, [], Nat.zero_le _, rfl, rfl, rfl, Lib.hid rfl, Lib.hid rfl, Lib.hid (OR.nil _ _), Lib.hid (OR.nil _ _), Lib.hid (fun g h => by cases h), Lib.hid (fun x hx => by simp at hx), HNN, HV3⟩
  case round =>
    clear HNN HV3
    obtain ⟨k, A6, c6, L6, A7, c7, L7, hk, rfl, rfl, rfl, F6, F7, O6, O7, AP, NE, NN, V3⟩ := hrel
    have SW : Hid (w.heap.size + 1 ≤ wr.heap.size) := Lib.hid (blk_lt V3.out)
    have hlen : L6.length ≤ 200 ∧ L7.length ≤ 200 := by rw [F6.out, F7.out]; exact ⟨Nat.le_trans (List.length_filter_le _ _) (by rw [List.length_take]; omega), Nat.le_trans (List.length_filter_le _ _) (by rw [List.length_take]; omega)⟩
    obtain ⟨hl6, hl7⟩ := hlen
    by_cases hlt : l.length ≤ k
    · have e : k = l.length := by omega
      subst e
      rw [List.take_length] at F6 F7 NE
      clear hk hlt
      by_cases h2 : l.length = 200
      · have q2 : decide ((200 : Int) < (l.length : Int) + 1) = true := decide_eq_true (by omega)
        have h1 : putE l r = 4 := put_full HEE.out HR0.out NE.out h2
        have HP := Lib.hid h1
        have h3 : putL l r = [] := by unfold putL; rw [h1]; exact if_neg (by omega)
        have HP3 := Lib.hid h3
        clear h1 h3
        go_wp2_with fail
        all_goals first | (exfalso; omega; done) | skip
        go_ret2
        exact ⟨.slice none 0 0, by rw [← HPE.out, HP.out]; rfl, by rw [← HPL.out, HP3.out]; exact OR.nil _ _, NN.out⟩
      · have q2 : decide ((200 : Int) < (l.length : Int) + 1) = false := decide_eq_false (by omega)
        have h1 : putE l r = 0 := put_none HEE.out HR0.out NE.out h2
        have HP := Lib.hid h1
        have HP3 : Hid (putL l r = L6 ++ [r] ++ L7) := Lib.hid (by rw [put_filters HEE.out h1, F6.out, F7.out])
        have hl67 : L6.length + L7.length = l.length := by rw [F6.out, F7.out]; exact filter_len r l
        clear h1 F6 F7
        have c_V3_0 := blk_cell V3.out 0 _ rfl
        have f_V3_0 := blk_frozen V3.out 0
        have c_V3_1 := blk_cell V3.out 1 _ rfl
        have f_V3_1 := blk_frozen V3.out 1
        have c_V3_2 := blk_cell V3.out 2 _ rfl
        have f_V3_2 := blk_frozen V3.out 2
        have c_V3_3 := blk_cell V3.out 3 _ rfl
        have f_V3_3 := blk_frozen V3.out 3
        have c_V3_4 := blk_cell V3.out 4 _ rfl
        have f_V3_4 := blk_frozen V3.out 4
        have c_V3_5 := blk_cell V3.out 5 _ rfl
        have f_V3_5 := blk_frozen V3.out 5
        have c_V3_6 := blk_cell V3.out 6 _ rfl
        have f_V3_6 := blk_frozen V3.out 6
        have c_V3_7 := blk_cell V3.out 7 _ rfl
        have f_V3_7 := blk_frozen V3.out 7
        have l_V3 := blk_lt V3.out
        go_wp2_with (first | (at_builtin; refine wpList_app rfl _ _ rfl (w.heap.size + 1) _ L6 rfl (some ⟨wr.heap.size, 0, none⟩) 1 1 [r] rfl (O6.out.alloc _) rfl (RT.one (blk_new wr _)) ?_ ?_ ?_; omega; (rw [World.size_alloc]; have := SW.out; omega); intro v1 w1 o1 q1 t1; obtain ⟨A1, c1, hv1, -⟩ := OR.form o1; rw [show (L6 ++ [r]).length = L6.length + 1 by simp] at hv1; subst hv1; have B1 := Lib.hid ((NN.out.alloc NN.out.size _).trans (q1.mono (Nat.le_succ _))); have S1 : Hid (w.heap.size + 1 ≤ w1.heap.size) := Lib.hid (Nat.le_trans SW.out (Nat.le_trans (by rw [World.size_alloc]; exact Nat.le_succ _) q1.size)); have O1 := Lib.hid o1; have O71 := Lib.hid (t1 _ _ (O7.out.alloc _) AP.out).1; obtain ⟨A71, c71, e71, -, -, R71, -⟩ := OR.form (Hid.out O71); injection e71 with e71 _ e72; subst e71 e72; have R7 := Lib.hid R71; clear o1 q1 t1 R71) | (at_builtin; refine wpList_app rfl _ _ rfl (w.heap.size + 1) _ (L6 ++ [r]) rfl _ _ _ L7 rfl O1.out rfl R7.out ?_ S1.out ?_; (simp; omega); intro v2 w2 o2 q2 _; obtain ⟨A2, c2, hv2, -⟩ := OR.form o2; rw [show (L6 ++ [r] ++ L7).length = L6.length + (L7.length + 1) by simp <;> omega] at hv2; subst hv2; have B2 := Lib.hid (B1.out.trans (q2.mono (Nat.le_succ _))); have O2 := Lib.hid o2; clear o2 q2))
        all_goals first | (exfalso; omega; done) | skip
        clear c_V3_0 f_V3_0 c_V3_1 f_V3_1 c_V3_2 f_V3_2 c_V3_3 f_V3_3 c_V3_4 f_V3_4 c_V3_5 f_V3_5 c_V3_6 f_V3_6 c_V3_7 f_V3_7 l_V3
        go_ret2
        exact ⟨.slice A2 (L6.length + (L7.length + 1)) c2, by rw [← HPE.out, HP.out]; rfl, by rw [← HPL.out, HP3.out]; exact OR.mono O2.out (Nat.le_succ _), B2.out⟩
    replace hlt : k < l.length := by omega
    have H6 := Lib.hid (filter_take (ltK r) hlt)
    have H7 := Lib.hid (filter_take (geK r) hlt)
    rw [← F6.out] at H6
    rw [← F7.out] at H7
    have HTK : Hid (l.take (k + 1) = l.take k ++ [rowAt l k]) := Lib.hid (by rw [List.take_succ_eq_append_getElem hlt, rowAt_lt hlt])
    have KS : Hid (∀ X : World, Calls Try.prog 22 #[Rv (rowAt l k)] X fun e w' => e = .returned (.int .i64 (vkey (rowAt l k))) ∧ Below X.heap.size X w') := Lib.hid (key_calls _ (by rw [rowAt_lt hlt]; exact goodF_row HG.out _ (List.getElem_mem hlt)))
    have HM : Hid (rowAt l k ∈ l) := Lib.hid (by rw [rowAt_lt hlt]; exact List.getElem_mem hlt)
    obtain ⟨b, off, eA, bl, a0, a1, a2, a3, a4, a5, a6, a7⟩ := RT.at_ HL.out hlt
    rw [← rowAt_lt hlt] at a0 a1 a2 a3 a4 a5 a6 a7
    generalize hr9 : rowAt l k = s at *
    subst eA
    have HR : Hid (∀ X : World, Below w.heap.size w X → b < X.heap.size ∧ X.cell? ⟨b, off + k * 8, none⟩ = some (.int .i64 s.t) ∧ X.cell? ⟨b, off + k * 8 + 1, none⟩ = some (.int .i64 s.c) ∧ X.cell? ⟨b, off + k * 8 + 2, none⟩ = some (.int .i64 s.i) ∧ X.cell? ⟨b, off + k * 8 + 3, none⟩ = some (.int .i64 s.j) ∧ X.cell? ⟨b, off + k * 8 + 4, none⟩ = some (.int .i64 s.re) ∧ X.cell? ⟨b, off + k * 8 + 5, none⟩ = some (.int .i64 s.im) ∧ X.cell? ⟨b, off + k * 8 + 6, none⟩ = some (.int .i64 s.dn) ∧ X.cell? ⟨b, off + k * 8 + 7, none⟩ = some (.int .i64 s.n)) :=
      Lib.hid (fun X hX => ⟨Nat.lt_of_lt_of_le bl hX.size, (hX.cell (p := ⟨b, off + k * 8, none⟩) bl).trans a0, (hX.cell (p := ⟨b, off + k * 8 + 1, none⟩) bl).trans a1, (hX.cell (p := ⟨b, off + k * 8 + 2, none⟩) bl).trans a2, (hX.cell (p := ⟨b, off + k * 8 + 3, none⟩) bl).trans a3, (hX.cell (p := ⟨b, off + k * 8 + 4, none⟩) bl).trans a4, (hX.cell (p := ⟨b, off + k * 8 + 5, none⟩) bl).trans a5, (hX.cell (p := ⟨b, off + k * 8 + 6, none⟩) bl).trans a6, (hX.cell (p := ⟨b, off + k * 8 + 7, none⟩) bl).trans a7⟩)
    clear a0 a1 a2 a3 a4 a5 a6 a7 bl hr9
    have hck : k < cap := by omega
    go_wp2_with fail
    obtain ⟨lb, b0, b1, b2, b3, b4, b5, b6, b7⟩ := HR.out wr NN.out
    have HHR := HR
    clear HR
    have HDRW := Lib.hid (Below.drew (Below.refl wr.heap.size wr))
    replace NN := Lib.hid (Bgo NN.out HDRW.out)
    replace O6 := Lib.hid (OR.next O6.out HDRW.out)
    replace O7 := Lib.hid (OR.next O7.out HDRW.out)
    replace V3 := Lib.hid (blk_next HDRW.out V3.out)
    clear HDRW
    have HAL : Hid (∀ kx9 : Nat, SZ [(3, ⟨b, off + k * 8, none⟩, .int .i64 s.t), (3, ⟨b, off + k * 8 + 1, none⟩, .int .i64 s.c), (3, ⟨b, off + k * 8 + 2, none⟩, .int .i64 s.i), (3, ⟨b, off + k * 8 + 3, none⟩, .int .i64 s.j), (3, ⟨b, off + k * 8 + 4, none⟩, .int .i64 s.re), (3, ⟨b, off + k * 8 + 5, none⟩, .int .i64 s.im), (3, ⟨b, off + k * 8 + 6, none⟩, .int .i64 s.dn), (3, ⟨b, off + k * 8 + 7, none⟩, .int .i64 s.n), (5, ⟨w.heap.size, 0, none⟩, .int .i64 r.t), (5, ⟨w.heap.size, 1, none⟩, .int .i64 r.c), (5, ⟨w.heap.size, 2, none⟩, .int .i64 r.i), (5, ⟨w.heap.size, 3, none⟩, .int .i64 r.j), (5, ⟨w.heap.size, 4, none⟩, .int .i64 r.re), (5, ⟨w.heap.size, 5, none⟩, .int .i64 r.im), (5, ⟨w.heap.size, 6, none⟩, .int .i64 r.dn), (5, ⟨w.heap.size, 7, none⟩, .int .i64 r.n)] [] kx9 wr.drew) := Lib.hid (fun kx9 => by
      constructor
      · intro p hp e
        simp only [List.mem_cons, List.not_mem_nil, or_false] at hp
        rcases hp with rfl | rfl | rfl | rfl | rfl | rfl | rfl | rfl | rfl | rfl | rfl | rfl | rfl | rfl | rfl | rfl
        · exact ⟨lb, b0⟩
        · exact ⟨lb, b1⟩
        · exact ⟨lb, b2⟩
        · exact ⟨lb, b3⟩
        · exact ⟨lb, b4⟩
        · exact ⟨lb, b5⟩
        · exact ⟨lb, b6⟩
        · exact ⟨lb, b7⟩
        · exact ⟨blk_lt V3.out, blk_cell V3.out 0 _ rfl⟩
        · exact ⟨blk_lt V3.out, blk_cell V3.out 1 _ rfl⟩
        · exact ⟨blk_lt V3.out, blk_cell V3.out 2 _ rfl⟩
        · exact ⟨blk_lt V3.out, blk_cell V3.out 3 _ rfl⟩
        · exact ⟨blk_lt V3.out, blk_cell V3.out 4 _ rfl⟩
        · exact ⟨blk_lt V3.out, blk_cell V3.out 5 _ rfl⟩
        · exact ⟨blk_lt V3.out, blk_cell V3.out 6 _ rfl⟩
        · exact ⟨blk_lt V3.out, blk_cell V3.out 7 _ rfl⟩
      · intro p hp e
        exact absurd hp (by simp)
      )
    refine region_I (S := SZ [(3, ⟨b, off + k * 8, none⟩, .int .i64 s.t), (3, ⟨b, off + k * 8 + 1, none⟩, .int .i64 s.c), (3, ⟨b, off + k * 8 + 2, none⟩, .int .i64 s.i), (3, ⟨b, off + k * 8 + 3, none⟩, .int .i64 s.j), (3, ⟨b, off + k * 8 + 4, none⟩, .int .i64 s.re), (3, ⟨b, off + k * 8 + 5, none⟩, .int .i64 s.im), (3, ⟨b, off + k * 8 + 6, none⟩, .int .i64 s.dn), (3, ⟨b, off + k * 8 + 7, none⟩, .int .i64 s.n), (5, ⟨w.heap.size, 0, none⟩, .int .i64 r.t), (5, ⟨w.heap.size, 1, none⟩, .int .i64 r.c), (5, ⟨w.heap.size, 2, none⟩, .int .i64 r.i), (5, ⟨w.heap.size, 3, none⟩, .int .i64 r.j), (5, ⟨w.heap.size, 4, none⟩, .int .i64 r.re), (5, ⟨w.heap.size, 5, none⟩, .int .i64 r.im), (5, ⟨w.heap.size, 6, none⟩, .int .i64 r.dn), (5, ⟨w.heap.size, 7, none⟩, .int .i64 r.n)] []) (by kernel_rfl) ?_
    refine take_I 0 (.slice (some ⟨b, off, none⟩) l.length cap) (some 23) rfl (by kernel_rfl) (by kernel_rfl) (by kernel_rfl) rfl (fun _ _ _ h => h) (Or.inl ⟨by rfl, ?_⟩) (SZ.drop (by simp) (by simp)) ?_
    · intro X hX
      clear hX
      go_simp
    try simp only [Act.put, List.setIfInBounds_toArray, List.set_cons_zero, List.set_cons_succ]
    refine take_I 1 (.int .i64 (k : Int)) (some 24) rfl (by kernel_rfl) (by kernel_rfl) (by kernel_rfl) rfl (fun _ _ _ h => h) (Or.inl ⟨by rfl, ?_⟩) (SZ.drop (by simp) (by simp)) ?_
    · intro X hX
      clear hX
      go_simp
    try simp only [Act.put, List.setIfInBounds_toArray, List.set_cons_zero, List.set_cons_succ]
    refine take_I 2 (.pointer (some ⟨b, off + k * 8, none⟩)) (some 25) rfl (by kernel_rfl) (by kernel_rfl) (by kernel_rfl) rfl (fun _ _ _ h => h) (Or.inl ⟨by rfl, ?_⟩) (SZ.drop (by simp) (by simp)) ?_
    · intro X hX
      clear hX
      go_simp
    try simp only [Act.put, List.setIfInBounds_toArray, List.set_cons_zero, List.set_cons_succ]
    refine take_I 3 (.agg #[.int .i64 s.t, .int .i64 s.c, .int .i64 s.i, .int .i64 s.j, .int .i64 s.re, .int .i64 s.im, .int .i64 s.dn, .int .i64 s.n]) (some 26) rfl (by kernel_rfl) (by kernel_rfl) (by kernel_rfl) rfl (fun _ _ _ h => h) (Or.inl ⟨by rfl, ?_⟩) (HAL.out 3) ?_
    · intro X hX
      obtain ⟨hz0, hc0⟩ := hX.1 (3, ⟨b, off + k * 8, none⟩, .int .i64 s.t) (List.Mem.head _) rfl
      simp only at hz0 hc0
      obtain ⟨hz1, hc1⟩ := hX.1 (3, ⟨b, off + k * 8 + 1, none⟩, .int .i64 s.c) (List.Mem.tail _ (List.Mem.head _)) rfl
      simp only at hz1 hc1
      obtain ⟨hz2, hc2⟩ := hX.1 (3, ⟨b, off + k * 8 + 2, none⟩, .int .i64 s.i) (List.Mem.tail _ (List.Mem.tail _ (List.Mem.head _))) rfl
      simp only at hz2 hc2
      obtain ⟨hz3, hc3⟩ := hX.1 (3, ⟨b, off + k * 8 + 3, none⟩, .int .i64 s.j) (List.Mem.tail _ (List.Mem.tail _ (List.Mem.tail _ (List.Mem.head _)))) rfl
      simp only at hz3 hc3
      obtain ⟨hz4, hc4⟩ := hX.1 (3, ⟨b, off + k * 8 + 4, none⟩, .int .i64 s.re) (List.Mem.tail _ (List.Mem.tail _ (List.Mem.tail _ (List.Mem.tail _ (List.Mem.head _))))) rfl
      simp only at hz4 hc4
      obtain ⟨hz5, hc5⟩ := hX.1 (3, ⟨b, off + k * 8 + 5, none⟩, .int .i64 s.im) (List.Mem.tail _ (List.Mem.tail _ (List.Mem.tail _ (List.Mem.tail _ (List.Mem.tail _ (List.Mem.head _)))))) rfl
      simp only at hz5 hc5
      obtain ⟨hz6, hc6⟩ := hX.1 (3, ⟨b, off + k * 8 + 6, none⟩, .int .i64 s.dn) (List.Mem.tail _ (List.Mem.tail _ (List.Mem.tail _ (List.Mem.tail _ (List.Mem.tail _ (List.Mem.tail _ (List.Mem.head _))))))) rfl
      simp only at hz6 hc6
      obtain ⟨hz7, hc7⟩ := hX.1 (3, ⟨b, off + k * 8 + 7, none⟩, .int .i64 s.n) (List.Mem.tail _ (List.Mem.tail _ (List.Mem.tail _ (List.Mem.tail _ (List.Mem.tail _ (List.Mem.tail _ (List.Mem.tail _ (List.Mem.head _)))))))) rfl
      simp only at hz7 hc7
      clear hX
      go_simp
    try simp only [Act.put, List.setIfInBounds_toArray, List.set_cons_zero, List.set_cons_succ]
    refine take_I 5 (.agg #[.int .i64 r.t, .int .i64 r.c, .int .i64 r.i, .int .i64 r.j, .int .i64 r.re, .int .i64 r.im, .int .i64 r.dn, .int .i64 r.n]) (some 28) rfl (by kernel_rfl) (by kernel_rfl) (by kernel_rfl) rfl (fun _ _ _ h => h) (Or.inl ⟨by rfl, ?_⟩) (HAL.out 5) ?_
    · intro X hX
      obtain ⟨hz8, hc8⟩ := hX.1 (5, ⟨w.heap.size, 0, none⟩, .int .i64 r.t) (List.Mem.tail _ (List.Mem.tail _ (List.Mem.tail _ (List.Mem.tail _ (List.Mem.tail _ (List.Mem.tail _ (List.Mem.tail _ (List.Mem.tail _ (List.Mem.head _))))))))) rfl
      simp only at hz8 hc8
      obtain ⟨hz9, hc9⟩ := hX.1 (5, ⟨w.heap.size, 1, none⟩, .int .i64 r.c) (List.Mem.tail _ (List.Mem.tail _ (List.Mem.tail _ (List.Mem.tail _ (List.Mem.tail _ (List.Mem.tail _ (List.Mem.tail _ (List.Mem.tail _ (List.Mem.tail _ (List.Mem.head _)))))))))) rfl
      simp only at hz9 hc9
      obtain ⟨hz10, hc10⟩ := hX.1 (5, ⟨w.heap.size, 2, none⟩, .int .i64 r.i) (List.Mem.tail _ (List.Mem.tail _ (List.Mem.tail _ (List.Mem.tail _ (List.Mem.tail _ (List.Mem.tail _ (List.Mem.tail _ (List.Mem.tail _ (List.Mem.tail _ (List.Mem.tail _ (List.Mem.head _))))))))))) rfl
      simp only at hz10 hc10
      obtain ⟨hz11, hc11⟩ := hX.1 (5, ⟨w.heap.size, 3, none⟩, .int .i64 r.j) (List.Mem.tail _ (List.Mem.tail _ (List.Mem.tail _ (List.Mem.tail _ (List.Mem.tail _ (List.Mem.tail _ (List.Mem.tail _ (List.Mem.tail _ (List.Mem.tail _ (List.Mem.tail _ (List.Mem.tail _ (List.Mem.head _)))))))))))) rfl
      simp only at hz11 hc11
      obtain ⟨hz12, hc12⟩ := hX.1 (5, ⟨w.heap.size, 4, none⟩, .int .i64 r.re) (List.Mem.tail _ (List.Mem.tail _ (List.Mem.tail _ (List.Mem.tail _ (List.Mem.tail _ (List.Mem.tail _ (List.Mem.tail _ (List.Mem.tail _ (List.Mem.tail _ (List.Mem.tail _ (List.Mem.tail _ (List.Mem.tail _ (List.Mem.head _))))))))))))) rfl
      simp only at hz12 hc12
      obtain ⟨hz13, hc13⟩ := hX.1 (5, ⟨w.heap.size, 5, none⟩, .int .i64 r.im) (List.Mem.tail _ (List.Mem.tail _ (List.Mem.tail _ (List.Mem.tail _ (List.Mem.tail _ (List.Mem.tail _ (List.Mem.tail _ (List.Mem.tail _ (List.Mem.tail _ (List.Mem.tail _ (List.Mem.tail _ (List.Mem.tail _ (List.Mem.tail _ (List.Mem.head _)))))))))))))) rfl
      simp only at hz13 hc13
      obtain ⟨hz14, hc14⟩ := hX.1 (5, ⟨w.heap.size, 6, none⟩, .int .i64 r.dn) (List.Mem.tail _ (List.Mem.tail _ (List.Mem.tail _ (List.Mem.tail _ (List.Mem.tail _ (List.Mem.tail _ (List.Mem.tail _ (List.Mem.tail _ (List.Mem.tail _ (List.Mem.tail _ (List.Mem.tail _ (List.Mem.tail _ (List.Mem.tail _ (List.Mem.tail _ (List.Mem.head _))))))))))))))) rfl
      simp only at hz14 hc14
      obtain ⟨hz15, hc15⟩ := hX.1 (5, ⟨w.heap.size, 7, none⟩, .int .i64 r.n) (List.Mem.tail _ (List.Mem.tail _ (List.Mem.tail _ (List.Mem.tail _ (List.Mem.tail _ (List.Mem.tail _ (List.Mem.tail _ (List.Mem.tail _ (List.Mem.tail _ (List.Mem.tail _ (List.Mem.tail _ (List.Mem.tail _ (List.Mem.tail _ (List.Mem.tail _ (List.Mem.tail _ (List.Mem.head _)))))))))))))))) rfl
      simp only at hz15 hc15
      clear hX
      go_simp
    try simp only [Act.put, List.setIfInBounds_toArray, List.set_cons_zero, List.set_cons_succ]
    refine only_I 4 (by kernel_rfl) rfl (fun K' hK' => ?_)
    go_simp
    go_at_call 22
    refine (KS.out _).mono ?_
    rintro e x5 ⟨rfl, hb⟩
    replace NN := Lib.hid (Bgo NN.out hb)
    replace O6 := Lib.hid (OR.next O6.out hb)
    replace O7 := Lib.hid (OR.next O7.out hb)
    replace V3 := Lib.hid (blk_next hb V3.out)
    go_simp
    refine hK'.out _ _ (fun _ _ hS => hS.next hb) ?_
    clear hK' K'
    try simp only [Act.put, List.setIfInBounds_toArray, List.set_cons_zero, List.set_cons_succ]
    replace HAL := Lib.hid (fun kx9 => (HAL.out kx9).next hb)
    clear hb
    refine only_I 6 (by kernel_rfl) rfl (fun K' hK' => ?_)
    go_simp
    go_at_call 22
    refine (KR.out _).mono ?_
    rintro e x6 ⟨rfl, hb⟩
    replace NN := Lib.hid (Bgo NN.out hb)
    replace O6 := Lib.hid (OR.next O6.out hb)
    replace O7 := Lib.hid (OR.next O7.out hb)
    replace V3 := Lib.hid (blk_next hb V3.out)
    go_simp
    refine hK'.out _ _ (fun _ _ hS => hS.next hb) ?_
    clear hK' K'
    try simp only [Act.put, List.setIfInBounds_toArray, List.set_cons_zero, List.set_cons_succ]
    replace HAL := Lib.hid (fun kx9 => (HAL.out kx9).next hb)
    clear hb
    refine take_I 7 (.bool (vkey s == vkey r)) (some 30) rfl (by kernel_rfl) (by kernel_rfl) (by kernel_rfl) rfl (fun _ _ _ h => h) (Or.inl ⟨by rfl, ?_⟩) (SZ.drop (by simp) (by simp)) ?_
    · intro X hX
      clear hX
      go_simp
    try simp only [Act.put, List.setIfInBounds_toArray, List.set_cons_zero, List.set_cons_succ]
    clear HAL
    refine done_I (by kernel_rfl) ?_ _
    have HR := HHR
    clear HHR lb b0 b1 b2 b3 b4 b5 b6 b7
    by_cases he : vkey s = vkey r
    · have q1 : (vkey s == vkey r) = true := by rw [he]; simp
      have h1 : putE l r = 14 := put_twice HEE.out HR0.out ⟨s, HM.out, he⟩
      have HP := Lib.hid h1
      have HP3 : Hid (putL l r = []) := Lib.hid (by unfold putL; rw [h1]; exact if_neg (by omega))
      clear h1 he
      go_wp2_with fail
      go_ret2
      exact ⟨.slice none 0 0, by rw [← HPE.out, HP.out]; rfl, by rw [← HPL.out, HP3.out]; exact OR.nil _ _, NN.out⟩
    have q1 : (vkey s == vkey r) = false := by rw [beq_eq_false_iff_ne]; exact he
    have HNE := Lib.hid he
    clear he
    go_wp2_with fail
    clear q1
    obtain ⟨lb, b0, b1, b2, b3, b4, b5, b6, b7⟩ := HR.out x6 NN.out
    have HHR := HR
    clear HR
    have HDRW := Lib.hid (Below.drew (Below.refl x6.heap.size x6))
    replace NN := Lib.hid (Bgo NN.out HDRW.out)
    replace O6 := Lib.hid (OR.next O6.out HDRW.out)
    replace O7 := Lib.hid (OR.next O7.out HDRW.out)
    replace V3 := Lib.hid (blk_next HDRW.out V3.out)
    clear HDRW
    have HAL : Hid (∀ kx9 : Nat, SZ [(3, ⟨b, off + k * 8, none⟩, .int .i64 s.t), (3, ⟨b, off + k * 8 + 1, none⟩, .int .i64 s.c), (3, ⟨b, off + k * 8 + 2, none⟩, .int .i64 s.i), (3, ⟨b, off + k * 8 + 3, none⟩, .int .i64 s.j), (3, ⟨b, off + k * 8 + 4, none⟩, .int .i64 s.re), (3, ⟨b, off + k * 8 + 5, none⟩, .int .i64 s.im), (3, ⟨b, off + k * 8 + 6, none⟩, .int .i64 s.dn), (3, ⟨b, off + k * 8 + 7, none⟩, .int .i64 s.n), (5, ⟨w.heap.size, 0, none⟩, .int .i64 r.t), (5, ⟨w.heap.size, 1, none⟩, .int .i64 r.c), (5, ⟨w.heap.size, 2, none⟩, .int .i64 r.i), (5, ⟨w.heap.size, 3, none⟩, .int .i64 r.j), (5, ⟨w.heap.size, 4, none⟩, .int .i64 r.re), (5, ⟨w.heap.size, 5, none⟩, .int .i64 r.im), (5, ⟨w.heap.size, 6, none⟩, .int .i64 r.dn), (5, ⟨w.heap.size, 7, none⟩, .int .i64 r.n)] [] kx9 x6.drew) := Lib.hid (fun kx9 => by
      constructor
      · intro p hp e
        simp only [List.mem_cons, List.not_mem_nil, or_false] at hp
        rcases hp with rfl | rfl | rfl | rfl | rfl | rfl | rfl | rfl | rfl | rfl | rfl | rfl | rfl | rfl | rfl | rfl
        · exact ⟨lb, b0⟩
        · exact ⟨lb, b1⟩
        · exact ⟨lb, b2⟩
        · exact ⟨lb, b3⟩
        · exact ⟨lb, b4⟩
        · exact ⟨lb, b5⟩
        · exact ⟨lb, b6⟩
        · exact ⟨lb, b7⟩
        · exact ⟨blk_lt V3.out, blk_cell V3.out 0 _ rfl⟩
        · exact ⟨blk_lt V3.out, blk_cell V3.out 1 _ rfl⟩
        · exact ⟨blk_lt V3.out, blk_cell V3.out 2 _ rfl⟩
        · exact ⟨blk_lt V3.out, blk_cell V3.out 3 _ rfl⟩
        · exact ⟨blk_lt V3.out, blk_cell V3.out 4 _ rfl⟩
        · exact ⟨blk_lt V3.out, blk_cell V3.out 5 _ rfl⟩
        · exact ⟨blk_lt V3.out, blk_cell V3.out 6 _ rfl⟩
        · exact ⟨blk_lt V3.out, blk_cell V3.out 7 _ rfl⟩
      · intro p hp e
        exact absurd hp (by simp)
      )
    refine region_I (S := SZ [(3, ⟨b, off + k * 8, none⟩, .int .i64 s.t), (3, ⟨b, off + k * 8 + 1, none⟩, .int .i64 s.c), (3, ⟨b, off + k * 8 + 2, none⟩, .int .i64 s.i), (3, ⟨b, off + k * 8 + 3, none⟩, .int .i64 s.j), (3, ⟨b, off + k * 8 + 4, none⟩, .int .i64 s.re), (3, ⟨b, off + k * 8 + 5, none⟩, .int .i64 s.im), (3, ⟨b, off + k * 8 + 6, none⟩, .int .i64 s.dn), (3, ⟨b, off + k * 8 + 7, none⟩, .int .i64 s.n), (5, ⟨w.heap.size, 0, none⟩, .int .i64 r.t), (5, ⟨w.heap.size, 1, none⟩, .int .i64 r.c), (5, ⟨w.heap.size, 2, none⟩, .int .i64 r.i), (5, ⟨w.heap.size, 3, none⟩, .int .i64 r.j), (5, ⟨w.heap.size, 4, none⟩, .int .i64 r.re), (5, ⟨w.heap.size, 5, none⟩, .int .i64 r.im), (5, ⟨w.heap.size, 6, none⟩, .int .i64 r.dn), (5, ⟨w.heap.size, 7, none⟩, .int .i64 r.n)] []) (by kernel_rfl) ?_
    refine take_I 0 (.slice (some ⟨b, off, none⟩) l.length cap) (some 31) rfl (by kernel_rfl) (by kernel_rfl) (by kernel_rfl) rfl (fun _ _ _ h => h) (Or.inl ⟨by rfl, ?_⟩) (SZ.drop (by simp) (by simp)) ?_
    · intro X hX
      clear hX
      go_simp
    try simp only [Act.put, List.setIfInBounds_toArray, List.set_cons_zero, List.set_cons_succ]
    refine take_I 1 (.int .i64 (k : Int)) (some 32) rfl (by kernel_rfl) (by kernel_rfl) (by kernel_rfl) rfl (fun _ _ _ h => h) (Or.inl ⟨by rfl, ?_⟩) (SZ.drop (by simp) (by simp)) ?_
    · intro X hX
      clear hX
      go_simp
    try simp only [Act.put, List.setIfInBounds_toArray, List.set_cons_zero, List.set_cons_succ]
    refine take_I 2 (.pointer (some ⟨b, off + k * 8, none⟩)) (some 33) rfl (by kernel_rfl) (by kernel_rfl) (by kernel_rfl) rfl (fun _ _ _ h => h) (Or.inl ⟨by rfl, ?_⟩) (SZ.drop (by simp) (by simp)) ?_
    · intro X hX
      clear hX
      go_simp
    try simp only [Act.put, List.setIfInBounds_toArray, List.set_cons_zero, List.set_cons_succ]
    refine take_I 3 (.agg #[.int .i64 s.t, .int .i64 s.c, .int .i64 s.i, .int .i64 s.j, .int .i64 s.re, .int .i64 s.im, .int .i64 s.dn, .int .i64 s.n]) (some 34) rfl (by kernel_rfl) (by kernel_rfl) (by kernel_rfl) rfl (fun _ _ _ h => h) (Or.inl ⟨by rfl, ?_⟩) (HAL.out 3) ?_
    · intro X hX
      obtain ⟨hz0, hc0⟩ := hX.1 (3, ⟨b, off + k * 8, none⟩, .int .i64 s.t) (List.Mem.head _) rfl
      simp only at hz0 hc0
      obtain ⟨hz1, hc1⟩ := hX.1 (3, ⟨b, off + k * 8 + 1, none⟩, .int .i64 s.c) (List.Mem.tail _ (List.Mem.head _)) rfl
      simp only at hz1 hc1
      obtain ⟨hz2, hc2⟩ := hX.1 (3, ⟨b, off + k * 8 + 2, none⟩, .int .i64 s.i) (List.Mem.tail _ (List.Mem.tail _ (List.Mem.head _))) rfl
      simp only at hz2 hc2
      obtain ⟨hz3, hc3⟩ := hX.1 (3, ⟨b, off + k * 8 + 3, none⟩, .int .i64 s.j) (List.Mem.tail _ (List.Mem.tail _ (List.Mem.tail _ (List.Mem.head _)))) rfl
      simp only at hz3 hc3
      obtain ⟨hz4, hc4⟩ := hX.1 (3, ⟨b, off + k * 8 + 4, none⟩, .int .i64 s.re) (List.Mem.tail _ (List.Mem.tail _ (List.Mem.tail _ (List.Mem.tail _ (List.Mem.head _))))) rfl
      simp only at hz4 hc4
      obtain ⟨hz5, hc5⟩ := hX.1 (3, ⟨b, off + k * 8 + 5, none⟩, .int .i64 s.im) (List.Mem.tail _ (List.Mem.tail _ (List.Mem.tail _ (List.Mem.tail _ (List.Mem.tail _ (List.Mem.head _)))))) rfl
      simp only at hz5 hc5
      obtain ⟨hz6, hc6⟩ := hX.1 (3, ⟨b, off + k * 8 + 6, none⟩, .int .i64 s.dn) (List.Mem.tail _ (List.Mem.tail _ (List.Mem.tail _ (List.Mem.tail _ (List.Mem.tail _ (List.Mem.tail _ (List.Mem.head _))))))) rfl
      simp only at hz6 hc6
      obtain ⟨hz7, hc7⟩ := hX.1 (3, ⟨b, off + k * 8 + 7, none⟩, .int .i64 s.n) (List.Mem.tail _ (List.Mem.tail _ (List.Mem.tail _ (List.Mem.tail _ (List.Mem.tail _ (List.Mem.tail _ (List.Mem.tail _ (List.Mem.head _)))))))) rfl
      simp only at hz7 hc7
      clear hX
      go_simp
    try simp only [Act.put, List.setIfInBounds_toArray, List.set_cons_zero, List.set_cons_succ]
    refine take_I 5 (.agg #[.int .i64 r.t, .int .i64 r.c, .int .i64 r.i, .int .i64 r.j, .int .i64 r.re, .int .i64 r.im, .int .i64 r.dn, .int .i64 r.n]) (some 36) rfl (by kernel_rfl) (by kernel_rfl) (by kernel_rfl) rfl (fun _ _ _ h => h) (Or.inl ⟨by rfl, ?_⟩) (HAL.out 5) ?_
    · intro X hX
      obtain ⟨hz8, hc8⟩ := hX.1 (5, ⟨w.heap.size, 0, none⟩, .int .i64 r.t) (List.Mem.tail _ (List.Mem.tail _ (List.Mem.tail _ (List.Mem.tail _ (List.Mem.tail _ (List.Mem.tail _ (List.Mem.tail _ (List.Mem.tail _ (List.Mem.head _))))))))) rfl
      simp only at hz8 hc8
      obtain ⟨hz9, hc9⟩ := hX.1 (5, ⟨w.heap.size, 1, none⟩, .int .i64 r.c) (List.Mem.tail _ (List.Mem.tail _ (List.Mem.tail _ (List.Mem.tail _ (List.Mem.tail _ (List.Mem.tail _ (List.Mem.tail _ (List.Mem.tail _ (List.Mem.tail _ (List.Mem.head _)))))))))) rfl
      simp only at hz9 hc9
      obtain ⟨hz10, hc10⟩ := hX.1 (5, ⟨w.heap.size, 2, none⟩, .int .i64 r.i) (List.Mem.tail _ (List.Mem.tail _ (List.Mem.tail _ (List.Mem.tail _ (List.Mem.tail _ (List.Mem.tail _ (List.Mem.tail _ (List.Mem.tail _ (List.Mem.tail _ (List.Mem.tail _ (List.Mem.head _))))))))))) rfl
      simp only at hz10 hc10
      obtain ⟨hz11, hc11⟩ := hX.1 (5, ⟨w.heap.size, 3, none⟩, .int .i64 r.j) (List.Mem.tail _ (List.Mem.tail _ (List.Mem.tail _ (List.Mem.tail _ (List.Mem.tail _ (List.Mem.tail _ (List.Mem.tail _ (List.Mem.tail _ (List.Mem.tail _ (List.Mem.tail _ (List.Mem.tail _ (List.Mem.head _)))))))))))) rfl
      simp only at hz11 hc11
      obtain ⟨hz12, hc12⟩ := hX.1 (5, ⟨w.heap.size, 4, none⟩, .int .i64 r.re) (List.Mem.tail _ (List.Mem.tail _ (List.Mem.tail _ (List.Mem.tail _ (List.Mem.tail _ (List.Mem.tail _ (List.Mem.tail _ (List.Mem.tail _ (List.Mem.tail _ (List.Mem.tail _ (List.Mem.tail _ (List.Mem.tail _ (List.Mem.head _))))))))))))) rfl
      simp only at hz12 hc12
      obtain ⟨hz13, hc13⟩ := hX.1 (5, ⟨w.heap.size, 5, none⟩, .int .i64 r.im) (List.Mem.tail _ (List.Mem.tail _ (List.Mem.tail _ (List.Mem.tail _ (List.Mem.tail _ (List.Mem.tail _ (List.Mem.tail _ (List.Mem.tail _ (List.Mem.tail _ (List.Mem.tail _ (List.Mem.tail _ (List.Mem.tail _ (List.Mem.tail _ (List.Mem.head _)))))))))))))) rfl
      simp only at hz13 hc13
      obtain ⟨hz14, hc14⟩ := hX.1 (5, ⟨w.heap.size, 6, none⟩, .int .i64 r.dn) (List.Mem.tail _ (List.Mem.tail _ (List.Mem.tail _ (List.Mem.tail _ (List.Mem.tail _ (List.Mem.tail _ (List.Mem.tail _ (List.Mem.tail _ (List.Mem.tail _ (List.Mem.tail _ (List.Mem.tail _ (List.Mem.tail _ (List.Mem.tail _ (List.Mem.tail _ (List.Mem.head _))))))))))))))) rfl
      simp only at hz14 hc14
      obtain ⟨hz15, hc15⟩ := hX.1 (5, ⟨w.heap.size, 7, none⟩, .int .i64 r.n) (List.Mem.tail _ (List.Mem.tail _ (List.Mem.tail _ (List.Mem.tail _ (List.Mem.tail _ (List.Mem.tail _ (List.Mem.tail _ (List.Mem.tail _ (List.Mem.tail _ (List.Mem.tail _ (List.Mem.tail _ (List.Mem.tail _ (List.Mem.tail _ (List.Mem.tail _ (List.Mem.tail _ (List.Mem.head _)))))))))))))))) rfl
      simp only at hz15 hc15
      clear hX
      go_simp
    try simp only [Act.put, List.setIfInBounds_toArray, List.set_cons_zero, List.set_cons_succ]
    refine only_I 4 (by kernel_rfl) rfl (fun K' hK' => ?_)
    go_simp
    go_at_call 22
    refine (KS.out _).mono ?_
    rintro e x7 ⟨rfl, hb⟩
    replace NN := Lib.hid (Bgo NN.out hb)
    replace O6 := Lib.hid (OR.next O6.out hb)
    replace O7 := Lib.hid (OR.next O7.out hb)
    replace V3 := Lib.hid (blk_next hb V3.out)
    go_simp
    refine hK'.out _ _ (fun _ _ hS => hS.next hb) ?_
    clear hK' K'
    try simp only [Act.put, List.setIfInBounds_toArray, List.set_cons_zero, List.set_cons_succ]
    replace HAL := Lib.hid (fun kx9 => (HAL.out kx9).next hb)
    clear hb
    refine only_I 6 (by kernel_rfl) rfl (fun K' hK' => ?_)
    go_simp
    go_at_call 22
    refine (KR.out _).mono ?_
    rintro e x8 ⟨rfl, hb⟩
    replace NN := Lib.hid (Bgo NN.out hb)
    replace O6 := Lib.hid (OR.next O6.out hb)
    replace O7 := Lib.hid (OR.next O7.out hb)
    replace V3 := Lib.hid (blk_next hb V3.out)
    go_simp
    refine hK'.out _ _ (fun _ _ hS => hS.next hb) ?_
    clear hK' K'
    try simp only [Act.put, List.setIfInBounds_toArray, List.set_cons_zero, List.set_cons_succ]
    replace HAL := Lib.hid (fun kx9 => (HAL.out kx9).next hb)
    clear hb
    refine take_I 7 (.bool (decide (vkey s < vkey r))) (some 38) rfl (by kernel_rfl) (by kernel_rfl) (by kernel_rfl) rfl (fun _ _ _ h => h) (Or.inl ⟨by rfl, ?_⟩) (SZ.drop (by simp) (by simp)) ?_
    · intro X hX
      clear hX
      go_simp
    try simp only [Act.put, List.setIfInBounds_toArray, List.set_cons_zero, List.set_cons_succ]
    clear HAL
    refine done_I (by kernel_rfl) ?_ _
    have HR := HHR
    clear HHR lb b0 b1 b2 b3 b4 b5 b6 b7
    · by_cases hx : vkey s < vkey r
      · have q1 : decide (vkey s < vkey r) = true := decide_eq_true hx
        have HF6 : Hid (L6 ++ [s] = List.filter (ltK r) (l.take (k + 1))) := Lib.hid (by rw [H6.out, (ltK_t hx).1]; rfl)
        have HF7 : Hid (L7 = List.filter (geK r) (l.take (k + 1))) := Lib.hid (by rw [H7.out, (ltK_t hx).2]; exact (List.append_nil _).symm)
        have SX : Hid (w.heap.size + 1 ≤ x8.heap.size) := Lib.hid (blk_lt V3.out)
        obtain ⟨lb, b0, b1, b2, b3, b4, b5, b6, b7⟩ := HR.out x8 NN.out
        have V3s : Hid (w.heap.size < x8.heap.size) := Lib.hid (blk_lt V3.out)
        go_wp2_with (at_builtin; refine wpList_app rfl _ _ rfl (w.heap.size + 1) _ L6 rfl (some ⟨x8.heap.size, 0, none⟩) 1 1 [s] rfl (O6.out.alloc _) rfl (RT.one (blk_new x8 _)) ?_ ?_ ?_; omega; (rw [World.size_alloc]; have := SX.out; omega); intro v1 y1 o1 q1 t1; obtain ⟨A1, c1, hv1, -⟩ := OR.form o1; rw [show (L6 ++ [s]).length = L6.length + 1 by simp] at hv1; subst hv1; have Q1 := Lib.hid ((Below.refl _ x8).alloc SX.out _ |>.trans q1); have O1 := Lib.hid o1; have T1 := Lib.hid (t1 _ _ (O7.out.alloc _) AP.out); clear o1 q1 t1)
        all_goals first | (exfalso; omega; done) | skip
        have HNK : Hid (∀ x ∈ l.take (k + 1), vkey x ≠ vkey r) := Lib.hid (fun x hx => by
          rw [HTK.out] at hx
          rcases List.mem_append.1 hx with hx | hx
          · exact NE.out x hx
          · rw [List.mem_singleton.1 hx]; exact HNE.out)
        refine ⟨⟨k + 1, A1, c1, L6 ++ [s], A7, c7, L7, by omega, by go_num, by simp, rfl, HF6, HF7, Lib.hid (by simpa using O1.out), Lib.hid T1.out.1, Lib.hid (by simpa using T1.out.2), HNK, Lib.hid (NN.out.trans (Q1.out.mono (Nat.le_succ _))), Lib.hid (blk_B Q1.out V3.out (Nat.lt_succ_self _))⟩, by simp [intOf]; omega⟩
      · have q1 : decide (vkey s < vkey r) = false := decide_eq_false hx
        have HF6 : Hid (L6 = List.filter (ltK r) (l.take (k + 1))) := Lib.hid (by rw [H6.out, (ltK_f hx).1]; exact (List.append_nil _).symm)
        have HF7 : Hid (L7 ++ [s] = List.filter (geK r) (l.take (k + 1))) := Lib.hid (by rw [H7.out, (ltK_f hx).2]; rfl)
        have SX : Hid (w.heap.size + 1 ≤ x8.heap.size) := Lib.hid (blk_lt V3.out)
        obtain ⟨lb, b0, b1, b2, b3, b4, b5, b6, b7⟩ := HR.out x8 NN.out
        have V3s : Hid (w.heap.size < x8.heap.size) := Lib.hid (blk_lt V3.out)
        go_wp2_with (at_builtin; refine wpList_app rfl _ _ rfl (w.heap.size + 1) _ L7 rfl (some ⟨x8.heap.size, 0, none⟩) 1 1 [s] rfl (O7.out.alloc _) rfl (RT.one (blk_new x8 _)) ?_ ?_ ?_; omega; (rw [World.size_alloc]; have := SX.out; omega); intro v1 y1 o1 q1 t1; obtain ⟨A1, c1, hv1, -⟩ := OR.form o1; rw [show (L7 ++ [s]).length = L7.length + 1 by simp] at hv1; subst hv1; have Q1 := Lib.hid ((Below.refl _ x8).alloc SX.out _ |>.trans q1); have O1 := Lib.hid o1; have T1 := Lib.hid (t1 _ _ (O6.out.alloc _) AP.out.symm); clear o1 q1 t1)
        all_goals first | (exfalso; omega; done) | skip
        have HNK : Hid (∀ x ∈ l.take (k + 1), vkey x ≠ vkey r) := Lib.hid (fun x hx => by
          rw [HTK.out] at hx
          rcases List.mem_append.1 hx with hx | hx
          · exact NE.out x hx
          · rw [List.mem_singleton.1 hx]; exact HNE.out)
        refine ⟨⟨k + 1, A6, c6, L6, A1, c1, L7 ++ [s], by omega, by go_num, rfl, by simp, HF6, HF7, Lib.hid T1.out.1, Lib.hid (by simpa using O1.out), Lib.hid (by simpa using T1.out.2.symm), HNK, Lib.hid (NN.out.trans (Q1.out.mono (Nat.le_succ _))), Lib.hid (blk_B Q1.out V3.out (Nat.lt_succ_self _))⟩, by simp [intOf]; omega⟩
end Go.Proofs.Ytbbnkclajpaghaa
