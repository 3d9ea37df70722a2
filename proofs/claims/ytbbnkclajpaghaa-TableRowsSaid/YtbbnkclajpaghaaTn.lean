/- Contracts of the reference's Put, Select and Drop. -/
import Derived.Test.YtbbnkclajpaghaaTh
import Derived.Test.YtbbnkclajpaghaaTl
import Derived.Test.YtbbnkclajpaghaaTm
import Derived.OwnWalk
namespace Go.Proofs.Ytbbnkclajpaghaa
open Go.ChangeShapes Go.WideShapes Go.ChangeAt Go.RowKit
set_option linter.unusedVariables false
set_option linter.unusedSimpArgs false
/- two rows that a function owns do not share memory -/
def apart2 (v v' : Value) : Prop := ∀ g, v.ownBlock = some g → v'.ownBlock ≠ some g
theorem apart2.symm {v v' : Value} (h : apart2 v v') : apart2 v' v := fun g h1 h2 => h g h2 h1
theorem wpList_app {w : World} {ops : Array Oper} {rest : List Oper} {o : Oper} {a : Act} {Q : Exit → Act → World → Prop}
    (hg : o.guard = none) (s x : Operand) (hop : o.op = Op.call { callee := Callee.builtin Builtin.append, args := #[s, x], argTypes := #[22, 22] })
    (B : Nat) (v : Value) (l : List Vr) (hs : a.eval s = v) (A : Option Addr) (m c : Nat) (l2 : List Vr) (hx : a.eval x = .slice A m c)
    (hown : OR B w v l) (hm : l2.length = m) (hr : RT w A l2) (hb : l.length + m ≤ 1000) (hB : B ≤ w.heap.size)
    (hK : ∀ v' w', OR B w' v' (l ++ l2) → Below B w w' → (∀ v2 m2, OR B w v2 m2 → apart2 v v2 → OR B w' v2 m2 ∧ apart2 v' v2) → wpList Try.prog ops Q rest (a.put o.dst v') w') : wpList Try.prog ops Q (o :: rest) a w := by
  subst hm
  obtain ⟨i, hi, hz, hsz, hby⟩ := info_parts infoV
  refine wpList_append_rd w hg s x 22 hop B 28 i _ 8 64 und_vis hi hz hsz hby rfl (by decide) v l.length (vrc l) hs hown A l2.length c (vrc l2) hx hr (vrc_one l2) (by simp [maxLen]; omega) (by omega) hB ?_
  intro v' w' r1 r2 r3
  refine hK v' w' (by unfold OR; rw [List.length_append, vrc_append]; exact r1) (hown.grown r2 hB) fun v2 m2 ho ha => ?_
  have key : ∀ g cap cur, v2 = .slice (some ⟨g, 0, none⟩) m2.length cap → w.heap[g]? = some (.cells cur 28) → w'.heap[g]? = some (.cells cur 28) ∧ v'.ownBlock ≠ some g := by
    intro g cap cur e hc
    have ow : v2.ownBlock = some g := by rw [e]; rfl
    refine ⟨(r2.block g (blk_lt hc) fun e' => ha g e'.symm ow).trans hc, fun e' => ?_⟩
    rcases r3 with r3 | r3
    · exact ha g (by rw [← r3]; exact e') ow
    · rw [r3] at e'; injection e' with e'; have := blk_lt hc; omega
  rcases ho.2 with ⟨h5, h6⟩ | ⟨g, cap, cur, h1, h2, h3, h4⟩
  · exact ⟨⟨ho.1, .inl ⟨h5, h6⟩⟩, fun g _ e => by rw [h5] at e; cases e⟩
  · obtain ⟨k1, k2⟩ := key g cap cur h1 h3
    refine ⟨⟨ho.1, .inr ⟨g, cap, cur, h1, h2, k1, h4⟩⟩, fun g' e e2 => k2 ?_⟩
    rw [h1] at e2
    simp [Value.ownBlock] at e2
    rw [e2]; exact e
set_option maxRecDepth 100000 in
set_option maxHeartbeats 8000000 in
theorem refselect_calls {A : Option Addr} {cap : Nat} {l : List Vr} {w : World} (i j : Int) (hl : RT w A l) (hc : l.length ≤ cap) (hc' : cap ≤ 9223372036854775807) : Calls Try.prog 10 #[.slice A l.length cap, .int .i64 i, .int .i64 j] w fun e w' =>
    ∃ v, e = .returned (.tuple #[v, .int .i64 (selE l i j)]) ∧ OR w.heap.size w' v (selL l i j) ∧ Below w.heap.size w w' := by
  have CK : Hid (∀ W : World, Below w.heap.size w W → Calls Try.prog 14 #[.slice A l.length cap] W fun e w' => e = .returned (.int .i64 (chkE l)) ∧ Below W.heap.size W w') := Lib.hid (fun W hb => refchk_calls (w := W) (hl.next hb) hc hc')
  have HL := Lib.hid hl
  have NN := Lib.hid (Below.refl w.heap.size w)
  clear hl
  obtain ⟨pe, hpe⟩ : ∃ pe, selE l i j = pe := ⟨_, rfl⟩
  obtain ⟨pl, hpl⟩ : ∃ pl, selL l i j = pl := ⟨_, rfl⟩
  obtain ⟨E, hE⟩ : ∃ E, chkE l = E := ⟨_, rfl⟩
  have HPE := Lib.hid hpe
  have HPL := Lib.hid hpl
  have HEE := Lib.hid hE
  rw [hpe, hpl]
  rw [hE] at CK
  clear hpe hpl hE
  go_enter Try.func10, Try.ntmps10
  go_wp2_with fail
  refine (CK.out _ NN.out).mono ?_
  rintro e w1 ⟨rfl, hb⟩
  replace NN := Lib.hid (Bgo NN.out hb)
  clear hb
  by_cases h0 : E ≠ 0
  · have q1 : (E != 0) = true := by simpa using h0
    have HE0 := Lib.hid h0
    clear h0
    go_wp2_with fail
    refine (CK.out _ NN.out).mono ?_
    rintro e w2 ⟨rfl, hb⟩
    replace NN := Lib.hid (Bgo NN.out hb)
    clear hb
    go_wp2_with fail
    go_ret2
    have h1 : selE l i j = E := by unfold selE; rw [HEE.out, if_pos HE0.out]
    have h2 : selL l i j = [] := by unfold selL; rw [h1]; exact if_neg HE0.out
    exact ⟨.slice none 0 0, by rw [← HPE.out, h1]; rfl, by rw [← HPL.out, h2]; exact OR.nil _ _, NN.out⟩
  have h0' : E = 0 := by omega
  subst h0'
  clear h0
  obtain ⟨hg, hn⟩ := chkE_good HEE.out
  clear hg
  have hc4 : i < 0 ∨ (0 ≤ i ∧ j ≤ i) ∨ (0 ≤ i ∧ i < j ∧ 8 ≤ j) ∨ (0 ≤ i ∧ i < j ∧ j < 8) := by omega
  rcases hc4 with h | ⟨h, h1⟩ | ⟨h, h1, h2⟩ | ⟨h, h1, h2⟩
  · have d1 : decide (i < 0) = true := decide_eq_true h
    go_wp2_with fail
    all_goals first | (exfalso; omega; done) | skip
    go_ret2
    have h1 : selE l i j = 2 := by unfold selE; rw [HEE.out, if_neg (by omega), if_pos (by omega)]
    have h2 : selL l i j = [] := by unfold selL; rw [h1]; exact if_neg (by omega)
    exact ⟨.slice none 0 0, by rw [← HPE.out, h1]; rfl, by rw [← HPL.out, h2]; exact OR.nil _ _, NN.out⟩
  · have d1 : decide (i < 0) = false := decide_eq_false (by omega)
    have d2 : decide (j ≤ i) = true := decide_eq_true h1
    go_wp2_with fail
    all_goals first | (exfalso; omega; done) | skip
    go_ret2
    have h1 : selE l i j = 2 := by unfold selE; rw [HEE.out, if_neg (by omega), if_pos (by omega)]
    have h2 : selL l i j = [] := by unfold selL; rw [h1]; exact if_neg (by omega)
    exact ⟨.slice none 0 0, by rw [← HPE.out, h1]; rfl, by rw [← HPL.out, h2]; exact OR.nil _ _, NN.out⟩
  · have d1 : decide (i < 0) = false := decide_eq_false (by omega)
    have d2 : decide (j ≤ i) = false := decide_eq_false (by omega)
    have d3 : decide (8 ≤ j) = true := decide_eq_true h2
    go_wp2_with fail
    all_goals first | (exfalso; omega; done) | skip
    go_ret2
    have h1 : selE l i j = 2 := by unfold selE; rw [HEE.out, if_neg (by omega), if_pos (by omega)]
    have h2 : selL l i j = [] := by unfold selL; rw [h1]; exact if_neg (by omega)
    exact ⟨.slice none 0 0, by rw [← HPE.out, h1]; rfl, by rw [← HPL.out, h2]; exact OR.nil _ _, NN.out⟩
  have HSE : Hid (selE l i j = 0) := Lib.hid (by unfold selE; rw [HEE.out, if_neg (by omega), if_neg (by omega)])
  clear HEE CK
  have d1 : decide (i < 0) = false := decide_eq_false (by omega)
  have d2 : decide (j ≤ i) = false := decide_eq_false (by omega)
  have d3 : decide (8 ≤ j) = false := decide_eq_false (by omega)
  go_wp2_with fail
  all_goals first | (exfalso; omega; done) | skip
  clear d1 d2 d3
  have HNN := NN
  clear NN
  go_loopw [8, 9] (fun v p wr => ∃ (k : Nat) (A9 : Option Addr) (c9 : Nat) (L9 : List Vr), k ≤ l.length ∧ p = .int .i64 (k : Int) ∧ v = .slice A9 L9.length c9 ∧ Hid (L9 = List.filter (selB i j) (l.take k)) ∧ Hid (OR w.heap.size wr (.slice A9 L9.length c9) L9) ∧ Hid (Below w.heap.size w wr)) (fun _ p _ => l.length - (intOf p).toNat)
  case atStart => exact ⟨0, none, 0, [], Nat.zero_le _, rfl, rfl, Lib.hid rfl, Lib.hid (OR.nil _ _), HNN⟩
  case round =>
    clear HNN
    obtain ⟨k, A9, c9, L9, hk, rfl, rfl, HF, OO, NN⟩ := hrel
    by_cases hlt : l.length ≤ k
    · have e : k = l.length := by omega
      subst e
      rw [List.take_length] at HF
      have HP : Hid (selL l i j = L9) := Lib.hid (by unfold selL; rw [if_pos HSE.out, HF.out])
      clear hk hlt HF
      go_wp2_with fail
      go_ret2
      exact ⟨.slice A9 L9.length c9, by rw [← HPE.out, HSE.out]; rfl, by rw [← HPL.out, HP.out]; exact OO.out, NN.out⟩
    replace hlt : k < l.length := by omega
    have hlen : L9.length ≤ 200 := by rw [HF.out]; exact Nat.le_trans (List.length_filter_le _ _) (by rw [List.length_take]; omega)
    have HT := Lib.hid (filter_take (selB i j) hlt)
    rw [← HF.out] at HT
    obtain ⟨b, off, eA, bl, a0, a1, a2, a3, a4, a5, a6, a7⟩ := RT.at_ HL.out hlt
    rw [← rowAt_lt hlt] at a0 a1 a2 a3 a4 a5 a6 a7
    generalize hr9 : rowAt l k = s at *
    subst eA
    have HR : Hid (∀ X : World, Below w.heap.size w X → b < X.heap.size ∧ X.cell? ⟨b, off + k * 8, none⟩ = some (.int .i64 s.t) ∧ X.cell? ⟨b, off + k * 8 + 1, none⟩ = some (.int .i64 s.c) ∧ X.cell? ⟨b, off + k * 8 + 2, none⟩ = some (.int .i64 s.i) ∧ X.cell? ⟨b, off + k * 8 + 3, none⟩ = some (.int .i64 s.j) ∧ X.cell? ⟨b, off + k * 8 + 4, none⟩ = some (.int .i64 s.re) ∧ X.cell? ⟨b, off + k * 8 + 5, none⟩ = some (.int .i64 s.im) ∧ X.cell? ⟨b, off + k * 8 + 6, none⟩ = some (.int .i64 s.dn) ∧ X.cell? ⟨b, off + k * 8 + 7, none⟩ = some (.int .i64 s.n)) :=
      Lib.hid (fun X hX => ⟨Nat.lt_of_lt_of_le bl hX.size, (hX.cell (p := ⟨b, off + k * 8, none⟩) bl).trans a0, (hX.cell (p := ⟨b, off + k * 8 + 1, none⟩) bl).trans a1, (hX.cell (p := ⟨b, off + k * 8 + 2, none⟩) bl).trans a2, (hX.cell (p := ⟨b, off + k * 8 + 3, none⟩) bl).trans a3, (hX.cell (p := ⟨b, off + k * 8 + 4, none⟩) bl).trans a4, (hX.cell (p := ⟨b, off + k * 8 + 5, none⟩) bl).trans a5, (hX.cell (p := ⟨b, off + k * 8 + 6, none⟩) bl).trans a6, (hX.cell (p := ⟨b, off + k * 8 + 7, none⟩) bl).trans a7⟩)
    clear a0 a1 a2 a3 a4 a5 a6 a7 bl hr9
    have hck : k < cap := by omega
    obtain ⟨lb, b0, b1, b2, b3, b4, b5, b6, b7⟩ := HR.out wr NN.out
    have SW : Hid (w.heap.size ≤ wr.heap.size) := Lib.hid NN.out.size
    by_cases h : s.i = i ∧ s.j = j
    · obtain ⟨h1, h2⟩ := h
      have hs : selB i j s = true := by simp [selB, h1, h2]
      rw [hs] at HT
      have q1 : (s.i == i) = true := by simp [h1]
      have q2 : (s.j == j) = true := by simp [h2]
      clear hs h1 h2
      go_wp2_with (at_builtin; refine wpList_app rfl _ _ rfl w.heap.size _ L9 rfl (some ⟨wr.heap.size, 0, none⟩) 1 1 [s] rfl (OO.out.alloc _) rfl (RT.one (blk_new wr _)) ?_ ?_ ?_; omega; (rw [World.size_alloc]; have := SW.out; omega); intro v1 w1 o1 q1 _; obtain ⟨A1, c1, hv1, -⟩ := OR.form o1; rw [show (L9 ++ [s]).length = L9.length + 1 by simp] at hv1; subst hv1; have B1 := Lib.hid ((NN.out.alloc SW.out _).trans q1); have O1 := Lib.hid o1; clear o1 q1)
      refine ⟨⟨k + 1, A1, c1, L9 ++ [s], by omega, by go_num, by simp, Lib.hid (by rw [HT.out]; rfl), Lib.hid (by simpa using O1.out), B1⟩, by simp [intOf]; omega⟩
    · have hs : selB i j s = false := by simp [selB]; omega
      rw [hs] at HT
      have HT2 : Hid (L9 = List.filter (selB i j) (l.take (k + 1))) := Lib.hid (by rw [HT.out]; simp)
      by_cases h1 : s.i = i
      · have q1 : (s.i == i) = true := by simp [h1]
        have q2 : (s.j == j) = false := by rw [beq_eq_false_iff_ne]; omega
        clear hs h h1
        go_wp2_with fail
        refine ⟨⟨k + 1, A9, c9, L9, by omega, by go_num, rfl, HT2, OO, NN⟩, by simp [intOf]; omega⟩
      · have q1 : (s.i == i) = false := by rw [beq_eq_false_iff_ne]; omega
        clear hs h h1
        go_wp2_with fail
        refine ⟨⟨k + 1, A9, c9, L9, by omega, by go_num, rfl, HT2, OO, NN⟩, by simp [intOf]; omega⟩
end Go.Proofs.Ytbbnkclajpaghaa
