/- Contract of the reference's Drop. -/
import Derived.Test.YtbbnkclajpaghaaTn
import Derived.OwnWalk
namespace Go.Proofs.Ytbbnkclajpaghaa
open Go.ChangeShapes Go.WideShapes Go.ChangeAt Go.RowKit
set_option linter.unusedVariables false
set_option linter.unusedSimpArgs false
theorem OR.own_lt {B : Nat} {w : World} {v : Value} {l : List Vr} (h : OR B w v l) : ∀ g, v.ownBlock = some g → g < w.heap.size := by
  intro g e
  rcases h.2 with ⟨h5, _⟩ | ⟨g', cap, cur, h1, h2, h3, h4⟩
  · rw [h5] at e; cases e
  · rw [h1] at e; simp [Value.ownBlock] at e; rw [← e]; exact blk_lt h3
theorem OR.set_apart {B : Nat} {w : World} {v : Value} {l : List Vr} (h : OR B w v l) {b : Nat} (hb : ∀ g, v.ownBlock = some g → g ≠ b) (off : Nat) (x : Value) : OR B (w.setCell ⟨b, off, none⟩ x) v l := by
  refine ⟨h.1, ?_⟩
  rcases h.2 with h2 | ⟨g, cap, cur, h1, h2, h3, h4⟩
  · exact .inl h2
  · exact .inr ⟨g, cap, cur, h1, h2, blk_set_other h3 (Ne.symm (hb g (by rw [h1]; rfl))) off x, h4⟩
set_option maxHeartbeats 2000000 in
theorem at_calls {Am : Option Addr} {bits : List Bool} {cm : Nat} {w : World} (t c x y : Int) (hb : RB w Am bits) (hm : mskE t c bits = 0) (hbc : bits.length ≤ cm) (hx : 0 ≤ x) (hxt : x < t) (hy : 0 ≤ y) (hyc : y < c) : Calls Try.prog 25 #[Mv t c Am bits.length cm, .int .i64 x, .int .i64 y] w fun e w' =>
    e = .returned (.bool (bits.getD (x * c + y).toNat false)) ∧ Below w.heap.size w w' := by
  obtain ⟨m1, m2, m3, m4, m5⟩ := msk_ok hm
  obtain ⟨y1, y2, y3, y4⟩ := idx_lt hx hxt hy hyc
  have m6 : t * c ≤ 32 * 16 := Int.mul_le_mul m2 m4 (by omega) (by omega)
  obtain ⟨q, hq⟩ : ∃ q, (x * c + y).toNat = q := ⟨_, rfl⟩
  have hq2 : x * c + y = (q : Int) := by omega
  have hql : q < bits.length := by omega
  rw [hq]
  obtain ⟨bb, bo, eA, bl, cb⟩ := RB.at_ hb hql
  subst eA
  have hw1 : IntKind.i64.wrap (x * c) = x * c := IntWalk.i64_in _ (by omega)
  have hw2 : IntKind.i64.wrap (x * c + y) = (q : Int) := by rw [hq2]; exact IntWalk.i64_in _ (by omega)
  have NN := Lib.hid (Below.refl w.heap.size w)
  generalize bits.getD q false = v at *
  clear hq hq2 y1 y2 y3 y4 m1 m2 m3 m4 m5 m6 hm hb
  go_enter Try.func25, Try.ntmps25
  go_wp2_with fail
  go_ret
  exact ⟨rfl, Bal NN.out _⟩
set_option maxRecDepth 100000 in
set_option maxHeartbeats 8000000 in
theorem refdrop_calls {A Am : Option Addr} {cap cm : Nat} {l : List Vr} {bits : List Bool} {w : World} (t c : Int) (hl : RT w A l) (hc : l.length ≤ cap) (hc' : cap ≤ 9223372036854775807)
    (hb : RB w Am bits) (hbl : bits.length ≤ 1000000) (hbc : bits.length ≤ cm) : Calls Try.prog 12 #[.slice A l.length cap, Mv t c Am bits.length cm] w fun e w' =>
    ∃ v, e = .returned (.tuple #[v, .int .i64 (drpE l t c bits)]) ∧ OR w.heap.size w' v (drpL l t c bits) ∧ Below w.heap.size w w' := by
  have CK : Hid (∀ W : World, Below w.heap.size w W → Calls Try.prog 14 #[.slice A l.length cap] W fun e w' => e = .returned (.int .i64 (chkE l)) ∧ Below W.heap.size W w') := Lib.hid (fun W hb => refchk_calls (w := W) (hl.next hb) hc hc')
  have CM := Lib.hid (refmask_calls t c Am bits cm hbl)
  obtain ⟨pe, hpe⟩ : ∃ pe, drpE l t c bits = pe := ⟨_, rfl⟩
  obtain ⟨pl, hpl⟩ : ∃ pl, drpL l t c bits = pl := ⟨_, rfl⟩
  obtain ⟨E, hE⟩ : ∃ E, chkE l = E := ⟨_, rfl⟩
  obtain ⟨M, hM⟩ : ∃ M, mskE t c bits = M := ⟨_, rfl⟩
  have HPE := Lib.hid hpe
  have HPL := Lib.hid hpl
  have HEE := Lib.hid hE
  have HMM := Lib.hid hM
  rw [hpe, hpl]
  rw [hE] at CK
  rw [hM] at CM
  clear hpe hpl hE hM
  have HL := Lib.hid hl
  have HB := Lib.hid hb
  have NN := Lib.hid (Below.refl w.heap.size w)
  clear hl hb
  go_enter Try.func12, Try.ntmps12
  go_wp2_with fail
  have V3 : Hid ((w.alloc (.cells #[.int .i64 t, .int .i64 c, .slice Am bits.length cm] 31)).heap[w.heap.size]? = some (.cells #[.int .i64 t, .int .i64 c, .slice Am bits.length cm] 31)) := Lib.hid (blk_new w _)
  replace NN : Hid (Below w.heap.size w (w.alloc (.cells #[.int .i64 t, .int .i64 c, .slice Am bits.length cm] 31))) := Lib.hid (Bal NN.out _)
  generalize (w.alloc (.cells #[.int .i64 t, .int .i64 c, .slice Am bits.length cm] 31)) = W1 at *
  refine (CK.out _ NN.out).mono ?_
  rintro e w2 ⟨rfl, hb⟩
  replace NN := Lib.hid (Bgo NN.out hb)
  replace V3 := Lib.hid (blk_next hb V3.out)
  clear hb
  by_cases h0 : E ≠ 0
  · have q1 : (E != 0) = true := by simpa using h0
    have HE0 := Lib.hid h0
    clear h0
    have c_V3_0 := blk_cell V3.out 0 _ rfl
    have f_V3_0 := blk_frozen V3.out 0
    have c_V3_1 := blk_cell V3.out 1 _ rfl
    have f_V3_1 := blk_frozen V3.out 1
    have c_V3_2 := blk_cell V3.out 2 _ rfl
    have f_V3_2 := blk_frozen V3.out 2
    have l_V3 := blk_lt V3.out
    go_wp2_with fail
    refine (CK.out _ NN.out).mono ?_
    rintro e w3 ⟨rfl, hb⟩
    clear c_V3_0 f_V3_0 c_V3_1 f_V3_1 c_V3_2 f_V3_2 l_V3
    replace NN := Lib.hid (Bgo NN.out hb)
    replace V3 := Lib.hid (blk_next hb V3.out)
    clear hb
    go_wp2_with fail
    go_ret2
    have h1 : drpE l t c bits = E := by unfold drpE; rw [HEE.out, if_pos HE0.out]
    have h2 : drpL l t c bits = [] := by unfold drpL; rw [h1]; exact if_neg HE0.out
    exact ⟨.slice none 0 0, by rw [← HPE.out, h1]; rfl, by rw [← HPL.out, h2]; exact OR.nil _ _, NN.out⟩
  have h0' : E = 0 := by omega
  subst h0'
  clear h0
  obtain ⟨hg, hn⟩ := chkE_good HEE.out
  have HG := Lib.hid hg
  clear hg CK
  have c_V3_0 := blk_cell V3.out 0 _ rfl
  have f_V3_0 := blk_frozen V3.out 0
  have c_V3_1 := blk_cell V3.out 1 _ rfl
  have f_V3_1 := blk_frozen V3.out 1
  have c_V3_2 := blk_cell V3.out 2 _ rfl
  have f_V3_2 := blk_frozen V3.out 2
  have l_V3 := blk_lt V3.out
  go_wp2_with fail
  refine (CM.out _).mono ?_
  rintro e w4 ⟨rfl, hb⟩
  clear c_V3_0 f_V3_0 c_V3_1 f_V3_1 c_V3_2 f_V3_2 l_V3
  replace NN := Lib.hid (Bgo NN.out hb)
  replace V3 := Lib.hid (blk_next hb V3.out)
  clear hb
  by_cases h0 : M ≠ 0
  · have q1 : (M != 0) = true := by simpa using h0
    have HE0 := Lib.hid h0
    clear h0
    have c_V3_0 := blk_cell V3.out 0 _ rfl
    have f_V3_0 := blk_frozen V3.out 0
    have c_V3_1 := blk_cell V3.out 1 _ rfl
    have f_V3_1 := blk_frozen V3.out 1
    have c_V3_2 := blk_cell V3.out 2 _ rfl
    have f_V3_2 := blk_frozen V3.out 2
    have l_V3 := blk_lt V3.out
    go_wp2_with fail
    refine (CM.out _).mono ?_
    rintro e w5 ⟨rfl, hb⟩
    clear c_V3_0 f_V3_0 c_V3_1 f_V3_1 c_V3_2 f_V3_2 l_V3
    replace NN := Lib.hid (Bgo NN.out hb)
    replace V3 := Lib.hid (blk_next hb V3.out)
    clear hb
    go_wp2_with fail
    go_ret2
    have h1 : drpE l t c bits = M := by unfold drpE; rw [HEE.out, HMM.out, if_neg (by omega), if_pos HE0.out]
    have h2 : drpL l t c bits = [] := by unfold drpL; rw [h1]; exact if_neg HE0.out
    exact ⟨.slice none 0 0, by rw [← HPE.out, h1]; rfl, by rw [← HPL.out, h2]; exact OR.nil _ _, NN.out⟩
  have h0' : M = 0 := by omega
  subst h0'
  clear h0
  obtain ⟨m1, m2, m3, m4, m5⟩ := msk_ok HMM.out
  clear m5 CM
  go_wp2_with fail
  have HNN := NN
  have HV3 := V3
  clear NN V3
  go_loopw [6, 7] (fun v p wr => ∃ (k : Nat) (A9 : Option Addr) (c9 : Nat) (L9 : List Vr), k ≤ l.length ∧ p = .int .i64 (k : Int) ∧ v = .slice A9 L9.length c9 ∧ Hid (L9 = drpM c bits (l.take k)) ∧ Hid (OR (w.heap.size + 1) wr (.slice A9 L9.length c9) L9) ∧ Hid (∀ x ∈ l.take k, x.t < t ∧ x.c < c) ∧ Hid (Below w.heap.size w wr) ∧ Hid (wr.heap[w.heap.size]? = some (.cells #[.int .i64 t, .int .i64 c, .slice Am bits.length cm] 31))) (fun _ p _ => l.length - (intOf p).toNat)
  case atStart => exact ⟨0, none, 0, [], Nat.zero_le _, rfl, rfl, Lib.hid rfl, Lib.hid (OR.nil _ _), Lib.hid (fun x hx => by simp at hx), HNN, HV3⟩
  case round =>
    clear HNN HV3
    obtain ⟨k, A9, c9, L9, hk, rfl, rfl, HF, OO, HBN, NN, V3⟩ := hrel
    by_cases hlt : l.length ≤ k
    · have e : k = l.length := by omega
      subst e
      rw [List.take_length] at HF HBN
      have HE : Hid (drpE l t c bits = 0) := Lib.hid (by
      have ha : (l.any fun r => decide (t ≤ r.t) || decide (c ≤ r.c)) = false := by
        rw [List.any_eq_false]
        intro x hx
        have := HBN.out x hx
        simp; omega
      unfold drpE; rw [HEE.out, HMM.out, if_neg (by omega), if_neg (by omega), ha]; rfl)
      have HP : Hid (drpL l t c bits = L9) := Lib.hid (by unfold drpL; rw [if_pos HE.out, HF.out]; rfl)
      clear hk hlt HF HBN
      go_wp2_with fail
      go_ret2
      exact ⟨.slice A9 L9.length c9, by rw [← HPE.out, HE.out]; rfl, by rw [← HPL.out, HP.out]; exact OR.mono OO.out (Nat.le_succ _), NN.out⟩
    replace hlt : k < l.length := by omega
    have hlen : L9.length ≤ 200 := by rw [HF.out]; unfold drpM; rw [List.length_map, List.length_take]; omega
    have HT := Lib.hid (map_take c bits hlt)
    rw [← HF.out] at HT
    have HTK : Hid (l.take (k + 1) = l.take k ++ [rowAt l k]) := Lib.hid (by rw [List.take_succ_eq_append_getElem hlt, rowAt_lt hlt])
    have hx : rowB (rowAt l k) = true := by rw [rowAt_lt hlt]; exact goodF_row HG.out _ (List.getElem_mem hlt)
    obtain ⟨x1, x2, x3, x4, -⟩ := rowB_facts hx
    have HM : Hid (rowAt l k ∈ l) := Lib.hid (by rw [rowAt_lt hlt]; exact List.getElem_mem hlt)
    clear hx
    obtain ⟨b, off, eA, bl, a0, a1, a2, a3, a4, a5, a6, a7⟩ := RT.at_ HL.out hlt
    rw [← rowAt_lt hlt] at a0 a1 a2 a3 a4 a5 a6 a7
    generalize hr9 : rowAt l k = s at *
    subst eA
    have HR : Hid (∀ X : World, Below w.heap.size w X → b < X.heap.size ∧ X.cell? ⟨b, off + k * 8, none⟩ = some (.int .i64 s.t) ∧ X.cell? ⟨b, off + k * 8 + 1, none⟩ = some (.int .i64 s.c) ∧ X.cell? ⟨b, off + k * 8 + 2, none⟩ = some (.int .i64 s.i) ∧ X.cell? ⟨b, off + k * 8 + 3, none⟩ = some (.int .i64 s.j) ∧ X.cell? ⟨b, off + k * 8 + 4, none⟩ = some (.int .i64 s.re) ∧ X.cell? ⟨b, off + k * 8 + 5, none⟩ = some (.int .i64 s.im) ∧ X.cell? ⟨b, off + k * 8 + 6, none⟩ = some (.int .i64 s.dn) ∧ X.cell? ⟨b, off + k * 8 + 7, none⟩ = some (.int .i64 s.n)) :=
      Lib.hid (fun X hX => ⟨Nat.lt_of_lt_of_le bl hX.size, (hX.cell (p := ⟨b, off + k * 8, none⟩) bl).trans a0, (hX.cell (p := ⟨b, off + k * 8 + 1, none⟩) bl).trans a1, (hX.cell (p := ⟨b, off + k * 8 + 2, none⟩) bl).trans a2, (hX.cell (p := ⟨b, off + k * 8 + 3, none⟩) bl).trans a3, (hX.cell (p := ⟨b, off + k * 8 + 4, none⟩) bl).trans a4, (hX.cell (p := ⟨b, off + k * 8 + 5, none⟩) bl).trans a5, (hX.cell (p := ⟨b, off + k * 8 + 6, none⟩) bl).trans a6, (hX.cell (p := ⟨b, off + k * 8 + 7, none⟩) bl).trans a7⟩)
    clear a0 a1 a2 a3 a4 a5 a6 a7 bl hr9
    have hck : k < cap := by omega
    have hc3 : t ≤ s.t ∨ (s.t < t ∧ c ≤ s.c) ∨ (s.t < t ∧ s.c < c) := by omega
    rcases hc3 with h | ⟨h, h1⟩ | ⟨h, h1⟩
    · have d1 : decide (t ≤ s.t) = true := decide_eq_true h
      obtain ⟨lb, b0, b1, b2, b3, b4, b5, b6, b7⟩ := HR.out wr NN.out
      have c_V3_0 := blk_cell V3.out 0 _ rfl
      have f_V3_0 := blk_frozen V3.out 0
      have c_V3_1 := blk_cell V3.out 1 _ rfl
      have f_V3_1 := blk_frozen V3.out 1
      have c_V3_2 := blk_cell V3.out 2 _ rfl
      have f_V3_2 := blk_frozen V3.out 2
      have l_V3 := blk_lt V3.out
      go_wp2_with fail
      go_quiet (fail)
      clear c_V3_0 f_V3_0 c_V3_1 f_V3_1 c_V3_2 f_V3_2 l_V3
      clear lb b0 b1 b2 b3 b4 b5 b6 b7
      have DR := Lib.hid (below_drewN (Below.refl wr.heap.size wr) nq)
      replace NN := Lib.hid (Bgo NN.out DR.out)
      replace OO := Lib.hid (OR.next OO.out DR.out)
      replace V3 := Lib.hid (blk_next DR.out V3.out)
      clear DR
      generalize wr.drewN nq = wq at *
      have HE : Hid (drpE l t c bits = 2) := Lib.hid (by
        have ha : (l.any fun r => decide (t ≤ r.t) || decide (c ≤ r.c)) = true := by
          have : ∃ x ∈ l, t ≤ x.t ∨ c ≤ x.c := ⟨s, HM.out, .inl h⟩
          simpa using this
        unfold drpE; rw [HEE.out, HMM.out, if_neg (by omega), if_neg (by omega), ha]; rfl)
      have HP : Hid (drpL l t c bits = []) := Lib.hid (by unfold drpL; rw [HE.out]; exact if_neg (by omega))
      go_wp2_with fail
      all_goals first | (exfalso; omega; done) | skip
      go_ret2
      exact ⟨.slice none 0 0, by rw [← HPE.out, HE.out]; rfl, by rw [← HPL.out, HP.out]; exact OR.nil _ _, NN.out⟩
    · have d1 : decide (t ≤ s.t) = false := decide_eq_false (by omega)
      have d2 : decide (c ≤ s.c) = true := decide_eq_true h1
      obtain ⟨lb, b0, b1, b2, b3, b4, b5, b6, b7⟩ := HR.out wr NN.out
      have c_V3_0 := blk_cell V3.out 0 _ rfl
      have f_V3_0 := blk_frozen V3.out 0
      have c_V3_1 := blk_cell V3.out 1 _ rfl
      have f_V3_1 := blk_frozen V3.out 1
      have c_V3_2 := blk_cell V3.out 2 _ rfl
      have f_V3_2 := blk_frozen V3.out 2
      have l_V3 := blk_lt V3.out
      go_wp2_with fail
      go_quiet (fail)
      clear c_V3_0 f_V3_0 c_V3_1 f_V3_1 c_V3_2 f_V3_2 l_V3
      clear lb b0 b1 b2 b3 b4 b5 b6 b7
      have DR := Lib.hid (below_drewN (Below.refl wr.heap.size wr) nq)
      replace NN := Lib.hid (Bgo NN.out DR.out)
      replace OO := Lib.hid (OR.next OO.out DR.out)
      replace V3 := Lib.hid (blk_next DR.out V3.out)
      clear DR
      generalize wr.drewN nq = wq at *
      have HE : Hid (drpE l t c bits = 2) := Lib.hid (by
        have ha : (l.any fun r => decide (t ≤ r.t) || decide (c ≤ r.c)) = true := by
          have : ∃ x ∈ l, t ≤ x.t ∨ c ≤ x.c := ⟨s, HM.out, .inr h1⟩
          simpa using this
        unfold drpE; rw [HEE.out, HMM.out, if_neg (by omega), if_neg (by omega), ha]; rfl)
      have HP : Hid (drpL l t c bits = []) := Lib.hid (by unfold drpL; rw [HE.out]; exact if_neg (by omega))
      go_wp2_with fail
      all_goals first | (exfalso; omega; done) | skip
      go_ret2
      exact ⟨.slice none 0 0, by rw [← HPE.out, HE.out]; rfl, by rw [← HPL.out, HP.out]; exact OR.nil _ _, NN.out⟩
    · have d1 : decide (t ≤ s.t) = false := decide_eq_false (by omega)
      have d2 : decide (c ≤ s.c) = false := decide_eq_false (by omega)
      obtain ⟨lb, b0, b1, b2, b3, b4, b5, b6, b7⟩ := HR.out wr NN.out
      have c_V3_0 := blk_cell V3.out 0 _ rfl
      have f_V3_0 := blk_frozen V3.out 0
      have c_V3_1 := blk_cell V3.out 1 _ rfl
      have f_V3_1 := blk_frozen V3.out 1
      have c_V3_2 := blk_cell V3.out 2 _ rfl
      have f_V3_2 := blk_frozen V3.out 2
      have l_V3 := blk_lt V3.out
      go_wp2_with fail
      go_quiet (fail)
      clear c_V3_0 f_V3_0 c_V3_1 f_V3_1 c_V3_2 f_V3_2 l_V3
      clear lb b0 b1 b2 b3 b4 b5 b6 b7
      have DR := Lib.hid (below_drewN (Below.refl wr.heap.size wr) nq)
      replace NN := Lib.hid (Bgo NN.out DR.out)
      replace OO := Lib.hid (OR.next OO.out DR.out)
      replace V3 := Lib.hid (blk_next DR.out V3.out)
      clear DR
      generalize wr.drewN nq = wq at *
      have HAT : Hid (∀ X : World, Below w.heap.size w X → Calls Try.prog 25 #[Mv t c Am bits.length cm, .int .i64 s.t, .int .i64 s.c] X fun e w' => e = .returned (.bool (bits.getD (s.t * c + s.c).toNat false)) ∧ Below X.heap.size X w') := Lib.hid (fun X hX => at_calls t c s.t s.c (HB.out.next hX) HMM.out hbc x1 h x3 h1)
      have HD : Hid (drpR c bits s = bif bits.getD (s.t * c + s.c).toNat false then { s with n := 0 } else s) := Lib.hid (by unfold drpR; cases bits.getD (s.t * c + s.c).toNat false <;> rfl)
      generalize bits.getD (s.t * c + s.c).toNat false = bit at *
      have HBD : Hid (s.t < t ∧ s.c < c) := Lib.hid ⟨h, h1⟩
      rw [HD.out] at HT
      clear HD
      have OW := Lib.hid (OR.own_lt OO.out)
      obtain ⟨lb, b0, b1, b2, b3, b4, b5, b6, b7⟩ := HR.out wq NN.out
      have c_V3_0 := blk_cell V3.out 0 _ rfl
      have f_V3_0 := blk_frozen V3.out 0
      have c_V3_1 := blk_cell V3.out 1 _ rfl
      have f_V3_1 := blk_frozen V3.out 1
      have c_V3_2 := blk_cell V3.out 2 _ rfl
      have f_V3_2 := blk_frozen V3.out 2
      have l_V3 := blk_lt V3.out
      go_wp2_with fail
      all_goals first | (exfalso; omega; done) | skip
      clear lb b0 b1 b2 b3 b4 b5 b6 b7
      clear c_V3_0 f_V3_0 c_V3_1 f_V3_1 c_V3_2 f_V3_2 l_V3
      have HB : Hid (Below wq.heap.size wq (wq.alloc (.cells #[.int .i64 s.t, .int .i64 s.c, .int .i64 s.i, .int .i64 s.j, .int .i64 s.re, .int .i64 s.im, .int .i64 s.dn, .int .i64 s.n] 28))) := Lib.hid (Bal (Below.refl _ _) _)
      have VX := Lib.hid (blk_new wq (.cells #[.int .i64 s.t, .int .i64 s.c, .int .i64 s.i, .int .i64 s.j, .int .i64 s.re, .int .i64 s.im, .int .i64 s.dn, .int .i64 s.n] 28))
      have LT_VX : Hid (w.heap.size < wq.heap.size ∧ w.heap.size ≤ wq.heap.size) := Lib.hid ⟨blk_lt V3.out, NN.out.size⟩
      replace NN := Lib.hid (Bgo NN.out HB.out)
      replace OO := Lib.hid (OR.next OO.out HB.out)
      replace V3 := Lib.hid (blk_next HB.out V3.out)
      clear HB
      generalize wq.alloc (.cells #[.int .i64 s.t, .int .i64 s.c, .int .i64 s.i, .int .i64 s.j, .int .i64 s.re, .int .i64 s.im, .int .i64 s.dn, .int .i64 s.n] 28) = W6 at *
      generalize wq.heap.size = g6 at *
      refine (HAT.out _ NN.out).mono ?_
      rintro e w7 ⟨rfl, hb⟩
      replace NN := Lib.hid (Bgo NN.out hb)
      replace OO := Lib.hid (OR.next OO.out hb)
      replace V3 := Lib.hid (blk_next hb V3.out)
      replace VX := Lib.hid (blk_next hb VX.out)
      clear hb
      cases bit
      · have hv3 := blk_lt V3.out
        have hvx := blk_lt VX.out
        have hlx := LT_VX.out
        have OB := OO
        have NB := NN
        have VB := V3
        have SB : Hid (w.heap.size + 1 ≤ w7.heap.size) := Lib.hid (blk_lt VB.out)
        have HSZ : Hid (w7.heap.size = w7.heap.size) := Lib.hid (by simp)
        clear hv3 hvx hlx
        have c_V3_0 := blk_cell V3.out 0 _ rfl
        have f_V3_0 := blk_frozen V3.out 0
        have c_V3_1 := blk_cell V3.out 1 _ rfl
        have f_V3_1 := blk_frozen V3.out 1
        have c_V3_2 := blk_cell V3.out 2 _ rfl
        have f_V3_2 := blk_frozen V3.out 2
        have l_V3 := blk_lt V3.out
        have c_VX_0 := blk_cell VX.out 0 _ rfl
        have f_VX_0 := blk_frozen VX.out 0
        have c_VX_1 := blk_cell VX.out 1 _ rfl
        have f_VX_1 := blk_frozen VX.out 1
        have c_VX_2 := blk_cell VX.out 2 _ rfl
        have f_VX_2 := blk_frozen VX.out 2
        have c_VX_3 := blk_cell VX.out 3 _ rfl
        have f_VX_3 := blk_frozen VX.out 3
        have c_VX_4 := blk_cell VX.out 4 _ rfl
        have f_VX_4 := blk_frozen VX.out 4
        have c_VX_5 := blk_cell VX.out 5 _ rfl
        have f_VX_5 := blk_frozen VX.out 5
        have c_VX_6 := blk_cell VX.out 6 _ rfl
        have f_VX_6 := blk_frozen VX.out 6
        have c_VX_7 := blk_cell VX.out 7 _ rfl
        have f_VX_7 := blk_frozen VX.out 7
        have l_VX := blk_lt VX.out
        go_wp2_with (at_builtin; refine wpList_app rfl _ _ rfl (w.heap.size + 1) _ L9 rfl (some ⟨w7.heap.size, 0, none⟩) 1 1 [s] rfl (OB.out.alloc _) rfl (RT.one (r := s) (blk_new w7 _)) ?_ ?_ ?_; omega; (rw [World.size_alloc]; have := SB.out; omega); intro v1 y1 o1 q1 _; obtain ⟨A1, c1, hv1, -⟩ := OR.form o1; rw [show (L9 ++ [s]).length = L9.length + 1 by simp] at hv1; subst hv1; have B1 := Lib.hid ((((Below.refl _ _).alloc SB.out _)).trans q1); have O1 := Lib.hid o1; clear o1 q1)
        clear c_V3_0 f_V3_0 c_V3_1 f_V3_1 c_V3_2 f_V3_2 l_V3 c_VX_0 f_VX_0 c_VX_1 f_VX_1 c_VX_2 f_VX_2 c_VX_3 f_VX_3 c_VX_4 f_VX_4 c_VX_5 f_VX_5 c_VX_6 f_VX_6 c_VX_7 f_VX_7 l_VX
        have HNK : Hid (∀ x ∈ l.take (k + 1), x.t < t ∧ x.c < c) := Lib.hid (fun x hx => by
          rw [HTK.out] at hx
          rcases List.mem_append.1 hx with hx | hx
          · exact HBN.out x hx
          · rw [List.mem_singleton.1 hx]; exact HBD.out)
        refine ⟨⟨k + 1, A1, c1, L9 ++ [s], by omega, by go_num, by simp, Lib.hid (by rw [HT.out]; rfl), Lib.hid (by simpa using O1.out), HNK, Lib.hid (NB.out.trans (B1.out.mono (Nat.le_succ _))), Lib.hid (blk_B B1.out VB.out (Nat.lt_succ_self _))⟩, by simp [intOf]; omega⟩
      · have hv3 := blk_lt V3.out
        have hvx := blk_lt VX.out
        have hlx := LT_VX.out
        have OB := Lib.hid (OR.set_apart OO.out (fun g5 e5 => by have := OW.out g5 e5; omega) 7 (.int .i64 0) (b := g6))
        have NB := Lib.hid (Bset1 NN.out (show w.heap.size ≤ g6 by omega) 7 (.int .i64 0))
        have VB := Lib.hid (blk_set_other (b' := g6) V3.out (by omega) 7 (.int .i64 0))
        have SB : Hid (w.heap.size + 1 ≤ (w7.setCell ⟨g6, 7, none⟩ (.int .i64 0)).heap.size) := Lib.hid (blk_lt VB.out)
        have HSZ : Hid (w7.heap.size = (w7.setCell ⟨g6, 7, none⟩ (.int .i64 0)).heap.size) := Lib.hid (by simp)
        clear hv3 hvx hlx
        have c_V3_0 := blk_cell V3.out 0 _ rfl
        have f_V3_0 := blk_frozen V3.out 0
        have c_V3_1 := blk_cell V3.out 1 _ rfl
        have f_V3_1 := blk_frozen V3.out 1
        have c_V3_2 := blk_cell V3.out 2 _ rfl
        have f_V3_2 := blk_frozen V3.out 2
        have l_V3 := blk_lt V3.out
        have c_VX_0 := blk_cell VX.out 0 _ rfl
        have f_VX_0 := blk_frozen VX.out 0
        have c_VX_1 := blk_cell VX.out 1 _ rfl
        have f_VX_1 := blk_frozen VX.out 1
        have c_VX_2 := blk_cell VX.out 2 _ rfl
        have f_VX_2 := blk_frozen VX.out 2
        have c_VX_3 := blk_cell VX.out 3 _ rfl
        have f_VX_3 := blk_frozen VX.out 3
        have c_VX_4 := blk_cell VX.out 4 _ rfl
        have f_VX_4 := blk_frozen VX.out 4
        have c_VX_5 := blk_cell VX.out 5 _ rfl
        have f_VX_5 := blk_frozen VX.out 5
        have c_VX_6 := blk_cell VX.out 6 _ rfl
        have f_VX_6 := blk_frozen VX.out 6
        have c_VX_7 := blk_cell VX.out 7 _ rfl
        have f_VX_7 := blk_frozen VX.out 7
        have l_VX := blk_lt VX.out
        go_wp2_with (at_builtin; refine wpList_app rfl _ _ rfl (w.heap.size + 1) _ L9 rfl (some ⟨w7.heap.size, 0, none⟩) 1 1 [({ s with n := 0 } : Vr)] rfl (OB.out.alloc _) rfl (RT.one (r := ({ s with n := 0 } : Vr)) (blk_at _ HSZ.out)) ?_ ?_ ?_; omega; (rw [World.size_alloc]; have := SB.out; omega); intro v1 y1 o1 q1 _; obtain ⟨A1, c1, hv1, -⟩ := OR.form o1; rw [show (L9 ++ [({ s with n := 0 } : Vr)]).length = L9.length + 1 by simp] at hv1; subst hv1; have B1 := Lib.hid ((((Below.refl _ _).alloc SB.out _)).trans q1); have O1 := Lib.hid o1; clear o1 q1)
        clear c_V3_0 f_V3_0 c_V3_1 f_V3_1 c_V3_2 f_V3_2 l_V3 c_VX_0 f_VX_0 c_VX_1 f_VX_1 c_VX_2 f_VX_2 c_VX_3 f_VX_3 c_VX_4 f_VX_4 c_VX_5 f_VX_5 c_VX_6 f_VX_6 c_VX_7 f_VX_7 l_VX
        have HNK : Hid (∀ x ∈ l.take (k + 1), x.t < t ∧ x.c < c) := Lib.hid (fun x hx => by
          rw [HTK.out] at hx
          rcases List.mem_append.1 hx with hx | hx
          · exact HBN.out x hx
          · rw [List.mem_singleton.1 hx]; exact HBD.out)
        refine ⟨⟨k + 1, A1, c1, L9 ++ [({ s with n := 0 } : Vr)], by omega, by go_num, by simp, Lib.hid (by rw [HT.out]; rfl), Lib.hid (by simpa using O1.out), HNK, Lib.hid (NB.out.trans (B1.out.mono (Nat.le_succ _))), Lib.hid (blk_B B1.out VB.out (Nat.lt_succ_self _))⟩, by simp [intOf]; omega⟩
end Go.Proofs.Ytbbnkclajpaghaa
