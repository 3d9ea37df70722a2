/- Contracts of layer 4: Pairs of the program and of the reference. The arguments of the laws of layer 4 opened: a globe, stations, numbers. -/
import Derived.Test.YtfangplfbbgphaaAtf
import Derived.Deep.Slices
import Derived.Deep.Fields
import Derived.ChangeSame
import Derived.ChangeArms
import Derived.ChangeSlices
import Derived.Lib.SmallJoins
namespace Go.Proofs.Ytfangplfbbgphaa
open Go.ChangeShapes Go.WideShapes Go.ChangeAt Go.RowKit
set_option linter.unusedVariables false
set_option linter.unusedSimpArgs false
attribute [local go_sem ↓] Go.wp_at_zero Go.wp_at_succ
attribute [local go_sem] Oper.semAt_some
theorem infoR : (Try.prog.info? 70).map (fun i => (i.zero, i.size, i.bytes)) = some (some (.agg #[.int .i64 0, .int .i64 0]), 2, 16) := by kernel_rfl
theorem und_prs : Try.prog.underlying 41 = some (.slice 70) := by kernel_rfl
abbrev OPr (B : Nat) (w : World) (v : Value) (l : List (Nat × Nat)) : Prop := w.ownsRow B 70 2 v l.length (l.flatMap pr2)
theorem opr_nil (B : Nat) (w : World) : w.ownsRow B 70 2 (.slice none 0 0) 0 [] := World.ownsRow_nil _ _ _ _
theorem prs_take {n k : Nat} {p : Nat × Nat} (h : (prs n)[k]? = some p) : (prs n).take (k + 1) = (prs n).take k ++ [p] := by
  have hlt := get_lt h
  rw [List.take_succ_eq_append_getElem hlt]
  rw [List.getElem?_eq_getElem hlt] at h
  rw [Option.some.inj h]
theorem prs_len8 {n : Nat} (h : n < 9) : (prs n).length ≤ 28 := by
  have hn : n = 0 ∨ n = 1 ∨ n = 2 ∨ n = 3 ∨ n = 4 ∨ n = 5 ∨ n = 6 ∨ n = 7 ∨ n = 8 := by omega
  rcases hn with rfl | rfl | rfl | rfl | rfl | rfl | rfl | rfl | rfl <;> decide
theorem own_keeps {B : Nat} {w w' : World} {e : TypeId} {sz n : Nat} {v : Value} {xs : List Value} (h : w.ownsRow B e sz v n xs) (hg : w.grownBy w' v.ownBlock) : KeepsOthers w w' := by
  refine KeepsOthers.of_grownBy hg fun j o e hj => ?_
  rcases h.2 with ⟨h5, _⟩ | ⟨g, cap', cur, hv, hb, h3, _⟩
  · rw [h5] at e; cases e
  · rw [hv] at e
    simp [Value.ownBlock] at e
    subst e
    rw [h3] at hj
    cases hj
    rfl
theorem own_rowG {B B' : Nat} {β : Type} (e : TypeId) (sz : Nat) (v : β → Value) (n : β → Nat) (xs : β → List Value) : OwnFrom B (fun k W => W.ownsRow B' e sz (v k) (n k) (xs k)) := by
  intro s W W' row h hg hr
  refine ⟨h.1, ?_⟩
  rcases h.2 with h2 | ⟨g, cap, cur, h1, h2, h3, h4⟩
  · exact .inl h2
  · refine .inr ⟨g, cap, cur, h1, h2, (hg.block g (blk_lt h3) fun e => ?_).trans h3, h4⟩
    obtain ⟨_, o, ho, hc⟩ := hr g e.symm
    rw [h3] at ho
    cases ho
    cases hc
theorem own_set_other {B : Nat} {w : World} {e : TypeId} {sz n : Nat} {v : Value} {xs : List Value} (h : w.ownsRow B e sz v n xs) {b : Nat} (hb : b < B) (off : Nat) (x : Value) : (w.setCell ⟨b, off, none⟩ x).ownsRow B e sz v n xs := by
  refine ⟨h.1, ?_⟩
  rcases h.2 with h2 | ⟨g, cap, cur, h1, h2, h3, h4⟩
  · exact .inl h2
  · exact .inr ⟨g, cap, cur, h1, h2, blk_set_other h3 (by omega) off x, h4⟩
theorem wpListIn_app2 {F : Fence} {n : Nat} {w : World} {ops : Array Oper} {rest : List Oper} {o : Oper} {a : Act} {Q : Exit → Act → World → Prop}
    (hg : o.guard = none) (s x : Operand) (hop : o.op = Op.call { callee := Callee.builtin Builtin.append, args := #[s, x], argTypes := #[41, 41] })
    (B : Nat) (v : Value) (l : List (Nat × Nat)) (hs : a.eval s = v) (A : Option Addr) (m c : Nat) (l2 : List (Nat × Nat)) (hx : a.eval x = .slice A m c)
    (hown : OPr B w v l) (hm : l2.length = m) (hr : Rd w 2 A m (l2.flatMap pr2)) (hb : l.length + m ≤ 1000) (hB : B ≤ w.heap.size)
    (hK : ∀ v' w', OPr B w' v' (l ++ l2) → Below B w w' → KeepsOthers w w' → wpListIn F n Try.prog ops Q rest (a.put o.dst v') w') : wpListIn F n Try.prog ops Q (o :: rest) a w := by
  subst hm
  refine wpListIn_plain hg fun K hK' => ?_
  obtain ⟨i, hi, hz, hsz, hby⟩ := info_parts infoR
  obtain ⟨v', w', hrun, r1, r2, _⟩ := run_append_rd (P := Try.prog) w B 41 o.type 70 i _ 2 16 und_prs hi hz hsz hby rfl (by decide) v l.length (l.flatMap pr2) hown A l2.length c (l2.flatMap pr2) hr (fm_one pr2 pr2_one l2) (by simp [maxLen]; omega) (by omega) hB
  unfold Oper.wpIn
  refine ⟨?_, ?_⟩
  · simp [Oper.about, hop, resolve, Target.leads, Sem.run_pure]
  · rw [Oper.semAt_plain F _ _ (by rw [hop]; intro c hc'; cases hc')]
    simp [execOp, hop, resolve, invoke, builtin, hs, hx, hrun, Result.andThen]
    refine hK' _ _ (hK v' w' ?_ (own_grown hown r2 hB) (own_keeps hown r2))
    unfold OPr
    rw [List.length_append, List.flatMap_append]; exact r1

set_option maxRecDepth 100000 in
set_option maxHeartbeats 8000000 in
theorem rpairs_calls (n : Int) (w : World) : Calls Try.prog 10 #[.int .i64 n] w fun e w' =>
    ∃ v, e = .returned (.tuple #[v, .int .i64 (prE n)]) ∧ Below w.heap.size w w' ∧ (prE n ≠ 0 → v = .slice none 0 0) ∧ (prE n = 0 → OPr w.heap.size w' v (prs n.toNat)) := by
  have hc : n < 0 ∨ 8 < n ∨ (0 ≤ n ∧ n ≤ 8) := by omega
  rcases hc with h | h | ⟨h, h1⟩
  · have HE : Hid (prE n = 2) := Lib.hid (by unfold prE; rw [if_pos (by omega)])
    generalize prE n = pe at *
    have d1 : decide (n < 0) = true := decide_eq_true h
    clear h
    go_enter Try.func10, Try.ntmps10
    go_wp2_with fail
    refine bodyPost_ret (v := .tuple #[.slice none 0 0, .int .i64 2]) (by simp [results, Try.results10, go_sem]) rfl ⟨_, by rw [HE.out], Below.refl _ _, fun _ => rfl, fun h => absurd (HE.out.symm.trans h) (by decide)⟩
  · have HE : Hid (prE n = 2) := Lib.hid (by unfold prE; rw [if_pos (by omega)])
    generalize prE n = pe at *
    have d1 : decide (n < 0) = false := decide_eq_false (by omega)
    have d2 : decide ((8 : Int) < n) = true := decide_eq_true h
    clear h
    go_enter Try.func10, Try.ntmps10
    go_wp2_with fail
    refine bodyPost_ret (v := .tuple #[.slice none 0 0, .int .i64 2]) (by simp [results, Try.results10, go_sem]) rfl ⟨_, by rw [HE.out], Below.refl _ _, fun _ => rfl, fun h => absurd (HE.out.symm.trans h) (by decide)⟩
  obtain ⟨m, rfl⟩ := Int.eq_ofNat_of_zero_le h
  have h9 : m < 9 := by omega
  have HE : Hid (prE (m : Int) = 0) := Lib.hid (by unfold prE; rw [if_neg (by omega)])
  generalize prE (m : Int) = pe at *
  have d1 : decide ((m : Int) < 0) = false := decide_eq_false (by omega)
  have d2 : decide ((8 : Int) < (m : Int)) = false := decide_eq_false (by omega)
  have d3 : (8 < m) = False := by simp; omega
  obtain ⟨p0, pl, pa⟩ := pix_all h9
  have P0 := Lib.hid p0
  have PL := Lib.hid pl
  have PA := Lib.hid pa
  have L28 := Lib.hid (prs_len8 h9)
  obtain ⟨i0, hi, hz, hs0, hb0⟩ := info_parts infoR
  have HI := Lib.hid (And.intro hi (And.intro hz (And.intro hs0 hb0)))
  simp only [Int.toNat_natCast]
  clear p0 pl pa hi hz hs0 hb0 h h1
  go_enter Try.func10, Try.ntmps10
  go_wp2_with fail
  clear d1 d2 d3
  have OV : Hid (OPr w.heap.size w (.slice none 0 0) ((prs m).take (pix m 0 1))) := Lib.hid (by rw [P0.out]; exact opr_nil _ _)
  go_loopw [4, 5] (fun v i wr => ∃ k : Nat, k ≤ m ∧ i = .int .i64 k ∧ Hid (Below w.heap.size w wr) ∧ Hid (OPr w.heap.size wr v ((prs m).take (pix m k (k + 1))))) (fun v i _ => m - (intOf i).toNat)
  case atStart => exact ⟨0, by omega, rfl, Lib.hid (Below.refl _ _), OV⟩
  case round =>
    clear OV
    obtain ⟨k, hk, rfl, NN, OV⟩ := hrel
    by_cases hlt : k < m
    · have HLT := Lib.hid hlt
      go_wp2_with fail
      go_loopw [4, 6] (fun v i wr => ∃ j : Nat, k + 1 ≤ j ∧ j ≤ m ∧ i = .int .i64 j ∧ Hid (Below w.heap.size w wr) ∧ Hid (OPr w.heap.size wr v ((prs m).take (pix m k j)))) (fun v i _ => m - (intOf i).toNat)
      case atStart => exact ⟨k + 1, Nat.le_refl _, hlt, by simp, NN, OV⟩
      case round =>
        clear NN OV
        obtain ⟨j, hj1, hj2, rfl, NN, OV⟩ := hrel
        by_cases hjn : j < m
        · obtain ⟨g1, g2⟩ := (PA.out k HLT.out).2.2 j hjn (by omega)
          have G2 := Lib.hid g2
          have PT := Lib.hid (prs_take g1)
          have hlen : ((prs m).take (pix m k j)).length = pix m k j := by rw [List.length_take]; have := get_lt g1; omega
          have hpl := get_lt g1
          obtain ⟨A0, c0, hv0, hn0, hc1, -⟩ := Rd.of_own OV.out
          rw [hlen] at hv0 hn0
          have H63 : Hid (((prs m).take (pix m k j)).length + 1 ≤ maxLen) := Lib.hid (by have := L28.out; rw [hlen]; simp [maxLen]; omega)
          have H64 : Hid ((((prs m).take (pix m k j)).length + 1) * 16 ≤ 140737488355328) := Lib.hid (by have := L28.out; rw [hlen]; omega)
          have H5 : Hid (w.heap.size ≤ (wr.alloc (.cells #[.int .i64 (k : Int), .int .i64 (j : Int)] 70)).heap.size) := Lib.hid (by rw [World.size_alloc]; have := NN.out.size; omega)
          subst hv0
          clear g1 g2 hlen hpl hn0 hc1
          go_wp2_with (at_builtin; refine wpList_append_rd _ rfl _ _ 41 rfl w.heap.size 70 i0 (.agg #[.int .i64 0, .int .i64 0]) 2 16 und_prs HI.out.1 HI.out.2.1 HI.out.2.2.1 HI.out.2.2.2 rfl (by decide) (.slice A0 (pix m k j) c0) _ _ rfl (World.ownsRow.alloc OV.out _) (some ⟨wr.heap.size, 0, none⟩) 1 1 (pr2 (k, j)) rfl (Rd.blk (T := 70) (blk_new wr _) rfl) (pr2_one (k, j)) H63.out H64.out H5.out ?_; intro v9 w9 o9 g9 hat9)
          have BG := Lib.hid (own_grown (World.ownsRow.alloc OV.out _) g9 H5.out)
          have O9 : Hid (OPr w.heap.size w9 v9 ((prs m).take (pix m k (j + 1)))) := Lib.hid (by unfold OPr; rw [G2.out, PT.out, List.flatMap_append, List.length_append]; simpa using o9)
          have N9 := Lib.hid ((Bal NN.out (.cells #[.int .i64 (k : Int), .int .i64 (j : Int)] 70)).trans BG.out)
          go_roundw
          case rel => exact ⟨j + 1, by omega, by omega, by go_num, N9, O9⟩
          case measure => simp [intOf]; omega
        · obtain rfl : j = m := by omega
          go_wp2_with fail
          go_roundw
          case rel => exact ⟨k + 1, HLT.out, by go_num, NN, Lib.hid (by rw [← (PA.out k HLT.out).1]; exact OV.out)⟩
          case measure => have := HLT.out; simp [intOf]; omega
    · obtain rfl : k = m := by omega
      rw [PL.out, List.take_length] at OV
      go_wp2_with fail
      refine bodyPost_ret (by simp [results, Try.results10, go_sem]; rfl) rfl ⟨_, by rw [HE.out], NN.out, fun h => absurd HE.out h, fun _ => OV.out⟩
set_option maxRecDepth 100000 in
set_option maxHeartbeats 8000000 in
theorem apairs_calls (n : Int) (w : World) : Calls Try.prog 9 #[.int .i64 n] w fun e w' =>
    ∃ v, e = .returned (.tuple #[v, .int .i64 (prE n)]) ∧ Below w.heap.size w w' ∧ (prE n ≠ 0 → v = .slice none 0 0) ∧ (prE n = 0 → OPr w.heap.size w' v (prs n.toNat)) := by
  have hc : n < 0 ∨ 8 < n ∨ (0 ≤ n ∧ n ≤ 8) := by omega
  rcases hc with h | h | ⟨h, h1⟩
  · have HE : Hid (prE n = 2) := Lib.hid (by unfold prE; rw [if_pos (by omega)])
    generalize prE n = pe at *
    have d1 : decide (n < 0) = true := decide_eq_true h
    clear h
    refine (callsIn_wide (n := 0)).1 ?_
    refine callsIn_of_wp_marks Try.func9 rfl trivial ?_ rfl
    simp only [Try.ntmps9, List.size_toArray, List.length_cons, List.length_nil, Nat.reduceAdd, Nat.reduceSub, Array.replicate_succ, Array.replicate_zero, List.push_toArray, List.append_toArray, List.nil_append, List.cons_append]
    refine wpIn_wide.2 ?_
    go_wp2_with fail
    exact ⟨.tuple #[.slice none 0 0, .int .i64 2], by simp [results, Try.results9, go_sem], ⟨_, by rw [HE.out], Below.refl _ _, fun _ => rfl, fun h => absurd (HE.out.symm.trans h) (by decide)⟩⟩
  · have HE : Hid (prE n = 2) := Lib.hid (by unfold prE; rw [if_pos (by omega)])
    generalize prE n = pe at *
    have d1 : decide (n < 0) = false := decide_eq_false (by omega)
    have d2 : decide ((8 : Int) < n) = true := decide_eq_true h
    clear h
    refine (callsIn_wide (n := 0)).1 ?_
    refine callsIn_of_wp_marks Try.func9 rfl trivial ?_ rfl
    simp only [Try.ntmps9, List.size_toArray, List.length_cons, List.length_nil, Nat.reduceAdd, Nat.reduceSub, Array.replicate_succ, Array.replicate_zero, List.push_toArray, List.append_toArray, List.nil_append, List.cons_append]
    refine wpIn_wide.2 ?_
    go_wp2_with fail
    exact ⟨.tuple #[.slice none 0 0, .int .i64 2], by simp [results, Try.results9, go_sem], ⟨_, by rw [HE.out], Below.refl _ _, fun _ => rfl, fun h => absurd (HE.out.symm.trans h) (by decide)⟩⟩
  obtain ⟨m, rfl⟩ := Int.eq_ofNat_of_zero_le h
  have h9 : m < 9 := by omega
  have HE : Hid (prE (m : Int) = 0) := Lib.hid (by unfold prE; rw [if_neg (by omega)])
  generalize prE (m : Int) = pe at *
  have d1 : decide ((m : Int) < 0) = false := decide_eq_false (by omega)
  have d2 : decide ((8 : Int) < (m : Int)) = false := decide_eq_false (by omega)
  have d3 : (8 < m) = False := by simp; omega
  have L28 := Lib.hid (prs_len8 h9)
  simp only [Int.toNat_natCast]
  clear h h1
  refine (callsIn_wide (n := 0)).1 ?_
  refine callsIn_of_wp_marks Try.func9 rfl trivial ?_ rfl
  simp only [Try.ntmps9, List.size_toArray, List.length_cons, List.length_nil, Nat.reduceAdd, Nat.reduceSub, Array.replicate_succ, Array.replicate_zero, List.push_toArray, List.append_toArray, List.nil_append, List.cons_append]
  refine wpIn_wide.2 ?_
  go_wp2_with fail
  refine (pairs_calls _ _).mono ?_
  rintro e w9 ⟨rfl, rfl⟩
  go_wp2_with fail
  clear d1 d2 d3
  have NN : Hid (Below w.heap.size w ((w.alloc (.cells #[.slice none 0 0] 41)).alloc (.cells #[.int .i64 (m : Int)] 3))) := Lib.hid (Bal (Bal (Below.refl _ _) _) _)
  have SZ : Hid (((w.alloc (.cells #[.slice none 0 0] 41)).alloc (.cells #[.int .i64 (m : Int)] 3)).heap.size = w.heap.size + 2) := Lib.hid (by simp)
  have V4 : Hid (((w.alloc (.cells #[.slice none 0 0] 41)).alloc (.cells #[.int .i64 (m : Int)] 3)).heap[w.heap.size]? = some (.cells #[.slice none 0 0] 41)) := Lib.hid (blk_alloc (blk_new w _) _)
  have VT : Hid (((w.alloc (.cells #[.slice none 0 0] 41)).alloc (.cells #[.int .i64 (m : Int)] 3)).heap[w.heap.size + 1]? = some (.cells #[.int .i64 (m : Int)] 3)) := Lib.hid (blk_at _ (by simp))
  generalize ((w.alloc (.cells #[.slice none 0 0] 41)).alloc (.cells #[.int .i64 (m : Int)] 3)) = W0 at *
  refine wpIn_wide.1 (range_k 38 #[.pointer (some ⟨w.heap.size + 1, 0, none⟩)] rfl (enters_of Try.func38 (by kernel_rfl) rfl) (encP m) w.heap.size (prs m).length (fun W => W.heap[w.heap.size + 1]? = some (.cells #[.int .i64 (m : Int)] 3))
    (pairs_seq h9 (by have := SZ.out; omega)) (by have := SZ.out; omega) (fun _ => rfl)
    (fun k W => (∃ A9 c9, W.heap[w.heap.size]? = some (.cells #[.slice A9 k c9] 41) ∧ OPr W0.heap.size W (.slice A9 k c9) ((prs m).take k)) ∧ (W.heap[w.heap.size + 1]? = some (.cells #[.int .i64 (m : Int)] 3)) ∧ (Below w.heap.size w W) ∧ (w.heap.size + 2 ≤ W.heap.size)) (fun cd k W => False) (fun k a' W => ∃ Bx : Nat, (a' = { tmps := #[.int .i64 (m : Int), undef, .slice none 0 0, .int .i64 0, .pointer (some ⟨w.heap.size, 0, none⟩), .pointer (some ⟨Bx, 0, none⟩), .int .i64 (m : Int), .bool false, .bool false, .int .i64 (m : Int), .bool false, .bool false, .int .i64 (m : Int), .func (.func 38) #[] #[.pointer (some ⟨w.heap.size + 1, 0, none⟩)], .agg #[.int .i64 ((prAt m k).1 : Int), .int .i64 ((prAt m k).2 : Int)], undef, undef, undef, undef, undef], defers := [] }) ∧ (w.heap.size + 2 ≤ Bx) ∧ (W.heap[Bx]? = some (.cells #[.int .i64 ((prAt m k).1 : Int), .int .i64 ((prAt m k).2 : Int)] 70)) ∧ (∃ A9 c9, W.heap[w.heap.size]? = some (.cells #[.slice A9 k c9] 41) ∧ OPr W0.heap.size W (.slice A9 k c9) ((prs m).take k)) ∧ (W.heap[w.heap.size + 1]? = some (.cells #[.int .i64 (m : Int)] 3)) ∧ (Below w.heap.size w W) ∧ (w.heap.size + 2 ≤ W.heap.size))
    ((own_ex fun _ => own_ex fun _ => (own_blk _ _ _).and (own_rowG _ _ _ _ _)).and ((own_blk _ _ _).and ((ownFrom_below (Nat.le_refl _) (by have := SZ.out; omega)).and (own_size _)))) (fun _ => (own_pure _)) (fun _ => own_ex fun _ => ((own_pure _).and ((own_pure _).and ((own_blk _ _ _).and ((own_ex fun _ => own_ex fun _ => (own_blk _ _ _).and (own_rowG _ _ _ _ _)).and ((own_blk _ _ _).and ((ownFrom_below (Nat.le_refl _) (by have := SZ.out; omega)).and (own_size _))))))))
    (fun k W h => h.2.1) ⟨⟨none, 0, V4.out, opr_nil _ _⟩, VT.out, NN.out, by have := SZ.out; omega⟩ ?assign ?body ?done ?stop)
  case assign =>
    rintro lp k W K ⟨⟨A9, c9, v4, o9⟩, vt, nn, sz⟩ hlt hK
    gi_wp2
    exact hK _ _ (keeps_of_below (Bal (Below.refl _ _) _)) ((Below.refl _ W).alloc nn.size _) ⟨W.heap.size, rfl, sz, blk_new W _, ⟨A9, c9, blk_alloc v4 _, World.ownsRow.alloc o9 _⟩, blk_alloc vt _, Bal nn _, by rw [World.size_alloc]; omega⟩
  case body =>
    rintro lp k a' W ⟨Bx, rfl, lx, vx, ⟨A9, c9, v4, o9⟩, vt, nn, sz⟩ hlt
    have hp : (prs m)[k]? = some (prAt m k) := by unfold prAt; rw [List.getD_eq_getElem?_getD, List.getElem?_eq_getElem hlt]; rfl
    have PT := Lib.hid (prs_take hp)
    have hlen : ((prs m).take k).length = k := by rw [List.length_take]; omega
    have h28 := L28.out
    have hz := SZ.out
    generalize prAt m k = p at *
    have O9 := Lib.hid o9
    have V4 := Lib.hid v4
    have VT := Lib.hid vt
    have NN := Lib.hid nn
    have nn0 := Lib.hid nn
    have LX := Lib.hid lx
    have SW : Hid (W0.heap.size ≤ W.heap.size) := Lib.hid (by omega)
    have c40 := blk_cell V4.out 0 _ rfl
    have f40 := blk_frozen V4.out 0
    have l40 := blk_lt V4.out
    have cx0 := blk_cell vx 0 _ rfl
    have cx1 := blk_cell vx 1 _ rfl
    have lx1 := blk_lt vx
    have HLEN := Lib.hid hlen
    clear o9 v4 vt nn lx hp vx hlen hz
    gi_wp2_with (gi_at_builtin; refine wpListIn_app2 rfl _ _ rfl W0.heap.size _ ((prs m).take k) rfl (some ⟨W.heap.size, 0, none⟩) 1 1 [p] rfl (World.ownsRow.alloc O9.out _) rfl (Rd.blk (T := 70) (blk_new W _) rfl) ?_ ?_ ?_; (have := HLEN.out; omega); (rw [World.size_alloc]; have := SW.out; omega); intro v1 w1 o1 q1 k1; obtain ⟨A1, c1, hv1, -, -, -⟩ := Rd.of_own o1; rw [show ((prs m).take k ++ [p]).length = k + 1 by rw [List.length_append, HLEN.out]; rfl] at hv1; subst hv1; have B1 := Lib.hid (((Below.refl W0.heap.size W).alloc SW.out _).trans q1); have O1 := Lib.hid o1; have K1 := Lib.hid (((KeepsOthers.alloc W _).trans k1).from W0.heap.size); have V41 := Lib.hid (blk_B B1.out V4.out (by have := SZ.out; omega)); have c9a := blk_cell V41.out 0 _ rfl; have f9a := blk_frozen V41.out 0; have l9a := blk_lt V41.out; clear o1 q1 k1)
    clear c9a f9a l9a c40 f40 l40 cx0 cx1 lx1
    replace V4 := Lib.hid (blk_set V41.out 0 (.slice A1 (k + 1) c1))
    replace VT := Lib.hid (blk_set_other (b' := w.heap.size) (blk_B B1.out VT.out (by have := SZ.out; omega)) (by omega) 0 (.slice A1 (k + 1) c1))
    replace NN := Lib.hid (Bset1 (NN.out.trans (B1.out.mono (by have := SZ.out; omega))) (Nat.le_refl _) 0 (.slice A1 (k + 1) c1))
    replace O1 := Lib.hid (own_set_other O1.out (show w.heap.size < W0.heap.size by have := SZ.out; omega) 0 (.slice A1 (k + 1) c1))
    replace K1 := Lib.hid (keep_set K1.out w.heap.size 0 (.slice A1 (k + 1) c1))
    refine ⟨K1.out, below_mid nn0.out NN.out K1.out.size, ⟨A1, c1, V4.out, by unfold OPr; rw [PT.out]; exact O1.out⟩, VT.out, NN.out, by have := K1.out.size; have := SW.out; have := SZ.out; omega⟩
  case done =>
    rintro D W hD ⟨⟨A9, c9, v4, o9⟩, vt, nn, sz⟩ hK
    have hz := SZ.out
    have O9 := Lib.hid o9
    have V4 := Lib.hid v4
    have NN := Lib.hid nn
    have HK := Lib.hid hK
    clear o9 v4 vt nn hK
    rw [List.take_length] at O9
    have c40 := blk_cell V4.out 0 _ rfl
    have l40 := blk_lt V4.out
    go_wp2_with fail
    refine ⟨by simp, .inl ⟨_, _, rfl, run_takeDeferred HK.out, ?_⟩⟩
    exact ⟨.tuple #[.slice A9 (prs m).length c9, .int .i64 0], by simp [results, Try.results9, go_sem], ⟨_, by rw [HE.out], put_below NN.out (by omega) (Nat.le_refl _) HK.out, fun h => absurd HE.out h, fun _ => ownsRow_putObj (own_mono O9.out (by omega)) _ HK.out rfl⟩⟩
  case stop =>
    rintro D cd k W hD hlt h hK
    exact h.elim
end Go.Proofs.Ytfangplfbbgphaa

namespace Go.Proofs.Ytfangplfbbgphaa
open Go.ChangeShapes Go.WideShapes Go.ChangeAt Go.RowKit Go.Deep Go.Joins
set_option linter.unusedVariables false
set_option linter.unusedSimpArgs false
/- the condition of a region: blocks of memory, each for one operation, and that memory has only grown -/
def GB (L : List (Nat × Nat × Obj)) (w0 : World) (k : Nat) (X : World) : Prop := GK L k X ∧ Below w0.heap.size w0 X
theorem GB.grow {L : List (Nat × Nat × Obj)} {w0 : World} : ∀ k (w X : World), GB L w0 k w → Below w.heap.size w X → GB L w0 k X := fun k w X h hb => ⟨GK.grow L k w X h.1 hb, below_go h.2 hb⟩
theorem own_of_blk {W : World} {g base sz n : Nat} {e : TypeId} {xs : List Value} (h : W.heap[g]? = some (.cells xs.toArray e)) (hb : base ≤ g) (hl : xs.length = n * sz) (hn : n ≤ 1000) : W.ownsRow base e sz (.slice (some ⟨g, 0, none⟩) n n) n xs :=
  ⟨hl, .inr ⟨g, n, xs.toArray, rfl, hb, h, Nat.le_refl _, by simp [maxLen]; omega, by simpa using hl, by simp [List.take_of_length_le (Nat.le_of_eq hl)]⟩⟩
theorem rd_nil (W : World) (sz : Nat) (A : Option Addr) : Rd W sz A 0 [] := ⟨by simp, fun h => absurd h (by simp)⟩
instance : Inhabited St := ⟨zS⟩
theorem plain_addr {w : World} {a : Addr} {v : Value} (h : w.cell? a = some v) : a = ⟨a.block, a.off, none⟩ := by
  rcases a with ⟨b, o, s⟩
  cases s with
  | none => rfl
  | some s =>
    unfold World.cell? at h
    split at h
    · simp at h
    · cases h
theorem add_plain (b o j : Nat) : (⟨b, o, none⟩ : Addr).add j = ⟨b, o + j, none⟩ := by
  unfold Addr.add; split
  · rename_i h; subst h; rfl
  · rfl
theorem list2 {α : Type} {cs : List α} (h : cs.length = 2) : ∃ c0 c1, cs = [c0, c1] := by
  match cs, h with
  | [c0, c1], _ => exact ⟨c0, c1, rfl⟩
theorem list3 {α : Type} {cs : List α} (h : cs.length = 3) : ∃ c0 c1 c2, cs = [c0, c1, c2] := by
  match cs, h with
  | [c0, c1, c2], _ => exact ⟨c0, c1, c2, rfl⟩
theorem list5 {α : Type} {cs : List α} (h : cs.length = 5) : ∃ c0 c1 c2 c3 c4, cs = [c0, c1, c2, c3, c4] := by
  match cs, h with
  | [c0, c1, c2, c3, c4], _ => exact ⟨c0, c1, c2, c3, c4, rfl⟩
theorem cof_l : Try.prog.cellsOf 2 = 1 := by kernel_rfl
theorem cof_i : Try.prog.cellsOf 3 = 1 := by kernel_rfl
theorem cof_t : Try.prog.cellsOf 9 = 1 := by kernel_rfl
theorem cof_f : Try.prog.cellsOf 34 = 2 := by kernel_rfl
theorem cof_g : Try.prog.cellsOf 23 = 2 := by kernel_rfl
theorem cof_s : Try.prog.cellsOf 56 = 5 := by kernel_rfl
section
variable {H : Type} {enc : TypeId × Value → H} {w : World} {base : Nat} {spare : Nat → Bool} {held : Bool}
theorem long_one {n : Nat} {c : Value} {x : Option (DataW H × List MemPlace)} {y : DataW H × List MemPlace} (hx : x = some y) (h : DataW.trod enc Try.prog w base spare held n 2 [c] = x) : ∃ a : Int, c = .int .i64 a := by
  subst hx
  obtain ⟨a, e, _⟩ := DataW.trod_int Try.underlying2 h
  simp only [List.cons.injEq, and_true] at e
  exact ⟨a, e⟩
theorem inum_one {n : Nat} {c : Value} {x : Option (DataW H × List MemPlace)} {y : DataW H × List MemPlace} (hx : x = some y) (h : DataW.trod enc Try.prog w base spare held n 3 [c] = x) : ∃ a : Int, c = .int .i64 a := by
  subst hx
  obtain ⟨a, e, _⟩ := DataW.trod_int Try.underlying3 h
  simp only [List.cons.injEq, and_true] at e
  exact ⟨a, e⟩
theorem str_one {n : Nat} {c : Value} {x : Option (DataW H × List MemPlace)} {y : DataW H × List MemPlace} (hx : x = some y) (h : DataW.trod enc Try.prog w base spare held n 9 [c] = x) : ∃ s : ByteArray, c = .string s := by
  subst hx
  obtain ⟨a, e, _⟩ := DataW.trod_string Try.underlying9 h
  simp only [List.cons.injEq, and_true] at e
  exact ⟨a, e⟩
theorem frac_cells {fuel : Nat} {cs : List Value} {x : DataW H × List MemPlace} (h : DataW.trod enc Try.prog w base spare held fuel 34 cs = some x) : ∃ a b : Int, cs = [.int .i64 a, .int .i64 b] := by
  obtain ⟨xs, n, _, _, hl, hx, hf⟩ := DataW.trod_struct Try.underlying34 h
  rw [cof_f] at hl
  obtain ⟨u0, u1, rfl⟩ := list2 hl
  obtain ⟨x0, x1, rfl⟩ := list2 hx
  have h0 := hf 0 _ rfl
  have h1 := hf 1 _ rfl
  change DataW.trod enc Try.prog w base spare held n 2 (([u0, u1].drop 0).take (Try.prog.cellsOf 2)) = _ at h0
  rw [cof_l] at h0
  change DataW.trod enc Try.prog w base spare held n 2 (([u0, u1].drop 1).take (Try.prog.cellsOf 2)) = _ at h1
  rw [cof_l] at h1
  obtain ⟨a, rfl⟩ := long_one rfl h0
  obtain ⟨b, rfl⟩ := long_one rfl h1
  exact ⟨a, b, rfl⟩
theorem globe_cells {fuel : Nat} {cs : List Value} {x : DataW H × List MemPlace} (h : DataW.trod enc Try.prog w base spare held fuel 23 cs = some x) : ∃ a b : Int, cs = [.int .i64 a, .int .i64 b] := by
  obtain ⟨xs, n, _, _, hl, hx, hf⟩ := DataW.trod_struct Try.underlying23 h
  rw [cof_g] at hl
  obtain ⟨u0, u1, rfl⟩ := list2 hl
  obtain ⟨x0, x1, rfl⟩ := list2 hx
  have h0 := hf 0 _ rfl
  have h1 := hf 1 _ rfl
  change DataW.trod enc Try.prog w base spare held n 3 (([u0, u1].drop 0).take (Try.prog.cellsOf 3)) = _ at h0
  rw [cof_i] at h0
  change DataW.trod enc Try.prog w base spare held n 3 (([u0, u1].drop 1).take (Try.prog.cellsOf 3)) = _ at h1
  rw [cof_i] at h1
  obtain ⟨a, rfl⟩ := inum_one rfl h0
  obtain ⟨b, rfl⟩ := inum_one rfl h1
  exact ⟨a, b, rfl⟩
theorem site_cells {fuel : Nat} {cs : List Value} {x : DataW H × List MemPlace} (h : DataW.trod enc Try.prog w base spare held fuel 56 cs = some x) : ∃ s : St, cs = st5 s := by
  obtain ⟨xs, n, _, _, hl, hx, hf⟩ := DataW.trod_struct Try.underlying56 h
  rw [cof_s] at hl
  obtain ⟨u0, u1, u2, u3, u4, rfl⟩ := list5 hl
  obtain ⟨x0, x1, x2, rfl⟩ := list3 hx
  have h0 := hf 0 _ rfl
  have h1 := hf 1 _ rfl
  have h2 := hf 2 _ rfl
  change DataW.trod enc Try.prog w base spare held n 9 (([u0, u1, u2, u3, u4].drop 0).take (Try.prog.cellsOf 9)) = _ at h0
  rw [cof_t] at h0
  change DataW.trod enc Try.prog w base spare held n 34 (([u0, u1, u2, u3, u4].drop 1).take (Try.prog.cellsOf 34)) = _ at h1
  rw [cof_f] at h1
  change DataW.trod enc Try.prog w base spare held n 34 (([u0, u1, u2, u3, u4].drop 3).take (Try.prog.cellsOf 34)) = _ at h2
  rw [cof_f] at h2
  obtain ⟨s, rfl⟩ := str_one rfl h0
  obtain ⟨a, b, e⟩ := frac_cells (x := x1) h1
  obtain ⟨c, d, e'⟩ := frac_cells (x := x2) h2
  simp at e e'
  obtain ⟨rfl, rfl⟩ := e
  obtain ⟨rfl, rfl⟩ := e'
  exact ⟨⟨s, a, b, c, d⟩, rfl⟩
set_option maxRecDepth 100000 in
theorem open_globe {r : Reach} {b0 : Nat} {v : Value} {d : DataW H} {p : List MemPlace} (hv : Value.okWide Try.prog w r b0 23 v) (h : DataW.Trod enc Try.prog w base spare held 23 v d p) : ∃ a b : Int, v = Gv a b := by
  obtain ⟨cs, rfl, hsz⟩ := okWide_struct Try.underlying23 hv
  obtain ⟨fuel, hf⟩ := h
  obtain ⟨a, b, hr⟩ := globe_cells hf
  refine ⟨a, b, ?_⟩
  obtain ⟨l⟩ := cs
  simp only [Value.cells] at hr
  subst hr
  rfl
theorem open_srows {fuel : Nat} {cs : List Value} {x : DataW H × List MemPlace} (h : DataW.trod enc Try.prog w base spare held fuel 24 cs = some x) :
    ∃ (a : Option Addr) (l : List St) (cap : Nat), cs = [.slice a l.length cap] ∧ l.length ≤ cap ∧ cap ≤ 9223372036854775807 ∧ RSt w a l := by
  rcases open_slice und_sites h with ⟨rfl, _⟩ | ⟨a, len, cap, m, n, D, Pl, rfl, hb, hl, hm, hmm, hx, hi⟩
  · exact ⟨none, [], 0, rfl, Nat.le_refl _, by omega, rfl, fun h => absurd h (by simp)⟩
  · have hle : len ≤ m := by rw [hmm]; split <;> omega
    have key : ∀ i, i < len → ∃ r : St, ∀ j, j < 5 → w.cell? (a.add (i * 5 + j)) = (st5 r)[j]? := by
      intro i hil
      obtain ⟨cs', hc, ht⟩ := hi i (by omega)
      rw [cof_s] at hc
      obtain ⟨r, rfl⟩ := site_cells ht
      obtain ⟨_, _, hat⟩ := World.cells?_some hc
      exact ⟨r, fun j hj => by rw [← Go.Deep.add_add]; exact hat j hj⟩
    obtain ⟨f, hf⟩ := choose_lt key
    refine ⟨some a, (List.range len).map f, cap, by simp, by simpa using hl, by simpa [maxLen] using hm, fm_len _ _ st5_len _, fun hn => ?_⟩
    have hn' : 0 < len := by simpa using hn
    have h0 := hf 0 hn' 0 (by omega)
    have ha : a = ⟨a.block, a.off, none⟩ := plain_addr (by simpa [Addr.add, st5] using h0)
    have hlt := World.block_lt_of_cell? w (a.add (0 * 5 + 0)) h0
    refine ⟨a.block, a.off, by rw [← ha], hlt, fun j u hu => ?_⟩
    have hj : j < len * 5 := by
      have := (List.getElem?_eq_some_iff.1 hu).1
      rw [fm_len _ _ st5_len] at this
      simpa using this
    have e : j / 5 * 5 + j % 5 = j := by omega
    have hi5 : j / 5 < len := by omega
    have g := fm_get st5 5 st5_len ((List.range len).map f) (j / 5) (j % 5) (f (j / 5)) (by rw [List.getElem?_map, List.getElem?_range hi5]; rfl) (by omega)
    rw [e] at g
    have h1 := hf (j / 5) hi5 (j % 5) (by omega)
    rw [e, ha, add_plain] at h1
    have h2 : w.cell? ⟨a.block, a.off + j, none⟩ = (st5 (f (j / 5)))[j % 5]? := h1
    rw [h2, ← g]
    exact hu
set_option maxRecDepth 100000 in
theorem open_sites {r : Reach} {b0 : Nat} {v : Value} {d : DataW H} {p : List MemPlace} (hv : Value.okWide Try.prog w r b0 24 v) (h : DataW.Trod enc Try.prog w base spare held 24 v d p) :
    ∃ (A : Option Addr) (l : List St) (cap : Nat), v = .slice A l.length cap ∧ l.length ≤ cap ∧ cap ≤ 9223372036854775807 ∧ RSt w A l := by
  obtain ⟨fuel, hf⟩ := h
  obtain ⟨sa, sl, sc, rfl⟩ := okWide_slice und_sites hv
  obtain ⟨A, l, cap, e, h1, h2, h3⟩ := open_srows (cs := [.slice sa sl sc]) hf
  simp only [List.cons.injEq, and_true, Value.slice.injEq] at e
  obtain ⟨rfl, rfl, rfl⟩ := e
  exact ⟨_, l, _, rfl, h1, h2, h3⟩
set_option maxRecDepth 100000 in
theorem open_nums {fuel : Nat} {cs : List Value} {x : DataW H × List MemPlace} (h : DataW.trod enc Try.prog w base (fun _ => true) held fuel 25 cs = some x) :
    ∃ (a : Option Addr) (l : List Int) (cap : Nat), cs = [.slice a l.length cap] ∧ l.length ≤ cap ∧ cap ≤ 9223372036854775807 ∧ Rd w 1 a l.length (lv l) := by
  rcases open_ints Try.underlying25 Try.underlying3 (by kernel_rfl) h with ⟨rfl, _⟩ | ⟨a, len, cap, zs, rfl, hb, hl, hm, hz, _, hcell, hw⟩
  · exact ⟨none, [], 0, rfl, by simp, by omega, ⟨rfl, fun h => absurd h (by simp)⟩⟩
  · simp only [if_true] at hz
    have el : (zs.take len).length = len := by rw [List.length_take]; omega
    refine ⟨some a, zs.take len, cap, by rw [el], by rw [el]; exact hl, by simpa [maxLen] using hm, ⟨by rw [lv_len, Nat.mul_one], fun h0 => ?_⟩⟩
    rw [el] at h0
    have c0 := hcell 0 (by omega)
    have ha : a = ⟨a.block, a.off, none⟩ := plain_addr (by simpa [Addr.add] using c0)
    have hlt : a.block < w.heap.size := by
      rw [ha, add_plain] at c0
      exact World.block_lt_of_cell? w ⟨a.block, a.off + 0, none⟩ c0
    refine ⟨a.block, a.off, by rw [← ha], hlt, fun j u hu => ?_⟩
    simp only [lv, List.getElem?_map, List.getElem?_take] at hu
    split at hu
    · obtain ⟨z, hz', rfl⟩ := Option.map_eq_some_iff.1 hu
      have := hcell j (get_lt hz')
      rw [ha, add_plain, List.getD_eq_getElem?_getD, hz'] at this
      exact this
    · simp at hu
set_option maxRecDepth 100000 in
theorem open_order {r : Reach} {b0 : Nat} {v : Value} {d : DataW H} {p : List MemPlace} (hv : Value.okWide Try.prog w r b0 25 v) (h : DataW.Trod enc Try.prog w base (fun _ => true) held 25 v d p) :
    ∃ (A : Option Addr) (l : List Int) (cap : Nat), v = .slice A l.length cap ∧ l.length ≤ cap ∧ cap ≤ 9223372036854775807 ∧ Rd w 1 A l.length (lv l) := by
  obtain ⟨fuel, hf⟩ := h
  obtain ⟨sa, sl, sc, rfl⟩ := okWide_slice Try.underlying25 hv
  obtain ⟨A, l, cap, e, h1, h2, h3⟩ := open_nums (cs := [.slice sa sl sc]) hf
  simp only [List.cons.injEq, and_true, Value.slice.injEq] at e
  obtain ⟨rfl, rfl, rfl⟩ := e
  exact ⟨_, l, _, rfl, h1, h2, h3⟩
end
end Go.Proofs.Ytfangplfbbgphaa
