/- Contracts of layer 4: comparisons of equal lists; orders of the reference. Contracts of layer 4: Order of the program and of the reference. -/
import Derived.Test.YtfangplfbbgphaaAtd
namespace Go.Proofs.Ytfangplfbbgphaa
open Go.ChangeShapes Go.WideShapes Go.ChangeAt Go.RowKit
set_option linter.unusedVariables false
set_option linter.unusedSimpArgs false
attribute [local go_sem ↓] Go.wp_at_zero Go.wp_at_succ
theorem eqVe_self (a : V6) (w : World) : (Op.equalIn 10000 36 (Vv a) (Vv a)).run Try.prog w = .ok true w := by
  rw [eqVe]; simp
theorem eqSt_self (a : St) (w : World) : (Op.equalIn 10000 56 (Sv a) (Sv a)).run Try.prog w = .ok true w := by
  obtain ⟨a1, a2, a3, a4, a5⟩ := a
  have uu := Try.underlying2
  have ua := Try.isAgg2
  have uz := Try.sizeOf2
  have su := Try.underlying9
  have sa := Try.isAgg9
  have sz := Try.sizeOf9
  have fu := Try.underlying34
  rw [show (10000 : Nat) = 9999 + 1 from rfl, Op.equalIn]
  simp only [Sem.run_bind, run_underlying Try.underlying56, Result.andThen_ok]
  go_simp
theorem eqPr_self (a b : Int) (w : World) : (Op.equalIn 10000 70 (.agg #[.int .i64 a, .int .i64 b]) (.agg #[.int .i64 a, .int .i64 b])).run Try.prog w = .ok true w := by
  have uu := Try.underlying3
  have ua := Try.isAgg3
  have uz := Try.sizeOf3
  rw [show (10000 : Nat) = 9999 + 1 from rfl, Op.equalIn]
  simp only [Sem.run_bind, run_underlying Try.underlying70, Result.andThen_ok]
  go_simp
attribute [local go_sem ↓] eqVe_self eqSt_self eqPr_self
/- orders -/
def okO (q : List Int) (n k : Nat) : Bool := match q[k]? with
  | some x => decide (0 ≤ x) && (decide (x < n) && !((q.take k).contains x))
  | none => false
def ordB (q : List Int) (n : Nat) : Bool := decide (q.length = n) && (List.range q.length).all fun k => okO q n k
theorem ordB_no {q : List Int} {n k : Nat} {x : Int} (hx : q[k]? = some x) (h : okO q n k = false) : ordB q n = false := by
  have e : ((List.range q.length).all fun k => okO q n k) = false := by
    cases e : ((List.range q.length).all fun k => okO q n k)
    · rfl
    · have := List.all_eq_true.1 e k (List.mem_range.2 (get_lt hx))
      rw [h] at this; cases this
  unfold ordB
  rw [e, Bool.and_false]
theorem ordB_yes {q : List Int} {n : Nat} (hn : q.length = n) (h : ∀ k, k < q.length → okO q n k = true) : ordB q n = true := by
  unfold ordB
  rw [decide_eq_true hn, Bool.true_and, List.all_eq_true]
  exact fun k hk => h k (List.mem_range.1 hk)
def usedC (q : List Int) (k N : Nat) : List Value := (List.range N).map fun (t : Nat) => Value.bool ((q.take k).contains (t : Int))
theorem usedC_len (q : List Int) (k N : Nat) : (usedC q k N).length = N := by simp [usedC]
theorem usedC_get (q : List Int) (k : Nat) {N t : Nat} (h : t < N) : (usedC q k N)[t]? = some (.bool ((q.take k).contains (t : Int))) := by
  unfold usedC; rw [List.getElem?_map, List.getElem?_range h]; rfl
theorem usedC_set {q : List Int} {k N t : Nat} (h : t < N) (hq : q[k]? = some (t : Int)) : (usedC q k N).set t (.bool true) = usedC q (k + 1) N := by
  have hlt := get_lt hq
  have e : q[k] = (t : Int) := by rw [List.getElem?_eq_getElem hlt] at hq; exact Option.some.inj hq
  apply List.ext_getElem?
  intro i
  by_cases hi : i < N
  · rw [usedC_get q (k + 1) hi, List.getElem?_set, usedC_len, List.take_succ_eq_append_getElem hlt, e]
    by_cases h2 : t = i
    · subst h2; rw [if_pos rfl, if_pos hi]; simp
    · rw [if_neg h2, usedC_get q k hi]
      have : ¬ ((i : Int) = (t : Int)) := by omega
      simp [this]
  · rw [List.getElem?_eq_none (by rw [List.length_set, usedC_len]; omega), List.getElem?_eq_none (by rw [usedC_len]; omega)]
theorem usedC_zero (q : List Int) (N : Nat) : usedC q 0 N = List.replicate N (.bool false) := by
  unfold usedC
  apply List.ext_getElem?
  intro i
  by_cases hi : i < N
  · rw [List.getElem?_map, List.getElem?_range hi, List.getElem?_replicate, if_pos hi]; simp
  · rw [List.getElem?_eq_none (by simp; omega), List.getElem?_eq_none (by simp; omega)]
theorem info_bool : (Try.prog.info? 4).map (fun i => (i.zero, i.size, i.bytes)) = some (some (.bool false), 1, 1) := by kernel_rfl
theorem make_bools (n : Nat) (h : n ≤ 1000) (W : World) : (Instr.makeSlice 89 (.int .i64 (n : Int)) (.int .i64 (n : Int))).run Try.prog W = .ok (.slice (some ⟨W.heap.size, 0, none⟩) n n) (W.alloc (.cells (madeCells #[.bool false] n) 4)) := by
  obtain ⟨i, hi, hz, hs, hb⟩ := info_parts info_bool
  have h1 := run_make (P := Try.prog) W 89 4 i _ Try.underlying89 hi hz .i64 .i64 (n : Int) (n : Int) (by omega) (by omega) (by rw [hb]; omega) (by omega)
  rw [hs, Int.toNat_natCast, Nat.mul_one] at h1
  exact h1
theorem made_bools (n : Nat) : (madeCells #[.bool false] n) = (List.replicate n (.bool false)).toArray := by
  apply Array.ext
  · simp [madeCells]
  · intro i h1 h2; simp [madeCells, Nat.mod_one]

set_option maxRecDepth 100000 in
set_option maxHeartbeats 4000000 in
theorem sameV_calls (A A' : Option Addr) (c c' : Nat) (l : List V6) (w : World) (h : Rd w 6 A l.length (l.flatMap v6)) (h' : Rd w 6 A' l.length (l.flatMap v6)) (hc : l.length ≤ c) (hc1 : c ≤ 9223372036854775807) (hc' : l.length ≤ c') (hc1' : c' ≤ 9223372036854775807) :
    Calls Try.prog 15 #[.slice A l.length c, .slice A' l.length c'] w fun e w' => e = .returned (.bool true) ∧ Below w.heap.size w w' := by
  have H1 := Lib.hid h
  have H2 := Lib.hid h'
  clear h h'
  go_enter Try.func15, Try.ntmps15
  go_wp2_with fail
  go_loopw [5] (fun i wr => ∃ k : Nat, k ≤ l.length ∧ i = .int .i64 k ∧ Hid (Below w.heap.size w wr)) (fun i _ => l.length - (intOf i).toNat)
  case atStart => exact ⟨0, by omega, rfl, Lib.hid (Below.refl _ _)⟩
  case round =>
    obtain ⟨k, hk, rfl, NN⟩ := hrel
    by_cases hlt : k < l.length
    · obtain ⟨x, hx⟩ := get_some hlt
      obtain ⟨b, off, e, hb, hc0⟩ := Rd.rec_ H1.out (Nat.le_refl _) v6_len hx
      obtain ⟨b', off', e', hb', hc0'⟩ := Rd.rec_ H2.out (Nat.le_refl _) v6_len hx
      subst e e'
      have c0 := (NN.out.cell (p := ⟨b, off + k * 6, none⟩) hb).trans (hc0 0 _ rfl)
      have d0 := (NN.out.cell (p := ⟨b', off' + k * 6, none⟩) hb').trans (hc0' 0 _ rfl)
      have c1 := (NN.out.cell (p := ⟨b, off + k * 6 + 1, none⟩) hb).trans (hc0 1 _ rfl)
      have d1 := (NN.out.cell (p := ⟨b', off' + k * 6 + 1, none⟩) hb').trans (hc0' 1 _ rfl)
      have c2 := (NN.out.cell (p := ⟨b, off + k * 6 + 2, none⟩) hb).trans (hc0 2 _ rfl)
      have d2 := (NN.out.cell (p := ⟨b', off' + k * 6 + 2, none⟩) hb').trans (hc0' 2 _ rfl)
      have c3 := (NN.out.cell (p := ⟨b, off + k * 6 + 3, none⟩) hb).trans (hc0 3 _ rfl)
      have d3 := (NN.out.cell (p := ⟨b', off' + k * 6 + 3, none⟩) hb').trans (hc0' 3 _ rfl)
      have c4 := (NN.out.cell (p := ⟨b, off + k * 6 + 4, none⟩) hb).trans (hc0 4 _ rfl)
      have d4 := (NN.out.cell (p := ⟨b', off' + k * 6 + 4, none⟩) hb').trans (hc0' 4 _ rfl)
      have c5 := (NN.out.cell (p := ⟨b, off + k * 6 + 5, none⟩) hb).trans (hc0 5 _ rfl)
      have d5 := (NN.out.cell (p := ⟨b', off' + k * 6 + 5, none⟩) hb').trans (hc0' 5 _ rfl)
      have hbr : b < wr.heap.size := Nat.lt_of_lt_of_le hb NN.out.size
      have hbr' : b' < wr.heap.size := Nat.lt_of_lt_of_le hb' NN.out.size
      have kk : k + 1 ≤ l.length := hlt
      have k1 : (k : Int) < (l.length : Int) := by omega
      clear hc0 hc0' hx hlt hb hb'
      go_wp2_with fail
      go_quiet (fail)
      replace NN := Lib.hid (below_drewN NN.out nq)
      clear c0 d0 c1 d1 c2 d2 c3 d3 c4 d4 c5 d5
      go_wp2_with fail
      go_roundw
      case rel => exact ⟨k + 1, kk, by go_num, NN⟩
      case measure => simp [intOf]; omega
    · obtain rfl : k = l.length := by omega
      go_wp2_with fail
      go_ret
      exact ⟨rfl, NN.out⟩
set_option maxRecDepth 100000 in
set_option maxHeartbeats 4000000 in
theorem sameP_calls (A A' : Option Addr) (c c' : Nat) (l : List (Nat × Nat)) (w : World) (h : Rd w 2 A l.length (l.flatMap pr2)) (h' : Rd w 2 A' l.length (l.flatMap pr2)) (hc : l.length ≤ c) (hc1 : c ≤ 9223372036854775807) (hc' : l.length ≤ c') (hc1' : c' ≤ 9223372036854775807) :
    Calls Try.prog 16 #[.slice A l.length c, .slice A' l.length c'] w fun e w' => e = .returned (.bool true) ∧ Below w.heap.size w w' := by
  have H1 := Lib.hid h
  have H2 := Lib.hid h'
  clear h h'
  go_enter Try.func16, Try.ntmps16
  go_wp2_with fail
  go_loopw [5] (fun i wr => ∃ k : Nat, k ≤ l.length ∧ i = .int .i64 k ∧ Hid (Below w.heap.size w wr)) (fun i _ => l.length - (intOf i).toNat)
  case atStart => exact ⟨0, by omega, rfl, Lib.hid (Below.refl _ _)⟩
  case round =>
    obtain ⟨k, hk, rfl, NN⟩ := hrel
    by_cases hlt : k < l.length
    · obtain ⟨x, hx⟩ := get_some hlt
      obtain ⟨b, off, e, hb, hc0⟩ := Rd.rec_ H1.out (Nat.le_refl _) pr2_len hx
      obtain ⟨b', off', e', hb', hc0'⟩ := Rd.rec_ H2.out (Nat.le_refl _) pr2_len hx
      subst e e'
      have c0 := (NN.out.cell (p := ⟨b, off + k * 2, none⟩) hb).trans (hc0 0 _ rfl)
      have d0 := (NN.out.cell (p := ⟨b', off' + k * 2, none⟩) hb').trans (hc0' 0 _ rfl)
      have c1 := (NN.out.cell (p := ⟨b, off + k * 2 + 1, none⟩) hb).trans (hc0 1 _ rfl)
      have d1 := (NN.out.cell (p := ⟨b', off' + k * 2 + 1, none⟩) hb').trans (hc0' 1 _ rfl)
      have hbr : b < wr.heap.size := Nat.lt_of_lt_of_le hb NN.out.size
      have hbr' : b' < wr.heap.size := Nat.lt_of_lt_of_le hb' NN.out.size
      have kk : k + 1 ≤ l.length := hlt
      have k1 : (k : Int) < (l.length : Int) := by omega
      clear hc0 hc0' hx hlt hb hb'
      go_wp2_with fail
      go_quiet (fail)
      replace NN := Lib.hid (below_drewN NN.out nq)
      clear c0 d0 c1 d1
      go_wp2_with fail
      go_roundw
      case rel => exact ⟨k + 1, kk, by go_num, NN⟩
      case measure => simp [intOf]; omega
    · obtain rfl : k = l.length := by omega
      go_wp2_with fail
      go_ret
      exact ⟨rfl, NN.out⟩
set_option maxRecDepth 100000 in
set_option maxHeartbeats 4000000 in
theorem sameS_calls (A A' : Option Addr) (c c' : Nat) (l : List St) (w : World) (h : Rd w 5 A l.length (l.flatMap st5)) (h' : Rd w 5 A' l.length (l.flatMap st5)) (hc : l.length ≤ c) (hc1 : c ≤ 9223372036854775807) (hc' : l.length ≤ c') (hc1' : c' ≤ 9223372036854775807) :
    Calls Try.prog 17 #[.slice A l.length c, .slice A' l.length c'] w fun e w' => e = .returned (.bool true) ∧ Below w.heap.size w w' := by
  have H1 := Lib.hid h
  have H2 := Lib.hid h'
  clear h h'
  go_enter Try.func17, Try.ntmps17
  go_wp2_with fail
  go_loopw [5] (fun i wr => ∃ k : Nat, k ≤ l.length ∧ i = .int .i64 k ∧ Hid (Below w.heap.size w wr)) (fun i _ => l.length - (intOf i).toNat)
  case atStart => exact ⟨0, by omega, rfl, Lib.hid (Below.refl _ _)⟩
  case round =>
    obtain ⟨k, hk, rfl, NN⟩ := hrel
    by_cases hlt : k < l.length
    · obtain ⟨x, hx⟩ := get_some hlt
      obtain ⟨b, off, e, hb, hc0⟩ := Rd.rec_ H1.out (Nat.le_refl _) st5_len hx
      obtain ⟨b', off', e', hb', hc0'⟩ := Rd.rec_ H2.out (Nat.le_refl _) st5_len hx
      subst e e'
      have c0 := (NN.out.cell (p := ⟨b, off + k * 5, none⟩) hb).trans (hc0 0 _ rfl)
      have d0 := (NN.out.cell (p := ⟨b', off' + k * 5, none⟩) hb').trans (hc0' 0 _ rfl)
      have c1 := (NN.out.cell (p := ⟨b, off + k * 5 + 1, none⟩) hb).trans (hc0 1 _ rfl)
      have d1 := (NN.out.cell (p := ⟨b', off' + k * 5 + 1, none⟩) hb').trans (hc0' 1 _ rfl)
      have c2 := (NN.out.cell (p := ⟨b, off + k * 5 + 2, none⟩) hb).trans (hc0 2 _ rfl)
      have d2 := (NN.out.cell (p := ⟨b', off' + k * 5 + 2, none⟩) hb').trans (hc0' 2 _ rfl)
      have c3 := (NN.out.cell (p := ⟨b, off + k * 5 + 3, none⟩) hb).trans (hc0 3 _ rfl)
      have d3 := (NN.out.cell (p := ⟨b', off' + k * 5 + 3, none⟩) hb').trans (hc0' 3 _ rfl)
      have c4 := (NN.out.cell (p := ⟨b, off + k * 5 + 4, none⟩) hb).trans (hc0 4 _ rfl)
      have d4 := (NN.out.cell (p := ⟨b', off' + k * 5 + 4, none⟩) hb').trans (hc0' 4 _ rfl)
      have hbr : b < wr.heap.size := Nat.lt_of_lt_of_le hb NN.out.size
      have hbr' : b' < wr.heap.size := Nat.lt_of_lt_of_le hb' NN.out.size
      have kk : k + 1 ≤ l.length := hlt
      have k1 : (k : Int) < (l.length : Int) := by omega
      clear hc0 hc0' hx hlt hb hb'
      go_wp2_with fail
      go_quiet (fail)
      replace NN := Lib.hid (below_drewN NN.out nq)
      clear c0 d0 c1 d1 c2 d2 c3 d3 c4 d4
      go_wp2_with fail
      go_roundw
      case rel => exact ⟨k + 1, kk, by go_num, NN⟩
      case measure => simp [intOf]; omega
    · obtain rfl : k = l.length := by omega
      go_wp2_with fail
      go_ret
      exact ⟨rfl, NN.out⟩
set_option maxRecDepth 100000 in
set_option maxHeartbeats 4000000 in
theorem ordered_calls (A : Option Addr) (c : Nat) (q : List Int) (n : Nat) (w : World) (h : Rd w 1 A q.length (lv q)) (hc : q.length ≤ c) (hc' : c ≤ 9223372036854775807) (hn : n ≤ 1000) :
    Calls Try.prog 23 #[.slice A q.length c, .int .i64 (n : Int)] w fun e w' => e = .returned (.bool (ordB q n)) ∧ Below w.heap.size w w' := by
  by_cases hl : q.length = n
  rotate_left
  · have FV : Hid (ordB q n = false) := Lib.hid (by unfold ordB; rw [decide_eq_false hl]; rfl)
    have q1 : ((q.length : Int) != (n : Int)) = true := by rw [bne_iff_ne]; omega
    generalize ordB q n = v at *
    clear h hl
    go_enter Try.func23, Try.ntmps23
    go_wp2_with fail
    go_ret
    exact ⟨ret_bool FV.out.symm, Below.refl _ _⟩
  have HQ := Lib.hid h
  have NO := Lib.hid (fun (k : Nat) (x : Int) (hx : q[k]? = some x) (h : okO q n k = false) => ordB_no hx h)
  have YES := Lib.hid (fun (h : ∀ k, k < q.length → okO q n k = true) => ordB_yes hl h)
  have HL := Lib.hid hl
  have q1 : ((q.length : Int) != (n : Int)) = false := by rw [bne_eq_false_iff_eq]; omega
  have MK := fun W => make_bools n hn W
  have NN := Lib.hid (Below.refl w.heap.size w)
  generalize ordB q n = v at *
  clear h hl
  go_enter Try.func23, Try.ntmps23
  go_wp2_with fail
  clear MK
  have UB : Hid ((w.alloc (.cells (madeCells #[.bool false] n) 4)).heap[w.heap.size]? = some (.cells (madeCells #[.bool false] n) 4)) := Lib.hid (blk_new w _)
  replace NN := Lib.hid (Bal NN.out (.cells (madeCells #[.bool false] n) 4))
  generalize w.alloc (.cells (madeCells #[.bool false] n) 4) = W1 at *
  rw [made_bools, ← usedC_zero q n] at UB
  go_loopw [6] (fun i wr => ∃ k : Nat, k ≤ n ∧ i = .int .i64 k ∧ Hid (Below w.heap.size w wr) ∧ Hid (wr.heap[w.heap.size]? = some (.cells (usedC q k n).toArray 4)) ∧ Hid (∀ t, t < k → okO q n t = true)) (fun i _ => n - (intOf i).toNat)
  case atStart => exact ⟨0, by omega, rfl, NN, UB, Lib.hid (by omega)⟩
  case round =>
    clear NN UB W1
    obtain ⟨k, hk, rfl, NN, UB, GD⟩ := hrel
    by_cases hlt : k < n
    · obtain ⟨x, hx⟩ := get_some (show k < q.length by rw [HL.out]; exact hlt)
      obtain ⟨b, off, e, hb, hc0⟩ := HQ.out.2 (by rw [HL.out]; omega)
      subst e
      have cq := (NN.out.cell (p := ⟨b, off + k, none⟩) hb).trans (hc0 k _ (lv_get hx))
      have hbr : b < wr.heap.size := Nat.lt_of_lt_of_le hb NN.out.size
      have HX := Lib.hid hx
      have kk : k + 1 ≤ n := hlt
      have k1 : (k : Int) < (q.length : Int) := by rw [HL.out]; omega
      have hc3 : x < 0 ∨ (0 ≤ x ∧ (n : Int) ≤ x) ∨ (0 ≤ x ∧ x < n) := by omega
      clear hc0 hx hb
      rcases hc3 with h | ⟨h, h1⟩ | ⟨h, h1⟩
      · have FV := Lib.hid (NO.out k x HX.out (by unfold okO; rw [HX.out]; simp only; rw [decide_eq_false (by omega : ¬ 0 ≤ x)]; rfl))
        have d1 : decide (x < 0) = true := decide_eq_true h
        clear NO YES GD HX
        go_wp2_with fail
        go_ret
        exact ⟨ret_bool FV.out.symm, NN.out⟩
      · have FV := Lib.hid (NO.out k x HX.out (by unfold okO; rw [HX.out]; simp only; rw [decide_eq_false (by omega : ¬ x < (n : Int))]; simp))
        have d1 : decide (x < 0) = false := decide_eq_false (by omega)
        have d2 : decide ((n : Int) ≤ x) = true := decide_eq_true h1
        clear NO YES GD HX
        go_wp2_with fail
        go_ret
        exact ⟨ret_bool FV.out.symm, NN.out⟩
      · obtain ⟨t, rfl⟩ := Int.eq_ofNat_of_zero_le h
        have tn : t < n := by omega
        have cu := blk_cell UB.out t _ (by rw [List.getElem?_toArray]; exact usedC_get q k tn)
        have lu := blk_lt UB.out
        have fu := blk_frozen UB.out t
        have d1 : decide ((t : Int) < 0) = false := decide_eq_false (by omega)
        have d2 : decide ((n : Int) ≤ (t : Int)) = false := decide_eq_false (by omega)
        have kt : (0 : Int) ≤ (t : Int) := h
        have d3 : (n ≤ t) = False := by simp; omega
        have d4 : decide (n ≤ t) = false := decide_eq_false (by omega)
        have kt2 : (t : Int) < (n : Int) := h1
        have TN := Lib.hid tn
        clear h h1
        cases hu : (q.take k).contains (t : Int)
        · have OK : Hid (okO q n k = true) := Lib.hid (by unfold okO; rw [HX.out]; simp only; rw [hu, decide_eq_true kt, decide_eq_true kt2]; rfl)
          rw [hu] at cu
          have HU := Lib.hid hu
          clear hu NO YES
          go_wp2_with fail
          go_roundw
          case rel => exact ⟨k + 1, kk, by go_num, Lib.hid (Bset1 NN.out (Nat.le_refl _) t (.bool true)), Lib.hid (by have h := blk_set UB.out t (.bool true); rw [List.setIfInBounds_toArray, usedC_set TN.out HX.out] at h; exact h), Lib.hid (fun u hu => by
            by_cases e : u = k
            · subst e; exact OK.out
            · exact GD.out u (by omega))⟩
          case measure => simp [intOf]; omega
        · have FV := Lib.hid (NO.out k _ HX.out (by unfold okO; rw [HX.out]; simp only; rw [hu]; simp))
          rw [hu] at cu
          clear NO YES GD HX hu
          go_wp2_with fail
          go_ret
          exact ⟨ret_bool FV.out.symm, NN.out⟩
    · obtain rfl : k = n := by omega
      have FV := Lib.hid (YES.out (fun t ht => GD.out t (by rw [← HL.out]; exact ht)))
      clear NO YES GD
      go_wp2_with fail
      go_ret
      exact ⟨ret_bool FV.out.symm, NN.out⟩
end Go.Proofs.Ytfangplfbbgphaa

namespace Go.Proofs.Ytfangplfbbgphaa
open Go.ChangeShapes Go.WideShapes Go.ChangeAt Go.RowKit
set_option linter.unusedVariables false
set_option linter.unusedSimpArgs false
attribute [local go_sem ↓] Go.wp_at_zero Go.wp_at_succ
def zS : St := ⟨⟨#[]⟩, 0, 0, 0, 0⟩
theorem infoS : (Try.prog.info? 56).map (fun i => (i.zero, i.size, i.bytes)) = some (some (.agg #[.string ⟨#[]⟩, .int .i64 0, .int .i64 0, .int .i64 0, .int .i64 0]), 5, 48) := by kernel_rfl
theorem infoSs : (Try.prog.info? 56).map (·.size) = some 5 := by kernel_rfl
theorem und_sites : Try.prog.underlying 24 = some (.slice 56) := by kernel_rfl
theorem made_sites {n : Nat} (h : n ≤ 8) : madeCells #[.string ⟨#[]⟩, .int .i64 0, .int .i64 0, .int .i64 0, .int .i64 0] (n * 5) = ((List.replicate n zS).flatMap st5).toArray := by
  have hn : n = 0 ∨ n = 1 ∨ n = 2 ∨ n = 3 ∨ n = 4 ∨ n = 5 ∨ n = 6 ∨ n = 7 ∨ n = 8 := by omega
  rcases hn with rfl | rfl | rfl | rfl | rfl | rfl | rfl | rfl | rfl
  all_goals (show madeCells _ _ = _; kernel_rfl)
theorem make_sites {n : Nat} (h : n ≤ 8) (W : World) : (Instr.makeSlice 24 (.int .i64 (n : Int)) (.int .i64 (n : Int))).run Try.prog W = .ok (.slice (some ⟨W.heap.size, 0, none⟩) n n) (W.alloc (.cells ((List.replicate n zS).flatMap st5).toArray 56)) := by
  obtain ⟨i, hi, hz, hs, hb⟩ := info_parts infoS
  have h1 := run_make (P := Try.prog) W 24 56 i _ und_sites hi hz .i64 .i64 (n : Int) (n : Int) (by omega) (by omega) (by rw [hb]; omega) (by omega)
  rw [hs, Int.toNat_natCast] at h1
  rw [h1]
  unfold Value.cells
  simp only
  rw [made_sites h]
abbrev OSt (B : Nat) (w : World) (v : Value) (l : List St) : Prop := w.ownsRow B 56 5 v l.length (l.flatMap st5)
theorem ost_nil (B : Nat) (w : World) : w.ownsRow B 56 5 (.slice none 0 0) 0 [] := World.ownsRow_nil _ _ _ _
def ordE (A B : Int) (l : List St) (q : List Int) : Int := if plE A B l ≠ 0 then plE A B l else if ordB q l.length then 0 else 2
def ordL (l : List St) (q : List Int) : List St := q.map fun x => l.getD x.toNat zS
theorem ordB_at {q : List Int} {n k : Nat} {x : Int} (h : ordB q n = true) (hx : q[k]? = some x) : q.length = n ∧ 0 ≤ x ∧ x < n := by
  unfold ordB at h
  simp only [Bool.and_eq_true, decide_eq_true_eq, List.all_eq_true, List.mem_range] at h
  have h1 := h.2 k (get_lt hx)
  unfold okO at h1
  rw [hx] at h1
  simp only [Bool.and_eq_true, decide_eq_true_eq] at h1
  exact ⟨h.1, h1.1, h1.2.1⟩
theorem ordL_take {l : List St} {q : List Int} {k t : Nat} {s : St} (hq : q[k]? = some (t : Int)) (hs : l[t]? = some s) : ordL l (q.take (k + 1)) = ordL l (q.take k) ++ [s] := by
  have hlt := get_lt hq
  have e : q[k] = (t : Int) := by rw [List.getElem?_eq_getElem hlt] at hq; exact Option.some.inj hq
  unfold ordL
  rw [List.take_succ_eq_append_getElem hlt, List.map_append, e]
  simp [List.getD_eq_getElem?_getD, hs]
def rowsS (l : List St) (q : List Int) (n k : Nat) : List St := ordL l (q.take k) ++ List.replicate (n - k) zS
theorem rowsS_len {l : List St} {q : List Int} {n k : Nat} (h : k ≤ n) (hq : q.length = n) : (rowsS l q n k).length = n := by
  unfold rowsS ordL
  simp; omega
theorem rowsS_set {l : List St} {q : List Int} {n k t : Nat} {s : St} (hn : q.length = n) (hq : q[k]? = some (t : Int)) (hs : l[t]? = some s) : (rowsS l q n k).set k s = rowsS l q n (k + 1) := by
  have hlt := get_lt hq
  unfold rowsS
  obtain ⟨m, hm⟩ : ∃ m, n - k = m + 1 := ⟨n - k - 1, by omega⟩
  have hl : (ordL l (q.take k)).length = k := by unfold ordL; simp; omega
  rw [hm, show n - (k + 1) = m by omega, List.replicate_succ, List.set_append_right _ _ (by omega), hl, Nat.sub_self, List.set_cons_zero, ordL_take hq hs, List.append_assoc]
  rfl
theorem rowsS_zero (l : List St) (q : List Int) (n : Nat) : rowsS l q n 0 = List.replicate n zS := by unfold rowsS ordL; simp
theorem rowsS_all {l : List St} {q : List Int} {n : Nat} (hn : q.length = n) : rowsS l q n n = ordL l q := by unfold rowsS; rw [← hn]; simp

set_option maxRecDepth 100000 in
set_option maxHeartbeats 8000000 in
theorem rorder_calls {A B : Int} {a : Option Addr} {c : Nat} {l : List St} {w : World} {aq : Option Addr} {cq : Nat} {q : List Int} (hl : RSt w a l) (hc : l.length ≤ c) (hc' : c ≤ 9223372036854775807) (hn : ∀ x ∈ l, x.nm.size ≤ 9223372036854775807) (hq : Rd w 1 aq q.length (lv q)) (hcq : q.length ≤ cq) (hcq' : cq ≤ 9223372036854775807) : Calls Try.prog 12 #[Gv A B, .slice a l.length c, .slice aq q.length cq] w fun e w' =>
    ∃ v, e = .returned (.tuple #[v, .int .i64 (ordE A B l q)]) ∧ Below w.heap.size w w' ∧ (ordE A B l q ≠ 0 → v = .slice none 0 0) ∧ (ordE A B l q = 0 → OSt w.heap.size w' v (ordL l q)) := by
  have NN := Lib.hid (Below.refl w.heap.size w)
  have CC := Lib.hid (fun (W : World) (hb : Below w.heap.size w W) => rcheck_calls (A := A) (B := B) (w := W) (hl.next hb) hc hc' hn)
  have OE : Hid (ordE A B l q = if plE A B l ≠ 0 then plE A B l else if ordB q l.length then 0 else 2) := Lib.hid rfl
  have L8 := Lib.hid (fun (h : plE A B l = 0) => (stsE_ok (plE_ok h).2.1).1)
  obtain ⟨oe, hoe⟩ : ∃ oe, ordE A B l q = oe := ⟨_, rfl⟩
  obtain ⟨pe, hpe⟩ : ∃ pe, plE A B l = pe := ⟨_, rfl⟩
  simp only [hpe, hoe] at CC OE L8 ⊢
  have HL := Lib.hid hl
  have HQ := Lib.hid hq
  clear hl hn hpe hoe hq
  go_enter Try.func12, Try.ntmps12
  go_wp2_with fail
  have G : Hid ((w.alloc (.cells #[.int .i64 A, .int .i64 B] 23)).heap[w.heap.size]? = some (.cells #[.int .i64 A, .int .i64 B] 23)) := Lib.hid (blk_new w _)
  replace NN : Hid (Below w.heap.size w (w.alloc (.cells #[.int .i64 A, .int .i64 B] 23))) := Lib.hid (Bal NN.out _)
  generalize (w.alloc (.cells #[.int .i64 A, .int .i64 B] 23)) = W1 at *
  refine (CC.out _ NN.out).mono ?_
  rintro e w2 ⟨rfl, hb⟩
  replace NN := Lib.hid (Bgo NN.out hb)
  replace G := Lib.hid (blk_next hb G.out)
  clear hb
  by_cases he : pe ≠ 0
  · have q1 : (pe != 0) = true := by simpa using he
    have HE : Hid (oe = pe) := Lib.hid (by rw [OE.out, if_pos he])
    have HP := Lib.hid he
    clear he OE L8
    have c_G_0 := blk_cell G.out 0 _ rfl
    have f_G_0 := blk_frozen G.out 0
    have c_G_1 := blk_cell G.out 1 _ rfl
    have f_G_1 := blk_frozen G.out 1
    have l_G := blk_lt G.out
    go_wp2_with fail
    clear c_G_0 f_G_0 c_G_1 f_G_1 l_G
    refine (CC.out _ NN.out).mono ?_
    rintro e w3 ⟨rfl, hb⟩
    replace NN := Lib.hid (Bgo NN.out hb)
    replace G := Lib.hid (blk_next hb G.out)
    clear hb
    go_wp2_with fail
    refine bodyPost_ret (v := .tuple #[.slice none 0 0, .int .i64 pe]) (by simp [results, Try.results12, go_sem]) rfl ⟨_, by rw [HE.out], NN.out, fun _ => rfl, fun h => absurd (HE.out.symm.trans h) HP.out⟩
  have he0 : pe = 0 := by omega
  subst he0
  clear he CC
  rw [if_neg (by simp)] at OE
  have l8 := L8.out rfl
  have CO := Lib.hid (fun (W : World) (hb : Below w.heap.size w W) => ordered_calls aq cq q l.length W (HQ.out.next hb) hcq hcq' (by omega))
  have H8 := Lib.hid l8
  clear L8 l8
  go_wp2_with fail
  refine (CO.out _ NN.out).mono ?_
  rintro e w4 ⟨rfl, hb⟩
  replace NN := Lib.hid (Bgo NN.out hb)
  replace G := Lib.hid (blk_next hb G.out)
  clear hb
  cases ho : ordB q l.length
  · have HE : Hid (oe = 2) := Lib.hid (by rw [OE.out, ho]; rfl)
    clear OE ho
    go_wp2_with fail
    refine bodyPost_ret (v := .tuple #[.slice none 0 0, .int .i64 2]) (by simp [results, Try.results12, go_sem]) rfl ⟨_, by rw [HE.out], NN.out, fun _ => rfl, fun h => absurd (HE.out.symm.trans h) (by decide)⟩
  · have HE : Hid (oe = 0) := Lib.hid (by rw [OE.out, ho]; rfl)
    have HO := Lib.hid ho
    clear OE ho CO
    obtain ⟨i0, hi, hz, hs0, hb0⟩ := info_parts infoS
    have HI := Lib.hid (And.intro hi (And.intro hz (And.intro hs0 hb0)))
    clear hi hz hs0 hb0
    go_wp2_with fail
    have OV : Hid (OSt (w.heap.size + 1) w4 (.slice none 0 0) (ordL l (q.take 0))) := Lib.hid (ost_nil _ _)
    have LB : Hid (w.heap.size + 1 ≤ w4.heap.size) := Lib.hid (blk_lt G.out)
    go_loopw [8, 9] (fun v i wr => ∃ k : Nat, k ≤ q.length ∧ i = .int .i64 k ∧ Hid (Below w.heap.size w wr) ∧ Hid (w.heap.size + 1 ≤ wr.heap.size) ∧ Hid (OSt (w.heap.size + 1) wr v (ordL l (q.take k)))) (fun v i _ => q.length - (intOf i).toNat)
    case atStart => exact ⟨0, by omega, rfl, NN, LB, OV⟩
    case round =>
      clear NN G OV LB
      obtain ⟨k, hk, rfl, NN, LB, OV⟩ := hrel
      by_cases hlt : k < q.length
      · obtain ⟨x, hx⟩ := get_some hlt
        obtain ⟨hlen, h0, h1⟩ := ordB_at HO.out hx
        obtain ⟨t, rfl⟩ := Int.eq_ofNat_of_zero_le h0
        obtain ⟨s, hs⟩ := get_some (show t < l.length by omega)
        obtain ⟨bq, offq, eq, hbq, hcq0⟩ := HQ.out.2 (by omega)
        subst eq
        have cq0 := (NN.out.cell (p := ⟨bq, offq + k, none⟩) hbq).trans (hcq0 k _ (lv_get hx))
        have hbrq : bq < wr.heap.size := Nat.lt_of_lt_of_le hbq NN.out.size
        obtain ⟨b, off, e, hb, hc0⟩ := Rd.rec_ HL.out (Nat.le_refl _) st5_len hs
        subst e
        have c0 := (NN.out.cell (p := ⟨b, off + t * 5, none⟩) hb).trans (hc0 0 _ rfl)
        have c1 := (NN.out.cell (p := ⟨b, off + t * 5 + 1, none⟩) hb).trans (hc0 1 _ rfl)
        have c2 := (NN.out.cell (p := ⟨b, off + t * 5 + 2, none⟩) hb).trans (hc0 2 _ rfl)
        have c3 := (NN.out.cell (p := ⟨b, off + t * 5 + 3, none⟩) hb).trans (hc0 3 _ rfl)
        have c4 := (NN.out.cell (p := ⟨b, off + t * 5 + 4, none⟩) hb).trans (hc0 4 _ rfl)
        have hbr : b < wr.heap.size := Nat.lt_of_lt_of_le hb NN.out.size
        have OT := Lib.hid (ordL_take hx hs)
        have kk : k + 1 ≤ q.length := hlt
        have k1 : (0 : Int) ≤ (t : Int) := h0
        have k2 : (t : Int) < (l.length : Int) := by omega
        have k3 : t < l.length := by omega
        obtain ⟨A0, c0', hv0, hn0, hc1, -⟩ := Rd.of_own OV.out
        have kl : (ordL l (q.take k)).length = k := by unfold ordL; simp; omega
        rw [kl] at hv0 hn0
        subst hv0
        have H63 : Hid ((ordL l (q.take k)).length + 1 ≤ maxLen) := Lib.hid (by have := H8.out; rw [kl]; simp [maxLen]; omega)
        have H64 : Hid (((ordL l (q.take k)).length + 1) * 48 ≤ 140737488355328) := Lib.hid (by have := H8.out; rw [kl]; omega)
        clear hx hs hc0 hcq0 hb hbq hn0 hc1 kl hlen h0 h1
        have H5 : Hid (w.heap.size + 1 ≤ (wr.alloc (.cells #[.string s.nm, .int .i64 s.sn, .int .i64 s.sd, .int .i64 s.tn, .int .i64 s.td] 56)).heap.size) := Lib.hid (by rw [World.size_alloc]; have := LB.out; omega)
        go_wp2_with (at_builtin; refine wpList_append_rd _ rfl _ _ 24 rfl (w.heap.size + 1) 56 i0 (.agg #[.string ⟨#[]⟩, .int .i64 0, .int .i64 0, .int .i64 0, .int .i64 0]) 5 48 und_sites HI.out.1 HI.out.2.1 HI.out.2.2.1 HI.out.2.2.2 rfl (by decide) (.slice A0 k c0') _ _ rfl (World.ownsRow.alloc OV.out _) (some ⟨wr.heap.size, 0, none⟩) 1 1 (st5 s) rfl (Rd.blk (T := 56) (blk_new wr _) rfl) (st5_one s) H63.out H64.out H5.out ?_; intro v9 w9 o9 g9 hat9)
        have BG := Lib.hid (own_grown (World.ownsRow.alloc OV.out _) g9 H5.out)
        have O9 : Hid (OSt (w.heap.size + 1) w9 v9 (ordL l (q.take (k + 1)))) := Lib.hid (by unfold OSt; rw [OT.out, List.flatMap_append, List.length_append]; simpa using o9)
        have N9 := Lib.hid ((Bal NN.out _).trans (BG.out.mono (Nat.le_succ _)))
        have L9 := Lib.hid (Nat.le_trans H5.out BG.out.size)
        go_roundw
        case rel => exact ⟨k + 1, kk, by go_num, N9, L9, O9⟩
        case measure => simp [intOf]; omega
      · obtain rfl : k = q.length := by omega
        rw [List.take_length] at OV
        go_wp2_with fail
        refine bodyPost_ret (by simp [results, Try.results12, go_sem]; rfl) rfl ⟨_, by rw [HE.out], NN.out, fun h => absurd HE.out h, fun _ => own_mono OV.out (Nat.le_succ _)⟩
set_option maxRecDepth 100000 in
set_option maxHeartbeats 8000000 in
theorem aorder_calls {A B : Int} {a : Option Addr} {c : Nat} {l : List St} {w : World} {aq : Option Addr} {cq : Nat} {q : List Int} (hl : RSt w a l) (hc : l.length ≤ c) (hc' : c ≤ 9223372036854775807) (hn : ∀ x ∈ l, x.nm.size ≤ 9223372036854775807) (hq : Rd w 1 aq q.length (lv q)) (hcq : q.length ≤ cq) (hcq' : cq ≤ 9223372036854775807) : Calls Try.prog 11 #[Gv A B, .slice a l.length c, .slice aq q.length cq] w fun e w' =>
    ∃ v, e = .returned (.tuple #[v, .int .i64 (ordE A B l q)]) ∧ Below w.heap.size w w' ∧ (ordE A B l q ≠ 0 → v = .slice none 0 0) ∧
      (ordE A B l q = 0 → ∃ g, v = .slice (some ⟨g, 0, none⟩) l.length l.length ∧ w.heap.size ≤ g ∧ w'.heap[g]? = some (.cells ((ordL l q).flatMap st5).toArray 56)) := by
  have NN := Lib.hid (Below.refl w.heap.size w)
  have CC := Lib.hid (fun (W : World) (hb : Below w.heap.size w W) => acheck_calls (A := A) (B := B) (w := W) (hl.next hb) hc hc' hn)
  have OE : Hid (ordE A B l q = if plE A B l ≠ 0 then plE A B l else if ordB q l.length then 0 else 2) := Lib.hid rfl
  have L8 := Lib.hid (fun (h : plE A B l = 0) => (stsE_ok (plE_ok h).2.1).1)
  obtain ⟨oe, hoe⟩ : ∃ oe, ordE A B l q = oe := ⟨_, rfl⟩
  obtain ⟨pe, hpe⟩ : ∃ pe, plE A B l = pe := ⟨_, rfl⟩
  simp only [hpe, hoe] at CC OE L8 ⊢
  have HL := Lib.hid hl
  have HQ := Lib.hid hq
  clear hl hn hpe hoe hq
  go_enter Try.func11, Try.ntmps11
  go_wp2_with fail
  have G : Hid ((w.alloc (.cells #[.int .i64 A, .int .i64 B] 23)).heap[w.heap.size]? = some (.cells #[.int .i64 A, .int .i64 B] 23)) := Lib.hid (blk_new w _)
  replace NN : Hid (Below w.heap.size w (w.alloc (.cells #[.int .i64 A, .int .i64 B] 23))) := Lib.hid (Bal NN.out _)
  generalize (w.alloc (.cells #[.int .i64 A, .int .i64 B] 23)) = W1 at *
  refine (CC.out _ NN.out).mono ?_
  rintro e w2 ⟨rfl, hb⟩
  replace NN := Lib.hid (Bgo NN.out hb)
  replace G := Lib.hid (blk_next hb G.out)
  clear hb
  by_cases he : pe ≠ 0
  · have q1 : (pe != 0) = true := by simpa using he
    have HE : Hid (oe = pe) := Lib.hid (by rw [OE.out, if_pos he])
    have HP := Lib.hid he
    clear he OE L8 CC
    go_wp2_with fail
    refine bodyPost_ret (v := .tuple #[.slice none 0 0, .int .i64 pe]) (by simp [results, Try.results11, go_sem]) rfl ⟨_, by rw [HE.out], NN.out, fun _ => rfl, fun h => absurd (HE.out.symm.trans h) HP.out⟩
  have he0 : pe = 0 := by omega
  subst he0
  clear he CC
  rw [if_neg (by simp)] at OE
  have l8 := L8.out rfl
  have H8 := Lib.hid l8
  by_cases hlen : q.length = l.length
  rotate_left
  · have HE : Hid (oe = 2) := Lib.hid (by rw [OE.out, show ordB q l.length = false by unfold ordB; rw [decide_eq_false hlen]; rfl]; rfl)
    have q1 : ((q.length : Int) != (l.length : Int)) = true := by rw [bne_iff_ne]; omega
    clear OE L8 hlen l8
    go_wp2_with fail
    refine bodyPost_ret (v := .tuple #[.slice none 0 0, .int .i64 2]) (by simp [results, Try.results11, go_sem]) rfl ⟨_, by rw [HE.out], NN.out, fun _ => rfl, fun h => absurd (HE.out.symm.trans h) (by decide)⟩
  have q1 : ((q.length : Int) != (l.length : Int)) = false := by rw [bne_eq_false_iff_eq]; omega
  have HLN := Lib.hid hlen
  have MK := fun W => make_sites l8 W
  have NO := Lib.hid (fun (k : Nat) (x : Int) (hx : q[k]? = some x) (h : okO q l.length k = false) => (show oe = 2 by rw [OE.out, ordB_no hx h]; rfl))
  have YES := Lib.hid (fun (h : ∀ k, k < q.length → okO q l.length k = true) => (show oe = 0 by rw [OE.out, ordB_yes hlen h]; rfl))
  clear OE L8 hlen l8
  go_wp2_with fail
  have HB := Lib.hid (show Below w2.heap.size w2 ((w2.alloc (.cells #[.bool false, .bool false, .bool false, .bool false, .bool false, .bool false, .bool false, .bool false] 71)).alloc (.cells ((List.replicate l.length zS).flatMap st5).toArray 56)) from Bal (Bal (Below.refl _ _) _) _)
  have UB : Hid (((w2.alloc (.cells #[.bool false, .bool false, .bool false, .bool false, .bool false, .bool false, .bool false, .bool false] 71)).alloc (.cells ((List.replicate l.length zS).flatMap st5).toArray 56)).heap[w2.heap.size]? = some (.cells #[.bool false, .bool false, .bool false, .bool false, .bool false, .bool false, .bool false, .bool false] 71)) := Lib.hid (blk_alloc (blk_new w2 _) _)
  have RB : Hid (((w2.alloc (.cells #[.bool false, .bool false, .bool false, .bool false, .bool false, .bool false, .bool false, .bool false] 71)).alloc (.cells ((List.replicate l.length zS).flatMap st5).toArray 56)).heap[w2.heap.size + 1]? = some (.cells ((List.replicate l.length zS).flatMap st5).toArray 56)) := Lib.hid (blk_at _ (by simp))
  have LU : Hid (w.heap.size ≤ w2.heap.size) := Lib.hid NN.out.size
  replace NN := Lib.hid (Bgo NN.out HB.out)
  replace G := Lib.hid (blk_next HB.out G.out)
  clear HB MK
  generalize ((w2.alloc (.cells #[.bool false, .bool false, .bool false, .bool false, .bool false, .bool false, .bool false, .bool false] 71)).alloc (.cells ((List.replicate l.length zS).flatMap st5).toArray 56)) = W0 at *
  generalize w2.heap.size = gU at *
  rw [show (#[.bool false, .bool false, .bool false, .bool false, .bool false, .bool false, .bool false, .bool false] : Array Value) = (usedC q 0 8).toArray by rw [usedC_zero]; rfl] at UB
  rw [← rowsS_zero l q l.length] at RB
  go_loopw [29] (fun i wr => ∃ k : Nat, k ≤ q.length ∧ i = .int .i64 k ∧ Hid (Below w.heap.size w wr) ∧ Hid (wr.heap[gU]? = some (.cells (usedC q k 8).toArray 71)) ∧ Hid (wr.heap[gU + 1]? = some (.cells ((rowsS l q l.length k).flatMap st5).toArray 56)) ∧ Hid (∀ t, t < k → okO q l.length t = true)) (fun i _ => q.length - (intOf i).toNat)
  case atStart => exact ⟨0, by omega, rfl, NN, UB, RB, Lib.hid (by omega)⟩
  case round =>
    clear NN G UB RB
    obtain ⟨k, hk, rfl, NN, UB, RB, GD⟩ := hrel
    by_cases hlt : k < q.length
    · obtain ⟨x, hx⟩ := get_some hlt
      obtain ⟨b, off, e, hb, hc0⟩ := HQ.out.2 (by omega)
      subst e
      have cq := (NN.out.cell (p := ⟨b, off + k, none⟩) hb).trans (hc0 k _ (lv_get hx))
      have hbr : b < wr.heap.size := Nat.lt_of_lt_of_le hb NN.out.size
      have HX := Lib.hid hx
      have kk : k + 1 ≤ q.length := hlt
      have hc3 : x < 0 ∨ (0 ≤ x ∧ (l.length : Int) ≤ x) ∨ (0 ≤ x ∧ x < l.length) := by omega
      clear hc0 hx hb
      rcases hc3 with h | ⟨h, h1⟩ | ⟨h, h1⟩
      · have HE := Lib.hid (NO.out k x HX.out (by unfold okO; rw [HX.out]; simp only; rw [decide_eq_false (by omega : ¬ 0 ≤ x)]; rfl))
        have d1 : decide (x < 0) = true := decide_eq_true h
        clear NO YES GD HX
        go_wp2_with fail
        refine bodyPost_ret (v := .tuple #[.slice none 0 0, .int .i64 2]) (by simp [results, Try.results11, go_sem]) rfl ⟨_, by rw [HE.out], NN.out, fun _ => rfl, fun h => absurd (HE.out.symm.trans h) (by decide)⟩
      · have HE := Lib.hid (NO.out k x HX.out (by unfold okO; rw [HX.out]; simp only; rw [decide_eq_false (by omega : ¬ x < (l.length : Int))]; simp))
        have d1 : decide (x < 0) = false := decide_eq_false (by omega)
        have d2 : decide ((l.length : Int) ≤ x) = true := decide_eq_true h1
        clear NO YES GD HX
        go_wp2_with fail
        refine bodyPost_ret (v := .tuple #[.slice none 0 0, .int .i64 2]) (by simp [results, Try.results11, go_sem]) rfl ⟨_, by rw [HE.out], NN.out, fun _ => rfl, fun h => absurd (HE.out.symm.trans h) (by decide)⟩
      · obtain ⟨t, rfl⟩ := Int.eq_ofNat_of_zero_le h
        have tn : t < l.length := by omega
        have t8 : t < 8 := by have := H8.out; omega
        have cu := blk_cell UB.out t _ (by rw [List.getElem?_toArray]; exact usedC_get q k t8)
        have lu := blk_lt UB.out
        have fu := blk_frozen UB.out t
        have d1 : decide ((t : Int) < 0) = false := decide_eq_false (by omega)
        have d2 : decide ((l.length : Int) ≤ (t : Int)) = false := decide_eq_false (by omega)
        have d3 : (l.length ≤ t) = False := by simp; omega
        have d4 : decide (l.length ≤ t) = false := decide_eq_false (by omega)
        have kt : (0 : Int) ≤ (t : Int) := h
        have kt2 : (t : Int) < (l.length : Int) := h1
        have T8 := Lib.hid t8
        have TN := Lib.hid tn
        clear h h1
        cases hu : (q.take k).contains (t : Int)
        · have OK : Hid (okO q l.length k = true) := Lib.hid (by unfold okO; rw [HX.out]; simp only; rw [hu, decide_eq_true kt, decide_eq_true kt2]; rfl)
          rw [hu] at cu
          clear hu NO YES
          obtain ⟨s, hs⟩ := get_some tn
          obtain ⟨b1, off1, e, hb1, hc1⟩ := Rd.rec_ HL.out (Nat.le_refl _) st5_len hs
          subst e
          have c0 := (NN.out.cell (p := ⟨b1, off1 + t * 5, none⟩) hb1).trans (hc1 0 _ rfl)
          have c1 := (NN.out.cell (p := ⟨b1, off1 + t * 5 + 1, none⟩) hb1).trans (hc1 1 _ rfl)
          have c2 := (NN.out.cell (p := ⟨b1, off1 + t * 5 + 2, none⟩) hb1).trans (hc1 2 _ rfl)
          have c3 := (NN.out.cell (p := ⟨b1, off1 + t * 5 + 3, none⟩) hb1).trans (hc1 3 _ rfl)
          have c4 := (NN.out.cell (p := ⟨b1, off1 + t * 5 + 4, none⟩) hb1).trans (hc1 4 _ rfl)
          have hbr1 : b1 < wr.heap.size := Nat.lt_of_lt_of_le hb1 NN.out.size
          have HB1 := Lib.hid hb1
          have HS := Lib.hid hs
          have n1 : ¬ b1 = gU := by have := LU.out; omega
          have n2 : ¬ gU = b1 := by have := LU.out; omega
          have HK : Hid (k < (rowsS l q l.length k).length) := Lib.hid (by rw [rowsS_len (by have := HLN.out; omega) HLN.out, ← HLN.out]; exact hlt)
          have kq : k < l.length := by have := HLN.out; omega
          have lr := blk_lt RB.out
          clear hc1 hs hb1
          have R1 : Hid ((wr.setCell ⟨gU, t, none⟩ (.bool true)).heap[gU + 1]? = some (.cells ((rowsS l q l.length k).flatMap st5).toArray 56)) := Lib.hid (blk_set_other RB.out (by omega) t _)
          go_wp2_with ((with_reducible refine (show wpList _ _ _ (Oper.mk none (Op.store 56 _ _) _ _ _ _ :: _) _ _ from ?_)); (refine wpList_store_rec rfl 56 _ _ rfl st5 5 st5_len st5_one (gU + 1) k (rowsS l q l.length k) s HK.out _ rfl rfl rfl 56 R1.out infoSs ?_))
          go_roundw
          case rel => exact ⟨k + 1, kk, by go_num, Lib.hid (below_setRow (Bset1 NN.out LU.out t (.bool true)) (Nat.le_succ_of_le LU.out) _), Lib.hid ((setRow_other _ (gU + 1) gU _ (by omega)).trans (by have h := blk_set UB.out t (.bool true); rw [List.setIfInBounds_toArray, usedC_set T8.out HX.out] at h; exact h)), Lib.hid ((setRow_heap _ (gU + 1) _ (((rowsS l q l.length k).set k s).flatMap st5).toArray _ _ R1.out).trans (by rw [rowsS_set HLN.out HX.out HS.out])), Lib.hid (fun u hu => by
            by_cases e : u = k
            · subst e; exact OK.out
            · exact GD.out u (by omega))⟩
          case measure => simp [intOf]; omega
        · have HE := Lib.hid (NO.out k _ HX.out (by unfold okO; rw [HX.out]; simp only; rw [hu]; simp))
          rw [hu] at cu
          clear NO YES GD HX hu
          go_wp2_with fail
          refine bodyPost_ret (v := .tuple #[.slice none 0 0, .int .i64 2]) (by simp [results, Try.results11, go_sem]) rfl ⟨_, by rw [HE.out], NN.out, fun _ => rfl, fun h => absurd (HE.out.symm.trans h) (by decide)⟩
    · obtain rfl : k = q.length := by omega
      have HE := Lib.hid (YES.out GD.out)
      rw [HLN.out, rowsS_all HLN.out] at RB
      clear NO YES GD UB
      go_wp2_with fail
      refine bodyPost_ret (by simp [results, Try.results11, go_sem]; rfl) rfl ⟨_, by rw [HE.out], NN.out, fun h => absurd HE.out h, fun _ => ⟨gU + 1, rfl, Nat.le_succ_of_le LU.out, RB.out⟩⟩
end Go.Proofs.Ytfangplfbbgphaa
