/- Contracts of layer 45: lost blocks, copies and fits, of the reference. -/
import Derived.Test.YtmpmeeacdllomaaPaj
namespace Go.Proofs.Ytmpmeeacdllomaa
open Go.ChangeShapes Go.WideShapes Go.ChangeAt Go.RowKit Gf
set_option linter.unusedVariables false
attribute [local go_sem ↓] Go.wp_at_zero Go.wp_at_succ

/- each block of m that is not lost is that of r -/
def fitB (m r : List (List Nat)) : Bool := (List.range m.length).all fun i => decide ((m.getD i []).length = 0) || decide (m.getD i [] = r.getD i [])
theorem fitB_false {m r : List (List Nat)} {k : Nat} {l l' : List Nat} (hk : m[k]? = some l) (hk' : r[k]? = some l') (h0 : 0 < l.length) (h : l ≠ l') : fitB m r = false := by
  unfold fitB
  rw [List.all_eq_false]
  refine ⟨k, by simpa using get_lt hk, ?_⟩
  rw [getD_of hk, getD_of hk', decide_eq_false (by omega), decide_eq_false h]
  decide
theorem fitB_true {m r : List (List Nat)} (hl : m.length = r.length) (h : ∀ (j : Nat) (l l' : List Nat), m[j]? = some l → r[j]? = some l' → l.length = 0 ∨ l = l') : fitB m r = true := by
  unfold fitB
  rw [List.all_eq_true]
  intro i hi
  obtain ⟨l, e⟩ := get_some (show i < m.length by simpa using hi)
  obtain ⟨l', e'⟩ := get_some (show i < r.length by rw [← hl]; simpa using hi)
  rw [getD_of e, getD_of e']
  rcases h i l l' e e' with h | h <;> simp [h]
theorem fitB_out {m r : List (List Nat)} (h : fitB m r = true) {j : Nat} {l l' : List Nat} (e : m[j]? = some l) (e' : r[j]? = some l') : l.length = 0 ∨ l = l' := by
  unfold fitB at h
  rw [List.all_eq_true] at h
  have := h j (by simpa using get_lt e)
  rw [getD_of e, getD_of e'] at this
  simpa using this
set_option maxHeartbeats 1000000 in
theorem refFits_calls (D M : Int) (A : Option Addr) (c B : Nat) (m : List (List Nat)) (D' M' : Int) (A' : Option Addr) (c' B' : Nat) (m' : List (List Nat)) (w : World) (hn : m.length ≤ c) (hc : c ≤ 9223372036854775807) (hs : RMA B w A m) (hn' : m'.length ≤ c') (hc' : c' ≤ 9223372036854775807) (hs' : RMA B' w A' m') (hlen : m.length = m'.length) :
    Calls Try.prog 42 #[Sv D M (.slice A m.length c), Sv D' M' (.slice A' m'.length c')] w fun e w' => e = .returned (.bool (fitB m m')) ∧ Below w.heap.size w w' := by
  generalize hv : fitB m m' = v
  have HV := Lib.hid hv
  have HS := Lib.hid hs
  have HS' := Lib.hid hs'
  have C3 := Lib.hid hlen
  clear hs hs' hv hlen
  go_enter Try.func42, Try.ntmps42
  go_wp2_with fail
  have X0 : Hid (((w.alloc (.cells #[.int .i64 D, .int .i64 M, .slice A m.length c] 31)).alloc (.cells #[.int .i64 D', .int .i64 M', .slice A' m'.length c'] 31)).heap[w.heap.size]? = some (.cells #[.int .i64 D, .int .i64 M, .slice A m.length c] 31)) := Lib.hid (blk_alloc (blk_new w _) _)
  have Y0 : Hid (((w.alloc (.cells #[.int .i64 D, .int .i64 M, .slice A m.length c] 31)).alloc (.cells #[.int .i64 D', .int .i64 M', .slice A' m'.length c'] 31)).heap[w.heap.size + 1]? = some (.cells #[.int .i64 D', .int .i64 M', .slice A' m'.length c'] 31)) := Lib.hid (blk_at _ (by simp))
  have N0 : Hid (Below w.heap.size w ((w.alloc (.cells #[.int .i64 D, .int .i64 M, .slice A m.length c] 31)).alloc (.cells #[.int .i64 D', .int .i64 M', .slice A' m'.length c'] 31))) := Lib.hid (Bal (Bal (Below.refl _ _) _) _)
  go_loopw [5] (fun i wr => ∃ k : Nat, k ≤ m.length ∧ i = .int .i64 k ∧ Hid (Below w.heap.size w wr) ∧ Hid (wr.heap[w.heap.size]? = some (.cells #[.int .i64 D, .int .i64 M, .slice A m.length c] 31)) ∧ Hid (wr.heap[w.heap.size + 1]? = some (.cells #[.int .i64 D', .int .i64 M', .slice A' m'.length c'] 31)) ∧ Hid (∀ (j : Nat) (l l' : List Nat), j < k → m[j]? = some l → m'[j]? = some l' → l.length = 0 ∨ l = l')) (fun i _ => m.length - (intOf i).toNat)
  case atStart => exact ⟨0, by omega, rfl, N0, X0, Y0, Lib.hid (fun j l l' h => by omega)⟩
  case round =>
    clear X0 Y0 N0
    obtain ⟨k, hk, rfl, N, X, Y, HN⟩ := hrel
    have x2 : wr.cell? ⟨w.heap.size, 2, none⟩ = some (.slice A m.length c) := blk_cell X.out 2 _ rfl
    have y2 : wr.cell? ⟨w.heap.size + 1, 2, none⟩ = some (.slice A' m'.length c') := blk_cell Y.out 2 _ rfl
    have hz : w.heap.size + 1 < wr.heap.size := blk_lt Y.out
    by_cases hlt : k < m.length
    · obtain ⟨l, hl⟩ := get_some hlt
      obtain ⟨l', hl'⟩ := get_some (show k < m'.length by rw [← C3.out]; exact hlt)
      obtain ⟨b, off, Ai, ci, rfl, hb, h1, h2, h3, h4⟩ := (HS.out.next N.out).at_ hl
      obtain ⟨b', off', Ai', ci', rfl, hb', h1', h2', h3', h4'⟩ := (HS'.out.next N.out).at_ hl'
      have cv1 : ∀ nq, (convert 57 9 (.slice Ai l.length ci)).run Try.prog (wr.drewN nq) = .ok (.string (bstr l)) (wr.drewN nq) := fun nq => conv_rba ci (h4.drewN nq)
      have cv2 : ∀ nq, (convert 57 9 (.slice Ai' l'.length ci')).run Try.prog (wr.drewN nq) = .ok (.string (bstr l')) (wr.drewN nq) := fun nq => conv_rba ci' (h4'.drewN nq)
      have k1 : (0 : Int) ≤ (k : Int) := by omega
      have k2 : (k : Int) < (m.length : Int) := by omega
      have k3 : (k : Int) < (m'.length : Int) := by rw [← C3.out]; exact k2
      have q := bstr_eq h4.1 h4'.1
      have HL := Lib.hid hl
      have HL' := Lib.hid hl'
      clear hl hl' h4 h4'
      have more : Hid ((l.length = 0 ∨ l = l') → ∀ (j : Nat) (x x' : List Nat), j < k + 1 → m[j]? = some x → m'[j]? = some x' → x.length = 0 ∨ x = x') := Lib.hid (fun e j x x' hj hx hx' => by
        by_cases ej : j = k
        · subst ej; rw [HL.out] at hx; rw [HL'.out] at hx'; cases hx; cases hx'; exact e
        · exact HN.out j x x' (by omega) hx hx')
      by_cases h0 : 0 < l.length
      · have d0 : decide ((0 : Int) < (l.length : Int)) = true := by simp; omega
        by_cases e : l = l'
        · have q' : ((bstr l).toList == (bstr l').toList) = true := by rw [q]; simp [e]
          have E := Lib.hid e
          clear e q
          generalize bstr l = sl at *
          generalize bstr l' = sl' at *
          go_wp2_with fail
          go_quiet (fail)
          go_wp2_with fail
          exact ⟨⟨k + 1, by omega, by go_num, Lib.hid (below_drewN N.out _), Lib.hid (blk_drewN X.out _), Lib.hid (blk_drewN Y.out _), Lib.hid (more.out (.inr E.out))⟩, by simp [intOf]; omega⟩
        · have q' : ((bstr l).toList == (bstr l').toList) = false := by rw [q]; simp [e]
          have E := Lib.hid e
          clear e q
          generalize bstr l = sl at *
          generalize bstr l' = sl' at *
          go_wp2_with fail
          go_quiet (fail)
          go_wp2_with fail
          go_ret
          refine ⟨ret_bool ?_, below_drewN N.out _⟩
          rw [← HV.out, fitB_false HL.out HL'.out h0 E.out]
      · have d0 : decide ((0 : Int) < (l.length : Int)) = false := decide_eq_false (by omega)
        clear q
        go_wp2_with fail
        go_quiet (fail)
        go_wp2_with fail
        exact ⟨⟨k + 1, by omega, by go_num, Lib.hid (below_drewN N.out _), Lib.hid (blk_drewN X.out _), Lib.hid (blk_drewN Y.out _), Lib.hid (more.out (.inl (by omega)))⟩, by simp [intOf]; omega⟩
    · obtain rfl : k = m.length := by omega
      go_wp2_with fail
      go_ret
      refine ⟨ret_bool ?_, N.out⟩
      rw [← HV.out, fitB_true C3.out (fun j l l' h h' => HN.out j l l' (get_lt h) h h')]
/- the indices of the lost blocks -/
def lostL (m : List (List Nat)) (k : Nat) : List Nat := (List.range k).filter fun i => decide ((m.getD i []).length = 0)
def iv (l : List Nat) : List Value := l.map fun (x : Nat) => Value.int .i64 (x : Int)
theorem iv_append (l m : List Nat) : iv (l ++ m) = iv l ++ iv m := by simp [iv]
theorem iv_len (l : List Nat) : (iv l).length = l.length := by simp [iv]
theorem iv_get {l : List Nat} {k x : Nat} (h : l[k]? = some x) : (iv l)[k]? = some (.int .i64 (x : Int)) := by simp [iv, h]
theorem iv_one (l : List Nat) : ∀ u ∈ iv l, u.oneCell' = true := by
  intro u hu
  obtain ⟨x, _, rfl⟩ := List.mem_map.1 hu
  rfl
theorem lostL_succ {m : List (List Nat)} {k : Nat} {l : List Nat} (h : m[k]? = some l) : lostL m (k + 1) = if l.length = 0 then lostL m k ++ [k] else lostL m k := by
  unfold lostL
  rw [List.range_succ, List.filter_append]
  rw [show List.filter (fun i => decide ((m.getD i []).length = 0)) [k] = if l.length = 0 then [k] else [] by rw [List.filter_cons, getD_of h, List.filter_nil]; simp only [decide_eq_true_eq]]
  by_cases h0 : l.length = 0
  · rw [if_pos h0, if_pos h0]
  · rw [if_neg h0, if_neg h0, List.append_nil]
theorem lostL_count {m : List (List Nat)} : ∀ k, k ≤ m.length → (lostL m k).length = lostN (m.take k)
  | 0, _ => by simp [lostL, lostN]
  | k + 1, h => by
    obtain ⟨l, hl⟩ := get_some (show k < m.length by omega)
    rw [lostL_succ hl, lostN_snoc hl, ← lostL_count k (by omega)]
    split
    · simp
    · simp
theorem int_info : (Try.prog.info? 3).map (fun i => (i.zero, i.size, i.bytes)) = some (some (.int .i64 0), 1, 8) := by kernel_rfl
theorem lostL_le (m : List (List Nat)) (k : Nat) : (lostL m k).length ≤ k := by
  have := List.length_filter_le (fun i => decide ((m.getD i []).length = 0)) (List.range k)
  simpa [lostL] using this
set_option maxHeartbeats 1000000 in
theorem refLost_calls (D M : Int) (A : Option Addr) (c B : Nat) (m : List (List Nat)) (w : World) (hn : m.length ≤ c) (hc : c ≤ 9223372036854775807) (hm : m.length ≤ 100) (hs : RMA B w A m) :
    Calls Try.prog 37 #[Sv D M (.slice A m.length c)] w fun e w' => ∃ v, e = .returned v ∧ w'.ownsRow w.heap.size 3 1 v (lostL m m.length).length (iv (lostL m m.length)) ∧ Below w.heap.size w w' := by
  obtain ⟨i0, hi0, hz0, hz1, hz2⟩ := info_parts int_info
  have HI := Lib.hid (And.intro hi0 (And.intro hz0 (And.intro hz1 hz2)))
  clear hi0 hz0 hz1 hz2
  have HS := Lib.hid hs
  clear hs
  go_enter Try.func37, Try.ntmps37
  go_wp2_with fail
  have X0 : Hid ((w.alloc (.cells #[.int .i64 D, .int .i64 M, .slice A m.length c] 31)).heap[w.heap.size]? = some (.cells #[.int .i64 D, .int .i64 M, .slice A m.length c] 31)) := Lib.hid (blk_new w _)
  go_loopw [3, 4] (fun v i wr => ∃ k t : Nat, k ≤ m.length ∧ t ≤ k ∧ i = .int .i64 k ∧ Hid (Below w.heap.size w wr) ∧ Hid (wr.heap[w.heap.size]? = some (.cells #[.int .i64 D, .int .i64 M, .slice A m.length c] 31)) ∧ Hid ((lostL m k).length = t) ∧ Hid (wr.ownsRow w.heap.size 3 1 v t (iv (lostL m k)))) (fun _ i _ => m.length - (intOf i).toNat)
  case atStart => exact ⟨0, 0, by omega, by omega, rfl, Lib.hid (Bal (Below.refl _ _) _), X0, Lib.hid rfl, Lib.hid (World.ownsRow_nil _ _ _ _)⟩
  case round =>
    clear X0
    obtain ⟨k, t, hk, ht, rfl, N, X, T, O⟩ := hrel
    have x2 : wr.cell? ⟨w.heap.size, 2, none⟩ = some (.slice A m.length c) := blk_cell X.out 2 _ rfl
    have hz : w.heap.size < wr.heap.size := blk_lt X.out
    by_cases hlt : k < m.length
    · obtain ⟨l, hl⟩ := get_some hlt
      obtain ⟨b, off, Ai, ci, rfl, hb, h1, h2, h3, _⟩ := (HS.out.next N.out).at_ hl
      have HL := Lib.hid hl
      clear hl
      by_cases h0 : l.length = 0
      · have q : ((l.length : Int) == 0) = true := by rw [h0]; rfl
        have H0 := Lib.hid h0
        clear h0
        go_wp2_with (at_builtin; refine wpList_append_rd _ rfl (.tmp 19) (.tmp 21) _ rfl w.heap.size 3 i0 _ 1 8 Try.underlying44 HI.out.1 HI.out.2.1 HI.out.2.2.1 HI.out.2.2.2 rfl (by omega) _ t _ rfl (O.out.alloc _) (some ⟨wr.heap.size, 0, none⟩) 1 1 [.int .i64 (k : Int)] rfl (rd_one (t := 3) (blk_new _ _)) (int_one _ _) (by simp only [maxLen]; omega) (by omega) (by have q := N.out.size; simp; omega) ?_; intro v1 w1 hown1 hg1 hat1; have O1 := Lib.hid hown1; have N1 : Hid (Below w.heap.size w w1) := Lib.hid (gbel hg1 (Bal N.out _) (fun g hg => (O.out.lt g hg).1)); have X1 : Hid (w1.heap[w.heap.size]? = some (.cells #[.int .i64 D, .int .i64 M, .slice (some ⟨b, off, none⟩) m.length c] 31)) := Lib.hid (gblk_ty hg1 (O.out.alloc _) (blk_alloc X.out _) ne_int_st); clear hown1 hg1 hat1)
        refine ⟨⟨k + 1, t + 1, by omega, by omega, by go_num, N1, X1, Lib.hid ?_, ?_⟩, by simp [intOf]; omega⟩
        · rw [lostL_succ HL.out, if_pos H0.out, List.length_append, T.out]; rfl
        · rw [lostL_succ HL.out, if_pos H0.out, iv_append]; exact O1
      · have q : ((l.length : Int) == 0) = false := by rw [beq_eq_false_iff_ne]; omega
        have H0 := Lib.hid h0
        clear h0
        go_wp2_with fail
        refine ⟨⟨k + 1, t, by omega, by omega, by go_num, N, X, Lib.hid ?_, ?_⟩, by simp [intOf]; omega⟩
        · rw [lostL_succ HL.out, if_neg H0.out, T.out]
        · rw [lostL_succ HL.out, if_neg H0.out]; exact O
    · obtain rfl : k = m.length := by omega
      go_wp2_with fail
      go_ret
      exact ⟨_, rfl, by rw [T.out]; exact O.out, N.out⟩
theorem refWhole_calls (D M : Int) (A : Option Addr) (c B : Nat) (m : List (List Nat)) (w : World) (hn : m.length ≤ c) (hc : c ≤ 9223372036854775807) (hm : m.length ≤ 100) (hs : RMA B w A m) :
    Calls Try.prog 32 #[Sv D M (.slice A m.length c)] w fun e w' => e = .returned (.bool (decide (lostN m = 0))) ∧ Below w.heap.size w w' := by
  go_enter Try.func32, Try.ntmps32
  go_wp2_with fail
  refine (refLost_calls D M A c B m _ hn hc hm (hs.next (Bal (Below.refl _ _) _))).mono ?_
  rintro e w1 ⟨v, rfl, ho, hb1⟩
  obtain ⟨Av, cv, rfl, hv1, hv2, _⟩ := own_form ho
  have q : (lostL m m.length).length = lostN m := by rw [lostL_count _ (Nat.le_refl _), List.take_of_length_le (Nat.le_refl _)]
  rw [q]
  obtain ⟨z, hz⟩ : ∃ z, lostN m = z := ⟨_, rfl⟩
  rw [hz]
  have HZ := Lib.hid hz
  clear ho q hz
  go_wp2_with fail
  go_ret
  refine ⟨ret_bool ?_, Bgo (Bal (Below.refl _ _) _) hb1⟩
  rw [HZ.out, Bool.eq_iff_iff]; simp
end Go.Proofs.Ytmpmeeacdllomaa
