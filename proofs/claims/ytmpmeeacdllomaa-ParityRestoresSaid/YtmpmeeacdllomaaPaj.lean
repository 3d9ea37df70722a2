/- Contracts of layer 45: comparisons and sizes of stripes, of the reference. -/
import Derived.Test.YtmpmeeacdllomaaPak
namespace Go.Proofs.Ytmpmeeacdllomaa
open Go.ChangeShapes Go.WideShapes Go.ChangeAt Go.RowKit Gf
set_option linter.unusedVariables false
attribute [local go_sem ↓] Go.wp_at_zero Go.wp_at_succ

theorem RBA.drewN {B : Nat} {w : World} {A : Option Addr} {l : List Nat} (h : RBA B w A l) (n : Nat) : RBA B (w.drewN n) A l := h
theorem bstr_ne {l l' : List Nat} (h : Byt l) (h' : Byt l') : ((bstr l).toList != (bstr l').toList) = !decide (l = l') := by rw [bne, bstr_eq h h']
theorem ext_take {m m' : List (List Nat)} (hl : m.length = m'.length) (h : ∀ (j : Nat) (l l' : List Nat), m[j]? = some l → m'[j]? = some l' → l = l') : m = m' := by
  apply List.ext_getElem?
  intro i
  by_cases hi : i < m.length
  · obtain ⟨l, e⟩ := get_some hi
    obtain ⟨l', e'⟩ := get_some (show i < m'.length by omega)
    rw [e, e', h i l l' e e']
  · rw [List.getElem?_eq_none (by omega), List.getElem?_eq_none (by omega)]
set_option maxHeartbeats 1000000 in
theorem refSame_calls (D M : Int) (A : Option Addr) (c B : Nat) (m : List (List Nat)) (D' M' : Int) (A' : Option Addr) (c' B' : Nat) (m' : List (List Nat)) (w : World) (hn : m.length ≤ c) (hc : c ≤ 9223372036854775807) (hs : RMA B w A m) (hn' : m'.length ≤ c') (hc' : c' ≤ 9223372036854775807) (hs' : RMA B' w A' m') :
    Calls Try.prog 20 #[Sv D M (.slice A m.length c), Sv D' M' (.slice A' m'.length c')] w fun e w' => e = .returned (.bool (decide ((D, M, m) = (D', M', m')))) ∧ Below w.heap.size w w' := by
  generalize hv : decide ((D, M, m) = (D', M', m')) = v
  have HV := Lib.hid hv
  have HS := Lib.hid hs
  have HS' := Lib.hid hs'
  clear hs hs' hv
  have no : (D ≠ D' ∨ M ≠ M' ∨ m ≠ m') → v = false := fun h => by
    rw [← HV.out, decide_eq_false_iff_not]
    intro e
    simp only [Prod.mk.injEq] at e
    rcases h with h | h | h
    · exact h e.1
    · exact h e.2.1
    · exact h e.2.2
  have NO := Lib.hid no
  clear no
  by_cases c1 : D = D'
  · by_cases c2 : M = M'
    · by_cases c3 : m.length = m'.length
      · have q1 : (D != D') = false := by rw [c1]; simp
        have q2 : (M != M') = false := by rw [c2]; simp
        have q3 : ((m.length : Int) != (m'.length : Int)) = false := by rw [c3]; simp
        have C1 := Lib.hid c1
        have C2 := Lib.hid c2
        have C3 := Lib.hid c3
        clear c1 c2 c3
        go_enter Try.func20, Try.ntmps20
        go_wp2_with fail
        have X0 : Hid (((w.alloc (.cells #[.int .i64 D, .int .i64 M, .slice A m.length c] 31)).alloc (.cells #[.int .i64 D', .int .i64 M', .slice A' m'.length c'] 31)).heap[w.heap.size]? = some (.cells #[.int .i64 D, .int .i64 M, .slice A m.length c] 31)) := Lib.hid (blk_alloc (blk_new w _) _)
        have Y0 : Hid (((w.alloc (.cells #[.int .i64 D, .int .i64 M, .slice A m.length c] 31)).alloc (.cells #[.int .i64 D', .int .i64 M', .slice A' m'.length c'] 31)).heap[w.heap.size + 1]? = some (.cells #[.int .i64 D', .int .i64 M', .slice A' m'.length c'] 31)) := Lib.hid (blk_at _ (by simp))
        have N0 : Hid (Below w.heap.size w ((w.alloc (.cells #[.int .i64 D, .int .i64 M, .slice A m.length c] 31)).alloc (.cells #[.int .i64 D', .int .i64 M', .slice A' m'.length c'] 31))) := Lib.hid (Bal (Bal (Below.refl _ _) _) _)
        go_loopw [5] (fun i wr => ∃ k : Nat, k ≤ m.length ∧ i = .int .i64 k ∧ Hid (Below w.heap.size w wr) ∧ Hid (wr.heap[w.heap.size]? = some (.cells #[.int .i64 D, .int .i64 M, .slice A m.length c] 31)) ∧ Hid (wr.heap[w.heap.size + 1]? = some (.cells #[.int .i64 D', .int .i64 M', .slice A' m'.length c'] 31)) ∧ Hid (∀ (j : Nat) (l l' : List Nat), j < k → m[j]? = some l → m'[j]? = some l' → l = l')) (fun i _ => m.length - (intOf i).toNat)
        case atStart => exact ⟨0, by omega, rfl, N0, X0, Y0, Lib.hid (fun j l l' h => by omega)⟩
        case round =>
          clear X0 Y0 N0
          obtain ⟨k, hk, rfl, N, X, Y, HN⟩ := hrel
          have x2 : wr.cell? ⟨w.heap.size, 2, none⟩ = some (.slice A m.length c) := blk_cell X.out 2 _ rfl
          have y2 : wr.cell? ⟨w.heap.size + 1, 2, none⟩ = some (.slice A' m'.length c') := blk_cell Y.out 2 _ rfl
          have hz : w.heap.size + 1 < wr.heap.size := blk_lt Y.out
          by_cases hlt : k < m.length
          · obtain ⟨l, hl⟩ := get_some hlt
            obtain ⟨l', hl'⟩ := get_some (show k < m'.length by rw [← C3.out]; exact hlt)
            obtain ⟨b, off, Ai, ci, rfl, hb, h1, h2, h3, h4⟩ := (HS.out.next N.out).at_ hl
            obtain ⟨b', off', Ai', ci', rfl, hb', h1', h2', h3', h4'⟩ := (HS'.out.next N.out).at_ hl'
            have cv1 : ∀ nq, (convert 57 9 (.slice Ai l.length ci)).run Try.prog (wr.drewN nq) = .ok (.string (bstr l)) (wr.drewN nq) := fun nq => conv_rba ci (h4.drewN nq)
            have cv2 : ∀ nq, (convert 57 9 (.slice Ai' l'.length ci')).run Try.prog (wr.drewN nq) = .ok (.string (bstr l')) (wr.drewN nq) := fun nq => conv_rba ci' (h4'.drewN nq)
            have k1 : (0 : Int) ≤ (k : Int) := by omega
            have k2 : (k : Int) < (m.length : Int) := by omega
            have k3 : (k : Int) < (m'.length : Int) := by rw [← C3.out]; exact k2
            have q := bstr_eq h4.1 h4'.1
            have HL := Lib.hid hl
            have HL' := Lib.hid hl'
            clear hl hl' h4 h4'
            by_cases e : l = l'
            · have q' : ((bstr l).toList == (bstr l').toList) = true := by rw [q]; simp [e]
              have E := Lib.hid e
              clear e q
              generalize bstr l = sl at *
              generalize bstr l' = sl' at *
              go_wp2_with fail
              go_quiet (fail)
              go_wp2_with fail
              refine ⟨⟨k + 1, by omega, by go_num, Lib.hid (below_drewN N.out _), Lib.hid (blk_drewN X.out _), Lib.hid (blk_drewN Y.out _), Lib.hid ?_⟩, by simp [intOf]; omega⟩
              intro j x x' hj hx hx'
              by_cases ej : j = k
              · subst ej; rw [HL.out] at hx; rw [HL'.out] at hx'; cases hx; cases hx'; exact E.out
              · exact HN.out j x x' (by omega) hx hx'
            · have q' : ((bstr l).toList == (bstr l').toList) = false := by rw [q]; simp [e]
              have E := Lib.hid e
              clear e q
              generalize bstr l = sl at *
              generalize bstr l' = sl' at *
              go_wp2_with fail
              go_quiet (fail)
              go_wp2_with fail
              go_ret
              refine ⟨ret_bool ?_, below_drewN N.out _⟩
              refine (NO.out (.inr (.inr fun em => E.out ?_))).symm
              have := HL.out
              rw [em, HL'.out] at this
              cases this; rfl
          · obtain rfl : k = m.length := by omega
            go_wp2_with fail
            go_ret
            refine ⟨ret_bool ?_, N.out⟩
            rw [← HV.out]
            symm
            rw [decide_eq_true_eq, C1.out, C2.out, ext_take C3.out (fun j l l' h h' => HN.out j l l' (get_lt h) h h')]
      · have F := Lib.hid (NO.out (.inr (.inr (fun e => c3 (by rw [e])))))
        have q1 : (D != D') = false := by rw [c1]; simp
        have q2 : (M != M') = false := by rw [c2]; simp
        have q3 : ((m.length : Int) != (m'.length : Int)) = true := by rw [bne_iff_ne]; omega
        clear c1 c2 c3
        go_enter Try.func20, Try.ntmps20
        go_wp2_with fail
        go_ret
        exact ⟨ret_bool F.out.symm, Bal (Bal (Below.refl _ _) _) _⟩
    · have F := Lib.hid (NO.out (.inr (.inl c2)))
      have q1 : (D != D') = false := by rw [c1]; simp
      have q2 : (M != M') = true := by rw [bne_iff_ne]; exact c2
      clear c1 c2
      go_enter Try.func20, Try.ntmps20
      go_wp2_with fail
      go_ret
      exact ⟨ret_bool F.out.symm, Bal (Bal (Below.refl _ _) _) _⟩
  · have F := Lib.hid (NO.out (.inl c1))
    have q1 : (D != D') = true := by rw [bne_iff_ne]; exact c1
    clear c1
    go_enter Try.func20, Try.ntmps20
    go_wp2_with fail
    go_ret
    exact ⟨ret_bool F.out.symm, Bal (Bal (Below.refl _ _) _) _⟩
/- blocks that are greater than the statements consider -/
def greatL (l : List Nat) : Bool := (decide (16 < l.length) && decide (l.length ≤ 64)) || decide (70 < l.length)
def greatB (m : List (List Nat)) : Bool := m.any greatL || decide (20 < m.length)
set_option maxHeartbeats 1000000 in
theorem refGreatBlocks_calls (A : Option Addr) (c B : Nat) (m : List (List Nat)) (w : World) (hn : m.length ≤ c) (hc : c ≤ 9223372036854775807) (hs : RMA B w A m) :
    Calls Try.prog 22 #[.slice A m.length c] w fun e w' => e = .returned (.bool (greatB m)) ∧ w = w' := by
  generalize hv : greatB m = v
  have HV := Lib.hid hv
  have HS := Lib.hid hs
  clear hs hv
  go_enter Try.func22, Try.ntmps22
  go_wp2_with fail
  go_loop [3] (fun i => ∃ k : Nat, k ≤ m.length ∧ i = .int .i64 k ∧ Hid (∀ (j : Nat) (l : List Nat), j < k → m[j]? = some l → greatL l = false)) (fun i => m.length - (intOf i).toNat)
  case atStart => exact ⟨0, by omega, rfl, Lib.hid (fun j l h => by omega)⟩
  case round =>
    obtain ⟨k, hk, rfl, HN⟩ := hrel
    by_cases hlt : k < m.length
    · obtain ⟨l, hl⟩ := get_some hlt
      obtain ⟨b, off, Ai, ci, rfl, hb, h1, h2, h3, _⟩ := HS.out.at_ hl
      have HL := Lib.hid hl
      clear hl
      have cs : (l.length ≤ 16) ∨ (16 < l.length ∧ l.length ≤ 64) ∨ (16 < l.length ∧ 64 < l.length ∧ l.length ≤ 70) ∨ (16 < l.length ∧ 64 < l.length ∧ 70 < l.length) := by omega
      have yes : Hid (greatL l = true → v = true) := Lib.hid (fun h => by
        rw [← HV.out]; unfold greatB
        rw [List.any_eq_true.2 ⟨l, List.mem_of_getElem? HL.out, h⟩]; rfl)
      rcases cs with a | ⟨a, a2⟩ | ⟨a, a2, a3⟩ | ⟨a, a2, a3⟩
      · have G : Hid (greatL l = false) := Lib.hid (by unfold greatL; simp; omega)
        have a70 : l.length ≤ 70 := by omega
        go_wp2_with fail
        refine ⟨⟨k + 1, by omega, by go_num, Lib.hid ?_⟩, by simp [intOf]; omega⟩
        intro j l' hj hl'
        by_cases e : j = k
        · subst e; rw [HL.out] at hl'; cases hl'; exact G.out
        · exact HN.out j l' (by omega) hl'
      · have G : Hid (v = true) := Lib.hid (yes.out (by unfold greatL; simp; omega))
        go_wp2_with fail
        go_ret
        exact ⟨ret_bool G.out.symm, rfl⟩
      · have G : Hid (greatL l = false) := Lib.hid (by unfold greatL; simp; omega)
        go_wp2_with fail
        refine ⟨⟨k + 1, by omega, by go_num, Lib.hid ?_⟩, by simp [intOf]; omega⟩
        intro j l' hj hl'
        by_cases e : j = k
        · subst e; rw [HL.out] at hl'; cases hl'; exact G.out
        · exact HN.out j l' (by omega) hl'
      · have G : Hid (v = true) := Lib.hid (yes.out (by unfold greatL; simp; omega))
        go_wp2_with fail
        go_ret
        exact ⟨ret_bool G.out.symm, rfl⟩
    · obtain rfl : k = m.length := by omega
      go_wp2_with fail
      go_ret
      refine ⟨ret_bool ?_, rfl⟩
      rw [← HV.out]
      unfold greatB
      rw [show m.any greatL = false from List.any_eq_false.2 (fun l hl => by
        obtain ⟨j, hj, rfl⟩ := List.mem_iff_getElem.1 hl
        rw [HN.out j _ hj (List.getElem?_eq_getElem hj)]; decide)]
      simp
      omega
theorem refGreat_calls (D M : Int) (A : Option Addr) (c B : Nat) (m : List (List Nat)) (w : World) (hn : m.length ≤ c) (hc : c ≤ 9223372036854775807) (hs : RMA B w A m) :
    Calls Try.prog 15 #[Sv D M (.slice A m.length c)] w fun e w' => e = .returned (.bool (greatB m)) ∧ Below w.heap.size w w' := by
  go_enter Try.func15, Try.ntmps15
  go_wp2_with fail
  refine (refGreatBlocks_calls A c B m _ hn hc (hs.next (Bal (Below.refl _ _) _))).mono ?_
  rintro e w1 ⟨rfl, rfl⟩
  go_wp2_with fail
  go_ret
  exact ⟨rfl, Bal (Below.refl _ _) _⟩
end Go.Proofs.Ytmpmeeacdllomaa
