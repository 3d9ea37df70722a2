/- Contracts: conjugates and turns, of the program and of the reference. -/
import Derived.Test.YtbbjclbpllfdeaaDoorBlk
import Derived.Test.YtbbjclbpllfdeaaDoorCxs
import Derived.RegionTactic
namespace Go.Proofs.YtbbjclbpllfdeaaDoor
open Go.ChangeShapes Go.WideShapes Go.ChangeAt Go.RowKit Cxm
set_option linter.unusedVariables false

set_option maxHeartbeats 400000 in
theorem conj_bad (re im den : Int) (h : chkB re im den = false) (w : World) :
    Calls Tryd.prog 18 #[Cv re im den] w fun e w' => e = .returned (Rv 0 0 0 8) ∧ Below w.heap.size w w' := by
  have e1 := chkE_no h
  clear h
  go_enter Tryd.func18, Tryd.ntmps18
  go_wp2_with fail
  refine (check_calls re im den _).mono ?_
  rintro e w1 ⟨rfl, hb⟩
  have b0 : w1.heap[w.heap.size]? = some (.cells #[.int .i64 (re), .int .i64 (im), .int .i64 (den)] 23) := blk_next hb (blk_alloc (blk_new w _) _)
  have b1 : w1.heap[w.heap.size + 1]? = some (.cells #[.int .i64 (0), .int .i64 (0), .int .i64 (0)] 23) := blk_next hb (blk_at _ (by simp))
  have NB : Hid (Below w.heap.size w w1) := Lib.hid (Bgo (Bal (Bal (Below.refl _ _) _) _) hb)
  clear hb
  have cb0_0 : w1.cell? ⟨w.heap.size, 0, none⟩ = some (.int .i64 (re)) := blk_cell b0 0 _ rfl
  have cfb0_0 : w1.frozen? ⟨w.heap.size, 0, none⟩ = false := blk_frozen b0 0
  have cb0_1 : w1.cell? ⟨w.heap.size, 1, none⟩ = some (.int .i64 (im)) := blk_cell b0 1 _ rfl
  have cfb0_1 : w1.frozen? ⟨w.heap.size, 1, none⟩ = false := blk_frozen b0 1
  have cb0_2 : w1.cell? ⟨w.heap.size, 2, none⟩ = some (.int .i64 (den)) := blk_cell b0 2 _ rfl
  have cfb0_2 : w1.frozen? ⟨w.heap.size, 2, none⟩ = false := blk_frozen b0 2
  have cb1_0 : w1.cell? ⟨w.heap.size + 1, 0, none⟩ = some (.int .i64 (0)) := blk_cell b1 0 _ rfl
  have cfb1_0 : w1.frozen? ⟨w.heap.size + 1, 0, none⟩ = false := blk_frozen b1 0
  have cb1_1 : w1.cell? ⟨w.heap.size + 1, 1, none⟩ = some (.int .i64 (0)) := blk_cell b1 1 _ rfl
  have cfb1_1 : w1.frozen? ⟨w.heap.size + 1, 1, none⟩ = false := blk_frozen b1 1
  have cb1_2 : w1.cell? ⟨w.heap.size + 1, 2, none⟩ = some (.int .i64 (0)) := blk_cell b1 2 _ rfl
  have cfb1_2 : w1.frozen? ⟨w.heap.size + 1, 2, none⟩ = false := blk_frozen b1 2
  go_wp2_with fail
  exact bodyPost_ret (v := Rv 0 0 0 8) (by simp [results, Tryd.results18, go_sem, *]) rfl ⟨rfl, by repeat (first | exact NB.out | refine Bset1 ?_ (by omega) _ _ | refine below_drewN ?_ _)⟩

set_option maxHeartbeats 400000 in
theorem conj_ok (re im den : Int) (h : chkB re im den = true) (w : World) :
    Calls Tryd.prog 18 #[Cv re im den] w fun e w' => e = .returned (Rv re (-im) den 0) ∧ Below w.heap.size w w' := by
  have e1 := chkE_yes h
  have B := chk_iff.1 h
  clear h
  obtain ⟨B1, B2, B3, _⟩ := B
  go_enter Tryd.func18, Tryd.ntmps18
  go_wp2_with fail
  refine (check_calls re im den _).mono ?_
  rintro e w1 ⟨rfl, hb⟩
  have b0 : w1.heap[w.heap.size]? = some (.cells #[.int .i64 (re), .int .i64 (im), .int .i64 (den)] 23) := blk_next hb (blk_alloc (blk_new w _) _)
  have b1 : w1.heap[w.heap.size + 1]? = some (.cells #[.int .i64 (0), .int .i64 (0), .int .i64 (0)] 23) := blk_next hb (blk_at _ (by simp))
  have NB : Hid (Below w.heap.size w w1) := Lib.hid (Bgo (Bal (Bal (Below.refl _ _) _) _) hb)
  clear hb
  have cb0_0 : w1.cell? ⟨w.heap.size, 0, none⟩ = some (.int .i64 (re)) := blk_cell b0 0 _ rfl
  have cfb0_0 : w1.frozen? ⟨w.heap.size, 0, none⟩ = false := blk_frozen b0 0
  have cb0_1 : w1.cell? ⟨w.heap.size, 1, none⟩ = some (.int .i64 (im)) := blk_cell b0 1 _ rfl
  have cfb0_1 : w1.frozen? ⟨w.heap.size, 1, none⟩ = false := blk_frozen b0 1
  have cb0_2 : w1.cell? ⟨w.heap.size, 2, none⟩ = some (.int .i64 (den)) := blk_cell b0 2 _ rfl
  have cfb0_2 : w1.frozen? ⟨w.heap.size, 2, none⟩ = false := blk_frozen b0 2
  have cb1_0 : w1.cell? ⟨w.heap.size + 1, 0, none⟩ = some (.int .i64 (0)) := blk_cell b1 0 _ rfl
  have cfb1_0 : w1.frozen? ⟨w.heap.size + 1, 0, none⟩ = false := blk_frozen b1 0
  have cb1_1 : w1.cell? ⟨w.heap.size + 1, 1, none⟩ = some (.int .i64 (0)) := blk_cell b1 1 _ rfl
  have cfb1_1 : w1.frozen? ⟨w.heap.size + 1, 1, none⟩ = false := blk_frozen b1 1
  have cb1_2 : w1.cell? ⟨w.heap.size + 1, 2, none⟩ = some (.int .i64 (0)) := blk_cell b1 2 _ rfl
  have cfb1_2 : w1.frozen? ⟨w.heap.size + 1, 2, none⟩ = false := blk_frozen b1 2
  go_wp2_with fail
  exact bodyPost_ret (v := Rv re (-im) den 0) (by simp [results, Tryd.results18, go_sem, *]) rfl ⟨rfl, by repeat (first | exact NB.out | refine Bset1 ?_ (by omega) _ _ | refine below_drewN ?_ _)⟩

def tRe (re im : Int) : Nat → Int
  | 0 => re
  | 1 => -im
  | 2 => -re
  | _ => im
def tIm (re im : Int) : Nat → Int
  | 0 => im
  | 1 => re
  | 2 => -im
  | _ => -re
theorem tRe_bd {re im : Int} (h1 : -1000000000 ≤ re) (h2 : re ≤ 1000000000) (h3 : -1000000000 ≤ im) (h4 : im ≤ 1000000000) (k : Nat) : -1000000000 ≤ tRe re im k ∧ tRe re im k ≤ 1000000000 := by
  unfold tRe; split <;> omega
theorem tIm_bd {re im : Int} (h1 : -1000000000 ≤ re) (h2 : re ≤ 1000000000) (h3 : -1000000000 ≤ im) (h4 : im ≤ 1000000000) (k : Nat) : -1000000000 ≤ tIm re im k ∧ tIm re im k ≤ 1000000000 := by
  unfold tIm; split <;> omega
theorem tRe_succ (re im : Int) (k : Nat) (h : k < 3) : tRe re im (k + 1) = -(tIm re im k) := by
  have : k = 0 ∨ k = 1 ∨ k = 2 := by omega
  rcases this with rfl | rfl | rfl <;> simp [tRe, tIm]
theorem tIm_succ (re im : Int) (k : Nat) (h : k < 3) : tIm re im (k + 1) = tRe re im k := by
  have : k = 0 ∨ k = 1 ∨ k = 2 := by omega
  rcases this with rfl | rfl | rfl <;> simp [tRe, tIm]
/- the number of quarters that are turned -/
def qn (q : Int) : Nat := ((q.tmod 4 + 4) % 4).toNat
theorem qn_eq (q : Int) : ((q.tmod 4 + 4) % 4) = (qn q : Int) := by
  unfold qn
  have := Int.emod_nonneg (q.tmod 4 + 4) (show (4 : Int) ≠ 0 by decide)
  omega
theorem qn_lt (q : Int) : qn q < 4 := by
  have := Int.emod_lt_of_pos (q.tmod 4 + 4) (show (0 : Int) < 4 by decide)
  have := qn_eq q
  omega
theorem tmod4 (q : Int) : -3 ≤ q.tmod 4 ∧ q.tmod 4 ≤ 3 := by
  have := tmod_bd q 4 (by decide)
  omega

set_option maxHeartbeats 400000 in
theorem turn_bad (re im den q : Int) (h : chkB re im den = false) (w : World) :
    Calls Tryd.prog 24 #[Cv re im den, .int .i64 q] w fun e w' => e = .returned (Rv 0 0 0 8) ∧ Below w.heap.size w w' := by
  have e1 := chkE_no h
  clear h
  go_enter Tryd.func24, Tryd.ntmps24
  go_wp2_with fail
  refine (check_calls re im den _).mono ?_
  rintro e w1 ⟨rfl, hb⟩
  have b0 : w1.heap[w.heap.size]? = some (.cells #[.int .i64 (re), .int .i64 (im), .int .i64 (den)] 23) := blk_next hb (blk_alloc (blk_new w _) _)
  have b1 : w1.heap[w.heap.size + 1]? = some (.cells #[.int .i64 (0), .int .i64 (0), .int .i64 (0)] 23) := blk_next hb (blk_at _ (by simp))
  have NB : Hid (Below w.heap.size w w1) := Lib.hid (Bgo (Bal (Bal (Below.refl _ _) _) _) hb)
  clear hb
  have cb0_0 : w1.cell? ⟨w.heap.size, 0, none⟩ = some (.int .i64 (re)) := blk_cell b0 0 _ rfl
  have cfb0_0 : w1.frozen? ⟨w.heap.size, 0, none⟩ = false := blk_frozen b0 0
  have cb0_1 : w1.cell? ⟨w.heap.size, 1, none⟩ = some (.int .i64 (im)) := blk_cell b0 1 _ rfl
  have cfb0_1 : w1.frozen? ⟨w.heap.size, 1, none⟩ = false := blk_frozen b0 1
  have cb0_2 : w1.cell? ⟨w.heap.size, 2, none⟩ = some (.int .i64 (den)) := blk_cell b0 2 _ rfl
  have cfb0_2 : w1.frozen? ⟨w.heap.size, 2, none⟩ = false := blk_frozen b0 2
  have cb1_0 : w1.cell? ⟨w.heap.size + 1, 0, none⟩ = some (.int .i64 (0)) := blk_cell b1 0 _ rfl
  have cfb1_0 : w1.frozen? ⟨w.heap.size + 1, 0, none⟩ = false := blk_frozen b1 0
  have cb1_1 : w1.cell? ⟨w.heap.size + 1, 1, none⟩ = some (.int .i64 (0)) := blk_cell b1 1 _ rfl
  have cfb1_1 : w1.frozen? ⟨w.heap.size + 1, 1, none⟩ = false := blk_frozen b1 1
  have cb1_2 : w1.cell? ⟨w.heap.size + 1, 2, none⟩ = some (.int .i64 (0)) := blk_cell b1 2 _ rfl
  have cfb1_2 : w1.frozen? ⟨w.heap.size + 1, 2, none⟩ = false := blk_frozen b1 2
  go_wp2_with fail
  exact bodyPost_ret (v := Rv 0 0 0 8) (by simp [results, Tryd.results24, go_sem, *]) rfl ⟨rfl, by repeat (first | exact NB.out | refine Bset1 ?_ (by omega) _ _ | refine below_drewN ?_ _)⟩

set_option maxHeartbeats 1000000 in
theorem turn_ok (re im den q : Int) (h : chkB re im den = true) (w : World) :
    Calls Tryd.prog 24 #[Cv re im den, .int .i64 q] w fun e w' => e = .returned (Rv (tRe re im (qn q)) (tIm re im (qn q)) den 0) ∧ Below w.heap.size w w' := by
  have e1 := chkE_yes h
  have B := chk_iff.1 h
  clear h
  obtain ⟨B1, B2, B3, _⟩ := B
  have q1 := tmod4 q
  have hq := qn_eq q
  have hl := qn_lt q
  generalize qn q = n at *
  go_enter Tryd.func24, Tryd.ntmps24
  go_wp2_with fail
  refine (check_calls re im den _).mono ?_
  rintro e w1 ⟨rfl, hb⟩
  have b0 : w1.heap[w.heap.size]? = some (.cells #[.int .i64 (re), .int .i64 (im), .int .i64 (den)] 23) := blk_next hb (blk_alloc (blk_new w _) _)
  have b1 : w1.heap[w.heap.size + 1]? = some (.cells #[.int .i64 (0), .int .i64 (0), .int .i64 (0)] 23) := blk_next hb (blk_at _ (by simp))
  have NB : Hid (Below w.heap.size w w1) := Lib.hid (Bgo (Bal (Bal (Below.refl _ _) _) _) hb)
  clear hb
  have cb0_0 : w1.cell? ⟨w.heap.size, 0, none⟩ = some (.int .i64 (re)) := blk_cell b0 0 _ rfl
  have cfb0_0 : w1.frozen? ⟨w.heap.size, 0, none⟩ = false := blk_frozen b0 0
  have cb0_1 : w1.cell? ⟨w.heap.size, 1, none⟩ = some (.int .i64 (im)) := blk_cell b0 1 _ rfl
  have cfb0_1 : w1.frozen? ⟨w.heap.size, 1, none⟩ = false := blk_frozen b0 1
  have cb0_2 : w1.cell? ⟨w.heap.size, 2, none⟩ = some (.int .i64 (den)) := blk_cell b0 2 _ rfl
  have cfb0_2 : w1.frozen? ⟨w.heap.size, 2, none⟩ = false := blk_frozen b0 2
  have cb1_0 : w1.cell? ⟨w.heap.size + 1, 0, none⟩ = some (.int .i64 (0)) := blk_cell b1 0 _ rfl
  have cfb1_0 : w1.frozen? ⟨w.heap.size + 1, 0, none⟩ = false := blk_frozen b1 0
  have cb1_1 : w1.cell? ⟨w.heap.size + 1, 1, none⟩ = some (.int .i64 (0)) := blk_cell b1 1 _ rfl
  have cfb1_1 : w1.frozen? ⟨w.heap.size + 1, 1, none⟩ = false := blk_frozen b1 1
  have cb1_2 : w1.cell? ⟨w.heap.size + 1, 2, none⟩ = some (.int .i64 (0)) := blk_cell b1 2 _ rfl
  have cfb1_2 : w1.frozen? ⟨w.heap.size + 1, 2, none⟩ = false := blk_frozen b1 2
  go_wp2_with fail
  go_loopw [17] (fun i wr => ∃ k : Nat, k ≤ n ∧ i = .int .i64 k ∧ Below w.heap.size w wr ∧ wr.heap[w.heap.size]? = some (.cells #[.int .i64 (tRe re im k), .int .i64 (tIm re im k), .int .i64 (den)] 23) ∧ wr.heap[w.heap.size + 1]? = some (.cells #[.int .i64 (0), .int .i64 (0), .int .i64 (0)] 23)) (fun i _ => 4 - (intOf i).toNat)
  case atStart => exact ⟨0, by omega, rfl, NB.out, b0, b1⟩
  case round =>
    obtain ⟨k, hk, rfl, hbr, d0, d1⟩ := hrel
    clear b0 b1 cb0_0 cb1_0 cfb0_0 cfb1_0 cb0_1 cb1_1 cfb0_1 cfb1_1 cb0_2 cb1_2 cfb0_2 cfb1_2
    have x1 := tRe_bd B2.1 B2.2 B3.1 B3.2 k
    have x2 := tIm_bd B2.1 B2.2 B3.1 B3.2 k
    have BR := Lib.hid hbr
    have D0 := Lib.hid d0
    have D1 := Lib.hid d1
    have cd0_0 : wr.cell? ⟨w.heap.size, 0, none⟩ = some (.int .i64 (tRe re im k)) := blk_cell d0 0 _ rfl
    have cfd0_0 : wr.frozen? ⟨w.heap.size, 0, none⟩ = false := blk_frozen d0 0
    have cd0_1 : wr.cell? ⟨w.heap.size, 1, none⟩ = some (.int .i64 (tIm re im k)) := blk_cell d0 1 _ rfl
    have cfd0_1 : wr.frozen? ⟨w.heap.size, 1, none⟩ = false := blk_frozen d0 1
    have cd0_2 : wr.cell? ⟨w.heap.size, 2, none⟩ = some (.int .i64 (den)) := blk_cell d0 2 _ rfl
    have cfd0_2 : wr.frozen? ⟨w.heap.size, 2, none⟩ = false := blk_frozen d0 2
    have cd1_0 : wr.cell? ⟨w.heap.size + 1, 0, none⟩ = some (.int .i64 (0)) := blk_cell d1 0 _ rfl
    have cfd1_0 : wr.frozen? ⟨w.heap.size + 1, 0, none⟩ = false := blk_frozen d1 0
    have cd1_1 : wr.cell? ⟨w.heap.size + 1, 1, none⟩ = some (.int .i64 (0)) := blk_cell d1 1 _ rfl
    have cfd1_1 : wr.frozen? ⟨w.heap.size + 1, 1, none⟩ = false := blk_frozen d1 1
    have cd1_2 : wr.cell? ⟨w.heap.size + 1, 2, none⟩ = some (.int .i64 (0)) := blk_cell d1 2 _ rfl
    have cfd1_2 : wr.frozen? ⟨w.heap.size + 1, 2, none⟩ = false := blk_frozen d1 2
    clear d0 d1 hbr
    by_cases hlt : k < n
    · have s1 := Lib.hid (tRe_succ re im k (by omega))
      have s2 := Lib.hid (tIm_succ re im k (by omega))
      generalize tRe re im k = X at *
      generalize tIm re im k = Y at *
      go_wp2_with fail
      refine ⟨⟨k + 1, by omega, by go_num, by repeat (first | exact BR.out | refine Bset1 ?_ (by omega) _ _ | refine below_drewN ?_ _), ?_, ?_⟩, by simp [intOf]; omega⟩
      · rw [s1.out, s2.out]
        exact blk_set (blk_set D0.out 0 _) 1 _
      · exact blk_set_other (blk_set_other D1.out (by omega) 0 _) (by omega) 1 _
    · obtain rfl : k = n := by omega
      generalize hX : tRe re im k = X at *
      generalize hY : tIm re im k = Y at *
      have HX := Lib.hid hX
      have HY := Lib.hid hY
      clear hX hY
      go_wp2_with fail
      exact bodyPost_ret (v := Rv X Y den 0) (by simp [results, Tryd.results24, go_sem, *]) rfl ⟨by rw [HX.out, HY.out], by repeat (first | exact BR.out | refine Bset1 ?_ (by omega) _ _ | refine below_drewN ?_ _)⟩

end Go.Proofs.YtbbjclbpllfdeaaDoor
