/- Contracts: norms and rays, of the program and of the reference. -/
import Derived.Test.YtbbjclbpllfdeaaDoorBlk
import Derived.Test.YtbbjclbpllfdeaaDoorCxp
import Derived.RegionTactic
namespace Go.Proofs.YtbbjclbpllfdeaaDoor
open Go.ChangeShapes Go.WideShapes Go.ChangeAt Go.RowKit Cxm
set_option linter.unusedVariables false

abbrev Fv (n d e : Int) : Value := .tuple #[.agg #[.int .i64 n, .int .i64 d], .int .i64 e]
theorem Bset2 {w W : World} (h : Below w.heap.size w W) {B : Nat} (hB : w.heap.size ≤ B) (x y : Value) : Below w.heap.size w ((W.setCell ⟨B, 0, none⟩ x).setCell ⟨B, 1, none⟩ y) := (h.setCell hB x).setCell hB y
set_option maxHeartbeats 400000 in
theorem norm_bad (re im den : Int) (h : chkB re im den = false) (w : World) :
    Calls Tryd.prog 19 #[Cv re im den] w fun e w' => e = .returned (Fv 0 0 8) ∧ Below w.heap.size w w' := by
  have e1 := chkE_no h
  clear h
  go_enter Tryd.func19, Tryd.ntmps19
  go_wp2_with fail
  refine (check_calls re im den _).mono ?_
  rintro e w1 ⟨rfl, hb⟩
  have b0 : w1.heap[w.heap.size]? = some (.cells #[.int .i64 (re), .int .i64 (im), .int .i64 (den)] 23) := blk_next hb (blk_alloc (blk_new w _) _)
  have b1 : w1.heap[w.heap.size + 1]? = some (.cells #[.int .i64 (0), .int .i64 (0)] 41) := blk_next hb (blk_at _ (by simp))
  have NB : Hid (Below w.heap.size w w1) := Lib.hid (Bgo (Bal (Bal (Below.refl _ _) _) _) hb)
  clear hb
  have cb0_0 : w1.cell? ⟨w.heap.size, 0, none⟩ = some (.int .i64 (re)) := blk_cell b0 0 _ rfl
  have cfb0_0 : w1.frozen? ⟨w.heap.size, 0, none⟩ = false := blk_frozen b0 0
  have cb0_1 : w1.cell? ⟨w.heap.size, 1, none⟩ = some (.int .i64 (im)) := blk_cell b0 1 _ rfl
  have cfb0_1 : w1.frozen? ⟨w.heap.size, 1, none⟩ = false := blk_frozen b0 1
  have cb0_2 : w1.cell? ⟨w.heap.size, 2, none⟩ = some (.int .i64 (den)) := blk_cell b0 2 _ rfl
  have cfb0_2 : w1.frozen? ⟨w.heap.size, 2, none⟩ = false := blk_frozen b0 2
  have cb1_0 : w1.cell? ⟨w.heap.size + 1, 0, none⟩ = some (.int .i64 (0)) := blk_cell b1 0 _ rfl
  have cfb1_0 : w1.frozen? ⟨w.heap.size + 1, 0, none⟩ = false := blk_frozen b1 0
  have cb1_1 : w1.cell? ⟨w.heap.size + 1, 1, none⟩ = some (.int .i64 (0)) := blk_cell b1 1 _ rfl
  have cfb1_1 : w1.frozen? ⟨w.heap.size + 1, 1, none⟩ = false := blk_frozen b1 1
  go_wp2_with fail
  exact bodyPost_ret (v := Fv 0 0 8) (by simp [results, Tryd.results19, go_sem, *]) rfl ⟨rfl, by repeat (first | exact NB.out | refine Bset1 ?_ (by omega) _ _ | refine below_drewN ?_ _)⟩

set_option maxHeartbeats 1000000 in
theorem norm_ok (re im den n d g x y : Int) (h : chkB re im den = true) (tn : re * re + im * im = n) (td : den * den = d) (tg : g2 n d = g) (tx : n.tdiv g = x) (ty : d.tdiv g = y) (hbig : x ≤ 1000000000000000000) (w : World) :
    Calls Tryd.prog 19 #[Cv re im den] w fun e w' => e = .returned (Fv x y 0) ∧ Below w.heap.size w w' := by
  have e1 := chkE_yes h
  have B := chk_iff.1 h
  clear h
  obtain ⟨B1, B2, B3, _⟩ := B
  have m1 := mul_bd9 (a := re) (b := re) (by omega) (by omega) (by omega) (by omega)
  have m2 := mul_bd9 (a := im) (b := im) (by omega) (by omega) (by omega) (by omega)
  have m3 := mul_bd9 (a := den) (b := den) (by omega) (by omega) (by omega) (by omega)
  have s1 := sq_nonneg re
  have s2 := sq_nonneg im
  have s3 : 1 ≤ den * den := by
    have := Int.mul_le_mul B1.1 B1.1 (by omega) (by omega)
    omega
  have bn : 0 ≤ n ∧ n ≤ 2000000000000000000 := by omega
  have bd : 1 ≤ d ∧ d ≤ 1000000000000000000 := by omega
  have bg : 1 ≤ g := by rw [← tg]; exact g2_pos (.inr (by omega))
  have bg2 : g ≤ 2000000000000000000 := by rw [← tg]; exact g2_bd n d _ (by omega) (by omega)
  have bx := tdiv_le (a := n) (g := g) (K := 2000000000000000000) (by omega)
  have by' := tdiv_le (a := d) (g := g) (K := 1000000000000000000) (by omega)
  rw [tx] at bx
  rw [ty] at by'
  have tx' : n / g = x := by rw [← tx, Int.tdiv_eq_ediv_of_nonneg (by omega)]
  have ty' : d / g = y := by rw [← ty, Int.tdiv_eq_ediv_of_nonneg (by omega)]
  have u1 : IntKind.i64.wrap (re * re) = re * re := IntWalk.i64_in _ (by omega)
  have u2 : IntKind.i64.wrap (im * im) = im * im := IntWalk.i64_in _ (by omega)
  have u3 : IntKind.i64.wrap d = d := IntWalk.i64_in _ (by omega)
  have u4 : IntKind.i64.wrap n = n := IntWalk.i64_in _ (by omega)
  have u5 : IntKind.i64.wrap x = x := IntWalk.i64_in _ (by omega)
  have u6 : IntKind.i64.wrap y = y := IntWalk.i64_in _ (by omega)
  go_enter Tryd.func19, Tryd.ntmps19
  go_wp2_with fail
  refine (check_calls re im den _).mono ?_
  rintro e w1 ⟨rfl, hb⟩
  have b0 : w1.heap[w.heap.size]? = some (.cells #[.int .i64 (re), .int .i64 (im), .int .i64 (den)] 23) := blk_next hb (blk_alloc (blk_new w _) _)
  have b1 : w1.heap[w.heap.size + 1]? = some (.cells #[.int .i64 (0), .int .i64 (0)] 41) := blk_next hb (blk_at _ (by simp))
  have NB : Hid (Below w.heap.size w w1) := Lib.hid (Bgo (Bal (Bal (Below.refl _ _) _) _) hb)
  clear hb
  have cb0_0 : w1.cell? ⟨w.heap.size, 0, none⟩ = some (.int .i64 (re)) := blk_cell b0 0 _ rfl
  have cfb0_0 : w1.frozen? ⟨w.heap.size, 0, none⟩ = false := blk_frozen b0 0
  have cb0_1 : w1.cell? ⟨w.heap.size, 1, none⟩ = some (.int .i64 (im)) := blk_cell b0 1 _ rfl
  have cfb0_1 : w1.frozen? ⟨w.heap.size, 1, none⟩ = false := blk_frozen b0 1
  have cb0_2 : w1.cell? ⟨w.heap.size, 2, none⟩ = some (.int .i64 (den)) := blk_cell b0 2 _ rfl
  have cfb0_2 : w1.frozen? ⟨w.heap.size, 2, none⟩ = false := blk_frozen b0 2
  have cb1_0 : w1.cell? ⟨w.heap.size + 1, 0, none⟩ = some (.int .i64 (0)) := blk_cell b1 0 _ rfl
  have cfb1_0 : w1.frozen? ⟨w.heap.size + 1, 0, none⟩ = false := blk_frozen b1 0
  have cb1_1 : w1.cell? ⟨w.heap.size + 1, 1, none⟩ = some (.int .i64 (0)) := blk_cell b1 1 _ rfl
  have cfb1_1 : w1.frozen? ⟨w.heap.size + 1, 1, none⟩ = false := blk_frozen b1 1
  go_wp2_with fail
  go_quiet (fail)
  go_wp2_with fail
  refine (gcd_calls n d (by omega) (by omega) (by omega) (by omega) _).mono ?_
  rintro e w' ⟨rfl, m, rfl⟩
  go_wp2_with fail
  go_quiet (fail)
  go_wp2_with fail
  exact bodyPost_ret (v := Fv x y 0) (by simp [results, Tryd.results19, go_sem, cb1_0, cb1_1]) rfl ⟨rfl, by repeat (first | exact NB.out | refine Bset1 ?_ (by omega) _ _ | refine below_drewN ?_ _ | refine Below.drew ?_)⟩

set_option maxHeartbeats 1000000 in
theorem norm_big (re im den n d g x y : Int) (h : chkB re im den = true) (tn : re * re + im * im = n) (td : den * den = d) (tg : g2 n d = g) (tx : n.tdiv g = x) (ty : d.tdiv g = y) (hbig : 1000000000000000000 < x) (w : World) :
    Calls Tryd.prog 19 #[Cv re im den] w fun e w' => e = .returned (Fv 0 0 16) ∧ Below w.heap.size w w' := by
  have e1 := chkE_yes h
  have B := chk_iff.1 h
  clear h
  obtain ⟨B1, B2, B3, _⟩ := B
  have m1 := mul_bd9 (a := re) (b := re) (by omega) (by omega) (by omega) (by omega)
  have m2 := mul_bd9 (a := im) (b := im) (by omega) (by omega) (by omega) (by omega)
  have m3 := mul_bd9 (a := den) (b := den) (by omega) (by omega) (by omega) (by omega)
  have s1 := sq_nonneg re
  have s2 := sq_nonneg im
  have s3 : 1 ≤ den * den := by
    have := Int.mul_le_mul B1.1 B1.1 (by omega) (by omega)
    omega
  have bn : 0 ≤ n ∧ n ≤ 2000000000000000000 := by omega
  have bd : 1 ≤ d ∧ d ≤ 1000000000000000000 := by omega
  have bg : 1 ≤ g := by rw [← tg]; exact g2_pos (.inr (by omega))
  have bg2 : g ≤ 2000000000000000000 := by rw [← tg]; exact g2_bd n d _ (by omega) (by omega)
  have bx := tdiv_le (a := n) (g := g) (K := 2000000000000000000) (by omega)
  have by' := tdiv_le (a := d) (g := g) (K := 1000000000000000000) (by omega)
  rw [tx] at bx
  rw [ty] at by'
  have tx' : n / g = x := by rw [← tx, Int.tdiv_eq_ediv_of_nonneg (by omega)]
  have ty' : d / g = y := by rw [← ty, Int.tdiv_eq_ediv_of_nonneg (by omega)]
  have u1 : IntKind.i64.wrap (re * re) = re * re := IntWalk.i64_in _ (by omega)
  have u2 : IntKind.i64.wrap (im * im) = im * im := IntWalk.i64_in _ (by omega)
  have u3 : IntKind.i64.wrap d = d := IntWalk.i64_in _ (by omega)
  have u4 : IntKind.i64.wrap n = n := IntWalk.i64_in _ (by omega)
  have u5 : IntKind.i64.wrap x = x := IntWalk.i64_in _ (by omega)
  have u6 : IntKind.i64.wrap y = y := IntWalk.i64_in _ (by omega)
  go_enter Tryd.func19, Tryd.ntmps19
  go_wp2_with fail
  refine (check_calls re im den _).mono ?_
  rintro e w1 ⟨rfl, hb⟩
  have b0 : w1.heap[w.heap.size]? = some (.cells #[.int .i64 (re), .int .i64 (im), .int .i64 (den)] 23) := blk_next hb (blk_alloc (blk_new w _) _)
  have b1 : w1.heap[w.heap.size + 1]? = some (.cells #[.int .i64 (0), .int .i64 (0)] 41) := blk_next hb (blk_at _ (by simp))
  have NB : Hid (Below w.heap.size w w1) := Lib.hid (Bgo (Bal (Bal (Below.refl _ _) _) _) hb)
  clear hb
  have cb0_0 : w1.cell? ⟨w.heap.size, 0, none⟩ = some (.int .i64 (re)) := blk_cell b0 0 _ rfl
  have cfb0_0 : w1.frozen? ⟨w.heap.size, 0, none⟩ = false := blk_frozen b0 0
  have cb0_1 : w1.cell? ⟨w.heap.size, 1, none⟩ = some (.int .i64 (im)) := blk_cell b0 1 _ rfl
  have cfb0_1 : w1.frozen? ⟨w.heap.size, 1, none⟩ = false := blk_frozen b0 1
  have cb0_2 : w1.cell? ⟨w.heap.size, 2, none⟩ = some (.int .i64 (den)) := blk_cell b0 2 _ rfl
  have cfb0_2 : w1.frozen? ⟨w.heap.size, 2, none⟩ = false := blk_frozen b0 2
  have cb1_0 : w1.cell? ⟨w.heap.size + 1, 0, none⟩ = some (.int .i64 (0)) := blk_cell b1 0 _ rfl
  have cfb1_0 : w1.frozen? ⟨w.heap.size + 1, 0, none⟩ = false := blk_frozen b1 0
  have cb1_1 : w1.cell? ⟨w.heap.size + 1, 1, none⟩ = some (.int .i64 (0)) := blk_cell b1 1 _ rfl
  have cfb1_1 : w1.frozen? ⟨w.heap.size + 1, 1, none⟩ = false := blk_frozen b1 1
  go_wp2_with fail
  go_quiet (fail)
  go_wp2_with fail
  refine (gcd_calls n d (by omega) (by omega) (by omega) (by omega) _).mono ?_
  rintro e w' ⟨rfl, m, rfl⟩
  go_wp2_with fail
  go_quiet (fail)
  go_wp2_with fail
  exact bodyPost_ret (v := Fv 0 0 16) (by simp [results, Tryd.results19, go_sem, cb1_0, cb1_1]) rfl ⟨rfl, by repeat (first | exact NB.out | refine Bset1 ?_ (by omega) _ _ | refine below_drewN ?_ _ | refine Below.drew ?_)⟩

set_option maxHeartbeats 400000 in
theorem ray_bad (re im den : Int) (h : chkB re im den = false) (w : World) :
    Calls Tryd.prog 25 #[Cv re im den] w fun e w' => e = .returned (Rv 0 0 0 8) ∧ Below w.heap.size w w' := by
  have e1 := chkE_no h
  clear h
  go_enter Tryd.func25, Tryd.ntmps25
  go_wp2_with fail
  refine (check_calls re im den _).mono ?_
  rintro e w1 ⟨rfl, hb⟩
  have b0 : w1.heap[w.heap.size]? = some (.cells #[.int .i64 (re), .int .i64 (im), .int .i64 (den)] 23) := blk_next hb (blk_alloc (blk_new w _) _)
  have b1 : w1.heap[w.heap.size + 1]? = some (.cells #[.int .i64 (0), .int .i64 (0), .int .i64 (0)] 23) := blk_next hb (blk_at _ (by simp))
  have NB : Hid (Below w.heap.size w w1) := Lib.hid (Bgo (Bal (Bal (Below.refl _ _) _) _) hb)
  clear hb
  have cb0_0 : w1.cell? ⟨w.heap.size, 0, none⟩ = some (.int .i64 (re)) := blk_cell b0 0 _ rfl
  have cfb0_0 : w1.frozen? ⟨w.heap.size, 0, none⟩ = false := blk_frozen b0 0
  have cb0_1 : w1.cell? ⟨w.heap.size, 1, none⟩ = some (.int .i64 (im)) := blk_cell b0 1 _ rfl
  have cfb0_1 : w1.frozen? ⟨w.heap.size, 1, none⟩ = false := blk_frozen b0 1
  have cb0_2 : w1.cell? ⟨w.heap.size, 2, none⟩ = some (.int .i64 (den)) := blk_cell b0 2 _ rfl
  have cfb0_2 : w1.frozen? ⟨w.heap.size, 2, none⟩ = false := blk_frozen b0 2
  have cb1_0 : w1.cell? ⟨w.heap.size + 1, 0, none⟩ = some (.int .i64 (0)) := blk_cell b1 0 _ rfl
  have cfb1_0 : w1.frozen? ⟨w.heap.size + 1, 0, none⟩ = false := blk_frozen b1 0
  have cb1_1 : w1.cell? ⟨w.heap.size + 1, 1, none⟩ = some (.int .i64 (0)) := blk_cell b1 1 _ rfl
  have cfb1_1 : w1.frozen? ⟨w.heap.size + 1, 1, none⟩ = false := blk_frozen b1 1
  have cb1_2 : w1.cell? ⟨w.heap.size + 1, 2, none⟩ = some (.int .i64 (0)) := blk_cell b1 2 _ rfl
  have cfb1_2 : w1.frozen? ⟨w.heap.size + 1, 2, none⟩ = false := blk_frozen b1 2
  go_wp2_with fail
  exact bodyPost_ret (v := Rv 0 0 0 8) (by simp [results, Tryd.results25, go_sem, *]) rfl ⟨rfl, by repeat (first | exact NB.out | refine Bset1 ?_ (by omega) _ _ | refine below_drewN ?_ _)⟩

set_option maxHeartbeats 1000000 in
theorem ray_zero (re im den : Int) (h : chkB re im den = true) (hz : isZ re im = true) (w : World) :
    Calls Tryd.prog 25 #[Cv re im den] w fun e w' => e = .returned (Rv 0 0 0 18) ∧ Below w.heap.size w w' := by
  have e1 := chkE_yes h
  clear h
  go_enter Tryd.func25, Tryd.ntmps25
  go_wp2_with fail
  refine (check_calls re im den _).mono ?_
  rintro e w1 ⟨rfl, hb⟩
  have b0 : w1.heap[w.heap.size]? = some (.cells #[.int .i64 (re), .int .i64 (im), .int .i64 (den)] 23) := blk_next hb (blk_alloc (blk_new w _) _)
  have b1 : w1.heap[w.heap.size + 1]? = some (.cells #[.int .i64 (0), .int .i64 (0), .int .i64 (0)] 23) := blk_next hb (blk_at _ (by simp))
  have NB : Hid (Below w.heap.size w w1) := Lib.hid (Bgo (Bal (Bal (Below.refl _ _) _) _) hb)
  clear hb
  have cb0_0 : w1.cell? ⟨w.heap.size, 0, none⟩ = some (.int .i64 (re)) := blk_cell b0 0 _ rfl
  have cfb0_0 : w1.frozen? ⟨w.heap.size, 0, none⟩ = false := blk_frozen b0 0
  have cb0_1 : w1.cell? ⟨w.heap.size, 1, none⟩ = some (.int .i64 (im)) := blk_cell b0 1 _ rfl
  have cfb0_1 : w1.frozen? ⟨w.heap.size, 1, none⟩ = false := blk_frozen b0 1
  have cb0_2 : w1.cell? ⟨w.heap.size, 2, none⟩ = some (.int .i64 (den)) := blk_cell b0 2 _ rfl
  have cfb0_2 : w1.frozen? ⟨w.heap.size, 2, none⟩ = false := blk_frozen b0 2
  have cb1_0 : w1.cell? ⟨w.heap.size + 1, 0, none⟩ = some (.int .i64 (0)) := blk_cell b1 0 _ rfl
  have cfb1_0 : w1.frozen? ⟨w.heap.size + 1, 0, none⟩ = false := blk_frozen b1 0
  have cb1_1 : w1.cell? ⟨w.heap.size + 1, 1, none⟩ = some (.int .i64 (0)) := blk_cell b1 1 _ rfl
  have cfb1_1 : w1.frozen? ⟨w.heap.size + 1, 1, none⟩ = false := blk_frozen b1 1
  have cb1_2 : w1.cell? ⟨w.heap.size + 1, 2, none⟩ = some (.int .i64 (0)) := blk_cell b1 2 _ rfl
  have cfb1_2 : w1.frozen? ⟨w.heap.size + 1, 2, none⟩ = false := blk_frozen b1 2
  go_wp2_with fail
  refine (isZero_calls re im den _).mono ?_
  rintro e w2 ⟨rfl, hb2⟩
  have a0 : w2.heap[w.heap.size]? = some (.cells #[.int .i64 (re), .int .i64 (im), .int .i64 (den)] 23) := blk_next hb2 b0
  have a1 : w2.heap[w.heap.size + 1]? = some (.cells #[.int .i64 (0), .int .i64 (0), .int .i64 (0)] 23) := blk_next hb2 b1
  have NB2 : Hid (Below w.heap.size w w2) := Lib.hid (Bgo NB.out hb2)
  clear hb2 b0 b1 cb0_0 cb1_0 cfb0_0 cfb1_0 cb0_1 cb1_1 cfb0_1 cfb1_1 cb0_2 cb1_2 cfb0_2 cfb1_2
  have ca0_0 : w2.cell? ⟨w.heap.size, 0, none⟩ = some (.int .i64 (re)) := blk_cell a0 0 _ rfl
  have cfa0_0 : w2.frozen? ⟨w.heap.size, 0, none⟩ = false := blk_frozen a0 0
  have ca0_1 : w2.cell? ⟨w.heap.size, 1, none⟩ = some (.int .i64 (im)) := blk_cell a0 1 _ rfl
  have cfa0_1 : w2.frozen? ⟨w.heap.size, 1, none⟩ = false := blk_frozen a0 1
  have ca0_2 : w2.cell? ⟨w.heap.size, 2, none⟩ = some (.int .i64 (den)) := blk_cell a0 2 _ rfl
  have cfa0_2 : w2.frozen? ⟨w.heap.size, 2, none⟩ = false := blk_frozen a0 2
  have ca1_0 : w2.cell? ⟨w.heap.size + 1, 0, none⟩ = some (.int .i64 (0)) := blk_cell a1 0 _ rfl
  have cfa1_0 : w2.frozen? ⟨w.heap.size + 1, 0, none⟩ = false := blk_frozen a1 0
  have ca1_1 : w2.cell? ⟨w.heap.size + 1, 1, none⟩ = some (.int .i64 (0)) := blk_cell a1 1 _ rfl
  have cfa1_1 : w2.frozen? ⟨w.heap.size + 1, 1, none⟩ = false := blk_frozen a1 1
  have ca1_2 : w2.cell? ⟨w.heap.size + 1, 2, none⟩ = some (.int .i64 (0)) := blk_cell a1 2 _ rfl
  have cfa1_2 : w2.frozen? ⟨w.heap.size + 1, 2, none⟩ = false := blk_frozen a1 2
  go_wp2_with fail
  exact bodyPost_ret (v := Rv 0 0 0 18) (by simp [results, Tryd.results25, go_sem, ca1_0, ca1_1, ca1_2]) rfl ⟨rfl, by repeat (first | exact NB2.out | refine Bset1 ?_ (by omega) _ _ | refine below_drewN ?_ _ | refine Below.drew ?_)⟩

set_option maxHeartbeats 1000000 in
theorem ray_ok (re im den g x y : Int) (h : chkB re im den = true) (hz : isZ re im = false) (tg : g2 re im = g) (tx : re.tdiv g = x) (ty : im.tdiv g = y) (w : World) :
    Calls Tryd.prog 25 #[Cv re im den] w fun e w' => e = .returned (Rv x y 1 0) ∧ Below w.heap.size w w' := by
  have e1 := chkE_yes h
  have B := chk_iff.1 h
  clear h
  obtain ⟨B1, B2, B3, _⟩ := B
  have bg : 1 ≤ g := by
    rw [← tg]; apply g2_pos
    by_cases c : re = 0
    · right; intro c2; rw [c, c2] at hz; exact absurd hz (by decide)
    · exact .inl c
  have bg2 : g ≤ 1000000000 := by rw [← tg]; exact g2_bd re im _ (by omega) (by omega)
  have bx := tdiv_le (a := re) (g := g) (K := 1000000000) (by omega)
  have by' := tdiv_le (a := im) (g := g) (K := 1000000000) (by omega)
  rw [tx] at bx
  rw [ty] at by'
  have u5 : IntKind.i64.wrap x = x := IntWalk.i64_in _ (by omega)
  have u6 : IntKind.i64.wrap y = y := IntWalk.i64_in _ (by omega)
  go_enter Tryd.func25, Tryd.ntmps25
  go_wp2_with fail
  refine (check_calls re im den _).mono ?_
  rintro e w1 ⟨rfl, hb⟩
  have b0 : w1.heap[w.heap.size]? = some (.cells #[.int .i64 (re), .int .i64 (im), .int .i64 (den)] 23) := blk_next hb (blk_alloc (blk_new w _) _)
  have b1 : w1.heap[w.heap.size + 1]? = some (.cells #[.int .i64 (0), .int .i64 (0), .int .i64 (0)] 23) := blk_next hb (blk_at _ (by simp))
  have NB : Hid (Below w.heap.size w w1) := Lib.hid (Bgo (Bal (Bal (Below.refl _ _) _) _) hb)
  clear hb
  have cb0_0 : w1.cell? ⟨w.heap.size, 0, none⟩ = some (.int .i64 (re)) := blk_cell b0 0 _ rfl
  have cfb0_0 : w1.frozen? ⟨w.heap.size, 0, none⟩ = false := blk_frozen b0 0
  have cb0_1 : w1.cell? ⟨w.heap.size, 1, none⟩ = some (.int .i64 (im)) := blk_cell b0 1 _ rfl
  have cfb0_1 : w1.frozen? ⟨w.heap.size, 1, none⟩ = false := blk_frozen b0 1
  have cb0_2 : w1.cell? ⟨w.heap.size, 2, none⟩ = some (.int .i64 (den)) := blk_cell b0 2 _ rfl
  have cfb0_2 : w1.frozen? ⟨w.heap.size, 2, none⟩ = false := blk_frozen b0 2
  have cb1_0 : w1.cell? ⟨w.heap.size + 1, 0, none⟩ = some (.int .i64 (0)) := blk_cell b1 0 _ rfl
  have cfb1_0 : w1.frozen? ⟨w.heap.size + 1, 0, none⟩ = false := blk_frozen b1 0
  have cb1_1 : w1.cell? ⟨w.heap.size + 1, 1, none⟩ = some (.int .i64 (0)) := blk_cell b1 1 _ rfl
  have cfb1_1 : w1.frozen? ⟨w.heap.size + 1, 1, none⟩ = false := blk_frozen b1 1
  have cb1_2 : w1.cell? ⟨w.heap.size + 1, 2, none⟩ = some (.int .i64 (0)) := blk_cell b1 2 _ rfl
  have cfb1_2 : w1.frozen? ⟨w.heap.size + 1, 2, none⟩ = false := blk_frozen b1 2
  go_wp2_with fail
  refine (isZero_calls re im den _).mono ?_
  rintro e w2 ⟨rfl, hb2⟩
  have a0 : w2.heap[w.heap.size]? = some (.cells #[.int .i64 (re), .int .i64 (im), .int .i64 (den)] 23) := blk_next hb2 b0
  have a1 : w2.heap[w.heap.size + 1]? = some (.cells #[.int .i64 (0), .int .i64 (0), .int .i64 (0)] 23) := blk_next hb2 b1
  have NB2 : Hid (Below w.heap.size w w2) := Lib.hid (Bgo NB.out hb2)
  clear hb2 b0 b1 cb0_0 cb1_0 cfb0_0 cfb1_0 cb0_1 cb1_1 cfb0_1 cfb1_1 cb0_2 cb1_2 cfb0_2 cfb1_2
  have ca0_0 : w2.cell? ⟨w.heap.size, 0, none⟩ = some (.int .i64 (re)) := blk_cell a0 0 _ rfl
  have cfa0_0 : w2.frozen? ⟨w.heap.size, 0, none⟩ = false := blk_frozen a0 0
  have ca0_1 : w2.cell? ⟨w.heap.size, 1, none⟩ = some (.int .i64 (im)) := blk_cell a0 1 _ rfl
  have cfa0_1 : w2.frozen? ⟨w.heap.size, 1, none⟩ = false := blk_frozen a0 1
  have ca0_2 : w2.cell? ⟨w.heap.size, 2, none⟩ = some (.int .i64 (den)) := blk_cell a0 2 _ rfl
  have cfa0_2 : w2.frozen? ⟨w.heap.size, 2, none⟩ = false := blk_frozen a0 2
  have ca1_0 : w2.cell? ⟨w.heap.size + 1, 0, none⟩ = some (.int .i64 (0)) := blk_cell a1 0 _ rfl
  have cfa1_0 : w2.frozen? ⟨w.heap.size + 1, 0, none⟩ = false := blk_frozen a1 0
  have ca1_1 : w2.cell? ⟨w.heap.size + 1, 1, none⟩ = some (.int .i64 (0)) := blk_cell a1 1 _ rfl
  have cfa1_1 : w2.frozen? ⟨w.heap.size + 1, 1, none⟩ = false := blk_frozen a1 1
  have ca1_2 : w2.cell? ⟨w.heap.size + 1, 2, none⟩ = some (.int .i64 (0)) := blk_cell a1 2 _ rfl
  have cfa1_2 : w2.frozen? ⟨w.heap.size + 1, 2, none⟩ = false := blk_frozen a1 2
  go_wp2_with fail
  refine (gcd_calls re im (by omega) (by omega) (by omega) (by omega) _).mono ?_
  rintro e w' ⟨rfl, m, rfl⟩
  go_wp2_with fail
  go_region
  go_wp2_with fail
  exact bodyPost_ret (v := Rv x y 1 0) (by simp [results, Tryd.results25, go_sem, ca1_0, ca1_1, ca1_2]) rfl ⟨rfl, by repeat (first | exact NB2.out | refine Bset1 ?_ (by omega) _ _ | refine below_drewN ?_ _ | refine Below.drew ?_)⟩

theorem refZero_calls (re im den : Int) (w : World) :
    Calls Tryd.prog 23 #[Cv re im den] w fun e w' => e = .returned (.bool (isZ re im)) ∧ Below w.heap.size w w' := by
  generalize hz : isZ re im = z
  have HZ := Lib.hid hz
  clear hz
  cases c1 : (re == 0)
  · have F : Hid (z = false) := Lib.hid (by rw [← HZ.out]; unfold isZ; rw [c1]; rfl)
    go_enter Tryd.func23, Tryd.ntmps23
    go_wp2
    go_ret
    exact ⟨by rw [F.out]; rfl, Bal (Below.refl _ _) _⟩
  · have F : Hid (z = (im == 0)) := Lib.hid (by rw [← HZ.out]; unfold isZ; rw [c1]; rfl)
    go_enter Tryd.func23, Tryd.ntmps23
    go_wp2
    go_ret
    exact ⟨by rw [F.out]; rfl, Bal (Below.refl _ _) _⟩

end Go.Proofs.YtbbjclbpllfdeaaDoor
