/- For every input the law CxSums returns true and leaves its arguments as they were. -/
import Derived.Test.YtbbjclbpllfdeaaRows
import Derived.Test.YtbbjclbpllfdeaaBlk
import Derived.Test.YtbbjclbpllfdeaaCxq
import Derived.Test.YtbbjclbpllfdeaaCxr
import Derived.Deep.RegionHeld3
import Derived.WalkKit
import Derived.ProofKit
import Derived.OpenShut
import Derived.ShutString
import Derived.ChangeOld
import Derived.Below
import Derived.Lib.SmallJoins
namespace Go.Proofs.Ytbbjclbpllfdeaa.cxSums
open Go.ChangeShapes Go.WideShapes Go.ChangeAt Go.RowKit Go.Joins
open Go.ChangeMaps (open_string shut_string)
open Cxm
set_option linter.unusedVariables false

theorem own : ownKnob Try.prog.godebug = none := by kernel_rfl
theorem laidOut : laidOutB Try.prog = true := by kernel_rfl

theorem div_both (ar ai ad br bi bd : Int) : ∃ r i d er : Int, (∀ w, Calls Try.prog 11 #[Cv ar ai ad, Cv br bi bd] w fun e w' => e = .returned (Rv r i d er) ∧ Below w.heap.size w w') ∧ (∀ w, Calls Try.prog 12 #[Cv ar ai ad, Cv br bi bd] w fun e w' => e = .returned (Rv r i d er) ∧ Below w.heap.size w w') := by
  by_cases h : chkB ar ai ad = true ∧ chkB br bi bd = true
  · cases hz : isZ br bi
    · obtain ⟨B1, B2⟩ := prods h.1 h.2
      have m1 := mul_bd9 (a := ar) (b := br) (by omega) (by omega) (by omega) (by omega)
      have m2 := mul_bd9 (a := ai) (b := bi) (by omega) (by omega) (by omega) (by omega)
      have m3 := mul_bd9 (a := ai) (b := br) (by omega) (by omega) (by omega) (by omega)
      have m4 := mul_bd9 (a := ar) (b := bi) (by omega) (by omega) (by omega) (by omega)
      have m5 := mul_bd9 (a := br) (b := br) (by omega) (by omega) (by omega) (by omega)
      have m6 := mul_bd9 (a := bi) (b := bi) (by omega) (by omega) (by omega) (by omega)
      have s1 := sq_nonneg br
      have s2 := sq_nonneg bi
      have hn : 1 ≤ br * br + bi * bi := by
        have : ¬ (br = 0 ∧ bi = 0) := by
          intro hh
          rw [hh.1, hh.2] at hz; exact absurd hz (by decide)
        by_cases hb : br = 0
        · have hb2 : bi ≠ 0 := fun e => this ⟨hb, e⟩
          have : bi * bi ≠ 0 := Int.mul_ne_zero hb2 hb2
          omega
        · have : br * br ≠ 0 := Int.mul_ne_zero hb hb
          omega
      obtain ⟨g, p1, q1, n1, hh, d1, e1, k, p2, q2, e2, l, d2, n2, N⟩ := divN (p := ar * br + ai * bi) (q := ai * br - ar * bi) (n := br * br + bi * bi) (d := bd) (e := ad) (by omega) (by omega) (by omega) (by omega) (by omega)
      rcases hm : divR p2 q2 n2 d2 e2 with ⟨r, i, d, er⟩
      exact ⟨r, i, d, er, fun w => div_ok ar ai ad br bi bd _ _ _ g p1 q1 n1 hh d1 e1 k p2 q2 e2 l d2 n2 r i d er h.1 h.2 hz rfl rfl rfl N hm w, fun w => refDiv_ok ar ai ad br bi bd _ _ _ g p1 q1 n1 hh d1 e1 k p2 q2 e2 l d2 n2 r i d er h.1 h.2 hz rfl rfl rfl N hm w⟩
    · exact ⟨0, 0, 0, 18, fun w => div_zero ar ai ad br bi bd h.1 h.2 hz w, fun w => refDiv_zero ar ai ad br bi bd h.1 h.2 hz w⟩
  · exact ⟨0, 0, 0, 8, fun w => div_bad ar ai ad br bi bd h w, fun w => refDiv_bad ar ai ad br bi bd h w⟩

set_option maxHeartbeats 4000000 in
set_option maxRecDepth 100000 in
theorem walk (ar ai ad br bi bd : Int) (w : World) :
    Calls Try.prog 3 #[Cv ar ai ad, Cv br bi bd] w fun e w' => e = .returned (.bool true) ∧ Below w.heap.size w w' := by
  rcases hs1 : sumS ar ai ad br bi bd with ⟨r1, i1, d1, e1⟩
  rcases hs2 : subS ar ai ad br bi bd with ⟨r2, i2, d2, e2⟩
  rcases hs3 : mulS ar ai ad br bi bd with ⟨r3, i3, d3, e3⟩
  obtain ⟨r4, i4, d4, e4, hs4, hs5⟩ := div_both ar ai ad br bi bd
  have S1 := Lib.hid hs1
  have S2 := Lib.hid hs2
  have S3 := Lib.hid hs3
  have S4 := Lib.hid hs4
  have S5 := Lib.hid hs5
  clear hs1 hs2 hs3 hs4 hs5
  go_enter Try.func3, Try.ntmps3
  go_wp2_with fail
  refine (add_calls ar ai ad br bi bd r1 i1 d1 e1 S1.out _).mono ?_
  rintro e w1 ⟨rfl, hb1⟩
  have b1_0 : w1.heap[w.heap.size]? = some (.cells #[.int .i64 ar, .int .i64 ai, .int .i64 ad] 23) := blk_next hb1 (blk_alloc (blk_new w _) _)
  have b1_1 : w1.heap[(w.heap.size + 1)]? = some (.cells #[.int .i64 br, .int .i64 bi, .int .i64 bd] 23) := blk_next hb1 (blk_at _ (by simp))
  have n1 : Hid (Below w.heap.size w w1) := Lib.hid (Bgo (Bal (Bal (Below.refl _ _) _) _) hb1)
  have c1_0_0 : w1.cell? ⟨w.heap.size, 0, none⟩ = some (.int .i64 ar) := blk_cell b1_0 0 _ rfl
  have c1_0_1 : w1.cell? ⟨w.heap.size, 1, none⟩ = some (.int .i64 ai) := blk_cell b1_0 1 _ rfl
  have c1_0_2 : w1.cell? ⟨w.heap.size, 2, none⟩ = some (.int .i64 ad) := blk_cell b1_0 2 _ rfl
  have c1_1_0 : w1.cell? ⟨(w.heap.size + 1), 0, none⟩ = some (.int .i64 br) := blk_cell b1_1 0 _ rfl
  have c1_1_1 : w1.cell? ⟨(w.heap.size + 1), 1, none⟩ = some (.int .i64 bi) := blk_cell b1_1 1 _ rfl
  have c1_1_2 : w1.cell? ⟨(w.heap.size + 1), 2, none⟩ = some (.int .i64 bd) := blk_cell b1_1 2 _ rfl
  have l1_0 := blk_lt b1_0
  have l1_1 := blk_lt b1_1
  clear hb1
  go_wp2_with fail
  clear l1_0
  clear l1_1
  clear c1_0_0
  clear c1_0_1
  clear c1_0_2
  clear c1_1_0
  clear c1_1_1
  clear c1_1_2
  refine (refAdd_calls ar ai ad br bi bd r1 i1 d1 e1 S1.out _).mono ?_
  rintro e w2 ⟨rfl, hb2⟩
  have b2_0 : w2.heap[w.heap.size]? = some (.cells #[.int .i64 ar, .int .i64 ai, .int .i64 ad] 23) := blk_next hb2 (blk_alloc b1_0 _)
  have b2_1 : w2.heap[(w.heap.size + 1)]? = some (.cells #[.int .i64 br, .int .i64 bi, .int .i64 bd] 23) := blk_next hb2 (blk_alloc b1_1 _)
  have b2_2 : w2.heap[w1.heap.size]? = some (.cells #[.int .i64 r1, .int .i64 i1, .int .i64 d1] 23) := blk_next hb2 (blk_new w1 _)
  clear b1_0 b1_1
  have n2 : Hid (Below w.heap.size w w2) := Lib.hid (Bgo (Bal n1.out _) hb2)
  have c2_0_0 : w2.cell? ⟨w.heap.size, 0, none⟩ = some (.int .i64 ar) := blk_cell b2_0 0 _ rfl
  have c2_0_1 : w2.cell? ⟨w.heap.size, 1, none⟩ = some (.int .i64 ai) := blk_cell b2_0 1 _ rfl
  have c2_0_2 : w2.cell? ⟨w.heap.size, 2, none⟩ = some (.int .i64 ad) := blk_cell b2_0 2 _ rfl
  have c2_1_0 : w2.cell? ⟨(w.heap.size + 1), 0, none⟩ = some (.int .i64 br) := blk_cell b2_1 0 _ rfl
  have c2_1_1 : w2.cell? ⟨(w.heap.size + 1), 1, none⟩ = some (.int .i64 bi) := blk_cell b2_1 1 _ rfl
  have c2_1_2 : w2.cell? ⟨(w.heap.size + 1), 2, none⟩ = some (.int .i64 bd) := blk_cell b2_1 2 _ rfl
  have l2_0 := blk_lt b2_0
  have l2_1 := blk_lt b2_1
  clear hb2 n1
  go_wp2_with fail
  clear l2_0
  clear l2_1
  clear c2_0_0
  clear c2_0_1
  clear c2_0_2
  clear c2_1_0
  clear c2_1_1
  clear c2_1_2
  refine (sub_calls ar ai ad br bi bd r2 i2 d2 e2 S2.out _).mono ?_
  rintro e w3 ⟨rfl, hb3⟩
  have b3_0 : w3.heap[w.heap.size]? = some (.cells #[.int .i64 ar, .int .i64 ai, .int .i64 ad] 23) := blk_next hb3 (blk_alloc b2_0 _)
  have b3_1 : w3.heap[(w.heap.size + 1)]? = some (.cells #[.int .i64 br, .int .i64 bi, .int .i64 bd] 23) := blk_next hb3 (blk_alloc b2_1 _)
  have b3_2 : w3.heap[w1.heap.size]? = some (.cells #[.int .i64 r1, .int .i64 i1, .int .i64 d1] 23) := blk_next hb3 (blk_alloc b2_2 _)
  have b3_3 : w3.heap[w2.heap.size]? = some (.cells #[.int .i64 r1, .int .i64 i1, .int .i64 d1] 23) := blk_next hb3 (blk_new w2 _)
  clear b2_0 b2_1 b2_2
  have n3 : Hid (Below w.heap.size w w3) := Lib.hid (Bgo (Bal n2.out _) hb3)
  have c3_0_0 : w3.cell? ⟨w.heap.size, 0, none⟩ = some (.int .i64 ar) := blk_cell b3_0 0 _ rfl
  have c3_0_1 : w3.cell? ⟨w.heap.size, 1, none⟩ = some (.int .i64 ai) := blk_cell b3_0 1 _ rfl
  have c3_0_2 : w3.cell? ⟨w.heap.size, 2, none⟩ = some (.int .i64 ad) := blk_cell b3_0 2 _ rfl
  have c3_1_0 : w3.cell? ⟨(w.heap.size + 1), 0, none⟩ = some (.int .i64 br) := blk_cell b3_1 0 _ rfl
  have c3_1_1 : w3.cell? ⟨(w.heap.size + 1), 1, none⟩ = some (.int .i64 bi) := blk_cell b3_1 1 _ rfl
  have c3_1_2 : w3.cell? ⟨(w.heap.size + 1), 2, none⟩ = some (.int .i64 bd) := blk_cell b3_1 2 _ rfl
  have l3_0 := blk_lt b3_0
  have l3_1 := blk_lt b3_1
  clear hb3 n2
  go_wp2_with fail
  clear l3_0
  clear l3_1
  clear c3_0_0
  clear c3_0_1
  clear c3_0_2
  clear c3_1_0
  clear c3_1_1
  clear c3_1_2
  refine (refSub_calls ar ai ad br bi bd r2 i2 d2 e2 S2.out _).mono ?_
  rintro e w4 ⟨rfl, hb4⟩
  have b4_0 : w4.heap[w.heap.size]? = some (.cells #[.int .i64 ar, .int .i64 ai, .int .i64 ad] 23) := blk_next hb4 (blk_alloc b3_0 _)
  have b4_1 : w4.heap[(w.heap.size + 1)]? = some (.cells #[.int .i64 br, .int .i64 bi, .int .i64 bd] 23) := blk_next hb4 (blk_alloc b3_1 _)
  have b4_2 : w4.heap[w1.heap.size]? = some (.cells #[.int .i64 r1, .int .i64 i1, .int .i64 d1] 23) := blk_next hb4 (blk_alloc b3_2 _)
  have b4_3 : w4.heap[w2.heap.size]? = some (.cells #[.int .i64 r1, .int .i64 i1, .int .i64 d1] 23) := blk_next hb4 (blk_alloc b3_3 _)
  have b4_4 : w4.heap[w3.heap.size]? = some (.cells #[.int .i64 r2, .int .i64 i2, .int .i64 d2] 23) := blk_next hb4 (blk_new w3 _)
  clear b3_0 b3_1 b3_2 b3_3
  have n4 : Hid (Below w.heap.size w w4) := Lib.hid (Bgo (Bal n3.out _) hb4)
  have c4_0_0 : w4.cell? ⟨w.heap.size, 0, none⟩ = some (.int .i64 ar) := blk_cell b4_0 0 _ rfl
  have c4_0_1 : w4.cell? ⟨w.heap.size, 1, none⟩ = some (.int .i64 ai) := blk_cell b4_0 1 _ rfl
  have c4_0_2 : w4.cell? ⟨w.heap.size, 2, none⟩ = some (.int .i64 ad) := blk_cell b4_0 2 _ rfl
  have c4_1_0 : w4.cell? ⟨(w.heap.size + 1), 0, none⟩ = some (.int .i64 br) := blk_cell b4_1 0 _ rfl
  have c4_1_1 : w4.cell? ⟨(w.heap.size + 1), 1, none⟩ = some (.int .i64 bi) := blk_cell b4_1 1 _ rfl
  have c4_1_2 : w4.cell? ⟨(w.heap.size + 1), 2, none⟩ = some (.int .i64 bd) := blk_cell b4_1 2 _ rfl
  have l4_0 := blk_lt b4_0
  have l4_1 := blk_lt b4_1
  clear hb4 n3
  go_wp2_with fail
  clear l4_0
  clear l4_1
  clear c4_0_0
  clear c4_0_1
  clear c4_0_2
  clear c4_1_0
  clear c4_1_1
  clear c4_1_2
  refine (mul_calls ar ai ad br bi bd r3 i3 d3 e3 S3.out _).mono ?_
  rintro e w5 ⟨rfl, hb5⟩
  have b5_0 : w5.heap[w.heap.size]? = some (.cells #[.int .i64 ar, .int .i64 ai, .int .i64 ad] 23) := blk_next hb5 (blk_alloc b4_0 _)
  have b5_1 : w5.heap[(w.heap.size + 1)]? = some (.cells #[.int .i64 br, .int .i64 bi, .int .i64 bd] 23) := blk_next hb5 (blk_alloc b4_1 _)
  have b5_2 : w5.heap[w1.heap.size]? = some (.cells #[.int .i64 r1, .int .i64 i1, .int .i64 d1] 23) := blk_next hb5 (blk_alloc b4_2 _)
  have b5_3 : w5.heap[w2.heap.size]? = some (.cells #[.int .i64 r1, .int .i64 i1, .int .i64 d1] 23) := blk_next hb5 (blk_alloc b4_3 _)
  have b5_4 : w5.heap[w3.heap.size]? = some (.cells #[.int .i64 r2, .int .i64 i2, .int .i64 d2] 23) := blk_next hb5 (blk_alloc b4_4 _)
  have b5_5 : w5.heap[w4.heap.size]? = some (.cells #[.int .i64 r2, .int .i64 i2, .int .i64 d2] 23) := blk_next hb5 (blk_new w4 _)
  clear b4_0 b4_1 b4_2 b4_3 b4_4
  have n5 : Hid (Below w.heap.size w w5) := Lib.hid (Bgo (Bal n4.out _) hb5)
  have c5_0_0 : w5.cell? ⟨w.heap.size, 0, none⟩ = some (.int .i64 ar) := blk_cell b5_0 0 _ rfl
  have c5_0_1 : w5.cell? ⟨w.heap.size, 1, none⟩ = some (.int .i64 ai) := blk_cell b5_0 1 _ rfl
  have c5_0_2 : w5.cell? ⟨w.heap.size, 2, none⟩ = some (.int .i64 ad) := blk_cell b5_0 2 _ rfl
  have c5_1_0 : w5.cell? ⟨(w.heap.size + 1), 0, none⟩ = some (.int .i64 br) := blk_cell b5_1 0 _ rfl
  have c5_1_1 : w5.cell? ⟨(w.heap.size + 1), 1, none⟩ = some (.int .i64 bi) := blk_cell b5_1 1 _ rfl
  have c5_1_2 : w5.cell? ⟨(w.heap.size + 1), 2, none⟩ = some (.int .i64 bd) := blk_cell b5_1 2 _ rfl
  have l5_0 := blk_lt b5_0
  have l5_1 := blk_lt b5_1
  clear hb5 n4
  go_wp2_with fail
  clear l5_0
  clear l5_1
  clear c5_0_0
  clear c5_0_1
  clear c5_0_2
  clear c5_1_0
  clear c5_1_1
  clear c5_1_2
  refine (refMul_calls ar ai ad br bi bd r3 i3 d3 e3 S3.out _).mono ?_
  rintro e w6 ⟨rfl, hb6⟩
  have b6_0 : w6.heap[w.heap.size]? = some (.cells #[.int .i64 ar, .int .i64 ai, .int .i64 ad] 23) := blk_next hb6 (blk_alloc b5_0 _)
  have b6_1 : w6.heap[(w.heap.size + 1)]? = some (.cells #[.int .i64 br, .int .i64 bi, .int .i64 bd] 23) := blk_next hb6 (blk_alloc b5_1 _)
  have b6_2 : w6.heap[w1.heap.size]? = some (.cells #[.int .i64 r1, .int .i64 i1, .int .i64 d1] 23) := blk_next hb6 (blk_alloc b5_2 _)
  have b6_3 : w6.heap[w2.heap.size]? = some (.cells #[.int .i64 r1, .int .i64 i1, .int .i64 d1] 23) := blk_next hb6 (blk_alloc b5_3 _)
  have b6_4 : w6.heap[w3.heap.size]? = some (.cells #[.int .i64 r2, .int .i64 i2, .int .i64 d2] 23) := blk_next hb6 (blk_alloc b5_4 _)
  have b6_5 : w6.heap[w4.heap.size]? = some (.cells #[.int .i64 r2, .int .i64 i2, .int .i64 d2] 23) := blk_next hb6 (blk_alloc b5_5 _)
  have b6_6 : w6.heap[w5.heap.size]? = some (.cells #[.int .i64 r3, .int .i64 i3, .int .i64 d3] 23) := blk_next hb6 (blk_new w5 _)
  clear b5_0 b5_1 b5_2 b5_3 b5_4 b5_5
  have n6 : Hid (Below w.heap.size w w6) := Lib.hid (Bgo (Bal n5.out _) hb6)
  have c6_0_0 : w6.cell? ⟨w.heap.size, 0, none⟩ = some (.int .i64 ar) := blk_cell b6_0 0 _ rfl
  have c6_0_1 : w6.cell? ⟨w.heap.size, 1, none⟩ = some (.int .i64 ai) := blk_cell b6_0 1 _ rfl
  have c6_0_2 : w6.cell? ⟨w.heap.size, 2, none⟩ = some (.int .i64 ad) := blk_cell b6_0 2 _ rfl
  have c6_1_0 : w6.cell? ⟨(w.heap.size + 1), 0, none⟩ = some (.int .i64 br) := blk_cell b6_1 0 _ rfl
  have c6_1_1 : w6.cell? ⟨(w.heap.size + 1), 1, none⟩ = some (.int .i64 bi) := blk_cell b6_1 1 _ rfl
  have c6_1_2 : w6.cell? ⟨(w.heap.size + 1), 2, none⟩ = some (.int .i64 bd) := blk_cell b6_1 2 _ rfl
  have l6_0 := blk_lt b6_0
  have l6_1 := blk_lt b6_1
  clear hb6 n5
  go_wp2_with fail
  clear l6_0
  clear l6_1
  clear c6_0_0
  clear c6_0_1
  clear c6_0_2
  clear c6_1_0
  clear c6_1_1
  clear c6_1_2
  refine (S4.out _).mono ?_
  rintro e w7 ⟨rfl, hb7⟩
  have b7_0 : w7.heap[w.heap.size]? = some (.cells #[.int .i64 ar, .int .i64 ai, .int .i64 ad] 23) := blk_next hb7 (blk_alloc b6_0 _)
  have b7_1 : w7.heap[(w.heap.size + 1)]? = some (.cells #[.int .i64 br, .int .i64 bi, .int .i64 bd] 23) := blk_next hb7 (blk_alloc b6_1 _)
  have b7_2 : w7.heap[w1.heap.size]? = some (.cells #[.int .i64 r1, .int .i64 i1, .int .i64 d1] 23) := blk_next hb7 (blk_alloc b6_2 _)
  have b7_3 : w7.heap[w2.heap.size]? = some (.cells #[.int .i64 r1, .int .i64 i1, .int .i64 d1] 23) := blk_next hb7 (blk_alloc b6_3 _)
  have b7_4 : w7.heap[w3.heap.size]? = some (.cells #[.int .i64 r2, .int .i64 i2, .int .i64 d2] 23) := blk_next hb7 (blk_alloc b6_4 _)
  have b7_5 : w7.heap[w4.heap.size]? = some (.cells #[.int .i64 r2, .int .i64 i2, .int .i64 d2] 23) := blk_next hb7 (blk_alloc b6_5 _)
  have b7_6 : w7.heap[w5.heap.size]? = some (.cells #[.int .i64 r3, .int .i64 i3, .int .i64 d3] 23) := blk_next hb7 (blk_alloc b6_6 _)
  have b7_7 : w7.heap[w6.heap.size]? = some (.cells #[.int .i64 r3, .int .i64 i3, .int .i64 d3] 23) := blk_next hb7 (blk_new w6 _)
  clear b6_0 b6_1 b6_2 b6_3 b6_4 b6_5 b6_6
  have n7 : Hid (Below w.heap.size w w7) := Lib.hid (Bgo (Bal n6.out _) hb7)
  have c7_0_0 : w7.cell? ⟨w.heap.size, 0, none⟩ = some (.int .i64 ar) := blk_cell b7_0 0 _ rfl
  have c7_0_1 : w7.cell? ⟨w.heap.size, 1, none⟩ = some (.int .i64 ai) := blk_cell b7_0 1 _ rfl
  have c7_0_2 : w7.cell? ⟨w.heap.size, 2, none⟩ = some (.int .i64 ad) := blk_cell b7_0 2 _ rfl
  have c7_1_0 : w7.cell? ⟨(w.heap.size + 1), 0, none⟩ = some (.int .i64 br) := blk_cell b7_1 0 _ rfl
  have c7_1_1 : w7.cell? ⟨(w.heap.size + 1), 1, none⟩ = some (.int .i64 bi) := blk_cell b7_1 1 _ rfl
  have c7_1_2 : w7.cell? ⟨(w.heap.size + 1), 2, none⟩ = some (.int .i64 bd) := blk_cell b7_1 2 _ rfl
  have l7_0 := blk_lt b7_0
  have l7_1 := blk_lt b7_1
  clear hb7 n6
  go_wp2_with fail
  clear l7_0
  clear l7_1
  clear c7_0_0
  clear c7_0_1
  clear c7_0_2
  clear c7_1_0
  clear c7_1_1
  clear c7_1_2
  refine (S5.out _).mono ?_
  rintro e w8 ⟨rfl, hb8⟩
  have b8_0 : w8.heap[w.heap.size]? = some (.cells #[.int .i64 ar, .int .i64 ai, .int .i64 ad] 23) := blk_next hb8 (blk_alloc b7_0 _)
  have b8_1 : w8.heap[(w.heap.size + 1)]? = some (.cells #[.int .i64 br, .int .i64 bi, .int .i64 bd] 23) := blk_next hb8 (blk_alloc b7_1 _)
  have b8_2 : w8.heap[w1.heap.size]? = some (.cells #[.int .i64 r1, .int .i64 i1, .int .i64 d1] 23) := blk_next hb8 (blk_alloc b7_2 _)
  have b8_3 : w8.heap[w2.heap.size]? = some (.cells #[.int .i64 r1, .int .i64 i1, .int .i64 d1] 23) := blk_next hb8 (blk_alloc b7_3 _)
  have b8_4 : w8.heap[w3.heap.size]? = some (.cells #[.int .i64 r2, .int .i64 i2, .int .i64 d2] 23) := blk_next hb8 (blk_alloc b7_4 _)
  have b8_5 : w8.heap[w4.heap.size]? = some (.cells #[.int .i64 r2, .int .i64 i2, .int .i64 d2] 23) := blk_next hb8 (blk_alloc b7_5 _)
  have b8_6 : w8.heap[w5.heap.size]? = some (.cells #[.int .i64 r3, .int .i64 i3, .int .i64 d3] 23) := blk_next hb8 (blk_alloc b7_6 _)
  have b8_7 : w8.heap[w6.heap.size]? = some (.cells #[.int .i64 r3, .int .i64 i3, .int .i64 d3] 23) := blk_next hb8 (blk_alloc b7_7 _)
  have b8_8 : w8.heap[w7.heap.size]? = some (.cells #[.int .i64 r4, .int .i64 i4, .int .i64 d4] 23) := blk_next hb8 (blk_new w7 _)
  clear b7_0 b7_1 b7_2 b7_3 b7_4 b7_5 b7_6 b7_7
  have n8 : Hid (Below w.heap.size w w8) := Lib.hid (Bgo (Bal n7.out _) hb8)
  have c8_0_0 : w8.cell? ⟨w.heap.size, 0, none⟩ = some (.int .i64 ar) := blk_cell b8_0 0 _ rfl
  have c8_0_1 : w8.cell? ⟨w.heap.size, 1, none⟩ = some (.int .i64 ai) := blk_cell b8_0 1 _ rfl
  have c8_0_2 : w8.cell? ⟨w.heap.size, 2, none⟩ = some (.int .i64 ad) := blk_cell b8_0 2 _ rfl
  have c8_1_0 : w8.cell? ⟨(w.heap.size + 1), 0, none⟩ = some (.int .i64 br) := blk_cell b8_1 0 _ rfl
  have c8_1_1 : w8.cell? ⟨(w.heap.size + 1), 1, none⟩ = some (.int .i64 bi) := blk_cell b8_1 1 _ rfl
  have c8_1_2 : w8.cell? ⟨(w.heap.size + 1), 2, none⟩ = some (.int .i64 bd) := blk_cell b8_1 2 _ rfl
  have l8_0 := blk_lt b8_0
  have l8_1 := blk_lt b8_1
  clear hb8 n7
  go_wp2_with fail
  clear l8_0
  clear l8_1
  have z_0 : (w8.alloc (.cells #[.int .i64 r4, .int .i64 i4, .int .i64 d4] 23)).heap[w.heap.size]? = some (.cells #[.int .i64 ar, .int .i64 ai, .int .i64 ad] 23) := blk_alloc b8_0 _
  have z_1 : (w8.alloc (.cells #[.int .i64 r4, .int .i64 i4, .int .i64 d4] 23)).heap[(w.heap.size + 1)]? = some (.cells #[.int .i64 br, .int .i64 bi, .int .i64 bd] 23) := blk_alloc b8_1 _
  have z_2 : (w8.alloc (.cells #[.int .i64 r4, .int .i64 i4, .int .i64 d4] 23)).heap[w1.heap.size]? = some (.cells #[.int .i64 r1, .int .i64 i1, .int .i64 d1] 23) := blk_alloc b8_2 _
  have z_3 : (w8.alloc (.cells #[.int .i64 r4, .int .i64 i4, .int .i64 d4] 23)).heap[w2.heap.size]? = some (.cells #[.int .i64 r1, .int .i64 i1, .int .i64 d1] 23) := blk_alloc b8_3 _
  have z_4 : (w8.alloc (.cells #[.int .i64 r4, .int .i64 i4, .int .i64 d4] 23)).heap[w3.heap.size]? = some (.cells #[.int .i64 r2, .int .i64 i2, .int .i64 d2] 23) := blk_alloc b8_4 _
  have z_5 : (w8.alloc (.cells #[.int .i64 r4, .int .i64 i4, .int .i64 d4] 23)).heap[w4.heap.size]? = some (.cells #[.int .i64 r2, .int .i64 i2, .int .i64 d2] 23) := blk_alloc b8_5 _
  have z_6 : (w8.alloc (.cells #[.int .i64 r4, .int .i64 i4, .int .i64 d4] 23)).heap[w5.heap.size]? = some (.cells #[.int .i64 r3, .int .i64 i3, .int .i64 d3] 23) := blk_alloc b8_6 _
  have z_7 : (w8.alloc (.cells #[.int .i64 r4, .int .i64 i4, .int .i64 d4] 23)).heap[w6.heap.size]? = some (.cells #[.int .i64 r3, .int .i64 i3, .int .i64 d3] 23) := blk_alloc b8_7 _
  have z_8 : (w8.alloc (.cells #[.int .i64 r4, .int .i64 i4, .int .i64 d4] 23)).heap[w7.heap.size]? = some (.cells #[.int .i64 r4, .int .i64 i4, .int .i64 d4] 23) := blk_alloc b8_8 _
  have z_9 : (w8.alloc (.cells #[.int .i64 r4, .int .i64 i4, .int .i64 d4] 23)).heap[w8.heap.size]? = some (.cells #[.int .i64 r4, .int .i64 i4, .int .i64 d4] 23) := blk_new w8 _
  clear b8_0
  clear b8_1
  clear b8_2
  clear b8_3
  clear b8_4
  clear b8_5
  clear b8_6
  clear b8_7
  clear b8_8
  clear c8_0_0 c8_0_1 c8_0_2 c8_1_0 c8_1_1 c8_1_2
  have zc_0 : (w8.alloc (.cells #[.int .i64 r4, .int .i64 i4, .int .i64 d4] 23)).cell? ⟨w.heap.size, 0, none⟩ = some (.int .i64 ar) := blk_cell z_0 0 _ rfl
  have zc_1 : (w8.alloc (.cells #[.int .i64 r4, .int .i64 i4, .int .i64 d4] 23)).cell? ⟨w.heap.size, 1, none⟩ = some (.int .i64 ai) := blk_cell z_0 1 _ rfl
  have zc_2 : (w8.alloc (.cells #[.int .i64 r4, .int .i64 i4, .int .i64 d4] 23)).cell? ⟨w.heap.size, 2, none⟩ = some (.int .i64 ad) := blk_cell z_0 2 _ rfl
  go_region_held3 (fun w' => w'.cell? ⟨w.heap.size, 0, none⟩ = some (.int .i64 ar) ∧ w'.cell? ⟨w.heap.size, 1, none⟩ = some (.int .i64 ai) ∧ w'.cell? ⟨w.heap.size, 2, none⟩ = some (.int .i64 ad) ∧ w'.cell? ⟨w1.heap.size, 0, none⟩ = some (.int .i64 r1) ∧ w'.cell? ⟨w1.heap.size, 1, none⟩ = some (.int .i64 i1) ∧ w'.cell? ⟨w1.heap.size, 2, none⟩ = some (.int .i64 d1) ∧ w'.cell? ⟨w2.heap.size, 0, none⟩ = some (.int .i64 r1) ∧ w'.cell? ⟨w2.heap.size, 1, none⟩ = some (.int .i64 i1) ∧ w'.cell? ⟨w2.heap.size, 2, none⟩ = some (.int .i64 d1) ∧ w'.cell? ⟨w3.heap.size, 0, none⟩ = some (.int .i64 r2) ∧ w'.cell? ⟨w3.heap.size, 1, none⟩ = some (.int .i64 i2) ∧ w'.cell? ⟨w3.heap.size, 2, none⟩ = some (.int .i64 d2) ∧ w'.cell? ⟨w4.heap.size, 0, none⟩ = some (.int .i64 r2) ∧ w'.cell? ⟨w4.heap.size, 1, none⟩ = some (.int .i64 i2) ∧ w'.cell? ⟨w4.heap.size, 2, none⟩ = some (.int .i64 d2) ∧ w'.cell? ⟨w5.heap.size, 0, none⟩ = some (.int .i64 r3) ∧ w'.cell? ⟨w5.heap.size, 1, none⟩ = some (.int .i64 i3) ∧ w'.cell? ⟨w5.heap.size, 2, none⟩ = some (.int .i64 d3) ∧ w'.cell? ⟨w6.heap.size, 0, none⟩ = some (.int .i64 r3) ∧ w'.cell? ⟨w6.heap.size, 1, none⟩ = some (.int .i64 i3) ∧ w'.cell? ⟨w6.heap.size, 2, none⟩ = some (.int .i64 d3) ∧ w'.cell? ⟨w7.heap.size, 0, none⟩ = some (.int .i64 r4) ∧ w'.cell? ⟨w7.heap.size, 1, none⟩ = some (.int .i64 i4) ∧ w'.cell? ⟨w7.heap.size, 2, none⟩ = some (.int .i64 d4) ∧ w'.cell? ⟨w8.heap.size, 0, none⟩ = some (.int .i64 r4) ∧ w'.cell? ⟨w8.heap.size, 1, none⟩ = some (.int .i64 i4) ∧ w'.cell? ⟨w8.heap.size, 2, none⟩ = some (.int .i64 d4)) (first | (exact ⟨blk_cell wb_0 0 _ rfl, blk_cell wb_0 1 _ rfl, blk_cell wb_0 2 _ rfl, blk_cell wb_2 0 _ rfl, blk_cell wb_2 1 _ rfl, blk_cell wb_2 2 _ rfl, blk_cell wb_3 0 _ rfl, blk_cell wb_3 1 _ rfl, blk_cell wb_3 2 _ rfl, blk_cell wb_4 0 _ rfl, blk_cell wb_4 1 _ rfl, blk_cell wb_4 2 _ rfl, blk_cell wb_5 0 _ rfl, blk_cell wb_5 1 _ rfl, blk_cell wb_5 2 _ rfl, blk_cell wb_6 0 _ rfl, blk_cell wb_6 1 _ rfl, blk_cell wb_6 2 _ rfl, blk_cell wb_7 0 _ rfl, blk_cell wb_7 1 _ rfl, blk_cell wb_7 2 _ rfl, blk_cell wb_8 0 _ rfl, blk_cell wb_8 1 _ rfl, blk_cell wb_8 2 _ rfl, blk_cell wb_9 0 _ rfl, blk_cell wb_9 1 _ rfl, blk_cell wb_9 2 _ rfl⟩) | (exact ⟨blk_cell wa_0 0 _ rfl, blk_cell wa_0 1 _ rfl, blk_cell wa_0 2 _ rfl, blk_cell wa_2 0 _ rfl, blk_cell wa_2 1 _ rfl, blk_cell wa_2 2 _ rfl, blk_cell wa_3 0 _ rfl, blk_cell wa_3 1 _ rfl, blk_cell wa_3 2 _ rfl, blk_cell wa_4 0 _ rfl, blk_cell wa_4 1 _ rfl, blk_cell wa_4 2 _ rfl, blk_cell wa_5 0 _ rfl, blk_cell wa_5 1 _ rfl, blk_cell wa_5 2 _ rfl, blk_cell wa_6 0 _ rfl, blk_cell wa_6 1 _ rfl, blk_cell wa_6 2 _ rfl, blk_cell wa_7 0 _ rfl, blk_cell wa_7 1 _ rfl, blk_cell wa_7 2 _ rfl, blk_cell wa_8 0 _ rfl, blk_cell wa_8 1 _ rfl, blk_cell wa_8 2 _ rfl, blk_cell wa_9 0 _ rfl, blk_cell wa_9 1 _ rfl, blk_cell wa_9 2 _ rfl⟩) | (exact ⟨blk_cell z_0 0 _ rfl, blk_cell z_0 1 _ rfl, blk_cell z_0 2 _ rfl, blk_cell z_2 0 _ rfl, blk_cell z_2 1 _ rfl, blk_cell z_2 2 _ rfl, blk_cell z_3 0 _ rfl, blk_cell z_3 1 _ rfl, blk_cell z_3 2 _ rfl, blk_cell z_4 0 _ rfl, blk_cell z_4 1 _ rfl, blk_cell z_4 2 _ rfl, blk_cell z_5 0 _ rfl, blk_cell z_5 1 _ rfl, blk_cell z_5 2 _ rfl, blk_cell z_6 0 _ rfl, blk_cell z_6 1 _ rfl, blk_cell z_6 2 _ rfl, blk_cell z_7 0 _ rfl, blk_cell z_7 1 _ rfl, blk_cell z_7 2 _ rfl, blk_cell z_8 0 _ rfl, blk_cell z_8 1 _ rfl, blk_cell z_8 2 _ rfl, blk_cell z_9 0 _ rfl, blk_cell z_9 1 _ rfl, blk_cell z_9 2 _ rfl⟩) | go_keep)
    (first | (go_at_call 13; refine (check_calls ar ai ad _).mono ?_; rintro e wa ⟨rfl, hbwa⟩; have wa_0 : wa.heap[w.heap.size]? = some (.cells #[.int .i64 ar, .int .i64 ai, .int .i64 ad] 23) := blk_next hbwa z_0; have wa_2 : wa.heap[w1.heap.size]? = some (.cells #[.int .i64 r1, .int .i64 i1, .int .i64 d1] 23) := blk_next hbwa z_2; have wa_3 : wa.heap[w2.heap.size]? = some (.cells #[.int .i64 r1, .int .i64 i1, .int .i64 d1] 23) := blk_next hbwa z_3; have wa_4 : wa.heap[w3.heap.size]? = some (.cells #[.int .i64 r2, .int .i64 i2, .int .i64 d2] 23) := blk_next hbwa z_4; have wa_5 : wa.heap[w4.heap.size]? = some (.cells #[.int .i64 r2, .int .i64 i2, .int .i64 d2] 23) := blk_next hbwa z_5; have wa_6 : wa.heap[w5.heap.size]? = some (.cells #[.int .i64 r3, .int .i64 i3, .int .i64 d3] 23) := blk_next hbwa z_6; have wa_7 : wa.heap[w6.heap.size]? = some (.cells #[.int .i64 r3, .int .i64 i3, .int .i64 d3] 23) := blk_next hbwa z_7; have wa_8 : wa.heap[w7.heap.size]? = some (.cells #[.int .i64 r4, .int .i64 i4, .int .i64 d4] 23) := blk_next hbwa z_8; have wa_9 : wa.heap[w8.heap.size]? = some (.cells #[.int .i64 r4, .int .i64 i4, .int .i64 d4] 23) := blk_next hbwa z_9) | (go_at_call 14; refine (refCheck_calls ar ai ad _).mono ?_; rintro e wb ⟨rfl, hbwb⟩; have wb_0 : wb.heap[w.heap.size]? = some (.cells #[.int .i64 ar, .int .i64 ai, .int .i64 ad] 23) := blk_next hbwb wa_0; have wb_2 : wb.heap[w1.heap.size]? = some (.cells #[.int .i64 r1, .int .i64 i1, .int .i64 d1] 23) := blk_next hbwb wa_2; have wb_3 : wb.heap[w2.heap.size]? = some (.cells #[.int .i64 r1, .int .i64 i1, .int .i64 d1] 23) := blk_next hbwb wa_3; have wb_4 : wb.heap[w3.heap.size]? = some (.cells #[.int .i64 r2, .int .i64 i2, .int .i64 d2] 23) := blk_next hbwb wa_4; have wb_5 : wb.heap[w4.heap.size]? = some (.cells #[.int .i64 r2, .int .i64 i2, .int .i64 d2] 23) := blk_next hbwb wa_5; have wb_6 : wb.heap[w5.heap.size]? = some (.cells #[.int .i64 r3, .int .i64 i3, .int .i64 d3] 23) := blk_next hbwb wa_6; have wb_7 : wb.heap[w6.heap.size]? = some (.cells #[.int .i64 r3, .int .i64 i3, .int .i64 d3] 23) := blk_next hbwb wa_7; have wb_8 : wb.heap[w7.heap.size]? = some (.cells #[.int .i64 r4, .int .i64 i4, .int .i64 d4] 23) := blk_next hbwb wa_8; have wb_9 : wb.heap[w8.heap.size]? = some (.cells #[.int .i64 r4, .int .i64 i4, .int .i64 d4] 23) := blk_next hbwb wa_9))
  all_goals
    go_wp2_with fail
    go_ret
    exact ⟨rfl, Bgo (Bgo (Bal n8.out _).drew hbwa) hbwb⟩

set_option maxRecDepth 100000 in
theorem lifted (os : Os) (started : os.Started) (H : Type) (enc : TypeId × Value → H) :
    ReturnsInHanded {} Try.checked os 3 .any (Rows.cxSumsSpec.pre6 enc Try.prog Try.f3 Rows.cxSumsRow.domain false) (Rows.cxSumsSpec.post enc Try.prog Try.f3 false true false false) := by
  refine returnsInHanded_of_change (C := Try.checked) own started (by kernel_rfl) Try.func3
    (ChangeSpec.witness6 (enc := enc) (C := Try.checked) false ⟨#[], #[.agg #[.int .i64 0, .int .i64 0, .int .i64 0], .agg #[.int .i64 0, .int .i64 0, .int .i64 0]], []⟩ 8 (by kernel_rfl) (by kernel_rfl) (by kernel_rfl) (by kernel_rfl)) ?_
  intro W base args ds gs before hval0 hW hcnd _
  have hval : ∀ (j : Nat) t v, Try.f3.params[j]? = some t → args[j]? = some v → Value.okWide Try.prog W .any base t v := hval0
  have hW' := hW
  obtain ⟨p, q, hA0, hV, rfl, hfz, hnd⟩ := hW
  have hA : DataW.TrodAll enc Try.prog W 0 (fun _ => true) true Try.f3.params.toList args.toList ds p := hA0
  rw [Try.params3] at hA hval
  obtain ⟨v0, vs0, d0, ds0, p0, q0, hargs, rfl, rfl, h0, r0⟩ := trodAll_cons hA
  obtain ⟨v1, vs1, d1, ds1, p1, q1, rfl, rfl, rfl, h1, r1⟩ := trodAll_cons r0
  obtain ⟨rfl, rfl, rfl⟩ := trodAll_nil r1
  obtain rfl : args = #[v0, v1] := by cases args; simp_all
  obtain ⟨rfl, rfl⟩ := trodVars_none hV
  have k0 := h0
  have lt0 : ∀ x ∈ p0, x.block < W.heap.size := by obtain ⟨m, hm⟩ := k0; exact DataW.trod_lt m _ _ _ hm
  obtain ⟨c0_0, c1_0, c2_0, y0_0, y1_0, y2_0, m0, rfl, _, _, t0_0, t1_0, t2_0⟩ := open_agg3 Try.underlying23 (by kernel_rfl) (show Try.prog.cellsOf 23 = 3 by kernel_rfl) (hval 0 23 v0 rfl rfl) h0
  obtain ⟨ar, e0_0, _, war⟩ := DataW.trod_int Try.underlying2 t0_0
  simp only [List.cons.injEq, and_true] at e0_0
  subst e0_0
  obtain ⟨ai, e1_0, _, wai⟩ := DataW.trod_int Try.underlying2 t1_0
  simp only [List.cons.injEq, and_true] at e1_0
  subst e1_0
  obtain ⟨ad, e2_0, _, wad⟩ := DataW.trod_int Try.underlying2 t2_0
  simp only [List.cons.injEq, and_true] at e2_0
  subst e2_0
  have k1 := h1
  have lt1 : ∀ x ∈ p1, x.block < W.heap.size := by obtain ⟨m, hm⟩ := k1; exact DataW.trod_lt m _ _ _ hm
  obtain ⟨c0_1, c1_1, c2_1, y0_1, y1_1, y2_1, m1, rfl, _, _, t0_1, t1_1, t2_1⟩ := open_agg3 Try.underlying23 (by kernel_rfl) (show Try.prog.cellsOf 23 = 3 by kernel_rfl) (hval 1 23 v1 rfl rfl) h1
  obtain ⟨br, e0_1, _, wbr⟩ := DataW.trod_int Try.underlying2 t0_1
  simp only [List.cons.injEq, and_true] at e0_1
  subst e0_1
  obtain ⟨bi, e1_1, _, wbi⟩ := DataW.trod_int Try.underlying2 t1_1
  simp only [List.cons.injEq, and_true] at e1_1
  subst e1_1
  obtain ⟨bd, e2_1, _, wbd⟩ := DataW.trod_int Try.underlying2 t2_1
  simp only [List.cons.injEq, and_true] at e2_1
  subst e2_1
  clear hA0 hval0
  refine (walk ar ai ad br bi bd W).mono fun e W' ⟨he, bel⟩ => ?_
  subst he
  exact ⟨_, rfl, _, _, _, [], _, [], hW', trodAll_mk1 (shut_bool Try.underlying4 _), (trodAll_cons_mk (Below.trod laidOut (by kernel_rfl) (of_decide_eq_true (by kernel_rfl)) k0 bel lt0) (trodAll_cons_mk (Below.trod laidOut (by kernel_rfl) (of_decide_eq_true (by kernel_rfl)) k1 bel lt1) trodAll_mk0)), rfl, bel.frame _, fun h => by cases h⟩

theorem over : Rows.cxSumsRow.holds Try.pinned (OpenSpec.ofChange Rows.cxSumsSpec) :=
  OpenClaim.holds_of_wide 3 Try.f3 rfl rfl rfl rfl rfl rfl rfl ⟨rfl, rfl, rfl, rfl, rfl⟩ rfl rfl rfl rfl rfl (by kernel_rfl) Try.func3 (by kernel_rfl)
    (of_decide_eq_true (by kernel_rfl)) (by unfold Func.isWrapper; first | (rw [if_pos (by decide +kernel)]; kernel_rfl) | (rw [if_neg (by decide +kernel)]; exact ⟨rfl, rfl⟩))
    (fun os started H enc _ => lifted os started H enc)

theorem proved : Rows.CxSumsSaid := over
#print axioms proved
end Go.Proofs.Ytbbjclbpllfdeaa.cxSums
