/- For every input the law CxTurns returns true and leaves its arguments as they were. -/
import Derived.Test.YtbbjclbpllfdeaaRows
import Derived.Test.YtbbjclbpllfdeaaBlk
import Derived.Test.YtbbjclbpllfdeaaCxk
import Derived.Test.YtbbjclbpllfdeaaCxn
import Derived.WalkKit
import Derived.ProofKit
import Derived.OpenShut
import Derived.ShutString
import Derived.ChangeOld
import Derived.Below
import Derived.Lib.SmallJoins
namespace Go.Proofs.Ytbbjclbpllfdeaa.cxTurns
open Go.ChangeShapes Go.WideShapes Go.ChangeAt Go.RowKit Go.Joins
open Go.ChangeMaps (open_string shut_string)
open Cxm
set_option linter.unusedVariables false

theorem own : ownKnob Try.prog.godebug = none := by kernel_rfl
theorem laidOut : laidOutB Try.prog = true := by kernel_rfl
theorem make_both (re im den : Int) : ∃ r i d er : Int, (∀ w, Calls Try.prog 15 #[.int .i64 re, .int .i64 im, .int .i64 den] w fun e w' => e = .returned (Rv r i d er) ∧ Below w.heap.size w w') ∧ (∀ w, Calls Try.prog 16 #[.int .i64 re, .int .i64 im, .int .i64 den] w fun e w' => e = .returned (Rv r i d er) ∧ Below w.heap.size w w') := by
  cases h : okB re im den
  · exact ⟨0, 0, 0, 2, fun w => make_out re im den h w, fun w => refMake_out re im den h w⟩
  · simp only [okB, Bool.and_eq_true] at h
    have b1 := inB_bd h.1
    have b2 := inB_bd h.2.1
    have b3 := inB_bd h.2.2
    rcases hm : made re im den with ⟨r, i, d, er⟩
    exact ⟨r, i, d, er, fun w => make_calls re im den r i d er hm b1.1 b1.2 b2.1 b2.2 b3.1 b3.2 w, fun w => refMake_calls re im den r i d er hm b1.1 b1.2 b2.1 b2.2 b3.1 b3.2 w⟩

theorem conj_both (re im den : Int) : ∃ r i d er : Int, (∀ w, Calls Try.prog 17 #[Cv re im den] w fun e w' => e = .returned (Rv r i d er) ∧ Below w.heap.size w w') ∧ (∀ w, Calls Try.prog 18 #[Cv re im den] w fun e w' => e = .returned (Rv r i d er) ∧ Below w.heap.size w w') := by
  cases h : chkB re im den
  · exact ⟨0, 0, 0, 8, fun w => conj_bad re im den h w, fun w => refConj_bad re im den h w⟩
  · exact ⟨re, -im, den, 0, fun w => conj_ok re im den h w, fun w => refConj_ok re im den h w⟩

theorem turn_both (re im den q : Int) : ∃ r i d er : Int, (∀ w, Calls Try.prog 19 #[Cv re im den, .int .i64 q] w fun e w' => e = .returned (Rv r i d er) ∧ Below w.heap.size w w') ∧ (∀ w, Calls Try.prog 20 #[Cv re im den, .int .i64 q] w fun e w' => e = .returned (Rv r i d er) ∧ Below w.heap.size w w') := by
  cases h : chkB re im den
  · exact ⟨0, 0, 0, 8, fun w => turn_bad re im den q h w, fun w => refTurn_bad re im den q h w⟩
  · exact ⟨_, _, den, 0, fun w => turn_ok re im den q h w, fun w => refTurn_ok re im den q h w⟩

theorem norm_both (re im den : Int) : ∃ n d er : Int, (∀ w, Calls Try.prog 21 #[Cv re im den] w fun e w' => e = .returned (Fv n d er) ∧ Below w.heap.size w w') ∧ (∀ w, Calls Try.prog 22 #[Cv re im den] w fun e w' => e = .returned (Fv n d er) ∧ Below w.heap.size w w') := by
  cases h : chkB re im den
  · exact ⟨0, 0, 8, fun w => norm_bad re im den h w, fun w => refNorm_bad re im den h w⟩
  · by_cases hb : (re * re + im * im).tdiv (g2 (re * re + im * im) (den * den)) ≤ 1000000000000000000
    · exact ⟨_, _, 0, fun w => norm_ok re im den _ _ _ _ _ h rfl rfl rfl rfl rfl hb w, fun w => refNorm_ok re im den _ _ _ _ _ h rfl rfl rfl rfl rfl hb w⟩
    · exact ⟨0, 0, 16, fun w => norm_big re im den _ _ _ _ _ h rfl rfl rfl rfl rfl (by omega) w, fun w => refNorm_big re im den _ _ _ _ _ h rfl rfl rfl rfl rfl (by omega) w⟩

theorem ray_both (re im den : Int) : ∃ r i d er : Int, (∀ w, Calls Try.prog 23 #[Cv re im den] w fun e w' => e = .returned (Rv r i d er) ∧ Below w.heap.size w w') ∧ (∀ w, Calls Try.prog 24 #[Cv re im den] w fun e w' => e = .returned (Rv r i d er) ∧ Below w.heap.size w w') := by
  cases h : chkB re im den
  · exact ⟨0, 0, 0, 8, fun w => ray_bad re im den h w, fun w => refRay_bad re im den h w⟩
  · cases hz : isZ re im
    · exact ⟨_, _, 1, 0, fun w => ray_ok re im den _ _ _ h hz rfl rfl rfl w, fun w => refRay_ok re im den _ _ _ h hz rfl rfl rfl w⟩
    · exact ⟨0, 0, 0, 18, fun w => ray_zero re im den h hz w, fun w => refRay_zero re im den h hz w⟩

theorem order_both (ar ai ad br bi bd : Int) : ∃ v er : Int, (∀ w, Calls Try.prog 25 #[Cv ar ai ad, Cv br bi bd] w fun e w' => e = .returned (.tuple #[.int .i64 v, .int .i64 er]) ∧ Below w.heap.size w w') ∧ (∀ w, Calls Try.prog 26 #[Cv ar ai ad, Cv br bi bd] w fun e w' => e = .returned (.tuple #[.int .i64 v, .int .i64 er]) ∧ Below w.heap.size w w') := by
  by_cases h : chkB ar ai ad = true ∧ chkB br bi bd = true
  · by_cases hz : isZ ar ai = true ∨ (isZ ar ai = false ∧ isZ br bi = true)
    · exact ⟨0, 18, fun w => order_zero ar ai ad br bi bd h.1 h.2 hz w, fun w => refOrder_zero ar ai ad br bi bd h.1 h.2 hz w⟩
    · have h1 : isZ ar ai = false := by cases c : isZ ar ai <;> simp_all
      have h2 : isZ br bi = false := by cases c : isZ br bi <;> simp_all
      have e := ord_eq ar ai br bi h1 h2
      refine ⟨ordP ar ai br bi, 0, fun w => order_ok ar ai ad br bi bd h.1 h.2 h1 h2 w, fun w => ?_⟩
      rw [e]
      exact refOrder_ok ar ai ad br bi bd h.1 h.2 h1 h2 w
  · exact ⟨0, 8, fun w => order_bad ar ai ad br bi bd h w, fun w => refOrder_bad ar ai ad br bi bd h w⟩

set_option maxHeartbeats 4000000 in
set_option maxRecDepth 100000 in
theorem walk (ar ai ad br bi bd re im den q : Int) (w : World) :
    Calls Try.prog 4 #[Cv ar ai ad, Cv br bi bd, .int .i64 re, .int .i64 im, .int .i64 den, .int .i64 q] w fun e w' => e = .returned (.bool true) ∧ Below w.heap.size w w' := by
  obtain ⟨r1, i1, d1, e1, hs1, hs2⟩ := make_both re im den
  obtain ⟨r2, i2, d2, e2, hs3, hs4⟩ := conj_both ar ai ad
  obtain ⟨r3, i3, d3, e3, hs5, hs6⟩ := turn_both ar ai ad q
  obtain ⟨n4, d4, e4, hs7, hs8⟩ := norm_both ar ai ad
  obtain ⟨r5, i5, d5, e5, hs9, hs10⟩ := ray_both ar ai ad
  obtain ⟨v6, e6, hs11, hs12⟩ := order_both ar ai ad br bi bd
  have S1 := Lib.hid hs1
  have S2 := Lib.hid hs2
  have S3 := Lib.hid hs3
  have S4 := Lib.hid hs4
  have S5 := Lib.hid hs5
  have S6 := Lib.hid hs6
  have S7 := Lib.hid hs7
  have S8 := Lib.hid hs8
  have S9 := Lib.hid hs9
  have S10 := Lib.hid hs10
  have S11 := Lib.hid hs11
  have S12 := Lib.hid hs12
  clear hs1 hs2 hs3 hs4 hs5 hs6 hs7 hs8 hs9 hs10 hs11 hs12
  go_enter Try.func4, Try.ntmps4
  go_wp2_with fail
  refine (S1.out _).mono ?_
  rintro e w1 ⟨rfl, hb1⟩
  have b1_0 : w1.heap[w.heap.size]? = some (.cells #[.int .i64 ar, .int .i64 ai, .int .i64 ad] 23) := blk_next hb1 (blk_alloc (blk_new w _) _)
  have b1_1 : w1.heap[(w.heap.size + 1)]? = some (.cells #[.int .i64 br, .int .i64 bi, .int .i64 bd] 23) := blk_next hb1 (blk_at _ (by simp))
  have n1 : Hid (Below w.heap.size w w1) := Lib.hid (Bgo (Bal (Bal (Below.refl _ _) _) _) hb1)
  have c1_0_0 : w1.cell? ⟨w.heap.size, 0, none⟩ = some (.int .i64 ar) := blk_cell b1_0 0 _ rfl
  have c1_0_1 : w1.cell? ⟨w.heap.size, 1, none⟩ = some (.int .i64 ai) := blk_cell b1_0 1 _ rfl
  have c1_0_2 : w1.cell? ⟨w.heap.size, 2, none⟩ = some (.int .i64 ad) := blk_cell b1_0 2 _ rfl
  have c1_1_0 : w1.cell? ⟨(w.heap.size + 1), 0, none⟩ = some (.int .i64 br) := blk_cell b1_1 0 _ rfl
  have c1_1_1 : w1.cell? ⟨(w.heap.size + 1), 1, none⟩ = some (.int .i64 bi) := blk_cell b1_1 1 _ rfl
  have c1_1_2 : w1.cell? ⟨(w.heap.size + 1), 2, none⟩ = some (.int .i64 bd) := blk_cell b1_1 2 _ rfl
  have l1_0 := blk_lt b1_0
  have l1_1 := blk_lt b1_1
  clear hb1
  go_wp2_with fail
  clear l1_0
  clear l1_1
  clear c1_0_0
  clear c1_0_1
  clear c1_0_2
  clear c1_1_0
  clear c1_1_1
  clear c1_1_2
  refine (S2.out _).mono ?_
  rintro e w2 ⟨rfl, hb2⟩
  have b2_0 : w2.heap[w.heap.size]? = some (.cells #[.int .i64 ar, .int .i64 ai, .int .i64 ad] 23) := blk_next hb2 (blk_alloc b1_0 _)
  have b2_1 : w2.heap[(w.heap.size + 1)]? = some (.cells #[.int .i64 br, .int .i64 bi, .int .i64 bd] 23) := blk_next hb2 (blk_alloc b1_1 _)
  have b2_2 : w2.heap[w1.heap.size]? = some (.cells #[.int .i64 r1, .int .i64 i1, .int .i64 d1] 23) := blk_next hb2 (blk_new w1 _)
  clear b1_0 b1_1
  have n2 : Hid (Below w.heap.size w w2) := Lib.hid (Bgo (Bal n1.out _) hb2)
  have c2_0_0 : w2.cell? ⟨w.heap.size, 0, none⟩ = some (.int .i64 ar) := blk_cell b2_0 0 _ rfl
  have c2_0_1 : w2.cell? ⟨w.heap.size, 1, none⟩ = some (.int .i64 ai) := blk_cell b2_0 1 _ rfl
  have c2_0_2 : w2.cell? ⟨w.heap.size, 2, none⟩ = some (.int .i64 ad) := blk_cell b2_0 2 _ rfl
  have c2_1_0 : w2.cell? ⟨(w.heap.size + 1), 0, none⟩ = some (.int .i64 br) := blk_cell b2_1 0 _ rfl
  have c2_1_1 : w2.cell? ⟨(w.heap.size + 1), 1, none⟩ = some (.int .i64 bi) := blk_cell b2_1 1 _ rfl
  have c2_1_2 : w2.cell? ⟨(w.heap.size + 1), 2, none⟩ = some (.int .i64 bd) := blk_cell b2_1 2 _ rfl
  have l2_0 := blk_lt b2_0
  have l2_1 := blk_lt b2_1
  clear hb2 n1
  go_wp2_with fail
  clear l2_0
  clear l2_1
  clear c2_0_0
  clear c2_0_1
  clear c2_0_2
  clear c2_1_0
  clear c2_1_1
  clear c2_1_2
  refine (S3.out _).mono ?_
  rintro e w3 ⟨rfl, hb3⟩
  have b3_0 : w3.heap[w.heap.size]? = some (.cells #[.int .i64 ar, .int .i64 ai, .int .i64 ad] 23) := blk_next hb3 (blk_alloc b2_0 _)
  have b3_1 : w3.heap[(w.heap.size + 1)]? = some (.cells #[.int .i64 br, .int .i64 bi, .int .i64 bd] 23) := blk_next hb3 (blk_alloc b2_1 _)
  have b3_2 : w3.heap[w1.heap.size]? = some (.cells #[.int .i64 r1, .int .i64 i1, .int .i64 d1] 23) := blk_next hb3 (blk_alloc b2_2 _)
  have b3_3 : w3.heap[w2.heap.size]? = some (.cells #[.int .i64 r1, .int .i64 i1, .int .i64 d1] 23) := blk_next hb3 (blk_new w2 _)
  clear b2_0 b2_1 b2_2
  have n3 : Hid (Below w.heap.size w w3) := Lib.hid (Bgo (Bal n2.out _) hb3)
  have c3_0_0 : w3.cell? ⟨w.heap.size, 0, none⟩ = some (.int .i64 ar) := blk_cell b3_0 0 _ rfl
  have c3_0_1 : w3.cell? ⟨w.heap.size, 1, none⟩ = some (.int .i64 ai) := blk_cell b3_0 1 _ rfl
  have c3_0_2 : w3.cell? ⟨w.heap.size, 2, none⟩ = some (.int .i64 ad) := blk_cell b3_0 2 _ rfl
  have c3_1_0 : w3.cell? ⟨(w.heap.size + 1), 0, none⟩ = some (.int .i64 br) := blk_cell b3_1 0 _ rfl
  have c3_1_1 : w3.cell? ⟨(w.heap.size + 1), 1, none⟩ = some (.int .i64 bi) := blk_cell b3_1 1 _ rfl
  have c3_1_2 : w3.cell? ⟨(w.heap.size + 1), 2, none⟩ = some (.int .i64 bd) := blk_cell b3_1 2 _ rfl
  have l3_0 := blk_lt b3_0
  have l3_1 := blk_lt b3_1
  clear hb3 n2
  go_wp2_with fail
  clear l3_0
  clear l3_1
  clear c3_0_0
  clear c3_0_1
  clear c3_0_2
  clear c3_1_0
  clear c3_1_1
  clear c3_1_2
  refine (S4.out _).mono ?_
  rintro e w4 ⟨rfl, hb4⟩
  have b4_0 : w4.heap[w.heap.size]? = some (.cells #[.int .i64 ar, .int .i64 ai, .int .i64 ad] 23) := blk_next hb4 (blk_alloc b3_0 _)
  have b4_1 : w4.heap[(w.heap.size + 1)]? = some (.cells #[.int .i64 br, .int .i64 bi, .int .i64 bd] 23) := blk_next hb4 (blk_alloc b3_1 _)
  have b4_2 : w4.heap[w1.heap.size]? = some (.cells #[.int .i64 r1, .int .i64 i1, .int .i64 d1] 23) := blk_next hb4 (blk_alloc b3_2 _)
  have b4_3 : w4.heap[w2.heap.size]? = some (.cells #[.int .i64 r1, .int .i64 i1, .int .i64 d1] 23) := blk_next hb4 (blk_alloc b3_3 _)
  have b4_4 : w4.heap[w3.heap.size]? = some (.cells #[.int .i64 r2, .int .i64 i2, .int .i64 d2] 23) := blk_next hb4 (blk_new w3 _)
  clear b3_0 b3_1 b3_2 b3_3
  have n4 : Hid (Below w.heap.size w w4) := Lib.hid (Bgo (Bal n3.out _) hb4)
  have c4_0_0 : w4.cell? ⟨w.heap.size, 0, none⟩ = some (.int .i64 ar) := blk_cell b4_0 0 _ rfl
  have c4_0_1 : w4.cell? ⟨w.heap.size, 1, none⟩ = some (.int .i64 ai) := blk_cell b4_0 1 _ rfl
  have c4_0_2 : w4.cell? ⟨w.heap.size, 2, none⟩ = some (.int .i64 ad) := blk_cell b4_0 2 _ rfl
  have c4_1_0 : w4.cell? ⟨(w.heap.size + 1), 0, none⟩ = some (.int .i64 br) := blk_cell b4_1 0 _ rfl
  have c4_1_1 : w4.cell? ⟨(w.heap.size + 1), 1, none⟩ = some (.int .i64 bi) := blk_cell b4_1 1 _ rfl
  have c4_1_2 : w4.cell? ⟨(w.heap.size + 1), 2, none⟩ = some (.int .i64 bd) := blk_cell b4_1 2 _ rfl
  have l4_0 := blk_lt b4_0
  have l4_1 := blk_lt b4_1
  clear hb4 n3
  go_wp2_with fail
  clear l4_0
  clear l4_1
  clear c4_0_0
  clear c4_0_1
  clear c4_0_2
  clear c4_1_0
  clear c4_1_1
  clear c4_1_2
  refine (S5.out _).mono ?_
  rintro e w5 ⟨rfl, hb5⟩
  have b5_0 : w5.heap[w.heap.size]? = some (.cells #[.int .i64 ar, .int .i64 ai, .int .i64 ad] 23) := blk_next hb5 (blk_alloc b4_0 _)
  have b5_1 : w5.heap[(w.heap.size + 1)]? = some (.cells #[.int .i64 br, .int .i64 bi, .int .i64 bd] 23) := blk_next hb5 (blk_alloc b4_1 _)
  have b5_2 : w5.heap[w1.heap.size]? = some (.cells #[.int .i64 r1, .int .i64 i1, .int .i64 d1] 23) := blk_next hb5 (blk_alloc b4_2 _)
  have b5_3 : w5.heap[w2.heap.size]? = some (.cells #[.int .i64 r1, .int .i64 i1, .int .i64 d1] 23) := blk_next hb5 (blk_alloc b4_3 _)
  have b5_4 : w5.heap[w3.heap.size]? = some (.cells #[.int .i64 r2, .int .i64 i2, .int .i64 d2] 23) := blk_next hb5 (blk_alloc b4_4 _)
  have b5_5 : w5.heap[w4.heap.size]? = some (.cells #[.int .i64 r2, .int .i64 i2, .int .i64 d2] 23) := blk_next hb5 (blk_new w4 _)
  clear b4_0 b4_1 b4_2 b4_3 b4_4
  have n5 : Hid (Below w.heap.size w w5) := Lib.hid (Bgo (Bal n4.out _) hb5)
  have c5_0_0 : w5.cell? ⟨w.heap.size, 0, none⟩ = some (.int .i64 ar) := blk_cell b5_0 0 _ rfl
  have c5_0_1 : w5.cell? ⟨w.heap.size, 1, none⟩ = some (.int .i64 ai) := blk_cell b5_0 1 _ rfl
  have c5_0_2 : w5.cell? ⟨w.heap.size, 2, none⟩ = some (.int .i64 ad) := blk_cell b5_0 2 _ rfl
  have c5_1_0 : w5.cell? ⟨(w.heap.size + 1), 0, none⟩ = some (.int .i64 br) := blk_cell b5_1 0 _ rfl
  have c5_1_1 : w5.cell? ⟨(w.heap.size + 1), 1, none⟩ = some (.int .i64 bi) := blk_cell b5_1 1 _ rfl
  have c5_1_2 : w5.cell? ⟨(w.heap.size + 1), 2, none⟩ = some (.int .i64 bd) := blk_cell b5_1 2 _ rfl
  have l5_0 := blk_lt b5_0
  have l5_1 := blk_lt b5_1
  clear hb5 n4
  go_wp2_with fail
  clear l5_0
  clear l5_1
  clear c5_0_0
  clear c5_0_1
  clear c5_0_2
  clear c5_1_0
  clear c5_1_1
  clear c5_1_2
  refine (S6.out _).mono ?_
  rintro e w6 ⟨rfl, hb6⟩
  have b6_0 : w6.heap[w.heap.size]? = some (.cells #[.int .i64 ar, .int .i64 ai, .int .i64 ad] 23) := blk_next hb6 (blk_alloc b5_0 _)
  have b6_1 : w6.heap[(w.heap.size + 1)]? = some (.cells #[.int .i64 br, .int .i64 bi, .int .i64 bd] 23) := blk_next hb6 (blk_alloc b5_1 _)
  have b6_2 : w6.heap[w1.heap.size]? = some (.cells #[.int .i64 r1, .int .i64 i1, .int .i64 d1] 23) := blk_next hb6 (blk_alloc b5_2 _)
  have b6_3 : w6.heap[w2.heap.size]? = some (.cells #[.int .i64 r1, .int .i64 i1, .int .i64 d1] 23) := blk_next hb6 (blk_alloc b5_3 _)
  have b6_4 : w6.heap[w3.heap.size]? = some (.cells #[.int .i64 r2, .int .i64 i2, .int .i64 d2] 23) := blk_next hb6 (blk_alloc b5_4 _)
  have b6_5 : w6.heap[w4.heap.size]? = some (.cells #[.int .i64 r2, .int .i64 i2, .int .i64 d2] 23) := blk_next hb6 (blk_alloc b5_5 _)
  have b6_6 : w6.heap[w5.heap.size]? = some (.cells #[.int .i64 r3, .int .i64 i3, .int .i64 d3] 23) := blk_next hb6 (blk_new w5 _)
  clear b5_0 b5_1 b5_2 b5_3 b5_4 b5_5
  have n6 : Hid (Below w.heap.size w w6) := Lib.hid (Bgo (Bal n5.out _) hb6)
  have c6_0_0 : w6.cell? ⟨w.heap.size, 0, none⟩ = some (.int .i64 ar) := blk_cell b6_0 0 _ rfl
  have c6_0_1 : w6.cell? ⟨w.heap.size, 1, none⟩ = some (.int .i64 ai) := blk_cell b6_0 1 _ rfl
  have c6_0_2 : w6.cell? ⟨w.heap.size, 2, none⟩ = some (.int .i64 ad) := blk_cell b6_0 2 _ rfl
  have c6_1_0 : w6.cell? ⟨(w.heap.size + 1), 0, none⟩ = some (.int .i64 br) := blk_cell b6_1 0 _ rfl
  have c6_1_1 : w6.cell? ⟨(w.heap.size + 1), 1, none⟩ = some (.int .i64 bi) := blk_cell b6_1 1 _ rfl
  have c6_1_2 : w6.cell? ⟨(w.heap.size + 1), 2, none⟩ = some (.int .i64 bd) := blk_cell b6_1 2 _ rfl
  have l6_0 := blk_lt b6_0
  have l6_1 := blk_lt b6_1
  clear hb6 n5
  go_wp2_with fail
  clear l6_0
  clear l6_1
  clear c6_0_0
  clear c6_0_1
  clear c6_0_2
  clear c6_1_0
  clear c6_1_1
  clear c6_1_2
  refine (S7.out _).mono ?_
  rintro e w7 ⟨rfl, hb7⟩
  have b7_0 : w7.heap[w.heap.size]? = some (.cells #[.int .i64 ar, .int .i64 ai, .int .i64 ad] 23) := blk_next hb7 (blk_alloc b6_0 _)
  have b7_1 : w7.heap[(w.heap.size + 1)]? = some (.cells #[.int .i64 br, .int .i64 bi, .int .i64 bd] 23) := blk_next hb7 (blk_alloc b6_1 _)
  have b7_2 : w7.heap[w1.heap.size]? = some (.cells #[.int .i64 r1, .int .i64 i1, .int .i64 d1] 23) := blk_next hb7 (blk_alloc b6_2 _)
  have b7_3 : w7.heap[w2.heap.size]? = some (.cells #[.int .i64 r1, .int .i64 i1, .int .i64 d1] 23) := blk_next hb7 (blk_alloc b6_3 _)
  have b7_4 : w7.heap[w3.heap.size]? = some (.cells #[.int .i64 r2, .int .i64 i2, .int .i64 d2] 23) := blk_next hb7 (blk_alloc b6_4 _)
  have b7_5 : w7.heap[w4.heap.size]? = some (.cells #[.int .i64 r2, .int .i64 i2, .int .i64 d2] 23) := blk_next hb7 (blk_alloc b6_5 _)
  have b7_6 : w7.heap[w5.heap.size]? = some (.cells #[.int .i64 r3, .int .i64 i3, .int .i64 d3] 23) := blk_next hb7 (blk_alloc b6_6 _)
  have b7_7 : w7.heap[w6.heap.size]? = some (.cells #[.int .i64 r3, .int .i64 i3, .int .i64 d3] 23) := blk_next hb7 (blk_new w6 _)
  clear b6_0 b6_1 b6_2 b6_3 b6_4 b6_5 b6_6
  have n7 : Hid (Below w.heap.size w w7) := Lib.hid (Bgo (Bal n6.out _) hb7)
  have c7_0_0 : w7.cell? ⟨w.heap.size, 0, none⟩ = some (.int .i64 ar) := blk_cell b7_0 0 _ rfl
  have c7_0_1 : w7.cell? ⟨w.heap.size, 1, none⟩ = some (.int .i64 ai) := blk_cell b7_0 1 _ rfl
  have c7_0_2 : w7.cell? ⟨w.heap.size, 2, none⟩ = some (.int .i64 ad) := blk_cell b7_0 2 _ rfl
  have c7_1_0 : w7.cell? ⟨(w.heap.size + 1), 0, none⟩ = some (.int .i64 br) := blk_cell b7_1 0 _ rfl
  have c7_1_1 : w7.cell? ⟨(w.heap.size + 1), 1, none⟩ = some (.int .i64 bi) := blk_cell b7_1 1 _ rfl
  have c7_1_2 : w7.cell? ⟨(w.heap.size + 1), 2, none⟩ = some (.int .i64 bd) := blk_cell b7_1 2 _ rfl
  have l7_0 := blk_lt b7_0
  have l7_1 := blk_lt b7_1
  clear hb7 n6
  go_wp2_with fail
  clear l7_0
  clear l7_1
  clear c7_0_0
  clear c7_0_1
  clear c7_0_2
  clear c7_1_0
  clear c7_1_1
  clear c7_1_2
  refine (S8.out _).mono ?_
  rintro e w8 ⟨rfl, hb8⟩
  have b8_0 : w8.heap[w.heap.size]? = some (.cells #[.int .i64 ar, .int .i64 ai, .int .i64 ad] 23) := blk_next hb8 (blk_alloc b7_0 _)
  have b8_1 : w8.heap[(w.heap.size + 1)]? = some (.cells #[.int .i64 br, .int .i64 bi, .int .i64 bd] 23) := blk_next hb8 (blk_alloc b7_1 _)
  have b8_2 : w8.heap[w1.heap.size]? = some (.cells #[.int .i64 r1, .int .i64 i1, .int .i64 d1] 23) := blk_next hb8 (blk_alloc b7_2 _)
  have b8_3 : w8.heap[w2.heap.size]? = some (.cells #[.int .i64 r1, .int .i64 i1, .int .i64 d1] 23) := blk_next hb8 (blk_alloc b7_3 _)
  have b8_4 : w8.heap[w3.heap.size]? = some (.cells #[.int .i64 r2, .int .i64 i2, .int .i64 d2] 23) := blk_next hb8 (blk_alloc b7_4 _)
  have b8_5 : w8.heap[w4.heap.size]? = some (.cells #[.int .i64 r2, .int .i64 i2, .int .i64 d2] 23) := blk_next hb8 (blk_alloc b7_5 _)
  have b8_6 : w8.heap[w5.heap.size]? = some (.cells #[.int .i64 r3, .int .i64 i3, .int .i64 d3] 23) := blk_next hb8 (blk_alloc b7_6 _)
  have b8_7 : w8.heap[w6.heap.size]? = some (.cells #[.int .i64 r3, .int .i64 i3, .int .i64 d3] 23) := blk_next hb8 (blk_alloc b7_7 _)
  have b8_8 : w8.heap[w7.heap.size]? = some (.cells #[.int .i64 n4, .int .i64 d4] 39) := blk_next hb8 (blk_new w7 _)
  clear b7_0 b7_1 b7_2 b7_3 b7_4 b7_5 b7_6 b7_7
  have n8 : Hid (Below w.heap.size w w8) := Lib.hid (Bgo (Bal n7.out _) hb8)
  have c8_0_0 : w8.cell? ⟨w.heap.size, 0, none⟩ = some (.int .i64 ar) := blk_cell b8_0 0 _ rfl
  have c8_0_1 : w8.cell? ⟨w.heap.size, 1, none⟩ = some (.int .i64 ai) := blk_cell b8_0 1 _ rfl
  have c8_0_2 : w8.cell? ⟨w.heap.size, 2, none⟩ = some (.int .i64 ad) := blk_cell b8_0 2 _ rfl
  have c8_1_0 : w8.cell? ⟨(w.heap.size + 1), 0, none⟩ = some (.int .i64 br) := blk_cell b8_1 0 _ rfl
  have c8_1_1 : w8.cell? ⟨(w.heap.size + 1), 1, none⟩ = some (.int .i64 bi) := blk_cell b8_1 1 _ rfl
  have c8_1_2 : w8.cell? ⟨(w.heap.size + 1), 2, none⟩ = some (.int .i64 bd) := blk_cell b8_1 2 _ rfl
  have l8_0 := blk_lt b8_0
  have l8_1 := blk_lt b8_1
  clear hb8 n7
  go_wp2_with fail
  clear l8_0
  clear l8_1
  clear c8_0_0
  clear c8_0_1
  clear c8_0_2
  clear c8_1_0
  clear c8_1_1
  clear c8_1_2
  refine (S9.out _).mono ?_
  rintro e w9 ⟨rfl, hb9⟩
  have b9_0 : w9.heap[w.heap.size]? = some (.cells #[.int .i64 ar, .int .i64 ai, .int .i64 ad] 23) := blk_next hb9 (blk_alloc b8_0 _)
  have b9_1 : w9.heap[(w.heap.size + 1)]? = some (.cells #[.int .i64 br, .int .i64 bi, .int .i64 bd] 23) := blk_next hb9 (blk_alloc b8_1 _)
  have b9_2 : w9.heap[w1.heap.size]? = some (.cells #[.int .i64 r1, .int .i64 i1, .int .i64 d1] 23) := blk_next hb9 (blk_alloc b8_2 _)
  have b9_3 : w9.heap[w2.heap.size]? = some (.cells #[.int .i64 r1, .int .i64 i1, .int .i64 d1] 23) := blk_next hb9 (blk_alloc b8_3 _)
  have b9_4 : w9.heap[w3.heap.size]? = some (.cells #[.int .i64 r2, .int .i64 i2, .int .i64 d2] 23) := blk_next hb9 (blk_alloc b8_4 _)
  have b9_5 : w9.heap[w4.heap.size]? = some (.cells #[.int .i64 r2, .int .i64 i2, .int .i64 d2] 23) := blk_next hb9 (blk_alloc b8_5 _)
  have b9_6 : w9.heap[w5.heap.size]? = some (.cells #[.int .i64 r3, .int .i64 i3, .int .i64 d3] 23) := blk_next hb9 (blk_alloc b8_6 _)
  have b9_7 : w9.heap[w6.heap.size]? = some (.cells #[.int .i64 r3, .int .i64 i3, .int .i64 d3] 23) := blk_next hb9 (blk_alloc b8_7 _)
  have b9_8 : w9.heap[w7.heap.size]? = some (.cells #[.int .i64 n4, .int .i64 d4] 39) := blk_next hb9 (blk_alloc b8_8 _)
  have b9_9 : w9.heap[w8.heap.size]? = some (.cells #[.int .i64 n4, .int .i64 d4] 39) := blk_next hb9 (blk_new w8 _)
  clear b8_0 b8_1 b8_2 b8_3 b8_4 b8_5 b8_6 b8_7 b8_8
  have n9 : Hid (Below w.heap.size w w9) := Lib.hid (Bgo (Bal n8.out _) hb9)
  have c9_0_0 : w9.cell? ⟨w.heap.size, 0, none⟩ = some (.int .i64 ar) := blk_cell b9_0 0 _ rfl
  have c9_0_1 : w9.cell? ⟨w.heap.size, 1, none⟩ = some (.int .i64 ai) := blk_cell b9_0 1 _ rfl
  have c9_0_2 : w9.cell? ⟨w.heap.size, 2, none⟩ = some (.int .i64 ad) := blk_cell b9_0 2 _ rfl
  have c9_1_0 : w9.cell? ⟨(w.heap.size + 1), 0, none⟩ = some (.int .i64 br) := blk_cell b9_1 0 _ rfl
  have c9_1_1 : w9.cell? ⟨(w.heap.size + 1), 1, none⟩ = some (.int .i64 bi) := blk_cell b9_1 1 _ rfl
  have c9_1_2 : w9.cell? ⟨(w.heap.size + 1), 2, none⟩ = some (.int .i64 bd) := blk_cell b9_1 2 _ rfl
  have l9_0 := blk_lt b9_0
  have l9_1 := blk_lt b9_1
  clear hb9 n8
  go_wp2_with fail
  clear l9_0
  clear l9_1
  clear c9_0_0
  clear c9_0_1
  clear c9_0_2
  clear c9_1_0
  clear c9_1_1
  clear c9_1_2
  refine (S10.out _).mono ?_
  rintro e w10 ⟨rfl, hb10⟩
  have b10_0 : w10.heap[w.heap.size]? = some (.cells #[.int .i64 ar, .int .i64 ai, .int .i64 ad] 23) := blk_next hb10 (blk_alloc b9_0 _)
  have b10_1 : w10.heap[(w.heap.size + 1)]? = some (.cells #[.int .i64 br, .int .i64 bi, .int .i64 bd] 23) := blk_next hb10 (blk_alloc b9_1 _)
  have b10_2 : w10.heap[w1.heap.size]? = some (.cells #[.int .i64 r1, .int .i64 i1, .int .i64 d1] 23) := blk_next hb10 (blk_alloc b9_2 _)
  have b10_3 : w10.heap[w2.heap.size]? = some (.cells #[.int .i64 r1, .int .i64 i1, .int .i64 d1] 23) := blk_next hb10 (blk_alloc b9_3 _)
  have b10_4 : w10.heap[w3.heap.size]? = some (.cells #[.int .i64 r2, .int .i64 i2, .int .i64 d2] 23) := blk_next hb10 (blk_alloc b9_4 _)
  have b10_5 : w10.heap[w4.heap.size]? = some (.cells #[.int .i64 r2, .int .i64 i2, .int .i64 d2] 23) := blk_next hb10 (blk_alloc b9_5 _)
  have b10_6 : w10.heap[w5.heap.size]? = some (.cells #[.int .i64 r3, .int .i64 i3, .int .i64 d3] 23) := blk_next hb10 (blk_alloc b9_6 _)
  have b10_7 : w10.heap[w6.heap.size]? = some (.cells #[.int .i64 r3, .int .i64 i3, .int .i64 d3] 23) := blk_next hb10 (blk_alloc b9_7 _)
  have b10_8 : w10.heap[w7.heap.size]? = some (.cells #[.int .i64 n4, .int .i64 d4] 39) := blk_next hb10 (blk_alloc b9_8 _)
  have b10_9 : w10.heap[w8.heap.size]? = some (.cells #[.int .i64 n4, .int .i64 d4] 39) := blk_next hb10 (blk_alloc b9_9 _)
  have b10_10 : w10.heap[w9.heap.size]? = some (.cells #[.int .i64 r5, .int .i64 i5, .int .i64 d5] 23) := blk_next hb10 (blk_new w9 _)
  clear b9_0 b9_1 b9_2 b9_3 b9_4 b9_5 b9_6 b9_7 b9_8 b9_9
  have n10 : Hid (Below w.heap.size w w10) := Lib.hid (Bgo (Bal n9.out _) hb10)
  have c10_0_0 : w10.cell? ⟨w.heap.size, 0, none⟩ = some (.int .i64 ar) := blk_cell b10_0 0 _ rfl
  have c10_0_1 : w10.cell? ⟨w.heap.size, 1, none⟩ = some (.int .i64 ai) := blk_cell b10_0 1 _ rfl
  have c10_0_2 : w10.cell? ⟨w.heap.size, 2, none⟩ = some (.int .i64 ad) := blk_cell b10_0 2 _ rfl
  have c10_1_0 : w10.cell? ⟨(w.heap.size + 1), 0, none⟩ = some (.int .i64 br) := blk_cell b10_1 0 _ rfl
  have c10_1_1 : w10.cell? ⟨(w.heap.size + 1), 1, none⟩ = some (.int .i64 bi) := blk_cell b10_1 1 _ rfl
  have c10_1_2 : w10.cell? ⟨(w.heap.size + 1), 2, none⟩ = some (.int .i64 bd) := blk_cell b10_1 2 _ rfl
  have l10_0 := blk_lt b10_0
  have l10_1 := blk_lt b10_1
  clear hb10 n9
  go_wp2_with fail
  clear l10_0
  clear l10_1
  clear c10_0_0
  clear c10_0_1
  clear c10_0_2
  clear c10_1_0
  clear c10_1_1
  clear c10_1_2
  refine (S11.out _).mono ?_
  rintro e w11 ⟨rfl, hb11⟩
  have b11_0 : w11.heap[w.heap.size]? = some (.cells #[.int .i64 ar, .int .i64 ai, .int .i64 ad] 23) := blk_next hb11 (blk_alloc b10_0 _)
  have b11_1 : w11.heap[(w.heap.size + 1)]? = some (.cells #[.int .i64 br, .int .i64 bi, .int .i64 bd] 23) := blk_next hb11 (blk_alloc b10_1 _)
  have b11_2 : w11.heap[w1.heap.size]? = some (.cells #[.int .i64 r1, .int .i64 i1, .int .i64 d1] 23) := blk_next hb11 (blk_alloc b10_2 _)
  have b11_3 : w11.heap[w2.heap.size]? = some (.cells #[.int .i64 r1, .int .i64 i1, .int .i64 d1] 23) := blk_next hb11 (blk_alloc b10_3 _)
  have b11_4 : w11.heap[w3.heap.size]? = some (.cells #[.int .i64 r2, .int .i64 i2, .int .i64 d2] 23) := blk_next hb11 (blk_alloc b10_4 _)
  have b11_5 : w11.heap[w4.heap.size]? = some (.cells #[.int .i64 r2, .int .i64 i2, .int .i64 d2] 23) := blk_next hb11 (blk_alloc b10_5 _)
  have b11_6 : w11.heap[w5.heap.size]? = some (.cells #[.int .i64 r3, .int .i64 i3, .int .i64 d3] 23) := blk_next hb11 (blk_alloc b10_6 _)
  have b11_7 : w11.heap[w6.heap.size]? = some (.cells #[.int .i64 r3, .int .i64 i3, .int .i64 d3] 23) := blk_next hb11 (blk_alloc b10_7 _)
  have b11_8 : w11.heap[w7.heap.size]? = some (.cells #[.int .i64 n4, .int .i64 d4] 39) := blk_next hb11 (blk_alloc b10_8 _)
  have b11_9 : w11.heap[w8.heap.size]? = some (.cells #[.int .i64 n4, .int .i64 d4] 39) := blk_next hb11 (blk_alloc b10_9 _)
  have b11_10 : w11.heap[w9.heap.size]? = some (.cells #[.int .i64 r5, .int .i64 i5, .int .i64 d5] 23) := blk_next hb11 (blk_alloc b10_10 _)
  have b11_11 : w11.heap[w10.heap.size]? = some (.cells #[.int .i64 r5, .int .i64 i5, .int .i64 d5] 23) := blk_next hb11 (blk_new w10 _)
  clear b10_0 b10_1 b10_2 b10_3 b10_4 b10_5 b10_6 b10_7 b10_8 b10_9 b10_10
  have n11 : Hid (Below w.heap.size w w11) := Lib.hid (Bgo (Bal n10.out _) hb11)
  have c11_0_0 : w11.cell? ⟨w.heap.size, 0, none⟩ = some (.int .i64 ar) := blk_cell b11_0 0 _ rfl
  have c11_0_1 : w11.cell? ⟨w.heap.size, 1, none⟩ = some (.int .i64 ai) := blk_cell b11_0 1 _ rfl
  have c11_0_2 : w11.cell? ⟨w.heap.size, 2, none⟩ = some (.int .i64 ad) := blk_cell b11_0 2 _ rfl
  have c11_1_0 : w11.cell? ⟨(w.heap.size + 1), 0, none⟩ = some (.int .i64 br) := blk_cell b11_1 0 _ rfl
  have c11_1_1 : w11.cell? ⟨(w.heap.size + 1), 1, none⟩ = some (.int .i64 bi) := blk_cell b11_1 1 _ rfl
  have c11_1_2 : w11.cell? ⟨(w.heap.size + 1), 2, none⟩ = some (.int .i64 bd) := blk_cell b11_1 2 _ rfl
  have l11_0 := blk_lt b11_0
  have l11_1 := blk_lt b11_1
  clear hb11 n10
  go_wp2_with fail
  clear l11_0
  clear l11_1
  clear c11_0_0
  clear c11_0_1
  clear c11_0_2
  clear c11_1_0
  clear c11_1_1
  clear c11_1_2
  refine (S12.out _).mono ?_
  rintro e w12 ⟨rfl, hb12⟩
  have b12_0 : w12.heap[w.heap.size]? = some (.cells #[.int .i64 ar, .int .i64 ai, .int .i64 ad] 23) := blk_next hb12 b11_0
  have b12_1 : w12.heap[(w.heap.size + 1)]? = some (.cells #[.int .i64 br, .int .i64 bi, .int .i64 bd] 23) := blk_next hb12 b11_1
  have b12_2 : w12.heap[w1.heap.size]? = some (.cells #[.int .i64 r1, .int .i64 i1, .int .i64 d1] 23) := blk_next hb12 b11_2
  have b12_3 : w12.heap[w2.heap.size]? = some (.cells #[.int .i64 r1, .int .i64 i1, .int .i64 d1] 23) := blk_next hb12 b11_3
  have b12_4 : w12.heap[w3.heap.size]? = some (.cells #[.int .i64 r2, .int .i64 i2, .int .i64 d2] 23) := blk_next hb12 b11_4
  have b12_5 : w12.heap[w4.heap.size]? = some (.cells #[.int .i64 r2, .int .i64 i2, .int .i64 d2] 23) := blk_next hb12 b11_5
  have b12_6 : w12.heap[w5.heap.size]? = some (.cells #[.int .i64 r3, .int .i64 i3, .int .i64 d3] 23) := blk_next hb12 b11_6
  have b12_7 : w12.heap[w6.heap.size]? = some (.cells #[.int .i64 r3, .int .i64 i3, .int .i64 d3] 23) := blk_next hb12 b11_7
  have b12_8 : w12.heap[w7.heap.size]? = some (.cells #[.int .i64 n4, .int .i64 d4] 39) := blk_next hb12 b11_8
  have b12_9 : w12.heap[w8.heap.size]? = some (.cells #[.int .i64 n4, .int .i64 d4] 39) := blk_next hb12 b11_9
  have b12_10 : w12.heap[w9.heap.size]? = some (.cells #[.int .i64 r5, .int .i64 i5, .int .i64 d5] 23) := blk_next hb12 b11_10
  have b12_11 : w12.heap[w10.heap.size]? = some (.cells #[.int .i64 r5, .int .i64 i5, .int .i64 d5] 23) := blk_next hb12 b11_11
  clear b11_0 b11_1 b11_2 b11_3 b11_4 b11_5 b11_6 b11_7 b11_8 b11_9 b11_10 b11_11
  have n12 : Hid (Below w.heap.size w w12) := Lib.hid (Bgo n11.out hb12)
  have c12_0_0 : w12.cell? ⟨w.heap.size, 0, none⟩ = some (.int .i64 ar) := blk_cell b12_0 0 _ rfl
  have c12_0_1 : w12.cell? ⟨w.heap.size, 1, none⟩ = some (.int .i64 ai) := blk_cell b12_0 1 _ rfl
  have c12_0_2 : w12.cell? ⟨w.heap.size, 2, none⟩ = some (.int .i64 ad) := blk_cell b12_0 2 _ rfl
  have c12_1_0 : w12.cell? ⟨(w.heap.size + 1), 0, none⟩ = some (.int .i64 br) := blk_cell b12_1 0 _ rfl
  have c12_1_1 : w12.cell? ⟨(w.heap.size + 1), 1, none⟩ = some (.int .i64 bi) := blk_cell b12_1 1 _ rfl
  have c12_1_2 : w12.cell? ⟨(w.heap.size + 1), 2, none⟩ = some (.int .i64 bd) := blk_cell b12_1 2 _ rfl
  have l12_0 := blk_lt b12_0
  have l12_1 := blk_lt b12_1
  clear hb12 n11
  have c12_2_0 : w12.cell? ⟨w1.heap.size, 0, none⟩ = some (.int .i64 r1) := blk_cell b12_2 0 _ rfl
  have c12_2_1 : w12.cell? ⟨w1.heap.size, 1, none⟩ = some (.int .i64 i1) := blk_cell b12_2 1 _ rfl
  have c12_2_2 : w12.cell? ⟨w1.heap.size, 2, none⟩ = some (.int .i64 d1) := blk_cell b12_2 2 _ rfl
  have c12_3_0 : w12.cell? ⟨w2.heap.size, 0, none⟩ = some (.int .i64 r1) := blk_cell b12_3 0 _ rfl
  have c12_3_1 : w12.cell? ⟨w2.heap.size, 1, none⟩ = some (.int .i64 i1) := blk_cell b12_3 1 _ rfl
  have c12_3_2 : w12.cell? ⟨w2.heap.size, 2, none⟩ = some (.int .i64 d1) := blk_cell b12_3 2 _ rfl
  have c12_4_0 : w12.cell? ⟨w3.heap.size, 0, none⟩ = some (.int .i64 r2) := blk_cell b12_4 0 _ rfl
  have c12_4_1 : w12.cell? ⟨w3.heap.size, 1, none⟩ = some (.int .i64 i2) := blk_cell b12_4 1 _ rfl
  have c12_4_2 : w12.cell? ⟨w3.heap.size, 2, none⟩ = some (.int .i64 d2) := blk_cell b12_4 2 _ rfl
  have c12_5_0 : w12.cell? ⟨w4.heap.size, 0, none⟩ = some (.int .i64 r2) := blk_cell b12_5 0 _ rfl
  have c12_5_1 : w12.cell? ⟨w4.heap.size, 1, none⟩ = some (.int .i64 i2) := blk_cell b12_5 1 _ rfl
  have c12_5_2 : w12.cell? ⟨w4.heap.size, 2, none⟩ = some (.int .i64 d2) := blk_cell b12_5 2 _ rfl
  have c12_6_0 : w12.cell? ⟨w5.heap.size, 0, none⟩ = some (.int .i64 r3) := blk_cell b12_6 0 _ rfl
  have c12_6_1 : w12.cell? ⟨w5.heap.size, 1, none⟩ = some (.int .i64 i3) := blk_cell b12_6 1 _ rfl
  have c12_6_2 : w12.cell? ⟨w5.heap.size, 2, none⟩ = some (.int .i64 d3) := blk_cell b12_6 2 _ rfl
  have c12_7_0 : w12.cell? ⟨w6.heap.size, 0, none⟩ = some (.int .i64 r3) := blk_cell b12_7 0 _ rfl
  have c12_7_1 : w12.cell? ⟨w6.heap.size, 1, none⟩ = some (.int .i64 i3) := blk_cell b12_7 1 _ rfl
  have c12_7_2 : w12.cell? ⟨w6.heap.size, 2, none⟩ = some (.int .i64 d3) := blk_cell b12_7 2 _ rfl
  have c12_8_0 : w12.cell? ⟨w7.heap.size, 0, none⟩ = some (.int .i64 n4) := blk_cell b12_8 0 _ rfl
  have c12_8_1 : w12.cell? ⟨w7.heap.size, 1, none⟩ = some (.int .i64 d4) := blk_cell b12_8 1 _ rfl
  have c12_9_0 : w12.cell? ⟨w8.heap.size, 0, none⟩ = some (.int .i64 n4) := blk_cell b12_9 0 _ rfl
  have c12_9_1 : w12.cell? ⟨w8.heap.size, 1, none⟩ = some (.int .i64 d4) := blk_cell b12_9 1 _ rfl
  have c12_10_0 : w12.cell? ⟨w9.heap.size, 0, none⟩ = some (.int .i64 r5) := blk_cell b12_10 0 _ rfl
  have c12_10_1 : w12.cell? ⟨w9.heap.size, 1, none⟩ = some (.int .i64 i5) := blk_cell b12_10 1 _ rfl
  have c12_10_2 : w12.cell? ⟨w9.heap.size, 2, none⟩ = some (.int .i64 d5) := blk_cell b12_10 2 _ rfl
  have c12_11_0 : w12.cell? ⟨w10.heap.size, 0, none⟩ = some (.int .i64 r5) := blk_cell b12_11 0 _ rfl
  have c12_11_1 : w12.cell? ⟨w10.heap.size, 1, none⟩ = some (.int .i64 i5) := blk_cell b12_11 1 _ rfl
  have c12_11_2 : w12.cell? ⟨w10.heap.size, 2, none⟩ = some (.int .i64 d5) := blk_cell b12_11 2 _ rfl
  go_wp2_with fail
  clear l12_0
  clear l12_1
  go_ret
  exact ⟨rfl, n12.out⟩

set_option maxRecDepth 100000 in
theorem lifted (os : Os) (started : os.Started) (H : Type) (enc : TypeId × Value → H) :
    ReturnsInHanded {} Try.checked os 4 .any (Rows.cxTurnsSpec.pre6 enc Try.prog Try.f4 Rows.cxTurnsRow.domain false) (Rows.cxTurnsSpec.post enc Try.prog Try.f4 false true false false) := by
  refine returnsInHanded_of_change (C := Try.checked) own started (by kernel_rfl) Try.func4
    (ChangeSpec.witness6 (enc := enc) (C := Try.checked) false ⟨#[], #[.agg #[.int .i64 0, .int .i64 0, .int .i64 0], .agg #[.int .i64 0, .int .i64 0, .int .i64 0], .int .i64 0, .int .i64 0, .int .i64 0, .int .i64 0], []⟩ 8 (by kernel_rfl) (by kernel_rfl) (by kernel_rfl) (by kernel_rfl)) ?_
  intro W base args ds gs before hval0 hW hcnd _
  have hval : ∀ (j : Nat) t v, Try.f4.params[j]? = some t → args[j]? = some v → Value.okWide Try.prog W .any base t v := hval0
  have hW' := hW
  obtain ⟨p, q, hA0, hV, rfl, hfz, hnd⟩ := hW
  have hA : DataW.TrodAll enc Try.prog W 0 (fun _ => true) true Try.f4.params.toList args.toList ds p := hA0
  rw [Try.params4] at hA hval
  obtain ⟨v0, vs0, d0, ds0, p0, q0, hargs, rfl, rfl, h0, r0⟩ := trodAll_cons hA
  obtain ⟨v1, vs1, d1, ds1, p1, q1, rfl, rfl, rfl, h1, r1⟩ := trodAll_cons r0
  obtain ⟨v2, vs2, d2, ds2, p2, q2, rfl, rfl, rfl, h2, r2⟩ := trodAll_cons r1
  obtain ⟨v3, vs3, d3, ds3, p3, q3, rfl, rfl, rfl, h3, r3⟩ := trodAll_cons r2
  obtain ⟨v4, vs4, d4, ds4, p4, q4, rfl, rfl, rfl, h4, r4⟩ := trodAll_cons r3
  obtain ⟨v5, vs5, d5, ds5, p5, q5, rfl, rfl, rfl, h5, r5⟩ := trodAll_cons r4
  obtain ⟨rfl, rfl, rfl⟩ := trodAll_nil r5
  obtain rfl : args = #[v0, v1, v2, v3, v4, v5] := by cases args; simp_all
  obtain ⟨rfl, rfl⟩ := trodVars_none hV
  have k0 := h0
  have lt0 : ∀ x ∈ p0, x.block < W.heap.size := by obtain ⟨m, hm⟩ := k0; exact DataW.trod_lt m _ _ _ hm
  obtain ⟨c0_0, c1_0, c2_0, y0_0, y1_0, y2_0, m0, rfl, _, _, t0_0, t1_0, t2_0⟩ := open_agg3 Try.underlying23 (by kernel_rfl) (show Try.prog.cellsOf 23 = 3 by kernel_rfl) (hval 0 23 v0 rfl rfl) h0
  obtain ⟨ar, e0_0, _, war⟩ := DataW.trod_int Try.underlying2 t0_0
  simp only [List.cons.injEq, and_true] at e0_0
  subst e0_0
  obtain ⟨ai, e1_0, _, wai⟩ := DataW.trod_int Try.underlying2 t1_0
  simp only [List.cons.injEq, and_true] at e1_0
  subst e1_0
  obtain ⟨ad, e2_0, _, wad⟩ := DataW.trod_int Try.underlying2 t2_0
  simp only [List.cons.injEq, and_true] at e2_0
  subst e2_0
  have k1 := h1
  have lt1 : ∀ x ∈ p1, x.block < W.heap.size := by obtain ⟨m, hm⟩ := k1; exact DataW.trod_lt m _ _ _ hm
  obtain ⟨c0_1, c1_1, c2_1, y0_1, y1_1, y2_1, m1, rfl, _, _, t0_1, t1_1, t2_1⟩ := open_agg3 Try.underlying23 (by kernel_rfl) (show Try.prog.cellsOf 23 = 3 by kernel_rfl) (hval 1 23 v1 rfl rfl) h1
  obtain ⟨br, e0_1, _, wbr⟩ := DataW.trod_int Try.underlying2 t0_1
  simp only [List.cons.injEq, and_true] at e0_1
  subst e0_1
  obtain ⟨bi, e1_1, _, wbi⟩ := DataW.trod_int Try.underlying2 t1_1
  simp only [List.cons.injEq, and_true] at e1_1
  subst e1_1
  obtain ⟨bd, e2_1, _, wbd⟩ := DataW.trod_int Try.underlying2 t2_1
  simp only [List.cons.injEq, and_true] at e2_1
  subst e2_1
  have k2 := h2
  have lt2 : ∀ x ∈ p2, x.block < W.heap.size := by obtain ⟨m, hm⟩ := k2; exact DataW.trod_lt m _ _ _ hm
  obtain ⟨re, rfl, _, _, wre⟩ := open_int Try.underlying2 (hval 2 2 v2 rfl rfl) h2
  have k3 := h3
  have lt3 : ∀ x ∈ p3, x.block < W.heap.size := by obtain ⟨m, hm⟩ := k3; exact DataW.trod_lt m _ _ _ hm
  obtain ⟨im, rfl, _, _, wim⟩ := open_int Try.underlying2 (hval 3 2 v3 rfl rfl) h3
  have k4 := h4
  have lt4 : ∀ x ∈ p4, x.block < W.heap.size := by obtain ⟨m, hm⟩ := k4; exact DataW.trod_lt m _ _ _ hm
  obtain ⟨den, rfl, _, _, wden⟩ := open_int Try.underlying2 (hval 4 2 v4 rfl rfl) h4
  have k5 := h5
  have lt5 : ∀ x ∈ p5, x.block < W.heap.size := by obtain ⟨m, hm⟩ := k5; exact DataW.trod_lt m _ _ _ hm
  obtain ⟨q0, rfl, _, _, wq0⟩ := open_int Try.underlying3 (hval 5 3 v5 rfl rfl) h5
  clear hA0 hval0
  refine (walk ar ai ad br bi bd re im den q0 W).mono fun e W' ⟨he, bel⟩ => ?_
  subst he
  exact ⟨_, rfl, _, _, _, [], _, [], hW', trodAll_mk1 (shut_bool Try.underlying4 _), (trodAll_cons_mk (Below.trod laidOut (by kernel_rfl) (of_decide_eq_true (by kernel_rfl)) k0 bel lt0) (trodAll_cons_mk (Below.trod laidOut (by kernel_rfl) (of_decide_eq_true (by kernel_rfl)) k1 bel lt1) (trodAll_cons_mk (Below.trod laidOut (by kernel_rfl) (of_decide_eq_true (by kernel_rfl)) k2 bel lt2) (trodAll_cons_mk (Below.trod laidOut (by kernel_rfl) (of_decide_eq_true (by kernel_rfl)) k3 bel lt3) (trodAll_cons_mk (Below.trod laidOut (by kernel_rfl) (of_decide_eq_true (by kernel_rfl)) k4 bel lt4) (trodAll_cons_mk (Below.trod laidOut (by kernel_rfl) (of_decide_eq_true (by kernel_rfl)) k5 bel lt5) trodAll_mk0)))))), rfl, bel.frame _, fun h => by cases h⟩

theorem over : Rows.cxTurnsRow.holds Try.pinned (OpenSpec.ofChange Rows.cxTurnsSpec) :=
  OpenClaim.holds_of_wide 4 Try.f4 rfl rfl rfl rfl rfl rfl rfl ⟨rfl, rfl, rfl, rfl, rfl⟩ rfl rfl rfl rfl rfl (by kernel_rfl) Try.func4 (by kernel_rfl)
    (of_decide_eq_true (by kernel_rfl)) (by unfold Func.isWrapper; first | (rw [if_pos (by decide +kernel)]; kernel_rfl) | (rw [if_neg (by decide +kernel)]; exact ⟨rfl, rfl⟩))
    (fun os started H enc _ => lifted os started H enc)

theorem proved : Rows.CxTurnsSaid := over
#print axioms proved
end Go.Proofs.Ytbbjclbpllfdeaa.cxTurns
