/- Several texts in one. -/
import Derived.Test.YtapehckcmmompaaM18
namespace Go.Proofs.Ytapehckcmmompaa
open Go.ChangeShapes Go.WideShapes Go.ChangeAt Go.RowKit
set_option linter.unusedVariables false
set_option maxRecDepth 100000
attribute [local go_sem ↓] Go.wp_at_zero Go.wp_at_succ
set_option maxHeartbeats 16000000 in
theorem refFail_calls (d p : Int) (D A : Option Addr) (cd ca B : Nat) (ds : List Dk) (os : List Ob) (x : Int) (w : World) (hnd : ds.length ≤ cd) (hcd : cd ≤ 9223372036854775807) (hna : os.length ≤ ca) (hca : ca ≤ 9223372036854775807) (hd : RD B w D ds) (hs : RO B w A os) (hl : ∀ o ∈ os, Lh o.name) :
  Calls Try.prog 31 #[Tv d p (.slice D ds.length cd) (.slice A os.length ca), .int .i64 x] w (SOPost w (faiS d p ds os x) (faiE d p ds os x)) := by
 have HD := Lib.hid hd
 have HS := Lib.hid hs
 have HL := Lib.hid hl
 clear hd hs hl
 by_cases ck : chS d p ds os = 0
 rotate_left
 ·skip
  have E := faiE_bad (x := x) ck
  have S : faiS d p ds os x = noS := by unfold faiS; rw [E]; exact if_neg (by first | exact ck | decide)
  rw [E, S]
  clear E S
  go_enter Try.func31, Try.ntmps31
  go_upto_region 1 with fail
  have SB : Hid (((w.alloc (.cells #[.int .i64 d, .int .i64 p, .slice D ds.length cd, .slice A os.length ca] 25)).alloc (.cells #[.int .i64 0, .int .i64 0, .slice none 0 0, .slice none 0 0] 25)).heap[w.heap.size]? = some (.cells #[.int .i64 d, .int .i64 p, .slice D ds.length cd, .slice A os.length ca] 25)) := Lib.hid (blk_alloc (blk_new w _) _)
  have XB : Hid (((w.alloc (.cells #[.int .i64 d, .int .i64 p, .slice D ds.length cd, .slice A os.length ca] 25)).alloc (.cells #[.int .i64 0, .int .i64 0, .slice none 0 0, .slice none 0 0] 25)).heap[w.heap.size + 1]? = some (.cells #[.int .i64 0, .int .i64 0, .slice none 0 0, .slice none 0 0] 25)) := Lib.hid (blk_at _ (by simp))
  have NN : Hid (Below w.heap.size w ((w.alloc (.cells #[.int .i64 d, .int .i64 p, .slice D ds.length cd, .slice A os.length ca] 25)).alloc (.cells #[.int .i64 0, .int .i64 0, .slice none 0 0, .slice none 0 0] 25))) := Lib.hid (Bal (Bal (Below.refl _ _) _) _)
  generalize ((w.alloc (.cells #[.int .i64 d, .int .i64 p, .slice D ds.length cd, .slice A os.length ca] 25)).alloc (.cells #[.int .i64 0, .int .i64 0, .slice none 0 0, .slice none 0 0] 25)) = W0 at *
  have s0 := blk_cell SB.out 0 _ rfl
  have s1 := blk_cell SB.out 1 _ rfl
  have s2 := blk_cell SB.out 2 _ rfl
  have s3 := blk_cell SB.out 3 _ rfl
  have ls := blk_lt SB.out
  go_wp2_with fail
  clear s0 s1 s2 s3 ls
  refine (oRefCheck_calls d p D A cd ca B ds os _ hnd hcd hna hca (HD.out.next NN.out) (HS.out.next NN.out) HL.out).mono ?_
  rintro e w1 ⟨rfl, hb⟩
  replace SB := Lib.hid (blk_next hb SB.out)
  replace XB := Lib.hid (blk_next hb XB.out)
  replace NN := Lib.hid (Bgo NN.out hb)
  clear hb
  have LX := blk_lt XB.out
  have ck2 : (chS d p ds os != 0) = true := by rw [bne_iff_ne]; exact ck
  have x0 := blk_cell XB.out 0 _ rfl
  have fx0 := blk_frozen XB.out 0
  have x1 := blk_cell XB.out 1 _ rfl
  have fx1 := blk_frozen XB.out 1
  have x2 := blk_cell XB.out 2 _ rfl
  have fx2 := blk_frozen XB.out 2
  have x3 := blk_cell XB.out 3 _ rfl
  have fx3 := blk_frozen XB.out 3
  have lx := blk_lt XB.out
  go_wp2_with fail
  have Z := blk_set4 XB.out (.int .i64 0) (.int .i64 0) (.slice none 0 0) (.slice none 0 0)
  have e0 := blk_cell Z 0 _ rfl
  have e1 := blk_cell Z 1 _ rfl
  have e2 := blk_cell Z 2 _ rfl
  have e3 := blk_cell Z 3 _ rfl
  exact bodyPost_ret (v := .tuple #[Tv 0 0 (.slice none 0 0) (.slice none 0 0), .int .i64 (chS d p ds os)]) (by simp [results, Try.results31, go_sem, e0, e1, e2, e3]) rfl ⟨_, _, rfl, OT.nil _ _, OO.nil _ _, Bset4 NN.out (by omega) _ _ _ _⟩
 by_cases q0 : x < 0
 ·have t_q0 : decide (x < 0) = true := decide_eq_true q0
  have E := faiE_arg ck (.inl q0)
  have S : faiS d p ds os x = noS := by unfold faiS; rw [E]; exact if_neg (by first | exact ck | decide)
  rw [E, S]
  clear E S
  go_enter Try.func31, Try.ntmps31
  go_upto_region 1 with fail
  have SB : Hid (((w.alloc (.cells #[.int .i64 d, .int .i64 p, .slice D ds.length cd, .slice A os.length ca] 25)).alloc (.cells #[.int .i64 0, .int .i64 0, .slice none 0 0, .slice none 0 0] 25)).heap[w.heap.size]? = some (.cells #[.int .i64 d, .int .i64 p, .slice D ds.length cd, .slice A os.length ca] 25)) := Lib.hid (blk_alloc (blk_new w _) _)
  have XB : Hid (((w.alloc (.cells #[.int .i64 d, .int .i64 p, .slice D ds.length cd, .slice A os.length ca] 25)).alloc (.cells #[.int .i64 0, .int .i64 0, .slice none 0 0, .slice none 0 0] 25)).heap[w.heap.size + 1]? = some (.cells #[.int .i64 0, .int .i64 0, .slice none 0 0, .slice none 0 0] 25)) := Lib.hid (blk_at _ (by simp))
  have NN : Hid (Below w.heap.size w ((w.alloc (.cells #[.int .i64 d, .int .i64 p, .slice D ds.length cd, .slice A os.length ca] 25)).alloc (.cells #[.int .i64 0, .int .i64 0, .slice none 0 0, .slice none 0 0] 25))) := Lib.hid (Bal (Bal (Below.refl _ _) _) _)
  generalize ((w.alloc (.cells #[.int .i64 d, .int .i64 p, .slice D ds.length cd, .slice A os.length ca] 25)).alloc (.cells #[.int .i64 0, .int .i64 0, .slice none 0 0, .slice none 0 0] 25)) = W0 at *
  have s0 := blk_cell SB.out 0 _ rfl
  have s1 := blk_cell SB.out 1 _ rfl
  have s2 := blk_cell SB.out 2 _ rfl
  have s3 := blk_cell SB.out 3 _ rfl
  have ls := blk_lt SB.out
  go_wp2_with fail
  clear s0 s1 s2 s3 ls
  refine (oRefCheck_calls d p D A cd ca B ds os _ hnd hcd hna hca (HD.out.next NN.out) (HS.out.next NN.out) HL.out).mono ?_
  rintro e w1 ⟨rfl, hb⟩
  replace SB := Lib.hid (blk_next hb SB.out)
  replace XB := Lib.hid (blk_next hb XB.out)
  replace NN := Lib.hid (Bgo NN.out hb)
  clear hb
  have LX := blk_lt XB.out
  rw [ck]
  have s0 := blk_cell SB.out 0 _ rfl
  have s1 := blk_cell SB.out 1 _ rfl
  have s2 := blk_cell SB.out 2 _ rfl
  have s3 := blk_cell SB.out 3 _ rfl
  have ls := blk_lt SB.out
  have x0 := blk_cell XB.out 0 _ rfl
  have fx0 := blk_frozen XB.out 0
  have x1 := blk_cell XB.out 1 _ rfl
  have fx1 := blk_frozen XB.out 1
  have x2 := blk_cell XB.out 2 _ rfl
  have fx2 := blk_frozen XB.out 2
  have x3 := blk_cell XB.out 3 _ rfl
  have fx3 := blk_frozen XB.out 3
  have lx := blk_lt XB.out
  go_wp2_with fail
  have Z := blk_set4 XB.out (.int .i64 0) (.int .i64 0) (.slice none 0 0) (.slice none 0 0)
  have e0 := blk_cell Z 0 _ rfl
  have e1 := blk_cell Z 1 _ rfl
  have e2 := blk_cell Z 2 _ rfl
  have e3 := blk_cell Z 3 _ rfl
  exact bodyPost_ret (v := .tuple #[Tv 0 0 (.slice none 0 0) (.slice none 0 0), .int .i64 (2)]) (by simp [results, Try.results31, go_sem, e0, e1, e2, e3]) rfl ⟨_, _, rfl, OT.nil _ _, OO.nil _ _, Bset4 NN.out (by omega) _ _ _ _⟩
 have t_q0 : decide (x < 0) = false := decide_eq_false q0
 by_cases q1 : (ds.length : Int) ≤ x
 ·have t_q1 : decide ((ds.length : Int) ≤ x) = true := decide_eq_true q1
  have E := faiE_arg ck (.inr q1)
  have S : faiS d p ds os x = noS := by unfold faiS; rw [E]; exact if_neg (by first | exact ck | decide)
  rw [E, S]
  clear E S
  go_enter Try.func31, Try.ntmps31
  go_upto_region 1 with fail
  have SB : Hid (((w.alloc (.cells #[.int .i64 d, .int .i64 p, .slice D ds.length cd, .slice A os.length ca] 25)).alloc (.cells #[.int .i64 0, .int .i64 0, .slice none 0 0, .slice none 0 0] 25)).heap[w.heap.size]? = some (.cells #[.int .i64 d, .int .i64 p, .slice D ds.length cd, .slice A os.length ca] 25)) := Lib.hid (blk_alloc (blk_new w _) _)
  have XB : Hid (((w.alloc (.cells #[.int .i64 d, .int .i64 p, .slice D ds.length cd, .slice A os.length ca] 25)).alloc (.cells #[.int .i64 0, .int .i64 0, .slice none 0 0, .slice none 0 0] 25)).heap[w.heap.size + 1]? = some (.cells #[.int .i64 0, .int .i64 0, .slice none 0 0, .slice none 0 0] 25)) := Lib.hid (blk_at _ (by simp))
  have NN : Hid (Below w.heap.size w ((w.alloc (.cells #[.int .i64 d, .int .i64 p, .slice D ds.length cd, .slice A os.length ca] 25)).alloc (.cells #[.int .i64 0, .int .i64 0, .slice none 0 0, .slice none 0 0] 25))) := Lib.hid (Bal (Bal (Below.refl _ _) _) _)
  generalize ((w.alloc (.cells #[.int .i64 d, .int .i64 p, .slice D ds.length cd, .slice A os.length ca] 25)).alloc (.cells #[.int .i64 0, .int .i64 0, .slice none 0 0, .slice none 0 0] 25)) = W0 at *
  have s0 := blk_cell SB.out 0 _ rfl
  have s1 := blk_cell SB.out 1 _ rfl
  have s2 := blk_cell SB.out 2 _ rfl
  have s3 := blk_cell SB.out 3 _ rfl
  have ls := blk_lt SB.out
  go_wp2_with fail
  clear s0 s1 s2 s3 ls
  refine (oRefCheck_calls d p D A cd ca B ds os _ hnd hcd hna hca (HD.out.next NN.out) (HS.out.next NN.out) HL.out).mono ?_
  rintro e w1 ⟨rfl, hb⟩
  replace SB := Lib.hid (blk_next hb SB.out)
  replace XB := Lib.hid (blk_next hb XB.out)
  replace NN := Lib.hid (Bgo NN.out hb)
  clear hb
  have LX := blk_lt XB.out
  rw [ck]
  have s0 := blk_cell SB.out 0 _ rfl
  have s1 := blk_cell SB.out 1 _ rfl
  have s2 := blk_cell SB.out 2 _ rfl
  have s3 := blk_cell SB.out 3 _ rfl
  have ls := blk_lt SB.out
  have x0 := blk_cell XB.out 0 _ rfl
  have fx0 := blk_frozen XB.out 0
  have x1 := blk_cell XB.out 1 _ rfl
  have fx1 := blk_frozen XB.out 1
  have x2 := blk_cell XB.out 2 _ rfl
  have fx2 := blk_frozen XB.out 2
  have x3 := blk_cell XB.out 3 _ rfl
  have fx3 := blk_frozen XB.out 3
  have lx := blk_lt XB.out
  go_wp2_with fail
  have Z := blk_set4 XB.out (.int .i64 0) (.int .i64 0) (.slice none 0 0) (.slice none 0 0)
  have e0 := blk_cell Z 0 _ rfl
  have e1 := blk_cell Z 1 _ rfl
  have e2 := blk_cell Z 2 _ rfl
  have e3 := blk_cell Z 3 _ rfl
  exact bodyPost_ret (v := .tuple #[Tv 0 0 (.slice none 0 0) (.slice none 0 0), .int .i64 (2)]) (by simp [results, Try.results31, go_sem, e0, e1, e2, e3]) rfl ⟨_, _, rfl, OT.nil _ _, OO.nil _ _, Bset4 NN.out (by omega) _ _ _ _⟩
 have t_q1 : decide ((ds.length : Int) ≤ x) = false := decide_eq_false q1
 obtain ⟨n, rfl⟩ : ∃ n : Nat, x = (n : Int) := ⟨x.toNat, by omega⟩
 have hn : n < ds.length := by omega
 obtain ⟨k, hk⟩ := get_some hn
 have HK := Lib.hid hk
 have E1 := faiE_at (os := os) ck hk
 have OK := Lib.hid (chS_ok ck)
 have n20 : ds.length ≤ 12 := by have := OK.out.len; have := OK.out.d8; have := OK.out.p4; omega
 have n16 := OK.out.n16
 have FB := faN_le ds
 have hwf : IntKind.i64.wrap ((faN ds : Int) + 1) = (faN ds : Int) + 1 := IntWalk.i64_in _ (by omega)
 have SB9 := OK.out.str
 have q01 : (0 : Int) ≤ (n : Int) := by omega
 have q02 : (n : Int) < (ds.length : Int) := by omega
 clear hk q0 q1
 by_cases hf : k.failed = true
 ·rw [if_pos hf] at E1
  have S : faiS d p ds os (n : Int) = noS := by unfold faiS; rw [E1]; exact if_neg (by decide)
  rw [E1, S]
  clear E1 S
  go_enter Try.func31, Try.ntmps31
  go_upto_region 1 with fail
  have SB : Hid (((w.alloc (.cells #[.int .i64 d, .int .i64 p, .slice D ds.length cd, .slice A os.length ca] 25)).alloc (.cells #[.int .i64 0, .int .i64 0, .slice none 0 0, .slice none 0 0] 25)).heap[w.heap.size]? = some (.cells #[.int .i64 d, .int .i64 p, .slice D ds.length cd, .slice A os.length ca] 25)) := Lib.hid (blk_alloc (blk_new w _) _)
  have XB : Hid (((w.alloc (.cells #[.int .i64 d, .int .i64 p, .slice D ds.length cd, .slice A os.length ca] 25)).alloc (.cells #[.int .i64 0, .int .i64 0, .slice none 0 0, .slice none 0 0] 25)).heap[w.heap.size + 1]? = some (.cells #[.int .i64 0, .int .i64 0, .slice none 0 0, .slice none 0 0] 25)) := Lib.hid (blk_at _ (by simp))
  have NN : Hid (Below w.heap.size w ((w.alloc (.cells #[.int .i64 d, .int .i64 p, .slice D ds.length cd, .slice A os.length ca] 25)).alloc (.cells #[.int .i64 0, .int .i64 0, .slice none 0 0, .slice none 0 0] 25))) := Lib.hid (Bal (Bal (Below.refl _ _) _) _)
  generalize ((w.alloc (.cells #[.int .i64 d, .int .i64 p, .slice D ds.length cd, .slice A os.length ca] 25)).alloc (.cells #[.int .i64 0, .int .i64 0, .slice none 0 0, .slice none 0 0] 25)) = W0 at *
  have s0 := blk_cell SB.out 0 _ rfl
  have s1 := blk_cell SB.out 1 _ rfl
  have s2 := blk_cell SB.out 2 _ rfl
  have s3 := blk_cell SB.out 3 _ rfl
  have ls := blk_lt SB.out
  go_wp2_with fail
  clear s0 s1 s2 s3 ls
  refine (oRefCheck_calls d p D A cd ca B ds os _ hnd hcd hna hca (HD.out.next NN.out) (HS.out.next NN.out) HL.out).mono ?_
  rintro e w1 ⟨rfl, hb⟩
  replace SB := Lib.hid (blk_next hb SB.out)
  replace XB := Lib.hid (blk_next hb XB.out)
  replace NN := Lib.hid (Bgo NN.out hb)
  clear hb
  have LX := blk_lt XB.out
  rw [ck]
  obtain ⟨b, off, Ai, ci, rfl, hb9, c0, c1, h2, h3, hm⟩ := HD.out.at_ HK.out
  rw [hf] at c0
  replace c0 := (NN.out.cell hb9).trans c0
  clear hm c1
  have s0 := blk_cell SB.out 0 _ rfl
  have s1 := blk_cell SB.out 1 _ rfl
  have s2 := blk_cell SB.out 2 _ rfl
  have s3 := blk_cell SB.out 3 _ rfl
  have ls := blk_lt SB.out
  have x0 := blk_cell XB.out 0 _ rfl
  have fx0 := blk_frozen XB.out 0
  have x1 := blk_cell XB.out 1 _ rfl
  have fx1 := blk_frozen XB.out 1
  have x2 := blk_cell XB.out 2 _ rfl
  have fx2 := blk_frozen XB.out 2
  have x3 := blk_cell XB.out 3 _ rfl
  have fx3 := blk_frozen XB.out 3
  have lx := blk_lt XB.out
  go_wp2_with fail
  have Z := blk_set4 XB.out (.int .i64 0) (.int .i64 0) (.slice none 0 0) (.slice none 0 0)
  have e0 := blk_cell Z 0 _ rfl
  have e1 := blk_cell Z 1 _ rfl
  have e2 := blk_cell Z 2 _ rfl
  have e3 := blk_cell Z 3 _ rfl
  exact bodyPost_ret (v := .tuple #[Tv 0 0 (.slice none 0 0) (.slice none 0 0), .int .i64 (36)]) (by simp [results, Try.results31, go_sem, e0, e1, e2, e3]) rfl ⟨_, _, rfl, OT.nil _ _, OO.nil _ _, Bset4 NN.out (by omega) _ _ _ _⟩
 have hf' : k.failed = false := by simpa using hf
 rw [if_neg hf] at E1
 by_cases h1 : 0 < strN os
 ·have t1 : decide (0 < strN os) = true := decide_eq_true h1
  by_cases h2 : faN ds + 1 = ds.length
  ·have t2 : ((faN ds : Int) + 1 == (ds.length : Int)) = true := by rw [beq_iff_eq]; omega
   rw [if_pos ⟨h1, h2⟩] at E1
   have S : faiS d p ds os (n : Int) = noS := by unfold faiS; rw [E1]; exact if_neg (by decide)
   rw [E1, S]
   clear E1 S
   go_enter Try.func31, Try.ntmps31
   go_upto_region 1 with fail
   have SB : Hid (((w.alloc (.cells #[.int .i64 d, .int .i64 p, .slice D ds.length cd, .slice A os.length ca] 25)).alloc (.cells #[.int .i64 0, .int .i64 0, .slice none 0 0, .slice none 0 0] 25)).heap[w.heap.size]? = some (.cells #[.int .i64 d, .int .i64 p, .slice D ds.length cd, .slice A os.length ca] 25)) := Lib.hid (blk_alloc (blk_new w _) _)
   have XB : Hid (((w.alloc (.cells #[.int .i64 d, .int .i64 p, .slice D ds.length cd, .slice A os.length ca] 25)).alloc (.cells #[.int .i64 0, .int .i64 0, .slice none 0 0, .slice none 0 0] 25)).heap[w.heap.size + 1]? = some (.cells #[.int .i64 0, .int .i64 0, .slice none 0 0, .slice none 0 0] 25)) := Lib.hid (blk_at _ (by simp))
   have NN : Hid (Below w.heap.size w ((w.alloc (.cells #[.int .i64 d, .int .i64 p, .slice D ds.length cd, .slice A os.length ca] 25)).alloc (.cells #[.int .i64 0, .int .i64 0, .slice none 0 0, .slice none 0 0] 25))) := Lib.hid (Bal (Bal (Below.refl _ _) _) _)
   generalize ((w.alloc (.cells #[.int .i64 d, .int .i64 p, .slice D ds.length cd, .slice A os.length ca] 25)).alloc (.cells #[.int .i64 0, .int .i64 0, .slice none 0 0, .slice none 0 0] 25)) = W0 at *
   have s0 := blk_cell SB.out 0 _ rfl
   have s1 := blk_cell SB.out 1 _ rfl
   have s2 := blk_cell SB.out 2 _ rfl
   have s3 := blk_cell SB.out 3 _ rfl
   have ls := blk_lt SB.out
   go_wp2_with fail
   clear s0 s1 s2 s3 ls
   refine (oRefCheck_calls d p D A cd ca B ds os _ hnd hcd hna hca (HD.out.next NN.out) (HS.out.next NN.out) HL.out).mono ?_
   rintro e w1 ⟨rfl, hb⟩
   replace SB := Lib.hid (blk_next hb SB.out)
   replace XB := Lib.hid (blk_next hb XB.out)
   replace NN := Lib.hid (Bgo NN.out hb)
   clear hb
   have LX := blk_lt XB.out
   rw [ck]
   obtain ⟨b, off, Ai, ci, rfl, hb9, c0, c1, h2, h3, hm⟩ := HD.out.at_ HK.out
   rw [hf'] at c0
   replace c0 := (NN.out.cell hb9).trans c0
   clear hm c1
   have s0 := blk_cell SB.out 0 _ rfl
   have s1 := blk_cell SB.out 1 _ rfl
   have s2 := blk_cell SB.out 2 _ rfl
   have s3 := blk_cell SB.out 3 _ rfl
   have ls := blk_lt SB.out
   go_wp2_with fail
   clear s0 s1 s2 s3 ls
   clear c0
   refine region_I (S := SK [(0, w.heap.size, .cells #[.int .i64 d, .int .i64 p, .slice (some ⟨b, off, none⟩) ds.length cd, .slice A os.length ca] 25), (4, w.heap.size, .cells #[.int .i64 d, .int .i64 p, .slice (some ⟨b, off, none⟩) ds.length cd, .slice A os.length ca] 25), (8, w.heap.size, .cells #[.int .i64 d, .int .i64 p, .slice (some ⟨b, off, none⟩) ds.length cd, .slice A os.length ca] 25)]) (by kernel_rfl) ?_
   have HAL := Lib.hid (fun (k : Nat) => (show SK [(0, w.heap.size, .cells #[.int .i64 d, .int .i64 p, .slice (some ⟨b, off, none⟩) ds.length cd, .slice A os.length ca] 25), (4, w.heap.size, .cells #[.int .i64 d, .int .i64 p, .slice (some ⟨b, off, none⟩) ds.length cd, .slice A os.length ca] 25), (8, w.heap.size, .cells #[.int .i64 d, .int .i64 p, .slice (some ⟨b, off, none⟩) ds.length cd, .slice A os.length ca] 25)] k w1.drew from fun p hp e => by
    simp only [List.mem_cons, List.not_mem_nil, or_false] at hp
    rcases hp with rfl | rfl | rfl
    ·exact SB.out
    ·exact SB.out
    ·exact SB.out))
   have HDRW := Lib.hid (Below.drew (Below.refl w1.heap.size w1))
   replace NN := Lib.hid (Bgo NN.out HDRW.out)
   replace SB := Lib.hid (blk_next HDRW.out SB.out)
   replace XB := Lib.hid (blk_next HDRW.out XB.out)
   clear HDRW
   refine take_I 0 (.agg #[.int .i64 d, .int .i64 p, .slice (some ⟨b, off, none⟩) ds.length cd, .slice A os.length ca]) (some 31) rfl (by kernel_rfl) (by kernel_rfl) (by kernel_rfl) rfl (fun _ _ _ h => h) (Or.inl ⟨by rfl, ?_⟩) (HAL.out 0) ?_
   ·intro X hX
    have hh := hX (0, w.heap.size, .cells #[.int .i64 d, .int .i64 p, .slice (some ⟨b, off, none⟩) ds.length cd, .slice A os.length ca] 25) (List.Mem.head _) rfl
    have hh0 := blk_cell hh 0 _ rfl
    have hh1 := blk_cell hh 1 _ rfl
    have hh2 := blk_cell hh 2 _ rfl
    have hh3 := blk_cell hh 3 _ rfl
    have hhl := blk_lt hh
    clear hh
    clear hX
    go_simp
   try simp only [Act.put, zA, zB, zC]
   refine only_I 1 (by kernel_rfl) rfl (fun K' hK' => ?_)
   go_simp
   go_at_call 28
   refine (stripes_calls d p _ A ca B os _ hna hca (HS.out.next NN.out) OK.out.sm (by omega)).mono ?_
   rintro e x1 ⟨rfl, hb⟩
   replace NN := Lib.hid (Bgo NN.out hb)
   replace SB := Lib.hid (blk_next hb SB.out)
   replace XB := Lib.hid (blk_next hb XB.out)
   go_simp
   refine hK'.out _ _ (fun k _ hS => hS.next hb) ?_
   clear hK' K'
   try simp only [Act.put, zA, zB, zC]
   replace HAL := Lib.hid (fun k => (HAL.out k).next hb)
   refine take_I 2 (.bool true) (some 33) rfl (by kernel_rfl) (by kernel_rfl) (by kernel_rfl) rfl (fun _ _ _ h => h) (Or.inl ⟨by rfl, ?_⟩) (SK.drop (by simp)) ?_
   ·intro X hX
    clear hX
    go_simp
   try simp only [Act.put, zA, zB, zC]
   refine take_I 3 (.bool true) (some 34) rfl (by kernel_rfl) (by kernel_rfl) (by kernel_rfl) rfl (fun _ _ _ h => h) (Or.inl ⟨by rfl, ?_⟩) (SK.drop (by simp)) ?_
   ·intro X hX
    clear hX
    go_simp
   try simp only [Act.put, zA, zB, zC]
   refine take_I 4 (.agg #[.int .i64 d, .int .i64 p, .slice (some ⟨b, off, none⟩) ds.length cd, .slice A os.length ca]) (some 35) rfl (by kernel_rfl) (by kernel_rfl) (by kernel_rfl) rfl (fun _ _ _ h => h) (Or.inl ⟨by rfl, ?_⟩) (HAL.out 4) ?_
   ·intro X hX
    have hh := hX (4, w.heap.size, .cells #[.int .i64 d, .int .i64 p, .slice (some ⟨b, off, none⟩) ds.length cd, .slice A os.length ca] 25) (List.Mem.tail _ (List.Mem.head _)) rfl
    have hh0 := blk_cell hh 0 _ rfl
    have hh1 := blk_cell hh 1 _ rfl
    have hh2 := blk_cell hh 2 _ rfl
    have hh3 := blk_cell hh 3 _ rfl
    have hhl := blk_lt hh
    clear hh
    clear hX
    go_simp
   try simp only [Act.put, zA, zB, zC]
   refine take_I 7 (.pointer (some ⟨w.heap.size, 2, none⟩)) (some 38) rfl (by kernel_rfl) (by kernel_rfl) (by kernel_rfl) rfl (fun _ _ _ h => h) (Or.inl ⟨by rfl, ?_⟩) (SK.drop (by simp)) ?_
   ·intro X hX
    clear hX
    go_simp
   try simp only [Act.put, zA, zB, zC]
   refine take_I 8 (.slice (some ⟨b, off, none⟩) ds.length cd) (some 39) rfl (by kernel_rfl) (by kernel_rfl) (by kernel_rfl) rfl (fun _ _ _ h => h) (Or.inl ⟨by rfl, ?_⟩) (HAL.out 8) ?_
   ·intro X hX
    have hh := hX (8, w.heap.size, .cells #[.int .i64 d, .int .i64 p, .slice (some ⟨b, off, none⟩) ds.length cd, .slice A os.length ca] 25) (List.Mem.tail _ (List.Mem.tail _ (List.Mem.head _))) rfl
    have hh2 := blk_cell hh 2 _ rfl
    have hhl := blk_lt hh
    clear hh
    clear hX
    go_simp
   try simp only [Act.put, zA, zB, zC]
   refine take_I 9 (.int .i64 (ds.length : Nat)) (some 40) rfl (by kernel_rfl) (by kernel_rfl) (by kernel_rfl) rfl (fun _ _ _ h => h) (Or.inl ⟨by rfl, ?_⟩) (SK.drop (by simp)) ?_
   ·intro X hX
    clear hX
    go_simp
   try simp only [Act.put, zA, zB, zC]
   refine only_I 5 (by kernel_rfl) rfl (fun K' hK' => ?_)
   go_simp
   go_at_call 24
   refine (failed_calls d p _ (some ⟨b, off, none⟩) cd B ds _ hnd hcd (HD.out.next NN.out)).mono ?_
   rintro e x2 ⟨rfl, hb⟩
   replace NN := Lib.hid (Bgo NN.out hb)
   replace SB := Lib.hid (blk_next hb SB.out)
   replace XB := Lib.hid (blk_next hb XB.out)
   go_simp
   refine hK'.out _ _ (fun k _ hS => hS.next hb) ?_
   clear hK' K'
   try simp only [Act.put, zA, zB, zC]
   replace HAL := Lib.hid (fun k => (HAL.out k).next hb)
   refine take_I 6 (.int .i64 ((faN ds : Int) + 1)) (some 37) rfl (by kernel_rfl) (by kernel_rfl) (by kernel_rfl) rfl (fun _ _ _ h => h) (Or.inl ⟨by rfl, ?_⟩) (SK.drop (by simp)) ?_
   ·intro X hX
    clear hX
    go_simp
   try simp only [Act.put, zA, zB, zC]
   refine take_I 10 (.bool true) (some 41) rfl (by kernel_rfl) (by kernel_rfl) (by kernel_rfl) rfl (fun _ _ _ h => h) (Or.inl ⟨by rfl, ?_⟩) (SK.drop (by simp)) ?_
   ·intro X hX
    clear hX
    go_simp
   try simp only [Act.put, zA, zB, zC]
   refine take_I 11 (.bool true) (some 42) rfl (by kernel_rfl) (by kernel_rfl) (by kernel_rfl) rfl (fun _ _ _ h => h) (Or.inl ⟨by rfl, ?_⟩) (SK.drop (by simp)) ?_
   ·intro X hX
    clear hX
    go_simp
   try simp only [Act.put, zA, zB, zC]
   clear HAL
   refine done_I (by kernel_rfl) ?_ _
   have x0 := blk_cell XB.out 0 _ rfl
   have fx0 := blk_frozen XB.out 0
   have x1 := blk_cell XB.out 1 _ rfl
   have fx1 := blk_frozen XB.out 1
   have x2 := blk_cell XB.out 2 _ rfl
   have fx2 := blk_frozen XB.out 2
   have x3 := blk_cell XB.out 3 _ rfl
   have fx3 := blk_frozen XB.out 3
   have lx := blk_lt XB.out
   go_wp2_with fail
   have Z := blk_set4 XB.out (.int .i64 0) (.int .i64 0) (.slice none 0 0) (.slice none 0 0)
   have e0 := blk_cell Z 0 _ rfl
   have e1 := blk_cell Z 1 _ rfl
   have e2 := blk_cell Z 2 _ rfl
   have e3 := blk_cell Z 3 _ rfl
   exact bodyPost_ret (v := .tuple #[Tv 0 0 (.slice none 0 0) (.slice none 0 0), .int .i64 (32)]) (by simp [results, Try.results31, go_sem, e0, e1, e2, e3]) rfl ⟨_, _, rfl, OT.nil _ _, OO.nil _ _, Bset4 NN.out (by omega) _ _ _ _⟩
  have t2 : ((faN ds : Int) + 1 == (ds.length : Int)) = false := by rw [beq_eq_false_iff_ne]; omega
  rw [if_neg (fun h => h2 h.2)] at E1
  have S : faiS d p ds os (n : Int) = (d, p, ds.set n ⟨true, []⟩, os) := by unfold faiS; rw [E1, if_pos rfl, Int.toNat_natCast]
  rw [E1, S]
  clear E1 S
  go_enter Try.func31, Try.ntmps31
  go_upto_region 1 with fail
  have SB : Hid (((w.alloc (.cells #[.int .i64 d, .int .i64 p, .slice D ds.length cd, .slice A os.length ca] 25)).alloc (.cells #[.int .i64 0, .int .i64 0, .slice none 0 0, .slice none 0 0] 25)).heap[w.heap.size]? = some (.cells #[.int .i64 d, .int .i64 p, .slice D ds.length cd, .slice A os.length ca] 25)) := Lib.hid (blk_alloc (blk_new w _) _)
  have XB : Hid (((w.alloc (.cells #[.int .i64 d, .int .i64 p, .slice D ds.length cd, .slice A os.length ca] 25)).alloc (.cells #[.int .i64 0, .int .i64 0, .slice none 0 0, .slice none 0 0] 25)).heap[w.heap.size + 1]? = some (.cells #[.int .i64 0, .int .i64 0, .slice none 0 0, .slice none 0 0] 25)) := Lib.hid (blk_at _ (by simp))
  have NN : Hid (Below w.heap.size w ((w.alloc (.cells #[.int .i64 d, .int .i64 p, .slice D ds.length cd, .slice A os.length ca] 25)).alloc (.cells #[.int .i64 0, .int .i64 0, .slice none 0 0, .slice none 0 0] 25))) := Lib.hid (Bal (Bal (Below.refl _ _) _) _)
  generalize ((w.alloc (.cells #[.int .i64 d, .int .i64 p, .slice D ds.length cd, .slice A os.length ca] 25)).alloc (.cells #[.int .i64 0, .int .i64 0, .slice none 0 0, .slice none 0 0] 25)) = W0 at *
  have s0 := blk_cell SB.out 0 _ rfl
  have s1 := blk_cell SB.out 1 _ rfl
  have s2 := blk_cell SB.out 2 _ rfl
  have s3 := blk_cell SB.out 3 _ rfl
  have ls := blk_lt SB.out
  go_wp2_with fail
  clear s0 s1 s2 s3 ls
  refine (oRefCheck_calls d p D A cd ca B ds os _ hnd hcd hna hca (HD.out.next NN.out) (HS.out.next NN.out) HL.out).mono ?_
  rintro e w1 ⟨rfl, hb⟩
  replace SB := Lib.hid (blk_next hb SB.out)
  replace XB := Lib.hid (blk_next hb XB.out)
  replace NN := Lib.hid (Bgo NN.out hb)
  clear hb
  have LX := blk_lt XB.out
  rw [ck]
  obtain ⟨b, off, Ai, ci, rfl, hb9, c0, c1, h2, h3, hm⟩ := HD.out.at_ HK.out
  rw [hf'] at c0
  replace c0 := (NN.out.cell hb9).trans c0
  clear hm c1
  have s0 := blk_cell SB.out 0 _ rfl
  have s1 := blk_cell SB.out 1 _ rfl
  have s2 := blk_cell SB.out 2 _ rfl
  have s3 := blk_cell SB.out 3 _ rfl
  have ls := blk_lt SB.out
  go_wp2_with fail
  clear s0 s1 s2 s3 ls
  clear c0
  refine region_I (S := SK [(0, w.heap.size, .cells #[.int .i64 d, .int .i64 p, .slice (some ⟨b, off, none⟩) ds.length cd, .slice A os.length ca] 25), (4, w.heap.size, .cells #[.int .i64 d, .int .i64 p, .slice (some ⟨b, off, none⟩) ds.length cd, .slice A os.length ca] 25), (8, w.heap.size, .cells #[.int .i64 d, .int .i64 p, .slice (some ⟨b, off, none⟩) ds.length cd, .slice A os.length ca] 25)]) (by kernel_rfl) ?_
  have HAL := Lib.hid (fun (k : Nat) => (show SK [(0, w.heap.size, .cells #[.int .i64 d, .int .i64 p, .slice (some ⟨b, off, none⟩) ds.length cd, .slice A os.length ca] 25), (4, w.heap.size, .cells #[.int .i64 d, .int .i64 p, .slice (some ⟨b, off, none⟩) ds.length cd, .slice A os.length ca] 25), (8, w.heap.size, .cells #[.int .i64 d, .int .i64 p, .slice (some ⟨b, off, none⟩) ds.length cd, .slice A os.length ca] 25)] k w1.drew from fun p hp e => by
   simp only [List.mem_cons, List.not_mem_nil, or_false] at hp
   rcases hp with rfl | rfl | rfl
   ·exact SB.out
   ·exact SB.out
   ·exact SB.out))
  have HDRW := Lib.hid (Below.drew (Below.refl w1.heap.size w1))
  replace NN := Lib.hid (Bgo NN.out HDRW.out)
  replace SB := Lib.hid (blk_next HDRW.out SB.out)
  replace XB := Lib.hid (blk_next HDRW.out XB.out)
  clear HDRW
  refine take_I 0 (.agg #[.int .i64 d, .int .i64 p, .slice (some ⟨b, off, none⟩) ds.length cd, .slice A os.length ca]) (some 31) rfl (by kernel_rfl) (by kernel_rfl) (by kernel_rfl) rfl (fun _ _ _ h => h) (Or.inl ⟨by rfl, ?_⟩) (HAL.out 0) ?_
  ·intro X hX
   have hh := hX (0, w.heap.size, .cells #[.int .i64 d, .int .i64 p, .slice (some ⟨b, off, none⟩) ds.length cd, .slice A os.length ca] 25) (List.Mem.head _) rfl
   have hh0 := blk_cell hh 0 _ rfl
   have hh1 := blk_cell hh 1 _ rfl
   have hh2 := blk_cell hh 2 _ rfl
   have hh3 := blk_cell hh 3 _ rfl
   have hhl := blk_lt hh
   clear hh
   clear hX
   go_simp
  try simp only [Act.put, zA, zB, zC]
  refine only_I 1 (by kernel_rfl) rfl (fun K' hK' => ?_)
  go_simp
  go_at_call 28
  refine (stripes_calls d p _ A ca B os _ hna hca (HS.out.next NN.out) OK.out.sm (by omega)).mono ?_
  rintro e x1 ⟨rfl, hb⟩
  replace NN := Lib.hid (Bgo NN.out hb)
  replace SB := Lib.hid (blk_next hb SB.out)
  replace XB := Lib.hid (blk_next hb XB.out)
  go_simp
  refine hK'.out _ _ (fun k _ hS => hS.next hb) ?_
  clear hK' K'
  try simp only [Act.put, zA, zB, zC]
  replace HAL := Lib.hid (fun k => (HAL.out k).next hb)
  refine take_I 2 (.bool true) (some 33) rfl (by kernel_rfl) (by kernel_rfl) (by kernel_rfl) rfl (fun _ _ _ h => h) (Or.inl ⟨by rfl, ?_⟩) (SK.drop (by simp)) ?_
  ·intro X hX
   clear hX
   go_simp
  try simp only [Act.put, zA, zB, zC]
  refine take_I 3 (.bool true) (some 34) rfl (by kernel_rfl) (by kernel_rfl) (by kernel_rfl) rfl (fun _ _ _ h => h) (Or.inl ⟨by rfl, ?_⟩) (SK.drop (by simp)) ?_
  ·intro X hX
   clear hX
   go_simp
  try simp only [Act.put, zA, zB, zC]
  refine take_I 4 (.agg #[.int .i64 d, .int .i64 p, .slice (some ⟨b, off, none⟩) ds.length cd, .slice A os.length ca]) (some 35) rfl (by kernel_rfl) (by kernel_rfl) (by kernel_rfl) rfl (fun _ _ _ h => h) (Or.inl ⟨by rfl, ?_⟩) (HAL.out 4) ?_
  ·intro X hX
   have hh := hX (4, w.heap.size, .cells #[.int .i64 d, .int .i64 p, .slice (some ⟨b, off, none⟩) ds.length cd, .slice A os.length ca] 25) (List.Mem.tail _ (List.Mem.head _)) rfl
   have hh0 := blk_cell hh 0 _ rfl
   have hh1 := blk_cell hh 1 _ rfl
   have hh2 := blk_cell hh 2 _ rfl
   have hh3 := blk_cell hh 3 _ rfl
   have hhl := blk_lt hh
   clear hh
   clear hX
   go_simp
  try simp only [Act.put, zA, zB, zC]
  refine take_I 7 (.pointer (some ⟨w.heap.size, 2, none⟩)) (some 38) rfl (by kernel_rfl) (by kernel_rfl) (by kernel_rfl) rfl (fun _ _ _ h => h) (Or.inl ⟨by rfl, ?_⟩) (SK.drop (by simp)) ?_
  ·intro X hX
   clear hX
   go_simp
  try simp only [Act.put, zA, zB, zC]
  refine take_I 8 (.slice (some ⟨b, off, none⟩) ds.length cd) (some 39) rfl (by kernel_rfl) (by kernel_rfl) (by kernel_rfl) rfl (fun _ _ _ h => h) (Or.inl ⟨by rfl, ?_⟩) (HAL.out 8) ?_
  ·intro X hX
   have hh := hX (8, w.heap.size, .cells #[.int .i64 d, .int .i64 p, .slice (some ⟨b, off, none⟩) ds.length cd, .slice A os.length ca] 25) (List.Mem.tail _ (List.Mem.tail _ (List.Mem.head _))) rfl
   have hh2 := blk_cell hh 2 _ rfl
   have hhl := blk_lt hh
   clear hh
   clear hX
   go_simp
  try simp only [Act.put, zA, zB, zC]
  refine take_I 9 (.int .i64 (ds.length : Nat)) (some 40) rfl (by kernel_rfl) (by kernel_rfl) (by kernel_rfl) rfl (fun _ _ _ h => h) (Or.inl ⟨by rfl, ?_⟩) (SK.drop (by simp)) ?_
  ·intro X hX
   clear hX
   go_simp
  try simp only [Act.put, zA, zB, zC]
  refine only_I 5 (by kernel_rfl) rfl (fun K' hK' => ?_)
  go_simp
  go_at_call 24
  refine (failed_calls d p _ (some ⟨b, off, none⟩) cd B ds _ hnd hcd (HD.out.next NN.out)).mono ?_
  rintro e x2 ⟨rfl, hb⟩
  replace NN := Lib.hid (Bgo NN.out hb)
  replace SB := Lib.hid (blk_next hb SB.out)
  replace XB := Lib.hid (blk_next hb XB.out)
  go_simp
  refine hK'.out _ _ (fun k _ hS => hS.next hb) ?_
  clear hK' K'
  try simp only [Act.put, zA, zB, zC]
  replace HAL := Lib.hid (fun k => (HAL.out k).next hb)
  refine take_I 6 (.int .i64 ((faN ds : Int) + 1)) (some 37) rfl (by kernel_rfl) (by kernel_rfl) (by kernel_rfl) rfl (fun _ _ _ h => h) (Or.inl ⟨by rfl, ?_⟩) (SK.drop (by simp)) ?_
  ·intro X hX
   clear hX
   go_simp
  try simp only [Act.put, zA, zB, zC]
  refine take_I 10 (.bool false) (some 41) rfl (by kernel_rfl) (by kernel_rfl) (by kernel_rfl) rfl (fun _ _ _ h => h) (Or.inl ⟨by rfl, ?_⟩) (SK.drop (by simp)) ?_
  ·intro X hX
   clear hX
   go_simp
  try simp only [Act.put, zA, zB, zC]
  refine take_I 11 (.bool false) (some 42) rfl (by kernel_rfl) (by kernel_rfl) (by kernel_rfl) rfl (fun _ _ _ h => h) (Or.inl ⟨by rfl, ?_⟩) (SK.drop (by simp)) ?_
  ·intro X hX
   clear hX
   go_simp
  try simp only [Act.put, zA, zB, zC]
  clear HAL
  refine done_I (by kernel_rfl) ?_ _
  have s0 := blk_cell SB.out 0 _ rfl
  have s1 := blk_cell SB.out 1 _ rfl
  have s2 := blk_cell SB.out 2 _ rfl
  have s3 := blk_cell SB.out 3 _ rfl
  have ls := blk_lt SB.out
  go_wp2_with fail
  clear s0 s1 s2 s3 ls
  refine (twin_calls d p _ A cd ca B ds os _ hnd hcd hna hca (HD.out.next NN.out) (HS.out.next NN.out) (by omega) (by have := OK.out.n16; omega) (fun k hk => ⟨by have := (OK.out.bd hk).1; omega, fun b hb => by have := (OK.out.bd hk).2 b hb; omega⟩)).mono ?_
  rintro e w9 ⟨v, u, rfl, ht, hu, hb⟩
  have T := Lib.hid (ht.mono NN.out.size)
  have U := Lib.hid (hu.mono NN.out.size)
  clear ht hu
  obtain ⟨Av, cv, rfl, hv1, hv2⟩ := T.out.form
  obtain ⟨Au, cu, rfl, hu1, hu2⟩ := U.out.form
  replace SB := Lib.hid (blk_next hb SB.out)
  replace XB := Lib.hid (blk_next hb XB.out)
  replace NN := Lib.hid (Bgo NN.out hb)
  clear hb
  go_upto_region 11 with fail
  have HB : Hid ((w9.alloc (.cells #[.int .i64 d, .int .i64 p, .slice Av ds.length cv, .slice Au os.length cu] 25)).heap[w9.heap.size]? = some (.cells #[.int .i64 d, .int .i64 p, .slice Av ds.length cv, .slice Au os.length cu] 25)) := Lib.hid (blk_new _ _)
  have B9 : Below w9.heap.size w9 (w9.alloc (.cells #[.int .i64 d, .int .i64 p, .slice Av ds.length cv, .slice Au os.length cu] 25)) := Bal (Below.refl _ _) _
  have LX : w.heap.size + 1 < w9.heap.size := blk_lt XB.out
  replace SB := Lib.hid (blk_next B9 SB.out)
  replace XB := Lib.hid (blk_next B9 XB.out)
  replace NN := Lib.hid (Bgo NN.out B9)
  replace T := Lib.hid (T.out.next B9)
  replace U := Lib.hid (U.out.next B9)
  clear B9
  generalize (w9.alloc (.cells #[.int .i64 d, .int .i64 p, .slice Av ds.length cv, .slice Au os.length cu] 25)) = W1 at *
  generalize w9.heap.size = gh at *
  obtain ⟨g, hs, us, rfl, O, hg, hgB⟩ := T.out.some_ (by omega)
  have HO := Lib.hid O
  clear O
  obtain ⟨y, hy⟩ := get_some (show n < hs.length by rw [HO.out.lenH]; exact hn)
  have c0 := (HO.out.top.cellAt (n * 2) (by omega)).trans (flatD_get HK.out hy).1
  have c1 := (HO.out.top.cellAt (n * 2 + 1) (by omega)).trans (flatD_get HK.out hy).2
  have fc0 : W1.frozen? ⟨g, n * 2, none⟩ = false := HO.out.top.frozenAt _
  have fc1 : W1.frozen? ⟨g, n * 2 + 1, none⟩ = false := HO.out.top.frozenAt _
  clear hy
  have h0 := blk_cell HB.out 0 _ rfl
  have h1 := blk_cell HB.out 1 _ rfl
  have h2 := blk_cell HB.out 2 _ rfl
  have h3 := blk_cell HB.out 3 _ rfl
  have lh := blk_lt HB.out
  have x0 := blk_cell XB.out 0 _ rfl
  have fx0 := blk_frozen XB.out 0
  have x1 := blk_cell XB.out 1 _ rfl
  have fx1 := blk_frozen XB.out 1
  have x2 := blk_cell XB.out 2 _ rfl
  have fx2 := blk_frozen XB.out 2
  have x3 := blk_cell XB.out 3 _ rfl
  have fx3 := blk_frozen XB.out 3
  have lx := blk_lt XB.out
  have hne1 : g ≠ gh := fun e => own_ne HO.out.top HB.out ne_dk_sto (by rw [e]; rfl)
  have hne2 : g ≠ w.heap.size + 1 := fun e => own_ne HO.out.top XB.out ne_dk_sto (by rw [e]; rfl)
  go_wp2_with fail
  have P1 := OS.set (i := n) (d := ⟨true, []⟩) HO.out (Below.refl _ _) (OMx.nil _ _) (by have := NN.out.size; omega)
  have XY := dk_other (i := n) (x := .bool true) (y := .slice none 0 0) XB.out HO.out.top ne_dk_sto
  have UY := OO.dk (i := n) (x := .bool true) (y := .slice none 0 0) U.out HO.out.top
  have NY := Bset1 (Bset1 NN.out hgB (n * 2) (.bool true)) hgB (n * 2 + 1) (.slice none 0 0)
  have Z := blk_set4 XY (.int .i64 d) (.int .i64 p) (.slice (some ⟨g, 0, none⟩) ds.length cv) (.slice Au os.length cu)
  have e0 := blk_cell Z 0 _ rfl
  have e1 := blk_cell Z 1 _ rfl
  have e2 := blk_cell Z 2 _ rfl
  have e3 := blk_cell Z 3 _ rfl
  exact bodyPost_ret (v := .tuple #[Tv d p (.slice (some ⟨g, 0, none⟩) ds.length cv) (.slice Au os.length cu), .int .i64 0]) (by simp [results, Try.results31, go_sem, e0, e1, e2, e3]) rfl ⟨_, _, rfl, OT.set4_ ⟨_, _, P1⟩ XY _ _ _ _, OO.set4_ UY XY _ _ _ _, Bset4 NY (by omega) _ _ _ _⟩
 have t1 : decide (0 < strN os) = false := decide_eq_false h1
 rw [if_neg (fun h => h1 h.1)] at E1
 have S : faiS d p ds os (n : Int) = (d, p, ds.set n ⟨true, []⟩, os) := by unfold faiS; rw [E1, if_pos rfl, Int.toNat_natCast]
 rw [E1, S]
 clear E1 S
 go_enter Try.func31, Try.ntmps31
 go_upto_region 1 with fail
 have SB : Hid (((w.alloc (.cells #[.int .i64 d, .int .i64 p, .slice D ds.length cd, .slice A os.length ca] 25)).alloc (.cells #[.int .i64 0, .int .i64 0, .slice none 0 0, .slice none 0 0] 25)).heap[w.heap.size]? = some (.cells #[.int .i64 d, .int .i64 p, .slice D ds.length cd, .slice A os.length ca] 25)) := Lib.hid (blk_alloc (blk_new w _) _)
 have XB : Hid (((w.alloc (.cells #[.int .i64 d, .int .i64 p, .slice D ds.length cd, .slice A os.length ca] 25)).alloc (.cells #[.int .i64 0, .int .i64 0, .slice none 0 0, .slice none 0 0] 25)).heap[w.heap.size + 1]? = some (.cells #[.int .i64 0, .int .i64 0, .slice none 0 0, .slice none 0 0] 25)) := Lib.hid (blk_at _ (by simp))
 have NN : Hid (Below w.heap.size w ((w.alloc (.cells #[.int .i64 d, .int .i64 p, .slice D ds.length cd, .slice A os.length ca] 25)).alloc (.cells #[.int .i64 0, .int .i64 0, .slice none 0 0, .slice none 0 0] 25))) := Lib.hid (Bal (Bal (Below.refl _ _) _) _)
 generalize ((w.alloc (.cells #[.int .i64 d, .int .i64 p, .slice D ds.length cd, .slice A os.length ca] 25)).alloc (.cells #[.int .i64 0, .int .i64 0, .slice none 0 0, .slice none 0 0] 25)) = W0 at *
 have s0 := blk_cell SB.out 0 _ rfl
 have s1 := blk_cell SB.out 1 _ rfl
 have s2 := blk_cell SB.out 2 _ rfl
 have s3 := blk_cell SB.out 3 _ rfl
 have ls := blk_lt SB.out
 go_wp2_with fail
 clear s0 s1 s2 s3 ls
 refine (oRefCheck_calls d p D A cd ca B ds os _ hnd hcd hna hca (HD.out.next NN.out) (HS.out.next NN.out) HL.out).mono ?_
 rintro e w1 ⟨rfl, hb⟩
 replace SB := Lib.hid (blk_next hb SB.out)
 replace XB := Lib.hid (blk_next hb XB.out)
 replace NN := Lib.hid (Bgo NN.out hb)
 clear hb
 have LX := blk_lt XB.out
 rw [ck]
 obtain ⟨b, off, Ai, ci, rfl, hb9, c0, c1, h2, h3, hm⟩ := HD.out.at_ HK.out
 rw [hf'] at c0
 replace c0 := (NN.out.cell hb9).trans c0
 clear hm c1
 have s0 := blk_cell SB.out 0 _ rfl
 have s1 := blk_cell SB.out 1 _ rfl
 have s2 := blk_cell SB.out 2 _ rfl
 have s3 := blk_cell SB.out 3 _ rfl
 have ls := blk_lt SB.out
 go_wp2_with fail
 clear s0 s1 s2 s3 ls
 clear c0
 refine region_I (S := SK [(0, w.heap.size, .cells #[.int .i64 d, .int .i64 p, .slice (some ⟨b, off, none⟩) ds.length cd, .slice A os.length ca] 25)]) (by kernel_rfl) ?_
 have HAL := Lib.hid (fun (k : Nat) => (show SK [(0, w.heap.size, .cells #[.int .i64 d, .int .i64 p, .slice (some ⟨b, off, none⟩) ds.length cd, .slice A os.length ca] 25)] k w1.drew from fun p hp e => by
  simp only [List.mem_cons, List.not_mem_nil, or_false] at hp
  rcases hp with rfl
  ·exact SB.out))
 have HDRW := Lib.hid (Below.drew (Below.refl w1.heap.size w1))
 replace NN := Lib.hid (Bgo NN.out HDRW.out)
 replace SB := Lib.hid (blk_next HDRW.out SB.out)
 replace XB := Lib.hid (blk_next HDRW.out XB.out)
 clear HDRW
 refine take_I 0 (.agg #[.int .i64 d, .int .i64 p, .slice (some ⟨b, off, none⟩) ds.length cd, .slice A os.length ca]) (some 31) rfl (by kernel_rfl) (by kernel_rfl) (by kernel_rfl) rfl (fun _ _ _ h => h) (Or.inl ⟨by rfl, ?_⟩) (HAL.out 0) ?_
 ·intro X hX
  have hh := hX (0, w.heap.size, .cells #[.int .i64 d, .int .i64 p, .slice (some ⟨b, off, none⟩) ds.length cd, .slice A os.length ca] 25) (List.Mem.head _) rfl
  have hh0 := blk_cell hh 0 _ rfl
  have hh1 := blk_cell hh 1 _ rfl
  have hh2 := blk_cell hh 2 _ rfl
  have hh3 := blk_cell hh 3 _ rfl
  have hhl := blk_lt hh
  clear hh
  clear hX
  go_simp
 try simp only [Act.put, zA, zB, zC]
 refine only_I 1 (by kernel_rfl) rfl (fun K' hK' => ?_)
 go_simp
 go_at_call 28
 refine (stripes_calls d p _ A ca B os _ hna hca (HS.out.next NN.out) OK.out.sm (by omega)).mono ?_
 rintro e x1 ⟨rfl, hb⟩
 replace NN := Lib.hid (Bgo NN.out hb)
 replace SB := Lib.hid (blk_next hb SB.out)
 replace XB := Lib.hid (blk_next hb XB.out)
 go_simp
 refine hK'.out _ _ (fun k _ hS => hS.next hb) ?_
 clear hK' K'
 try simp only [Act.put, zA, zB, zC]
 replace HAL := Lib.hid (fun k => (HAL.out k).next hb)
 refine take_I 2 (.bool false) (some 33) rfl (by kernel_rfl) (by kernel_rfl) (by kernel_rfl) rfl (fun _ _ _ h => h) (Or.inl ⟨by rfl, ?_⟩) (SK.drop (by simp)) ?_
 ·intro X hX
  clear hX
  go_simp
 try simp only [Act.put, zA, zB, zC]
 refine take_I 3 (.bool false) (some 34) rfl (by kernel_rfl) (by kernel_rfl) (by kernel_rfl) rfl (fun _ _ _ h => h) (Or.inl ⟨by rfl, ?_⟩) (SK.drop (by simp)) ?_
 ·intro X hX
  clear hX
  go_simp
 try simp only [Act.put, zA, zB, zC]
 refine take_I 4 undef (some 35) rfl (by kernel_rfl) (by kernel_rfl) (by kernel_rfl) rfl (fun _ _ _ h => h) (Or.inr ⟨by rfl, rfl⟩) (HAL.out 4) ?_
 try simp only [Act.put, zA, zB, zC]
 refine take_I 5 undef (some 36) rfl (by kernel_rfl) (by kernel_rfl) (by kernel_rfl) rfl (fun _ _ _ h => h) (Or.inr ⟨by rfl, rfl⟩) (HAL.out 5) ?_
 try simp only [Act.put, zA, zB, zC]
 refine take_I 6 undef (some 37) rfl (by kernel_rfl) (by kernel_rfl) (by kernel_rfl) rfl (fun _ _ _ h => h) (Or.inr ⟨by rfl, rfl⟩) (HAL.out 6) ?_
 try simp only [Act.put, zA, zB, zC]
 refine take_I 7 undef (some 38) rfl (by kernel_rfl) (by kernel_rfl) (by kernel_rfl) rfl (fun _ _ _ h => h) (Or.inr ⟨by rfl, rfl⟩) (HAL.out 7) ?_
 try simp only [Act.put, zA, zB, zC]
 refine take_I 8 undef (some 39) rfl (by kernel_rfl) (by kernel_rfl) (by kernel_rfl) rfl (fun _ _ _ h => h) (Or.inr ⟨by rfl, rfl⟩) (HAL.out 8) ?_
 try simp only [Act.put, zA, zB, zC]
 refine take_I 9 undef (some 40) rfl (by kernel_rfl) (by kernel_rfl) (by kernel_rfl) rfl (fun _ _ _ h => h) (Or.inr ⟨by rfl, rfl⟩) (HAL.out 9) ?_
 try simp only [Act.put, zA, zB, zC]
 refine take_I 10 undef (some 41) rfl (by kernel_rfl) (by kernel_rfl) (by kernel_rfl) rfl (fun _ _ _ h => h) (Or.inr ⟨by rfl, rfl⟩) (HAL.out 10) ?_
 try simp only [Act.put, zA, zB, zC]
 refine take_I 11 (.bool false) (some 42) rfl (by kernel_rfl) (by kernel_rfl) (by kernel_rfl) rfl (fun _ _ _ h => h) (Or.inl ⟨by rfl, ?_⟩) (SK.drop (by simp)) ?_
 ·intro X hX
  clear hX
  go_simp
 try simp only [Act.put, zA, zB, zC]
 clear HAL
 refine done_I (by kernel_rfl) ?_ _
 have s0 := blk_cell SB.out 0 _ rfl
 have s1 := blk_cell SB.out 1 _ rfl
 have s2 := blk_cell SB.out 2 _ rfl
 have s3 := blk_cell SB.out 3 _ rfl
 have ls := blk_lt SB.out
 go_wp2_with fail
 clear s0 s1 s2 s3 ls
 refine (twin_calls d p _ A cd ca B ds os _ hnd hcd hna hca (HD.out.next NN.out) (HS.out.next NN.out) (by omega) (by have := OK.out.n16; omega) (fun k hk => ⟨by have := (OK.out.bd hk).1; omega, fun b hb => by have := (OK.out.bd hk).2 b hb; omega⟩)).mono ?_
 rintro e w9 ⟨v, u, rfl, ht, hu, hb⟩
 have T := Lib.hid (ht.mono NN.out.size)
 have U := Lib.hid (hu.mono NN.out.size)
 clear ht hu
 obtain ⟨Av, cv, rfl, hv1, hv2⟩ := T.out.form
 obtain ⟨Au, cu, rfl, hu1, hu2⟩ := U.out.form
 replace SB := Lib.hid (blk_next hb SB.out)
 replace XB := Lib.hid (blk_next hb XB.out)
 replace NN := Lib.hid (Bgo NN.out hb)
 clear hb
 go_upto_region 11 with fail
 have HB : Hid ((w9.alloc (.cells #[.int .i64 d, .int .i64 p, .slice Av ds.length cv, .slice Au os.length cu] 25)).heap[w9.heap.size]? = some (.cells #[.int .i64 d, .int .i64 p, .slice Av ds.length cv, .slice Au os.length cu] 25)) := Lib.hid (blk_new _ _)
 have B9 : Below w9.heap.size w9 (w9.alloc (.cells #[.int .i64 d, .int .i64 p, .slice Av ds.length cv, .slice Au os.length cu] 25)) := Bal (Below.refl _ _) _
 have LX : w.heap.size + 1 < w9.heap.size := blk_lt XB.out
 replace SB := Lib.hid (blk_next B9 SB.out)
 replace XB := Lib.hid (blk_next B9 XB.out)
 replace NN := Lib.hid (Bgo NN.out B9)
 replace T := Lib.hid (T.out.next B9)
 replace U := Lib.hid (U.out.next B9)
 clear B9
 generalize (w9.alloc (.cells #[.int .i64 d, .int .i64 p, .slice Av ds.length cv, .slice Au os.length cu] 25)) = W1 at *
 generalize w9.heap.size = gh at *
 obtain ⟨g, hs, us, rfl, O, hg, hgB⟩ := T.out.some_ (by omega)
 have HO := Lib.hid O
 clear O
 obtain ⟨y, hy⟩ := get_some (show n < hs.length by rw [HO.out.lenH]; exact hn)
 have c0 := (HO.out.top.cellAt (n * 2) (by omega)).trans (flatD_get HK.out hy).1
 have c1 := (HO.out.top.cellAt (n * 2 + 1) (by omega)).trans (flatD_get HK.out hy).2
 have fc0 : W1.frozen? ⟨g, n * 2, none⟩ = false := HO.out.top.frozenAt _
 have fc1 : W1.frozen? ⟨g, n * 2 + 1, none⟩ = false := HO.out.top.frozenAt _
 clear hy
 have h0 := blk_cell HB.out 0 _ rfl
 have h1 := blk_cell HB.out 1 _ rfl
 have h2 := blk_cell HB.out 2 _ rfl
 have h3 := blk_cell HB.out 3 _ rfl
 have lh := blk_lt HB.out
 have x0 := blk_cell XB.out 0 _ rfl
 have fx0 := blk_frozen XB.out 0
 have x1 := blk_cell XB.out 1 _ rfl
 have fx1 := blk_frozen XB.out 1
 have x2 := blk_cell XB.out 2 _ rfl
 have fx2 := blk_frozen XB.out 2
 have x3 := blk_cell XB.out 3 _ rfl
 have fx3 := blk_frozen XB.out 3
 have lx := blk_lt XB.out
 have hne1 : g ≠ gh := fun e => own_ne HO.out.top HB.out ne_dk_sto (by rw [e]; rfl)
 have hne2 : g ≠ w.heap.size + 1 := fun e => own_ne HO.out.top XB.out ne_dk_sto (by rw [e]; rfl)
 go_wp2_with fail
 have P1 := OS.set (i := n) (d := ⟨true, []⟩) HO.out (Below.refl _ _) (OMx.nil _ _) (by have := NN.out.size; omega)
 have XY := dk_other (i := n) (x := .bool true) (y := .slice none 0 0) XB.out HO.out.top ne_dk_sto
 have UY := OO.dk (i := n) (x := .bool true) (y := .slice none 0 0) U.out HO.out.top
 have NY := Bset1 (Bset1 NN.out hgB (n * 2) (.bool true)) hgB (n * 2 + 1) (.slice none 0 0)
 have Z := blk_set4 XY (.int .i64 d) (.int .i64 p) (.slice (some ⟨g, 0, none⟩) ds.length cv) (.slice Au os.length cu)
 have e0 := blk_cell Z 0 _ rfl
 have e1 := blk_cell Z 1 _ rfl
 have e2 := blk_cell Z 2 _ rfl
 have e3 := blk_cell Z 3 _ rfl
 exact bodyPost_ret (v := .tuple #[Tv d p (.slice (some ⟨g, 0, none⟩) ds.length cv) (.slice Au os.length cu), .int .i64 0]) (by simp [results, Try.results31, go_sem, e0, e1, e2, e3]) rfl ⟨_, _, rfl, OT.set4_ ⟨_, _, P1⟩ XY _ _ _ _, OO.set4_ UY XY _ _ _ _, Bset4 NY (by omega) _ _ _ _⟩
end Go.Proofs.Ytapehckcmmompaa
