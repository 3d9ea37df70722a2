/- Several texts in one. -/
import Derived.Test.YtapehckcmmompaaM14
namespace Go.Proofs.Ytapehckcmmompaa
open Go.ChangeShapes Go.WideShapes Go.ChangeAt Go.RowKit
set_option linter.unusedVariables false
set_option maxRecDepth 100000
attribute [local go_sem ↓] Go.wp_at_zero Go.wp_at_succ
theorem repE_bad {d p : Int} {ds : List Dk} {os : List Ob} {x : Int} (h : chS d p ds os ≠ 0) : repE d p ds os x = chS d p ds os := if_neg h
theorem repE_arg {d p : Int} {ds : List Dk} {os : List Ob} {x : Int} (h : chS d p ds os = 0) (hx : x < 0 ∨ (ds.length : Int) ≤ x) : repE d p ds os x = 2 := by
 unfold repE
 rw [if_pos h]
 rcases hx with hx | hx
 ·rw [decide_eq_false (show ¬ 0 ≤ x by omega)]
  cases ds[x.toNat]? <;> rfl
 ·rw [List.getElem?_eq_none (show ds.length ≤ x.toNat by omega)]
theorem repE_at {d p : Int} {ds : List Dk} {os : List Ob} {n : Nat} {k : Dk} (h : chS d p ds os = 0) (hk : ds[n]? = some k) : repE d p ds os (n : Int) = if k.failed then (repTo d p ds n (strN os).toNat).2 else 36 := by
 unfold repE
 rw [if_pos h, Int.toNat_natCast, hk, decide_eq_true (show (0 : Int) ≤ (n : Int) by omega)]
theorem repS_bad {d p : Int} {ds : List Dk} {os : List Ob} {x er : Int} (h : repE d p ds os x = er) (h0 : er ≠ 0) : repS d p ds os x = noS := by unfold repS; rw [h]; exact if_neg h0
theorem repTo_stay {d p : Int} {ds : List Dk} {x k : Nat} (h : (repTo d p ds x k).2 ≠ 0) : ∀ {n : Nat}, k ≤ n → repTo d p ds x n = repTo d p ds x k
 | 0, hn => by rw [show k = 0 by omega]
 | n + 1, hn => by
  rcases Nat.lt_or_ge k (n + 1) with h1 | h1
  ·have ih := repTo_stay h (n := n) (by omega)
   rw [repTo, ih, if_neg h]
  ·rw [show k = n + 1 by omega]
theorem repTo_len {d p : Int} {ds : List Dk} {x : Nat} : ∀ {k : Nat}, (repTo d p ds x k).2 = 0 → (repTo d p ds x k).1.length = k
 | 0, _ => by simp [repTo]
 | k + 1, h0 => by
  rw [repTo] at h0 ⊢
  by_cases h1 : (repTo d p ds x k).2 = 0
  ·rw [if_pos h1] at h0 ⊢
   by_cases h2 : resE d p (strp ds k) = 0
   ·rw [if_pos h2]
    simp [repTo_len h1]
   ·rw [if_neg h2] at h0; exact absurd h0 h2
  ·rw [if_neg h1] at h0; exact absurd h0 h1
set_option maxHeartbeats 16000000 in
theorem replace_calls (d p : Int) (D A : Option Addr) (cd ca B : Nat) (ds : List Dk) (os : List Ob) (x : Int) (w : World) (hnd : ds.length ≤ cd) (hcd : cd ≤ 9223372036854775807) (hna : os.length ≤ ca) (hca : ca ≤ 9223372036854775807) (hd : RD B w D ds) (hs : RO B w A os) (hl : ∀ o ∈ os, Lh o.name) :
  Calls Try.prog 30 #[Tv d p (.slice D ds.length cd) (.slice A os.length ca), .int .i64 x] w (SOPost w (repS d p ds os x) (repE d p ds os x)) := by
 have HD := Lib.hid hd
 have HS := Lib.hid hs
 have HL := Lib.hid hl
 clear hd hs hl
 by_cases ck : chS d p ds os = 0
 rotate_left
 ·skip
  have E := repE_bad (x := x) ck
  have S := repS_bad E (by first | exact ck | decide)
  rw [E, S]
  clear E S
  go_enter Try.func30, Try.ntmps30
  go_upto_region 1 with fail
  have SB : Hid (((w.alloc (.cells #[.int .i64 d, .int .i64 p, .slice D ds.length cd, .slice A os.length ca] 25)).alloc (.cells #[.int .i64 0, .int .i64 0, .slice none 0 0, .slice none 0 0] 25)).heap[w.heap.size]? = some (.cells #[.int .i64 d, .int .i64 p, .slice D ds.length cd, .slice A os.length ca] 25)) := Lib.hid (blk_alloc (blk_new w _) _)
  have XB : Hid (((w.alloc (.cells #[.int .i64 d, .int .i64 p, .slice D ds.length cd, .slice A os.length ca] 25)).alloc (.cells #[.int .i64 0, .int .i64 0, .slice none 0 0, .slice none 0 0] 25)).heap[w.heap.size + 1]? = some (.cells #[.int .i64 0, .int .i64 0, .slice none 0 0, .slice none 0 0] 25)) := Lib.hid (blk_at _ (by simp))
  have NN : Hid (Below w.heap.size w ((w.alloc (.cells #[.int .i64 d, .int .i64 p, .slice D ds.length cd, .slice A os.length ca] 25)).alloc (.cells #[.int .i64 0, .int .i64 0, .slice none 0 0, .slice none 0 0] 25))) := Lib.hid (Bal (Bal (Below.refl _ _) _) _)
  generalize ((w.alloc (.cells #[.int .i64 d, .int .i64 p, .slice D ds.length cd, .slice A os.length ca] 25)).alloc (.cells #[.int .i64 0, .int .i64 0, .slice none 0 0, .slice none 0 0] 25)) = W0 at *
  have s0 := blk_cell SB.out 0 _ rfl
  have s1 := blk_cell SB.out 1 _ rfl
  have s2 := blk_cell SB.out 2 _ rfl
  have s3 := blk_cell SB.out 3 _ rfl
  have ls := blk_lt SB.out
  go_wp2_with fail
  clear s0 s1 s2 s3 ls
  refine (open_bad d p D A cd ca B ds os _ hnd hcd hna hca (HD.out.next NN.out) (HS.out.next NN.out) HL.out ck).mono ?_
  rintro e w1 ⟨v, u, rfl, ht, hu, hb⟩
  obtain ⟨Av, cv, rfl, hv1, hv2⟩ := ht.form
  obtain ⟨Au, cu, rfl, hu1, hu2⟩ := hu.form
  replace SB := Lib.hid (blk_next hb SB.out)
  replace XB := Lib.hid (blk_next hb XB.out)
  replace NN := Lib.hid (Bgo NN.out hb)
  clear hb
  have ck2 : (chS d p ds os != 0) = true := by rw [bne_iff_ne]; exact ck
  go_upto_region 2 with fail
  have B9 : Below w1.heap.size w1 (w1.alloc (.cells #[.int .i64 noS.1, .int .i64 noS.2.1, .slice Av noS.2.2.1.length cv, .slice Au noS.2.2.2.length cu, .int .i64 0, .int .i64 0] 79)) := Bal (Below.refl _ _) _
  replace SB := Lib.hid (blk_next B9 SB.out)
  replace XB := Lib.hid (blk_next B9 XB.out)
  replace NN := Lib.hid (Bgo NN.out B9)
  clear B9 ht hu
  generalize (w1.alloc (.cells #[.int .i64 noS.1, .int .i64 noS.2.1, .slice Av noS.2.2.1.length cv, .slice Au noS.2.2.2.length cu, .int .i64 0, .int .i64 0] 79)) = W1 at *
  have x0 := blk_cell XB.out 0 _ rfl
  have fx0 := blk_frozen XB.out 0
  have x1 := blk_cell XB.out 1 _ rfl
  have fx1 := blk_frozen XB.out 1
  have x2 := blk_cell XB.out 2 _ rfl
  have fx2 := blk_frozen XB.out 2
  have x3 := blk_cell XB.out 3 _ rfl
  have fx3 := blk_frozen XB.out 3
  have lx := blk_lt XB.out
  go_wp2_with fail
  have Z := blk_set4 XB.out (.int .i64 0) (.int .i64 0) (.slice none 0 0) (.slice none 0 0)
  have e0 := blk_cell Z 0 _ rfl
  have e1 := blk_cell Z 1 _ rfl
  have e2 := blk_cell Z 2 _ rfl
  have e3 := blk_cell Z 3 _ rfl
  exact bodyPost_ret (v := .tuple #[Tv 0 0 (.slice none 0 0) (.slice none 0 0), .int .i64 (chS d p ds os)]) (by simp [results, Try.results30, go_sem, e0, e1, e2, e3]) rfl ⟨_, _, rfl, OT.nil _ _, OO.nil _ _, Bset4 NN.out (by omega) _ _ _ _⟩
 by_cases q0 : x < 0
 ·have t_q0 : decide (x < 0) = true := decide_eq_true q0
  have E := repE_arg ck (.inl q0)
  have S := repS_bad E (by first | exact ck | decide)
  rw [E, S]
  clear E S
  go_enter Try.func30, Try.ntmps30
  go_upto_region 1 with fail
  have SB : Hid (((w.alloc (.cells #[.int .i64 d, .int .i64 p, .slice D ds.length cd, .slice A os.length ca] 25)).alloc (.cells #[.int .i64 0, .int .i64 0, .slice none 0 0, .slice none 0 0] 25)).heap[w.heap.size]? = some (.cells #[.int .i64 d, .int .i64 p, .slice D ds.length cd, .slice A os.length ca] 25)) := Lib.hid (blk_alloc (blk_new w _) _)
  have XB : Hid (((w.alloc (.cells #[.int .i64 d, .int .i64 p, .slice D ds.length cd, .slice A os.length ca] 25)).alloc (.cells #[.int .i64 0, .int .i64 0, .slice none 0 0, .slice none 0 0] 25)).heap[w.heap.size + 1]? = some (.cells #[.int .i64 0, .int .i64 0, .slice none 0 0, .slice none 0 0] 25)) := Lib.hid (blk_at _ (by simp))
  have NN : Hid (Below w.heap.size w ((w.alloc (.cells #[.int .i64 d, .int .i64 p, .slice D ds.length cd, .slice A os.length ca] 25)).alloc (.cells #[.int .i64 0, .int .i64 0, .slice none 0 0, .slice none 0 0] 25))) := Lib.hid (Bal (Bal (Below.refl _ _) _) _)
  generalize ((w.alloc (.cells #[.int .i64 d, .int .i64 p, .slice D ds.length cd, .slice A os.length ca] 25)).alloc (.cells #[.int .i64 0, .int .i64 0, .slice none 0 0, .slice none 0 0] 25)) = W0 at *
  have s0 := blk_cell SB.out 0 _ rfl
  have s1 := blk_cell SB.out 1 _ rfl
  have s2 := blk_cell SB.out 2 _ rfl
  have s3 := blk_cell SB.out 3 _ rfl
  have ls := blk_lt SB.out
  go_wp2_with fail
  clear s0 s1 s2 s3 ls
  refine (open_ok d p D A cd ca B ds os _ hnd hcd hna hca (HD.out.next NN.out) (HS.out.next NN.out) HL.out ck).mono ?_
  rintro e w1 ⟨v, u, rfl, ht, hu, hb⟩
  have T := Lib.hid (ht.mono NN.out.size)
  have U := Lib.hid (hu.mono NN.out.size)
  clear ht hu
  simp only at T U
  obtain ⟨Av, cv, rfl, hv1, hv2⟩ := T.out.form
  obtain ⟨Au, cu, rfl, hu1, hu2⟩ := U.out.form
  replace SB := Lib.hid (blk_next hb SB.out)
  replace XB := Lib.hid (blk_next hb XB.out)
  replace NN := Lib.hid (Bgo NN.out hb)
  clear hb
  go_upto_region 2 with fail
  have HB : Hid ((w1.alloc (.cells #[.int .i64 d, .int .i64 p, .slice Av ds.length cv, .slice Au os.length cu, .int .i64 (strN os), .int .i64 (faN ds)] 79)).heap[w1.heap.size]? = some (.cells #[.int .i64 d, .int .i64 p, .slice Av ds.length cv, .slice Au os.length cu, .int .i64 (strN os), .int .i64 (faN ds)] 79)) := Lib.hid (blk_new _ _)
  have B9 : Below w1.heap.size w1 (w1.alloc (.cells #[.int .i64 d, .int .i64 p, .slice Av ds.length cv, .slice Au os.length cu, .int .i64 (strN os), .int .i64 (faN ds)] 79)) := Bal (Below.refl _ _) _
  have LX : w.heap.size + 1 < w1.heap.size := blk_lt XB.out
  replace SB := Lib.hid (blk_next B9 SB.out)
  replace XB := Lib.hid (blk_next B9 XB.out)
  replace NN := Lib.hid (Bgo NN.out B9)
  replace T := Lib.hid (T.out.next B9)
  replace U := Lib.hid (U.out.next B9)
  clear B9
  generalize (w1.alloc (.cells #[.int .i64 d, .int .i64 p, .slice Av ds.length cv, .slice Au os.length cu, .int .i64 (strN os), .int .i64 (faN ds)] 79)) = W1 at *
  generalize w1.heap.size = gh at *
  have h0 := blk_cell HB.out 0 _ rfl
  have h1 := blk_cell HB.out 1 _ rfl
  have h2 := blk_cell HB.out 2 _ rfl
  have h3 := blk_cell HB.out 3 _ rfl
  have h4 := blk_cell HB.out 4 _ rfl
  have h5 := blk_cell HB.out 5 _ rfl
  have lh := blk_lt HB.out
  have x0 := blk_cell XB.out 0 _ rfl
  have fx0 := blk_frozen XB.out 0
  have x1 := blk_cell XB.out 1 _ rfl
  have fx1 := blk_frozen XB.out 1
  have x2 := blk_cell XB.out 2 _ rfl
  have fx2 := blk_frozen XB.out 2
  have x3 := blk_cell XB.out 3 _ rfl
  have fx3 := blk_frozen XB.out 3
  have lx := blk_lt XB.out
  go_wp2_with fail
  have Z := blk_set4 XB.out (.int .i64 0) (.int .i64 0) (.slice none 0 0) (.slice none 0 0)
  have e0 := blk_cell Z 0 _ rfl
  have e1 := blk_cell Z 1 _ rfl
  have e2 := blk_cell Z 2 _ rfl
  have e3 := blk_cell Z 3 _ rfl
  exact bodyPost_ret (v := .tuple #[Tv 0 0 (.slice none 0 0) (.slice none 0 0), .int .i64 (2)]) (by simp [results, Try.results30, go_sem, e0, e1, e2, e3]) rfl ⟨_, _, rfl, OT.nil _ _, OO.nil _ _, Bset4 NN.out (by omega) _ _ _ _⟩
 have t_q0 : decide (x < 0) = false := decide_eq_false q0
 by_cases q1 : (ds.length : Int) ≤ x
 ·have t_q1 : decide ((ds.length : Int) ≤ x) = true := decide_eq_true q1
  have E := repE_arg ck (.inr q1)
  have S := repS_bad E (by first | exact ck | decide)
  rw [E, S]
  clear E S
  go_enter Try.func30, Try.ntmps30
  go_upto_region 1 with fail
  have SB : Hid (((w.alloc (.cells #[.int .i64 d, .int .i64 p, .slice D ds.length cd, .slice A os.length ca] 25)).alloc (.cells #[.int .i64 0, .int .i64 0, .slice none 0 0, .slice none 0 0] 25)).heap[w.heap.size]? = some (.cells #[.int .i64 d, .int .i64 p, .slice D ds.length cd, .slice A os.length ca] 25)) := Lib.hid (blk_alloc (blk_new w _) _)
  have XB : Hid (((w.alloc (.cells #[.int .i64 d, .int .i64 p, .slice D ds.length cd, .slice A os.length ca] 25)).alloc (.cells #[.int .i64 0, .int .i64 0, .slice none 0 0, .slice none 0 0] 25)).heap[w.heap.size + 1]? = some (.cells #[.int .i64 0, .int .i64 0, .slice none 0 0, .slice none 0 0] 25)) := Lib.hid (blk_at _ (by simp))
  have NN : Hid (Below w.heap.size w ((w.alloc (.cells #[.int .i64 d, .int .i64 p, .slice D ds.length cd, .slice A os.length ca] 25)).alloc (.cells #[.int .i64 0, .int .i64 0, .slice none 0 0, .slice none 0 0] 25))) := Lib.hid (Bal (Bal (Below.refl _ _) _) _)
  generalize ((w.alloc (.cells #[.int .i64 d, .int .i64 p, .slice D ds.length cd, .slice A os.length ca] 25)).alloc (.cells #[.int .i64 0, .int .i64 0, .slice none 0 0, .slice none 0 0] 25)) = W0 at *
  have s0 := blk_cell SB.out 0 _ rfl
  have s1 := blk_cell SB.out 1 _ rfl
  have s2 := blk_cell SB.out 2 _ rfl
  have s3 := blk_cell SB.out 3 _ rfl
  have ls := blk_lt SB.out
  go_wp2_with fail
  clear s0 s1 s2 s3 ls
  refine (open_ok d p D A cd ca B ds os _ hnd hcd hna hca (HD.out.next NN.out) (HS.out.next NN.out) HL.out ck).mono ?_
  rintro e w1 ⟨v, u, rfl, ht, hu, hb⟩
  have T := Lib.hid (ht.mono NN.out.size)
  have U := Lib.hid (hu.mono NN.out.size)
  clear ht hu
  simp only at T U
  obtain ⟨Av, cv, rfl, hv1, hv2⟩ := T.out.form
  obtain ⟨Au, cu, rfl, hu1, hu2⟩ := U.out.form
  replace SB := Lib.hid (blk_next hb SB.out)
  replace XB := Lib.hid (blk_next hb XB.out)
  replace NN := Lib.hid (Bgo NN.out hb)
  clear hb
  go_upto_region 2 with fail
  have HB : Hid ((w1.alloc (.cells #[.int .i64 d, .int .i64 p, .slice Av ds.length cv, .slice Au os.length cu, .int .i64 (strN os), .int .i64 (faN ds)] 79)).heap[w1.heap.size]? = some (.cells #[.int .i64 d, .int .i64 p, .slice Av ds.length cv, .slice Au os.length cu, .int .i64 (strN os), .int .i64 (faN ds)] 79)) := Lib.hid (blk_new _ _)
  have B9 : Below w1.heap.size w1 (w1.alloc (.cells #[.int .i64 d, .int .i64 p, .slice Av ds.length cv, .slice Au os.length cu, .int .i64 (strN os), .int .i64 (faN ds)] 79)) := Bal (Below.refl _ _) _
  have LX : w.heap.size + 1 < w1.heap.size := blk_lt XB.out
  replace SB := Lib.hid (blk_next B9 SB.out)
  replace XB := Lib.hid (blk_next B9 XB.out)
  replace NN := Lib.hid (Bgo NN.out B9)
  replace T := Lib.hid (T.out.next B9)
  replace U := Lib.hid (U.out.next B9)
  clear B9
  generalize (w1.alloc (.cells #[.int .i64 d, .int .i64 p, .slice Av ds.length cv, .slice Au os.length cu, .int .i64 (strN os), .int .i64 (faN ds)] 79)) = W1 at *
  generalize w1.heap.size = gh at *
  have h0 := blk_cell HB.out 0 _ rfl
  have h1 := blk_cell HB.out 1 _ rfl
  have h2 := blk_cell HB.out 2 _ rfl
  have h3 := blk_cell HB.out 3 _ rfl
  have h4 := blk_cell HB.out 4 _ rfl
  have h5 := blk_cell HB.out 5 _ rfl
  have lh := blk_lt HB.out
  have x0 := blk_cell XB.out 0 _ rfl
  have fx0 := blk_frozen XB.out 0
  have x1 := blk_cell XB.out 1 _ rfl
  have fx1 := blk_frozen XB.out 1
  have x2 := blk_cell XB.out 2 _ rfl
  have fx2 := blk_frozen XB.out 2
  have x3 := blk_cell XB.out 3 _ rfl
  have fx3 := blk_frozen XB.out 3
  have lx := blk_lt XB.out
  go_wp2_with fail
  have Z := blk_set4 XB.out (.int .i64 0) (.int .i64 0) (.slice none 0 0) (.slice none 0 0)
  have e0 := blk_cell Z 0 _ rfl
  have e1 := blk_cell Z 1 _ rfl
  have e2 := blk_cell Z 2 _ rfl
  have e3 := blk_cell Z 3 _ rfl
  exact bodyPost_ret (v := .tuple #[Tv 0 0 (.slice none 0 0) (.slice none 0 0), .int .i64 (2)]) (by simp [results, Try.results30, go_sem, e0, e1, e2, e3]) rfl ⟨_, _, rfl, OT.nil _ _, OO.nil _ _, Bset4 NN.out (by omega) _ _ _ _⟩
 have t_q1 : decide ((ds.length : Int) ≤ x) = false := decide_eq_false q1
 obtain ⟨n, rfl⟩ : ∃ n : Nat, x = (n : Int) := ⟨x.toNat, by omega⟩
 have hn : n < ds.length := by omega
 obtain ⟨k0, hk0⟩ := get_some hn
 have HK := Lib.hid hk0
 have E1 := repE_at (os := os) ck hk0
 have OK := Lib.hid (chS_ok ck)
 have n20 : ds.length ≤ 12 := by have := OK.out.len; have := OK.out.d8; have := OK.out.p4; omega
 have t_q2 : decide (ds.length ≤ n) = false := decide_eq_false (by omega)
 have q01 : (0 : Int) ≤ (n : Int) := by omega
 have q02 : (n : Int) < (ds.length : Int) := by omega
 clear hk0 q0 q1
 by_cases hf : k0.failed = true
 rotate_left
 ·have hf' : k0.failed = false := by simpa using hf
  rw [if_neg hf] at E1
  have S := repS_bad E1 (by decide)
  rw [E1, S]
  clear E1 S
  go_enter Try.func30, Try.ntmps30
  go_upto_region 1 with fail
  have SB : Hid (((w.alloc (.cells #[.int .i64 d, .int .i64 p, .slice D ds.length cd, .slice A os.length ca] 25)).alloc (.cells #[.int .i64 0, .int .i64 0, .slice none 0 0, .slice none 0 0] 25)).heap[w.heap.size]? = some (.cells #[.int .i64 d, .int .i64 p, .slice D ds.length cd, .slice A os.length ca] 25)) := Lib.hid (blk_alloc (blk_new w _) _)
  have XB : Hid (((w.alloc (.cells #[.int .i64 d, .int .i64 p, .slice D ds.length cd, .slice A os.length ca] 25)).alloc (.cells #[.int .i64 0, .int .i64 0, .slice none 0 0, .slice none 0 0] 25)).heap[w.heap.size + 1]? = some (.cells #[.int .i64 0, .int .i64 0, .slice none 0 0, .slice none 0 0] 25)) := Lib.hid (blk_at _ (by simp))
  have NN : Hid (Below w.heap.size w ((w.alloc (.cells #[.int .i64 d, .int .i64 p, .slice D ds.length cd, .slice A os.length ca] 25)).alloc (.cells #[.int .i64 0, .int .i64 0, .slice none 0 0, .slice none 0 0] 25))) := Lib.hid (Bal (Bal (Below.refl _ _) _) _)
  generalize ((w.alloc (.cells #[.int .i64 d, .int .i64 p, .slice D ds.length cd, .slice A os.length ca] 25)).alloc (.cells #[.int .i64 0, .int .i64 0, .slice none 0 0, .slice none 0 0] 25)) = W0 at *
  have s0 := blk_cell SB.out 0 _ rfl
  have s1 := blk_cell SB.out 1 _ rfl
  have s2 := blk_cell SB.out 2 _ rfl
  have s3 := blk_cell SB.out 3 _ rfl
  have ls := blk_lt SB.out
  go_wp2_with fail
  clear s0 s1 s2 s3 ls
  refine (open_ok d p D A cd ca B ds os _ hnd hcd hna hca (HD.out.next NN.out) (HS.out.next NN.out) HL.out ck).mono ?_
  rintro e w1 ⟨v, u, rfl, ht, hu, hb⟩
  have T := Lib.hid (ht.mono NN.out.size)
  have U := Lib.hid (hu.mono NN.out.size)
  clear ht hu
  simp only at T U
  obtain ⟨Av, cv, rfl, hv1, hv2⟩ := T.out.form
  obtain ⟨Au, cu, rfl, hu1, hu2⟩ := U.out.form
  replace SB := Lib.hid (blk_next hb SB.out)
  replace XB := Lib.hid (blk_next hb XB.out)
  replace NN := Lib.hid (Bgo NN.out hb)
  clear hb
  go_upto_region 2 with fail
  have HB : Hid ((w1.alloc (.cells #[.int .i64 d, .int .i64 p, .slice Av ds.length cv, .slice Au os.length cu, .int .i64 (strN os), .int .i64 (faN ds)] 79)).heap[w1.heap.size]? = some (.cells #[.int .i64 d, .int .i64 p, .slice Av ds.length cv, .slice Au os.length cu, .int .i64 (strN os), .int .i64 (faN ds)] 79)) := Lib.hid (blk_new _ _)
  have B9 : Below w1.heap.size w1 (w1.alloc (.cells #[.int .i64 d, .int .i64 p, .slice Av ds.length cv, .slice Au os.length cu, .int .i64 (strN os), .int .i64 (faN ds)] 79)) := Bal (Below.refl _ _) _
  have LX : w.heap.size + 1 < w1.heap.size := blk_lt XB.out
  replace SB := Lib.hid (blk_next B9 SB.out)
  replace XB := Lib.hid (blk_next B9 XB.out)
  replace NN := Lib.hid (Bgo NN.out B9)
  replace T := Lib.hid (T.out.next B9)
  replace U := Lib.hid (U.out.next B9)
  clear B9
  generalize (w1.alloc (.cells #[.int .i64 d, .int .i64 p, .slice Av ds.length cv, .slice Au os.length cu, .int .i64 (strN os), .int .i64 (faN ds)] 79)) = W1 at *
  generalize w1.heap.size = gh at *
  obtain ⟨g, hs, us, rfl, O, hg, hgB⟩ := T.out.some_ (by omega)
  have HO := Lib.hid O
  clear O
  obtain ⟨y, hy⟩ := get_some (show n < hs.length by rw [HO.out.lenH]; exact hn)
  have c0 : W1.cell? ⟨g, n * 2, none⟩ = some (.bool k0.failed) := (HO.out.top.cellAt _ (by omega)).trans (flatD_get HK.out hy).1
  clear hy
  rw [hf'] at c0
  have h0 := blk_cell HB.out 0 _ rfl
  have h1 := blk_cell HB.out 1 _ rfl
  have h2 := blk_cell HB.out 2 _ rfl
  have h3 := blk_cell HB.out 3 _ rfl
  have h4 := blk_cell HB.out 4 _ rfl
  have h5 := blk_cell HB.out 5 _ rfl
  have lh := blk_lt HB.out
  have x0 := blk_cell XB.out 0 _ rfl
  have fx0 := blk_frozen XB.out 0
  have x1 := blk_cell XB.out 1 _ rfl
  have fx1 := blk_frozen XB.out 1
  have x2 := blk_cell XB.out 2 _ rfl
  have fx2 := blk_frozen XB.out 2
  have x3 := blk_cell XB.out 3 _ rfl
  have fx3 := blk_frozen XB.out 3
  have lx := blk_lt XB.out
  go_wp2_with fail
  have Z := blk_set4 XB.out (.int .i64 0) (.int .i64 0) (.slice none 0 0) (.slice none 0 0)
  have e0 := blk_cell Z 0 _ rfl
  have e1 := blk_cell Z 1 _ rfl
  have e2 := blk_cell Z 2 _ rfl
  have e3 := blk_cell Z 3 _ rfl
  exact bodyPost_ret (v := .tuple #[Tv 0 0 (.slice none 0 0) (.slice none 0 0), .int .i64 (36)]) (by simp [results, Try.results30, go_sem, e0, e1, e2, e3]) rfl ⟨_, _, rfl, OT.nil _ _, OO.nil _ _, Bset4 NN.out (by omega) _ _ _ _⟩
 rw [if_pos hf] at E1
 obtain ⟨st, hst⟩ : ∃ st : Nat, strN os = (st : Int) := ⟨(strN os).toNat, by have := OK.out.str; omega⟩
 have st9 : st ≤ 640 := by have := OK.out.str; omega
 rw [hst, Int.toNat_natCast] at E1
 have HST := Lib.hid hst
 have RES : Hid ((repE d p ds os (n : Int)) = (repTo d p ds n st).2 ∧ ((repTo d p ds n st).2 = 0 → repS d p ds os (n : Int) = (d, p, ds.set n ⟨false, (repTo d p ds n st).1⟩, os)) ∧ ((repTo d p ds n st).2 ≠ 0 → repS d p ds os (n : Int) = noS)) := Lib.hid ⟨E1, fun h => by unfold repS; rw [E1, h, if_pos rfl, hst, Int.toNat_natCast, Int.toNat_natCast], fun h => repS_bad E1 h⟩
 generalize repE d p ds os (n : Int) = er0 at *
 generalize repS d p ds os (n : Int) = so0 at *
 clear E1 hst
 go_enter Try.func30, Try.ntmps30
 go_upto_region 1 with fail
 have SB : Hid (((w.alloc (.cells #[.int .i64 d, .int .i64 p, .slice D ds.length cd, .slice A os.length ca] 25)).alloc (.cells #[.int .i64 0, .int .i64 0, .slice none 0 0, .slice none 0 0] 25)).heap[w.heap.size]? = some (.cells #[.int .i64 d, .int .i64 p, .slice D ds.length cd, .slice A os.length ca] 25)) := Lib.hid (blk_alloc (blk_new w _) _)
 have XB : Hid (((w.alloc (.cells #[.int .i64 d, .int .i64 p, .slice D ds.length cd, .slice A os.length ca] 25)).alloc (.cells #[.int .i64 0, .int .i64 0, .slice none 0 0, .slice none 0 0] 25)).heap[w.heap.size + 1]? = some (.cells #[.int .i64 0, .int .i64 0, .slice none 0 0, .slice none 0 0] 25)) := Lib.hid (blk_at _ (by simp))
 have NN : Hid (Below w.heap.size w ((w.alloc (.cells #[.int .i64 d, .int .i64 p, .slice D ds.length cd, .slice A os.length ca] 25)).alloc (.cells #[.int .i64 0, .int .i64 0, .slice none 0 0, .slice none 0 0] 25))) := Lib.hid (Bal (Bal (Below.refl _ _) _) _)
 generalize ((w.alloc (.cells #[.int .i64 d, .int .i64 p, .slice D ds.length cd, .slice A os.length ca] 25)).alloc (.cells #[.int .i64 0, .int .i64 0, .slice none 0 0, .slice none 0 0] 25)) = W0 at *
 have s0 := blk_cell SB.out 0 _ rfl
 have s1 := blk_cell SB.out 1 _ rfl
 have s2 := blk_cell SB.out 2 _ rfl
 have s3 := blk_cell SB.out 3 _ rfl
 have ls := blk_lt SB.out
 go_wp2_with fail
 clear s0 s1 s2 s3 ls
 refine (open_ok d p D A cd ca B ds os _ hnd hcd hna hca (HD.out.next NN.out) (HS.out.next NN.out) HL.out ck).mono ?_
 rintro e w1 ⟨v, u, rfl, ht, hu, hb⟩
 have T := Lib.hid (ht.mono NN.out.size)
 have U := Lib.hid (hu.mono NN.out.size)
 clear ht hu
 simp only at T U
 obtain ⟨Av, cv, rfl, hv1, hv2⟩ := T.out.form
 obtain ⟨Au, cu, rfl, hu1, hu2⟩ := U.out.form
 replace SB := Lib.hid (blk_next hb SB.out)
 replace XB := Lib.hid (blk_next hb XB.out)
 replace NN := Lib.hid (Bgo NN.out hb)
 clear hb
 go_upto_region 2 with fail
 have HB : Hid ((w1.alloc (.cells #[.int .i64 d, .int .i64 p, .slice Av ds.length cv, .slice Au os.length cu, .int .i64 (strN os), .int .i64 (faN ds)] 79)).heap[w1.heap.size]? = some (.cells #[.int .i64 d, .int .i64 p, .slice Av ds.length cv, .slice Au os.length cu, .int .i64 (strN os), .int .i64 (faN ds)] 79)) := Lib.hid (blk_new _ _)
 have B9 : Below w1.heap.size w1 (w1.alloc (.cells #[.int .i64 d, .int .i64 p, .slice Av ds.length cv, .slice Au os.length cu, .int .i64 (strN os), .int .i64 (faN ds)] 79)) := Bal (Below.refl _ _) _
 have LX : w.heap.size + 1 < w1.heap.size := blk_lt XB.out
 replace SB := Lib.hid (blk_next B9 SB.out)
 replace XB := Lib.hid (blk_next B9 XB.out)
 replace NN := Lib.hid (Bgo NN.out B9)
 replace T := Lib.hid (T.out.next B9)
 replace U := Lib.hid (U.out.next B9)
 clear B9
 generalize (w1.alloc (.cells #[.int .i64 d, .int .i64 p, .slice Av ds.length cv, .slice Au os.length cu, .int .i64 (strN os), .int .i64 (faN ds)] 79)) = W1 at *
 generalize w1.heap.size = gh at *
 rw [HST.out] at HB
 obtain ⟨g, hs, us, rfl, O, hg, hgB⟩ := T.out.some_ (by omega)
 have HO := Lib.hid O
 clear O
 obtain ⟨y, hy⟩ := get_some (show n < hs.length by rw [HO.out.lenH]; exact hn)
 have c0 : W1.cell? ⟨g, n * 2, none⟩ = some (.bool k0.failed) := (HO.out.top.cellAt _ (by omega)).trans (flatD_get HK.out hy).1
 clear hy
 rw [hf] at c0
 have h0 := blk_cell HB.out 0 _ rfl
 have h1 := blk_cell HB.out 1 _ rfl
 have h2 := blk_cell HB.out 2 _ rfl
 have h3 := blk_cell HB.out 3 _ rfl
 have h4 := blk_cell HB.out 4 _ rfl
 have h5 := blk_cell HB.out 5 _ rfl
 have lh := blk_lt HB.out
 go_upto_region 9 with fail
 have FB : Hid ((W1.alloc (.cells #[.bool false, .slice none 0 0] 46)).heap[W1.heap.size]? = some (.cells #[.bool false, .slice none 0 0] 46)) := Lib.hid (blk_new _ _)
 have NI : Hid (Below W1.heap.size W1 (W1.alloc (.cells #[.bool false, .slice none 0 0] 46))) := Lib.hid (Bal (Below.refl _ _) _)
 generalize (W1.alloc (.cells #[.bool false, .slice none 0 0] 46)) = W2 at *
 have HX := Lib.hid (blk_next NI.out HB.out)
 clear h0 h1 h2 h3 h4 h5 lh
 clear c0
 have h0 := blk_cell HX.out 0 _ rfl
 have h1 := blk_cell HX.out 1 _ rfl
 have h2 := blk_cell HX.out 2 _ rfl
 have h3 := blk_cell HX.out 3 _ rfl
 have h4 := blk_cell HX.out 4 _ rfl
 have h5 := blk_cell HX.out 5 _ rfl
 have lh := blk_lt HX.out
 go_wp2_with fail
 clear h0 h1 h2 h3 h4 h5 lh
 go_loopw [43] (fun i wr => ∃ (k : Nat) (x : Value) (ux : List Value), k ≤ st ∧ i = .int .i64 k ∧ Hid ((repTo d p ds n k).2 = 0) ∧ Hid (Below W1.heap.size W1 wr) ∧ Hid (wr.heap[W1.heap.size]? = some (.cells #[.bool false, x] 46)) ∧ Hid (OMx W1.heap.size wr x ux (repTo d p ds n k).1)) (fun i _ => st - (intOf i).toNat)
 case atStart => exact ⟨0, _, [], by omega, rfl, Lib.hid rfl, NI, FB, Lib.hid (OMx.nil _ _)⟩
 case round =>
  clear NI FB HX
  obtain ⟨k, x, ux, hk, rfl, R0, NI, FB, OX⟩ := hrel
  obtain ⟨wo, rfl⟩ : ∃ wo : World, wo = wr := ⟨_, rfl⟩
  have HX := Lib.hid (blk_next NI.out HB.out)
  have XX := Lib.hid (blk_next NI.out XB.out)
  have NX := Lib.hid (Bgo NN.out NI.out)
  have RL := Lib.hid (repTo_len R0.out)
  obtain ⟨Ax, cx, hxe, hx1, hx2, -⟩ := own_form OX.out.top
  rw [RL.out] at hxe hx1
  subst hxe
  have LF := blk_lt FB.out
  have h0 := blk_cell HX.out 0 _ rfl
  have h1 := blk_cell HX.out 1 _ rfl
  have h2 := blk_cell HX.out 2 _ rfl
  have h3 := blk_cell HX.out 3 _ rfl
  have h4 := blk_cell HX.out 4 _ rfl
  have h5 := blk_cell HX.out 5 _ rfl
  have lh := blk_lt HX.out
  by_cases hlt : k < st
  rotate_left
  ·obtain rfl : k = st := by omega
   obtain ⟨RE, RS, _⟩ := RES.out
   rw [R0.out] at RE
   have RS := RS R0.out
   subst RE RS
   skip
   have fb0 := blk_cell FB.out 0 _ rfl
   have fb1 := blk_cell FB.out 1 _ rfl
   have lfb := blk_lt FB.out
   have x0 := blk_cell XX.out 0 _ rfl
   have fx0 := blk_frozen XX.out 0
   have x1 := blk_cell XX.out 1 _ rfl
   have fx1 := blk_frozen XX.out 1
   have x2 := blk_cell XX.out 2 _ rfl
   have fx2 := blk_frozen XX.out 2
   have x3 := blk_cell XX.out 3 _ rfl
   have fx3 := blk_frozen XX.out 3
   have lx := blk_lt XX.out
   have c0 := (NI.out.cell hg).trans ((HO.out.top.cellAt (n * 2) (by omega)).trans (flatD_get HK.out (get_some (show n < hs.length by rw [HO.out.lenH]; exact hn)).choose_spec).1)
   have c1 := (NI.out.cell hg).trans ((HO.out.top.cellAt (n * 2 + 1) (by omega)).trans (flatD_get HK.out (get_some (show n < hs.length by rw [HO.out.lenH]; exact hn)).choose_spec).2)
   have TOPX := own_next NI.out HO.out.top
   have fc0 : wo.frozen? ⟨g, n * 2, none⟩ = false := TOPX.frozenAt _
   have fc1 : wo.frozen? ⟨g, n * 2 + 1, none⟩ = false := TOPX.frozenAt _
   have hne1 : g ≠ gh := fun e => own_ne TOPX HX.out ne_dk_she (by rw [e]; rfl)
   have hne2 : g ≠ w.heap.size + 1 := fun e => own_ne TOPX XX.out ne_dk_sto (by rw [e]; rfl)
   have hne3 : g ≠ W1.heap.size := by omega
   skip
   go_wp2_with fail
   have P1 := OS.set (i := n) (d := ⟨false, (repTo d p ds n k).1⟩) HO.out NI.out OX.out (by have := NN.out.size; omega)
   have XY := dk_other (i := n) (x := .bool false) (y := (.slice Ax k cx)) XX.out TOPX ne_dk_sto
   have UY := OO.dk (i := n) (x := .bool false) (y := (.slice Ax k cx)) (U.out.next NI.out) TOPX
   have NY := Bset1 (Bset1 NX.out hgB (n * 2) (.bool false)) hgB (n * 2 + 1) (.slice Ax k cx)
   have Z := blk_set4 XY (.int .i64 d) (.int .i64 p) (.slice (some ⟨g, 0, none⟩) ds.length cv) (.slice Au os.length cu)
   have e0 := blk_cell Z 0 _ rfl
   have e1 := blk_cell Z 1 _ rfl
   have e2 := blk_cell Z 2 _ rfl
   have e3 := blk_cell Z 3 _ rfl
   exact bodyPost_ret (v := .tuple #[Tv d p (.slice (some ⟨g, 0, none⟩) ds.length cv) (.slice Au os.length cu), .int .i64 0]) (by simp [results, Try.results30, go_sem, e0, e1, e2, e3]) rfl ⟨_, _, rfl, OT.set4_ ⟨_, _, P1⟩ XY _ _ _ _, OO.set4_ UY XY _ _ _ _, Bset4 NY (by omega) _ _ _ _⟩
  have k1 : (0 : Int) ≤ (k : Int) := by omega
  have k2 : (k : Int) < (st : Int) := by omega
  have fk : (k : Int) < strN os := by rw [HST.out]; omega
  have HKB : Hid (∀ x ∈ ds, x.failed = false → k < x.blocks.length) := Lib.hid (fun x hx hf => by have := ((OK.out.dkl hx).2 hf).1; omega)
  have SC := Lib.hid (fun (W : World) (h : Below wo.heap.size wo W) => stripe_calls d p (some ⟨g, 0, none⟩) Au cv os.length cu w.heap.size (st : Int) (faN ds : Int) ds k W hv1 hv2 ((HO.out.rd.next NI.out).next h) (by omega) HKB.out)
  have RC := Lib.hid (fun A5 c5 W h1 h2 h3 => restore_calls d p A5 c5 0 (strp ds k) W h1 h2 h3)
  have RR := Lib.hid (fun h => strp_rows OK.out fk h)
  have GS : Hid (repTo d p ds n (k + 1) = if resE d p (strp ds k) = 0 then ((repTo d p ds n k).1 ++ [(resS d p (strp ds k)).2.2.getD n []], 0) else ([], resE d p (strp ds k))) := Lib.hid (by rw [repTo, if_pos R0.out])
  clear fk
  by_cases hr : resE d p (strp ds k) = 0
  rotate_left
  ·have hr2 : (resE d p (strp ds k) != 0) = true := by rw [bne_iff_ne]; exact hr
   rw [if_neg hr] at GS
   have GT : repTo d p ds n st = ([], resE d p (strp ds k)) := by rw [repTo_stay (k := k + 1) (by rw [GS.out]; exact hr) (by omega), GS.out]
   obtain ⟨RE, _, RS⟩ := RES.out
   rw [GT] at RE
   have RS := RS (by rw [GT]; exact hr)
   subst RE RS
   generalize resE d p (strp ds k) = er at *
   go_wp2_with fail
   clear h0 h1 h2 h3 h4 h5 lh
   refine (SC.out _ (Below.refl _ _)).mono ?_
   rintro e w5 ⟨v5, rfl, hm5, hb5⟩
   obtain ⟨A5, c5, rfl, h51, h52, h53⟩ := hm5
   go_wp2_with fail
   refine (RC.out A5 c5 _ h51 h52 h53).mono ?_
   rintro e w6 ⟨v6, rfl, hm6, hb6⟩
   obtain ⟨us6, hm6⟩ := hm6
   have TM := Lib.hid hm6
   obtain ⟨A6, c6, rfl, h61, h62, _⟩ := own_form hm6.top
   clear hm6 h51 h52 h53 SC RC GS RR RES GT
   generalize (resS d p (strp ds k)).2.2 = rows at *
   generalize (resS d p (strp ds k)).1 = D6 at *
   generalize (resS d p (strp ds k)).2.1 = M6 at *
   go_upto_region 13 with fail
   have PB : Hid ((w6.alloc (.cells #[.int .i64 D6, .int .i64 M6, .slice A6 rows.length c6] 54)).heap[w6.heap.size]? = some (.cells #[.int .i64 D6, .int .i64 M6, .slice A6 rows.length c6] 54)) := Lib.hid (blk_new _ _)
   have N6 : Hid (Below wo.heap.size wo (w6.alloc (.cells #[.int .i64 D6, .int .i64 M6, .slice A6 rows.length c6] 54))) := Lib.hid (Bal (Bgo hb5 hb6) _)
   replace TM := Lib.hid (TM.out.next (Bal (Below.refl _ _) (.cells #[.int .i64 D6, .int .i64 M6, .slice A6 rows.length c6] 54)))
   have L5 : wo.heap.size ≤ w5.heap.size := hb5.size
   clear hb5 hb6
   generalize (w6.alloc (.cells #[.int .i64 D6, .int .i64 M6, .slice A6 rows.length c6] 54)) = W6 at *
   generalize w6.heap.size = gp at *
   have X6 := Lib.hid (blk_next N6.out XX.out)
   have NN := Lib.hid (Bgo NX.out N6.out)
   have XB := X6
   have x0 := blk_cell XB.out 0 _ rfl
   have fx0 := blk_frozen XB.out 0
   have x1 := blk_cell XB.out 1 _ rfl
   have fx1 := blk_frozen XB.out 1
   have x2 := blk_cell XB.out 2 _ rfl
   have fx2 := blk_frozen XB.out 2
   have x3 := blk_cell XB.out 3 _ rfl
   have fx3 := blk_frozen XB.out 3
   have lx := blk_lt XB.out
   go_wp2_with fail
   have Z := blk_set4 XB.out (.int .i64 0) (.int .i64 0) (.slice none 0 0) (.slice none 0 0)
   have e0 := blk_cell Z 0 _ rfl
   have e1 := blk_cell Z 1 _ rfl
   have e2 := blk_cell Z 2 _ rfl
   have e3 := blk_cell Z 3 _ rfl
   exact bodyPost_ret (v := .tuple #[Tv 0 0 (.slice none 0 0) (.slice none 0 0), .int .i64 (er)]) (by simp [results, Try.results30, go_sem, e0, e1, e2, e3]) rfl ⟨_, _, rfl, OT.nil _ _, OO.nil _ _, Bset4 NN.out (by omega) _ _ _ _⟩
  have hr2 : (resE d p (strp ds k) != 0) = false := by rw [bne_eq_false_iff_eq]; exact hr
  rw [if_pos hr] at GS
  obtain ⟨r1, r2, -, -, -⟩ := RR.out hr
  have R1 := Lib.hid r1
  clear r1 r2
  rw [hr] at RC
  go_wp2_with fail
  clear h0 h1 h2 h3 h4 h5 lh
  refine (SC.out _ (Below.refl _ _)).mono ?_
  rintro e w5 ⟨v5, rfl, hm5, hb5⟩
  obtain ⟨A5, c5, rfl, h51, h52, h53⟩ := hm5
  go_wp2_with fail
  refine (RC.out A5 c5 _ h51 h52 h53).mono ?_
  rintro e w6 ⟨v6, rfl, hm6, hb6⟩
  obtain ⟨us6, hm6⟩ := hm6
  have TM := Lib.hid hm6
  obtain ⟨A6, c6, rfl, h61, h62, _⟩ := own_form hm6.top
  clear hm6 h51 h52 h53 SC RC RR
  generalize (resS d p (strp ds k)).2.2 = rows at *
  generalize (resS d p (strp ds k)).1 = D6 at *
  generalize (resS d p (strp ds k)).2.1 = M6 at *
  go_upto_region 13 with fail
  have PB : Hid ((w6.alloc (.cells #[.int .i64 D6, .int .i64 M6, .slice A6 rows.length c6] 54)).heap[w6.heap.size]? = some (.cells #[.int .i64 D6, .int .i64 M6, .slice A6 rows.length c6] 54)) := Lib.hid (blk_new _ _)
  have N6 : Hid (Below wo.heap.size wo (w6.alloc (.cells #[.int .i64 D6, .int .i64 M6, .slice A6 rows.length c6] 54))) := Lib.hid (Bal (Bgo hb5 hb6) _)
  replace TM := Lib.hid (TM.out.next (Bal (Below.refl _ _) (.cells #[.int .i64 D6, .int .i64 M6, .slice A6 rows.length c6] 54)))
  have L5 : wo.heap.size ≤ w5.heap.size := hb5.size
  clear hb5 hb6
  generalize (w6.alloc (.cells #[.int .i64 D6, .int .i64 M6, .slice A6 rows.length c6] 54)) = W6 at *
  generalize w6.heap.size = gp at *
  have r1 := R1.out
  obtain ⟨l, hl⟩ := get_some (show n < rows.length by omega)
  obtain ⟨ru, hru⟩ := get_some (show n < us6.length by rw [TM.out.len]; omega)
  have j4 : (n : Int) < (rows.length : Int) := by omega
  clear r1
  have OR := Lib.hid (own_mono (TM.out.row n ru l hru hl) L5)
  have HL7 := Lib.hid hl
  have HB7 := Lib.hid (TM.out.byt l (List.mem_of_getElem? hl))
  obtain ⟨b7, k71, k72, k73, k74⟩ := own_cell2 TM.out.top hru
  subst k71
  obtain ⟨Ar, cr, hre, hr1, hr9, -⟩ := own_form OR.out
  subst hre
  have F6 := Lib.hid (blk_next N6.out FB.out)
  have LF6 := blk_lt F6.out
  have LP6 := blk_lt PB.out
  have LW : W1.heap.size ≤ W6.heap.size := by omega
  have TOP : Hid (W6.ownsRow W1.heap.size 26 1 (.slice Ax k cx) k ux) := Lib.hid (by have := own_next N6.out OX.out.top; rw [RL.out] at this; exact this)
  have y1 := blk_cell F6.out 1 _ rfl
  have p2 := blk_cell PB.out 2 _ rfl
  obtain ⟨i0, hi0, hz0, hz1, hz2⟩ := info_parts sl_info
  have HI := Lib.hid (And.intro hi0 (And.intro hz0 (And.intro hz1 hz2)))
  clear hi0 hz0 hz1 hz2 hl hru
  go_wp2_with fail
  go_region_law (first | (refine step_append_rd _ (by rfl) _ _ 44 (by rfl) W1.heap.size 26 i0 (.slice none 0 0) 1 24 Try.underlying44 HI.out.1 HI.out.2.1 HI.out.2.2.1 HI.out.2.2.2 rfl (by decide) _ k ux (by rfl) ?_ (some ⟨W6.heap.size, 0, none⟩) 1 1 [.slice Ar l.length cr] (by rfl) ?_ (slice_one _ _ _) ?_ ?_ ?_ ?_; (first | exact TOP.out.alloc _ | exact (TOP.out.alloc _).drew); (exact rd_one (t := 26) (blk_new _ _)); (simp only [maxLen]; omega); omega; (first | exact LW | (simp; omega)); intro v2 w2 hown2 hg2 hat2; obtain ⟨A2, c2, rfl, g1, g2, _⟩ := own_form hown2; have G2 : Hid ((W6.alloc (.cells #[.slice Ar l.length cr] 26)).grownBy w2 (Value.slice Ax k cx).ownBlock) := Lib.hid (by first | exact hg2 | exact gundrew hg2); have F2 : Hid (w2.heap[W1.heap.size]? = some (.cells #[.bool false, .slice Ax k cx] 46)) := Lib.hid (gblk_ty G2.out (TOP.out.alloc _) (blk_alloc F6.out _) ne_sl_dk); have O2 : Hid (w2.ownsRow W1.heap.size 26 1 (.slice A2 (k + 1) c2) (k + 1) (ux ++ [.slice Ar l.length cr])) := Lib.hid hown2; have f2 := blk_frozen F2.out 1; have y3 := blk_cell F2.out 1 _ rfl; have hz2 := blk_lt F2.out; have N2 : Hid (Below W1.heap.size W1 w2) := Lib.hid (gbel G2.out (Bal (Bgo NI.out N6.out) _) (fun g hg => (TOP.out.lt g hg).1)); clear hown2 hg2 hat2))
  all_goals
   go_wp2_with fail
   have P2 := OMx.push OX.out (Bal N6.out (.cells #[.slice Ar l.length cr] 26)) (OR.out.alloc _) HB7.out NI.out.size (by rw [RL.out]; exact O2.out) G2.out
   have EG : rows.getD n [] = l := by rw [List.getD_eq_getElem?_getD, HL7.out, Option.getD_some]
   rw [EG] at GS
   refine ⟨⟨k + 1, .slice A2 (k + 1) c2, ux ++ [.slice Ar l.length cr], by omega, by go_num, Lib.hid (by rw [GS.out]), Lib.hid ?_, Lib.hid ?_, Lib.hid ?_⟩, by simp [intOf]; omega⟩
   ·first | exact Bset1 N2.out (Nat.le_refl _) 1 _ | exact (Bset1 N2.out (Nat.le_refl _) 1 _).drew
   ·exact blk_set F2.out 1 _
   ·rw [GS.out]
    exact P2.set_ F2.out ne_dk_u8 ne_dk_sl _
end Go.Proofs.Ytapehckcmmompaa
