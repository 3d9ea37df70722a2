/- Several texts in one. -/
import Derived.Test.YtapehckcmmompaaM21
namespace Go.Proofs.Ytapehckcmmompaa
open Go.ChangeShapes Go.WideShapes Go.ChangeAt Go.RowKit
set_option linter.unusedVariables false
set_option maxRecDepth 100000
attribute [local go_sem ↓] Go.wp_at_zero Go.wp_at_succ
theorem OS.apartH {B W0 : Nat} {W W1 : World} {v x : Value} {hs : List Value} {us : List (List Value)} {ds : List Dk} {m : List (List Nat)} {u : List Value} (h : OS W0 W v hs us ds) (hx : OMx B W1 x u m) (hW : W1.heap.size ≤ W0) :
  (∀ (j : Nat) (y : Value) (t : Nat), hs[j]? = some y → y.ownBlock = some t → x.ownBlock = some t → False) ∧
  (∀ (j a b : Nat) (q : List Value) (y z : Value) (t : Nat), us[j]? = some q → q[a]? = some y → u[b]? = some z → y.ownBlock = some t → z.ownBlock = some t → False) := by
 refine ⟨fun j y t hy e1 e2 => ?_, fun j a b q y z t hq hy hz e1 e2 => ?_⟩
 ·obtain ⟨d, hd⟩ := get_some (show j < ds.length by rw [← h.lenH]; exact get_lt hy)
  obtain ⟨q, hq⟩ := get_some (show j < us.length by rw [h.lenU]; exact get_lt hd)
  have k1 := ((h.row j d y q hd hy hq).top.lt t e1).1
  have k2 := (hx.top.lt t e2).2
  omega
 ·obtain ⟨d, hd⟩ := get_some (show j < ds.length by rw [← h.lenU]; exact get_lt hq)
  obtain ⟨y', hy'⟩ := get_some (show j < hs.length by rw [h.lenH]; exact get_lt hd)
  have r := h.row j d y' q hd hy' hq
  obtain ⟨l, hl⟩ := get_some (show a < d.blocks.length by rw [← r.len]; exact get_lt hy)
  obtain ⟨l', hl'⟩ := get_some (show b < m.length by rw [← hx.len]; exact get_lt hz)
  have k1 := ((r.row a y l hy hl).lt t e1).1
  have k2 := ((hx.row b z l' hz hl').lt t e2).2
  omega
set_option maxHeartbeats 16000000 in
theorem refReplace_calls (d p : Int) (D A : Option Addr) (cd ca B : Nat) (ds : List Dk) (os : List Ob) (x : Int) (w : World) (hnd : ds.length ≤ cd) (hcd : cd ≤ 9223372036854775807) (hna : os.length ≤ ca) (hca : ca ≤ 9223372036854775807) (hd : RD B w D ds) (hs : RO B w A os) (hl : ∀ o ∈ os, Lh o.name) :
  Calls Try.prog 32 #[Tv d p (.slice D ds.length cd) (.slice A os.length ca), .int .i64 x] w (SOPost w (repS d p ds os x) (repE d p ds os x)) := by
 have HD := Lib.hid hd
 have HS := Lib.hid hs
 have HL := Lib.hid hl
 clear hd hs hl
 by_cases ck : chS d p ds os = 0
 rotate_left
 ·skip
  have E := repE_bad (x := x) ck
  have S := repS_bad E (by first | exact ck | decide)
  rw [E, S]
  clear E S
  go_enter Try.func32, Try.ntmps32
  go_upto_region 1 with fail
  have SB : Hid (((w.alloc (.cells #[.int .i64 d, .int .i64 p, .slice D ds.length cd, .slice A os.length ca] 25)).alloc (.cells #[.int .i64 0, .int .i64 0, .slice none 0 0, .slice none 0 0] 25)).heap[w.heap.size]? = some (.cells #[.int .i64 d, .int .i64 p, .slice D ds.length cd, .slice A os.length ca] 25)) := Lib.hid (blk_alloc (blk_new w _) _)
  have XB : Hid (((w.alloc (.cells #[.int .i64 d, .int .i64 p, .slice D ds.length cd, .slice A os.length ca] 25)).alloc (.cells #[.int .i64 0, .int .i64 0, .slice none 0 0, .slice none 0 0] 25)).heap[w.heap.size + 1]? = some (.cells #[.int .i64 0, .int .i64 0, .slice none 0 0, .slice none 0 0] 25)) := Lib.hid (blk_at _ (by simp))
  have NN : Hid (Below w.heap.size w ((w.alloc (.cells #[.int .i64 d, .int .i64 p, .slice D ds.length cd, .slice A os.length ca] 25)).alloc (.cells #[.int .i64 0, .int .i64 0, .slice none 0 0, .slice none 0 0] 25))) := Lib.hid (Bal (Bal (Below.refl _ _) _) _)
  generalize ((w.alloc (.cells #[.int .i64 d, .int .i64 p, .slice D ds.length cd, .slice A os.length ca] 25)).alloc (.cells #[.int .i64 0, .int .i64 0, .slice none 0 0, .slice none 0 0] 25)) = W0 at *
  have s0 := blk_cell SB.out 0 _ rfl
  have s1 := blk_cell SB.out 1 _ rfl
  have s2 := blk_cell SB.out 2 _ rfl
  have s3 := blk_cell SB.out 3 _ rfl
  have ls := blk_lt SB.out
  go_wp2_with fail
  clear s0 s1 s2 s3 ls
  refine (oRefCheck_calls d p D A cd ca B ds os _ hnd hcd hna hca (HD.out.next NN.out) (HS.out.next NN.out) HL.out).mono ?_
  rintro e w1 ⟨rfl, hb⟩
  replace SB := Lib.hid (blk_next hb SB.out)
  replace XB := Lib.hid (blk_next hb XB.out)
  replace NN := Lib.hid (Bgo NN.out hb)
  clear hb
  have LX := blk_lt XB.out
  have ck2 : (chS d p ds os != 0) = true := by rw [bne_iff_ne]; exact ck
  have x0 := blk_cell XB.out 0 _ rfl
  have fx0 := blk_frozen XB.out 0
  have x1 := blk_cell XB.out 1 _ rfl
  have fx1 := blk_frozen XB.out 1
  have x2 := blk_cell XB.out 2 _ rfl
  have fx2 := blk_frozen XB.out 2
  have x3 := blk_cell XB.out 3 _ rfl
  have fx3 := blk_frozen XB.out 3
  have lx := blk_lt XB.out
  go_wp2_with fail
  have Z := blk_set4 XB.out (.int .i64 0) (.int .i64 0) (.slice none 0 0) (.slice none 0 0)
  have e0 := blk_cell Z 0 _ rfl
  have e1 := blk_cell Z 1 _ rfl
  have e2 := blk_cell Z 2 _ rfl
  have e3 := blk_cell Z 3 _ rfl
  exact bodyPost_ret (v := .tuple #[Tv 0 0 (.slice none 0 0) (.slice none 0 0), .int .i64 (chS d p ds os)]) (by simp [results, Try.results32, go_sem, e0, e1, e2, e3]) rfl ⟨_, _, rfl, OT.nil _ _, OO.nil _ _, Bset4 NN.out (by omega) _ _ _ _⟩
 by_cases q0 : x < 0
 ·have t_q0 : decide (x < 0) = true := decide_eq_true q0
  have E := repE_arg ck (.inl q0)
  have S := repS_bad E (by first | exact ck | decide)
  rw [E, S]
  clear E S
  go_enter Try.func32, Try.ntmps32
  go_upto_region 1 with fail
  have SB : Hid (((w.alloc (.cells #[.int .i64 d, .int .i64 p, .slice D ds.length cd, .slice A os.length ca] 25)).alloc (.cells #[.int .i64 0, .int .i64 0, .slice none 0 0, .slice none 0 0] 25)).heap[w.heap.size]? = some (.cells #[.int .i64 d, .int .i64 p, .slice D ds.length cd, .slice A os.length ca] 25)) := Lib.hid (blk_alloc (blk_new w _) _)
  have XB : Hid (((w.alloc (.cells #[.int .i64 d, .int .i64 p, .slice D ds.length cd, .slice A os.length ca] 25)).alloc (.cells #[.int .i64 0, .int .i64 0, .slice none 0 0, .slice none 0 0] 25)).heap[w.heap.size + 1]? = some (.cells #[.int .i64 0, .int .i64 0, .slice none 0 0, .slice none 0 0] 25)) := Lib.hid (blk_at _ (by simp))
  have NN : Hid (Below w.heap.size w ((w.alloc (.cells #[.int .i64 d, .int .i64 p, .slice D ds.length cd, .slice A os.length ca] 25)).alloc (.cells #[.int .i64 0, .int .i64 0, .slice none 0 0, .slice none 0 0] 25))) := Lib.hid (Bal (Bal (Below.refl _ _) _) _)
  generalize ((w.alloc (.cells #[.int .i64 d, .int .i64 p, .slice D ds.length cd, .slice A os.length ca] 25)).alloc (.cells #[.int .i64 0, .int .i64 0, .slice none 0 0, .slice none 0 0] 25)) = W0 at *
  have s0 := blk_cell SB.out 0 _ rfl
  have s1 := blk_cell SB.out 1 _ rfl
  have s2 := blk_cell SB.out 2 _ rfl
  have s3 := blk_cell SB.out 3 _ rfl
  have ls := blk_lt SB.out
  go_wp2_with fail
  clear s0 s1 s2 s3 ls
  refine (oRefCheck_calls d p D A cd ca B ds os _ hnd hcd hna hca (HD.out.next NN.out) (HS.out.next NN.out) HL.out).mono ?_
  rintro e w1 ⟨rfl, hb⟩
  replace SB := Lib.hid (blk_next hb SB.out)
  replace XB := Lib.hid (blk_next hb XB.out)
  replace NN := Lib.hid (Bgo NN.out hb)
  clear hb
  have LX := blk_lt XB.out
  rw [ck]
  have s0 := blk_cell SB.out 0 _ rfl
  have s1 := blk_cell SB.out 1 _ rfl
  have s2 := blk_cell SB.out 2 _ rfl
  have s3 := blk_cell SB.out 3 _ rfl
  have ls := blk_lt SB.out
  have x0 := blk_cell XB.out 0 _ rfl
  have fx0 := blk_frozen XB.out 0
  have x1 := blk_cell XB.out 1 _ rfl
  have fx1 := blk_frozen XB.out 1
  have x2 := blk_cell XB.out 2 _ rfl
  have fx2 := blk_frozen XB.out 2
  have x3 := blk_cell XB.out 3 _ rfl
  have fx3 := blk_frozen XB.out 3
  have lx := blk_lt XB.out
  go_wp2_with fail
  have Z := blk_set4 XB.out (.int .i64 0) (.int .i64 0) (.slice none 0 0) (.slice none 0 0)
  have e0 := blk_cell Z 0 _ rfl
  have e1 := blk_cell Z 1 _ rfl
  have e2 := blk_cell Z 2 _ rfl
  have e3 := blk_cell Z 3 _ rfl
  exact bodyPost_ret (v := .tuple #[Tv 0 0 (.slice none 0 0) (.slice none 0 0), .int .i64 (2)]) (by simp [results, Try.results32, go_sem, e0, e1, e2, e3]) rfl ⟨_, _, rfl, OT.nil _ _, OO.nil _ _, Bset4 NN.out (by omega) _ _ _ _⟩
 have t_q0 : decide (x < 0) = false := decide_eq_false q0
 by_cases q1 : (ds.length : Int) ≤ x
 ·have t_q1 : decide ((ds.length : Int) ≤ x) = true := decide_eq_true q1
  have E := repE_arg ck (.inr q1)
  have S := repS_bad E (by first | exact ck | decide)
  rw [E, S]
  clear E S
  go_enter Try.func32, Try.ntmps32
  go_upto_region 1 with fail
  have SB : Hid (((w.alloc (.cells #[.int .i64 d, .int .i64 p, .slice D ds.length cd, .slice A os.length ca] 25)).alloc (.cells #[.int .i64 0, .int .i64 0, .slice none 0 0, .slice none 0 0] 25)).heap[w.heap.size]? = some (.cells #[.int .i64 d, .int .i64 p, .slice D ds.length cd, .slice A os.length ca] 25)) := Lib.hid (blk_alloc (blk_new w _) _)
  have XB : Hid (((w.alloc (.cells #[.int .i64 d, .int .i64 p, .slice D ds.length cd, .slice A os.length ca] 25)).alloc (.cells #[.int .i64 0, .int .i64 0, .slice none 0 0, .slice none 0 0] 25)).heap[w.heap.size + 1]? = some (.cells #[.int .i64 0, .int .i64 0, .slice none 0 0, .slice none 0 0] 25)) := Lib.hid (blk_at _ (by simp))
  have NN : Hid (Below w.heap.size w ((w.alloc (.cells #[.int .i64 d, .int .i64 p, .slice D ds.length cd, .slice A os.length ca] 25)).alloc (.cells #[.int .i64 0, .int .i64 0, .slice none 0 0, .slice none 0 0] 25))) := Lib.hid (Bal (Bal (Below.refl _ _) _) _)
  generalize ((w.alloc (.cells #[.int .i64 d, .int .i64 p, .slice D ds.length cd, .slice A os.length ca] 25)).alloc (.cells #[.int .i64 0, .int .i64 0, .slice none 0 0, .slice none 0 0] 25)) = W0 at *
  have s0 := blk_cell SB.out 0 _ rfl
  have s1 := blk_cell SB.out 1 _ rfl
  have s2 := blk_cell SB.out 2 _ rfl
  have s3 := blk_cell SB.out 3 _ rfl
  have ls := blk_lt SB.out
  go_wp2_with fail
  clear s0 s1 s2 s3 ls
  refine (oRefCheck_calls d p D A cd ca B ds os _ hnd hcd hna hca (HD.out.next NN.out) (HS.out.next NN.out) HL.out).mono ?_
  rintro e w1 ⟨rfl, hb⟩
  replace SB := Lib.hid (blk_next hb SB.out)
  replace XB := Lib.hid (blk_next hb XB.out)
  replace NN := Lib.hid (Bgo NN.out hb)
  clear hb
  have LX := blk_lt XB.out
  rw [ck]
  have s0 := blk_cell SB.out 0 _ rfl
  have s1 := blk_cell SB.out 1 _ rfl
  have s2 := blk_cell SB.out 2 _ rfl
  have s3 := blk_cell SB.out 3 _ rfl
  have ls := blk_lt SB.out
  have x0 := blk_cell XB.out 0 _ rfl
  have fx0 := blk_frozen XB.out 0
  have x1 := blk_cell XB.out 1 _ rfl
  have fx1 := blk_frozen XB.out 1
  have x2 := blk_cell XB.out 2 _ rfl
  have fx2 := blk_frozen XB.out 2
  have x3 := blk_cell XB.out 3 _ rfl
  have fx3 := blk_frozen XB.out 3
  have lx := blk_lt XB.out
  go_wp2_with fail
  have Z := blk_set4 XB.out (.int .i64 0) (.int .i64 0) (.slice none 0 0) (.slice none 0 0)
  have e0 := blk_cell Z 0 _ rfl
  have e1 := blk_cell Z 1 _ rfl
  have e2 := blk_cell Z 2 _ rfl
  have e3 := blk_cell Z 3 _ rfl
  exact bodyPost_ret (v := .tuple #[Tv 0 0 (.slice none 0 0) (.slice none 0 0), .int .i64 (2)]) (by simp [results, Try.results32, go_sem, e0, e1, e2, e3]) rfl ⟨_, _, rfl, OT.nil _ _, OO.nil _ _, Bset4 NN.out (by omega) _ _ _ _⟩
 have t_q1 : decide ((ds.length : Int) ≤ x) = false := decide_eq_false q1
 obtain ⟨n, rfl⟩ : ∃ n : Nat, x = (n : Int) := ⟨x.toNat, by omega⟩
 have hn : n < ds.length := by omega
 obtain ⟨k0, hk0⟩ := get_some hn
 have HK := Lib.hid hk0
 have E1 := repE_at (os := os) ck hk0
 have OK := Lib.hid (chS_ok ck)
 have n20 : ds.length ≤ 12 := by have := OK.out.len; have := OK.out.d8; have := OK.out.p4; omega
 have n16 := OK.out.n16
 have t_q2 : decide (ds.length ≤ n) = false := decide_eq_false (by omega)
 have q01 : (0 : Int) ≤ (n : Int) := by omega
 have q02 : (n : Int) < (ds.length : Int) := by omega
 clear hk0 q0 q1
 by_cases hf : k0.failed = true
 rotate_left
 ·have hf' : k0.failed = false := by simpa using hf
  rw [if_neg hf] at E1
  have S := repS_bad E1 (by decide)
  rw [E1, S]
  clear E1 S
  go_enter Try.func32, Try.ntmps32
  go_upto_region 1 with fail
  have SB : Hid (((w.alloc (.cells #[.int .i64 d, .int .i64 p, .slice D ds.length cd, .slice A os.length ca] 25)).alloc (.cells #[.int .i64 0, .int .i64 0, .slice none 0 0, .slice none 0 0] 25)).heap[w.heap.size]? = some (.cells #[.int .i64 d, .int .i64 p, .slice D ds.length cd, .slice A os.length ca] 25)) := Lib.hid (blk_alloc (blk_new w _) _)
  have XB : Hid (((w.alloc (.cells #[.int .i64 d, .int .i64 p, .slice D ds.length cd, .slice A os.length ca] 25)).alloc (.cells #[.int .i64 0, .int .i64 0, .slice none 0 0, .slice none 0 0] 25)).heap[w.heap.size + 1]? = some (.cells #[.int .i64 0, .int .i64 0, .slice none 0 0, .slice none 0 0] 25)) := Lib.hid (blk_at _ (by simp))
  have NN : Hid (Below w.heap.size w ((w.alloc (.cells #[.int .i64 d, .int .i64 p, .slice D ds.length cd, .slice A os.length ca] 25)).alloc (.cells #[.int .i64 0, .int .i64 0, .slice none 0 0, .slice none 0 0] 25))) := Lib.hid (Bal (Bal (Below.refl _ _) _) _)
  generalize ((w.alloc (.cells #[.int .i64 d, .int .i64 p, .slice D ds.length cd, .slice A os.length ca] 25)).alloc (.cells #[.int .i64 0, .int .i64 0, .slice none 0 0, .slice none 0 0] 25)) = W0 at *
  have s0 := blk_cell SB.out 0 _ rfl
  have s1 := blk_cell SB.out 1 _ rfl
  have s2 := blk_cell SB.out 2 _ rfl
  have s3 := blk_cell SB.out 3 _ rfl
  have ls := blk_lt SB.out
  go_wp2_with fail
  clear s0 s1 s2 s3 ls
  refine (oRefCheck_calls d p D A cd ca B ds os _ hnd hcd hna hca (HD.out.next NN.out) (HS.out.next NN.out) HL.out).mono ?_
  rintro e w1 ⟨rfl, hb⟩
  replace SB := Lib.hid (blk_next hb SB.out)
  replace XB := Lib.hid (blk_next hb XB.out)
  replace NN := Lib.hid (Bgo NN.out hb)
  clear hb
  have LX := blk_lt XB.out
  rw [ck]
  obtain ⟨b, off, Ai, ci, rfl, hb9, c0, c1, h2, h3, hm⟩ := HD.out.at_ HK.out
  rw [hf'] at c0
  replace c0 := (NN.out.cell hb9).trans c0
  clear hm c1
  have s0 := blk_cell SB.out 0 _ rfl
  have s1 := blk_cell SB.out 1 _ rfl
  have s2 := blk_cell SB.out 2 _ rfl
  have s3 := blk_cell SB.out 3 _ rfl
  have ls := blk_lt SB.out
  have x0 := blk_cell XB.out 0 _ rfl
  have fx0 := blk_frozen XB.out 0
  have x1 := blk_cell XB.out 1 _ rfl
  have fx1 := blk_frozen XB.out 1
  have x2 := blk_cell XB.out 2 _ rfl
  have fx2 := blk_frozen XB.out 2
  have x3 := blk_cell XB.out 3 _ rfl
  have fx3 := blk_frozen XB.out 3
  have lx := blk_lt XB.out
  go_wp2_with fail
  have Z := blk_set4 XB.out (.int .i64 0) (.int .i64 0) (.slice none 0 0) (.slice none 0 0)
  have e0 := blk_cell Z 0 _ rfl
  have e1 := blk_cell Z 1 _ rfl
  have e2 := blk_cell Z 2 _ rfl
  have e3 := blk_cell Z 3 _ rfl
  exact bodyPost_ret (v := .tuple #[Tv 0 0 (.slice none 0 0) (.slice none 0 0), .int .i64 (36)]) (by simp [results, Try.results32, go_sem, e0, e1, e2, e3]) rfl ⟨_, _, rfl, OT.nil _ _, OO.nil _ _, Bset4 NN.out (by omega) _ _ _ _⟩
 rw [if_pos hf] at E1
 obtain ⟨st, hst⟩ : ∃ st : Nat, strN os = (st : Int) := ⟨(strN os).toNat, by have := OK.out.str; omega⟩
 have st9 : st ≤ 640 := by have := OK.out.str; omega
 rw [hst, Int.toNat_natCast] at E1
 have HST := Lib.hid hst
 have RES : Hid ((repE d p ds os (n : Int)) = (repTo d p ds n st).2 ∧ ((repTo d p ds n st).2 = 0 → repS d p ds os (n : Int) = (d, p, ds.set n ⟨false, (repTo d p ds n st).1⟩, os)) ∧ ((repTo d p ds n st).2 ≠ 0 → repS d p ds os (n : Int) = noS)) := Lib.hid ⟨E1, fun h => by unfold repS; rw [E1, h, if_pos rfl, hst, Int.toNat_natCast, Int.toNat_natCast], fun h => repS_bad E1 h⟩
 generalize repE d p ds os (n : Int) = er0 at *
 generalize repS d p ds os (n : Int) = so0 at *
 clear E1 hst
 go_enter Try.func32, Try.ntmps32
 go_upto_region 1 with fail
 have SB : Hid (((w.alloc (.cells #[.int .i64 d, .int .i64 p, .slice D ds.length cd, .slice A os.length ca] 25)).alloc (.cells #[.int .i64 0, .int .i64 0, .slice none 0 0, .slice none 0 0] 25)).heap[w.heap.size]? = some (.cells #[.int .i64 d, .int .i64 p, .slice D ds.length cd, .slice A os.length ca] 25)) := Lib.hid (blk_alloc (blk_new w _) _)
 have XB : Hid (((w.alloc (.cells #[.int .i64 d, .int .i64 p, .slice D ds.length cd, .slice A os.length ca] 25)).alloc (.cells #[.int .i64 0, .int .i64 0, .slice none 0 0, .slice none 0 0] 25)).heap[w.heap.size + 1]? = some (.cells #[.int .i64 0, .int .i64 0, .slice none 0 0, .slice none 0 0] 25)) := Lib.hid (blk_at _ (by simp))
 have NN : Hid (Below w.heap.size w ((w.alloc (.cells #[.int .i64 d, .int .i64 p, .slice D ds.length cd, .slice A os.length ca] 25)).alloc (.cells #[.int .i64 0, .int .i64 0, .slice none 0 0, .slice none 0 0] 25))) := Lib.hid (Bal (Bal (Below.refl _ _) _) _)
 generalize ((w.alloc (.cells #[.int .i64 d, .int .i64 p, .slice D ds.length cd, .slice A os.length ca] 25)).alloc (.cells #[.int .i64 0, .int .i64 0, .slice none 0 0, .slice none 0 0] 25)) = W0 at *
 have s0 := blk_cell SB.out 0 _ rfl
 have s1 := blk_cell SB.out 1 _ rfl
 have s2 := blk_cell SB.out 2 _ rfl
 have s3 := blk_cell SB.out 3 _ rfl
 have ls := blk_lt SB.out
 go_wp2_with fail
 clear s0 s1 s2 s3 ls
 refine (oRefCheck_calls d p D A cd ca B ds os _ hnd hcd hna hca (HD.out.next NN.out) (HS.out.next NN.out) HL.out).mono ?_
 rintro e w1 ⟨rfl, hb⟩
 replace SB := Lib.hid (blk_next hb SB.out)
 replace XB := Lib.hid (blk_next hb XB.out)
 replace NN := Lib.hid (Bgo NN.out hb)
 clear hb
 have LX := blk_lt XB.out
 rw [ck]
 obtain ⟨b, off, Ai, ci, rfl, hb9, c0, c1, h2, h3, hm⟩ := HD.out.at_ HK.out
 rw [hf] at c0
 replace c0 := (NN.out.cell hb9).trans c0
 clear hm c1
 have s0 := blk_cell SB.out 0 _ rfl
 have s1 := blk_cell SB.out 1 _ rfl
 have s2 := blk_cell SB.out 2 _ rfl
 have s3 := blk_cell SB.out 3 _ rfl
 have ls := blk_lt SB.out
 go_wp2_with fail
 clear s0 s1 s2 s3 ls
 clear c0 h2 h3
 have LW1 : w.heap.size ≤ w1.heap.size := NN.out.size
 go_loopw [7, 8] (fun v i wr => ∃ (k : Nat) (ux : List Value), k ≤ st ∧ i = .int .i64 k ∧ Hid ((repTo d p ds n k).2 = 0) ∧ Hid (Below w1.heap.size w1 wr) ∧ Hid (OMx w1.heap.size wr v ux (repTo d p ds n k).1)) (fun _ i _ => st - (intOf i).toNat)
 case atStart => exact ⟨0, [], by omega, rfl, Lib.hid rfl, Lib.hid (Below.refl _ _), Lib.hid (OMx.nil _ _)⟩
 case round =>
  obtain ⟨k, ux, hk, rfl, R0, NI, OX⟩ := hrel
  have SB1 := SB
  have XB1 := XB
  have NN1 := NN
  replace SB := Lib.hid (blk_next NI.out SB.out)
  replace XB := Lib.hid (blk_next NI.out XB.out)
  replace NN := Lib.hid (Bgo NN.out NI.out)
  obtain ⟨Ax, cx, hxe, hx1, hx2, -⟩ := own_form OX.out.top
  have RL := Lib.hid (repTo_len R0.out)
  rw [RL.out] at hxe hx1
  subst hxe
  clear SB1 XB1 NN1
  have s0 := blk_cell SB.out 0 _ rfl
  have s1 := blk_cell SB.out 1 _ rfl
  have s2 := blk_cell SB.out 2 _ rfl
  have s3 := blk_cell SB.out 3 _ rfl
  have ls := blk_lt SB.out
  go_wp2_with fail
  clear s0 s1 s2 s3 ls
  refine (stripes_calls d p _ A ca B os _ hna hca (HS.out.next NN.out) OK.out.sm (by omega)).mono ?_
  rintro e w2 ⟨rfl, hb⟩
  replace SB := Lib.hid (blk_next hb SB.out)
  replace XB := Lib.hid (blk_next hb XB.out)
  replace NN := Lib.hid (Bgo NN.out hb)
  replace NI := Lib.hid (Bgo NI.out hb)
  replace OX := Lib.hid (OX.out.next hb)
  clear hb
  rw [HST.out]
  by_cases hlt : k < st
  rotate_left
  ·obtain rfl : k = st := by omega
   obtain ⟨RE, RS, _⟩ := RES.out
   rw [R0.out] at RE
   have RS := RS R0.out
   subst RE RS
   have OX2 := OX
   have LW2 := NN.out.size
   have s0 := blk_cell SB.out 0 _ rfl
   have s1 := blk_cell SB.out 1 _ rfl
   have s2 := blk_cell SB.out 2 _ rfl
   have s3 := blk_cell SB.out 3 _ rfl
   have ls := blk_lt SB.out
   go_wp2_with fail
   clear s0 s1 s2 s3 ls
   refine (twin_calls d p _ A cd ca B ds os _ hnd hcd hna hca (HD.out.next NN.out) (HS.out.next NN.out) (by omega) (by have := OK.out.n16; omega) (fun k hk => ⟨by have := (OK.out.bd hk).1; omega, fun b hb => by have := (OK.out.bd hk).2 b hb; omega⟩)).mono ?_
   rintro e w9 ⟨v, u, rfl, ht, hu, hb⟩
   have T := Lib.hid ht
   have U := Lib.hid (hu.mono NN.out.size)
   clear ht hu
   obtain ⟨Av, cv, rfl, hv1, hv2⟩ := T.out.form
   obtain ⟨Au, cu, rfl, hu1, hu2⟩ := U.out.form
   replace SB := Lib.hid (blk_next hb SB.out)
   replace XB := Lib.hid (blk_next hb XB.out)
   replace NN := Lib.hid (Bgo NN.out hb)
   replace OX := Lib.hid (OX.out.next hb)
   clear hb
   go_upto_region 17 with fail
   have HB : Hid ((w9.alloc (.cells #[.int .i64 d, .int .i64 p, .slice Av ds.length cv, .slice Au os.length cu] 25)).heap[w9.heap.size]? = some (.cells #[.int .i64 d, .int .i64 p, .slice Av ds.length cv, .slice Au os.length cu] 25)) := Lib.hid (blk_new _ _)
   have B9 : Below w9.heap.size w9 (w9.alloc (.cells #[.int .i64 d, .int .i64 p, .slice Av ds.length cv, .slice Au os.length cu] 25)) := Bal (Below.refl _ _) _
   have LX : w.heap.size + 1 < w9.heap.size := blk_lt XB.out
   replace SB := Lib.hid (blk_next B9 SB.out)
   replace XB := Lib.hid (blk_next B9 XB.out)
   replace NN := Lib.hid (Bgo NN.out B9)
   replace T := Lib.hid (T.out.next B9)
   replace U := Lib.hid (U.out.next B9)
   replace OX := Lib.hid (OX.out.next B9)
   clear B9
   generalize (w9.alloc (.cells #[.int .i64 d, .int .i64 p, .slice Av ds.length cv, .slice Au os.length cu] 25)) = W1 at *
   generalize w9.heap.size = gh at *
   obtain ⟨g, hs, us, rfl, O, hg, hgB⟩ := T.out.some_ (by omega)
   have AP := O.apartH OX2.out (Nat.le_refl _)
   have HO := Lib.hid (O.mono LW2)
   clear O
   obtain ⟨y, hy⟩ := get_some (show n < hs.length by rw [HO.out.lenH]; exact hn)
   have c0 := (HO.out.top.cellAt (n * 2) (by omega)).trans (flatD_get HK.out hy).1
   have c1 := (HO.out.top.cellAt (n * 2 + 1) (by omega)).trans (flatD_get HK.out hy).2
   have fc0 : W1.frozen? ⟨g, n * 2, none⟩ = false := HO.out.top.frozenAt _
   have fc1 : W1.frozen? ⟨g, n * 2 + 1, none⟩ = false := HO.out.top.frozenAt _
   clear hy
   have h0 := blk_cell HB.out 0 _ rfl
   have h1 := blk_cell HB.out 1 _ rfl
   have h2 := blk_cell HB.out 2 _ rfl
   have h3 := blk_cell HB.out 3 _ rfl
   have lh := blk_lt HB.out
   have x0 := blk_cell XB.out 0 _ rfl
   have fx0 := blk_frozen XB.out 0
   have x1 := blk_cell XB.out 1 _ rfl
   have fx1 := blk_frozen XB.out 1
   have x2 := blk_cell XB.out 2 _ rfl
   have fx2 := blk_frozen XB.out 2
   have x3 := blk_cell XB.out 3 _ rfl
   have fx3 := blk_frozen XB.out 3
   have lx := blk_lt XB.out
   have hne1 : g ≠ gh := fun e => own_ne HO.out.top HB.out ne_dk_sto (by rw [e]; rfl)
   have hne2 : g ≠ w.heap.size + 1 := fun e => own_ne HO.out.top XB.out ne_dk_sto (by rw [e]; rfl)
   go_wp2_with fail
   have P1 := OS.set2 (i := n) (d := ⟨false, (repTo d p ds n k).1⟩) HO.out (OX.out.mono LW1) AP.1 AP.2
   have XY := dk_other (i := n) (x := .bool false) (y := (.slice Ax k cx)) XB.out HO.out.top ne_dk_sto
   have UY := OO.dk (i := n) (x := .bool false) (y := (.slice Ax k cx)) U.out HO.out.top
   have NY := Bset1 (Bset1 NN.out (Nat.le_trans LW2 hgB) (n * 2) (.bool false)) (Nat.le_trans LW2 hgB) (n * 2 + 1) (.slice Ax k cx)
   have Z := blk_set4 XY (.int .i64 d) (.int .i64 p) (.slice (some ⟨g, 0, none⟩) ds.length cv) (.slice Au os.length cu)
   have e0 := blk_cell Z 0 _ rfl
   have e1 := blk_cell Z 1 _ rfl
   have e2 := blk_cell Z 2 _ rfl
   have e3 := blk_cell Z 3 _ rfl
   exact bodyPost_ret (v := .tuple #[Tv d p (.slice (some ⟨g, 0, none⟩) ds.length cv) (.slice Au os.length cu), .int .i64 0]) (by simp [results, Try.results32, go_sem, e0, e1, e2, e3]) rfl ⟨_, _, rfl, OT.set4_ ⟨_, _, P1⟩ XY _ _ _ _, OO.set4_ UY XY _ _ _ _, Bset4 NY (by omega) _ _ _ _⟩
  have k1 : (0 : Int) ≤ (k : Int) := by omega
  have k2 : (k : Int) < (st : Int) := by omega
  have fk : (k : Int) < strN os := by rw [HST.out]; omega
  have HKB : Hid (∀ x ∈ ds, x.failed = false → k < x.blocks.length) := Lib.hid (fun x hx hf => by have := ((OK.out.dkl hx).2 hf).1; omega)
  have SC := Lib.hid (fun (W : World) (h : Below w.heap.size w W) => refStripe_calls d p (some ⟨b, off, none⟩) A cd os.length ca B ds k W hnd hcd (HD.out.next h) (by omega) HKB.out (fun x hx l hl => by have := (OK.out.bd hx).2 l hl; omega))
  have RC := Lib.hid (fun A5 c5 W h1 h2 h3 => refRestore_calls d p A5 c5 0 (strp ds k) W h1 h2 h3)
  have RR := Lib.hid (fun h => strp_rows OK.out fk h)
  have GS : Hid (repTo d p ds n (k + 1) = if resE d p (strp ds k) = 0 then ((repTo d p ds n k).1 ++ [(resS d p (strp ds k)).2.2.getD n []], 0) else ([], resE d p (strp ds k))) := Lib.hid (by rw [repTo, if_pos R0.out])
  clear fk
  by_cases hr : resE d p (strp ds k) = 0
  rotate_left
  ·have hr2 : (resE d p (strp ds k) != 0) = true := by rw [bne_iff_ne]; exact hr
   rw [if_neg hr] at GS
   have GT : repTo d p ds n st = ([], resE d p (strp ds k)) := by rw [repTo_stay (k := k + 1) (by rw [GS.out]; exact hr) (by omega), GS.out]
   obtain ⟨RE, _, RS⟩ := RES.out
   rw [GT] at RE
   have RS := RS (by rw [GT]; exact hr)
   subst RE RS
   generalize hER : resE d p (strp ds k) = er at *
   have HER := Lib.hid hER
   clear hER
   have s0 := blk_cell SB.out 0 _ rfl
   have s1 := blk_cell SB.out 1 _ rfl
   have s2 := blk_cell SB.out 2 _ rfl
   have s3 := blk_cell SB.out 3 _ rfl
   have ls := blk_lt SB.out
   go_wp2_with fail
   clear s0 s1 s2 s3 ls
   refine (SC.out _ NN.out).mono ?_
   rintro e w5 ⟨v5, rfl, hm5, hb5⟩
   obtain ⟨A5, c5, rfl, h51, h52, h53⟩ := hm5.rm
   go_wp2_with fail
   refine (RC.out A5 c5 _ h51 h52 (h53.mono (Nat.zero_le _))).mono ?_
   rintro e w6 ⟨v6, rfl, hm6, hb6⟩
   obtain ⟨us6, hm6⟩ := hm6
   have TM := Lib.hid hm6
   obtain ⟨A6, c6, rfl, h61, h62, _⟩ := own_form hm6.top
   clear hm6 h51 h52 h53 SC RC GS RR RES GT
   generalize (resS d p (strp ds k)).2.2 = rows at *
   generalize (resS d p (strp ds k)).1 = D6 at *
   generalize (resS d p (strp ds k)).2.1 = M6 at *
   go_upto_region 13 with fail
   have PB : Hid ((w6.alloc (.cells #[.int .i64 D6, .int .i64 M6, .slice A6 rows.length c6] 54)).heap[w6.heap.size]? = some (.cells #[.int .i64 D6, .int .i64 M6, .slice A6 rows.length c6] 54)) := Lib.hid (blk_new _ _)
   have N6 : Hid (Below w2.heap.size w2 (w6.alloc (.cells #[.int .i64 D6, .int .i64 M6, .slice A6 rows.length c6] 54))) := Lib.hid (Bal (Bgo hb5 hb6) _)
   replace TM := Lib.hid (TM.out.next (Bal (Below.refl _ _) (.cells #[.int .i64 D6, .int .i64 M6, .slice A6 rows.length c6] 54)))
   have L5 : w2.heap.size ≤ w5.heap.size := hb5.size
   clear hb5 hb6
   generalize (w6.alloc (.cells #[.int .i64 D6, .int .i64 M6, .slice A6 rows.length c6] 54)) = W6 at *
   generalize w6.heap.size = gp at *
   replace XB := Lib.hid (blk_next N6.out XB.out)
   replace NN := Lib.hid (Bgo NN.out N6.out)
   have x0 := blk_cell XB.out 0 _ rfl
   have fx0 := blk_frozen XB.out 0
   have x1 := blk_cell XB.out 1 _ rfl
   have fx1 := blk_frozen XB.out 1
   have x2 := blk_cell XB.out 2 _ rfl
   have fx2 := blk_frozen XB.out 2
   have x3 := blk_cell XB.out 3 _ rfl
   have fx3 := blk_frozen XB.out 3
   have lx := blk_lt XB.out
   go_wp2_with fail
   have Z := blk_set4 XB.out (.int .i64 0) (.int .i64 0) (.slice none 0 0) (.slice none 0 0)
   have e0 := blk_cell Z 0 _ rfl
   have e1 := blk_cell Z 1 _ rfl
   have e2 := blk_cell Z 2 _ rfl
   have e3 := blk_cell Z 3 _ rfl
   exact bodyPost_ret (v := .tuple #[Tv 0 0 (.slice none 0 0) (.slice none 0 0), .int .i64 (er)]) (by simp [results, Try.results32, go_sem, e0, e1, e2, e3]) rfl ⟨_, _, (by first | rfl | (rw [HER.out]; rfl)), OT.nil _ _, OO.nil _ _, Bset4 NN.out (by omega) _ _ _ _⟩
  have hr2 : (resE d p (strp ds k) != 0) = false := by rw [bne_eq_false_iff_eq]; exact hr
  rw [if_pos hr] at GS
  obtain ⟨r1, r2, -, -, -⟩ := RR.out hr
  have R1 := Lib.hid r1
  clear r1 r2
  rw [hr] at RC
  have s0 := blk_cell SB.out 0 _ rfl
  have s1 := blk_cell SB.out 1 _ rfl
  have s2 := blk_cell SB.out 2 _ rfl
  have s3 := blk_cell SB.out 3 _ rfl
  have ls := blk_lt SB.out
  go_wp2_with fail
  clear s0 s1 s2 s3 ls
  refine (SC.out _ NN.out).mono ?_
  rintro e w5 ⟨v5, rfl, hm5, hb5⟩
  obtain ⟨A5, c5, rfl, h51, h52, h53⟩ := hm5.rm
  go_wp2_with fail
  refine (RC.out A5 c5 _ h51 h52 (h53.mono (Nat.zero_le _))).mono ?_
  rintro e w6 ⟨v6, rfl, hm6, hb6⟩
  obtain ⟨us6, hm6⟩ := hm6
  have TM := Lib.hid hm6
  obtain ⟨A6, c6, rfl, h61, h62, _⟩ := own_form hm6.top
  clear hm6 h51 h52 h53 SC RC RR
  generalize (resS d p (strp ds k)).2.2 = rows at *
  generalize (resS d p (strp ds k)).1 = D6 at *
  generalize (resS d p (strp ds k)).2.1 = M6 at *
  go_upto_region 13 with fail
  have PB : Hid ((w6.alloc (.cells #[.int .i64 D6, .int .i64 M6, .slice A6 rows.length c6] 54)).heap[w6.heap.size]? = some (.cells #[.int .i64 D6, .int .i64 M6, .slice A6 rows.length c6] 54)) := Lib.hid (blk_new _ _)
  have N6 : Hid (Below w2.heap.size w2 (w6.alloc (.cells #[.int .i64 D6, .int .i64 M6, .slice A6 rows.length c6] 54))) := Lib.hid (Bal (Bgo hb5 hb6) _)
  replace TM := Lib.hid (TM.out.next (Bal (Below.refl _ _) (.cells #[.int .i64 D6, .int .i64 M6, .slice A6 rows.length c6] 54)))
  have L5 : w2.heap.size ≤ w5.heap.size := hb5.size
  clear hb5 hb6
  generalize (w6.alloc (.cells #[.int .i64 D6, .int .i64 M6, .slice A6 rows.length c6] 54)) = W6 at *
  generalize w6.heap.size = gp at *
  have r1 := R1.out
  obtain ⟨l, hl⟩ := get_some (show n < rows.length by omega)
  obtain ⟨ru, hru⟩ := get_some (show n < us6.length by rw [TM.out.len]; omega)
  have j4 : (n : Int) < (rows.length : Int) := by omega
  clear r1
  have OR := Lib.hid (own_mono (TM.out.row n ru l hru hl) L5)
  have HL7 := Lib.hid hl
  have HB7 := Lib.hid (TM.out.byt l (List.mem_of_getElem? hl))
  obtain ⟨b7, k71, k72, k73, k74⟩ := own_cell2 TM.out.top hru
  subst k71
  obtain ⟨Ar, cr, hre, hr1, hr9, -⟩ := own_form OR.out
  subst hre
  have LP6 := blk_lt PB.out
  have LW : w1.heap.size ≤ W6.heap.size := by have := NI.out.size; have := N6.out.size; omega
  have TOP : Hid (W6.ownsRow w1.heap.size 26 1 (.slice Ax k cx) k ux) := Lib.hid (by have := own_next N6.out OX.out.top; rw [RL.out] at this; exact this)
  have p2 := blk_cell PB.out 2 _ rfl
  obtain ⟨i0, hi0, hz0, hz1, hz2⟩ := info_parts sl_info
  have HI := Lib.hid (And.intro hi0 (And.intro hz0 (And.intro hz1 hz2)))
  clear hi0 hz0 hz1 hz2 hl hru
  go_wp2_with (at_builtin; refine wpList_append_rd _ rfl _ _ 44 rfl w1.heap.size 26 i0 (.slice none 0 0) 1 24 Try.underlying44 HI.out.1 HI.out.2.1 HI.out.2.2.1 HI.out.2.2.2 rfl (by decide) _ k ux rfl (TOP.out.alloc _) (some ⟨W6.heap.size, 0, none⟩) 1 1 [.slice Ar l.length cr] rfl (rd_one (t := 26) (blk_new _ _)) (slice_one _ _ _) (by simp only [maxLen]; omega) (by omega) (by first | exact LW | (simp; omega)) ?_; intro v2 w2' hown2 hg2 hat2; obtain ⟨A2, c2, rfl, g1, g2, _⟩ := own_form hown2; have G2 := Lib.hid hg2; have O2 := Lib.hid hown2; clear hown2 hg2 hat2)
  have P2 := OMx.push OX.out (Bal N6.out (.cells #[.slice Ar l.length cr] 26)) (OR.out.alloc _) HB7.out NI.out.size (by rw [RL.out]; exact O2.out) G2.out
  have EG : rows.getD n [] = l := by rw [List.getD_eq_getElem?_getD, HL7.out, Option.getD_some]
  rw [EG] at GS
  have N2 : Hid (Below w1.heap.size w1 w2') := Lib.hid (gbel G2.out (Bal (Bgo NI.out N6.out) _) (fun g hg => (TOP.out.lt g hg).1))
  refine ⟨⟨k + 1, ux ++ [.slice Ar l.length cr], by omega, by go_num, Lib.hid (by rw [GS.out]), N2, Lib.hid (by rw [GS.out]; exact P2)⟩, by simp [intOf]; omega⟩
end Go.Proofs.Ytapehckcmmompaa
