/- Several texts in one. -/
import Derived.Test.YtapehckcmmompaaM07
import Derived.Test.YtapehckcmmompaaM08
namespace Go.Proofs.Ytapehckcmmompaa
open Go.ChangeShapes Go.WideShapes Go.ChangeAt Go.RowKit
set_option linter.unusedVariables false
set_option maxRecDepth 100000
attribute [local go_sem ↓] Go.wp_at_zero Go.wp_at_succ
def faN (ds : List Dk) : Nat := (ds.filter fun d => d.failed).length
theorem faN_take {ds : List Dk} {k : Nat} {d : Dk} (h : ds[k]? = some d) : faN (ds.take (k + 1)) = faN (ds.take k) + (if d.failed then 1 else 0) := by
 unfold faN
 rw [List.take_add_one, h, Option.toList_some, List.filter_append, List.length_append]
 cases e : d.failed <;> simp [e]
theorem faN_le (ds : List Dk) : faN ds ≤ ds.length := List.length_filter_le _ _
def chS (d p : Int) (ds : List Dk) (os : List Ob) : Int :=
 if 12 < ds.length ∨ 16 < os.length then 4
 else if 1 ≤ d ∧ d ≤ 8 ∧ 0 ≤ p ∧ p ≤ 4 ∧ (ds.length : Int) = d + p then
  if desB d os = true ∧ (0 < strN os → faN ds ≠ ds.length) ∧ (∀ k ∈ ds, dkB (strN os) k = true) then 0 else 8
 else 8
set_option maxHeartbeats 4000000 in
theorem failed_calls (d p : Int) (ov : Value) (A : Option Addr) (c B : Nat) (ds : List Dk) (w : World) (hn : ds.length ≤ c) (hc : c ≤ 9223372036854775807) (hs : RD B w A ds) :
  Calls Try.prog 24 #[Tv d p (.slice A ds.length c) ov] w fun e w' => e = .returned (.int .i64 (faN ds)) ∧ Below w.heap.size w w' := by
 have HS := Lib.hid (hs.next (Bal (Below.refl w.heap.size w) (.cells #[.int .i64 d, .int .i64 p, .slice A ds.length c, ov] 25)))
 have NN := Lib.hid (Bal (Below.refl w.heap.size w) (.cells #[.int .i64 d, .int .i64 p, .slice A ds.length c, ov] 25))
 have K := Lib.hid (blk_new w (.cells #[.int .i64 d, .int .i64 p, .slice A ds.length c, ov] 25))
 clear hs
 go_enter Try.func24, Try.ntmps24
 go_wp2_with fail
 generalize w.alloc (.cells #[.int .i64 d, .int .i64 p, .slice A ds.length c, ov] 25) = W0 at *
 have k2 := blk_cell K.out 2 _ rfl
 have kl := blk_lt K.out
 go_loop [3, 4] (fun n i => ∃ k t : Nat, k ≤ ds.length ∧ i = .int .i64 k ∧ n = .int .i64 t ∧ t ≤ k ∧ Hid (t = faN (ds.take k))) (fun _ i => ds.length - (intOf i).toNat)
 case atStart => exact ⟨0, 0, by omega, rfl, rfl, by omega, Lib.hid (by simp [faN])⟩
 case round =>
  obtain ⟨k, t, hk, rfl, rfl, t1, GD⟩ := hrel
  by_cases hlt : k < ds.length
  ·obtain ⟨o, ho⟩ := get_some hlt
   obtain ⟨b, off, _, _, rfl, hb, c0, _⟩ := HS.out.at_ ho
   have kk : k + 1 ≤ ds.length := hlt
   have F2 := Lib.hid (faN_take ho)
   obtain ⟨f, m⟩ := o
   simp only at c0 F2
   clear ho
   cases f
   ·have G2 : Hid (t = faN (ds.take (k + 1))) := Lib.hid (by rw [F2.out, GD.out]; rfl)
    clear GD F2
    go_wp2_with fail
    go_round
    case rel => exact ⟨k + 1, t, kk, by go_num, rfl, by omega, G2⟩
    case measure => simp [intOf]; omega
   ·have G2 : Hid (t + 1 = faN (ds.take (k + 1))) := Lib.hid (by rw [F2.out, GD.out]; rfl)
    clear GD F2
    go_wp2_with fail
    go_round
    case rel => exact ⟨k + 1, t + 1, kk, by go_num, by go_num, by omega, G2⟩
    case measure => simp [intOf]; omega
  ·obtain rfl : k = ds.length := by omega
   go_wp2_with fail
   go_ret
   exact ⟨ret_int (by rw [GD.out, List.take_length]), NN.out⟩
end Go.Proofs.Ytapehckcmmompaa
namespace Go.Proofs.Ytapehckcmmompaa
open Go.ChangeShapes Go.WideShapes Go.ChangeAt Go.RowKit
set_option linter.unusedVariables false
set_option maxRecDepth 100000
attribute [local go_sem ↓] Go.wp_at_zero Go.wp_at_succ
theorem chS_many {d p : Int} {ds : List Dk} {os : List Ob} (h : 12 < ds.length ∨ 16 < os.length) : chS d p ds os = 4 := by unfold chS; rw [if_pos h]
theorem chS_size {d p : Int} {ds : List Dk} {os : List Ob} (h : ds.length ≤ 12) (h' : os.length ≤ 16) (hb : ¬ (1 ≤ d ∧ d ≤ 8 ∧ 0 ≤ p ∧ p ≤ 4 ∧ (ds.length : Int) = d + p)) : chS d p ds os = 8 := by
 unfold chS; rw [if_neg (by omega), if_neg hb]
theorem chS_in {d p : Int} {ds : List Dk} {os : List Ob} (h : ds.length ≤ 12) (h' : os.length ≤ 16) (h1 : 1 ≤ d) (h2 : d ≤ 8) (h3 : 0 ≤ p) (h4 : p ≤ 4) (h5 : (ds.length : Int) = d + p) :
  chS d p ds os = if desB d os = true ∧ (0 < strN os → faN ds ≠ ds.length) ∧ (∀ k ∈ ds, dkB (strN os) k = true) then 0 else 8 := by
 unfold chS; rw [if_neg (by omega), if_pos ⟨h1, h2, h3, h4, h5⟩]
theorem des_sm {d : Int} {os : List Ob} (h1 : 1 ≤ d) (h8 : d ≤ 8) (h : desB d os = true) : smO os := fun o ho => by
 obtain ⟨k, hk⟩ := List.mem_iff_getElem?.1 ho
 have := desB_iff.1 h k o hk
 unfold oneO at this
 rw [Bool.and_eq_true] at this
 have := obj_many h1 h8 this.1
 omega
set_option maxHeartbeats 16000000 in
theorem oRefCheck_calls (d p : Int) (D A : Option Addr) (cd ca B : Nat) (ds : List Dk) (os : List Ob) (w : World) (hnd : ds.length ≤ cd) (hcd : cd ≤ 9223372036854775807) (hna : os.length ≤ ca) (hca : ca ≤ 9223372036854775807) (hd : RD B w D ds) (hs : RO B w A os) (hl : ∀ o ∈ os, Lh o.name) :
  Calls Try.prog 22 #[Tv d p (.slice D ds.length cd) (.slice A os.length ca)] w fun e w' => e = .returned (.int .i64 (chS d p ds os)) ∧ Below w.heap.size w w' := by
 have HD := Lib.hid hd
 have HS := Lib.hid hs
 have HL := Lib.hid hl
 have NN := Lib.hid (Below.refl w.heap.size w)
 clear hd hs hl
 have MANY := Lib.hid (fun h => chS_many (d := d) (p := p) (ds := ds) (os := os) h)
 have SIZE := Lib.hid (fun h h' hb => chS_size (d := d) (p := p) (ds := ds) (os := os) h h' hb)
 have IN := Lib.hid (fun h h' h1 h2 h3 h4 h5 => chS_in (d := d) (p := p) (ds := ds) (os := os) h h' h1 h2 h3 h4 h5)
 generalize chS d p ds os = res at *
 by_cases q0 : 12 < ds.length
 ·have e_q0 : decide ((12 : Int) < (ds.length : Int)) = true := decide_eq_true (by omega)
  have R : Hid (res = 4) := Lib.hid (MANY.out (Or.inl q0))
  clear MANY SIZE IN HL
  go_enter Try.func22, Try.ntmps22
  have HB : Hid (Below w.heap.size w (w.alloc (.cells #[.int .i64 d, .int .i64 p, .slice D ds.length cd, .slice A os.length ca] 25))) := Lib.hid (Bal (Below.refl _ _) _)
  have SB := Lib.hid (blk_new w (.cells #[.int .i64 d, .int .i64 p, .slice D ds.length cd, .slice A os.length ca] 25))
  have LT_SB : Hid (w.heap.size ≤ w.heap.size) := Lib.hid NN.out.size
  replace NN := Lib.hid (Bgo NN.out HB.out)
  replace HS := Lib.hid (HS.out.next HB.out)
  replace HD := Lib.hid (HD.out.next HB.out)
  clear HB
  go_wp2_with fail
  generalize w.alloc (.cells #[.int .i64 d, .int .i64 p, .slice D ds.length cd, .slice A os.length ca] 25) = W1 at *
  go_ret
  exact ⟨ret_int R.out.symm, NN.out⟩
 have e_q0 : decide ((12 : Int) < (ds.length : Int)) = false := decide_eq_false (by omega)
 by_cases q1 : 16 < os.length
 ·have e_q1 : decide ((16 : Int) < (os.length : Int)) = true := decide_eq_true (by omega)
  have R : Hid (res = 4) := Lib.hid (MANY.out (Or.inr q1))
  clear MANY SIZE IN HL
  go_enter Try.func22, Try.ntmps22
  have HB : Hid (Below w.heap.size w (w.alloc (.cells #[.int .i64 d, .int .i64 p, .slice D ds.length cd, .slice A os.length ca] 25))) := Lib.hid (Bal (Below.refl _ _) _)
  have SB := Lib.hid (blk_new w (.cells #[.int .i64 d, .int .i64 p, .slice D ds.length cd, .slice A os.length ca] 25))
  have LT_SB : Hid (w.heap.size ≤ w.heap.size) := Lib.hid NN.out.size
  replace NN := Lib.hid (Bgo NN.out HB.out)
  replace HS := Lib.hid (HS.out.next HB.out)
  replace HD := Lib.hid (HD.out.next HB.out)
  clear HB
  go_wp2_with fail
  generalize w.alloc (.cells #[.int .i64 d, .int .i64 p, .slice D ds.length cd, .slice A os.length ca] 25) = W2 at *
  go_ret
  exact ⟨ret_int R.out.symm, NN.out⟩
 have e_q1 : decide ((16 : Int) < (os.length : Int)) = false := decide_eq_false (by omega)
 by_cases q2 : d < 1
 ·have e_q2 : decide (d < (1 : Int)) = true := decide_eq_true (by omega)
  have R : Hid (res = 8) := Lib.hid (SIZE.out (by omega) (by omega) (by omega))
  clear MANY SIZE IN HL
  go_enter Try.func22, Try.ntmps22
  have HB : Hid (Below w.heap.size w (w.alloc (.cells #[.int .i64 d, .int .i64 p, .slice D ds.length cd, .slice A os.length ca] 25))) := Lib.hid (Bal (Below.refl _ _) _)
  have SB := Lib.hid (blk_new w (.cells #[.int .i64 d, .int .i64 p, .slice D ds.length cd, .slice A os.length ca] 25))
  have LT_SB : Hid (w.heap.size ≤ w.heap.size) := Lib.hid NN.out.size
  replace NN := Lib.hid (Bgo NN.out HB.out)
  replace HS := Lib.hid (HS.out.next HB.out)
  replace HD := Lib.hid (HD.out.next HB.out)
  clear HB
  go_wp2_with fail
  generalize w.alloc (.cells #[.int .i64 d, .int .i64 p, .slice D ds.length cd, .slice A os.length ca] 25) = W3 at *
  go_ret
  exact ⟨ret_int R.out.symm, NN.out⟩
 have e_q2 : decide (d < (1 : Int)) = false := decide_eq_false (by omega)
 by_cases q3 : 8 < d
 ·have e_q3 : decide ((8 : Int) < d) = true := decide_eq_true (by omega)
  have R : Hid (res = 8) := Lib.hid (SIZE.out (by omega) (by omega) (by omega))
  clear MANY SIZE IN HL
  go_enter Try.func22, Try.ntmps22
  have HB : Hid (Below w.heap.size w (w.alloc (.cells #[.int .i64 d, .int .i64 p, .slice D ds.length cd, .slice A os.length ca] 25))) := Lib.hid (Bal (Below.refl _ _) _)
  have SB := Lib.hid (blk_new w (.cells #[.int .i64 d, .int .i64 p, .slice D ds.length cd, .slice A os.length ca] 25))
  have LT_SB : Hid (w.heap.size ≤ w.heap.size) := Lib.hid NN.out.size
  replace NN := Lib.hid (Bgo NN.out HB.out)
  replace HS := Lib.hid (HS.out.next HB.out)
  replace HD := Lib.hid (HD.out.next HB.out)
  clear HB
  go_wp2_with fail
  generalize w.alloc (.cells #[.int .i64 d, .int .i64 p, .slice D ds.length cd, .slice A os.length ca] 25) = W4 at *
  go_ret
  exact ⟨ret_int R.out.symm, NN.out⟩
 have e_q3 : decide ((8 : Int) < d) = false := decide_eq_false (by omega)
 by_cases q4 : p < 0
 ·have e_q4 : decide (p < (0 : Int)) = true := decide_eq_true (by omega)
  have R : Hid (res = 8) := Lib.hid (SIZE.out (by omega) (by omega) (by omega))
  clear MANY SIZE IN HL
  go_enter Try.func22, Try.ntmps22
  have HB : Hid (Below w.heap.size w (w.alloc (.cells #[.int .i64 d, .int .i64 p, .slice D ds.length cd, .slice A os.length ca] 25))) := Lib.hid (Bal (Below.refl _ _) _)
  have SB := Lib.hid (blk_new w (.cells #[.int .i64 d, .int .i64 p, .slice D ds.length cd, .slice A os.length ca] 25))
  have LT_SB : Hid (w.heap.size ≤ w.heap.size) := Lib.hid NN.out.size
  replace NN := Lib.hid (Bgo NN.out HB.out)
  replace HS := Lib.hid (HS.out.next HB.out)
  replace HD := Lib.hid (HD.out.next HB.out)
  clear HB
  go_wp2_with fail
  generalize w.alloc (.cells #[.int .i64 d, .int .i64 p, .slice D ds.length cd, .slice A os.length ca] 25) = W5 at *
  go_ret
  exact ⟨ret_int R.out.symm, NN.out⟩
 have e_q4 : decide (p < (0 : Int)) = false := decide_eq_false (by omega)
 by_cases q5 : 4 < p
 ·have e_q5 : decide ((4 : Int) < p) = true := decide_eq_true (by omega)
  have R : Hid (res = 8) := Lib.hid (SIZE.out (by omega) (by omega) (by omega))
  clear MANY SIZE IN HL
  go_enter Try.func22, Try.ntmps22
  have HB : Hid (Below w.heap.size w (w.alloc (.cells #[.int .i64 d, .int .i64 p, .slice D ds.length cd, .slice A os.length ca] 25))) := Lib.hid (Bal (Below.refl _ _) _)
  have SB := Lib.hid (blk_new w (.cells #[.int .i64 d, .int .i64 p, .slice D ds.length cd, .slice A os.length ca] 25))
  have LT_SB : Hid (w.heap.size ≤ w.heap.size) := Lib.hid NN.out.size
  replace NN := Lib.hid (Bgo NN.out HB.out)
  replace HS := Lib.hid (HS.out.next HB.out)
  replace HD := Lib.hid (HD.out.next HB.out)
  clear HB
  go_wp2_with fail
  generalize w.alloc (.cells #[.int .i64 d, .int .i64 p, .slice D ds.length cd, .slice A os.length ca] 25) = W6 at *
  go_ret
  exact ⟨ret_int R.out.symm, NN.out⟩
 have e_q5 : decide ((4 : Int) < p) = false := decide_eq_false (by omega)
 by_cases q6 : (ds.length : Int) ≠ d + p
 ·have e_q6 : ((ds.length : Int) != d + p) = true := by rw [bne_iff_ne]; exact q6
  have R : Hid (res = 8) := Lib.hid (SIZE.out (by omega) (by omega) (by omega))
  clear MANY SIZE IN HL
  go_enter Try.func22, Try.ntmps22
  have HB : Hid (Below w.heap.size w (w.alloc (.cells #[.int .i64 d, .int .i64 p, .slice D ds.length cd, .slice A os.length ca] 25))) := Lib.hid (Bal (Below.refl _ _) _)
  have SB := Lib.hid (blk_new w (.cells #[.int .i64 d, .int .i64 p, .slice D ds.length cd, .slice A os.length ca] 25))
  have LT_SB : Hid (w.heap.size ≤ w.heap.size) := Lib.hid NN.out.size
  replace NN := Lib.hid (Bgo NN.out HB.out)
  replace HS := Lib.hid (HS.out.next HB.out)
  replace HD := Lib.hid (HD.out.next HB.out)
  clear HB
  go_wp2_with fail
  generalize w.alloc (.cells #[.int .i64 d, .int .i64 p, .slice D ds.length cd, .slice A os.length ca] 25) = W7 at *
  go_ret
  exact ⟨ret_int R.out.symm, NN.out⟩
 have e_q6 : ((ds.length : Int) != d + p) = false := by rw [bne_eq_false_iff_eq]; omega
 replace IN := Lib.hid (IN.out (by omega) (by omega) (by omega) (by omega) (by omega) (by omega) (by omega))
 have DC := Lib.hid (fun W (h : RO B W A os) => described_calls d p (.slice D ds.length cd) A ca B os W hna hca h (by omega) (by omega) HL.out (by omega))
 have SM := Lib.hid (fun h => des_sm (os := os) (d := d) (by omega) (by omega) h)
 clear HL MANY SIZE
 generalize hde : desB d os = de at *
 clear hde
 go_enter Try.func22, Try.ntmps22
 have HB : Hid (Below w.heap.size w (w.alloc (.cells #[.int .i64 d, .int .i64 p, .slice D ds.length cd, .slice A os.length ca] 25))) := Lib.hid (Bal (Below.refl _ _) _)
 have SB := Lib.hid (blk_new w (.cells #[.int .i64 d, .int .i64 p, .slice D ds.length cd, .slice A os.length ca] 25))
 have LT_SB : Hid (w.heap.size ≤ w.heap.size) := Lib.hid NN.out.size
 replace NN := Lib.hid (Bgo NN.out HB.out)
 replace HS := Lib.hid (HS.out.next HB.out)
 replace HD := Lib.hid (HD.out.next HB.out)
 clear HB
 go_wp2_with fail
 generalize w.alloc (.cells #[.int .i64 d, .int .i64 p, .slice D ds.length cd, .slice A os.length ca] 25) = W8 at *
 refine (DC.out _ HS.out).mono ?_
 rintro e w9 ⟨rfl, hb⟩
 replace NN := Lib.hid (Bgo NN.out hb)
 replace HS := Lib.hid (HS.out.next hb)
 replace HD := Lib.hid (HD.out.next hb)
 replace SB := Lib.hid (blk_next hb SB.out)
 clear hb
 cases de
 ·have zz := 0
  have R : Hid (res = 8) := Lib.hid (by rw [IN.out]; exact if_neg (fun h => by simp at h))
  clear IN
  have c_SB_0 := blk_cell SB.out 0 _ rfl
  have c_SB_1 := blk_cell SB.out 1 _ rfl
  have c_SB_2 := blk_cell SB.out 2 _ rfl
  have c_SB_3 := blk_cell SB.out 3 _ rfl
  have l_SB := blk_lt SB.out
  go_wp2_with fail
  go_ret
  exact ⟨ret_int R.out.symm, NN.out⟩
 have SC := Lib.hid (fun W (h : RO B W A os) => stripes_calls d p (.slice D ds.length cd) A ca B os W hna hca h (SM.out rfl) (by omega))
 have SB0 := strN_bd (SM.out rfl)
 clear DC SM
 generalize hst : strN os = st at *
 clear hst
 obtain ⟨s1, s2⟩ := SB0
 have c_SB_0 := blk_cell SB.out 0 _ rfl
 have c_SB_1 := blk_cell SB.out 1 _ rfl
 have c_SB_2 := blk_cell SB.out 2 _ rfl
 have c_SB_3 := blk_cell SB.out 3 _ rfl
 have l_SB := blk_lt SB.out
 go_wp2_with fail
 refine (SC.out _ HS.out).mono ?_
 rintro e w10 ⟨rfl, hb⟩
 clear c_SB_0 c_SB_1 c_SB_2 c_SB_3 l_SB
 replace NN := Lib.hid (Bgo NN.out hb)
 replace HS := Lib.hid (HS.out.next hb)
 replace HD := Lib.hid (HD.out.next hb)
 replace SB := Lib.hid (blk_next hb SB.out)
 clear hb
 have c_SB_0 := blk_cell SB.out 0 _ rfl
 have c_SB_1 := blk_cell SB.out 1 _ rfl
 have c_SB_2 := blk_cell SB.out 2 _ rfl
 have c_SB_3 := blk_cell SB.out 3 _ rfl
 have l_SB := blk_lt SB.out
 go_wp2_with fail
 clear c_SB_0 c_SB_1 c_SB_2 c_SB_3 l_SB
 clear SC
 have FC := Lib.hid (fun W (h : RD B W D ds) => failed_calls d p (.slice A os.length ca) D cd B ds W hnd hcd h)
 generalize hfa : faN ds = fa at *
 clear hfa
 by_cases q7 : 0 < st
 rotate_left
 ·have e7 : decide ((0 : Int) < st) = false := decide_eq_false (by omega)
  have ALL : Hid (0 < st → fa ≠ ds.length) := Lib.hid (fun h => absurd h q7)
  clear FC
  refine region_I (S := SK []) (by kernel_rfl) ?_
  have HAL := Lib.hid (fun (k : Nat) => (show SK [] k w10.drew from fun p hp e => absurd hp (by simp)))
  have HDRW := Lib.hid (Below.drew (Below.refl w10.heap.size w10))
  replace NN := Lib.hid (Bgo NN.out HDRW.out)
  replace HS := Lib.hid (HS.out.next HDRW.out)
  replace HD := Lib.hid (HD.out.next HDRW.out)
  replace SB := Lib.hid (blk_next HDRW.out SB.out)
  clear HDRW
  refine tJ 0 (.int .i64 st) (some 53) rfl (SK.drop (by simp)) (Or.inl ⟨by rfl, ?_⟩) ?_
  ·intro X hX
   clear hX
   go_simp
  try simp only [Act.put, zA, zB, zC]
  refine tJ 1 (.bool false) (some 54) rfl (SK.drop (by simp)) (Or.inl ⟨by rfl, ?_⟩) ?_
  ·intro X hX
   clear hX
   go_simp
  try simp only [Act.put, zA, zB, zC]
  refine tJ 2 (.bool false) (some 55) rfl (SK.drop (by simp)) (Or.inl ⟨by rfl, ?_⟩) ?_
  ·intro X hX
   clear hX
   go_simp
  try simp only [Act.put, zA, zB, zC]
  refine tJ 3 undef (some 56) rfl (HAL.out 3) (Or.inr ⟨by rfl, rfl⟩) ?_
  try simp only [Act.put, zA, zB, zC]
  refine tJ 4 undef (some 57) rfl (HAL.out 4) (Or.inr ⟨by rfl, rfl⟩) ?_
  try simp only [Act.put, zA, zB, zC]
  refine tJ 5 undef (some 58) rfl (HAL.out 5) (Or.inr ⟨by rfl, rfl⟩) ?_
  try simp only [Act.put, zA, zB, zC]
  refine tJ 6 undef (some 59) rfl (HAL.out 6) (Or.inr ⟨by rfl, rfl⟩) ?_
  try simp only [Act.put, zA, zB, zC]
  refine tJ 7 undef (some 60) rfl (HAL.out 7) (Or.inr ⟨by rfl, rfl⟩) ?_
  try simp only [Act.put, zA, zB, zC]
  refine tJ 8 undef (some 61) rfl (HAL.out 8) (Or.inr ⟨by rfl, rfl⟩) ?_
  try simp only [Act.put, zA, zB, zC]
  refine tJ 9 (.bool false) (some 62) rfl (SK.drop (by simp)) (Or.inl ⟨by rfl, ?_⟩) ?_
  ·intro X hX
   clear hX
   go_simp
  try simp only [Act.put, zA, zB, zC]
  clear HAL
  refine done_I (by kernel_rfl) ?_ _
  go_wp2_with fail
  go_loopw [4] (fun i wr => ∃ (k : Nat), k ≤ ds.length ∧ i = .int .i64 k ∧ Hid (∀ (j : Nat) (o : Dk), j < k → ds[j]? = some o → dkB st o = true) ∧ Hid (Below w.heap.size w wr) ∧ Hid (RD B wr D ds) ∧ Hid (wr.heap[w.heap.size]? = some (.cells #[.int .i64 d, .int .i64 p, .slice D ds.length cd, .slice A os.length ca] 25))) (fun i _ => ds.length - (intOf i).toNat)
  case atStart => exact ⟨0, by omega, rfl, Lib.hid (fun j o h => by omega), NN, HD, SB⟩
  case round =>
   clear NN HS HD SB
   obtain ⟨k, hk, rfl, GD, NN, HD, SB⟩ := hrel
   by_cases hlt : k < ds.length
   rotate_left
   ·obtain rfl : k = ds.length := by omega
    have R : Hid (res = 0) := Lib.hid (by rw [IN.out]; exact if_pos ⟨by simp, ALL.out, fun o ho => by obtain ⟨j, hj⟩ := List.mem_iff_getElem?.1 ho; exact GD.out j o (get_lt hj) hj⟩)
    have c_SB_0 := blk_cell SB.out 0 _ rfl
    have c_SB_1 := blk_cell SB.out 1 _ rfl
    have c_SB_2 := blk_cell SB.out 2 _ rfl
    have c_SB_3 := blk_cell SB.out 3 _ rfl
    have l_SB := blk_lt SB.out
    go_wp2_with fail
    go_ret
    exact ⟨ret_int R.out.symm, NN.out⟩
   obtain ⟨o, ho⟩ := get_some hlt
   obtain ⟨b, off, Ai, ci, hA, hb9, c0, c1, h2, h3, HM⟩ := HD.out.at_ ho
   have HO := Lib.hid ho
   have BADK : Hid (dkB st o = false → res = 8) := Lib.hid (fun hb => by rw [IN.out]; exact if_neg (fun h => by have := h.2.2 o (List.mem_of_getElem? HO.out); rw [hb] at this; cases this))
   obtain ⟨f, m⟩ := o
   simp only at c0 c1 h2
   replace HM : Hid (RMA B wr Ai m) := Lib.hid HM
   have kk : k + 1 ≤ ds.length := hlt
   clear ho
   have NEXT : Hid (dkB st ⟨f, m⟩ = true → ∀ (j : Nat) (o : Dk), j < k + 1 → ds[j]? = some o → dkB st o = true) := Lib.hid (fun hb j o hj h => by
    by_cases x : j = k
    ·subst x
     rw [HO.out] at h
     cases h; exact hb
    ·exact GD.out j o (by omega) h)
   have DB0 : Hid (dkB st ⟨f, m⟩ = if f then decide (m.length = 0) else ((m.length : Int) == st) && m.all fun b => decide (b.length = 8)) := Lib.hid rfl
   generalize dkB st ⟨f, m⟩ = ok at *
   clear GD HO IN ALL
   subst hA
   cases f
   ·by_cases q8 : (m.length : Int) = st
    rotate_left
    ·have e8 : ((m.length : Int) != st) = true := by rw [bne_iff_ne]; exact q8
     have R : Hid (res = 8) := Lib.hid (BADK.out (by rw [DB0.out, beq_eq_false_iff_ne.2 q8]; simp))
     clear BADK NEXT DB0
     have c_SB_0 := blk_cell SB.out 0 _ rfl
     have c_SB_1 := blk_cell SB.out 1 _ rfl
     have c_SB_2 := blk_cell SB.out 2 _ rfl
     have c_SB_3 := blk_cell SB.out 3 _ rfl
     have l_SB := blk_lt SB.out
     go_wp2_with fail
     go_ret
     exact ⟨ret_int R.out.symm, Bal NN.out _⟩
    have e8 : ((m.length : Int) != st) = false := by rw [bne_eq_false_iff_eq]; exact q8
    have OKH : Hid (ok = m.all fun b => decide (b.length = 8)) := Lib.hid (by rw [DB0.out, q8]; simp)
    clear q8
    clear DB0
    have c_SB_0 := blk_cell SB.out 0 _ rfl
    have c_SB_1 := blk_cell SB.out 1 _ rfl
    have c_SB_2 := blk_cell SB.out 2 _ rfl
    have c_SB_3 := blk_cell SB.out 3 _ rfl
    have l_SB := blk_lt SB.out
    go_wp2_with fail
    clear c0 c1 hb9 c_SB_0 c_SB_1 c_SB_2 c_SB_3 l_SB
    have HB : Hid (Below wr.heap.size wr (wr.alloc (.cells #[.bool false, .slice Ai m.length ci] 46))) := Lib.hid (Bal (Below.refl _ _) _)
    have DB := Lib.hid (blk_new wr (.cells #[.bool false, .slice Ai m.length ci] 46))
    have LT_DB : Hid (w.heap.size < wr.heap.size ∧ w.heap.size ≤ wr.heap.size) := Lib.hid ⟨blk_lt SB.out, NN.out.size⟩
    replace NN := Lib.hid (Bgo NN.out HB.out)
    replace HD := Lib.hid (HD.out.next HB.out)
    replace HM := Lib.hid (HM.out.next HB.out)
    replace SB := Lib.hid (blk_next HB.out SB.out)
    clear HB
    generalize wr.alloc (.cells #[.bool false, .slice Ai m.length ci] 46) = W11 at *
    generalize wr.heap.size = g11 at *
    have c_DB_0 := blk_cell DB.out 0 _ rfl
    have c_DB_1 := blk_cell DB.out 1 _ rfl
    have l_DB := blk_lt DB.out
    have c_SB_0 := blk_cell SB.out 0 _ rfl
    have c_SB_1 := blk_cell SB.out 1 _ rfl
    have c_SB_2 := blk_cell SB.out 2 _ rfl
    have c_SB_3 := blk_cell SB.out 3 _ rfl
    have l_SB := blk_lt SB.out
    go_loop [6] (fun i => ∃ j : Nat, j ≤ m.length ∧ i = .int .i64 j ∧ Hid (∀ (t : Nat) (l : List Nat), t < j → m[t]? = some l → l.length = 8)) (fun i => m.length - (intOf i).toNat)
    case atStart => exact ⟨0, by omega, rfl, Lib.hid (fun j l h => by omega)⟩
    case round =>
     obtain ⟨j, hj, rfl, GB⟩ := hrel
     by_cases hlt2 : j < m.length
     rotate_left
     ·obtain rfl : j = m.length := by omega
      have OK1 : ok = true := by
       rw [OKH.out, List.all_eq_true]
       intro l hl
       obtain ⟨t, ht⟩ := List.mem_iff_getElem?.1 hl
       exact decide_eq_true (GB.out t l (get_lt ht) ht)
      have G2 := Lib.hid (NEXT.out OK1)
      clear GB BADK NEXT OKH HM
      go_wp2_with fail
      clear c_DB_0 c_DB_1 l_DB c_SB_0 c_SB_1 c_SB_2 c_SB_3 l_SB
      go_roundw
      case rel => exact ⟨k + 1, kk, by go_num, G2, NN, HD, SB⟩
      case measure => simp [intOf]; omega
     obtain ⟨l, hl⟩ := get_some hlt2
     obtain ⟨b2, off2, A2, c2, rfl, hb2, i1, i2, i3, _⟩ := HM.out.at_ hl
     have HLL := Lib.hid hl
     clear hl
     by_cases h0 : l.length = 8
     ·have q : ((l.length : Int) != 8) = false := by rw [h0]; rfl
      have G2 : Hid (∀ (t : Nat) (l : List Nat), t < j + 1 → m[t]? = some l → l.length = 8) := Lib.hid (fun t l' ht h => by
       by_cases x : t = j
       ·subst x
        rw [HLL.out] at h
        cases h; exact h0
       ·exact GB.out t l' (by omega) h)
      have jj : j + 1 ≤ m.length := hlt2
      have H0 := Lib.hid h0
      clear h0 GB BADK NEXT OKH
      go_wp2_with fail
      go_round
      case rel => exact ⟨j + 1, jj, by go_num, G2⟩
      case measure => simp [intOf]; omega
     ·have q : ((l.length : Int) != 8) = true := by rw [bne_iff_ne]; omega
      have R : Hid (res = 8) := Lib.hid (BADK.out (by rw [OKH.out, List.all_eq_false]; exact ⟨l, List.mem_of_getElem? HLL.out, by simpa using h0⟩))
      have H0 := Lib.hid h0
      clear h0 GB BADK NEXT OKH
      go_wp2_with fail
      go_ret
      exact ⟨ret_int R.out.symm, NN.out⟩
   ·by_cases q8 : (m.length : Int) = 0
    rotate_left
    ·have e8 : ((m.length : Int) != 0) = true := by rw [bne_iff_ne]; exact q8
     have R : Hid (res = 8) := Lib.hid (BADK.out (by rw [DB0.out]; simp; intro h; simp [h] at q8))
     clear BADK NEXT DB0
     have c_SB_0 := blk_cell SB.out 0 _ rfl
     have c_SB_1 := blk_cell SB.out 1 _ rfl
     have c_SB_2 := blk_cell SB.out 2 _ rfl
     have c_SB_3 := blk_cell SB.out 3 _ rfl
     have l_SB := blk_lt SB.out
     go_wp2_with fail
     go_ret
     exact ⟨ret_int R.out.symm, Bal NN.out _⟩
    have e8 : ((m.length : Int) != 0) = false := by rw [bne_eq_false_iff_eq]; exact q8
    have OKH : Hid (ok = m.all fun b => decide (b.length = 8)) := Lib.hid (by rw [DB0.out, if_pos rfl]; have : m = [] := List.eq_nil_of_length_eq_zero (by omega); subst this; rfl)
    clear q8
    clear DB0
    have c_SB_0 := blk_cell SB.out 0 _ rfl
    have c_SB_1 := blk_cell SB.out 1 _ rfl
    have c_SB_2 := blk_cell SB.out 2 _ rfl
    have c_SB_3 := blk_cell SB.out 3 _ rfl
    have l_SB := blk_lt SB.out
    go_wp2_with fail
    clear c0 c1 hb9 c_SB_0 c_SB_1 c_SB_2 c_SB_3 l_SB
    have HB : Hid (Below wr.heap.size wr (wr.alloc (.cells #[.bool true, .slice Ai m.length ci] 46))) := Lib.hid (Bal (Below.refl _ _) _)
    have DB := Lib.hid (blk_new wr (.cells #[.bool true, .slice Ai m.length ci] 46))
    have LT_DB : Hid (w.heap.size < wr.heap.size ∧ w.heap.size ≤ wr.heap.size) := Lib.hid ⟨blk_lt SB.out, NN.out.size⟩
    replace NN := Lib.hid (Bgo NN.out HB.out)
    replace HD := Lib.hid (HD.out.next HB.out)
    replace HM := Lib.hid (HM.out.next HB.out)
    replace SB := Lib.hid (blk_next HB.out SB.out)
    clear HB
    generalize wr.alloc (.cells #[.bool true, .slice Ai m.length ci] 46) = W12 at *
    generalize wr.heap.size = g12 at *
    have c_DB_0 := blk_cell DB.out 0 _ rfl
    have c_DB_1 := blk_cell DB.out 1 _ rfl
    have l_DB := blk_lt DB.out
    have c_SB_0 := blk_cell SB.out 0 _ rfl
    have c_SB_1 := blk_cell SB.out 1 _ rfl
    have c_SB_2 := blk_cell SB.out 2 _ rfl
    have c_SB_3 := blk_cell SB.out 3 _ rfl
    have l_SB := blk_lt SB.out
    go_loop [6] (fun i => ∃ j : Nat, j ≤ m.length ∧ i = .int .i64 j ∧ Hid (∀ (t : Nat) (l : List Nat), t < j → m[t]? = some l → l.length = 8)) (fun i => m.length - (intOf i).toNat)
    case atStart => exact ⟨0, by omega, rfl, Lib.hid (fun j l h => by omega)⟩
    case round =>
     obtain ⟨j, hj, rfl, GB⟩ := hrel
     by_cases hlt2 : j < m.length
     rotate_left
     ·obtain rfl : j = m.length := by omega
      have OK1 : ok = true := by
       rw [OKH.out, List.all_eq_true]
       intro l hl
       obtain ⟨t, ht⟩ := List.mem_iff_getElem?.1 hl
       exact decide_eq_true (GB.out t l (get_lt ht) ht)
      have G2 := Lib.hid (NEXT.out OK1)
      clear GB BADK NEXT OKH HM
      go_wp2_with fail
      clear c_DB_0 c_DB_1 l_DB c_SB_0 c_SB_1 c_SB_2 c_SB_3 l_SB
      go_roundw
      case rel => exact ⟨k + 1, kk, by go_num, G2, NN, HD, SB⟩
      case measure => simp [intOf]; omega
     obtain ⟨l, hl⟩ := get_some hlt2
     obtain ⟨b2, off2, A2, c2, rfl, hb2, i1, i2, i3, _⟩ := HM.out.at_ hl
     have HLL := Lib.hid hl
     clear hl
     by_cases h0 : l.length = 8
     ·have q : ((l.length : Int) != 8) = false := by rw [h0]; rfl
      have G2 : Hid (∀ (t : Nat) (l : List Nat), t < j + 1 → m[t]? = some l → l.length = 8) := Lib.hid (fun t l' ht h => by
       by_cases x : t = j
       ·subst x
        rw [HLL.out] at h
        cases h; exact h0
       ·exact GB.out t l' (by omega) h)
      have jj : j + 1 ≤ m.length := hlt2
      have H0 := Lib.hid h0
      clear h0 GB BADK NEXT OKH
      go_wp2_with fail
      go_round
      case rel => exact ⟨j + 1, jj, by go_num, G2⟩
      case measure => simp [intOf]; omega
     ·have q : ((l.length : Int) != 8) = true := by rw [bne_iff_ne]; omega
      have R : Hid (res = 8) := Lib.hid (BADK.out (by rw [OKH.out, List.all_eq_false]; exact ⟨l, List.mem_of_getElem? HLL.out, by simpa using h0⟩))
      have H0 := Lib.hid h0
      clear h0 GB BADK NEXT OKH
      go_wp2_with fail
      go_ret
      exact ⟨ret_int R.out.symm, NN.out⟩
 have e7 : decide ((0 : Int) < st) = true := decide_eq_true (by omega)
 by_cases q9 : fa = ds.length
 ·have e9 : ((fa : Int) == (ds.length : Int)) = true := by rw [beq_iff_eq, q9]
  have R : Hid (res = 8) := Lib.hid (by rw [IN.out]; exact if_neg (fun h => h.2.1 q7 q9))
  clear IN
  refine region_I (S := SK [(3, w.heap.size, .cells #[.int .i64 d, .int .i64 p, .slice D ds.length cd, .slice A os.length ca] 25), (6, w.heap.size, .cells #[.int .i64 d, .int .i64 p, .slice D ds.length cd, .slice A os.length ca] 25)]) (by kernel_rfl) ?_
  have HAL := Lib.hid (fun (k : Nat) => (show SK [(3, w.heap.size, .cells #[.int .i64 d, .int .i64 p, .slice D ds.length cd, .slice A os.length ca] 25), (6, w.heap.size, .cells #[.int .i64 d, .int .i64 p, .slice D ds.length cd, .slice A os.length ca] 25)] k w10.drew from fun p hp e => by
   simp only [List.mem_cons, List.not_mem_nil, or_false] at hp
   rcases hp with rfl | rfl
   ·exact SB.out
   ·exact SB.out))
  have HDRW := Lib.hid (Below.drew (Below.refl w10.heap.size w10))
  replace NN := Lib.hid (Bgo NN.out HDRW.out)
  replace HS := Lib.hid (HS.out.next HDRW.out)
  replace HD := Lib.hid (HD.out.next HDRW.out)
  replace SB := Lib.hid (blk_next HDRW.out SB.out)
  clear HDRW
  refine tJ 0 (.int .i64 st) (some 53) rfl (SK.drop (by simp)) (Or.inl ⟨by rfl, ?_⟩) ?_
  ·intro X hX
   clear hX
   go_simp
  try simp only [Act.put, zA, zB, zC]
  refine tJ 1 (.bool true) (some 54) rfl (SK.drop (by simp)) (Or.inl ⟨by rfl, ?_⟩) ?_
  ·intro X hX
   clear hX
   go_simp
  try simp only [Act.put, zA, zB, zC]
  refine tJ 2 (.bool true) (some 55) rfl (SK.drop (by simp)) (Or.inl ⟨by rfl, ?_⟩) ?_
  ·intro X hX
   clear hX
   go_simp
  try simp only [Act.put, zA, zB, zC]
  refine tJ 3 (.agg #[.int .i64 d, .int .i64 p, .slice D ds.length cd, .slice A os.length ca]) (some 56) rfl (HAL.out 3) (Or.inl ⟨by rfl, ?_⟩) ?_
  ·intro X hX
   have hh := hX (3, w.heap.size, .cells #[.int .i64 d, .int .i64 p, .slice D ds.length cd, .slice A os.length ca] 25) (List.Mem.head _) rfl
   have hh0 := blk_cell hh 0 _ rfl
   have hh1 := blk_cell hh 1 _ rfl
   have hh2 := blk_cell hh 2 _ rfl
   have hh3 := blk_cell hh 3 _ rfl
   have hhl := blk_lt hh
   clear hh
   clear hX
   go_simp
  try simp only [Act.put, zA, zB, zC]
  refine tJ 5 (.pointer (some ⟨w.heap.size, 2, none⟩)) (some 58) rfl (SK.drop (by simp)) (Or.inl ⟨by rfl, ?_⟩) ?_
  ·intro X hX
   clear hX
   go_simp
  try simp only [Act.put, zA, zB, zC]
  refine tJ 6 (.slice D ds.length cd) (some 59) rfl (HAL.out 6) (Or.inl ⟨by rfl, ?_⟩) ?_
  ·intro X hX
   have hh := hX (6, w.heap.size, .cells #[.int .i64 d, .int .i64 p, .slice D ds.length cd, .slice A os.length ca] 25) (List.Mem.tail _ (List.Mem.head _)) rfl
   have hh2 := blk_cell hh 2 _ rfl
   have hhl := blk_lt hh
   clear hh
   clear hX
   go_simp
  try simp only [Act.put, zA, zB, zC]
  refine tJ 7 (.int .i64 (ds.length : Nat)) (some 60) rfl (SK.drop (by simp)) (Or.inl ⟨by rfl, ?_⟩) ?_
  ·intro X hX
   clear hX
   go_simp
  try simp only [Act.put, zA, zB, zC]
  refine only_I 4 (by kernel_rfl) rfl (fun K' hK' => ?_)
  go_simp
  go_at_call 24
  refine (FC.out _ HD.out).mono ?_
  rintro e x13 ⟨rfl, hb⟩
  replace NN := Lib.hid (Bgo NN.out hb)
  replace HS := Lib.hid (HS.out.next hb)
  replace HD := Lib.hid (HD.out.next hb)
  replace SB := Lib.hid (blk_next hb SB.out)
  go_simp
  refine hK'.out _ _ (fun k _ hS => hS.next hb) ?_
  clear hK' K'
  try simp only [Act.put, zA, zB, zC]
  replace HAL := Lib.hid (fun k => (HAL.out k).next hb)
  refine tJ 8 (.bool true) (some 61) rfl (SK.drop (by simp)) (Or.inl ⟨by rfl, ?_⟩) ?_
  ·intro X hX
   clear hX
   go_simp
  try simp only [Act.put, zA, zB, zC]
  refine tJ 9 (.bool true) (some 62) rfl (SK.drop (by simp)) (Or.inl ⟨by rfl, ?_⟩) ?_
  ·intro X hX
   clear hX
   go_simp
  try simp only [Act.put, zA, zB, zC]
  clear HAL
  refine done_I (by kernel_rfl) ?_ _
  go_wp2_with fail
  go_ret
  exact ⟨ret_int R.out.symm, NN.out⟩
 have e9 : ((fa : Int) == (ds.length : Int)) = false := by rw [beq_eq_false_iff_ne]; omega
 have ALL : Hid (0 < st → fa ≠ ds.length) := Lib.hid (fun _ => q9)
 have HQ9 := Lib.hid q9
 clear q9
 refine region_I (S := SK [(3, w.heap.size, .cells #[.int .i64 d, .int .i64 p, .slice D ds.length cd, .slice A os.length ca] 25), (6, w.heap.size, .cells #[.int .i64 d, .int .i64 p, .slice D ds.length cd, .slice A os.length ca] 25)]) (by kernel_rfl) ?_
 have HAL := Lib.hid (fun (k : Nat) => (show SK [(3, w.heap.size, .cells #[.int .i64 d, .int .i64 p, .slice D ds.length cd, .slice A os.length ca] 25), (6, w.heap.size, .cells #[.int .i64 d, .int .i64 p, .slice D ds.length cd, .slice A os.length ca] 25)] k w10.drew from fun p hp e => by
  simp only [List.mem_cons, List.not_mem_nil, or_false] at hp
  rcases hp with rfl | rfl
  ·exact SB.out
  ·exact SB.out))
 have HDRW := Lib.hid (Below.drew (Below.refl w10.heap.size w10))
 replace NN := Lib.hid (Bgo NN.out HDRW.out)
 replace HS := Lib.hid (HS.out.next HDRW.out)
 replace HD := Lib.hid (HD.out.next HDRW.out)
 replace SB := Lib.hid (blk_next HDRW.out SB.out)
 clear HDRW
 refine tJ 0 (.int .i64 st) (some 53) rfl (SK.drop (by simp)) (Or.inl ⟨by rfl, ?_⟩) ?_
 ·intro X hX
  clear hX
  go_simp
 try simp only [Act.put, zA, zB, zC]
 refine tJ 1 (.bool true) (some 54) rfl (SK.drop (by simp)) (Or.inl ⟨by rfl, ?_⟩) ?_
 ·intro X hX
  clear hX
  go_simp
 try simp only [Act.put, zA, zB, zC]
 refine tJ 2 (.bool true) (some 55) rfl (SK.drop (by simp)) (Or.inl ⟨by rfl, ?_⟩) ?_
 ·intro X hX
  clear hX
  go_simp
 try simp only [Act.put, zA, zB, zC]
 refine tJ 3 (.agg #[.int .i64 d, .int .i64 p, .slice D ds.length cd, .slice A os.length ca]) (some 56) rfl (HAL.out 3) (Or.inl ⟨by rfl, ?_⟩) ?_
 ·intro X hX
  have hh := hX (3, w.heap.size, .cells #[.int .i64 d, .int .i64 p, .slice D ds.length cd, .slice A os.length ca] 25) (List.Mem.head _) rfl
  have hh0 := blk_cell hh 0 _ rfl
  have hh1 := blk_cell hh 1 _ rfl
  have hh2 := blk_cell hh 2 _ rfl
  have hh3 := blk_cell hh 3 _ rfl
  have hhl := blk_lt hh
  clear hh
  clear hX
  go_simp
 try simp only [Act.put, zA, zB, zC]
 refine tJ 5 (.pointer (some ⟨w.heap.size, 2, none⟩)) (some 58) rfl (SK.drop (by simp)) (Or.inl ⟨by rfl, ?_⟩) ?_
 ·intro X hX
  clear hX
  go_simp
 try simp only [Act.put, zA, zB, zC]
 refine tJ 6 (.slice D ds.length cd) (some 59) rfl (HAL.out 6) (Or.inl ⟨by rfl, ?_⟩) ?_
 ·intro X hX
  have hh := hX (6, w.heap.size, .cells #[.int .i64 d, .int .i64 p, .slice D ds.length cd, .slice A os.length ca] 25) (List.Mem.tail _ (List.Mem.head _)) rfl
  have hh2 := blk_cell hh 2 _ rfl
  have hhl := blk_lt hh
  clear hh
  clear hX
  go_simp
 try simp only [Act.put, zA, zB, zC]
 refine tJ 7 (.int .i64 (ds.length : Nat)) (some 60) rfl (SK.drop (by simp)) (Or.inl ⟨by rfl, ?_⟩) ?_
 ·intro X hX
  clear hX
  go_simp
 try simp only [Act.put, zA, zB, zC]
 refine only_I 4 (by kernel_rfl) rfl (fun K' hK' => ?_)
 go_simp
 go_at_call 24
 refine (FC.out _ HD.out).mono ?_
 rintro e x14 ⟨rfl, hb⟩
 replace NN := Lib.hid (Bgo NN.out hb)
 replace HS := Lib.hid (HS.out.next hb)
 replace HD := Lib.hid (HD.out.next hb)
 replace SB := Lib.hid (blk_next hb SB.out)
 go_simp
 refine hK'.out _ _ (fun k _ hS => hS.next hb) ?_
 clear hK' K'
 try simp only [Act.put, zA, zB, zC]
 replace HAL := Lib.hid (fun k => (HAL.out k).next hb)
 refine tJ 8 (.bool false) (some 61) rfl (SK.drop (by simp)) (Or.inl ⟨by rfl, ?_⟩) ?_
 ·intro X hX
  clear hX
  go_simp
 try simp only [Act.put, zA, zB, zC]
 refine tJ 9 (.bool false) (some 62) rfl (SK.drop (by simp)) (Or.inl ⟨by rfl, ?_⟩) ?_
 ·intro X hX
  clear hX
  go_simp
 try simp only [Act.put, zA, zB, zC]
 clear HAL
 refine done_I (by kernel_rfl) ?_ _
 go_wp2_with fail
 go_loopw [4] (fun i wr => ∃ (k : Nat), k ≤ ds.length ∧ i = .int .i64 k ∧ Hid (∀ (j : Nat) (o : Dk), j < k → ds[j]? = some o → dkB st o = true) ∧ Hid (Below w.heap.size w wr) ∧ Hid (RD B wr D ds) ∧ Hid (wr.heap[w.heap.size]? = some (.cells #[.int .i64 d, .int .i64 p, .slice D ds.length cd, .slice A os.length ca] 25))) (fun i _ => ds.length - (intOf i).toNat)
 case atStart => exact ⟨0, by omega, rfl, Lib.hid (fun j o h => by omega), NN, HD, SB⟩
 case round =>
  clear NN HS HD SB
  obtain ⟨k, hk, rfl, GD, NN, HD, SB⟩ := hrel
  by_cases hlt : k < ds.length
  rotate_left
  ·obtain rfl : k = ds.length := by omega
   have R : Hid (res = 0) := Lib.hid (by rw [IN.out]; exact if_pos ⟨by simp, ALL.out, fun o ho => by obtain ⟨j, hj⟩ := List.mem_iff_getElem?.1 ho; exact GD.out j o (get_lt hj) hj⟩)
   have c_SB_0 := blk_cell SB.out 0 _ rfl
   have c_SB_1 := blk_cell SB.out 1 _ rfl
   have c_SB_2 := blk_cell SB.out 2 _ rfl
   have c_SB_3 := blk_cell SB.out 3 _ rfl
   have l_SB := blk_lt SB.out
   go_wp2_with fail
   go_ret
   exact ⟨ret_int R.out.symm, NN.out⟩
  obtain ⟨o, ho⟩ := get_some hlt
  obtain ⟨b, off, Ai, ci, hA, hb9, c0, c1, h2, h3, HM⟩ := HD.out.at_ ho
  have HO := Lib.hid ho
  have BADK : Hid (dkB st o = false → res = 8) := Lib.hid (fun hb => by rw [IN.out]; exact if_neg (fun h => by have := h.2.2 o (List.mem_of_getElem? HO.out); rw [hb] at this; cases this))
  obtain ⟨f, m⟩ := o
  simp only at c0 c1 h2
  replace HM : Hid (RMA B wr Ai m) := Lib.hid HM
  have kk : k + 1 ≤ ds.length := hlt
  clear ho
  have NEXT : Hid (dkB st ⟨f, m⟩ = true → ∀ (j : Nat) (o : Dk), j < k + 1 → ds[j]? = some o → dkB st o = true) := Lib.hid (fun hb j o hj h => by
   by_cases x : j = k
   ·subst x
    rw [HO.out] at h
    cases h; exact hb
   ·exact GD.out j o (by omega) h)
  have DB0 : Hid (dkB st ⟨f, m⟩ = if f then decide (m.length = 0) else ((m.length : Int) == st) && m.all fun b => decide (b.length = 8)) := Lib.hid rfl
  generalize dkB st ⟨f, m⟩ = ok at *
  clear GD HO IN ALL
  subst hA
  cases f
  ·by_cases q8 : (m.length : Int) = st
   rotate_left
   ·have e8 : ((m.length : Int) != st) = true := by rw [bne_iff_ne]; exact q8
    have R : Hid (res = 8) := Lib.hid (BADK.out (by rw [DB0.out, beq_eq_false_iff_ne.2 q8]; simp))
    clear BADK NEXT DB0
    have c_SB_0 := blk_cell SB.out 0 _ rfl
    have c_SB_1 := blk_cell SB.out 1 _ rfl
    have c_SB_2 := blk_cell SB.out 2 _ rfl
    have c_SB_3 := blk_cell SB.out 3 _ rfl
    have l_SB := blk_lt SB.out
    go_wp2_with fail
    go_ret
    exact ⟨ret_int R.out.symm, Bal NN.out _⟩
   have e8 : ((m.length : Int) != st) = false := by rw [bne_eq_false_iff_eq]; exact q8
   have OKH : Hid (ok = m.all fun b => decide (b.length = 8)) := Lib.hid (by rw [DB0.out, q8]; simp)
   clear q8
   clear DB0
   have c_SB_0 := blk_cell SB.out 0 _ rfl
   have c_SB_1 := blk_cell SB.out 1 _ rfl
   have c_SB_2 := blk_cell SB.out 2 _ rfl
   have c_SB_3 := blk_cell SB.out 3 _ rfl
   have l_SB := blk_lt SB.out
   go_wp2_with fail
   clear c0 c1 hb9 c_SB_0 c_SB_1 c_SB_2 c_SB_3 l_SB
   have HB : Hid (Below wr.heap.size wr (wr.alloc (.cells #[.bool false, .slice Ai m.length ci] 46))) := Lib.hid (Bal (Below.refl _ _) _)
   have DB := Lib.hid (blk_new wr (.cells #[.bool false, .slice Ai m.length ci] 46))
   have LT_DB : Hid (w.heap.size < wr.heap.size ∧ w.heap.size ≤ wr.heap.size) := Lib.hid ⟨blk_lt SB.out, NN.out.size⟩
   replace NN := Lib.hid (Bgo NN.out HB.out)
   replace HD := Lib.hid (HD.out.next HB.out)
   replace HM := Lib.hid (HM.out.next HB.out)
   replace SB := Lib.hid (blk_next HB.out SB.out)
   clear HB
   generalize wr.alloc (.cells #[.bool false, .slice Ai m.length ci] 46) = W15 at *
   generalize wr.heap.size = g15 at *
   have c_DB_0 := blk_cell DB.out 0 _ rfl
   have c_DB_1 := blk_cell DB.out 1 _ rfl
   have l_DB := blk_lt DB.out
   have c_SB_0 := blk_cell SB.out 0 _ rfl
   have c_SB_1 := blk_cell SB.out 1 _ rfl
   have c_SB_2 := blk_cell SB.out 2 _ rfl
   have c_SB_3 := blk_cell SB.out 3 _ rfl
   have l_SB := blk_lt SB.out
   go_loop [6] (fun i => ∃ j : Nat, j ≤ m.length ∧ i = .int .i64 j ∧ Hid (∀ (t : Nat) (l : List Nat), t < j → m[t]? = some l → l.length = 8)) (fun i => m.length - (intOf i).toNat)
   case atStart => exact ⟨0, by omega, rfl, Lib.hid (fun j l h => by omega)⟩
   case round =>
    obtain ⟨j, hj, rfl, GB⟩ := hrel
    by_cases hlt2 : j < m.length
    rotate_left
    ·obtain rfl : j = m.length := by omega
     have OK1 : ok = true := by
      rw [OKH.out, List.all_eq_true]
      intro l hl
      obtain ⟨t, ht⟩ := List.mem_iff_getElem?.1 hl
      exact decide_eq_true (GB.out t l (get_lt ht) ht)
     have G2 := Lib.hid (NEXT.out OK1)
     clear GB BADK NEXT OKH HM
     go_wp2_with fail
     clear c_DB_0 c_DB_1 l_DB c_SB_0 c_SB_1 c_SB_2 c_SB_3 l_SB
     go_roundw
     case rel => exact ⟨k + 1, kk, by go_num, G2, NN, HD, SB⟩
     case measure => simp [intOf]; omega
    obtain ⟨l, hl⟩ := get_some hlt2
    obtain ⟨b2, off2, A2, c2, rfl, hb2, i1, i2, i3, _⟩ := HM.out.at_ hl
    have HLL := Lib.hid hl
    clear hl
    by_cases h0 : l.length = 8
    ·have q : ((l.length : Int) != 8) = false := by rw [h0]; rfl
     have G2 : Hid (∀ (t : Nat) (l : List Nat), t < j + 1 → m[t]? = some l → l.length = 8) := Lib.hid (fun t l' ht h => by
      by_cases x : t = j
      ·subst x
       rw [HLL.out] at h
       cases h; exact h0
      ·exact GB.out t l' (by omega) h)
     have jj : j + 1 ≤ m.length := hlt2
     have H0 := Lib.hid h0
     clear h0 GB BADK NEXT OKH
     go_wp2_with fail
     go_round
     case rel => exact ⟨j + 1, jj, by go_num, G2⟩
     case measure => simp [intOf]; omega
    ·have q : ((l.length : Int) != 8) = true := by rw [bne_iff_ne]; omega
     have R : Hid (res = 8) := Lib.hid (BADK.out (by rw [OKH.out, List.all_eq_false]; exact ⟨l, List.mem_of_getElem? HLL.out, by simpa using h0⟩))
     have H0 := Lib.hid h0
     clear h0 GB BADK NEXT OKH
     go_wp2_with fail
     go_ret
     exact ⟨ret_int R.out.symm, NN.out⟩
  ·by_cases q8 : (m.length : Int) = 0
   rotate_left
   ·have e8 : ((m.length : Int) != 0) = true := by rw [bne_iff_ne]; exact q8
    have R : Hid (res = 8) := Lib.hid (BADK.out (by rw [DB0.out]; simp; intro h; simp [h] at q8))
    clear BADK NEXT DB0
    have c_SB_0 := blk_cell SB.out 0 _ rfl
    have c_SB_1 := blk_cell SB.out 1 _ rfl
    have c_SB_2 := blk_cell SB.out 2 _ rfl
    have c_SB_3 := blk_cell SB.out 3 _ rfl
    have l_SB := blk_lt SB.out
    go_wp2_with fail
    go_ret
    exact ⟨ret_int R.out.symm, Bal NN.out _⟩
   have e8 : ((m.length : Int) != 0) = false := by rw [bne_eq_false_iff_eq]; exact q8
   have OKH : Hid (ok = m.all fun b => decide (b.length = 8)) := Lib.hid (by rw [DB0.out, if_pos rfl]; have : m = [] := List.eq_nil_of_length_eq_zero (by omega); subst this; rfl)
   clear q8
   clear DB0
   have c_SB_0 := blk_cell SB.out 0 _ rfl
   have c_SB_1 := blk_cell SB.out 1 _ rfl
   have c_SB_2 := blk_cell SB.out 2 _ rfl
   have c_SB_3 := blk_cell SB.out 3 _ rfl
   have l_SB := blk_lt SB.out
   go_wp2_with fail
   clear c0 c1 hb9 c_SB_0 c_SB_1 c_SB_2 c_SB_3 l_SB
   have HB : Hid (Below wr.heap.size wr (wr.alloc (.cells #[.bool true, .slice Ai m.length ci] 46))) := Lib.hid (Bal (Below.refl _ _) _)
   have DB := Lib.hid (blk_new wr (.cells #[.bool true, .slice Ai m.length ci] 46))
   have LT_DB : Hid (w.heap.size < wr.heap.size ∧ w.heap.size ≤ wr.heap.size) := Lib.hid ⟨blk_lt SB.out, NN.out.size⟩
   replace NN := Lib.hid (Bgo NN.out HB.out)
   replace HD := Lib.hid (HD.out.next HB.out)
   replace HM := Lib.hid (HM.out.next HB.out)
   replace SB := Lib.hid (blk_next HB.out SB.out)
   clear HB
   generalize wr.alloc (.cells #[.bool true, .slice Ai m.length ci] 46) = W16 at *
   generalize wr.heap.size = g16 at *
   have c_DB_0 := blk_cell DB.out 0 _ rfl
   have c_DB_1 := blk_cell DB.out 1 _ rfl
   have l_DB := blk_lt DB.out
   have c_SB_0 := blk_cell SB.out 0 _ rfl
   have c_SB_1 := blk_cell SB.out 1 _ rfl
   have c_SB_2 := blk_cell SB.out 2 _ rfl
   have c_SB_3 := blk_cell SB.out 3 _ rfl
   have l_SB := blk_lt SB.out
   go_loop [6] (fun i => ∃ j : Nat, j ≤ m.length ∧ i = .int .i64 j ∧ Hid (∀ (t : Nat) (l : List Nat), t < j → m[t]? = some l → l.length = 8)) (fun i => m.length - (intOf i).toNat)
   case atStart => exact ⟨0, by omega, rfl, Lib.hid (fun j l h => by omega)⟩
   case round =>
    obtain ⟨j, hj, rfl, GB⟩ := hrel
    by_cases hlt2 : j < m.length
    rotate_left
    ·obtain rfl : j = m.length := by omega
     have OK1 : ok = true := by
      rw [OKH.out, List.all_eq_true]
      intro l hl
      obtain ⟨t, ht⟩ := List.mem_iff_getElem?.1 hl
      exact decide_eq_true (GB.out t l (get_lt ht) ht)
     have G2 := Lib.hid (NEXT.out OK1)
     clear GB BADK NEXT OKH HM
     go_wp2_with fail
     clear c_DB_0 c_DB_1 l_DB c_SB_0 c_SB_1 c_SB_2 c_SB_3 l_SB
     go_roundw
     case rel => exact ⟨k + 1, kk, by go_num, G2, NN, HD, SB⟩
     case measure => simp [intOf]; omega
    obtain ⟨l, hl⟩ := get_some hlt2
    obtain ⟨b2, off2, A2, c2, rfl, hb2, i1, i2, i3, _⟩ := HM.out.at_ hl
    have HLL := Lib.hid hl
    clear hl
    by_cases h0 : l.length = 8
    ·have q : ((l.length : Int) != 8) = false := by rw [h0]; rfl
     have G2 : Hid (∀ (t : Nat) (l : List Nat), t < j + 1 → m[t]? = some l → l.length = 8) := Lib.hid (fun t l' ht h => by
      by_cases x : t = j
      ·subst x
       rw [HLL.out] at h
       cases h; exact h0
      ·exact GB.out t l' (by omega) h)
     have jj : j + 1 ≤ m.length := hlt2
     have H0 := Lib.hid h0
     clear h0 GB BADK NEXT OKH
     go_wp2_with fail
     go_round
     case rel => exact ⟨j + 1, jj, by go_num, G2⟩
     case measure => simp [intOf]; omega
    ·have q : ((l.length : Int) != 8) = true := by rw [bne_iff_ne]; omega
     have R : Hid (res = 8) := Lib.hid (BADK.out (by rw [OKH.out, List.all_eq_false]; exact ⟨l, List.mem_of_getElem? HLL.out, by simpa using h0⟩))
     have H0 := Lib.hid h0
     clear h0 GB BADK NEXT OKH
     go_wp2_with fail
     go_ret
     exact ⟨ret_int R.out.symm, NN.out⟩
end Go.Proofs.Ytapehckcmmompaa
