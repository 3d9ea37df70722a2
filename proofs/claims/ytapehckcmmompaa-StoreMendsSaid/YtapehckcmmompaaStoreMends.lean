/- For every input the law StoreMends returns true and leaves its arguments as they were. -/
import Derived.Test.YtapehckcmmompaaRows
import Derived.Test.YtapehckcmmompaaM35
import Derived.Test.YtapehckcmmompaaM26
import Derived.Test.YtapehckcmmompaaM30
import Derived.Test.YtapehckcmmompaaM33
import Derived.Test.YtapehckcmmompaaM14
import Derived.WalkKit
import Derived.ProofKit
import Derived.OpenShut
import Derived.ShutString
import Derived.ChangeOld
import Derived.Below
import Derived.Lib.SmallJoins
namespace Go.Proofs.Ytapehckcmmompaa.storeMends
open Go.ChangeShapes Go.WideShapes Go.ChangeAt Go.RowKit Go.Joins
open Go.ChangeMaps (open_string shut_string)
set_option linter.unusedVariables false

theorem own : ownKnob Try.prog.godebug = none := by kernel_rfl
theorem laidOut : laidOutB Try.prog = true := by kernel_rfl
attribute [local go_sem ↓] Go.wp_at_zero Go.wp_at_succ
set_option linter.unusedSimpArgs false
set_option maxRecDepth 100000 in
set_option maxHeartbeats 16000000 in
theorem walk (d p : Int) (D A : Option Addr) (cd ca B : Nat) (ds : List Dk) (os : List Ob) (x y z : Int) (cc : Nat) (w : World) (hcc : cc < 256) (hnd : ds.length ≤ cd) (hcd : cd ≤ 9223372036854775807) (hna : os.length ≤ ca) (hca : ca ≤ 9223372036854775807) (hd : RD B w D ds) (hs : RO B w A os) :
  Calls Try.prog 8 #[Tv d p (.slice D ds.length cd) (.slice A os.length ca), .int .i64 x, .int .i64 y, .int .i64 z, .int .u8 (cc : Int)] w fun e w' => e = .returned (.bool true) ∧ Below w.heap.size w w' := by
 have HD := Lib.hid hd
 have HS := Lib.hid hs
 have BD := Lib.hid (RD.byt hd)
 have NN := Lib.hid (Below.refl w.heap.size w)
 clear hd hs
 have AL := Lib.hid (fun (W : World) => alive_calls W)
 have GR := Lib.hid (fun (W : World) (h : Below w.heap.size w W) => great_calls d p D A cd ca B ds os W hnd hcd hna hca (HD.out.next h) (HS.out.next h))
 by_cases hg : grB ds os = true
 ·rw [hg] at GR
  clear hg
  go_enter Try.func8, Try.ntmps8
  have HB : Hid (Below w.heap.size w (w.alloc (.cells #[.int .i64 d, .int .i64 p, .slice D ds.length cd, .slice A os.length ca] 25))) := Lib.hid (Bal (Below.refl _ _) _)
  have SB := Lib.hid (blk_new w (.cells #[.int .i64 d, .int .i64 p, .slice D ds.length cd, .slice A os.length ca] 25))
  have LT_SB : Hid (w.heap.size ≤ w.heap.size) := Lib.hid NN.out.size
  replace NN := Lib.hid (Bgo NN.out HB.out)
  clear HB
  go_wp2_with fail
  generalize w.alloc (.cells #[.int .i64 d, .int .i64 p, .slice D ds.length cd, .slice A os.length ca] 25) = W1 at *
  refine (AL.out _).mono ?_
  rintro e w2 ⟨rfl, hb⟩
  replace NN := Lib.hid (Bgo NN.out hb)
  replace SB := Lib.hid (blk_next hb SB.out)
  clear hb
  have c_SB_0 := blk_cell SB.out 0 _ rfl
  have f_SB_0 := blk_frozen SB.out 0
  have c_SB_1 := blk_cell SB.out 1 _ rfl
  have f_SB_1 := blk_frozen SB.out 1
  have c_SB_2 := blk_cell SB.out 2 _ rfl
  have f_SB_2 := blk_frozen SB.out 2
  have c_SB_3 := blk_cell SB.out 3 _ rfl
  have f_SB_3 := blk_frozen SB.out 3
  have l_SB := blk_lt SB.out
  go_wp2_with fail
  refine (GR.out _ NN.out).mono ?_
  rintro e w3 ⟨rfl, hb⟩
  clear c_SB_0 f_SB_0 c_SB_1 f_SB_1 c_SB_2 f_SB_2 c_SB_3 f_SB_3 l_SB
  replace NN := Lib.hid (Bgo NN.out hb)
  replace SB := Lib.hid (blk_next hb SB.out)
  clear hb
  have c_SB_0 := blk_cell SB.out 0 _ rfl
  have f_SB_0 := blk_frozen SB.out 0
  have c_SB_1 := blk_cell SB.out 1 _ rfl
  have f_SB_1 := blk_frozen SB.out 1
  have c_SB_2 := blk_cell SB.out 2 _ rfl
  have f_SB_2 := blk_frozen SB.out 2
  have c_SB_3 := blk_cell SB.out 3 _ rfl
  have f_SB_3 := blk_frozen SB.out 3
  have l_SB := blk_lt SB.out
  go_wp2_with fail
  go_ret
  exact ⟨rfl, NN.out⟩
 have hg' : grB ds os = false := by simpa using hg
 rw [hg'] at GR
 obtain ⟨g20, g20', gnm, gbl⟩ := grB_not hg'
 have HL : Hid (∀ o ∈ os, Lh o.name) := Lib.hid (fun o ho => by have := gnm o ho; unfold Lh; omega)
 have GBL := Lib.hid gbl
 clear hg hg' gnm gbl
 have K2 := Lib.hid (fun (W : World) (h : Below w.heap.size w W) => oRefCheck_calls d p D A cd ca B ds os W hnd hcd hna hca (HD.out.next h) (HS.out.next h) HL.out)
 have FC := Lib.hid (fun (W : World) (h : Below w.heap.size w W) => failed_calls d p (.slice A os.length ca) D cd B ds W hnd hcd (HD.out.next h))
 by_cases hc : chS d p ds os = 0
 rotate_left
 ·have hc2 : (chS d p ds os != 0) = true := by rw [bne_iff_ne]; exact hc
  have hc3 : decide (chS d p ds os = 0) = false := decide_eq_false hc
  go_enter Try.func8, Try.ntmps8
  have HB : Hid (Below w.heap.size w (w.alloc (.cells #[.int .i64 d, .int .i64 p, .slice D ds.length cd, .slice A os.length ca] 25))) := Lib.hid (Bal (Below.refl _ _) _)
  have SB := Lib.hid (blk_new w (.cells #[.int .i64 d, .int .i64 p, .slice D ds.length cd, .slice A os.length ca] 25))
  have LT_SB : Hid (w.heap.size ≤ w.heap.size) := Lib.hid NN.out.size
  replace NN := Lib.hid (Bgo NN.out HB.out)
  clear HB
  go_wp2_with fail
  generalize w.alloc (.cells #[.int .i64 d, .int .i64 p, .slice D ds.length cd, .slice A os.length ca] 25) = W1 at *
  refine (AL.out _).mono ?_
  rintro e w5 ⟨rfl, hb⟩
  replace NN := Lib.hid (Bgo NN.out hb)
  replace SB := Lib.hid (blk_next hb SB.out)
  clear hb
  have c_SB_0 := blk_cell SB.out 0 _ rfl
  have f_SB_0 := blk_frozen SB.out 0
  have c_SB_1 := blk_cell SB.out 1 _ rfl
  have f_SB_1 := blk_frozen SB.out 1
  have c_SB_2 := blk_cell SB.out 2 _ rfl
  have f_SB_2 := blk_frozen SB.out 2
  have c_SB_3 := blk_cell SB.out 3 _ rfl
  have f_SB_3 := blk_frozen SB.out 3
  have l_SB := blk_lt SB.out
  go_wp2_with fail
  refine (GR.out _ NN.out).mono ?_
  rintro e w6 ⟨rfl, hb⟩
  clear c_SB_0 f_SB_0 c_SB_1 f_SB_1 c_SB_2 f_SB_2 c_SB_3 f_SB_3 l_SB
  replace NN := Lib.hid (Bgo NN.out hb)
  replace SB := Lib.hid (blk_next hb SB.out)
  clear hb
  have c_SB_0 := blk_cell SB.out 0 _ rfl
  have f_SB_0 := blk_frozen SB.out 0
  have c_SB_1 := blk_cell SB.out 1 _ rfl
  have f_SB_1 := blk_frozen SB.out 1
  have c_SB_2 := blk_cell SB.out 2 _ rfl
  have f_SB_2 := blk_frozen SB.out 2
  have c_SB_3 := blk_cell SB.out 3 _ rfl
  have f_SB_3 := blk_frozen SB.out 3
  have l_SB := blk_lt SB.out
  go_wp2_with fail
  refine (K2.out _ NN.out).mono ?_
  rintro e w7 ⟨rfl, hb⟩
  clear c_SB_0 f_SB_0 c_SB_1 f_SB_1 c_SB_2 f_SB_2 c_SB_3 f_SB_3 l_SB
  replace NN := Lib.hid (Bgo NN.out hb)
  replace SB := Lib.hid (blk_next hb SB.out)
  clear hb
  have c_SB_0 := blk_cell SB.out 0 _ rfl
  have f_SB_0 := blk_frozen SB.out 0
  have c_SB_1 := blk_cell SB.out 1 _ rfl
  have f_SB_1 := blk_frozen SB.out 1
  have c_SB_2 := blk_cell SB.out 2 _ rfl
  have f_SB_2 := blk_frozen SB.out 2
  have c_SB_3 := blk_cell SB.out 3 _ rfl
  have f_SB_3 := blk_frozen SB.out 3
  have l_SB := blk_lt SB.out
  go_wp2_with fail
  go_ret
  exact ⟨rfl, NN.out⟩
 rw [hc] at K2
 have OK := Lib.hid (chS_ok hc)
 have hlen := OK.out.len
 have hd8 := OK.out.d8
 have hd1 := OK.out.d1
 have hp4 := OK.out.p4
 have hp0 := OK.out.p0
 have ST := Lib.hid (fun (W : World) (h : Below w.heap.size w W) => stripes_calls d p (.slice D ds.length cd) A ca B os W hna hca (HS.out.next h) OK.out.sm (by omega))
 obtain ⟨sn, hsn⟩ : ∃ sn : Nat, strN os = sn := ⟨(strN os).toNat, by have := OK.out.str; omega⟩
 rw [hsn] at ST
 have HSN := Lib.hid hsn
 have HLEN := Lib.hid hlen
 clear hsn hlen
 by_cases q0 : 0 < faN ds
 ·have t0 : decide ((0 : Int) < ((faN ds : Nat) : Int)) = true := decide_eq_true (by omega)
  go_enter Try.func8, Try.ntmps8
  have HB : Hid (Below w.heap.size w (w.alloc (.cells #[.int .i64 d, .int .i64 p, .slice D ds.length cd, .slice A os.length ca] 25))) := Lib.hid (Bal (Below.refl _ _) _)
  have SB := Lib.hid (blk_new w (.cells #[.int .i64 d, .int .i64 p, .slice D ds.length cd, .slice A os.length ca] 25))
  have LT_SB : Hid (w.heap.size ≤ w.heap.size) := Lib.hid NN.out.size
  replace NN := Lib.hid (Bgo NN.out HB.out)
  clear HB
  go_wp2_with fail
  generalize w.alloc (.cells #[.int .i64 d, .int .i64 p, .slice D ds.length cd, .slice A os.length ca] 25) = W1 at *
  refine (AL.out _).mono ?_
  rintro e w9 ⟨rfl, hb⟩
  replace NN := Lib.hid (Bgo NN.out hb)
  replace SB := Lib.hid (blk_next hb SB.out)
  clear hb
  have c_SB_0 := blk_cell SB.out 0 _ rfl
  have f_SB_0 := blk_frozen SB.out 0
  have c_SB_1 := blk_cell SB.out 1 _ rfl
  have f_SB_1 := blk_frozen SB.out 1
  have c_SB_2 := blk_cell SB.out 2 _ rfl
  have f_SB_2 := blk_frozen SB.out 2
  have c_SB_3 := blk_cell SB.out 3 _ rfl
  have f_SB_3 := blk_frozen SB.out 3
  have l_SB := blk_lt SB.out
  go_wp2_with fail
  refine (GR.out _ NN.out).mono ?_
  rintro e w10 ⟨rfl, hb⟩
  clear c_SB_0 f_SB_0 c_SB_1 f_SB_1 c_SB_2 f_SB_2 c_SB_3 f_SB_3 l_SB
  replace NN := Lib.hid (Bgo NN.out hb)
  replace SB := Lib.hid (blk_next hb SB.out)
  clear hb
  have c_SB_0 := blk_cell SB.out 0 _ rfl
  have f_SB_0 := blk_frozen SB.out 0
  have c_SB_1 := blk_cell SB.out 1 _ rfl
  have f_SB_1 := blk_frozen SB.out 1
  have c_SB_2 := blk_cell SB.out 2 _ rfl
  have f_SB_2 := blk_frozen SB.out 2
  have c_SB_3 := blk_cell SB.out 3 _ rfl
  have f_SB_3 := blk_frozen SB.out 3
  have l_SB := blk_lt SB.out
  go_wp2_with fail
  refine (K2.out _ NN.out).mono ?_
  rintro e w11 ⟨rfl, hb⟩
  clear c_SB_0 f_SB_0 c_SB_1 f_SB_1 c_SB_2 f_SB_2 c_SB_3 f_SB_3 l_SB
  replace NN := Lib.hid (Bgo NN.out hb)
  replace SB := Lib.hid (blk_next hb SB.out)
  clear hb
  have c_SB_0 := blk_cell SB.out 0 _ rfl
  have f_SB_0 := blk_frozen SB.out 0
  have c_SB_1 := blk_cell SB.out 1 _ rfl
  have f_SB_1 := blk_frozen SB.out 1
  have c_SB_2 := blk_cell SB.out 2 _ rfl
  have f_SB_2 := blk_frozen SB.out 2
  have c_SB_3 := blk_cell SB.out 3 _ rfl
  have f_SB_3 := blk_frozen SB.out 3
  have l_SB := blk_lt SB.out
  go_wp2_with fail
  refine (FC.out _ NN.out).mono ?_
  rintro e w12 ⟨rfl, hb⟩
  clear c_SB_0 f_SB_0 c_SB_1 f_SB_1 c_SB_2 f_SB_2 c_SB_3 f_SB_3 l_SB
  replace NN := Lib.hid (Bgo NN.out hb)
  replace SB := Lib.hid (blk_next hb SB.out)
  clear hb
  have c_SB_0 := blk_cell SB.out 0 _ rfl
  have f_SB_0 := blk_frozen SB.out 0
  have c_SB_1 := blk_cell SB.out 1 _ rfl
  have f_SB_1 := blk_frozen SB.out 1
  have c_SB_2 := blk_cell SB.out 2 _ rfl
  have f_SB_2 := blk_frozen SB.out 2
  have c_SB_3 := blk_cell SB.out 3 _ rfl
  have f_SB_3 := blk_frozen SB.out 3
  have l_SB := blk_lt SB.out
  go_wp2_with fail
  go_ret
  exact ⟨rfl, NN.out⟩
 have fz : faN ds = 0 := by omega
 rw [fz] at FC
 have FZ := Lib.hid fz
 clear q0 fz
 by_cases q1 : x < 0
 ·have t1 : decide (x < 0) = true := decide_eq_true q1
  go_enter Try.func8, Try.ntmps8
  have HB : Hid (Below w.heap.size w (w.alloc (.cells #[.int .i64 d, .int .i64 p, .slice D ds.length cd, .slice A os.length ca] 25))) := Lib.hid (Bal (Below.refl _ _) _)
  have SB := Lib.hid (blk_new w (.cells #[.int .i64 d, .int .i64 p, .slice D ds.length cd, .slice A os.length ca] 25))
  have LT_SB : Hid (w.heap.size ≤ w.heap.size) := Lib.hid NN.out.size
  replace NN := Lib.hid (Bgo NN.out HB.out)
  clear HB
  go_wp2_with fail
  generalize w.alloc (.cells #[.int .i64 d, .int .i64 p, .slice D ds.length cd, .slice A os.length ca] 25) = W1 at *
  refine (AL.out _).mono ?_
  rintro e w14 ⟨rfl, hb⟩
  replace NN := Lib.hid (Bgo NN.out hb)
  replace SB := Lib.hid (blk_next hb SB.out)
  clear hb
  have c_SB_0 := blk_cell SB.out 0 _ rfl
  have f_SB_0 := blk_frozen SB.out 0
  have c_SB_1 := blk_cell SB.out 1 _ rfl
  have f_SB_1 := blk_frozen SB.out 1
  have c_SB_2 := blk_cell SB.out 2 _ rfl
  have f_SB_2 := blk_frozen SB.out 2
  have c_SB_3 := blk_cell SB.out 3 _ rfl
  have f_SB_3 := blk_frozen SB.out 3
  have l_SB := blk_lt SB.out
  go_wp2_with fail
  refine (GR.out _ NN.out).mono ?_
  rintro e w15 ⟨rfl, hb⟩
  clear c_SB_0 f_SB_0 c_SB_1 f_SB_1 c_SB_2 f_SB_2 c_SB_3 f_SB_3 l_SB
  replace NN := Lib.hid (Bgo NN.out hb)
  replace SB := Lib.hid (blk_next hb SB.out)
  clear hb
  have c_SB_0 := blk_cell SB.out 0 _ rfl
  have f_SB_0 := blk_frozen SB.out 0
  have c_SB_1 := blk_cell SB.out 1 _ rfl
  have f_SB_1 := blk_frozen SB.out 1
  have c_SB_2 := blk_cell SB.out 2 _ rfl
  have f_SB_2 := blk_frozen SB.out 2
  have c_SB_3 := blk_cell SB.out 3 _ rfl
  have f_SB_3 := blk_frozen SB.out 3
  have l_SB := blk_lt SB.out
  go_wp2_with fail
  refine (K2.out _ NN.out).mono ?_
  rintro e w16 ⟨rfl, hb⟩
  clear c_SB_0 f_SB_0 c_SB_1 f_SB_1 c_SB_2 f_SB_2 c_SB_3 f_SB_3 l_SB
  replace NN := Lib.hid (Bgo NN.out hb)
  replace SB := Lib.hid (blk_next hb SB.out)
  clear hb
  have c_SB_0 := blk_cell SB.out 0 _ rfl
  have f_SB_0 := blk_frozen SB.out 0
  have c_SB_1 := blk_cell SB.out 1 _ rfl
  have f_SB_1 := blk_frozen SB.out 1
  have c_SB_2 := blk_cell SB.out 2 _ rfl
  have f_SB_2 := blk_frozen SB.out 2
  have c_SB_3 := blk_cell SB.out 3 _ rfl
  have f_SB_3 := blk_frozen SB.out 3
  have l_SB := blk_lt SB.out
  go_wp2_with fail
  refine (FC.out _ NN.out).mono ?_
  rintro e w17 ⟨rfl, hb⟩
  clear c_SB_0 f_SB_0 c_SB_1 f_SB_1 c_SB_2 f_SB_2 c_SB_3 f_SB_3 l_SB
  replace NN := Lib.hid (Bgo NN.out hb)
  replace SB := Lib.hid (blk_next hb SB.out)
  clear hb
  have c_SB_0 := blk_cell SB.out 0 _ rfl
  have f_SB_0 := blk_frozen SB.out 0
  have c_SB_1 := blk_cell SB.out 1 _ rfl
  have f_SB_1 := blk_frozen SB.out 1
  have c_SB_2 := blk_cell SB.out 2 _ rfl
  have f_SB_2 := blk_frozen SB.out 2
  have c_SB_3 := blk_cell SB.out 3 _ rfl
  have f_SB_3 := blk_frozen SB.out 3
  have l_SB := blk_lt SB.out
  go_wp2_with fail
  go_ret
  exact ⟨rfl, NN.out⟩
 obtain ⟨i, rfl⟩ : ∃ i : Nat, x = i := ⟨x.toNat, by omega⟩
 have t1 : decide (((i : Nat) : Int) < 0) = false := decide_eq_false q1
 clear q1
 by_cases q2 : ds.length ≤ i
 ·have t2 : decide (((ds.length : Nat) : Int) ≤ (i : Int)) = true := decide_eq_true (by omega)
  go_enter Try.func8, Try.ntmps8
  have HB : Hid (Below w.heap.size w (w.alloc (.cells #[.int .i64 d, .int .i64 p, .slice D ds.length cd, .slice A os.length ca] 25))) := Lib.hid (Bal (Below.refl _ _) _)
  have SB := Lib.hid (blk_new w (.cells #[.int .i64 d, .int .i64 p, .slice D ds.length cd, .slice A os.length ca] 25))
  have LT_SB : Hid (w.heap.size ≤ w.heap.size) := Lib.hid NN.out.size
  replace NN := Lib.hid (Bgo NN.out HB.out)
  clear HB
  go_wp2_with fail
  generalize w.alloc (.cells #[.int .i64 d, .int .i64 p, .slice D ds.length cd, .slice A os.length ca] 25) = W1 at *
  refine (AL.out _).mono ?_
  rintro e w19 ⟨rfl, hb⟩
  replace NN := Lib.hid (Bgo NN.out hb)
  replace SB := Lib.hid (blk_next hb SB.out)
  clear hb
  have c_SB_0 := blk_cell SB.out 0 _ rfl
  have f_SB_0 := blk_frozen SB.out 0
  have c_SB_1 := blk_cell SB.out 1 _ rfl
  have f_SB_1 := blk_frozen SB.out 1
  have c_SB_2 := blk_cell SB.out 2 _ rfl
  have f_SB_2 := blk_frozen SB.out 2
  have c_SB_3 := blk_cell SB.out 3 _ rfl
  have f_SB_3 := blk_frozen SB.out 3
  have l_SB := blk_lt SB.out
  go_wp2_with fail
  refine (GR.out _ NN.out).mono ?_
  rintro e w20 ⟨rfl, hb⟩
  clear c_SB_0 f_SB_0 c_SB_1 f_SB_1 c_SB_2 f_SB_2 c_SB_3 f_SB_3 l_SB
  replace NN := Lib.hid (Bgo NN.out hb)
  replace SB := Lib.hid (blk_next hb SB.out)
  clear hb
  have c_SB_0 := blk_cell SB.out 0 _ rfl
  have f_SB_0 := blk_frozen SB.out 0
  have c_SB_1 := blk_cell SB.out 1 _ rfl
  have f_SB_1 := blk_frozen SB.out 1
  have c_SB_2 := blk_cell SB.out 2 _ rfl
  have f_SB_2 := blk_frozen SB.out 2
  have c_SB_3 := blk_cell SB.out 3 _ rfl
  have f_SB_3 := blk_frozen SB.out 3
  have l_SB := blk_lt SB.out
  go_wp2_with fail
  refine (K2.out _ NN.out).mono ?_
  rintro e w21 ⟨rfl, hb⟩
  clear c_SB_0 f_SB_0 c_SB_1 f_SB_1 c_SB_2 f_SB_2 c_SB_3 f_SB_3 l_SB
  replace NN := Lib.hid (Bgo NN.out hb)
  replace SB := Lib.hid (blk_next hb SB.out)
  clear hb
  have c_SB_0 := blk_cell SB.out 0 _ rfl
  have f_SB_0 := blk_frozen SB.out 0
  have c_SB_1 := blk_cell SB.out 1 _ rfl
  have f_SB_1 := blk_frozen SB.out 1
  have c_SB_2 := blk_cell SB.out 2 _ rfl
  have f_SB_2 := blk_frozen SB.out 2
  have c_SB_3 := blk_cell SB.out 3 _ rfl
  have f_SB_3 := blk_frozen SB.out 3
  have l_SB := blk_lt SB.out
  go_wp2_with fail
  refine (FC.out _ NN.out).mono ?_
  rintro e w22 ⟨rfl, hb⟩
  clear c_SB_0 f_SB_0 c_SB_1 f_SB_1 c_SB_2 f_SB_2 c_SB_3 f_SB_3 l_SB
  replace NN := Lib.hid (Bgo NN.out hb)
  replace SB := Lib.hid (blk_next hb SB.out)
  clear hb
  have c_SB_0 := blk_cell SB.out 0 _ rfl
  have f_SB_0 := blk_frozen SB.out 0
  have c_SB_1 := blk_cell SB.out 1 _ rfl
  have f_SB_1 := blk_frozen SB.out 1
  have c_SB_2 := blk_cell SB.out 2 _ rfl
  have f_SB_2 := blk_frozen SB.out 2
  have c_SB_3 := blk_cell SB.out 3 _ rfl
  have f_SB_3 := blk_frozen SB.out 3
  have l_SB := blk_lt SB.out
  go_wp2_with fail
  go_ret
  exact ⟨rfl, NN.out⟩
 have hi : i < ds.length := by omega
 have t2 : decide (((ds.length : Nat) : Int) ≤ (i : Int)) = false := decide_eq_false (by omega)
 by_cases q3 : y < 0
 ·have t3 : decide (y < 0) = true := decide_eq_true q3
  go_enter Try.func8, Try.ntmps8
  have HB : Hid (Below w.heap.size w (w.alloc (.cells #[.int .i64 d, .int .i64 p, .slice D ds.length cd, .slice A os.length ca] 25))) := Lib.hid (Bal (Below.refl _ _) _)
  have SB := Lib.hid (blk_new w (.cells #[.int .i64 d, .int .i64 p, .slice D ds.length cd, .slice A os.length ca] 25))
  have LT_SB : Hid (w.heap.size ≤ w.heap.size) := Lib.hid NN.out.size
  replace NN := Lib.hid (Bgo NN.out HB.out)
  clear HB
  go_wp2_with fail
  generalize w.alloc (.cells #[.int .i64 d, .int .i64 p, .slice D ds.length cd, .slice A os.length ca] 25) = W1 at *
  refine (AL.out _).mono ?_
  rintro e w24 ⟨rfl, hb⟩
  replace NN := Lib.hid (Bgo NN.out hb)
  replace SB := Lib.hid (blk_next hb SB.out)
  clear hb
  have c_SB_0 := blk_cell SB.out 0 _ rfl
  have f_SB_0 := blk_frozen SB.out 0
  have c_SB_1 := blk_cell SB.out 1 _ rfl
  have f_SB_1 := blk_frozen SB.out 1
  have c_SB_2 := blk_cell SB.out 2 _ rfl
  have f_SB_2 := blk_frozen SB.out 2
  have c_SB_3 := blk_cell SB.out 3 _ rfl
  have f_SB_3 := blk_frozen SB.out 3
  have l_SB := blk_lt SB.out
  go_wp2_with fail
  refine (GR.out _ NN.out).mono ?_
  rintro e w25 ⟨rfl, hb⟩
  clear c_SB_0 f_SB_0 c_SB_1 f_SB_1 c_SB_2 f_SB_2 c_SB_3 f_SB_3 l_SB
  replace NN := Lib.hid (Bgo NN.out hb)
  replace SB := Lib.hid (blk_next hb SB.out)
  clear hb
  have c_SB_0 := blk_cell SB.out 0 _ rfl
  have f_SB_0 := blk_frozen SB.out 0
  have c_SB_1 := blk_cell SB.out 1 _ rfl
  have f_SB_1 := blk_frozen SB.out 1
  have c_SB_2 := blk_cell SB.out 2 _ rfl
  have f_SB_2 := blk_frozen SB.out 2
  have c_SB_3 := blk_cell SB.out 3 _ rfl
  have f_SB_3 := blk_frozen SB.out 3
  have l_SB := blk_lt SB.out
  go_wp2_with fail
  refine (K2.out _ NN.out).mono ?_
  rintro e w26 ⟨rfl, hb⟩
  clear c_SB_0 f_SB_0 c_SB_1 f_SB_1 c_SB_2 f_SB_2 c_SB_3 f_SB_3 l_SB
  replace NN := Lib.hid (Bgo NN.out hb)
  replace SB := Lib.hid (blk_next hb SB.out)
  clear hb
  have c_SB_0 := blk_cell SB.out 0 _ rfl
  have f_SB_0 := blk_frozen SB.out 0
  have c_SB_1 := blk_cell SB.out 1 _ rfl
  have f_SB_1 := blk_frozen SB.out 1
  have c_SB_2 := blk_cell SB.out 2 _ rfl
  have f_SB_2 := blk_frozen SB.out 2
  have c_SB_3 := blk_cell SB.out 3 _ rfl
  have f_SB_3 := blk_frozen SB.out 3
  have l_SB := blk_lt SB.out
  go_wp2_with fail
  refine (FC.out _ NN.out).mono ?_
  rintro e w27 ⟨rfl, hb⟩
  clear c_SB_0 f_SB_0 c_SB_1 f_SB_1 c_SB_2 f_SB_2 c_SB_3 f_SB_3 l_SB
  replace NN := Lib.hid (Bgo NN.out hb)
  replace SB := Lib.hid (blk_next hb SB.out)
  clear hb
  have c_SB_0 := blk_cell SB.out 0 _ rfl
  have f_SB_0 := blk_frozen SB.out 0
  have c_SB_1 := blk_cell SB.out 1 _ rfl
  have f_SB_1 := blk_frozen SB.out 1
  have c_SB_2 := blk_cell SB.out 2 _ rfl
  have f_SB_2 := blk_frozen SB.out 2
  have c_SB_3 := blk_cell SB.out 3 _ rfl
  have f_SB_3 := blk_frozen SB.out 3
  have l_SB := blk_lt SB.out
  go_wp2_with fail
  go_ret
  exact ⟨rfl, NN.out⟩
 obtain ⟨k, rfl⟩ : ∃ k : Nat, y = k := ⟨y.toNat, by omega⟩
 have t3 : decide (((k : Nat) : Int) < 0) = false := decide_eq_false q3
 clear q3
 by_cases q4 : sn ≤ k
 ·have t4 : decide (((sn : Nat) : Int) ≤ (k : Int)) = true := decide_eq_true (by omega)
  go_enter Try.func8, Try.ntmps8
  have HB : Hid (Below w.heap.size w (w.alloc (.cells #[.int .i64 d, .int .i64 p, .slice D ds.length cd, .slice A os.length ca] 25))) := Lib.hid (Bal (Below.refl _ _) _)
  have SB := Lib.hid (blk_new w (.cells #[.int .i64 d, .int .i64 p, .slice D ds.length cd, .slice A os.length ca] 25))
  have LT_SB : Hid (w.heap.size ≤ w.heap.size) := Lib.hid NN.out.size
  replace NN := Lib.hid (Bgo NN.out HB.out)
  clear HB
  go_wp2_with fail
  generalize w.alloc (.cells #[.int .i64 d, .int .i64 p, .slice D ds.length cd, .slice A os.length ca] 25) = W1 at *
  refine (AL.out _).mono ?_
  rintro e w29 ⟨rfl, hb⟩
  replace NN := Lib.hid (Bgo NN.out hb)
  replace SB := Lib.hid (blk_next hb SB.out)
  clear hb
  have c_SB_0 := blk_cell SB.out 0 _ rfl
  have f_SB_0 := blk_frozen SB.out 0
  have c_SB_1 := blk_cell SB.out 1 _ rfl
  have f_SB_1 := blk_frozen SB.out 1
  have c_SB_2 := blk_cell SB.out 2 _ rfl
  have f_SB_2 := blk_frozen SB.out 2
  have c_SB_3 := blk_cell SB.out 3 _ rfl
  have f_SB_3 := blk_frozen SB.out 3
  have l_SB := blk_lt SB.out
  go_wp2_with fail
  refine (GR.out _ NN.out).mono ?_
  rintro e w30 ⟨rfl, hb⟩
  clear c_SB_0 f_SB_0 c_SB_1 f_SB_1 c_SB_2 f_SB_2 c_SB_3 f_SB_3 l_SB
  replace NN := Lib.hid (Bgo NN.out hb)
  replace SB := Lib.hid (blk_next hb SB.out)
  clear hb
  have c_SB_0 := blk_cell SB.out 0 _ rfl
  have f_SB_0 := blk_frozen SB.out 0
  have c_SB_1 := blk_cell SB.out 1 _ rfl
  have f_SB_1 := blk_frozen SB.out 1
  have c_SB_2 := blk_cell SB.out 2 _ rfl
  have f_SB_2 := blk_frozen SB.out 2
  have c_SB_3 := blk_cell SB.out 3 _ rfl
  have f_SB_3 := blk_frozen SB.out 3
  have l_SB := blk_lt SB.out
  go_wp2_with fail
  refine (K2.out _ NN.out).mono ?_
  rintro e w31 ⟨rfl, hb⟩
  clear c_SB_0 f_SB_0 c_SB_1 f_SB_1 c_SB_2 f_SB_2 c_SB_3 f_SB_3 l_SB
  replace NN := Lib.hid (Bgo NN.out hb)
  replace SB := Lib.hid (blk_next hb SB.out)
  clear hb
  have c_SB_0 := blk_cell SB.out 0 _ rfl
  have f_SB_0 := blk_frozen SB.out 0
  have c_SB_1 := blk_cell SB.out 1 _ rfl
  have f_SB_1 := blk_frozen SB.out 1
  have c_SB_2 := blk_cell SB.out 2 _ rfl
  have f_SB_2 := blk_frozen SB.out 2
  have c_SB_3 := blk_cell SB.out 3 _ rfl
  have f_SB_3 := blk_frozen SB.out 3
  have l_SB := blk_lt SB.out
  go_wp2_with fail
  refine (FC.out _ NN.out).mono ?_
  rintro e w32 ⟨rfl, hb⟩
  clear c_SB_0 f_SB_0 c_SB_1 f_SB_1 c_SB_2 f_SB_2 c_SB_3 f_SB_3 l_SB
  replace NN := Lib.hid (Bgo NN.out hb)
  replace SB := Lib.hid (blk_next hb SB.out)
  clear hb
  have c_SB_0 := blk_cell SB.out 0 _ rfl
  have f_SB_0 := blk_frozen SB.out 0
  have c_SB_1 := blk_cell SB.out 1 _ rfl
  have f_SB_1 := blk_frozen SB.out 1
  have c_SB_2 := blk_cell SB.out 2 _ rfl
  have f_SB_2 := blk_frozen SB.out 2
  have c_SB_3 := blk_cell SB.out 3 _ rfl
  have f_SB_3 := blk_frozen SB.out 3
  have l_SB := blk_lt SB.out
  go_wp2_with fail
  refine (ST.out _ NN.out).mono ?_
  rintro e w33 ⟨rfl, hb⟩
  clear c_SB_0 f_SB_0 c_SB_1 f_SB_1 c_SB_2 f_SB_2 c_SB_3 f_SB_3 l_SB
  replace NN := Lib.hid (Bgo NN.out hb)
  replace SB := Lib.hid (blk_next hb SB.out)
  clear hb
  have c_SB_0 := blk_cell SB.out 0 _ rfl
  have f_SB_0 := blk_frozen SB.out 0
  have c_SB_1 := blk_cell SB.out 1 _ rfl
  have f_SB_1 := blk_frozen SB.out 1
  have c_SB_2 := blk_cell SB.out 2 _ rfl
  have f_SB_2 := blk_frozen SB.out 2
  have c_SB_3 := blk_cell SB.out 3 _ rfl
  have f_SB_3 := blk_frozen SB.out 3
  have l_SB := blk_lt SB.out
  go_wp2_with fail
  go_ret
  exact ⟨rfl, NN.out⟩
 have hk : k < sn := by omega
 have t4 : decide (((sn : Nat) : Int) ≤ (k : Int)) = false := decide_eq_false (by omega)
 by_cases q5 : z < 0
 ·have t5 : decide (z < 0) = true := decide_eq_true q5
  go_enter Try.func8, Try.ntmps8
  have HB : Hid (Below w.heap.size w (w.alloc (.cells #[.int .i64 d, .int .i64 p, .slice D ds.length cd, .slice A os.length ca] 25))) := Lib.hid (Bal (Below.refl _ _) _)
  have SB := Lib.hid (blk_new w (.cells #[.int .i64 d, .int .i64 p, .slice D ds.length cd, .slice A os.length ca] 25))
  have LT_SB : Hid (w.heap.size ≤ w.heap.size) := Lib.hid NN.out.size
  replace NN := Lib.hid (Bgo NN.out HB.out)
  clear HB
  go_wp2_with fail
  generalize w.alloc (.cells #[.int .i64 d, .int .i64 p, .slice D ds.length cd, .slice A os.length ca] 25) = W1 at *
  refine (AL.out _).mono ?_
  rintro e w35 ⟨rfl, hb⟩
  replace NN := Lib.hid (Bgo NN.out hb)
  replace SB := Lib.hid (blk_next hb SB.out)
  clear hb
  have c_SB_0 := blk_cell SB.out 0 _ rfl
  have f_SB_0 := blk_frozen SB.out 0
  have c_SB_1 := blk_cell SB.out 1 _ rfl
  have f_SB_1 := blk_frozen SB.out 1
  have c_SB_2 := blk_cell SB.out 2 _ rfl
  have f_SB_2 := blk_frozen SB.out 2
  have c_SB_3 := blk_cell SB.out 3 _ rfl
  have f_SB_3 := blk_frozen SB.out 3
  have l_SB := blk_lt SB.out
  go_wp2_with fail
  refine (GR.out _ NN.out).mono ?_
  rintro e w36 ⟨rfl, hb⟩
  clear c_SB_0 f_SB_0 c_SB_1 f_SB_1 c_SB_2 f_SB_2 c_SB_3 f_SB_3 l_SB
  replace NN := Lib.hid (Bgo NN.out hb)
  replace SB := Lib.hid (blk_next hb SB.out)
  clear hb
  have c_SB_0 := blk_cell SB.out 0 _ rfl
  have f_SB_0 := blk_frozen SB.out 0
  have c_SB_1 := blk_cell SB.out 1 _ rfl
  have f_SB_1 := blk_frozen SB.out 1
  have c_SB_2 := blk_cell SB.out 2 _ rfl
  have f_SB_2 := blk_frozen SB.out 2
  have c_SB_3 := blk_cell SB.out 3 _ rfl
  have f_SB_3 := blk_frozen SB.out 3
  have l_SB := blk_lt SB.out
  go_wp2_with fail
  refine (K2.out _ NN.out).mono ?_
  rintro e w37 ⟨rfl, hb⟩
  clear c_SB_0 f_SB_0 c_SB_1 f_SB_1 c_SB_2 f_SB_2 c_SB_3 f_SB_3 l_SB
  replace NN := Lib.hid (Bgo NN.out hb)
  replace SB := Lib.hid (blk_next hb SB.out)
  clear hb
  have c_SB_0 := blk_cell SB.out 0 _ rfl
  have f_SB_0 := blk_frozen SB.out 0
  have c_SB_1 := blk_cell SB.out 1 _ rfl
  have f_SB_1 := blk_frozen SB.out 1
  have c_SB_2 := blk_cell SB.out 2 _ rfl
  have f_SB_2 := blk_frozen SB.out 2
  have c_SB_3 := blk_cell SB.out 3 _ rfl
  have f_SB_3 := blk_frozen SB.out 3
  have l_SB := blk_lt SB.out
  go_wp2_with fail
  refine (FC.out _ NN.out).mono ?_
  rintro e w38 ⟨rfl, hb⟩
  clear c_SB_0 f_SB_0 c_SB_1 f_SB_1 c_SB_2 f_SB_2 c_SB_3 f_SB_3 l_SB
  replace NN := Lib.hid (Bgo NN.out hb)
  replace SB := Lib.hid (blk_next hb SB.out)
  clear hb
  have c_SB_0 := blk_cell SB.out 0 _ rfl
  have f_SB_0 := blk_frozen SB.out 0
  have c_SB_1 := blk_cell SB.out 1 _ rfl
  have f_SB_1 := blk_frozen SB.out 1
  have c_SB_2 := blk_cell SB.out 2 _ rfl
  have f_SB_2 := blk_frozen SB.out 2
  have c_SB_3 := blk_cell SB.out 3 _ rfl
  have f_SB_3 := blk_frozen SB.out 3
  have l_SB := blk_lt SB.out
  go_wp2_with fail
  refine (ST.out _ NN.out).mono ?_
  rintro e w39 ⟨rfl, hb⟩
  clear c_SB_0 f_SB_0 c_SB_1 f_SB_1 c_SB_2 f_SB_2 c_SB_3 f_SB_3 l_SB
  replace NN := Lib.hid (Bgo NN.out hb)
  replace SB := Lib.hid (blk_next hb SB.out)
  clear hb
  have c_SB_0 := blk_cell SB.out 0 _ rfl
  have f_SB_0 := blk_frozen SB.out 0
  have c_SB_1 := blk_cell SB.out 1 _ rfl
  have f_SB_1 := blk_frozen SB.out 1
  have c_SB_2 := blk_cell SB.out 2 _ rfl
  have f_SB_2 := blk_frozen SB.out 2
  have c_SB_3 := blk_cell SB.out 3 _ rfl
  have f_SB_3 := blk_frozen SB.out 3
  have l_SB := blk_lt SB.out
  go_wp2_with fail
  go_ret
  exact ⟨rfl, NN.out⟩
 obtain ⟨a, rfl⟩ : ∃ a : Nat, z = a := ⟨z.toNat, by omega⟩
 have t5 : decide (((a : Nat) : Int) < 0) = false := decide_eq_false q5
 clear q5
 by_cases q6 : 8 ≤ a
 ·have t6 : decide ((8 : Int) ≤ (a : Int)) = true := decide_eq_true (by omega)
  go_enter Try.func8, Try.ntmps8
  have HB : Hid (Below w.heap.size w (w.alloc (.cells #[.int .i64 d, .int .i64 p, .slice D ds.length cd, .slice A os.length ca] 25))) := Lib.hid (Bal (Below.refl _ _) _)
  have SB := Lib.hid (blk_new w (.cells #[.int .i64 d, .int .i64 p, .slice D ds.length cd, .slice A os.length ca] 25))
  have LT_SB : Hid (w.heap.size ≤ w.heap.size) := Lib.hid NN.out.size
  replace NN := Lib.hid (Bgo NN.out HB.out)
  clear HB
  go_wp2_with fail
  generalize w.alloc (.cells #[.int .i64 d, .int .i64 p, .slice D ds.length cd, .slice A os.length ca] 25) = W1 at *
  refine (AL.out _).mono ?_
  rintro e w41 ⟨rfl, hb⟩
  replace NN := Lib.hid (Bgo NN.out hb)
  replace SB := Lib.hid (blk_next hb SB.out)
  clear hb
  have c_SB_0 := blk_cell SB.out 0 _ rfl
  have f_SB_0 := blk_frozen SB.out 0
  have c_SB_1 := blk_cell SB.out 1 _ rfl
  have f_SB_1 := blk_frozen SB.out 1
  have c_SB_2 := blk_cell SB.out 2 _ rfl
  have f_SB_2 := blk_frozen SB.out 2
  have c_SB_3 := blk_cell SB.out 3 _ rfl
  have f_SB_3 := blk_frozen SB.out 3
  have l_SB := blk_lt SB.out
  go_wp2_with fail
  refine (GR.out _ NN.out).mono ?_
  rintro e w42 ⟨rfl, hb⟩
  clear c_SB_0 f_SB_0 c_SB_1 f_SB_1 c_SB_2 f_SB_2 c_SB_3 f_SB_3 l_SB
  replace NN := Lib.hid (Bgo NN.out hb)
  replace SB := Lib.hid (blk_next hb SB.out)
  clear hb
  have c_SB_0 := blk_cell SB.out 0 _ rfl
  have f_SB_0 := blk_frozen SB.out 0
  have c_SB_1 := blk_cell SB.out 1 _ rfl
  have f_SB_1 := blk_frozen SB.out 1
  have c_SB_2 := blk_cell SB.out 2 _ rfl
  have f_SB_2 := blk_frozen SB.out 2
  have c_SB_3 := blk_cell SB.out 3 _ rfl
  have f_SB_3 := blk_frozen SB.out 3
  have l_SB := blk_lt SB.out
  go_wp2_with fail
  refine (K2.out _ NN.out).mono ?_
  rintro e w43 ⟨rfl, hb⟩
  clear c_SB_0 f_SB_0 c_SB_1 f_SB_1 c_SB_2 f_SB_2 c_SB_3 f_SB_3 l_SB
  replace NN := Lib.hid (Bgo NN.out hb)
  replace SB := Lib.hid (blk_next hb SB.out)
  clear hb
  have c_SB_0 := blk_cell SB.out 0 _ rfl
  have f_SB_0 := blk_frozen SB.out 0
  have c_SB_1 := blk_cell SB.out 1 _ rfl
  have f_SB_1 := blk_frozen SB.out 1
  have c_SB_2 := blk_cell SB.out 2 _ rfl
  have f_SB_2 := blk_frozen SB.out 2
  have c_SB_3 := blk_cell SB.out 3 _ rfl
  have f_SB_3 := blk_frozen SB.out 3
  have l_SB := blk_lt SB.out
  go_wp2_with fail
  refine (FC.out _ NN.out).mono ?_
  rintro e w44 ⟨rfl, hb⟩
  clear c_SB_0 f_SB_0 c_SB_1 f_SB_1 c_SB_2 f_SB_2 c_SB_3 f_SB_3 l_SB
  replace NN := Lib.hid (Bgo NN.out hb)
  replace SB := Lib.hid (blk_next hb SB.out)
  clear hb
  have c_SB_0 := blk_cell SB.out 0 _ rfl
  have f_SB_0 := blk_frozen SB.out 0
  have c_SB_1 := blk_cell SB.out 1 _ rfl
  have f_SB_1 := blk_frozen SB.out 1
  have c_SB_2 := blk_cell SB.out 2 _ rfl
  have f_SB_2 := blk_frozen SB.out 2
  have c_SB_3 := blk_cell SB.out 3 _ rfl
  have f_SB_3 := blk_frozen SB.out 3
  have l_SB := blk_lt SB.out
  go_wp2_with fail
  refine (ST.out _ NN.out).mono ?_
  rintro e w45 ⟨rfl, hb⟩
  clear c_SB_0 f_SB_0 c_SB_1 f_SB_1 c_SB_2 f_SB_2 c_SB_3 f_SB_3 l_SB
  replace NN := Lib.hid (Bgo NN.out hb)
  replace SB := Lib.hid (blk_next hb SB.out)
  clear hb
  have c_SB_0 := blk_cell SB.out 0 _ rfl
  have f_SB_0 := blk_frozen SB.out 0
  have c_SB_1 := blk_cell SB.out 1 _ rfl
  have f_SB_1 := blk_frozen SB.out 1
  have c_SB_2 := blk_cell SB.out 2 _ rfl
  have f_SB_2 := blk_frozen SB.out 2
  have c_SB_3 := blk_cell SB.out 3 _ rfl
  have f_SB_3 := blk_frozen SB.out 3
  have l_SB := blk_lt SB.out
  go_wp2_with fail
  go_ret
  exact ⟨rfl, NN.out⟩
 have ha : a < 8 := by omega
 have t6 : decide ((8 : Int) ≤ (a : Int)) = false := decide_eq_false (by omega)
 by_cases q7 : cc = 0
 ·subst q7
  go_enter Try.func8, Try.ntmps8
  have HB : Hid (Below w.heap.size w (w.alloc (.cells #[.int .i64 d, .int .i64 p, .slice D ds.length cd, .slice A os.length ca] 25))) := Lib.hid (Bal (Below.refl _ _) _)
  have SB := Lib.hid (blk_new w (.cells #[.int .i64 d, .int .i64 p, .slice D ds.length cd, .slice A os.length ca] 25))
  have LT_SB : Hid (w.heap.size ≤ w.heap.size) := Lib.hid NN.out.size
  replace NN := Lib.hid (Bgo NN.out HB.out)
  clear HB
  go_wp2_with fail
  generalize w.alloc (.cells #[.int .i64 d, .int .i64 p, .slice D ds.length cd, .slice A os.length ca] 25) = W1 at *
  refine (AL.out _).mono ?_
  rintro e w47 ⟨rfl, hb⟩
  replace NN := Lib.hid (Bgo NN.out hb)
  replace SB := Lib.hid (blk_next hb SB.out)
  clear hb
  have c_SB_0 := blk_cell SB.out 0 _ rfl
  have f_SB_0 := blk_frozen SB.out 0
  have c_SB_1 := blk_cell SB.out 1 _ rfl
  have f_SB_1 := blk_frozen SB.out 1
  have c_SB_2 := blk_cell SB.out 2 _ rfl
  have f_SB_2 := blk_frozen SB.out 2
  have c_SB_3 := blk_cell SB.out 3 _ rfl
  have f_SB_3 := blk_frozen SB.out 3
  have l_SB := blk_lt SB.out
  go_wp2_with fail
  refine (GR.out _ NN.out).mono ?_
  rintro e w48 ⟨rfl, hb⟩
  clear c_SB_0 f_SB_0 c_SB_1 f_SB_1 c_SB_2 f_SB_2 c_SB_3 f_SB_3 l_SB
  replace NN := Lib.hid (Bgo NN.out hb)
  replace SB := Lib.hid (blk_next hb SB.out)
  clear hb
  have c_SB_0 := blk_cell SB.out 0 _ rfl
  have f_SB_0 := blk_frozen SB.out 0
  have c_SB_1 := blk_cell SB.out 1 _ rfl
  have f_SB_1 := blk_frozen SB.out 1
  have c_SB_2 := blk_cell SB.out 2 _ rfl
  have f_SB_2 := blk_frozen SB.out 2
  have c_SB_3 := blk_cell SB.out 3 _ rfl
  have f_SB_3 := blk_frozen SB.out 3
  have l_SB := blk_lt SB.out
  go_wp2_with fail
  refine (K2.out _ NN.out).mono ?_
  rintro e w49 ⟨rfl, hb⟩
  clear c_SB_0 f_SB_0 c_SB_1 f_SB_1 c_SB_2 f_SB_2 c_SB_3 f_SB_3 l_SB
  replace NN := Lib.hid (Bgo NN.out hb)
  replace SB := Lib.hid (blk_next hb SB.out)
  clear hb
  have c_SB_0 := blk_cell SB.out 0 _ rfl
  have f_SB_0 := blk_frozen SB.out 0
  have c_SB_1 := blk_cell SB.out 1 _ rfl
  have f_SB_1 := blk_frozen SB.out 1
  have c_SB_2 := blk_cell SB.out 2 _ rfl
  have f_SB_2 := blk_frozen SB.out 2
  have c_SB_3 := blk_cell SB.out 3 _ rfl
  have f_SB_3 := blk_frozen SB.out 3
  have l_SB := blk_lt SB.out
  go_wp2_with fail
  refine (FC.out _ NN.out).mono ?_
  rintro e w50 ⟨rfl, hb⟩
  clear c_SB_0 f_SB_0 c_SB_1 f_SB_1 c_SB_2 f_SB_2 c_SB_3 f_SB_3 l_SB
  replace NN := Lib.hid (Bgo NN.out hb)
  replace SB := Lib.hid (blk_next hb SB.out)
  clear hb
  have c_SB_0 := blk_cell SB.out 0 _ rfl
  have f_SB_0 := blk_frozen SB.out 0
  have c_SB_1 := blk_cell SB.out 1 _ rfl
  have f_SB_1 := blk_frozen SB.out 1
  have c_SB_2 := blk_cell SB.out 2 _ rfl
  have f_SB_2 := blk_frozen SB.out 2
  have c_SB_3 := blk_cell SB.out 3 _ rfl
  have f_SB_3 := blk_frozen SB.out 3
  have l_SB := blk_lt SB.out
  go_wp2_with fail
  refine (ST.out _ NN.out).mono ?_
  rintro e w51 ⟨rfl, hb⟩
  clear c_SB_0 f_SB_0 c_SB_1 f_SB_1 c_SB_2 f_SB_2 c_SB_3 f_SB_3 l_SB
  replace NN := Lib.hid (Bgo NN.out hb)
  replace SB := Lib.hid (blk_next hb SB.out)
  clear hb
  have c_SB_0 := blk_cell SB.out 0 _ rfl
  have f_SB_0 := blk_frozen SB.out 0
  have c_SB_1 := blk_cell SB.out 1 _ rfl
  have f_SB_1 := blk_frozen SB.out 1
  have c_SB_2 := blk_cell SB.out 2 _ rfl
  have f_SB_2 := blk_frozen SB.out 2
  have c_SB_3 := blk_cell SB.out 3 _ rfl
  have f_SB_3 := blk_frozen SB.out 3
  have l_SB := blk_lt SB.out
  go_wp2_with fail
  go_ret
  exact ⟨rfl, NN.out⟩
 have t7 : decide (((cc : Nat) : Int) = 0) = false := decide_eq_false (by omega)
 have t8 : (((cc : Nat) : Int) == 0) = false := by rw [beq_eq_false_iff_ne]; omega
 have SC := Lib.hid (fun (W : World) (h : Below w.heap.size w W) => scrub_calls d p D A cd ca B ds os W hnd hcd hna hca (HD.out.next h) (HS.out.next h) HL.out)
 have se : scrE d p ds os = 0 := by unfold scrE; rw [if_pos hc, FZ.out, if_neg (by omega)]
 rw [se] at SC
 by_cases e2 : scrR d p ds os = []
 rotate_left
 ·have t9 : decide ((0 : Int) < ((scrR d p ds os).length : Int)) = true := decide_eq_true (by have := List.length_pos_iff.2 e2; omega)
  have t9n : 0 < (scrR d p ds os).length := List.length_pos_iff.2 e2
  generalize scrR d p ds os = sr at *
  go_enter Try.func8, Try.ntmps8
  have HB : Hid (Below w.heap.size w (w.alloc (.cells #[.int .i64 d, .int .i64 p, .slice D ds.length cd, .slice A os.length ca] 25))) := Lib.hid (Bal (Below.refl _ _) _)
  have SB := Lib.hid (blk_new w (.cells #[.int .i64 d, .int .i64 p, .slice D ds.length cd, .slice A os.length ca] 25))
  have LT_SB : Hid (w.heap.size ≤ w.heap.size) := Lib.hid NN.out.size
  replace NN := Lib.hid (Bgo NN.out HB.out)
  clear HB
  go_wp2_with fail
  generalize w.alloc (.cells #[.int .i64 d, .int .i64 p, .slice D ds.length cd, .slice A os.length ca] 25) = W1 at *
  refine (AL.out _).mono ?_
  rintro e w53 ⟨rfl, hb⟩
  replace NN := Lib.hid (Bgo NN.out hb)
  replace SB := Lib.hid (blk_next hb SB.out)
  clear hb
  have c_SB_0 := blk_cell SB.out 0 _ rfl
  have f_SB_0 := blk_frozen SB.out 0
  have c_SB_1 := blk_cell SB.out 1 _ rfl
  have f_SB_1 := blk_frozen SB.out 1
  have c_SB_2 := blk_cell SB.out 2 _ rfl
  have f_SB_2 := blk_frozen SB.out 2
  have c_SB_3 := blk_cell SB.out 3 _ rfl
  have f_SB_3 := blk_frozen SB.out 3
  have l_SB := blk_lt SB.out
  go_wp2_with fail
  refine (GR.out _ NN.out).mono ?_
  rintro e w54 ⟨rfl, hb⟩
  clear c_SB_0 f_SB_0 c_SB_1 f_SB_1 c_SB_2 f_SB_2 c_SB_3 f_SB_3 l_SB
  replace NN := Lib.hid (Bgo NN.out hb)
  replace SB := Lib.hid (blk_next hb SB.out)
  clear hb
  have c_SB_0 := blk_cell SB.out 0 _ rfl
  have f_SB_0 := blk_frozen SB.out 0
  have c_SB_1 := blk_cell SB.out 1 _ rfl
  have f_SB_1 := blk_frozen SB.out 1
  have c_SB_2 := blk_cell SB.out 2 _ rfl
  have f_SB_2 := blk_frozen SB.out 2
  have c_SB_3 := blk_cell SB.out 3 _ rfl
  have f_SB_3 := blk_frozen SB.out 3
  have l_SB := blk_lt SB.out
  go_wp2_with fail
  refine (K2.out _ NN.out).mono ?_
  rintro e w55 ⟨rfl, hb⟩
  clear c_SB_0 f_SB_0 c_SB_1 f_SB_1 c_SB_2 f_SB_2 c_SB_3 f_SB_3 l_SB
  replace NN := Lib.hid (Bgo NN.out hb)
  replace SB := Lib.hid (blk_next hb SB.out)
  clear hb
  have c_SB_0 := blk_cell SB.out 0 _ rfl
  have f_SB_0 := blk_frozen SB.out 0
  have c_SB_1 := blk_cell SB.out 1 _ rfl
  have f_SB_1 := blk_frozen SB.out 1
  have c_SB_2 := blk_cell SB.out 2 _ rfl
  have f_SB_2 := blk_frozen SB.out 2
  have c_SB_3 := blk_cell SB.out 3 _ rfl
  have f_SB_3 := blk_frozen SB.out 3
  have l_SB := blk_lt SB.out
  go_wp2_with fail
  refine (FC.out _ NN.out).mono ?_
  rintro e w56 ⟨rfl, hb⟩
  clear c_SB_0 f_SB_0 c_SB_1 f_SB_1 c_SB_2 f_SB_2 c_SB_3 f_SB_3 l_SB
  replace NN := Lib.hid (Bgo NN.out hb)
  replace SB := Lib.hid (blk_next hb SB.out)
  clear hb
  have c_SB_0 := blk_cell SB.out 0 _ rfl
  have f_SB_0 := blk_frozen SB.out 0
  have c_SB_1 := blk_cell SB.out 1 _ rfl
  have f_SB_1 := blk_frozen SB.out 1
  have c_SB_2 := blk_cell SB.out 2 _ rfl
  have f_SB_2 := blk_frozen SB.out 2
  have c_SB_3 := blk_cell SB.out 3 _ rfl
  have f_SB_3 := blk_frozen SB.out 3
  have l_SB := blk_lt SB.out
  go_wp2_with fail
  refine (ST.out _ NN.out).mono ?_
  rintro e w57 ⟨rfl, hb⟩
  clear c_SB_0 f_SB_0 c_SB_1 f_SB_1 c_SB_2 f_SB_2 c_SB_3 f_SB_3 l_SB
  replace NN := Lib.hid (Bgo NN.out hb)
  replace SB := Lib.hid (blk_next hb SB.out)
  clear hb
  have c_SB_0 := blk_cell SB.out 0 _ rfl
  have f_SB_0 := blk_frozen SB.out 0
  have c_SB_1 := blk_cell SB.out 1 _ rfl
  have f_SB_1 := blk_frozen SB.out 1
  have c_SB_2 := blk_cell SB.out 2 _ rfl
  have f_SB_2 := blk_frozen SB.out 2
  have c_SB_3 := blk_cell SB.out 3 _ rfl
  have f_SB_3 := blk_frozen SB.out 3
  have l_SB := blk_lt SB.out
  go_wp2_with fail
  refine (SC.out _ NN.out).mono ?_
  rintro e w58 ⟨v, rfl, hr, hb⟩
  obtain ⟨A9, c9, rfl, k9a, k9b, _⟩ := own_form hr
  clear hr
  clear c_SB_0 f_SB_0 c_SB_1 f_SB_1 c_SB_2 f_SB_2 c_SB_3 f_SB_3 l_SB
  replace NN := Lib.hid (Bgo NN.out hb)
  replace SB := Lib.hid (blk_next hb SB.out)
  clear hb
  have c_SB_0 := blk_cell SB.out 0 _ rfl
  have f_SB_0 := blk_frozen SB.out 0
  have c_SB_1 := blk_cell SB.out 1 _ rfl
  have f_SB_1 := blk_frozen SB.out 1
  have c_SB_2 := blk_cell SB.out 2 _ rfl
  have f_SB_2 := blk_frozen SB.out 2
  have c_SB_3 := blk_cell SB.out 3 _ rfl
  have f_SB_3 := blk_frozen SB.out 3
  have l_SB := blk_lt SB.out
  go_wp2_with fail
  go_ret
  exact ⟨rfl, NN.out⟩
 rw [e2] at SC
 obtain ⟨Dn, P, n, T, rfl, rfl, hn, GD, -⟩ := OkS.gd OK.out BD.out se e2
 have hnk : k < n := by have := HSN.out; omega
 obtain ⟨xk, l, hx, hl, l8, lb, BAD⟩ := mends_facts GD FZ.out (i := i) (k := k) (a := a) (y := cc) hi hnk ha (by omega) hcc
 have HX := Lib.hid hx
 have HLL := Lib.hid hl
 have HB8 := Lib.hid BAD
 have LB := Lib.hid lb
 have L8 := Lib.hid l8
 have HI := Lib.hid hi
 have HKN := Lib.hid hnk
 have HN := Lib.hid hn
 clear GD se e2 hx hl lb l8 BAD hi hk q7 hc hn hnk
 have TW := Lib.hid (fun (W : World) (h : Below w.heap.size w W) => twin_calls (Dn : Int) (P : Int) D A cd ca B ds os W hnd hcd hna hca (HD.out.next h) (HS.out.next h) (by omega) (by omega) (fun k hk => ⟨by have := (GBL.out k hk).1; omega, fun b hb => by have := (GBL.out k hk).2 b hb; omega⟩))
 go_enter Try.func8, Try.ntmps8
 have HB : Hid (Below w.heap.size w (w.alloc (.cells #[.int .i64 (Dn : Int), .int .i64 (P : Int), .slice D ds.length cd, .slice A os.length ca] 25))) := Lib.hid (Bal (Below.refl _ _) _)
 have SB := Lib.hid (blk_new w (.cells #[.int .i64 (Dn : Int), .int .i64 (P : Int), .slice D ds.length cd, .slice A os.length ca] 25))
 have LT_SB : Hid (w.heap.size ≤ w.heap.size) := Lib.hid NN.out.size
 replace NN := Lib.hid (Bgo NN.out HB.out)
 clear HB
 go_wp2_with fail
 generalize w.alloc (.cells #[.int .i64 (Dn : Int), .int .i64 (P : Int), .slice D ds.length cd, .slice A os.length ca] 25) = W1 at *
 refine (AL.out _).mono ?_
 rintro e w60 ⟨rfl, hb⟩
 replace NN := Lib.hid (Bgo NN.out hb)
 replace SB := Lib.hid (blk_next hb SB.out)
 clear hb
 have c_SB_0 := blk_cell SB.out 0 _ rfl
 have f_SB_0 := blk_frozen SB.out 0
 have c_SB_1 := blk_cell SB.out 1 _ rfl
 have f_SB_1 := blk_frozen SB.out 1
 have c_SB_2 := blk_cell SB.out 2 _ rfl
 have f_SB_2 := blk_frozen SB.out 2
 have c_SB_3 := blk_cell SB.out 3 _ rfl
 have f_SB_3 := blk_frozen SB.out 3
 have l_SB := blk_lt SB.out
 go_wp2_with fail
 refine (GR.out _ NN.out).mono ?_
 rintro e w61 ⟨rfl, hb⟩
 clear c_SB_0 f_SB_0 c_SB_1 f_SB_1 c_SB_2 f_SB_2 c_SB_3 f_SB_3 l_SB
 replace NN := Lib.hid (Bgo NN.out hb)
 replace SB := Lib.hid (blk_next hb SB.out)
 clear hb
 have c_SB_0 := blk_cell SB.out 0 _ rfl
 have f_SB_0 := blk_frozen SB.out 0
 have c_SB_1 := blk_cell SB.out 1 _ rfl
 have f_SB_1 := blk_frozen SB.out 1
 have c_SB_2 := blk_cell SB.out 2 _ rfl
 have f_SB_2 := blk_frozen SB.out 2
 have c_SB_3 := blk_cell SB.out 3 _ rfl
 have f_SB_3 := blk_frozen SB.out 3
 have l_SB := blk_lt SB.out
 go_wp2_with fail
 refine (K2.out _ NN.out).mono ?_
 rintro e w62 ⟨rfl, hb⟩
 clear c_SB_0 f_SB_0 c_SB_1 f_SB_1 c_SB_2 f_SB_2 c_SB_3 f_SB_3 l_SB
 replace NN := Lib.hid (Bgo NN.out hb)
 replace SB := Lib.hid (blk_next hb SB.out)
 clear hb
 have c_SB_0 := blk_cell SB.out 0 _ rfl
 have f_SB_0 := blk_frozen SB.out 0
 have c_SB_1 := blk_cell SB.out 1 _ rfl
 have f_SB_1 := blk_frozen SB.out 1
 have c_SB_2 := blk_cell SB.out 2 _ rfl
 have f_SB_2 := blk_frozen SB.out 2
 have c_SB_3 := blk_cell SB.out 3 _ rfl
 have f_SB_3 := blk_frozen SB.out 3
 have l_SB := blk_lt SB.out
 go_wp2_with fail
 refine (FC.out _ NN.out).mono ?_
 rintro e w63 ⟨rfl, hb⟩
 clear c_SB_0 f_SB_0 c_SB_1 f_SB_1 c_SB_2 f_SB_2 c_SB_3 f_SB_3 l_SB
 replace NN := Lib.hid (Bgo NN.out hb)
 replace SB := Lib.hid (blk_next hb SB.out)
 clear hb
 have c_SB_0 := blk_cell SB.out 0 _ rfl
 have f_SB_0 := blk_frozen SB.out 0
 have c_SB_1 := blk_cell SB.out 1 _ rfl
 have f_SB_1 := blk_frozen SB.out 1
 have c_SB_2 := blk_cell SB.out 2 _ rfl
 have f_SB_2 := blk_frozen SB.out 2
 have c_SB_3 := blk_cell SB.out 3 _ rfl
 have f_SB_3 := blk_frozen SB.out 3
 have l_SB := blk_lt SB.out
 go_wp2_with fail
 refine (ST.out _ NN.out).mono ?_
 rintro e w64 ⟨rfl, hb⟩
 clear c_SB_0 f_SB_0 c_SB_1 f_SB_1 c_SB_2 f_SB_2 c_SB_3 f_SB_3 l_SB
 replace NN := Lib.hid (Bgo NN.out hb)
 replace SB := Lib.hid (blk_next hb SB.out)
 clear hb
 have c_SB_0 := blk_cell SB.out 0 _ rfl
 have f_SB_0 := blk_frozen SB.out 0
 have c_SB_1 := blk_cell SB.out 1 _ rfl
 have f_SB_1 := blk_frozen SB.out 1
 have c_SB_2 := blk_cell SB.out 2 _ rfl
 have f_SB_2 := blk_frozen SB.out 2
 have c_SB_3 := blk_cell SB.out 3 _ rfl
 have f_SB_3 := blk_frozen SB.out 3
 have l_SB := blk_lt SB.out
 go_wp2_with fail
 refine (SC.out _ NN.out).mono ?_
 rintro e w65 ⟨v, rfl, hr, hb⟩
 obtain ⟨A9, c9, rfl, k9a, k9b, _⟩ := own_form hr
 clear hr
 clear c_SB_0 f_SB_0 c_SB_1 f_SB_1 c_SB_2 f_SB_2 c_SB_3 f_SB_3 l_SB
 replace NN := Lib.hid (Bgo NN.out hb)
 replace SB := Lib.hid (blk_next hb SB.out)
 clear hb
 have c_SB_0 := blk_cell SB.out 0 _ rfl
 have f_SB_0 := blk_frozen SB.out 0
 have c_SB_1 := blk_cell SB.out 1 _ rfl
 have f_SB_1 := blk_frozen SB.out 1
 have c_SB_2 := blk_cell SB.out 2 _ rfl
 have f_SB_2 := blk_frozen SB.out 2
 have c_SB_3 := blk_cell SB.out 3 _ rfl
 have f_SB_3 := blk_frozen SB.out 3
 have l_SB := blk_lt SB.out
 simp only [List.length_nil] at *
 go_wp2_with fail
 have LT_T : Hid (w.heap.size ≤ w65.heap.size) := Lib.hid NN.out.size
 refine (TW.out _ NN.out).mono ?_
 rintro e w66 ⟨v, u, rfl, ht, hu, hb⟩
 try simp only at ht hu
 obtain ⟨A3, c3, rfl, k3a, k3b⟩ := ht.form
 obtain ⟨B3, d3, rfl, k3c, k3d⟩ := hu.form
 have T3 := Lib.hid ht
 have U3 := Lib.hid hu
 clear ht hu
 clear c_SB_0 f_SB_0 c_SB_1 f_SB_1 c_SB_2 f_SB_2 c_SB_3 f_SB_3 l_SB
 replace NN := Lib.hid (Bgo NN.out hb)
 replace SB := Lib.hid (blk_next hb SB.out)
 clear hb
 have HB : Hid (Below w66.heap.size w66 (w66.alloc (.cells #[.int .i64 (Dn : Int), .int .i64 (P : Int), .slice A3 ds.length c3, .slice B3 os.length d3] 25))) := Lib.hid (Bal (Below.refl _ _) _)
 have S3 := Lib.hid (blk_new w66 (.cells #[.int .i64 (Dn : Int), .int .i64 (P : Int), .slice A3 ds.length c3, .slice B3 os.length d3] 25))
 have LT_S3 : Hid (w.heap.size < w66.heap.size ∧ w.heap.size ≤ w66.heap.size) := Lib.hid ⟨blk_lt SB.out, NN.out.size⟩
 replace NN := Lib.hid (Bgo NN.out HB.out)
 replace T3 := Lib.hid (T3.out.next HB.out)
 replace U3 := Lib.hid (U3.out.next HB.out)
 replace SB := Lib.hid (blk_next HB.out SB.out)
 clear HB
 go_upto_region 8 with fail
 generalize (w66.alloc (.cells #[.int .i64 (Dn : Int), .int .i64 (P : Int), .slice A3 ds.length c3, .slice B3 os.length d3] 25)) = WT at *
 generalize w66.heap.size = g3 at *
 obtain ⟨hs, us, OSS⟩ := T3.out
 obtain ⟨g, gt, gr, cy, cr, u, AT⟩ := os_at OSS HX.out HLL.out (a := a) (by rw [L8.out]; have := t6; simp at this; omega)
 have ATH := Lib.hid AT
 have OH := Lib.hid OSS
 obtain ⟨rfl, -, z1, l1, z2, l2, z3, f3, l3, b3, -, -, -, -⟩ := AT
 have u1 : (0 : Int) ≤ (i : Int) := by omega
 have u2 : (i : Int) < (ds.length : Int) := by have := HI.out; omega
 have u3 : (0 : Int) ≤ (k : Int) := by omega
 have u4 : (k : Int) < (xk.blocks.length : Int) := by have := get_lt HLL.out; omega
 have u5 : (0 : Int) ≤ (a : Int) := by omega
 have u6 : (a : Int) < (l.length : Int) := by rw [L8.out]; have := t6; simp at this; omega
 obtain ⟨bt, hbt⟩ : ∃ bt, bt = l.getD a 0 := ⟨_, rfl⟩
 rw [← hbt] at z3
 have lbt : bt < 256 := by rw [hbt]; exact LB.out.getD_ a
 have X3 : bits BinOp.xor IntKind.u8 (bt : Int) (cc : Int) = ((bt ^^^ cc : Nat) : Int) := u8_xor_nat bt cc lbt hcc
 have HBT := Lib.hid hbt
 clear hbt OSS
 have c_S3_0 := blk_cell S3.out 0 _ rfl
 have f_S3_0 := blk_frozen S3.out 0
 have c_S3_1 := blk_cell S3.out 1 _ rfl
 have f_S3_1 := blk_frozen S3.out 1
 have c_S3_2 := blk_cell S3.out 2 _ rfl
 have f_S3_2 := blk_frozen S3.out 2
 have c_S3_3 := blk_cell S3.out 3 _ rfl
 have f_S3_3 := blk_frozen S3.out 3
 have l_S3 := blk_lt S3.out
 go_upto_region 9 with fail
 clear c_S3_0 f_S3_0 c_S3_1 f_S3_1 c_S3_2 f_S3_2 c_S3_3 f_S3_3 l_S3
 have OS2 := OS.byte (a := a) (x := bt ^^^ cc) OH.out HX.out ATH.out.hu ATH.out.hr HLL.out (Nat.xor_lt_two_pow (n := 8) lbt hcc)
 have NESB := ATH.out.oth _ _ _ SB.out ne_u8_sto
 have NES3 := ATH.out.oth _ _ _ S3.out ne_u8_sto
 replace U3 := Lib.hid (OO.u8 (i := a) (x := .int .u8 ((bt ^^^ cc : Nat) : Int)) U3.out ATH.out.row)
 replace SB : Hid ((WT.setCell ⟨gr, a, none⟩ (.int .u8 ((bt ^^^ cc : Nat) : Int))).heap[w.heap.size]? = some (.cells #[.int .i64 (Dn : Int), .int .i64 (P : Int), .slice D ds.length cd, .slice A os.length ca] 25)) := Lib.hid (blk_set_other SB.out NESB _ _)
 replace S3 : Hid ((WT.setCell ⟨gr, a, none⟩ (.int .u8 ((bt ^^^ cc : Nat) : Int))).heap[g3]? = some (.cells #[.int .i64 (Dn : Int), .int .i64 (P : Int), .slice (some ⟨g, 0, none⟩) ds.length c3, .slice B3 os.length d3] 25)) := Lib.hid (blk_set_other S3.out NES3 _ _)
 have LGR : w.heap.size ≤ gr := by have := LT_T.out; omega
 replace NN : Hid (Below w.heap.size w (WT.setCell ⟨gr, a, none⟩ (.int .u8 ((bt ^^^ cc : Nat) : Int)))) := Lib.hid (Bset1 NN.out LGR a _)
 clear z1 l1 z2 l2 z3 f3 l3 b3 u1 u2 u3 u4 u5 u6 X3 T3 NESB NES3 ATH OH
 generalize (WT.setCell ⟨gr, a, none⟩ (.int .u8 ((bt ^^^ cc : Nat) : Int))) = WX at *
 obtain ⟨ts, hts⟩ : ∃ ts, ts = ds.set i ⟨xk.failed, xk.blocks.set k (l.set a (bt ^^^ cc))⟩ := ⟨_, rfl⟩
 have HB9 : Hid (Bad Dn P n ds os i k a cc xk l ts) := Lib.hid (by rw [hts, HBT.out]; exact HB8.out)
 have T3 : Hid (RD 0 WX (some ⟨g, 0, none⟩) ts) := Lib.hid (by rw [hts]; exact (OT.rd ⟨_, _, OS2⟩).mono (Nat.zero_le _))
 have k3e : ts.length ≤ c3 := by rw [HB9.out.len]; exact k3a
 have TL := Lib.hid HB9.out.len
 clear OS2 hts HB8 HBT lbt hcc
 have SN : Hid (WX.heap[g3]? = some (.cells #[.int .i64 (Dn : Int), .int .i64 (P : Int), .slice (some ⟨g, 0, none⟩) ts.length c3, .slice B3 os.length d3] 25)) := Lib.hid (by rw [TL.out]; exact S3.out)
 replace S3 := SN
 clear SN
 have C2 := Lib.hid (fun (Bx : Nat) (W : World) (h1 : RD 0 W (some ⟨g, 0, none⟩) ts) (h2 : RO Bx W B3 os) => scrub_calls (Dn : Int) (P : Int) (some ⟨g, 0, none⟩) B3 c3 d3 0 ts os W k3e k3b k3c k3d h1 (h2.mono (Nat.zero_le _)) HL.out)
 rw [HB9.out.scrE, HB9.out.scrR] at C2
 have c_S3_0 := blk_cell S3.out 0 _ rfl
 have f_S3_0 := blk_frozen S3.out 0
 have c_S3_1 := blk_cell S3.out 1 _ rfl
 have f_S3_1 := blk_frozen S3.out 1
 have c_S3_2 := blk_cell S3.out 2 _ rfl
 have f_S3_2 := blk_frozen S3.out 2
 have c_S3_3 := blk_cell S3.out 3 _ rfl
 have f_S3_3 := blk_frozen S3.out 3
 have l_S3 := blk_lt S3.out
 go_wp2_with fail
 obtain ⟨h20, hbk, hbl⟩ := (chS_ok HB9.out.chk).conds (k := k) (by rw [HN.out]; have := HKN.out; omega)
 have SW := Lib.hid (fun (W : World) (h1 : RD 0 W (some ⟨g, 0, none⟩) ts) => refStripe_calls (Dn : Int) (P : Int) (some ⟨g, 0, none⟩) B3 c3 os.length d3 0 ts k W k3e k3b h1 h20 hbk hbl)
 have s1 := HB9.out.snd
 have s2 := HB9.out.chkE
 generalize strp ts k = sk at SW s1 s2
 have SO := Lib.hid (fun (A : Option Addr) (c Bx : Nat) (W : World) h1 h2 h3 => soundX_calls (Dn : Int) (P : Int) A c Bx sk W h1 h2 h3)
 rw [s1, s2] at SO
 clear h20 hbk hbl s1 s2
 have HE := Lib.hid HB9.out.scrR
 obtain ⟨sl, hsl⟩ : ∃ sl, sl = (if P = 0 then [] else [(k : Int)]) := ⟨_, rfl⟩
 rw [← hsl] at C2
 have HSL := Lib.hid hsl
 clear hsl HE
 refine (C2.out _ _ T3.out U3.out.ro).mono ?_
 rintro e w68 ⟨v, rfl, hr, hb⟩
 obtain ⟨A8, c8, rfl, k8a, k8b, _⟩ := own_form hr
 have R8 := Lib.hid (ri_own hr)
 clear hr
 clear c_S3_0 f_S3_0 c_S3_1 f_S3_1 c_S3_2 f_S3_2 c_S3_3 f_S3_3 l_S3
 replace NN := Lib.hid (Bgo NN.out hb)
 replace T3 := Lib.hid (T3.out.next hb)
 replace U3 := Lib.hid (U3.out.next hb)
 replace SB := Lib.hid (blk_next hb SB.out)
 replace S3 := Lib.hid (blk_next hb S3.out)
 clear hb
 have c_S3_0 := blk_cell S3.out 0 _ rfl
 have f_S3_0 := blk_frozen S3.out 0
 have c_S3_1 := blk_cell S3.out 1 _ rfl
 have f_S3_1 := blk_frozen S3.out 1
 have c_S3_2 := blk_cell S3.out 2 _ rfl
 have f_S3_2 := blk_frozen S3.out 2
 have c_S3_3 := blk_cell S3.out 3 _ rfl
 have f_S3_3 := blk_frozen S3.out 3
 have l_S3 := blk_lt S3.out
 go_wp2_with fail
 refine (SW.out _ T3.out).mono ?_
 rintro e w69 ⟨v, rfl, hm, hb⟩
 simp only at hm
 obtain ⟨A7, c7, rfl, k7a, k7b, hm⟩ := OM.rm hm
 have M7 := Lib.hid hm
 clear hm
 clear c_S3_0 f_S3_0 c_S3_1 f_S3_1 c_S3_2 f_S3_2 c_S3_3 f_S3_3 l_S3
 replace NN := Lib.hid (Bgo NN.out hb)
 replace T3 := Lib.hid (T3.out.next hb)
 replace U3 := Lib.hid (U3.out.next hb)
 replace R8 := Lib.hid (RI.next hb R8.out)
 replace SB := Lib.hid (blk_next hb SB.out)
 replace S3 := Lib.hid (blk_next hb S3.out)
 clear hb
 go_wp2_with fail
 refine (SO.out _ _ _ _ k7a k7b M7.out).mono ?_
 rintro e w70 ⟨rfl, hb⟩
 clear M7 k7a k7b SW SO
 replace NN := Lib.hid (Bgo NN.out hb)
 replace T3 := Lib.hid (T3.out.next hb)
 replace U3 := Lib.hid (U3.out.next hb)
 replace R8 := Lib.hid (RI.next hb R8.out)
 replace SB := Lib.hid (blk_next hb SB.out)
 replace S3 := Lib.hid (blk_next hb S3.out)
 clear hb
 have c_SB_0 := blk_cell SB.out 0 _ rfl
 have f_SB_0 := blk_frozen SB.out 0
 have c_SB_1 := blk_cell SB.out 1 _ rfl
 have f_SB_1 := blk_frozen SB.out 1
 have c_SB_2 := blk_cell SB.out 2 _ rfl
 have f_SB_2 := blk_frozen SB.out 2
 have c_SB_3 := blk_cell SB.out 3 _ rfl
 have f_SB_3 := blk_frozen SB.out 3
 have l_SB := blk_lt SB.out
 have MC := Lib.hid (fun (Bx : Nat) (W : World) (h1 : RD 0 W (some ⟨g, 0, none⟩) ts) (h2 : RO Bx W B3 os) => mend_calls (Dn : Int) (P : Int) (some ⟨g, 0, none⟩) B3 c3 d3 0 ts os (k : Int) W k3e k3b k3c k3d h1 (h2.mono (Nat.zero_le _)) HL.out)
 rcases Nat.eq_zero_or_pos P with eP | eP
 ·have eD : decide (P = 0) = true := decide_eq_true eP
  have esl : sl = [] := by rw [HSL.out, if_pos eP]
  subst esl
  obtain ⟨r1, r2, r3⟩ := HB9.out.m0 eP
  rw [r1, r2, r3] at MC
  clear r1 r2 r3
  have p1 : decide (((P : Nat) : Int) = 0) = true := decide_eq_true (by omega)
  have p2 : (((P : Nat) : Int) == 0) = true := by rw [beq_iff_eq]; omega
  have EP := Lib.hid eP
  clear eP
  simp only [eD]
  have c_S3_0 := blk_cell S3.out 0 _ rfl
  have f_S3_0 := blk_frozen S3.out 0
  have c_S3_1 := blk_cell S3.out 1 _ rfl
  have f_S3_1 := blk_frozen S3.out 1
  have c_S3_2 := blk_cell S3.out 2 _ rfl
  have f_S3_2 := blk_frozen S3.out 2
  have c_S3_3 := blk_cell S3.out 3 _ rfl
  have f_S3_3 := blk_frozen S3.out 3
  have l_S3 := blk_lt S3.out
  go_wp2_with fail
  refine (MC.out _ _ T3.out U3.out.ro).mono ?_
  rintro e w71 ⟨v, u, rfl, ht, hu, hb⟩
  try simp only at ht hu
  obtain ⟨A6, c6, rfl, k6a, k6b⟩ := ht.form
  obtain ⟨B6, d6, rfl, k6c, k6d⟩ := hu.form
  have T6 := Lib.hid ht
  have U6 := Lib.hid hu
  clear ht hu
  clear c_SB_0 f_SB_0 c_SB_1 f_SB_1 c_SB_2 f_SB_2 c_SB_3 f_SB_3 l_SB c_S3_0 f_S3_0 c_S3_1 f_S3_1 c_S3_2 f_S3_2 c_S3_3 f_S3_3 l_S3
  replace NN := Lib.hid (Bgo NN.out hb)
  replace T3 := Lib.hid (T3.out.next hb)
  replace U3 := Lib.hid (U3.out.next hb)
  replace R8 := Lib.hid (RI.next hb R8.out)
  replace SB := Lib.hid (blk_next hb SB.out)
  replace S3 := Lib.hid (blk_next hb S3.out)
  clear hb
  have HB : Hid (Below w71.heap.size w71 (w71.alloc (.cells #[.int .i64 (Dn : Int), .int .i64 (P : Int), .slice A6 ts.length c6, .slice B6 os.length d6] 25))) := Lib.hid (Bal (Below.refl _ _) _)
  have S6 := Lib.hid (blk_new w71 (.cells #[.int .i64 (Dn : Int), .int .i64 (P : Int), .slice A6 ts.length c6, .slice B6 os.length d6] 25))
  have LT_S6 : Hid (w.heap.size < w71.heap.size ∧ g3 < w71.heap.size ∧ w.heap.size ≤ w71.heap.size) := Lib.hid ⟨blk_lt SB.out, blk_lt S3.out, NN.out.size⟩
  replace NN := Lib.hid (Bgo NN.out HB.out)
  replace T3 := Lib.hid (T3.out.next HB.out)
  replace U3 := Lib.hid (U3.out.next HB.out)
  replace R8 := Lib.hid (RI.next HB.out R8.out)
  replace T6 := Lib.hid (T6.out.next HB.out)
  replace U6 := Lib.hid (U6.out.next HB.out)
  replace SB := Lib.hid (blk_next HB.out SB.out)
  replace S3 := Lib.hid (blk_next HB.out S3.out)
  clear HB
  have c_SB_0 := blk_cell SB.out 0 _ rfl
  have f_SB_0 := blk_frozen SB.out 0
  have c_SB_1 := blk_cell SB.out 1 _ rfl
  have f_SB_1 := blk_frozen SB.out 1
  have c_SB_2 := blk_cell SB.out 2 _ rfl
  have f_SB_2 := blk_frozen SB.out 2
  have c_SB_3 := blk_cell SB.out 3 _ rfl
  have f_SB_3 := blk_frozen SB.out 3
  have l_SB := blk_lt SB.out
  have c_S6_0 := blk_cell S6.out 0 _ rfl
  have f_S6_0 := blk_frozen S6.out 0
  have c_S6_1 := blk_cell S6.out 1 _ rfl
  have f_S6_1 := blk_frozen S6.out 1
  have c_S6_2 := blk_cell S6.out 2 _ rfl
  have f_S6_2 := blk_frozen S6.out 2
  have c_S6_3 := blk_cell S6.out 3 _ rfl
  have f_S6_3 := blk_frozen S6.out 3
  have l_S6 := blk_lt S6.out
  have c_S3_0 := blk_cell S3.out 0 _ rfl
  have f_S3_0 := blk_frozen S3.out 0
  have c_S3_1 := blk_cell S3.out 1 _ rfl
  have f_S3_1 := blk_frozen S3.out 1
  have c_S3_2 := blk_cell S3.out 2 _ rfl
  have f_S3_2 := blk_frozen S3.out 2
  have c_S3_3 := blk_cell S3.out 3 _ rfl
  have f_S3_3 := blk_frozen S3.out 3
  have l_S3 := blk_lt S3.out
  go_wp2_with fail
  clear c_SB_0 f_SB_0 c_SB_1 f_SB_1 c_SB_2 f_SB_2 c_SB_3 f_SB_3 l_SB c_S6_0 f_S6_0 c_S6_1 f_S6_1 c_S6_2 f_S6_2 c_S6_3 f_S6_3 l_S6 c_S3_0 f_S3_0 c_S3_1 f_S3_1 c_S3_2 f_S3_2 c_S3_3 f_S3_3 l_S3
  generalize w71.alloc (.cells #[.int .i64 (Dn : Int), .int .i64 (P : Int), .slice A6 ts.length c6, .slice B6 os.length d6] 25) = W72 at *
  generalize w71.heap.size = g72 at *
  refine (same_self (Dn : Int) (P : Int) A6 B6 c6 d6 _ ts os (some ⟨g, 0, none⟩) B3 c3 d3 _ _ k6a k6b k6c k6d T6.out.rd U6.out.ro k3e k3b k3c k3d T3.out (U3.out.ro.mono (Nat.zero_le _))).mono ?_
  rintro e wz ⟨rfl, hb⟩
  go_wp2_with fail
  go_ret
  exact ⟨rfl, Bgo NN.out hb⟩
 have eD : decide (P = 0) = false := decide_eq_false (by omega)
 have esl : sl = [(k : Int)] := by rw [HSL.out, if_neg (by omega)]
 subst esl
 have p1 : decide (((P : Nat) : Int) = 0) = false := decide_eq_false (by omega)
 have p2 : (((P : Nat) : Int) == 0) = false := by rw [beq_eq_false_iff_ne]; omega
 have p3 : ¬ P = 0 := by omega
 simp only [eD]
 have c_S3_0 := blk_cell S3.out 0 _ rfl
 have f_S3_0 := blk_frozen S3.out 0
 have c_S3_1 := blk_cell S3.out 1 _ rfl
 have f_S3_1 := blk_frozen S3.out 1
 have c_S3_2 := blk_cell S3.out 2 _ rfl
 have f_S3_2 := blk_frozen S3.out 2
 have c_S3_3 := blk_cell S3.out 3 _ rfl
 have f_S3_3 := blk_frozen S3.out 3
 have l_S3 := blk_lt S3.out
 have RI1 := Lib.hid (ri_one w70 (k : Int))
 go_wp2_with fail
 clear c_SB_0 f_SB_0 c_SB_1 f_SB_1 c_SB_2 f_SB_2 c_SB_3 f_SB_3 l_SB c_S3_0 f_S3_0 c_S3_1 f_S3_1 c_S3_2 f_S3_2 c_S3_3 f_S3_3 l_S3
 have HB : Hid (Below w70.heap.size w70 (w70.alloc (.cells #[.int .i64 (k : Int)] 3))) := Lib.hid (Bal (Below.refl _ _) _)
 have IB := Lib.hid (blk_new w70 (.cells #[.int .i64 (k : Int)] 3))
 have LT_IB : Hid (w.heap.size < w70.heap.size ∧ g3 < w70.heap.size ∧ w.heap.size ≤ w70.heap.size) := Lib.hid ⟨blk_lt SB.out, blk_lt S3.out, NN.out.size⟩
 replace NN := Lib.hid (Bgo NN.out HB.out)
 replace T3 := Lib.hid (T3.out.next HB.out)
 replace U3 := Lib.hid (U3.out.next HB.out)
 replace R8 := Lib.hid (RI.next HB.out R8.out)
 replace SB := Lib.hid (blk_next HB.out SB.out)
 replace S3 := Lib.hid (blk_next HB.out S3.out)
 clear HB
 have c_SB_0 := blk_cell SB.out 0 _ rfl
 have f_SB_0 := blk_frozen SB.out 0
 have c_SB_1 := blk_cell SB.out 1 _ rfl
 have f_SB_1 := blk_frozen SB.out 1
 have c_SB_2 := blk_cell SB.out 2 _ rfl
 have f_SB_2 := blk_frozen SB.out 2
 have c_SB_3 := blk_cell SB.out 3 _ rfl
 have f_SB_3 := blk_frozen SB.out 3
 have l_SB := blk_lt SB.out
 have c_S3_0 := blk_cell S3.out 0 _ rfl
 have f_S3_0 := blk_frozen S3.out 0
 have c_S3_1 := blk_cell S3.out 1 _ rfl
 have f_S3_1 := blk_frozen S3.out 1
 have c_S3_2 := blk_cell S3.out 2 _ rfl
 have f_S3_2 := blk_frozen S3.out 2
 have c_S3_3 := blk_cell S3.out 3 _ rfl
 have f_S3_3 := blk_frozen S3.out 3
 have l_S3 := blk_lt S3.out
 refine (ints_self A8 (some ⟨w70.heap.size, 0, none⟩) c8 1 _ 0 [(k : Int)] _ k8a k8b R8.out (by simp) (by decide) RI1.out).mono ?_
 rintro e w74 ⟨rfl, hb⟩
 clear RI1
 clear c_SB_0 f_SB_0 c_SB_1 f_SB_1 c_SB_2 f_SB_2 c_SB_3 f_SB_3 l_SB c_S3_0 f_S3_0 c_S3_1 f_S3_1 c_S3_2 f_S3_2 c_S3_3 f_S3_3 l_S3
 replace NN := Lib.hid (Bgo NN.out hb)
 replace T3 := Lib.hid (T3.out.next hb)
 replace U3 := Lib.hid (U3.out.next hb)
 replace R8 := Lib.hid (RI.next hb R8.out)
 replace SB := Lib.hid (blk_next hb SB.out)
 replace S3 := Lib.hid (blk_next hb S3.out)
 replace IB := Lib.hid (blk_next hb IB.out)
 clear hb
 have c_SB_0 := blk_cell SB.out 0 _ rfl
 have f_SB_0 := blk_frozen SB.out 0
 have c_SB_1 := blk_cell SB.out 1 _ rfl
 have f_SB_1 := blk_frozen SB.out 1
 have c_SB_2 := blk_cell SB.out 2 _ rfl
 have f_SB_2 := blk_frozen SB.out 2
 have c_SB_3 := blk_cell SB.out 3 _ rfl
 have f_SB_3 := blk_frozen SB.out 3
 have l_SB := blk_lt SB.out
 have c_S3_0 := blk_cell S3.out 0 _ rfl
 have f_S3_0 := blk_frozen S3.out 0
 have c_S3_1 := blk_cell S3.out 1 _ rfl
 have f_S3_1 := blk_frozen S3.out 1
 have c_S3_2 := blk_cell S3.out 2 _ rfl
 have f_S3_2 := blk_frozen S3.out 2
 have c_S3_3 := blk_cell S3.out 3 _ rfl
 have f_S3_3 := blk_frozen S3.out 3
 have l_S3 := blk_lt S3.out
 go_wp2_with fail
 clear IB R8
 by_cases e1 : P = 1
 ·have p4 : decide (((P : Nat) : Int) = 1) = true := decide_eq_true (by omega)
  have p5 : (((P : Nat) : Int) == 1) = true := by rw [beq_iff_eq]; omega
  have p6 : decide (P = 1) = true := decide_eq_true e1
  have r1 := HB9.out.m1 e1
  obtain ⟨r2, r3⟩ := men_err r1 (by decide)
  rw [r1, r2, r3] at MC
  clear r1 r2 r3 e1 HB9
  refine (MC.out _ _ T3.out U3.out.ro).mono ?_
  rintro e w75 ⟨v, u, rfl, ht, hu, hb⟩
  try simp only at ht hu
  obtain ⟨A6, c6, rfl, k6a, k6b⟩ := ht.form
  obtain ⟨B6, d6, rfl, k6c, k6d⟩ := hu.form
  have T6 := Lib.hid ht
  have U6 := Lib.hid hu
  clear ht hu
  clear c_SB_0 f_SB_0 c_SB_1 f_SB_1 c_SB_2 f_SB_2 c_SB_3 f_SB_3 l_SB c_S3_0 f_S3_0 c_S3_1 f_S3_1 c_S3_2 f_S3_2 c_S3_3 f_S3_3 l_S3
  replace NN := Lib.hid (Bgo NN.out hb)
  replace T3 := Lib.hid (T3.out.next hb)
  replace U3 := Lib.hid (U3.out.next hb)
  replace SB := Lib.hid (blk_next hb SB.out)
  replace S3 := Lib.hid (blk_next hb S3.out)
  clear hb
  have HB : Hid (Below w75.heap.size w75 (w75.alloc (.cells #[.int .i64 noS.1, .int .i64 noS.2.1, .slice A6 noS.2.2.1.length c6, .slice B6 noS.2.2.2.length d6] 25))) := Lib.hid (Bal (Below.refl _ _) _)
  have S6 := Lib.hid (blk_new w75 (.cells #[.int .i64 noS.1, .int .i64 noS.2.1, .slice A6 noS.2.2.1.length c6, .slice B6 noS.2.2.2.length d6] 25))
  have LT_S6 : Hid (w.heap.size < w75.heap.size ∧ g3 < w75.heap.size ∧ w.heap.size ≤ w75.heap.size) := Lib.hid ⟨blk_lt SB.out, blk_lt S3.out, NN.out.size⟩
  replace NN := Lib.hid (Bgo NN.out HB.out)
  replace T3 := Lib.hid (T3.out.next HB.out)
  replace U3 := Lib.hid (U3.out.next HB.out)
  replace T6 := Lib.hid (T6.out.next HB.out)
  replace U6 := Lib.hid (U6.out.next HB.out)
  replace SB := Lib.hid (blk_next HB.out SB.out)
  replace S3 := Lib.hid (blk_next HB.out S3.out)
  clear HB
  have c_SB_0 := blk_cell SB.out 0 _ rfl
  have f_SB_0 := blk_frozen SB.out 0
  have c_SB_1 := blk_cell SB.out 1 _ rfl
  have f_SB_1 := blk_frozen SB.out 1
  have c_SB_2 := blk_cell SB.out 2 _ rfl
  have f_SB_2 := blk_frozen SB.out 2
  have c_SB_3 := blk_cell SB.out 3 _ rfl
  have f_SB_3 := blk_frozen SB.out 3
  have l_SB := blk_lt SB.out
  have c_S3_0 := blk_cell S3.out 0 _ rfl
  have f_S3_0 := blk_frozen S3.out 0
  have c_S3_1 := blk_cell S3.out 1 _ rfl
  have f_S3_1 := blk_frozen S3.out 1
  have c_S3_2 := blk_cell S3.out 2 _ rfl
  have f_S3_2 := blk_frozen S3.out 2
  have c_S3_3 := blk_cell S3.out 3 _ rfl
  have f_S3_3 := blk_frozen S3.out 3
  have l_S3 := blk_lt S3.out
  go_wp2_with fail
  clear c_SB_0 f_SB_0 c_SB_1 f_SB_1 c_SB_2 f_SB_2 c_SB_3 f_SB_3 l_SB c_S3_0 f_S3_0 c_S3_1 f_S3_1 c_S3_2 f_S3_2 c_S3_3 f_S3_3 l_S3
  generalize w75.alloc (.cells #[.int .i64 noS.1, .int .i64 noS.2.1, .slice A6 noS.2.2.1.length c6, .slice B6 noS.2.2.2.length d6] 25) = W76 at *
  generalize w75.heap.size = g76 at *
  go_ret
  exact ⟨rfl, NN.out⟩
 have p4 : decide (((P : Nat) : Int) = 1) = false := decide_eq_false (by omega)
 have p5 : (((P : Nat) : Int) == 1) = false := by rw [beq_eq_false_iff_ne]; omega
 have p6 : decide (P = 1) = false := decide_eq_false e1
 have p7 : ¬ P = 1 := e1
 obtain ⟨r1, r2, r3⟩ := HB9.out.m2 (by omega)
 rw [r1, r2, r3] at MC
 clear r1 r2 r3 HB9
 refine (MC.out _ _ T3.out U3.out.ro).mono ?_
 rintro e w77 ⟨v, u, rfl, ht, hu, hb⟩
 try simp only at ht hu
 obtain ⟨A6, c6, rfl, k6a, k6b⟩ := ht.form
 obtain ⟨B6, d6, rfl, k6c, k6d⟩ := hu.form
 have T6 := Lib.hid ht
 have U6 := Lib.hid hu
 clear ht hu
 clear c_SB_0 f_SB_0 c_SB_1 f_SB_1 c_SB_2 f_SB_2 c_SB_3 f_SB_3 l_SB c_S3_0 f_S3_0 c_S3_1 f_S3_1 c_S3_2 f_S3_2 c_S3_3 f_S3_3 l_S3
 replace NN := Lib.hid (Bgo NN.out hb)
 replace T3 := Lib.hid (T3.out.next hb)
 replace U3 := Lib.hid (U3.out.next hb)
 replace SB := Lib.hid (blk_next hb SB.out)
 replace S3 := Lib.hid (blk_next hb S3.out)
 clear hb
 have HB : Hid (Below w77.heap.size w77 (w77.alloc (.cells #[.int .i64 (Dn : Int), .int .i64 (P : Int), .slice A6 ds.length c6, .slice B6 os.length d6] 25))) := Lib.hid (Bal (Below.refl _ _) _)
 have S6 := Lib.hid (blk_new w77 (.cells #[.int .i64 (Dn : Int), .int .i64 (P : Int), .slice A6 ds.length c6, .slice B6 os.length d6] 25))
 have LT_S6 : Hid (w.heap.size < w77.heap.size ∧ g3 < w77.heap.size ∧ w.heap.size ≤ w77.heap.size) := Lib.hid ⟨blk_lt SB.out, blk_lt S3.out, NN.out.size⟩
 replace NN := Lib.hid (Bgo NN.out HB.out)
 replace T3 := Lib.hid (T3.out.next HB.out)
 replace U3 := Lib.hid (U3.out.next HB.out)
 replace T6 := Lib.hid (T6.out.next HB.out)
 replace U6 := Lib.hid (U6.out.next HB.out)
 replace SB := Lib.hid (blk_next HB.out SB.out)
 replace S3 := Lib.hid (blk_next HB.out S3.out)
 clear HB
 have c_SB_0 := blk_cell SB.out 0 _ rfl
 have f_SB_0 := blk_frozen SB.out 0
 have c_SB_1 := blk_cell SB.out 1 _ rfl
 have f_SB_1 := blk_frozen SB.out 1
 have c_SB_2 := blk_cell SB.out 2 _ rfl
 have f_SB_2 := blk_frozen SB.out 2
 have c_SB_3 := blk_cell SB.out 3 _ rfl
 have f_SB_3 := blk_frozen SB.out 3
 have l_SB := blk_lt SB.out
 have c_S6_0 := blk_cell S6.out 0 _ rfl
 have f_S6_0 := blk_frozen S6.out 0
 have c_S6_1 := blk_cell S6.out 1 _ rfl
 have f_S6_1 := blk_frozen S6.out 1
 have c_S6_2 := blk_cell S6.out 2 _ rfl
 have f_S6_2 := blk_frozen S6.out 2
 have c_S6_3 := blk_cell S6.out 3 _ rfl
 have f_S6_3 := blk_frozen S6.out 3
 have l_S6 := blk_lt S6.out
 have c_S3_0 := blk_cell S3.out 0 _ rfl
 have f_S3_0 := blk_frozen S3.out 0
 have c_S3_1 := blk_cell S3.out 1 _ rfl
 have f_S3_1 := blk_frozen S3.out 1
 have c_S3_2 := blk_cell S3.out 2 _ rfl
 have f_S3_2 := blk_frozen S3.out 2
 have c_S3_3 := blk_cell S3.out 3 _ rfl
 have f_S3_3 := blk_frozen S3.out 3
 have l_S3 := blk_lt S3.out
 go_wp2_with fail
 clear c_SB_0 f_SB_0 c_SB_1 f_SB_1 c_SB_2 f_SB_2 c_SB_3 f_SB_3 l_SB c_S6_0 f_S6_0 c_S6_1 f_S6_1 c_S6_2 f_S6_2 c_S6_3 f_S6_3 l_S6 c_S3_0 f_S3_0 c_S3_1 f_S3_1 c_S3_2 f_S3_2 c_S3_3 f_S3_3 l_S3
 generalize w77.alloc (.cells #[.int .i64 (Dn : Int), .int .i64 (P : Int), .slice A6 ds.length c6, .slice B6 os.length d6] 25) = W78 at *
 generalize w77.heap.size = g78 at *
 refine (same_self (Dn : Int) (P : Int) A6 B6 c6 d6 _ ds os D A cd ca B _ k6a k6b k6c k6d T6.out.rd U6.out.ro hnd hcd hna hca (HD.out.next NN.out) (HS.out.next NN.out)).mono ?_
 rintro e wz ⟨rfl, hb⟩
 go_wp2_with fail
 go_ret
 exact ⟨rfl, Bgo NN.out hb⟩

set_option maxRecDepth 100000 in
theorem lifted (os : Os) (started : os.Started) (H : Type) (enc : TypeId × Value → H) :
  ReturnsInHanded {} Try.checked os 8 .any (Rows.storeMendsSpec.pre6 enc Try.prog Try.f8 Rows.storeMendsRow.domain false) (Rows.storeMendsSpec.post enc Try.prog Try.f8 false true false false) := by
 refine returnsInHanded_of_change (C := Try.checked) own started (by kernel_rfl) Try.func8
  (ChangeSpec.witness6 (enc := enc) (C := Try.checked) false ⟨#[], #[.agg #[.int .i64 0, .int .i64 0, .slice none 0 0, .slice none 0 0], .int .i64 0, .int .i64 0, .int .i64 0, .int .u8 0], []⟩ 8 (by kernel_rfl) (by kernel_rfl) (by kernel_rfl) (by kernel_rfl)) ?_
 intro W base args ds gs before hval0 hW hcnd _
 have hval : ∀ (j : Nat) t v, Try.f8.params[j]? = some t → args[j]? = some v → Value.okWide Try.prog W .any base t v := hval0
 have hW' := hW
 obtain ⟨p, q, hA0, hV, rfl, hfz, hnd⟩ := hW
 have hA : DataW.TrodAll enc Try.prog W 0 (fun _ => true) true Try.f8.params.toList args.toList ds p := hA0
 rw [Try.params8] at hA hval
 obtain ⟨v0, vs0, d0, ds0, p0, q0, hargs, rfl, rfl, h0, r0⟩ := trodAll_cons hA
 obtain ⟨v1, vs1, d1, ds1, p1, q1, rfl, rfl, rfl, h1, r1⟩ := trodAll_cons r0
 obtain ⟨v2, vs2, d2, ds2, p2, q2, rfl, rfl, rfl, h2, r2⟩ := trodAll_cons r1
 obtain ⟨v3, vs3, d3, ds3, p3, q3, rfl, rfl, rfl, h3, r3⟩ := trodAll_cons r2
 obtain ⟨v4, vs4, d4, ds4, p4, q4, rfl, rfl, rfl, h4, r4⟩ := trodAll_cons r3
 obtain ⟨rfl, rfl, rfl⟩ := trodAll_nil r4
 obtain rfl : args = #[v0, v1, v2, v3, v4] := by cases args; simp_all
 obtain ⟨rfl, rfl⟩ := trodVars_none hV
 have k0 := h0
 have lt0 : ∀ x ∈ p0, x.block < W.heap.size := by obtain ⟨m, hm⟩ := k0; exact DataW.trod_lt m _ _ _ hm
 obtain ⟨c0_0, c1_0, c2_0, c3_0, y0_0, y1_0, y2_0, y3_0, m0, rfl, _, _, t0_0, t1_0, t2_0, t3_0⟩ := open_agg4 Try.underlying25 (by kernel_rfl) (show Try.prog.cellsOf 25 = 4 by kernel_rfl) (hval 0 25 v0 rfl rfl) h0
 obtain ⟨d, e0_0, _, wd⟩ := DataW.trod_int Try.underlying3 t0_0
 obtain ⟨p, e1_0, _, wp⟩ := DataW.trod_int Try.underlying3 t1_0
 obtain ⟨D, ds, cd, e2_0, hnd, hcd, hd⟩ := open_dks t2_0
 obtain ⟨A, obs, ca, e3_0, hna, hca, hs⟩ := open_obs t3_0
 simp only [List.cons.injEq, and_true] at e0_0 e1_0 e2_0 e3_0
 subst e0_0 e1_0 e2_0 e3_0
 have k1 := h1
 have lt1 : ∀ x ∈ p1, x.block < W.heap.size := by obtain ⟨m, hm⟩ := k1; exact DataW.trod_lt m _ _ _ hm
 obtain ⟨x, rfl, _, _, wx⟩ := open_int Try.underlying3 (hval 1 3 v1 rfl rfl) h1
 have k2 := h2
 have lt2 : ∀ x ∈ p2, x.block < W.heap.size := by obtain ⟨m, hm⟩ := k2; exact DataW.trod_lt m _ _ _ hm
 obtain ⟨y, rfl, _, _, wy⟩ := open_int Try.underlying3 (hval 2 3 v2 rfl rfl) h2
 have k3 := h3
 have lt3 : ∀ x ∈ p3, x.block < W.heap.size := by obtain ⟨m, hm⟩ := k3; exact DataW.trod_lt m _ _ _ hm
 obtain ⟨z, rfl, _, _, wz⟩ := open_int Try.underlying3 (hval 3 3 v3 rfl rfl) h3
 have k4 := h4
 have lt4 : ∀ x ∈ p4, x.block < W.heap.size := by obtain ⟨m, hm⟩ := k4; exact DataW.trod_lt m _ _ _ hm
 obtain ⟨c04, rfl, _, _, wc4⟩ := open_int Try.underlying5 (hval 4 5 v4 rfl rfl) h4
 obtain ⟨cc, rfl, hcc⟩ : ∃ cc : Nat, c04 = (cc : Int) ∧ cc < 256 := by have hb9 := bounds_u8 wc4; exact ⟨c04.toNat, by omega, by omega⟩
 clear hA0 hval0
 refine (walk d p D A cd ca 0 ds obs x y z cc W hcc hnd hcd hna hca hd hs).mono fun e W' ⟨he, bel⟩ => ?_
 subst he
 exact ⟨_, rfl, _, _, _, [], _, [], hW', trodAll_mk1 (shut_bool Try.underlying4 _), (trodAll_cons_mk (Below.trod laidOut (by kernel_rfl) (of_decide_eq_true (by kernel_rfl)) k0 bel lt0) (trodAll_cons_mk (Below.trod laidOut (by kernel_rfl) (of_decide_eq_true (by kernel_rfl)) k1 bel lt1) (trodAll_cons_mk (Below.trod laidOut (by kernel_rfl) (of_decide_eq_true (by kernel_rfl)) k2 bel lt2) (trodAll_cons_mk (Below.trod laidOut (by kernel_rfl) (of_decide_eq_true (by kernel_rfl)) k3 bel lt3) (trodAll_cons_mk (Below.trod laidOut (by kernel_rfl) (of_decide_eq_true (by kernel_rfl)) k4 bel lt4) trodAll_mk0))))), rfl, bel.frame _, fun h => by cases h⟩

theorem over : Rows.storeMendsRow.holds Try.pinned (OpenSpec.ofChange Rows.storeMendsSpec) :=
 OpenClaim.holds_of_wide 8 Try.f8 rfl rfl rfl rfl rfl rfl rfl ⟨rfl, rfl, rfl, rfl, rfl⟩ rfl rfl rfl rfl rfl (by kernel_rfl) Try.func8 (by kernel_rfl)
  (of_decide_eq_true (by kernel_rfl)) (by unfold Func.isWrapper; first | (rw [if_pos (by decide +kernel)]; kernel_rfl) | (rw [if_neg (by decide +kernel)]; exact ⟨rfl, rfl⟩))
  (fun os started H enc _ => lifted os started H enc)

theorem proved : Rows.StoreMendsSaid := over
#print axioms proved
end Go.Proofs.Ytapehckcmmompaa.storeMends
