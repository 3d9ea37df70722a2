/- For every input the law StoreBack returns true and leaves its arguments as they were. -/
import Derived.Test.YtapehckcmmompaaRows
import Derived.Test.YtapehckcmmompaaM24
import Derived.Test.YtapehckcmmompaaM26
import Derived.Test.YtapehckcmmompaaM29
import Derived.Test.YtapehckcmmompaaM30
import Derived.WalkKit
import Derived.ProofKit
import Derived.OpenShut
import Derived.ShutString
import Derived.ChangeOld
import Derived.Below
import Derived.Lib.SmallJoins
namespace Go.Proofs.Ytapehckcmmompaa.storeBack
open Go.ChangeShapes Go.WideShapes Go.ChangeAt Go.RowKit Go.Joins
open Go.ChangeMaps (open_string shut_string)
set_option linter.unusedVariables false

theorem own : ownKnob Try.prog.godebug = none := by kernel_rfl
theorem laidOut : laidOutB Try.prog = true := by kernel_rfl
attribute [local go_sem ↓] Go.wp_at_zero Go.wp_at_succ
set_option linter.unusedSimpArgs false
attribute [local go_sem ↓] eqOb
attribute [local go_sem] eqO_self
set_option maxRecDepth 100000 in
set_option maxHeartbeats 16000000 in
theorem walk (d p : Int) (D A : Option Addr) (cd ca B : Nat) (ds : List Dk) (os : List Ob) (x : Int) (nm : ByteArray) (Ab : Option Addr) (cb : Nat) (b : List Nat) (w : World) (hnd : ds.length ≤ cd) (hcd : cd ≤ 9223372036854775807) (hna : os.length ≤ ca) (hca : ca ≤ 9223372036854775807) (hd : RD B w D ds) (hs : RO B w A os) (hnm : nm.size ≤ 9223372036854775807) (hb1 : b.length ≤ cb) (hb2 : cb ≤ 9223372036854775807) (hb : RBA 0 w Ab b) :
  Calls Try.prog 7 #[Tv d p (.slice D ds.length cd) (.slice A os.length ca), .int .i64 x, .string nm, .slice Ab b.length cb] w fun e w' => e = .returned (.bool true) ∧ Below w.heap.size w w' := by
 have HD := Lib.hid hd
 have HS := Lib.hid hs
 have HBY := Lib.hid hb
 have BY := Lib.hid hb.1
 have BD := Lib.hid (RD.byt hd)
 have NN := Lib.hid (Below.refl w.heap.size w)
 clear hd hs hb
 have AL := Lib.hid (fun (W : World) => alive_calls W)
 have GR := Lib.hid (fun (W : World) (h : Below w.heap.size w W) => great_calls d p D A cd ca B ds os W hnd hcd hna hca (HD.out.next h) (HS.out.next h))
 by_cases hg : grB ds os = true
 ·rw [hg] at GR
  clear hg
  go_enter Try.func7, Try.ntmps7
  have HB : Hid (Below w.heap.size w (w.alloc (.cells #[.int .i64 d, .int .i64 p, .slice D ds.length cd, .slice A os.length ca] 25))) := Lib.hid (Bal (Below.refl _ _) _)
  have SB := Lib.hid (blk_new w (.cells #[.int .i64 d, .int .i64 p, .slice D ds.length cd, .slice A os.length ca] 25))
  have LT_SB : Hid (w.heap.size ≤ w.heap.size) := Lib.hid NN.out.size
  replace NN := Lib.hid (Bgo NN.out HB.out)
  clear HB
  go_wp2_with fail
  generalize w.alloc (.cells #[.int .i64 d, .int .i64 p, .slice D ds.length cd, .slice A os.length ca] 25) = W1 at *
  refine (AL.out _).mono ?_
  rintro e w2 ⟨rfl, hb⟩
  replace NN := Lib.hid (Bgo NN.out hb)
  replace SB := Lib.hid (blk_next hb SB.out)
  clear hb
  have c_SB_0 := blk_cell SB.out 0 _ rfl
  have f_SB_0 := blk_frozen SB.out 0
  have c_SB_1 := blk_cell SB.out 1 _ rfl
  have f_SB_1 := blk_frozen SB.out 1
  have c_SB_2 := blk_cell SB.out 2 _ rfl
  have f_SB_2 := blk_frozen SB.out 2
  have c_SB_3 := blk_cell SB.out 3 _ rfl
  have f_SB_3 := blk_frozen SB.out 3
  have l_SB := blk_lt SB.out
  go_wp2_with fail
  refine (GR.out _ NN.out).mono ?_
  rintro e w3 ⟨rfl, hb⟩
  clear c_SB_0 f_SB_0 c_SB_1 f_SB_1 c_SB_2 f_SB_2 c_SB_3 f_SB_3 l_SB
  replace NN := Lib.hid (Bgo NN.out hb)
  replace SB := Lib.hid (blk_next hb SB.out)
  clear hb
  go_wp2_with fail
  go_ret
  exact ⟨rfl, NN.out⟩
 have hg' : grB ds os = false := by simpa using hg
 rw [hg'] at GR
 obtain ⟨g20, g20', gnm, gbl⟩ := grB_not hg'
 have HL : Hid (∀ o ∈ os, Lh o.name) := Lib.hid (fun o ho => by have := gnm o ho; unfold Lh; omega)
 clear hg hg' gnm gbl
 have K2 := Lib.hid (fun (W : World) (h : Below w.heap.size w W) => oRefCheck_calls d p D A cd ca B ds os W hnd hcd hna hca (HD.out.next h) (HS.out.next h) HL.out)
 by_cases hc : chS d p ds os = 0
 rotate_left
 ·have hc2 : (chS d p ds os != 0) = true := by rw [bne_iff_ne]; exact hc
  have hc3 : decide (chS d p ds os = 0) = false := decide_eq_false hc
  go_enter Try.func7, Try.ntmps7
  have HB : Hid (Below w.heap.size w (w.alloc (.cells #[.int .i64 d, .int .i64 p, .slice D ds.length cd, .slice A os.length ca] 25))) := Lib.hid (Bal (Below.refl _ _) _)
  have SB := Lib.hid (blk_new w (.cells #[.int .i64 d, .int .i64 p, .slice D ds.length cd, .slice A os.length ca] 25))
  have LT_SB : Hid (w.heap.size ≤ w.heap.size) := Lib.hid NN.out.size
  replace NN := Lib.hid (Bgo NN.out HB.out)
  clear HB
  go_wp2_with fail
  generalize w.alloc (.cells #[.int .i64 d, .int .i64 p, .slice D ds.length cd, .slice A os.length ca] 25) = W1 at *
  refine (AL.out _).mono ?_
  rintro e w5 ⟨rfl, hb⟩
  replace NN := Lib.hid (Bgo NN.out hb)
  replace SB := Lib.hid (blk_next hb SB.out)
  clear hb
  have c_SB_0 := blk_cell SB.out 0 _ rfl
  have f_SB_0 := blk_frozen SB.out 0
  have c_SB_1 := blk_cell SB.out 1 _ rfl
  have f_SB_1 := blk_frozen SB.out 1
  have c_SB_2 := blk_cell SB.out 2 _ rfl
  have f_SB_2 := blk_frozen SB.out 2
  have c_SB_3 := blk_cell SB.out 3 _ rfl
  have f_SB_3 := blk_frozen SB.out 3
  have l_SB := blk_lt SB.out
  go_wp2_with fail
  refine (GR.out _ NN.out).mono ?_
  rintro e w6 ⟨rfl, hb⟩
  clear c_SB_0 f_SB_0 c_SB_1 f_SB_1 c_SB_2 f_SB_2 c_SB_3 f_SB_3 l_SB
  replace NN := Lib.hid (Bgo NN.out hb)
  replace SB := Lib.hid (blk_next hb SB.out)
  clear hb
  have c_SB_0 := blk_cell SB.out 0 _ rfl
  have f_SB_0 := blk_frozen SB.out 0
  have c_SB_1 := blk_cell SB.out 1 _ rfl
  have f_SB_1 := blk_frozen SB.out 1
  have c_SB_2 := blk_cell SB.out 2 _ rfl
  have f_SB_2 := blk_frozen SB.out 2
  have c_SB_3 := blk_cell SB.out 3 _ rfl
  have f_SB_3 := blk_frozen SB.out 3
  have l_SB := blk_lt SB.out
  go_wp2_with fail
  refine (K2.out _ NN.out).mono ?_
  rintro e w7 ⟨rfl, hb⟩
  clear c_SB_0 f_SB_0 c_SB_1 f_SB_1 c_SB_2 f_SB_2 c_SB_3 f_SB_3 l_SB
  replace NN := Lib.hid (Bgo NN.out hb)
  replace SB := Lib.hid (blk_next hb SB.out)
  clear hb
  go_wp2_with fail
  go_ret
  exact ⟨rfl, NN.out⟩
 rw [hc] at K2
 by_cases q1 : 100 < nm.size
 ·have t1 : decide ((100 : Int) < (nm.size : Int)) = true := decide_eq_true (by omega)
  go_enter Try.func7, Try.ntmps7
  have HB : Hid (Below w.heap.size w (w.alloc (.cells #[.int .i64 d, .int .i64 p, .slice D ds.length cd, .slice A os.length ca] 25))) := Lib.hid (Bal (Below.refl _ _) _)
  have SB := Lib.hid (blk_new w (.cells #[.int .i64 d, .int .i64 p, .slice D ds.length cd, .slice A os.length ca] 25))
  have LT_SB : Hid (w.heap.size ≤ w.heap.size) := Lib.hid NN.out.size
  replace NN := Lib.hid (Bgo NN.out HB.out)
  clear HB
  go_wp2_with fail
  generalize w.alloc (.cells #[.int .i64 d, .int .i64 p, .slice D ds.length cd, .slice A os.length ca] 25) = W1 at *
  refine (AL.out _).mono ?_
  rintro e w9 ⟨rfl, hb⟩
  replace NN := Lib.hid (Bgo NN.out hb)
  replace SB := Lib.hid (blk_next hb SB.out)
  clear hb
  have c_SB_0 := blk_cell SB.out 0 _ rfl
  have f_SB_0 := blk_frozen SB.out 0
  have c_SB_1 := blk_cell SB.out 1 _ rfl
  have f_SB_1 := blk_frozen SB.out 1
  have c_SB_2 := blk_cell SB.out 2 _ rfl
  have f_SB_2 := blk_frozen SB.out 2
  have c_SB_3 := blk_cell SB.out 3 _ rfl
  have f_SB_3 := blk_frozen SB.out 3
  have l_SB := blk_lt SB.out
  go_wp2_with fail
  refine (GR.out _ NN.out).mono ?_
  rintro e w10 ⟨rfl, hb⟩
  clear c_SB_0 f_SB_0 c_SB_1 f_SB_1 c_SB_2 f_SB_2 c_SB_3 f_SB_3 l_SB
  replace NN := Lib.hid (Bgo NN.out hb)
  replace SB := Lib.hid (blk_next hb SB.out)
  clear hb
  have c_SB_0 := blk_cell SB.out 0 _ rfl
  have f_SB_0 := blk_frozen SB.out 0
  have c_SB_1 := blk_cell SB.out 1 _ rfl
  have f_SB_1 := blk_frozen SB.out 1
  have c_SB_2 := blk_cell SB.out 2 _ rfl
  have f_SB_2 := blk_frozen SB.out 2
  have c_SB_3 := blk_cell SB.out 3 _ rfl
  have f_SB_3 := blk_frozen SB.out 3
  have l_SB := blk_lt SB.out
  go_wp2_with fail
  refine (K2.out _ NN.out).mono ?_
  rintro e w11 ⟨rfl, hb⟩
  clear c_SB_0 f_SB_0 c_SB_1 f_SB_1 c_SB_2 f_SB_2 c_SB_3 f_SB_3 l_SB
  replace NN := Lib.hid (Bgo NN.out hb)
  replace SB := Lib.hid (blk_next hb SB.out)
  clear hb
  go_wp2_with fail
  go_ret
  exact ⟨rfl, NN.out⟩
 have t1 : decide ((100 : Int) < (nm.size : Int)) = false := decide_eq_false (by omega)
 by_cases q2 : 300 < b.length
 ·have t2 : decide ((300 : Int) < (b.length : Int)) = true := decide_eq_true (by omega)
  go_enter Try.func7, Try.ntmps7
  have HB : Hid (Below w.heap.size w (w.alloc (.cells #[.int .i64 d, .int .i64 p, .slice D ds.length cd, .slice A os.length ca] 25))) := Lib.hid (Bal (Below.refl _ _) _)
  have SB := Lib.hid (blk_new w (.cells #[.int .i64 d, .int .i64 p, .slice D ds.length cd, .slice A os.length ca] 25))
  have LT_SB : Hid (w.heap.size ≤ w.heap.size) := Lib.hid NN.out.size
  replace NN := Lib.hid (Bgo NN.out HB.out)
  clear HB
  go_wp2_with fail
  generalize w.alloc (.cells #[.int .i64 d, .int .i64 p, .slice D ds.length cd, .slice A os.length ca] 25) = W1 at *
  refine (AL.out _).mono ?_
  rintro e w13 ⟨rfl, hb⟩
  replace NN := Lib.hid (Bgo NN.out hb)
  replace SB := Lib.hid (blk_next hb SB.out)
  clear hb
  have c_SB_0 := blk_cell SB.out 0 _ rfl
  have f_SB_0 := blk_frozen SB.out 0
  have c_SB_1 := blk_cell SB.out 1 _ rfl
  have f_SB_1 := blk_frozen SB.out 1
  have c_SB_2 := blk_cell SB.out 2 _ rfl
  have f_SB_2 := blk_frozen SB.out 2
  have c_SB_3 := blk_cell SB.out 3 _ rfl
  have f_SB_3 := blk_frozen SB.out 3
  have l_SB := blk_lt SB.out
  go_wp2_with fail
  refine (GR.out _ NN.out).mono ?_
  rintro e w14 ⟨rfl, hb⟩
  clear c_SB_0 f_SB_0 c_SB_1 f_SB_1 c_SB_2 f_SB_2 c_SB_3 f_SB_3 l_SB
  replace NN := Lib.hid (Bgo NN.out hb)
  replace SB := Lib.hid (blk_next hb SB.out)
  clear hb
  have c_SB_0 := blk_cell SB.out 0 _ rfl
  have f_SB_0 := blk_frozen SB.out 0
  have c_SB_1 := blk_cell SB.out 1 _ rfl
  have f_SB_1 := blk_frozen SB.out 1
  have c_SB_2 := blk_cell SB.out 2 _ rfl
  have f_SB_2 := blk_frozen SB.out 2
  have c_SB_3 := blk_cell SB.out 3 _ rfl
  have f_SB_3 := blk_frozen SB.out 3
  have l_SB := blk_lt SB.out
  go_wp2_with fail
  refine (K2.out _ NN.out).mono ?_
  rintro e w15 ⟨rfl, hb⟩
  clear c_SB_0 f_SB_0 c_SB_1 f_SB_1 c_SB_2 f_SB_2 c_SB_3 f_SB_3 l_SB
  replace NN := Lib.hid (Bgo NN.out hb)
  replace SB := Lib.hid (blk_next hb SB.out)
  clear hb
  go_wp2_with fail
  go_ret
  exact ⟨rfl, NN.out⟩
 have t2 : decide ((300 : Int) < (b.length : Int)) = false := decide_eq_false (by omega)
 have OK := Lib.hid (chS_ok hc)
 have SC := Lib.hid (fun (W : World) (h : Below w.heap.size w W) => scrub_calls d p D A cd ca B ds os W hnd hcd hna hca (HD.out.next h) (HS.out.next h) HL.out)
 have FC := Lib.hid (fun (W : World) (h : Below w.heap.size w W) => failed_calls d p (.slice A os.length ca) D cd B ds W hnd hcd (HD.out.next h))
 have ST := Lib.hid (fun (W : World) (h : Below w.heap.size w W) => stripes_calls d p (.slice D ds.length cd) A ca B os W hna hca (HS.out.next h) OK.out.sm (by omega))
 by_cases e1 : 0 < strN os ∧ p < (faN ds : Int)
 ·have se : scrE d p ds os = 32 := by unfold scrE; rw [if_pos hc, if_pos e1]
  have t3 : decide (p < ((faN ds : Nat) : Int)) = true := decide_eq_true e1.2
  rw [se] at SC
  clear e1
  go_enter Try.func7, Try.ntmps7
  have HB : Hid (Below w.heap.size w (w.alloc (.cells #[.int .i64 d, .int .i64 p, .slice D ds.length cd, .slice A os.length ca] 25))) := Lib.hid (Bal (Below.refl _ _) _)
  have SB := Lib.hid (blk_new w (.cells #[.int .i64 d, .int .i64 p, .slice D ds.length cd, .slice A os.length ca] 25))
  have LT_SB : Hid (w.heap.size ≤ w.heap.size) := Lib.hid NN.out.size
  replace NN := Lib.hid (Bgo NN.out HB.out)
  clear HB
  go_wp2_with fail
  generalize w.alloc (.cells #[.int .i64 d, .int .i64 p, .slice D ds.length cd, .slice A os.length ca] 25) = W1 at *
  refine (AL.out _).mono ?_
  rintro e w17 ⟨rfl, hb⟩
  replace NN := Lib.hid (Bgo NN.out hb)
  replace SB := Lib.hid (blk_next hb SB.out)
  clear hb
  have c_SB_0 := blk_cell SB.out 0 _ rfl
  have f_SB_0 := blk_frozen SB.out 0
  have c_SB_1 := blk_cell SB.out 1 _ rfl
  have f_SB_1 := blk_frozen SB.out 1
  have c_SB_2 := blk_cell SB.out 2 _ rfl
  have f_SB_2 := blk_frozen SB.out 2
  have c_SB_3 := blk_cell SB.out 3 _ rfl
  have f_SB_3 := blk_frozen SB.out 3
  have l_SB := blk_lt SB.out
  go_wp2_with fail
  refine (GR.out _ NN.out).mono ?_
  rintro e w18 ⟨rfl, hb⟩
  clear c_SB_0 f_SB_0 c_SB_1 f_SB_1 c_SB_2 f_SB_2 c_SB_3 f_SB_3 l_SB
  replace NN := Lib.hid (Bgo NN.out hb)
  replace SB := Lib.hid (blk_next hb SB.out)
  clear hb
  have c_SB_0 := blk_cell SB.out 0 _ rfl
  have f_SB_0 := blk_frozen SB.out 0
  have c_SB_1 := blk_cell SB.out 1 _ rfl
  have f_SB_1 := blk_frozen SB.out 1
  have c_SB_2 := blk_cell SB.out 2 _ rfl
  have f_SB_2 := blk_frozen SB.out 2
  have c_SB_3 := blk_cell SB.out 3 _ rfl
  have f_SB_3 := blk_frozen SB.out 3
  have l_SB := blk_lt SB.out
  go_wp2_with fail
  refine (K2.out _ NN.out).mono ?_
  rintro e w19 ⟨rfl, hb⟩
  clear c_SB_0 f_SB_0 c_SB_1 f_SB_1 c_SB_2 f_SB_2 c_SB_3 f_SB_3 l_SB
  replace NN := Lib.hid (Bgo NN.out hb)
  replace SB := Lib.hid (blk_next hb SB.out)
  clear hb
  have c_SB_0 := blk_cell SB.out 0 _ rfl
  have f_SB_0 := blk_frozen SB.out 0
  have c_SB_1 := blk_cell SB.out 1 _ rfl
  have f_SB_1 := blk_frozen SB.out 1
  have c_SB_2 := blk_cell SB.out 2 _ rfl
  have f_SB_2 := blk_frozen SB.out 2
  have c_SB_3 := blk_cell SB.out 3 _ rfl
  have f_SB_3 := blk_frozen SB.out 3
  have l_SB := blk_lt SB.out
  go_wp2_with fail
  refine (SC.out _ NN.out).mono ?_
  rintro e w20 ⟨v, rfl, hr, hb⟩
  obtain ⟨A9, c9, rfl, k9a, k9b, _⟩ := own_form hr
  clear hr
  clear c_SB_0 f_SB_0 c_SB_1 f_SB_1 c_SB_2 f_SB_2 c_SB_3 f_SB_3 l_SB
  replace NN := Lib.hid (Bgo NN.out hb)
  replace SB := Lib.hid (blk_next hb SB.out)
  clear hb
  have c_SB_0 := blk_cell SB.out 0 _ rfl
  have f_SB_0 := blk_frozen SB.out 0
  have c_SB_1 := blk_cell SB.out 1 _ rfl
  have f_SB_1 := blk_frozen SB.out 1
  have c_SB_2 := blk_cell SB.out 2 _ rfl
  have f_SB_2 := blk_frozen SB.out 2
  have c_SB_3 := blk_cell SB.out 3 _ rfl
  have f_SB_3 := blk_frozen SB.out 3
  have l_SB := blk_lt SB.out
  go_wp2_with fail
  have HDRW := Lib.hid (Below.drew (Below.refl w20.heap.size w20))
  replace NN := Lib.hid (Bgo NN.out HDRW.out)
  replace SB := Lib.hid (blk_next HDRW.out SB.out)
  clear HDRW
  have HAL : Hid (∀ kk : Nat, SZ [(5, ⟨w.heap.size, 0, none⟩, .int .i64 d), (5, ⟨w.heap.size, 1, none⟩, .int .i64 p), (5, ⟨w.heap.size, 2, none⟩, .slice D ds.length cd), (5, ⟨w.heap.size, 3, none⟩, .slice A os.length ca), (8, ⟨w.heap.size, 1, none⟩, .int .i64 p)] [] kk w20.drew) := Lib.hid (fun kk => by
   constructor
   ·intro p hp e
    simp only [List.mem_cons, List.not_mem_nil, or_false] at hp
    rcases hp with rfl | rfl | rfl | rfl | rfl
    ·exact ⟨blk_lt SB.out, blk_cell SB.out 0 _ rfl⟩
    ·exact ⟨blk_lt SB.out, blk_cell SB.out 1 _ rfl⟩
    ·exact ⟨blk_lt SB.out, blk_cell SB.out 2 _ rfl⟩
    ·exact ⟨blk_lt SB.out, blk_cell SB.out 3 _ rfl⟩
    ·exact ⟨blk_lt SB.out, blk_cell SB.out 1 _ rfl⟩
   ·intro p hp e
    exact absurd hp (by simp)
   )
  refine region_I (S := SZ [(5, ⟨w.heap.size, 0, none⟩, .int .i64 d), (5, ⟨w.heap.size, 1, none⟩, .int .i64 p), (5, ⟨w.heap.size, 2, none⟩, .slice D ds.length cd), (5, ⟨w.heap.size, 3, none⟩, .slice A os.length ca), (8, ⟨w.heap.size, 1, none⟩, .int .i64 p)] []) (by kernel_rfl) ?_
  refine tJ 0 (.bool true) (some 60) rfl (SZ.drop (by simp) (by simp)) (Or.inl ⟨by rfl, ?_⟩) ?_
  ·intro X hX
   clear hX
   go_simp
  try simp only [Act.put, zA, zB, zC]
  refine tJ 1 (.bool true) (some 61) rfl (SZ.drop (by simp) (by simp)) (Or.inl ⟨by rfl, ?_⟩) ?_
  ·intro X hX
   clear hX
   go_simp
  try simp only [Act.put, zA, zB, zC]
  refine tJ 2 (.int .i64 32) (some 62) rfl (SZ.drop (by simp) (by simp)) (Or.inl ⟨by rfl, ?_⟩) ?_
  ·intro X hX
   clear hX
   go_simp
  try simp only [Act.put, zA, zB, zC]
  refine tJ 3 (.bool false) (some 63) rfl (SZ.drop (by simp) (by simp)) (Or.inl ⟨by rfl, ?_⟩) ?_
  ·intro X hX
   clear hX
   go_simp
  try simp only [Act.put, zA, zB, zC]
  refine tJ 4 (.bool false) (some 64) rfl (SZ.drop (by simp) (by simp)) (Or.inl ⟨by rfl, ?_⟩) ?_
  ·intro X hX
   clear hX
   go_simp
  try simp only [Act.put, zA, zB, zC]
  refine tJ 5 (.agg #[.int .i64 d, .int .i64 p, .slice D ds.length cd, .slice A os.length ca]) (some 65) rfl (HAL.out 5) (Or.inl ⟨by rfl, ?_⟩) ?_
  ·intro X hX
   obtain ⟨hz0, hc0⟩ := hX.1 (5, ⟨w.heap.size, 0, none⟩, .int .i64 d) (List.Mem.head _) rfl
   simp only at hz0 hc0
   obtain ⟨hz1, hc1⟩ := hX.1 (5, ⟨w.heap.size, 1, none⟩, .int .i64 p) (List.Mem.tail _ (List.Mem.head _)) rfl
   simp only at hz1 hc1
   obtain ⟨hz2, hc2⟩ := hX.1 (5, ⟨w.heap.size, 2, none⟩, .slice D ds.length cd) (List.Mem.tail _ (List.Mem.tail _ (List.Mem.head _))) rfl
   simp only at hz2 hc2
   obtain ⟨hz3, hc3⟩ := hX.1 (5, ⟨w.heap.size, 3, none⟩, .slice A os.length ca) (List.Mem.tail _ (List.Mem.tail _ (List.Mem.tail _ (List.Mem.head _)))) rfl
   simp only at hz3 hc3
   clear hX
   go_simp
  try simp only [Act.put, zA, zB, zC]
  refine tJ 7 (.pointer (some ⟨w.heap.size, 1, none⟩)) (some 67) rfl (SZ.drop (by simp) (by simp)) (Or.inl ⟨by rfl, ?_⟩) ?_
  ·intro X hX
   clear hX
   go_simp
  try simp only [Act.put, zA, zB, zC]
  refine tJ 8 (.int .i64 p) (some 68) rfl (HAL.out 8) (Or.inl ⟨by rfl, ?_⟩) ?_
  ·intro X hX
   obtain ⟨hz4, hc4⟩ := hX.1 (8, ⟨w.heap.size, 1, none⟩, .int .i64 p) (List.Mem.tail _ (List.Mem.tail _ (List.Mem.tail _ (List.Mem.tail _ (List.Mem.head _))))) rfl
   simp only at hz4 hc4
   clear hX
   go_simp
  try simp only [Act.put, zA, zB, zC]
  refine only_I 6 (by kernel_rfl) rfl (fun K' hK' => ?_)
  go_simp
  go_at_call 24
  refine (FC.out _ NN.out).mono ?_
  rintro e x21 ⟨rfl, hb⟩
  replace NN := Lib.hid (Bgo NN.out hb)
  replace SB := Lib.hid (blk_next hb SB.out)
  go_simp
  refine hK'.out _ _ (fun _ _ hS => hS.next hb) ?_
  clear hK' K'
  try simp only [Act.put, zA, zB, zC]
  replace HAL := Lib.hid (fun kk => (HAL.out kk).next hb)
  clear hb
  refine tJ 9 (.bool true) (some 69) rfl (SZ.drop (by simp) (by simp)) (Or.inl ⟨by rfl, ?_⟩) ?_
  ·intro X hX
   clear hX
   go_simp
  try simp only [Act.put, zA, zB, zC]
  refine tJ 10 (.bool true) (some 70) rfl (SZ.drop (by simp) (by simp)) (Or.inl ⟨by rfl, ?_⟩) ?_
  ·intro X hX
   clear hX
   go_simp
  try simp only [Act.put, zA, zB, zC]
  refine tJ 11 (.bool true) (some 71) rfl (SZ.drop (by simp) (by simp)) (Or.inl ⟨by rfl, ?_⟩) ?_
  ·intro X hX
   clear hX
   go_simp
  try simp only [Act.put, zA, zB, zC]
  refine tJ 12 (.bool true) (some 8) rfl (SZ.drop (by simp) (by simp)) (Or.inl ⟨by rfl, ?_⟩) ?_
  ·intro X hX
   clear hX
   go_simp
  try simp only [Act.put, zA, zB, zC]
  clear HAL
  refine done_I (by kernel_rfl) ?_ _
  go_wp2_with fail
  go_ret
  exact ⟨rfl, NN.out⟩
 have se : scrE d p ds os = 0 := by unfold scrE; rw [if_pos hc, if_neg e1]
 rw [se] at SC
 by_cases e2 : scrR d p ds os = []
 rotate_left
 ·have t3 : decide ((0 : Int) < ((scrR d p ds os).length : Int)) = true := decide_eq_true (by have := List.length_pos_iff.2 e2; omega)
  have t3n : 0 < (scrR d p ds os).length := List.length_pos_iff.2 e2
  generalize scrR d p ds os = sr at *
  go_enter Try.func7, Try.ntmps7
  have HB : Hid (Below w.heap.size w (w.alloc (.cells #[.int .i64 d, .int .i64 p, .slice D ds.length cd, .slice A os.length ca] 25))) := Lib.hid (Bal (Below.refl _ _) _)
  have SB := Lib.hid (blk_new w (.cells #[.int .i64 d, .int .i64 p, .slice D ds.length cd, .slice A os.length ca] 25))
  have LT_SB : Hid (w.heap.size ≤ w.heap.size) := Lib.hid NN.out.size
  replace NN := Lib.hid (Bgo NN.out HB.out)
  clear HB
  go_wp2_with fail
  generalize w.alloc (.cells #[.int .i64 d, .int .i64 p, .slice D ds.length cd, .slice A os.length ca] 25) = W1 at *
  refine (AL.out _).mono ?_
  rintro e w23 ⟨rfl, hb⟩
  replace NN := Lib.hid (Bgo NN.out hb)
  replace SB := Lib.hid (blk_next hb SB.out)
  clear hb
  have c_SB_0 := blk_cell SB.out 0 _ rfl
  have f_SB_0 := blk_frozen SB.out 0
  have c_SB_1 := blk_cell SB.out 1 _ rfl
  have f_SB_1 := blk_frozen SB.out 1
  have c_SB_2 := blk_cell SB.out 2 _ rfl
  have f_SB_2 := blk_frozen SB.out 2
  have c_SB_3 := blk_cell SB.out 3 _ rfl
  have f_SB_3 := blk_frozen SB.out 3
  have l_SB := blk_lt SB.out
  go_wp2_with fail
  refine (GR.out _ NN.out).mono ?_
  rintro e w24 ⟨rfl, hb⟩
  clear c_SB_0 f_SB_0 c_SB_1 f_SB_1 c_SB_2 f_SB_2 c_SB_3 f_SB_3 l_SB
  replace NN := Lib.hid (Bgo NN.out hb)
  replace SB := Lib.hid (blk_next hb SB.out)
  clear hb
  have c_SB_0 := blk_cell SB.out 0 _ rfl
  have f_SB_0 := blk_frozen SB.out 0
  have c_SB_1 := blk_cell SB.out 1 _ rfl
  have f_SB_1 := blk_frozen SB.out 1
  have c_SB_2 := blk_cell SB.out 2 _ rfl
  have f_SB_2 := blk_frozen SB.out 2
  have c_SB_3 := blk_cell SB.out 3 _ rfl
  have f_SB_3 := blk_frozen SB.out 3
  have l_SB := blk_lt SB.out
  go_wp2_with fail
  refine (K2.out _ NN.out).mono ?_
  rintro e w25 ⟨rfl, hb⟩
  clear c_SB_0 f_SB_0 c_SB_1 f_SB_1 c_SB_2 f_SB_2 c_SB_3 f_SB_3 l_SB
  replace NN := Lib.hid (Bgo NN.out hb)
  replace SB := Lib.hid (blk_next hb SB.out)
  clear hb
  have c_SB_0 := blk_cell SB.out 0 _ rfl
  have f_SB_0 := blk_frozen SB.out 0
  have c_SB_1 := blk_cell SB.out 1 _ rfl
  have f_SB_1 := blk_frozen SB.out 1
  have c_SB_2 := blk_cell SB.out 2 _ rfl
  have f_SB_2 := blk_frozen SB.out 2
  have c_SB_3 := blk_cell SB.out 3 _ rfl
  have f_SB_3 := blk_frozen SB.out 3
  have l_SB := blk_lt SB.out
  go_wp2_with fail
  refine (SC.out _ NN.out).mono ?_
  rintro e w26 ⟨v, rfl, hr, hb⟩
  obtain ⟨A9, c9, rfl, k9a, k9b, _⟩ := own_form hr
  clear hr
  clear c_SB_0 f_SB_0 c_SB_1 f_SB_1 c_SB_2 f_SB_2 c_SB_3 f_SB_3 l_SB
  replace NN := Lib.hid (Bgo NN.out hb)
  replace SB := Lib.hid (blk_next hb SB.out)
  clear hb
  have c_SB_0 := blk_cell SB.out 0 _ rfl
  have f_SB_0 := blk_frozen SB.out 0
  have c_SB_1 := blk_cell SB.out 1 _ rfl
  have f_SB_1 := blk_frozen SB.out 1
  have c_SB_2 := blk_cell SB.out 2 _ rfl
  have f_SB_2 := blk_frozen SB.out 2
  have c_SB_3 := blk_cell SB.out 3 _ rfl
  have f_SB_3 := blk_frozen SB.out 3
  have l_SB := blk_lt SB.out
  go_wp2_with fail
  have HDRW := Lib.hid (Below.drew (Below.refl w26.heap.size w26))
  replace NN := Lib.hid (Bgo NN.out HDRW.out)
  replace SB := Lib.hid (blk_next HDRW.out SB.out)
  clear HDRW
  have HAL : Hid (∀ kk : Nat, SZ [] [] kk w26.drew) := Lib.hid (fun kk => by
   constructor
   ·intro p hp e
    exact absurd hp (by simp)
   ·intro p hp e
    exact absurd hp (by simp)
   )
  refine region_I (S := SZ [] []) (by kernel_rfl) ?_
  refine tJ 0 (.bool true) (some 60) rfl (SZ.drop (by simp) (by simp)) (Or.inl ⟨by rfl, ?_⟩) ?_
  ·intro X hX
   clear hX
   go_simp
  try simp only [Act.put, zA, zB, zC]
  refine tJ 1 (.bool true) (some 61) rfl (SZ.drop (by simp) (by simp)) (Or.inl ⟨by rfl, ?_⟩) ?_
  ·intro X hX
   clear hX
   go_simp
  try simp only [Act.put, zA, zB, zC]
  refine tJ 2 (.int .i64 0) (some 62) rfl (SZ.drop (by simp) (by simp)) (Or.inl ⟨by rfl, ?_⟩) ?_
  ·intro X hX
   clear hX
   go_simp
  try simp only [Act.put, zA, zB, zC]
  refine tJ 3 (.bool true) (some 63) rfl (SZ.drop (by simp) (by simp)) (Or.inl ⟨by rfl, ?_⟩) ?_
  ·intro X hX
   clear hX
   go_simp
  try simp only [Act.put, zA, zB, zC]
  refine tJ 4 (.bool true) (some 64) rfl (SZ.drop (by simp) (by simp)) (Or.inl ⟨by rfl, ?_⟩) ?_
  ·intro X hX
   clear hX
   go_simp
  try simp only [Act.put, zA, zB, zC]
  refine tJ 5 undef (some 65) rfl (HAL.out 5) (Or.inr ⟨by rfl, rfl⟩) ?_
  try simp only [Act.put, zA, zB, zC]
  refine tJ 6 undef (some 66) rfl (HAL.out 6) (Or.inr ⟨by rfl, rfl⟩) ?_
  try simp only [Act.put, zA, zB, zC]
  refine tJ 7 undef (some 67) rfl (HAL.out 7) (Or.inr ⟨by rfl, rfl⟩) ?_
  try simp only [Act.put, zA, zB, zC]
  refine tJ 8 undef (some 68) rfl (HAL.out 8) (Or.inr ⟨by rfl, rfl⟩) ?_
  try simp only [Act.put, zA, zB, zC]
  refine tJ 9 undef (some 69) rfl (HAL.out 9) (Or.inr ⟨by rfl, rfl⟩) ?_
  try simp only [Act.put, zA, zB, zC]
  refine tJ 10 (.bool true) (some 70) rfl (SZ.drop (by simp) (by simp)) (Or.inl ⟨by rfl, ?_⟩) ?_
  ·intro X hX
   clear hX
   go_simp
  try simp only [Act.put, zA, zB, zC]
  refine tJ 11 (.bool true) (some 71) rfl (SZ.drop (by simp) (by simp)) (Or.inl ⟨by rfl, ?_⟩) ?_
  ·intro X hX
   clear hX
   go_simp
  try simp only [Act.put, zA, zB, zC]
  refine tJ 12 (.bool true) (some 8) rfl (SZ.drop (by simp) (by simp)) (Or.inl ⟨by rfl, ?_⟩) ?_
  ·intro X hX
   clear hX
   go_simp
  try simp only [Act.put, zA, zB, zC]
  clear HAL
  refine done_I (by kernel_rfl) ?_ _
  go_wp2_with fail
  go_ret
  exact ⟨rfl, NN.out⟩
 rw [e2] at SC
 obtain ⟨Dn, P, n, T, rfl, rfl, hn, GD, hlive⟩ := OkS.gd OK.out BD.out se e2
 have GDH := Lib.hid GD
 clear GD se e2 e1
 have PU := Lib.hid (fun (W : World) (h : Below w.heap.size w W) => put_calls (Dn : Int) (P : Int) D A cd ca B ds os nm Ab cb 0 b W hnd hcd hna hca (HD.out.next h) (HS.out.next h) HL.out hnm hb1 hb2 (RBA.next h HBY.out))
 have FA := Lib.hid (fun (W : World) (h : Below w.heap.size w W) => fail_calls (Dn : Int) (P : Int) D A cd ca B ds os x W hnd hcd hna hca (HD.out.next h) (HS.out.next h) HL.out)
 rw [hn] at ST
 by_cases hp : putE Dn P ds os nm b = 0
 rotate_left
 ·have p1 : (putE Dn P ds os nm b != 0) = true := by rw [bne_iff_ne]; exact hp
  have p2 : decide (putE Dn P ds os nm b = 0) = false := decide_eq_false hp
  clear hp
  generalize putE Dn P ds os nm b = pe at *
  obtain ⟨⟨y1, y2, y3, y4⟩, hy⟩ : ∃ r, putS Dn P ds os nm b = r := ⟨_, rfl⟩
  rw [hy] at PU
  clear hy
  go_enter Try.func7, Try.ntmps7
  have HB : Hid (Below w.heap.size w (w.alloc (.cells #[.int .i64 (Dn : Int), .int .i64 (P : Int), .slice D ds.length cd, .slice A os.length ca] 25))) := Lib.hid (Bal (Below.refl _ _) _)
  have SB := Lib.hid (blk_new w (.cells #[.int .i64 (Dn : Int), .int .i64 (P : Int), .slice D ds.length cd, .slice A os.length ca] 25))
  have LT_SB : Hid (w.heap.size ≤ w.heap.size) := Lib.hid NN.out.size
  replace NN := Lib.hid (Bgo NN.out HB.out)
  clear HB
  go_wp2_with fail
  generalize w.alloc (.cells #[.int .i64 (Dn : Int), .int .i64 (P : Int), .slice D ds.length cd, .slice A os.length ca] 25) = W1 at *
  refine (AL.out _).mono ?_
  rintro e w28 ⟨rfl, hb⟩
  replace NN := Lib.hid (Bgo NN.out hb)
  replace SB := Lib.hid (blk_next hb SB.out)
  clear hb
  have c_SB_0 := blk_cell SB.out 0 _ rfl
  have f_SB_0 := blk_frozen SB.out 0
  have c_SB_1 := blk_cell SB.out 1 _ rfl
  have f_SB_1 := blk_frozen SB.out 1
  have c_SB_2 := blk_cell SB.out 2 _ rfl
  have f_SB_2 := blk_frozen SB.out 2
  have c_SB_3 := blk_cell SB.out 3 _ rfl
  have f_SB_3 := blk_frozen SB.out 3
  have l_SB := blk_lt SB.out
  go_wp2_with fail
  refine (GR.out _ NN.out).mono ?_
  rintro e w29 ⟨rfl, hb⟩
  clear c_SB_0 f_SB_0 c_SB_1 f_SB_1 c_SB_2 f_SB_2 c_SB_3 f_SB_3 l_SB
  replace NN := Lib.hid (Bgo NN.out hb)
  replace SB := Lib.hid (blk_next hb SB.out)
  clear hb
  have c_SB_0 := blk_cell SB.out 0 _ rfl
  have f_SB_0 := blk_frozen SB.out 0
  have c_SB_1 := blk_cell SB.out 1 _ rfl
  have f_SB_1 := blk_frozen SB.out 1
  have c_SB_2 := blk_cell SB.out 2 _ rfl
  have f_SB_2 := blk_frozen SB.out 2
  have c_SB_3 := blk_cell SB.out 3 _ rfl
  have f_SB_3 := blk_frozen SB.out 3
  have l_SB := blk_lt SB.out
  go_wp2_with fail
  refine (K2.out _ NN.out).mono ?_
  rintro e w30 ⟨rfl, hb⟩
  clear c_SB_0 f_SB_0 c_SB_1 f_SB_1 c_SB_2 f_SB_2 c_SB_3 f_SB_3 l_SB
  replace NN := Lib.hid (Bgo NN.out hb)
  replace SB := Lib.hid (blk_next hb SB.out)
  clear hb
  have c_SB_0 := blk_cell SB.out 0 _ rfl
  have f_SB_0 := blk_frozen SB.out 0
  have c_SB_1 := blk_cell SB.out 1 _ rfl
  have f_SB_1 := blk_frozen SB.out 1
  have c_SB_2 := blk_cell SB.out 2 _ rfl
  have f_SB_2 := blk_frozen SB.out 2
  have c_SB_3 := blk_cell SB.out 3 _ rfl
  have f_SB_3 := blk_frozen SB.out 3
  have l_SB := blk_lt SB.out
  go_wp2_with fail
  refine (SC.out _ NN.out).mono ?_
  rintro e w31 ⟨v, rfl, hr, hb⟩
  obtain ⟨A9, c9, rfl, k9a, k9b, _⟩ := own_form hr
  clear hr
  clear c_SB_0 f_SB_0 c_SB_1 f_SB_1 c_SB_2 f_SB_2 c_SB_3 f_SB_3 l_SB
  replace NN := Lib.hid (Bgo NN.out hb)
  replace SB := Lib.hid (blk_next hb SB.out)
  clear hb
  have c_SB_0 := blk_cell SB.out 0 _ rfl
  have f_SB_0 := blk_frozen SB.out 0
  have c_SB_1 := blk_cell SB.out 1 _ rfl
  have f_SB_1 := blk_frozen SB.out 1
  have c_SB_2 := blk_cell SB.out 2 _ rfl
  have f_SB_2 := blk_frozen SB.out 2
  have c_SB_3 := blk_cell SB.out 3 _ rfl
  have f_SB_3 := blk_frozen SB.out 3
  have l_SB := blk_lt SB.out
  simp only [List.length_nil] at *
  go_wp2_with fail
  refine (PU.out _ NN.out).mono ?_
  rintro e w32 ⟨v, u, rfl, ht, hu, hb⟩
  try simp only at ht hu
  obtain ⟨A3, c3, rfl, k3a, k3b⟩ := ht.form
  obtain ⟨B3, d3, rfl, k3c, k3d⟩ := hu.form
  have T3 := Lib.hid ht.rd
  have U3 := Lib.hid hu.ro
  clear ht hu
  clear c_SB_0 f_SB_0 c_SB_1 f_SB_1 c_SB_2 f_SB_2 c_SB_3 f_SB_3 l_SB
  replace NN := Lib.hid (Bgo NN.out hb)
  replace SB := Lib.hid (blk_next hb SB.out)
  clear hb
  have HB : Hid (Below w32.heap.size w32 (w32.alloc (.cells #[.int .i64 y1, .int .i64 y2, .slice A3 y3.length c3, .slice B3 y4.length d3] 25))) := Lib.hid (Bal (Below.refl _ _) _)
  have S3 := Lib.hid (blk_new w32 (.cells #[.int .i64 y1, .int .i64 y2, .slice A3 y3.length c3, .slice B3 y4.length d3] 25))
  have LT_S3 : Hid (w.heap.size < w32.heap.size ∧ w.heap.size ≤ w32.heap.size) := Lib.hid ⟨blk_lt SB.out, NN.out.size⟩
  replace NN := Lib.hid (Bgo NN.out HB.out)
  replace T3 := Lib.hid (T3.out.next HB.out)
  replace U3 := Lib.hid (U3.out.next HB.out)
  replace SB := Lib.hid (blk_next HB.out SB.out)
  clear HB
  have c_SB_0 := blk_cell SB.out 0 _ rfl
  have f_SB_0 := blk_frozen SB.out 0
  have c_SB_1 := blk_cell SB.out 1 _ rfl
  have f_SB_1 := blk_frozen SB.out 1
  have c_SB_2 := blk_cell SB.out 2 _ rfl
  have f_SB_2 := blk_frozen SB.out 2
  have c_SB_3 := blk_cell SB.out 3 _ rfl
  have f_SB_3 := blk_frozen SB.out 3
  have l_SB := blk_lt SB.out
  go_wp2_with fail
  clear c_SB_0 f_SB_0 c_SB_1 f_SB_1 c_SB_2 f_SB_2 c_SB_3 f_SB_3 l_SB
  generalize w32.alloc (.cells #[.int .i64 y1, .int .i64 y2, .slice A3 y3.length c3, .slice B3 y4.length d3] 25) = W33 at *
  generalize w32.heap.size = g33 at *
  clear S3 T3 U3
  by_cases hf : faiE Dn P ds os x = 0
  rotate_left
  ·have f1 : (faiE Dn P ds os x != 0) = true := by rw [bne_iff_ne]; exact hf
   have f2 : decide (faiE Dn P ds os x = 0) = false := decide_eq_false hf
   clear hf
   generalize faiE Dn P ds os x = fe at *
   obtain ⟨⟨y1, y2, y3, y4⟩, hy⟩ : ∃ r, faiS Dn P ds os x = r := ⟨_, rfl⟩
   rw [hy] at FA
   clear hy
   refine (FA.out _ NN.out).mono ?_
   rintro e w34 ⟨v, u, rfl, ht, hu, hb⟩
   try simp only at ht hu
   obtain ⟨A6, c6, rfl, k6a, k6b⟩ := ht.form
   obtain ⟨B6, d6, rfl, k6c, k6d⟩ := hu.form
   have T6 := Lib.hid ht.rd
   have U6 := Lib.hid hu.ro
   clear ht hu
   replace NN := Lib.hid (Bgo NN.out hb)
   replace SB := Lib.hid (blk_next hb SB.out)
   clear hb
   have HB : Hid (Below w34.heap.size w34 (w34.alloc (.cells #[.int .i64 y1, .int .i64 y2, .slice A6 y3.length c6, .slice B6 y4.length d6] 25))) := Lib.hid (Bal (Below.refl _ _) _)
   have S6 := Lib.hid (blk_new w34 (.cells #[.int .i64 y1, .int .i64 y2, .slice A6 y3.length c6, .slice B6 y4.length d6] 25))
   have LT_S6 : Hid (w.heap.size < w34.heap.size ∧ w.heap.size ≤ w34.heap.size) := Lib.hid ⟨blk_lt SB.out, NN.out.size⟩
   replace NN := Lib.hid (Bgo NN.out HB.out)
   replace T6 := Lib.hid (T6.out.next HB.out)
   replace U6 := Lib.hid (U6.out.next HB.out)
   replace SB := Lib.hid (blk_next HB.out SB.out)
   clear HB
   go_wp2_with fail
   generalize w34.alloc (.cells #[.int .i64 y1, .int .i64 y2, .slice A6 y3.length c6, .slice B6 y4.length d6] 25) = W35 at *
   generalize w34.heap.size = g35 at *
   go_ret
   exact ⟨rfl, NN.out⟩
  obtain ⟨es, fs, r1, r2⟩ := back_facts GDH.out hf
  rw [fs, hf] at FA
  have HR1 := Lib.hid r1
  have HR2 := Lib.hid r2
  clear fs hf r1 r2
  refine (FA.out _ NN.out).mono ?_
  rintro e w36 ⟨v, u, rfl, ht, hu, hb⟩
  try simp only at ht hu
  obtain ⟨A6, c6, rfl, k6a, k6b⟩ := ht.form
  obtain ⟨B6, d6, rfl, k6c, k6d⟩ := hu.form
  have T6 := Lib.hid ht.rd
  have U6 := Lib.hid hu.ro
  clear ht hu
  replace NN := Lib.hid (Bgo NN.out hb)
  replace SB := Lib.hid (blk_next hb SB.out)
  clear hb
  have HB : Hid (Below w36.heap.size w36 (w36.alloc (.cells #[.int .i64 (Dn : Int), .int .i64 (P : Int), .slice A6 es.length c6, .slice B6 os.length d6] 25))) := Lib.hid (Bal (Below.refl _ _) _)
  have S6 := Lib.hid (blk_new w36 (.cells #[.int .i64 (Dn : Int), .int .i64 (P : Int), .slice A6 es.length c6, .slice B6 os.length d6] 25))
  have LT_S6 : Hid (w.heap.size < w36.heap.size ∧ w.heap.size ≤ w36.heap.size) := Lib.hid ⟨blk_lt SB.out, NN.out.size⟩
  replace NN := Lib.hid (Bgo NN.out HB.out)
  replace T6 := Lib.hid (T6.out.next HB.out)
  replace U6 := Lib.hid (U6.out.next HB.out)
  replace SB := Lib.hid (blk_next HB.out SB.out)
  clear HB
  have c_S6_0 := blk_cell S6.out 0 _ rfl
  have f_S6_0 := blk_frozen S6.out 0
  have c_S6_1 := blk_cell S6.out 1 _ rfl
  have f_S6_1 := blk_frozen S6.out 1
  have c_S6_2 := blk_cell S6.out 2 _ rfl
  have f_S6_2 := blk_frozen S6.out 2
  have c_S6_3 := blk_cell S6.out 3 _ rfl
  have f_S6_3 := blk_frozen S6.out 3
  have l_S6 := blk_lt S6.out
  go_wp2_with fail
  clear c_S6_0 f_S6_0 c_S6_1 f_S6_1 c_S6_2 f_S6_2 c_S6_3 f_S6_3 l_S6
  generalize w36.alloc (.cells #[.int .i64 (Dn : Int), .int .i64 (P : Int), .slice A6 es.length c6, .slice B6 os.length d6] 25) = W37 at *
  generalize w36.heap.size = g37 at *
  have RP := Lib.hid (fun (Bx : Nat) (W : World) (h1 : RD Bx W A6 es) (h2 : RO Bx W B6 os) => replace_calls (Dn : Int) (P : Int) A6 B6 c6 d6 _ es os x W k6a k6b k6c k6d h1 h2 HL.out)
  by_cases h0 : 0 < n
  rotate_left
  ·have g1 : decide ((0 : Int) < (n : Int)) = false := decide_eq_false (by omega)
   obtain ⟨re, rs⟩ := HR2.out (fun h => h0 h.1)
   rw [re, rs] at RP
   clear re rs
   refine (RP.out _ _ T6.out U6.out).mono ?_
   rintro e w38 ⟨v, u, rfl, ht, hu, hb⟩
   try simp only at ht hu
   obtain ⟨A7, c7, rfl, k7a, k7b⟩ := ht.form
   obtain ⟨B7, d7, rfl, k7c, k7d⟩ := hu.form
   have T7 := Lib.hid ht.rd
   have U7 := Lib.hid hu.ro
   clear ht hu
   replace NN := Lib.hid (Bgo NN.out hb)
   replace T6 := Lib.hid (T6.out.next hb)
   replace U6 := Lib.hid (U6.out.next hb)
   replace SB := Lib.hid (blk_next hb SB.out)
   replace S6 := Lib.hid (blk_next hb S6.out)
   clear hb
   have HB : Hid (Below w38.heap.size w38 (w38.alloc (.cells #[.int .i64 (Dn : Int), .int .i64 (P : Int), .slice A7 ds.length c7, .slice B7 os.length d7] 25))) := Lib.hid (Bal (Below.refl _ _) _)
   have S7 := Lib.hid (blk_new w38 (.cells #[.int .i64 (Dn : Int), .int .i64 (P : Int), .slice A7 ds.length c7, .slice B7 os.length d7] 25))
   have LT_S7 : Hid (w.heap.size < w38.heap.size ∧ g37 < w38.heap.size ∧ w.heap.size ≤ w38.heap.size) := Lib.hid ⟨blk_lt SB.out, blk_lt S6.out, NN.out.size⟩
   replace NN := Lib.hid (Bgo NN.out HB.out)
   replace T6 := Lib.hid (T6.out.next HB.out)
   replace U6 := Lib.hid (U6.out.next HB.out)
   replace T7 := Lib.hid (T7.out.next HB.out)
   replace U7 := Lib.hid (U7.out.next HB.out)
   replace SB := Lib.hid (blk_next HB.out SB.out)
   replace S6 := Lib.hid (blk_next HB.out S6.out)
   clear HB
   go_wp2_with fail
   generalize w38.alloc (.cells #[.int .i64 (Dn : Int), .int .i64 (P : Int), .slice A7 ds.length c7, .slice B7 os.length d7] 25) = W39 at *
   generalize w38.heap.size = g39 at *
   have HDRW := Lib.hid (Below.drew (Below.refl W39.heap.size W39))
   replace NN := Lib.hid (Bgo NN.out HDRW.out)
   replace T6 := Lib.hid (T6.out.next HDRW.out)
   replace U6 := Lib.hid (U6.out.next HDRW.out)
   replace T7 := Lib.hid (T7.out.next HDRW.out)
   replace U7 := Lib.hid (U7.out.next HDRW.out)
   replace SB := Lib.hid (blk_next HDRW.out SB.out)
   replace S6 := Lib.hid (blk_next HDRW.out S6.out)
   replace S7 := Lib.hid (blk_next HDRW.out S7.out)
   clear HDRW
   have HAL : Hid (∀ kk : Nat, SZ [(0, ⟨w.heap.size, 0, none⟩, .int .i64 (Dn : Int)), (0, ⟨w.heap.size, 1, none⟩, .int .i64 (P : Int)), (0, ⟨w.heap.size, 2, none⟩, .slice D ds.length cd), (0, ⟨w.heap.size, 3, none⟩, .slice A os.length ca)] [] kk W39.drew) := Lib.hid (fun kk => by
    constructor
    ·intro p hp e
     simp only [List.mem_cons, List.not_mem_nil, or_false] at hp
     rcases hp with rfl | rfl | rfl | rfl
     ·exact ⟨blk_lt SB.out, blk_cell SB.out 0 _ rfl⟩
     ·exact ⟨blk_lt SB.out, blk_cell SB.out 1 _ rfl⟩
     ·exact ⟨blk_lt SB.out, blk_cell SB.out 2 _ rfl⟩
     ·exact ⟨blk_lt SB.out, blk_cell SB.out 3 _ rfl⟩
    ·intro p hp e
     exact absurd hp (by simp)
    )
   refine region_I (S := SZ [(0, ⟨w.heap.size, 0, none⟩, .int .i64 (Dn : Int)), (0, ⟨w.heap.size, 1, none⟩, .int .i64 (P : Int)), (0, ⟨w.heap.size, 2, none⟩, .slice D ds.length cd), (0, ⟨w.heap.size, 3, none⟩, .slice A os.length ca)] []) (by kernel_rfl) ?_
   refine tJ 0 (.agg #[.int .i64 (Dn : Int), .int .i64 (P : Int), .slice D ds.length cd, .slice A os.length ca]) (some 178) rfl (HAL.out 0) (Or.inl ⟨by rfl, ?_⟩) ?_
   ·intro X hX
    obtain ⟨hz0, hc0⟩ := hX.1 (0, ⟨w.heap.size, 0, none⟩, .int .i64 (Dn : Int)) (List.Mem.head _) rfl
    simp only at hz0 hc0
    obtain ⟨hz1, hc1⟩ := hX.1 (0, ⟨w.heap.size, 1, none⟩, .int .i64 (P : Int)) (List.Mem.tail _ (List.Mem.head _)) rfl
    simp only at hz1 hc1
    obtain ⟨hz2, hc2⟩ := hX.1 (0, ⟨w.heap.size, 2, none⟩, .slice D ds.length cd) (List.Mem.tail _ (List.Mem.tail _ (List.Mem.head _))) rfl
    simp only at hz2 hc2
    obtain ⟨hz3, hc3⟩ := hX.1 (0, ⟨w.heap.size, 3, none⟩, .slice A os.length ca) (List.Mem.tail _ (List.Mem.tail _ (List.Mem.tail _ (List.Mem.head _)))) rfl
    simp only at hz3 hc3
    clear hX
    go_simp
   try simp only [Act.put, zA, zB, zC]
   refine only_I 1 (by kernel_rfl) rfl (fun K' hK' => ?_)
   go_simp
   go_at_call 28
   refine (ST.out _ NN.out).mono ?_
   rintro e x40 ⟨rfl, hb⟩
   replace NN := Lib.hid (Bgo NN.out hb)
   replace T6 := Lib.hid (T6.out.next hb)
   replace U6 := Lib.hid (U6.out.next hb)
   replace T7 := Lib.hid (T7.out.next hb)
   replace U7 := Lib.hid (U7.out.next hb)
   replace SB := Lib.hid (blk_next hb SB.out)
   replace S6 := Lib.hid (blk_next hb S6.out)
   replace S7 := Lib.hid (blk_next hb S7.out)
   go_simp
   refine hK'.out _ _ (fun _ _ hS => hS.next hb) ?_
   clear hK' K'
   try simp only [Act.put, zA, zB, zC]
   replace HAL := Lib.hid (fun kk => (HAL.out kk).next hb)
   clear hb
   refine tJ 2 (.bool false) (some 180) rfl (SZ.drop (by simp) (by simp)) (Or.inl ⟨by rfl, ?_⟩) ?_
   ·intro X hX
    clear hX
    go_simp
   try simp only [Act.put, zA, zB, zC]
   refine tJ 3 (.bool false) (some 181) rfl (SZ.drop (by simp) (by simp)) (Or.inl ⟨by rfl, ?_⟩) ?_
   ·intro X hX
    clear hX
    go_simp
   try simp only [Act.put, zA, zB, zC]
   refine tJ 4 undef (some 182) rfl (HAL.out 4) (Or.inr ⟨by rfl, rfl⟩) ?_
   try simp only [Act.put, zA, zB, zC]
   refine tJ 5 undef (some 183) rfl (HAL.out 5) (Or.inr ⟨by rfl, rfl⟩) ?_
   try simp only [Act.put, zA, zB, zC]
   refine tJ 6 undef (some 184) rfl (HAL.out 6) (Or.inr ⟨by rfl, rfl⟩) ?_
   try simp only [Act.put, zA, zB, zC]
   refine tJ 7 undef (some 185) rfl (HAL.out 7) (Or.inr ⟨by rfl, rfl⟩) ?_
   try simp only [Act.put, zA, zB, zC]
   refine tJ 8 undef (some 186) rfl (HAL.out 8) (Or.inr ⟨by rfl, rfl⟩) ?_
   try simp only [Act.put, zA, zB, zC]
   refine tJ 9 undef (some 187) rfl (HAL.out 9) (Or.inr ⟨by rfl, rfl⟩) ?_
   try simp only [Act.put, zA, zB, zC]
   refine tJ 10 (.bool false) (some 188) rfl (SZ.drop (by simp) (by simp)) (Or.inl ⟨by rfl, ?_⟩) ?_
   ·intro X hX
    clear hX
    go_simp
   try simp only [Act.put, zA, zB, zC]
   clear HAL
   refine done_I (by kernel_rfl) ?_ _
   have c_S7_0 := blk_cell S7.out 0 _ rfl
   have f_S7_0 := blk_frozen S7.out 0
   have c_S7_1 := blk_cell S7.out 1 _ rfl
   have f_S7_1 := blk_frozen S7.out 1
   have c_S7_2 := blk_cell S7.out 2 _ rfl
   have f_S7_2 := blk_frozen S7.out 2
   have c_S7_3 := blk_cell S7.out 3 _ rfl
   have f_S7_3 := blk_frozen S7.out 3
   have l_S7 := blk_lt S7.out
   have c_SB_0 := blk_cell SB.out 0 _ rfl
   have f_SB_0 := blk_frozen SB.out 0
   have c_SB_1 := blk_cell SB.out 1 _ rfl
   have f_SB_1 := blk_frozen SB.out 1
   have c_SB_2 := blk_cell SB.out 2 _ rfl
   have f_SB_2 := blk_frozen SB.out 2
   have c_SB_3 := blk_cell SB.out 3 _ rfl
   have f_SB_3 := blk_frozen SB.out 3
   have l_SB := blk_lt SB.out
   go_wp2_with fail
   refine (same_self (Dn : Int) (P : Int) A7 B7 c7 d7 _ ds os D A cd ca B _ k7a k7b k7c k7d T7.out U7.out hnd hcd hna hca (HD.out.next NN.out) (HS.out.next NN.out)).mono ?_
   rintro e wz ⟨rfl, hb⟩
   go_wp2_with fail
   go_ret
   exact ⟨rfl, Bgo NN.out hb⟩
  have g1 : decide ((0 : Int) < (n : Int)) = true := decide_eq_true (by omega)
  have fb : (faN ds : Int) + 1 ≤ 9223372036854775807 := by have := faN_le ds; omega
  have fw : IntKind.i64.wrap ((faN ds : Int) + 1) = (faN ds : Int) + 1 := IntWalk.i64_in _ (by omega)
  by_cases h1 : (P : Int) < (faN ds : Int) + 1
  ·have g2 : decide ((P : Int) < (faN ds : Int) + 1) = true := decide_eq_true h1
   have re := HR1.out h0 h1
   obtain ⟨⟨z1, z2, z3, z4⟩, hz⟩ : ∃ r, repS Dn P es os x = r := ⟨_, rfl⟩
   rw [re, hz] at RP
   clear re hz
   refine (RP.out _ _ T6.out U6.out).mono ?_
   rintro e w41 ⟨v, u, rfl, ht, hu, hb⟩
   try simp only at ht hu
   obtain ⟨A7, c7, rfl, k7a, k7b⟩ := ht.form
   obtain ⟨B7, d7, rfl, k7c, k7d⟩ := hu.form
   have T7 := Lib.hid ht.rd
   have U7 := Lib.hid hu.ro
   clear ht hu
   replace NN := Lib.hid (Bgo NN.out hb)
   replace T6 := Lib.hid (T6.out.next hb)
   replace U6 := Lib.hid (U6.out.next hb)
   replace SB := Lib.hid (blk_next hb SB.out)
   replace S6 := Lib.hid (blk_next hb S6.out)
   clear hb
   have HB : Hid (Below w41.heap.size w41 (w41.alloc (.cells #[.int .i64 z1, .int .i64 z2, .slice A7 z3.length c7, .slice B7 z4.length d7] 25))) := Lib.hid (Bal (Below.refl _ _) _)
   have S7 := Lib.hid (blk_new w41 (.cells #[.int .i64 z1, .int .i64 z2, .slice A7 z3.length c7, .slice B7 z4.length d7] 25))
   have LT_S7 : Hid (w.heap.size < w41.heap.size ∧ g37 < w41.heap.size ∧ w.heap.size ≤ w41.heap.size) := Lib.hid ⟨blk_lt SB.out, blk_lt S6.out, NN.out.size⟩
   replace NN := Lib.hid (Bgo NN.out HB.out)
   replace T6 := Lib.hid (T6.out.next HB.out)
   replace U6 := Lib.hid (U6.out.next HB.out)
   replace T7 := Lib.hid (T7.out.next HB.out)
   replace U7 := Lib.hid (U7.out.next HB.out)
   replace SB := Lib.hid (blk_next HB.out SB.out)
   replace S6 := Lib.hid (blk_next HB.out S6.out)
   clear HB
   go_wp2_with fail
   generalize w41.alloc (.cells #[.int .i64 z1, .int .i64 z2, .slice A7 z3.length c7, .slice B7 z4.length d7] 25) = W42 at *
   generalize w41.heap.size = g42 at *
   have HDRW := Lib.hid (Below.drew (Below.refl W42.heap.size W42))
   replace NN := Lib.hid (Bgo NN.out HDRW.out)
   replace T6 := Lib.hid (T6.out.next HDRW.out)
   replace U6 := Lib.hid (U6.out.next HDRW.out)
   replace T7 := Lib.hid (T7.out.next HDRW.out)
   replace U7 := Lib.hid (U7.out.next HDRW.out)
   replace SB := Lib.hid (blk_next HDRW.out SB.out)
   replace S6 := Lib.hid (blk_next HDRW.out S6.out)
   replace S7 := Lib.hid (blk_next HDRW.out S7.out)
   clear HDRW
   have HAL : Hid (∀ kk : Nat, SZ [(0, ⟨w.heap.size, 0, none⟩, .int .i64 (Dn : Int)), (0, ⟨w.heap.size, 1, none⟩, .int .i64 (P : Int)), (0, ⟨w.heap.size, 2, none⟩, .slice D ds.length cd), (0, ⟨w.heap.size, 3, none⟩, .slice A os.length ca), (4, ⟨w.heap.size, 0, none⟩, .int .i64 (Dn : Int)), (4, ⟨w.heap.size, 1, none⟩, .int .i64 (P : Int)), (4, ⟨w.heap.size, 2, none⟩, .slice D ds.length cd), (4, ⟨w.heap.size, 3, none⟩, .slice A os.length ca), (8, ⟨w.heap.size, 1, none⟩, .int .i64 (P : Int))] [] kk W42.drew) := Lib.hid (fun kk => by
    constructor
    ·intro p hp e
     simp only [List.mem_cons, List.not_mem_nil, or_false] at hp
     rcases hp with rfl | rfl | rfl | rfl | rfl | rfl | rfl | rfl | rfl
     ·exact ⟨blk_lt SB.out, blk_cell SB.out 0 _ rfl⟩
     ·exact ⟨blk_lt SB.out, blk_cell SB.out 1 _ rfl⟩
     ·exact ⟨blk_lt SB.out, blk_cell SB.out 2 _ rfl⟩
     ·exact ⟨blk_lt SB.out, blk_cell SB.out 3 _ rfl⟩
     ·exact ⟨blk_lt SB.out, blk_cell SB.out 0 _ rfl⟩
     ·exact ⟨blk_lt SB.out, blk_cell SB.out 1 _ rfl⟩
     ·exact ⟨blk_lt SB.out, blk_cell SB.out 2 _ rfl⟩
     ·exact ⟨blk_lt SB.out, blk_cell SB.out 3 _ rfl⟩
     ·exact ⟨blk_lt SB.out, blk_cell SB.out 1 _ rfl⟩
    ·intro p hp e
     exact absurd hp (by simp)
    )
   refine region_I (S := SZ [(0, ⟨w.heap.size, 0, none⟩, .int .i64 (Dn : Int)), (0, ⟨w.heap.size, 1, none⟩, .int .i64 (P : Int)), (0, ⟨w.heap.size, 2, none⟩, .slice D ds.length cd), (0, ⟨w.heap.size, 3, none⟩, .slice A os.length ca), (4, ⟨w.heap.size, 0, none⟩, .int .i64 (Dn : Int)), (4, ⟨w.heap.size, 1, none⟩, .int .i64 (P : Int)), (4, ⟨w.heap.size, 2, none⟩, .slice D ds.length cd), (4, ⟨w.heap.size, 3, none⟩, .slice A os.length ca), (8, ⟨w.heap.size, 1, none⟩, .int .i64 (P : Int))] []) (by kernel_rfl) ?_
   refine tJ 0 (.agg #[.int .i64 (Dn : Int), .int .i64 (P : Int), .slice D ds.length cd, .slice A os.length ca]) (some 178) rfl (HAL.out 0) (Or.inl ⟨by rfl, ?_⟩) ?_
   ·intro X hX
    obtain ⟨hz0, hc0⟩ := hX.1 (0, ⟨w.heap.size, 0, none⟩, .int .i64 (Dn : Int)) (List.Mem.head _) rfl
    simp only at hz0 hc0
    obtain ⟨hz1, hc1⟩ := hX.1 (0, ⟨w.heap.size, 1, none⟩, .int .i64 (P : Int)) (List.Mem.tail _ (List.Mem.head _)) rfl
    simp only at hz1 hc1
    obtain ⟨hz2, hc2⟩ := hX.1 (0, ⟨w.heap.size, 2, none⟩, .slice D ds.length cd) (List.Mem.tail _ (List.Mem.tail _ (List.Mem.head _))) rfl
    simp only at hz2 hc2
    obtain ⟨hz3, hc3⟩ := hX.1 (0, ⟨w.heap.size, 3, none⟩, .slice A os.length ca) (List.Mem.tail _ (List.Mem.tail _ (List.Mem.tail _ (List.Mem.head _)))) rfl
    simp only at hz3 hc3
    clear hX
    go_simp
   try simp only [Act.put, zA, zB, zC]
   refine only_I 1 (by kernel_rfl) rfl (fun K' hK' => ?_)
   go_simp
   go_at_call 28
   refine (ST.out _ NN.out).mono ?_
   rintro e x43 ⟨rfl, hb⟩
   replace NN := Lib.hid (Bgo NN.out hb)
   replace T6 := Lib.hid (T6.out.next hb)
   replace U6 := Lib.hid (U6.out.next hb)
   replace T7 := Lib.hid (T7.out.next hb)
   replace U7 := Lib.hid (U7.out.next hb)
   replace SB := Lib.hid (blk_next hb SB.out)
   replace S6 := Lib.hid (blk_next hb S6.out)
   replace S7 := Lib.hid (blk_next hb S7.out)
   go_simp
   refine hK'.out _ _ (fun _ _ hS => hS.next hb) ?_
   clear hK' K'
   try simp only [Act.put, zA, zB, zC]
   replace HAL := Lib.hid (fun kk => (HAL.out kk).next hb)
   clear hb
   refine tJ 2 (.bool true) (some 180) rfl (SZ.drop (by simp) (by simp)) (Or.inl ⟨by rfl, ?_⟩) ?_
   ·intro X hX
    clear hX
    go_simp
   try simp only [Act.put, zA, zB, zC]
   refine tJ 3 (.bool true) (some 181) rfl (SZ.drop (by simp) (by simp)) (Or.inl ⟨by rfl, ?_⟩) ?_
   ·intro X hX
    clear hX
    go_simp
   try simp only [Act.put, zA, zB, zC]
   refine tJ 4 (.agg #[.int .i64 (Dn : Int), .int .i64 (P : Int), .slice D ds.length cd, .slice A os.length ca]) (some 182) rfl (HAL.out 4) (Or.inl ⟨by rfl, ?_⟩) ?_
   ·intro X hX
    obtain ⟨hz4, hc4⟩ := hX.1 (4, ⟨w.heap.size, 0, none⟩, .int .i64 (Dn : Int)) (List.Mem.tail _ (List.Mem.tail _ (List.Mem.tail _ (List.Mem.tail _ (List.Mem.head _))))) rfl
    simp only at hz4 hc4
    obtain ⟨hz5, hc5⟩ := hX.1 (4, ⟨w.heap.size, 1, none⟩, .int .i64 (P : Int)) (List.Mem.tail _ (List.Mem.tail _ (List.Mem.tail _ (List.Mem.tail _ (List.Mem.tail _ (List.Mem.head _)))))) rfl
    simp only at hz5 hc5
    obtain ⟨hz6, hc6⟩ := hX.1 (4, ⟨w.heap.size, 2, none⟩, .slice D ds.length cd) (List.Mem.tail _ (List.Mem.tail _ (List.Mem.tail _ (List.Mem.tail _ (List.Mem.tail _ (List.Mem.tail _ (List.Mem.head _))))))) rfl
    simp only at hz6 hc6
    obtain ⟨hz7, hc7⟩ := hX.1 (4, ⟨w.heap.size, 3, none⟩, .slice A os.length ca) (List.Mem.tail _ (List.Mem.tail _ (List.Mem.tail _ (List.Mem.tail _ (List.Mem.tail _ (List.Mem.tail _ (List.Mem.tail _ (List.Mem.head _)))))))) rfl
    simp only at hz7 hc7
    clear hX
    go_simp
   try simp only [Act.put, zA, zB, zC]
   refine tJ 7 (.pointer (some ⟨w.heap.size, 1, none⟩)) (some 185) rfl (SZ.drop (by simp) (by simp)) (Or.inl ⟨by rfl, ?_⟩) ?_
   ·intro X hX
    clear hX
    go_simp
   try simp only [Act.put, zA, zB, zC]
   refine tJ 8 (.int .i64 (P : Int)) (some 186) rfl (HAL.out 8) (Or.inl ⟨by rfl, ?_⟩) ?_
   ·intro X hX
    obtain ⟨hz8, hc8⟩ := hX.1 (8, ⟨w.heap.size, 1, none⟩, .int .i64 (P : Int)) (List.Mem.tail _ (List.Mem.tail _ (List.Mem.tail _ (List.Mem.tail _ (List.Mem.tail _ (List.Mem.tail _ (List.Mem.tail _ (List.Mem.tail _ (List.Mem.head _))))))))) rfl
    simp only at hz8 hc8
    clear hX
    go_simp
   try simp only [Act.put, zA, zB, zC]
   refine only_I 5 (by kernel_rfl) rfl (fun K' hK' => ?_)
   go_simp
   go_at_call 24
   refine (FC.out _ NN.out).mono ?_
   rintro e x44 ⟨rfl, hb⟩
   replace NN := Lib.hid (Bgo NN.out hb)
   replace T6 := Lib.hid (T6.out.next hb)
   replace U6 := Lib.hid (U6.out.next hb)
   replace T7 := Lib.hid (T7.out.next hb)
   replace U7 := Lib.hid (U7.out.next hb)
   replace SB := Lib.hid (blk_next hb SB.out)
   replace S6 := Lib.hid (blk_next hb S6.out)
   replace S7 := Lib.hid (blk_next hb S7.out)
   go_simp
   refine hK'.out _ _ (fun _ _ hS => hS.next hb) ?_
   clear hK' K'
   try simp only [Act.put, zA, zB, zC]
   replace HAL := Lib.hid (fun kk => (HAL.out kk).next hb)
   clear hb
   refine tJ 6 (.int .i64 (((faN ds : Nat) : Int) + 1)) (some 184) rfl (SZ.drop (by simp) (by simp)) (Or.inl ⟨by rfl, ?_⟩) ?_
   ·intro X hX
    clear hX
    go_simp
   try simp only [Act.put, zA, zB, zC]
   refine tJ 9 (.bool true) (some 187) rfl (SZ.drop (by simp) (by simp)) (Or.inl ⟨by rfl, ?_⟩) ?_
   ·intro X hX
    clear hX
    go_simp
   try simp only [Act.put, zA, zB, zC]
   refine tJ 10 (.bool true) (some 188) rfl (SZ.drop (by simp) (by simp)) (Or.inl ⟨by rfl, ?_⟩) ?_
   ·intro X hX
    clear hX
    go_simp
   try simp only [Act.put, zA, zB, zC]
   clear HAL
   refine done_I (by kernel_rfl) ?_ _
   go_wp2_with fail
   go_ret
   exact ⟨rfl, NN.out⟩
  have g2 : decide ((P : Int) < (faN ds : Int) + 1) = false := decide_eq_false h1
  obtain ⟨re, rs⟩ := HR2.out (fun h => h1 h.2)
  rw [re, rs] at RP
  clear re rs
  refine (RP.out _ _ T6.out U6.out).mono ?_
  rintro e w45 ⟨v, u, rfl, ht, hu, hb⟩
  try simp only at ht hu
  obtain ⟨A7, c7, rfl, k7a, k7b⟩ := ht.form
  obtain ⟨B7, d7, rfl, k7c, k7d⟩ := hu.form
  have T7 := Lib.hid ht.rd
  have U7 := Lib.hid hu.ro
  clear ht hu
  replace NN := Lib.hid (Bgo NN.out hb)
  replace T6 := Lib.hid (T6.out.next hb)
  replace U6 := Lib.hid (U6.out.next hb)
  replace SB := Lib.hid (blk_next hb SB.out)
  replace S6 := Lib.hid (blk_next hb S6.out)
  clear hb
  have HB : Hid (Below w45.heap.size w45 (w45.alloc (.cells #[.int .i64 (Dn : Int), .int .i64 (P : Int), .slice A7 ds.length c7, .slice B7 os.length d7] 25))) := Lib.hid (Bal (Below.refl _ _) _)
  have S7 := Lib.hid (blk_new w45 (.cells #[.int .i64 (Dn : Int), .int .i64 (P : Int), .slice A7 ds.length c7, .slice B7 os.length d7] 25))
  have LT_S7 : Hid (w.heap.size < w45.heap.size ∧ g37 < w45.heap.size ∧ w.heap.size ≤ w45.heap.size) := Lib.hid ⟨blk_lt SB.out, blk_lt S6.out, NN.out.size⟩
  replace NN := Lib.hid (Bgo NN.out HB.out)
  replace T6 := Lib.hid (T6.out.next HB.out)
  replace U6 := Lib.hid (U6.out.next HB.out)
  replace T7 := Lib.hid (T7.out.next HB.out)
  replace U7 := Lib.hid (U7.out.next HB.out)
  replace SB := Lib.hid (blk_next HB.out SB.out)
  replace S6 := Lib.hid (blk_next HB.out S6.out)
  clear HB
  go_wp2_with fail
  generalize w45.alloc (.cells #[.int .i64 (Dn : Int), .int .i64 (P : Int), .slice A7 ds.length c7, .slice B7 os.length d7] 25) = W46 at *
  generalize w45.heap.size = g46 at *
  have HDRW := Lib.hid (Below.drew (Below.refl W46.heap.size W46))
  replace NN := Lib.hid (Bgo NN.out HDRW.out)
  replace T6 := Lib.hid (T6.out.next HDRW.out)
  replace U6 := Lib.hid (U6.out.next HDRW.out)
  replace T7 := Lib.hid (T7.out.next HDRW.out)
  replace U7 := Lib.hid (U7.out.next HDRW.out)
  replace SB := Lib.hid (blk_next HDRW.out SB.out)
  replace S6 := Lib.hid (blk_next HDRW.out S6.out)
  replace S7 := Lib.hid (blk_next HDRW.out S7.out)
  clear HDRW
  have HAL : Hid (∀ kk : Nat, SZ [(0, ⟨w.heap.size, 0, none⟩, .int .i64 (Dn : Int)), (0, ⟨w.heap.size, 1, none⟩, .int .i64 (P : Int)), (0, ⟨w.heap.size, 2, none⟩, .slice D ds.length cd), (0, ⟨w.heap.size, 3, none⟩, .slice A os.length ca), (4, ⟨w.heap.size, 0, none⟩, .int .i64 (Dn : Int)), (4, ⟨w.heap.size, 1, none⟩, .int .i64 (P : Int)), (4, ⟨w.heap.size, 2, none⟩, .slice D ds.length cd), (4, ⟨w.heap.size, 3, none⟩, .slice A os.length ca), (8, ⟨w.heap.size, 1, none⟩, .int .i64 (P : Int))] [] kk W46.drew) := Lib.hid (fun kk => by
   constructor
   ·intro p hp e
    simp only [List.mem_cons, List.not_mem_nil, or_false] at hp
    rcases hp with rfl | rfl | rfl | rfl | rfl | rfl | rfl | rfl | rfl
    ·exact ⟨blk_lt SB.out, blk_cell SB.out 0 _ rfl⟩
    ·exact ⟨blk_lt SB.out, blk_cell SB.out 1 _ rfl⟩
    ·exact ⟨blk_lt SB.out, blk_cell SB.out 2 _ rfl⟩
    ·exact ⟨blk_lt SB.out, blk_cell SB.out 3 _ rfl⟩
    ·exact ⟨blk_lt SB.out, blk_cell SB.out 0 _ rfl⟩
    ·exact ⟨blk_lt SB.out, blk_cell SB.out 1 _ rfl⟩
    ·exact ⟨blk_lt SB.out, blk_cell SB.out 2 _ rfl⟩
    ·exact ⟨blk_lt SB.out, blk_cell SB.out 3 _ rfl⟩
    ·exact ⟨blk_lt SB.out, blk_cell SB.out 1 _ rfl⟩
   ·intro p hp e
    exact absurd hp (by simp)
   )
  refine region_I (S := SZ [(0, ⟨w.heap.size, 0, none⟩, .int .i64 (Dn : Int)), (0, ⟨w.heap.size, 1, none⟩, .int .i64 (P : Int)), (0, ⟨w.heap.size, 2, none⟩, .slice D ds.length cd), (0, ⟨w.heap.size, 3, none⟩, .slice A os.length ca), (4, ⟨w.heap.size, 0, none⟩, .int .i64 (Dn : Int)), (4, ⟨w.heap.size, 1, none⟩, .int .i64 (P : Int)), (4, ⟨w.heap.size, 2, none⟩, .slice D ds.length cd), (4, ⟨w.heap.size, 3, none⟩, .slice A os.length ca), (8, ⟨w.heap.size, 1, none⟩, .int .i64 (P : Int))] []) (by kernel_rfl) ?_
  refine tJ 0 (.agg #[.int .i64 (Dn : Int), .int .i64 (P : Int), .slice D ds.length cd, .slice A os.length ca]) (some 178) rfl (HAL.out 0) (Or.inl ⟨by rfl, ?_⟩) ?_
  ·intro X hX
   obtain ⟨hz0, hc0⟩ := hX.1 (0, ⟨w.heap.size, 0, none⟩, .int .i64 (Dn : Int)) (List.Mem.head _) rfl
   simp only at hz0 hc0
   obtain ⟨hz1, hc1⟩ := hX.1 (0, ⟨w.heap.size, 1, none⟩, .int .i64 (P : Int)) (List.Mem.tail _ (List.Mem.head _)) rfl
   simp only at hz1 hc1
   obtain ⟨hz2, hc2⟩ := hX.1 (0, ⟨w.heap.size, 2, none⟩, .slice D ds.length cd) (List.Mem.tail _ (List.Mem.tail _ (List.Mem.head _))) rfl
   simp only at hz2 hc2
   obtain ⟨hz3, hc3⟩ := hX.1 (0, ⟨w.heap.size, 3, none⟩, .slice A os.length ca) (List.Mem.tail _ (List.Mem.tail _ (List.Mem.tail _ (List.Mem.head _)))) rfl
   simp only at hz3 hc3
   clear hX
   go_simp
  try simp only [Act.put, zA, zB, zC]
  refine only_I 1 (by kernel_rfl) rfl (fun K' hK' => ?_)
  go_simp
  go_at_call 28
  refine (ST.out _ NN.out).mono ?_
  rintro e x47 ⟨rfl, hb⟩
  replace NN := Lib.hid (Bgo NN.out hb)
  replace T6 := Lib.hid (T6.out.next hb)
  replace U6 := Lib.hid (U6.out.next hb)
  replace T7 := Lib.hid (T7.out.next hb)
  replace U7 := Lib.hid (U7.out.next hb)
  replace SB := Lib.hid (blk_next hb SB.out)
  replace S6 := Lib.hid (blk_next hb S6.out)
  replace S7 := Lib.hid (blk_next hb S7.out)
  go_simp
  refine hK'.out _ _ (fun _ _ hS => hS.next hb) ?_
  clear hK' K'
  try simp only [Act.put, zA, zB, zC]
  replace HAL := Lib.hid (fun kk => (HAL.out kk).next hb)
  clear hb
  refine tJ 2 (.bool true) (some 180) rfl (SZ.drop (by simp) (by simp)) (Or.inl ⟨by rfl, ?_⟩) ?_
  ·intro X hX
   clear hX
   go_simp
  try simp only [Act.put, zA, zB, zC]
  refine tJ 3 (.bool true) (some 181) rfl (SZ.drop (by simp) (by simp)) (Or.inl ⟨by rfl, ?_⟩) ?_
  ·intro X hX
   clear hX
   go_simp
  try simp only [Act.put, zA, zB, zC]
  refine tJ 4 (.agg #[.int .i64 (Dn : Int), .int .i64 (P : Int), .slice D ds.length cd, .slice A os.length ca]) (some 182) rfl (HAL.out 4) (Or.inl ⟨by rfl, ?_⟩) ?_
  ·intro X hX
   obtain ⟨hz4, hc4⟩ := hX.1 (4, ⟨w.heap.size, 0, none⟩, .int .i64 (Dn : Int)) (List.Mem.tail _ (List.Mem.tail _ (List.Mem.tail _ (List.Mem.tail _ (List.Mem.head _))))) rfl
   simp only at hz4 hc4
   obtain ⟨hz5, hc5⟩ := hX.1 (4, ⟨w.heap.size, 1, none⟩, .int .i64 (P : Int)) (List.Mem.tail _ (List.Mem.tail _ (List.Mem.tail _ (List.Mem.tail _ (List.Mem.tail _ (List.Mem.head _)))))) rfl
   simp only at hz5 hc5
   obtain ⟨hz6, hc6⟩ := hX.1 (4, ⟨w.heap.size, 2, none⟩, .slice D ds.length cd) (List.Mem.tail _ (List.Mem.tail _ (List.Mem.tail _ (List.Mem.tail _ (List.Mem.tail _ (List.Mem.tail _ (List.Mem.head _))))))) rfl
   simp only at hz6 hc6
   obtain ⟨hz7, hc7⟩ := hX.1 (4, ⟨w.heap.size, 3, none⟩, .slice A os.length ca) (List.Mem.tail _ (List.Mem.tail _ (List.Mem.tail _ (List.Mem.tail _ (List.Mem.tail _ (List.Mem.tail _ (List.Mem.tail _ (List.Mem.head _)))))))) rfl
   simp only at hz7 hc7
   clear hX
   go_simp
  try simp only [Act.put, zA, zB, zC]
  refine tJ 7 (.pointer (some ⟨w.heap.size, 1, none⟩)) (some 185) rfl (SZ.drop (by simp) (by simp)) (Or.inl ⟨by rfl, ?_⟩) ?_
  ·intro X hX
   clear hX
   go_simp
  try simp only [Act.put, zA, zB, zC]
  refine tJ 8 (.int .i64 (P : Int)) (some 186) rfl (HAL.out 8) (Or.inl ⟨by rfl, ?_⟩) ?_
  ·intro X hX
   obtain ⟨hz8, hc8⟩ := hX.1 (8, ⟨w.heap.size, 1, none⟩, .int .i64 (P : Int)) (List.Mem.tail _ (List.Mem.tail _ (List.Mem.tail _ (List.Mem.tail _ (List.Mem.tail _ (List.Mem.tail _ (List.Mem.tail _ (List.Mem.tail _ (List.Mem.head _))))))))) rfl
   simp only at hz8 hc8
   clear hX
   go_simp
  try simp only [Act.put, zA, zB, zC]
  refine only_I 5 (by kernel_rfl) rfl (fun K' hK' => ?_)
  go_simp
  go_at_call 24
  refine (FC.out _ NN.out).mono ?_
  rintro e x48 ⟨rfl, hb⟩
  replace NN := Lib.hid (Bgo NN.out hb)
  replace T6 := Lib.hid (T6.out.next hb)
  replace U6 := Lib.hid (U6.out.next hb)
  replace T7 := Lib.hid (T7.out.next hb)
  replace U7 := Lib.hid (U7.out.next hb)
  replace SB := Lib.hid (blk_next hb SB.out)
  replace S6 := Lib.hid (blk_next hb S6.out)
  replace S7 := Lib.hid (blk_next hb S7.out)
  go_simp
  refine hK'.out _ _ (fun _ _ hS => hS.next hb) ?_
  clear hK' K'
  try simp only [Act.put, zA, zB, zC]
  replace HAL := Lib.hid (fun kk => (HAL.out kk).next hb)
  clear hb
  refine tJ 6 (.int .i64 (((faN ds : Nat) : Int) + 1)) (some 184) rfl (SZ.drop (by simp) (by simp)) (Or.inl ⟨by rfl, ?_⟩) ?_
  ·intro X hX
   clear hX
   go_simp
  try simp only [Act.put, zA, zB, zC]
  refine tJ 9 (.bool false) (some 187) rfl (SZ.drop (by simp) (by simp)) (Or.inl ⟨by rfl, ?_⟩) ?_
  ·intro X hX
   clear hX
   go_simp
  try simp only [Act.put, zA, zB, zC]
  refine tJ 10 (.bool false) (some 188) rfl (SZ.drop (by simp) (by simp)) (Or.inl ⟨by rfl, ?_⟩) ?_
  ·intro X hX
   clear hX
   go_simp
  try simp only [Act.put, zA, zB, zC]
  clear HAL
  refine done_I (by kernel_rfl) ?_ _
  have c_S7_0 := blk_cell S7.out 0 _ rfl
  have f_S7_0 := blk_frozen S7.out 0
  have c_S7_1 := blk_cell S7.out 1 _ rfl
  have f_S7_1 := blk_frozen S7.out 1
  have c_S7_2 := blk_cell S7.out 2 _ rfl
  have f_S7_2 := blk_frozen S7.out 2
  have c_S7_3 := blk_cell S7.out 3 _ rfl
  have f_S7_3 := blk_frozen S7.out 3
  have l_S7 := blk_lt S7.out
  have c_SB_0 := blk_cell SB.out 0 _ rfl
  have f_SB_0 := blk_frozen SB.out 0
  have c_SB_1 := blk_cell SB.out 1 _ rfl
  have f_SB_1 := blk_frozen SB.out 1
  have c_SB_2 := blk_cell SB.out 2 _ rfl
  have f_SB_2 := blk_frozen SB.out 2
  have c_SB_3 := blk_cell SB.out 3 _ rfl
  have f_SB_3 := blk_frozen SB.out 3
  have l_SB := blk_lt SB.out
  go_wp2_with fail
  refine (same_self (Dn : Int) (P : Int) A7 B7 c7 d7 _ ds os D A cd ca B _ k7a k7b k7c k7d T7.out U7.out hnd hcd hna hca (HD.out.next NN.out) (HS.out.next NN.out)).mono ?_
  rintro e wz ⟨rfl, hb⟩
  go_wp2_with fail
  go_ret
  exact ⟨rfl, Bgo NN.out hb⟩
 obtain ⟨ps, po, qs, qc, qg, ql, qm, qo⟩ := put_facts GDH.out BY.out hp
 rw [qs, hp] at PU
 have QO := Lib.hid qo
 have n16 : po.length ≤ 100 := by omega
 have QL := Lib.hid ql
 have PL : Hid (∀ o ∈ po, Lh o.name) := Lib.hid (fun o ho => by rcases qm o ho with h | h; exact HL.out o h; rw [h]; exact hnm)
 clear qs hp qo qm ql
 go_enter Try.func7, Try.ntmps7
 have HB : Hid (Below w.heap.size w (w.alloc (.cells #[.int .i64 (Dn : Int), .int .i64 (P : Int), .slice D ds.length cd, .slice A os.length ca] 25))) := Lib.hid (Bal (Below.refl _ _) _)
 have SB := Lib.hid (blk_new w (.cells #[.int .i64 (Dn : Int), .int .i64 (P : Int), .slice D ds.length cd, .slice A os.length ca] 25))
 have LT_SB : Hid (w.heap.size ≤ w.heap.size) := Lib.hid NN.out.size
 replace NN := Lib.hid (Bgo NN.out HB.out)
 clear HB
 go_wp2_with fail
 generalize w.alloc (.cells #[.int .i64 (Dn : Int), .int .i64 (P : Int), .slice D ds.length cd, .slice A os.length ca] 25) = W1 at *
 refine (AL.out _).mono ?_
 rintro e w50 ⟨rfl, hb⟩
 replace NN := Lib.hid (Bgo NN.out hb)
 replace SB := Lib.hid (blk_next hb SB.out)
 clear hb
 have c_SB_0 := blk_cell SB.out 0 _ rfl
 have f_SB_0 := blk_frozen SB.out 0
 have c_SB_1 := blk_cell SB.out 1 _ rfl
 have f_SB_1 := blk_frozen SB.out 1
 have c_SB_2 := blk_cell SB.out 2 _ rfl
 have f_SB_2 := blk_frozen SB.out 2
 have c_SB_3 := blk_cell SB.out 3 _ rfl
 have f_SB_3 := blk_frozen SB.out 3
 have l_SB := blk_lt SB.out
 go_wp2_with fail
 refine (GR.out _ NN.out).mono ?_
 rintro e w51 ⟨rfl, hb⟩
 clear c_SB_0 f_SB_0 c_SB_1 f_SB_1 c_SB_2 f_SB_2 c_SB_3 f_SB_3 l_SB
 replace NN := Lib.hid (Bgo NN.out hb)
 replace SB := Lib.hid (blk_next hb SB.out)
 clear hb
 have c_SB_0 := blk_cell SB.out 0 _ rfl
 have f_SB_0 := blk_frozen SB.out 0
 have c_SB_1 := blk_cell SB.out 1 _ rfl
 have f_SB_1 := blk_frozen SB.out 1
 have c_SB_2 := blk_cell SB.out 2 _ rfl
 have f_SB_2 := blk_frozen SB.out 2
 have c_SB_3 := blk_cell SB.out 3 _ rfl
 have f_SB_3 := blk_frozen SB.out 3
 have l_SB := blk_lt SB.out
 go_wp2_with fail
 refine (K2.out _ NN.out).mono ?_
 rintro e w52 ⟨rfl, hb⟩
 clear c_SB_0 f_SB_0 c_SB_1 f_SB_1 c_SB_2 f_SB_2 c_SB_3 f_SB_3 l_SB
 replace NN := Lib.hid (Bgo NN.out hb)
 replace SB := Lib.hid (blk_next hb SB.out)
 clear hb
 have c_SB_0 := blk_cell SB.out 0 _ rfl
 have f_SB_0 := blk_frozen SB.out 0
 have c_SB_1 := blk_cell SB.out 1 _ rfl
 have f_SB_1 := blk_frozen SB.out 1
 have c_SB_2 := blk_cell SB.out 2 _ rfl
 have f_SB_2 := blk_frozen SB.out 2
 have c_SB_3 := blk_cell SB.out 3 _ rfl
 have f_SB_3 := blk_frozen SB.out 3
 have l_SB := blk_lt SB.out
 go_wp2_with fail
 refine (SC.out _ NN.out).mono ?_
 rintro e w53 ⟨v, rfl, hr, hb⟩
 obtain ⟨A9, c9, rfl, k9a, k9b, _⟩ := own_form hr
 clear hr
 clear c_SB_0 f_SB_0 c_SB_1 f_SB_1 c_SB_2 f_SB_2 c_SB_3 f_SB_3 l_SB
 replace NN := Lib.hid (Bgo NN.out hb)
 replace SB := Lib.hid (blk_next hb SB.out)
 clear hb
 have c_SB_0 := blk_cell SB.out 0 _ rfl
 have f_SB_0 := blk_frozen SB.out 0
 have c_SB_1 := blk_cell SB.out 1 _ rfl
 have f_SB_1 := blk_frozen SB.out 1
 have c_SB_2 := blk_cell SB.out 2 _ rfl
 have f_SB_2 := blk_frozen SB.out 2
 have c_SB_3 := blk_cell SB.out 3 _ rfl
 have f_SB_3 := blk_frozen SB.out 3
 have l_SB := blk_lt SB.out
 simp only [List.length_nil] at *
 go_wp2_with fail
 refine (PU.out _ NN.out).mono ?_
 rintro e w54 ⟨v, u, rfl, ht, hu, hb⟩
 try simp only at ht hu
 obtain ⟨A3, c3, rfl, k3a, k3b⟩ := ht.form
 obtain ⟨B3, d3, rfl, k3c, k3d⟩ := hu.form
 have T3 := Lib.hid ht.rd
 have U3 := Lib.hid hu.ro
 clear ht hu
 clear c_SB_0 f_SB_0 c_SB_1 f_SB_1 c_SB_2 f_SB_2 c_SB_3 f_SB_3 l_SB
 replace NN := Lib.hid (Bgo NN.out hb)
 replace SB := Lib.hid (blk_next hb SB.out)
 clear hb
 have HB : Hid (Below w54.heap.size w54 (w54.alloc (.cells #[.int .i64 (Dn : Int), .int .i64 (P : Int), .slice A3 ps.length c3, .slice B3 po.length d3] 25))) := Lib.hid (Bal (Below.refl _ _) _)
 have S3 := Lib.hid (blk_new w54 (.cells #[.int .i64 (Dn : Int), .int .i64 (P : Int), .slice A3 ps.length c3, .slice B3 po.length d3] 25))
 have LT_S3 : Hid (w.heap.size < w54.heap.size ∧ w.heap.size ≤ w54.heap.size) := Lib.hid ⟨blk_lt SB.out, NN.out.size⟩
 replace NN := Lib.hid (Bgo NN.out HB.out)
 replace T3 := Lib.hid (T3.out.next HB.out)
 replace U3 := Lib.hid (U3.out.next HB.out)
 replace SB := Lib.hid (blk_next HB.out SB.out)
 clear HB
 have c_S3_0 := blk_cell S3.out 0 _ rfl
 have f_S3_0 := blk_frozen S3.out 0
 have c_S3_1 := blk_cell S3.out 1 _ rfl
 have f_S3_1 := blk_frozen S3.out 1
 have c_S3_2 := blk_cell S3.out 2 _ rfl
 have f_S3_2 := blk_frozen S3.out 2
 have c_S3_3 := blk_cell S3.out 3 _ rfl
 have f_S3_3 := blk_frozen S3.out 3
 have l_S3 := blk_lt S3.out
 go_wp2_with fail
 clear c_S3_0 f_S3_0 c_S3_1 f_S3_1 c_S3_2 f_S3_2 c_S3_3 f_S3_3 l_S3
 generalize w54.alloc (.cells #[.int .i64 (Dn : Int), .int .i64 (P : Int), .slice A3 ps.length c3, .slice B3 po.length d3] 25) = W55 at *
 generalize w54.heap.size = g55 at *
 have G3 := Lib.hid (fun (Bx : Nat) (W : World) (nm : ByteArray) (h1 : RD Bx W A3 ps) (h2 : RO Bx W B3 po) => get_calls (Dn : Int) (P : Int) A3 B3 c3 d3 _ ps po nm W k3a k3b k3c k3d h1 h2 PL.out)
 have G5 := Lib.hid (fun Bx W h1 h2 => G3.out Bx W nm h1 h2)
 rw [qg] at G5
 clear qg
 refine (G5.out _ _ T3.out U3.out).mono ?_
 rintro e w56 ⟨v, rfl, hr, hb⟩
 simp only at hr
 obtain ⟨A5, c5, rfl, k5a, k5b, hr⟩ := hr
 have R5 := Lib.hid hr
 clear hr
 replace NN := Lib.hid (Bgo NN.out hb)
 replace T3 := Lib.hid (T3.out.next hb)
 replace U3 := Lib.hid (U3.out.next hb)
 replace SB := Lib.hid (blk_next hb SB.out)
 replace S3 := Lib.hid (blk_next hb S3.out)
 clear hb
 have c_S3_0 := blk_cell S3.out 0 _ rfl
 have f_S3_0 := blk_frozen S3.out 0
 have c_S3_1 := blk_cell S3.out 1 _ rfl
 have f_S3_1 := blk_frozen S3.out 1
 have c_S3_2 := blk_cell S3.out 2 _ rfl
 have f_S3_2 := blk_frozen S3.out 2
 have c_S3_3 := blk_cell S3.out 3 _ rfl
 have f_S3_3 := blk_frozen S3.out 3
 have l_S3 := blk_lt S3.out
 have c_SB_0 := blk_cell SB.out 0 _ rfl
 have f_SB_0 := blk_frozen SB.out 0
 have c_SB_1 := blk_cell SB.out 1 _ rfl
 have f_SB_1 := blk_frozen SB.out 1
 have c_SB_2 := blk_cell SB.out 2 _ rfl
 have f_SB_2 := blk_frozen SB.out 2
 have c_SB_3 := blk_cell SB.out 3 _ rfl
 have f_SB_3 := blk_frozen SB.out 3
 have l_SB := blk_lt SB.out
 have cv1 := conv_rba c5 R5.out
 have cv2 := conv_rba cb (RBA.next NN.out HBY.out)
 have x1 : (((po.length : Nat) : Int) != (os.length : Int) + 1) = false := by rw [bne_eq_false_iff_eq, QL.out]; push_cast; rfl
 have x2 : IntKind.i64.wrap ((os.length : Int) + 1) = (os.length : Int) + 1 := IntWalk.i64_in _ (by omega)
 have x3 : decide (((po.length : Nat) : Int) = (os.length : Int) + 1) = true := decide_eq_true (by rw [QL.out]; push_cast; rfl)
 go_wp2_with fail
 have KC := Lib.hid (oRefCheck_calls (Dn : Int) (P : Int) A3 B3 c3 d3 _ ps po _ k3a k3b k3c k3d T3.out U3.out PL.out)
 rw [qc] at KC
 clear x1 x2 x3
 refine (KC.out).mono ?_
 rintro e w57 ⟨rfl, hb⟩
 clear c_S3_0 f_S3_0 c_S3_1 f_S3_1 c_S3_2 f_S3_2 c_S3_3 f_S3_3 l_S3 c_SB_0 f_SB_0 c_SB_1 f_SB_1 c_SB_2 f_SB_2 c_SB_3 f_SB_3 l_SB cv1 cv2
 replace NN := Lib.hid (Bgo NN.out hb)
 replace T3 := Lib.hid (T3.out.next hb)
 replace U3 := Lib.hid (U3.out.next hb)
 replace R5 := Lib.hid (RBA.next hb R5.out)
 replace SB := Lib.hid (blk_next hb SB.out)
 replace S3 := Lib.hid (blk_next hb S3.out)
 clear hb
 have c_SB_0 := blk_cell SB.out 0 _ rfl
 have f_SB_0 := blk_frozen SB.out 0
 have c_SB_1 := blk_cell SB.out 1 _ rfl
 have f_SB_1 := blk_frozen SB.out 1
 have c_SB_2 := blk_cell SB.out 2 _ rfl
 have f_SB_2 := blk_frozen SB.out 2
 have c_SB_3 := blk_cell SB.out 3 _ rfl
 have f_SB_3 := blk_frozen SB.out 3
 have l_SB := blk_lt SB.out
 go_wp2_with fail
 clear R5
 clear c_SB_0 f_SB_0 c_SB_1 f_SB_1 c_SB_2 f_SB_2 c_SB_3 f_SB_3 l_SB
 have SBb := SB
 have NNb := NN
 have S3b := S3
 have T3b := T3
 have U3b := U3
 have LWn := NN.out.size
 go_loopw [16] (fun i wr => ∃ k : Nat, k ≤ os.length ∧ i = .int .i64 k ∧ Hid (Below w57.heap.size w57 wr)) (fun i _ => os.length - (intOf i).toNat)
 case atStart => exact ⟨0, by omega, rfl, Lib.hid (Below.refl _ _)⟩
 case round =>
  obtain ⟨k, hk, rfl, N1⟩ := hrel
  replace NN := Lib.hid (Bgo NN.out N1.out)
  replace T3 := Lib.hid (T3.out.next N1.out)
  replace U3 := Lib.hid (U3.out.next N1.out)
  replace SB := Lib.hid (blk_next N1.out SB.out)
  replace S3 := Lib.hid (blk_next N1.out S3.out)
  by_cases hlt : k < os.length
  rotate_left
  ·obtain rfl : k = os.length := by omega
   have kx : decide (((os.length : Nat) : Int) < (os.length : Int)) = false := decide_eq_false (by omega)
   have c_SB_0 := blk_cell SB.out 0 _ rfl
   have f_SB_0 := blk_frozen SB.out 0
   have c_SB_1 := blk_cell SB.out 1 _ rfl
   have f_SB_1 := blk_frozen SB.out 1
   have c_SB_2 := blk_cell SB.out 2 _ rfl
   have f_SB_2 := blk_frozen SB.out 2
   have c_SB_3 := blk_cell SB.out 3 _ rfl
   have f_SB_3 := blk_frozen SB.out 3
   have l_SB := blk_lt SB.out
   go_wp2_with fail
   clear N1
   clear S3 T3 U3
   clear kx
   by_cases hf : faiE Dn P ds os x = 0
   rotate_left
   ·have f1 : (faiE Dn P ds os x != 0) = true := by rw [bne_iff_ne]; exact hf
    have f2 : decide (faiE Dn P ds os x = 0) = false := decide_eq_false hf
    clear hf
    generalize faiE Dn P ds os x = fe at *
    obtain ⟨⟨y1, y2, y3, y4⟩, hy⟩ : ∃ r, faiS Dn P ds os x = r := ⟨_, rfl⟩
    rw [hy] at FA
    clear hy
    refine (FA.out _ NN.out).mono ?_
    rintro e w58 ⟨v, u, rfl, ht, hu, hb⟩
    try simp only at ht hu
    obtain ⟨A6, c6, rfl, k6a, k6b⟩ := ht.form
    obtain ⟨B6, d6, rfl, k6c, k6d⟩ := hu.form
    have T6 := Lib.hid ht.rd
    have U6 := Lib.hid hu.ro
    clear ht hu
    clear c_SB_0 f_SB_0 c_SB_1 f_SB_1 c_SB_2 f_SB_2 c_SB_3 f_SB_3 l_SB
    replace NN := Lib.hid (Bgo NN.out hb)
    replace SB := Lib.hid (blk_next hb SB.out)
    clear hb
    have HB : Hid (Below w58.heap.size w58 (w58.alloc (.cells #[.int .i64 y1, .int .i64 y2, .slice A6 y3.length c6, .slice B6 y4.length d6] 25))) := Lib.hid (Bal (Below.refl _ _) _)
    have S6 := Lib.hid (blk_new w58 (.cells #[.int .i64 y1, .int .i64 y2, .slice A6 y3.length c6, .slice B6 y4.length d6] 25))
    have LT_S6 : Hid (w.heap.size < w58.heap.size ∧ w.heap.size ≤ w58.heap.size) := Lib.hid ⟨blk_lt SB.out, NN.out.size⟩
    replace NN := Lib.hid (Bgo NN.out HB.out)
    replace T6 := Lib.hid (T6.out.next HB.out)
    replace U6 := Lib.hid (U6.out.next HB.out)
    replace SB := Lib.hid (blk_next HB.out SB.out)
    clear HB
    go_wp2_with fail
    generalize w58.alloc (.cells #[.int .i64 y1, .int .i64 y2, .slice A6 y3.length c6, .slice B6 y4.length d6] 25) = W59 at *
    generalize w58.heap.size = g59 at *
    go_ret
    exact ⟨rfl, NN.out⟩
   obtain ⟨es, fs, r1, r2⟩ := back_facts GDH.out hf
   rw [fs, hf] at FA
   have HR1 := Lib.hid r1
   have HR2 := Lib.hid r2
   clear fs hf r1 r2
   refine (FA.out _ NN.out).mono ?_
   rintro e w60 ⟨v, u, rfl, ht, hu, hb⟩
   try simp only at ht hu
   obtain ⟨A6, c6, rfl, k6a, k6b⟩ := ht.form
   obtain ⟨B6, d6, rfl, k6c, k6d⟩ := hu.form
   have T6 := Lib.hid ht.rd
   have U6 := Lib.hid hu.ro
   clear ht hu
   clear c_SB_0 f_SB_0 c_SB_1 f_SB_1 c_SB_2 f_SB_2 c_SB_3 f_SB_3 l_SB
   replace NN := Lib.hid (Bgo NN.out hb)
   replace SB := Lib.hid (blk_next hb SB.out)
   clear hb
   have HB : Hid (Below w60.heap.size w60 (w60.alloc (.cells #[.int .i64 (Dn : Int), .int .i64 (P : Int), .slice A6 es.length c6, .slice B6 os.length d6] 25))) := Lib.hid (Bal (Below.refl _ _) _)
   have S6 := Lib.hid (blk_new w60 (.cells #[.int .i64 (Dn : Int), .int .i64 (P : Int), .slice A6 es.length c6, .slice B6 os.length d6] 25))
   have LT_S6 : Hid (w.heap.size < w60.heap.size ∧ w.heap.size ≤ w60.heap.size) := Lib.hid ⟨blk_lt SB.out, NN.out.size⟩
   replace NN := Lib.hid (Bgo NN.out HB.out)
   replace T6 := Lib.hid (T6.out.next HB.out)
   replace U6 := Lib.hid (U6.out.next HB.out)
   replace SB := Lib.hid (blk_next HB.out SB.out)
   clear HB
   have c_S6_0 := blk_cell S6.out 0 _ rfl
   have f_S6_0 := blk_frozen S6.out 0
   have c_S6_1 := blk_cell S6.out 1 _ rfl
   have f_S6_1 := blk_frozen S6.out 1
   have c_S6_2 := blk_cell S6.out 2 _ rfl
   have f_S6_2 := blk_frozen S6.out 2
   have c_S6_3 := blk_cell S6.out 3 _ rfl
   have f_S6_3 := blk_frozen S6.out 3
   have l_S6 := blk_lt S6.out
   go_wp2_with fail
   clear c_S6_0 f_S6_0 c_S6_1 f_S6_1 c_S6_2 f_S6_2 c_S6_3 f_S6_3 l_S6
   generalize w60.alloc (.cells #[.int .i64 (Dn : Int), .int .i64 (P : Int), .slice A6 es.length c6, .slice B6 os.length d6] 25) = W61 at *
   generalize w60.heap.size = g61 at *
   have RP := Lib.hid (fun (Bx : Nat) (W : World) (h1 : RD Bx W A6 es) (h2 : RO Bx W B6 os) => replace_calls (Dn : Int) (P : Int) A6 B6 c6 d6 _ es os x W k6a k6b k6c k6d h1 h2 HL.out)
   by_cases h0 : 0 < n
   rotate_left
   ·have g1 : decide ((0 : Int) < (n : Int)) = false := decide_eq_false (by omega)
    obtain ⟨re, rs⟩ := HR2.out (fun h => h0 h.1)
    rw [re, rs] at RP
    clear re rs
    refine (RP.out _ _ T6.out U6.out).mono ?_
    rintro e w62 ⟨v, u, rfl, ht, hu, hb⟩
    try simp only at ht hu
    obtain ⟨A7, c7, rfl, k7a, k7b⟩ := ht.form
    obtain ⟨B7, d7, rfl, k7c, k7d⟩ := hu.form
    have T7 := Lib.hid ht.rd
    have U7 := Lib.hid hu.ro
    clear ht hu
    replace NN := Lib.hid (Bgo NN.out hb)
    replace T6 := Lib.hid (T6.out.next hb)
    replace U6 := Lib.hid (U6.out.next hb)
    replace SB := Lib.hid (blk_next hb SB.out)
    replace S6 := Lib.hid (blk_next hb S6.out)
    clear hb
    have HB : Hid (Below w62.heap.size w62 (w62.alloc (.cells #[.int .i64 (Dn : Int), .int .i64 (P : Int), .slice A7 ds.length c7, .slice B7 os.length d7] 25))) := Lib.hid (Bal (Below.refl _ _) _)
    have S7 := Lib.hid (blk_new w62 (.cells #[.int .i64 (Dn : Int), .int .i64 (P : Int), .slice A7 ds.length c7, .slice B7 os.length d7] 25))
    have LT_S7 : Hid (w.heap.size < w62.heap.size ∧ g61 < w62.heap.size ∧ w.heap.size ≤ w62.heap.size) := Lib.hid ⟨blk_lt SB.out, blk_lt S6.out, NN.out.size⟩
    replace NN := Lib.hid (Bgo NN.out HB.out)
    replace T6 := Lib.hid (T6.out.next HB.out)
    replace U6 := Lib.hid (U6.out.next HB.out)
    replace T7 := Lib.hid (T7.out.next HB.out)
    replace U7 := Lib.hid (U7.out.next HB.out)
    replace SB := Lib.hid (blk_next HB.out SB.out)
    replace S6 := Lib.hid (blk_next HB.out S6.out)
    clear HB
    go_wp2_with fail
    generalize w62.alloc (.cells #[.int .i64 (Dn : Int), .int .i64 (P : Int), .slice A7 ds.length c7, .slice B7 os.length d7] 25) = W63 at *
    generalize w62.heap.size = g63 at *
    have HDRW := Lib.hid (Below.drew (Below.refl W63.heap.size W63))
    replace NN := Lib.hid (Bgo NN.out HDRW.out)
    replace T6 := Lib.hid (T6.out.next HDRW.out)
    replace U6 := Lib.hid (U6.out.next HDRW.out)
    replace T7 := Lib.hid (T7.out.next HDRW.out)
    replace U7 := Lib.hid (U7.out.next HDRW.out)
    replace SB := Lib.hid (blk_next HDRW.out SB.out)
    replace S6 := Lib.hid (blk_next HDRW.out S6.out)
    replace S7 := Lib.hid (blk_next HDRW.out S7.out)
    clear HDRW
    have HAL : Hid (∀ kk : Nat, SZ [(0, ⟨w.heap.size, 0, none⟩, .int .i64 (Dn : Int)), (0, ⟨w.heap.size, 1, none⟩, .int .i64 (P : Int)), (0, ⟨w.heap.size, 2, none⟩, .slice D ds.length cd), (0, ⟨w.heap.size, 3, none⟩, .slice A os.length ca)] [] kk W63.drew) := Lib.hid (fun kk => by
     constructor
     ·intro p hp e
      simp only [List.mem_cons, List.not_mem_nil, or_false] at hp
      rcases hp with rfl | rfl | rfl | rfl
      ·exact ⟨blk_lt SB.out, blk_cell SB.out 0 _ rfl⟩
      ·exact ⟨blk_lt SB.out, blk_cell SB.out 1 _ rfl⟩
      ·exact ⟨blk_lt SB.out, blk_cell SB.out 2 _ rfl⟩
      ·exact ⟨blk_lt SB.out, blk_cell SB.out 3 _ rfl⟩
     ·intro p hp e
      exact absurd hp (by simp)
     )
    refine region_I (S := SZ [(0, ⟨w.heap.size, 0, none⟩, .int .i64 (Dn : Int)), (0, ⟨w.heap.size, 1, none⟩, .int .i64 (P : Int)), (0, ⟨w.heap.size, 2, none⟩, .slice D ds.length cd), (0, ⟨w.heap.size, 3, none⟩, .slice A os.length ca)] []) (by kernel_rfl) ?_
    refine tJ 0 (.agg #[.int .i64 (Dn : Int), .int .i64 (P : Int), .slice D ds.length cd, .slice A os.length ca]) (some 178) rfl (HAL.out 0) (Or.inl ⟨by rfl, ?_⟩) ?_
    ·intro X hX
     obtain ⟨hz0, hc0⟩ := hX.1 (0, ⟨w.heap.size, 0, none⟩, .int .i64 (Dn : Int)) (List.Mem.head _) rfl
     simp only at hz0 hc0
     obtain ⟨hz1, hc1⟩ := hX.1 (0, ⟨w.heap.size, 1, none⟩, .int .i64 (P : Int)) (List.Mem.tail _ (List.Mem.head _)) rfl
     simp only at hz1 hc1
     obtain ⟨hz2, hc2⟩ := hX.1 (0, ⟨w.heap.size, 2, none⟩, .slice D ds.length cd) (List.Mem.tail _ (List.Mem.tail _ (List.Mem.head _))) rfl
     simp only at hz2 hc2
     obtain ⟨hz3, hc3⟩ := hX.1 (0, ⟨w.heap.size, 3, none⟩, .slice A os.length ca) (List.Mem.tail _ (List.Mem.tail _ (List.Mem.tail _ (List.Mem.head _)))) rfl
     simp only at hz3 hc3
     clear hX
     go_simp
    try simp only [Act.put, zA, zB, zC]
    refine only_I 1 (by kernel_rfl) rfl (fun K' hK' => ?_)
    go_simp
    go_at_call 28
    refine (ST.out _ NN.out).mono ?_
    rintro e x64 ⟨rfl, hb⟩
    replace NN := Lib.hid (Bgo NN.out hb)
    replace T6 := Lib.hid (T6.out.next hb)
    replace U6 := Lib.hid (U6.out.next hb)
    replace T7 := Lib.hid (T7.out.next hb)
    replace U7 := Lib.hid (U7.out.next hb)
    replace SB := Lib.hid (blk_next hb SB.out)
    replace S6 := Lib.hid (blk_next hb S6.out)
    replace S7 := Lib.hid (blk_next hb S7.out)
    go_simp
    refine hK'.out _ _ (fun _ _ hS => hS.next hb) ?_
    clear hK' K'
    try simp only [Act.put, zA, zB, zC]
    replace HAL := Lib.hid (fun kk => (HAL.out kk).next hb)
    clear hb
    refine tJ 2 (.bool false) (some 180) rfl (SZ.drop (by simp) (by simp)) (Or.inl ⟨by rfl, ?_⟩) ?_
    ·intro X hX
     clear hX
     go_simp
    try simp only [Act.put, zA, zB, zC]
    refine tJ 3 (.bool false) (some 181) rfl (SZ.drop (by simp) (by simp)) (Or.inl ⟨by rfl, ?_⟩) ?_
    ·intro X hX
     clear hX
     go_simp
    try simp only [Act.put, zA, zB, zC]
    refine tJ 4 undef (some 182) rfl (HAL.out 4) (Or.inr ⟨by rfl, rfl⟩) ?_
    try simp only [Act.put, zA, zB, zC]
    refine tJ 5 undef (some 183) rfl (HAL.out 5) (Or.inr ⟨by rfl, rfl⟩) ?_
    try simp only [Act.put, zA, zB, zC]
    refine tJ 6 undef (some 184) rfl (HAL.out 6) (Or.inr ⟨by rfl, rfl⟩) ?_
    try simp only [Act.put, zA, zB, zC]
    refine tJ 7 undef (some 185) rfl (HAL.out 7) (Or.inr ⟨by rfl, rfl⟩) ?_
    try simp only [Act.put, zA, zB, zC]
    refine tJ 8 undef (some 186) rfl (HAL.out 8) (Or.inr ⟨by rfl, rfl⟩) ?_
    try simp only [Act.put, zA, zB, zC]
    refine tJ 9 undef (some 187) rfl (HAL.out 9) (Or.inr ⟨by rfl, rfl⟩) ?_
    try simp only [Act.put, zA, zB, zC]
    refine tJ 10 (.bool false) (some 188) rfl (SZ.drop (by simp) (by simp)) (Or.inl ⟨by rfl, ?_⟩) ?_
    ·intro X hX
     clear hX
     go_simp
    try simp only [Act.put, zA, zB, zC]
    clear HAL
    refine done_I (by kernel_rfl) ?_ _
    have c_S7_0 := blk_cell S7.out 0 _ rfl
    have f_S7_0 := blk_frozen S7.out 0
    have c_S7_1 := blk_cell S7.out 1 _ rfl
    have f_S7_1 := blk_frozen S7.out 1
    have c_S7_2 := blk_cell S7.out 2 _ rfl
    have f_S7_2 := blk_frozen S7.out 2
    have c_S7_3 := blk_cell S7.out 3 _ rfl
    have f_S7_3 := blk_frozen S7.out 3
    have l_S7 := blk_lt S7.out
    have c_SB_0 := blk_cell SB.out 0 _ rfl
    have f_SB_0 := blk_frozen SB.out 0
    have c_SB_1 := blk_cell SB.out 1 _ rfl
    have f_SB_1 := blk_frozen SB.out 1
    have c_SB_2 := blk_cell SB.out 2 _ rfl
    have f_SB_2 := blk_frozen SB.out 2
    have c_SB_3 := blk_cell SB.out 3 _ rfl
    have f_SB_3 := blk_frozen SB.out 3
    have l_SB := blk_lt SB.out
    go_wp2_with fail
    refine (same_self (Dn : Int) (P : Int) A7 B7 c7 d7 _ ds os D A cd ca B _ k7a k7b k7c k7d T7.out U7.out hnd hcd hna hca (HD.out.next NN.out) (HS.out.next NN.out)).mono ?_
    rintro e wz ⟨rfl, hb⟩
    go_wp2_with fail
    go_ret
    exact ⟨rfl, Bgo NN.out hb⟩
   have g1 : decide ((0 : Int) < (n : Int)) = true := decide_eq_true (by omega)
   have fb : (faN ds : Int) + 1 ≤ 9223372036854775807 := by have := faN_le ds; omega
   have fw : IntKind.i64.wrap ((faN ds : Int) + 1) = (faN ds : Int) + 1 := IntWalk.i64_in _ (by omega)
   by_cases h1 : (P : Int) < (faN ds : Int) + 1
   ·have g2 : decide ((P : Int) < (faN ds : Int) + 1) = true := decide_eq_true h1
    have re := HR1.out h0 h1
    obtain ⟨⟨z1, z2, z3, z4⟩, hz⟩ : ∃ r, repS Dn P es os x = r := ⟨_, rfl⟩
    rw [re, hz] at RP
    clear re hz
    refine (RP.out _ _ T6.out U6.out).mono ?_
    rintro e w65 ⟨v, u, rfl, ht, hu, hb⟩
    try simp only at ht hu
    obtain ⟨A7, c7, rfl, k7a, k7b⟩ := ht.form
    obtain ⟨B7, d7, rfl, k7c, k7d⟩ := hu.form
    have T7 := Lib.hid ht.rd
    have U7 := Lib.hid hu.ro
    clear ht hu
    replace NN := Lib.hid (Bgo NN.out hb)
    replace T6 := Lib.hid (T6.out.next hb)
    replace U6 := Lib.hid (U6.out.next hb)
    replace SB := Lib.hid (blk_next hb SB.out)
    replace S6 := Lib.hid (blk_next hb S6.out)
    clear hb
    have HB : Hid (Below w65.heap.size w65 (w65.alloc (.cells #[.int .i64 z1, .int .i64 z2, .slice A7 z3.length c7, .slice B7 z4.length d7] 25))) := Lib.hid (Bal (Below.refl _ _) _)
    have S7 := Lib.hid (blk_new w65 (.cells #[.int .i64 z1, .int .i64 z2, .slice A7 z3.length c7, .slice B7 z4.length d7] 25))
    have LT_S7 : Hid (w.heap.size < w65.heap.size ∧ g61 < w65.heap.size ∧ w.heap.size ≤ w65.heap.size) := Lib.hid ⟨blk_lt SB.out, blk_lt S6.out, NN.out.size⟩
    replace NN := Lib.hid (Bgo NN.out HB.out)
    replace T6 := Lib.hid (T6.out.next HB.out)
    replace U6 := Lib.hid (U6.out.next HB.out)
    replace T7 := Lib.hid (T7.out.next HB.out)
    replace U7 := Lib.hid (U7.out.next HB.out)
    replace SB := Lib.hid (blk_next HB.out SB.out)
    replace S6 := Lib.hid (blk_next HB.out S6.out)
    clear HB
    go_wp2_with fail
    generalize w65.alloc (.cells #[.int .i64 z1, .int .i64 z2, .slice A7 z3.length c7, .slice B7 z4.length d7] 25) = W66 at *
    generalize w65.heap.size = g66 at *
    have HDRW := Lib.hid (Below.drew (Below.refl W66.heap.size W66))
    replace NN := Lib.hid (Bgo NN.out HDRW.out)
    replace T6 := Lib.hid (T6.out.next HDRW.out)
    replace U6 := Lib.hid (U6.out.next HDRW.out)
    replace T7 := Lib.hid (T7.out.next HDRW.out)
    replace U7 := Lib.hid (U7.out.next HDRW.out)
    replace SB := Lib.hid (blk_next HDRW.out SB.out)
    replace S6 := Lib.hid (blk_next HDRW.out S6.out)
    replace S7 := Lib.hid (blk_next HDRW.out S7.out)
    clear HDRW
    have HAL : Hid (∀ kk : Nat, SZ [(0, ⟨w.heap.size, 0, none⟩, .int .i64 (Dn : Int)), (0, ⟨w.heap.size, 1, none⟩, .int .i64 (P : Int)), (0, ⟨w.heap.size, 2, none⟩, .slice D ds.length cd), (0, ⟨w.heap.size, 3, none⟩, .slice A os.length ca), (4, ⟨w.heap.size, 0, none⟩, .int .i64 (Dn : Int)), (4, ⟨w.heap.size, 1, none⟩, .int .i64 (P : Int)), (4, ⟨w.heap.size, 2, none⟩, .slice D ds.length cd), (4, ⟨w.heap.size, 3, none⟩, .slice A os.length ca), (8, ⟨w.heap.size, 1, none⟩, .int .i64 (P : Int))] [] kk W66.drew) := Lib.hid (fun kk => by
     constructor
     ·intro p hp e
      simp only [List.mem_cons, List.not_mem_nil, or_false] at hp
      rcases hp with rfl | rfl | rfl | rfl | rfl | rfl | rfl | rfl | rfl
      ·exact ⟨blk_lt SB.out, blk_cell SB.out 0 _ rfl⟩
      ·exact ⟨blk_lt SB.out, blk_cell SB.out 1 _ rfl⟩
      ·exact ⟨blk_lt SB.out, blk_cell SB.out 2 _ rfl⟩
      ·exact ⟨blk_lt SB.out, blk_cell SB.out 3 _ rfl⟩
      ·exact ⟨blk_lt SB.out, blk_cell SB.out 0 _ rfl⟩
      ·exact ⟨blk_lt SB.out, blk_cell SB.out 1 _ rfl⟩
      ·exact ⟨blk_lt SB.out, blk_cell SB.out 2 _ rfl⟩
      ·exact ⟨blk_lt SB.out, blk_cell SB.out 3 _ rfl⟩
      ·exact ⟨blk_lt SB.out, blk_cell SB.out 1 _ rfl⟩
     ·intro p hp e
      exact absurd hp (by simp)
     )
    refine region_I (S := SZ [(0, ⟨w.heap.size, 0, none⟩, .int .i64 (Dn : Int)), (0, ⟨w.heap.size, 1, none⟩, .int .i64 (P : Int)), (0, ⟨w.heap.size, 2, none⟩, .slice D ds.length cd), (0, ⟨w.heap.size, 3, none⟩, .slice A os.length ca), (4, ⟨w.heap.size, 0, none⟩, .int .i64 (Dn : Int)), (4, ⟨w.heap.size, 1, none⟩, .int .i64 (P : Int)), (4, ⟨w.heap.size, 2, none⟩, .slice D ds.length cd), (4, ⟨w.heap.size, 3, none⟩, .slice A os.length ca), (8, ⟨w.heap.size, 1, none⟩, .int .i64 (P : Int))] []) (by kernel_rfl) ?_
    refine tJ 0 (.agg #[.int .i64 (Dn : Int), .int .i64 (P : Int), .slice D ds.length cd, .slice A os.length ca]) (some 178) rfl (HAL.out 0) (Or.inl ⟨by rfl, ?_⟩) ?_
    ·intro X hX
     obtain ⟨hz0, hc0⟩ := hX.1 (0, ⟨w.heap.size, 0, none⟩, .int .i64 (Dn : Int)) (List.Mem.head _) rfl
     simp only at hz0 hc0
     obtain ⟨hz1, hc1⟩ := hX.1 (0, ⟨w.heap.size, 1, none⟩, .int .i64 (P : Int)) (List.Mem.tail _ (List.Mem.head _)) rfl
     simp only at hz1 hc1
     obtain ⟨hz2, hc2⟩ := hX.1 (0, ⟨w.heap.size, 2, none⟩, .slice D ds.length cd) (List.Mem.tail _ (List.Mem.tail _ (List.Mem.head _))) rfl
     simp only at hz2 hc2
     obtain ⟨hz3, hc3⟩ := hX.1 (0, ⟨w.heap.size, 3, none⟩, .slice A os.length ca) (List.Mem.tail _ (List.Mem.tail _ (List.Mem.tail _ (List.Mem.head _)))) rfl
     simp only at hz3 hc3
     clear hX
     go_simp
    try simp only [Act.put, zA, zB, zC]
    refine only_I 1 (by kernel_rfl) rfl (fun K' hK' => ?_)
    go_simp
    go_at_call 28
    refine (ST.out _ NN.out).mono ?_
    rintro e x67 ⟨rfl, hb⟩
    replace NN := Lib.hid (Bgo NN.out hb)
    replace T6 := Lib.hid (T6.out.next hb)
    replace U6 := Lib.hid (U6.out.next hb)
    replace T7 := Lib.hid (T7.out.next hb)
    replace U7 := Lib.hid (U7.out.next hb)
    replace SB := Lib.hid (blk_next hb SB.out)
    replace S6 := Lib.hid (blk_next hb S6.out)
    replace S7 := Lib.hid (blk_next hb S7.out)
    go_simp
    refine hK'.out _ _ (fun _ _ hS => hS.next hb) ?_
    clear hK' K'
    try simp only [Act.put, zA, zB, zC]
    replace HAL := Lib.hid (fun kk => (HAL.out kk).next hb)
    clear hb
    refine tJ 2 (.bool true) (some 180) rfl (SZ.drop (by simp) (by simp)) (Or.inl ⟨by rfl, ?_⟩) ?_
    ·intro X hX
     clear hX
     go_simp
    try simp only [Act.put, zA, zB, zC]
    refine tJ 3 (.bool true) (some 181) rfl (SZ.drop (by simp) (by simp)) (Or.inl ⟨by rfl, ?_⟩) ?_
    ·intro X hX
     clear hX
     go_simp
    try simp only [Act.put, zA, zB, zC]
    refine tJ 4 (.agg #[.int .i64 (Dn : Int), .int .i64 (P : Int), .slice D ds.length cd, .slice A os.length ca]) (some 182) rfl (HAL.out 4) (Or.inl ⟨by rfl, ?_⟩) ?_
    ·intro X hX
     obtain ⟨hz4, hc4⟩ := hX.1 (4, ⟨w.heap.size, 0, none⟩, .int .i64 (Dn : Int)) (List.Mem.tail _ (List.Mem.tail _ (List.Mem.tail _ (List.Mem.tail _ (List.Mem.head _))))) rfl
     simp only at hz4 hc4
     obtain ⟨hz5, hc5⟩ := hX.1 (4, ⟨w.heap.size, 1, none⟩, .int .i64 (P : Int)) (List.Mem.tail _ (List.Mem.tail _ (List.Mem.tail _ (List.Mem.tail _ (List.Mem.tail _ (List.Mem.head _)))))) rfl
     simp only at hz5 hc5
     obtain ⟨hz6, hc6⟩ := hX.1 (4, ⟨w.heap.size, 2, none⟩, .slice D ds.length cd) (List.Mem.tail _ (List.Mem.tail _ (List.Mem.tail _ (List.Mem.tail _ (List.Mem.tail _ (List.Mem.tail _ (List.Mem.head _))))))) rfl
     simp only at hz6 hc6
     obtain ⟨hz7, hc7⟩ := hX.1 (4, ⟨w.heap.size, 3, none⟩, .slice A os.length ca) (List.Mem.tail _ (List.Mem.tail _ (List.Mem.tail _ (List.Mem.tail _ (List.Mem.tail _ (List.Mem.tail _ (List.Mem.tail _ (List.Mem.head _)))))))) rfl
     simp only at hz7 hc7
     clear hX
     go_simp
    try simp only [Act.put, zA, zB, zC]
    refine tJ 7 (.pointer (some ⟨w.heap.size, 1, none⟩)) (some 185) rfl (SZ.drop (by simp) (by simp)) (Or.inl ⟨by rfl, ?_⟩) ?_
    ·intro X hX
     clear hX
     go_simp
    try simp only [Act.put, zA, zB, zC]
    refine tJ 8 (.int .i64 (P : Int)) (some 186) rfl (HAL.out 8) (Or.inl ⟨by rfl, ?_⟩) ?_
    ·intro X hX
     obtain ⟨hz8, hc8⟩ := hX.1 (8, ⟨w.heap.size, 1, none⟩, .int .i64 (P : Int)) (List.Mem.tail _ (List.Mem.tail _ (List.Mem.tail _ (List.Mem.tail _ (List.Mem.tail _ (List.Mem.tail _ (List.Mem.tail _ (List.Mem.tail _ (List.Mem.head _))))))))) rfl
     simp only at hz8 hc8
     clear hX
     go_simp
    try simp only [Act.put, zA, zB, zC]
    refine only_I 5 (by kernel_rfl) rfl (fun K' hK' => ?_)
    go_simp
    go_at_call 24
    refine (FC.out _ NN.out).mono ?_
    rintro e x68 ⟨rfl, hb⟩
    replace NN := Lib.hid (Bgo NN.out hb)
    replace T6 := Lib.hid (T6.out.next hb)
    replace U6 := Lib.hid (U6.out.next hb)
    replace T7 := Lib.hid (T7.out.next hb)
    replace U7 := Lib.hid (U7.out.next hb)
    replace SB := Lib.hid (blk_next hb SB.out)
    replace S6 := Lib.hid (blk_next hb S6.out)
    replace S7 := Lib.hid (blk_next hb S7.out)
    go_simp
    refine hK'.out _ _ (fun _ _ hS => hS.next hb) ?_
    clear hK' K'
    try simp only [Act.put, zA, zB, zC]
    replace HAL := Lib.hid (fun kk => (HAL.out kk).next hb)
    clear hb
    refine tJ 6 (.int .i64 (((faN ds : Nat) : Int) + 1)) (some 184) rfl (SZ.drop (by simp) (by simp)) (Or.inl ⟨by rfl, ?_⟩) ?_
    ·intro X hX
     clear hX
     go_simp
    try simp only [Act.put, zA, zB, zC]
    refine tJ 9 (.bool true) (some 187) rfl (SZ.drop (by simp) (by simp)) (Or.inl ⟨by rfl, ?_⟩) ?_
    ·intro X hX
     clear hX
     go_simp
    try simp only [Act.put, zA, zB, zC]
    refine tJ 10 (.bool true) (some 188) rfl (SZ.drop (by simp) (by simp)) (Or.inl ⟨by rfl, ?_⟩) ?_
    ·intro X hX
     clear hX
     go_simp
    try simp only [Act.put, zA, zB, zC]
    clear HAL
    refine done_I (by kernel_rfl) ?_ _
    go_wp2_with fail
    go_ret
    exact ⟨rfl, NN.out⟩
   have g2 : decide ((P : Int) < (faN ds : Int) + 1) = false := decide_eq_false h1
   obtain ⟨re, rs⟩ := HR2.out (fun h => h1 h.2)
   rw [re, rs] at RP
   clear re rs
   refine (RP.out _ _ T6.out U6.out).mono ?_
   rintro e w69 ⟨v, u, rfl, ht, hu, hb⟩
   try simp only at ht hu
   obtain ⟨A7, c7, rfl, k7a, k7b⟩ := ht.form
   obtain ⟨B7, d7, rfl, k7c, k7d⟩ := hu.form
   have T7 := Lib.hid ht.rd
   have U7 := Lib.hid hu.ro
   clear ht hu
   replace NN := Lib.hid (Bgo NN.out hb)
   replace T6 := Lib.hid (T6.out.next hb)
   replace U6 := Lib.hid (U6.out.next hb)
   replace SB := Lib.hid (blk_next hb SB.out)
   replace S6 := Lib.hid (blk_next hb S6.out)
   clear hb
   have HB : Hid (Below w69.heap.size w69 (w69.alloc (.cells #[.int .i64 (Dn : Int), .int .i64 (P : Int), .slice A7 ds.length c7, .slice B7 os.length d7] 25))) := Lib.hid (Bal (Below.refl _ _) _)
   have S7 := Lib.hid (blk_new w69 (.cells #[.int .i64 (Dn : Int), .int .i64 (P : Int), .slice A7 ds.length c7, .slice B7 os.length d7] 25))
   have LT_S7 : Hid (w.heap.size < w69.heap.size ∧ g61 < w69.heap.size ∧ w.heap.size ≤ w69.heap.size) := Lib.hid ⟨blk_lt SB.out, blk_lt S6.out, NN.out.size⟩
   replace NN := Lib.hid (Bgo NN.out HB.out)
   replace T6 := Lib.hid (T6.out.next HB.out)
   replace U6 := Lib.hid (U6.out.next HB.out)
   replace T7 := Lib.hid (T7.out.next HB.out)
   replace U7 := Lib.hid (U7.out.next HB.out)
   replace SB := Lib.hid (blk_next HB.out SB.out)
   replace S6 := Lib.hid (blk_next HB.out S6.out)
   clear HB
   go_wp2_with fail
   generalize w69.alloc (.cells #[.int .i64 (Dn : Int), .int .i64 (P : Int), .slice A7 ds.length c7, .slice B7 os.length d7] 25) = W70 at *
   generalize w69.heap.size = g70 at *
   have HDRW := Lib.hid (Below.drew (Below.refl W70.heap.size W70))
   replace NN := Lib.hid (Bgo NN.out HDRW.out)
   replace T6 := Lib.hid (T6.out.next HDRW.out)
   replace U6 := Lib.hid (U6.out.next HDRW.out)
   replace T7 := Lib.hid (T7.out.next HDRW.out)
   replace U7 := Lib.hid (U7.out.next HDRW.out)
   replace SB := Lib.hid (blk_next HDRW.out SB.out)
   replace S6 := Lib.hid (blk_next HDRW.out S6.out)
   replace S7 := Lib.hid (blk_next HDRW.out S7.out)
   clear HDRW
   have HAL : Hid (∀ kk : Nat, SZ [(0, ⟨w.heap.size, 0, none⟩, .int .i64 (Dn : Int)), (0, ⟨w.heap.size, 1, none⟩, .int .i64 (P : Int)), (0, ⟨w.heap.size, 2, none⟩, .slice D ds.length cd), (0, ⟨w.heap.size, 3, none⟩, .slice A os.length ca), (4, ⟨w.heap.size, 0, none⟩, .int .i64 (Dn : Int)), (4, ⟨w.heap.size, 1, none⟩, .int .i64 (P : Int)), (4, ⟨w.heap.size, 2, none⟩, .slice D ds.length cd), (4, ⟨w.heap.size, 3, none⟩, .slice A os.length ca), (8, ⟨w.heap.size, 1, none⟩, .int .i64 (P : Int))] [] kk W70.drew) := Lib.hid (fun kk => by
    constructor
    ·intro p hp e
     simp only [List.mem_cons, List.not_mem_nil, or_false] at hp
     rcases hp with rfl | rfl | rfl | rfl | rfl | rfl | rfl | rfl | rfl
     ·exact ⟨blk_lt SB.out, blk_cell SB.out 0 _ rfl⟩
     ·exact ⟨blk_lt SB.out, blk_cell SB.out 1 _ rfl⟩
     ·exact ⟨blk_lt SB.out, blk_cell SB.out 2 _ rfl⟩
     ·exact ⟨blk_lt SB.out, blk_cell SB.out 3 _ rfl⟩
     ·exact ⟨blk_lt SB.out, blk_cell SB.out 0 _ rfl⟩
     ·exact ⟨blk_lt SB.out, blk_cell SB.out 1 _ rfl⟩
     ·exact ⟨blk_lt SB.out, blk_cell SB.out 2 _ rfl⟩
     ·exact ⟨blk_lt SB.out, blk_cell SB.out 3 _ rfl⟩
     ·exact ⟨blk_lt SB.out, blk_cell SB.out 1 _ rfl⟩
    ·intro p hp e
     exact absurd hp (by simp)
    )
   refine region_I (S := SZ [(0, ⟨w.heap.size, 0, none⟩, .int .i64 (Dn : Int)), (0, ⟨w.heap.size, 1, none⟩, .int .i64 (P : Int)), (0, ⟨w.heap.size, 2, none⟩, .slice D ds.length cd), (0, ⟨w.heap.size, 3, none⟩, .slice A os.length ca), (4, ⟨w.heap.size, 0, none⟩, .int .i64 (Dn : Int)), (4, ⟨w.heap.size, 1, none⟩, .int .i64 (P : Int)), (4, ⟨w.heap.size, 2, none⟩, .slice D ds.length cd), (4, ⟨w.heap.size, 3, none⟩, .slice A os.length ca), (8, ⟨w.heap.size, 1, none⟩, .int .i64 (P : Int))] []) (by kernel_rfl) ?_
   refine tJ 0 (.agg #[.int .i64 (Dn : Int), .int .i64 (P : Int), .slice D ds.length cd, .slice A os.length ca]) (some 178) rfl (HAL.out 0) (Or.inl ⟨by rfl, ?_⟩) ?_
   ·intro X hX
    obtain ⟨hz0, hc0⟩ := hX.1 (0, ⟨w.heap.size, 0, none⟩, .int .i64 (Dn : Int)) (List.Mem.head _) rfl
    simp only at hz0 hc0
    obtain ⟨hz1, hc1⟩ := hX.1 (0, ⟨w.heap.size, 1, none⟩, .int .i64 (P : Int)) (List.Mem.tail _ (List.Mem.head _)) rfl
    simp only at hz1 hc1
    obtain ⟨hz2, hc2⟩ := hX.1 (0, ⟨w.heap.size, 2, none⟩, .slice D ds.length cd) (List.Mem.tail _ (List.Mem.tail _ (List.Mem.head _))) rfl
    simp only at hz2 hc2
    obtain ⟨hz3, hc3⟩ := hX.1 (0, ⟨w.heap.size, 3, none⟩, .slice A os.length ca) (List.Mem.tail _ (List.Mem.tail _ (List.Mem.tail _ (List.Mem.head _)))) rfl
    simp only at hz3 hc3
    clear hX
    go_simp
   try simp only [Act.put, zA, zB, zC]
   refine only_I 1 (by kernel_rfl) rfl (fun K' hK' => ?_)
   go_simp
   go_at_call 28
   refine (ST.out _ NN.out).mono ?_
   rintro e x71 ⟨rfl, hb⟩
   replace NN := Lib.hid (Bgo NN.out hb)
   replace T6 := Lib.hid (T6.out.next hb)
   replace U6 := Lib.hid (U6.out.next hb)
   replace T7 := Lib.hid (T7.out.next hb)
   replace U7 := Lib.hid (U7.out.next hb)
   replace SB := Lib.hid (blk_next hb SB.out)
   replace S6 := Lib.hid (blk_next hb S6.out)
   replace S7 := Lib.hid (blk_next hb S7.out)
   go_simp
   refine hK'.out _ _ (fun _ _ hS => hS.next hb) ?_
   clear hK' K'
   try simp only [Act.put, zA, zB, zC]
   replace HAL := Lib.hid (fun kk => (HAL.out kk).next hb)
   clear hb
   refine tJ 2 (.bool true) (some 180) rfl (SZ.drop (by simp) (by simp)) (Or.inl ⟨by rfl, ?_⟩) ?_
   ·intro X hX
    clear hX
    go_simp
   try simp only [Act.put, zA, zB, zC]
   refine tJ 3 (.bool true) (some 181) rfl (SZ.drop (by simp) (by simp)) (Or.inl ⟨by rfl, ?_⟩) ?_
   ·intro X hX
    clear hX
    go_simp
   try simp only [Act.put, zA, zB, zC]
   refine tJ 4 (.agg #[.int .i64 (Dn : Int), .int .i64 (P : Int), .slice D ds.length cd, .slice A os.length ca]) (some 182) rfl (HAL.out 4) (Or.inl ⟨by rfl, ?_⟩) ?_
   ·intro X hX
    obtain ⟨hz4, hc4⟩ := hX.1 (4, ⟨w.heap.size, 0, none⟩, .int .i64 (Dn : Int)) (List.Mem.tail _ (List.Mem.tail _ (List.Mem.tail _ (List.Mem.tail _ (List.Mem.head _))))) rfl
    simp only at hz4 hc4
    obtain ⟨hz5, hc5⟩ := hX.1 (4, ⟨w.heap.size, 1, none⟩, .int .i64 (P : Int)) (List.Mem.tail _ (List.Mem.tail _ (List.Mem.tail _ (List.Mem.tail _ (List.Mem.tail _ (List.Mem.head _)))))) rfl
    simp only at hz5 hc5
    obtain ⟨hz6, hc6⟩ := hX.1 (4, ⟨w.heap.size, 2, none⟩, .slice D ds.length cd) (List.Mem.tail _ (List.Mem.tail _ (List.Mem.tail _ (List.Mem.tail _ (List.Mem.tail _ (List.Mem.tail _ (List.Mem.head _))))))) rfl
    simp only at hz6 hc6
    obtain ⟨hz7, hc7⟩ := hX.1 (4, ⟨w.heap.size, 3, none⟩, .slice A os.length ca) (List.Mem.tail _ (List.Mem.tail _ (List.Mem.tail _ (List.Mem.tail _ (List.Mem.tail _ (List.Mem.tail _ (List.Mem.tail _ (List.Mem.head _)))))))) rfl
    simp only at hz7 hc7
    clear hX
    go_simp
   try simp only [Act.put, zA, zB, zC]
   refine tJ 7 (.pointer (some ⟨w.heap.size, 1, none⟩)) (some 185) rfl (SZ.drop (by simp) (by simp)) (Or.inl ⟨by rfl, ?_⟩) ?_
   ·intro X hX
    clear hX
    go_simp
   try simp only [Act.put, zA, zB, zC]
   refine tJ 8 (.int .i64 (P : Int)) (some 186) rfl (HAL.out 8) (Or.inl ⟨by rfl, ?_⟩) ?_
   ·intro X hX
    obtain ⟨hz8, hc8⟩ := hX.1 (8, ⟨w.heap.size, 1, none⟩, .int .i64 (P : Int)) (List.Mem.tail _ (List.Mem.tail _ (List.Mem.tail _ (List.Mem.tail _ (List.Mem.tail _ (List.Mem.tail _ (List.Mem.tail _ (List.Mem.tail _ (List.Mem.head _))))))))) rfl
    simp only at hz8 hc8
    clear hX
    go_simp
   try simp only [Act.put, zA, zB, zC]
   refine only_I 5 (by kernel_rfl) rfl (fun K' hK' => ?_)
   go_simp
   go_at_call 24
   refine (FC.out _ NN.out).mono ?_
   rintro e x72 ⟨rfl, hb⟩
   replace NN := Lib.hid (Bgo NN.out hb)
   replace T6 := Lib.hid (T6.out.next hb)
   replace U6 := Lib.hid (U6.out.next hb)
   replace T7 := Lib.hid (T7.out.next hb)
   replace U7 := Lib.hid (U7.out.next hb)
   replace SB := Lib.hid (blk_next hb SB.out)
   replace S6 := Lib.hid (blk_next hb S6.out)
   replace S7 := Lib.hid (blk_next hb S7.out)
   go_simp
   refine hK'.out _ _ (fun _ _ hS => hS.next hb) ?_
   clear hK' K'
   try simp only [Act.put, zA, zB, zC]
   replace HAL := Lib.hid (fun kk => (HAL.out kk).next hb)
   clear hb
   refine tJ 6 (.int .i64 (((faN ds : Nat) : Int) + 1)) (some 184) rfl (SZ.drop (by simp) (by simp)) (Or.inl ⟨by rfl, ?_⟩) ?_
   ·intro X hX
    clear hX
    go_simp
   try simp only [Act.put, zA, zB, zC]
   refine tJ 9 (.bool false) (some 187) rfl (SZ.drop (by simp) (by simp)) (Or.inl ⟨by rfl, ?_⟩) ?_
   ·intro X hX
    clear hX
    go_simp
   try simp only [Act.put, zA, zB, zC]
   refine tJ 10 (.bool false) (some 188) rfl (SZ.drop (by simp) (by simp)) (Or.inl ⟨by rfl, ?_⟩) ?_
   ·intro X hX
    clear hX
    go_simp
   try simp only [Act.put, zA, zB, zC]
   clear HAL
   refine done_I (by kernel_rfl) ?_ _
   have c_S7_0 := blk_cell S7.out 0 _ rfl
   have f_S7_0 := blk_frozen S7.out 0
   have c_S7_1 := blk_cell S7.out 1 _ rfl
   have f_S7_1 := blk_frozen S7.out 1
   have c_S7_2 := blk_cell S7.out 2 _ rfl
   have f_S7_2 := blk_frozen S7.out 2
   have c_S7_3 := blk_cell S7.out 3 _ rfl
   have f_S7_3 := blk_frozen S7.out 3
   have l_S7 := blk_lt S7.out
   have c_SB_0 := blk_cell SB.out 0 _ rfl
   have f_SB_0 := blk_frozen SB.out 0
   have c_SB_1 := blk_cell SB.out 1 _ rfl
   have f_SB_1 := blk_frozen SB.out 1
   have c_SB_2 := blk_cell SB.out 2 _ rfl
   have f_SB_2 := blk_frozen SB.out 2
   have c_SB_3 := blk_cell SB.out 3 _ rfl
   have f_SB_3 := blk_frozen SB.out 3
   have l_SB := blk_lt SB.out
   go_wp2_with fail
   refine (same_self (Dn : Int) (P : Int) A7 B7 c7 d7 _ ds os D A cd ca B _ k7a k7b k7c k7d T7.out U7.out hnd hcd hna hca (HD.out.next NN.out) (HS.out.next NN.out)).mono ?_
   rintro e wz ⟨rfl, hb⟩
   go_wp2_with fail
   go_ret
   exact ⟨rfl, Bgo NN.out hb⟩
  have k1 : (0 : Int) ≤ (k : Int) := by omega
  have k2 : (k : Int) < (os.length : Int) := by omega
  obtain ⟨o, ho⟩ := get_some hlt
  have HLT := Lib.hid hlt
  obtain ⟨qo1, qo2⟩ := QO.out k o ho
  have k3 : (k : Int) < (po.length : Int) := by have := get_lt qo1; omega
  obtain ⟨⟨gl, ge⟩, hr⟩ : ∃ r, getR Dn P ds os o.name = r := ⟨_, rfl⟩
  rw [hr] at qo2
  have GA := Lib.hid (fun (W : World) (h : Below w.heap.size w W) => get_calls (Dn : Int) (P : Int) D A cd ca B ds os o.name W hnd hcd hna hca (HD.out.next h) (HS.out.next h) HL.out)
  have GB := Lib.hid (fun Bx W h1 h2 => G3.out Bx W o.name h1 h2)
  rw [hr] at GA
  rw [qo2] at GB
  obtain ⟨bo, oo, rfl, hlo, z0, z1, z2, z3, z4⟩ := (HS.out.next NN.out).at_ ho
  obtain ⟨b3, o3, rfl, hl3, y0, y1, y2, y3, y4⟩ := U3.out.at_ qo1
  clear qo1 qo2 hr hlt
  have c_SB_0 := blk_cell SB.out 0 _ rfl
  have f_SB_0 := blk_frozen SB.out 0
  have c_SB_1 := blk_cell SB.out 1 _ rfl
  have f_SB_1 := blk_frozen SB.out 1
  have c_SB_2 := blk_cell SB.out 2 _ rfl
  have f_SB_2 := blk_frozen SB.out 2
  have c_SB_3 := blk_cell SB.out 3 _ rfl
  have f_SB_3 := blk_frozen SB.out 3
  have l_SB := blk_lt SB.out
  go_wp2_with fail
  clear c_SB_0 f_SB_0 c_SB_1 f_SB_1 c_SB_2 f_SB_2 c_SB_3 f_SB_3 l_SB
  have HDRW := Lib.hid (Below.drew (Below.refl wr.heap.size wr))
  replace NN := Lib.hid (Bgo NN.out HDRW.out)
  replace T3 := Lib.hid (T3.out.next HDRW.out)
  replace U3 := Lib.hid (U3.out.next HDRW.out)
  replace N1 := Lib.hid (Bgo N1.out HDRW.out)
  replace SB := Lib.hid (blk_next HDRW.out SB.out)
  replace S3 := Lib.hid (blk_next HDRW.out S3.out)
  clear HDRW
  have HAL : Hid (∀ kk : Nat, SZ [(0, ⟨w.heap.size, 0, none⟩, .int .i64 (Dn : Int)), (0, ⟨w.heap.size, 1, none⟩, .int .i64 (P : Int)), (0, ⟨w.heap.size, 2, none⟩, .slice D ds.length cd), (0, ⟨w.heap.size, 3, none⟩, .slice (some ⟨bo, oo, none⟩) os.length ca), (2, ⟨w.heap.size, 3, none⟩, .slice (some ⟨bo, oo, none⟩) os.length ca), (6, ⟨bo, oo + k * 5, none⟩, .string o.name)] [] kk wr.drew) := Lib.hid (fun kk => by
   constructor
   ·intro p hp e
    simp only [List.mem_cons, List.not_mem_nil, or_false] at hp
    rcases hp with rfl | rfl | rfl | rfl | rfl | rfl
    ·exact ⟨blk_lt SB.out, blk_cell SB.out 0 _ rfl⟩
    ·exact ⟨blk_lt SB.out, blk_cell SB.out 1 _ rfl⟩
    ·exact ⟨blk_lt SB.out, blk_cell SB.out 2 _ rfl⟩
    ·exact ⟨blk_lt SB.out, blk_cell SB.out 3 _ rfl⟩
    ·exact ⟨blk_lt SB.out, blk_cell SB.out 3 _ rfl⟩
    ·exact ⟨hlo, z0⟩
   ·intro p hp e
    exact absurd hp (by simp)
   )
  refine region_I (S := SZ [(0, ⟨w.heap.size, 0, none⟩, .int .i64 (Dn : Int)), (0, ⟨w.heap.size, 1, none⟩, .int .i64 (P : Int)), (0, ⟨w.heap.size, 2, none⟩, .slice D ds.length cd), (0, ⟨w.heap.size, 3, none⟩, .slice (some ⟨bo, oo, none⟩) os.length ca), (2, ⟨w.heap.size, 3, none⟩, .slice (some ⟨bo, oo, none⟩) os.length ca), (6, ⟨bo, oo + k * 5, none⟩, .string o.name)] []) (by kernel_rfl) ?_
  refine tJ 0 (.agg #[.int .i64 (Dn : Int), .int .i64 (P : Int), .slice D ds.length cd, .slice (some ⟨bo, oo, none⟩) os.length ca]) (some 119) rfl (HAL.out 0) (Or.inl ⟨by rfl, ?_⟩) ?_
  ·intro X hX
   obtain ⟨hz0, hc0⟩ := hX.1 (0, ⟨w.heap.size, 0, none⟩, .int .i64 (Dn : Int)) (List.Mem.head _) rfl
   simp only at hz0 hc0
   obtain ⟨hz1, hc1⟩ := hX.1 (0, ⟨w.heap.size, 1, none⟩, .int .i64 (P : Int)) (List.Mem.tail _ (List.Mem.head _)) rfl
   simp only at hz1 hc1
   obtain ⟨hz2, hc2⟩ := hX.1 (0, ⟨w.heap.size, 2, none⟩, .slice D ds.length cd) (List.Mem.tail _ (List.Mem.tail _ (List.Mem.head _))) rfl
   simp only at hz2 hc2
   obtain ⟨hz3, hc3⟩ := hX.1 (0, ⟨w.heap.size, 3, none⟩, .slice (some ⟨bo, oo, none⟩) os.length ca) (List.Mem.tail _ (List.Mem.tail _ (List.Mem.tail _ (List.Mem.head _)))) rfl
   simp only at hz3 hc3
   clear hX
   go_simp
  try simp only [Act.put, zA, zB, zC]
  refine tJ 1 (.pointer (some ⟨w.heap.size, 3, none⟩)) (some 120) rfl (SZ.drop (by simp) (by simp)) (Or.inl ⟨by rfl, ?_⟩) ?_
  ·intro X hX
   clear hX
   go_simp
  try simp only [Act.put, zA, zB, zC]
  refine tJ 2 (.slice (some ⟨bo, oo, none⟩) os.length ca) (some 121) rfl (HAL.out 2) (Or.inl ⟨by rfl, ?_⟩) ?_
  ·intro X hX
   obtain ⟨hz4, hc4⟩ := hX.1 (2, ⟨w.heap.size, 3, none⟩, .slice (some ⟨bo, oo, none⟩) os.length ca) (List.Mem.tail _ (List.Mem.tail _ (List.Mem.tail _ (List.Mem.tail _ (List.Mem.head _))))) rfl
   simp only at hz4 hc4
   clear hX
   go_simp
  try simp only [Act.put, zA, zB, zC]
  refine tJ 3 (.int .i64 (k : Int)) (some 122) rfl (SZ.drop (by simp) (by simp)) (Or.inl ⟨by rfl, ?_⟩) ?_
  ·intro X hX
   clear hX
   go_simp
  try simp only [Act.put, zA, zB, zC]
  refine tJ 4 (.pointer (some ⟨bo, oo + k * 5, none⟩)) (some 123) rfl (SZ.drop (by simp) (by simp)) (Or.inl ⟨by rfl, ?_⟩) ?_
  ·intro X hX
   clear hX
   go_simp
  try simp only [Act.put, zA, zB, zC]
  refine tJ 5 (.pointer (some ⟨bo, oo + k * 5, none⟩)) (some 124) rfl (SZ.drop (by simp) (by simp)) (Or.inl ⟨by rfl, ?_⟩) ?_
  ·intro X hX
   clear hX
   go_simp
  try simp only [Act.put, zA, zB, zC]
  refine tJ 6 (.string o.name) (some 125) rfl (HAL.out 6) (Or.inl ⟨by rfl, ?_⟩) ?_
  ·intro X hX
   obtain ⟨hz5, hc5⟩ := hX.1 (6, ⟨bo, oo + k * 5, none⟩, .string o.name) (List.Mem.tail _ (List.Mem.tail _ (List.Mem.tail _ (List.Mem.tail _ (List.Mem.tail _ (List.Mem.head _)))))) rfl
   simp only at hz5 hc5
   clear hX
   go_simp
  try simp only [Act.put, zA, zB, zC]
  refine only_I 7 (by kernel_rfl) rfl (fun K' hK' => ?_)
  go_simp
  go_at_call 16
  refine (GA.out _ NN.out).mono ?_
  rintro e x73 ⟨v, rfl, hr, hb⟩
  simp only at hr
  obtain ⟨A8, c8, rfl, k8a, k8b, hr⟩ := hr
  have R8 := Lib.hid hr
  clear hr
  replace NN := Lib.hid (Bgo NN.out hb)
  replace T3 := Lib.hid (T3.out.next hb)
  replace U3 := Lib.hid (U3.out.next hb)
  replace N1 := Lib.hid (Bgo N1.out hb)
  replace SB := Lib.hid (blk_next hb SB.out)
  replace S3 := Lib.hid (blk_next hb S3.out)
  go_simp
  refine hK'.out _ _ (fun _ _ hS => hS.next hb) ?_
  clear hK' K'
  try simp only [Act.put, zA, zB, zC]
  replace HAL := Lib.hid (fun kk => (HAL.out kk).next hb)
  clear hb
  refine tJ 8 (.tuple #[.slice A8 gl.length c8, .int .i64 ge]) (some 118) rfl (SZ.drop (by simp) (by simp)) (Or.inl ⟨by rfl, ?_⟩) ?_
  ·intro X hX
   clear hX
   go_simp
  try simp only [Act.put, zA, zB, zC]
  refine tJ 9 (.slice A8 gl.length c8) (some 127) rfl (SZ.drop (by simp) (by simp)) (Or.inl ⟨by rfl, ?_⟩) ?_
  ·intro X hX
   clear hX
   go_simp
  try simp only [Act.put, zA, zB, zC]
  refine tJ 10 (.int .i64 ge) (some 128) rfl (SZ.drop (by simp) (by simp)) (Or.inl ⟨by rfl, ?_⟩) ?_
  ·intro X hX
   clear hX
   go_simp
  try simp only [Act.put, zA, zB, zC]
  refine tJ 11 (.slice A8 gl.length c8) (some 17) rfl (SZ.drop (by simp) (by simp)) (Or.inl ⟨by rfl, ?_⟩) ?_
  ·intro X hX
   clear hX
   go_simp
  try simp only [Act.put, zA, zB, zC]
  refine tJ 12 (.int .i64 ge) (some 18) rfl (SZ.drop (by simp) (by simp)) (Or.inl ⟨by rfl, ?_⟩) ?_
  ·intro X hX
   clear hX
   go_simp
  try simp only [Act.put, zA, zB, zC]
  clear HAL
  refine done_I (by kernel_rfl) ?_ _
  go_wp2_with fail
  clear hlo z0 z1 z2 z3 z4 hl3 y0 y1 y2 y3 y4
  obtain ⟨bo', oo', e, hlo, z0, z1, z2, z3, z4⟩ := (HS.out.next NN.out).at_ ho
  injection e with e
  injection e with e1 e2 _
  rw [← e1] at hlo z0 z1 z2 z3 z4
  rw [← e2] at z0 z1 z2 z3 z4
  clear e1 e2
  obtain ⟨b3', o3', e, hl3, y0, y1, y2, y3, y4⟩ := U3.out.at_ (QO.out k o ho).1
  injection e with e
  injection e with e1 e2 _
  rw [← e1] at hl3 y0 y1 y2 y3 y4
  rw [← e2] at y0 y1 y2 y3 y4
  clear e1 e2
  have HDRW := Lib.hid (Below.drew (Below.refl x73.heap.size x73))
  replace NN := Lib.hid (Bgo NN.out HDRW.out)
  replace T3 := Lib.hid (T3.out.next HDRW.out)
  replace U3 := Lib.hid (U3.out.next HDRW.out)
  replace N1 := Lib.hid (Bgo N1.out HDRW.out)
  replace R8 := Lib.hid (RBA.next HDRW.out R8.out)
  replace SB := Lib.hid (blk_next HDRW.out SB.out)
  replace S3 := Lib.hid (blk_next HDRW.out S3.out)
  clear HDRW
  have HAL : Hid (∀ kk : Nat, SZ [(0, ⟨g55, 0, none⟩, .int .i64 (Dn : Int)), (0, ⟨g55, 1, none⟩, .int .i64 (P : Int)), (0, ⟨g55, 2, none⟩, .slice A3 ps.length c3), (0, ⟨g55, 3, none⟩, .slice (some ⟨b3, o3, none⟩) po.length d3), (2, ⟨w.heap.size, 3, none⟩, .slice (some ⟨bo, oo, none⟩) os.length ca), (6, ⟨bo, oo + k * 5, none⟩, .string o.name)] [] kk x73.drew) := Lib.hid (fun kk => by
   constructor
   ·intro p hp e
    simp only [List.mem_cons, List.not_mem_nil, or_false] at hp
    rcases hp with rfl | rfl | rfl | rfl | rfl | rfl
    ·exact ⟨blk_lt S3.out, blk_cell S3.out 0 _ rfl⟩
    ·exact ⟨blk_lt S3.out, blk_cell S3.out 1 _ rfl⟩
    ·exact ⟨blk_lt S3.out, blk_cell S3.out 2 _ rfl⟩
    ·exact ⟨blk_lt S3.out, blk_cell S3.out 3 _ rfl⟩
    ·exact ⟨blk_lt SB.out, blk_cell SB.out 3 _ rfl⟩
    ·exact ⟨hlo, z0⟩
   ·intro p hp e
    exact absurd hp (by simp)
   )
  refine region_I (S := SZ [(0, ⟨g55, 0, none⟩, .int .i64 (Dn : Int)), (0, ⟨g55, 1, none⟩, .int .i64 (P : Int)), (0, ⟨g55, 2, none⟩, .slice A3 ps.length c3), (0, ⟨g55, 3, none⟩, .slice (some ⟨b3, o3, none⟩) po.length d3), (2, ⟨w.heap.size, 3, none⟩, .slice (some ⟨bo, oo, none⟩) os.length ca), (6, ⟨bo, oo + k * 5, none⟩, .string o.name)] []) (by kernel_rfl) ?_
  refine tJ 0 (.agg #[.int .i64 (Dn : Int), .int .i64 (P : Int), .slice A3 ps.length c3, .slice (some ⟨b3, o3, none⟩) po.length d3]) (some 130) rfl (HAL.out 0) (Or.inl ⟨by rfl, ?_⟩) ?_
  ·intro X hX
   obtain ⟨hz0, hc0⟩ := hX.1 (0, ⟨g55, 0, none⟩, .int .i64 (Dn : Int)) (List.Mem.head _) rfl
   simp only at hz0 hc0
   obtain ⟨hz1, hc1⟩ := hX.1 (0, ⟨g55, 1, none⟩, .int .i64 (P : Int)) (List.Mem.tail _ (List.Mem.head _)) rfl
   simp only at hz1 hc1
   obtain ⟨hz2, hc2⟩ := hX.1 (0, ⟨g55, 2, none⟩, .slice A3 ps.length c3) (List.Mem.tail _ (List.Mem.tail _ (List.Mem.head _))) rfl
   simp only at hz2 hc2
   obtain ⟨hz3, hc3⟩ := hX.1 (0, ⟨g55, 3, none⟩, .slice (some ⟨b3, o3, none⟩) po.length d3) (List.Mem.tail _ (List.Mem.tail _ (List.Mem.tail _ (List.Mem.head _)))) rfl
   simp only at hz3 hc3
   clear hX
   go_simp
  try simp only [Act.put, zA, zB, zC]
  refine tJ 1 (.pointer (some ⟨w.heap.size, 3, none⟩)) (some 131) rfl (SZ.drop (by simp) (by simp)) (Or.inl ⟨by rfl, ?_⟩) ?_
  ·intro X hX
   clear hX
   go_simp
  try simp only [Act.put, zA, zB, zC]
  refine tJ 2 (.slice (some ⟨bo, oo, none⟩) os.length ca) (some 132) rfl (HAL.out 2) (Or.inl ⟨by rfl, ?_⟩) ?_
  ·intro X hX
   obtain ⟨hz4, hc4⟩ := hX.1 (2, ⟨w.heap.size, 3, none⟩, .slice (some ⟨bo, oo, none⟩) os.length ca) (List.Mem.tail _ (List.Mem.tail _ (List.Mem.tail _ (List.Mem.tail _ (List.Mem.head _))))) rfl
   simp only at hz4 hc4
   clear hX
   go_simp
  try simp only [Act.put, zA, zB, zC]
  refine tJ 3 (.int .i64 (k : Int)) (some 133) rfl (SZ.drop (by simp) (by simp)) (Or.inl ⟨by rfl, ?_⟩) ?_
  ·intro X hX
   clear hX
   go_simp
  try simp only [Act.put, zA, zB, zC]
  refine tJ 4 (.pointer (some ⟨bo, oo + k * 5, none⟩)) (some 134) rfl (SZ.drop (by simp) (by simp)) (Or.inl ⟨by rfl, ?_⟩) ?_
  ·intro X hX
   clear hX
   go_simp
  try simp only [Act.put, zA, zB, zC]
  refine tJ 5 (.pointer (some ⟨bo, oo + k * 5, none⟩)) (some 135) rfl (SZ.drop (by simp) (by simp)) (Or.inl ⟨by rfl, ?_⟩) ?_
  ·intro X hX
   clear hX
   go_simp
  try simp only [Act.put, zA, zB, zC]
  refine tJ 6 (.string o.name) (some 136) rfl (HAL.out 6) (Or.inl ⟨by rfl, ?_⟩) ?_
  ·intro X hX
   obtain ⟨hz5, hc5⟩ := hX.1 (6, ⟨bo, oo + k * 5, none⟩, .string o.name) (List.Mem.tail _ (List.Mem.tail _ (List.Mem.tail _ (List.Mem.tail _ (List.Mem.tail _ (List.Mem.head _)))))) rfl
   simp only at hz5 hc5
   clear hX
   go_simp
  try simp only [Act.put, zA, zB, zC]
  refine only_I 7 (by kernel_rfl) rfl (fun K' hK' => ?_)
  go_simp
  go_at_call 16
  refine (GB.out _ _ T3.out U3.out).mono ?_
  rintro e x74 ⟨v, rfl, hr, hb⟩
  simp only at hr
  obtain ⟨A9, c9, rfl, k9a, k9b, hr⟩ := hr
  have R9 := Lib.hid hr
  clear hr
  replace NN := Lib.hid (Bgo NN.out hb)
  replace T3 := Lib.hid (T3.out.next hb)
  replace U3 := Lib.hid (U3.out.next hb)
  replace N1 := Lib.hid (Bgo N1.out hb)
  replace R8 := Lib.hid (RBA.next hb R8.out)
  replace SB := Lib.hid (blk_next hb SB.out)
  replace S3 := Lib.hid (blk_next hb S3.out)
  go_simp
  refine hK'.out _ _ (fun _ _ hS => hS.next hb) ?_
  clear hK' K'
  try simp only [Act.put, zA, zB, zC]
  replace HAL := Lib.hid (fun kk => (HAL.out kk).next hb)
  clear hb
  refine tJ 8 (.tuple #[.slice A9 gl.length c9, .int .i64 ge]) (some 129) rfl (SZ.drop (by simp) (by simp)) (Or.inl ⟨by rfl, ?_⟩) ?_
  ·intro X hX
   clear hX
   go_simp
  try simp only [Act.put, zA, zB, zC]
  refine tJ 9 (.slice A9 gl.length c9) (some 138) rfl (SZ.drop (by simp) (by simp)) (Or.inl ⟨by rfl, ?_⟩) ?_
  ·intro X hX
   clear hX
   go_simp
  try simp only [Act.put, zA, zB, zC]
  refine tJ 10 (.int .i64 ge) (some 139) rfl (SZ.drop (by simp) (by simp)) (Or.inl ⟨by rfl, ?_⟩) ?_
  ·intro X hX
   clear hX
   go_simp
  try simp only [Act.put, zA, zB, zC]
  refine tJ 11 (.slice A9 gl.length c9) (some 19) rfl (SZ.drop (by simp) (by simp)) (Or.inl ⟨by rfl, ?_⟩) ?_
  ·intro X hX
   clear hX
   go_simp
  try simp only [Act.put, zA, zB, zC]
  refine tJ 12 (.int .i64 ge) (some 20) rfl (SZ.drop (by simp) (by simp)) (Or.inl ⟨by rfl, ?_⟩) ?_
  ·intro X hX
   clear hX
   go_simp
  try simp only [Act.put, zA, zB, zC]
  clear HAL
  refine done_I (by kernel_rfl) ?_ _
  go_wp2_with fail
  clear hlo z0 z1 z2 z3 z4 hl3 y0 y1 y2 y3 y4
  obtain ⟨bo', oo', e, hlo, z0, z1, z2, z3, z4⟩ := (HS.out.next NN.out).at_ ho
  injection e with e
  injection e with e1 e2 _
  rw [← e1] at hlo z0 z1 z2 z3 z4
  rw [← e2] at z0 z1 z2 z3 z4
  clear e1 e2
  obtain ⟨b3', o3', e, hl3, y0, y1, y2, y3, y4⟩ := U3.out.at_ (QO.out k o ho).1
  injection e with e
  injection e with e1 e2 _
  rw [← e1] at hl3 y0 y1 y2 y3 y4
  rw [← e2] at y0 y1 y2 y3 y4
  clear e1 e2
  have HDRW := Lib.hid (Below.drew (Below.refl x74.heap.size x74))
  replace NN := Lib.hid (Bgo NN.out HDRW.out)
  replace T3 := Lib.hid (T3.out.next HDRW.out)
  replace U3 := Lib.hid (U3.out.next HDRW.out)
  replace N1 := Lib.hid (Bgo N1.out HDRW.out)
  replace R8 := Lib.hid (RBA.next HDRW.out R8.out)
  replace R9 := Lib.hid (RBA.next HDRW.out R9.out)
  replace SB := Lib.hid (blk_next HDRW.out SB.out)
  replace S3 := Lib.hid (blk_next HDRW.out S3.out)
  clear HDRW
  have HAL : Hid (∀ kk : Nat, SZ [(12, ⟨g55, 3, none⟩, .slice (some ⟨b3, o3, none⟩) po.length d3), (15, ⟨b3, o3 + k * 5, none⟩, .string o.name), (15, ⟨b3, o3 + k * 5 + 1, none⟩, .int .i64 o.size), (15, ⟨b3, o3 + k * 5 + 2, none⟩, .int .i64 o.from_), (15, ⟨b3, o3 + k * 5 + 3, none⟩, .int .i64 o.many), (15, ⟨b3, o3 + k * 5 + 4, none⟩, .int .i64 o.dig), (17, ⟨w.heap.size, 3, none⟩, .slice (some ⟨bo, oo, none⟩) os.length ca), (20, ⟨bo, oo + k * 5, none⟩, .string o.name), (20, ⟨bo, oo + k * 5 + 1, none⟩, .int .i64 o.size), (20, ⟨bo, oo + k * 5 + 2, none⟩, .int .i64 o.from_), (20, ⟨bo, oo + k * 5 + 3, none⟩, .int .i64 o.many), (20, ⟨bo, oo + k * 5 + 4, none⟩, .int .i64 o.dig)] [(1, A8, gl), (3, A9, gl)] kk x74.drew) := Lib.hid (fun kk => by
   constructor
   ·intro p hp e
    simp only [List.mem_cons, List.not_mem_nil, or_false] at hp
    rcases hp with rfl | rfl | rfl | rfl | rfl | rfl | rfl | rfl | rfl | rfl | rfl | rfl
    ·exact ⟨blk_lt S3.out, blk_cell S3.out 3 _ rfl⟩
    ·exact ⟨hl3, y0⟩
    ·exact ⟨hl3, y1⟩
    ·exact ⟨hl3, y2⟩
    ·exact ⟨hl3, y3⟩
    ·exact ⟨hl3, y4⟩
    ·exact ⟨blk_lt SB.out, blk_cell SB.out 3 _ rfl⟩
    ·exact ⟨hlo, z0⟩
    ·exact ⟨hlo, z1⟩
    ·exact ⟨hlo, z2⟩
    ·exact ⟨hlo, z3⟩
    ·exact ⟨hlo, z4⟩
   ·intro p hp e
    simp only [List.mem_cons, List.not_mem_nil, or_false] at hp
    rcases hp with rfl | rfl
    ·exact R8.out
    ·exact R9.out
   )
  refine region_I (S := SZ [(12, ⟨g55, 3, none⟩, .slice (some ⟨b3, o3, none⟩) po.length d3), (15, ⟨b3, o3 + k * 5, none⟩, .string o.name), (15, ⟨b3, o3 + k * 5 + 1, none⟩, .int .i64 o.size), (15, ⟨b3, o3 + k * 5 + 2, none⟩, .int .i64 o.from_), (15, ⟨b3, o3 + k * 5 + 3, none⟩, .int .i64 o.many), (15, ⟨b3, o3 + k * 5 + 4, none⟩, .int .i64 o.dig), (17, ⟨w.heap.size, 3, none⟩, .slice (some ⟨bo, oo, none⟩) os.length ca), (20, ⟨bo, oo + k * 5, none⟩, .string o.name), (20, ⟨bo, oo + k * 5 + 1, none⟩, .int .i64 o.size), (20, ⟨bo, oo + k * 5 + 2, none⟩, .int .i64 o.from_), (20, ⟨bo, oo + k * 5 + 3, none⟩, .int .i64 o.many), (20, ⟨bo, oo + k * 5 + 4, none⟩, .int .i64 o.dig)] [(1, A8, gl), (3, A9, gl)]) (by kernel_rfl) ?_
  refine tJ 0 (.slice A8 gl.length c8) (some 140) rfl (SZ.drop (by simp) (by simp)) (Or.inl ⟨by rfl, ?_⟩) ?_
  ·intro X hX
   clear hX
   go_simp
  try simp only [Act.put, zA, zB, zC]
  refine tJ 1 (.string (bstr gl)) (some 141) rfl (HAL.out 1) (Or.inl ⟨by rfl, ?_⟩) ?_
  ·intro X hX
   have cv1 := fun c => conv_rba c (hX.2 (1, A8, gl) (List.Mem.head _) rfl)
   clear hX
   go_simp
  try simp only [Act.put, zA, zB, zC]
  refine tJ 2 (.slice A9 gl.length c9) (some 142) rfl (SZ.drop (by simp) (by simp)) (Or.inl ⟨by rfl, ?_⟩) ?_
  ·intro X hX
   clear hX
   go_simp
  try simp only [Act.put, zA, zB, zC]
  refine tJ 3 (.string (bstr gl)) (some 143) rfl (HAL.out 3) (Or.inl ⟨by rfl, ?_⟩) ?_
  ·intro X hX
   have cv1 := fun c => conv_rba c (hX.2 (3, A9, gl) (List.Mem.tail _ (List.Mem.head _)) rfl)
   clear hX
   go_simp
  try simp only [Act.put, zA, zB, zC]
  refine tJ 4 (.bool false) (some 144) rfl (SZ.drop (by simp) (by simp)) (Or.inl ⟨by rfl, ?_⟩) ?_
  ·intro X hX
   clear hX
   go_simp
  try simp only [Act.put, zA, zB, zC]
  refine tJ 5 (.bool false) (some 145) rfl (SZ.drop (by simp) (by simp)) (Or.inl ⟨by rfl, ?_⟩) ?_
  ·intro X hX
   clear hX
   go_simp
  try simp only [Act.put, zA, zB, zC]
  refine tJ 6 (.int .i64 ge) (some 146) rfl (SZ.drop (by simp) (by simp)) (Or.inl ⟨by rfl, ?_⟩) ?_
  ·intro X hX
   clear hX
   go_simp
  try simp only [Act.put, zA, zB, zC]
  refine tJ 7 (.int .i64 ge) (some 147) rfl (SZ.drop (by simp) (by simp)) (Or.inl ⟨by rfl, ?_⟩) ?_
  ·intro X hX
   clear hX
   go_simp
  try simp only [Act.put, zA, zB, zC]
  refine tJ 8 (.bool false) (some 148) rfl (SZ.drop (by simp) (by simp)) (Or.inl ⟨by rfl, ?_⟩) ?_
  ·intro X hX
   clear hX
   go_simp
  try simp only [Act.put, zA, zB, zC]
  refine tJ 9 (.bool false) (some 149) rfl (SZ.drop (by simp) (by simp)) (Or.inl ⟨by rfl, ?_⟩) ?_
  ·intro X hX
   clear hX
   go_simp
  try simp only [Act.put, zA, zB, zC]
  refine tJ 10 (.bool false) (some 150) rfl (SZ.drop (by simp) (by simp)) (Or.inl ⟨by rfl, ?_⟩) ?_
  ·intro X hX
   clear hX
   go_simp
  try simp only [Act.put, zA, zB, zC]
  refine tJ 11 (.pointer (some ⟨g55, 3, none⟩)) (some 151) rfl (SZ.drop (by simp) (by simp)) (Or.inl ⟨by rfl, ?_⟩) ?_
  ·intro X hX
   clear hX
   go_simp
  try simp only [Act.put, zA, zB, zC]
  refine tJ 12 (.slice (some ⟨b3, o3, none⟩) po.length d3) (some 152) rfl (HAL.out 12) (Or.inl ⟨by rfl, ?_⟩) ?_
  ·intro X hX
   obtain ⟨hz0, hc0⟩ := hX.1 (12, ⟨g55, 3, none⟩, .slice (some ⟨b3, o3, none⟩) po.length d3) (List.Mem.head _) rfl
   simp only at hz0 hc0
   clear hX
   go_simp
  try simp only [Act.put, zA, zB, zC]
  refine tJ 13 (.int .i64 (k : Int)) (some 153) rfl (SZ.drop (by simp) (by simp)) (Or.inl ⟨by rfl, ?_⟩) ?_
  ·intro X hX
   clear hX
   go_simp
  try simp only [Act.put, zA, zB, zC]
  refine tJ 14 (.pointer (some ⟨b3, o3 + k * 5, none⟩)) (some 154) rfl (SZ.drop (by simp) (by simp)) (Or.inl ⟨by rfl, ?_⟩) ?_
  ·intro X hX
   clear hX
   go_simp
  try simp only [Act.put, zA, zB, zC]
  refine tJ 15 (.agg #[.string o.name, .int .i64 o.size, .int .i64 o.from_, .int .i64 o.many, .int .i64 o.dig]) (some 155) rfl (HAL.out 15) (Or.inl ⟨by rfl, ?_⟩) ?_
  ·intro X hX
   obtain ⟨hz1, hc1⟩ := hX.1 (15, ⟨b3, o3 + k * 5, none⟩, .string o.name) (List.Mem.tail _ (List.Mem.head _)) rfl
   simp only at hz1 hc1
   obtain ⟨hz2, hc2⟩ := hX.1 (15, ⟨b3, o3 + k * 5 + 1, none⟩, .int .i64 o.size) (List.Mem.tail _ (List.Mem.tail _ (List.Mem.head _))) rfl
   simp only at hz2 hc2
   obtain ⟨hz3, hc3⟩ := hX.1 (15, ⟨b3, o3 + k * 5 + 2, none⟩, .int .i64 o.from_) (List.Mem.tail _ (List.Mem.tail _ (List.Mem.tail _ (List.Mem.head _)))) rfl
   simp only at hz3 hc3
   obtain ⟨hz4, hc4⟩ := hX.1 (15, ⟨b3, o3 + k * 5 + 3, none⟩, .int .i64 o.many) (List.Mem.tail _ (List.Mem.tail _ (List.Mem.tail _ (List.Mem.tail _ (List.Mem.head _))))) rfl
   simp only at hz4 hc4
   obtain ⟨hz5, hc5⟩ := hX.1 (15, ⟨b3, o3 + k * 5 + 4, none⟩, .int .i64 o.dig) (List.Mem.tail _ (List.Mem.tail _ (List.Mem.tail _ (List.Mem.tail _ (List.Mem.tail _ (List.Mem.head _)))))) rfl
   simp only at hz5 hc5
   clear hX
   go_simp
  try simp only [Act.put, zA, zB, zC]
  refine tJ 16 (.pointer (some ⟨w.heap.size, 3, none⟩)) (some 156) rfl (SZ.drop (by simp) (by simp)) (Or.inl ⟨by rfl, ?_⟩) ?_
  ·intro X hX
   clear hX
   go_simp
  try simp only [Act.put, zA, zB, zC]
  refine tJ 17 (.slice (some ⟨bo, oo, none⟩) os.length ca) (some 157) rfl (HAL.out 17) (Or.inl ⟨by rfl, ?_⟩) ?_
  ·intro X hX
   obtain ⟨hz6, hc6⟩ := hX.1 (17, ⟨w.heap.size, 3, none⟩, .slice (some ⟨bo, oo, none⟩) os.length ca) (List.Mem.tail _ (List.Mem.tail _ (List.Mem.tail _ (List.Mem.tail _ (List.Mem.tail _ (List.Mem.tail _ (List.Mem.head _))))))) rfl
   simp only at hz6 hc6
   clear hX
   go_simp
  try simp only [Act.put, zA, zB, zC]
  refine tJ 18 (.int .i64 (k : Int)) (some 158) rfl (SZ.drop (by simp) (by simp)) (Or.inl ⟨by rfl, ?_⟩) ?_
  ·intro X hX
   clear hX
   go_simp
  try simp only [Act.put, zA, zB, zC]
  refine tJ 19 (.pointer (some ⟨bo, oo + k * 5, none⟩)) (some 159) rfl (SZ.drop (by simp) (by simp)) (Or.inl ⟨by rfl, ?_⟩) ?_
  ·intro X hX
   clear hX
   go_simp
  try simp only [Act.put, zA, zB, zC]
  refine tJ 20 (.agg #[.string o.name, .int .i64 o.size, .int .i64 o.from_, .int .i64 o.many, .int .i64 o.dig]) (some 160) rfl (HAL.out 20) (Or.inl ⟨by rfl, ?_⟩) ?_
  ·intro X hX
   obtain ⟨hz7, hc7⟩ := hX.1 (20, ⟨bo, oo + k * 5, none⟩, .string o.name) (List.Mem.tail _ (List.Mem.tail _ (List.Mem.tail _ (List.Mem.tail _ (List.Mem.tail _ (List.Mem.tail _ (List.Mem.tail _ (List.Mem.head _)))))))) rfl
   simp only at hz7 hc7
   obtain ⟨hz8, hc8⟩ := hX.1 (20, ⟨bo, oo + k * 5 + 1, none⟩, .int .i64 o.size) (List.Mem.tail _ (List.Mem.tail _ (List.Mem.tail _ (List.Mem.tail _ (List.Mem.tail _ (List.Mem.tail _ (List.Mem.tail _ (List.Mem.tail _ (List.Mem.head _))))))))) rfl
   simp only at hz8 hc8
   obtain ⟨hz9, hc9⟩ := hX.1 (20, ⟨bo, oo + k * 5 + 2, none⟩, .int .i64 o.from_) (List.Mem.tail _ (List.Mem.tail _ (List.Mem.tail _ (List.Mem.tail _ (List.Mem.tail _ (List.Mem.tail _ (List.Mem.tail _ (List.Mem.tail _ (List.Mem.tail _ (List.Mem.head _)))))))))) rfl
   simp only at hz9 hc9
   obtain ⟨hz10, hc10⟩ := hX.1 (20, ⟨bo, oo + k * 5 + 3, none⟩, .int .i64 o.many) (List.Mem.tail _ (List.Mem.tail _ (List.Mem.tail _ (List.Mem.tail _ (List.Mem.tail _ (List.Mem.tail _ (List.Mem.tail _ (List.Mem.tail _ (List.Mem.tail _ (List.Mem.tail _ (List.Mem.head _))))))))))) rfl
   simp only at hz10 hc10
   obtain ⟨hz11, hc11⟩ := hX.1 (20, ⟨bo, oo + k * 5 + 4, none⟩, .int .i64 o.dig) (List.Mem.tail _ (List.Mem.tail _ (List.Mem.tail _ (List.Mem.tail _ (List.Mem.tail _ (List.Mem.tail _ (List.Mem.tail _ (List.Mem.tail _ (List.Mem.tail _ (List.Mem.tail _ (List.Mem.tail _ (List.Mem.head _)))))))))))) rfl
   simp only at hz11 hc11
   clear hX
   go_simp
  try simp only [Act.put, zA, zB, zC]
  refine tJ 21 (.bool false) (some 161) rfl (SZ.drop (by simp) (by simp)) (Or.inl ⟨by rfl, ?_⟩) ?_
  ·intro X hX
   clear hX
   go_simp
  try simp only [Act.put, zA, zB, zC]
  refine tJ 22 (.bool false) (some 162) rfl (SZ.drop (by simp) (by simp)) (Or.inl ⟨by rfl, ?_⟩) ?_
  ·intro X hX
   clear hX
   go_simp
  try simp only [Act.put, zA, zB, zC]
  clear HAL
  refine done_I (by kernel_rfl) ?_ _
  go_wp2_with fail
  refine ⟨⟨k + 1, by have := HLT.out; omega, by go_num, N1⟩, by have := HLT.out; simp [intOf]; omega⟩

set_option maxRecDepth 100000 in
theorem lifted (os : Os) (started : os.Started) (H : Type) (enc : TypeId × Value → H) :
  ReturnsInHanded {} Try.checked os 7 .any (Rows.storeBackSpec.pre6 enc Try.prog Try.f7 Rows.storeBackRow.domain false) (Rows.storeBackSpec.post enc Try.prog Try.f7 false true false false) := by
 refine returnsInHanded_of_change (C := Try.checked) own started (by kernel_rfl) Try.func7
  (ChangeSpec.witness6 (enc := enc) (C := Try.checked) false ⟨#[], #[.agg #[.int .i64 0, .int .i64 0, .slice none 0 0, .slice none 0 0], .int .i64 0, .string ⟨#[]⟩, .slice none 0 0], []⟩ 8 (by kernel_rfl) (by kernel_rfl) (by kernel_rfl) (by kernel_rfl)) ?_
 intro W base args ds gs before hval0 hW hcnd _
 have hval : ∀ (j : Nat) t v, Try.f7.params[j]? = some t → args[j]? = some v → Value.okWide Try.prog W .any base t v := hval0
 have hW' := hW
 obtain ⟨p, q, hA0, hV, rfl, hfz, hnd⟩ := hW
 have hA : DataW.TrodAll enc Try.prog W 0 (fun _ => true) true Try.f7.params.toList args.toList ds p := hA0
 rw [Try.params7] at hA hval
 obtain ⟨v0, vs0, d0, ds0, p0, q0, hargs, rfl, rfl, h0, r0⟩ := trodAll_cons hA
 obtain ⟨v1, vs1, d1, ds1, p1, q1, rfl, rfl, rfl, h1, r1⟩ := trodAll_cons r0
 obtain ⟨v2, vs2, d2, ds2, p2, q2, rfl, rfl, rfl, h2, r2⟩ := trodAll_cons r1
 obtain ⟨v3, vs3, d3, ds3, p3, q3, rfl, rfl, rfl, h3, r3⟩ := trodAll_cons r2
 obtain ⟨rfl, rfl, rfl⟩ := trodAll_nil r3
 obtain rfl : args = #[v0, v1, v2, v3] := by cases args; simp_all
 obtain ⟨rfl, rfl⟩ := trodVars_none hV
 have k0 := h0
 have lt0 : ∀ x ∈ p0, x.block < W.heap.size := by obtain ⟨m, hm⟩ := k0; exact DataW.trod_lt m _ _ _ hm
 obtain ⟨c0_0, c1_0, c2_0, c3_0, y0_0, y1_0, y2_0, y3_0, m0, rfl, _, _, t0_0, t1_0, t2_0, t3_0⟩ := open_agg4 Try.underlying25 (by kernel_rfl) (show Try.prog.cellsOf 25 = 4 by kernel_rfl) (hval 0 25 v0 rfl rfl) h0
 obtain ⟨d, e0_0, _, wd⟩ := DataW.trod_int Try.underlying3 t0_0
 obtain ⟨p, e1_0, _, wp⟩ := DataW.trod_int Try.underlying3 t1_0
 obtain ⟨D, ds, cd, e2_0, hnd, hcd, hd⟩ := open_dks t2_0
 obtain ⟨A, obs, ca, e3_0, hna, hca, hs⟩ := open_obs t3_0
 simp only [List.cons.injEq, and_true] at e0_0 e1_0 e2_0 e3_0
 subst e0_0 e1_0 e2_0 e3_0
 have k1 := h1
 have lt1 : ∀ x ∈ p1, x.block < W.heap.size := by obtain ⟨m, hm⟩ := k1; exact DataW.trod_lt m _ _ _ hm
 obtain ⟨x, rfl, _, _, wx⟩ := open_int Try.underlying3 (hval 1 3 v1 rfl rfl) h1
 have k2 := h2
 have lt2 : ∀ x ∈ p2, x.block < W.heap.size := by obtain ⟨m, hm⟩ := k2; exact DataW.trod_lt m _ _ _ hm
 obtain ⟨nm, rfl, _, _, hnm0⟩ := open_string Try.underlying9 (hval 2 9 v2 rfl rfl) h2
 have hnm : nm.size ≤ 9223372036854775807 := by simpa [maxLen] using hnm0
 have k3 := h3
 have lt3 : ∀ x ∈ p3, x.block < W.heap.size := by obtain ⟨m, hm⟩ := k3; exact DataW.trod_lt m _ _ _ hm
 obtain ⟨sa3, sl3, sc3, rfl⟩ := okWide_slice Try.underlying26 (hval 3 26 v3 rfl rfl)
 obtain ⟨fu3, hf3⟩ := h3
 obtain ⟨Ab, b, cb, e3, hb1, hb2, hbb⟩ := open_bytes (cs := [.slice sa3 sl3 sc3]) hf3
 simp only [List.cons.injEq, and_true, Value.slice.injEq] at e3
 obtain ⟨rfl, rfl, rfl⟩ := e3
 clear hA0 hval0
 refine (walk d p D A cd ca 0 ds obs x nm _ _ b W hnd hcd hna hca hd hs hnm hb1 hb2 hbb).mono fun e W' ⟨he, bel⟩ => ?_
 subst he
 exact ⟨_, rfl, _, _, _, [], _, [], hW', trodAll_mk1 (shut_bool Try.underlying4 _), (trodAll_cons_mk (Below.trod laidOut (by kernel_rfl) (of_decide_eq_true (by kernel_rfl)) k0 bel lt0) (trodAll_cons_mk (Below.trod laidOut (by kernel_rfl) (of_decide_eq_true (by kernel_rfl)) k1 bel lt1) (trodAll_cons_mk (Below.trod laidOut (by kernel_rfl) (of_decide_eq_true (by kernel_rfl)) k2 bel lt2) (trodAll_cons_mk (Below.trod laidOut (by kernel_rfl) (of_decide_eq_true (by kernel_rfl)) k3 bel lt3) trodAll_mk0)))), rfl, bel.frame _, fun h => by cases h⟩

theorem over : Rows.storeBackRow.holds Try.pinned (OpenSpec.ofChange Rows.storeBackSpec) :=
 OpenClaim.holds_of_wide 7 Try.f7 rfl rfl rfl rfl rfl rfl rfl ⟨rfl, rfl, rfl, rfl, rfl⟩ rfl rfl rfl rfl rfl (by kernel_rfl) Try.func7 (by kernel_rfl)
  (of_decide_eq_true (by kernel_rfl)) (by unfold Func.isWrapper; first | (rw [if_pos (by decide +kernel)]; kernel_rfl) | (rw [if_neg (by decide +kernel)]; exact ⟨rfl, rfl⟩))
  (fun os started H enc _ => lifted os started H enc)

theorem proved : Rows.StoreBackSaid := over
#print axioms proved
end Go.Proofs.Ytapehckcmmompaa.storeBack
