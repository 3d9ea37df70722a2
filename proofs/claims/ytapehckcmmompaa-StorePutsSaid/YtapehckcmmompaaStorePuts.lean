/- For every input the law StorePuts returns true and leaves its arguments as they were. -/
import Derived.Test.YtapehckcmmompaaRows
import Derived.Test.YtapehckcmmompaaM30
import Derived.Test.YtapehckcmmompaaM27
import Derived.Test.YtapehckcmmompaaM28
import Derived.Test.YtapehckcmmompaaM29
import Derived.WalkKit
import Derived.ProofKit
import Derived.OpenShut
import Derived.ShutString
import Derived.ChangeOld
import Derived.Below
import Derived.Lib.SmallJoins
namespace Go.Proofs.Ytapehckcmmompaa.storePuts
open Go.ChangeShapes Go.WideShapes Go.ChangeAt Go.RowKit Go.Joins
open Go.ChangeMaps (open_string shut_string)
set_option linter.unusedVariables false

theorem own : ownKnob Try.prog.godebug = none := by kernel_rfl
theorem laidOut : laidOutB Try.prog = true := by kernel_rfl
attribute [local go_sem ↓] Go.wp_at_zero Go.wp_at_succ
set_option linter.unusedSimpArgs false
set_option maxRecDepth 100000 in
set_option maxHeartbeats 16000000 in
theorem walk (d p : Int) (D A : Option Addr) (cd ca B : Nat) (ds : List Dk) (os : List Ob) (x y : Int) (nm : ByteArray) (Ab : Option Addr) (cb : Nat) (b : List Nat) (w : World) (hnd : ds.length ≤ cd) (hcd : cd ≤ 9223372036854775807) (hna : os.length ≤ ca) (hca : ca ≤ 9223372036854775807) (hd : RD B w D ds) (hs : RO B w A os) (hnm : nm.size ≤ 9223372036854775807) (hb1 : b.length ≤ cb) (hb2 : cb ≤ 9223372036854775807) (hb : RBA 0 w Ab b) :
  Calls Try.prog 3 #[Tv d p (.slice D ds.length cd) (.slice A os.length ca), .int .i64 x, .int .i64 y, .string nm, .slice Ab b.length cb] w fun e w' => e = .returned (.bool true) ∧ Below w.heap.size w w' := by
 have HD := Lib.hid hd
 have HS := Lib.hid hs
 have HBY := Lib.hid hb
 have NN := Lib.hid (Below.refl w.heap.size w)
 clear hd hs hb
 have GR := Lib.hid (fun (W : World) (h : Below w.heap.size w W) => great_calls d p D A cd ca B ds os W hnd hcd hna hca (HD.out.next h) (HS.out.next h))
 by_cases hg : grB ds os = true
 ·rw [hg] at GR
  clear hg
  go_enter Try.func3, Try.ntmps3
  have HB : Hid (Below w.heap.size w (w.alloc (.cells #[.int .i64 d, .int .i64 p, .slice D ds.length cd, .slice A os.length ca] 25))) := Lib.hid (Bal (Below.refl _ _) _)
  have SB := Lib.hid (blk_new w (.cells #[.int .i64 d, .int .i64 p, .slice D ds.length cd, .slice A os.length ca] 25))
  replace NN := Lib.hid (Bgo NN.out HB.out)
  clear HB
  go_wp2_with fail
  generalize w.alloc (.cells #[.int .i64 d, .int .i64 p, .slice D ds.length cd, .slice A os.length ca] 25) = W1 at *
  refine (GR.out _ NN.out).mono ?_
  rintro e w2 ⟨rfl, hb⟩
  replace NN := Lib.hid (Bgo NN.out hb)
  replace SB := Lib.hid (blk_next hb SB.out)
  clear hb
  go_wp2_with fail
  go_ret
  exact ⟨rfl, NN.out⟩
 have hg' : grB ds os = false := by simpa using hg
 rw [hg'] at GR
 obtain ⟨g20, g20', gnm, gbl⟩ := grB_not hg'
 have HL : Hid (∀ o ∈ os, Lh o.name) := Lib.hid (fun o ho => by have := gnm o ho; unfold Lh; omega)
 have GBL := Lib.hid gbl
 clear hg hg' gnm gbl
 by_cases q1 : 100 < nm.size
 ·have t1 : decide ((100 : Int) < (nm.size : Int)) = true := decide_eq_true (by omega)
  go_enter Try.func3, Try.ntmps3
  have HB : Hid (Below w.heap.size w (w.alloc (.cells #[.int .i64 d, .int .i64 p, .slice D ds.length cd, .slice A os.length ca] 25))) := Lib.hid (Bal (Below.refl _ _) _)
  have SB := Lib.hid (blk_new w (.cells #[.int .i64 d, .int .i64 p, .slice D ds.length cd, .slice A os.length ca] 25))
  replace NN := Lib.hid (Bgo NN.out HB.out)
  clear HB
  go_wp2_with fail
  generalize w.alloc (.cells #[.int .i64 d, .int .i64 p, .slice D ds.length cd, .slice A os.length ca] 25) = W1 at *
  refine (GR.out _ NN.out).mono ?_
  rintro e w4 ⟨rfl, hb⟩
  replace NN := Lib.hid (Bgo NN.out hb)
  replace SB := Lib.hid (blk_next hb SB.out)
  clear hb
  go_wp2_with fail
  go_ret
  exact ⟨rfl, NN.out⟩
 have t1 : decide ((100 : Int) < (nm.size : Int)) = false := decide_eq_false (by omega)
 by_cases q2 : 300 < b.length
 ·have t2 : decide ((300 : Int) < (b.length : Int)) = true := decide_eq_true (by omega)
  go_enter Try.func3, Try.ntmps3
  have HB : Hid (Below w.heap.size w (w.alloc (.cells #[.int .i64 d, .int .i64 p, .slice D ds.length cd, .slice A os.length ca] 25))) := Lib.hid (Bal (Below.refl _ _) _)
  have SB := Lib.hid (blk_new w (.cells #[.int .i64 d, .int .i64 p, .slice D ds.length cd, .slice A os.length ca] 25))
  replace NN := Lib.hid (Bgo NN.out HB.out)
  clear HB
  go_wp2_with fail
  generalize w.alloc (.cells #[.int .i64 d, .int .i64 p, .slice D ds.length cd, .slice A os.length ca] 25) = W1 at *
  refine (GR.out _ NN.out).mono ?_
  rintro e w6 ⟨rfl, hb⟩
  replace NN := Lib.hid (Bgo NN.out hb)
  replace SB := Lib.hid (blk_next hb SB.out)
  clear hb
  go_wp2_with fail
  go_ret
  exact ⟨rfl, NN.out⟩
 have t2 : decide ((300 : Int) < (b.length : Int)) = false := decide_eq_false (by omega)
 clear q1 q2
 have TW := Lib.hid (fun (W : World) (h : Below w.heap.size w W) => twin_calls d p D A cd ca B ds os W hnd hcd hna hca (HD.out.next h) (HS.out.next h) (by omega) (by omega) (fun k hk => ⟨by have := (GBL.out k hk).1; omega, fun b hb => by have := (GBL.out k hk).2 b hb; omega⟩))
 have N1 := Lib.hid (fun W => new_calls x y W)
 have N2 := Lib.hid (fun W => refNew_calls x y W)
 have P1 := Lib.hid (fun (W : World) (h : Below w.heap.size w W) => put_calls d p D A cd ca B ds os nm Ab cb 0 b W hnd hcd hna hca (HD.out.next h) (HS.out.next h) HL.out hnm hb1 hb2 (RBA.next h HBY.out))
 have P2 := Lib.hid (fun (W : World) (h : Below w.heap.size w W) => refPut_calls d p D A cd ca B ds os nm Ab cb 0 b W hnd hcd hna hca (HD.out.next h) (HS.out.next h) HL.out hnm hb1 hb2 (RBA.next h HBY.out))
 have G1 := Lib.hid (fun (W : World) (h : Below w.heap.size w W) => get_calls d p D A cd ca B ds os nm W hnd hcd hna hca (HD.out.next h) (HS.out.next h) HL.out)
 have G2 := Lib.hid (fun (W : World) (h : Below w.heap.size w W) => refGet_calls d p D A cd ca B ds os nm W hnd hcd hna hca (HD.out.next h) (HS.out.next h) HL.out)
 have K1 := Lib.hid (fun (W : World) (h : Below w.heap.size w W) => oCheck_calls d p D A cd ca B ds os W hnd hcd hna hca (HD.out.next h) (HS.out.next h) HL.out)
 have K2 := Lib.hid (fun (W : World) (h : Below w.heap.size w W) => oRefCheck_calls d p D A cd ca B ds os W hnd hcd hna hca (HD.out.next h) (HS.out.next h) HL.out)
 have D1 := Lib.hid (fun (W : World) (h : Below w.heap.size w W) => calls_below (digest_calls Ab cb 0 b W hb1 hb2 (RBA.next h HBY.out)))
 have D2 := Lib.hid (fun (W : World) (h : Below w.heap.size w W) => calls_below (refDigest_calls Ab cb 0 b W hb1 hb2 (RBA.next h HBY.out)))
 generalize newE x y = ne at *
 generalize putE d p ds os nm b = pe at *
 generalize chS d p ds os = ce at *
 generalize digL b = dg at *
 obtain ⟨⟨n1, n2, n3, n4⟩, hn⟩ : ∃ r, newS x y = r := ⟨_, rfl⟩
 rw [hn] at N1 N2
 obtain ⟨⟨p1, p2, p3, p4⟩, hp⟩ : ∃ r, putS d p ds os nm b = r := ⟨_, rfl⟩
 rw [hp] at P1 P2
 obtain ⟨⟨gl, ge⟩, hr⟩ : ∃ r, getR d p ds os nm = r := ⟨_, rfl⟩
 rw [hr] at G1 G2
 clear hn hp hr
 go_enter Try.func3, Try.ntmps3
 have HB : Hid (Below w.heap.size w (w.alloc (.cells #[.int .i64 d, .int .i64 p, .slice D ds.length cd, .slice A os.length ca] 25))) := Lib.hid (Bal (Below.refl _ _) _)
 have SB := Lib.hid (blk_new w (.cells #[.int .i64 d, .int .i64 p, .slice D ds.length cd, .slice A os.length ca] 25))
 replace NN := Lib.hid (Bgo NN.out HB.out)
 clear HB
 go_wp2_with fail
 generalize w.alloc (.cells #[.int .i64 d, .int .i64 p, .slice D ds.length cd, .slice A os.length ca] 25) = W1 at *
 refine (GR.out _ NN.out).mono ?_
 rintro e w8 ⟨rfl, hb⟩
 replace NN := Lib.hid (Bgo NN.out hb)
 replace SB := Lib.hid (blk_next hb SB.out)
 clear hb
 have c_SB_0 := blk_cell SB.out 0 _ rfl
 have f_SB_0 := blk_frozen SB.out 0
 have c_SB_1 := blk_cell SB.out 1 _ rfl
 have f_SB_1 := blk_frozen SB.out 1
 have c_SB_2 := blk_cell SB.out 2 _ rfl
 have f_SB_2 := blk_frozen SB.out 2
 have c_SB_3 := blk_cell SB.out 3 _ rfl
 have f_SB_3 := blk_frozen SB.out 3
 have l_SB := blk_lt SB.out
 go_wp2_with fail
 refine (TW.out _ NN.out).mono ?_
 rintro e w9 ⟨v, u, rfl, ht, hu, hb⟩
 try simp only at ht hu
 obtain ⟨A0, c0, rfl, k0a, k0b⟩ := ht.form
 obtain ⟨B0, d0, rfl, k0c, k0d⟩ := hu.form
 have T0 := Lib.hid ht.rd
 have U0 := Lib.hid hu.ro
 clear ht hu
 clear c_SB_0 f_SB_0 c_SB_1 f_SB_1 c_SB_2 f_SB_2 c_SB_3 f_SB_3 l_SB
 replace NN := Lib.hid (Bgo NN.out hb)
 replace SB := Lib.hid (blk_next hb SB.out)
 clear hb
 have HB : Hid (Below w9.heap.size w9 (w9.alloc (.cells #[.int .i64 d, .int .i64 p, .slice A0 ds.length c0, .slice B0 os.length d0] 25))) := Lib.hid (Bal (Below.refl _ _) _)
 have S0 := Lib.hid (blk_new w9 (.cells #[.int .i64 d, .int .i64 p, .slice A0 ds.length c0, .slice B0 os.length d0] 25))
 replace NN := Lib.hid (Bgo NN.out HB.out)
 replace T0 := Lib.hid (T0.out.next HB.out)
 replace U0 := Lib.hid (U0.out.next HB.out)
 replace SB := Lib.hid (blk_next HB.out SB.out)
 clear HB
 go_wp2_with fail
 generalize w9.alloc (.cells #[.int .i64 d, .int .i64 p, .slice A0 ds.length c0, .slice B0 os.length d0] 25) = W10 at *
 generalize w9.heap.size = g10 at *
 refine (N1.out _).mono ?_
 rintro e w11 ⟨v, u, rfl, ht, hu, hb⟩
 try simp only at ht hu
 obtain ⟨A1, c1, rfl, k1a, k1b⟩ := ht.form
 obtain ⟨B1, d1, rfl, k1c, k1d⟩ := hu.form
 have T1 := Lib.hid ht.rd
 have U1 := Lib.hid hu.ro
 clear ht hu
 replace NN := Lib.hid (Bgo NN.out hb)
 replace T0 := Lib.hid (T0.out.next hb)
 replace U0 := Lib.hid (U0.out.next hb)
 replace SB := Lib.hid (blk_next hb SB.out)
 replace S0 := Lib.hid (blk_next hb S0.out)
 clear hb
 have HB : Hid (Below w11.heap.size w11 (w11.alloc (.cells #[.int .i64 n1, .int .i64 n2, .slice A1 n3.length c1, .slice B1 n4.length d1] 25))) := Lib.hid (Bal (Below.refl _ _) _)
 have S1 := Lib.hid (blk_new w11 (.cells #[.int .i64 n1, .int .i64 n2, .slice A1 n3.length c1, .slice B1 n4.length d1] 25))
 replace NN := Lib.hid (Bgo NN.out HB.out)
 replace T0 := Lib.hid (T0.out.next HB.out)
 replace U0 := Lib.hid (U0.out.next HB.out)
 replace T1 := Lib.hid (T1.out.next HB.out)
 replace U1 := Lib.hid (U1.out.next HB.out)
 replace SB := Lib.hid (blk_next HB.out SB.out)
 replace S0 := Lib.hid (blk_next HB.out S0.out)
 clear HB
 go_wp2_with fail
 generalize w11.alloc (.cells #[.int .i64 n1, .int .i64 n2, .slice A1 n3.length c1, .slice B1 n4.length d1] 25) = W12 at *
 generalize w11.heap.size = g12 at *
 refine (N2.out _).mono ?_
 rintro e w13 ⟨v, u, rfl, ht, hu, hb⟩
 try simp only at ht hu
 obtain ⟨A2, c2, rfl, k2a, k2b⟩ := ht.form
 obtain ⟨B2, d2, rfl, k2c, k2d⟩ := hu.form
 have T2 := Lib.hid ht.rd
 have U2 := Lib.hid hu.ro
 clear ht hu
 replace NN := Lib.hid (Bgo NN.out hb)
 replace T0 := Lib.hid (T0.out.next hb)
 replace U0 := Lib.hid (U0.out.next hb)
 replace T1 := Lib.hid (T1.out.next hb)
 replace U1 := Lib.hid (U1.out.next hb)
 replace SB := Lib.hid (blk_next hb SB.out)
 replace S0 := Lib.hid (blk_next hb S0.out)
 replace S1 := Lib.hid (blk_next hb S1.out)
 clear hb
 have HB : Hid (Below w13.heap.size w13 (w13.alloc (.cells #[.int .i64 n1, .int .i64 n2, .slice A2 n3.length c2, .slice B2 n4.length d2] 25))) := Lib.hid (Bal (Below.refl _ _) _)
 have S2 := Lib.hid (blk_new w13 (.cells #[.int .i64 n1, .int .i64 n2, .slice A2 n3.length c2, .slice B2 n4.length d2] 25))
 replace NN := Lib.hid (Bgo NN.out HB.out)
 replace T0 := Lib.hid (T0.out.next HB.out)
 replace U0 := Lib.hid (U0.out.next HB.out)
 replace T1 := Lib.hid (T1.out.next HB.out)
 replace U1 := Lib.hid (U1.out.next HB.out)
 replace T2 := Lib.hid (T2.out.next HB.out)
 replace U2 := Lib.hid (U2.out.next HB.out)
 replace SB := Lib.hid (blk_next HB.out SB.out)
 replace S0 := Lib.hid (blk_next HB.out S0.out)
 replace S1 := Lib.hid (blk_next HB.out S1.out)
 clear HB
 have c_SB_0 := blk_cell SB.out 0 _ rfl
 have f_SB_0 := blk_frozen SB.out 0
 have c_SB_1 := blk_cell SB.out 1 _ rfl
 have f_SB_1 := blk_frozen SB.out 1
 have c_SB_2 := blk_cell SB.out 2 _ rfl
 have f_SB_2 := blk_frozen SB.out 2
 have c_SB_3 := blk_cell SB.out 3 _ rfl
 have f_SB_3 := blk_frozen SB.out 3
 have l_SB := blk_lt SB.out
 go_wp2_with fail
 clear c_SB_0 f_SB_0 c_SB_1 f_SB_1 c_SB_2 f_SB_2 c_SB_3 f_SB_3 l_SB
 generalize w13.alloc (.cells #[.int .i64 n1, .int .i64 n2, .slice A2 n3.length c2, .slice B2 n4.length d2] 25) = W14 at *
 generalize w13.heap.size = g14 at *
 have NB := Lib.hid (Below.refl W14.heap.size W14)
 have T0b := T0
 have U0b := U0
 have SBb := SB
 have S0b := S0
 have NNb := NN
 have LWb := NN.out.size
 refine (P1.out _ NN.out).mono ?_
 rintro e w15 ⟨v, u, rfl, ht, hu, hb⟩
 try simp only at ht hu
 obtain ⟨A3, c3, rfl, k3a, k3b⟩ := ht.form
 obtain ⟨B3, d3, rfl, k3c, k3d⟩ := hu.form
 have TP := Lib.hid ht
 have T3 := Lib.hid ht.rd
 have U3 := Lib.hid hu.ro
 clear ht hu
 replace NN := Lib.hid (Bgo NN.out hb)
 replace T0 := Lib.hid (T0.out.next hb)
 replace U0 := Lib.hid (U0.out.next hb)
 replace T1 := Lib.hid (T1.out.next hb)
 replace U1 := Lib.hid (U1.out.next hb)
 replace T2 := Lib.hid (T2.out.next hb)
 replace U2 := Lib.hid (U2.out.next hb)
 replace NB := Lib.hid (Bgo NB.out hb)
 replace SB := Lib.hid (blk_next hb SB.out)
 replace S0 := Lib.hid (blk_next hb S0.out)
 replace S1 := Lib.hid (blk_next hb S1.out)
 replace S2 := Lib.hid (blk_next hb S2.out)
 clear hb
 have HB : Hid (Below w15.heap.size w15 (w15.alloc (.cells #[.int .i64 p1, .int .i64 p2, .slice A3 p3.length c3, .slice B3 p4.length d3] 25))) := Lib.hid (Bal (Below.refl _ _) _)
 have S3 := Lib.hid (blk_new w15 (.cells #[.int .i64 p1, .int .i64 p2, .slice A3 p3.length c3, .slice B3 p4.length d3] 25))
 replace NN := Lib.hid (Bgo NN.out HB.out)
 replace T0 := Lib.hid (T0.out.next HB.out)
 replace U0 := Lib.hid (U0.out.next HB.out)
 replace T1 := Lib.hid (T1.out.next HB.out)
 replace U1 := Lib.hid (U1.out.next HB.out)
 replace T2 := Lib.hid (T2.out.next HB.out)
 replace U2 := Lib.hid (U2.out.next HB.out)
 replace NB := Lib.hid (Bgo NB.out HB.out)
 replace TP := Lib.hid (TP.out.next HB.out)
 replace T3 := Lib.hid (T3.out.next HB.out)
 replace U3 := Lib.hid (U3.out.next HB.out)
 replace SB := Lib.hid (blk_next HB.out SB.out)
 replace S0 := Lib.hid (blk_next HB.out S0.out)
 replace S1 := Lib.hid (blk_next HB.out S1.out)
 replace S2 := Lib.hid (blk_next HB.out S2.out)
 clear HB
 have c_SB_0 := blk_cell SB.out 0 _ rfl
 have f_SB_0 := blk_frozen SB.out 0
 have c_SB_1 := blk_cell SB.out 1 _ rfl
 have f_SB_1 := blk_frozen SB.out 1
 have c_SB_2 := blk_cell SB.out 2 _ rfl
 have f_SB_2 := blk_frozen SB.out 2
 have c_SB_3 := blk_cell SB.out 3 _ rfl
 have f_SB_3 := blk_frozen SB.out 3
 have l_SB := blk_lt SB.out
 go_wp2_with fail
 clear c_SB_0 f_SB_0 c_SB_1 f_SB_1 c_SB_2 f_SB_2 c_SB_3 f_SB_3 l_SB
 generalize w15.alloc (.cells #[.int .i64 p1, .int .i64 p2, .slice A3 p3.length c3, .slice B3 p4.length d3] 25) = W16 at *
 generalize w15.heap.size = g16 at *
 refine (P2.out _ NN.out).mono ?_
 rintro e w17 ⟨v, u, rfl, ht, hu, hb⟩
 try simp only at ht hu
 obtain ⟨A4, c4, rfl, k4a, k4b⟩ := ht.form
 obtain ⟨B4, d4, rfl, k4c, k4d⟩ := hu.form
 have T4 := Lib.hid ht.rd
 have U4 := Lib.hid hu.ro
 clear ht hu
 replace NN := Lib.hid (Bgo NN.out hb)
 replace T0 := Lib.hid (T0.out.next hb)
 replace U0 := Lib.hid (U0.out.next hb)
 replace T1 := Lib.hid (T1.out.next hb)
 replace U1 := Lib.hid (U1.out.next hb)
 replace T2 := Lib.hid (T2.out.next hb)
 replace U2 := Lib.hid (U2.out.next hb)
 replace NB := Lib.hid (Bgo NB.out hb)
 replace TP := Lib.hid (TP.out.next hb)
 replace T3 := Lib.hid (T3.out.next hb)
 replace U3 := Lib.hid (U3.out.next hb)
 replace SB := Lib.hid (blk_next hb SB.out)
 replace S0 := Lib.hid (blk_next hb S0.out)
 replace S1 := Lib.hid (blk_next hb S1.out)
 replace S2 := Lib.hid (blk_next hb S2.out)
 replace S3 := Lib.hid (blk_next hb S3.out)
 clear hb
 have HB : Hid (Below w17.heap.size w17 (w17.alloc (.cells #[.int .i64 p1, .int .i64 p2, .slice A4 p3.length c4, .slice B4 p4.length d4] 25))) := Lib.hid (Bal (Below.refl _ _) _)
 have S4 := Lib.hid (blk_new w17 (.cells #[.int .i64 p1, .int .i64 p2, .slice A4 p3.length c4, .slice B4 p4.length d4] 25))
 replace NN := Lib.hid (Bgo NN.out HB.out)
 replace T0 := Lib.hid (T0.out.next HB.out)
 replace U0 := Lib.hid (U0.out.next HB.out)
 replace T1 := Lib.hid (T1.out.next HB.out)
 replace U1 := Lib.hid (U1.out.next HB.out)
 replace T2 := Lib.hid (T2.out.next HB.out)
 replace U2 := Lib.hid (U2.out.next HB.out)
 replace NB := Lib.hid (Bgo NB.out HB.out)
 replace TP := Lib.hid (TP.out.next HB.out)
 replace T3 := Lib.hid (T3.out.next HB.out)
 replace U3 := Lib.hid (U3.out.next HB.out)
 replace T4 := Lib.hid (T4.out.next HB.out)
 replace U4 := Lib.hid (U4.out.next HB.out)
 replace SB := Lib.hid (blk_next HB.out SB.out)
 replace S0 := Lib.hid (blk_next HB.out S0.out)
 replace S1 := Lib.hid (blk_next HB.out S1.out)
 replace S2 := Lib.hid (blk_next HB.out S2.out)
 replace S3 := Lib.hid (blk_next HB.out S3.out)
 clear HB
 have c_SB_0 := blk_cell SB.out 0 _ rfl
 have f_SB_0 := blk_frozen SB.out 0
 have c_SB_1 := blk_cell SB.out 1 _ rfl
 have f_SB_1 := blk_frozen SB.out 1
 have c_SB_2 := blk_cell SB.out 2 _ rfl
 have f_SB_2 := blk_frozen SB.out 2
 have c_SB_3 := blk_cell SB.out 3 _ rfl
 have f_SB_3 := blk_frozen SB.out 3
 have l_SB := blk_lt SB.out
 go_wp2_with fail
 clear c_SB_0 f_SB_0 c_SB_1 f_SB_1 c_SB_2 f_SB_2 c_SB_3 f_SB_3 l_SB
 generalize w17.alloc (.cells #[.int .i64 p1, .int .i64 p2, .slice A4 p3.length c4, .slice B4 p4.length d4] 25) = W18 at *
 generalize w17.heap.size = g18 at *
 refine (G1.out _ NN.out).mono ?_
 rintro e w19 ⟨v, rfl, hr, hb⟩
 simp only at hr
 obtain ⟨A5, c5, rfl, k5a, k5b, hr⟩ := hr
 have R5 := Lib.hid hr
 clear hr
 replace NN := Lib.hid (Bgo NN.out hb)
 replace T0 := Lib.hid (T0.out.next hb)
 replace U0 := Lib.hid (U0.out.next hb)
 replace T1 := Lib.hid (T1.out.next hb)
 replace U1 := Lib.hid (U1.out.next hb)
 replace T2 := Lib.hid (T2.out.next hb)
 replace U2 := Lib.hid (U2.out.next hb)
 replace NB := Lib.hid (Bgo NB.out hb)
 replace TP := Lib.hid (TP.out.next hb)
 replace T3 := Lib.hid (T3.out.next hb)
 replace U3 := Lib.hid (U3.out.next hb)
 replace T4 := Lib.hid (T4.out.next hb)
 replace U4 := Lib.hid (U4.out.next hb)
 replace SB := Lib.hid (blk_next hb SB.out)
 replace S0 := Lib.hid (blk_next hb S0.out)
 replace S1 := Lib.hid (blk_next hb S1.out)
 replace S2 := Lib.hid (blk_next hb S2.out)
 replace S3 := Lib.hid (blk_next hb S3.out)
 replace S4 := Lib.hid (blk_next hb S4.out)
 clear hb
 have c_SB_0 := blk_cell SB.out 0 _ rfl
 have f_SB_0 := blk_frozen SB.out 0
 have c_SB_1 := blk_cell SB.out 1 _ rfl
 have f_SB_1 := blk_frozen SB.out 1
 have c_SB_2 := blk_cell SB.out 2 _ rfl
 have f_SB_2 := blk_frozen SB.out 2
 have c_SB_3 := blk_cell SB.out 3 _ rfl
 have f_SB_3 := blk_frozen SB.out 3
 have l_SB := blk_lt SB.out
 go_wp2_with fail
 refine (G2.out _ NN.out).mono ?_
 rintro e w20 ⟨v, rfl, hr, hb⟩
 simp only at hr
 obtain ⟨A6, c6, rfl, k6a, k6b, hr⟩ := hr
 have R6 := Lib.hid hr
 clear hr
 clear c_SB_0 f_SB_0 c_SB_1 f_SB_1 c_SB_2 f_SB_2 c_SB_3 f_SB_3 l_SB
 replace NN := Lib.hid (Bgo NN.out hb)
 replace T0 := Lib.hid (T0.out.next hb)
 replace U0 := Lib.hid (U0.out.next hb)
 replace T1 := Lib.hid (T1.out.next hb)
 replace U1 := Lib.hid (U1.out.next hb)
 replace T2 := Lib.hid (T2.out.next hb)
 replace U2 := Lib.hid (U2.out.next hb)
 replace NB := Lib.hid (Bgo NB.out hb)
 replace TP := Lib.hid (TP.out.next hb)
 replace T3 := Lib.hid (T3.out.next hb)
 replace U3 := Lib.hid (U3.out.next hb)
 replace T4 := Lib.hid (T4.out.next hb)
 replace U4 := Lib.hid (U4.out.next hb)
 replace R5 := Lib.hid (RBA.next hb R5.out)
 replace SB := Lib.hid (blk_next hb SB.out)
 replace S0 := Lib.hid (blk_next hb S0.out)
 replace S1 := Lib.hid (blk_next hb S1.out)
 replace S2 := Lib.hid (blk_next hb S2.out)
 replace S3 := Lib.hid (blk_next hb S3.out)
 replace S4 := Lib.hid (blk_next hb S4.out)
 clear hb
 go_wp2_with fail
 refine region_I (S := SX [(6, g12, .cells #[.int .i64 n1, .int .i64 n2, .slice A1 n3.length c1, .slice B1 n4.length d1] 25), (7, g14, .cells #[.int .i64 n1, .int .i64 n2, .slice A2 n3.length c2, .slice B2 n4.length d2] 25), (17, w.heap.size, .cells #[.int .i64 d, .int .i64 p, .slice D ds.length cd, .slice A os.length ca] 25), (19, w.heap.size, .cells #[.int .i64 d, .int .i64 p, .slice D ds.length cd, .slice A os.length ca] 25), (24, g16, .cells #[.int .i64 p1, .int .i64 p2, .slice A3 p3.length c3, .slice B3 p4.length d3] 25), (25, g18, .cells #[.int .i64 p1, .int .i64 p2, .slice A4 p3.length c4, .slice B4 p4.length d4] 25)] 36 38 A5 A6 gl gl) (by kernel_rfl) ?_
 have HAL := Lib.hid (fun (k : Nat) => (show SX [(6, g12, .cells #[.int .i64 n1, .int .i64 n2, .slice A1 n3.length c1, .slice B1 n4.length d1] 25), (7, g14, .cells #[.int .i64 n1, .int .i64 n2, .slice A2 n3.length c2, .slice B2 n4.length d2] 25), (17, w.heap.size, .cells #[.int .i64 d, .int .i64 p, .slice D ds.length cd, .slice A os.length ca] 25), (19, w.heap.size, .cells #[.int .i64 d, .int .i64 p, .slice D ds.length cd, .slice A os.length ca] 25), (24, g16, .cells #[.int .i64 p1, .int .i64 p2, .slice A3 p3.length c3, .slice B3 p4.length d3] 25), (25, g18, .cells #[.int .i64 p1, .int .i64 p2, .slice A4 p3.length c4, .slice B4 p4.length d4] 25)] 36 38 A5 A6 gl gl k w20.drew from ⟨fun p hp e => by
  simp only [List.mem_cons, List.not_mem_nil, or_false] at hp
  rcases hp with rfl | rfl | rfl | rfl | rfl | rfl
  ·exact S1.out
  ·exact S2.out
  ·exact SB.out
  ·exact SB.out
  ·exact S3.out
  ·exact S4.out
  , fun _ => ⟨R5.out, R6.out⟩⟩))
 have HDRW := Lib.hid (Below.drew (Below.refl w20.heap.size w20))
 replace NN := Lib.hid (Bgo NN.out HDRW.out)
 replace T0 := Lib.hid (T0.out.next HDRW.out)
 replace U0 := Lib.hid (U0.out.next HDRW.out)
 replace T1 := Lib.hid (T1.out.next HDRW.out)
 replace U1 := Lib.hid (U1.out.next HDRW.out)
 replace T2 := Lib.hid (T2.out.next HDRW.out)
 replace U2 := Lib.hid (U2.out.next HDRW.out)
 replace NB := Lib.hid (Bgo NB.out HDRW.out)
 replace TP := Lib.hid (TP.out.next HDRW.out)
 replace T3 := Lib.hid (T3.out.next HDRW.out)
 replace U3 := Lib.hid (U3.out.next HDRW.out)
 replace T4 := Lib.hid (T4.out.next HDRW.out)
 replace U4 := Lib.hid (U4.out.next HDRW.out)
 replace R5 := Lib.hid (RBA.next HDRW.out R5.out)
 replace R6 := Lib.hid (RBA.next HDRW.out R6.out)
 replace SB := Lib.hid (blk_next HDRW.out SB.out)
 replace S0 := Lib.hid (blk_next HDRW.out S0.out)
 replace S1 := Lib.hid (blk_next HDRW.out S1.out)
 replace S2 := Lib.hid (blk_next HDRW.out S2.out)
 replace S3 := Lib.hid (blk_next HDRW.out S3.out)
 replace S4 := Lib.hid (blk_next HDRW.out S4.out)
 clear HDRW
 refine take_I 0 (.slice Ab b.length cb) (some 79) rfl (by kernel_rfl) (by kernel_rfl) (by kernel_rfl) rfl (fun _ _ _ h => h) (Or.inl ⟨by rfl, ?_⟩) (SX.drop (by simp) (by decide) (by decide)) ?_
 ·intro X hX
  clear hX
  go_simp
 try simp only [Act.put, zA, zB, zC]
 refine take_I 2 (.slice Ab b.length cb) (some 81) rfl (by kernel_rfl) (by kernel_rfl) (by kernel_rfl) rfl (fun _ _ _ h => h) (Or.inl ⟨by rfl, ?_⟩) (SX.drop (by simp) (by decide) (by decide)) ?_
 ·intro X hX
  clear hX
  go_simp
 try simp only [Act.put, zA, zB, zC]
 refine only_I 1 (by kernel_rfl) rfl (fun K' hK' => ?_)
 go_simp
 go_at_call 18
 refine (D1.out _ NN.out).mono ?_
 rintro e x21 ⟨rfl, hb⟩
 replace NN := Lib.hid (Bgo NN.out hb)
 replace T0 := Lib.hid (T0.out.next hb)
 replace U0 := Lib.hid (U0.out.next hb)
 replace T1 := Lib.hid (T1.out.next hb)
 replace U1 := Lib.hid (U1.out.next hb)
 replace T2 := Lib.hid (T2.out.next hb)
 replace U2 := Lib.hid (U2.out.next hb)
 replace NB := Lib.hid (Bgo NB.out hb)
 replace TP := Lib.hid (TP.out.next hb)
 replace T3 := Lib.hid (T3.out.next hb)
 replace U3 := Lib.hid (U3.out.next hb)
 replace T4 := Lib.hid (T4.out.next hb)
 replace U4 := Lib.hid (U4.out.next hb)
 replace R5 := Lib.hid (RBA.next hb R5.out)
 replace R6 := Lib.hid (RBA.next hb R6.out)
 replace SB := Lib.hid (blk_next hb SB.out)
 replace S0 := Lib.hid (blk_next hb S0.out)
 replace S1 := Lib.hid (blk_next hb S1.out)
 replace S2 := Lib.hid (blk_next hb S2.out)
 replace S3 := Lib.hid (blk_next hb S3.out)
 replace S4 := Lib.hid (blk_next hb S4.out)
 go_simp
 refine hK'.out _ _ (fun k _ hS => hS.next hb) ?_
 clear hK' K'
 try simp only [Act.put, zA, zB, zC]
 replace HAL := Lib.hid (fun k => (HAL.out k).next hb)
 refine only_I 3 (by kernel_rfl) rfl (fun K' hK' => ?_)
 go_simp
 go_at_call 19
 refine (D2.out _ NN.out).mono ?_
 rintro e x22 ⟨rfl, hb⟩
 replace NN := Lib.hid (Bgo NN.out hb)
 replace T0 := Lib.hid (T0.out.next hb)
 replace U0 := Lib.hid (U0.out.next hb)
 replace T1 := Lib.hid (T1.out.next hb)
 replace U1 := Lib.hid (U1.out.next hb)
 replace T2 := Lib.hid (T2.out.next hb)
 replace U2 := Lib.hid (U2.out.next hb)
 replace NB := Lib.hid (Bgo NB.out hb)
 replace TP := Lib.hid (TP.out.next hb)
 replace T3 := Lib.hid (T3.out.next hb)
 replace U3 := Lib.hid (U3.out.next hb)
 replace T4 := Lib.hid (T4.out.next hb)
 replace U4 := Lib.hid (U4.out.next hb)
 replace R5 := Lib.hid (RBA.next hb R5.out)
 replace R6 := Lib.hid (RBA.next hb R6.out)
 replace SB := Lib.hid (blk_next hb SB.out)
 replace S0 := Lib.hid (blk_next hb S0.out)
 replace S1 := Lib.hid (blk_next hb S1.out)
 replace S2 := Lib.hid (blk_next hb S2.out)
 replace S3 := Lib.hid (blk_next hb S3.out)
 replace S4 := Lib.hid (blk_next hb S4.out)
 go_simp
 refine hK'.out _ _ (fun k _ hS => hS.next hb) ?_
 clear hK' K'
 try simp only [Act.put, zA, zB, zC]
 replace HAL := Lib.hid (fun k => (HAL.out k).next hb)
 refine take_I 4 (.bool false) (some 83) rfl (by kernel_rfl) (by kernel_rfl) (by kernel_rfl) rfl (fun _ _ _ h => h) (Or.inl ⟨by rfl, ?_⟩) (SX.drop (by simp) (by decide) (by decide)) ?_
 ·intro X hX
  clear hX
  go_simp
 try simp only [Act.put, zA, zB, zC]
 refine take_I 5 (.bool false) (some 84) rfl (by kernel_rfl) (by kernel_rfl) (by kernel_rfl) rfl (fun _ _ _ h => h) (Or.inl ⟨by rfl, ?_⟩) (SX.drop (by simp) (by decide) (by decide)) ?_
 ·intro X hX
  clear hX
  go_simp
 try simp only [Act.put, zA, zB, zC]
 refine take_I 6 (.agg #[.int .i64 n1, .int .i64 n2, .slice A1 n3.length c1, .slice B1 n4.length d1]) (some 85) rfl (by kernel_rfl) (by kernel_rfl) (by kernel_rfl) rfl (fun _ _ _ h => h) (Or.inl ⟨by rfl, ?_⟩) (HAL.out 6) ?_
 ·intro X hX
  have hh := hX.1 (6, g12, .cells #[.int .i64 n1, .int .i64 n2, .slice A1 n3.length c1, .slice B1 n4.length d1] 25) (List.Mem.head _) rfl
  have hh0 := blk_cell hh 0 _ rfl
  have hh1 := blk_cell hh 1 _ rfl
  have hh2 := blk_cell hh 2 _ rfl
  have hh3 := blk_cell hh 3 _ rfl
  have hhl := blk_lt hh
  clear hh
  clear hX
  go_simp
 try simp only [Act.put, zA, zB, zC]
 refine take_I 7 (.agg #[.int .i64 n1, .int .i64 n2, .slice A2 n3.length c2, .slice B2 n4.length d2]) (some 86) rfl (by kernel_rfl) (by kernel_rfl) (by kernel_rfl) rfl (fun _ _ _ h => h) (Or.inl ⟨by rfl, ?_⟩) (HAL.out 7) ?_
 ·intro X hX
  have hh := hX.1 (7, g14, .cells #[.int .i64 n1, .int .i64 n2, .slice A2 n3.length c2, .slice B2 n4.length d2] 25) (List.Mem.tail _ (List.Mem.head _)) rfl
  have hh0 := blk_cell hh 0 _ rfl
  have hh1 := blk_cell hh 1 _ rfl
  have hh2 := blk_cell hh 2 _ rfl
  have hh3 := blk_cell hh 3 _ rfl
  have hhl := blk_lt hh
  clear hh
  clear hX
  go_simp
 try simp only [Act.put, zA, zB, zC]
 refine only_I 8 (by kernel_rfl) rfl (fun K' hK' => ?_)
 go_simp
 go_at_call 20
 refine (same_self n1 n2 A1 B1 c1 d1 _ n3 n4 A2 B2 c2 d2 _ _ k1a k1b k1c k1d T1.out U1.out k2a k2b k2c k2d T2.out U2.out).mono ?_
 rintro e x23 ⟨rfl, hb⟩
 replace NN := Lib.hid (Bgo NN.out hb)
 replace T0 := Lib.hid (T0.out.next hb)
 replace U0 := Lib.hid (U0.out.next hb)
 replace T1 := Lib.hid (T1.out.next hb)
 replace U1 := Lib.hid (U1.out.next hb)
 replace T2 := Lib.hid (T2.out.next hb)
 replace U2 := Lib.hid (U2.out.next hb)
 replace NB := Lib.hid (Bgo NB.out hb)
 replace TP := Lib.hid (TP.out.next hb)
 replace T3 := Lib.hid (T3.out.next hb)
 replace U3 := Lib.hid (U3.out.next hb)
 replace T4 := Lib.hid (T4.out.next hb)
 replace U4 := Lib.hid (U4.out.next hb)
 replace R5 := Lib.hid (RBA.next hb R5.out)
 replace R6 := Lib.hid (RBA.next hb R6.out)
 replace SB := Lib.hid (blk_next hb SB.out)
 replace S0 := Lib.hid (blk_next hb S0.out)
 replace S1 := Lib.hid (blk_next hb S1.out)
 replace S2 := Lib.hid (blk_next hb S2.out)
 replace S3 := Lib.hid (blk_next hb S3.out)
 replace S4 := Lib.hid (blk_next hb S4.out)
 go_simp
 refine hK'.out _ _ (fun k _ hS => hS.next hb) ?_
 clear hK' K'
 try simp only [Act.put, zA, zB, zC]
 replace HAL := Lib.hid (fun k => (HAL.out k).next hb)
 refine take_I 9 (.bool false) (some 88) rfl (by kernel_rfl) (by kernel_rfl) (by kernel_rfl) rfl (fun _ _ _ h => h) (Or.inl ⟨by rfl, ?_⟩) (SX.drop (by simp) (by decide) (by decide)) ?_
 ·intro X hX
  clear hX
  go_simp
 try simp only [Act.put, zA, zB, zC]
 refine take_I 10 (.bool false) (some 89) rfl (by kernel_rfl) (by kernel_rfl) (by kernel_rfl) rfl (fun _ _ _ h => h) (Or.inl ⟨by rfl, ?_⟩) (SX.drop (by simp) (by decide) (by decide)) ?_
 ·intro X hX
  clear hX
  go_simp
 try simp only [Act.put, zA, zB, zC]
 refine take_I 11 (.bool false) (some 90) rfl (by kernel_rfl) (by kernel_rfl) (by kernel_rfl) rfl (fun _ _ _ h => h) (Or.inl ⟨by rfl, ?_⟩) (SX.drop (by simp) (by decide) (by decide)) ?_
 ·intro X hX
  clear hX
  go_simp
 try simp only [Act.put, zA, zB, zC]
 refine take_I 12 (.int .i64 ne) (some 91) rfl (by kernel_rfl) (by kernel_rfl) (by kernel_rfl) rfl (fun _ _ _ h => h) (Or.inl ⟨by rfl, ?_⟩) (SX.drop (by simp) (by decide) (by decide)) ?_
 ·intro X hX
  clear hX
  go_simp
 try simp only [Act.put, zA, zB, zC]
 refine take_I 13 (.int .i64 ne) (some 92) rfl (by kernel_rfl) (by kernel_rfl) (by kernel_rfl) rfl (fun _ _ _ h => h) (Or.inl ⟨by rfl, ?_⟩) (SX.drop (by simp) (by decide) (by decide)) ?_
 ·intro X hX
  clear hX
  go_simp
 try simp only [Act.put, zA, zB, zC]
 refine take_I 14 (.bool false) (some 93) rfl (by kernel_rfl) (by kernel_rfl) (by kernel_rfl) rfl (fun _ _ _ h => h) (Or.inl ⟨by rfl, ?_⟩) (SX.drop (by simp) (by decide) (by decide)) ?_
 ·intro X hX
  clear hX
  go_simp
 try simp only [Act.put, zA, zB, zC]
 refine take_I 15 (.bool false) (some 94) rfl (by kernel_rfl) (by kernel_rfl) (by kernel_rfl) rfl (fun _ _ _ h => h) (Or.inl ⟨by rfl, ?_⟩) (SX.drop (by simp) (by decide) (by decide)) ?_
 ·intro X hX
  clear hX
  go_simp
 try simp only [Act.put, zA, zB, zC]
 refine take_I 16 (.bool false) (some 95) rfl (by kernel_rfl) (by kernel_rfl) (by kernel_rfl) rfl (fun _ _ _ h => h) (Or.inl ⟨by rfl, ?_⟩) (SX.drop (by simp) (by decide) (by decide)) ?_
 ·intro X hX
  clear hX
  go_simp
 try simp only [Act.put, zA, zB, zC]
 refine take_I 17 (.agg #[.int .i64 d, .int .i64 p, .slice D ds.length cd, .slice A os.length ca]) (some 96) rfl (by kernel_rfl) (by kernel_rfl) (by kernel_rfl) rfl (fun _ _ _ h => h) (Or.inl ⟨by rfl, ?_⟩) (HAL.out 17) ?_
 ·intro X hX
  have hh := hX.1 (17, w.heap.size, .cells #[.int .i64 d, .int .i64 p, .slice D ds.length cd, .slice A os.length ca] 25) (List.Mem.tail _ (List.Mem.tail _ (List.Mem.head _))) rfl
  have hh0 := blk_cell hh 0 _ rfl
  have hh1 := blk_cell hh 1 _ rfl
  have hh2 := blk_cell hh 2 _ rfl
  have hh3 := blk_cell hh 3 _ rfl
  have hhl := blk_lt hh
  clear hh
  clear hX
  go_simp
 try simp only [Act.put, zA, zB, zC]
 refine take_I 19 (.agg #[.int .i64 d, .int .i64 p, .slice D ds.length cd, .slice A os.length ca]) (some 98) rfl (by kernel_rfl) (by kernel_rfl) (by kernel_rfl) rfl (fun _ _ _ h => h) (Or.inl ⟨by rfl, ?_⟩) (HAL.out 19) ?_
 ·intro X hX
  have hh := hX.1 (19, w.heap.size, .cells #[.int .i64 d, .int .i64 p, .slice D ds.length cd, .slice A os.length ca] 25) (List.Mem.tail _ (List.Mem.tail _ (List.Mem.tail _ (List.Mem.head _)))) rfl
  have hh0 := blk_cell hh 0 _ rfl
  have hh1 := blk_cell hh 1 _ rfl
  have hh2 := blk_cell hh 2 _ rfl
  have hh3 := blk_cell hh 3 _ rfl
  have hhl := blk_lt hh
  clear hh
  clear hX
  go_simp
 try simp only [Act.put, zA, zB, zC]
 refine only_I 18 (by kernel_rfl) rfl (fun K' hK' => ?_)
 go_simp
 go_at_call 21
 refine (K1.out _ NN.out).mono ?_
 rintro e x24 ⟨rfl, hb⟩
 replace NN := Lib.hid (Bgo NN.out hb)
 replace T0 := Lib.hid (T0.out.next hb)
 replace U0 := Lib.hid (U0.out.next hb)
 replace T1 := Lib.hid (T1.out.next hb)
 replace U1 := Lib.hid (U1.out.next hb)
 replace T2 := Lib.hid (T2.out.next hb)
 replace U2 := Lib.hid (U2.out.next hb)
 replace NB := Lib.hid (Bgo NB.out hb)
 replace TP := Lib.hid (TP.out.next hb)
 replace T3 := Lib.hid (T3.out.next hb)
 replace U3 := Lib.hid (U3.out.next hb)
 replace T4 := Lib.hid (T4.out.next hb)
 replace U4 := Lib.hid (U4.out.next hb)
 replace R5 := Lib.hid (RBA.next hb R5.out)
 replace R6 := Lib.hid (RBA.next hb R6.out)
 replace SB := Lib.hid (blk_next hb SB.out)
 replace S0 := Lib.hid (blk_next hb S0.out)
 replace S1 := Lib.hid (blk_next hb S1.out)
 replace S2 := Lib.hid (blk_next hb S2.out)
 replace S3 := Lib.hid (blk_next hb S3.out)
 replace S4 := Lib.hid (blk_next hb S4.out)
 go_simp
 refine hK'.out _ _ (fun k _ hS => hS.next hb) ?_
 clear hK' K'
 try simp only [Act.put, zA, zB, zC]
 replace HAL := Lib.hid (fun k => (HAL.out k).next hb)
 refine only_I 20 (by kernel_rfl) rfl (fun K' hK' => ?_)
 go_simp
 go_at_call 22
 refine (K2.out _ NN.out).mono ?_
 rintro e x25 ⟨rfl, hb⟩
 replace NN := Lib.hid (Bgo NN.out hb)
 replace T0 := Lib.hid (T0.out.next hb)
 replace U0 := Lib.hid (U0.out.next hb)
 replace T1 := Lib.hid (T1.out.next hb)
 replace U1 := Lib.hid (U1.out.next hb)
 replace T2 := Lib.hid (T2.out.next hb)
 replace U2 := Lib.hid (U2.out.next hb)
 replace NB := Lib.hid (Bgo NB.out hb)
 replace TP := Lib.hid (TP.out.next hb)
 replace T3 := Lib.hid (T3.out.next hb)
 replace U3 := Lib.hid (U3.out.next hb)
 replace T4 := Lib.hid (T4.out.next hb)
 replace U4 := Lib.hid (U4.out.next hb)
 replace R5 := Lib.hid (RBA.next hb R5.out)
 replace R6 := Lib.hid (RBA.next hb R6.out)
 replace SB := Lib.hid (blk_next hb SB.out)
 replace S0 := Lib.hid (blk_next hb S0.out)
 replace S1 := Lib.hid (blk_next hb S1.out)
 replace S2 := Lib.hid (blk_next hb S2.out)
 replace S3 := Lib.hid (blk_next hb S3.out)
 replace S4 := Lib.hid (blk_next hb S4.out)
 go_simp
 refine hK'.out _ _ (fun k _ hS => hS.next hb) ?_
 clear hK' K'
 try simp only [Act.put, zA, zB, zC]
 replace HAL := Lib.hid (fun k => (HAL.out k).next hb)
 refine take_I 21 (.bool false) (some 100) rfl (by kernel_rfl) (by kernel_rfl) (by kernel_rfl) rfl (fun _ _ _ h => h) (Or.inl ⟨by rfl, ?_⟩) (SX.drop (by simp) (by decide) (by decide)) ?_
 ·intro X hX
  clear hX
  go_simp
 try simp only [Act.put, zA, zB, zC]
 refine take_I 22 (.bool false) (some 101) rfl (by kernel_rfl) (by kernel_rfl) (by kernel_rfl) rfl (fun _ _ _ h => h) (Or.inl ⟨by rfl, ?_⟩) (SX.drop (by simp) (by decide) (by decide)) ?_
 ·intro X hX
  clear hX
  go_simp
 try simp only [Act.put, zA, zB, zC]
 refine take_I 23 (.bool false) (some 102) rfl (by kernel_rfl) (by kernel_rfl) (by kernel_rfl) rfl (fun _ _ _ h => h) (Or.inl ⟨by rfl, ?_⟩) (SX.drop (by simp) (by decide) (by decide)) ?_
 ·intro X hX
  clear hX
  go_simp
 try simp only [Act.put, zA, zB, zC]
 refine take_I 24 (.agg #[.int .i64 p1, .int .i64 p2, .slice A3 p3.length c3, .slice B3 p4.length d3]) (some 103) rfl (by kernel_rfl) (by kernel_rfl) (by kernel_rfl) rfl (fun _ _ _ h => h) (Or.inl ⟨by rfl, ?_⟩) (HAL.out 24) ?_
 ·intro X hX
  have hh := hX.1 (24, g16, .cells #[.int .i64 p1, .int .i64 p2, .slice A3 p3.length c3, .slice B3 p4.length d3] 25) (List.Mem.tail _ (List.Mem.tail _ (List.Mem.tail _ (List.Mem.tail _ (List.Mem.head _))))) rfl
  have hh0 := blk_cell hh 0 _ rfl
  have hh1 := blk_cell hh 1 _ rfl
  have hh2 := blk_cell hh 2 _ rfl
  have hh3 := blk_cell hh 3 _ rfl
  have hhl := blk_lt hh
  clear hh
  clear hX
  go_simp
 try simp only [Act.put, zA, zB, zC]
 refine take_I 25 (.agg #[.int .i64 p1, .int .i64 p2, .slice A4 p3.length c4, .slice B4 p4.length d4]) (some 104) rfl (by kernel_rfl) (by kernel_rfl) (by kernel_rfl) rfl (fun _ _ _ h => h) (Or.inl ⟨by rfl, ?_⟩) (HAL.out 25) ?_
 ·intro X hX
  have hh := hX.1 (25, g18, .cells #[.int .i64 p1, .int .i64 p2, .slice A4 p3.length c4, .slice B4 p4.length d4] 25) (List.Mem.tail _ (List.Mem.tail _ (List.Mem.tail _ (List.Mem.tail _ (List.Mem.tail _ (List.Mem.head _)))))) rfl
  have hh0 := blk_cell hh 0 _ rfl
  have hh1 := blk_cell hh 1 _ rfl
  have hh2 := blk_cell hh 2 _ rfl
  have hh3 := blk_cell hh 3 _ rfl
  have hhl := blk_lt hh
  clear hh
  clear hX
  go_simp
 try simp only [Act.put, zA, zB, zC]
 refine only_I 26 (by kernel_rfl) rfl (fun K' hK' => ?_)
 go_simp
 go_at_call 20
 refine (same_self p1 p2 A3 B3 c3 d3 _ p3 p4 A4 B4 c4 d4 _ _ k3a k3b k3c k3d T3.out U3.out k4a k4b k4c k4d T4.out U4.out).mono ?_
 rintro e x26 ⟨rfl, hb⟩
 replace NN := Lib.hid (Bgo NN.out hb)
 replace T0 := Lib.hid (T0.out.next hb)
 replace U0 := Lib.hid (U0.out.next hb)
 replace T1 := Lib.hid (T1.out.next hb)
 replace U1 := Lib.hid (U1.out.next hb)
 replace T2 := Lib.hid (T2.out.next hb)
 replace U2 := Lib.hid (U2.out.next hb)
 replace NB := Lib.hid (Bgo NB.out hb)
 replace TP := Lib.hid (TP.out.next hb)
 replace T3 := Lib.hid (T3.out.next hb)
 replace U3 := Lib.hid (U3.out.next hb)
 replace T4 := Lib.hid (T4.out.next hb)
 replace U4 := Lib.hid (U4.out.next hb)
 replace R5 := Lib.hid (RBA.next hb R5.out)
 replace R6 := Lib.hid (RBA.next hb R6.out)
 replace SB := Lib.hid (blk_next hb SB.out)
 replace S0 := Lib.hid (blk_next hb S0.out)
 replace S1 := Lib.hid (blk_next hb S1.out)
 replace S2 := Lib.hid (blk_next hb S2.out)
 replace S3 := Lib.hid (blk_next hb S3.out)
 replace S4 := Lib.hid (blk_next hb S4.out)
 go_simp
 refine hK'.out _ _ (fun k _ hS => hS.next hb) ?_
 clear hK' K'
 try simp only [Act.put, zA, zB, zC]
 replace HAL := Lib.hid (fun k => (HAL.out k).next hb)
 refine take_I 27 (.bool false) (some 106) rfl (by kernel_rfl) (by kernel_rfl) (by kernel_rfl) rfl (fun _ _ _ h => h) (Or.inl ⟨by rfl, ?_⟩) (SX.drop (by simp) (by decide) (by decide)) ?_
 ·intro X hX
  clear hX
  go_simp
 try simp only [Act.put, zA, zB, zC]
 refine take_I 28 (.bool false) (some 107) rfl (by kernel_rfl) (by kernel_rfl) (by kernel_rfl) rfl (fun _ _ _ h => h) (Or.inl ⟨by rfl, ?_⟩) (SX.drop (by simp) (by decide) (by decide)) ?_
 ·intro X hX
  clear hX
  go_simp
 try simp only [Act.put, zA, zB, zC]
 refine take_I 29 (.bool false) (some 108) rfl (by kernel_rfl) (by kernel_rfl) (by kernel_rfl) rfl (fun _ _ _ h => h) (Or.inl ⟨by rfl, ?_⟩) (SX.drop (by simp) (by decide) (by decide)) ?_
 ·intro X hX
  clear hX
  go_simp
 try simp only [Act.put, zA, zB, zC]
 refine take_I 30 (.int .i64 pe) (some 109) rfl (by kernel_rfl) (by kernel_rfl) (by kernel_rfl) rfl (fun _ _ _ h => h) (Or.inl ⟨by rfl, ?_⟩) (SX.drop (by simp) (by decide) (by decide)) ?_
 ·intro X hX
  clear hX
  go_simp
 try simp only [Act.put, zA, zB, zC]
 refine take_I 31 (.int .i64 pe) (some 110) rfl (by kernel_rfl) (by kernel_rfl) (by kernel_rfl) rfl (fun _ _ _ h => h) (Or.inl ⟨by rfl, ?_⟩) (SX.drop (by simp) (by decide) (by decide)) ?_
 ·intro X hX
  clear hX
  go_simp
 try simp only [Act.put, zA, zB, zC]
 refine take_I 32 (.bool false) (some 111) rfl (by kernel_rfl) (by kernel_rfl) (by kernel_rfl) rfl (fun _ _ _ h => h) (Or.inl ⟨by rfl, ?_⟩) (SX.drop (by simp) (by decide) (by decide)) ?_
 ·intro X hX
  clear hX
  go_simp
 try simp only [Act.put, zA, zB, zC]
 refine take_I 33 (.bool false) (some 112) rfl (by kernel_rfl) (by kernel_rfl) (by kernel_rfl) rfl (fun _ _ _ h => h) (Or.inl ⟨by rfl, ?_⟩) (SX.drop (by simp) (by decide) (by decide)) ?_
 ·intro X hX
  clear hX
  go_simp
 try simp only [Act.put, zA, zB, zC]
 refine take_I 34 (.bool false) (some 113) rfl (by kernel_rfl) (by kernel_rfl) (by kernel_rfl) rfl (fun _ _ _ h => h) (Or.inl ⟨by rfl, ?_⟩) (SX.drop (by simp) (by decide) (by decide)) ?_
 ·intro X hX
  clear hX
  go_simp
 try simp only [Act.put, zA, zB, zC]
 refine take_I 35 (.slice A5 gl.length c5) (some 114) rfl (by kernel_rfl) (by kernel_rfl) (by kernel_rfl) rfl (fun _ _ _ h => h) (Or.inl ⟨by rfl, ?_⟩) (SX.drop (by simp) (by decide) (by decide)) ?_
 ·intro X hX
  clear hX
  go_simp
 try simp only [Act.put, zA, zB, zC]
 refine take_I 36 (.string (bstr gl)) (some 115) rfl (by kernel_rfl) (by kernel_rfl) (by kernel_rfl) rfl (fun _ _ _ h => h) (Or.inl ⟨by rfl, ?_⟩) (HAL.out 36) ?_
 ·intro X hX
  have cv1 := fun c => conv_rba c (hX.2 (by decide)).1
  have cv2 := fun c => conv_rba c (hX.2 (by decide)).2
  clear hX
  go_simp
 try simp only [Act.put, zA, zB, zC]
 refine take_I 37 (.slice A6 gl.length c6) (some 116) rfl (by kernel_rfl) (by kernel_rfl) (by kernel_rfl) rfl (fun _ _ _ h => h) (Or.inl ⟨by rfl, ?_⟩) (SX.drop (by simp) (by decide) (by decide)) ?_
 ·intro X hX
  clear hX
  go_simp
 try simp only [Act.put, zA, zB, zC]
 refine take_I 38 (.string (bstr gl)) (some 117) rfl (by kernel_rfl) (by kernel_rfl) (by kernel_rfl) rfl (fun _ _ _ h => h) (Or.inl ⟨by rfl, ?_⟩) (HAL.out 38) ?_
 ·intro X hX
  have cv1 := fun c => conv_rba c (hX.2 (by decide)).1
  have cv2 := fun c => conv_rba c (hX.2 (by decide)).2
  clear hX
  go_simp
 try simp only [Act.put, zA, zB, zC]
 refine take_I 39 (.bool false) (some 118) rfl (by kernel_rfl) (by kernel_rfl) (by kernel_rfl) rfl (fun _ _ _ h => h) (Or.inl ⟨by rfl, ?_⟩) (SX.drop (by simp) (by decide) (by decide)) ?_
 ·intro X hX
  clear hX
  go_simp
 try simp only [Act.put, zA, zB, zC]
 refine take_I 40 (.bool false) (some 119) rfl (by kernel_rfl) (by kernel_rfl) (by kernel_rfl) rfl (fun _ _ _ h => h) (Or.inl ⟨by rfl, ?_⟩) (SX.drop (by simp) (by decide) (by decide)) ?_
 ·intro X hX
  clear hX
  go_simp
 try simp only [Act.put, zA, zB, zC]
 refine take_I 41 (.bool false) (some 120) rfl (by kernel_rfl) (by kernel_rfl) (by kernel_rfl) rfl (fun _ _ _ h => h) (Or.inl ⟨by rfl, ?_⟩) (SX.drop (by simp) (by decide) (by decide)) ?_
 ·intro X hX
  clear hX
  go_simp
 try simp only [Act.put, zA, zB, zC]
 refine take_I 42 (.int .i64 ge) (some 121) rfl (by kernel_rfl) (by kernel_rfl) (by kernel_rfl) rfl (fun _ _ _ h => h) (Or.inl ⟨by rfl, ?_⟩) (SX.drop (by simp) (by decide) (by decide)) ?_
 ·intro X hX
  clear hX
  go_simp
 try simp only [Act.put, zA, zB, zC]
 refine take_I 43 (.int .i64 ge) (some 122) rfl (by kernel_rfl) (by kernel_rfl) (by kernel_rfl) rfl (fun _ _ _ h => h) (Or.inl ⟨by rfl, ?_⟩) (SX.drop (by simp) (by decide) (by decide)) ?_
 ·intro X hX
  clear hX
  go_simp
 try simp only [Act.put, zA, zB, zC]
 refine take_I 44 (.bool false) (some 123) rfl (by kernel_rfl) (by kernel_rfl) (by kernel_rfl) rfl (fun _ _ _ h => h) (Or.inl ⟨by rfl, ?_⟩) (SX.drop (by simp) (by decide) (by decide)) ?_
 ·intro X hX
  clear hX
  go_simp
 try simp only [Act.put, zA, zB, zC]
 refine take_I 45 (.bool false) (some 124) rfl (by kernel_rfl) (by kernel_rfl) (by kernel_rfl) rfl (fun _ _ _ h => h) (Or.inl ⟨by rfl, ?_⟩) (SX.drop (by simp) (by decide) (by decide)) ?_
 ·intro X hX
  clear hX
  go_simp
 try simp only [Act.put, zA, zB, zC]
 clear HAL
 refine done_I (by kernel_rfl) ?_ _
 go_wp2_with fail
 obtain ⟨hs, us, O⟩ := TP.out
 have HO := Lib.hid O
 clear O
 go_loopw [24] (fun i wr => ∃ (k : Nat) (ps : List Dk), k ≤ p3.length ∧ i = .int .i64 k ∧ Hid (Below W14.heap.size W14 wr) ∧ Hid (OS W14.heap.size wr (.slice A3 p3.length c3) hs us ps) ∧ Hid (wr.heap[g16]? = some (.cells #[.int .i64 p1, .int .i64 p2, .slice A3 p3.length c3, .slice B3 p4.length d3] 25))) (fun i _ => p3.length - (intOf i).toNat)
 case atStart => exact ⟨0, p3, by omega, rfl, NB, HO, S3⟩
 case round =>
  obtain ⟨k, ps, hk, rfl, N1, O1, X1⟩ := hrel
  have p2' := blk_cell X1.out 2 _ rfl
  have lx := blk_lt X1.out
  by_cases hlt : k < p3.length
  rotate_left
  ·obtain rfl : k = p3.length := by omega
   have kx : decide (((p3.length : Nat) : Int) < (p3.length : Int)) = false := decide_eq_false (by omega)
   have SBr := Lib.hid (blk_next N1.out SBb.out)
   have S0r := Lib.hid (blk_next N1.out S0b.out)
   have s0 := blk_cell SBr.out 0 _ rfl
   have s1 := blk_cell SBr.out 1 _ rfl
   have s2 := blk_cell SBr.out 2 _ rfl
   have s3 := blk_cell SBr.out 3 _ rfl
   have ls := blk_lt SBr.out
   have z0 := blk_cell S0r.out 0 _ rfl
   have z1 := blk_cell S0r.out 1 _ rfl
   have z2 := blk_cell S0r.out 2 _ rfl
   have z3 := blk_cell S0r.out 3 _ rfl
   have lz := blk_lt S0r.out
   have NNr := Lib.hid (Bgo NNb.out N1.out)
   go_wp2_with fail
   refine (same_self d p D A cd ca _ ds os A0 B0 c0 d0 _ _ hnd hcd hna hca (HD.out.next NNr.out) (HS.out.next NNr.out) k0a k0b k0c k0d (T0b.out.next N1.out) (U0b.out.next N1.out)).mono ?_
   rintro e wz ⟨rfl, hb⟩
   go_wp2_with fail
   go_ret
   exact ⟨rfl, Bgo NNr.out hb⟩
  obtain ⟨g, Ay, nk, cy, u, rfl, hy, hu, hul⟩ := os_head O1.out hlt
  have HY := Lib.hid hy
  have HU := Lib.hid hu
  have k1 : (0 : Int) ≤ (k : Int) := by omega
  have k2 : (k : Int) < (p3.length : Int) := by omega
  have HK2 := Lib.hid hlt
  clear hy hu
  go_wp2_with fail
  go_loopw [25] (fun i wr => ∃ (l : Nat) (ps : List Dk), l ≤ nk ∧ i = .int .i64 l ∧ Hid (Below W14.heap.size W14 wr) ∧ Hid (OS W14.heap.size wr (.slice (some ⟨g, 0, none⟩) p3.length c3) hs us ps) ∧ Hid (wr.heap[g16]? = some (.cells #[.int .i64 p1, .int .i64 p2, .slice (some ⟨g, 0, none⟩) p3.length c3, .slice B3 p4.length d3] 25))) (fun i _ => nk - (intOf i).toNat)
  case atStart => exact ⟨0, ps, by omega, rfl, N1, O1, X1⟩
  case round =>
   clear N1 O1 X1 p2' lx
   obtain ⟨l, ps, hl, rfl, N1, O1, X1⟩ := hrel
   have p2' := blk_cell X1.out 2 _ rfl
   have lx := blk_lt X1.out
   obtain ⟨ch, lg⟩ := os_cell O1.out HY.out
   by_cases hll : l < nk
   rotate_left
   ·obtain rfl : l = nk := by omega
    have lx' : decide (((l : Nat) : Int) < (l : Int)) = false := decide_eq_false (by omega)
    go_wp2_with fail
    refine ⟨⟨k + 1, ps, HK2.out, by go_num, N1, O1, X1⟩, by have := HK2.out; simp [intOf]; omega⟩
   obtain ⟨gt, Ar, nr, cr, rfl, hr, cr1, lgt, hnr9⟩ := os_row O1.out HY.out HU.out hll
   have HR := Lib.hid hr
   have l1 : (0 : Int) ≤ (l : Int) := by omega
   have l2 : (l : Int) < (nk : Int) := by omega
   have HL2 := Lib.hid hll
   clear hr cr1 lgt
   go_wp2_with fail
   go_loopw [26] (fun i wr => ∃ (c : Nat) (ps : List Dk), c ≤ nr ∧ i = .int .i64 c ∧ Hid (Below W14.heap.size W14 wr) ∧ Hid (OS W14.heap.size wr (.slice (some ⟨g, 0, none⟩) p3.length c3) hs us ps) ∧ Hid (wr.heap[g16]? = some (.cells #[.int .i64 p1, .int .i64 p2, .slice (some ⟨g, 0, none⟩) p3.length c3, .slice B3 p4.length d3] 25))) (fun i _ => nr - (intOf i).toNat)
   case atStart => exact ⟨0, ps, by omega, rfl, N1, O1, X1⟩
   case round =>
    clear N1 O1 X1 p2' lx ch lg
    obtain ⟨c, ps, hc, rfl, N1, O1, X1⟩ := hrel
    have p2' := blk_cell X1.out 2 _ rfl
    have lx := blk_lt X1.out
    obtain ⟨ch, lg⟩ := os_cell O1.out HY.out
    obtain ⟨gt', Ar', nr', cr', e1, e2, e3, e4, -⟩ := os_row O1.out HY.out HU.out HL2.out
    rw [HR.out] at e2
    injection e2 with e2
    injection e1 with e1
    injection e1 with e1 _ _
    rw [← e1, ← e2] at e3
    rw [← e1] at e4
    clear e1 e2
    by_cases hlc : c < nr
    rotate_left
    ·obtain rfl : c = nr := by omega
     have cx' : decide (((c : Nat) : Int) < (c : Int)) = false := decide_eq_false (by omega)
     go_wp2_with fail
     refine ⟨⟨l + 1, ps, HL2.out, by go_num, N1, O1, X1⟩, by have := HL2.out; simp [intOf]; omega⟩
    obtain ⟨gr, bx, rfl, hx, cb1, cf1, lgr, bgr, hput, hoth⟩ := os_byte O1.out HY.out HU.out HR.out hlc
    have HP := Lib.hid hput
    have HX := Lib.hid (And.intro hx bgr)
    have NE := Lib.hid (hoth _ _ _ X1.out ne_u8_sto)
    have c1' : (0 : Int) ≤ (c : Int) := by omega
    have c2' : (c : Int) < (nr : Int) := by omega
    have X3 : bits BinOp.xor IntKind.u8 (bx : Int) 255 = ((bx ^^^ 255 : Nat) : Int) := u8_xor_nat bx 255 hx (by decide)
    have HC := Lib.hid hlc
    clear hput hx bgr hoth
    go_wp2_with fail
    obtain ⟨ps2, O2⟩ := HP.out (bx ^^^ 255) (Nat.xor_lt_two_pow (n := 8) HX.out.1 (by decide))
    refine ⟨⟨c + 1, ps2, HC.out, by go_num, Lib.hid (Bset1 N1.out HX.out.2 c _), Lib.hid O2, Lib.hid (blk_set_other X1.out NE.out c _)⟩, by have := HC.out; simp [intOf]; omega⟩

set_option maxRecDepth 100000 in
theorem lifted (os : Os) (started : os.Started) (H : Type) (enc : TypeId × Value → H) :
  ReturnsInHanded {} Try.checked os 3 .any (Rows.storePutsSpec.pre6 enc Try.prog Try.f3 Rows.storePutsRow.domain false) (Rows.storePutsSpec.post enc Try.prog Try.f3 false true false false) := by
 refine returnsInHanded_of_change (C := Try.checked) own started (by kernel_rfl) Try.func3
  (ChangeSpec.witness6 (enc := enc) (C := Try.checked) false ⟨#[], #[.agg #[.int .i64 0, .int .i64 0, .slice none 0 0, .slice none 0 0], .int .i64 0, .int .i64 0, .string ⟨#[]⟩, .slice none 0 0], []⟩ 8 (by kernel_rfl) (by kernel_rfl) (by kernel_rfl) (by kernel_rfl)) ?_
 intro W base args ds gs before hval0 hW hcnd _
 have hval : ∀ (j : Nat) t v, Try.f3.params[j]? = some t → args[j]? = some v → Value.okWide Try.prog W .any base t v := hval0
 have hW' := hW
 obtain ⟨p, q, hA0, hV, rfl, hfz, hnd⟩ := hW
 have hA : DataW.TrodAll enc Try.prog W 0 (fun _ => true) true Try.f3.params.toList args.toList ds p := hA0
 rw [Try.params3] at hA hval
 obtain ⟨v0, vs0, d0, ds0, p0, q0, hargs, rfl, rfl, h0, r0⟩ := trodAll_cons hA
 obtain ⟨v1, vs1, d1, ds1, p1, q1, rfl, rfl, rfl, h1, r1⟩ := trodAll_cons r0
 obtain ⟨v2, vs2, d2, ds2, p2, q2, rfl, rfl, rfl, h2, r2⟩ := trodAll_cons r1
 obtain ⟨v3, vs3, d3, ds3, p3, q3, rfl, rfl, rfl, h3, r3⟩ := trodAll_cons r2
 obtain ⟨v4, vs4, d4, ds4, p4, q4, rfl, rfl, rfl, h4, r4⟩ := trodAll_cons r3
 obtain ⟨rfl, rfl, rfl⟩ := trodAll_nil r4
 obtain rfl : args = #[v0, v1, v2, v3, v4] := by cases args; simp_all
 obtain ⟨rfl, rfl⟩ := trodVars_none hV
 have k0 := h0
 have lt0 : ∀ x ∈ p0, x.block < W.heap.size := by obtain ⟨m, hm⟩ := k0; exact DataW.trod_lt m _ _ _ hm
 obtain ⟨c0_0, c1_0, c2_0, c3_0, y0_0, y1_0, y2_0, y3_0, m0, rfl, _, _, t0_0, t1_0, t2_0, t3_0⟩ := open_agg4 Try.underlying25 (by kernel_rfl) (show Try.prog.cellsOf 25 = 4 by kernel_rfl) (hval 0 25 v0 rfl rfl) h0
 obtain ⟨d, e0_0, _, wd⟩ := DataW.trod_int Try.underlying3 t0_0
 obtain ⟨p, e1_0, _, wp⟩ := DataW.trod_int Try.underlying3 t1_0
 obtain ⟨D, ds, cd, e2_0, hnd, hcd, hd⟩ := open_dks t2_0
 obtain ⟨A, obs, ca, e3_0, hna, hca, hs⟩ := open_obs t3_0
 simp only [List.cons.injEq, and_true] at e0_0 e1_0 e2_0 e3_0
 subst e0_0 e1_0 e2_0 e3_0
 have k1 := h1
 have lt1 : ∀ x ∈ p1, x.block < W.heap.size := by obtain ⟨m, hm⟩ := k1; exact DataW.trod_lt m _ _ _ hm
 obtain ⟨x, rfl, _, _, wx⟩ := open_int Try.underlying3 (hval 1 3 v1 rfl rfl) h1
 have k2 := h2
 have lt2 : ∀ x ∈ p2, x.block < W.heap.size := by obtain ⟨m, hm⟩ := k2; exact DataW.trod_lt m _ _ _ hm
 obtain ⟨y, rfl, _, _, wy⟩ := open_int Try.underlying3 (hval 2 3 v2 rfl rfl) h2
 have k3 := h3
 have lt3 : ∀ x ∈ p3, x.block < W.heap.size := by obtain ⟨m, hm⟩ := k3; exact DataW.trod_lt m _ _ _ hm
 obtain ⟨nm, rfl, _, _, hnm0⟩ := open_string Try.underlying9 (hval 3 9 v3 rfl rfl) h3
 have hnm : nm.size ≤ 9223372036854775807 := by simpa [maxLen] using hnm0
 have k4 := h4
 have lt4 : ∀ x ∈ p4, x.block < W.heap.size := by obtain ⟨m, hm⟩ := k4; exact DataW.trod_lt m _ _ _ hm
 obtain ⟨sa4, sl4, sc4, rfl⟩ := okWide_slice Try.underlying26 (hval 4 26 v4 rfl rfl)
 obtain ⟨fu4, hf4⟩ := h4
 obtain ⟨Ab, b, cb, e4, hb1, hb2, hbb⟩ := open_bytes (cs := [.slice sa4 sl4 sc4]) hf4
 simp only [List.cons.injEq, and_true, Value.slice.injEq] at e4
 obtain ⟨rfl, rfl, rfl⟩ := e4
 clear hA0 hval0
 refine (walk d p D A cd ca 0 ds obs x y nm _ _ b W hnd hcd hna hca hd hs hnm hb1 hb2 hbb).mono fun e W' ⟨he, bel⟩ => ?_
 subst he
 exact ⟨_, rfl, _, _, _, [], _, [], hW', trodAll_mk1 (shut_bool Try.underlying4 _), (trodAll_cons_mk (Below.trod laidOut (by kernel_rfl) (of_decide_eq_true (by kernel_rfl)) k0 bel lt0) (trodAll_cons_mk (Below.trod laidOut (by kernel_rfl) (of_decide_eq_true (by kernel_rfl)) k1 bel lt1) (trodAll_cons_mk (Below.trod laidOut (by kernel_rfl) (of_decide_eq_true (by kernel_rfl)) k2 bel lt2) (trodAll_cons_mk (Below.trod laidOut (by kernel_rfl) (of_decide_eq_true (by kernel_rfl)) k3 bel lt3) (trodAll_cons_mk (Below.trod laidOut (by kernel_rfl) (of_decide_eq_true (by kernel_rfl)) k4 bel lt4) trodAll_mk0))))), rfl, bel.frame _, fun h => by cases h⟩

theorem over : Rows.storePutsRow.holds Try.pinned (OpenSpec.ofChange Rows.storePutsSpec) :=
 OpenClaim.holds_of_wide 3 Try.f3 rfl rfl rfl rfl rfl rfl rfl ⟨rfl, rfl, rfl, rfl, rfl⟩ rfl rfl rfl rfl rfl (by kernel_rfl) Try.func3 (by kernel_rfl)
  (of_decide_eq_true (by kernel_rfl)) (by unfold Func.isWrapper; first | (rw [if_pos (by decide +kernel)]; kernel_rfl) | (rw [if_neg (by decide +kernel)]; exact ⟨rfl, rfl⟩))
  (fun os started H enc _ => lifted os started H enc)

theorem proved : Rows.StorePutsSaid := over
#print axioms proved
end Go.Proofs.Ytapehckcmmompaa.storePuts
