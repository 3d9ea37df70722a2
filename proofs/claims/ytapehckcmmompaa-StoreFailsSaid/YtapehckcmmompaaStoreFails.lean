/- For every input the law StoreFails returns true and leaves its arguments as they were. -/
import Derived.Test.YtapehckcmmompaaRows
import Derived.Test.YtapehckcmmompaaM19
import Derived.Test.YtapehckcmmompaaM20
import Derived.Test.YtapehckcmmompaaM22
import Derived.Test.YtapehckcmmompaaM23
import Derived.Test.YtapehckcmmompaaM25
import Derived.WalkKit
import Derived.ProofKit
import Derived.OpenShut
import Derived.ShutString
import Derived.ChangeOld
import Derived.Below
import Derived.Lib.SmallJoins
namespace Go.Proofs.Ytapehckcmmompaa.storeFails
open Go.ChangeShapes Go.WideShapes Go.ChangeAt Go.RowKit Go.Joins
open Go.ChangeMaps (open_string shut_string)
set_option linter.unusedVariables false

theorem own : ownKnob Try.prog.godebug = none := by kernel_rfl
theorem laidOut : laidOutB Try.prog = true := by kernel_rfl
attribute [local go_sem ↓] Go.wp_at_zero Go.wp_at_succ
set_option maxRecDepth 100000 in
set_option maxHeartbeats 16000000 in
theorem walk (d p : Int) (D A : Option Addr) (cd ca B : Nat) (ds : List Dk) (os : List Ob) (x y : Int) (w : World) (hnd : ds.length ≤ cd) (hcd : cd ≤ 9223372036854775807) (hna : os.length ≤ ca) (hca : ca ≤ 9223372036854775807) (hd : RD B w D ds) (hs : RO B w A os) :
    Calls Try.prog 6 #[Tv d p (.slice D ds.length cd) (.slice A os.length ca), .int .i64 x, .int .i64 y] w fun e w' => e = .returned (.bool true) ∧ Below w.heap.size w w' := by
  have HD := Lib.hid hd
  have HS := Lib.hid hs
  have NN := Lib.hid (Below.refl w.heap.size w)
  clear hd hs
  have GR := Lib.hid (fun (W : World) (h : Below w.heap.size w W) => great_calls d p D A cd ca B ds os W hnd hcd hna hca (HD.out.next h) (HS.out.next h))
  by_cases hg : grB ds os = true
  · rw [hg] at GR
    clear hg
    go_enter Try.func6, Try.ntmps6
    have HB : Hid (Below w.heap.size w (w.alloc (.cells #[.int .i64 d, .int .i64 p, .slice D ds.length cd, .slice A os.length ca] 25))) := Lib.hid (Bal (Below.refl _ _) _)
    have SB := Lib.hid (blk_new w (.cells #[.int .i64 d, .int .i64 p, .slice D ds.length cd, .slice A os.length ca] 25))
    have LT_SB : Hid (w.heap.size ≤ w.heap.size) := Lib.hid NN.out.size
    replace NN := Lib.hid (Bgo NN.out HB.out)
    clear HB
    go_wp2_with fail
    generalize w.alloc (.cells #[.int .i64 d, .int .i64 p, .slice D ds.length cd, .slice A os.length ca] 25) = W1 at *
    refine (GR.out _ NN.out).mono ?_
    rintro e w2 ⟨rfl, hb⟩
    replace NN := Lib.hid (Bgo NN.out hb)
    replace SB := Lib.hid (blk_next hb SB.out)
    clear hb
    go_wp2_with fail
    go_ret
    exact ⟨rfl, NN.out⟩
  have hg' : grB ds os = false := by simpa using hg
  rw [hg'] at GR
  have HL : Hid (∀ o ∈ os, Lh o.name) := Lib.hid (fun o ho => by have := (grB_not hg').2.2.1 o ho; unfold Lh; omega)
  clear hg hg'
  have C1 := Lib.hid (fun (W : World) (h : Below w.heap.size w W) => fail_calls d p D A cd ca B ds os x W hnd hcd hna hca (HD.out.next h) (HS.out.next h) HL.out)
  have C2 := Lib.hid (fun (W : World) (h : Below w.heap.size w W) => refFail_calls d p D A cd ca B ds os x W hnd hcd hna hca (HD.out.next h) (HS.out.next h) HL.out)
  have C3 := Lib.hid (fun (W : World) (h : Below w.heap.size w W) => replace_calls d p D A cd ca B ds os x W hnd hcd hna hca (HD.out.next h) (HS.out.next h) HL.out)
  have C4 := Lib.hid (fun (W : World) (h : Below w.heap.size w W) => refReplace_calls d p D A cd ca B ds os x W hnd hcd hna hca (HD.out.next h) (HS.out.next h) HL.out)
  have C5 := Lib.hid (fun (W : World) (h : Below w.heap.size w W) => scrub_calls d p D A cd ca B ds os W hnd hcd hna hca (HD.out.next h) (HS.out.next h) HL.out)
  have C6 := Lib.hid (fun (W : World) (h : Below w.heap.size w W) => refScrub_calls d p D A cd ca B ds os W hnd hcd hna hca (HD.out.next h) (HS.out.next h) HL.out)
  have C7 := Lib.hid (fun (W : World) (h : Below w.heap.size w W) => mend_calls d p D A cd ca B ds os y W hnd hcd hna hca (HD.out.next h) (HS.out.next h) HL.out)
  have C8 := Lib.hid (fun (W : World) (h : Below w.heap.size w W) => refMend_calls d p D A cd ca B ds os y W hnd hcd hna hca (HD.out.next h) (HS.out.next h) HL.out)
  generalize faiE d p ds os x = fe at *
  generalize repE d p ds os x = re at *
  generalize scrE d p ds os = se at *
  generalize menE d p ds os y = me at *
  generalize menD d p ds os y = md at *
  generalize scrR d p ds os = sl at *
  obtain ⟨⟨f1, f2, f3, f4⟩, hf⟩ : ∃ r, faiS d p ds os x = r := ⟨_, rfl⟩
  rw [hf] at C1 C2
  obtain ⟨⟨r1, r2, r3, r4⟩, hr⟩ : ∃ r, repS d p ds os x = r := ⟨_, rfl⟩
  rw [hr] at C3 C4
  obtain ⟨⟨m1, m2, m3, m4⟩, hm⟩ : ∃ r, menS d p ds os y = r := ⟨_, rfl⟩
  rw [hm] at C7 C8
  clear hf hr hm
  go_enter Try.func6, Try.ntmps6
  have HB : Hid (Below w.heap.size w (w.alloc (.cells #[.int .i64 d, .int .i64 p, .slice D ds.length cd, .slice A os.length ca] 25))) := Lib.hid (Bal (Below.refl _ _) _)
  have SB := Lib.hid (blk_new w (.cells #[.int .i64 d, .int .i64 p, .slice D ds.length cd, .slice A os.length ca] 25))
  have LT_SB : Hid (w.heap.size ≤ w.heap.size) := Lib.hid NN.out.size
  replace NN := Lib.hid (Bgo NN.out HB.out)
  clear HB
  go_wp2_with fail
  generalize w.alloc (.cells #[.int .i64 d, .int .i64 p, .slice D ds.length cd, .slice A os.length ca] 25) = W1 at *
  refine (GR.out _ NN.out).mono ?_
  rintro e w4 ⟨rfl, hb⟩
  replace NN := Lib.hid (Bgo NN.out hb)
  replace SB := Lib.hid (blk_next hb SB.out)
  clear hb
  have c_SB_0 := blk_cell SB.out 0 _ rfl
  have f_SB_0 := blk_frozen SB.out 0
  have c_SB_1 := blk_cell SB.out 1 _ rfl
  have f_SB_1 := blk_frozen SB.out 1
  have c_SB_2 := blk_cell SB.out 2 _ rfl
  have f_SB_2 := blk_frozen SB.out 2
  have c_SB_3 := blk_cell SB.out 3 _ rfl
  have f_SB_3 := blk_frozen SB.out 3
  have l_SB := blk_lt SB.out
  go_wp2_with fail
  refine (C1.out _ NN.out).mono ?_
  rintro e w5 ⟨v, u, rfl, ht, hu, hb⟩
  simp only at ht hu
  obtain ⟨A1, c1, rfl, k1a, k1b⟩ := ht.form
  obtain ⟨B1, d1, rfl, k1c, k1d⟩ := hu.form
  have T1 := Lib.hid ht.rd
  have U1 := Lib.hid hu.ro
  clear ht hu
  clear c_SB_0 f_SB_0 c_SB_1 f_SB_1 c_SB_2 f_SB_2 c_SB_3 f_SB_3 l_SB
  replace NN := Lib.hid (Bgo NN.out hb)
  replace SB := Lib.hid (blk_next hb SB.out)
  clear hb
  have HB : Hid (Below w5.heap.size w5 (w5.alloc (.cells #[.int .i64 f1, .int .i64 f2, .slice A1 f3.length c1, .slice B1 f4.length d1] 25))) := Lib.hid (Bal (Below.refl _ _) _)
  have S1 := Lib.hid (blk_new w5 (.cells #[.int .i64 f1, .int .i64 f2, .slice A1 f3.length c1, .slice B1 f4.length d1] 25))
  have LT_S1 : Hid (w.heap.size < w5.heap.size ∧ w.heap.size ≤ w5.heap.size) := Lib.hid ⟨blk_lt SB.out, NN.out.size⟩
  replace NN := Lib.hid (Bgo NN.out HB.out)
  replace T1 := Lib.hid (T1.out.next HB.out)
  replace U1 := Lib.hid (U1.out.next HB.out)
  replace SB := Lib.hid (blk_next HB.out SB.out)
  clear HB
  have c_SB_0 := blk_cell SB.out 0 _ rfl
  have f_SB_0 := blk_frozen SB.out 0
  have c_SB_1 := blk_cell SB.out 1 _ rfl
  have f_SB_1 := blk_frozen SB.out 1
  have c_SB_2 := blk_cell SB.out 2 _ rfl
  have f_SB_2 := blk_frozen SB.out 2
  have c_SB_3 := blk_cell SB.out 3 _ rfl
  have f_SB_3 := blk_frozen SB.out 3
  have l_SB := blk_lt SB.out
  go_wp2_with fail
  clear c_SB_0 f_SB_0 c_SB_1 f_SB_1 c_SB_2 f_SB_2 c_SB_3 f_SB_3 l_SB
  generalize w5.alloc (.cells #[.int .i64 f1, .int .i64 f2, .slice A1 f3.length c1, .slice B1 f4.length d1] 25) = W6 at *
  generalize w5.heap.size = g6 at *
  refine (C2.out _ NN.out).mono ?_
  rintro e w7 ⟨v, u, rfl, ht, hu, hb⟩
  simp only at ht hu
  obtain ⟨A2, c2, rfl, k2a, k2b⟩ := ht.form
  obtain ⟨B2, d2, rfl, k2c, k2d⟩ := hu.form
  have T2 := Lib.hid ht.rd
  have U2 := Lib.hid hu.ro
  clear ht hu
  replace NN := Lib.hid (Bgo NN.out hb)
  replace T1 := Lib.hid (T1.out.next hb)
  replace U1 := Lib.hid (U1.out.next hb)
  replace SB := Lib.hid (blk_next hb SB.out)
  replace S1 := Lib.hid (blk_next hb S1.out)
  clear hb
  have HB : Hid (Below w7.heap.size w7 (w7.alloc (.cells #[.int .i64 f1, .int .i64 f2, .slice A2 f3.length c2, .slice B2 f4.length d2] 25))) := Lib.hid (Bal (Below.refl _ _) _)
  have S2 := Lib.hid (blk_new w7 (.cells #[.int .i64 f1, .int .i64 f2, .slice A2 f3.length c2, .slice B2 f4.length d2] 25))
  have LT_S2 : Hid (w.heap.size < w7.heap.size ∧ g6 < w7.heap.size ∧ w.heap.size ≤ w7.heap.size) := Lib.hid ⟨blk_lt SB.out, blk_lt S1.out, NN.out.size⟩
  replace NN := Lib.hid (Bgo NN.out HB.out)
  replace T1 := Lib.hid (T1.out.next HB.out)
  replace U1 := Lib.hid (U1.out.next HB.out)
  replace T2 := Lib.hid (T2.out.next HB.out)
  replace U2 := Lib.hid (U2.out.next HB.out)
  replace SB := Lib.hid (blk_next HB.out SB.out)
  replace S1 := Lib.hid (blk_next HB.out S1.out)
  clear HB
  have c_SB_0 := blk_cell SB.out 0 _ rfl
  have f_SB_0 := blk_frozen SB.out 0
  have c_SB_1 := blk_cell SB.out 1 _ rfl
  have f_SB_1 := blk_frozen SB.out 1
  have c_SB_2 := blk_cell SB.out 2 _ rfl
  have f_SB_2 := blk_frozen SB.out 2
  have c_SB_3 := blk_cell SB.out 3 _ rfl
  have f_SB_3 := blk_frozen SB.out 3
  have l_SB := blk_lt SB.out
  go_wp2_with fail
  clear c_SB_0 f_SB_0 c_SB_1 f_SB_1 c_SB_2 f_SB_2 c_SB_3 f_SB_3 l_SB
  generalize w7.alloc (.cells #[.int .i64 f1, .int .i64 f2, .slice A2 f3.length c2, .slice B2 f4.length d2] 25) = W8 at *
  generalize w7.heap.size = g8 at *
  refine (C3.out _ NN.out).mono ?_
  rintro e w9 ⟨v, u, rfl, ht, hu, hb⟩
  simp only at ht hu
  obtain ⟨A3, c3, rfl, k3a, k3b⟩ := ht.form
  obtain ⟨B3, d3, rfl, k3c, k3d⟩ := hu.form
  have T3 := Lib.hid ht.rd
  have U3 := Lib.hid hu.ro
  clear ht hu
  replace NN := Lib.hid (Bgo NN.out hb)
  replace T1 := Lib.hid (T1.out.next hb)
  replace U1 := Lib.hid (U1.out.next hb)
  replace T2 := Lib.hid (T2.out.next hb)
  replace U2 := Lib.hid (U2.out.next hb)
  replace SB := Lib.hid (blk_next hb SB.out)
  replace S1 := Lib.hid (blk_next hb S1.out)
  replace S2 := Lib.hid (blk_next hb S2.out)
  clear hb
  have HB : Hid (Below w9.heap.size w9 (w9.alloc (.cells #[.int .i64 r1, .int .i64 r2, .slice A3 r3.length c3, .slice B3 r4.length d3] 25))) := Lib.hid (Bal (Below.refl _ _) _)
  have S3 := Lib.hid (blk_new w9 (.cells #[.int .i64 r1, .int .i64 r2, .slice A3 r3.length c3, .slice B3 r4.length d3] 25))
  have LT_S3 : Hid (w.heap.size < w9.heap.size ∧ g6 < w9.heap.size ∧ g8 < w9.heap.size ∧ w.heap.size ≤ w9.heap.size) := Lib.hid ⟨blk_lt SB.out, blk_lt S1.out, blk_lt S2.out, NN.out.size⟩
  replace NN := Lib.hid (Bgo NN.out HB.out)
  replace T1 := Lib.hid (T1.out.next HB.out)
  replace U1 := Lib.hid (U1.out.next HB.out)
  replace T2 := Lib.hid (T2.out.next HB.out)
  replace U2 := Lib.hid (U2.out.next HB.out)
  replace T3 := Lib.hid (T3.out.next HB.out)
  replace U3 := Lib.hid (U3.out.next HB.out)
  replace SB := Lib.hid (blk_next HB.out SB.out)
  replace S1 := Lib.hid (blk_next HB.out S1.out)
  replace S2 := Lib.hid (blk_next HB.out S2.out)
  clear HB
  have c_SB_0 := blk_cell SB.out 0 _ rfl
  have f_SB_0 := blk_frozen SB.out 0
  have c_SB_1 := blk_cell SB.out 1 _ rfl
  have f_SB_1 := blk_frozen SB.out 1
  have c_SB_2 := blk_cell SB.out 2 _ rfl
  have f_SB_2 := blk_frozen SB.out 2
  have c_SB_3 := blk_cell SB.out 3 _ rfl
  have f_SB_3 := blk_frozen SB.out 3
  have l_SB := blk_lt SB.out
  go_wp2_with fail
  clear c_SB_0 f_SB_0 c_SB_1 f_SB_1 c_SB_2 f_SB_2 c_SB_3 f_SB_3 l_SB
  generalize w9.alloc (.cells #[.int .i64 r1, .int .i64 r2, .slice A3 r3.length c3, .slice B3 r4.length d3] 25) = W10 at *
  generalize w9.heap.size = g10 at *
  refine (C4.out _ NN.out).mono ?_
  rintro e w11 ⟨v, u, rfl, ht, hu, hb⟩
  simp only at ht hu
  obtain ⟨A4, c4, rfl, k4a, k4b⟩ := ht.form
  obtain ⟨B4, d4, rfl, k4c, k4d⟩ := hu.form
  have T4 := Lib.hid ht.rd
  have U4 := Lib.hid hu.ro
  clear ht hu
  replace NN := Lib.hid (Bgo NN.out hb)
  replace T1 := Lib.hid (T1.out.next hb)
  replace U1 := Lib.hid (U1.out.next hb)
  replace T2 := Lib.hid (T2.out.next hb)
  replace U2 := Lib.hid (U2.out.next hb)
  replace T3 := Lib.hid (T3.out.next hb)
  replace U3 := Lib.hid (U3.out.next hb)
  replace SB := Lib.hid (blk_next hb SB.out)
  replace S1 := Lib.hid (blk_next hb S1.out)
  replace S2 := Lib.hid (blk_next hb S2.out)
  replace S3 := Lib.hid (blk_next hb S3.out)
  clear hb
  have HB : Hid (Below w11.heap.size w11 (w11.alloc (.cells #[.int .i64 r1, .int .i64 r2, .slice A4 r3.length c4, .slice B4 r4.length d4] 25))) := Lib.hid (Bal (Below.refl _ _) _)
  have S4 := Lib.hid (blk_new w11 (.cells #[.int .i64 r1, .int .i64 r2, .slice A4 r3.length c4, .slice B4 r4.length d4] 25))
  have LT_S4 : Hid (w.heap.size < w11.heap.size ∧ g6 < w11.heap.size ∧ g8 < w11.heap.size ∧ g10 < w11.heap.size ∧ w.heap.size ≤ w11.heap.size) := Lib.hid ⟨blk_lt SB.out, blk_lt S1.out, blk_lt S2.out, blk_lt S3.out, NN.out.size⟩
  replace NN := Lib.hid (Bgo NN.out HB.out)
  replace T1 := Lib.hid (T1.out.next HB.out)
  replace U1 := Lib.hid (U1.out.next HB.out)
  replace T2 := Lib.hid (T2.out.next HB.out)
  replace U2 := Lib.hid (U2.out.next HB.out)
  replace T3 := Lib.hid (T3.out.next HB.out)
  replace U3 := Lib.hid (U3.out.next HB.out)
  replace T4 := Lib.hid (T4.out.next HB.out)
  replace U4 := Lib.hid (U4.out.next HB.out)
  replace SB := Lib.hid (blk_next HB.out SB.out)
  replace S1 := Lib.hid (blk_next HB.out S1.out)
  replace S2 := Lib.hid (blk_next HB.out S2.out)
  replace S3 := Lib.hid (blk_next HB.out S3.out)
  clear HB
  have c_SB_0 := blk_cell SB.out 0 _ rfl
  have f_SB_0 := blk_frozen SB.out 0
  have c_SB_1 := blk_cell SB.out 1 _ rfl
  have f_SB_1 := blk_frozen SB.out 1
  have c_SB_2 := blk_cell SB.out 2 _ rfl
  have f_SB_2 := blk_frozen SB.out 2
  have c_SB_3 := blk_cell SB.out 3 _ rfl
  have f_SB_3 := blk_frozen SB.out 3
  have l_SB := blk_lt SB.out
  go_wp2_with fail
  clear c_SB_0 f_SB_0 c_SB_1 f_SB_1 c_SB_2 f_SB_2 c_SB_3 f_SB_3 l_SB
  generalize w11.alloc (.cells #[.int .i64 r1, .int .i64 r2, .slice A4 r3.length c4, .slice B4 r4.length d4] 25) = W12 at *
  generalize w11.heap.size = g12 at *
  refine (C5.out _ NN.out).mono ?_
  rintro e w13 ⟨v, rfl, ho, hb⟩
  obtain ⟨A5, c5, rfl, k5a, k5b, -⟩ := own_form ho
  have T5 : Hid (RI _ w13 A5 sl) := Lib.hid (Hd.of_own ho)
  clear ho
  replace NN := Lib.hid (Bgo NN.out hb)
  replace T1 := Lib.hid (T1.out.next hb)
  replace U1 := Lib.hid (U1.out.next hb)
  replace T2 := Lib.hid (T2.out.next hb)
  replace U2 := Lib.hid (U2.out.next hb)
  replace T3 := Lib.hid (T3.out.next hb)
  replace U3 := Lib.hid (U3.out.next hb)
  replace T4 := Lib.hid (T4.out.next hb)
  replace U4 := Lib.hid (U4.out.next hb)
  replace SB := Lib.hid (blk_next hb SB.out)
  replace S1 := Lib.hid (blk_next hb S1.out)
  replace S2 := Lib.hid (blk_next hb S2.out)
  replace S3 := Lib.hid (blk_next hb S3.out)
  replace S4 := Lib.hid (blk_next hb S4.out)
  clear hb
  have c_SB_0 := blk_cell SB.out 0 _ rfl
  have f_SB_0 := blk_frozen SB.out 0
  have c_SB_1 := blk_cell SB.out 1 _ rfl
  have f_SB_1 := blk_frozen SB.out 1
  have c_SB_2 := blk_cell SB.out 2 _ rfl
  have f_SB_2 := blk_frozen SB.out 2
  have c_SB_3 := blk_cell SB.out 3 _ rfl
  have f_SB_3 := blk_frozen SB.out 3
  have l_SB := blk_lt SB.out
  go_wp2_with fail
  refine (C6.out _ NN.out).mono ?_
  rintro e w14 ⟨v, rfl, ho, hb⟩
  obtain ⟨A6, c6, rfl, k6a, k6b, -⟩ := own_form ho
  have T6 : Hid (RI _ w14 A6 sl) := Lib.hid (Hd.of_own ho)
  clear ho
  clear c_SB_0 f_SB_0 c_SB_1 f_SB_1 c_SB_2 f_SB_2 c_SB_3 f_SB_3 l_SB
  replace NN := Lib.hid (Bgo NN.out hb)
  replace T1 := Lib.hid (T1.out.next hb)
  replace U1 := Lib.hid (U1.out.next hb)
  replace T2 := Lib.hid (T2.out.next hb)
  replace U2 := Lib.hid (U2.out.next hb)
  replace T3 := Lib.hid (T3.out.next hb)
  replace U3 := Lib.hid (U3.out.next hb)
  replace T4 := Lib.hid (T4.out.next hb)
  replace U4 := Lib.hid (U4.out.next hb)
  replace T5 := Lib.hid (RI.next hb T5.out)
  replace SB := Lib.hid (blk_next hb SB.out)
  replace S1 := Lib.hid (blk_next hb S1.out)
  replace S2 := Lib.hid (blk_next hb S2.out)
  replace S3 := Lib.hid (blk_next hb S3.out)
  replace S4 := Lib.hid (blk_next hb S4.out)
  clear hb
  have c_SB_0 := blk_cell SB.out 0 _ rfl
  have f_SB_0 := blk_frozen SB.out 0
  have c_SB_1 := blk_cell SB.out 1 _ rfl
  have f_SB_1 := blk_frozen SB.out 1
  have c_SB_2 := blk_cell SB.out 2 _ rfl
  have f_SB_2 := blk_frozen SB.out 2
  have c_SB_3 := blk_cell SB.out 3 _ rfl
  have f_SB_3 := blk_frozen SB.out 3
  have l_SB := blk_lt SB.out
  go_wp2_with fail
  refine (C7.out _ NN.out).mono ?_
  rintro e w15 ⟨v, u, rfl, ht, hu, hb⟩
  simp only at ht hu
  obtain ⟨A7, c7, rfl, k7a, k7b⟩ := ht.form
  obtain ⟨B7, d7, rfl, k7c, k7d⟩ := hu.form
  have T7 := Lib.hid ht.rd
  have U7 := Lib.hid hu.ro
  clear ht hu
  clear c_SB_0 f_SB_0 c_SB_1 f_SB_1 c_SB_2 f_SB_2 c_SB_3 f_SB_3 l_SB
  replace NN := Lib.hid (Bgo NN.out hb)
  replace T1 := Lib.hid (T1.out.next hb)
  replace U1 := Lib.hid (U1.out.next hb)
  replace T2 := Lib.hid (T2.out.next hb)
  replace U2 := Lib.hid (U2.out.next hb)
  replace T3 := Lib.hid (T3.out.next hb)
  replace U3 := Lib.hid (U3.out.next hb)
  replace T4 := Lib.hid (T4.out.next hb)
  replace U4 := Lib.hid (U4.out.next hb)
  replace T5 := Lib.hid (RI.next hb T5.out)
  replace T6 := Lib.hid (RI.next hb T6.out)
  replace SB := Lib.hid (blk_next hb SB.out)
  replace S1 := Lib.hid (blk_next hb S1.out)
  replace S2 := Lib.hid (blk_next hb S2.out)
  replace S3 := Lib.hid (blk_next hb S3.out)
  replace S4 := Lib.hid (blk_next hb S4.out)
  clear hb
  have HB : Hid (Below w15.heap.size w15 (w15.alloc (.cells #[.int .i64 m1, .int .i64 m2, .slice A7 m3.length c7, .slice B7 m4.length d7] 25))) := Lib.hid (Bal (Below.refl _ _) _)
  have S7 := Lib.hid (blk_new w15 (.cells #[.int .i64 m1, .int .i64 m2, .slice A7 m3.length c7, .slice B7 m4.length d7] 25))
  have LT_S7 : Hid (w.heap.size < w15.heap.size ∧ g6 < w15.heap.size ∧ g8 < w15.heap.size ∧ g10 < w15.heap.size ∧ g12 < w15.heap.size ∧ w.heap.size ≤ w15.heap.size) := Lib.hid ⟨blk_lt SB.out, blk_lt S1.out, blk_lt S2.out, blk_lt S3.out, blk_lt S4.out, NN.out.size⟩
  replace NN := Lib.hid (Bgo NN.out HB.out)
  replace T1 := Lib.hid (T1.out.next HB.out)
  replace U1 := Lib.hid (U1.out.next HB.out)
  replace T2 := Lib.hid (T2.out.next HB.out)
  replace U2 := Lib.hid (U2.out.next HB.out)
  replace T3 := Lib.hid (T3.out.next HB.out)
  replace U3 := Lib.hid (U3.out.next HB.out)
  replace T4 := Lib.hid (T4.out.next HB.out)
  replace U4 := Lib.hid (U4.out.next HB.out)
  replace T5 := Lib.hid (RI.next HB.out T5.out)
  replace T6 := Lib.hid (RI.next HB.out T6.out)
  replace T7 := Lib.hid (T7.out.next HB.out)
  replace U7 := Lib.hid (U7.out.next HB.out)
  replace SB := Lib.hid (blk_next HB.out SB.out)
  replace S1 := Lib.hid (blk_next HB.out S1.out)
  replace S2 := Lib.hid (blk_next HB.out S2.out)
  replace S3 := Lib.hid (blk_next HB.out S3.out)
  replace S4 := Lib.hid (blk_next HB.out S4.out)
  clear HB
  have c_SB_0 := blk_cell SB.out 0 _ rfl
  have f_SB_0 := blk_frozen SB.out 0
  have c_SB_1 := blk_cell SB.out 1 _ rfl
  have f_SB_1 := blk_frozen SB.out 1
  have c_SB_2 := blk_cell SB.out 2 _ rfl
  have f_SB_2 := blk_frozen SB.out 2
  have c_SB_3 := blk_cell SB.out 3 _ rfl
  have f_SB_3 := blk_frozen SB.out 3
  have l_SB := blk_lt SB.out
  go_wp2_with fail
  clear c_SB_0 f_SB_0 c_SB_1 f_SB_1 c_SB_2 f_SB_2 c_SB_3 f_SB_3 l_SB
  generalize w15.alloc (.cells #[.int .i64 m1, .int .i64 m2, .slice A7 m3.length c7, .slice B7 m4.length d7] 25) = W16 at *
  generalize w15.heap.size = g16 at *
  refine (C8.out _ NN.out).mono ?_
  rintro e w17 ⟨v, u, rfl, ht, hu, hb⟩
  simp only at ht hu
  obtain ⟨A8, c8, rfl, k8a, k8b⟩ := ht.form
  obtain ⟨B8, d8, rfl, k8c, k8d⟩ := hu.form
  have T8 := Lib.hid ht.rd
  have U8 := Lib.hid hu.ro
  clear ht hu
  replace NN := Lib.hid (Bgo NN.out hb)
  replace T1 := Lib.hid (T1.out.next hb)
  replace U1 := Lib.hid (U1.out.next hb)
  replace T2 := Lib.hid (T2.out.next hb)
  replace U2 := Lib.hid (U2.out.next hb)
  replace T3 := Lib.hid (T3.out.next hb)
  replace U3 := Lib.hid (U3.out.next hb)
  replace T4 := Lib.hid (T4.out.next hb)
  replace U4 := Lib.hid (U4.out.next hb)
  replace T5 := Lib.hid (RI.next hb T5.out)
  replace T6 := Lib.hid (RI.next hb T6.out)
  replace T7 := Lib.hid (T7.out.next hb)
  replace U7 := Lib.hid (U7.out.next hb)
  replace SB := Lib.hid (blk_next hb SB.out)
  replace S1 := Lib.hid (blk_next hb S1.out)
  replace S2 := Lib.hid (blk_next hb S2.out)
  replace S3 := Lib.hid (blk_next hb S3.out)
  replace S4 := Lib.hid (blk_next hb S4.out)
  replace S7 := Lib.hid (blk_next hb S7.out)
  clear hb
  have HB : Hid (Below w17.heap.size w17 (w17.alloc (.cells #[.int .i64 m1, .int .i64 m2, .slice A8 m3.length c8, .slice B8 m4.length d8] 25))) := Lib.hid (Bal (Below.refl _ _) _)
  have S8 := Lib.hid (blk_new w17 (.cells #[.int .i64 m1, .int .i64 m2, .slice A8 m3.length c8, .slice B8 m4.length d8] 25))
  have LT_S8 : Hid (w.heap.size < w17.heap.size ∧ g6 < w17.heap.size ∧ g8 < w17.heap.size ∧ g10 < w17.heap.size ∧ g12 < w17.heap.size ∧ g16 < w17.heap.size ∧ w.heap.size ≤ w17.heap.size) := Lib.hid ⟨blk_lt SB.out, blk_lt S1.out, blk_lt S2.out, blk_lt S3.out, blk_lt S4.out, blk_lt S7.out, NN.out.size⟩
  replace NN := Lib.hid (Bgo NN.out HB.out)
  replace T1 := Lib.hid (T1.out.next HB.out)
  replace U1 := Lib.hid (U1.out.next HB.out)
  replace T2 := Lib.hid (T2.out.next HB.out)
  replace U2 := Lib.hid (U2.out.next HB.out)
  replace T3 := Lib.hid (T3.out.next HB.out)
  replace U3 := Lib.hid (U3.out.next HB.out)
  replace T4 := Lib.hid (T4.out.next HB.out)
  replace U4 := Lib.hid (U4.out.next HB.out)
  replace T5 := Lib.hid (RI.next HB.out T5.out)
  replace T6 := Lib.hid (RI.next HB.out T6.out)
  replace T7 := Lib.hid (T7.out.next HB.out)
  replace U7 := Lib.hid (U7.out.next HB.out)
  replace T8 := Lib.hid (T8.out.next HB.out)
  replace U8 := Lib.hid (U8.out.next HB.out)
  replace SB := Lib.hid (blk_next HB.out SB.out)
  replace S1 := Lib.hid (blk_next HB.out S1.out)
  replace S2 := Lib.hid (blk_next HB.out S2.out)
  replace S3 := Lib.hid (blk_next HB.out S3.out)
  replace S4 := Lib.hid (blk_next HB.out S4.out)
  replace S7 := Lib.hid (blk_next HB.out S7.out)
  clear HB
  have c_S1_0 := blk_cell S1.out 0 _ rfl
  have f_S1_0 := blk_frozen S1.out 0
  have c_S1_1 := blk_cell S1.out 1 _ rfl
  have f_S1_1 := blk_frozen S1.out 1
  have c_S1_2 := blk_cell S1.out 2 _ rfl
  have f_S1_2 := blk_frozen S1.out 2
  have c_S1_3 := blk_cell S1.out 3 _ rfl
  have f_S1_3 := blk_frozen S1.out 3
  have l_S1 := blk_lt S1.out
  have c_S2_0 := blk_cell S2.out 0 _ rfl
  have f_S2_0 := blk_frozen S2.out 0
  have c_S2_1 := blk_cell S2.out 1 _ rfl
  have f_S2_1 := blk_frozen S2.out 1
  have c_S2_2 := blk_cell S2.out 2 _ rfl
  have f_S2_2 := blk_frozen S2.out 2
  have c_S2_3 := blk_cell S2.out 3 _ rfl
  have f_S2_3 := blk_frozen S2.out 3
  have l_S2 := blk_lt S2.out
  go_wp2_with fail
  clear c_S1_0 f_S1_0 c_S1_1 f_S1_1 c_S1_2 f_S1_2 c_S1_3 f_S1_3 l_S1 c_S2_0 f_S2_0 c_S2_1 f_S2_1 c_S2_2 f_S2_2 c_S2_3 f_S2_3 l_S2
  generalize w17.alloc (.cells #[.int .i64 m1, .int .i64 m2, .slice A8 m3.length c8, .slice B8 m4.length d8] 25) = W18 at *
  generalize w17.heap.size = g18 at *
  refine (same_self f1 f2 A1 B1 c1 d1 _ f3 f4 A2 B2 c2 d2 _ _ k1a k1b k1c k1d T1.out U1.out k2a k2b k2c k2d T2.out U2.out).mono ?_
  rintro e w19 ⟨rfl, hb⟩
  replace NN := Lib.hid (Bgo NN.out hb)
  replace T1 := Lib.hid (T1.out.next hb)
  replace U1 := Lib.hid (U1.out.next hb)
  replace T2 := Lib.hid (T2.out.next hb)
  replace U2 := Lib.hid (U2.out.next hb)
  replace T3 := Lib.hid (T3.out.next hb)
  replace U3 := Lib.hid (U3.out.next hb)
  replace T4 := Lib.hid (T4.out.next hb)
  replace U4 := Lib.hid (U4.out.next hb)
  replace T5 := Lib.hid (RI.next hb T5.out)
  replace T6 := Lib.hid (RI.next hb T6.out)
  replace T7 := Lib.hid (T7.out.next hb)
  replace U7 := Lib.hid (U7.out.next hb)
  replace T8 := Lib.hid (T8.out.next hb)
  replace U8 := Lib.hid (U8.out.next hb)
  replace SB := Lib.hid (blk_next hb SB.out)
  replace S1 := Lib.hid (blk_next hb S1.out)
  replace S2 := Lib.hid (blk_next hb S2.out)
  replace S3 := Lib.hid (blk_next hb S3.out)
  replace S4 := Lib.hid (blk_next hb S4.out)
  replace S7 := Lib.hid (blk_next hb S7.out)
  replace S8 := Lib.hid (blk_next hb S8.out)
  clear hb
  have c_S3_0 := blk_cell S3.out 0 _ rfl
  have f_S3_0 := blk_frozen S3.out 0
  have c_S3_1 := blk_cell S3.out 1 _ rfl
  have f_S3_1 := blk_frozen S3.out 1
  have c_S3_2 := blk_cell S3.out 2 _ rfl
  have f_S3_2 := blk_frozen S3.out 2
  have c_S3_3 := blk_cell S3.out 3 _ rfl
  have f_S3_3 := blk_frozen S3.out 3
  have l_S3 := blk_lt S3.out
  have c_S4_0 := blk_cell S4.out 0 _ rfl
  have f_S4_0 := blk_frozen S4.out 0
  have c_S4_1 := blk_cell S4.out 1 _ rfl
  have f_S4_1 := blk_frozen S4.out 1
  have c_S4_2 := blk_cell S4.out 2 _ rfl
  have f_S4_2 := blk_frozen S4.out 2
  have c_S4_3 := blk_cell S4.out 3 _ rfl
  have f_S4_3 := blk_frozen S4.out 3
  have l_S4 := blk_lt S4.out
  go_wp2_with fail
  refine (same_self r1 r2 A3 B3 c3 d3 _ r3 r4 A4 B4 c4 d4 _ _ k3a k3b k3c k3d T3.out U3.out k4a k4b k4c k4d T4.out U4.out).mono ?_
  rintro e w20 ⟨rfl, hb⟩
  clear c_S3_0 f_S3_0 c_S3_1 f_S3_1 c_S3_2 f_S3_2 c_S3_3 f_S3_3 l_S3 c_S4_0 f_S4_0 c_S4_1 f_S4_1 c_S4_2 f_S4_2 c_S4_3 f_S4_3 l_S4
  replace NN := Lib.hid (Bgo NN.out hb)
  replace T1 := Lib.hid (T1.out.next hb)
  replace U1 := Lib.hid (U1.out.next hb)
  replace T2 := Lib.hid (T2.out.next hb)
  replace U2 := Lib.hid (U2.out.next hb)
  replace T3 := Lib.hid (T3.out.next hb)
  replace U3 := Lib.hid (U3.out.next hb)
  replace T4 := Lib.hid (T4.out.next hb)
  replace U4 := Lib.hid (U4.out.next hb)
  replace T5 := Lib.hid (RI.next hb T5.out)
  replace T6 := Lib.hid (RI.next hb T6.out)
  replace T7 := Lib.hid (T7.out.next hb)
  replace U7 := Lib.hid (U7.out.next hb)
  replace T8 := Lib.hid (T8.out.next hb)
  replace U8 := Lib.hid (U8.out.next hb)
  replace SB := Lib.hid (blk_next hb SB.out)
  replace S1 := Lib.hid (blk_next hb S1.out)
  replace S2 := Lib.hid (blk_next hb S2.out)
  replace S3 := Lib.hid (blk_next hb S3.out)
  replace S4 := Lib.hid (blk_next hb S4.out)
  replace S7 := Lib.hid (blk_next hb S7.out)
  replace S8 := Lib.hid (blk_next hb S8.out)
  clear hb
  go_wp2_with fail
  refine (ints_self A5 A6 c5 c6 _ _ sl _ k5a k5b T5.out k6a k6b T6.out).mono ?_
  rintro e w21 ⟨rfl, hb⟩
  replace NN := Lib.hid (Bgo NN.out hb)
  replace T1 := Lib.hid (T1.out.next hb)
  replace U1 := Lib.hid (U1.out.next hb)
  replace T2 := Lib.hid (T2.out.next hb)
  replace U2 := Lib.hid (U2.out.next hb)
  replace T3 := Lib.hid (T3.out.next hb)
  replace U3 := Lib.hid (U3.out.next hb)
  replace T4 := Lib.hid (T4.out.next hb)
  replace U4 := Lib.hid (U4.out.next hb)
  replace T5 := Lib.hid (RI.next hb T5.out)
  replace T6 := Lib.hid (RI.next hb T6.out)
  replace T7 := Lib.hid (T7.out.next hb)
  replace U7 := Lib.hid (U7.out.next hb)
  replace T8 := Lib.hid (T8.out.next hb)
  replace U8 := Lib.hid (U8.out.next hb)
  replace SB := Lib.hid (blk_next hb SB.out)
  replace S1 := Lib.hid (blk_next hb S1.out)
  replace S2 := Lib.hid (blk_next hb S2.out)
  replace S3 := Lib.hid (blk_next hb S3.out)
  replace S4 := Lib.hid (blk_next hb S4.out)
  replace S7 := Lib.hid (blk_next hb S7.out)
  replace S8 := Lib.hid (blk_next hb S8.out)
  clear hb
  have c_S7_0 := blk_cell S7.out 0 _ rfl
  have f_S7_0 := blk_frozen S7.out 0
  have c_S7_1 := blk_cell S7.out 1 _ rfl
  have f_S7_1 := blk_frozen S7.out 1
  have c_S7_2 := blk_cell S7.out 2 _ rfl
  have f_S7_2 := blk_frozen S7.out 2
  have c_S7_3 := blk_cell S7.out 3 _ rfl
  have f_S7_3 := blk_frozen S7.out 3
  have l_S7 := blk_lt S7.out
  have c_S8_0 := blk_cell S8.out 0 _ rfl
  have f_S8_0 := blk_frozen S8.out 0
  have c_S8_1 := blk_cell S8.out 1 _ rfl
  have f_S8_1 := blk_frozen S8.out 1
  have c_S8_2 := blk_cell S8.out 2 _ rfl
  have f_S8_2 := blk_frozen S8.out 2
  have c_S8_3 := blk_cell S8.out 3 _ rfl
  have f_S8_3 := blk_frozen S8.out 3
  have l_S8 := blk_lt S8.out
  go_wp2_with fail
  refine (same_self m1 m2 A7 B7 c7 d7 _ m3 m4 A8 B8 c8 d8 _ _ k7a k7b k7c k7d T7.out U7.out k8a k8b k8c k8d T8.out U8.out).mono ?_
  rintro e w22 ⟨rfl, hb⟩
  clear c_S7_0 f_S7_0 c_S7_1 f_S7_1 c_S7_2 f_S7_2 c_S7_3 f_S7_3 l_S7 c_S8_0 f_S8_0 c_S8_1 f_S8_1 c_S8_2 f_S8_2 c_S8_3 f_S8_3 l_S8
  replace NN := Lib.hid (Bgo NN.out hb)
  replace T1 := Lib.hid (T1.out.next hb)
  replace U1 := Lib.hid (U1.out.next hb)
  replace T2 := Lib.hid (T2.out.next hb)
  replace U2 := Lib.hid (U2.out.next hb)
  replace T3 := Lib.hid (T3.out.next hb)
  replace U3 := Lib.hid (U3.out.next hb)
  replace T4 := Lib.hid (T4.out.next hb)
  replace U4 := Lib.hid (U4.out.next hb)
  replace T5 := Lib.hid (RI.next hb T5.out)
  replace T6 := Lib.hid (RI.next hb T6.out)
  replace T7 := Lib.hid (T7.out.next hb)
  replace U7 := Lib.hid (U7.out.next hb)
  replace T8 := Lib.hid (T8.out.next hb)
  replace U8 := Lib.hid (U8.out.next hb)
  replace SB := Lib.hid (blk_next hb SB.out)
  replace S1 := Lib.hid (blk_next hb S1.out)
  replace S2 := Lib.hid (blk_next hb S2.out)
  replace S3 := Lib.hid (blk_next hb S3.out)
  replace S4 := Lib.hid (blk_next hb S4.out)
  replace S7 := Lib.hid (blk_next hb S7.out)
  replace S8 := Lib.hid (blk_next hb S8.out)
  clear hb
  go_wp2_with fail
  go_ret
  exact ⟨rfl, NN.out⟩
  
set_option maxRecDepth 100000 in
theorem lifted (os : Os) (started : os.Started) (H : Type) (enc : TypeId × Value → H) :
    ReturnsInHanded {} Try.checked os 6 .any (Rows.storeFailsSpec.pre6 enc Try.prog Try.f6 Rows.storeFailsRow.domain false) (Rows.storeFailsSpec.post enc Try.prog Try.f6 false true false false) := by
  refine returnsInHanded_of_change (C := Try.checked) own started (by kernel_rfl) Try.func6
    (ChangeSpec.witness6 (enc := enc) (C := Try.checked) false ⟨#[], #[.agg #[.int .i64 0, .int .i64 0, .slice none 0 0, .slice none 0 0], .int .i64 0, .int .i64 0], []⟩ 8 (by kernel_rfl) (by kernel_rfl) (by kernel_rfl) (by kernel_rfl)) ?_
  intro W base args ds gs before hval0 hW hcnd _
  have hval : ∀ (j : Nat) t v, Try.f6.params[j]? = some t → args[j]? = some v → Value.okWide Try.prog W .any base t v := hval0
  have hW' := hW
  obtain ⟨p, q, hA0, hV, rfl, hfz, hnd⟩ := hW
  have hA : DataW.TrodAll enc Try.prog W 0 (fun _ => true) true Try.f6.params.toList args.toList ds p := hA0
  rw [Try.params6] at hA hval
  obtain ⟨v0, vs0, d0, ds0, p0, q0, hargs, rfl, rfl, h0, r0⟩ := trodAll_cons hA
  obtain ⟨v1, vs1, d1, ds1, p1, q1, rfl, rfl, rfl, h1, r1⟩ := trodAll_cons r0
  obtain ⟨v2, vs2, d2, ds2, p2, q2, rfl, rfl, rfl, h2, r2⟩ := trodAll_cons r1
  obtain ⟨rfl, rfl, rfl⟩ := trodAll_nil r2
  obtain rfl : args = #[v0, v1, v2] := by cases args; simp_all
  obtain ⟨rfl, rfl⟩ := trodVars_none hV
  have k0 := h0
  have lt0 : ∀ x ∈ p0, x.block < W.heap.size := by obtain ⟨m, hm⟩ := k0; exact DataW.trod_lt m _ _ _ hm
  obtain ⟨c0_0, c1_0, c2_0, c3_0, y0_0, y1_0, y2_0, y3_0, m0, rfl, _, _, t0_0, t1_0, t2_0, t3_0⟩ := open_agg4 Try.underlying25 (by kernel_rfl) (show Try.prog.cellsOf 25 = 4 by kernel_rfl) (hval 0 25 v0 rfl rfl) h0
  obtain ⟨d, e0_0, _, wd⟩ := DataW.trod_int Try.underlying3 t0_0
  obtain ⟨p, e1_0, _, wp⟩ := DataW.trod_int Try.underlying3 t1_0
  obtain ⟨D, ds, cd, e2_0, hnd, hcd, hd⟩ := open_dks t2_0
  obtain ⟨A, obs, ca, e3_0, hna, hca, hs⟩ := open_obs t3_0
  simp only [List.cons.injEq, and_true] at e0_0 e1_0 e2_0 e3_0
  subst e0_0 e1_0 e2_0 e3_0
  have k1 := h1
  have lt1 : ∀ x ∈ p1, x.block < W.heap.size := by obtain ⟨m, hm⟩ := k1; exact DataW.trod_lt m _ _ _ hm
  obtain ⟨x, rfl, _, _, wx⟩ := open_int Try.underlying3 (hval 1 3 v1 rfl rfl) h1
  have k2 := h2
  have lt2 : ∀ x ∈ p2, x.block < W.heap.size := by obtain ⟨m, hm⟩ := k2; exact DataW.trod_lt m _ _ _ hm
  obtain ⟨y, rfl, _, _, wy⟩ := open_int Try.underlying3 (hval 2 3 v2 rfl rfl) h2
  clear hA0 hval0
  refine (walk d p D A cd ca 0 ds obs x y W hnd hcd hna hca hd hs).mono fun e W' ⟨he, bel⟩ => ?_
  subst he
  exact ⟨_, rfl, _, _, _, [], _, [], hW', trodAll_mk1 (shut_bool Try.underlying4 _), (trodAll_cons_mk (Below.trod laidOut (by kernel_rfl) (of_decide_eq_true (by kernel_rfl)) k0 bel lt0) (trodAll_cons_mk (Below.trod laidOut (by kernel_rfl) (of_decide_eq_true (by kernel_rfl)) k1 bel lt1) (trodAll_cons_mk (Below.trod laidOut (by kernel_rfl) (of_decide_eq_true (by kernel_rfl)) k2 bel lt2) trodAll_mk0))), rfl, bel.frame _, fun h => by cases h⟩

theorem over : Rows.storeFailsRow.holds Try.pinned (OpenSpec.ofChange Rows.storeFailsSpec) :=
  OpenClaim.holds_of_wide 6 Try.f6 rfl rfl rfl rfl rfl rfl rfl ⟨rfl, rfl, rfl, rfl, rfl⟩ rfl rfl rfl rfl rfl (by kernel_rfl) Try.func6 (by kernel_rfl)
    (of_decide_eq_true (by kernel_rfl)) (by unfold Func.isWrapper; first | (rw [if_pos (by decide +kernel)]; kernel_rfl) | (rw [if_neg (by decide +kernel)]; exact ⟨rfl, rfl⟩))
    (fun os started H enc _ => lifted os started H enc)

theorem proved : Rows.StoreFailsSaid := over
#print axioms proved
end Go.Proofs.Ytapehckcmmompaa.storeFails
